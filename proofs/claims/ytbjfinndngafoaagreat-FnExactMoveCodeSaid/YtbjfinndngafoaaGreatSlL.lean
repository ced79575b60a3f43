/-
  Elements with memory of their own, of any type: pairs of types, an element as a piece, rows that take elements in, a part of an element taken out for a while.
-/
import Derived.Test.YtbjfinndngafoaaGreatSlK
set_option linter.unusedVariables false
set_option linter.unusedSimpArgs false
namespace Go.Proofs.YtbjfinndngafoaaGreat
open Go.RowKit
def bind9 {α0 α1 α2 α3 α4 α5 α6 α7 α8 β : Type} (x : Option (α0 × α1 × α2 × α3 × α4 × α5 × α6 × α7 × α8)) (f : α0 → α1 → α2 → α3 → α4 → α5 → α6 → α7 → α8 → Option β) : Option β := x.bind fun z => f z.1 z.2.1 z.2.2.1 z.2.2.2.1 z.2.2.2.2.1 z.2.2.2.2.2.1 z.2.2.2.2.2.2.1 z.2.2.2.2.2.2.2.1 z.2.2.2.2.2.2.2.2
theorem bind9_elim {α0 α1 α2 α3 α4 α5 α6 α7 α8 β : Type} {x : Option (α0 × α1 × α2 × α3 × α4 × α5 × α6 × α7 × α8)} {f : α0 → α1 → α2 → α3 → α4 → α5 → α6 → α7 → α8 → Option β} {r : β} (h : bind9 x f = some r) : ∃ a0 a1 a2 a3 a4 a5 a6 a7 a8, x = some (a0, a1, a2, a3, a4, a5, a6, a7, a8) ∧ f a0 a1 a2 a3 a4 a5 a6 a7 a8 = some r := by
  obtain ⟨z, h1, h2⟩ := Option.bind_eq_some_iff.1 h
  exact ⟨_, _, _, _, _, _, _, _, _, h1, h2⟩
theorem some9 {α0 α1 α2 α3 α4 α5 α6 α7 α8 : Type} {a0 : α0} {a1 : α1} {a2 : α2} {a3 : α3} {a4 : α4} {a5 : α5} {a6 : α6} {a7 : α7} {a8 : α8} {b0 : α0} {b1 : α1} {b2 : α2} {b3 : α3} {b4 : α4} {b5 : α5} {b6 : α6} {b7 : α7} {b8 : α8} (h : some (a0, a1, a2, a3, a4, a5, a6, a7, a8) = some (b0, b1, b2, b3, b4, b5, b6, b7, b8)) : a0 = b0 ∧ a1 = b1 ∧ a2 = b2 ∧ a3 = b3 ∧ a4 = b4 ∧ a5 = b5 ∧ a6 = b6 ∧ a7 = b7 ∧ a8 = b8 := by cases h; exact ⟨rfl, rfl, rfl, rfl, rfl, rfl, rfl, rfl, rfl⟩
abbrev Ty.pair {α β : Type} (S : Ty α) (T : Ty β) : Ty (α × β) where
  Lay := S.Lay × T.Lay
  sz := S.sz + T.sz
  cells := fun l x => S.cells l.1 x.1 ++ T.cells l.2 x.2
  M := fun w q l x => ∃ q1 q2 : Nat → Prop, (∀ k, q1 k → q k) ∧ (∀ k, q2 k → q k) ∧ (∀ k, q1 k → ¬ q2 k) ∧ S.M w q1 l.1 x.1 ∧ T.M w q2 l.2 x.2
  K := fun w l x => S.K w l.1 x.1 ∧ T.K w l.2 x.2
  len := fun l x => by rw [List.length_append, S.len, T.len]
  one := fun l x u h => by
    rcases List.mem_append.1 h with h | h
    · exact S.one _ _ u h
    · exact T.one _ _ u h
  M_loc := fun ⟨q1, q2, h1, h2, hd, hs, ht⟩ hk => ⟨q1, q2, h1, h2, hd, S.M_loc hs (fun k h => hk k (h1 k h)), T.M_loc ht (fun k h => hk k (h2 k h))⟩
  M_more := fun ⟨q1, q2, h1, h2, r⟩ hk => ⟨q1, q2, fun k h => hk k (h1 k h), fun k h => hk k (h2 k h), r⟩
  K_of_M := fun ⟨_, _, _, _, _, hs, ht⟩ => ⟨S.K_of_M hs, T.K_of_M ht⟩
  K_below := fun hb h => ⟨S.K_below hb h.1, T.K_below hb h.2⟩
abbrev Ty.iso {α β : Type} (T : Ty β) (f : α → β) (n : Nat) (hn : T.sz = n) : Ty α where
  Lay := T.Lay
  sz := n
  cells := fun l x => T.cells l (f x)
  M := fun w q l x => T.M w q l (f x)
  K := fun w l x => T.K w l (f x)
  len := fun l x => by rw [T.len, hn]
  one := fun l x u h => T.one _ _ u h
  M_loc := fun h hk => T.M_loc h hk
  M_more := fun h hk => T.M_more h hk
  K_of_M := fun h => T.K_of_M h
  K_below := fun hb h => T.K_below hb h
def Elt {α : Type} (T : Ty α) (l : T.Lay) (x : α) : HObj where
  P := fun w q => T.M w q l x
  loc := fun h hk => T.M_loc h hk
  more := fun h hk => T.M_more h hk
section
variable {α β : Type} {S : Ty α} {T : Ty β} {w0 w : World} {L : List HObj} {s : S.Lay} {t : T.Lay} {x : α} {y : β}
end
theorem RdIn.box {α : Type} {T : Ty α} {w0 : World} {L : List HObj} {b j : Nat} {t : TypeId} {cs : List Value} {n : Nat} (ly : Nat → T.Lay) (xs : List α) (hj : L[j]? = some (Box b t cs)) (hc : rc T ly 0 xs = cs) (hx : xs.length = n) (hb : Nat.ble n 9223372036854775807 = true) (hk : ∀ i x, xs[i]? = some x → ∀ w, St w0 w L → T.K w (ly i) x) : RdIn w0 L T (some ⟨b, 0, none⟩) n ly xs := fun w hs =>
  ⟨Nat.le_of_eq hx, Nat.le_of_ble_eq_true hb, fun _ => ⟨b, 0, rfl⟩, fun j' u hu => by
    rw [ea_some, addr_off, Nat.zero_add]
    exact hs.boxCell hj (by rw [← hc]; exact hu), fun i x hx => hk i x hx w hs⟩
section
variable {α : Type} {T : Ty α} {w w' : World} {ly : Nat → T.Lay}
theorem SepM.cut : ∀ {xs ys : List α} {i : Nat} {q : Nat → Prop}, SepM T w ly i (xs ++ ys) q → ∃ q1 q2 : Nat → Prop, (∀ k, q1 k → q k) ∧ (∀ k, q2 k → q k) ∧ (∀ k, q1 k → ¬ q2 k) ∧ SepM T w ly i xs q1 ∧ SepM T w ly (i + xs.length) ys q2
  | [], ys, i, q, h => ⟨fun _ => False, q, fun _ h => h.elim, fun _ h => h, fun _ h => h.elim, trivial, h⟩
  | x :: r, ys, i, q, ⟨q0, q1, h0, h1, hd, hx, hs⟩ => by
    obtain ⟨p1, p2, g1, g2, gd, s1, s2⟩ := SepM.cut (xs := r) hs
    exact ⟨fun k => q0 k ∨ p1 k, p2, fun k hk => hk.elim (h0 k) (fun h => h1 k (g1 k h)), fun k hk => h1 k (g2 k hk), fun k hk hn => hk.elim (fun h => hd k h (g2 k hn)) (fun h => gd k h hn), ⟨q0, p1, fun k hk => .inl hk, fun k hk => .inr hk, fun k hk hn => hd k hk (g1 k hn), hx, s1⟩, by rw [List.length_cons, show i + (r.length + 1) = i + 1 + r.length by omega]; exact s2⟩
theorem SepM.join : ∀ {xs ys : List α} {i : Nat} {q1 q2 : Nat → Prop}, SepM T w ly i xs q1 → SepM T w ly (i + xs.length) ys q2 → (∀ k, q1 k → ¬ q2 k) → SepM T w ly i (xs ++ ys) (fun k => q1 k ∨ q2 k)
  | [], ys, i, q1, q2, _, h, _ => SepM.more h (fun k hk => .inr hk)
  | x :: r, ys, i, q1, q2, ⟨p0, p1, h0, h1, hd, hx, hs⟩, h, hdd => by
    have := SepM.join (xs := r) (ys := ys) (i := i + 1) hs (by rw [show i + 1 + r.length = i + (x :: r).length by simp only [List.length_cons]; omega]; exact h) (fun k hk => hdd k (h1 k hk))
    exact ⟨p0, fun k => p1 k ∨ q2 k, fun k hk => .inl (h0 k hk), fun k hk => hk.imp (h1 k) id, fun k hk hn => hn.elim (hd k hk) (hdd k (h0 k hk)), hx, this⟩
end
section
variable {α : Type} {T : Ty α} {P : Program} {N : Nat} {e : Env} {w0 w : World} {L : List HObj} {Q : Act → World → Prop} {ops : Array Oper} {i d : Nat} {rest : List Nat} {ty : TypeId} {ps : String} {af : Array Edge}
end
structure Fld {α β : Type} (T : Ty α) (S : Ty β) where
  get : α → β
  set : α → β → α
  lget : T.Lay → S.Lay
  R : T.Lay → α → HObj
  opn : ∀ {w : World} {q : Nat → Prop} {l : T.Lay} {x : α}, T.M w q l x → ∃ q1 q2 : Nat → Prop, (∀ k, q1 k → q k) ∧ (∀ k, q2 k → q k) ∧ (∀ k, q1 k → ¬ q2 k) ∧ S.M w q1 (lget l) (get x) ∧ (R l x).P w q2
  cls : ∀ {w : World} {q q1 q2 : Nat → Prop} {l : T.Lay} {x : α} {y : β}, (∀ k, q1 k → q k) → (∀ k, q2 k → q k) → (∀ k, q1 k → ¬ q2 k) → S.M w q1 (lget l) y → (R l x).P w q2 → T.M w q l (set x y)
def Fld.id {α : Type} {T : Ty α} : Fld T T where
  get := fun x => x
  set := fun _ y => y
  lget := fun l => l
  R := fun _ _ => Emp
  opn := fun {w q l x} h => ⟨q, fun _ => False, fun _ h => h, fun _ h => h.elim, fun _ _ h => h, h, trivial⟩
  cls := fun h1 _ _ hs _ => Ty.M_more _ hs h1
section
variable {α β : Type} {T : Ty α} {S : Ty β} {w0 w : World} {L : List HObj} {t : TypeId} {A : Option Addr} {c n : Nat} {ly : Nat → T.Lay} {xs : List α} {x : α} {y : β}
def Hole (F : Fld T S) (t : TypeId) (A : Option Addr) (c : Nat) (ly : Nat → T.Lay) (xs : List α) (n : Nat) (x : α) : HObj where
  P := fun w q => ∃ q1 qa qb qr : Nat → Prop, (∀ k, q1 k → q k) ∧ (∀ k, qa k → q k) ∧ (∀ k, qb k → q k) ∧ (∀ k, qr k → q k) ∧ (∀ k, q1 k → ¬ qa k ∧ ¬ qb k ∧ ¬ qr k) ∧ (∀ k, qa k → ¬ qb k ∧ ¬ qr k) ∧ (∀ k, qb k → ¬ qr k) ∧
    OR w t T.sz (.slice A xs.length c) xs.length (rc T ly 0 xs) ∧ (∀ k, (Value.slice A xs.length c).ownBlock = some k → q1 k) ∧ SepM T w ly 0 (xs.take n) qa ∧ SepM T w ly (n + 1) (xs.drop (n + 1)) qb ∧ (F.R (ly n) x).P w qr
  loc := fun ⟨q1, qa, qb, qr, h1, ha, hb, hr, d1, d2, d3, ho, hbl, sa, sb, r⟩ hk => ⟨q1, qa, qb, qr, h1, ha, hb, hr, d1, d2, d3, ho.loc (fun k h => hk k (h1 k (hbl k h))), hbl, sa.loc (fun k h => hk k (ha k h)), sb.loc (fun k h => hk k (hb k h)), (F.R (ly n) x).loc r (fun k h => hk k (hr k h))⟩
  more := fun ⟨q1, qa, qb, qr, h1, ha, hb, hr, r⟩ hk => ⟨q1, qa, qb, qr, fun k h => hk k (h1 k h), fun k h => hk k (ha k h), fun k h => hk k (hb k h), fun k h => hk k (hr k h), r⟩
theorem St.focus (F : Fld T S) (HS : St w0 w (Own T t A c ly xs :: L)) (hn : xs[n]? = some x) : St w0 w (Elt S (F.lget (ly n)) (F.get x) :: Hole F t A c ly xs n x :: L) := by
  obtain ⟨hb, q, r, hq, hr, hqr, ⟨q1, q2, h1, h2, hd, hown, hbl, hs⟩, hL⟩ := HS
  have hlt := (List.getElem?_eq_some_iff.1 hn).1
  have hx : xs = xs.take n ++ (x :: xs.drop (n + 1)) := by
    have h3 := (List.getElem?_eq_some_iff.1 hn).2
    rw [← h3, ← List.drop_eq_getElem_cons hlt, List.take_append_drop]
  have htl : (xs.take n).length = n := by rw [List.length_take]; omega
  rw [hx] at hs
  obtain ⟨qa, qc, ha, hc, hac, sa, sc⟩ := SepM.cut hs
  rw [htl, Nat.zero_add] at sc
  obtain ⟨p0, p1, c0, c1, cd, hM, sb⟩ := sc
  obtain ⟨e1, e2, f1, f2, fd, hS, hR⟩ := F.opn hM
  refine ⟨hb, e1, fun k => (q1 k ∨ qa k ∨ p1 k ∨ e2 k) ∨ r k, ?_, ?_, ?_, hS, fun k => q1 k ∨ qa k ∨ p1 k ∨ e2 k, r, fun k h => .inl h, fun k h => .inr h, ?_, ⟨q1, qa, p1, e2, fun k h => .inl h, fun k h => .inr (.inl h), fun k h => .inr (.inr (.inl h)), fun k h => .inr (.inr (.inr h)), ?_, ?_, ?_, hown, hbl, sa, sb, hR⟩, hL⟩
  · exact fun k h => hq k (h2 k (hc k (c0 k (f1 k h))))
  · rintro k ((h | h | h | h) | h)
    · exact hq k (h1 k h)
    · exact hq k (h2 k (ha k h))
    · exact hq k (h2 k (hc k (c1 k h)))
    · exact hq k (h2 k (hc k (c0 k (f2 k h))))
    · exact hr k h
  · intro k h hn
    rcases hn with (hn | hn | hn | hn) | hn
    · exact hd k hn (hc k (c0 k (f1 k h)))
    · exact hac k hn (c0 k (f1 k h))
    · exact cd k (f1 k h) hn
    · exact fd k h hn
    · exact hqr k (h2 k (hc k (c0 k (f1 k h)))) hn
  · intro k h hn
    rcases h with h | h | h | h
    · exact hqr k (h1 k h) hn
    · exact hqr k (h2 k (ha k h)) hn
    · exact hqr k (h2 k (hc k (c1 k h))) hn
    · exact hqr k (h2 k (hc k (c0 k (f2 k h)))) hn
  · exact fun k h => ⟨fun g => hd k h (ha k g), fun g => hd k h (hc k (c1 k g)), fun g => hd k h (hc k (c0 k (f2 k g)))⟩
  · exact fun k h => ⟨fun g => hac k h (c1 k g), fun g => hac k h (c0 k (f2 k g))⟩
  · exact fun k h g => cd k (f2 k g) h
theorem St.unfocus (F : Fld T S) (HS : St w0 w (Elt S (F.lget (ly n)) y :: Hole F t A c ly xs n x :: L)) (hn : xs[n]? = some x) (hc : T.cells (ly n) (F.set x y) = T.cells (ly n) x) : St w0 w (Own T t A c ly (xs.set n (F.set x y)) :: L) := by
  obtain ⟨hb, q, r, hq, hr, hqr, hS, q', r', hq', hr', hqr', ⟨q1, qa, qb, qe, h1, ha, hbb, he, d1, d2, d3, hown, hbl, sa, sb, hR⟩, hL⟩ := HS
  have hlt := (List.getElem?_eq_some_iff.1 hn).1
  have hx : xs.set n (F.set x y) = xs.take n ++ (F.set x y :: xs.drop (n + 1)) := by rw [List.set_eq_take_append_cons_drop, if_pos hlt]
  have htl : (xs.take n).length = n := by rw [List.length_take]; omega
  refine ⟨hb, fun k => q k ∨ q' k, r', fun k h => h.elim (hq k) (fun h => hr k (hq' k h)), fun k h => hr k (hr' k h), fun k h hn => h.elim (fun h => hqr k h (hr' k hn)) (fun h => hqr' k h hn), ⟨q1, fun k => qa k ∨ (q k ∨ qe k ∨ qb k), fun k h => .inr (h1 k h), ?_, ?_, ?_, by rw [List.length_set]; exact hbl, ?_⟩, hL⟩
  · rintro k (h | h | h | h)
    · exact .inr (ha k h)
    · exact .inl h
    · exact .inr (he k h)
    · exact .inr (hbb k h)
  · rintro k h (g | g | g | g)
    · exact (d1 k h).1 g
    · exact hqr k g (hq' k (h1 k h))
    · exact (d1 k h).2.2 g
    · exact (d1 k h).2.1 g
  · rw [List.length_set]
    have : rc T ly 0 (xs.set n (F.set x y)) = rc T ly 0 xs := by
      have e1 : rc T ly 0 xs = rc T ly 0 (xs.take n) ++ (T.cells (ly (0 + (xs.take n).length)) x ++ rc T ly (0 + (xs.take n).length + 1) (xs.drop (n + 1))) := by
        have h3 := (List.getElem?_eq_some_iff.1 hn).2
        have hxx : xs = xs.take n ++ (x :: xs.drop (n + 1)) := by rw [← h3, ← List.drop_eq_getElem_cons hlt, List.take_append_drop]
        conv => lhs; rw [hxx, rc_append]
        rfl
      rw [hx, rc_append, e1, htl, Nat.zero_add, ← hc]
      rfl
    rw [this]
    exact hown
  · rw [hx]
    refine SepM.join sa ?_ ?_
    · rw [htl, Nat.zero_add]
      exact ⟨fun k => q k ∨ qe k, qb, fun k h => h.elim .inl (fun h => .inr (.inl h)), fun k h => .inr (.inr h), fun k h g => h.elim (fun h => hqr k h (hq' k (hbb k g))) (fun h => d3 k g h), F.cls (fun k h => .inl h) (fun k h => .inr h) (fun k h g => hqr k h (hq' k (he k g))) hS hR, sb⟩
    · rintro k h (g | g | g)
      · exact hqr k g (hq' k (ha k h))
      · exact (d2 k h).2 g
      · exact (d2 k h).1 g
end
section
variable {α β : Type} {T : Ty α} {S : Ty β} {w0 w : World} {L : List HObj} {t u : TypeId} {A : Option Addr} {c n : Nat} {ly : Nat → T.Lay} {xs : List α} {x : α} {y : List β}
theorem St.focusO (F : Fld T (Ty.slice u S)) (hn : xs[n]? = some x) (HS : St w0 w (Own T t A c ly xs :: L)) : St w0 w (Own S u (F.lget (ly n)).A (F.lget (ly n)).c (F.lget (ly n)).ly (F.get x) :: Hole F t A c ly xs n x :: L) := St.focus F HS hn
theorem St.unfocusO (F : Fld T (Ty.slice u S)) (hn : xs[n]? = some x) (hc : T.cells (ly n) (F.set x y) = T.cells (ly n) x) (HS : St w0 w (Own S u (F.lget (ly n)).A (F.lget (ly n)).c (F.lget (ly n)).ly y :: Hole F t A c ly xs n x :: L)) : St w0 w (Own T t A c ly (xs.set n (F.set x y)) :: L) := St.unfocus F HS hn hc
end
section
variable {α : Type} {T : Ty α} {P : Program} {N : Nat} {e : Env} {w0 w : World} {L : List HObj} {Q : Act → World → Prop} {ops : Array Oper} {i d : Nat} {rest : List Nat} {ty : TypeId} {ps : String} {af : Array Edge}
end
end Go.Proofs.YtbjfinndngafoaaGreat
