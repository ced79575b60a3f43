/-
  Elements with memory of their own, of any type: pairs of types, an element as a piece, rows that take elements in, a part of an element taken out for a while.
-/
import Derived.Test.YtkmeepgpmppibaaGreatDoorSlK
set_option linter.unusedVariables false
set_option linter.unusedSimpArgs false
namespace Go.Proofs.YtkmeepgpmppibaaGreatDoor
open Go.RowKit
def Hf {α0 α1 α2 α3 α4 α5 α6 α7 α8 α9 α10 α11 β : Type} (x : Option (α0 × α1 × α2 × α3 × α4 × α5 × α6 × α7 × α8 × α9 × α10 × α11)) (f : α0 → α1 → α2 → α3 → α4 → α5 → α6 → α7 → α8 → α9 → α10 → α11 → Option β) : Option β := x.bind fun z => f z.1 z.2.1 z.2.2.1 z.2.2.2.1 z.2.2.2.2.1 z.2.2.2.2.2.1 z.2.2.2.2.2.2.1 z.2.2.2.2.2.2.2.1 z.2.2.2.2.2.2.2.2.1 z.2.2.2.2.2.2.2.2.2.1 z.2.2.2.2.2.2.2.2.2.2.1 z.2.2.2.2.2.2.2.2.2.2.2
theorem Jw {α0 α1 α2 α3 α4 α5 α6 α7 α8 α9 α10 α11 β : Type} {x : Option (α0 × α1 × α2 × α3 × α4 × α5 × α6 × α7 × α8 × α9 × α10 × α11)} {f : α0 → α1 → α2 → α3 → α4 → α5 → α6 → α7 → α8 → α9 → α10 → α11 → Option β} {r : β} (h : Hf x f = some r) : ∃ a0 a1 a2 a3 a4 a5 a6 a7 a8 a9 a10 a11, x = some (a0, a1, a2, a3, a4, a5, a6, a7, a8, a9, a10, a11) ∧ f a0 a1 a2 a3 a4 a5 a6 a7 a8 a9 a10 a11 = some r := by
  obtain ⟨z, h1, h2⟩ := Option.bind_eq_some_iff.1 h
  exact ⟨_, _, _, _, _, _, _, _, _, _, _, _, h1, h2⟩
theorem cK {α0 α1 α2 α3 α4 α5 α6 α7 α8 α9 α10 α11 : Type} {a0 : α0} {a1 : α1} {a2 : α2} {a3 : α3} {a4 : α4} {a5 : α5} {a6 : α6} {a7 : α7} {a8 : α8} {a9 : α9} {a10 : α10} {a11 : α11} {b0 : α0} {b1 : α1} {b2 : α2} {b3 : α3} {b4 : α4} {b5 : α5} {b6 : α6} {b7 : α7} {b8 : α8} {b9 : α9} {b10 : α10} {b11 : α11} (h : some (a0, a1, a2, a3, a4, a5, a6, a7, a8, a9, a10, a11) = some (b0, b1, b2, b3, b4, b5, b6, b7, b8, b9, b10, b11)) : a0 = b0 ∧ a1 = b1 ∧ a2 = b2 ∧ a3 = b3 ∧ a4 = b4 ∧ a5 = b5 ∧ a6 = b6 ∧ a7 = b7 ∧ a8 = b8 ∧ a9 = b9 ∧ a10 = b10 ∧ a11 = b11 := by cases h; exact ⟨rfl, rfl, rfl, rfl, rfl, rfl, rfl, rfl, rfl, rfl, rfl, rfl⟩
abbrev Ty.pair {α β : Type} (S : Ty α) (T : Ty β) : Ty (α × β) where
  Lay := S.Lay × T.Lay
  sz := S.sz + T.sz
  cells := fun l x => S.cells l.1 x.1 ++ T.cells l.2 x.2
  M := fun w q l x => ∃ q1 q2 : Nat → Prop, (∀ k, q1 k → q k) ∧ (∀ k, q2 k → q k) ∧ (∀ k, q1 k → ¬ q2 k) ∧ S.M w q1 l.1 x.1 ∧ T.M w q2 l.2 x.2
  K := fun w l x => S.K w l.1 x.1 ∧ T.K w l.2 x.2
  len := fun l x => by rw [List.length_append, S.len, T.len]
  one := fun l x u h => by
    rcases List.mem_append.1 h with h | h
    · exact S.one _ _ u h
    · exact T.one _ _ u h
  Q7 := fun ⟨q1, q2, h1, h2, hd, hs, ht⟩ hk => ⟨q1, q2, h1, h2, hd, S.Q7 hs (fun k h => hk k (h1 k h)), T.Q7 ht (fun k h => hk k (h2 k h))⟩
  Sm := fun ⟨q1, q2, h1, h2, r⟩ hk => ⟨q1, q2, fun k h => hk k (h1 k h), fun k h => hk k (h2 k h), r⟩
  Qx := fun ⟨_, _, _, _, _, hs, ht⟩ => ⟨S.Qx hs, T.Qx ht⟩
  Pt := fun hb h => ⟨S.Pt hb h.1, T.Pt hb h.2⟩
abbrev Ty.iso {α β : Type} (T : Ty β) (f : α → β) (n : Nat) (hn : T.sz = n) : Ty α where
  Lay := T.Lay
  sz := n
  cells := fun l x => T.cells l (f x)
  M := fun w q l x => T.M w q l (f x)
  K := fun w l x => T.K w l (f x)
  len := fun l x => by rw [T.len, hn]
  one := fun l x u h => T.one _ _ u h
  Q7 := fun h hk => T.Q7 h hk
  Sm := fun h hk => T.Sm h hk
  Qx := fun h => T.Qx h
  Pt := fun hb h => T.Pt hb h
def Elt {α : Type} (T : Ty α) (l : T.Lay) (x : α) : Cu where
  P := fun w q => T.M w q l x
  loc := fun h hk => T.Q7 h hk
  more := fun h hk => T.Sm h hk
section
variable {α β : Type} {S : Ty α} {T : Ty β} {w0 w : World} {L : List Cu} {s : S.Lay} {t : T.Lay} {x : α} {y : β}
theorem St.jP (h : St w0 w (Elt T t y :: Elt S s x :: L)) : St w0 w (Elt (Ty.pair S T) (s, t) (x, y) :: L) := by
  obtain ⟨hb, q, r, hq, hr, hqr, ho, q', r', hq', hr', hqr', ho', hL⟩ := h
  refine ⟨hb, fun k => q k ∨ q' k, r', fun k hk => hk.elim (hq k) (fun h => hr k (hq' k h)), fun k hk => hr k (hr' k hk), fun k hk hn => hk.elim (fun h => hqr k h (hr' k hn)) (fun h => hqr' k h hn), ?_, hL⟩
  exact ⟨q', q, fun k hk => .inr hk, fun k hk => .inl hk, fun k hk hn => hqr k hn (hq' k hk), ho', ho⟩
theorem St.iK (h : St w0 w (Elt T t y :: L)) (hf : Flat S) : St w0 w (Elt (Ty.pair S T) (s, t) (x, y) :: L) := by
  obtain ⟨hb, q, r, hq, hr, hqr, ho, hL⟩ := h
  exact ⟨hb, q, r, hq, hr, hqr, ⟨fun _ => False, q, fun _ h => h.elim, fun _ h => h, fun _ h => h.elim, hf _ _ _, ho⟩, hL⟩
end
theorem Aq.fld {α β : Type} {T : Ty α} {S : Ty β} {w0 : World} {L : List Cu} {A A' : Option Addr} {c c' : Nat} {ly : Nat → T.Lay} {ly' : Nat → S.Lay} {xs : List α} {ys : List β} {n : Nat} {x : α} (h : Aq w0 L T A c ly xs) (hn : xs[n]? = some x) (pr : ∀ w, T.K w (ly n) x → Rd S w A' c' ly' ys) : Aq w0 L S A' c' ly' ys :=
  fun w hs => pr w ((h w hs).2.2.2.2 n x hn)
theorem Aq.box {α : Type} {T : Ty α} {w0 : World} {L : List Cu} {b j : Nat} {t : TypeId} {cs : List Value} {n : Nat} (ly : Nat → T.Lay) (xs : List α) (hj : L[j]? = some (Box b t cs)) (hc : rc T ly 0 xs = cs) (hx : xs.length = n) (hb : Nat.ble n 9223372036854775807 = true) (hk : ∀ i x, xs[i]? = some x → ∀ w, St w0 w L → T.K w (ly i) x) : Aq w0 L T (some ⟨b, 0, none⟩) n ly xs := fun w hs =>
  ⟨Nat.le_of_eq hx, Nat.le_of_ble_eq_true hb, fun _ => ⟨b, 0, rfl⟩, fun j' u hu => by
    rw [Qi, Gt, Nat.zero_add]
    exact hs.Tt hj (by rw [← hc]; exact hu), fun i x hx => hk i x hx w hs⟩
theorem pR {α : Type} {p : Nat → α → Prop} : ∀ i x, ([] : List α)[i]? = some x → p i x := fun i x h => by simp at h
theorem U1 {α : Type} {p : Nat → α → Prop} {y : α} {r : List α} (h0 : p 0 y) (h : ∀ i x, r[i]? = some x → p (i + 1) x) : ∀ i x, (y :: r)[i]? = some x → p i x
  | 0, x, hx => by cases hx; exact h0
  | i + 1, x, hx => h i x (by simpa using hx)
section
variable {α : Type} {T : Ty α} {w w' : World} {ly : Nat → T.Lay}
theorem eF {l' : T.Lay} {y : α} : ∀ {xs : List α} {i n m : Nat}, n < xs.length → m = i + n → rc T (fun k => if k = m then l' else ly k) i (xs.set n y) = splice (rc T ly i xs) (n * T.sz) (T.cells l' y)
  | x :: r, i, 0, m, hn, hm => by
    obtain rfl : m = i := by omega
    have h1 : rc T (fun k => if k = m then l' else ly k) (m + 1) r = rc T ly (m + 1) r := Ph (fun k hk _ => by rw [if_neg (by omega)])
    rw [List.set_cons_zero, rc, rc, h1, if_pos rfl, Nat.zero_mul]
    unfold splice
    rw [List.take_zero, List.nil_append, Nat.zero_add, T.len, List.drop_append_of_le_length (by rw [T.len]; exact Nat.le_refl _), List.drop_of_length_le (by rw [T.len]; exact Nat.le_refl _), List.nil_append]
  | x :: r, i, n + 1, m, hn, hm => by
    have ih := eF (l' := l') (y := y) (xs := r) (i := i + 1) (n := n) (m := m) (by simp only [List.length_cons] at hn; omega) (by omega)
    rw [List.set_cons_succ, rc, rc, ih, if_neg (by omega)]
    have hl := T.len (ly i) x
    unfold splice
    have h1 : (n + 1) * T.sz = T.sz + n * T.sz := by rw [Nat.succ_mul]; omega
    rw [h1, List.take_append, List.drop_append, hl]
    have h2 : (T.cells (ly i) x).take (T.sz + n * T.sz) = T.cells (ly i) x := List.take_of_length_le (by omega)
    have h3 : (T.cells (ly i) x).drop (T.sz + n * T.sz + (T.cells l' y).length) = [] := List.drop_of_length_le (by omega)
    rw [h2, h3, show T.sz + n * T.sz - T.sz = n * T.sz by omega, show T.sz + n * T.sz + (T.cells l' y).length - T.sz = n * T.sz + (T.cells l' y).length by omega]
    simp only [List.append_assoc, List.nil_append]
theorem Gu.all {l0 : T.Lay} {z0 : α} (hz : ∀ w, T.M w (fun _ => False) l0 z0) : ∀ (n i : Nat) (q : Nat → Prop), Gu T w (fun _ => l0) i (List.replicate n z0) q
  | 0, _, _ => trivial
  | n + 1, i, q => ⟨fun _ => False, q, fun _ h => h.elim, fun _ h => h, fun _ h => h.elim, hz w, Gu.all hz n (i + 1) q⟩
theorem Gu.cut : ∀ {xs ys : List α} {i : Nat} {q : Nat → Prop}, Gu T w ly i (xs ++ ys) q → ∃ q1 q2 : Nat → Prop, (∀ k, q1 k → q k) ∧ (∀ k, q2 k → q k) ∧ (∀ k, q1 k → ¬ q2 k) ∧ Gu T w ly i xs q1 ∧ Gu T w ly (i + xs.length) ys q2
  | [], ys, i, q, h => ⟨fun _ => False, q, fun _ h => h.elim, fun _ h => h, fun _ h => h.elim, trivial, h⟩
  | x :: r, ys, i, q, ⟨q0, q1, h0, h1, hd, hx, hs⟩ => by
    obtain ⟨p1, p2, g1, g2, gd, s1, s2⟩ := Gu.cut (xs := r) hs
    exact ⟨fun k => q0 k ∨ p1 k, p2, fun k hk => hk.elim (h0 k) (fun h => h1 k (g1 k h)), fun k hk => h1 k (g2 k hk), fun k hk hn => hk.elim (fun h => hd k h (g2 k hn)) (fun h => gd k h hn), ⟨q0, p1, fun k hk => .inl hk, fun k hk => .inr hk, fun k hk hn => hd k hk (g1 k hn), hx, s1⟩, by rw [List.length_cons, show i + (r.length + 1) = i + 1 + r.length by omega]; exact s2⟩
theorem Gu.join : ∀ {xs ys : List α} {i : Nat} {q1 q2 : Nat → Prop}, Gu T w ly i xs q1 → Gu T w ly (i + xs.length) ys q2 → (∀ k, q1 k → ¬ q2 k) → Gu T w ly i (xs ++ ys) (fun k => q1 k ∨ q2 k)
  | [], ys, i, q1, q2, _, h, _ => Gu.more h (fun k hk => .inr hk)
  | x :: r, ys, i, q1, q2, ⟨p0, p1, h0, h1, hd, hx, hs⟩, h, hdd => by
    have := Gu.join (xs := r) (ys := ys) (i := i + 1) hs (by rw [show i + 1 + r.length = i + (x :: r).length by simp only [List.length_cons]; omega]; exact h) (fun k hk => hdd k (h1 k hk))
    exact ⟨p0, fun k => p1 k ∨ q2 k, fun k hk => .inl (h0 k hk), fun k hk => hk.imp (h1 k) id, fun k hk hn => hn.elim (hd k hk) (hdd k (h0 k hk)), hx, this⟩
end
section
variable {α : Type} {T : Ty α} {P : Program} {N : Nat} {e : Env} {w0 w : World} {L : List Cu} {Q : Act → World → Prop} {ops : Array Oper} {i d : Nat} {rest : List Nat} {ty : TypeId} {ps : String} {af : Array Edge}
theorem GO.iG {t el tb : TypeId} {x y : Operand} {A : Option Addr} {c b : Nat} {ly : Nat → T.Lay} {xs : List α} {z : Value} {bytes : Nat} (l : T.Lay) (y0 : α) (HS : St w0 w (Own T el A c ly xs :: Box b tb (T.cells l y0) :: Elt T l y0 :: L)) (ho : ops[i]? = some ⟨some d, .call { callee := .builtin .append, args := #[x, y], argTypes := #[t, t] }, ty, ps, af, none⟩) (hx : ev e x = some (.slice A xs.length c)) (hy : ev e y = some (.slice (some ⟨b, 0, none⟩) 1 1))
    (ht : P.underlying t = some (.slice el)) (hinf : (P.info? el).map (fun i => (i.zero, i.size, i.bytes)) = some (some z, T.sz, bytes)) (hz : (z.cells.size == T.sz) = true) (hs0 : Nat.blt 0 T.sz = true) (hb0 : Nat.blt 0 bytes = true) (hm : (xs.length + 1) * bytes ≤ 140737488355328) (hN : Nat.blt d N = true)
    (g : ∀ A' c' (ly' : Nat → T.Lay) w', St w0 w' (Own T el A' c' ly' (xs ++ [y0]) :: Box b tb (T.cells l y0) :: L) → GO P N ops rest ((d, .slice A' (xs ++ [y0]).length c') :: e) w' Q) : GO P N ops (i :: rest) e w Q := by
  obtain ⟨inf, hi, hzz⟩ := Option.map_eq_some_iff.1 hinf
  simp only [Prod.mk.injEq] at hzz
  obtain ⟨hz0, hz1, hz2⟩ := hzz
  have hs0' : 0 < T.sz := Nat.le_of_ble_eq_true hs0
  have hb0' : 0 < bytes := Nat.le_of_ble_eq_true hb0
  have hmm : xs.length + 1 ≤ 140737488355328 := Nat.le_trans (Nat.le_mul_of_pos_right _ hb0') hm
  obtain ⟨hbel, q, r, hq, hr, hqr, ⟨q1, q2, h1, h2, hd, hown, hb, hs⟩, qb, rb, hqb, hrb, hbd, ⟨hbq, hbx⟩, qe, re, hqe, hre, hed, hoe, hL⟩ := HS
  have hcells : ∀ m v, (T.cells l y0)[m]? = some v → w.cell? ((⟨b, 0, none⟩ : Addr).add m) = some v := fun m v hv => by
    rw [Gt, Nat.zero_add, cell_of_row w b m _ tb (0, 0) hbx]
    simpa using hv
  obtain ⟨v', w', hrn, hown', hg, hat⟩ := Ob (P := P) w t ty el inf z T.sz bytes ht hi hz0 hz1 hz2 (by simpa using hz) hs0' _ _ _ hown ⟨b, 0, none⟩ 1 1 (T.cells l y0) (by rw [T.len, Nat.one_mul]) hcells (fun v hv => T.one _ _ v hv) (by simp only [maxLen]; omega) hm
  obtain ⟨A', c', rfl⟩ := hown'.slice
  let ly' : Nat → T.Lay := fun k => if k = xs.length then l else ly k
  have hlen : xs.length + 1 = (xs ++ [y0]).length := by simp
  have hcg : rc T ly 0 xs = rc T ly' 0 xs := Ph (fun k _ hk => by simp only [ly']; rw [if_neg (by omega)])
  have hrc : rc T ly 0 xs ++ T.cells l y0 = rc T ly' 0 (xs ++ [y0]) := by
    refine (congrArg (· ++ T.cells l y0) hcg).trans ((G7 (T := T) (ly := ly') 0 xs [y0]).trans ?_).symm
    refine congrArg (rc T ly' 0 xs ++ ·) ?_
    simp [rc, ly']
  rw [hrc, hlen] at hown'
  rw [hlen] at hrn hat
  refine GO.val _ ho rfl rfl hN (fun a hs => by simp only [execOp, resolve, invoke, builtin, Sem.run_bind, Sem.run_pure, Result.andThen_ok, List.map_toArray, List.map_cons, List.map_nil, hs.ev hx, hs.ev hy, hrn]) (g A' c' ly' w' ?_)
  have hkeep : ∀ k, k < w.heap.size → ¬ q1 k → w'.heap[k]? = w.heap[k]? := fun k hk hn => hg.block k hk (fun e => hn (hb k e.symm))
  have hlt := hown'.lt
  have hgs := hg.size
  have hB := hbel.size
  refine ⟨hbel.trans ⟨hg.os, hg.tape, hg.output, hg.size, fun k hk => hkeep k (Nat.lt_of_lt_of_le hk hbel.size) (fun hk1 => by have := hq k (h1 k hk1); omega)⟩, fun k => q k ∨ qe k ∨ (w.heap.size ≤ k ∧ k < w'.heap.size), fun k => qb k ∨ re k, ?_, ?_, ?_, ⟨fun k => q1 k ∨ (w.heap.size ≤ k ∧ k < w'.heap.size), fun k => q2 k ∨ qe k, ?_, ?_, ?_, hown', ?_, ?_⟩, qb, re, fun k hk => .inl hk, fun k hk => .inr hk, ?_, ⟨hbq, ?_⟩, ?_⟩
  · intro k hk
    rcases hk with hk | hk | hk
    · have := hq k hk; omega
    · have := hr k (hrb k (hqe k hk)); omega
    · omega
  · intro k hk
    rcases hk with hk | hk
    · have := hr k (hqb k hk); omega
    · have := hr k (hrb k (hre k hk)); omega
  · intro k hk hn
    rcases hk with hk | hk | hk
    · rcases hn with hn | hn
      · exact hqr k hk (hqb k hn)
      · exact hqr k hk (hrb k (hre k hn))
    · rcases hn with hn | hn
      · exact hbd k hn (hqe k hk)
      · exact hed k hk hn
    · rcases hn with hn | hn
      · have := hr k (hqb k hn); omega
      · have := hr k (hrb k (hre k hn)); omega
  · intro k hk
    rcases hk with hk | hk
    · exact .inl (h1 k hk)
    · exact .inr (.inr hk)
  · intro k hk
    rcases hk with hk | hk
    · exact .inl (h2 k hk)
    · exact .inr (.inl hk)
  · intro k hk hn
    rcases hk with hk | hk
    · rcases hn with hn | hn
      · exact hd k hk hn
      · exact hqr k (h1 k hk) (hrb k (hqe k hn))
    · rcases hn with hn | hn
      · have := hq k (h2 k hn); omega
      · have := hr k (hrb k (hqe k hn)); omega
  · intro k hk
    rcases hat k hk with e | e
    · exact .inl (hb k e)
    · exact .inr ⟨e, hlt k hk⟩
  · have hlocq : ∀ k, q2 k → w'.heap[k]? = w.heap[k]? := fun k hk => hkeep k (by have := hq k (h2 k hk); omega) (fun h => hd k h hk)
    have hloce : ∀ k, qe k → w'.heap[k]? = w.heap[k]? := fun k hk => hkeep k (by have := hr k (hrb k (hqe k hk)); omega) (fun h => hqr k (h1 k h) (hrb k (hqe k hk)))
    have h5 : Gu T w' ly' 0 xs q2 := (hs.loc hlocq).congr (fun k _ hk => by simp only [ly']; rw [if_neg (by omega)])
    refine Gu.snoc h5 ?_ (fun k hk hn => hqr k (h2 k hk) (hrb k (hqe k hn)))
    show T.M w' qe (if 0 + xs.length = xs.length then l else ly (0 + xs.length)) y0
    rw [if_pos (by omega)]
    exact T.Q7 hoe hloce
  · intro k hk hn
    exact hbd k hk (hre k hn)
  · rw [hkeep b (by have := hr b (hqb b hbq); omega) (fun h => hqr b (h1 b h) (hqb b hbq))]
    exact hbx
  · exact hL.loc (fun k hk => hkeep k (by have := hr k (hrb k (hre k hk)); omega) (fun h => hqr k (h1 k h) (hrb k (hre k hk))))
theorem GO.xN {t el : TypeId} {x y : Operand} {kl kc : IntKind} {m : Int} {z : Value} {bytes : Nat} (z0 : α) (l : T.Lay) (HS : St w0 w L) (hfl : ∀ w, T.M w (fun _ => False) l z0) (ho : ops[i]? = some ⟨some d, .makeSlice t x y, ty, ps, af, none⟩) (hx : ev e x = some (.int kl m)) (hy : ev e y = some (.int kc m)) (ht : P.underlying t = some (.slice el)) (hinf : (P.info? el).map (fun i => (i.zero, i.size, i.bytes)) = some (some z, T.sz, bytes)) (hz : z.cells = (T.cells l z0).toArray) (hs0 : Nat.blt 0 T.sz = true) (hb0 : Nat.blt 0 bytes = true)
    (h0 : 0 ≤ m) (hm : m.toNat * bytes ≤ 281474976710656) (hN : Nat.blt d N = true)
    (g : ∀ b w', St w0 w' (Own T el (some ⟨b, 0, none⟩) m.toNat (fun _ => l) (List.replicate m.toNat z0) :: L) → GO P N ops rest ((d, .slice (some ⟨b, 0, none⟩) (List.replicate m.toNat z0).length m.toNat) :: e) w' Q) : GO P N ops (i :: rest) e w Q := by
  simp only [List.length_replicate] at g
  obtain ⟨inf, hi, hzz⟩ := Option.map_eq_some_iff.1 hinf
  simp only [Prod.mk.injEq] at hzz
  obtain ⟨hz0, hz1, hz2⟩ := hzz
  have hs0' : 0 < T.sz := Nat.le_of_ble_eq_true hs0
  have hb0' : 0 < bytes := Nat.le_of_ble_eq_true hb0
  have hmm : m.toNat ≤ 281474976710656 := Nat.le_trans (Nat.le_mul_of_pos_right _ hb0') hm
  have hbm : (inf.bytes : Int) * m ≤ 281474976710656 := by
    have h3 : ((m.toNat * bytes : Nat) : Int) ≤ 281474976710656 := by omega
    rw [Int.natCast_mul, Int.toNat_of_nonneg h0, Int.mul_comm] at h3
    rw [hz2]
    exact h3
  have hrun := run_make (P := P) w t el inf z ht hi hz0 kl kc m m h0 (Int.le_refl _) hbm (by omega)
  refine GO.val (w' := w.alloc (.cells (madeCells z.cells (m.toNat * inf.size)) el)) _ ho rfl rfl hN (fun a hs => by simp [execOp, hs.ev hx, hs.ev hy, hrun]) (g w.heap.size _ ?_)
  rw [hz1, hz]
  have hlen : (T.cells l z0).length = T.sz := T.len l z0
  have hcl : (madeCells (T.cells l z0).toArray (m.toNat * T.sz)).toList = rc T (fun _ => l) 0 (List.replicate m.toNat z0) := by
    rw [Ns, ← hlen]
    exact Lv _ (by rw [hlen]; exact hs0') _
  have h1 := (HS.alloc (rc T (fun _ => l) 0 (List.replicate m.toNat z0)) el).eG (j := 0) rfl (fun q => Gu.all hfl _ _ q) rfl (by simp; omega)
  rw [← hcl] at h1
  simpa using h1
theorem GO.stE {t tb : TypeId} {x y : Operand} {A : Option Addr} {c n : Nat} {ly : Nat → T.Lay} {xs : List α} {v : Value} (l' : T.Lay) (y0 : α) (HS : St w0 w (Own T tb A c ly xs :: Elt T l' y0 :: L)) (ho : ops[i]? = some ⟨none, .store t x y, ty, ps, af, none⟩) (hx : ev e x = some (.pointer (some (ea A (n * T.sz))))) (hy : ev e y = some v) (hv : v.cells = (T.cells l' y0).toArray)
    (ht : (naB P t && (T.cells l' y0).length == 1 || agB P t (T.cells l' y0).length) = true) (hs0 : Nat.blt 0 T.sz = true) (hn : n < xs.length)
    (g : ∀ (ly' : Nat → T.Lay) w', St w0 w' (Own T tb A c ly' (xs.set n y0) :: L) → GO P N ops rest e w' Q) : GO P N ops (i :: rest) e w Q := by
  have hsz0 : (sizeOf t).run P w = .ok (T.cells l' y0).length w := by
    rw [Bool.or_eq_true, Bool.and_eq_true, beq_iff_eq] at ht
    rcases ht with ht | ht
    · rw [ht.2]; exact Ov ht.1
    · exact N8 ht
  have hs0' : 0 < T.sz := Nat.le_of_ble_eq_true hs0
  have hcsz := T.len l' y0
  obtain ⟨hbel, q, r, hq, hr, hqr, ⟨q1, q2, h1, h2, hd, hown, hb, hs⟩, qe, re, hqe, hre, hed, hoe, hL⟩ := HS
  obtain ⟨gb, og, cur, hA, hh, hnc, hcm, hsz, htk⟩ := hown.open (by omega)
  subst hA
  have hg1 : q1 gb := hb gb rfl
  have hmul : (n + 1) * T.sz ≤ xs.length * T.sz := Nat.mul_le_mul_right _ hn
  rw [Nat.succ_mul] at hmul
  have hput := hown.put (k := n * T.sz) (vs := T.cells l' y0) hh (by rw [D8]; omega)
  have hea : ea (some ⟨gb, og, none⟩) (n * T.sz) = ⟨gb, og + n * T.sz, none⟩ := by rw [Qi, Gt]
  rw [hea] at hx
  refine GO.Rt (w' := w.setRow gb (splice cur.toList (og + n * T.sz) (T.cells l' y0)).toArray) ho rfl rfl (fun a hs => by simp [execOp, Instr.storeAt, Instr.sureAddr, hs.ev hx, hs.ev hy, Qh (v := v) (vs := T.cells l' y0) hv hsz0 hh (fun u hu => T.one _ _ u hu) hput.1]) (g (fun k => if k = n then l' else ly k) _ ?_)
  have hkeep : ∀ k, k ≠ gb → (w.setRow gb (splice cur.toList (og + n * T.sz) (T.cells l' y0)).toArray).heap[k]? = w.heap[k]? := fun k hk => setRow_other w gb k _ hk
  have hqg := hq gb (h1 gb hg1)
  refine ⟨hbel.trans ⟨rfl, rfl, rfl, by simp, fun k hk => hkeep k (by omega)⟩, fun k => q k ∨ qe k, re, ?_, ?_, ?_, ⟨q1, fun k => q2 k ∨ qe k, ?_, ?_, ?_, ?_, ?_, ?_⟩, ?_⟩
  · intro k hk
    simp only [size_setRow]
    rcases hk with hk | hk
    · exact hq k hk
    · exact hr k (hqe k hk)
  · intro k hk
    simp only [size_setRow]
    exact hr k (hre k hk)
  · intro k hk hn
    rcases hk with hk | hk
    · exact hqr k hk (hre k hn)
    · exact hed k hk hn
  · exact fun k hk => .inl (h1 k hk)
  · intro k hk
    rcases hk with hk | hk
    · exact .inl (h2 k hk)
    · exact .inr hk
  · intro k hk hn
    rcases hn with hn | hn
    · exact hd k hk hn
    · exact hqr k (h1 k hk) (hqe k hn)
  · rw [List.length_set, eF (l' := l') hn (by omega)]
    exact hput.2
  · rw [List.length_set]; exact hb
  · have hlocq : ∀ k, q2 k → (w.setRow gb (splice cur.toList (og + n * T.sz) (T.cells l' y0)).toArray).heap[k]? = w.heap[k]? := fun k hk => hkeep k (fun e => hd gb hg1 (by rw [← e]; exact hk))
    have hloce : ∀ k, qe k → (w.setRow gb (splice cur.toList (og + n * T.sz) (T.cells l' y0)).toArray).heap[k]? = w.heap[k]? := fun k hk => hkeep k (fun e => hqr gb (h1 gb hg1) (hqe gb (by rw [← e]; exact hk)))
    exact Gu.set (l' := l') (hs.loc hlocq) hn (by omega) (T.Q7 hoe hloce) (fun k hk hn => hqr k (h2 k hk) (hqe k hn))
  · exact hL.loc (fun k hk => hkeep k (fun e => hqr gb (h1 gb hg1) (hre gb (by rw [← e]; exact hk))))
theorem GO.stK {t tb : TypeId} {x y : Operand} {A : Option Addr} {c j n o : Nat} {ly : Nat → T.Lay} {xs : List α} {x0 : α} {vs : List Value} {v : Value} (y0 : α) (HS : St w0 w L) (hj : L[j]? = some (Own T tb A c ly xs)) (hM : ∀ w q, T.M w q (ly n) x0 → T.M w q (ly n) y0) (ho : ops[i]? = some ⟨none, .store t x y, ty, ps, af, none⟩) (hx : ev e x = some (.pointer (some (ea A (n * T.sz + o))))) (hy : ev e y = some v) (hv : v.cells = vs.toArray)
    (ht : (naB P t && vs.length == 1 || agB P t vs.length) = true) (h1 : vs.all (·.oneCell') = true) (hn : xs[n]? = some x0) (hl : Nat.ble (o + vs.length) T.sz = true) (hc : T.cells (ly n) y0 = splice (T.cells (ly n) x0) o vs)
    (g : ∀ w', St w0 w' (L.set j (Own T tb A c ly (xs.set n y0))) → GO P N ops rest e w' Q) : GO P N ops (i :: rest) e w Q := by
  have hszt : (sizeOf t).run P w = .ok vs.length w := by
    rw [Bool.or_eq_true, Bool.and_eq_true, beq_iff_eq] at ht
    rcases ht with ht | ht
    · rw [ht.2]; exact Ov ht.1
    · exact N8 ht
  have hf : o + vs.length ≤ T.sz := Nat.le_of_ble_eq_true hl
  have hnl := (List.getElem?_eq_some_iff.1 hn).1
  obtain ⟨q, _, ho1⟩ := HS.get hj
  obtain ⟨q1, q2, a1, a2, ad, hown, hb, hs⟩ := ho1
  obtain ⟨gb, og, cur, hA, hh, hnc, hcm, hsz, htk⟩ := hown.open (by omega)
  subst hA
  have hmul : (n + 1) * T.sz ≤ xs.length * T.sz := Nat.mul_le_mul_right _ hnl
  rw [Nat.succ_mul] at hmul
  have hput := hown.put (k := n * T.sz + o) (vs := vs) hh (by rw [D8]; omega)
  have hea : ea (some ⟨gb, og, none⟩) (n * T.sz + o) = ⟨gb, og + (n * T.sz + o), none⟩ := by rw [Qi, Gt]
  rw [hea] at hx
  refine GO.Rt (w' := w.setRow gb (splice cur.toList (og + (n * T.sz + o)) vs).toArray) ho rfl rfl (fun a hs => by simp [execOp, Instr.storeAt, Instr.sureAddr, hs.ev hx, hs.ev hy, Qh hv hszt hh (fun u hu => List.all_eq_true.1 h1 u hu) hput.1]) (g _ ?_)
  refine HS.upd hj (by simp) rfl rfl rfl (fun q ho => ?_)
  obtain ⟨q1, q2, b1, b2, hd, hown, hb, hs⟩ := ho
  have hg : q1 gb := hb gb rfl
  have hloc : ∀ k, q2 k → (w.setRow gb (splice cur.toList (og + (n * T.sz + o)) vs).toArray).heap[k]? = w.heap[k]? := fun k hk => setRow_other w gb k _ (fun e => hd gb hg (by rw [← e]; exact hk))
  have hs' := hs.loc hloc
  refine ⟨q, fun k hk => .inl hk, ⟨q1, q2, b1, b2, hd, ?_, by rw [List.length_set]; exact hb, ?_⟩, fun k hk hn => setRow_other w gb k _ (fun e => hn (by rw [e]; exact b1 gb hg))⟩
  · rw [List.length_set, Ui hn hf (by rw [Nat.zero_add]; exact hc)]
    exact hput.2
  · have hgo : ∀ {xs : List α} {i n : Nat} {q : Nat → Prop} {w : World}, Gu T w ly i xs q → xs[n]? = some x0 → (∀ q, T.M w q (ly (i + n)) x0 → T.M w q (ly (i + n)) y0) → Gu T w ly i (xs.set n y0) q := by
      intro xs
      induction xs with
      | nil => intro i n q w _ h; simp at h
      | cons z r ih =>
        intro i n q w hs hn hM
        obtain ⟨p0, p1, c0, c1, cd, hx, hr⟩ := hs
        cases n with
        | zero => cases hn; exact ⟨p0, p1, c0, c1, cd, hM _ hx, hr⟩
        | succ n => exact ⟨p0, p1, c0, c1, cd, hx, ih hr (by simpa using hn) (by rw [show i + 1 + n = i + (n + 1) by omega]; exact hM)⟩
    exact hgo hs' hn (fun q h => by rw [Nat.zero_add] at h ⊢; exact hM _ _ h)
end
structure Fld {α β : Type} (T : Ty α) (S : Ty β) where
  get : α → β
  set : α → β → α
  Qv : T.Lay → S.Lay
  R : T.Lay → α → Cu
  opn : ∀ {w : World} {q : Nat → Prop} {l : T.Lay} {x : α}, T.M w q l x → ∃ q1 q2 : Nat → Prop, (∀ k, q1 k → q k) ∧ (∀ k, q2 k → q k) ∧ (∀ k, q1 k → ¬ q2 k) ∧ S.M w q1 (Qv l) (get x) ∧ (R l x).P w q2
  cls : ∀ {w : World} {q q1 q2 : Nat → Prop} {l : T.Lay} {x : α} {y : β}, (∀ k, q1 k → q k) → (∀ k, q2 k → q k) → (∀ k, q1 k → ¬ q2 k) → S.M w q1 (Qv l) y → (R l x).P w q2 → T.M w q l (set x y)
def Fld.id {α : Type} {T : Ty α} : Fld T T where
  get := fun x => x
  set := fun _ y => y
  Qv := fun l => l
  R := fun _ _ => Emp
  opn := fun {w q l x} h => ⟨q, fun _ => False, fun _ h => h, fun _ h => h.elim, fun _ _ h => h, h, trivial⟩
  cls := fun h1 _ _ hs _ => Ty.Sm _ hs h1
def Two (o p : Cu) : Cu where
  P := fun w q => ∃ q1 q2 : Nat → Prop, (∀ k, q1 k → q k) ∧ (∀ k, q2 k → q k) ∧ (∀ k, q1 k → ¬ q2 k) ∧ o.P w q1 ∧ p.P w q2
  loc := fun ⟨q1, q2, h1, h2, hd, a, b⟩ hk => ⟨q1, q2, h1, h2, hd, o.loc a (fun k h => hk k (h1 k h)), p.loc b (fun k h => hk k (h2 k h))⟩
  more := fun ⟨q1, q2, h1, h2, r⟩ hk => ⟨q1, q2, fun k h => hk k (h1 k h), fun k h => hk k (h2 k h), r⟩
def Fld.fst {α β γ : Type} {S : Ty α} {T : Ty β} {U : Ty γ} (F : Fld S U) : Fld (Ty.pair S T) U where
  get := fun x => F.get x.1
  set := fun x y => (F.set x.1 y, x.2)
  Qv := fun l => F.Qv l.1
  R := fun l x => Two (F.R l.1 x.1) (Elt T l.2 x.2)
  opn := fun ⟨q1, q2, h1, h2, hd, hs, ht⟩ => by
    obtain ⟨p1, p2, g1, g2, gd, hu, hr⟩ := F.opn hs
    exact ⟨p1, fun k => p2 k ∨ q2 k, fun k h => h1 k (g1 k h), fun k h => h.elim (fun h => h1 k (g2 k h)) (h2 k), fun k h hn => hn.elim (gd k h) (hd k (g1 k h)), hu, p2, q2, fun k h => .inl h, fun k h => .inr h, fun k h hn => hd k (g2 k h) hn, hr, ht⟩
  cls := fun {w q q1 q2 l x y} h1 h2 hd hu ⟨p1, p2, g1, g2, gd, hr, ht⟩ =>
    ⟨fun k => q1 k ∨ p1 k, p2, fun k h => h.elim (h1 k) (fun h => h2 k (g1 k h)), fun k h => h2 k (g2 k h), fun k h hn => h.elim (fun h => hd k h (g2 k hn)) (fun h => gd k h hn), F.cls (fun k h => .inl h) (fun k h => .inr h) (fun k h hn => hd k h (g1 k hn)) hu hr, ht⟩
def Fld.snd {α β γ : Type} {S : Ty α} {T : Ty β} {U : Ty γ} (F : Fld T U) : Fld (Ty.pair S T) U where
  get := fun x => F.get x.2
  set := fun x y => (x.1, F.set x.2 y)
  Qv := fun l => F.Qv l.2
  R := fun l x => Two (F.R l.2 x.2) (Elt S l.1 x.1)
  opn := fun ⟨q1, q2, h1, h2, hd, hs, ht⟩ => by
    obtain ⟨p1, p2, g1, g2, gd, hu, hr⟩ := F.opn ht
    exact ⟨p1, fun k => p2 k ∨ q1 k, fun k h => h2 k (g1 k h), fun k h => h.elim (fun h => h2 k (g2 k h)) (h1 k), fun k h hn => hn.elim (gd k h) (fun h' => hd k h' (g1 k h)), hu, p2, q1, fun k h => .inl h, fun k h => .inr h, fun k h hn => hd k hn (g2 k h), hr, hs⟩
  cls := fun {w q q1 q2 l x y} h1 h2 hd hu ⟨p1, p2, g1, g2, gd, hr, hs⟩ =>
    ⟨p2, fun k => q1 k ∨ p1 k, fun k h => h2 k (g2 k h), fun k h => h.elim (h1 k) (fun h => h2 k (g1 k h)), fun k h hn => hn.elim (fun h' => hd k h' (g2 k h)) (fun h' => gd k h' h), hs, F.cls (fun k h => .inl h) (fun k h => .inr h) (fun k h hn => hd k h (g1 k hn)) hu hr⟩
def Fld.iso {α β γ : Type} {T : Ty β} {U : Ty γ} (F : Fld T U) {f : α → β} {n : Nat} {hn : T.sz = n} (g : α → γ → α) (hg : ∀ x y, f (g x y) = F.set (f x) y) : Fld (Ty.iso T f n hn) U where
  get := fun x => F.get (f x)
  set := g
  Qv := F.Qv
  R := fun l x => F.R l (f x)
  opn := fun h => F.opn h
  cls := fun {w q q1 q2 l x y} h1 h2 hd hu hr => by
    show T.M w q l (f (g x y))
    rw [hg]
    exact F.cls h1 h2 hd hu hr
section
variable {α β : Type} {T : Ty α} {S : Ty β} {w0 w : World} {L : List Cu} {t : TypeId} {A : Option Addr} {c n : Nat} {ly : Nat → T.Lay} {xs : List α} {x : α} {y : β}
def qY (F : Fld T S) (t : TypeId) (A : Option Addr) (c : Nat) (ly : Nat → T.Lay) (xs : List α) (n : Nat) (x : α) : Cu where
  P := fun w q => ∃ q1 qa qb qr : Nat → Prop, (∀ k, q1 k → q k) ∧ (∀ k, qa k → q k) ∧ (∀ k, qb k → q k) ∧ (∀ k, qr k → q k) ∧ (∀ k, q1 k → ¬ qa k ∧ ¬ qb k ∧ ¬ qr k) ∧ (∀ k, qa k → ¬ qb k ∧ ¬ qr k) ∧ (∀ k, qb k → ¬ qr k) ∧
    OR w t T.sz (.slice A xs.length c) xs.length (rc T ly 0 xs) ∧ (∀ k, (Value.slice A xs.length c).ownBlock = some k → q1 k) ∧ Gu T w ly 0 (xs.take n) qa ∧ Gu T w ly (n + 1) (xs.drop (n + 1)) qb ∧ (F.R (ly n) x).P w qr
  loc := fun ⟨q1, qa, qb, qr, h1, ha, hb, hr, d1, d2, d3, ho, hbl, sa, sb, r⟩ hk => ⟨q1, qa, qb, qr, h1, ha, hb, hr, d1, d2, d3, ho.loc (fun k h => hk k (h1 k (hbl k h))), hbl, sa.loc (fun k h => hk k (ha k h)), sb.loc (fun k h => hk k (hb k h)), (F.R (ly n) x).loc r (fun k h => hk k (hr k h))⟩
  more := fun ⟨q1, qa, qb, qr, h1, ha, hb, hr, r⟩ hk => ⟨q1, qa, qb, qr, fun k h => hk k (h1 k h), fun k h => hk k (ha k h), fun k h => hk k (hb k h), fun k h => hk k (hr k h), r⟩
theorem St.focus (F : Fld T S) (HS : St w0 w (Own T t A c ly xs :: L)) (hn : xs[n]? = some x) : St w0 w (Elt S (F.Qv (ly n)) (F.get x) :: qY F t A c ly xs n x :: L) := by
  obtain ⟨hb, q, r, hq, hr, hqr, ⟨q1, q2, h1, h2, hd, hown, hbl, hs⟩, hL⟩ := HS
  have hlt := (List.getElem?_eq_some_iff.1 hn).1
  have hx : xs = xs.take n ++ (x :: xs.drop (n + 1)) := by
    have h3 := (List.getElem?_eq_some_iff.1 hn).2
    rw [← h3, ← List.drop_eq_getElem_cons hlt, List.take_append_drop]
  have htl : (xs.take n).length = n := by rw [List.length_take]; omega
  rw [hx] at hs
  obtain ⟨qa, qc, ha, hc, hac, sa, sc⟩ := Gu.cut hs
  rw [htl, Nat.zero_add] at sc
  obtain ⟨p0, p1, c0, c1, cd, hM, sb⟩ := sc
  obtain ⟨e1, e2, f1, f2, fd, hS, hR⟩ := F.opn hM
  refine ⟨hb, e1, fun k => (q1 k ∨ qa k ∨ p1 k ∨ e2 k) ∨ r k, ?_, ?_, ?_, hS, fun k => q1 k ∨ qa k ∨ p1 k ∨ e2 k, r, fun k h => .inl h, fun k h => .inr h, ?_, ⟨q1, qa, p1, e2, fun k h => .inl h, fun k h => .inr (.inl h), fun k h => .inr (.inr (.inl h)), fun k h => .inr (.inr (.inr h)), ?_, ?_, ?_, hown, hbl, sa, sb, hR⟩, hL⟩
  · exact fun k h => hq k (h2 k (hc k (c0 k (f1 k h))))
  · rintro k ((h | h | h | h) | h)
    · exact hq k (h1 k h)
    · exact hq k (h2 k (ha k h))
    · exact hq k (h2 k (hc k (c1 k h)))
    · exact hq k (h2 k (hc k (c0 k (f2 k h))))
    · exact hr k h
  · intro k h hn
    rcases hn with (hn | hn | hn | hn) | hn
    · exact hd k hn (hc k (c0 k (f1 k h)))
    · exact hac k hn (c0 k (f1 k h))
    · exact cd k (f1 k h) hn
    · exact fd k h hn
    · exact hqr k (h2 k (hc k (c0 k (f1 k h)))) hn
  · intro k h hn
    rcases h with h | h | h | h
    · exact hqr k (h1 k h) hn
    · exact hqr k (h2 k (ha k h)) hn
    · exact hqr k (h2 k (hc k (c1 k h))) hn
    · exact hqr k (h2 k (hc k (c0 k (f2 k h)))) hn
  · exact fun k h => ⟨fun g => hd k h (ha k g), fun g => hd k h (hc k (c1 k g)), fun g => hd k h (hc k (c0 k (f2 k g)))⟩
  · exact fun k h => ⟨fun g => hac k h (c1 k g), fun g => hac k h (c0 k (f2 k g))⟩
  · exact fun k h g => cd k (f2 k g) h
theorem St.qJ (F : Fld T S) (HS : St w0 w (Elt S (F.Qv (ly n)) y :: qY F t A c ly xs n x :: L)) (hn : xs[n]? = some x) (hc : T.cells (ly n) (F.set x y) = T.cells (ly n) x) : St w0 w (Own T t A c ly (xs.set n (F.set x y)) :: L) := by
  obtain ⟨hb, q, r, hq, hr, hqr, hS, q', r', hq', hr', hqr', ⟨q1, qa, qb, qe, h1, ha, hbb, he, d1, d2, d3, hown, hbl, sa, sb, hR⟩, hL⟩ := HS
  have hlt := (List.getElem?_eq_some_iff.1 hn).1
  have hx : xs.set n (F.set x y) = xs.take n ++ (F.set x y :: xs.drop (n + 1)) := by rw [List.set_eq_take_append_cons_drop, if_pos hlt]
  have htl : (xs.take n).length = n := by rw [List.length_take]; omega
  refine ⟨hb, fun k => q k ∨ q' k, r', fun k h => h.elim (hq k) (fun h => hr k (hq' k h)), fun k h => hr k (hr' k h), fun k h hn => h.elim (fun h => hqr k h (hr' k hn)) (fun h => hqr' k h hn), ⟨q1, fun k => qa k ∨ (q k ∨ qe k ∨ qb k), fun k h => .inr (h1 k h), ?_, ?_, ?_, by rw [List.length_set]; exact hbl, ?_⟩, hL⟩
  · rintro k (h | h | h | h)
    · exact .inr (ha k h)
    · exact .inl h
    · exact .inr (he k h)
    · exact .inr (hbb k h)
  · rintro k h (g | g | g | g)
    · exact (d1 k h).1 g
    · exact hqr k g (hq' k (h1 k h))
    · exact (d1 k h).2.2 g
    · exact (d1 k h).2.1 g
  · rw [List.length_set]
    have : rc T ly 0 (xs.set n (F.set x y)) = rc T ly 0 xs := by
      have e1 : rc T ly 0 xs = rc T ly 0 (xs.take n) ++ (T.cells (ly (0 + (xs.take n).length)) x ++ rc T ly (0 + (xs.take n).length + 1) (xs.drop (n + 1))) := by
        have h3 := (List.getElem?_eq_some_iff.1 hn).2
        have hxx : xs = xs.take n ++ (x :: xs.drop (n + 1)) := by rw [← h3, ← List.drop_eq_getElem_cons hlt, List.take_append_drop]
        conv => lhs; rw [hxx, G7]
        rfl
      rw [hx, G7, e1, htl, Nat.zero_add, ← hc]
      rfl
    rw [this]
    exact hown
  · rw [hx]
    refine Gu.join sa ?_ ?_
    · rw [htl, Nat.zero_add]
      exact ⟨fun k => q k ∨ qe k, qb, fun k h => h.elim .inl (fun h => .inr (.inl h)), fun k h => .inr (.inr h), fun k h g => h.elim (fun h => hqr k h (hq' k (hbb k g))) (fun h => d3 k g h), F.cls (fun k h => .inl h) (fun k h => .inr h) (fun k h g => hqr k h (hq' k (he k g))) hS hR, sb⟩
    · rintro k h (g | g | g)
      · exact hqr k g (hq' k (ha k h))
      · exact (d2 k h).2 g
      · exact (d2 k h).1 g
end
section
variable {α β : Type} {T : Ty α} {S : Ty β} {w0 w : World} {L : List Cu} {t u : TypeId} {A : Option Addr} {c n : Nat} {ly : Nat → T.Lay} {xs : List α} {x : α} {y : List β}
theorem St.Rh (F : Fld T (Ty.slice u S)) (hn : xs[n]? = some x) (HS : St w0 w (Own T t A c ly xs :: L)) : St w0 w (Own S u (F.Qv (ly n)).A (F.Qv (ly n)).c (F.Qv (ly n)).ly (F.get x) :: qY F t A c ly xs n x :: L) := St.focus F HS hn
theorem St.Oq (F : Fld T (Ty.slice u S)) (hn : xs[n]? = some x) (hc : T.cells (ly n) (F.set x y) = T.cells (ly n) x) (HS : St w0 w (Own S u (F.Qv (ly n)).A (F.Qv (ly n)).c (F.Qv (ly n)).ly y :: qY F t A c ly xs n x :: L)) : St w0 w (Own T t A c ly (xs.set n (F.set x y)) :: L) := St.qJ F HS hn hc
end
section
variable {α : Type} {T : Ty α} {P : Program} {N : Nat} {e : Env} {w0 w : World} {L : List Cu} {Q : Act → World → Prop} {ops : Array Oper} {i d : Nat} {rest : List Nat} {ty : TypeId} {ps : String} {af : Array Edge}
end
end Go.Proofs.YtkmeepgpmppibaaGreatDoor
