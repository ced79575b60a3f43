/-
  Typed rows: what a slice's elements are as cells; a row of the call's own; what reads as a list as long as the pieces of a call lie as told.
-/
import Derived.Test.YtbjfinndngafoaaGreatSlB
import Derived.Deep.AppendLies
set_option linter.unusedVariables false
set_option linter.unusedSimpArgs false
namespace Go.Proofs.YtbjfinndngafoaaGreat
open Go.RowKit
structure Ty (α : Type) where
  Lay : Type
  sz : Nat
  cells : Lay → α → List Value
  M : World → (Nat → Prop) → Lay → α → Prop
  K : World → Lay → α → Prop
  len : ∀ l x, (cells l x).length = sz
  one : ∀ l x u, u ∈ cells l x → u.oneCell' = true
  M_loc : ∀ {w w' q l x}, M w q l x → (∀ k, q k → w'.heap[k]? = w.heap[k]?) → M w' q l x
  M_more : ∀ {w : World} {q q' : Nat → Prop} {l x}, M w q l x → (∀ k, q k → q' k) → M w q' l x
  K_of_M : ∀ {w q l x}, M w q l x → K w l x
  K_below : ∀ {w w' : World} {l x}, Below w.heap.size w w' → K w l x → K w' l x
def ea (A : Option Addr) (n : Nat) : Addr := (A.getD ⟨0, 0, none⟩).add n
theorem addr_add_add (a : Addr) (i j : Nat) : (a.add i).add j = a.add (i + j) := by
  unfold Addr.add
  by_cases hi : i = 0 <;> by_cases hj : j = 0 <;> simp [hi, hj, Nat.add_assoc]
theorem ea_add (A : Option Addr) (n m : Nat) : (ea A n).add m = ea A (n + m) := addr_add_add _ _ _
theorem ea_some (a : Addr) (n : Nat) : ea (some a) n = a.add n := rfl
section
variable {α : Type} {T : Ty α} {ly : Nat → T.Lay} {w w' : World} {q q' : Nat → Prop}
def rc (T : Ty α) (ly : Nat → T.Lay) : Nat → List α → List Value
  | _, [] => []
  | i, x :: r => T.cells (ly i) x ++ rc T ly (i + 1) r
theorem rc_length : ∀ (i : Nat) (xs : List α), (rc T ly i xs).length = xs.length * T.sz
  | _, [] => by simp [rc]
  | i, x :: r => by rw [rc, List.length_append, T.len, rc_length, List.length_cons, Nat.succ_mul, Nat.add_comm]
theorem rc_at : ∀ {xs : List α} {i n j : Nat} {x : α}, xs[n]? = some x → j < T.sz → (rc T ly i xs)[n * T.sz + j]? = (T.cells (ly (i + n)) x)[j]?
  | x :: r, i, 0, j, _, h, hj => by
    cases h
    rw [rc, Nat.zero_mul, Nat.zero_add, List.getElem?_append_left (by rw [T.len]; exact hj)]
    rfl
  | y :: r, i, n + 1, j, x, h, hj => by
    rw [rc, List.getElem?_append_right (by rw [T.len, Nat.succ_mul]; omega), T.len]
    have h1 : (n + 1) * T.sz + j - T.sz = n * T.sz + j := by rw [Nat.succ_mul]; omega
    rw [h1, rc_at (i := i + 1) (by simpa using h) hj, show i + 1 + n = i + (n + 1) by omega]
theorem rc_append : ∀ (i : Nat) (xs ys : List α), rc T ly i (xs ++ ys) = rc T ly i xs ++ rc T ly (i + xs.length) ys
  | i, [], ys => by simp [rc]
  | i, x :: r, ys => by
    rw [List.cons_append, rc, rc, rc_append, List.append_assoc, List.length_cons, show i + 1 + r.length = i + (r.length + 1) by omega]
theorem rc_congr {ly' : Nat → T.Lay} : ∀ {xs : List α} {i : Nat}, (∀ k, i ≤ k → k < i + xs.length → ly k = ly' k) → rc T ly i xs = rc T ly' i xs
  | [], _, _ => rfl
  | x :: r, i, h => by
    rw [rc, rc, h i (Nat.le_refl _) (by simp), rc_congr (fun k h1 h2 => h k (by omega) (by simp only [List.length_cons]; omega))]
theorem rc_one : ∀ {xs : List α} {i : Nat} {u : Value}, u ∈ rc T ly i xs → u.oneCell' = true
  | [], _, _, h => by cases h
  | x :: r, i, u, h => by
    rw [rc, List.mem_append] at h
    rcases h with h | h
    · exact T.one _ _ _ h
    · exact rc_one h
def SepM (T : Ty α) (w : World) (ly : Nat → T.Lay) : Nat → List α → (Nat → Prop) → Prop
  | _, [], _ => True
  | i, x :: r, q => ∃ q0 q1 : Nat → Prop, (∀ k, q0 k → q k) ∧ (∀ k, q1 k → q k) ∧ (∀ k, q0 k → ¬ q1 k) ∧ T.M w q0 (ly i) x ∧ SepM T w ly (i + 1) r q1
theorem SepM.more : ∀ {xs : List α} {i : Nat} {q q' : Nat → Prop}, SepM T w ly i xs q → (∀ k, q k → q' k) → SepM T w ly i xs q'
  | [], _, _, _, _, _ => trivial
  | _ :: _, _, _, _, ⟨q0, q1, h0, h1, hd, hm, hs⟩, h => ⟨q0, q1, fun k hk => h k (h0 k hk), fun k hk => h k (h1 k hk), hd, hm, hs⟩
theorem SepM.loc : ∀ {xs : List α} {i : Nat} {q : Nat → Prop}, SepM T w ly i xs q → (∀ k, q k → w'.heap[k]? = w.heap[k]?) → SepM T w' ly i xs q
  | [], _, _, _, _ => trivial
  | _ :: _, _, _, ⟨q0, q1, h0, h1, hd, hm, hs⟩, h => ⟨q0, q1, h0, h1, hd, T.M_loc hm (fun k hk => h k (h0 k hk)), SepM.loc hs (fun k hk => h k (h1 k hk))⟩
theorem SepM.congr {ly' : Nat → T.Lay} : ∀ {xs : List α} {i : Nat} {q : Nat → Prop}, SepM T w ly i xs q → (∀ k, i ≤ k → k < i + xs.length → ly k = ly' k) → SepM T w ly' i xs q
  | [], _, _, _, _ => trivial
  | _ :: _, i, _, ⟨q0, q1, h0, h1, hd, hm, hs⟩, h => ⟨q0, q1, h0, h1, hd, by rw [← h i (Nat.le_refl _) (by simp)]; exact hm, SepM.congr hs (fun k hk hl => h k (by omega) (by simp only [List.length_cons]; omega))⟩
theorem SepM.get : ∀ {xs : List α} {i n : Nat} {x : α} {q : Nat → Prop}, SepM T w ly i xs q → xs[n]? = some x → ∃ q0 : Nat → Prop, (∀ k, q0 k → q k) ∧ T.M w q0 (ly (i + n)) x
  | _ :: _, i, 0, _, _, ⟨q0, _, h0, _, _, hm, _⟩, h => by cases h; exact ⟨q0, h0, hm⟩
  | _ :: _, i, n + 1, _, _, ⟨_, q1, _, h1, _, _, hs⟩, h => by
    obtain ⟨q0, h2, hm⟩ := SepM.get hs (by simpa using h)
    exact ⟨q0, fun k hk => h1 k (h2 k hk), by rw [show i + (n + 1) = i + 1 + n by omega]; exact hm⟩
theorem SepM.snoc : ∀ {xs : List α} {i : Nat} {y : α} {q q2 : Nat → Prop}, SepM T w ly i xs q → T.M w q2 (ly (i + xs.length)) y → (∀ k, q k → ¬ q2 k) → SepM T w ly i (xs ++ [y]) (fun k => q k ∨ q2 k)
  | [], i, y, q, q2, _, hm, hd => ⟨q2, fun _ => False, fun k hk => .inr hk, fun k hk => hk.elim, fun k _ hk => hk, hm, trivial⟩
  | x :: r, i, y, q, q2, ⟨q0, q1, h0, h1, hdd, hx, hs⟩, hm, hd => by
    have h2 := SepM.snoc (y := y) (q2 := q2) hs (by rw [show i + 1 + r.length = i + (x :: r).length by simp only [List.length_cons]; omega]; exact hm) (fun k hk => hd k (h1 k hk))
    exact ⟨q0, fun k => q1 k ∨ q2 k, fun k hk => .inl (h0 k hk), fun k hk => hk.imp (h1 k) id, fun k hk hn => hn.elim (hdd k hk) (hd k (h0 k hk)), hx, h2⟩
def Flat (T : Ty α) : Prop := ∀ (w : World) (l : T.Lay) (x : α), T.M w (fun _ => False) l x
theorem SepM.flat (hf : Flat T) : ∀ (xs : List α) (i : Nat) (q : Nat → Prop), SepM T w ly i xs q
  | [], _, _ => trivial
  | x :: r, i, q => ⟨fun _ => False, q, fun _ h => h.elim, fun _ h => h, fun _ h => h.elim, hf w _ x, SepM.flat hf r (i + 1) q⟩
end
theorem addr_off (b o k : Nat) : (⟨b, o, none⟩ : Addr).add k = ⟨b, o + k, none⟩ := by unfold Addr.add; split <;> simp_all
def splice (cs : List Value) (o : Nat) (vs : List Value) : List Value := cs.take o ++ vs ++ cs.drop (o + vs.length)
theorem splice_take {cs vs : List Value} {o n : Nat} (h : o + vs.length ≤ n) (hn : n ≤ cs.length) : (splice cs o vs).take n = splice (cs.take n) o vs := by
  unfold splice
  rw [List.take_append, List.take_append]
  have h1 : (cs.take o).take n = (cs.take n).take o := by rw [List.take_take, List.take_take, Nat.min_comm]
  rw [h1]
  have h2 : (cs.take o).length = o := by rw [List.length_take]; omega
  have h3 : vs.take (n - (cs.take o).length) = vs := List.take_of_length_le (by rw [h2]; omega)
  rw [h3, List.length_append, h2, List.drop_take]
theorem splice_drop {cs vs : List Value} {o k : Nat} (h : o ≤ cs.length) : (splice cs (o + k) vs).drop o = splice (cs.drop o) k vs := by
  unfold splice
  rw [List.append_assoc, List.append_assoc, List.drop_append, List.length_take, List.drop_take, List.drop_drop, show o + k - o = k by omega, show o + (k + vs.length) = o + k + vs.length by omega]
  by_cases hk : o + k ≤ cs.length
  · rw [show o - min (o + k) cs.length = 0 by omega, List.drop_zero]
  · rw [show o - min (o + k) cs.length = 0 by omega, List.drop_zero]
theorem splice_length {cs vs : List Value} {o : Nat} (h : o + vs.length ≤ cs.length) : (splice cs o vs).length = cs.length := by
  simp only [splice, List.length_append, List.length_take, List.length_drop]; omega
def OR (w : World) (t : TypeId) (sz : Nat) (v : Value) (n : Nat) (xs : List Value) : Prop :=
  xs.length = n * sz ∧ ((v = .slice none 0 0 ∧ n = 0) ∨
    ∃ g o cap cur, v = .slice (some ⟨g, o, none⟩) n cap ∧ w.heap[g]? = some (.cells cur t (0, 0)) ∧ n ≤ cap ∧ cap ≤ maxLen ∧ o + cap * sz ≤ cur.size ∧ (cur.toList.drop o).take (n * sz) = xs)
section
variable {w w' : World} {t : TypeId} {sz n c : Nat} {v : Value} {A : Option Addr} {xs : List Value}
theorem OR.of {base : Nat} (h : w.ownsRow base t sz v n xs) : OR w t sz v n xs :=
  ⟨h.1, h.2.imp id fun ⟨g, cap, cur, hv, _, hh, hn, hm, hs, ht⟩ => ⟨g, 0, cap, cur, hv, hh, hn, hm, by omega, by simpa using ht⟩⟩
theorem OR.nil (w : World) (t : TypeId) (sz : Nat) : OR w t sz (.slice none 0 0) 0 [] := ⟨by simp, .inl ⟨rfl, rfl⟩⟩
theorem OR.lt (h : OR w t sz v n xs) : ∀ k, v.ownBlock = some k → k < w.heap.size := by
  intro k hk
  rcases h.2 with ⟨rfl, _⟩ | ⟨g, o, cap, cur, rfl, hh, _⟩
  · simp [Value.ownBlock] at hk
  · have : g = k := by simpa [Value.ownBlock] using hk
    subst this
    exact (Array.getElem?_eq_some_iff.1 hh).1
theorem OR.loc (h : OR w t sz v n xs) (hm : ∀ k, v.ownBlock = some k → w'.heap[k]? = w.heap[k]?) : OR w' t sz v n xs := by
  obtain ⟨h1, h2⟩ := h
  refine ⟨h1, ?_⟩
  rcases h2 with h2 | ⟨g, o, cap, cur, rfl, hh, r⟩
  · exact .inl h2
  · exact .inr ⟨g, o, cap, cur, rfl, (hm g (by simp [Value.ownBlock])).trans hh, r⟩
theorem OR.open (h : OR w t sz (.slice A n c) n xs) (hn : 0 < n) : ∃ g o cur, A = some ⟨g, o, none⟩ ∧ w.heap[g]? = some (.cells cur t (0, 0)) ∧ n ≤ c ∧ c ≤ maxLen ∧ o + c * sz ≤ cur.size ∧ (cur.toList.drop o).take (n * sz) = xs := by
  rcases h.2 with ⟨_, h0⟩ | ⟨g, o, cap, cur, hv, hh, hnc, hcm, hsz, htk⟩
  · omega
  injection hv with hA _ hc
  subst hc
  exact ⟨g, o, cur, hA, hh, hnc, hcm, hsz, htk⟩
theorem OR.slice (h : OR w t sz v n xs) : ∃ A c, v = .slice A n c := by
  rcases h.2 with ⟨h, h0⟩ | ⟨g, o, cap, cur, hv, _⟩
  · exact ⟨none, 0, by rw [h, h0]⟩
  · exact ⟨_, _, hv⟩
theorem OR.cells (h : OR w t sz (.slice A n c) n xs) (hn : 0 < n) : ∀ j u, xs[j]? = some u → w.cell? ((A.getD ⟨0, 0, none⟩).add j) = some u := by
  intro j u hu
  obtain ⟨g, o, cur, rfl, hh, _, _, _, htk⟩ := h.open hn
  rw [Option.getD_some, addr_off, cell_of_row w g (o + j) cur t (0, 0) hh]
  rw [← htk, List.getElem?_take] at hu
  split at hu
  · rw [List.getElem?_drop] at hu; simpa using hu
  · cases hu
theorem OR.put {g o k : Nat} {cur : Array Value} {vs : List Value} (h : OR w t sz (.slice (some ⟨g, o, none⟩) n c) n xs) (hh : w.heap[g]? = some (.cells cur t (0, 0))) (hk : k + vs.length ≤ xs.length) :
    o + k + vs.length ≤ cur.size ∧ OR (w.setRow g (splice cur.toList (o + k) vs).toArray) t sz (.slice (some ⟨g, o, none⟩) n c) n (splice xs k vs) := by
  obtain ⟨h1, h2⟩ := h
  rcases h2 with ⟨h2, _⟩ | ⟨g', o', cap, cur', hv, hh', hnc, hcm, hsz, htk⟩
  · cases h2
  injection hv with hA _ hc
  cases hA
  subst hc
  rw [hh] at hh'
  obtain rfl : cur = cur' := by injection hh' with h; injection h
  have hmul : n * sz ≤ c * sz := Nat.mul_le_mul_right _ hnc
  have hcl : cur.toList.length = cur.size := Array.length_toList
  have hle : o + k + vs.length ≤ cur.toList.length := by omega
  refine ⟨by rw [← hcl]; exact hle, by rw [splice_length hk]; exact h1, .inr ⟨g, o, c, _, rfl, setRow_heap w g _ _ t (0, 0) hh, hnc, hcm, ?_, ?_⟩⟩
  · rw [List.size_toArray, splice_length hle, Array.length_toList]; exact hsz
  · show ((splice cur.toList (o + k) vs).drop o).take (n * sz) = _
    rw [splice_drop (by omega), splice_take (by omega) (by rw [List.length_drop]; omega), htk]
end
section
variable {α : Type} {T : Ty α} {ly : Nat → T.Lay} {w w' : World} {q q' : Nat → Prop}
def OwnP (T : Ty α) (t : TypeId) (A : Option Addr) (c : Nat) (ly : Nat → T.Lay) (xs : List α) (w : World) (q : Nat → Prop) : Prop :=
  ∃ q1 q2 : Nat → Prop, (∀ k, q1 k → q k) ∧ (∀ k, q2 k → q k) ∧ (∀ k, q1 k → ¬ q2 k) ∧ OR w t T.sz (.slice A xs.length c) xs.length (rc T ly 0 xs) ∧
    (∀ k, (Value.slice A xs.length c).ownBlock = some k → q1 k) ∧ SepM T w ly 0 xs q2
theorem OwnP.loc {t : TypeId} {A : Option Addr} {c : Nat} {xs : List α} (h : OwnP T t A c ly xs w q) (hk : ∀ k, q k → w'.heap[k]? = w.heap[k]?) : OwnP T t A c ly xs w' q := by
  obtain ⟨q1, q2, h1, h2, hd, ho, hb, hs⟩ := h
  exact ⟨q1, q2, h1, h2, hd, ho.loc (fun k hk' => hk k (h1 k (hb k hk'))), hb, hs.loc (fun k hk' => hk k (h2 k hk'))⟩
theorem OwnP.more {t : TypeId} {A : Option Addr} {c : Nat} {xs : List α} (h : OwnP T t A c ly xs w q) (hk : ∀ k, q k → q' k) : OwnP T t A c ly xs w q' := by
  obtain ⟨q1, q2, h1, h2, r⟩ := h
  exact ⟨q1, q2, fun k hk' => hk k (h1 k hk'), fun k hk' => hk k (h2 k hk'), r⟩
theorem OwnP.nil (t : TypeId) (ly : Nat → T.Lay) (w : World) (q : Nat → Prop) : OwnP T t none 0 ly [] w q :=
  ⟨fun _ => False, fun _ => False, fun _ h => h.elim, fun _ h => h.elim, fun _ h => h.elim, OR.nil _ _ _, fun k hk => by simp [Value.ownBlock] at hk, trivial⟩
def Rd (T : Ty α) (w : World) (A : Option Addr) (c : Nat) (ly : Nat → T.Lay) (xs : List α) : Prop :=
  xs.length ≤ c ∧ c ≤ 9223372036854775807 ∧ (0 < xs.length → ∃ b o, A = some ⟨b, o, none⟩) ∧ (∀ j u, (rc T ly 0 xs)[j]? = some u → w.cell? (ea A j) = some u) ∧ ∀ i x, xs[i]? = some x → T.K w (ly i) x
theorem OwnP.reads {t : TypeId} {A : Option Addr} {c : Nat} {xs : List α} (h : OwnP T t A c ly xs w q) : Rd T w A c ly xs := by
  obtain ⟨q1, q2, h1, h2, hd, ho, hb, hs⟩ := h
  refine ⟨?_, ?_, ?_, ?_, ?_⟩
  · rcases ho.2 with ⟨h, h0⟩ | ⟨g, o, cap, cur, hv, _, hn, _⟩
    · omega
    · injection hv with _ _ hc; omega
  · rcases ho.2 with ⟨h, h0⟩ | ⟨g, o, cap, cur, hv, _, hn, hm, _⟩
    · injection h with _ _ hc; omega
    · injection hv with _ _ hc; simp only [maxLen] at hm; omega
  · intro hn
    obtain ⟨g, o, _, hA, _⟩ := ho.open hn
    exact ⟨g, o, hA⟩
  · intro j u hu
    have hn : 0 < xs.length := by
      rcases Nat.eq_zero_or_pos xs.length with h0 | h0
      · have := List.eq_nil_of_length_eq_zero h0
        subst this
        simp [rc] at hu
      · exact h0
    exact ho.cells hn j u hu
  · intro i x hx
    obtain ⟨q0, _, hm⟩ := hs.get hx
    have := T.K_of_M hm
    rwa [Nat.zero_add] at this
theorem Rd.below {A : Option Addr} {c : Nat} {xs : List α} (h : Rd T w A c ly xs) (hb : Below w.heap.size w w') : Rd T w' A c ly xs :=
  ⟨h.1, h.2.1, h.2.2.1, fun j u hu => by
    have h1 := h.2.2.2.1 j u hu
    exact (hb.cell (World.block_lt_of_cell? w _ h1)).trans h1, fun i x hx => T.K_below hb (h.2.2.2.2 i x hx)⟩
theorem Rd.cell {A : Option Addr} {c : Nat} {xs : List α} (h : Rd T w A c ly xs) {i j : Nat} {x : α} {u : Value} (hx : xs[i]? = some x) (hj : j < T.sz) (hu : (T.cells (ly i) x)[j]? = some u) : w.cell? (ea A (i * T.sz + j)) = some u :=
  h.2.2.2.1 _ _ (by rw [rc_at hx hj, Nat.zero_add]; exact hu)
end
structure SLay (β : Type) where
  A : Option Addr
  c : Nat
  ly : Nat → β
abbrev Ty.flat {α : Type} (sz : Nat) (enc : α → List Value) (hl : ∀ x, (enc x).length = sz) (h1 : ∀ x u, u ∈ enc x → u.oneCell' = true) : Ty α where
  Lay := Unit
  sz := sz
  cells := fun _ x => enc x
  M := fun _ _ _ _ => True
  K := fun _ _ _ => True
  len := fun _ x => hl x
  one := fun _ x u => h1 x u
  M_loc := fun h _ => h
  M_more := fun h _ => h
  K_of_M := fun _ => trivial
  K_below := fun _ h => h
abbrev Ty.slice {α : Type} (t : TypeId) (T : Ty α) : Ty (List α) where
  Lay := SLay T.Lay
  sz := 1
  cells := fun l xs => [.slice l.A xs.length l.c]
  M := fun w q l xs => OwnP T t l.A l.c l.ly xs w q
  K := fun w l xs => Rd T w l.A l.c l.ly xs
  len := fun _ _ => rfl
  one := fun _ _ u h => by rw [List.mem_singleton.1 h]; rfl
  M_loc := fun h hk => h.loc hk
  M_more := fun h hk => h.more hk
  K_of_M := fun h => h.reads
  K_below := fun hb h => h.below hb
abbrev TInt (k : IntKind) : Ty Int := Ty.flat 1 (fun x => [.int k x]) (fun _ => rfl) (fun x u h => by rw [List.mem_singleton.1 h]; rfl)
abbrev TBool : Ty Bool := Ty.flat 1 (fun x => [.bool x]) (fun _ => rfl) (fun x u h => by rw [List.mem_singleton.1 h]; rfl)
theorem flat_flat {α : Type} {sz : Nat} {enc : α → List Value} {hl : ∀ x, (enc x).length = sz} {h1 : ∀ x u, u ∈ enc x → u.oneCell' = true} : Flat (Ty.flat sz enc hl h1) := fun _ _ _ => trivial
def Own {α : Type} (T : Ty α) (t : TypeId) (A : Option Addr) (c : Nat) (ly : Nat → T.Lay) (xs : List α) : HObj where
  P := OwnP T t A c ly xs
  loc := fun h hk => h.loc hk
  more := fun h hk => h.more hk
def RdIn {α : Type} (w0 : World) (L : List HObj) (T : Ty α) (A : Option Addr) (c : Nat) (ly : Nat → T.Lay) (xs : List α) : Prop := ∀ w, St w0 w L → Rd T w A c ly xs
section
variable {α : Type} {T : Ty α} {ly : Nat → T.Lay} {w0 w w' : World} {L : List HObj} {A : Option Addr} {c : Nat} {xs : List α} {t : TypeId}
theorem RdIn.own {j : Nat} (hj : L[j]? = some (Own T t A c ly xs)) : RdIn w0 L T A c ly xs := fun w h => by
  obtain ⟨q, _, ho⟩ := h.get hj
  exact OwnP.reads ho
theorem RdIn.old (h : Rd T w0 A c ly xs) : RdIn w0 L T A c ly xs := fun w hs => h.below hs.below
theorem RdIn.drop (n : Nat) (h : RdIn w0 (L.drop n) T A c ly xs) : RdIn w0 L T A c ly xs := fun w hs => h w (hs.drop n)
theorem RdIn.elem {S : Ty α} {u : TypeId} {ly : Nat → SLay S.Lay} {xss : List (List α)} (h : RdIn w0 L (Ty.slice u S) A c ly xss) {i : Int} (h0 : 0 ≤ i) (h1 : i < (xss.length : Int)) :
    RdIn w0 L S (ly i.toNat).A (ly i.toNat).c (ly i.toNat).ly (xss.getD i.toNat []) := fun w hs => by
  have hl : i.toNat < xss.length := by omega
  have := (h w hs).2.2.2.2 i.toNat (xss[i.toNat]) (List.getElem?_eq_getElem hl)
  rw [List.getD_eq_getElem?_getD, List.getElem?_eq_getElem hl]
  exact this
theorem St.nilRow (h : St w0 w L) (T : Ty α) (t : TypeId) (ly : Nat → T.Lay) : St w0 w (Own T t none 0 ly [] :: L) :=
  ⟨h.below, fun _ => False, fun k => w0.heap.size ≤ k ∧ k < w.heap.size, fun _ h => h.elim, fun _ h => h, fun _ h => h.elim, OwnP.nil t ly w _, h.sep⟩
theorem getD_some {d : α} {i : Nat} (h : i < xs.length) : xs[i]? = some (xs.getD i d) := by
  rw [List.getD_eq_getElem?_getD, List.getElem?_eq_getElem h]; rfl
theorem St.boxRow {b j : Nat} {cs : List Value} (h : St w0 w L) (hj : L[j]? = some (Box b t cs)) (hfl : Flat T) (ly : Nat → T.Lay) (xs : List α) (hc : rc T ly 0 xs = cs) (hm : xs.length ≤ 9223372036854775807) : St w0 w (L.set j (Own T t (some ⟨b, 0, none⟩) xs.length ly xs)) := by
  refine h.upd hj (Nat.le_refl _) rfl rfl rfl (fun q hq => ⟨q, fun k hk => .inl hk, ⟨fun k => k = b, fun _ => False, fun k hk => by rw [hk]; exact hq.1, fun _ hk => hk.elim, fun _ _ hk => hk, ?_, fun k hk => ?_, SepM.flat hfl _ _ _⟩, fun k _ _ => rfl⟩)
  · refine ⟨rc_length _ _, .inr ⟨b, 0, xs.length, cs.toArray, rfl, hq.2, Nat.le_refl _, by simp only [maxLen]; omega, ?_, ?_⟩⟩
    · rw [← hc]; simp [rc_length]
    · rw [← hc]
      simp only [List.toList_toArray, List.drop_zero]
      rw [List.take_of_length_le (by rw [rc_length]; exact Nat.le_refl _)]
  · simp [Value.ownBlock] at hk
    exact hk.symm
end
end Go.Proofs.YtbjfinndngafoaaGreat
