/-
  Heap pieces of a call's own that lie apart, typed rows, and what reads as a typed list.
-/
import Derived.Test.YtbjfinndngafoaaGreatSlA
import Derived.OwnWalk
import Derived.Below
import Derived.Maps.AppendAt
set_option linter.unusedVariables false
set_option linter.unusedSimpArgs false
namespace Go.Proofs.YtbjfinndngafoaaGreat
open Go.RowKit
structure HObj where
  P : World → (Nat → Prop) → Prop
  loc : ∀ {w w' : World} {q : Nat → Prop}, P w q → (∀ k, q k → w'.heap[k]? = w.heap[k]?) → P w' q
  more : ∀ {w : World} {q q' : Nat → Prop}, P w q → (∀ k, q k → q' k) → P w q'
def Sep : List HObj → World → (Nat → Prop) → Prop
  | [], _, _ => True
  | o :: L, w, p => ∃ q r : Nat → Prop, (∀ k, q k → p k) ∧ (∀ k, r k → p k) ∧ (∀ k, q k → ¬ r k) ∧ o.P w q ∧ Sep L w r
structure St (w0 w : World) (L : List HObj) : Prop where
  below : Below w0.heap.size w0 w
  sep : Sep L w (fun k => w0.heap.size ≤ k ∧ k < w.heap.size)
section
variable {w0 w w' : World} {L : List HObj} {p p' : Nat → Prop} {o o' : HObj}
theorem Sep.more : ∀ {L : List HObj} {p p' : Nat → Prop}, Sep L w p → (∀ k, p k → p' k) → Sep L w p'
  | [], _, _, _, _ => trivial
  | _ :: _, _, _, ⟨q, r, hq, hr, hd, ho, hs⟩, h => ⟨q, r, fun k hk => h k (hq k hk), fun k hk => h k (hr k hk), hd, ho, hs⟩
theorem Sep.loc : ∀ {L : List HObj} {p : Nat → Prop}, Sep L w p → (∀ k, p k → w'.heap[k]? = w.heap[k]?) → Sep L w' p
  | [], _, _, _ => trivial
  | o :: _, _, ⟨q, r, hq, hr, hd, ho, hs⟩, h => ⟨q, r, hq, hr, hd, o.loc ho (fun k hk => h k (hq k hk)), Sep.loc hs (fun k hk => h k (hr k hk))⟩
theorem Sep.get : ∀ {L : List HObj} {p : Nat → Prop} {j : Nat} {o : HObj}, Sep L w p → L[j]? = some o → ∃ q, (∀ k, q k → p k) ∧ o.P w q
  | _ :: _, _, 0, _, ⟨q, _, hq, _, _, ho, _⟩, h => by cases h; exact ⟨q, hq, ho⟩
  | _ :: _, _, j + 1, _, ⟨_, r, _, hr, _, _, hs⟩, h => by
    obtain ⟨q, hq, ho⟩ := Sep.get hs (by simpa using h)
    exact ⟨q, fun k hk => hr k (hq k hk), ho⟩
theorem Sep.drop : ∀ {n : Nat} {L : List HObj} {p : Nat → Prop}, Sep L w p → Sep (L.drop n) w p
  | 0, _, _, h => h
  | _ + 1, [], _, h => h
  | _ + 1, _ :: _, _, ⟨_, _, _, hr, _, _, hs⟩ => by
    rw [List.drop_succ_cons]
    exact (Sep.drop hs).more hr
def Emp : HObj where
  P := fun _ _ => True
  loc := fun _ _ => trivial
  more := fun _ _ => trivial
theorem Sep.take : ∀ {L : List HObj} {p : Nat → Prop} {j : Nat} {o : HObj}, Sep L w p → L[j]? = some o → Sep (o :: L.set j Emp) w p
  | _ :: _, p, 0, _, ⟨q, r, hq, hr, hd, ho, hs⟩, hj => by
    cases hj
    exact ⟨q, r, hq, hr, hd, ho, fun _ => False, r, fun _ h => h.elim, fun _ h => h, fun _ h => h.elim, trivial, hs⟩
  | x :: L, p, j + 1, o, ⟨q, r, hq, hr, hd, ho, hs⟩, hj => by
    obtain ⟨q1, r1, hq1, hr1, hd1, ho1, hs1⟩ := Sep.take (j := j) (o := o) hs (by simpa using hj)
    refine ⟨q1, fun k => q k ∨ r1 k, fun k hk => hr k (hq1 k hk), fun k hk => hk.elim (hq k) (fun h => hr k (hr1 k h)), fun k hk hn => ?_, ho1, ⟨q, r1, fun k hk => .inl hk, fun k hk => .inr hk, fun k hk hn => hd k hk (hr1 k hn), ho, hs1⟩⟩
    rcases hn with hn | hn
    · exact hd k hn (hq1 k hk)
    · exact hd1 k hk hn
def pick (n : Nat) (L : List HObj) : List Nat → List HObj
  | [] => L.drop n
  | i :: is => L.getD i Emp :: pick n (L.set i Emp) is
theorem Sep.pick : ∀ {is : List Nat} {n : Nat} {L : List HObj} {p : Nat → Prop}, Sep L w p → Sep (Go.Proofs.YtbjfinndngafoaaGreat.pick n L is) w p
  | [], n, L, p, h => h.drop
  | i :: is, n, L, p, h => by
    unfold Go.Proofs.YtbjfinndngafoaaGreat.pick
    cases hi : L[i]? with
    | none =>
      have hl := List.getElem?_eq_none_iff.1 hi
      rw [List.getD_eq_getElem?_getD, hi, List.set_eq_of_length_le hl]
      exact ⟨fun _ => False, p, fun _ h => h.elim, fun _ h => h, fun _ h => h.elim, trivial, Sep.pick h⟩
    | some o =>
      rw [List.getD_eq_getElem?_getD, hi]
      obtain ⟨q, r, hq, hr, hd, ho, hs⟩ := h.take hi
      exact ⟨q, r, hq, hr, hd, ho, Sep.pick hs⟩
theorem Sep.upd (fresh : Nat → Prop) : ∀ {L : List HObj} {p : Nat → Prop} {j : Nat}, Sep L w p → L[j]? = some o → (∀ k, fresh k → ¬ p k) →
    (∀ q, (∀ k, q k → p k) → o.P w q → ∃ q', (∀ k, q' k → q k ∨ fresh k) ∧ o'.P w' q' ∧ ∀ k, p k → ¬ q k → w'.heap[k]? = w.heap[k]?) → Sep (L.set j o') w' (fun k => p k ∨ fresh k)
  | _ :: _, p, 0, ⟨q, r, hq, hr, hd, ho, hs⟩, hj, hf, hu => by
    cases hj
    obtain ⟨q', hq', ho', hk⟩ := hu q hq ho
    refine ⟨q', r, fun k hk => (hq' k hk).imp (hq k) id, fun k hk => .inl (hr k hk), fun k hk hn => ?_, ho', hs.loc (fun k hr' => hk k (hr k hr') (fun h => hd k h hr'))⟩
    rcases hq' k hk with h | h
    · exact hd k h hn
    · exact hf k h (hr k hn)
  | x :: L, p, j + 1, ⟨q, r, hq, hr, hd, ho, hs⟩, hj, hf, hu => by
    have h1 := Sep.upd fresh (j := j) hs (by simpa using hj) (fun k hk hn => hf k hk (hr k hn)) (fun q1 hq1 ho1 => by
      obtain ⟨q', h1, h2, h3⟩ := hu q1 (fun k hk => hr k (hq1 k hk)) ho1
      exact ⟨q', h1, h2, fun k hk hn => h3 k (hr k hk) hn⟩)
    obtain ⟨q1, hq1, ho1⟩ := hs.get (j := j) (by simpa using hj)
    obtain ⟨q', _, _, h3⟩ := hu q1 (fun k hk => hr k (hq1 k hk)) ho1
    refine ⟨q, fun k => r k ∨ fresh k, fun k hk => .inl (hq k hk), fun k hk => hk.imp (hr k) id, fun k hk hn => ?_, x.loc ho (fun k hk => h3 k (hq k hk) (fun h => hd k hk (hq1 k h))), h1⟩
    rcases hn with hn | hn
    · exact hd k hk hn
    · exact hf k hn (hq k hk)
theorem Sep.cons (fresh : Nat → Prop) (h : Sep L w p) (hf : ∀ k, fresh k → ¬ p k) (hk : ∀ k, p k → w'.heap[k]? = w.heap[k]?) (ho : o.P w' fresh) : Sep (o :: L) w' (fun k => p k ∨ fresh k) :=
  ⟨fresh, p, fun k hk => .inr hk, fun k hk => .inl hk, hf, ho, h.loc hk⟩
theorem St.refl (w : World) : St w w [] := ⟨Below.refl _ _, trivial⟩
theorem St.pick (n : Nat) (is : List Nat) (h : St w0 w L) : St w0 w (pick n L is) := ⟨h.below, h.sep.pick⟩
theorem St.drop (n : Nat) (h : St w0 w L) : St w0 w (L.drop n) := ⟨h.below, h.sep.drop⟩
theorem St.tail (h : St w0 w (o :: L)) : St w0 w L := h.drop 1
theorem St.get {j : Nat} (h : St w0 w L) (hj : L[j]? = some o) : ∃ q : Nat → Prop, (∀ k, q k → w0.heap.size ≤ k ∧ k < w.heap.size) ∧ o.P w q := h.sep.get hj
theorem St.upd {j : Nat} (h : St w0 w L) (hj : L[j]? = some o) (hg : w.heap.size ≤ w'.heap.size) (hos : w'.os = w.os) (htape : w'.tape = w.tape) (hout : w'.output = w.output)
    (hu : ∀ q : Nat → Prop, o.P w q → ∃ q' : Nat → Prop, (∀ k, q' k → q k ∨ (w.heap.size ≤ k ∧ k < w'.heap.size)) ∧ o'.P w' q' ∧ ∀ k, k < w.heap.size → ¬ q k → w'.heap[k]? = w.heap[k]?) : St w0 w' (L.set j o') := by
  obtain ⟨q, hq, ho⟩ := h.get hj
  obtain ⟨q', _, _, h3⟩ := hu q ho
  refine ⟨h.below.trans ⟨hos, htape, hout, hg, fun k hk => h3 k (Nat.lt_of_lt_of_le hk h.below.size) (fun h => by have := hq k h; omega)⟩, ?_⟩
  refine (Sep.upd (fun k => w.heap.size ≤ k ∧ k < w'.heap.size) h.sep hj (fun k hk hn => by omega) (fun q1 hq1 ho1 => ?_)).more (fun k hk => ?_)
  · obtain ⟨q', h1, h2, h3⟩ := hu q1 ho1
    exact ⟨q', h1, h2, fun k hk hn => h3 k hk.2 hn⟩
  · have := h.below.size
    rcases hk with hk | hk <;> omega
theorem St.cons (h : St w0 w L) (hg : w.heap.size ≤ w'.heap.size) (hos : w'.os = w.os) (htape : w'.tape = w.tape) (hout : w'.output = w.output) (hk : ∀ k, k < w.heap.size → w'.heap[k]? = w.heap[k]?)
    (ho : o.P w' (fun k => w.heap.size ≤ k ∧ k < w'.heap.size)) : St w0 w' (o :: L) := by
  refine ⟨h.below.trans ⟨hos, htape, hout, hg, fun k hk' => hk k (Nat.lt_of_lt_of_le hk' h.below.size)⟩, ?_⟩
  refine (Sep.cons (fun k => w.heap.size ≤ k ∧ k < w'.heap.size) h.sep (fun k hk hn => by omega) (fun k hp => hk k hp.2) ho).more (fun k hk => ?_)
  have := h.below.size
  rcases hk with hk | hk <;> omega
theorem St.drew (h : St w0 w L) : St w0 w.drew L := ⟨h.below.drew, h.sep.loc (fun _ _ => rfl)⟩
end
def Box (b : Nat) (t : TypeId) (cs : List Value) : HObj where
  P := fun w q => q b ∧ w.heap[b]? = some (.cells cs.toArray t (0, 0))
  loc := fun h hk => ⟨h.1, (hk b h.1).trans h.2⟩
  more := fun h hq => ⟨hq b h.1, h.2⟩
section
variable {w0 w w' : World} {L : List HObj} {b j : Nat} {t : TypeId} {cs : List Value}
theorem St.box (h : St w0 w L) (hj : L[j]? = some (Box b t cs)) : w.heap[b]? = some (.cells cs.toArray t (0, 0)) := by
  obtain ⟨q, _, h1, h2⟩ := h.get hj
  exact h2
theorem St.boxCell (h : St w0 w L) (hj : L[j]? = some (Box b t cs)) {i : Nat} {u : Value} (hi : cs[i]? = some u) : w.cell? ⟨b, i, none⟩ = some u := by
  rw [cell_of_row w b i cs.toArray t (0, 0) (h.box hj)]
  simpa using hi
theorem St.alloc (h : St w0 w L) (cs : List Value) (t : TypeId) : St w0 (w.alloc (.cells cs.toArray t)) (Box w.heap.size t cs :: L) :=
  h.cons (by simp) rfl rfl rfl (fun k hk => Below.heap_alloc w _ k hk) ⟨by simp, heap_alloc_new w _⟩
end
end Go.Proofs.YtbjfinndngafoaaGreat
