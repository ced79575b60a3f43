/-
  Parts: lists of marks that part numbers alike; how many come up first; one value put for another.
-/
import Derived.Test.YtbjfinndngafoaaGreatPlT0
set_option linter.unusedVariables false
set_option linter.unusedSimpArgs false
set_option linter.unusedSectionVars false
namespace Go.Proofs.YtbjfinndngafoaaGreat
open Go.RowKit
def isFirst (l : List Int) (i : Nat) : Bool := (List.range i).all fun j => l.getD j 0 != l.getD i 0
theorem isFirst_iff {l : List Int} {i : Nat} : isFirst l i = true ↔ ∀ j, j < i → l.getD j 0 ≠ l.getD i 0 := by
  unfold isFirst
  rw [List.all_eq_true]
  constructor
  · intro h j hj
    simpa using h j (List.mem_range.2 hj)
  · intro h j hj
    simpa using h j (List.mem_range.1 hj)
def firstN (l : List Int) : Nat → Nat
  | 0 => 0
  | i + 1 => firstN l i + (if isFirst l i = true then 1 else 0)
theorem firstN_le (l : List Int) : ∀ i, firstN l i ≤ i
  | 0 => Nat.le_refl _
  | i + 1 => by
    have := firstN_le l i
    rw [firstN]
    split <;> omega
def SameParts (n : Nat) (s o : List Int) : Prop := ∀ i j, i < n → j < n → (s.getD i 0 = s.getD j 0 ↔ o.getD i 0 = o.getD j 0)
theorem firstN_same {n : Nat} {s o : List Int} (h : SameParts n s o) : ∀ i, i ≤ n → firstN s i = firstN o i
  | 0, _ => rfl
  | i + 1, hi => by
    rw [firstN, firstN, firstN_same h i (by omega)]
    have : isFirst s i = isFirst o i := by
      rw [Bool.eq_iff_iff, isFirst_iff, isFirst_iff]
      constructor
      · intro h1 j hj e
        exact h1 j hj ((h j i (by omega) (by omega)).2 e)
      · intro h1 j hj e
        exact h1 j hj ((h j i (by omega) (by omega)).1 e)
    rw [this]
structure Least (n : Nat) (o : List Int) : Prop where
  len : o.length = n
  low : ∀ i, i < n → 0 ≤ o.getD i 0 ∧ o.getD i 0 ≤ (i : Int)
  root : ∀ i, i < n → o.getD (o.getD i 0).toNat 0 = o.getD i 0
def repl (p q v : Int) : Int := if v = p then q else v
theorem getD_map {f : Int → Int} {l : List Int} {i : Nat} (h : i < l.length) : (l.map f).getD i 0 = f (l.getD i 0) := by
  rw [List.getD_eq_getElem?_getD, List.getElem?_map, getD_some (d := 0) h]; rfl
theorem repl_eq {p q u v : Int} : repl p q u = repl p q v ↔ (u = v ∨ ((u = p ∨ u = q) ∧ (v = p ∨ v = q))) := by
  unfold repl
  grind
theorem Least.join {n : Nat} {o : List Int} (h : Least n o) {c e : Nat} (hc : c < n) (he : e < n) {p q : Int} (hpq : (p = o.getD c 0 ∧ q = o.getD e 0) ∨ (p = o.getD e 0 ∧ q = o.getD c 0)) (hle : q ≤ p) : Least n (o.map (repl p q)) := by
  have hq : ∃ d, d < n ∧ q = o.getD d 0 := by rcases hpq with ⟨_, h⟩ | ⟨_, h⟩ <;> exact ⟨_, by assumption, h⟩
  obtain ⟨d, hd, hqd⟩ := hq
  have hqr : o.getD q.toNat 0 = q := by rw [hqd]; exact h.root d hd
  have hql := h.low d hd
  have hfl : ∀ i, i < n → (o.map (repl p q)).getD i 0 = repl p q (o.getD i 0) := fun i hi => getD_map (by rw [h.len]; exact hi)
  refine ⟨by rw [List.length_map]; exact h.len, fun i hi => ?_, fun i hi => ?_⟩
  · have hl := h.low i hi
    rw [hfl i hi]
    unfold repl
    split <;> omega
  · have hl := h.low i hi
    have hr := h.root i hi
    have hv : (o.getD i 0).toNat < n := by omega
    rw [hfl i hi]
    by_cases hp : o.getD i 0 = p
    · have e1 : repl p q (o.getD i 0) = q := by unfold repl; rw [if_pos hp]
      rw [e1, hfl _ (by omega), hqr]
      unfold repl
      split <;> rfl
    · have e1 : repl p q (o.getD i 0) = o.getD i 0 := by unfold repl; rw [if_neg hp]
      rw [e1, hfl _ hv, hr, e1]
def upto (n : Nat) : List Int := (List.range n).map fun i : Nat => (i : Int)
theorem upto_length (n : Nat) : (upto n).length = n := by simp [upto]
theorem upto_get {n i : Nat} (h : i < n) : (upto n).getD i 0 = (i : Int) := by
  unfold upto
  rw [List.getD_eq_getElem?_getD, List.getElem?_map, List.getElem?_range h]; rfl
theorem upto_succ (n : Nat) : upto (n + 1) = upto n ++ [(n : Int)] := by unfold upto; rw [List.range_succ, List.map_append]; rfl
theorem upto_least (n : Nat) : Least n (upto n) := ⟨upto_length n, fun i hi => by rw [upto_get hi]; omega, fun i hi => by rw [upto_get hi, Int.toNat_natCast, upto_get hi]⟩
theorem list_half {l l' : List Int} {f : Int → Int} {j : Nat} (hl : l'.length = l.length) (h1 : ∀ i, i < j → l'[i]? = (l.map f)[i]?) (hj : l.length ≤ j) : l' = l.map f := by
  apply List.ext_getElem?
  intro i
  by_cases hi : i < j
  · exact h1 i hi
  · rw [List.getElem?_eq_none (by omega), List.getElem?_eq_none (by rw [List.length_map]; omega)]
theorem half_step {l l' : List Int} {p q : Int} {j : Nat} (hl : l'.length = l.length) (hj : j < l.length) (h1 : ∀ i, i < j → l'[i]? = (l.map (repl p q))[i]?) (h2 : ∀ i, j ≤ i → l'[i]? = l[i]?) (d : Bool) (hd : d = decide (l'.getD j 0 = p)) :
    ((bif d then l'.set j q else l').length = l.length) ∧ (∀ i, i < j + 1 → (bif d then l'.set j q else l')[i]? = (l.map (repl p q))[i]?) ∧ (∀ i, j + 1 ≤ i → (bif d then l'.set j q else l')[i]? = l[i]?) := by
  have hg : l'.getD j 0 = l.getD j 0 := by rw [List.getD_eq_getElem?_getD, h2 j (Nat.le_refl _), ← List.getD_eq_getElem?_getD]
  have hs := getD_some (d := 0) hj
  cases d with
  | true =>
    have hp : l.getD j 0 = p := by rw [← hg]; exact of_decide_eq_true hd.symm
    refine ⟨by show (l'.set j q).length = _; rw [List.length_set]; exact hl, fun i hi => ?_, fun i hi => ?_⟩
    · show (l'.set j q)[i]? = _
      by_cases he : j = i
      · subst he
        rw [List.getElem?_set_self (by omega), List.getElem?_map, hs, hp]
        show _ = some (repl p q p)
        unfold repl
        rw [if_pos rfl]
      · rw [List.getElem?_set_ne he]; exact h1 i (by omega)
    · show (l'.set j q)[i]? = _
      rw [List.getElem?_set_ne (by omega)]; exact h2 i (by omega)
  | false =>
    have hp : l.getD j 0 ≠ p := by rw [← hg]; exact of_decide_eq_false hd.symm
    refine ⟨hl, fun i hi => ?_, fun i hi => h2 i (by omega)⟩
    show l'[i]? = _
    by_cases he : j = i
    · subst he
      rw [h2 j (Nat.le_refl _), List.getElem?_map, hs]
      show _ = some (repl p q _)
      unfold repl
      rw [if_neg hp]
    · exact h1 i (by omega)
end Go.Proofs.YtbjfinndngafoaaGreat
