/-
  Parts again: what joining pairs leaves; parts numbered in the order of their first members.
-/
import Derived.Test.YtbjfinndngafoaaGreatPlT1
set_option linter.unusedVariables false
set_option linter.unusedSimpArgs false
set_option linter.unusedSectionVars false
namespace Go.Proofs.YtbjfinndngafoaaGreat
open Go.RowKit
structure Parted (n : Nat) (J : List (Nat × Nat)) (s : List Int) : Prop where
  len : s.length = n
  inn : ∀ p, p ∈ J → p.1 < n ∧ p.2 < n
  one : ∀ p, p ∈ J → s.getD p.1 0 = s.getD p.2 0
  min : ∀ Q : Nat → Prop, (∀ p, p ∈ J → (Q p.1 ↔ Q p.2)) → ∀ i j, i < n → j < n → s.getD i 0 = s.getD j 0 → (Q i ↔ Q j)
theorem parted_upto (n : Nat) : Parted n [] (upto n) := by
  refine ⟨upto_length n, fun p h => (List.not_mem_nil h).elim, fun p h => (List.not_mem_nil h).elim, fun Q _ i j hi hj h => ?_⟩
  rw [upto_get hi, upto_get hj] at h
  have : i = j := by omega
  rw [this]
structure IsNum (n : Nat) (s c : List Int) : Prop where
  len : c.length = n
  first : ∀ i, i < n → isFirst s i = true → c.getD i 0 = (firstN s i : Int)
  same : ∀ i j, i < n → j < n → s.getD i 0 = s.getD j 0 → c.getD i 0 = c.getD j 0
theorem first_of (s : List Int) : ∀ i : Nat, ∃ j, j ≤ i ∧ isFirst s j = true ∧ s.getD j 0 = s.getD i 0 := by
  intro i
  induction i using Nat.strongRecOn with
  | _ i ih =>
    cases hf : isFirst s i with
    | true => exact ⟨i, Nat.le_refl _, hf, rfl⟩
    | false =>
      have : ¬ ∀ j, j < i → s.getD j 0 ≠ s.getD i 0 := fun h => by rw [isFirst_iff.2 h] at hf; cases hf
      obtain ⟨j, hj⟩ := Classical.not_forall.1 this
      obtain ⟨hj1, hj2⟩ := Classical.not_imp.1 hj
      obtain ⟨k, h1, h2, h3⟩ := ih j hj1
      exact ⟨k, by omega, h2, h3.trans (Classical.not_not.1 hj2)⟩
theorem firstN_mono (s : List Int) : ∀ {i j : Nat}, i ≤ j → firstN s i ≤ firstN s j
  | i, 0, h => by rw [Nat.le_zero.1 h]; exact Nat.le_refl _
  | i, j + 1, h => by
    rcases Nat.lt_or_eq_of_le h with h | h
    · have := firstN_mono s (Nat.le_of_lt_succ h)
      rw [firstN]; omega
    · rw [h]; exact Nat.le_refl _
theorem firstN_lt {s : List Int} {i j : Nat} (hf : isFirst s i = true) (h : i < j) : firstN s i < firstN s j := by
  have h1 := firstN_mono s (show i + 1 ≤ j from h)
  rw [firstN, if_pos hf] at h1
  omega
theorem firstN_inj {s : List Int} {i j : Nat} (hi : isFirst s i = true) (hj : isFirst s j = true) (h : firstN s i = firstN s j) : i = j := by
  rcases Nat.lt_trichotomy i j with h1 | h1 | h1
  · have := firstN_lt hi h1; omega
  · exact h1
  · have := firstN_lt hj h1; omega
theorem IsNum.at_ {n : Nat} {s c : List Int} (h : IsNum n s c) {i : Nat} (hi : i < n) : ∃ j, j ≤ i ∧ isFirst s j = true ∧ s.getD j 0 = s.getD i 0 ∧ c.getD i 0 = (firstN s j : Int) := by
  obtain ⟨j, h1, h2, h3⟩ := first_of s i
  exact ⟨j, h1, h2, h3, by rw [← h.first j (by omega) h2]; exact h.same i j hi (by omega) h3.symm⟩
theorem IsNum.uniq {n : Nat} {s c c' : List Int} (h : IsNum n s c) (h' : IsNum n s c') : c = c' := by
  apply List.ext_getElem?
  intro i
  by_cases hi : i < n
  · rw [getD_some (d := 0) (by rw [h.len]; exact hi), getD_some (d := 0) (by rw [h'.len]; exact hi)]
    obtain ⟨j, h1, h2, h3, h4⟩ := h.at_ hi
    rw [h4, ← h'.first j (by omega) h2, h'.same j i (by omega) hi h3]
  · rw [List.getElem?_eq_none (by rw [h.len]; omega), List.getElem?_eq_none (by rw [h'.len]; omega)]
theorem IsNum.range {n : Nat} {s c : List Int} (h : IsNum n s c) {i : Nat} (hi : i < n) : 0 ≤ c.getD i 0 ∧ c.getD i 0 < (firstN s n : Int) := by
  obtain ⟨j, h1, h2, h3, h4⟩ := h.at_ hi
  have := firstN_lt h2 (show j < n by omega)
  omega
theorem IsNum.inj {n : Nat} {s c : List Int} (h : IsNum n s c) {i j : Nat} (hi : i < n) (hj : j < n) (e : c.getD i 0 = c.getD j 0) : s.getD i 0 = s.getD j 0 := by
  obtain ⟨a, h1, h2, h3, h4⟩ := h.at_ hi
  obtain ⟨b, g1, g2, g3, g4⟩ := h.at_ hj
  have : a = b := firstN_inj h2 g2 (by omega)
  rw [← h3, ← g3, this]
theorem IsNum.onto {n : Nat} {s c : List Int} (h : IsNum n s c) : ∀ {m : Nat}, m ≤ n → ∀ {v : Nat}, v < firstN s m → ∃ i, i < m ∧ isFirst s i = true ∧ c.getD i 0 = (v : Int)
  | 0, _, v, hv => by cases hv
  | m + 1, hm, v, hv => by
    rw [firstN] at hv
    by_cases h1 : v < firstN s m
    · obtain ⟨i, g1, g2⟩ := h.onto (Nat.le_of_succ_le hm) h1
      exact ⟨i, by omega, g2⟩
    · by_cases hf : isFirst s m = true
      · rw [if_pos hf] at hv
        exact ⟨m, Nat.lt_succ_self _, hf, by rw [h.first m hm hf]; omega⟩
      · rw [if_neg hf] at hv; omega
theorem isFirst_same {n : Nat} {s o : List Int} (h : SameParts n s o) {i : Nat} (hi : i < n) : isFirst s i = isFirst o i := by
  rw [Bool.eq_iff_iff, isFirst_iff, isFirst_iff]
  constructor
  · intro h1 j hj e; exact h1 j hj ((h j i (by omega) hi).2 e)
  · intro h1 j hj e; exact h1 j hj ((h j i (by omega) hi).1 e)
theorem IsNum.congr {n : Nat} {s o c : List Int} (h : IsNum n s c) (hs : SameParts n s o) : IsNum n o c :=
  ⟨h.len, fun i hi hf => by rw [← firstN_same hs i (by omega)]; exact h.first i hi (by rw [isFirst_same hs hi]; exact hf), fun i j hi hj e => h.same i j hi hj ((hs i j hi hj).2 e)⟩
theorem Parted.same {n : Nat} {J : List (Nat × Nat)} {s o : List Int} (h : Parted n J s) (g : Parted n J o) : SameParts n s o := fun i j hi hj => by
  constructor
  · intro e
    exact ((h.min (fun x => o.getD x 0 = o.getD j 0) (fun p hp => by rw [g.one p hp]) i j hi hj e).2 rfl)
  · intro e
    exact ((g.min (fun x => s.getD x 0 = s.getD j 0) (fun p hp => by rw [h.one p hp]) i j hi hj e).2 rfl)
end Go.Proofs.YtbjfinndngafoaaGreat
