/-
  Sorting a few numbers and striking out what is twice: is any of them twice?
-/
import Derived.Test.YtdfiglhdjlmakaaGreatPlG3
set_option linter.unusedVariables false
set_option linter.unusedSimpArgs false
set_option linter.unusedSectionVars false
namespace Go.Proofs.YtdfiglhdjlmakaaGreat
open Go.RowKit
theorem less_int (x y : Int) : cmp_Less_int64.f x y = some (decide (x < y)) := by
  unfold cmp_Less_int64.f cmp_isNaN_int64.f
  simp
def SortedBut (x : List Int) (i j : Nat) : Prop := ∀ p q, p < q → q ≤ i → q ≠ j → x.getD p 0 ≤ x.getD q 0
def SortedTo (x : List Int) (i : Nat) : Prop := ∀ p q, p < q → q < i → x.getD p 0 ≤ x.getD q 0
theorem swap_perm {x : List Int} {j : Nat} (h : j + 1 < x.length) : ((x.set (j + 1) (x.getD j 0)).set j (x.getD (j + 1) 0)).Perm x := by
  have h1 : x.getD j 0 = x[j] := by rw [List.getD_eq_getElem?_getD, List.getElem?_eq_getElem (by omega)]; rfl
  have h2 : x.getD (j + 1) 0 = x[j + 1] := by rw [List.getD_eq_getElem?_getD, List.getElem?_eq_getElem h]; rfl
  rw [h1, h2]
  exact List.set_set_perm h (by omega)
theorem insertion (N : Nat) (hN : N ≤ 12) : ∀ (μ : Nat),
    (∀ (i : Nat) (x : List Int), 2 * N * (N - i) = μ → i ≤ N → 1 ≤ i → x.length = N → SortedTo x i → ∃ y : List Int, y.Perm x ∧ SortedTo y N ∧ Tends2 (fun K k => slices_insertionSortOrdered_int64.l1 K k 0 (N : Int) x (i : Int)) y) ∧
    (∀ (i j : Nat) (x : List Int), 2 * N * (N - i - 1) + j + 1 = μ → i < N → j ≤ i → x.length = N → SortedBut x i j → ∃ y : List Int, y.Perm x ∧ SortedTo y N ∧ Tends2 (fun K k => slices_insertionSortOrdered_int64.l4 K k 0 (N : Int) (i : Int) x (j : Int)) y) := by
  intro μ
  induction μ using Nat.strongRecOn with
  | _ μ ih =>
    have L4 : ∀ (i j : Nat) (x : List Int), 2 * N * (N - i - 1) + j + 1 = μ → i < N → j ≤ i → x.length = N → SortedBut x i j → ∃ y : List Int, y.Perm x ∧ SortedTo y N ∧ Tends2 (fun K k => slices_insertionSortOrdered_int64.l4 K k 0 (N : Int) (i : Int) x (j : Int)) y := by
      intro i j x hμ hi hj hx hs
      have hstop : SortedTo x (i + 1) → ∃ y : List Int, y.Perm x ∧ SortedTo y N ∧ Tends2 (fun K k => slices_insertionSortOrdered_int64.l1 K k 0 (N : Int) x ((i + 1 : Nat) : Int)) y := fun h => by
        refine (ih (2 * N * (N - (i + 1))) ?_).1 (i + 1) x rfl (by omega) (by omega) hx h
        rw [show N - (i + 1) = N - i - 1 by omega]
        omega
      cases j with
      | zero =>
        obtain ⟨y, h1, h2, h3⟩ := hstop (fun p q hpq hq => hs p q hpq (by omega) (by omega))
        refine ⟨y, h1, h2, Tends2.succ (Tends2.congr (fun K k => ?_) h3)⟩
        rw [slices_insertionSortOrdered_int64.l4, if_neg (by omega), w64_succ (by omega)]
      | succ j =>
        have hw : w64 (((j + 1 : Nat) : Int) - 1) = (j : Int) := by rw [w64_id (by omega) (by omega)]; omega
        have hstep : ∀ K k, slices_insertionSortOrdered_int64.l4 K (k + 1) 0 (N : Int) (i : Int) x ((j + 1 : Nat) : Int) = if decide (x.getD (j + 1) 0 < x.getD j 0) = true then slices_insertionSortOrdered_int64.l4 K k 0 (N : Int) (i : Int) ((x.set (j + 1) (x.getD j 0)).set j (x.getD (j + 1) 0)) (j : Int) else slices_insertionSortOrdered_int64.l1 K k 0 (N : Int) x ((i + 1 : Nat) : Int) := fun K k => by
          rw [slices_insertionSortOrdered_int64.l4, if_pos (by omega), if_pos (by omega), hw, if_pos (by omega), less_int, Option.bind_some, Int.toNat_natCast, Int.toNat_natCast, w64_succ (by omega), if_pos (show (0 : Int) ≤ (j : Int) ∧ (j : Int) < ((x.set (j + 1) (x.getD j 0)).length : Int) by rw [List.length_set]; omega)]
        by_cases hlt : x.getD (j + 1) 0 < x.getD j 0
        · have hg : ∀ q, ((x.set (j + 1) (x.getD j 0)).set j (x.getD (j + 1) 0)).getD q 0 = if q = j then x.getD (j + 1) 0 else if q = j + 1 then x.getD j 0 else x.getD q 0 := fun q => by
            rw [getD_setI (by rw [List.length_set]; omega), getD_setI (by omega)]
          obtain ⟨y, h1, h2, h3⟩ := (ih (2 * N * (N - i - 1) + j + 1) (by omega)).2 i j ((x.set (j + 1) (x.getD j 0)).set j (x.getD (j + 1) 0)) rfl hi (by omega) (by simp [hx]) (fun p q hpq hq hqj => by
            rw [hg p, hg q, if_neg hqj]
            by_cases e1 : q = j + 1
            · rw [if_pos e1]
              by_cases e2 : p = j
              · rw [if_pos e2]; omega
              · rw [if_neg e2, if_neg (by omega)]
                exact hs p j (by omega) (by omega) (by omega)
            · rw [if_neg e1]
              by_cases e2 : p = j
              · rw [if_pos e2]
                exact hs (j + 1) q (by omega) hq (by omega)
              · rw [if_neg e2]
                by_cases e3 : p = j + 1
                · rw [if_pos e3]
                  exact hs j q (by omega) hq (by omega)
                · rw [if_neg e3]
                  exact hs p q hpq hq (by omega))
          exact ⟨y, h1.trans (swap_perm (by omega)), h2, Tends2.succ (Tends2.congr hstep (Tends2.pos (decide_eq_true hlt) h3))⟩
        · obtain ⟨y, h1, h2, h3⟩ := hstop (fun p q hpq hq => by
            by_cases e1 : q = j + 1
            · subst e1
              by_cases e2 : p = j
              · subst e2; omega
              · have := hs p j (by omega) (by omega) (by omega)
                omega
            · exact hs p q hpq (by omega) e1)
          exact ⟨y, h1, h2, Tends2.succ (Tends2.congr hstep (Tends2.neg (by rw [decide_eq_false hlt]; decide) h3))⟩
    refine ⟨?_, L4⟩
    intro i x hμ hi h1i hx hs
    by_cases hlt : i < N
    · obtain ⟨y, h1, h2, h3⟩ := (ih (2 * N * (N - i - 1) + i + 1) (by
        have h5 : 2 * N * (N - i) = 2 * N * (N - i - 1) + 2 * N := by
          rw [show N - i = (N - i - 1) + 1 by omega, Nat.mul_succ, Nat.add_sub_cancel]
        omega)).2 i i x rfl hlt (Nat.le_refl _) hx (fun p q hpq hq hqi => hs p q hpq (by omega))
      refine ⟨y, h1, h2, Tends2.succ (Tends2.congr (fun K k => ?_) h3)⟩
      rw [slices_insertionSortOrdered_int64.l1, if_pos (by omega)]
    · obtain rfl : i = N := by omega
      refine ⟨x, List.Perm.refl _, hs, Tends2.succ (Tends2.congr (fun K k => ?_) (Tends2.const _))⟩
      rw [slices_insertionSortOrdered_int64.l1, if_neg (by omega)]
theorem insertion_f {x : List Int} (h1 : 1 ≤ x.length) (h12 : x.length ≤ 12) : ∃ y : List Int, y.Perm x ∧ SortedTo y x.length ∧ Tends (fun K => slices_insertionSortOrdered_int64.f K x 0 (x.length : Int)) y := by
  obtain ⟨y, g1, g2, g3⟩ := (insertion x.length h12 _).1 1 x rfl h1 (Nat.le_refl _) rfl (fun p q hpq hq => by omega)
  refine ⟨y, g1, g2, Tends.congr (fun K => ?_) g3.diag⟩
  rw [slices_insertionSortOrdered_int64.f]
  rfl
theorem len4 : ∃ r : Int, Tends (fun K => math_bits_Len.f K (IntKind.wrap .u64 ((4 : Nat) : Int))) r := by
  refine ⟨3, 10, fun K hK => ?_⟩
  obtain ⟨K, rfl⟩ : ∃ k, K = k + 3 := ⟨K - 3, by omega⟩
  have h4 : IntKind.wrap .u64 ((4 : Nat) : Int) = 4 := by decide
  rw [h4]
  show math_bits_Len.f (K + 3) 4 = some 3
  rw [math_bits_Len.f, math_bits_Len64.f, if_neg (by decide), math_bits_Len64.j1, if_neg (by decide), math_bits_Len64.j2, if_neg (by decide), math_bits_Len64.j3, if_pos (by decide)]
  rfl
theorem sort_f {x : List Int} (h : x.length = 4) : ∃ y : List Int, y.Perm x ∧ SortedTo y 4 ∧ Tends (fun K => slices_Sort_int64_int64.f K x) y := by
  obtain ⟨y, g1, g2, g3⟩ := insertion_f (x := x) (by omega) (by omega)
  obtain ⟨r, hr⟩ := len4
  have hyl : y.length = x.length := g1.length_eq
  rw [h] at g2
  refine ⟨y, g1, g2, ?_⟩
  unfold slices_Sort_int64_int64.f
  rw [h]
  rw [h] at g3 hyl
  refine Tends.bind hr (Tends.bind (a := y) ?_ (Tends.pos hyl (Tends.const _)))
  have hw : w64 ((4 : Nat) - 0 : Int) ≤ 12 := by decide
  have h2 : Tends2 (fun K k => slices_pdqsortOrdered_int64.l1 K k x 0 ((4 : Nat) : Int) r) y := by
    refine Tends2.succ (Tends2.congr (G := fun K k => (slices_insertionSortOrdered_int64.f K x 0 ((4 : Nat) : Int)).bind fun t9 => if t9.length = x.length then some t9 else none) (fun K k => ?_) (Tends2.bind g3.two (Tends2.pos (by rw [hyl, h]) (Tends2.const _))))
    rw [slices_pdqsortOrdered_int64.l1, if_pos hw]
  exact Tends.congr (fun K => rfl) h2.diag
theorem compact_l4 {N k0 : Nat} (hN : N ≤ 1000) (h0 : 1 ≤ k0) (hk0 : k0 < N) : ∀ (d k2 : Nat) (x : List Int) (k : Nat), N - k0 - k2 = d → 1 ≤ k2 → k2 ≤ N - k0 → x.length = N → k < k0 + k2 →
    ∃ y : List Int, y.length < N ∧ Tends2 (fun K n => slices_Compact_int64_int64.l4 K n (k0 : Int) x (k : Int) (k2 : Int)) y
  | 0, k2, x, k, hd, h1, h2, hx, hk => by
    have hl : ((x.take x.length).drop k0).length = N - k0 := by rw [List.length_drop, List.length_take, Nat.min_self, hx]
    have hl2 : ((x.take x.length).drop k).length = N - k := by rw [List.length_drop, List.length_take, Nat.min_self, hx]
    have ho : (over x k (List.replicate ((x.take x.length).drop k).length 0)).length = N := by rw [over_lenR (by rw [hl2, hx]; omega), hx]
    refine ⟨((over x k (List.replicate ((x.take x.length).drop k).length 0)).take k).drop 0, ?_, Tends2.succ (Tends2.congr (fun K n => ?_) (Tends2.const _))⟩
    · rw [List.drop_zero, List.length_take, ho]; omega
    · rw [slices_Compact_int64_int64.l4]
      simp only [Int.toNat_natCast]
      rw [if_pos (by omega), if_neg (by rw [hl]; omega), if_pos (by omega), if_pos (by rw [ho]; omega)]
  | d + 1, k2, x, k, hd, h1, h2, hx, hk => by
    have hl : ((x.take x.length).drop k0).length = N - k0 := by rw [List.length_drop, List.length_take, Nat.min_self, hx]
    have hw : w64 ((k2 : Int) - 1) = ((k2 - 1 : Nat) : Int) := by rw [w64_id (by omega) (by omega)]; omega
    have hstep : ∀ K n, slices_Compact_int64_int64.l4 K (n + 1) (k0 : Int) x (k : Int) (k2 : Int) = if ((x.take x.length).drop k0).getD k2 0 = ((x.take x.length).drop k0).getD (k2 - 1) 0 then slices_Compact_int64_int64.l4 K n (k0 : Int) x (k : Int) ((k2 + 1 : Nat) : Int) else slices_Compact_int64_int64.l4 K n (k0 : Int) (x.set k (((x.take x.length).drop k0).getD k2 0)) ((k + 1 : Nat) : Int) ((k2 + 1 : Nat) : Int) := fun K n => by
      have hA : (0 : Int) ≤ k ∧ (k : Int) < (x.length : Int) := by omega
      have hB : (0 : Int) ≤ k0 ∧ (k0 : Int) ≤ ((x.set k (((x.take x.length).drop k0).getD k2 0)).length : Int) := by rw [List.length_set]; omega
      rw [slices_Compact_int64_int64.l4]
      simp only [Int.toNat_natCast, hw, w64_succ (show k2 < 4611686018427387904 by omega), w64_succ (show k < 4611686018427387904 by omega)]
      rw [if_pos (by omega), if_pos (by rw [hl]; omega), if_pos (by rw [hl]; omega), if_pos (by rw [hl]; omega)]
      simp only [if_pos hA, if_pos hB]
    by_cases e : ((x.take x.length).drop k0).getD k2 0 = ((x.take x.length).drop k0).getD (k2 - 1) 0
    · obtain ⟨y, g1, g2⟩ := compact_l4 hN h0 hk0 d (k2 + 1) x k (by omega) (by omega) (by omega) hx (by omega)
      exact ⟨y, g1, Tends2.succ (Tends2.congr hstep (Tends2.pos e g2))⟩
    · obtain ⟨y, g1, g2⟩ := compact_l4 hN h0 hk0 d (k2 + 1) (x.set k (((x.take x.length).drop k0).getD k2 0)) (k + 1) (by omega) (by omega) (by omega) (by rw [List.length_set]; exact hx) (by omega)
      exact ⟨y, g1, Tends2.succ (Tends2.congr hstep (Tends2.neg e g2))⟩
theorem compact_l1 {s : List Int} (hN : s.length ≤ 1000) : ∀ (d k : Nat), s.length - k = d → 1 ≤ k → k ≤ s.length → ∃ y : List Int, Tends2 (fun K n => slices_Compact_int64_int64.l1 K n s (k : Int)) y ∧ (y.length < s.length ↔ ∃ j, k ≤ j ∧ j < s.length ∧ s.getD j 0 = s.getD (j - 1) 0)
  | 0, k, hd, h1, h2 => by
    refine ⟨s, Tends2.succ (Tends2.congr (fun K n => ?_) (Tends2.const _)), ⟨fun h => absurd h (Nat.lt_irrefl _), fun ⟨j, a, b, _⟩ => by omega⟩⟩
    rw [slices_Compact_int64_int64.l1, if_neg (by omega)]
  | d + 1, k, hd, h1, h2 => by
    have hw : w64 ((k : Int) - 1) = ((k - 1 : Nat) : Int) := by rw [w64_id (by omega) (by omega)]; omega
    have hstep : ∀ K n, slices_Compact_int64_int64.l1 K (n + 1) s (k : Int) = if s.getD k 0 = s.getD (k - 1) 0 then slices_Compact_int64_int64.l4 K n (k : Int) s (k : Int) ((1 : Nat) : Int) else slices_Compact_int64_int64.l1 K n s ((k + 1 : Nat) : Int) := fun K n => by
      rw [slices_Compact_int64_int64.l1, if_pos (by omega), if_pos (by omega), hw, if_pos (by omega), Int.toNat_natCast, Int.toNat_natCast, if_pos (show (0 : Int) ≤ k ∧ (k : Int) ≤ (s.length : Int) by omega), w64_succ (by omega)]
      rfl
    by_cases e : s.getD k 0 = s.getD (k - 1) 0
    · obtain ⟨y, g1, g2⟩ := compact_l4 hN h1 (show k < s.length by omega) (s.length - k - 1) 1 s k rfl (Nat.le_refl _) (by omega) rfl (by omega)
      exact ⟨y, Tends2.succ (Tends2.congr hstep (Tends2.pos e g2)), ⟨fun _ => ⟨k, Nat.le_refl _, by omega, e⟩, fun _ => g1⟩⟩
    · obtain ⟨y, g1, g2⟩ := compact_l1 hN d (k + 1) (by omega) (by omega) (by omega)
      refine ⟨y, Tends2.succ (Tends2.congr hstep (Tends2.neg e g1)), g2.trans ⟨fun ⟨j, a, b, c⟩ => ⟨j, by omega, b, c⟩, fun ⟨j, a, b, c⟩ => ⟨j, ?_, b, c⟩⟩⟩
      rcases Nat.lt_or_ge k j with h | h
      · exact h
      · obtain rfl : j = k := by omega
        exact absurd c e
theorem compact_f {s : List Int} (hN : s.length ≤ 1000) (h2 : 2 ≤ s.length) : ∃ y : List Int, Tends (fun K => slices_Compact_int64_int64.f K s) y ∧ (y.length < s.length ↔ ∃ j, 1 ≤ j ∧ j < s.length ∧ s.getD j 0 = s.getD (j - 1) 0) := by
  obtain ⟨y, g1, g2⟩ := compact_l1 hN (s.length - 1) 1 rfl (Nat.le_refl _) (by omega)
  refine ⟨y, Tends.congr (fun K => ?_) g1.diag, g2⟩
  rw [slices_Compact_int64_int64.f, if_neg (by omega)]
  rfl
theorem kink_f (A B C D S : Int) : Tends (fun K => impl_isKink.f K A B C D S) (decide (¬ ([A, B, C, D] : List Int).Nodup)) := by
  obtain ⟨y, h1, h2, h3⟩ := sort_f (x := [A, B, C, D]) rfl
  have hy : y.length = 4 := h1.length_eq
  obtain ⟨z, g1, g2⟩ := compact_f (s := y) (by omega) (by omega)
  have hiff : (z.length < 4) ↔ ¬ ([A, B, C, D] : List Int).Nodup := by
    rw [← hy, g2, ← h1.nodup_iff]
    constructor
    · rintro ⟨j, a, b, c⟩ hnd
      rw [List.getD_eq_getElem?_getD, List.getD_eq_getElem?_getD, List.getElem?_eq_getElem b, List.getElem?_eq_getElem (show j - 1 < y.length by omega)] at c
      exact List.pairwise_iff_getElem.1 hnd (j - 1) j (by omega) b (by omega) (Option.some.inj (by simpa using c.symm))
    · intro hnd
      apply Classical.byContradiction
      intro hno
      refine hnd (List.pairwise_iff_getElem.2 (fun i j hi hj hij e => hno ⟨j, by omega, hj, ?_⟩))
      have e1 : y.getD i 0 = y.getD j 0 := by rw [List.getD_eq_getElem?_getD, List.getD_eq_getElem?_getD, List.getElem?_eq_getElem hi, List.getElem?_eq_getElem hj, e]
      have e2 : y.getD (j - 1) 0 ≤ y.getD j 0 := h2 (j - 1) j (by omega) (by omega)
      have e3 : y.getD i 0 ≤ y.getD (j - 1) 0 := by
        by_cases e4 : i = j - 1
        · rw [e4]; exact Int.le_refl _
        · exact h2 i (j - 1) (by omega) (by omega)
      omega
  unfold impl_isKink.f impl_Crossing_ends.f
  simp only [bind4, Option.bind_some]
  refine Tends.bind h3 (Tends.pos hy (Tends.bind g1 ?_))
  refine Tends.congr (fun K => ?_) (Tends.const _)
  congr 1
  rw [decide_eq_decide, ← hiff]
  omega
end Go.Proofs.YtdfiglhdjlmakaaGreat
