/-
  Triangles; the rows that a deletion leaves.
-/
import Derived.Test.YtdfiglhdjlmakaaGreatPlQ
set_option linter.unusedVariables false
set_option linter.unusedSimpArgs false
set_option linter.unusedSectionVars false
namespace Go.Proofs.YtdfiglhdjlmakaaGreat
open Go.RowKit
def tri (r : List Int) : Bool := decide (r.length = 3 ∧ w64 ((r.getD 0 0).tdiv 4) ≠ w64 ((r.getD 1 0).tdiv 4) ∧ w64 ((r.getD 0 0).tdiv 4) ≠ w64 ((r.getD 2 0).tdiv 4) ∧ w64 ((r.getD 1 0).tdiv 4) ≠ w64 ((r.getD 2 0).tdiv 4)) && (pureAt r 0 && pureAt r 1)
theorem tri_spec (r : List Int) (hr : r.length ≤ 1000) : Tends (fun K => spec_l27Triangle.f K r) (tri r) := by
  unfold spec_l27Triangle.f tri
  by_cases h3 : r.length = 3
  rotate_left
  · rw [decide_eq_false (fun h => h3 h.1), Bool.false_and]
    exact Tends.neg (by omega) (Tends.const _)
  refine Tends.pos (by omega) (Tends.pos (by omega) (Tends.pos (by omega) ?_))
  by_cases h1 : w64 ((r.getD 0 0).tdiv 4) = w64 ((r.getD 1 0).tdiv 4)
  · rw [decide_eq_false (fun h => h.2.1 h1), Bool.false_and]
    exact Tends.pos h1 (Tends.const _)
  refine Tends.neg h1 (Tends.pos (by omega) ?_)
  by_cases h2 : w64 ((r.getD 0 0).tdiv 4) = w64 ((r.getD 2 0).tdiv 4)
  · rw [decide_eq_false (fun h => h.2.2.1 h2), Bool.false_and]
    exact Tends.pos h2 (Tends.const _)
  refine Tends.neg h2 ?_
  by_cases h4 : w64 ((r.getD 1 0).tdiv 4) = w64 ((r.getD 2 0).tdiv 4)
  · rw [decide_eq_false (fun h => h.2.2.2 h4), Bool.false_and]
    exact Tends.pos h4 (Tends.const _)
  refine Tends.neg h4 ?_
  rw [decide_eq_true ⟨h3, h1, h2, h4⟩, Bool.true_and]
  refine Tends.bind (edges_f r hr) (Tends.bind (pure_f r hr 0) ?_)
  cases hp : pureAt r 0
  · exact Tends.neg (by decide) (Tends.const _)
  · exact Tends.pos rfl (Tends.bind (pure_f r hr 1) (Tends.const _))
theorem tri_step {r : List Int} {i : Nat} (hi : i < 3) (h3 : r.length = 3) {a b : Nat} (ha : a < 1000000) (hra : r.getD i 0 = (a : Int)) (hrb : r.getD ((i + 1) % 3) 0 = (b : Int)) (u l : Bool) {R : Bool}
    (h : Tends2 (fun K k => impl_isTriangle.l1 K k r (u || (decide (lev1 (a : Int) = 1) && decide (lev0 (b : Int) = 1))) (l || (!decide (lev1 (a : Int) = 1) && !decide (lev0 (b : Int) = 1))) ((i + 1 : Nat) : Int)) R) :
    Tends2 (fun K k => impl_isTriangle.l1 K k r u l (i : Int)) R := by
  have hm : (w64 ((i : Int) + 1)).tmod 3 = (((i + 1) % 3 : Nat) : Int) := by rw [w64_succ (by omega)]; rfl
  have hlt : (i + 1) % 3 < 3 := Nat.mod_lt _ (by decide)
  have hj : ∀ K k (u' : Bool), impl_isTriangle.j4 K (k + 1) r l (i : Int) (decide (lev1 (a : Int) = 1)) (decide (lev0 (b : Int) = 1)) u' = impl_isTriangle.l1 K k r u' (l || (!decide (lev1 (a : Int) = 1) && !decide (lev0 (b : Int) = 1))) ((i + 1 : Nat) : Int) := fun K k u' => by
    rw [impl_isTriangle.j4, w64_succ (by omega)]
    cases l <;> cases decide (lev1 (a : Int) = 1) <;> rfl
  refine Tends2.succ (Tends2.congr (G := fun K k => impl_isTriangle.j4 K k r l (i : Int) (decide (lev1 (a : Int) = 1)) (decide (lev0 (b : Int) = 1)) (u || (decide (lev1 (a : Int) = 1) && decide (lev0 (b : Int) = 1)))) (fun K k => ?_) (Tends2.succ (Tends2.congr (fun K k => hj K k _) h)))
  rw [impl_isTriangle.l1, if_pos (by omega), if_pos (by omega), Int.toNat_natCast, hra, upper1 ha, Option.bind_some, hm, if_pos (by omega), Int.toNat_natCast, hrb, upper0, Option.bind_some]
  cases u <;> cases decide (lev1 (a : Int) = 1) <;> rfl
theorem tri_impl (r : List Int) (hr : ∀ k, k ∈ r → ∃ j : Nat, k = (j : Int) ∧ j < 1000) : Tends (fun K => impl_isTriangle.f K r) (tri r) := by
  unfold impl_isTriangle.f tri
  by_cases h3 : r.length = 3
  rotate_left
  · rw [decide_eq_false (fun h => h3 h.1), Bool.false_and]
    exact Tends.neg (by omega) (Tends.const _)
  refine Tends.pos (by omega) (Tends.pos (by omega) (Tends.pos (by omega) ?_))
  by_cases h1 : w64 ((r.getD 0 0).tdiv 4) = w64 ((r.getD 1 0).tdiv 4)
  · rw [decide_eq_false (fun h => h.2.1 h1), Bool.false_and]
    exact Tends.pos h1 (Tends.const _)
  refine Tends.neg h1 (Tends.pos (by omega) ?_)
  by_cases h4 : w64 ((r.getD 1 0).tdiv 4) = w64 ((r.getD 2 0).tdiv 4)
  · rw [decide_eq_false (fun h => h.2.2.2 h4), Bool.false_and]
    exact Tends.pos h4 (Tends.const _)
  refine Tends.neg h4 ?_
  by_cases h2 : w64 ((r.getD 2 0).tdiv 4) = w64 ((r.getD 0 0).tdiv 4)
  · rw [decide_eq_false (fun h => h.2.2.1 h2.symm), Bool.false_and]
    exact Tends.pos h2 (Tends.const _)
  refine Tends.neg h2 ?_
  rw [decide_eq_true ⟨h3, h1, fun e => h2 e.symm, h4⟩, Bool.true_and]
  have hget : ∀ i, i < 3 → ∃ j : Nat, r.getD i 0 = (j : Int) ∧ j < 1000 := fun i hi => by
    obtain ⟨j, hj⟩ := hr (r.getD i 0) (by rw [List.getD_eq_getElem?_getD, List.getElem?_eq_getElem (show i < r.length by omega)]; exact List.getElem_mem _)
    exact ⟨j, hj⟩
  obtain ⟨a, ha, ha'⟩ := hget 0 (by decide)
  obtain ⟨b, hb, hb'⟩ := hget 1 (by decide)
  obtain ⟨c, hc, hc'⟩ := hget 2 (by decide)
  have hE : edgesOf r = [(lev1 (a : Int), lev0 (b : Int)), (lev1 (b : Int), lev0 (c : Int)), (lev1 (c : Int), lev0 (a : Int))] := by
    unfold edgesOf edgeOf
    rw [h3]
    show [(lev1 (r.getD 0 0), lev0 (r.getD 1 0)), (lev1 (r.getD 1 0), lev0 (r.getD 2 0)), (lev1 (r.getD 2 0), lev0 (r.getD 0 0))] = _
    rw [ha, hb, hc]
  have hres : ∀ u l : Bool, Tends2 (fun K k => impl_isTriangle.l1 K k r u l ((2 + 1 : Nat) : Int)) (l && u) := fun u l => by
    refine Tends2.succ (Tends2.congr (fun K k => ?_) (Tends2.const _))
    rw [impl_isTriangle.l1, if_neg (by omega)]
    cases u <;> cases l <;> rfl
  have h := tri_step (i := 0) (by decide) h3 (b := b) (by omega) ha hb false false (tri_step (i := 1) (by decide) h3 (b := c) (by omega) hb hc _ _ (tri_step (i := 2) (by decide) h3 (b := a) (by omega) hc ha _ _ (hres _ _)))
  have hp : (pureAt r 0 && pureAt r 1) = (((((false || (!decide (lev1 (a : Int) = 1) && !decide (lev0 (b : Int) = 1))) || (!decide (lev1 (b : Int) = 1) && !decide (lev0 (c : Int) = 1))) || (!decide (lev1 (c : Int) = 1) && !decide (lev0 (a : Int) = 1)))) && (((false || (decide (lev1 (a : Int) = 1) && decide (lev0 (b : Int) = 1))) || (decide (lev1 (b : Int) = 1) && decide (lev0 (c : Int) = 1))) || (decide (lev1 (c : Int) = 1) && decide (lev0 (a : Int) = 1)))) := by
    unfold pureAt
    rw [hE]
    simp only [List.any_cons, List.any_nil, lev1_01 (show a < 1000000 by omega), lev1_01 (show b < 1000000 by omega), lev1_01 (show c < 1000000 by omega), lev0_01, Bool.or_false, Bool.false_or, Bool.or_assoc]
  rw [hp]
  exact h.diag
def kept (R : List (List Int)) (j : Nat) : List Nat := (List.range j).filter fun k => tri (R.getD k [])
theorem kept_succ (R : List (List Int)) (j : Nat) : kept R (j + 1) = kept R j ++ (if tri (R.getD j []) = true then [j] else []) := by
  unfold kept
  rw [List.range_succ, List.filter_append]
  congr 1
  by_cases h : tri (R.getD j []) = true
  · rw [if_pos h, List.filter_cons_of_pos (p := fun k => tri (R.getD k [])) h]; rfl
  · rw [if_neg h, List.filter_cons_of_neg (p := fun k => tri (R.getD k [])) h]; rfl
theorem kept_le (R : List (List Int)) (j : Nat) : (kept R j).length ≤ j := by
  unfold kept
  exact Nat.le_trans (List.length_filter_le _ _) (by simp)
theorem kept_all (R : List (List Int)) : (kept R R.length).map (fun k => R.getD k []) = R.filter tri := by
  have h : ∀ j, j ≤ R.length → (kept R j).map (fun k => R.getD k []) = (R.take j).filter tri := by
    intro j
    induction j with
    | zero => intro _; rfl
    | succ j ih =>
      intro hj
      have hlt : j < R.length := by omega
      have hg : R.getD j [] = R[j] := by rw [List.getD_eq_getElem?_getD, List.getElem?_eq_getElem hlt]; rfl
      rw [kept_succ, List.map_append, ih (by omega), List.take_add_one, List.getElem?_eq_getElem hlt, List.filter_append, hg]
      congr 1
      by_cases ht : tri R[j] = true
      · rw [if_pos ht]
        show [R.getD j []] = List.filter tri [R[j]]
        rw [hg, List.filter_cons_of_pos ht]; rfl
      · rw [if_neg ht]
        show [] = List.filter tri [R[j]]
        rw [List.filter_cons_of_neg ht]; rfl
  rw [h R.length (Nat.le_refl _), List.take_length]
section
variable {R : List (List Int)} (hR : R.length ≤ 1000) (hr : ∀ r, r ∈ R → ∀ k, k ∈ r → ∃ j : Nat, k = (j : Int) ∧ j < 1000)
include hR hr
theorem fn1_f {i : Nat} (hi : i < R.length) : Tends (fun K => impl_Diagram_triangles_fn1.f K (R.getD i [])) (!tri (R.getD i [])) := by
  unfold impl_Diagram_triangles_fn1.f
  refine Tends.bind (tri_impl _ (hr _ ?_)) (Tends.const _)
  rw [List.getD_eq_getElem?_getD, List.getElem?_eq_getElem hi]
  exact List.getElem_mem hi
theorem del_l1 : ∀ (d j : Nat) (idx : List (Option Nat)), R.length - j = d → j ≤ R.length → idx.length = R.length → idx.take (kept R j).length = (kept R j).map some → (∀ m, j ≤ m → m < R.length → idx[m]? = some (some m)) →
    Tends2 (fun K k => slices_DeleteFunc_int64_int64_123.l1 K k R idx ((kept R j).length : Int) (j : Int)) (R.filter tri)
  | 0, j, idx, hd, hj, hl, ht, hm => by
    obtain rfl : j = R.length := by omega
    have hk := kept_le R R.length
    refine Tends2.succ (Tends2.congr (fun K k => ?_) (Tends2.const _))
    have htake : (over idx (kept R R.length).length (List.replicate ((idx.take idx.length).drop (kept R R.length).length).length none)).take (kept R R.length).length = (kept R R.length).map some := by
      unfold over
      rw [List.append_assoc, List.take_append_of_le_length (by rw [List.length_take]; omega), List.take_take, Nat.min_self, ht]
    have hmm : ((kept R R.length).map some).map (fun o : Option Nat => o.getD 0) = kept R R.length := by
      rw [List.map_map]
      exact (List.map_congr_left (fun _ _ => rfl)).trans (List.map_id _)
    rw [slices_DeleteFunc_int64_int64_123.l1, if_neg (by omega), if_pos (by omega), Int.toNat_natCast, if_pos, htake]
    · unfold pickRows
      rw [hmm, if_pos ⟨rfl, (List.pairwise_lt_range).filter _, fun k hk => by
        have := (List.mem_filter.1 hk).1
        exact List.mem_range.1 this⟩, Option.bind_some, kept_all]
    · rw [over_length (by rw [List.length_replicate, List.length_drop, List.length_take]; omega)]
      omega
  | d + 1, j, idx, hd, hj, hl, ht, hm => by
    have hlt : j < R.length := by omega
    have hk := kept_le R j
    have hget : idx.getD j none = some j := by rw [List.getD_eq_getElem?_getD, hm j (Nat.le_refl _) hlt]; rfl
    have hstep : ∀ K k, slices_DeleteFunc_int64_int64_123.l1 K (k + 1) R idx ((kept R j).length : Int) (j : Int) = (impl_Diagram_triangles_fn1.f K (R.getD j [])).bind fun t46 => if t46 = true then slices_DeleteFunc_int64_int64_123.l1 K k R idx ((kept R j).length : Int) ((j + 1 : Nat) : Int) else slices_DeleteFunc_int64_int64_123.l1 K k R (idx.set (kept R j).length (some j)) (((kept R j).length + 1 : Nat) : Int) ((j + 1 : Nat) : Int) := fun K k => by
      rw [slices_DeleteFunc_int64_int64_123.l1, if_pos (by omega), if_pos (by omega), Int.toNat_natCast, hget, Option.bind_some, if_pos hlt, w64_succ (by omega), Int.toNat_natCast, w64_succ (by omega), if_pos (show (0 : Int) ≤ ((kept R j).length : Int) ∧ ((kept R j).length : Int) < (idx.length : Int) by omega)]
    refine Tends2.succ (Tends2.congr hstep (Tends2.bind (fn1_f hR hr hlt).two ?_))
    cases htr : tri (R.getD j [])
    · have hs := kept_succ R j
      rw [htr, if_neg (by decide), List.append_nil] at hs
      have ih := del_l1 d (j + 1) idx (by omega) (by omega) hl (by rw [hs]; exact ht) (fun m h1 h2 => hm m (by omega) h2)
      rw [hs] at ih
      exact Tends2.pos rfl ih
    · have hs := kept_succ R j
      rw [htr, if_pos rfl] at hs
      have hsl : (kept R (j + 1)).length = (kept R j).length + 1 := by rw [hs, List.length_append]; rfl
      have ih := del_l1 d (j + 1) (idx.set (kept R j).length (some j)) (by omega) (by omega) (by rw [List.length_set]; exact hl) (by
        rw [hsl, List.take_add_one, List.getElem?_set_self (by omega), List.take_set_of_le (Nat.le_refl _), ht, hs, List.map_append]
        rfl) (fun m h1 h2 => by rw [List.getElem?_set_ne (by omega)]; exact hm m (by omega) h2)
      rw [hsl] at ih
      exact Tends2.neg (by decide) ih
theorem index_l1 : ∀ (d i : Nat), R.length - i = d → i ≤ R.length → (∀ m, m < i → tri (R.getD m []) = true) → ∃ r : Int, Tends2 (fun K k => slices_IndexFunc_int64_int64_123.l1 K k R (i : Int)) r ∧ ((r = -1 ∧ ∀ m, m < R.length → tri (R.getD m []) = true) ∨ ∃ n : Nat, r = (n : Int) ∧ n < R.length ∧ tri (R.getD n []) = false ∧ ∀ m, m < n → tri (R.getD m []) = true)
  | 0, i, hd, hi, hm => by
    obtain rfl : i = R.length := by omega
    refine ⟨-1, Tends2.succ (Tends2.congr (fun K k => ?_) (Tends2.const _)), .inl ⟨rfl, hm⟩⟩
    rw [slices_IndexFunc_int64_int64_123.l1, if_neg (by omega)]
  | d + 1, i, hd, hi, hm => by
    have hlt : i < R.length := by omega
    have hstep : ∀ K k, slices_IndexFunc_int64_int64_123.l1 K (k + 1) R (i : Int) = (impl_Diagram_triangles_fn1.f K (R.getD i [])).bind fun t18 => if t18 = true then some (i : Int) else slices_IndexFunc_int64_int64_123.l1 K k R ((i + 1 : Nat) : Int) := fun K k => by
      rw [slices_IndexFunc_int64_int64_123.l1, if_pos (by omega), if_pos (by omega), Int.toNat_natCast, w64_succ (by omega)]
    cases htr : tri (R.getD i [])
    · refine ⟨(i : Int), Tends2.succ (Tends2.congr hstep (Tends2.bind (fn1_f hR hr hlt).two ?_)), .inr ⟨i, rfl, hlt, htr, hm⟩⟩
      rw [htr]
      exact Tends2.pos rfl (Tends2.const _)
    · obtain ⟨r, h1, h2⟩ := index_l1 d (i + 1) (by omega) (by omega) (fun m h => by
        by_cases h' : m < i
        · exact hm m h'
        · obtain rfl : m = i := by omega
          exact htr)
      refine ⟨r, Tends2.succ (Tends2.congr hstep (Tends2.bind (fn1_f hR hr hlt).two ?_)), h2⟩
      rw [htr]
      exact Tends2.neg (by decide) h1
theorem del_f : Tends (fun K => slices_DeleteFunc_int64_int64_123.f K R) (R.filter tri) := by
  obtain ⟨r, h1, h2⟩ := index_l1 hR hr R.length 0 rfl (Nat.zero_le _) (fun m h => absurd h (Nat.not_lt_zero _))
  unfold slices_DeleteFunc_int64_int64_123.f
  refine Tends.bind (a := r) (Tends.congr (fun K => rfl) h1.diag) ?_
  rcases h2 with ⟨rfl, h2⟩ | ⟨n, rfl, hn, hf, hm⟩
  · have : R.filter tri = R := List.filter_eq_self.2 (fun x hx => by
      obtain ⟨i, hi, rfl⟩ := List.getElem_of_mem hx
      have := h2 i hi
      rwa [List.getD_eq_getElem?_getD, List.getElem?_eq_getElem hi] at this)
    rw [this]
    exact Tends.pos rfl (Tends.const _)
  · refine Tends.neg (by omega) ?_
    have hkn : kept R n = List.range n := List.filter_eq_self.2 (fun k hk => hm k (List.mem_range.1 hk))
    have hk1 : kept R (n + 1) = List.range n := by rw [kept_succ, hkn, hf, if_neg (by decide), List.append_nil]
    have h := del_l1 hR hr (R.length - (n + 1)) (n + 1) (allRows R.length) rfl (by omega) (allRows_length _) (by
      rw [hk1]
      unfold allRows
      rw [List.length_range, ← List.map_take, List.take_range, Nat.min_eq_left (by omega)]) (fun m h1 h2 => by
      unfold allRows
      rw [List.getElem?_map, List.getElem?_range h2]; rfl)
    rw [hk1, List.length_range] at h
    rw [w64_succ (by omega)]
    exact h.diag
end
end Go.Proofs.YtdfiglhdjlmakaaGreat
