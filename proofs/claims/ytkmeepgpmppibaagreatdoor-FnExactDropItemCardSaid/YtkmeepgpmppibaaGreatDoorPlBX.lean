/-
  What is left of a row out of which a part is cut.
-/
import Derived.Test.YtkmeepgpmppibaaGreatDoorSlP
set_option linter.unusedVariables false
set_option linter.unusedSimpArgs false
namespace Go.Proofs.YtkmeepgpmppibaaGreatDoor
open Go.RowKit
theorem range_cut {n j : Nat} (h : j ≤ n) : List.range n = List.range j ++ List.range' j (n - j) := by
  rw [List.range_eq_range', List.range_eq_range']
  have := @List.range'_append 0 j (n - j) 1
  rw [Nat.zero_add, Nat.one_mul] at this
  rw [this, show j + (n - j) = n by omega]
theorem map_take {α : Type} (z : α) (xs : List α) {i : Nat} (h : i ≤ xs.length) : (List.range i).map (fun k => xs.getD k z) = xs.take i := by
  apply List.ext_getElem?
  intro k
  rw [List.getElem?_map, List.getElem?_take]
  by_cases hk : k < i
  · rw [if_pos hk, List.getElem?_range hk, Option.map_some, List.getD_eq_getElem?_getD, List.getElem?_eq_getElem (by omega)]; rfl
  · rw [if_neg hk, List.getElem?_eq_none (by rw [List.length_range]; omega)]; rfl
theorem map_drop {α : Type} (z : α) (xs : List α) {j : Nat} (h : j ≤ xs.length) : (List.range' j (xs.length - j)).map (fun k => xs.getD k z) = xs.drop j := by
  apply List.ext_getElem?
  intro k
  rw [List.getElem?_map, List.getElem?_drop]
  by_cases hk : k < xs.length - j
  · rw [List.getElem?_range' hk, Option.map_some, Nat.one_mul, List.getD_eq_getElem?_getD, List.getElem?_eq_getElem (by omega)]; rfl
  · rw [List.getElem?_eq_none (by rw [List.length_range']; omega), List.getElem?_eq_none (by omega)]; rfl
theorem pick_del {α : Type} (z : α) (xs : List α) {i j : Nat} (hij : i ≤ j) (hj : j ≤ xs.length) : pickT z xs ((allRows xs.length).take i ++ (allRows xs.length).drop j) = some (xs.take i ++ xs.drop j) := by
  have h1 : (allRows xs.length).take i = (List.range i).map some := by
    unfold allRows
    rw [range_cut (show i ≤ xs.length by omega), List.map_append, List.take_left' (by simp)]
  have h2 : (allRows xs.length).drop j = (List.range' j (xs.length - j)).map some := by
    unfold allRows
    rw [range_cut hj, List.map_append, List.drop_left' (by simp)]
  rw [h1, h2, ← List.map_append]
  have hm : ((List.range i ++ List.range' j (xs.length - j)).map some).map (·.getD 0) = List.range i ++ List.range' j (xs.length - j) := by
    rw [List.map_map]
    exact List.map_id'' (fun _ => rfl) _
  unfold pickT
  rw [hm, if_pos, List.map_append, map_take z xs (by omega), map_drop z xs hj]
  refine ⟨rfl, List.pairwise_append.2 ⟨List.pairwise_lt_range, List.pairwise_lt_range' .., fun a ha b hb => ?_⟩, fun k hk => ?_⟩
  · have := List.mem_range.1 ha
    have := (List.mem_range'_1.1 hb).1
    omega
  · rcases List.mem_append.1 hk with hk | hk
    · have := List.mem_range.1 hk; omega
    · have := (List.mem_range'_1.1 hk).2; omega
theorem over_del {α : Type} {xs : List α} {i j : Nat} (hij : i ≤ j) (hj : j ≤ xs.length) : (over xs i (xs.drop j)).take (i + (xs.length - j)) = xs.take i ++ xs.drop j := by
  unfold over
  exact List.take_left' (by rw [List.length_append, List.length_take, List.length_drop]; omega)
theorem over_del2 {α : Type} {xs zs : List α} {i j : Nat} (hij : i ≤ j) (hj : j ≤ xs.length) : (over (over xs i (xs.drop j)) (i + (xs.length - j)) zs).take (i + (xs.length - j)) = xs.take i ++ xs.drop j := by
  rw [← over_del hij hj]
  have hl : (over xs i (xs.drop j)).length = xs.length := over_length (by rw [List.length_drop]; omega)
  generalize hY : over xs i (xs.drop j) = ys at hl ⊢
  unfold over
  rw [List.append_assoc]
  exact List.take_left' (by rw [List.length_take]; omega)
end Go.Proofs.YtkmeepgpmppibaaGreatDoor
