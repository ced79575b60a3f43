/-
  Copies of lists and stacks; a list pushed onto a stack; sizes.
-/
import Derived.Test.YtkmeepgpmppibaaGreatDoorPlBO
set_option linter.unusedVariables false
set_option linter.unusedSimpArgs false
namespace Go.Proofs.YtkmeepgpmppibaaGreatDoor
open Go.RowKit
theorem own_list {xs : List GItem} (hn : xs.length ≤ 2000000) (h : ∀ i, i < xs.length → Small (xs.getD i z_GItem)) : Tends (fun K => spec_l33Own.f K xs) xs := by
  refine Tends.congr (fun K => rfl) (own_loop (z := z_GItem) (c := 200) (l := fun K k out i => spec_l33Own.l1 K k xs out (i : Int)) (one := fun K i => ownI K (xs.getD i z_GItem)) hn (by decide) (fun K k out i hi => ?_) (fun K k out => by rw [spec_l33Own.l1, if_neg (by omega)]) (fun i hi => Tends.bind12 (ownItem (h i hi)) (Tends.const _)) xs.length 0 (by omega) (by omega)).diag
  rw [spec_l33Own.l1, if_pos (by omega), if_pos (by omega), Int.toNat_natCast, bnd_eq, bind12_bind, w64_succ (by omega)]
theorem copy_list {xs : List GItem} (hn : xs.length ≤ 2000000) (h : ∀ i, i < xs.length → Small (xs.getD i z_GItem)) : Tends (fun K => impl_copyItems.f K xs) xs := by
  refine Tends.congr (fun K => rfl) (own_loop (z := z_GItem) (c := 200) (l := fun K k out i => impl_copyItems.l1 K k xs out (i : Int)) (one := fun K i => copyI K (xs.getD i z_GItem)) hn (by decide) (fun K k out i hi => ?_) (fun K k out => by rw [impl_copyItems.l1, if_neg (by omega)]) (fun i hi => Tends.bind12 (copyItem (h i hi)) (Tends.const _)) xs.length 0 (by omega) (by omega)).diag
  rw [impl_copyItems.l1, if_pos (by omega), if_pos (by omega), Int.toNat_natCast, bnd_eq, bind12_bind, w64_succ (by omega)]
theorem own_stack {L : List (List GItem)} (h : StackS L) : Tends (fun K => spec_l33OwnStack.f K L) L := by
  have hn := h.1
  refine Tends.congr (fun K => rfl) (own_loop (z := []) (c := 24) (l := fun K k out i => spec_l33OwnStack.l1 K k L out (i : Int)) (one := fun K i => spec_l33Own.f K (L.getD i [])) hn (by decide) (fun K k out i hi => ?_) (fun K k out => by rw [spec_l33OwnStack.l1, if_neg (by omega)]) (fun i hi => own_list (h.2 i hi).1 (h.2 i hi).2) L.length 0 (by omega) (by omega)).diag
  rw [spec_l33OwnStack.l1, if_pos (by omega), if_pos (by omega), Int.toNat_natCast, w64_succ (by omega)]
theorem copy_stack {L : List (List GItem)} (h : StackS L) : Tends (fun K => impl_copySteps.f K L) L := by
  have hn := h.1
  refine Tends.congr (fun K => rfl) (own_loop (z := []) (c := 24) (l := fun K k out i => impl_copySteps.l1 K k L out (i : Int)) (one := fun K i => impl_copyItems.f K (L.getD i [])) hn (by decide) (fun K k out i hi => ?_) (fun K k out => by rw [impl_copySteps.l1, if_neg (by omega)]) (fun i hi => copy_list (h.2 i hi).1 (h.2 i hi).2) L.length 0 (by omega) (by omega)).diag
  rw [impl_copySteps.l1, if_pos (by omega), if_pos (by omega), Int.toNat_natCast, w64_succ (by omega)]
def push (L : List (List GItem)) (I : List GItem) : List (List GItem) := if 6 < ((L ++ [I]).length : Int) then (L ++ [I]).drop 1 else L ++ [I]
theorem push_pos {L : List (List GItem)} {I : List GItem} (h : 6 < ((L ++ [I]).length : Int)) : push L I = (L ++ [I]).drop 1 := if_pos h
theorem push_neg {L : List (List GItem)} {I : List GItem} (h : ¬ 6 < ((L ++ [I]).length : Int)) : push L I = L ++ [I] := if_neg h
theorem push_spec {L : List (List GItem)} {I : List GItem} (h : StackS L) (hn : I.length ≤ 2000000) (hI : ∀ i, i < I.length → Small (I.getD i z_GItem)) : Tends (fun K => spec_l33Push.f K L I) (push L I) := by
  have h0 := h.1
  unfold spec_l33Push.f
  refine Tends.bind (own_stack h) (Tends.bind (own_list hn hI) (Tends.pos (by omega) ?_))
  by_cases h6 : 6 < ((L ++ [I]).length : Int)
  · rw [push_pos h6]
    refine Tends.pos h6 (Tends.pos (by omega) ?_)
    rw [List.take_length]
    exact Tends.const _
  · rw [push_neg h6]
    exact Tends.neg h6 (Tends.const _)
theorem push_impl {L : List (List GItem)} {I : List GItem} (h : (L.length : Int) ≤ 6) : impl_pushed.f L I = some (push L I) := by
  have hl : (L ++ [I]).length = L.length + 1 := by simp
  unfold impl_pushed.f
  have hw : w64 (((L ++ [I]).length : Int) - 6) = ((L ++ [I]).length : Int) - 6 := w64_id (by omega) (by omega)
  have hm : (if ((L ++ [I]).length : Int) - 6 > 0 then ((L ++ [I]).length : Int) - 6 else 0) = if 6 < ((L ++ [I]).length : Int) then 1 else 0 := by split <;> split <;> omega
  rw [hw, hm, if_pos (by omega), List.take_length]
  by_cases h6 : 6 < ((L ++ [I]).length : Int)
  · rw [push_pos h6]
    simp only [if_pos h6]
    rw [if_pos (by omega)]
    rfl
  · rw [push_neg h6]
    simp only [if_neg h6]
    rw [if_pos (by omega)]
    rfl
theorem cItemSS_sum (xs : List (List GItem)) : cItemSS xs = (xs.map cItemS).sum := sumF_map cItemS [] xs 0 _ (fun j _ => by rw [Nat.zero_add])
theorem cItemSS_append (xs : List (List GItem)) (x : List GItem) : cItemSS (xs ++ [x]) = cItemSS xs + cItemS x := by
  rw [cItemSS_sum, cItemSS_sum, List.map_append, List.sum_append]; simp
theorem cItemSS_drop (xs : List (List GItem)) : cItemSS (xs.drop 1) ≤ cItemSS xs := by
  rw [cItemSS_sum, cItemSS_sum]
  cases xs with
  | nil => exact Nat.le_refl _
  | cons x r => rw [List.drop_succ_cons, List.drop_zero, List.map_cons, List.sum_cons]; omega
theorem cItemSS_push (L : List (List GItem)) (I : List GItem) : cItemSS (push L I) ≤ cItemSS L + cItemS I := by
  rw [← cItemSS_append]
  unfold push
  split
  · exact cItemSS_drop _
  · exact Nat.le_refl _
theorem StackS.mem {L : List (List GItem)} (h : StackS L) {y : List GItem} (hy : y ∈ L) : y.length ≤ 2000000 ∧ ∀ j, j < y.length → Small (y.getD j z_GItem) := by
  obtain ⟨i, hi, rfl⟩ := List.getElem_of_mem hy
  have := h.2 i hi
  rw [List.getD_eq_getElem?_getD, List.getElem?_eq_getElem hi] at this
  exact this
theorem StackS.of {L : List (List GItem)} (hn : L.length ≤ 2000000) (h : ∀ y, y ∈ L → y.length ≤ 2000000 ∧ ∀ j, j < y.length → Small (y.getD j z_GItem)) : StackS L := ⟨hn, fun i hi => h _ (getD_of [] hi)⟩
theorem StackS.push {L : List (List GItem)} {I : List GItem} (h : StackS L) (h6 : (L.length : Int) ≤ 6) (hn : I.length ≤ 2000000) (hI : ∀ i, i < I.length → Small (I.getD i z_GItem)) : StackS (Go.Proofs.YtkmeepgpmppibaaGreatDoor.push L I) := by
  have hm : ∀ y, y ∈ L ++ [I] → y.length ≤ 2000000 ∧ ∀ j, j < y.length → Small (y.getD j z_GItem) := fun y hy => by
    rcases List.mem_append.1 hy with hy | hy
    · exact h.mem hy
    · rw [List.mem_singleton.1 hy]; exact ⟨hn, hI⟩
  unfold Go.Proofs.YtkmeepgpmppibaaGreatDoor.push
  split
  · exact StackS.of (by simp; omega) (fun y hy => hm y (List.mem_of_mem_drop hy))
  · exact StackS.of (by simp; omega) hm
end Go.Proofs.YtkmeepgpmppibaaGreatDoor
