/-
  The tied card of FnExactFindItem, out of its row.
-/
import Derived.Test.YthjomdggdaocgaaGreatDoorPlBI
import Derived.Test.YthjomdggdaocgaaGreatDoorTie
import Derived.Test.YthjomdggdaocgaaGreatDoorCards
import Derived.SevenTiedAt
namespace Go.Proofs.YthjomdggdaocgaaGreatDoor
open Go
set_option maxHeartbeats 40000000 in
theorem fnExactFindItem_wf : Rows.fnExactFindItemRow.wfByText (OpenSpec.ofChange Rows.fnExactFindItemSpec) = true := by kernel_rfl
set_option maxHeartbeats 40000000 in
theorem fnExactFindItem_main : Tryz.pinned.checked.prog.mainIs = some ((true, "34ef26a42d93b114369c43cdec1644d91d47406c27d289d7c8eb66c01df82186").1, (true, "34ef26a42d93b114369c43cdec1644d91d47406c27d289d7c8eb66c01df82186").2.toList) := by kernel_rfl
set_option maxHeartbeats 40000000 in
theorem fnExactFindItem_named : Tryz.pinned.checked.prog.funcNamed Rows.fnExactFindItemRow.func = some 4 := by kernel_rfl
set_option maxHeartbeats 40000000 in
theorem fnExactFindItem_looks : false = Tryz.pinned.checked.prog.looks [] := by kernel_rfl
set_option maxHeartbeats 40000000 in
theorem fnExactFindItem_stand : ((Tryz.f4.params.toList).all fun u => !Tryz.pinned.checked.prog.wantsStandIn u) = true := by kernel_rfl
set_option maxHeartbeats 40000000 in
theorem fnExactFindItem_goes : false = Rows.fnExactFindItemRow.goesBy Tryz.pinned.checked.prog := by kernel_rfl
set_option maxHeartbeats 40000000 in
theorem fnExactFindItem_card : Rows.FnExactFindItemCardSaid :=
  Claim7.holds_tied_plain_at .later [] [.data, .data, .data] true (true, "34ef26a42d93b114369c43cdec1644d91d47406c27d289d7c8eb66c01df82186") false
    fnExactFindItem_holds (fun _ h => by cases h) fnExactFindItem_wf (fun _ h => by cases h) fnExactFindItem_row_tie rfl ⟨rfl, rfl⟩ fnExactFindItem_main rfl
    (fun f fn hf hfn => by
      obtain rfl : f = 4 := Option.some.inj (fnExactFindItem_named.symm.trans hf) |>.symm
      obtain rfl : fn = Tryz.f4 := (Option.some.inj (Tryz.func4.symm.trans hfn)).symm
      refine ⟨fnExactFindItem_looks, fun j t ht => ?_⟩
      have hm : t ∈ Tryz.f4.params.toList := by simpa using Array.mem_of_getElem? ht
      have h := List.all_eq_true.1 fnExactFindItem_stand t hm
      rw [Bool.not_eq_true'] at h
      exact h)
    fnExactFindItem_goes
end Go.Proofs.YthjomdggdaocgaaGreatDoor
