/-
  The tied card of FnExactDropItem, out of its row.
-/
import Derived.Test.YtkmeepgpmppibaaGreatDoorPlCA
import Derived.Test.YtkmeepgpmppibaaGreatDoorTie
import Derived.Test.YtkmeepgpmppibaaGreatDoorCards
import Derived.SevenTiedAt
namespace Go.Proofs.YtkmeepgpmppibaaGreatDoor
open Go
set_option maxHeartbeats 40000000 in
theorem fnExactDropItem_wf : Rows.fnExactDropItemRow.wfByText (OpenSpec.ofChange Rows.fnExactDropItemSpec) = true := by kernel_rfl
set_option maxHeartbeats 40000000 in
theorem fnExactDropItem_main : Tryz.pinned.checked.prog.mainIs = some ((true, "b7f65034f28931b283f271af8e1d3e3b6f8741036be94f5f34674382be633ff2").1, (true, "b7f65034f28931b283f271af8e1d3e3b6f8741036be94f5f34674382be633ff2").2.toList) := by kernel_rfl
set_option maxHeartbeats 40000000 in
theorem fnExactDropItem_named : Tryz.pinned.checked.prog.funcNamed Rows.fnExactDropItemRow.func = some 3 := by kernel_rfl
set_option maxHeartbeats 40000000 in
theorem fnExactDropItem_looks : false = Tryz.pinned.checked.prog.looks [] := by kernel_rfl
set_option maxHeartbeats 40000000 in
theorem fnExactDropItem_stand : ((Tryz.f3.params.toList).all fun u => !Tryz.pinned.checked.prog.wantsStandIn u) = true := by kernel_rfl
set_option maxHeartbeats 40000000 in
theorem fnExactDropItem_goes : false = Rows.fnExactDropItemRow.goesBy Tryz.pinned.checked.prog := by kernel_rfl
set_option maxHeartbeats 40000000 in
theorem fnExactDropItem_card : Rows.FnExactDropItemCardSaid :=
  Claim7.holds_tied_plain_at .later [] [.data, .data, .data] true (true, "b7f65034f28931b283f271af8e1d3e3b6f8741036be94f5f34674382be633ff2") false
    fnExactDropItem_holds (fun _ h => by cases h) fnExactDropItem_wf (fun _ h => by cases h) fnExactDropItem_row_tie rfl ⟨rfl, rfl⟩ fnExactDropItem_main rfl
    (fun f fn hf hfn => by
      obtain rfl : f = 3 := Option.some.inj (fnExactDropItem_named.symm.trans hf) |>.symm
      obtain rfl : fn = Tryz.f3 := (Option.some.inj (Tryz.func3.symm.trans hfn)).symm
      refine ⟨fnExactDropItem_looks, fun j t ht => ?_⟩
      have hm : t ∈ Tryz.f3.params.toList := by simpa using Array.mem_of_getElem? ht
      have h := List.all_eq_true.1 fnExactDropItem_stand t hm
      rw [Bool.not_eq_true'] at h
      exact h)
    fnExactDropItem_goes
end Go.Proofs.YtkmeepgpmppibaaGreatDoor
