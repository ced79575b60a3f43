/-
  The tied card of FnExactPutItem, out of its row.
-/
import Derived.Test.YtkmeepgpmppibaaGreatDoorPlCD
import Derived.Test.YtkmeepgpmppibaaGreatDoorTie
import Derived.Test.YtkmeepgpmppibaaGreatDoorCards
import Derived.SevenTiedAt
namespace Go.Proofs.YtkmeepgpmppibaaGreatDoor
open Go
set_option maxHeartbeats 40000000 in
theorem Tq : Rows.fnExactPutItemRow.wfByText (OpenSpec.ofChange Rows.fnExactPutItemSpec) = true := by kernel_rfl
set_option maxHeartbeats 40000000 in
theorem R3 : Tryz.pinned.checked.prog.mainIs = some ((true, "b7f65034f28931b283f271af8e1d3e3b6f8741036be94f5f34674382be633ff2").1, (true, "b7f65034f28931b283f271af8e1d3e3b6f8741036be94f5f34674382be633ff2").2.toList) := by kernel_rfl
set_option maxHeartbeats 40000000 in
theorem Ra : Tryz.pinned.checked.prog.funcNamed Rows.fnExactPutItemRow.func = some 4 := by kernel_rfl
set_option maxHeartbeats 40000000 in
theorem Qz : false = Tryz.pinned.checked.prog.looks [] := by kernel_rfl
set_option maxHeartbeats 40000000 in
theorem Rm : ((Tryz.f4.params.toList).all fun u => !Tryz.pinned.checked.prog.wantsStandIn u) = true := by kernel_rfl
set_option maxHeartbeats 40000000 in
theorem R6 : false = Rows.fnExactPutItemRow.goesBy Tryz.pinned.checked.prog := by kernel_rfl
set_option maxHeartbeats 40000000 in
theorem fnExactPutItem_card : Rows.FnExactPutItemCardSaid :=
  Claim7.holds_tied_plain_at .later [] [.data, .data, .data] true (true, "b7f65034f28931b283f271af8e1d3e3b6f8741036be94f5f34674382be633ff2") false
    Qq (fun _ h => by cases h) Tq (fun _ h => by cases h) fnExactPutItem_row_tie rfl ⟨rfl, rfl⟩ R3 rfl
    (fun f fn hf hfn => by
      obtain rfl : f = 4 := Option.some.inj (Ra.symm.trans hf) |>.symm
      obtain rfl : fn = Tryz.f4 := (Option.some.inj (Tryz.func4.symm.trans hfn)).symm
      refine ⟨Qz, fun j t ht => ?_⟩
      have hm : t ∈ Tryz.f4.params.toList := by simpa using Array.mem_of_getElem? ht
      have h := List.all_eq_true.1 Rm t hm
      rw [Bool.not_eq_true'] at h
      exact h)
    R6
end Go.Proofs.YtkmeepgpmppibaaGreatDoor
