/-
  The tied card of FnExactValidItem, out of its row.
-/
import Derived.Test.YtgkcddpgmmmblaaGreatDoorPlB6
import Derived.Test.YtgkcddpgmmmblaaGreatDoorTie
import Derived.Test.YtgkcddpgmmmblaaGreatDoorCards
import Derived.SevenTiedAt
namespace Go.Proofs.YtgkcddpgmmmblaaGreatDoor
open Go
set_option maxHeartbeats 40000000 in
theorem fnExactValidItem_wf : Rows.fnExactValidItemRow.wfByText (OpenSpec.ofChange Rows.fnExactValidItemSpec) = true := by kernel_rfl
set_option maxHeartbeats 40000000 in
theorem fnExactValidItem_main : Tryz.pinned.checked.prog.mainIs = some ((true, "61dba4e27860d5a07cc5fbf1a7fa521819c883e32315bf8bb94d81f210ffe8a4").1, (true, "61dba4e27860d5a07cc5fbf1a7fa521819c883e32315bf8bb94d81f210ffe8a4").2.toList) := by kernel_rfl
set_option maxHeartbeats 40000000 in
theorem fnExactValidItem_named : Tryz.pinned.checked.prog.funcNamed Rows.fnExactValidItemRow.func = some 3 := by kernel_rfl
set_option maxHeartbeats 40000000 in
theorem fnExactValidItem_looks : false = Tryz.pinned.checked.prog.looks [] := by kernel_rfl
set_option maxHeartbeats 40000000 in
theorem fnExactValidItem_stand : ((Tryz.f3.params.toList).all fun u => !Tryz.pinned.checked.prog.wantsStandIn u) = true := by kernel_rfl
set_option maxHeartbeats 40000000 in
theorem fnExactValidItem_goes : false = Rows.fnExactValidItemRow.goesBy Tryz.pinned.checked.prog := by kernel_rfl
set_option maxHeartbeats 40000000 in
theorem fnExactValidItem_card : Rows.FnExactValidItemCardSaid :=
  Claim7.holds_tied_plain_at .later [] [.data, .data, .data] true (true, "61dba4e27860d5a07cc5fbf1a7fa521819c883e32315bf8bb94d81f210ffe8a4") false
    fnExactValidItem_holds (fun _ h => by cases h) fnExactValidItem_wf (fun _ h => by cases h) fnExactValidItem_row_tie rfl ⟨rfl, rfl⟩ fnExactValidItem_main rfl
    (fun f fn hf hfn => by
      obtain rfl : f = 3 := Option.some.inj (fnExactValidItem_named.symm.trans hf) |>.symm
      obtain rfl : fn = Tryz.f3 := (Option.some.inj (Tryz.func3.symm.trans hfn)).symm
      refine ⟨fnExactValidItem_looks, fun j t ht => ?_⟩
      have hm : t ∈ Tryz.f3.params.toList := by simpa using Array.mem_of_getElem? ht
      have h := List.all_eq_true.1 fnExactValidItem_stand t hm
      rw [Bool.not_eq_true'] at h
      exact h)
    fnExactValidItem_goes
end Go.Proofs.YtgkcddpgmmmblaaGreatDoor
