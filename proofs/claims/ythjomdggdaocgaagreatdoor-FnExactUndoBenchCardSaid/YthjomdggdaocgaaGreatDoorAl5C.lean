/-
  The tied card of FnExactUndoBench, out of its row.
-/
import Derived.Test.YthjomdggdaocgaaGreatDoorPlBV
import Derived.Test.YthjomdggdaocgaaGreatDoorTie
import Derived.Test.YthjomdggdaocgaaGreatDoorCards
import Derived.SevenTiedAt
namespace Go.Proofs.YthjomdggdaocgaaGreatDoor
open Go
set_option maxHeartbeats 40000000 in
theorem fnExactUndoBench_wf : Rows.fnExactUndoBenchRow.wfByText (OpenSpec.ofChange Rows.fnExactUndoBenchSpec) = true := by kernel_rfl
set_option maxHeartbeats 40000000 in
theorem fnExactUndoBench_main : Tryz.pinned.checked.prog.mainIs = some ((true, "34ef26a42d93b114369c43cdec1644d91d47406c27d289d7c8eb66c01df82186").1, (true, "34ef26a42d93b114369c43cdec1644d91d47406c27d289d7c8eb66c01df82186").2.toList) := by kernel_rfl
set_option maxHeartbeats 40000000 in
theorem fnExactUndoBench_named : Tryz.pinned.checked.prog.funcNamed Rows.fnExactUndoBenchRow.func = some 5 := by kernel_rfl
set_option maxHeartbeats 40000000 in
theorem fnExactUndoBench_looks : false = Tryz.pinned.checked.prog.looks [] := by kernel_rfl
set_option maxHeartbeats 40000000 in
theorem fnExactUndoBench_stand : ((Tryz.f5.params.toList).all fun u => !Tryz.pinned.checked.prog.wantsStandIn u) = true := by kernel_rfl
set_option maxHeartbeats 40000000 in
theorem fnExactUndoBench_goes : false = Rows.fnExactUndoBenchRow.goesBy Tryz.pinned.checked.prog := by kernel_rfl
set_option maxHeartbeats 40000000 in
theorem fnExactUndoBench_card : Rows.FnExactUndoBenchCardSaid :=
  Claim7.holds_tied_plain_at .later [] [.data, .data, .data] true (true, "34ef26a42d93b114369c43cdec1644d91d47406c27d289d7c8eb66c01df82186") false
    fnExactUndoBench_holds (fun _ h => by cases h) fnExactUndoBench_wf (fun _ h => by cases h) fnExactUndoBench_row_tie rfl ⟨rfl, rfl⟩ fnExactUndoBench_main rfl
    (fun f fn hf hfn => by
      obtain rfl : f = 5 := Option.some.inj (fnExactUndoBench_named.symm.trans hf) |>.symm
      obtain rfl : fn = Tryz.f5 := (Option.some.inj (Tryz.func5.symm.trans hfn)).symm
      refine ⟨fnExactUndoBench_looks, fun j t ht => ?_⟩
      have hm : t ∈ Tryz.f5.params.toList := by simpa using Array.mem_of_getElem? ht
      have h := List.all_eq_true.1 fnExactUndoBench_stand t hm
      rw [Bool.not_eq_true'] at h
      exact h)
    fnExactUndoBench_goes
end Go.Proofs.YthjomdggdaocgaaGreatDoor
