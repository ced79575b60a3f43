/-
  The tied card of FnExactRedoBench, out of its row.
-/
import Derived.Test.YthjomdggdaocgaaGreatDoorPlBW
import Derived.Test.YthjomdggdaocgaaGreatDoorTie
import Derived.Test.YthjomdggdaocgaaGreatDoorCards
import Derived.SevenTiedAt
namespace Go.Proofs.YthjomdggdaocgaaGreatDoor
open Go
set_option maxHeartbeats 40000000 in
theorem fnExactRedoBench_wf : Rows.fnExactRedoBenchRow.wfByText (OpenSpec.ofChange Rows.fnExactRedoBenchSpec) = true := by kernel_rfl
set_option maxHeartbeats 40000000 in
theorem fnExactRedoBench_main : Tryz.pinned.checked.prog.mainIs = some ((true, "34ef26a42d93b114369c43cdec1644d91d47406c27d289d7c8eb66c01df82186").1, (true, "34ef26a42d93b114369c43cdec1644d91d47406c27d289d7c8eb66c01df82186").2.toList) := by kernel_rfl
set_option maxHeartbeats 40000000 in
theorem fnExactRedoBench_named : Tryz.pinned.checked.prog.funcNamed Rows.fnExactRedoBenchRow.func = some 6 := by kernel_rfl
set_option maxHeartbeats 40000000 in
theorem fnExactRedoBench_looks : false = Tryz.pinned.checked.prog.looks [] := by kernel_rfl
set_option maxHeartbeats 40000000 in
theorem fnExactRedoBench_stand : ((Tryz.f6.params.toList).all fun u => !Tryz.pinned.checked.prog.wantsStandIn u) = true := by kernel_rfl
set_option maxHeartbeats 40000000 in
theorem fnExactRedoBench_goes : false = Rows.fnExactRedoBenchRow.goesBy Tryz.pinned.checked.prog := by kernel_rfl
set_option maxHeartbeats 40000000 in
theorem fnExactRedoBench_card : Rows.FnExactRedoBenchCardSaid :=
  Claim7.holds_tied_plain_at .later [] [.data, .data, .data] true (true, "34ef26a42d93b114369c43cdec1644d91d47406c27d289d7c8eb66c01df82186") false
    fnExactRedoBench_holds (fun _ h => by cases h) fnExactRedoBench_wf (fun _ h => by cases h) fnExactRedoBench_row_tie rfl ⟨rfl, rfl⟩ fnExactRedoBench_main rfl
    (fun f fn hf hfn => by
      obtain rfl : f = 6 := Option.some.inj (fnExactRedoBench_named.symm.trans hf) |>.symm
      obtain rfl : fn = Tryz.f6 := (Option.some.inj (Tryz.func6.symm.trans hfn)).symm
      refine ⟨fnExactRedoBench_looks, fun j t ht => ?_⟩
      have hm : t ∈ Tryz.f6.params.toList := by simpa using Array.mem_of_getElem? ht
      have h := List.all_eq_true.1 fnExactRedoBench_stand t hm
      rw [Bool.not_eq_true'] at h
      exact h)
    fnExactRedoBench_goes
end Go.Proofs.YthjomdggdaocgaaGreatDoor
