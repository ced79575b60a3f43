/-
  The tied card of FnExactValidBench, out of its row.
-/
import Derived.Test.YthjomdggdaocgaaGreatDoorPlB9
import Derived.Test.YthjomdggdaocgaaGreatDoorTie
import Derived.Test.YthjomdggdaocgaaGreatDoorCards
import Derived.SevenTiedAt
namespace Go.Proofs.YthjomdggdaocgaaGreatDoor
open Go
set_option maxHeartbeats 40000000 in
theorem fnExactValidBench_wf : Rows.fnExactValidBenchRow.wfByText (OpenSpec.ofChange Rows.fnExactValidBenchSpec) = true := by kernel_rfl
set_option maxHeartbeats 40000000 in
theorem fnExactValidBench_main : Tryz.pinned.checked.prog.mainIs = some ((true, "34ef26a42d93b114369c43cdec1644d91d47406c27d289d7c8eb66c01df82186").1, (true, "34ef26a42d93b114369c43cdec1644d91d47406c27d289d7c8eb66c01df82186").2.toList) := by kernel_rfl
set_option maxHeartbeats 40000000 in
theorem fnExactValidBench_named : Tryz.pinned.checked.prog.funcNamed Rows.fnExactValidBenchRow.func = some 3 := by kernel_rfl
set_option maxHeartbeats 40000000 in
theorem fnExactValidBench_looks : false = Tryz.pinned.checked.prog.looks [] := by kernel_rfl
set_option maxHeartbeats 40000000 in
theorem fnExactValidBench_stand : ((Tryz.f3.params.toList).all fun u => !Tryz.pinned.checked.prog.wantsStandIn u) = true := by kernel_rfl
set_option maxHeartbeats 40000000 in
theorem fnExactValidBench_goes : false = Rows.fnExactValidBenchRow.goesBy Tryz.pinned.checked.prog := by kernel_rfl
set_option maxHeartbeats 40000000 in
theorem fnExactValidBench_card : Rows.FnExactValidBenchCardSaid :=
  Claim7.holds_tied_plain_at .later [] [.data, .data, .data] true (true, "34ef26a42d93b114369c43cdec1644d91d47406c27d289d7c8eb66c01df82186") false
    fnExactValidBench_holds (fun _ h => by cases h) fnExactValidBench_wf (fun _ h => by cases h) fnExactValidBench_row_tie rfl ⟨rfl, rfl⟩ fnExactValidBench_main rfl
    (fun f fn hf hfn => by
      obtain rfl : f = 3 := Option.some.inj (fnExactValidBench_named.symm.trans hf) |>.symm
      obtain rfl : fn = Tryz.f3 := (Option.some.inj (Tryz.func3.symm.trans hfn)).symm
      refine ⟨fnExactValidBench_looks, fun j t ht => ?_⟩
      have hm : t ∈ Tryz.f3.params.toList := by simpa using Array.mem_of_getElem? ht
      have h := List.all_eq_true.1 fnExactValidBench_stand t hm
      rw [Bool.not_eq_true'] at h
      exact h)
    fnExactValidBench_goes
end Go.Proofs.YthjomdggdaocgaaGreatDoor
