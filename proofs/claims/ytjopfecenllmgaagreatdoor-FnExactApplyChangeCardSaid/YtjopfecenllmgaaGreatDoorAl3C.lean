/-
  The tied card of FnExactApplyChange, out of its row.
-/
import Derived.Test.YtjopfecenllmgaaGreatDoorPlCF
import Derived.Test.YtjopfecenllmgaaGreatDoorTie
import Derived.Test.YtjopfecenllmgaaGreatDoorCards
import Derived.SevenTiedAt
namespace Go.Proofs.YtjopfecenllmgaaGreatDoor
open Go
set_option maxHeartbeats 40000000 in
theorem Sb:Rows.fnExactApplyChangeRow.wfByText (OpenSpec.ofChange Rows.fnExactApplyChangeSpec)=true:=by kernel_rfl
set_option maxHeartbeats 40000000 in
theorem Ru : Tryz.pinned.checked.prog.mainIs = some ((true, "676542ff3c700c5c4700a8e6df8c5b7d886d407b3ea389943daf1af2177dc27f").1, (true, "676542ff3c700c5c4700a8e6df8c5b7d886d407b3ea389943daf1af2177dc27f").2.toList) := by kernel_rfl
set_option maxHeartbeats 40000000 in
theorem Ri:Tryz.pinned.checked.prog.funcNamed Rows.fnExactApplyChangeRow.func=some 3:=by kernel_rfl
set_option maxHeartbeats 40000000 in
theorem Re:false=Tryz.pinned.checked.prog.looks []:=by kernel_rfl
set_option maxHeartbeats 40000000 in
theorem Rh:((Tryz.f3.params.toList).all fun u=>!Tryz.pinned.checked.prog.wantsStandIn u)=true:=by kernel_rfl
set_option maxHeartbeats 40000000 in
theorem Rq:false=Rows.fnExactApplyChangeRow.goesBy Tryz.pinned.checked.prog:=by kernel_rfl
set_option maxHeartbeats 40000000 in
theorem fnExactApplyChange_card:Rows.FnExactApplyChangeCardSaid :=
  Claim7.holds_tied_plain_at .later [] [.data, .data, .data] true (true, "676542ff3c700c5c4700a8e6df8c5b7d886d407b3ea389943daf1af2177dc27f") false
    Rf (fun _ h=>by cases h) Sb (fun _ h=>by cases h) fnExactApplyChange_row_tie rfl ⟨rfl,rfl⟩ Ru rfl
    (fun f fn hf hfn=>by
      obtain rfl:f=3:=Option.some.inj (Ri.symm.trans hf) |>.symm
      obtain rfl:fn=Tryz.f3:=(Option.some.inj (Tryz.func3.symm.trans hfn)).symm
      refine ⟨Re,fun j t ht=>?_⟩
      have hm:t ∈ Tryz.f3.params.toList:=by simpa using Array.mem_of_getElem? ht
      have h:=List.all_eq_true.1 Rh t hm
      rw [Bool.not_eq_true'] at h
      exact h)
    Rq
end Go.Proofs.YtjopfecenllmgaaGreatDoor
