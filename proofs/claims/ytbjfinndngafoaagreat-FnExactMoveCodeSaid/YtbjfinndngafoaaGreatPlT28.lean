/-
  MoveCode: the law.
-/
import Derived.Test.YtbjfinndngafoaaGreatPlT27
import Derived.Test.YtbjfinndngafoaaGreatAl3R
set_option linter.unusedVariables false
set_option linter.unusedSimpArgs false
namespace Go.Proofs.YtbjfinndngafoaaGreat
open Go.RowKit
theorem fnExactMoveCode_holds : Rows.FnExactMoveCodeSaid := fnExactMoveCode_of fun x m h _ => by
  obtain ⟨n2, n2r⟩ := h
  have hrow : ∀ i, i < x.Tets.length → (x.Tets.getD i []).length ≤ 9223372036854775807 := fun i hi => by
    rw [List.getD_eq_getElem?_getD, List.getElem?_eq_getElem hi]
    exact (n2r _ (List.getElem_mem hi)).1
  obtain ⟨s, t, c⟩ := szFaceSS n2 hrow (left := 1048576) (by decide) (by decide)
  unfold laws_FnExactMoveCode.f
  refine Tends.get (Tends.bind t ?_)
  by_cases hs : s < 0
  · exact Tends.pos hs (Tends.const _)
  · obtain ⟨_, _, m1, m2⟩ := c.resolve_left hs
    have hT : Tends (fun K => laws_toTriangulation.f K x.Tets) x.Tets := Tends.bind (toFaceSS m1 m2) (Tends.const _)
    have hE : Tends (fun K => laws_eqTriangulation.f K x.Tets x.Tets) true := Tends.bind (eqFaceSS m1 m2) (Tends.pos rfl (Tends.const _))
    obtain ⟨r, c1, c2⟩ := moveCode_both x.Tets m1 m.Kind m.Tet m.Index
    have hM : Tends (fun _ => laws_toMove.f m.Kind m.Tet m.Index) (m.Kind, m.Tet, m.Index) := Tends.const _
    exact Tends.neg hs (Tends.bind hT (Tends.bind3 hM (Tends.bind c1 (Tends.bind hT (Tends.bind3 hM (Tends.bind c2 (Tends.pos rfl (Tends.bind hT (Tends.bind hE (Tends.pos rfl (Tends.const _)))))))))))
end Go.Proofs.YtbjfinndngafoaaGreat
