/-
  PossibleMoves: the law.
-/
import Derived.Test.YtbjfinndngafoaaGreatPlT52
import Derived.Test.YtbjfinndngafoaaGreatAl4R
set_option linter.unusedVariables false
set_option linter.unusedSimpArgs false
namespace Go.Proofs.YtbjfinndngafoaaGreat
open Go.RowKit
theorem fnExactPossibleMoves_holds : Rows.FnExactPossibleMovesSaid := fnExactPossibleMoves_of fun x h => by
  obtain ⟨n2, n2r⟩ := h
  have hrow : ∀ i, i < x.Tets.length → (x.Tets.getD i []).length ≤ 9223372036854775807 := fun i hi => by
    rw [List.getD_eq_getElem?_getD, List.getElem?_eq_getElem hi]
    exact (n2r _ (List.getElem_mem hi)).1
  obtain ⟨s, t, c⟩ := szFaceSS n2 hrow (left := 1048576) (by decide) (by decide)
  unfold laws_FnExactPossibleMoves.f
  refine Tends.get (Tends.bind t ?_)
  by_cases hs : s < 0
  · exact Tends.pos hs (Tends.const _)
  · obtain ⟨_, _, m1, m2⟩ := c.resolve_left hs
    have hT : Tends (fun K => laws_toTriangulation.f K x.Tets) x.Tets := Tends.bind (toFaceSS m1 m2) (Tends.const _)
    have hE : Tends (fun K => laws_eqTriangulation.f K x.Tets x.Tets) true := Tends.bind (eqFaceSS m1 m2) (Tends.pos rfl (Tends.const _))
    obtain ⟨L, l, c1, c2⟩ := possible_both x.Tets m1
    have hL := eqMoveS (xs := L) (by omega)
    obtain ⟨q, ys, ⟨q1, _⟩, q2, q3⟩ := markTri m1 m2
    obtain ⟨r, zs, r1, r2, r3, r4⟩ := markMv (xs := L) (by omega)
    have n1 : ¬ q < 0 := by omega
    have n2 : ¬ r < 0 := by omega
    exact Tends.neg hs (Tends.bind hT (Tends.bind c1 (Tends.bind hT (Tends.bind c2 (Tends.bind hL (Tends.pos rfl (Tends.bind hT (Tends.bind hE (Tends.pos rfl (Tends.bind2 q3 (Tends.pos q2 (Tends.neg n1 (Tends.bind hL (Tends.pos rfl (Tends.bind2 r3 (Tends.pos r2 (Tends.bind r4 (Tends.neg n2 (Tends.pos rfl (Tends.bind hT (Tends.bind c2 (Tends.bind hL (Tends.pos rfl (Tends.bind r4 (Tends.neg n2 (Tends.pos rfl (Tends.const _)))))))))))))))))))))))))))
end Go.Proofs.YtbjfinndngafoaaGreat
