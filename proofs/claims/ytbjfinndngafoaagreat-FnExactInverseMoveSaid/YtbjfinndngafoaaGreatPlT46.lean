/-
  InverseMove: the law.
-/
import Derived.Test.YtbjfinndngafoaaGreatPlT45
import Derived.Test.YtbjfinndngafoaaGreatAl5R
set_option linter.unusedVariables false
set_option linter.unusedSimpArgs false
namespace Go.Proofs.YtbjfinndngafoaaGreat
open Go.RowKit
theorem fnExactInverseMove_holds : Rows.FnExactInverseMoveSaid := Mt fun x m h _ => by
  obtain ⟨n2, n2r⟩ := h
  have hrow : ∀ i, i < x.N8.length → (x.N8.getD i []).length ≤ 9223372036854775807 := fun i hi => by
    rw [List.getD_eq_getElem?_getD, List.getElem?_eq_getElem hi]
    exact (n2r _ (List.getElem_mem hi)).1
  obtain ⟨s, t, c⟩ := Z4 n2 hrow (left := 1048576) (by decide) (by decide)
  unfold E8.f
  refine Ac.get (Ac.bind t ?_)
  by_cases hs : s < 0
  · exact Ac.pos hs (Ac.const _)
  · obtain ⟨_, _, m1, m2⟩ := c.resolve_left hs
    have hT : Ac (fun K => D9.f K x.N8) x.N8 := Ac.bind (aN m1 m2) (Ac.const _)
    have hE : Ac (fun K => Fv.f K x.N8 x.N8) true := Ac.bind (bN m1 m2) (Ac.pos rfl (Ac.const _))
    obtain ⟨⟨r1, r2, r3, r4⟩, c1, c2⟩ := U5 x.N8 m1 m.Kind m.Tet m.Index
    have hM : Ac (fun _ => Hr.f m.Kind m.Tet m.Index) (m.Kind, m.Tet, m.Index) := Ac.const _
    have hq : Ac (fun _ => H6.f r1 r2 r3 r1 r2 r3) true := Ac.pos rfl (Ac.pos rfl (Ac.pos rfl (Ac.const _)))
    exact Ac.neg hs (Ac.bind hT (Ac.Ie hM (Ac.Dr c1 (Ac.bind hT (Ac.Ie hM (Ac.Dr c2 (Ac.bind hq (Ac.pos rfl (Ac.pos rfl (Ac.bind hT (Ac.bind hE (Ac.pos rfl (Ac.const _)))))))))))))
end Go.Proofs.YtbjfinndngafoaaGreat
