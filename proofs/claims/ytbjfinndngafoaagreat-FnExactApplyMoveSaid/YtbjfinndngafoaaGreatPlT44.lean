/-
  ApplyMove: the law.
-/
import Derived.Test.YtbjfinndngafoaaGreatPlT32
import Derived.Test.YtbjfinndngafoaaGreatAl6R
set_option linter.unusedVariables false
set_option linter.unusedSimpArgs false
namespace Go.Proofs.YtbjfinndngafoaaGreat
open Go.RowKit
theorem fnExactApplyMove_holds : Rows.FnExactApplyMoveSaid := Ny fun x m h _ => by
  obtain ⟨n2, n2r⟩ := h
  have hrow : ∀ i, i < x.Og.length → (x.Og.getD i []).length ≤ 9223372036854775807 := fun i hi => by
    rw [List.getD_eq_getElem?_getD, List.getElem?_eq_getElem hi]
    exact (n2r _ (List.getElem_mem hi)).1
  obtain ⟨s, t, c⟩ := dR n2 hrow (left := 1048576) (by decide) (by decide)
  unfold F5.f
  refine Ac.get (Ac.bind t ?_)
  by_cases hs : s < 0
  · exact Ac.pos hs (Ac.const _)
  · obtain ⟨_, _, m1, m2⟩ := c.resolve_left hs
    have hT : Ac (fun K => Dr.f K x.Og) x.Og := Ac.bind (eB m1 m2) (Ac.const _)
    have hE : Ac (fun K => Cz.f K x.Og x.Og) true := Ac.bind (Wm m1 m2) (Ac.pos rfl (Ac.const _))
    obtain ⟨L, code, ⟨mm, hm, hsh⟩, c1, c2⟩ := Xl x.Og m1 m.Kind m.Tet m.Index
    have hM : Ac (fun _ => G6.f m.Kind m.Tet m.Index) (m.Kind, m.Tet, m.Index) := Ac.const _
    have l1 : L.length ≤ 2000000 := by have := hsh.len; omega
    have l2 : ∀ i, i < L.length → (L.getD i []).length ≤ 2000000 := fun i hi => by have h1 := hsh.len; have := hsh.row i (by omega); omega
    have hL : Ac (fun K => Cz.f K L L) true := Ac.bind (Wm l1 l2) (Ac.pos rfl (Ac.const _))
    obtain ⟨q, ys, ⟨q1, _⟩, q2, q3, _⟩ := Yz m1 m2
    obtain ⟨r, zs, ⟨r1, _⟩, r2, r3, r4⟩ := Yz l1 l2
    have n1 : ¬ q < 0 := by omega
    have n2 : ¬ r < 0 := by omega
    have hH : Ac (fun K => Ev.f K zs 1) r := Ac.bind r4 (Ac.neg n2 (Ac.const _))
    exact Ac.neg hs (Ac.bind hT (Ac.Ik hM (Ac.Eg c1 (Ac.bind hT (Ac.Ik hM (Ac.Eg c2 (Ac.bind hL (Ac.pos rfl (Ac.pos rfl (Ac.bind hT (Ac.bind hE (Ac.pos rfl (Ac.Eg q3 (Ac.pos q2 (Ac.neg n1 (Ac.bind hL (Ac.pos rfl (Ac.Eg r3 (Ac.pos r2 (Ac.bind hH (Ac.neg n2 (Ac.pos rfl (Ac.bind hT (Ac.Ik hM (Ac.Eg c2 (Ac.bind hL (Ac.pos rfl (Ac.pos rfl (Ac.bind hH (Ac.neg n2 (Ac.pos rfl (Ac.const _))))))))))))))))))))))))))))))))
end Go.Proofs.YtbjfinndngafoaaGreat
