/-
  UndoBench: the law.
-/
import Derived.Test.YthjomdggdaocgaaGreatDoorPlBU
import Derived.Test.YthjomdggdaocgaaGreatDoorAl5R
set_option linter.unusedVariables false
set_option linter.unusedSimpArgs false
namespace Go.Proofs.YthjomdggdaocgaaGreatDoor
open Go.RowKit
theorem toBench {I : List GItem} {U R : List (List GItem)} (hI : I.length ≤ 2000000) (hIs : ∀ i, i < I.length → Small (I.getD i z_GItem)) (hU : StackS U) (hR : StackS R) : Tends (fun K => laws_toBench.f K I U R) (I, U, R) :=
  Tends.bind (toItemS hI hIs) (Tends.bind (toItemSS hU.1 hU.2) (Tends.bind (toItemSS hR.1 hR.2) (Tends.const _)))
theorem eqBench {I : List GItem} {U R : List (List GItem)} (hI : I.length ≤ 2000000) (hIs : ∀ i, i < I.length → Small (I.getD i z_GItem)) (hU : StackS U) (hR : StackS R) : Tends (fun K => laws_eqBench.f K I U R I U R) true :=
  Tends.bind (eqItemS hI hIs) (Tends.pos rfl (Tends.bind (eqItemSS hU.1 hU.2) (Tends.pos rfl (Tends.bind (eqItemSS hR.1 hR.2) (Tends.pos rfl (Tends.const _))))))
theorem fits {y : GItem} (h : y.Name.size ≤ 9223372036854775807 ∧ (Lit.int .i64 y.Kind).wf = true ∧ ((y.Triangulation_Tets.length ≤ 9223372036854775807 ∧ ∀ y1 ∈ y.Triangulation_Tets, (y1.length ≤ 9223372036854775807 ∧ ∀ y2 ∈ y1, ((Lit.int .i64 y2.Tet).wf = true ∧ (Lit.int .i64 y2.Perm).wf = true)))) ∧ ((y.Diagram_Crossings.length ≤ 9223372036854775807 ∧ ∀ y1 ∈ y.Diagram_Crossings, ((Lit.int .i64 y1.A).wf = true ∧ (Lit.int .i64 y1.B).wf = true ∧ (Lit.int .i64 y1.C).wf = true ∧ (Lit.int .i64 y1.D).wf = true ∧ (Lit.int .i64 y1.Sign).wf = true)) ∧ (Lit.int .i64 y.Diagram_Circles).wf = true) ∧ ((Lit.int .i64 y.Braid_Strands).wf = true ∧ (y.Braid_Word.length ≤ 9223372036854775807 ∧ ∀ y1 ∈ y.Braid_Word, (Lit.int .i64 y1).wf = true)) ∧ ((Lit.int .i64 y.Certificate_Name).wf = true ∧ (Lit.int .i64 y.Certificate_Trait).wf = true ∧ (y.Certificate_Moves.length ≤ 9223372036854775807 ∧ ∀ y1 ∈ y.Certificate_Moves, ((Lit.int .i64 y1.Kind).wf = true ∧ (Lit.int .i64 y1.Tet).wf = true ∧ (Lit.int .i64 y1.Index).wf = true)) ∧ (y.Certificate_Tets.length ≤ 9223372036854775807 ∧ ∀ y1 ∈ y.Certificate_Tets, (Lit.int .i64 y1).wf = true) ∧ (y.Certificate_Perms.length ≤ 9223372036854775807 ∧ ∀ y1 ∈ y.Certificate_Perms, (Lit.int .i64 y1).wf = true))) : Fits y := by
  obtain ⟨n1, _, ⟨n2, n2r⟩, ⟨⟨n3, _⟩, _⟩, ⟨_, n4, _⟩, ⟨_, _, ⟨n5, _⟩, ⟨n6, _⟩, n7, _⟩⟩ := h
  exact ⟨n1, ⟨n2, fun j hj => (n2r _ (getD_of [] hj)).1⟩, n3, n4, n5, n6, n7⟩
theorem fnExactUndoBench_holds : Rows.FnExactUndoBenchSaid := fnExactUndoBench_of fun x h => by
  obtain ⟨⟨i1, i2⟩, ⟨u1, u2⟩, r1, r2⟩ := h
  obtain ⟨s, t, c⟩ := szBenchW (I := x.Items) (U := x.Undos) (R := x.Redos) i1 (fun i hi => fits (i2 _ (getD_of z_GItem hi)))
    u1 (fun i hi => ⟨(u2 _ (getD_of [] hi)).1, fun j hj => fits ((u2 _ (getD_of [] hi)).2 _ (getD_of z_GItem hj))⟩)
    r1 (fun i hi => ⟨(r2 _ (getD_of [] hi)).1, fun j hj => fits ((r2 _ (getD_of [] hi)).2 _ (getD_of z_GItem hj))⟩)
  unfold laws_FnExactUndoBench.f
  refine Tends.get (Tends.bind t ?_)
  by_cases hs : s < 0
  · exact Tends.pos hs (Tends.const _)
  · obtain ⟨hc, ⟨m1, m2⟩, mU, mR⟩ := c.resolve_left hs
    have hT := toBench m1 m2 mU mR
    have hE := eqBench m1 m2 mU mR
    obtain ⟨A, B, C, cd, t1, t2, a1, a2, sB, sC, hl⟩ := undo_both m1 m2 mU mR
    have hG := eqBench a1 a2 sB sC
    obtain ⟨q, I', U', R', q0, e1, e2, e3, k1, _⟩ := markBench m1 m2 mU mR (by omega)
    obtain ⟨p, A', B', C', p0, f1, f2, f3, k2, k3⟩ := markBench a1 a2 sB sC (by omega)
    refine Tends.neg hs (Tends.bind3 hT (Tends.bind4 t1 (Tends.bind3 hT (Tends.bind4 t2 (Tends.bind hG (Tends.pos rfl (Tends.pos rfl (Tends.bind3 hT (Tends.bind hE (Tends.pos rfl (Tends.bind4 k1 (Tends.pos e1 (Tends.pos e2 (Tends.pos e3 (Tends.neg (by omega) (Tends.bind hG (Tends.pos rfl (Tends.bind4 k2 (Tends.pos f1 (Tends.pos f2 (Tends.pos f3 (Tends.bind k3 (Tends.neg (by omega) (Tends.pos rfl ?_))))))))))))))))))))))))
    exact Tends.bind3 hT (Tends.bind4 t2 (Tends.bind hG (Tends.pos rfl (Tends.pos rfl (Tends.bind k3 (Tends.neg (by omega) (Tends.pos rfl (Tends.const _))))))))
end Go.Proofs.YthjomdggdaocgaaGreatDoor
