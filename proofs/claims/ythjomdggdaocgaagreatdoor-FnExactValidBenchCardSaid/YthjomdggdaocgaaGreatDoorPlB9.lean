/-
  ValidBench: the law.
-/
import Derived.Test.YthjomdggdaocgaaGreatDoorPlB8
import Derived.Test.YthjomdggdaocgaaGreatDoorAl3R
set_option linter.unusedVariables false
set_option linter.unusedSimpArgs false
namespace Go.Proofs.YthjomdggdaocgaaGreatDoor
open Go.RowKit
theorem toBench {I : List GItem} {U R : List (List GItem)} (hI : I.length ≤ 2000000) (hIs : ∀ i, i < I.length → Small (I.getD i z_GItem)) (hU : StackS U) (hR : StackS R) : Tends (fun K => laws_toBench.f K I U R) (I, U, R) :=
  Tends.bind (toItemS hI hIs) (Tends.bind (toItemSS hU.1 hU.2) (Tends.bind (toItemSS hR.1 hR.2) (Tends.const _)))
theorem eqBench {I : List GItem} {U R : List (List GItem)} (hI : I.length ≤ 2000000) (hIs : ∀ i, i < I.length → Small (I.getD i z_GItem)) (hU : StackS U) (hR : StackS R) : Tends (fun K => laws_eqBench.f K I U R I U R) true :=
  Tends.bind (eqItemS hI hIs) (Tends.pos rfl (Tends.bind (eqItemSS hU.1 hU.2) (Tends.pos rfl (Tends.bind (eqItemSS hR.1 hR.2) (Tends.pos rfl (Tends.const _))))))
theorem getD_of {α : Type} {xs : List α} {i : Nat} (z : α) (h : i < xs.length) : xs.getD i z ∈ xs := by
  rw [List.getD_eq_getElem?_getD, List.getElem?_eq_getElem h]; exact List.getElem_mem h
theorem szBench {I : List GItem} {U R : List (List GItem)} (hI : I.length ≤ 9223372036854775807) (hIs : ∀ i, i < I.length → Fits (I.getD i z_GItem))
    (hU : U.length ≤ 9223372036854775807) (hUs : ∀ i, i < U.length → (U.getD i []).length ≤ 9223372036854775807 ∧ ∀ j, j < (U.getD i []).length → Fits ((U.getD i []).getD j z_GItem))
    (hR : R.length ≤ 9223372036854775807) (hRs : ∀ i, i < R.length → (R.getD i []).length ≤ 9223372036854775807 ∧ ∀ j, j < (R.getD i []).length → Fits ((R.getD i []).getD j z_GItem)) :
    ∃ r, Tends (fun K => laws_szBench.f K I U R 1048576) r ∧ (r < 0 ∨ ((I.length ≤ 2000000 ∧ ∀ i, i < I.length → Small (I.getD i z_GItem)) ∧ StackS U ∧ StackS R)) := by
  unfold laws_szBench.f
  refine szBind (szItemS hI hIs (by omega) (by omega)) fun l0 ⟨a0, a1, a2, a3⟩ _ => ?_
  refine szBind (szItemSS hU hUs a0 (by omega)) fun l1 ⟨b0, b1, b2, b3⟩ _ => ?_
  refine szBind (szItemSS hR hRs b0 (by omega)) fun l2 ⟨c0, c1, c2, c3⟩ _ => ?_
  exact ⟨l2, Tends.const _, .inr ⟨⟨a2, a3⟩, ⟨b2, b3⟩, ⟨c2, c3⟩⟩⟩
theorem fnExactValidBench_holds : Rows.FnExactValidBenchSaid := fnExactValidBench_of fun x h => by
  obtain ⟨⟨i1, i2⟩, ⟨u1, u2⟩, r1, r2⟩ := h
  have fits : ∀ {y : GItem}, (y.Name.size ≤ 9223372036854775807 ∧ (Lit.int .i64 y.Kind).wf = true ∧ ((y.Triangulation_Tets.length ≤ 9223372036854775807 ∧ ∀ y1 ∈ y.Triangulation_Tets, (y1.length ≤ 9223372036854775807 ∧ ∀ y2 ∈ y1, ((Lit.int .i64 y2.Tet).wf = true ∧ (Lit.int .i64 y2.Perm).wf = true)))) ∧ ((y.Diagram_Crossings.length ≤ 9223372036854775807 ∧ ∀ y1 ∈ y.Diagram_Crossings, ((Lit.int .i64 y1.A).wf = true ∧ (Lit.int .i64 y1.B).wf = true ∧ (Lit.int .i64 y1.C).wf = true ∧ (Lit.int .i64 y1.D).wf = true ∧ (Lit.int .i64 y1.Sign).wf = true)) ∧ (Lit.int .i64 y.Diagram_Circles).wf = true) ∧ ((Lit.int .i64 y.Braid_Strands).wf = true ∧ (y.Braid_Word.length ≤ 9223372036854775807 ∧ ∀ y1 ∈ y.Braid_Word, (Lit.int .i64 y1).wf = true)) ∧ ((Lit.int .i64 y.Certificate_Name).wf = true ∧ (Lit.int .i64 y.Certificate_Trait).wf = true ∧ (y.Certificate_Moves.length ≤ 9223372036854775807 ∧ ∀ y1 ∈ y.Certificate_Moves, ((Lit.int .i64 y1.Kind).wf = true ∧ (Lit.int .i64 y1.Tet).wf = true ∧ (Lit.int .i64 y1.Index).wf = true)) ∧ (y.Certificate_Tets.length ≤ 9223372036854775807 ∧ ∀ y1 ∈ y.Certificate_Tets, (Lit.int .i64 y1).wf = true) ∧ (y.Certificate_Perms.length ≤ 9223372036854775807 ∧ ∀ y1 ∈ y.Certificate_Perms, (Lit.int .i64 y1).wf = true))) → Fits y := fun {y} h => by
    obtain ⟨n1, _, ⟨n2, n2r⟩, ⟨⟨n3, _⟩, _⟩, ⟨_, n4, _⟩, ⟨_, _, ⟨n5, _⟩, ⟨n6, _⟩, n7, _⟩⟩ := h
    exact ⟨n1, ⟨n2, fun j hj => (n2r _ (getD_of [] hj)).1⟩, n3, n4, n5, n6, n7⟩
  obtain ⟨s, t, c⟩ := szBench (I := x.Items) (U := x.Undos) (R := x.Redos) i1 (fun i hi => fits (i2 _ (getD_of z_GItem hi)))
    u1 (fun i hi => ⟨(u2 _ (getD_of [] hi)).1, fun j hj => fits ((u2 _ (getD_of [] hi)).2 _ (getD_of z_GItem hj))⟩)
    r1 (fun i hi => ⟨(r2 _ (getD_of [] hi)).1, fun j hj => fits ((r2 _ (getD_of [] hi)).2 _ (getD_of z_GItem hj))⟩)
  unfold laws_FnExactValidBench.f
  refine Tends.get (Tends.bind t ?_)
  by_cases hs : s < 0
  · exact Tends.pos hs (Tends.const _)
  · obtain ⟨⟨m1, m2⟩, mU, mR⟩ := c.resolve_left hs
    have hT := toBench m1 m2 mU mR
    obtain ⟨b, b1, b2⟩ := bench_both m1 m2 mU mR
    have hE := eqBench m1 m2 mU mR
    exact Tends.neg hs (Tends.bind3 hT (Tends.bind b1 (Tends.bind3 hT (Tends.bind b2 (Tends.pos (beq_self_eq_true b) (Tends.bind3 hT (Tends.bind hE (Tends.pos rfl (Tends.const _)))))))))
end Go.Proofs.YthjomdggdaocgaaGreatDoor
