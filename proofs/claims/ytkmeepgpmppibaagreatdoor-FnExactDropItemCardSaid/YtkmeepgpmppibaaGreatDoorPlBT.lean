/-
  The law's own words about benches.
-/
import Derived.Test.YtkmeepgpmppibaaGreatDoorPlBO
set_option linter.unusedVariables false
set_option linter.unusedSimpArgs false
namespace Go.Proofs.YtkmeepgpmppibaaGreatDoor
open Go.RowKit
theorem toBench {I : List GItem} {U R : List (List GItem)} (hI : I.length ≤ 2000000) (hIs : ∀ i, i < I.length → Small (I.getD i z_GItem)) (hU : StackS U) (hR : StackS R) : Tends (fun K => laws_toBench.f K I U R) (I, U, R) :=
  Tends.bind (toItemS hI hIs) (Tends.bind (toItemSS hU.1 hU.2) (Tends.bind (toItemSS hR.1 hR.2) (Tends.const _)))
theorem eqBench {I : List GItem} {U R : List (List GItem)} (hI : I.length ≤ 2000000) (hIs : ∀ i, i < I.length → Small (I.getD i z_GItem)) (hU : StackS U) (hR : StackS R) : Tends (fun K => laws_eqBench.f K I U R I U R) true :=
  Tends.bind (eqItemS hI hIs) (Tends.pos rfl (Tends.bind (eqItemSS hU.1 hU.2) (Tends.pos rfl (Tends.bind (eqItemSS hR.1 hR.2) (Tends.pos rfl (Tends.const _))))))
theorem fits {y : GItem} (h : y.Name.size ≤ 9223372036854775807 ∧ (Lit.int .i64 y.Kind).wf = true ∧ ((y.Triangulation_Tets.length ≤ 9223372036854775807 ∧ ∀ y1 ∈ y.Triangulation_Tets, (y1.length ≤ 9223372036854775807 ∧ ∀ y2 ∈ y1, ((Lit.int .i64 y2.Tet).wf = true ∧ (Lit.int .i64 y2.Perm).wf = true)))) ∧ ((y.Diagram_Crossings.length ≤ 9223372036854775807 ∧ ∀ y1 ∈ y.Diagram_Crossings, ((Lit.int .i64 y1.A).wf = true ∧ (Lit.int .i64 y1.B).wf = true ∧ (Lit.int .i64 y1.C).wf = true ∧ (Lit.int .i64 y1.D).wf = true ∧ (Lit.int .i64 y1.Sign).wf = true)) ∧ (Lit.int .i64 y.Diagram_Circles).wf = true) ∧ ((Lit.int .i64 y.Braid_Strands).wf = true ∧ (y.Braid_Word.length ≤ 9223372036854775807 ∧ ∀ y1 ∈ y.Braid_Word, (Lit.int .i64 y1).wf = true)) ∧ ((Lit.int .i64 y.Certificate_Name).wf = true ∧ (Lit.int .i64 y.Certificate_Trait).wf = true ∧ (y.Certificate_Moves.length ≤ 9223372036854775807 ∧ ∀ y1 ∈ y.Certificate_Moves, ((Lit.int .i64 y1.Kind).wf = true ∧ (Lit.int .i64 y1.Tet).wf = true ∧ (Lit.int .i64 y1.Index).wf = true)) ∧ (y.Certificate_Tets.length ≤ 9223372036854775807 ∧ ∀ y1 ∈ y.Certificate_Tets, (Lit.int .i64 y1).wf = true) ∧ (y.Certificate_Perms.length ≤ 9223372036854775807 ∧ ∀ y1 ∈ y.Certificate_Perms, (Lit.int .i64 y1).wf = true))) : Fits y := by
  obtain ⟨n1, _, ⟨n2, n2r⟩, ⟨⟨n3, _⟩, _⟩, ⟨_, n4, _⟩, ⟨_, _, ⟨n5, _⟩, ⟨n6, _⟩, n7, _⟩⟩ := h
  exact ⟨n1, ⟨n2, fun j hj => (n2r _ (getD_of [] hj)).1⟩, n3, n4, n5, n6, n7⟩
end Go.Proofs.YtkmeepgpmppibaaGreatDoor
