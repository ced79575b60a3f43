/-
  The law's own words about benches.
-/
import Derived.Test.YtkmeepgpmppibaaGreatDoorPlBO
set_option linter.unusedVariables false
set_option linter.unusedSimpArgs false
namespace Go.Proofs.YtkmeepgpmppibaaGreatDoor
open Go.RowKit
theorem qK {I : List Am} {U R : List (List Am)} (hI : I.length ≤ 2000000) (hIs : ∀ i, i < I.length → Small (I.getD i Br)) (hU : Jb U) (hR : Jb R) : Ab (fun K => H9.f K I U R) (I, U, R) :=
  Ab.bind (dY hI hIs) (Ab.bind (aL hU.1 hU.2) (Ab.bind (aL hR.1 hR.2) (Ab.const _)))
theorem eY {I : List Am} {U R : List (List Am)} (hI : I.length ≤ 2000000) (hIs : ∀ i, i < I.length → Small (I.getD i Br)) (hU : Jb U) (hR : Jb R) : Ab (fun K => Gq.f K I U R I U R) true :=
  Ab.bind (dP hI hIs) (Ab.pos rfl (Ab.bind (bB hU.1 hU.2) (Ab.pos rfl (Ab.bind (bB hR.1 hR.2) (Ab.pos rfl (Ab.const _))))))
theorem fits {y : Am} (h : y.Name.size ≤ 9223372036854775807 ∧ (Lit.int .i64 y.Kind).wf = true ∧ ((y.Ad.length ≤ 9223372036854775807 ∧ ∀ y1 ∈ y.Ad, (y1.length ≤ 9223372036854775807 ∧ ∀ y2 ∈ y1, ((Lit.int .i64 y2.Tet).wf = true ∧ (Lit.int .i64 y2.Perm).wf = true)))) ∧ ((y.Ae.length ≤ 9223372036854775807 ∧ ∀ y1 ∈ y.Ae, ((Lit.int .i64 y1.A).wf = true ∧ (Lit.int .i64 y1.B).wf = true ∧ (Lit.int .i64 y1.C).wf = true ∧ (Lit.int .i64 y1.D).wf = true ∧ (Lit.int .i64 y1.Sign).wf = true)) ∧ (Lit.int .i64 y.Aj).wf = true) ∧ ((Lit.int .i64 y.Ao).wf = true ∧ (y.Av.length ≤ 9223372036854775807 ∧ ∀ y1 ∈ y.Av, (Lit.int .i64 y1).wf = true)) ∧ ((Lit.int .i64 y.Ak).wf = true ∧ (Lit.int .i64 y.Ah).wf = true ∧ (y.Af.length ≤ 9223372036854775807 ∧ ∀ y1 ∈ y.Af, ((Lit.int .i64 y1.Kind).wf = true ∧ (Lit.int .i64 y1.Tet).wf = true ∧ (Lit.int .i64 y1.Index).wf = true)) ∧ (y.Ai.length ≤ 9223372036854775807 ∧ ∀ y1 ∈ y.Ai, (Lit.int .i64 y1).wf = true) ∧ (y.Ag.length ≤ 9223372036854775807 ∧ ∀ y1 ∈ y.Ag, (Lit.int .i64 y1).wf = true))) : Fits y := by
  obtain ⟨n1, _, ⟨n2, n2r⟩, ⟨⟨n3, _⟩, _⟩, ⟨_, n4, _⟩, ⟨_, _, ⟨n5, _⟩, ⟨n6, _⟩, n7, _⟩⟩ := h
  exact ⟨n1, ⟨n2, fun j hj => (n2r _ (Oo [] hj)).1⟩, n3, n4, n5, n6, n7⟩
end Go.Proofs.YtkmeepgpmppibaaGreatDoor
