/-
  Both answers on two diagrams that are put side by side.
-/
import Derived.Test.YtdafmbaeiefacaaPlJ
import Derived.Test.YtdafmbaeiefacaaPlV
set_option linter.unusedVariables false
set_option linter.unusedSimpArgs false
set_option linter.unusedSectionVars false
namespace Go.Proofs.Ytdafmbaeiefacaa
open Go.RowKit
theorem isDiagram_of {xs : List GCrossing} {cs : Int} {f t : List GEnd} {b : Bool} (h : Tends (fun K => impl_Diagram_drawing.f K xs cs) (f, t, b)) : Tends (fun K => impl_isDiagram.f K xs cs) b := Tends.bind3 h (Tends.const b)
/-- Both answers on two diagrams that are put side by side: a code, and if it is none, both are diagrams and small together. -/
theorem beside_codes (ds es : List GCrossing) (hd : ds.length ≤ 2000000) (he : es.length ≤ 2000000) (cd ce : Int) :
    (∃ e : Int, e ≠ 0 ∧ Tends (fun K => spec_UnionDiagrams.f K ds cd es ce) ([], 0, e) ∧ Tends (fun K => impl_besideCode.f K ds cd es ce) e) ∨
    (Tends (fun K => spec_UnionDiagrams.f K ds cd es ce) (joined ds es, w64 (cd + ce), 0) ∧ Tends (fun K => impl_besideCode.f K ds cd es ce) 0 ∧ ds.length + es.length ≤ 10 ∧ Signs ds ∧ Signs es ∧ ∃ f t f' t', Good ds f t ∧ Good es f' t') := by
  unfold spec_UnionDiagrams.f impl_besideCode.f
  rcases drawings ds hd cd with ⟨h1, h2⟩ | ⟨nd, sd, f, t, gd, h1, h2⟩
  · exact .inl ⟨1, by decide, Tends.bind h1 (Tends.neg (by decide) (Tends.const _)), Tends.bind (isDiagram_of h2) (Tends.neg (by decide) (Tends.const _))⟩
  rcases drawings es he ce with ⟨k1, k2⟩ | ⟨ne, se, f', t', ge, k1, k2⟩
  · exact .inl ⟨1, by decide, Tends.bind h1 (Tends.pos rfl (Tends.bind k1 (Tends.neg (by decide) (Tends.const _)))), Tends.bind (isDiagram_of h2) (Tends.pos rfl (Tends.bind (isDiagram_of k2) (Tends.neg (by decide) (Tends.const _))))⟩
  have hw : w64 ((ds.length : Int) + (es.length : Int)) = (ds.length : Int) + (es.length : Int) := w64_id (by omega) (by omega)
  by_cases h10 : 10 < w64 ((ds.length : Int) + (es.length : Int))
  · exact .inl ⟨3, by decide, Tends.bind h1 (Tends.pos rfl (Tends.bind k1 (Tends.pos rfl (Tends.pos h10 (Tends.const _))))), Tends.bind (isDiagram_of h2) (Tends.pos rfl (Tends.bind (isDiagram_of k2) (Tends.pos rfl (Tends.pos h10 (Tends.const _)))))⟩
  by_cases h8 : 8 < w64 (cd + ce)
  · exact .inl ⟨3, by decide, Tends.bind h1 (Tends.pos rfl (Tends.bind k1 (Tends.pos rfl (Tends.neg h10 (Tends.pos h8 (Tends.const _)))))), Tends.bind (isDiagram_of h2) (Tends.pos rfl (Tends.bind (isDiagram_of k2) (Tends.pos rfl (Tends.neg h10 (Tends.pos h8 (Tends.const _))))))⟩
  · refine .inr ⟨Tends.bind h1 (Tends.pos rfl (Tends.bind k1 (Tends.pos rfl (Tends.neg h10 (Tends.neg h8 (Tends.bind2 (union_f hd he cd ce) (Tends.const _))))))), Tends.bind (isDiagram_of h2) (Tends.pos rfl (Tends.bind (isDiagram_of k2) (Tends.pos rfl (Tends.neg h10 (Tends.neg h8 (Tends.const _)))))), by omega, sd, se, f, t, f', t', gd, ge⟩
end Go.Proofs.Ytdafmbaeiefacaa
