/-
  The law on RemoveKink holds for every input: whatever the diagram and the crossing are, the program's answer is the reference's, in fresh memory. No condition.
-/
import Derived.Test.YtdafmbaeiefacaaPlG5
import Derived.Test.YtdafmbaeiefacaaAl10R
set_option linter.unusedVariables false
set_option linter.unusedSimpArgs false
set_option linter.unusedSectionVars false
namespace Go.Proofs.Ytdafmbaeiefacaa
open Go.RowKit
theorem law_RemoveKink {xs : List GCrossing} {c a : Int} (hx : xs.length ≤ 9223372036854775807) : Tends (fun K => laws_FnExactRemoveKink.f K xs c a) true := by
  unfold laws_FnExactRemoveKink.f
  by_cases hn : xs.length ≤ 1048576
  · obtain ⟨ys, c', e, hy, hs, hi⟩ := RemoveKink_both xs hn c a
    have hn' : xs.length ≤ 2000000 := by omega
    have k1 : (0 : Int) ≤ 1 ∧ (1 : Int) ≤ 1000000000 := by decide
    rw [szDiagram_small hn]
    dsimp only [Option.bind_some]
    refine Tends.neg (by omega) ?_
    refine Tends.bind2 (toDiagram hn' c) (Tends.bind3 hs (Tends.bind2 (toDiagram hn' c) (Tends.bind3 hi ?_)))
    refine Tends.bind (eqDiagram hy c') (Tends.pos rfl (Tends.pos rfl ?_))
    refine Tends.bind2 (toDiagram hn' c) (Tends.bind (eqDiagram hn' c) (Tends.pos rfl ?_))
    refine Tends.bind2 (markDiagram hn' c k1) (Tends.pos (marks_length _ _) (Tends.neg (by omega) ?_))
    refine Tends.bind (eqDiagram hy c') (Tends.pos rfl ?_)
    refine Tends.bind2 (markDiagram hy c' k1) (Tends.pos (marks_length _ _) ?_)
    refine Tends.bind (heldDiagram hy c' k1) (Tends.neg (by omega) (Tends.pos rfl ?_))
    refine Tends.bind2 (toDiagram hn' c) (Tends.bind3 hi (Tends.bind (eqDiagram hy c') (Tends.pos rfl (Tends.pos rfl ?_))))
    exact Tends.bind (heldDiagram hy c' k1) (Tends.neg (by omega) (Tends.pos rfl (Tends.const true)))
  · rw [szDiagram_great hn hx]
    dsimp only [Option.bind_some]
    exact Tends.pos (by omega) (Tends.const true)
/-- The law on RemoveKink holds for every input. -/
theorem fnExactRemoveKink_holds : Rows.FnExactRemoveKinkSaid :=
  fnExactRemoveKink_of fun x0 k0 k1 hl h0 _ _ => (law_RemoveKink hl).get
end Go.Proofs.Ytdafmbaeiefacaa
