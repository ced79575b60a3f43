/-
  The law on JoinDiagrams holds for every input: whatever the two diagrams and their arcs are, the program's answer is the reference's, in fresh memory. No condition.
-/
import Derived.Test.YtdafmbaeiefacaaPlL
import Derived.Test.YtdafmbaeiefacaaAl4R
set_option linter.unusedVariables false
set_option linter.unusedSimpArgs false
set_option linter.unusedSectionVars false
namespace Go.Proofs.Ytdafmbaeiefacaa
open Go.RowKit
theorem szDiagram_le {xs : List GCrossing} {c : Int} {n : Nat} (h : xs.length ≤ n) (hn : n ≤ 1048576) : laws_szDiagram.f xs c (n : Int) = some ((n - xs.length : Nat) : Int) := by
  unfold laws_szDiagram.f laws_szCrossingS.f
  rw [w64_id (by omega) (by omega), if_neg (by omega), Option.bind_some, if_neg (by omega)]
  congr 1
  omega
theorem szDiagram_gt {xs : List GCrossing} {c : Int} {n : Nat} (h : ¬ xs.length ≤ n) (hn : n ≤ 1048576) (h2 : xs.length ≤ 9223372036854775807) : laws_szDiagram.f xs c (n : Int) = some (-1) := by
  unfold laws_szDiagram.f laws_szCrossingS.f
  rw [w64_id (by omega) (by omega), if_pos (by omega), Option.bind_some, if_pos (by omega)]
theorem law_JoinDiagrams {ds es : List GCrossing} {cd a ce b : Int} (hd : ds.length ≤ 9223372036854775807) (he : es.length ≤ 9223372036854775807) : Tends (fun K => laws_FnExactJoinDiagrams.f K ds cd a es ce b) true := by
  unfold laws_FnExactJoinDiagrams.f
  by_cases h1 : ds.length ≤ 1048576
  rotate_left
  · rw [show (1048576 : Int) = ((1048576 : Nat) : Int) from rfl, szDiagram_gt h1 (by omega) hd]
    exact Tends.some_ (Tends.pos (by omega) (Tends.const true))
  rw [show (1048576 : Int) = ((1048576 : Nat) : Int) from rfl, szDiagram_le h1 (by omega)]
  refine Tends.some_ (Tends.neg (by omega) ?_)
  by_cases h2 : es.length ≤ 1048576 - ds.length
  rotate_left
  · rw [szDiagram_gt h2 (by omega) he]
    exact Tends.some_ (Tends.pos (by omega) (Tends.const true))
  rw [szDiagram_le h2 (by omega)]
  refine Tends.some_ (Tends.neg (by omega) ?_)
  obtain ⟨ys, c', e, hy, hs, hi⟩ := JoinDiagrams_both ds es (by omega) (by omega) cd a ce b
  have hn1 : ds.length ≤ 2000000 := by omega
  have hn2 : es.length ≤ 2000000 := by omega
  have k1 : (0 : Int) ≤ 1 ∧ (1 : Int) ≤ 1000000000 := by decide
  refine Tends.bind2 (toDiagram hn1 cd) (Tends.bind2 (toDiagram hn2 ce) (Tends.bind3 hs (Tends.bind2 (toDiagram hn1 cd) (Tends.bind2 (toDiagram hn2 ce) (Tends.bind3 hi ?_)))))
  refine Tends.bind (eqDiagram hy c') (Tends.pos rfl (Tends.pos rfl ?_))
  refine Tends.bind2 (toDiagram hn1 cd) (Tends.bind (eqDiagram hn1 cd) (Tends.pos rfl ?_))
  refine Tends.bind2 (toDiagram hn2 ce) (Tends.bind (eqDiagram hn2 ce) (Tends.pos rfl ?_))
  refine Tends.bind2 (markDiagram hn1 cd k1) (Tends.pos (marks_length _ _) ?_)
  refine Tends.bind2 (markDiagram hn2 ce ⟨by omega, by omega⟩) (Tends.pos (marks_length _ _) (Tends.neg (by omega) ?_))
  refine Tends.bind (eqDiagram hy c') (Tends.pos rfl ?_)
  refine Tends.bind2 (markDiagram hy c' k1) (Tends.pos (marks_length _ _) ?_)
  refine Tends.bind (heldDiagram hy c' k1) (Tends.neg (by omega) (Tends.pos rfl ?_))
  refine Tends.bind2 (toDiagram hn1 cd) (Tends.bind2 (toDiagram hn2 ce) (Tends.bind3 hi (Tends.bind (eqDiagram hy c') (Tends.pos rfl (Tends.pos rfl ?_)))))
  exact Tends.bind (heldDiagram hy c' k1) (Tends.neg (by omega) (Tends.pos rfl (Tends.const true)))
/-- The law on JoinDiagrams holds for every input. -/
theorem fnExactJoinDiagrams_holds : Rows.FnExactJoinDiagramsSaid :=
  fnExactJoinDiagrams_of fun x0 k0 k1 x2 k2 k3 hl0 _ _ _ hl2 _ _ _ => (law_JoinDiagrams hl0 hl2).get
end Go.Proofs.Ytdafmbaeiefacaa
