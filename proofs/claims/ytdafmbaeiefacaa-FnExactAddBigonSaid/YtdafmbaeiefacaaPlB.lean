/-
  The law on AddKink out of two answers that agree.
-/
import Derived.Test.YtdafmbaeiefacaaPlA
set_option linter.unusedVariables false
set_option linter.unusedSimpArgs false
namespace Go.Proofs.Ytdafmbaeiefacaa
open Go.RowKit
theorem szDiagram_small {xs : List GCrossing} {c : Int} (h : xs.length ≤ 1048576) : laws_szDiagram.f xs c 1048576 = some (1048576 - (xs.length : Int)) := by
  unfold laws_szDiagram.f laws_szCrossingS.f
  rw [w64_id (by omega) (by omega), if_neg (by omega), Option.bind_some, if_neg (by omega)]
theorem szDiagram_great {xs : List GCrossing} {c : Int} (h : ¬ xs.length ≤ 1048576) (h2 : xs.length ≤ 9223372036854775807) : laws_szDiagram.f xs c 1048576 = some (-1) := by
  unfold laws_szDiagram.f laws_szCrossingS.f
  rw [w64_id (by omega) (by omega), if_pos (by omega), Option.bind_some, if_pos (by omega)]
theorem Tends.pos {α : Type} {p : Prop} [Decidable p] {F G : Nat → Option α} {r : α} (hp : p) (h : Tends F r) : Tends (fun K => if p then F K else G K) r := Tends.congr (fun K => if_pos hp) h
theorem Tends.neg {α : Type} {p : Prop} [Decidable p] {F G : Nat → Option α} {r : α} (hp : ¬ p) (h : Tends G r) : Tends (fun K => if p then F K else G K) r := Tends.congr (fun K => if_neg hp) h
theorem Tends2.pos {α : Type} {p : Prop} [Decidable p] {F G : Nat → Nat → Option α} {r : α} (hp : p) (h : Tends2 F r) : Tends2 (fun K k => if p then F K k else G K k) r := Tends2.congr (fun K k => if_pos hp) h
theorem Tends2.neg {α : Type} {p : Prop} [Decidable p] {F G : Nat → Nat → Option α} {r : α} (hp : ¬ p) (h : Tends2 G r) : Tends2 (fun K k => if p then F K k else G K k) r := Tends2.congr (fun K k => if_neg hp) h
theorem law_AddKink {xs ys : List GCrossing} {c a v c' e : Int} (hx : xs.length ≤ 9223372036854775807) (h : xs.length ≤ 1048576 → ∃ ys c' e, ys.length ≤ 2000000 ∧ Tends (fun K => spec_AddKink.f K xs c a v) (ys, c', e) ∧ Tends (fun K => impl_AddKink.f K xs c a v) (ys, c', e)) :
    Tends (fun K => laws_FnExactAddKink.f K xs c a v) true := by
  unfold laws_FnExactAddKink.f
  by_cases hn : xs.length ≤ 1048576
  · obtain ⟨ys, c', e, hy, hs, hi⟩ := h hn
    have hn' : xs.length ≤ 2000000 := by omega
    have k1 : (0 : Int) ≤ 1 ∧ (1 : Int) ≤ 1000000000 := by decide
    rw [szDiagram_small hn]
    dsimp only [Option.bind_some]
    refine Tends.neg (by omega) ?_
    refine Tends.bind2 (toDiagram hn' c) (Tends.bind3 hs (Tends.bind2 (toDiagram hn' c) (Tends.bind3 hi ?_)))
    refine Tends.bind (eqDiagram hy c') (Tends.pos rfl (Tends.pos rfl ?_))
    refine Tends.bind2 (toDiagram hn' c) (Tends.bind (eqDiagram hn' c) (Tends.pos rfl ?_))
    refine Tends.bind2 (markDiagram hn' c k1) (Tends.pos (marks_length _ _) (Tends.neg (by omega) ?_))
    refine Tends.bind (eqDiagram hy c') (Tends.pos rfl ?_)
    refine Tends.bind2 (markDiagram hy c' k1) (Tends.pos (marks_length _ _) ?_)
    refine Tends.bind (heldDiagram hy c' k1) (Tends.neg (by omega) (Tends.pos rfl ?_))
    refine Tends.bind2 (toDiagram hn' c) (Tends.bind3 hi (Tends.bind (eqDiagram hy c') (Tends.pos rfl (Tends.pos rfl ?_))))
    exact Tends.bind (heldDiagram hy c' k1) (Tends.neg (by omega) (Tends.pos rfl (Tends.const true)))
  · rw [szDiagram_great hn hx]
    dsimp only [Option.bind_some]
    exact Tends.pos (by omega) (Tends.const true)
end Go.Proofs.Ytdafmbaeiefacaa
