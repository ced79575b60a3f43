/-
  How much a diagram is; tests that are known.
-/
import Derived.Test.YtdfiglhdjlmakaaGreatPlA
set_option linter.unusedVariables false
set_option linter.unusedSimpArgs false
namespace Go.Proofs.YtdfiglhdjlmakaaGreat
open Go.RowKit
theorem szDiagram_small {xs : List GCrossing} {c : Int} (h : xs.length ≤ 1048576) : laws_szDiagram.f xs c 1048576 = some (1048576 - (xs.length : Int)) := by
  unfold laws_szDiagram.f laws_szCrossingS.f
  rw [w64_id (by omega) (by omega), if_neg (by omega), Option.bind_some, if_neg (by omega)]
theorem szDiagram_great {xs : List GCrossing} {c : Int} (h : ¬ xs.length ≤ 1048576) (h2 : xs.length ≤ 9223372036854775807) : laws_szDiagram.f xs c 1048576 = some (-1) := by
  unfold laws_szDiagram.f laws_szCrossingS.f
  rw [w64_id (by omega) (by omega), if_pos (by omega), Option.bind_some, if_pos (by omega)]
theorem Tends.pos {α : Type} {p : Prop} [Decidable p] {F G : Nat → Option α} {r : α} (hp : p) (h : Tends F r) : Tends (fun K => if p then F K else G K) r := Tends.congr (fun K => if_pos hp) h
theorem Tends.neg {α : Type} {p : Prop} [Decidable p] {F G : Nat → Option α} {r : α} (hp : ¬ p) (h : Tends G r) : Tends (fun K => if p then F K else G K) r := Tends.congr (fun K => if_neg hp) h
theorem Tends2.pos {α : Type} {p : Prop} [Decidable p] {F G : Nat → Nat → Option α} {r : α} (hp : p) (h : Tends2 F r) : Tends2 (fun K k => if p then F K k else G K k) r := Tends2.congr (fun K k => if_pos hp) h
theorem Tends2.neg {α : Type} {p : Prop} [Decidable p] {F G : Nat → Nat → Option α} {r : α} (hp : ¬ p) (h : Tends2 G r) : Tends2 (fun K k => if p then F K k else G K k) r := Tends2.congr (fun K k => if_neg hp) h
end Go.Proofs.YtdfiglhdjlmakaaGreat
