/-
  How much a diagram is; tests that are known.
-/
import Derived.Test.YtkmeepgpmppibaaGreatDoorPlA0
set_option linter.unusedVariables false
set_option linter.unusedSimpArgs false
namespace Go.Proofs.YtkmeepgpmppibaaGreatDoor
open Go.RowKit
theorem Tends.pos {α : Type} {p : Prop} [Decidable p] {F G : Nat → Option α} {r : α} (hp : p) (h : Tends F r) : Tends (fun K => if p then F K else G K) r := Tends.congr (fun K => if_pos hp) h
theorem Tends.neg {α : Type} {p : Prop} [Decidable p] {F G : Nat → Option α} {r : α} (hp : ¬ p) (h : Tends G r) : Tends (fun K => if p then F K else G K) r := Tends.congr (fun K => if_neg hp) h
theorem Tends2.pos {α : Type} {p : Prop} [Decidable p] {F G : Nat → Nat → Option α} {r : α} (hp : p) (h : Tends2 F r) : Tends2 (fun K k => if p then F K k else G K k) r := Tends2.congr (fun K k => if_pos hp) h
theorem Tends2.neg {α : Type} {p : Prop} [Decidable p] {F G : Nat → Nat → Option α} {r : α} (hp : ¬ p) (h : Tends2 G r) : Tends2 (fun K k => if p then F K k else G K k) r := Tends2.congr (fun K k => if_neg hp) h
end Go.Proofs.YtkmeepgpmppibaaGreatDoor
