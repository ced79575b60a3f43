/-
  How much a diagram is; tests that are known.
-/
import Derived.Test.YtkmeepgpmppibaaGreatDoorPlA0
set_option linter.unusedVariables false
set_option linter.unusedSimpArgs false
namespace Go.Proofs.YtkmeepgpmppibaaGreatDoor
open Go.RowKit
theorem Ab.pos {α : Type} {p : Prop} [Decidable p] {F G : Nat → Option α} {r : α} (hp : p) (h : Ab F r) : Ab (fun K => if p then F K else G K) r := Ab.congr (fun K => if_pos hp) h
theorem Ab.neg {α : Type} {p : Prop} [Decidable p] {F G : Nat → Option α} {r : α} (hp : ¬ p) (h : Ab G r) : Ab (fun K => if p then F K else G K) r := Ab.congr (fun K => if_neg hp) h
theorem Ac.pos {α : Type} {p : Prop} [Decidable p] {F G : Nat → Nat → Option α} {r : α} (hp : p) (h : Ac F r) : Ac (fun K k => if p then F K k else G K k) r := Ac.congr (fun K k => if_pos hp) h
theorem Ac.neg {α : Type} {p : Prop} [Decidable p] {F G : Nat → Nat → Option α} {r : α} (hp : ¬ p) (h : Ac G r) : Ac (fun K k => if p then F K k else G K k) r := Ac.congr (fun K k => if_neg hp) h
end Go.Proofs.YtkmeepgpmppibaaGreatDoor
