/-
  Permutations by their numbers, both ways.
-/
import Derived.Test.YtkmeepgpmppibaaGreatDoorPlB2
import Derived.KernelRfl
set_option linter.unusedVariables false
set_option linter.unusedSimpArgs false
set_option maxRecDepth 100000
set_option maxHeartbeats 4000000
namespace Go.Proofs.YtkmeepgpmppibaaGreatDoor
open Go.RowKit
def atP (p k : Nat) : Int := (K3.f 40 (p : Int) (k : Int)).getD 0
def Vp (p : Nat) : Int := (Gh.f 40 (p : Int)).getD 0
theorem pV {p : Nat} (h : p < 24) : p = 0 ∨ p = 1 ∨ p = 2 ∨ p = 3 ∨ p = 4 ∨ p = 5 ∨ p = 6 ∨ p = 7 ∨ p = 8 ∨ p = 9 ∨ p = 10 ∨ p = 11 ∨ p = 12 ∨ p = 13 ∨ p = 14 ∨ p = 15 ∨ p = 16 ∨ p = 17 ∨ p = 18 ∨ p = 19 ∨ p = 20 ∨ p = 21 ∨ p = 22 ∨ p = 23 := by omega
theorem is4 {k : Nat} (h : k < 4) : k = 0 ∨ k = 1 ∨ k = 2 ∨ k = 3 := by omega
theorem qP {p k : Nat} (hp : p < 24) (hk : k < 4) : (fun K => K3.f (K + 40) (p : Int) (k : Int)) = fun _ => some (atP p k) := by
  rcases pV hp with rfl | rfl | rfl | rfl | rfl | rfl | rfl | rfl | rfl | rfl | rfl | rfl | rfl | rfl | rfl | rfl | rfl | rfl | rfl | rfl | rfl | rfl | rfl | rfl
  all_goals rcases is4 hk with rfl | rfl | rfl | rfl
  all_goals (clear hp hk; kernel_rfl)
theorem qH {p k : Nat} (hp : p < 24) (hk : k < 4) : (fun K t => Hy.f (K + 40) t (p : Int) (k : Int)) = fun _ _ => some (atP p k) := by
  rcases pV hp with rfl | rfl | rfl | rfl | rfl | rfl | rfl | rfl | rfl | rfl | rfl | rfl | rfl | rfl | rfl | rfl | rfl | rfl | rfl | rfl | rfl | rfl | rfl | rfl
  all_goals rcases is4 hk with rfl | rfl | rfl | rfl
  all_goals (clear hp hk; kernel_rfl)
theorem iO {p : Nat} (hp : p < 24) : (fun K => Gh.f (K + 40) (p : Int)) = fun _ => some (Vp p) := by
  rcases pV hp with rfl | rfl | rfl | rfl | rfl | rfl | rfl | rfl | rfl | rfl | rfl | rfl | rfl | rfl | rfl | rfl | rfl | rfl | rfl | rfl | rfl | rfl | rfl | rfl
  all_goals (clear hp; kernel_rfl)
theorem iV {p : Nat} (hp : p < 24) : (fun K => Gx.f (K + 40) (p : Int)) = fun _ => some (Vp p) := by
  rcases pV hp with rfl | rfl | rfl | rfl | rfl | rfl | rfl | rfl | rfl | rfl | rfl | rfl | rfl | rfl | rfl | rfl | rfl | rfl | rfl | rfl | rfl | rfl | rfl | rfl
  all_goals (clear hp; kernel_rfl)
theorem jB : ∀ p : Nat, p < 24 → ∀ k : Nat, k < 4 → 0 ≤ atP p k ∧ atP p k < 4 := by decide +kernel
theorem Ab.Zj {α : Type} {F : Nat → Option α} {r : α} (h : (fun K => F (K + 40)) = fun _ => some r) : Ab F r := ⟨40, fun K hK => by
  obtain ⟨k, rfl⟩ : ∃ k, K = k + 40 := ⟨K - 40, by omega⟩
  exact congrFun h k⟩
end Go.Proofs.YtkmeepgpmppibaaGreatDoor
