/-
  Permutations by their numbers, both ways.
-/
import Derived.Test.YthjomdggdaocgaaGreatDoorPlB2
import Derived.KernelRfl
set_option linter.unusedVariables false
set_option linter.unusedSimpArgs false
set_option maxRecDepth 100000
namespace Go.Proofs.YthjomdggdaocgaaGreatDoor
open Go.RowKit
def atP (p k : Nat) : Int := (spec_l06At.f 40 (p : Int) (k : Int)).getD 0
def backP (p : Nat) : Int := (spec_l06Back.f 40 (p : Int)).getD 0
theorem below24 {P : Nat → Prop} (h0 : P 0) (h1 : P 1) (h2 : P 2) (h3 : P 3) (h4 : P 4) (h5 : P 5) (h6 : P 6) (h7 : P 7) (h8 : P 8) (h9 : P 9) (h10 : P 10) (h11 : P 11) (h12 : P 12) (h13 : P 13) (h14 : P 14) (h15 : P 15) (h16 : P 16) (h17 : P 17) (h18 : P 18) (h19 : P 19) (h20 : P 20) (h21 : P 21) (h22 : P 22) (h23 : P 23) {p : Nat} (h : p < 24) : P p := by
  have e : p = 0 ∨ p = 1 ∨ p = 2 ∨ p = 3 ∨ p = 4 ∨ p = 5 ∨ p = 6 ∨ p = 7 ∨ p = 8 ∨ p = 9 ∨ p = 10 ∨ p = 11 ∨ p = 12 ∨ p = 13 ∨ p = 14 ∨ p = 15 ∨ p = 16 ∨ p = 17 ∨ p = 18 ∨ p = 19 ∨ p = 20 ∨ p = 21 ∨ p = 22 ∨ p = 23 := by omega
  rcases e with rfl | rfl | rfl | rfl | rfl | rfl | rfl | rfl | rfl | rfl | rfl | rfl | rfl | rfl | rfl | rfl | rfl | rfl | rfl | rfl | rfl | rfl | rfl | rfl
  all_goals assumption
theorem below4 {P : Nat → Prop} (h0 : P 0) (h1 : P 1) (h2 : P 2) (h3 : P 3) {k : Nat} (h : k < 4) : P k := by
  have e : k = 0 ∨ k = 1 ∨ k = 2 ∨ k = 3 := by omega
  rcases e with rfl | rfl | rfl | rfl
  all_goals assumption
theorem atS_0_0 : (fun K => spec_l06At.f (K + 40) ((0 : Nat) : Int) ((0 : Nat) : Int)) = fun _ => some (atP 0 0) := by kernel_rfl
theorem atI_0_0 : (fun K t => impl_Face_target.f (K + 40) t ((0 : Nat) : Int) ((0 : Nat) : Int)) = fun _ _ => some (atP 0 0) := by kernel_rfl
theorem atS_0_1 : (fun K => spec_l06At.f (K + 40) ((0 : Nat) : Int) ((1 : Nat) : Int)) = fun _ => some (atP 0 1) := by kernel_rfl
theorem atI_0_1 : (fun K t => impl_Face_target.f (K + 40) t ((0 : Nat) : Int) ((1 : Nat) : Int)) = fun _ _ => some (atP 0 1) := by kernel_rfl
theorem atS_0_2 : (fun K => spec_l06At.f (K + 40) ((0 : Nat) : Int) ((2 : Nat) : Int)) = fun _ => some (atP 0 2) := by kernel_rfl
theorem atI_0_2 : (fun K t => impl_Face_target.f (K + 40) t ((0 : Nat) : Int) ((2 : Nat) : Int)) = fun _ _ => some (atP 0 2) := by kernel_rfl
theorem atS_0_3 : (fun K => spec_l06At.f (K + 40) ((0 : Nat) : Int) ((3 : Nat) : Int)) = fun _ => some (atP 0 3) := by kernel_rfl
theorem atI_0_3 : (fun K t => impl_Face_target.f (K + 40) t ((0 : Nat) : Int) ((3 : Nat) : Int)) = fun _ _ => some (atP 0 3) := by kernel_rfl
theorem bkS_0 : (fun K => spec_l06Back.f (K + 40) ((0 : Nat) : Int)) = fun _ => some (backP 0) := by kernel_rfl
theorem bkI_0 : (fun K => impl_invert.f (K + 40) ((0 : Nat) : Int)) = fun _ => some (backP 0) := by kernel_rfl
theorem atS_1_0 : (fun K => spec_l06At.f (K + 40) ((1 : Nat) : Int) ((0 : Nat) : Int)) = fun _ => some (atP 1 0) := by kernel_rfl
theorem atI_1_0 : (fun K t => impl_Face_target.f (K + 40) t ((1 : Nat) : Int) ((0 : Nat) : Int)) = fun _ _ => some (atP 1 0) := by kernel_rfl
theorem atS_1_1 : (fun K => spec_l06At.f (K + 40) ((1 : Nat) : Int) ((1 : Nat) : Int)) = fun _ => some (atP 1 1) := by kernel_rfl
theorem atI_1_1 : (fun K t => impl_Face_target.f (K + 40) t ((1 : Nat) : Int) ((1 : Nat) : Int)) = fun _ _ => some (atP 1 1) := by kernel_rfl
theorem atS_1_2 : (fun K => spec_l06At.f (K + 40) ((1 : Nat) : Int) ((2 : Nat) : Int)) = fun _ => some (atP 1 2) := by kernel_rfl
theorem atI_1_2 : (fun K t => impl_Face_target.f (K + 40) t ((1 : Nat) : Int) ((2 : Nat) : Int)) = fun _ _ => some (atP 1 2) := by kernel_rfl
theorem atS_1_3 : (fun K => spec_l06At.f (K + 40) ((1 : Nat) : Int) ((3 : Nat) : Int)) = fun _ => some (atP 1 3) := by kernel_rfl
theorem atI_1_3 : (fun K t => impl_Face_target.f (K + 40) t ((1 : Nat) : Int) ((3 : Nat) : Int)) = fun _ _ => some (atP 1 3) := by kernel_rfl
theorem bkS_1 : (fun K => spec_l06Back.f (K + 40) ((1 : Nat) : Int)) = fun _ => some (backP 1) := by kernel_rfl
theorem bkI_1 : (fun K => impl_invert.f (K + 40) ((1 : Nat) : Int)) = fun _ => some (backP 1) := by kernel_rfl
theorem atS_2_0 : (fun K => spec_l06At.f (K + 40) ((2 : Nat) : Int) ((0 : Nat) : Int)) = fun _ => some (atP 2 0) := by kernel_rfl
theorem atI_2_0 : (fun K t => impl_Face_target.f (K + 40) t ((2 : Nat) : Int) ((0 : Nat) : Int)) = fun _ _ => some (atP 2 0) := by kernel_rfl
theorem atS_2_1 : (fun K => spec_l06At.f (K + 40) ((2 : Nat) : Int) ((1 : Nat) : Int)) = fun _ => some (atP 2 1) := by kernel_rfl
theorem atI_2_1 : (fun K t => impl_Face_target.f (K + 40) t ((2 : Nat) : Int) ((1 : Nat) : Int)) = fun _ _ => some (atP 2 1) := by kernel_rfl
theorem atS_2_2 : (fun K => spec_l06At.f (K + 40) ((2 : Nat) : Int) ((2 : Nat) : Int)) = fun _ => some (atP 2 2) := by kernel_rfl
theorem atI_2_2 : (fun K t => impl_Face_target.f (K + 40) t ((2 : Nat) : Int) ((2 : Nat) : Int)) = fun _ _ => some (atP 2 2) := by kernel_rfl
theorem atS_2_3 : (fun K => spec_l06At.f (K + 40) ((2 : Nat) : Int) ((3 : Nat) : Int)) = fun _ => some (atP 2 3) := by kernel_rfl
theorem atI_2_3 : (fun K t => impl_Face_target.f (K + 40) t ((2 : Nat) : Int) ((3 : Nat) : Int)) = fun _ _ => some (atP 2 3) := by kernel_rfl
theorem bkS_2 : (fun K => spec_l06Back.f (K + 40) ((2 : Nat) : Int)) = fun _ => some (backP 2) := by kernel_rfl
theorem bkI_2 : (fun K => impl_invert.f (K + 40) ((2 : Nat) : Int)) = fun _ => some (backP 2) := by kernel_rfl
theorem atS_3_0 : (fun K => spec_l06At.f (K + 40) ((3 : Nat) : Int) ((0 : Nat) : Int)) = fun _ => some (atP 3 0) := by kernel_rfl
theorem atI_3_0 : (fun K t => impl_Face_target.f (K + 40) t ((3 : Nat) : Int) ((0 : Nat) : Int)) = fun _ _ => some (atP 3 0) := by kernel_rfl
theorem atS_3_1 : (fun K => spec_l06At.f (K + 40) ((3 : Nat) : Int) ((1 : Nat) : Int)) = fun _ => some (atP 3 1) := by kernel_rfl
theorem atI_3_1 : (fun K t => impl_Face_target.f (K + 40) t ((3 : Nat) : Int) ((1 : Nat) : Int)) = fun _ _ => some (atP 3 1) := by kernel_rfl
theorem atS_3_2 : (fun K => spec_l06At.f (K + 40) ((3 : Nat) : Int) ((2 : Nat) : Int)) = fun _ => some (atP 3 2) := by kernel_rfl
theorem atI_3_2 : (fun K t => impl_Face_target.f (K + 40) t ((3 : Nat) : Int) ((2 : Nat) : Int)) = fun _ _ => some (atP 3 2) := by kernel_rfl
theorem atS_3_3 : (fun K => spec_l06At.f (K + 40) ((3 : Nat) : Int) ((3 : Nat) : Int)) = fun _ => some (atP 3 3) := by kernel_rfl
theorem atI_3_3 : (fun K t => impl_Face_target.f (K + 40) t ((3 : Nat) : Int) ((3 : Nat) : Int)) = fun _ _ => some (atP 3 3) := by kernel_rfl
theorem bkS_3 : (fun K => spec_l06Back.f (K + 40) ((3 : Nat) : Int)) = fun _ => some (backP 3) := by kernel_rfl
theorem bkI_3 : (fun K => impl_invert.f (K + 40) ((3 : Nat) : Int)) = fun _ => some (backP 3) := by kernel_rfl
theorem atS_4_0 : (fun K => spec_l06At.f (K + 40) ((4 : Nat) : Int) ((0 : Nat) : Int)) = fun _ => some (atP 4 0) := by kernel_rfl
theorem atI_4_0 : (fun K t => impl_Face_target.f (K + 40) t ((4 : Nat) : Int) ((0 : Nat) : Int)) = fun _ _ => some (atP 4 0) := by kernel_rfl
theorem atS_4_1 : (fun K => spec_l06At.f (K + 40) ((4 : Nat) : Int) ((1 : Nat) : Int)) = fun _ => some (atP 4 1) := by kernel_rfl
theorem atI_4_1 : (fun K t => impl_Face_target.f (K + 40) t ((4 : Nat) : Int) ((1 : Nat) : Int)) = fun _ _ => some (atP 4 1) := by kernel_rfl
theorem atS_4_2 : (fun K => spec_l06At.f (K + 40) ((4 : Nat) : Int) ((2 : Nat) : Int)) = fun _ => some (atP 4 2) := by kernel_rfl
theorem atI_4_2 : (fun K t => impl_Face_target.f (K + 40) t ((4 : Nat) : Int) ((2 : Nat) : Int)) = fun _ _ => some (atP 4 2) := by kernel_rfl
theorem atS_4_3 : (fun K => spec_l06At.f (K + 40) ((4 : Nat) : Int) ((3 : Nat) : Int)) = fun _ => some (atP 4 3) := by kernel_rfl
theorem atI_4_3 : (fun K t => impl_Face_target.f (K + 40) t ((4 : Nat) : Int) ((3 : Nat) : Int)) = fun _ _ => some (atP 4 3) := by kernel_rfl
theorem bkS_4 : (fun K => spec_l06Back.f (K + 40) ((4 : Nat) : Int)) = fun _ => some (backP 4) := by kernel_rfl
theorem bkI_4 : (fun K => impl_invert.f (K + 40) ((4 : Nat) : Int)) = fun _ => some (backP 4) := by kernel_rfl
theorem atS_5_0 : (fun K => spec_l06At.f (K + 40) ((5 : Nat) : Int) ((0 : Nat) : Int)) = fun _ => some (atP 5 0) := by kernel_rfl
theorem atI_5_0 : (fun K t => impl_Face_target.f (K + 40) t ((5 : Nat) : Int) ((0 : Nat) : Int)) = fun _ _ => some (atP 5 0) := by kernel_rfl
theorem atS_5_1 : (fun K => spec_l06At.f (K + 40) ((5 : Nat) : Int) ((1 : Nat) : Int)) = fun _ => some (atP 5 1) := by kernel_rfl
theorem atI_5_1 : (fun K t => impl_Face_target.f (K + 40) t ((5 : Nat) : Int) ((1 : Nat) : Int)) = fun _ _ => some (atP 5 1) := by kernel_rfl
theorem atS_5_2 : (fun K => spec_l06At.f (K + 40) ((5 : Nat) : Int) ((2 : Nat) : Int)) = fun _ => some (atP 5 2) := by kernel_rfl
theorem atI_5_2 : (fun K t => impl_Face_target.f (K + 40) t ((5 : Nat) : Int) ((2 : Nat) : Int)) = fun _ _ => some (atP 5 2) := by kernel_rfl
theorem atS_5_3 : (fun K => spec_l06At.f (K + 40) ((5 : Nat) : Int) ((3 : Nat) : Int)) = fun _ => some (atP 5 3) := by kernel_rfl
theorem atI_5_3 : (fun K t => impl_Face_target.f (K + 40) t ((5 : Nat) : Int) ((3 : Nat) : Int)) = fun _ _ => some (atP 5 3) := by kernel_rfl
theorem bkS_5 : (fun K => spec_l06Back.f (K + 40) ((5 : Nat) : Int)) = fun _ => some (backP 5) := by kernel_rfl
theorem bkI_5 : (fun K => impl_invert.f (K + 40) ((5 : Nat) : Int)) = fun _ => some (backP 5) := by kernel_rfl
theorem atS_6_0 : (fun K => spec_l06At.f (K + 40) ((6 : Nat) : Int) ((0 : Nat) : Int)) = fun _ => some (atP 6 0) := by kernel_rfl
theorem atI_6_0 : (fun K t => impl_Face_target.f (K + 40) t ((6 : Nat) : Int) ((0 : Nat) : Int)) = fun _ _ => some (atP 6 0) := by kernel_rfl
theorem atS_6_1 : (fun K => spec_l06At.f (K + 40) ((6 : Nat) : Int) ((1 : Nat) : Int)) = fun _ => some (atP 6 1) := by kernel_rfl
theorem atI_6_1 : (fun K t => impl_Face_target.f (K + 40) t ((6 : Nat) : Int) ((1 : Nat) : Int)) = fun _ _ => some (atP 6 1) := by kernel_rfl
theorem atS_6_2 : (fun K => spec_l06At.f (K + 40) ((6 : Nat) : Int) ((2 : Nat) : Int)) = fun _ => some (atP 6 2) := by kernel_rfl
theorem atI_6_2 : (fun K t => impl_Face_target.f (K + 40) t ((6 : Nat) : Int) ((2 : Nat) : Int)) = fun _ _ => some (atP 6 2) := by kernel_rfl
theorem atS_6_3 : (fun K => spec_l06At.f (K + 40) ((6 : Nat) : Int) ((3 : Nat) : Int)) = fun _ => some (atP 6 3) := by kernel_rfl
theorem atI_6_3 : (fun K t => impl_Face_target.f (K + 40) t ((6 : Nat) : Int) ((3 : Nat) : Int)) = fun _ _ => some (atP 6 3) := by kernel_rfl
theorem bkS_6 : (fun K => spec_l06Back.f (K + 40) ((6 : Nat) : Int)) = fun _ => some (backP 6) := by kernel_rfl
theorem bkI_6 : (fun K => impl_invert.f (K + 40) ((6 : Nat) : Int)) = fun _ => some (backP 6) := by kernel_rfl
theorem atS_7_0 : (fun K => spec_l06At.f (K + 40) ((7 : Nat) : Int) ((0 : Nat) : Int)) = fun _ => some (atP 7 0) := by kernel_rfl
theorem atI_7_0 : (fun K t => impl_Face_target.f (K + 40) t ((7 : Nat) : Int) ((0 : Nat) : Int)) = fun _ _ => some (atP 7 0) := by kernel_rfl
theorem atS_7_1 : (fun K => spec_l06At.f (K + 40) ((7 : Nat) : Int) ((1 : Nat) : Int)) = fun _ => some (atP 7 1) := by kernel_rfl
theorem atI_7_1 : (fun K t => impl_Face_target.f (K + 40) t ((7 : Nat) : Int) ((1 : Nat) : Int)) = fun _ _ => some (atP 7 1) := by kernel_rfl
theorem atS_7_2 : (fun K => spec_l06At.f (K + 40) ((7 : Nat) : Int) ((2 : Nat) : Int)) = fun _ => some (atP 7 2) := by kernel_rfl
theorem atI_7_2 : (fun K t => impl_Face_target.f (K + 40) t ((7 : Nat) : Int) ((2 : Nat) : Int)) = fun _ _ => some (atP 7 2) := by kernel_rfl
theorem atS_7_3 : (fun K => spec_l06At.f (K + 40) ((7 : Nat) : Int) ((3 : Nat) : Int)) = fun _ => some (atP 7 3) := by kernel_rfl
theorem atI_7_3 : (fun K t => impl_Face_target.f (K + 40) t ((7 : Nat) : Int) ((3 : Nat) : Int)) = fun _ _ => some (atP 7 3) := by kernel_rfl
theorem bkS_7 : (fun K => spec_l06Back.f (K + 40) ((7 : Nat) : Int)) = fun _ => some (backP 7) := by kernel_rfl
theorem bkI_7 : (fun K => impl_invert.f (K + 40) ((7 : Nat) : Int)) = fun _ => some (backP 7) := by kernel_rfl
theorem atS_8_0 : (fun K => spec_l06At.f (K + 40) ((8 : Nat) : Int) ((0 : Nat) : Int)) = fun _ => some (atP 8 0) := by kernel_rfl
theorem atI_8_0 : (fun K t => impl_Face_target.f (K + 40) t ((8 : Nat) : Int) ((0 : Nat) : Int)) = fun _ _ => some (atP 8 0) := by kernel_rfl
theorem atS_8_1 : (fun K => spec_l06At.f (K + 40) ((8 : Nat) : Int) ((1 : Nat) : Int)) = fun _ => some (atP 8 1) := by kernel_rfl
theorem atI_8_1 : (fun K t => impl_Face_target.f (K + 40) t ((8 : Nat) : Int) ((1 : Nat) : Int)) = fun _ _ => some (atP 8 1) := by kernel_rfl
theorem atS_8_2 : (fun K => spec_l06At.f (K + 40) ((8 : Nat) : Int) ((2 : Nat) : Int)) = fun _ => some (atP 8 2) := by kernel_rfl
theorem atI_8_2 : (fun K t => impl_Face_target.f (K + 40) t ((8 : Nat) : Int) ((2 : Nat) : Int)) = fun _ _ => some (atP 8 2) := by kernel_rfl
theorem atS_8_3 : (fun K => spec_l06At.f (K + 40) ((8 : Nat) : Int) ((3 : Nat) : Int)) = fun _ => some (atP 8 3) := by kernel_rfl
theorem atI_8_3 : (fun K t => impl_Face_target.f (K + 40) t ((8 : Nat) : Int) ((3 : Nat) : Int)) = fun _ _ => some (atP 8 3) := by kernel_rfl
theorem bkS_8 : (fun K => spec_l06Back.f (K + 40) ((8 : Nat) : Int)) = fun _ => some (backP 8) := by kernel_rfl
theorem bkI_8 : (fun K => impl_invert.f (K + 40) ((8 : Nat) : Int)) = fun _ => some (backP 8) := by kernel_rfl
theorem atS_9_0 : (fun K => spec_l06At.f (K + 40) ((9 : Nat) : Int) ((0 : Nat) : Int)) = fun _ => some (atP 9 0) := by kernel_rfl
theorem atI_9_0 : (fun K t => impl_Face_target.f (K + 40) t ((9 : Nat) : Int) ((0 : Nat) : Int)) = fun _ _ => some (atP 9 0) := by kernel_rfl
theorem atS_9_1 : (fun K => spec_l06At.f (K + 40) ((9 : Nat) : Int) ((1 : Nat) : Int)) = fun _ => some (atP 9 1) := by kernel_rfl
theorem atI_9_1 : (fun K t => impl_Face_target.f (K + 40) t ((9 : Nat) : Int) ((1 : Nat) : Int)) = fun _ _ => some (atP 9 1) := by kernel_rfl
theorem atS_9_2 : (fun K => spec_l06At.f (K + 40) ((9 : Nat) : Int) ((2 : Nat) : Int)) = fun _ => some (atP 9 2) := by kernel_rfl
theorem atI_9_2 : (fun K t => impl_Face_target.f (K + 40) t ((9 : Nat) : Int) ((2 : Nat) : Int)) = fun _ _ => some (atP 9 2) := by kernel_rfl
theorem atS_9_3 : (fun K => spec_l06At.f (K + 40) ((9 : Nat) : Int) ((3 : Nat) : Int)) = fun _ => some (atP 9 3) := by kernel_rfl
theorem atI_9_3 : (fun K t => impl_Face_target.f (K + 40) t ((9 : Nat) : Int) ((3 : Nat) : Int)) = fun _ _ => some (atP 9 3) := by kernel_rfl
theorem bkS_9 : (fun K => spec_l06Back.f (K + 40) ((9 : Nat) : Int)) = fun _ => some (backP 9) := by kernel_rfl
theorem bkI_9 : (fun K => impl_invert.f (K + 40) ((9 : Nat) : Int)) = fun _ => some (backP 9) := by kernel_rfl
theorem atS_10_0 : (fun K => spec_l06At.f (K + 40) ((10 : Nat) : Int) ((0 : Nat) : Int)) = fun _ => some (atP 10 0) := by kernel_rfl
theorem atI_10_0 : (fun K t => impl_Face_target.f (K + 40) t ((10 : Nat) : Int) ((0 : Nat) : Int)) = fun _ _ => some (atP 10 0) := by kernel_rfl
theorem atS_10_1 : (fun K => spec_l06At.f (K + 40) ((10 : Nat) : Int) ((1 : Nat) : Int)) = fun _ => some (atP 10 1) := by kernel_rfl
theorem atI_10_1 : (fun K t => impl_Face_target.f (K + 40) t ((10 : Nat) : Int) ((1 : Nat) : Int)) = fun _ _ => some (atP 10 1) := by kernel_rfl
theorem atS_10_2 : (fun K => spec_l06At.f (K + 40) ((10 : Nat) : Int) ((2 : Nat) : Int)) = fun _ => some (atP 10 2) := by kernel_rfl
theorem atI_10_2 : (fun K t => impl_Face_target.f (K + 40) t ((10 : Nat) : Int) ((2 : Nat) : Int)) = fun _ _ => some (atP 10 2) := by kernel_rfl
theorem atS_10_3 : (fun K => spec_l06At.f (K + 40) ((10 : Nat) : Int) ((3 : Nat) : Int)) = fun _ => some (atP 10 3) := by kernel_rfl
theorem atI_10_3 : (fun K t => impl_Face_target.f (K + 40) t ((10 : Nat) : Int) ((3 : Nat) : Int)) = fun _ _ => some (atP 10 3) := by kernel_rfl
theorem bkS_10 : (fun K => spec_l06Back.f (K + 40) ((10 : Nat) : Int)) = fun _ => some (backP 10) := by kernel_rfl
theorem bkI_10 : (fun K => impl_invert.f (K + 40) ((10 : Nat) : Int)) = fun _ => some (backP 10) := by kernel_rfl
theorem atS_11_0 : (fun K => spec_l06At.f (K + 40) ((11 : Nat) : Int) ((0 : Nat) : Int)) = fun _ => some (atP 11 0) := by kernel_rfl
theorem atI_11_0 : (fun K t => impl_Face_target.f (K + 40) t ((11 : Nat) : Int) ((0 : Nat) : Int)) = fun _ _ => some (atP 11 0) := by kernel_rfl
theorem atS_11_1 : (fun K => spec_l06At.f (K + 40) ((11 : Nat) : Int) ((1 : Nat) : Int)) = fun _ => some (atP 11 1) := by kernel_rfl
theorem atI_11_1 : (fun K t => impl_Face_target.f (K + 40) t ((11 : Nat) : Int) ((1 : Nat) : Int)) = fun _ _ => some (atP 11 1) := by kernel_rfl
theorem atS_11_2 : (fun K => spec_l06At.f (K + 40) ((11 : Nat) : Int) ((2 : Nat) : Int)) = fun _ => some (atP 11 2) := by kernel_rfl
theorem atI_11_2 : (fun K t => impl_Face_target.f (K + 40) t ((11 : Nat) : Int) ((2 : Nat) : Int)) = fun _ _ => some (atP 11 2) := by kernel_rfl
theorem atS_11_3 : (fun K => spec_l06At.f (K + 40) ((11 : Nat) : Int) ((3 : Nat) : Int)) = fun _ => some (atP 11 3) := by kernel_rfl
theorem atI_11_3 : (fun K t => impl_Face_target.f (K + 40) t ((11 : Nat) : Int) ((3 : Nat) : Int)) = fun _ _ => some (atP 11 3) := by kernel_rfl
theorem bkS_11 : (fun K => spec_l06Back.f (K + 40) ((11 : Nat) : Int)) = fun _ => some (backP 11) := by kernel_rfl
theorem bkI_11 : (fun K => impl_invert.f (K + 40) ((11 : Nat) : Int)) = fun _ => some (backP 11) := by kernel_rfl
theorem atS_12_0 : (fun K => spec_l06At.f (K + 40) ((12 : Nat) : Int) ((0 : Nat) : Int)) = fun _ => some (atP 12 0) := by kernel_rfl
theorem atI_12_0 : (fun K t => impl_Face_target.f (K + 40) t ((12 : Nat) : Int) ((0 : Nat) : Int)) = fun _ _ => some (atP 12 0) := by kernel_rfl
theorem atS_12_1 : (fun K => spec_l06At.f (K + 40) ((12 : Nat) : Int) ((1 : Nat) : Int)) = fun _ => some (atP 12 1) := by kernel_rfl
theorem atI_12_1 : (fun K t => impl_Face_target.f (K + 40) t ((12 : Nat) : Int) ((1 : Nat) : Int)) = fun _ _ => some (atP 12 1) := by kernel_rfl
theorem atS_12_2 : (fun K => spec_l06At.f (K + 40) ((12 : Nat) : Int) ((2 : Nat) : Int)) = fun _ => some (atP 12 2) := by kernel_rfl
theorem atI_12_2 : (fun K t => impl_Face_target.f (K + 40) t ((12 : Nat) : Int) ((2 : Nat) : Int)) = fun _ _ => some (atP 12 2) := by kernel_rfl
theorem atS_12_3 : (fun K => spec_l06At.f (K + 40) ((12 : Nat) : Int) ((3 : Nat) : Int)) = fun _ => some (atP 12 3) := by kernel_rfl
theorem atI_12_3 : (fun K t => impl_Face_target.f (K + 40) t ((12 : Nat) : Int) ((3 : Nat) : Int)) = fun _ _ => some (atP 12 3) := by kernel_rfl
theorem bkS_12 : (fun K => spec_l06Back.f (K + 40) ((12 : Nat) : Int)) = fun _ => some (backP 12) := by kernel_rfl
theorem bkI_12 : (fun K => impl_invert.f (K + 40) ((12 : Nat) : Int)) = fun _ => some (backP 12) := by kernel_rfl
theorem atS_13_0 : (fun K => spec_l06At.f (K + 40) ((13 : Nat) : Int) ((0 : Nat) : Int)) = fun _ => some (atP 13 0) := by kernel_rfl
theorem atI_13_0 : (fun K t => impl_Face_target.f (K + 40) t ((13 : Nat) : Int) ((0 : Nat) : Int)) = fun _ _ => some (atP 13 0) := by kernel_rfl
theorem atS_13_1 : (fun K => spec_l06At.f (K + 40) ((13 : Nat) : Int) ((1 : Nat) : Int)) = fun _ => some (atP 13 1) := by kernel_rfl
theorem atI_13_1 : (fun K t => impl_Face_target.f (K + 40) t ((13 : Nat) : Int) ((1 : Nat) : Int)) = fun _ _ => some (atP 13 1) := by kernel_rfl
theorem atS_13_2 : (fun K => spec_l06At.f (K + 40) ((13 : Nat) : Int) ((2 : Nat) : Int)) = fun _ => some (atP 13 2) := by kernel_rfl
theorem atI_13_2 : (fun K t => impl_Face_target.f (K + 40) t ((13 : Nat) : Int) ((2 : Nat) : Int)) = fun _ _ => some (atP 13 2) := by kernel_rfl
theorem atS_13_3 : (fun K => spec_l06At.f (K + 40) ((13 : Nat) : Int) ((3 : Nat) : Int)) = fun _ => some (atP 13 3) := by kernel_rfl
theorem atI_13_3 : (fun K t => impl_Face_target.f (K + 40) t ((13 : Nat) : Int) ((3 : Nat) : Int)) = fun _ _ => some (atP 13 3) := by kernel_rfl
theorem bkS_13 : (fun K => spec_l06Back.f (K + 40) ((13 : Nat) : Int)) = fun _ => some (backP 13) := by kernel_rfl
theorem bkI_13 : (fun K => impl_invert.f (K + 40) ((13 : Nat) : Int)) = fun _ => some (backP 13) := by kernel_rfl
theorem atS_14_0 : (fun K => spec_l06At.f (K + 40) ((14 : Nat) : Int) ((0 : Nat) : Int)) = fun _ => some (atP 14 0) := by kernel_rfl
theorem atI_14_0 : (fun K t => impl_Face_target.f (K + 40) t ((14 : Nat) : Int) ((0 : Nat) : Int)) = fun _ _ => some (atP 14 0) := by kernel_rfl
theorem atS_14_1 : (fun K => spec_l06At.f (K + 40) ((14 : Nat) : Int) ((1 : Nat) : Int)) = fun _ => some (atP 14 1) := by kernel_rfl
theorem atI_14_1 : (fun K t => impl_Face_target.f (K + 40) t ((14 : Nat) : Int) ((1 : Nat) : Int)) = fun _ _ => some (atP 14 1) := by kernel_rfl
theorem atS_14_2 : (fun K => spec_l06At.f (K + 40) ((14 : Nat) : Int) ((2 : Nat) : Int)) = fun _ => some (atP 14 2) := by kernel_rfl
theorem atI_14_2 : (fun K t => impl_Face_target.f (K + 40) t ((14 : Nat) : Int) ((2 : Nat) : Int)) = fun _ _ => some (atP 14 2) := by kernel_rfl
theorem atS_14_3 : (fun K => spec_l06At.f (K + 40) ((14 : Nat) : Int) ((3 : Nat) : Int)) = fun _ => some (atP 14 3) := by kernel_rfl
theorem atI_14_3 : (fun K t => impl_Face_target.f (K + 40) t ((14 : Nat) : Int) ((3 : Nat) : Int)) = fun _ _ => some (atP 14 3) := by kernel_rfl
theorem bkS_14 : (fun K => spec_l06Back.f (K + 40) ((14 : Nat) : Int)) = fun _ => some (backP 14) := by kernel_rfl
theorem bkI_14 : (fun K => impl_invert.f (K + 40) ((14 : Nat) : Int)) = fun _ => some (backP 14) := by kernel_rfl
theorem atS_15_0 : (fun K => spec_l06At.f (K + 40) ((15 : Nat) : Int) ((0 : Nat) : Int)) = fun _ => some (atP 15 0) := by kernel_rfl
theorem atI_15_0 : (fun K t => impl_Face_target.f (K + 40) t ((15 : Nat) : Int) ((0 : Nat) : Int)) = fun _ _ => some (atP 15 0) := by kernel_rfl
theorem atS_15_1 : (fun K => spec_l06At.f (K + 40) ((15 : Nat) : Int) ((1 : Nat) : Int)) = fun _ => some (atP 15 1) := by kernel_rfl
theorem atI_15_1 : (fun K t => impl_Face_target.f (K + 40) t ((15 : Nat) : Int) ((1 : Nat) : Int)) = fun _ _ => some (atP 15 1) := by kernel_rfl
theorem atS_15_2 : (fun K => spec_l06At.f (K + 40) ((15 : Nat) : Int) ((2 : Nat) : Int)) = fun _ => some (atP 15 2) := by kernel_rfl
theorem atI_15_2 : (fun K t => impl_Face_target.f (K + 40) t ((15 : Nat) : Int) ((2 : Nat) : Int)) = fun _ _ => some (atP 15 2) := by kernel_rfl
theorem atS_15_3 : (fun K => spec_l06At.f (K + 40) ((15 : Nat) : Int) ((3 : Nat) : Int)) = fun _ => some (atP 15 3) := by kernel_rfl
theorem atI_15_3 : (fun K t => impl_Face_target.f (K + 40) t ((15 : Nat) : Int) ((3 : Nat) : Int)) = fun _ _ => some (atP 15 3) := by kernel_rfl
theorem bkS_15 : (fun K => spec_l06Back.f (K + 40) ((15 : Nat) : Int)) = fun _ => some (backP 15) := by kernel_rfl
theorem bkI_15 : (fun K => impl_invert.f (K + 40) ((15 : Nat) : Int)) = fun _ => some (backP 15) := by kernel_rfl
theorem atS_16_0 : (fun K => spec_l06At.f (K + 40) ((16 : Nat) : Int) ((0 : Nat) : Int)) = fun _ => some (atP 16 0) := by kernel_rfl
theorem atI_16_0 : (fun K t => impl_Face_target.f (K + 40) t ((16 : Nat) : Int) ((0 : Nat) : Int)) = fun _ _ => some (atP 16 0) := by kernel_rfl
theorem atS_16_1 : (fun K => spec_l06At.f (K + 40) ((16 : Nat) : Int) ((1 : Nat) : Int)) = fun _ => some (atP 16 1) := by kernel_rfl
theorem atI_16_1 : (fun K t => impl_Face_target.f (K + 40) t ((16 : Nat) : Int) ((1 : Nat) : Int)) = fun _ _ => some (atP 16 1) := by kernel_rfl
theorem atS_16_2 : (fun K => spec_l06At.f (K + 40) ((16 : Nat) : Int) ((2 : Nat) : Int)) = fun _ => some (atP 16 2) := by kernel_rfl
theorem atI_16_2 : (fun K t => impl_Face_target.f (K + 40) t ((16 : Nat) : Int) ((2 : Nat) : Int)) = fun _ _ => some (atP 16 2) := by kernel_rfl
theorem atS_16_3 : (fun K => spec_l06At.f (K + 40) ((16 : Nat) : Int) ((3 : Nat) : Int)) = fun _ => some (atP 16 3) := by kernel_rfl
theorem atI_16_3 : (fun K t => impl_Face_target.f (K + 40) t ((16 : Nat) : Int) ((3 : Nat) : Int)) = fun _ _ => some (atP 16 3) := by kernel_rfl
theorem bkS_16 : (fun K => spec_l06Back.f (K + 40) ((16 : Nat) : Int)) = fun _ => some (backP 16) := by kernel_rfl
theorem bkI_16 : (fun K => impl_invert.f (K + 40) ((16 : Nat) : Int)) = fun _ => some (backP 16) := by kernel_rfl
theorem atS_17_0 : (fun K => spec_l06At.f (K + 40) ((17 : Nat) : Int) ((0 : Nat) : Int)) = fun _ => some (atP 17 0) := by kernel_rfl
theorem atI_17_0 : (fun K t => impl_Face_target.f (K + 40) t ((17 : Nat) : Int) ((0 : Nat) : Int)) = fun _ _ => some (atP 17 0) := by kernel_rfl
theorem atS_17_1 : (fun K => spec_l06At.f (K + 40) ((17 : Nat) : Int) ((1 : Nat) : Int)) = fun _ => some (atP 17 1) := by kernel_rfl
theorem atI_17_1 : (fun K t => impl_Face_target.f (K + 40) t ((17 : Nat) : Int) ((1 : Nat) : Int)) = fun _ _ => some (atP 17 1) := by kernel_rfl
theorem atS_17_2 : (fun K => spec_l06At.f (K + 40) ((17 : Nat) : Int) ((2 : Nat) : Int)) = fun _ => some (atP 17 2) := by kernel_rfl
theorem atI_17_2 : (fun K t => impl_Face_target.f (K + 40) t ((17 : Nat) : Int) ((2 : Nat) : Int)) = fun _ _ => some (atP 17 2) := by kernel_rfl
theorem atS_17_3 : (fun K => spec_l06At.f (K + 40) ((17 : Nat) : Int) ((3 : Nat) : Int)) = fun _ => some (atP 17 3) := by kernel_rfl
theorem atI_17_3 : (fun K t => impl_Face_target.f (K + 40) t ((17 : Nat) : Int) ((3 : Nat) : Int)) = fun _ _ => some (atP 17 3) := by kernel_rfl
theorem bkS_17 : (fun K => spec_l06Back.f (K + 40) ((17 : Nat) : Int)) = fun _ => some (backP 17) := by kernel_rfl
theorem bkI_17 : (fun K => impl_invert.f (K + 40) ((17 : Nat) : Int)) = fun _ => some (backP 17) := by kernel_rfl
theorem atS_18_0 : (fun K => spec_l06At.f (K + 40) ((18 : Nat) : Int) ((0 : Nat) : Int)) = fun _ => some (atP 18 0) := by kernel_rfl
theorem atI_18_0 : (fun K t => impl_Face_target.f (K + 40) t ((18 : Nat) : Int) ((0 : Nat) : Int)) = fun _ _ => some (atP 18 0) := by kernel_rfl
theorem atS_18_1 : (fun K => spec_l06At.f (K + 40) ((18 : Nat) : Int) ((1 : Nat) : Int)) = fun _ => some (atP 18 1) := by kernel_rfl
theorem atI_18_1 : (fun K t => impl_Face_target.f (K + 40) t ((18 : Nat) : Int) ((1 : Nat) : Int)) = fun _ _ => some (atP 18 1) := by kernel_rfl
theorem atS_18_2 : (fun K => spec_l06At.f (K + 40) ((18 : Nat) : Int) ((2 : Nat) : Int)) = fun _ => some (atP 18 2) := by kernel_rfl
theorem atI_18_2 : (fun K t => impl_Face_target.f (K + 40) t ((18 : Nat) : Int) ((2 : Nat) : Int)) = fun _ _ => some (atP 18 2) := by kernel_rfl
theorem atS_18_3 : (fun K => spec_l06At.f (K + 40) ((18 : Nat) : Int) ((3 : Nat) : Int)) = fun _ => some (atP 18 3) := by kernel_rfl
theorem atI_18_3 : (fun K t => impl_Face_target.f (K + 40) t ((18 : Nat) : Int) ((3 : Nat) : Int)) = fun _ _ => some (atP 18 3) := by kernel_rfl
theorem bkS_18 : (fun K => spec_l06Back.f (K + 40) ((18 : Nat) : Int)) = fun _ => some (backP 18) := by kernel_rfl
theorem bkI_18 : (fun K => impl_invert.f (K + 40) ((18 : Nat) : Int)) = fun _ => some (backP 18) := by kernel_rfl
theorem atS_19_0 : (fun K => spec_l06At.f (K + 40) ((19 : Nat) : Int) ((0 : Nat) : Int)) = fun _ => some (atP 19 0) := by kernel_rfl
theorem atI_19_0 : (fun K t => impl_Face_target.f (K + 40) t ((19 : Nat) : Int) ((0 : Nat) : Int)) = fun _ _ => some (atP 19 0) := by kernel_rfl
theorem atS_19_1 : (fun K => spec_l06At.f (K + 40) ((19 : Nat) : Int) ((1 : Nat) : Int)) = fun _ => some (atP 19 1) := by kernel_rfl
theorem atI_19_1 : (fun K t => impl_Face_target.f (K + 40) t ((19 : Nat) : Int) ((1 : Nat) : Int)) = fun _ _ => some (atP 19 1) := by kernel_rfl
theorem atS_19_2 : (fun K => spec_l06At.f (K + 40) ((19 : Nat) : Int) ((2 : Nat) : Int)) = fun _ => some (atP 19 2) := by kernel_rfl
theorem atI_19_2 : (fun K t => impl_Face_target.f (K + 40) t ((19 : Nat) : Int) ((2 : Nat) : Int)) = fun _ _ => some (atP 19 2) := by kernel_rfl
theorem atS_19_3 : (fun K => spec_l06At.f (K + 40) ((19 : Nat) : Int) ((3 : Nat) : Int)) = fun _ => some (atP 19 3) := by kernel_rfl
theorem atI_19_3 : (fun K t => impl_Face_target.f (K + 40) t ((19 : Nat) : Int) ((3 : Nat) : Int)) = fun _ _ => some (atP 19 3) := by kernel_rfl
theorem bkS_19 : (fun K => spec_l06Back.f (K + 40) ((19 : Nat) : Int)) = fun _ => some (backP 19) := by kernel_rfl
theorem bkI_19 : (fun K => impl_invert.f (K + 40) ((19 : Nat) : Int)) = fun _ => some (backP 19) := by kernel_rfl
theorem atS_20_0 : (fun K => spec_l06At.f (K + 40) ((20 : Nat) : Int) ((0 : Nat) : Int)) = fun _ => some (atP 20 0) := by kernel_rfl
theorem atI_20_0 : (fun K t => impl_Face_target.f (K + 40) t ((20 : Nat) : Int) ((0 : Nat) : Int)) = fun _ _ => some (atP 20 0) := by kernel_rfl
theorem atS_20_1 : (fun K => spec_l06At.f (K + 40) ((20 : Nat) : Int) ((1 : Nat) : Int)) = fun _ => some (atP 20 1) := by kernel_rfl
theorem atI_20_1 : (fun K t => impl_Face_target.f (K + 40) t ((20 : Nat) : Int) ((1 : Nat) : Int)) = fun _ _ => some (atP 20 1) := by kernel_rfl
theorem atS_20_2 : (fun K => spec_l06At.f (K + 40) ((20 : Nat) : Int) ((2 : Nat) : Int)) = fun _ => some (atP 20 2) := by kernel_rfl
theorem atI_20_2 : (fun K t => impl_Face_target.f (K + 40) t ((20 : Nat) : Int) ((2 : Nat) : Int)) = fun _ _ => some (atP 20 2) := by kernel_rfl
theorem atS_20_3 : (fun K => spec_l06At.f (K + 40) ((20 : Nat) : Int) ((3 : Nat) : Int)) = fun _ => some (atP 20 3) := by kernel_rfl
theorem atI_20_3 : (fun K t => impl_Face_target.f (K + 40) t ((20 : Nat) : Int) ((3 : Nat) : Int)) = fun _ _ => some (atP 20 3) := by kernel_rfl
theorem bkS_20 : (fun K => spec_l06Back.f (K + 40) ((20 : Nat) : Int)) = fun _ => some (backP 20) := by kernel_rfl
theorem bkI_20 : (fun K => impl_invert.f (K + 40) ((20 : Nat) : Int)) = fun _ => some (backP 20) := by kernel_rfl
theorem atS_21_0 : (fun K => spec_l06At.f (K + 40) ((21 : Nat) : Int) ((0 : Nat) : Int)) = fun _ => some (atP 21 0) := by kernel_rfl
theorem atI_21_0 : (fun K t => impl_Face_target.f (K + 40) t ((21 : Nat) : Int) ((0 : Nat) : Int)) = fun _ _ => some (atP 21 0) := by kernel_rfl
theorem atS_21_1 : (fun K => spec_l06At.f (K + 40) ((21 : Nat) : Int) ((1 : Nat) : Int)) = fun _ => some (atP 21 1) := by kernel_rfl
theorem atI_21_1 : (fun K t => impl_Face_target.f (K + 40) t ((21 : Nat) : Int) ((1 : Nat) : Int)) = fun _ _ => some (atP 21 1) := by kernel_rfl
theorem atS_21_2 : (fun K => spec_l06At.f (K + 40) ((21 : Nat) : Int) ((2 : Nat) : Int)) = fun _ => some (atP 21 2) := by kernel_rfl
theorem atI_21_2 : (fun K t => impl_Face_target.f (K + 40) t ((21 : Nat) : Int) ((2 : Nat) : Int)) = fun _ _ => some (atP 21 2) := by kernel_rfl
theorem atS_21_3 : (fun K => spec_l06At.f (K + 40) ((21 : Nat) : Int) ((3 : Nat) : Int)) = fun _ => some (atP 21 3) := by kernel_rfl
theorem atI_21_3 : (fun K t => impl_Face_target.f (K + 40) t ((21 : Nat) : Int) ((3 : Nat) : Int)) = fun _ _ => some (atP 21 3) := by kernel_rfl
theorem bkS_21 : (fun K => spec_l06Back.f (K + 40) ((21 : Nat) : Int)) = fun _ => some (backP 21) := by kernel_rfl
theorem bkI_21 : (fun K => impl_invert.f (K + 40) ((21 : Nat) : Int)) = fun _ => some (backP 21) := by kernel_rfl
theorem atS_22_0 : (fun K => spec_l06At.f (K + 40) ((22 : Nat) : Int) ((0 : Nat) : Int)) = fun _ => some (atP 22 0) := by kernel_rfl
theorem atI_22_0 : (fun K t => impl_Face_target.f (K + 40) t ((22 : Nat) : Int) ((0 : Nat) : Int)) = fun _ _ => some (atP 22 0) := by kernel_rfl
theorem atS_22_1 : (fun K => spec_l06At.f (K + 40) ((22 : Nat) : Int) ((1 : Nat) : Int)) = fun _ => some (atP 22 1) := by kernel_rfl
theorem atI_22_1 : (fun K t => impl_Face_target.f (K + 40) t ((22 : Nat) : Int) ((1 : Nat) : Int)) = fun _ _ => some (atP 22 1) := by kernel_rfl
theorem atS_22_2 : (fun K => spec_l06At.f (K + 40) ((22 : Nat) : Int) ((2 : Nat) : Int)) = fun _ => some (atP 22 2) := by kernel_rfl
theorem atI_22_2 : (fun K t => impl_Face_target.f (K + 40) t ((22 : Nat) : Int) ((2 : Nat) : Int)) = fun _ _ => some (atP 22 2) := by kernel_rfl
theorem atS_22_3 : (fun K => spec_l06At.f (K + 40) ((22 : Nat) : Int) ((3 : Nat) : Int)) = fun _ => some (atP 22 3) := by kernel_rfl
theorem atI_22_3 : (fun K t => impl_Face_target.f (K + 40) t ((22 : Nat) : Int) ((3 : Nat) : Int)) = fun _ _ => some (atP 22 3) := by kernel_rfl
theorem bkS_22 : (fun K => spec_l06Back.f (K + 40) ((22 : Nat) : Int)) = fun _ => some (backP 22) := by kernel_rfl
theorem bkI_22 : (fun K => impl_invert.f (K + 40) ((22 : Nat) : Int)) = fun _ => some (backP 22) := by kernel_rfl
theorem atS_23_0 : (fun K => spec_l06At.f (K + 40) ((23 : Nat) : Int) ((0 : Nat) : Int)) = fun _ => some (atP 23 0) := by kernel_rfl
theorem atI_23_0 : (fun K t => impl_Face_target.f (K + 40) t ((23 : Nat) : Int) ((0 : Nat) : Int)) = fun _ _ => some (atP 23 0) := by kernel_rfl
theorem atS_23_1 : (fun K => spec_l06At.f (K + 40) ((23 : Nat) : Int) ((1 : Nat) : Int)) = fun _ => some (atP 23 1) := by kernel_rfl
theorem atI_23_1 : (fun K t => impl_Face_target.f (K + 40) t ((23 : Nat) : Int) ((1 : Nat) : Int)) = fun _ _ => some (atP 23 1) := by kernel_rfl
theorem atS_23_2 : (fun K => spec_l06At.f (K + 40) ((23 : Nat) : Int) ((2 : Nat) : Int)) = fun _ => some (atP 23 2) := by kernel_rfl
theorem atI_23_2 : (fun K t => impl_Face_target.f (K + 40) t ((23 : Nat) : Int) ((2 : Nat) : Int)) = fun _ _ => some (atP 23 2) := by kernel_rfl
theorem atS_23_3 : (fun K => spec_l06At.f (K + 40) ((23 : Nat) : Int) ((3 : Nat) : Int)) = fun _ => some (atP 23 3) := by kernel_rfl
theorem atI_23_3 : (fun K t => impl_Face_target.f (K + 40) t ((23 : Nat) : Int) ((3 : Nat) : Int)) = fun _ _ => some (atP 23 3) := by kernel_rfl
theorem bkS_23 : (fun K => spec_l06Back.f (K + 40) ((23 : Nat) : Int)) = fun _ => some (backP 23) := by kernel_rfl
theorem bkI_23 : (fun K => impl_invert.f (K + 40) ((23 : Nat) : Int)) = fun _ => some (backP 23) := by kernel_rfl
theorem at_spec {p k : Nat} (hp : p < 24) (hk : k < 4) : (fun K => spec_l06At.f (K + 40) (p : Int) (k : Int)) = fun _ => some (atP p k) :=
  below24 (P := fun p => ∀ k : Nat, k < 4 → (fun K => spec_l06At.f (K + 40) (p : Int) (k : Int)) = fun _ => some (atP p k)) (fun _ h => below4 (P := fun k => (fun K => spec_l06At.f (K + 40) ((0 : Nat) : Int) (k : Int)) = fun _ => some (atP 0 k)) atS_0_0 atS_0_1 atS_0_2 atS_0_3 h) (fun _ h => below4 (P := fun k => (fun K => spec_l06At.f (K + 40) ((1 : Nat) : Int) (k : Int)) = fun _ => some (atP 1 k)) atS_1_0 atS_1_1 atS_1_2 atS_1_3 h) (fun _ h => below4 (P := fun k => (fun K => spec_l06At.f (K + 40) ((2 : Nat) : Int) (k : Int)) = fun _ => some (atP 2 k)) atS_2_0 atS_2_1 atS_2_2 atS_2_3 h) (fun _ h => below4 (P := fun k => (fun K => spec_l06At.f (K + 40) ((3 : Nat) : Int) (k : Int)) = fun _ => some (atP 3 k)) atS_3_0 atS_3_1 atS_3_2 atS_3_3 h) (fun _ h => below4 (P := fun k => (fun K => spec_l06At.f (K + 40) ((4 : Nat) : Int) (k : Int)) = fun _ => some (atP 4 k)) atS_4_0 atS_4_1 atS_4_2 atS_4_3 h) (fun _ h => below4 (P := fun k => (fun K => spec_l06At.f (K + 40) ((5 : Nat) : Int) (k : Int)) = fun _ => some (atP 5 k)) atS_5_0 atS_5_1 atS_5_2 atS_5_3 h) (fun _ h => below4 (P := fun k => (fun K => spec_l06At.f (K + 40) ((6 : Nat) : Int) (k : Int)) = fun _ => some (atP 6 k)) atS_6_0 atS_6_1 atS_6_2 atS_6_3 h) (fun _ h => below4 (P := fun k => (fun K => spec_l06At.f (K + 40) ((7 : Nat) : Int) (k : Int)) = fun _ => some (atP 7 k)) atS_7_0 atS_7_1 atS_7_2 atS_7_3 h) (fun _ h => below4 (P := fun k => (fun K => spec_l06At.f (K + 40) ((8 : Nat) : Int) (k : Int)) = fun _ => some (atP 8 k)) atS_8_0 atS_8_1 atS_8_2 atS_8_3 h) (fun _ h => below4 (P := fun k => (fun K => spec_l06At.f (K + 40) ((9 : Nat) : Int) (k : Int)) = fun _ => some (atP 9 k)) atS_9_0 atS_9_1 atS_9_2 atS_9_3 h) (fun _ h => below4 (P := fun k => (fun K => spec_l06At.f (K + 40) ((10 : Nat) : Int) (k : Int)) = fun _ => some (atP 10 k)) atS_10_0 atS_10_1 atS_10_2 atS_10_3 h) (fun _ h => below4 (P := fun k => (fun K => spec_l06At.f (K + 40) ((11 : Nat) : Int) (k : Int)) = fun _ => some (atP 11 k)) atS_11_0 atS_11_1 atS_11_2 atS_11_3 h) (fun _ h => below4 (P := fun k => (fun K => spec_l06At.f (K + 40) ((12 : Nat) : Int) (k : Int)) = fun _ => some (atP 12 k)) atS_12_0 atS_12_1 atS_12_2 atS_12_3 h) (fun _ h => below4 (P := fun k => (fun K => spec_l06At.f (K + 40) ((13 : Nat) : Int) (k : Int)) = fun _ => some (atP 13 k)) atS_13_0 atS_13_1 atS_13_2 atS_13_3 h) (fun _ h => below4 (P := fun k => (fun K => spec_l06At.f (K + 40) ((14 : Nat) : Int) (k : Int)) = fun _ => some (atP 14 k)) atS_14_0 atS_14_1 atS_14_2 atS_14_3 h) (fun _ h => below4 (P := fun k => (fun K => spec_l06At.f (K + 40) ((15 : Nat) : Int) (k : Int)) = fun _ => some (atP 15 k)) atS_15_0 atS_15_1 atS_15_2 atS_15_3 h) (fun _ h => below4 (P := fun k => (fun K => spec_l06At.f (K + 40) ((16 : Nat) : Int) (k : Int)) = fun _ => some (atP 16 k)) atS_16_0 atS_16_1 atS_16_2 atS_16_3 h) (fun _ h => below4 (P := fun k => (fun K => spec_l06At.f (K + 40) ((17 : Nat) : Int) (k : Int)) = fun _ => some (atP 17 k)) atS_17_0 atS_17_1 atS_17_2 atS_17_3 h) (fun _ h => below4 (P := fun k => (fun K => spec_l06At.f (K + 40) ((18 : Nat) : Int) (k : Int)) = fun _ => some (atP 18 k)) atS_18_0 atS_18_1 atS_18_2 atS_18_3 h) (fun _ h => below4 (P := fun k => (fun K => spec_l06At.f (K + 40) ((19 : Nat) : Int) (k : Int)) = fun _ => some (atP 19 k)) atS_19_0 atS_19_1 atS_19_2 atS_19_3 h) (fun _ h => below4 (P := fun k => (fun K => spec_l06At.f (K + 40) ((20 : Nat) : Int) (k : Int)) = fun _ => some (atP 20 k)) atS_20_0 atS_20_1 atS_20_2 atS_20_3 h) (fun _ h => below4 (P := fun k => (fun K => spec_l06At.f (K + 40) ((21 : Nat) : Int) (k : Int)) = fun _ => some (atP 21 k)) atS_21_0 atS_21_1 atS_21_2 atS_21_3 h) (fun _ h => below4 (P := fun k => (fun K => spec_l06At.f (K + 40) ((22 : Nat) : Int) (k : Int)) = fun _ => some (atP 22 k)) atS_22_0 atS_22_1 atS_22_2 atS_22_3 h) (fun _ h => below4 (P := fun k => (fun K => spec_l06At.f (K + 40) ((23 : Nat) : Int) (k : Int)) = fun _ => some (atP 23 k)) atS_23_0 atS_23_1 atS_23_2 atS_23_3 h) hp k hk
theorem at_impl {p k : Nat} (hp : p < 24) (hk : k < 4) : (fun K t => impl_Face_target.f (K + 40) t (p : Int) (k : Int)) = fun _ _ => some (atP p k) :=
  below24 (P := fun p => ∀ k : Nat, k < 4 → (fun K t => impl_Face_target.f (K + 40) t (p : Int) (k : Int)) = fun _ _ => some (atP p k)) (fun _ h => below4 (P := fun k => (fun K t => impl_Face_target.f (K + 40) t ((0 : Nat) : Int) (k : Int)) = fun _ _ => some (atP 0 k)) atI_0_0 atI_0_1 atI_0_2 atI_0_3 h) (fun _ h => below4 (P := fun k => (fun K t => impl_Face_target.f (K + 40) t ((1 : Nat) : Int) (k : Int)) = fun _ _ => some (atP 1 k)) atI_1_0 atI_1_1 atI_1_2 atI_1_3 h) (fun _ h => below4 (P := fun k => (fun K t => impl_Face_target.f (K + 40) t ((2 : Nat) : Int) (k : Int)) = fun _ _ => some (atP 2 k)) atI_2_0 atI_2_1 atI_2_2 atI_2_3 h) (fun _ h => below4 (P := fun k => (fun K t => impl_Face_target.f (K + 40) t ((3 : Nat) : Int) (k : Int)) = fun _ _ => some (atP 3 k)) atI_3_0 atI_3_1 atI_3_2 atI_3_3 h) (fun _ h => below4 (P := fun k => (fun K t => impl_Face_target.f (K + 40) t ((4 : Nat) : Int) (k : Int)) = fun _ _ => some (atP 4 k)) atI_4_0 atI_4_1 atI_4_2 atI_4_3 h) (fun _ h => below4 (P := fun k => (fun K t => impl_Face_target.f (K + 40) t ((5 : Nat) : Int) (k : Int)) = fun _ _ => some (atP 5 k)) atI_5_0 atI_5_1 atI_5_2 atI_5_3 h) (fun _ h => below4 (P := fun k => (fun K t => impl_Face_target.f (K + 40) t ((6 : Nat) : Int) (k : Int)) = fun _ _ => some (atP 6 k)) atI_6_0 atI_6_1 atI_6_2 atI_6_3 h) (fun _ h => below4 (P := fun k => (fun K t => impl_Face_target.f (K + 40) t ((7 : Nat) : Int) (k : Int)) = fun _ _ => some (atP 7 k)) atI_7_0 atI_7_1 atI_7_2 atI_7_3 h) (fun _ h => below4 (P := fun k => (fun K t => impl_Face_target.f (K + 40) t ((8 : Nat) : Int) (k : Int)) = fun _ _ => some (atP 8 k)) atI_8_0 atI_8_1 atI_8_2 atI_8_3 h) (fun _ h => below4 (P := fun k => (fun K t => impl_Face_target.f (K + 40) t ((9 : Nat) : Int) (k : Int)) = fun _ _ => some (atP 9 k)) atI_9_0 atI_9_1 atI_9_2 atI_9_3 h) (fun _ h => below4 (P := fun k => (fun K t => impl_Face_target.f (K + 40) t ((10 : Nat) : Int) (k : Int)) = fun _ _ => some (atP 10 k)) atI_10_0 atI_10_1 atI_10_2 atI_10_3 h) (fun _ h => below4 (P := fun k => (fun K t => impl_Face_target.f (K + 40) t ((11 : Nat) : Int) (k : Int)) = fun _ _ => some (atP 11 k)) atI_11_0 atI_11_1 atI_11_2 atI_11_3 h) (fun _ h => below4 (P := fun k => (fun K t => impl_Face_target.f (K + 40) t ((12 : Nat) : Int) (k : Int)) = fun _ _ => some (atP 12 k)) atI_12_0 atI_12_1 atI_12_2 atI_12_3 h) (fun _ h => below4 (P := fun k => (fun K t => impl_Face_target.f (K + 40) t ((13 : Nat) : Int) (k : Int)) = fun _ _ => some (atP 13 k)) atI_13_0 atI_13_1 atI_13_2 atI_13_3 h) (fun _ h => below4 (P := fun k => (fun K t => impl_Face_target.f (K + 40) t ((14 : Nat) : Int) (k : Int)) = fun _ _ => some (atP 14 k)) atI_14_0 atI_14_1 atI_14_2 atI_14_3 h) (fun _ h => below4 (P := fun k => (fun K t => impl_Face_target.f (K + 40) t ((15 : Nat) : Int) (k : Int)) = fun _ _ => some (atP 15 k)) atI_15_0 atI_15_1 atI_15_2 atI_15_3 h) (fun _ h => below4 (P := fun k => (fun K t => impl_Face_target.f (K + 40) t ((16 : Nat) : Int) (k : Int)) = fun _ _ => some (atP 16 k)) atI_16_0 atI_16_1 atI_16_2 atI_16_3 h) (fun _ h => below4 (P := fun k => (fun K t => impl_Face_target.f (K + 40) t ((17 : Nat) : Int) (k : Int)) = fun _ _ => some (atP 17 k)) atI_17_0 atI_17_1 atI_17_2 atI_17_3 h) (fun _ h => below4 (P := fun k => (fun K t => impl_Face_target.f (K + 40) t ((18 : Nat) : Int) (k : Int)) = fun _ _ => some (atP 18 k)) atI_18_0 atI_18_1 atI_18_2 atI_18_3 h) (fun _ h => below4 (P := fun k => (fun K t => impl_Face_target.f (K + 40) t ((19 : Nat) : Int) (k : Int)) = fun _ _ => some (atP 19 k)) atI_19_0 atI_19_1 atI_19_2 atI_19_3 h) (fun _ h => below4 (P := fun k => (fun K t => impl_Face_target.f (K + 40) t ((20 : Nat) : Int) (k : Int)) = fun _ _ => some (atP 20 k)) atI_20_0 atI_20_1 atI_20_2 atI_20_3 h) (fun _ h => below4 (P := fun k => (fun K t => impl_Face_target.f (K + 40) t ((21 : Nat) : Int) (k : Int)) = fun _ _ => some (atP 21 k)) atI_21_0 atI_21_1 atI_21_2 atI_21_3 h) (fun _ h => below4 (P := fun k => (fun K t => impl_Face_target.f (K + 40) t ((22 : Nat) : Int) (k : Int)) = fun _ _ => some (atP 22 k)) atI_22_0 atI_22_1 atI_22_2 atI_22_3 h) (fun _ h => below4 (P := fun k => (fun K t => impl_Face_target.f (K + 40) t ((23 : Nat) : Int) (k : Int)) = fun _ _ => some (atP 23 k)) atI_23_0 atI_23_1 atI_23_2 atI_23_3 h) hp k hk
theorem back_spec {p : Nat} (hp : p < 24) : (fun K => spec_l06Back.f (K + 40) (p : Int)) = fun _ => some (backP p) := below24 (P := fun p => (fun K => spec_l06Back.f (K + 40) (p : Int)) = fun _ => some (backP p)) bkS_0 bkS_1 bkS_2 bkS_3 bkS_4 bkS_5 bkS_6 bkS_7 bkS_8 bkS_9 bkS_10 bkS_11 bkS_12 bkS_13 bkS_14 bkS_15 bkS_16 bkS_17 bkS_18 bkS_19 bkS_20 bkS_21 bkS_22 bkS_23 hp
theorem back_impl {p : Nat} (hp : p < 24) : (fun K => impl_invert.f (K + 40) (p : Int)) = fun _ => some (backP p) := below24 (P := fun p => (fun K => impl_invert.f (K + 40) (p : Int)) = fun _ => some (backP p)) bkI_0 bkI_1 bkI_2 bkI_3 bkI_4 bkI_5 bkI_6 bkI_7 bkI_8 bkI_9 bkI_10 bkI_11 bkI_12 bkI_13 bkI_14 bkI_15 bkI_16 bkI_17 bkI_18 bkI_19 bkI_20 bkI_21 bkI_22 bkI_23 hp
theorem at_small : ∀ p : Nat, p < 24 → ∀ k : Nat, k < 4 → 0 ≤ atP p k ∧ atP p k < 4 := by decide +kernel
theorem Tends.from40 {α : Type} {F : Nat → Option α} {r : α} (h : (fun K => F (K + 40)) = fun _ => some r) : Tends F r := ⟨40, fun K hK => by
  obtain ⟨k, rfl⟩ : ∃ k, K = k + 40 := ⟨K - 40, by omega⟩
  exact congrFun h k⟩
end Go.Proofs.YthjomdggdaocgaaGreatDoor
