/-
  The side of an arc at a region's corner.
-/
import Derived.Test.YtdfiglhdjlmakaaGreatPlV
set_option linter.unusedVariables false
set_option linter.unusedSimpArgs false
set_option linter.unusedSectionVars false
namespace Go.Proofs.YtdfiglhdjlmakaaGreat
open Go.RowKit
def sideOf (xs : List GCrossing) (k : Nat) : Int := if entAt xs (behind k) = true then 2 * arcAt xs (behind k) else 2 * arcAt xs (behind k) + 1
section
variable {xs : List GCrossing} (hn : xs.length ≤ 10) (hs : Signs xs) {f t : List GEnd} (hg : Good xs f t)
include hn hs hg
theorem side_range {k : Nat} (hk : k < 4 * xs.length) : 0 ≤ sideOf xs k ∧ sideOf xs k < 4 * (xs.length : Int) ∧ 0 ≤ arcAt xs (behind k) ∧ arcAt xs (behind k) < 2 * (xs.length : Int) := by
  have h := hg.range (q := behind k) (by unfold behind; omega)
  unfold sideOf
  split <;> omega
theorem side_spec (cs : Int) {k : Nat} (hk : k < 4 * xs.length) : spec_l27Side.f xs cs (k : Int) = some (sideOf xs k) := by
  have hp : (k % 4 + 1) % 4 < 4 := Nat.mod_lt _ (by decide)
  have hr := side_range hn hs hg hk
  have hA := arcAt_cp xs (c := k / 4) hp
  have hE := entAt_cp xs (c := k / 4) hp
  have hb : behind k = 4 * (k / 4) + (k % 4 + 1) % 4 := rfl
  unfold spec_l27Side.f sideOf
  rw [corner_div (by omega), if_pos (by omega), bnd_eq, Int.toNat_natCast, corner_mod (by omega), Enters_eq _ hp, Option.bind_some, ← hE, End_eq _ hp, ← hA, ← hb, Option.bind_some]
  split
  · rw [w64_id (by omega) (by omega)]
  · rw [Option.bind_some, w64_id (x := 2 * arcAt xs (behind k)) (by omega) (by omega), w64_id (by omega) (by omega)]
end
end Go.Proofs.YtdfiglhdjlmakaaGreat
