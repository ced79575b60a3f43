/-
  Positions at crossings: the arc at a position, whether it enters; the search for a position finds it.
-/
import Derived.Test.YtkmeepgpmppibaaGreatDoorPlB
set_option linter.unusedVariables false
set_option linter.unusedSimpArgs false
namespace Go.Proofs.YtkmeepgpmppibaaGreatDoor
open Go.RowKit
def endv (x : GCrossing) (p : Nat) : Int := [x.A, x.B, x.C, x.D].getD p 0
def ent (x : GCrossing) (p : Nat) : Bool := p == 0 || (p == 3 && decide (x.Sign = 1)) || (p == 1 && decide (x.Sign = -1))
def arcAt (xs : List GCrossing) (q : Nat) : Int := endv (xs.getD (q / 4) z_GCrossing) (q % 4)
def entAt (xs : List GCrossing) (q : Nat) : Bool := ent (xs.getD (q / 4) z_GCrossing) (q % 4)
theorem End_eq (x : GCrossing) {p : Nat} (h : p < 4) : spec_l25End.f x.A x.B x.C x.D x.Sign (p : Int) = some (endv x p) := by
  unfold spec_l25End.f
  rw [if_pos (by simp; omega), Int.toNat_natCast]
  rfl
theorem Enters_eq (x : GCrossing) {p : Nat} (h : p < 4) : spec_l25Enters.f x.A x.B x.C x.D x.Sign (p : Int) = some (ent x p) := by
  unfold spec_l25Enters.f ent
  match p, h with
  | 0, _ => rfl
  | 1, _ => simp
  | 2, _ => simp
  | 3, _ => by_cases h1 : x.Sign = 1 <;> simp [h1]
theorem cp_div {c p : Nat} (h : p < 4) : (4 * c + p) / 4 = c := by omega
theorem cp_mod {c p : Nat} (h : p < 4) : (4 * c + p) % 4 = p := by omega
theorem arcAt_cp (xs : List GCrossing) {c p : Nat} (h : p < 4) : arcAt xs (4 * c + p) = endv (xs.getD c z_GCrossing) p := by unfold arcAt; rw [cp_div h, cp_mod h]
theorem entAt_cp (xs : List GCrossing) {c p : Nat} (h : p < 4) : entAt xs (4 * c + p) = ent (xs.getD c z_GCrossing) p := by unfold entAt; rw [cp_div h, cp_mod h]
section
variable {xs : List GCrossing} (hn : xs.length ≤ 2000000) {a : Int} {b : Bool} {q0 : Nat} (hq : q0 < 4 * xs.length) (ha : arcAt xs q0 = a) (hb : entAt xs q0 = b) (hf : ∀ q, q < q0 → ¬ (arcAt xs q = a ∧ entAt xs q = b))
include hn hq ha hb hf
theorem place_l4 : ∀ (m c p : Nat), 5 * c + p + m = 5 * xs.length → p ≤ 4 → c < xs.length → 4 * c + p ≤ q0 →
    Tends2 (fun K k => spec_l25Place.l4 K k xs a b (c : Int) (p : Int)) (((q0 / 4 : Nat) : Int), ((q0 % 4 : Nat) : Int))
  | 0, c, p, hm, hp, hc, hle => by omega
  | m + 1, c, p, hm, hp, hc, hle => by
    refine Tends2.succ ?_
    by_cases h4 : p < 4
    · have h1 : ∀ K k, spec_l25Place.l4 K (k + 1) xs a b (c : Int) (p : Int) = if arcAt xs (4 * c + p) = a then (if (entAt xs (4 * c + p) == b) = true then some ((c : Int), (p : Int)) else spec_l25Place.l4 K k xs a b (c : Int) ((p + 1 : Nat) : Int)) else spec_l25Place.l4 K k xs a b (c : Int) ((p + 1 : Nat) : Int) := fun K k => by
        rw [spec_l25Place.l4, if_pos (by omega), if_pos (by omega), bnd_eq, Int.toNat_natCast, End_eq _ h4, Option.bind_some, Enters_eq _ h4, Option.bind_some, arcAt_cp _ h4, entAt_cp _ h4, w64_succ (by omega)]
      refine Tends2.congr h1 ?_
      by_cases hm' : arcAt xs (4 * c + p) = a ∧ entAt xs (4 * c + p) = b
      · have he : 4 * c + p = q0 := by
          rcases Nat.lt_or_ge (4 * c + p) q0 with h | h
          · exact absurd hm' (hf _ h)
          · omega
        refine Tends2.pos hm'.1 (Tends2.pos (by rw [hm'.2]; exact beq_self_eq_true b) ?_)
        rw [← he, cp_div h4, cp_mod h4]
        exact Tends2.const _
      · have hne : 4 * c + p ≠ q0 := fun e => hm' (by rw [e]; exact ⟨ha, hb⟩)
        have ih := place_l4 m c (p + 1) (by omega) (by omega) hc (by omega)
        by_cases h5 : arcAt xs (4 * c + p) = a
        · refine Tends2.pos h5 (Tends2.neg (fun h6 => hm' ⟨h5, eq_of_beq h6⟩) ih)
        · exact Tends2.neg h5 ih
    · obtain rfl : p = 4 := by omega
      have hc' : c + 1 < xs.length := by omega
      have ih := place_l4 m (c + 1) 0 (by omega) (by omega) hc' (by omega)
      have h1 : ∀ K k, spec_l25Place.l4 K (k + 1) xs a b (c : Int) ((4 : Nat) : Int) = spec_l25Place.l1 K k xs a b ((c + 1 : Nat) : Int) := fun K k => by
        rw [spec_l25Place.l4, if_neg (by omega), w64_succ (by omega)]
      refine Tends2.congr h1 (Tends2.succ (Tends2.congr (fun K k => ?_) ih))
      rw [spec_l25Place.l1, if_pos (by omega)]
      rfl
theorem place (cs : Int) : Tends (fun K => spec_l25Place.f K xs cs a b) (((q0 / 4 : Nat) : Int), ((q0 % 4 : Nat) : Int)) := by
  have hl := place_l4 hn hq ha hb hf (5 * xs.length) 0 0 (by omega) (by omega) (by omega) (by omega)
  refine Tends.congr (fun K => ?_) (Tends2.diag (Tends2.succ (F := fun K k => spec_l25Place.l1 K k xs a b 0) (Tends2.congr (fun K k => ?_) hl)))
  · rfl
  · rw [spec_l25Place.l1, if_pos (by omega)]
    rfl
end
end Go.Proofs.YtkmeepgpmppibaaGreatDoor
