/-
  Positions at crossings: the arc at a position, whether it enters; the search for a position finds it.
-/
import Derived.Test.YtkmeepgpmppibaaGreatDoorPlB
set_option linter.unusedVariables false
set_option linter.unusedSimpArgs false
namespace Go.Proofs.YtkmeepgpmppibaaGreatDoor
open Go.RowKit
def wK (x : Al) (p : Nat) : Int := [x.A, x.B, x.C, x.D].getD p 0
def ent (x : Al) (p : Nat) : Bool := p == 0 || (p == 3 && decide (x.Sign = 1)) || (p == 1 && decide (x.Sign = -1))
def Gj (xs : List Al) (q : Nat) : Int := wK (xs.getD (q / 4) Au) (q % 4)
def Kn (xs : List Al) (q : Nat) : Bool := ent (xs.getD (q / 4) Au) (q % 4)
theorem Y7 (x : Al) {p : Nat} (h : p < 4) : I5.f x.A x.B x.C x.D x.Sign (p : Int) = some (wK x p) := by
  unfold I5.f
  rw [if_pos (by simp; omega), Int.toNat_natCast]
  rfl
theorem Ry (x : Al) {p : Nat} (h : p < 4) : G6.f x.A x.B x.C x.D x.Sign (p : Int) = some (ent x p) := by
  unfold G6.f ent
  match p, h with
  | 0, _ => rfl
  | 1, _ => simp
  | 2, _ => simp
  | 3, _ => by_cases h1 : x.Sign = 1 <;> simp [h1]
theorem Y1 {c p : Nat} (h : p < 4) : (4 * c + p) / 4 = c := by omega
theorem Y5 {c p : Nat} (h : p < 4) : (4 * c + p) % 4 = p := by omega
theorem Tj (xs : List Al) {c p : Nat} (h : p < 4) : Gj xs (4 * c + p) = wK (xs.getD c Au) p := by unfold Gj; rw [Y1 h, Y5 h]
theorem Ot (xs : List Al) {c p : Nat} (h : p < 4) : Kn xs (4 * c + p) = ent (xs.getD c Au) p := by unfold Kn; rw [Y1 h, Y5 h]
section
variable {xs : List Al} (hn : xs.length ≤ 2000000) {a : Int} {b : Bool} {q0 : Nat} (hq : q0 < 4 * xs.length) (ha : Gj xs q0 = a) (hb : Kn xs q0 = b) (hf : ∀ q, q < q0 → ¬ (Gj xs q = a ∧ Kn xs q = b))
include hn hq ha hb hf
theorem Wt : ∀ (m c p : Nat), 5 * c + p + m = 5 * xs.length → p ≤ 4 → c < xs.length → 4 * c + p ≤ q0 →
    Ac (fun K k => Ck.l4 K k xs a b (c : Int) (p : Int)) (((q0 / 4 : Nat) : Int), ((q0 % 4 : Nat) : Int))
  | 0, c, p, hm, hp, hc, hle => by omega
  | m + 1, c, p, hm, hp, hc, hle => by
    refine Ac.succ ?_
    by_cases h4 : p < 4
    · have h1 : ∀ K k, Ck.l4 K (k + 1) xs a b (c : Int) (p : Int) = if Gj xs (4 * c + p) = a then (if (Kn xs (4 * c + p) == b) = true then some ((c : Int), (p : Int)) else Ck.l4 K k xs a b (c : Int) ((p + 1 : Nat) : Int)) else Ck.l4 K k xs a b (c : Int) ((p + 1 : Nat) : Int) := fun K k => by
        rw [Ck.l4, if_pos (by omega), if_pos (by omega), Fe, Int.toNat_natCast, Y7 _ h4, Option.bind_some, Ry _ h4, Option.bind_some, Tj _ h4, Ot _ h4, Cc (by omega)]
      refine Ac.congr h1 ?_
      by_cases hm' : Gj xs (4 * c + p) = a ∧ Kn xs (4 * c + p) = b
      · have he : 4 * c + p = q0 := by
          rcases Nat.lt_or_ge (4 * c + p) q0 with h | h
          · exact absurd hm' (hf _ h)
          · omega
        refine Ac.pos hm'.1 (Ac.pos (by rw [hm'.2]; exact beq_self_eq_true b) ?_)
        rw [← he, Y1 h4, Y5 h4]
        exact Ac.const _
      · have hne : 4 * c + p ≠ q0 := fun e => hm' (by rw [e]; exact ⟨ha, hb⟩)
        have ih := Wt m c (p + 1) (by omega) (by omega) hc (by omega)
        by_cases h5 : Gj xs (4 * c + p) = a
        · refine Ac.pos h5 (Ac.neg (fun h6 => hm' ⟨h5, eq_of_beq h6⟩) ih)
        · exact Ac.neg h5 ih
    · obtain rfl : p = 4 := by omega
      have hc' : c + 1 < xs.length := by omega
      have ih := Wt m (c + 1) 0 (by omega) (by omega) hc' (by omega)
      have h1 : ∀ K k, Ck.l4 K (k + 1) xs a b (c : Int) ((4 : Nat) : Int) = Ck.l1 K k xs a b ((c + 1 : Nat) : Int) := fun K k => by
        rw [Ck.l4, if_neg (by omega), Cc (by omega)]
      refine Ac.congr h1 (Ac.succ (Ac.congr (fun K k => ?_) ih))
      rw [Ck.l1, if_pos (by omega)]
      rfl
theorem place (cs : Int) : Ab (fun K => Ck.f K xs cs a b) (((q0 / 4 : Nat) : Int), ((q0 % 4 : Nat) : Int)) := by
  have hl := Wt hn hq ha hb hf (5 * xs.length) 0 0 (by omega) (by omega) (by omega) (by omega)
  refine Ab.congr (fun K => ?_) (Ac.Ib (Ac.succ (F := fun K k => Ck.l1 K k xs a b 0) (Ac.congr (fun K k => ?_) hl)))
  · rfl
  · rw [Ck.l1, if_pos (by omega)]
    rfl
end
end Go.Proofs.YtkmeepgpmppibaaGreatDoor
