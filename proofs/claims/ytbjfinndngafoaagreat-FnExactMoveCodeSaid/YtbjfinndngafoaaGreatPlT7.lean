/-
  The reference's rows of numbers.
-/
import Derived.Test.YtbjfinndngafoaaGreatPlT6
set_option linter.unusedVariables false
set_option linter.unusedSimpArgs false
set_option linter.unusedSectionVars false
namespace Go.Proofs.YtbjfinndngafoaaGreat
open Go.RowKit
theorem Least.first_iff {n : Nat} {o : List Int} (h : Least n o) {i : Nat} (hi : i < n) : isFirst o i = true ↔ o.getD i 0 = (i : Int) := by
  have h1 := h.low i hi
  have h2 := h.root i hi
  rw [isFirst_iff]
  constructor
  · intro hf
    rcases Int.lt_or_eq_of_le h1.2 with hlt | he
    · exact absurd h2 (hf _ (by omega))
    · exact he
  · intro he j hj e
    have := (h.low j (by omega)).2
    rw [e, he] at this
    omega
theorem Least.cn {n : Nat} {o : List Int} (h : Least n o) {i : Nat} (hi : i < n) : (o.getD i 0).toNat < n ∧ fo o i = (o.getD i 0).toNat := by
  have h1 := h.low i hi
  have h2 := h.root i hi
  have hl : (o.getD i 0).toNat < n := by omega
  exact ⟨hl, fo_uniq ((h.first_iff hl).2 (by rw [h2]; omega)) h2⟩
def rowAt (C : List Int) (w a : Nat) : List Int := (List.range w).map fun e => C.getD (w * a + e) 0
def rowsOf (C : List Int) (w m : Nat) : List (List Int) := (List.range m).map (rowAt C w)
theorem rowAt_len (C : List Int) (w a : Nat) : (rowAt C w a).length = w := by simp [rowAt]
theorem rowsOf_len (C : List Int) (w m : Nat) : (rowsOf C w m).length = m := by simp [rowsOf]
theorem rowsOf_get {C : List Int} {w m a : Nat} (h : a < m) : (rowsOf C w m).getD a [] = rowAt C w a := by
  unfold rowsOf
  rw [List.getD_eq_getElem?_getD, List.getElem?_map, List.getElem?_range h]; rfl
theorem rowAt_get {C : List Int} {w a e : Nat} (h : e < w) : (rowAt C w a).getD e 0 = C.getD (w * a + e) 0 := by
  unfold rowAt
  rw [List.getD_eq_getElem?_getD, List.getElem?_map, List.getElem?_range h]; rfl
section
variable {o : List Int} {w m : Nat} (hw : o.length = w * m) (hn : w * m ≤ 100) (hw0 : 0 < w) (hw1 : w ≤ 100) (hL : Least (w * m) o)
include hw hn hw0 hw1 hL
theorem rows_l10 {num : List Int} {c : Int} (hnl : num.length = w * m) (hnum : ∀ j, j < w * m → o.getD j 0 = (j : Int) → num.getD j 0 = (firstN o j : Int)) {out : List (List Int)} (ho : out.length ≤ 100) {a : Nat} (ha : a < m) {R : List (List Int) × Int}
    (hR : Tends2 (fun K k => spec_l08Rows.l7 K k o (w : Int) num c (out ++ [rowAt (CN (w * m) o) w a]) ((w * (a + 1) : Nat) : Int)) R) : ∀ (d e : Nat), w - e = d → e ≤ w →
    Tends2 (fun K k => spec_l08Rows.l10 K k o (w : Int) num c out ((w * a : Nat) : Int) ((List.range e).map fun e => (CN (w * m) o).getD (w * a + e) 0) ((w * a + e : Nat) : Int)) R
  | 0, e, hd, he => by
    obtain rfl : e = w := by omega
    refine Tends2.step (fun K k => ?_) hR
    have h1 : w64 (((e * a : Nat) : Int) + (e : Int)) = ((e * (a + 1) : Nat) : Int) := by
      have h2 : e * (a + 1) = e * a + e := Nat.mul_succ e a
      have : e * (a + 1) ≤ e * m := Nat.mul_le_mul_left e ha
      rw [w64_id (by omega) (by omega)]; omega
    rw [spec_l08Rows.l10, h1, if_neg (by rw [Nat.mul_succ]; omega), if_pos (by omega)]
    rfl
  | d + 1, e, hd, he => by
    have hlt : e < w := by omega
    have h2 : w * (a + 1) ≤ w * m := Nat.mul_le_mul_left w ha
    rw [Nat.mul_succ] at h2
    have hin : w * a + e < w * m := by omega
    obtain ⟨g1, g2⟩ := hL.cn hin
    have g3 := hL.low _ hin
    have g4 := hL.root _ hin
    refine Tends2.step (fun K k => ?_) (rows_l10 hnl hnum ho ha hR d (e + 1) (by omega) (by omega))
    rw [spec_l08Rows.l10, w64_id (by omega) (by omega), if_pos (by omega), if_pos (by omega), Int.toNat_natCast, if_pos (by omega), if_pos (by rw [List.length_map, List.length_range]; omega), w64_succ (by omega), List.range_succ, List.map_append]
    have h5 : num.getD (o.getD (w * a + e) 0).toNat 0 = (CN (w * m) o).getD (w * a + e) 0 := by
      rw [CN_get hin, cn, g2, hnum _ g1 (by rw [g4]; omega)]
    rw [h5]
    rfl
theorem rows_l7 {num : List Int} {c : Int} (hnl : num.length = w * m) (hnum : ∀ j, j < w * m → o.getD j 0 = (j : Int) → num.getD j 0 = (firstN o j : Int)) : ∀ (d a : Nat), m - a = d → a ≤ m →
    Tends2 (fun K k => spec_l08Rows.l7 K k o (w : Int) num c (rowsOf (CN (w * m) o) w a) ((w * a : Nat) : Int)) (rowsOf (CN (w * m) o) w m, c)
  | 0, a, hd, ha => by
    obtain rfl : a = m := by omega
    refine Tends2.of fun K k => ?_
    rw [spec_l08Rows.l7, if_neg (by omega)]
  | d + 1, a, hd, ha => by
    have hlt : a < m := by omega
    have h2 : w * (a + 1) ≤ w * m := Nat.mul_le_mul_left w hlt
    rw [Nat.mul_succ] at h2
    have hma : a < 100 := by
      have : 1 * (a + 1) ≤ w * (a + 1) := Nat.mul_le_mul_right _ hw0
      rw [Nat.mul_succ w] at this; omega
    have ih := rows_l7 (c := c) hnl hnum d (a + 1) (by omega) (by omega)
    have e : rowsOf (CN (w * m) o) w (a + 1) = rowsOf (CN (w * m) o) w a ++ [rowAt (CN (w * m) o) w a] := by unfold rowsOf; rw [List.range_succ, List.map_append]; rfl
    rw [e] at ih
    have h10 := rows_l10 hw hn hw0 hw1 hL hnl hnum (by rw [rowsOf_len]; omega) hlt ih w 0 (by omega) (by omega)
    refine Tends2.step (fun K k => ?_) h10
    rw [spec_l08Rows.l7, if_pos (by omega)]
    rfl
theorem rows_l1 : ∀ (d i : Nat) (num : List Int), w * m - i = d → i ≤ w * m → num.length = w * m → (∀ j, j < i → o.getD j 0 = (j : Int) → num.getD j 0 = (firstN o j : Int)) →
    Tends2 (fun K k => spec_l08Rows.l1 K k o (w : Int) num (firstN o i : Int) (i : Int)) (rowsOf (CN (w * m) o) w m, (firstN o (w * m) : Int))
  | 0, i, num, hd, hi, hl, h => by
    obtain rfl : i = w * m := by omega
    refine Tends2.step (fun K k => ?_) (rows_l7 hw hn hw0 hw1 hL hl h m 0 (by omega) (by omega))
    rw [spec_l08Rows.l1, if_neg (by omega)]
    rfl
  | d + 1, i, num, hd, hi, hl, h => by
    have hlt : i < w * m := by omega
    have hle := firstN_le o i
    by_cases hc : o.getD i 0 = (i : Int)
    · have hf := (hL.first_iff hlt).2 hc
      have ih := rows_l1 d (i + 1) (num.set i (firstN o i : Int)) (by omega) (by omega) (by rw [List.length_set]; exact hl) (fun j hj he => by
        by_cases e : i = j
        · subst e; rw [List.getD_eq_getElem?_getD, List.getElem?_set_self (by omega)]; rfl
        · rw [List.getD_eq_getElem?_getD, List.getElem?_set_ne e, ← List.getD_eq_getElem?_getD]; exact h j (by omega) he)
      refine Tends2.step (fun K k => ?_) ih
      rw [spec_l08Rows.l1, if_pos (by omega), if_pos (by omega), Int.toNat_natCast, if_pos hc, if_pos (by omega), w64_succ (by omega), w64_succ (by omega), firstN, if_pos hf]
    · have hf : ¬ isFirst o i = true := fun e => hc ((hL.first_iff hlt).1 e)
      have ih := rows_l1 d (i + 1) num (by omega) (by omega) hl (fun j hj he => by
        by_cases e : j = i
        · subst e; exact absurd he hc
        · exact h j (by omega) he)
      refine Tends2.step (fun K k => ?_) ih
      rw [spec_l08Rows.l1, if_pos (by omega), if_pos (by omega), Int.toNat_natCast, if_neg hc, w64_succ (by omega), firstN, if_neg hf]
      rfl
theorem rows_t : Tends (fun K => spec_l08Rows.f K o (w : Int)) (rowsOf (CN (w * m) o) w m, (firstN o (w * m) : Int)) := by
  refine Tends.congr (fun K => ?_) (rows_l1 hw hn hw0 hw1 hL (w * m) 0 (List.replicate o.length 0) (by omega) (by omega) (by rw [List.length_replicate]; exact hw) (fun j hj => by omega)).diag
  rw [spec_l08Rows.f, if_pos (by omega), if_pos (by omega), Int.toNat_natCast]
  rfl
end
end Go.Proofs.YtbjfinndngafoaaGreat
