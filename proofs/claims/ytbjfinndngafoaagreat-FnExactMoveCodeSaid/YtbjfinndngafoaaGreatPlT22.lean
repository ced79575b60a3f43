/-
  Triangulations: the move 3-2, whole.
-/
import Derived.Test.YtbjfinndngafoaaGreatPlT21
set_option linter.unusedVariables false
set_option linter.unusedSimpArgs false
set_option linter.unusedSectionVars false
namespace Go.Proofs.YtbjfinndngafoaaGreat
open Go.RowKit
def cnt (C : List Int) (v : Int) : Nat → Nat
  | 0 => 0
  | j + 1 => cnt C v j + if C.getD j 0 = v then 1 else 0
theorem cnt_le (C : List Int) (v : Int) : ∀ j, cnt C v j ≤ j
  | 0 => Nat.le_refl _
  | j + 1 => by have := cnt_le C v j; rw [cnt]; split <;> omega
theorem cnt_three {C : List Int} {v : Int} {N x y z : Nat} (hxy : x ≠ y) (hyz : y ≠ z) (hxz : x ≠ z) (hx : x < N) (hy : y < N) (hz : z < N) (h : ∀ j, j < N → (C.getD j 0 = v ↔ j = x ∨ j = y ∨ j = z)) : cnt C v N = 3 := by
  have : ∀ j, j ≤ N → cnt C v j = (if x < j then 1 else 0) + (if y < j then 1 else 0) + (if z < j then 1 else 0) := by
    intro j
    induction j with
    | zero => intro _; rfl
    | succ j ih =>
      intro hj
      rw [cnt, ih (by omega)]
      have hh := h j (by omega)
      by_cases e : C.getD j 0 = v
      · rw [if_pos e]
        rcases hh.1 e with e | e | e <;> subst e <;> (repeat' split) <;> omega
      · rw [if_neg e]
        have hn : ¬ (j = x ∨ j = y ∨ j = z) := fun q => e (hh.2 q)
        (repeat' split) <;> omega
  rw [this N (Nat.le_refl _), if_pos hx, if_pos hy, if_pos hz]
section
variable {ts : List (List GFace)} (hv : Val ts) {C : List Int} {a e : Nat} (ha : a < ts.length) (he : e < 6)
include hv ha he
theorem s32_l5 {a' : Nat} (ha' : a' < ts.length) {R : List Int × List (List GFace) × List GL12Outer × Bool}
    (h : Tends2 (fun K k => spec_l12Plan32.l1 K k ts (a : Int) (e : Int) (rowsOf C 6 ts.length) (cnt C (C.getD (6 * a + e) 0) (6 * (a' + 1)) : Int) ((a' + 1 : Nat) : Int)) R) :
    ∀ (d e' : Nat), 6 - e' = d → e' ≤ 6 → Tends2 (fun K k => spec_l12Plan32.l5 K k ts (a : Int) (e : Int) (rowsOf C 6 ts.length) (a' : Int) (cnt C (C.getD (6 * a + e) 0) (6 * a' + e') : Int) (e' : Int)) R
  | 0, e', hd, hle => by
    have h8 := hv.le
    obtain rfl : e' = 6 := by omega
    refine Tends2.step (fun K k => ?_) h
    rw [spec_l12Plan32.l5, if_neg (by omega), w64_succ (by omega)]; rfl
  | d + 1, e', hd, hle => by
    have h8 := hv.le
    have ih := s32_l5 ha' h d (e' + 1) (by omega) (by omega)
    have hcl := cnt_le C (C.getD (6 * a + e) 0) (6 * a' + e')
    refine Tends2.succ ?_
    simp only [spec_l12Plan32.l5]
    refine Tends2.pos (by omega) (Tends2.pos (by rw [rowsOf_len]; omega) ?_)
    simp only [Int.toNat_natCast, rowsOf_get ha', rowsOf_get ha, rowAt_get (show e' < 6 by omega), rowAt_get he]
    refine Tends2.pos (by rw [rowAt_len]; omega) ?_
    rw [w64_succ (by omega), w64_succ (by omega)]
    rw [show 6 * a' + (e' + 1) = 6 * a' + e' + 1 by omega, cnt] at ih
    by_cases hc : C.getD (6 * a' + e') 0 = C.getD (6 * a + e) 0
    · rw [if_pos hc] at ih
      exact Tends2.pos hc ih
    · rw [if_neg hc] at ih
      exact Tends2.neg hc ih
theorem s32_l1 {R : List Int × List (List GFace) × List GL12Outer × Bool}
    (h : Tends2 (fun K k => spec_l12Plan32.l1 K k ts (a : Int) (e : Int) (rowsOf C 6 ts.length) (cnt C (C.getD (6 * a + e) 0) (6 * ts.length) : Int) (ts.length : Int)) R) :
    ∀ (d a' : Nat), ts.length - a' = d → a' ≤ ts.length → Tends2 (fun K k => spec_l12Plan32.l1 K k ts (a : Int) (e : Int) (rowsOf C 6 ts.length) (cnt C (C.getD (6 * a + e) 0) (6 * a') : Int) (a' : Int)) R
  | 0, a', hd, hle => by
    obtain rfl : a' = ts.length := by omega
    exact h
  | d + 1, a', hd, hle => by
    have := s32_l5 hv ha he (show a' < ts.length by omega) (s32_l1 h d (a' + 1) (by omega) (by omega)) 6 0 rfl (by omega)
    refine Tends2.step (fun K k => ?_) this
    rw [spec_l12Plan32.l1, if_pos (by rw [rowsOf_len]; omega)]; rfl
section
variable {V E F : List Int} (hB : Tends (fun K => spec_BoundaryClasses.f K ts) (V, E, F)) (hE : E.length ≤ 100) {Sg : List Int} (hS : Tends (fun K => spec_l08Signs.f K ts) (rowsOf Sg 6 ts.length))
include hB hE hS
theorem s32_end {x : Nat} {R : List Int × List (List GFace) × List GL12Outer × Bool} (h3 : x ≠ 3 → R = ([], [], [], false)) (h0 : x = 3 → Sg.getD (6 * a + e) 0 = 0 → R = ([], [], [], false)) (hb : x = 3 → Sg.getD (6 * a + e) 0 ≠ 0 → C.getD (6 * a + e) 0 ∈ E → R = ([], [], [], false))
    (hr : x = 3 → Sg.getD (6 * a + e) 0 ≠ 0 → ¬ C.getD (6 * a + e) 0 ∈ E → ∃ ring, Tends (fun K => spec_l08Ring.f K ts (C.getD (6 * a + e) 0)) ring ∧ (ring.length ≠ 3 → R = ([], [], [], false)) ∧
      (ring.length = 3 → ((ring.getD 0 z_GFace).Tet = (ring.getD 1 z_GFace).Tet ∨ (ring.getD 1 z_GFace).Tet = (ring.getD 2 z_GFace).Tet ∨ (ring.getD 0 z_GFace).Tet = (ring.getD 2 z_GFace).Tet) → R = ([], [], [], false)) ∧
      (ring.length = 3 → (ring.getD 0 z_GFace).Tet ≠ (ring.getD 1 z_GFace).Tet → (ring.getD 1 z_GFace).Tet ≠ (ring.getD 2 z_GFace).Tet → (ring.getD 0 z_GFace).Tet ≠ (ring.getD 2 z_GFace).Tet → Tends2 (fun K k => spec_l12Plan32.l6 K k ring free4 free4 [] [] 0) R)) :
    Tends2 (fun K k => spec_l12Plan32.l1 K k ts (a : Int) (e : Int) (rowsOf C 6 ts.length) (x : Int) (ts.length : Int)) R := by
  have h8 := hv.le
  refine Tends2.succ ?_
  simp only [spec_l12Plan32.l1]
  refine Tends2.neg (by rw [rowsOf_len]; omega) ?_
  by_cases hx : x = 3
  rotate_left
  · rw [h3 hx]
    exact Tends2.neg (by omega) (Tends2.const _)
  refine Tends2.pos (by omega) ?_
  refine Tends2.bind3 hB.two ?_
  refine Tends2.bind hS.two ?_
  refine Tends2.pos (by rw [rowsOf_len]; omega) ?_
  simp only [Int.toNat_natCast, rowsOf_get ha, rowAt_get he]
  refine Tends2.pos (by rw [rowAt_len]; omega) ?_
  by_cases hs : Sg.getD (6 * a + e) 0 = 0
  · rw [h0 hx hs]; exact Tends2.pos hs (Tends2.const _)
  refine Tends2.neg hs ?_
  refine Tends2.bind (has_t (by omega)).two ?_
  by_cases hm : C.getD (6 * a + e) 0 ∈ E
  · rw [hb hx hs hm]; exact Tends2.pos (decide_eq_true hm) (Tends2.const _)
  refine Tends2.neg (by rw [decide_eq_true_eq]; exact hm) ?_
  obtain ⟨ring, g1, g2, g3, g4⟩ := hr hx hs hm
  refine Tends2.bind g1.two ?_
  by_cases hl : ring.length = 3
  rotate_left
  · rw [g2 hl]; exact Tends2.neg (by omega) (Tends2.const _)
  refine Tends2.pos (by omega) (Tends2.pos (by omega) ?_)
  simp only [bnd_eq]
  refine Tends2.pos (by omega) ?_
  by_cases e1 : (ring.getD 0 z_GFace).Tet = (ring.getD 1 z_GFace).Tet
  · rw [g3 hl (.inl e1)]; exact Tends2.pos e1 (Tends2.const _)
  refine Tends2.neg e1 (Tends2.pos (by omega) ?_)
  by_cases e2 : (ring.getD 1 z_GFace).Tet = (ring.getD 2 z_GFace).Tet
  · rw [g3 hl (.inr (.inl e2))]; exact Tends2.pos e2 (Tends2.const _)
  refine Tends2.neg e2 ?_
  by_cases e3 : (ring.getD 0 z_GFace).Tet = (ring.getD 2 z_GFace).Tet
  · rw [g3 hl (.inr (.inr e3))]; exact Tends2.pos e3 (Tends2.const _)
  refine Tends2.neg e3 ?_
  refine Tends2.bind (a := free4) (Tends2.const _) ?_
  refine Tends2.bind (a := free4) (Tends2.const _) ?_
  refine Tends2.pos (by decide) (Tends2.pos (by decide) (Tends2.pos (by decide) (Tends2.pos (by decide) ?_)))
  exact g4 hl e1 e2 e3
end
end
end Go.Proofs.YtbjfinndngafoaaGreat
