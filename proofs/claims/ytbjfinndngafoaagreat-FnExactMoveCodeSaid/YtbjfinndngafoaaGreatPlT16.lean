/-
  The reference's boundary classes, whole.
-/
import Derived.Test.YtbjfinndngafoaaGreatPlT15
set_option linter.unusedVariables false
set_option linter.unusedSimpArgs false
set_option linter.unusedSectionVars false
namespace Go.Proofs.YtbjfinndngafoaaGreat
open Go.RowKit
section
variable {ts : List (List GFace)} (hv : Val ts)
include hv
section
variable {vs ys fs : List Int} {L : List (List Int)} (hL : L.length ≤ 4 * ts.length)
include hL
theorem bc_l8 {a f t : Nat} (ha : a < ts.length) (hf : f < 4) (ht : t < L.length) (hLt : L.getD t [] = [(a : Int), (f : Int)]) {fb eb : List Bool} : ∀ (d v : Nat) (vb : List Bool), 4 - v = d → v ≤ 4 → vb.length = firstN vs (4 * ts.length) →
    ∃ vb', vb'.length = firstN vs (4 * ts.length) ∧ ∀ R, Tends2 (fun K k => spec_BoundaryClasses.l10 K k (rowsOf (CN (4 * ts.length) vs) 4 ts.length) (rowsOf (CN (6 * ts.length) ys) 6 ts.length) (rowsOf (CN (4 * ts.length) fs) 4 ts.length) L fb (t : Int) vb' eb 0) R →
        Tends2 (fun K k => spec_BoundaryClasses.l8 K k (rowsOf (CN (4 * ts.length) vs) 4 ts.length) (rowsOf (CN (6 * ts.length) ys) 6 ts.length) (rowsOf (CN (4 * ts.length) fs) 4 ts.length) L eb fb (t : Int) vb (v : Int)) R
  | 0, v, vb, hd, he, hl => by
    obtain rfl : v = 4 := by omega
    refine ⟨vb, hl, fun R hR => Tends2.step (fun K k => ?_) hR⟩
    rw [spec_BoundaryClasses.l8, if_neg (by decide)]
  | d + 1, v, vb, hd, he, hl => by
    have h8 := hv.le
    have hv4 : v < 4 := by omega
    have hin : 4 * a + v < 4 * ts.length := mul_lt ha hv4
    have hr := cn_range (s := vs) (N := 4 * ts.length) (by omega) hin
    obtain ⟨c0, hc0⟩ : ∃ c : Nat, (CN (4 * ts.length) vs).getD (4 * a + v) 0 = (c : Int) := ⟨((CN (4 * ts.length) vs).getD (4 * a + v) 0).toNat, by omega⟩
    by_cases hc : v = f
    · obtain ⟨vb', g1, g3⟩ := bc_l8 ha hf ht hLt (fb := fb) (eb := eb) d (v + 1) vb (by omega) (by omega) hl
      refine ⟨vb', g1, fun R hR => Tends2.step (fun K k => ?_) (g3 R hR)⟩
      rw [spec_BoundaryClasses.l8, if_pos (by omega), Int.toNat_natCast, hLt, w64_succ (by omega)]
      show (if (v : Int) = (f : Int) then _ else _) = _
      rw [if_pos (by omega)]
    · obtain ⟨vb', g1, g3⟩ := bc_l8 ha hf ht hLt (fb := fb) (eb := eb) d (v + 1) (vb.set c0 true) (by omega) (by omega) (by rw [List.length_set]; exact hl)
      refine ⟨vb', g1, fun R hR => Tends2.step (fun K k => ?_) (g3 R hR)⟩
      rw [spec_BoundaryClasses.l8, if_pos (by omega), Int.toNat_natCast, hLt, w64_succ (by omega)]
      show (if (v : Int) = (f : Int) then _ else (if 0 ≤ (a : Int) ∧ (a : Int) < _ then (if 0 ≤ (v : Int) ∧ (v : Int) < (((rowsOf (CN (4 * ts.length) vs) 4 ts.length).getD (a : Int).toNat []).length : Int) then (if 0 ≤ ((rowsOf (CN (4 * ts.length) vs) 4 ts.length).getD (a : Int).toNat []).getD (v : Int).toNat 0 ∧ ((rowsOf (CN (4 * ts.length) vs) 4 ts.length).getD (a : Int).toNat []).getD (v : Int).toNat 0 < _ then spec_BoundaryClasses.l8 K k _ _ _ L eb fb (t : Int) (vb.set (((rowsOf (CN (4 * ts.length) vs) 4 ts.length).getD (a : Int).toNat []).getD (v : Int).toNat 0).toNat true) _ else none) else none) else none)) = _
      rw [if_neg (by omega), if_pos (by rw [rowsOf_len]; omega), Int.toNat_natCast, rowsOf_get ha, if_pos (by rw [rowAt_len]; omega), Int.toNat_natCast, rowAt_get hv4, hc0, if_pos (by omega), Int.toNat_natCast]
theorem bc_l1 (hB : BdL ts L (fun a' f' => a' < ts.length ∧ f' < 4)) : ∀ (d t : Nat) (vb eb fb : List Bool), L.length - t = d → t ≤ L.length → vb.length = firstN vs (4 * ts.length) → eb.length = firstN ys (6 * ts.length) → fb.length = firstN fs (4 * ts.length) →
      (∀ c : Nat, eb.getD c false = true ↔ ∃ t', t' < t ∧ ∃ a f e : Nat, a < ts.length ∧ f < 4 ∧ e < 6 ∧ L.getD t' [] = [(a : Int), (f : Int)] ∧ (face ts a f).Tet < 0 ∧ EA e ≠ f ∧ EB e ≠ f ∧ (CN (6 * ts.length) ys).getD (6 * a + e) 0 = (c : Int)) →
    ∃ V E F, Tends2 (fun K k => spec_BoundaryClasses.l1 K k (rowsOf (CN (4 * ts.length) vs) 4 ts.length) (rowsOf (CN (6 * ts.length) ys) 6 ts.length) (rowsOf (CN (4 * ts.length) fs) 4 ts.length) L vb eb fb (t : Int)) (V, E, F) ∧ E.length ≤ 100 ∧
      ∀ v : Int, v ∈ E ↔ ∃ c : Nat, v = (c : Int) ∧ c < firstN ys (6 * ts.length) ∧ ∃ t', t' < L.length ∧ ∃ a f e : Nat, a < ts.length ∧ f < 4 ∧ e < 6 ∧ L.getD t' [] = [(a : Int), (f : Int)] ∧ (face ts a f).Tet < 0 ∧ EA e ≠ f ∧ EB e ≠ f ∧ (CN (6 * ts.length) ys).getD (6 * a + e) 0 = (c : Int)
  | 0, t, vb, eb, fb, hd, ht, l1, l2, l3, h => by
    obtain rfl : t = L.length := by omega
    have h8 := hv.le
    have u1 := firstN_le vs (4 * ts.length)
    have u2 := firstN_le ys (6 * ts.length)
    have u3 := firstN_le fs (4 * ts.length)
    obtain ⟨V, tV, _, _⟩ := listed_t (fl := vb) (by omega)
    obtain ⟨E, tE, g1, g2⟩ := listed_t (fl := eb) (by omega)
    obtain ⟨F, tF, _, _⟩ := listed_t (fl := fb) (by omega)
    refine ⟨V, E, F, Tends2.step (G := fun K k => (spec_l08Listed.f K vb).bind fun t412 => (spec_l08Listed.f K eb).bind fun t418 => (spec_l08Listed.f K fb).bind fun t424 => some (t412, t418, t424)) (fun K k => by rw [spec_BoundaryClasses.l1, if_neg (by omega)]) (Tends2.bind (G := fun K k t412 => (spec_l08Listed.f K eb).bind fun t418 => (spec_l08Listed.f K fb).bind fun t424 => some (t412, t418, t424)) tV.two (Tends2.bind (G := fun K k t418 => (spec_l08Listed.f K fb).bind fun t424 => some (V, t418, t424)) tE.two (Tends2.bind (G := fun K k t424 => some (V, E, t424)) tF.two (Tends2.const _)))), by omega, fun v => ?_⟩
    rw [g2]
    constructor
    · rintro ⟨c, a, b, e⟩; exact ⟨c, a, by omega, (h c).1 e⟩
    · rintro ⟨c, a, b, e⟩; exact ⟨c, a, by omega, (h c).2 e⟩
  | d + 1, t, vb, eb, fb, hd, ht, l1, l2, l3, h => by
    have h8 := hv.le
    have hlt : t < L.length := by omega
    obtain ⟨a, f, ha, hf, hLt, hbd⟩ := hB.1 t hlt
    have hin : 4 * a + f < 4 * ts.length := mul_lt ha hf
    have hr := cn_range (s := fs) (N := 4 * ts.length) (by omega) hin
    obtain ⟨vb', k1, k2⟩ := bc_l8 hv hL (ys := ys) (fs := fs) ha hf hlt hLt (fb := fb) (eb := eb) 4 0 vb (by omega) (by omega) l1
    obtain ⟨eb', k3, k4, k5⟩ := bc_l10 hv hL (vs := vs) (fs := fs) ha hf hlt hLt (fb := fb) (vb := vb') 6 0 eb (by omega) (by omega) l2
    obtain ⟨V, E, F, tt, g1, g2⟩ := bc_l1 hB d (t + 1) vb' eb' (fb.set ((CN (4 * ts.length) fs).getD (4 * a + f) 0).toNat true) (by omega) (by omega) k1 k3 (by rw [List.length_set]; exact l3) (fun c => by
      rw [k4 c, h c]
      constructor
      · rintro (⟨t', b1, b2⟩ | ⟨e', b1, b2, b3, b4, b5⟩)
        · exact ⟨t', by omega, b2⟩
        · exact ⟨t, by omega, a, f, e', ha, hf, b2, hLt, hbd, b3, b4, b5⟩
      · rintro ⟨t', b1, a', f', e', b2, b3, b4, b5, b6, b7⟩
        by_cases e2 : t' = t
        · subst e2
          rw [hLt] at b5
          injection b5 with c1 c2
          injection c2 with c2 _
          obtain rfl : a = a' := by omega
          obtain rfl : f = f' := by omega
          exact .inr ⟨e', by omega, b4, b7⟩
        · exact .inl ⟨t', by omega, a', f', e', b2, b3, b4, b5, b6, b7⟩)
    refine ⟨V, E, F, Tends2.step (fun K k => ?_) (k2 _ (k5 _ tt)), g1, g2⟩
    rw [spec_BoundaryClasses.l1, if_pos (by omega), if_pos (by omega), Int.toNat_natCast, hLt]
    show (if 0 ≤ (0 : Int) ∧ (0 : Int) < 2 then (if 0 ≤ (1 : Int) ∧ (1 : Int) < 2 then (if 0 ≤ (a : Int) ∧ (a : Int) < _ then (if 0 ≤ (f : Int) ∧ (f : Int) < (((rowsOf (CN (4 * ts.length) fs) 4 ts.length).getD (a : Int).toNat []).length : Int) then (if 0 ≤ ((rowsOf (CN (4 * ts.length) fs) 4 ts.length).getD (a : Int).toNat []).getD (f : Int).toNat 0 ∧ ((rowsOf (CN (4 * ts.length) fs) 4 ts.length).getD (a : Int).toNat []).getD (f : Int).toNat 0 < _ then _ else none) else none) else none) else none) else none) = _
    rw [if_pos (by decide), if_pos (by decide), if_pos (by rw [rowsOf_len]; omega), Int.toNat_natCast, rowsOf_get ha, if_pos (by rw [rowAt_len]; omega), Int.toNat_natCast, rowAt_get hf, if_pos (by omega)]
    rfl
end
theorem bc_t (hT : Tends (fun K => spec_IsTriangulation.f K ts) true) {vs ys fs : List Int} (hc : Tends (fun K => spec_l08Count.f K ts) (rowsOf (CN (4 * ts.length) vs) 4 ts.length, rowsOf (CN (6 * ts.length) ys) 6 ts.length, rowsOf (CN (4 * ts.length) fs) 4 ts.length, [(firstN vs (4 * ts.length) : Int), (firstN ys (6 * ts.length) : Int), (firstN fs (4 * ts.length) : Int), (ts.length : Int)])) :
    ∃ V E F, Tends (fun K => spec_BoundaryClasses.f K ts) (V, E, F) ∧ E.length ≤ 100 ∧ ∀ j, j < 6 * ts.length → ((CN (6 * ts.length) ys).getD j 0 ∈ E ↔ ∃ j', j' < 6 * ts.length ∧ (CN (6 * ts.length) ys).getD j' 0 = (CN (6 * ts.length) ys).getD j 0 ∧ ∃ f, bdE ts j' f) := by
  have h8 := hv.le
  have u1 := firstN_le vs (4 * ts.length)
  have u2 := firstN_le ys (6 * ts.length)
  have u3 := firstN_le fs (4 * ts.length)
  obtain ⟨L, tL, hL, hB⟩ := bl_t hv
  have hrep : ∀ (m j : Nat), (List.replicate m false).getD j false = false := fun m j => by rw [List.getD_eq_getElem?_getD, List.getElem?_replicate]; split <;> rfl
  obtain ⟨V, E, F, t, g1, g2⟩ := bc_l1 hv hL (vs := vs) (ys := ys) (fs := fs) hB L.length 0 (List.replicate (firstN vs (4 * ts.length)) false) (List.replicate (firstN ys (6 * ts.length)) false) (List.replicate (firstN fs (4 * ts.length)) false) (by omega) (by omega) (by simp) (by simp) (by simp) (fun c => by rw [hrep]; exact ⟨fun h => (by cases h), fun ⟨t', h, _⟩ => by omega⟩)
  refine ⟨V, E, F, Tends.bind hT (Tends.pos rfl (Tends.bind4 hc (Tends.pos (by simp) (Tends.pos ?_ (Tends.pos ?_ (Tends.pos (by simp) (Tends.pos ?_ (Tends.pos ?_ (Tends.pos (by simp) (Tends.pos ?_ (Tends.pos ?_ (Tends.bind tL ?_)))))))))))), g1, fun j hj => ?_⟩
  · show 0 ≤ (firstN vs (4 * ts.length) : Int); omega
  · show (firstN vs (4 * ts.length) : Int).toNat * 1 ≤ _; omega
  · show 0 ≤ (firstN ys (6 * ts.length) : Int); omega
  · show (firstN ys (6 * ts.length) : Int).toNat * 1 ≤ _; omega
  · show 0 ≤ (firstN fs (4 * ts.length) : Int); omega
  · show (firstN fs (4 * ts.length) : Int).toNat * 1 ≤ _; omega
  · exact t.diag
  · rw [g2]
    have hr := cn_range (s := ys) (N := 6 * ts.length) (by omega) hj
    constructor
    · rintro ⟨c, e1, e2, t', b1, a, f, e, b2, b3, b4, b5, b6, b7, b8, b9⟩
      refine ⟨6 * a + e, mul_lt b2 b4, by rw [b9, e1], f, b3, ?_⟩
      rw [(de6 b4).1, (de6 b4).2]
      exact ⟨b7, b8, b6⟩
    · rintro ⟨j', a1, a2, f, b1, b2, b3, b4⟩
      obtain ⟨t', c1, c2⟩ := hB.2 (j' / 6) f ⟨by omega, b1⟩ b4
      refine ⟨((CN (6 * ts.length) ys).getD j 0).toNat, by omega, by omega, t', c1, j' / 6, f, j' % 6, by omega, b1, by omega, c2, b4, b2, b3, ?_⟩
      rw [show 6 * (j' / 6) + j' % 6 = j' by omega, a2]; omega
end
end Go.Proofs.YtbjfinndngafoaaGreat
