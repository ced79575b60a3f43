/-
  The reference's boundary classes, whole.
  Triangulations: the corner behind a corner around its edge.
  Triangulations: where the ring around an edge's class begins.
  Triangulations: the ring around an edge's class that touches no boundary.
  Triangulations: what the moves 2-3 and 1-4 plan.
  Triangulations: what the move 3-2 plans.
  Triangulations: the move 3-2, whole.
  Triangulations: the move 3-2 in both.
  Triangulations: the tetrahedra around a vertex that is to go.
-/
import Derived.Test.YtbjfinndngafoaaGreatPlT15
set_option linter.unusedVariables false
set_option linter.unusedSimpArgs false
set_option linter.unusedSectionVars false
namespace Go.Proofs.YtbjfinndngafoaaGreat
open Go.RowKit
section
variable {ts : List (List GFace)} (hv : Val ts)
include hv
section
variable {vs ys fs : List Int} {L : List (List Int)} (hL : L.length ≤ 4 * ts.length)
include hL
theorem bc_l8 {a f t : Nat} (ha : a < ts.length) (hf : f < 4) (ht : t < L.length) (hLt : L.getD t [] = [(a : Int), (f : Int)]) {fb eb : List Bool} : ∀ (d v : Nat) (vb : List Bool), 4 - v = d → v ≤ 4 → vb.length = firstN vs (4 * ts.length) →
    ∃ vb', vb'.length = firstN vs (4 * ts.length) ∧ ∀ R, Tends2 (fun K k => spec_BoundaryClasses.l10 K k (rowsOf (CN (4 * ts.length) vs) 4 ts.length) (rowsOf (CN (6 * ts.length) ys) 6 ts.length) (rowsOf (CN (4 * ts.length) fs) 4 ts.length) L fb (t : Int) vb' eb 0) R →
        Tends2 (fun K k => spec_BoundaryClasses.l8 K k (rowsOf (CN (4 * ts.length) vs) 4 ts.length) (rowsOf (CN (6 * ts.length) ys) 6 ts.length) (rowsOf (CN (4 * ts.length) fs) 4 ts.length) L eb fb (t : Int) vb (v : Int)) R
  | 0, v, vb, hd, he, hl => by
    obtain rfl : v = 4 := by omega
    refine ⟨vb, hl, fun R hR => Tends2.step (fun K k => ?_) hR⟩
    rw [spec_BoundaryClasses.l8, if_neg (by decide)]
  | d + 1, v, vb, hd, he, hl => by
    have h8 := hv.le
    have hv4 : v < 4 := by omega
    have hin : 4 * a + v < 4 * ts.length := mul_lt ha hv4
    have hr := cn_range (s := vs) (N := 4 * ts.length) (by omega) hin
    obtain ⟨c0, hc0⟩ : ∃ c : Nat, (CN (4 * ts.length) vs).getD (4 * a + v) 0 = (c : Int) := ⟨((CN (4 * ts.length) vs).getD (4 * a + v) 0).toNat, by omega⟩
    by_cases hc : v = f
    · obtain ⟨vb', g1, g3⟩ := bc_l8 ha hf ht hLt (fb := fb) (eb := eb) d (v + 1) vb (by omega) (by omega) hl
      refine ⟨vb', g1, fun R hR => Tends2.step (fun K k => ?_) (g3 R hR)⟩
      rw [spec_BoundaryClasses.l8, if_pos (by omega), Int.toNat_natCast, hLt, w64_succ (by omega)]
      show (if (v : Int) = (f : Int) then _ else _) = _
      rw [if_pos (by omega)]
    · obtain ⟨vb', g1, g3⟩ := bc_l8 ha hf ht hLt (fb := fb) (eb := eb) d (v + 1) (vb.set c0 true) (by omega) (by omega) (by rw [List.length_set]; exact hl)
      refine ⟨vb', g1, fun R hR => Tends2.step (fun K k => ?_) (g3 R hR)⟩
      rw [spec_BoundaryClasses.l8, if_pos (by omega), Int.toNat_natCast, hLt, w64_succ (by omega)]
      show (if (v : Int) = (f : Int) then _ else (if 0 ≤ (a : Int) ∧ (a : Int) < _ then (if 0 ≤ (v : Int) ∧ (v : Int) < (((rowsOf (CN (4 * ts.length) vs) 4 ts.length).getD (a : Int).toNat []).length : Int) then (if 0 ≤ ((rowsOf (CN (4 * ts.length) vs) 4 ts.length).getD (a : Int).toNat []).getD (v : Int).toNat 0 ∧ ((rowsOf (CN (4 * ts.length) vs) 4 ts.length).getD (a : Int).toNat []).getD (v : Int).toNat 0 < _ then spec_BoundaryClasses.l8 K k _ _ _ L eb fb (t : Int) (vb.set (((rowsOf (CN (4 * ts.length) vs) 4 ts.length).getD (a : Int).toNat []).getD (v : Int).toNat 0).toNat true) _ else none) else none) else none)) = _
      rw [if_neg (by omega), if_pos (by rw [rowsOf_len]; omega), Int.toNat_natCast, rowsOf_get ha, if_pos (by rw [rowAt_len]; omega), Int.toNat_natCast, rowAt_get hv4, hc0, if_pos (by omega), Int.toNat_natCast]
theorem bc_l1 (hB : BdL ts L (fun a' f' => a' < ts.length ∧ f' < 4)) : ∀ (d t : Nat) (vb eb fb : List Bool), L.length - t = d → t ≤ L.length → vb.length = firstN vs (4 * ts.length) → eb.length = firstN ys (6 * ts.length) → fb.length = firstN fs (4 * ts.length) →
      (∀ c : Nat, eb.getD c false = true ↔ ∃ t', t' < t ∧ ∃ a f e : Nat, a < ts.length ∧ f < 4 ∧ e < 6 ∧ L.getD t' [] = [(a : Int), (f : Int)] ∧ (face ts a f).Tet < 0 ∧ EA e ≠ f ∧ EB e ≠ f ∧ (CN (6 * ts.length) ys).getD (6 * a + e) 0 = (c : Int)) →
    ∃ V E F, Tends2 (fun K k => spec_BoundaryClasses.l1 K k (rowsOf (CN (4 * ts.length) vs) 4 ts.length) (rowsOf (CN (6 * ts.length) ys) 6 ts.length) (rowsOf (CN (4 * ts.length) fs) 4 ts.length) L vb eb fb (t : Int)) (V, E, F) ∧ E.length ≤ 100 ∧
      ∀ v : Int, v ∈ E ↔ ∃ c : Nat, v = (c : Int) ∧ c < firstN ys (6 * ts.length) ∧ ∃ t', t' < L.length ∧ ∃ a f e : Nat, a < ts.length ∧ f < 4 ∧ e < 6 ∧ L.getD t' [] = [(a : Int), (f : Int)] ∧ (face ts a f).Tet < 0 ∧ EA e ≠ f ∧ EB e ≠ f ∧ (CN (6 * ts.length) ys).getD (6 * a + e) 0 = (c : Int)
  | 0, t, vb, eb, fb, hd, ht, l1, l2, l3, h => by
    obtain rfl : t = L.length := by omega
    have h8 := hv.le
    have u1 := firstN_le vs (4 * ts.length)
    have u2 := firstN_le ys (6 * ts.length)
    have u3 := firstN_le fs (4 * ts.length)
    obtain ⟨V, tV, _, _⟩ := listed_t (fl := vb) (by omega)
    obtain ⟨E, tE, g1, g2⟩ := listed_t (fl := eb) (by omega)
    obtain ⟨F, tF, _, _⟩ := listed_t (fl := fb) (by omega)
    refine ⟨V, E, F, Tends2.step (G := fun K k => (spec_l08Listed.f K vb).bind fun t412 => (spec_l08Listed.f K eb).bind fun t418 => (spec_l08Listed.f K fb).bind fun t424 => some (t412, t418, t424)) (fun K k => by rw [spec_BoundaryClasses.l1, if_neg (by omega)]) (Tends2.bind (G := fun K k t412 => (spec_l08Listed.f K eb).bind fun t418 => (spec_l08Listed.f K fb).bind fun t424 => some (t412, t418, t424)) tV.two (Tends2.bind (G := fun K k t418 => (spec_l08Listed.f K fb).bind fun t424 => some (V, t418, t424)) tE.two (Tends2.bind (G := fun K k t424 => some (V, E, t424)) tF.two (Tends2.const _)))), by omega, fun v => ?_⟩
    rw [g2]
    constructor
    · rintro ⟨c, a, b, e⟩; exact ⟨c, a, by omega, (h c).1 e⟩
    · rintro ⟨c, a, b, e⟩; exact ⟨c, a, by omega, (h c).2 e⟩
  | d + 1, t, vb, eb, fb, hd, ht, l1, l2, l3, h => by
    have h8 := hv.le
    have hlt : t < L.length := by omega
    obtain ⟨a, f, ha, hf, hLt, hbd⟩ := hB.1 t hlt
    have hin : 4 * a + f < 4 * ts.length := mul_lt ha hf
    have hr := cn_range (s := fs) (N := 4 * ts.length) (by omega) hin
    obtain ⟨vb', k1, k2⟩ := bc_l8 hv hL (ys := ys) (fs := fs) ha hf hlt hLt (fb := fb) (eb := eb) 4 0 vb (by omega) (by omega) l1
    obtain ⟨eb', k3, k4, k5⟩ := bc_l10 hv hL (vs := vs) (fs := fs) ha hf hlt hLt (fb := fb) (vb := vb') 6 0 eb (by omega) (by omega) l2
    obtain ⟨V, E, F, tt, g1, g2⟩ := bc_l1 hB d (t + 1) vb' eb' (fb.set ((CN (4 * ts.length) fs).getD (4 * a + f) 0).toNat true) (by omega) (by omega) k1 k3 (by rw [List.length_set]; exact l3) (fun c => by
      rw [k4 c, h c]
      constructor
      · rintro (⟨t', b1, b2⟩ | ⟨e', b1, b2, b3, b4, b5⟩)
        · exact ⟨t', by omega, b2⟩
        · exact ⟨t, by omega, a, f, e', ha, hf, b2, hLt, hbd, b3, b4, b5⟩
      · rintro ⟨t', b1, a', f', e', b2, b3, b4, b5, b6, b7⟩
        by_cases e2 : t' = t
        · subst e2
          rw [hLt] at b5
          injection b5 with c1 c2
          injection c2 with c2 _
          obtain rfl : a = a' := by omega
          obtain rfl : f = f' := by omega
          exact .inr ⟨e', by omega, b4, b7⟩
        · exact .inl ⟨t', by omega, a', f', e', b2, b3, b4, b5, b6, b7⟩)
    refine ⟨V, E, F, Tends2.step (fun K k => ?_) (k2 _ (k5 _ tt)), g1, g2⟩
    rw [spec_BoundaryClasses.l1, if_pos (by omega), if_pos (by omega), Int.toNat_natCast, hLt]
    show (if 0 ≤ (0 : Int) ∧ (0 : Int) < 2 then (if 0 ≤ (1 : Int) ∧ (1 : Int) < 2 then (if 0 ≤ (a : Int) ∧ (a : Int) < _ then (if 0 ≤ (f : Int) ∧ (f : Int) < (((rowsOf (CN (4 * ts.length) fs) 4 ts.length).getD (a : Int).toNat []).length : Int) then (if 0 ≤ ((rowsOf (CN (4 * ts.length) fs) 4 ts.length).getD (a : Int).toNat []).getD (f : Int).toNat 0 ∧ ((rowsOf (CN (4 * ts.length) fs) 4 ts.length).getD (a : Int).toNat []).getD (f : Int).toNat 0 < _ then _ else none) else none) else none) else none) else none) = _
    rw [if_pos (by decide), if_pos (by decide), if_pos (by rw [rowsOf_len]; omega), Int.toNat_natCast, rowsOf_get ha, if_pos (by rw [rowAt_len]; omega), Int.toNat_natCast, rowAt_get hf, if_pos (by omega)]
    rfl
end
theorem bc_t (hT : Tends (fun K => spec_IsTriangulation.f K ts) true) {vs ys fs : List Int} (hc : Tends (fun K => spec_l08Count.f K ts) (rowsOf (CN (4 * ts.length) vs) 4 ts.length, rowsOf (CN (6 * ts.length) ys) 6 ts.length, rowsOf (CN (4 * ts.length) fs) 4 ts.length, [(firstN vs (4 * ts.length) : Int), (firstN ys (6 * ts.length) : Int), (firstN fs (4 * ts.length) : Int), (ts.length : Int)])) :
    ∃ V E F, Tends (fun K => spec_BoundaryClasses.f K ts) (V, E, F) ∧ E.length ≤ 100 ∧ ∀ j, j < 6 * ts.length → ((CN (6 * ts.length) ys).getD j 0 ∈ E ↔ ∃ j', j' < 6 * ts.length ∧ (CN (6 * ts.length) ys).getD j' 0 = (CN (6 * ts.length) ys).getD j 0 ∧ ∃ f, bdE ts j' f) := by
  have h8 := hv.le
  have u1 := firstN_le vs (4 * ts.length)
  have u2 := firstN_le ys (6 * ts.length)
  have u3 := firstN_le fs (4 * ts.length)
  obtain ⟨L, tL, hL, hB⟩ := bl_t hv
  have hrep : ∀ (m j : Nat), (List.replicate m false).getD j false = false := fun m j => by rw [List.getD_eq_getElem?_getD, List.getElem?_replicate]; split <;> rfl
  obtain ⟨V, E, F, t, g1, g2⟩ := bc_l1 hv hL (vs := vs) (ys := ys) (fs := fs) hB L.length 0 (List.replicate (firstN vs (4 * ts.length)) false) (List.replicate (firstN ys (6 * ts.length)) false) (List.replicate (firstN fs (4 * ts.length)) false) (by omega) (by omega) (by simp) (by simp) (by simp) (fun c => by rw [hrep]; exact ⟨fun h => (by cases h), fun ⟨t', h, _⟩ => by omega⟩)
  refine ⟨V, E, F, Tends.bind hT (Tends.pos rfl (Tends.bind4 hc (Tends.pos (by simp) (Tends.pos ?_ (Tends.pos ?_ (Tends.pos (by simp) (Tends.pos ?_ (Tends.pos ?_ (Tends.pos (by simp) (Tends.pos ?_ (Tends.pos ?_ (Tends.bind tL ?_)))))))))))), g1, fun j hj => ?_⟩
  · show 0 ≤ (firstN vs (4 * ts.length) : Int); omega
  · show (firstN vs (4 * ts.length) : Int).toNat * 1 ≤ _; omega
  · show 0 ≤ (firstN ys (6 * ts.length) : Int); omega
  · show (firstN ys (6 * ts.length) : Int).toNat * 1 ≤ _; omega
  · show 0 ≤ (firstN fs (4 * ts.length) : Int); omega
  · show (firstN fs (4 * ts.length) : Int).toNat * 1 ≤ _; omega
  · exact t.diag
  · rw [g2]
    have hr := cn_range (s := ys) (N := 6 * ts.length) (by omega) hj
    constructor
    · rintro ⟨c, e1, e2, t', b1, a, f, e, b2, b3, b4, b5, b6, b7, b8, b9⟩
      refine ⟨6 * a + e, mul_lt b2 b4, by rw [b9, e1], f, b3, ?_⟩
      rw [(de6 b4).1, (de6 b4).2]
      exact ⟨b7, b8, b6⟩
    · rintro ⟨j', a1, a2, f, b1, b2, b3, b4⟩
      obtain ⟨t', c1, c2⟩ := hB.2 (j' / 6) f ⟨by omega, b1⟩ b4
      refine ⟨((CN (6 * ts.length) ys).getD j 0).toNat, by omega, by omega, t', c1, j' / 6, f, j' % 6, by omega, b1, by omega, c2, b4, b2, b3, ?_⟩
      rw [show 6 * (j' / 6) + j' % 6 = j' by omega, a2]; omega
end
end Go.Proofs.YtbjfinndngafoaaGreat
set_option linter.unusedVariables false
set_option linter.unusedSimpArgs false
set_option linter.unusedSectionVars false
namespace Go.Proofs.YtbjfinndngafoaaGreat
open Go.RowKit
theorem indexOf_px {a b c d : Nat} (ha : a < 4) (hb : b < 4) (hc : c < 4) (hd : d < 4) (h : a ≠ b ∧ a ≠ c ∧ a ≠ d ∧ b ≠ c ∧ b ≠ d ∧ c ≠ d) : Tends (fun K => impl_indexOf.f K (a : Int) (b : Int) (c : Int) (d : Int)) (PX a b c d : Int) := by
  obtain ⟨h1, h2, h3, h4, h5⟩ := PX_of ha hb hc hd h
  have := indexOf_t h1
  rw [h2, h3, h4, h5] at this
  exact this
theorem index_px {a b c d : Nat} (ha : a < 4) (hb : b < 4) (hc : c < 4) (hd : d < 4) (h : a ≠ b ∧ a ≠ c ∧ a ≠ d ∧ b ≠ c ∧ b ≠ d ∧ c ≠ d) : Tends (fun K => spec_l06Index.f K [(a : Int), (b : Int), (c : Int), (d : Int)]) (PX a b c d : Int) := by
  obtain ⟨h1, h2, h3, h4, h5⟩ := PX_of ha hb hc hd h
  have := index_t h1
  rw [h2, h3, h4, h5] at this
  exact this
def NP (q p : Nat) : Nat := PX (PA q (PA p 0)) (PA q (PA p 1)) (PA q (PA p 3)) (PA q (PA p 2))
theorem PA_ne {p j k : Nat} (hp : p < 24) (hj : j < 4) (hk : k < 4) (h : j ≠ k) : PA p j ≠ PA p k := fun e => h (PA_inj hp hj hk e)
theorem NP_ne {p q j k : Nat} (hp : p < 24) (hq : q < 24) (hj : j < 4) (hk : k < 4) (h : j ≠ k) : PA q (PA p j) ≠ PA q (PA p k) := PA_ne hq (PA_lt hp hj) (PA_lt hp hk) (PA_ne hp hj hk h)
theorem NP_of {p q : Nat} (hp : p < 24) (hq : q < 24) : NP q p < 24 ∧ PA (NP q p) 0 = PA q (PA p 0) ∧ PA (NP q p) 1 = PA q (PA p 1) ∧ PA (NP q p) 2 = PA q (PA p 3) ∧ PA (NP q p) 3 = PA q (PA p 2) :=
  PX_of (PA_lt hq (PA_lt hp (by omega))) (PA_lt hq (PA_lt hp (by omega))) (PA_lt hq (PA_lt hp (by omega))) (PA_lt hq (PA_lt hp (by omega)))
    ⟨NP_ne hp hq (by omega) (by omega) (by omega), NP_ne hp hq (by omega) (by omega) (by omega), NP_ne hp hq (by omega) (by omega) (by omega), NP_ne hp hq (by omega) (by omega) (by omega), NP_ne hp hq (by omega) (by omega) (by omega), NP_ne hp hq (by omega) (by omega) (by omega)⟩
def nx (ts : List (List GFace)) (c : Nat × Nat) : Option (Nat × Nat) :=
  if (face ts c.1 (PA c.2 2)).Tet < 0 then none else some ((face ts c.1 (PA c.2 2)).Tet.toNat, NP (face ts c.1 (PA c.2 2)).Perm.toNat c.2)
def aft : Option (Nat × Nat) → Int × Int × Bool
  | none => (0, 0, false)
  | some c => ((c.1 : Int), (c.2 : Int), true)
section
variable {ts : List (List GFace)} (hv : Val ts)
include hv
theorem nx_cases {a p : Nat} (ha : a < ts.length) (hp : p < 24) : ((face ts a (PA p 2)).Tet < 0 ∧ nx ts (a, p) = none) ∨ (¬ (face ts a (PA p 2)).Tet < 0 ∧ ∃ b q : Nat, b < ts.length ∧ q < 24 ∧ face ts a (PA p 2) = ⟨b, q⟩ ∧ Glued ts a (PA p 2) b q ∧ nx ts (a, p) = some (b, NP q p)) := by
  unfold nx
  rcases face_cases hv ha (PA_lt hp (show 2 < 4 by omega)) with ⟨g1, g2⟩ | ⟨g1, b, q, hb, hq, g2, g3⟩
  · exact .inl ⟨g1, by rw [if_pos g1]⟩
  · refine .inr ⟨g1, b, q, hb, hq, g2, g3, ?_⟩
    rw [if_neg g1, g2]; rfl
theorem after_i {a p : Nat} (ha : a < ts.length) (hp : p < 24) : Tends (fun K => impl_Triangulation_after.f K ts (a : Int) (p : Int)) (aft (nx ts (a, p))) := by
  have h2 : PA p 2 < 4 := PA_lt hp (by omega)
  have h0 : PA p 0 < 4 := PA_lt hp (by omega)
  have h1 : PA p 1 < 4 := PA_lt hp (by omega)
  have h3 : PA p 3 < 4 := PA_lt hp (by omega)
  have hr := hv.four a ha
  refine Tends.bind4 (perm_t hp) ?_
  refine Tends.pos (by omega) ?_
  rw [Int.toNat_natCast]
  refine Tends.pos (by omega) ?_
  rw [Int.toNat_natCast]
  show Tends (fun K => if decide ((face ts a (PA p 2)).Tet < 0) = true then _ else _) _
  rcases nx_cases hv ha hp with ⟨g1, g2⟩ | ⟨g1, b, q, hb, hq, g2, g3, g4⟩
  · rw [g2]; exact Tends.pos (decide_eq_true g1) (Tends.const _)
  · rw [g4]
    refine Tends.neg (by rw [decide_eq_true_eq]; exact g1) ?_
    show Tends (fun K => Go.Proofs.YtbjfinndngafoaaGreat.bind4 (impl_perm.f K (face ts a (PA p 2)).Perm) _) _
    rw [g2]
    refine Tends.bind4 (perm_t hq) (Tends.pos (by omega) (Tends.pos (by omega) (Tends.pos (by omega) (Tends.pos (by omega) ?_))))
    have e2 := get4 (p := q) h2
    rw [Int.toNat_natCast] at e2
    rw [get4 h0, get4 h1, e2, get4 h3]
    refine Tends.bind (indexOf_px (PA_lt hq h0) (PA_lt hq h1) (PA_lt hq h3) (PA_lt hq h2) ⟨NP_ne hp hq (by omega) (by omega) (by omega), NP_ne hp hq (by omega) (by omega) (by omega), NP_ne hp hq (by omega) (by omega) (by omega), NP_ne hp hq (by omega) (by omega) (by omega), NP_ne hp hq (by omega) (by omega) (by omega), NP_ne hp hq (by omega) (by omega) (by omega)⟩) ?_
    show Tends (fun K => some ((face ts a (PA p 2)).Tet, _, true)) _
    rw [g2]
    exact Tends.const _
omit hv in
theorem after_step {p q : Nat} (hp : p < 24) (hq : q < 24) {t : Int} {im : List Int} {k s : Nat} {R : Int × Int × Bool} (hk : k < 4) (hs : s < 4) (hks : ([0, 1, 3, 2] : List Int).getD k 0 = (s : Int)) (hl : im.length ≤ 10)
    (h : Tends2 (fun K k' => spec_l08After.l1 K k' (p : Int) ⟨t, (q : Int)⟩ (im ++ [(PA q (PA p s) : Int)]) ((k + 1 : Nat) : Int)) R) : Tends2 (fun K k' => spec_l08After.l1 K k' (p : Int) ⟨t, (q : Int)⟩ im (k : Int)) R := by
  refine Tends2.step (G := fun K k' => (spec_l06At.f K (p : Int) (s : Int)).bind fun t69 => ((spec_l06At.f K (q : Int) t69).bind fun t73 => (if (im.length + 1) * 8 ≤ 140737488355328 then (spec_l08After.l1 K k' (p : Int) ⟨t, (q : Int)⟩ (im ++ [t73]) ((k + 1 : Nat) : Int)) else none))) (fun K k' => ?_) ?_
  · rw [spec_l08After.l1, if_pos (by omega), if_pos (by show 0 ≤ (k : Int) ∧ (k : Int) < 4; omega), Int.toNat_natCast, hks, w64_succ (by omega)]
  · exact Tends2.bind (G := fun K k' t69 => (spec_l06At.f K (q : Int) t69).bind fun t73 => (if (im.length + 1) * 8 ≤ 140737488355328 then (spec_l08After.l1 K k' (p : Int) ⟨t, (q : Int)⟩ (im ++ [t73]) ((k + 1 : Nat) : Int)) else none)) (at_t hp hs).two (Tends2.bind (G := fun K k' t73 => if (im.length + 1) * 8 ≤ 140737488355328 then (spec_l08After.l1 K k' (p : Int) ⟨t, (q : Int)⟩ (im ++ [t73]) ((k + 1 : Nat) : Int)) else none) (at_t hq (PA_lt hp hs)).two (Tends2.pos (by omega) h))
theorem after_s {a p : Nat} (ha : a < ts.length) (hp : p < 24) : Tends (fun K => spec_l08After.f K ts (a : Int) (p : Int)) (aft (nx ts (a, p))) := by
  have h2 : PA p 2 < 4 := PA_lt hp (by omega)
  have h0 : PA p 0 < 4 := PA_lt hp (by omega)
  have h1 : PA p 1 < 4 := PA_lt hp (by omega)
  have h3 : PA p 3 < 4 := PA_lt hp (by omega)
  have hr := hv.four a ha
  refine Tends.pos (by omega) (Tends.bind (at_t hp (show 2 < 4 by omega)) ?_)
  simp only [Int.toNat_natCast]
  refine Tends.pos (by omega) ?_
  show Tends (fun K => if (face ts a (PA p 2)).Tet < 0 then _ else spec_l08After.l1 K K (p : Int) (face ts a (PA p 2)) _ _) _
  rcases nx_cases hv ha hp with ⟨g1, g2⟩ | ⟨g1, b, q, hb, hq, g2, g3, g4⟩
  · rw [g2]; exact Tends.pos g1 (Tends.const _)
  · rw [g4]
    refine Tends.neg g1 ?_
    rw [g2]
    refine Tends2.diag (F := fun K k => spec_l08After.l1 K k (p : Int) ⟨(b : Int), (q : Int)⟩ [] ((0 : Nat) : Int)) ?_
    refine after_step hp hq (s := 0) (by omega) (by omega) rfl (by simp) ?_
    refine after_step hp hq (s := 1) (by omega) (by omega) rfl (by simp) ?_
    refine after_step hp hq (s := 3) (by omega) (by omega) rfl (by simp) ?_
    refine after_step hp hq (s := 2) (by omega) (by omega) rfl (by simp) ?_
    refine Tends2.step (G := fun K k' => (spec_l06Index.f K [(PA q (PA p 0) : Int), (PA q (PA p 1) : Int), (PA q (PA p 3) : Int), (PA q (PA p 2) : Int)]).bind fun t83 => some ((b : Int), t83, true)) (fun K k' => by rw [spec_l08After.l1, if_neg (by decide)]; rfl) ?_
    exact Tends2.bind (G := fun K k' t83 => some ((b : Int), t83, true)) (index_px (PA_lt hq h0) (PA_lt hq h1) (PA_lt hq h3) (PA_lt hq h2) ⟨NP_ne hp hq (by omega) (by omega) (by omega), NP_ne hp hq (by omega) (by omega) (by omega), NP_ne hp hq (by omega) (by omega) (by omega), NP_ne hp hq (by omega) (by omega) (by omega), NP_ne hp hq (by omega) (by omega) (by omega), NP_ne hp hq (by omega) (by omega) (by omega)⟩).two (Tends2.const _)
theorem nx_inj {a p a' p' : Nat} {c : Nat × Nat} (ha : a < ts.length) (hp : p < 24) (ha' : a' < ts.length) (hp' : p' < 24) (h : nx ts (a, p) = some c) (h' : nx ts (a', p') = some c) : a = a' ∧ p = p' := by
  rcases nx_cases hv ha hp with ⟨g1, g2⟩ | ⟨g1, b, q, hb, hq, g2, g3, g4⟩
  · rw [g2] at h; cases h
  rcases nx_cases hv ha' hp' with ⟨k1, k2⟩ | ⟨k1, b', q', hb', hq', k2, k3, k4⟩
  · rw [k2] at h'; cases h'
  rw [g4] at h
  rw [k4] at h'
  injection h with h
  injection h' with h'
  rw [← h'] at h
  injection h with e1 e2
  subst e1
  obtain ⟨n0, n1, n2, n3, n4⟩ := NP_of hp hq
  obtain ⟨m0, m1, m2, m3, m4⟩ := NP_of hp' hq'
  rw [← e2] at m1 m2 m3 m4
  have f1 := g3.2.2.2.1
  have f2 := k3.2.2.2.1
  have e3 : PA q (PA p 2) = PA q' (PA p' 2) := by omega
  rw [e3, f2] at f1
  injection f1 with f1 f3
  have e4 : a = a' := by omega
  have e5 : PI q = PI q' := by omega
  have e6 : q = q' := by rw [← PI_PI hq, e5, PI_PI hq']
  subst e6
  refine ⟨e4, PA_ext hp hp' fun k hk => ?_⟩
  have up : ∀ j, j < 4 → PA q (PA p j) = PA q (PA p' j) → PA p j = PA p' j := fun j hj e => PA_inj hq (PA_lt hp hj) (PA_lt hp' hj) e
  rcases (by omega : k = 0 ∨ k = 1 ∨ k = 2 ∨ k = 3) with rfl | rfl | rfl | rfl
  · exact up 0 (by omega) (by omega)
  · exact up 1 (by omega) (by omega)
  · exact up 2 (by omega) (by omega)
  · exact up 3 (by omega) (by omega)
end
end Go.Proofs.YtbjfinndngafoaaGreat
set_option linter.unusedVariables false
set_option linter.unusedSimpArgs false
set_option linter.unusedSectionVars false
namespace Go.Proofs.YtbjfinndngafoaaGreat
open Go.RowKit
def ST (e : Nat) : Nat := [0, 2, 4, 8, 10, 16].getD e 0
theorem ST_of {e : Nat} (he : e < 6) : ST e < 24 ∧ PA (ST e) 0 = EA e ∧ PA (ST e) 1 = EB e ∧ EE (PA (ST e) 0) (PA (ST e) 1) = e := by
  have : ∀ e, e < 6 → ST e < 24 ∧ PA (ST e) 0 = EA e ∧ PA (ST e) 1 = EB e ∧ EE (PA (ST e) 0) (PA (ST e) 1) = e := by decide +kernel
  exact this e he
theorem start_tab : (fun (K : Nat) (r : Int) => (List.range 6).map fun e : Nat => Go.Proofs.YtbjfinndngafoaaGreat.bind2 (impl_ends.f (K + 150) (e : Int)) (fun t412 t413 => ((impl_others.f (K + 150) ([t412, t413] : List Int)).bind fun t419 => (if 0 ≤ (0 : Int) ∧ (0 : Int) < (t419.length : Int) then (if 0 ≤ (1 : Int) ∧ (1 : Int) < (t419.length : Int) then ((impl_indexOf.f (K + 150) t412 t413 (t419.getD 0 0) (t419.getD 1 0)).bind fun t429 => (some (r, t429))) else none) else none)))) = fun K r => (List.range 6).map fun e : Nat => some (r, (ST e : Int)) := by kernel_rfl
theorem start_i {e : Nat} (he : e < 6) (r : Int) : Tends (fun K => Go.Proofs.YtbjfinndngafoaaGreat.bind2 (impl_ends.f K (e : Int)) (fun t412 t413 => ((impl_others.f K ([t412, t413] : List Int)).bind fun t419 => (if 0 ≤ (0 : Int) ∧ (0 : Int) < (t419.length : Int) then (if 0 ≤ (1 : Int) ∧ (1 : Int) < (t419.length : Int) then ((impl_indexOf.f K t412 t413 (t419.getD 0 0) (t419.getD 1 0)).bind fun t429 => (some (r, t429))) else none) else none)))) (r, (ST e : Int)) :=
  tab (F := fun K e => Go.Proofs.YtbjfinndngafoaaGreat.bind2 (impl_ends.f K (e : Int)) (fun t412 t413 => ((impl_others.f K ([t412, t413] : List Int)).bind fun t419 => (if 0 ≤ (0 : Int) ∧ (0 : Int) < (t419.length : Int) then (if 0 ≤ (1 : Int) ∧ (1 : Int) < (t419.length : Int) then ((impl_indexOf.f K t412 t413 (t419.getD 0 0) (t419.getD 1 0)).bind fun t429 => (some (r, t429))) else none) else none)))) (g := fun e => (r, (ST e : Int))) (m := 150) (n := 6) (funext fun K => congrFun (congrFun start_tab K) r) he
theorem ext_t {e : Nat} (he : e < 6) : Tends (fun K => spec_ExtendPerm4.f K [0, 1] [(EA e : Int), (EB e : Int)]) ((ST e : Int), true) :=
  tab (F := fun K e => spec_ExtendPerm4.f K [0, 1] [(EA e : Int), (EB e : Int)]) (g := fun e => ((ST e : Int), true)) (m := 120) (n := 6) (by kernel_rfl) he
theorem index_l1 {l : List Int} (hl : l.length ≤ 1000) {v : Int} {j0 : Nat} (hj : j0 < l.length) (h0 : l.getD j0 0 = v) (h1 : ∀ j, j < j0 → l.getD j 0 ≠ v) : ∀ (d j : Nat), j0 - j = d → j ≤ j0 → Tends2 (fun K k => slices_Index_int64_int64.l1 K k l v (j : Int)) (j0 : Int)
  | 0, j, hd, hle => by
    obtain rfl : j = j0 := by omega
    refine Tends2.of fun K k => ?_
    rw [slices_Index_int64_int64.l1, if_pos (by omega), if_pos (by omega), Int.toNat_natCast, if_pos h0.symm]
  | d + 1, j, hd, hle => by
    refine Tends2.step (fun K k => ?_) (index_l1 hl hj h0 h1 d (j + 1) (by omega) (by omega))
    rw [slices_Index_int64_int64.l1, if_pos (by omega), if_pos (by omega), Int.toNat_natCast, if_neg (fun e => h1 j (by omega) e.symm), w64_succ (by omega)]
theorem EE_ne {a b : Nat} (ha : a < 4) (hb : b < 4) (h : a ≠ b) {f : Nat} (hfa : f ≠ a) (hfb : f ≠ b) : EA (EE a b) ≠ f ∧ EB (EE a b) ≠ f := by
  obtain ⟨_, h1, h2⟩ := EE_of ha hb h
  rw [h1, h2]; omega
structure Inner (ts : List (List GFace)) (C : List Int) (cl : Int) : Prop where
  no : ∀ j, j < 6 * ts.length → C.getD j 0 = cl → ∀ f, ¬ bdE ts j f
section
variable {ts : List (List GFace)} (hv : Val ts) {C : List Int} {cl : Int} (hI : Inner ts C cl)
include hv hI
theorem start_l4 {a : Nat} (ha : a < ts.length) {R : Int × Int} (hR : Tends2 (fun K k => spec_l08Start.l1 K k ts cl (rowsOf C 6 ts.length) ((a + 1 : Nat) : Int)) R) : ∀ (d p : Nat), 24 - p = d → p ≤ 24 → Tends2 (fun K k => spec_l08Start.l4 K k ts cl (rowsOf C 6 ts.length) (a : Int) (p : Int)) R
  | 0, p, hd, hp => by
    have h8 := hv.le
    refine Tends2.step (fun K k => ?_) hR
    rw [spec_l08Start.l4, if_neg (by omega), w64_succ (by omega)]
  | d + 1, p, hd, hp => by
    have h8 := hv.le
    have hp : p < 24 := by omega
    have h0 : PA p 0 < 4 := PA_lt hp (by omega)
    have h1 : PA p 1 < 4 := PA_lt hp (by omega)
    have h3 : PA p 3 < 4 := PA_lt hp (by omega)
    have hne : PA p 0 ≠ PA p 1 := PA_ne hp (by omega) (by omega) (by omega)
    have he := (EE_of h0 h1 hne).1
    have ih := start_l4 ha hR d (p + 1) (by omega) (by omega)
    have hr := hv.four a ha
    refine Tends2.step (G := fun K k => (spec_l06At.f K (p : Int) ((0 : Nat) : Int)).bind fun t387 => ((spec_l06At.f K (p : Int) ((1 : Nat) : Int)).bind fun t391 => ((spec_l08Edge.f K t387 t391).bind fun t395 => (if 0 ≤ (a : Int) ∧ (a : Int) < ((rowsOf C 6 ts.length).length : Int) then (if 0 ≤ t395 ∧ t395 < (((rowsOf C 6 ts.length).getD a []).length : Int) then (if ((rowsOf C 6 ts.length).getD a []).getD t395.toNat 0 = cl then (if 0 ≤ (a : Int) ∧ (a : Int) < (ts.length : Int) then ((spec_l06At.f K (p : Int) ((3 : Nat) : Int)).bind fun t415 => (if 0 ≤ t415 ∧ t415 < ((ts.getD a []).length : Int) then (if ((ts.getD a []).getD t415.toNat z_GFace).Tet < 0 then (some ((a : Int), (p : Int))) else (spec_l08Start.l4 K k ts cl (rowsOf C 6 ts.length) (a : Int) ((p + 1 : Nat) : Int))) else none)) else none) else (spec_l08Start.l4 K k ts cl (rowsOf C 6 ts.length) (a : Int) ((p + 1 : Nat) : Int))) else none) else none)))) (fun K k => ?_) ?_
    · rw [spec_l08Start.l4, if_pos (by omega), w64_succ (by omega)]; rfl
    · refine Tends2.bind (at_t hp (by omega)).two ?_
      refine Tends2.bind (at_t hp (by omega)).two ?_
      refine Tends2.bind (edge8_t h0 h1 hne).two ?_
      refine Tends2.pos (by rw [rowsOf_len]; omega) ?_
      rw [rowsOf_get ha]
      refine Tends2.pos (by rw [rowAt_len]; omega) ?_
      rw [Int.toNat_natCast, rowAt_get he]
      by_cases hcl : C.getD (6 * a + EE (PA p 0) (PA p 1)) 0 = cl
      · refine Tends2.pos hcl (Tends2.pos (by omega) ?_)
        refine Tends2.bind (at_t hp (by omega)).two (Tends2.pos (by omega) ?_)
        rw [Int.toNat_natCast]
        refine Tends2.neg (fun hlt => ?_) ih
        refine hI.no _ (mul_lt ha he) hcl (PA p 3) ?_
        unfold bdE
        rw [(de6 he).1, (de6 he).2]
        obtain ⟨n1, n2⟩ := EE_ne h0 h1 hne (f := PA p 3) (PA_ne hp (by omega) (by omega) (by omega)) (PA_ne hp (by omega) (by omega) (by omega))
        exact ⟨h3, n1, n2, hlt⟩
      · exact Tends2.neg hcl ih
theorem start_l1 {R : Int × Int} (hR : Tends (fun K => Go.Proofs.YtbjfinndngafoaaGreat.bind2 (spec_l08First.f K ts cl) (fun t424 t425 => (Go.Proofs.YtbjfinndngafoaaGreat.bind2 (spec_l08Ends.f t425) (fun t429 t430 => (Go.Proofs.YtbjfinndngafoaaGreat.bind2 (spec_ExtendPerm4.f K ([0, 1] : List Int) ([t429, t430] : List Int)) (fun t438 t439 => (some (t424, t438)))))))) R) : ∀ (d a : Nat), ts.length - a = d → a ≤ ts.length → Tends2 (fun K k => spec_l08Start.l1 K k ts cl (rowsOf C 6 ts.length) (a : Int)) R
  | 0, a, hd, ha => by
    have h8 := hv.le
    refine Tends2.step (fun K k => ?_) hR.two
    rw [spec_l08Start.l1, spec_l07Tets.f, Option.bind_some, if_neg (by omega)]
  | d + 1, a, hd, ha => by
    have h8 := hv.le
    refine Tends2.step (fun K k => ?_) (start_l4 hv hI (show a < ts.length by omega) (start_l1 hR d (a + 1) (by omega) (by omega)) 24 0 (by omega) (by omega))
    rw [spec_l08Start.l1, spec_l07Tets.f, Option.bind_some, if_pos (by omega)]
    rfl
end
section
variable {ts : List (List GFace)} (hv : Val ts) {C : List Int} {cl : Int} {j0 : Nat} (hj : j0 < 6 * ts.length) (h0 : C.getD j0 0 = cl) (h1 : ∀ j, j < j0 → C.getD j 0 ≠ cl)
include hv hj h0 h1
theorem first_l4 : ∀ (d a e : Nat), 7 * (j0 / 6) + j0 % 6 - (7 * a + e) = d → a ≤ j0 / 6 → e ≤ 6 → 6 * a + e ≤ j0 → Tends2 (fun K k => spec_l08First.l4 K k cl (rowsOf C 6 ts.length) (a : Int) (e : Int)) (((j0 / 6 : Nat) : Int), ((j0 % 6 : Nat) : Int))
  | 0, a, e, hd, ha, he, hle => by
    have h8 := hv.le
    have ha' : a = j0 / 6 := by omega
    have he' : e = j0 % 6 := by omega
    have hlt : a < ts.length := by omega
    refine Tends2.of fun K k => ?_
    rw [spec_l08First.l4, if_pos (by omega), if_pos (by rw [rowsOf_len]; omega), Int.toNat_natCast, rowsOf_get hlt, if_pos (by rw [rowAt_len]; omega), Int.toNat_natCast, rowAt_get (by omega), if_pos (by rw [show 6 * a + e = j0 by omega]; exact h0), ha', he']
  | d + 1, a, e, hd, ha, he, hle => by
    have h8 := hv.le
    have hlt : a < ts.length := by omega
    by_cases h6 : e = 6
    · refine Tends2.step (G := fun K k => spec_l08First.l1 K k cl (rowsOf C 6 ts.length) ((a + 1 : Nat) : Int)) (fun K k => ?_) (Tends2.step (fun K k => ?_) (first_l4 d (a + 1) 0 (by omega) (by omega) (by omega) (by omega)))
      · rw [spec_l08First.l4, if_neg (by omega), w64_succ (by omega)]
      · rw [spec_l08First.l1, if_pos (by rw [rowsOf_len]; omega)]; rfl
    · refine Tends2.step (fun K k => ?_) (first_l4 d a (e + 1) (by omega) (by omega) (by omega) (by omega))
      rw [spec_l08First.l4, if_pos (by omega), if_pos (by rw [rowsOf_len]; omega), Int.toNat_natCast, rowsOf_get hlt, if_pos (by rw [rowAt_len]; omega), Int.toNat_natCast, rowAt_get (by omega), if_neg (h1 _ (by omega)), w64_succ (by omega)]
theorem first_l1 : Tends2 (fun K k => spec_l08First.l1 K k cl (rowsOf C 6 ts.length) 0) (((j0 / 6 : Nat) : Int), ((j0 % 6 : Nat) : Int)) := by
  refine Tends2.step (fun K k => ?_) (first_l4 hv hj h0 h1 _ 0 0 rfl (by omega) (by omega) (by omega))
  rw [spec_l08First.l1, if_pos (by rw [rowsOf_len]; omega)]; rfl
end
section
variable {ts : List (List GFace)} (hv : Val ts) {s : List Int} (hP : Parted (6 * ts.length) (JE ts) s) (hc : Tends (fun K => impl_Triangulation_edgeClasses.f K ts) (CN (6 * ts.length) s))
  {vr fr : List (List Int)} {nn : List Int} (hcnt : Tends (fun K => spec_l08Count.f K ts) (vr, rowsOf (CN (6 * ts.length) s) 6 ts.length, fr, nn))
  {o : List Bool} (hbt : Tends (fun K => impl_Triangulation_boundaryEdges.f K ts) o) (hbl : o.length = firstN s (6 * ts.length)) (hbb : ∀ c : Nat, o.getD c false = true ↔ ∃ j, j < 6 * ts.length ∧ (CN (6 * ts.length) s).getD j 0 = (c : Int) ∧ ∃ f, bdE ts j f)
include hv hP hc hcnt hbt hbl hbb
theorem start_both {c j0 : Nat} (hj : j0 < 6 * ts.length) (h0 : (CN (6 * ts.length) s).getD j0 0 = (c : Int)) (h1 : ∀ j, j < j0 → (CN (6 * ts.length) s).getD j 0 ≠ (c : Int)) (hno : o.getD c false = false) :
    Inner ts (CN (6 * ts.length) s) (c : Int) ∧ Tends (fun K => impl_Triangulation_firstCorner.f K ts (c : Int)) (((j0 / 6 : Nat) : Int), (ST (j0 % 6) : Int)) ∧ Tends (fun K => spec_l08Start.f K ts (c : Int)) (((j0 / 6 : Nat) : Int), (ST (j0 % 6) : Int)) := by
  have h8 := hv.le
  have he : j0 % 6 < 6 := by omega
  have hI : Inner ts (CN (6 * ts.length) s) (c : Int) := ⟨fun j hj' hcl f hbd => by
    have := (hbb c).2 ⟨j, hj', hcl, f, hbd⟩
    rw [hno] at this; cases this⟩
  have hr := cn_range (s := s) (N := 6 * ts.length) (by omega) hj
  refine ⟨hI, ?_, ?_⟩
  · refine Tends.bind hc (Tends.bind hbt (Tends.pos (by omega) ?_))
    rw [Int.toNat_natCast]
    refine Tends.neg (by rw [hno]; decide) (Tends.bind (a := (j0 : Int)) (index_l1 (by rw [CN_len]; omega) (by rw [CN_len]; exact hj) h0 h1 _ 0 rfl (by omega)).diag ?_)
    have e1 : (j0 : Int).tmod 6 = ((j0 % 6 : Nat) : Int) := by rw [Int.tmod_eq_emod_of_nonneg (by omega)]; omega
    have e2 : w64 ((j0 : Int).tdiv 6) = ((j0 / 6 : Nat) : Int) := by rw [Int.tdiv_eq_ediv_of_nonneg (by omega), w64_id (by omega) (by omega)]; omega
    rw [e1, e2]
    exact start_i he _
  · refine Tends.bind4 hcnt ?_
    refine Tends2.diag (F := fun K k => spec_l08Start.l1 K k ts (c : Int) (rowsOf (CN (6 * ts.length) s) 6 ts.length) ((0 : Nat) : Int)) ?_
    refine start_l1 hv hI ?_ _ 0 rfl (by omega)
    have hf : Tends (fun K => spec_l08First.f K ts (c : Int)) (((j0 / 6 : Nat) : Int), ((j0 % 6 : Nat) : Int)) := Tends.bind4 hcnt (first_l1 hv hj h0 h1).diag
    refine Tends.bind2 hf ?_
    refine Tends.bind2 (a := (EA (j0 % 6) : Int)) (b := (EB (j0 % 6) : Int)) (Tends.congr (fun K => ends8_t he) (Tends.const _)) ?_
    exact Tends.bind2 (ext_t he) (Tends.const _)
end
end Go.Proofs.YtbjfinndngafoaaGreat
set_option linter.unusedVariables false
set_option linter.unusedSimpArgs false
set_option linter.unusedSectionVars false
namespace Go.Proofs.YtbjfinndngafoaaGreat
open Go.RowKit
theorem pigeon : ∀ (N : Nat) (f : Nat → Nat), (∀ i, i ≤ N → f i < N) → ∃ i j, i < j ∧ j ≤ N ∧ f i = f j
  | 0, f, h => by have := h 0 (Nat.le_refl _); omega
  | N + 1, f, h => by
    by_cases hx : ∃ i, i ≤ N ∧ f i = f (N + 1)
    · obtain ⟨i, hi, e⟩ := hx
      exact ⟨i, N + 1, by omega, by omega, e⟩
    · have hne : ∀ i, i ≤ N → f i ≠ f (N + 1) := fun i hi e => hx ⟨i, hi, e⟩
      have hl := h (N + 1) (Nat.le_refl _)
      obtain ⟨i, j, h1, h2, h3⟩ := pigeon N (fun i => if f i > f (N + 1) then f i - 1 else f i) (fun i hi => by
        have h1 := h i (by omega)
        have h2 := hne i hi
        show (if f i > f (N + 1) then f i - 1 else f i) < N
        split <;> omega)
      refine ⟨i, j, h1, by omega, ?_⟩
      have e1 := hne i (by omega)
      have e2 := hne j h2
      have h3 : (if f i > f (N + 1) then f i - 1 else f i) = (if f j > f (N + 1) then f j - 1 else f j) := h3
      split at h3 <;> split at h3 <;> omega
def it (ts : List (List GFace)) (c : Nat × Nat) : Nat → Nat × Nat
  | 0 => c
  | k + 1 => (nx ts (it ts c k)).getD c
def eo (c : Nat × Nat) : Nat := 6 * c.1 + EE (PA c.2 0) (PA c.2 1)
def crn (c : Nat × Nat) : GFace := ⟨c.1, c.2⟩
def crns (ts : List (List GFace)) (c : Nat × Nat) (k : Nat) : List GFace := (List.range k).map fun i => crn (it ts c i)
theorem crns_len (ts : List (List GFace)) (c : Nat × Nat) (k : Nat) : (crns ts c k).length = k := by simp [crns]
theorem crns_get {ts : List (List GFace)} {c : Nat × Nat} {k i : Nat} (h : i < k) : (crns ts c k).getD i z_GFace = crn (it ts c i) := by
  rw [crns, List.getD_eq_getElem?_getD, List.getElem?_map, List.getElem?_range h]; rfl
theorem crns_succ (ts : List (List GFace)) (c : Nat × Nat) (k : Nat) : crns ts c (k + 1) = crns ts c k ++ [crn (it ts c k)] := by unfold crns; rw [List.range_succ, List.map_append]; rfl
structure Cor (ts : List (List GFace)) (C : List Int) (cl : Int) (c : Nat × Nat) : Prop where
  tet : c.1 < ts.length
  perm : c.2 < 24
  at_ : C.getD (eo c) 0 = cl
theorem eo_of {c : Nat × Nat} (hp : c.2 < 24) : PA c.2 0 < 4 ∧ PA c.2 1 < 4 ∧ PA c.2 0 ≠ PA c.2 1 ∧ EE (PA c.2 0) (PA c.2 1) < 6 ∧ eo c / 6 = c.1 ∧ eo c % 6 = EE (PA c.2 0) (PA c.2 1) := by
  have h0 : PA c.2 0 < 4 := PA_lt hp (by omega)
  have h1 : PA c.2 1 < 4 := PA_lt hp (by omega)
  have hne : PA c.2 0 ≠ PA c.2 1 := PA_ne hp (by omega) (by omega) (by omega)
  have he := (EE_of h0 h1 hne).1
  exact ⟨h0, h1, hne, he, (de6 he).1, (de6 he).2⟩
section
variable {ts : List (List GFace)} (hv : Val ts)
include hv
theorem nbr_corner {a f b q u v : Nat} (hq : q < 24) (hu : u < 4) (hw : v < 4) (huv : u ≠ v) (h1 : f ≠ u) (h2 : f ≠ v) (hx : face ts a f = ⟨b, q⟩) : ∃ fl, nbr ts (6 * a + EE u v) f = some (6 * b + EE (PA q u) (PA q v), fl) := by
  obtain ⟨he, hm, hM⟩ := EE_of hu hw huv
  obtain ⟨n1, n2⟩ := EE_ne hu hw huv h1 h2
  have key := nbr_glued hv he n1 n2 hx
  rw [hm, hM] at key
  have hE : EE (PA q (min u v)) (PA q (max u v)) = EE (PA q u) (PA q v) := by
    by_cases h : u ≤ v
    · rw [Nat.min_eq_left h, Nat.max_eq_right h]
    · rw [Nat.min_eq_right (by omega), Nat.max_eq_left (by omega)]
      exact EE_comm (PA_lt hq hw) (PA_lt hq hu)
  rw [hE] at key
  exact ⟨_, key⟩
variable {s : List Int} (hP : Parted (6 * ts.length) (JE ts) s) {cl : Int} (hI : Inner ts (CN (6 * ts.length) s) cl)
include hP hI
theorem nx_cor {c : Nat × Nat} (hc : Cor ts (CN (6 * ts.length) s) cl c) : ∃ c', nx ts c = some c' ∧ Cor ts (CN (6 * ts.length) s) cl c' ∧ (∃ fl, nbr ts (eo c) (PA c.2 2) = some (eo c', fl)) ∧ (∃ fl, nbr ts (eo c') (PA c'.2 3) = some (eo c, fl)) := by
  obtain ⟨a, p⟩ := c
  obtain ⟨ha, hp, hat⟩ := hc
  have ha : a < ts.length := ha
  have hp : p < 24 := hp
  obtain ⟨h0, h1, hne, he, d1, d2⟩ := eo_of (c := (a, p)) hp
  have h0 : PA p 0 < 4 := h0
  have h1 : PA p 1 < 4 := h1
  have hne : PA p 0 ≠ PA p 1 := hne
  have h20 : PA p 2 ≠ PA p 0 := PA_ne hp (by omega) (by omega) (by omega)
  have h21 : PA p 2 ≠ PA p 1 := PA_ne hp (by omega) (by omega) (by omega)
  have h2 : PA p 2 < 4 := PA_lt hp (by omega)
  have hlt : eo (a, p) < 6 * ts.length := mul_lt ha he
  rcases nx_cases hv ha hp with ⟨g1, g2⟩ | ⟨g1, b, q, hb, hq, g2, g3, g4⟩
  · refine (hI.no _ hlt hat (PA p 2) ?_).elim
    unfold bdE
    rw [d1, d2]
    obtain ⟨n1, n2⟩ := EE_ne h0 h1 hne h20 h21
    exact ⟨h2, n1, n2, g1⟩
  · obtain ⟨m0, m1, m2, m3, m4⟩ := NP_of hp hq
    have e1 : eo (b, NP q p) = 6 * b + EE (PA q (PA p 0)) (PA q (PA p 1)) := by
      show 6 * b + EE (PA (NP q p) 0) (PA (NP q p) 1) = _
      rw [m1, m2]
    obtain ⟨fl, hn⟩ := nbr_corner hv hq h0 h1 hne h20 h21 g2
    have hn : nbr ts (eo (a, p)) (PA p 2) = some (eo (b, NP q p), fl) := by rw [e1]; exact hn
    obtain ⟨fl', hn'⟩ := nbr_corner hv (PI_lt hq) (PA_lt hq h0) (PA_lt hq h1) (PA_ne hq h0 h1 hne) (PA_ne hq h2 h0 h20) (PA_ne hq h2 h1 h21) g3.2.2.2.1
    rw [PI_PA hq h0, PI_PA hq h1] at hn'
    refine ⟨(b, NP q p), g4, ⟨hb, m0, ?_⟩, ⟨fl, hn⟩, ⟨fl', ?_⟩⟩
    · rw [(CN_nbr hv hP _ _ _ _ hlt h2 hn).2]; exact hat
    · show nbr ts (eo (b, NP q p)) (PA (NP q p) 3) = _
      rw [m4, e1]; exact hn'
theorem it_cor {c : Nat × Nat} (hc : Cor ts (CN (6 * ts.length) s) cl c) : ∀ k, Cor ts (CN (6 * ts.length) s) cl (it ts c k)
  | 0 => hc
  | k + 1 => by
    obtain ⟨c', h1, h2, _⟩ := nx_cor hv hP hI (it_cor hc k)
    rw [it, h1]; exact h2
theorem it_nx {c : Nat × Nat} (hc : Cor ts (CN (6 * ts.length) s) cl c) (k : Nat) : nx ts (it ts c k) = some (it ts c (k + 1)) ∧ (∃ fl, nbr ts (eo (it ts c k)) (PA (it ts c k).2 2) = some (eo (it ts c (k + 1)), fl)) ∧ (∃ fl, nbr ts (eo (it ts c (k + 1))) (PA (it ts c (k + 1)).2 3) = some (eo (it ts c k), fl)) := by
  obtain ⟨c', h1, h2, h3, h4⟩ := nx_cor hv hP hI (it_cor hv hP hI hc k)
  have e : it ts c (k + 1) = c' := by rw [it, h1]; rfl
  rw [e]
  exact ⟨h1, h3, h4⟩
theorem it_back {c : Nat × Nat} (hc : Cor ts (CN (6 * ts.length) s) cl c) : ∀ i j, it ts c i = it ts c (i + j) → it ts c j = c
  | 0, j, h => by rw [Nat.zero_add] at h; exact h.symm
  | i + 1, j, h => by
    refine it_back hc i j ?_
    have c1 := it_cor hv hP hI hc i
    have c2 := it_cor hv hP hI hc (i + j)
    have n1 := (it_nx hv hP hI hc i).1
    have n2 := (it_nx hv hP hI hc (i + j)).1
    rw [h, show i + 1 + j = i + j + 1 by omega] at n1
    obtain ⟨e1, e2⟩ := nx_inj hv c1.tet c1.perm c2.tet c2.perm n1 n2
    exact Prod.ext e1 e2
theorem orbit {c : Nat × Nat} (hc : Cor ts (CN (6 * ts.length) s) cl c) : ∃ m, 1 ≤ m ∧ m ≤ 192 ∧ it ts c m = c ∧ ∀ j, 0 < j → j < m → it ts c j ≠ c := by
  have h8 := hv.le
  obtain ⟨i, j, h1, h2, h3⟩ := pigeon 192 (fun k => 24 * (it ts c k).1 + (it ts c k).2) (fun i _ => by
    have c1 := it_cor hv hP hI hc i
    have := c1.tet
    have := c1.perm
    show 24 * (it ts c i).1 + (it ts c i).2 < 192
    omega)
  have hex : ∃ m, 1 ≤ m ∧ m ≤ 192 ∧ it ts c m = c := by
    refine ⟨j - i, by omega, by omega, it_back hv hP hI hc i (j - i) ?_⟩
    rw [show i + (j - i) = j by omega]
    have c1 := (it_cor hv hP hI hc i).perm
    have c2 := (it_cor hv hP hI hc j).perm
    have h3 : 24 * (it ts c i).1 + (it ts c i).2 = 24 * (it ts c j).1 + (it ts c j).2 := h3
    exact Prod.ext (by omega) (by omega)
  have least : ∀ n m, m ≤ n → 1 ≤ m → m ≤ 192 → it ts c m = c → ∃ m, 1 ≤ m ∧ m ≤ 192 ∧ it ts c m = c ∧ ∀ j, 0 < j → j < m → it ts c j ≠ c := by
    intro n
    induction n with
    | zero => intro m h1 h2; omega
    | succ n ih =>
      intro m h1 h2 h3 h4
      by_cases hx : ∃ j, 0 < j ∧ j < m ∧ it ts c j = c
      · obtain ⟨j, k1, k2, k3⟩ := hx
        exact ih j (by omega) (by omega) (by omega) k3
      · exact ⟨m, h2, h3, h4, fun j k1 k2 k3 => hx ⟨j, k1, k2, k3⟩⟩
  obtain ⟨m, h4, h5, h6⟩ := hex
  exact least m m (Nat.le_refl _) h4 h5 h6
theorem ring_i {c : Nat × Nat} (hc : Cor ts (CN (6 * ts.length) s) cl c) {m : Nat} (hm : m ≤ 192) (hmc : it ts c m = c) (hno : ∀ j, 0 < j → j < m → it ts c j ≠ c) : ∀ (d k : Nat), m - (k + 1) = d → k < m → Tends2 (fun K f => impl_Triangulation_ring.l1 K f ts (c.1 : Int) (c.2 : Int) (crns ts c (k + 1))) (crns ts c m)
  | d, k, hd, hk => by
    have hk1 := it_cor hv hP hI hc k
    have hn := (it_nx hv hP hI hc k).1
    have aft1 := after_i hv hk1.tet hk1.perm
    rw [hn] at aft1
    have hw : w64 (((k + 1 : Nat) : Int) - 1) = (k : Int) := by rw [w64_id (by omega) (by omega)]; omega
    refine Tends2.step (G := fun K f => Go.Proofs.YtbjfinndngafoaaGreat.bind3 (impl_Triangulation_after.f K ts ((it ts c k).1 : Int) ((it ts c k).2 : Int)) (fun t64 t65 t66 => (if t66 = true then (if (t64, t65) = ((c.1 : Int), (c.2 : Int)) then (some (crns ts c (k + 1))) else (if ((crns ts c (k + 1)).length + 1) * 16 ≤ 140737488355328 then (impl_Triangulation_ring.l1 K f ts (c.1 : Int) (c.2 : Int) ((crns ts c (k + 1)) ++ [(⟨t64, t65⟩ : GFace)])) else none)) else (some (crns ts c (k + 1)))))) (fun K f => ?_) ?_
    · rw [impl_Triangulation_ring.l1, crns_len, hw, if_pos (by omega), Int.toNat_natCast, crns_get (by omega)]; rfl
    · refine Tends2.bind3 (a := ((it ts c (k + 1)).1 : Int)) (b := ((it ts c (k + 1)).2 : Int)) (c := true) aft1.two (Tends2.pos rfl ?_)
      by_cases e : k + 1 = m
      · subst e
        refine Tends2.pos ?_ (Tends2.const _)
        rw [hmc]
      · have h2 : ¬ (((it ts c (k + 1)).1 : Int), ((it ts c (k + 1)).2 : Int)) = ((c.1 : Int), (c.2 : Int)) := fun h => by
          injection h with h1 h2
          exact hno (k + 1) (by omega) (by omega) (Prod.ext (by omega) (by omega))
        refine Tends2.neg h2 (Tends2.pos (by rw [crns_len]; omega) ?_)
        have := ring_i hc hm hmc hno (d - 1) (k + 1) (by omega) (by omega)
        rw [crns_succ ts c (k + 1)] at this
        exact this
theorem ring_s {c : Nat × Nat} (hc : Cor ts (CN (6 * ts.length) s) cl c) {m : Nat} (hm : m ≤ 192) (hmc : it ts c m = c) (hno : ∀ j, 0 < j → j < m → it ts c j ≠ c) : ∀ (d k : Nat), m - (k + 1) = d → k < m → Tends2 (fun K f => spec_l08Ring.l1 K f ts (c.1 : Int) (c.2 : Int) (crns ts c (k + 1))) (crns ts c m)
  | d, k, hd, hk => by
    have hk1 := it_cor hv hP hI hc k
    have hn := (it_nx hv hP hI hc k).1
    have aft1 := after_s hv hk1.tet hk1.perm
    rw [hn] at aft1
    have hw : w64 (((k + 1 : Nat) : Int) - 1) = (k : Int) := by rw [w64_id (by omega) (by omega)]; omega
    refine Tends2.step (G := fun K f => Go.Proofs.YtbjfinndngafoaaGreat.bind3 (spec_l08After.f K ts ((it ts c k).1 : Int) ((it ts c k).2 : Int)) (fun t64 t65 t66 => (if t66 = true then (if (t64, t65) = ((c.1 : Int), (c.2 : Int)) then (some (crns ts c (k + 1))) else (if ((crns ts c (k + 1)).length + 1) * 16 ≤ 140737488355328 then (spec_l08Ring.l1 K f ts (c.1 : Int) (c.2 : Int) ((crns ts c (k + 1)) ++ [(⟨t64, t65⟩ : GFace)])) else none)) else (some (crns ts c (k + 1)))))) (fun K f => ?_) ?_
    · rw [spec_l08Ring.l1, crns_len, hw, if_pos (by omega), Int.toNat_natCast, crns_get (by omega)]; rfl
    · refine Tends2.bind3 (a := ((it ts c (k + 1)).1 : Int)) (b := ((it ts c (k + 1)).2 : Int)) (c := true) aft1.two (Tends2.pos rfl ?_)
      by_cases e : k + 1 = m
      · subst e
        refine Tends2.pos ?_ (Tends2.const _)
        rw [hmc]
      · have h2 : ¬ (((it ts c (k + 1)).1 : Int), ((it ts c (k + 1)).2 : Int)) = ((c.1 : Int), (c.2 : Int)) := fun h => by
          injection h with h1 h2
          exact hno (k + 1) (by omega) (by omega) (Prod.ext (by omega) (by omega))
        refine Tends2.neg h2 (Tends2.pos (by rw [crns_len]; omega) ?_)
        have := ring_s hc hm hmc hno (d - 1) (k + 1) (by omega) (by omega)
        rw [crns_succ ts c (k + 1)] at this
        exact this
theorem ring_all {c : Nat × Nat} (hc : Cor ts (CN (6 * ts.length) s) cl c) {m : Nat} (hm : 1 ≤ m) (hmc : it ts c m = c) {j : Nat} (hj : j < 6 * ts.length) : (CN (6 * ts.length) s).getD j 0 = cl ↔ ∃ k, k < m ∧ j = eo (it ts c k) := by
  have lt : ∀ k, eo (it ts c k) < 6 * ts.length := fun k => by
    have h := it_cor hv hP hI hc k
    exact mul_lt h.tet (eo_of h.perm).2.2.2.1
  constructor
  · intro hcl
    have nxt : ∀ k, k < m → ∃ k', k' < m ∧ eo (it ts c (k + 1)) = eo (it ts c k') := fun k hk => by
      by_cases e : k + 1 = m
      · exact ⟨0, by omega, by rw [e, hmc]; rfl⟩
      · exact ⟨k + 1, by omega, rfl⟩
    have one : ∀ x y f fl, f < 4 → nbr ts x f = some (y, fl) → (∃ k, k < m ∧ x = eo (it ts c k)) → ∃ k, k < m ∧ y = eo (it ts c k) := fun x y f fl hf hn ⟨k, hk, hx⟩ => by
      have hck := it_cor hv hP hI hc k
      have hp := hck.perm
      obtain ⟨h0, h1, hne, he, d1, d2⟩ := eo_of (c := it ts c k) hp
      rw [hx] at hn
      obtain ⟨b, q, _, _, _, _, n1, n2, _⟩ := nbr_some hv (lt k) hf hn
      rw [d2] at n1 n2
      obtain ⟨_, e1, e2⟩ := EE_of h0 h1 hne
      rw [e1] at n1
      rw [e2] at n2
      have h2 : PA (it ts c k).2 2 < 4 := PA_lt hp (by omega)
      have h3 : PA (it ts c k).2 3 < 4 := PA_lt hp (by omega)
      have h02 : PA (it ts c k).2 0 ≠ PA (it ts c k).2 2 := PA_ne hp (by omega) (by omega) (by omega)
      have h03 : PA (it ts c k).2 0 ≠ PA (it ts c k).2 3 := PA_ne hp (by omega) (by omega) (by omega)
      have h12 : PA (it ts c k).2 1 ≠ PA (it ts c k).2 2 := PA_ne hp (by omega) (by omega) (by omega)
      have h13 : PA (it ts c k).2 1 ≠ PA (it ts c k).2 3 := PA_ne hp (by omega) (by omega) (by omega)
      have h23 : PA (it ts c k).2 2 ≠ PA (it ts c k).2 3 := PA_ne hp (by omega) (by omega) (by omega)
      have hf23 : f = PA (it ts c k).2 2 ∨ f = PA (it ts c k).2 3 := by omega
      rcases hf23 with hf2 | hf3
      · obtain ⟨fl', hn'⟩ := (it_nx hv hP hI hc k).2.1
        rw [hf2, hn'] at hn
        injection hn with hn
        injection hn with hn _
        obtain ⟨k', a1, a2⟩ := nxt k hk
        exact ⟨k', a1, by rw [← hn]; exact a2⟩
      · obtain ⟨k', a1, a2⟩ : ∃ k', k' < m ∧ it ts c (k' + 1) = it ts c k := by
          by_cases e : k = 0
          · exact ⟨m - 1, by omega, by rw [show m - 1 + 1 = m by omega, hmc, e]; rfl⟩
          · exact ⟨k - 1, by omega, by rw [show k - 1 + 1 = k by omega]⟩
        obtain ⟨fl', hn'⟩ := (it_nx hv hP hI hc k').2.2
        rw [a2, ← hf3, hn] at hn'
        injection hn' with hn'
        injection hn' with hn' _
        exact ⟨k', a1, hn'⟩
    have hQ : ∀ p, p ∈ JE ts → ((∃ k, k < m ∧ p.1 = eo (it ts c k)) ↔ (∃ k, k < m ∧ p.2 = eo (it ts c k))) := fun p hp => by
      obtain ⟨x, y⟩ := p
      obtain ⟨hx, f, fl, hf, hn⟩ := JE_nbr hv hp
      refine ⟨one x y f fl hf hn, fun h => ?_⟩
      obtain ⟨f', fl', hf', hn'⟩ := nbr_symm hv hx hf hn
      exact one y x f' fl' hf' hn' h
    have e0 : s.getD (eo (it ts c 0)) 0 = s.getD j 0 := (CN_num _ s).inj (lt 0) hj (hc.at_.trans hcl.symm)
    exact (hP.min (fun x => ∃ k, k < m ∧ x = eo (it ts c k)) hQ _ _ (lt 0) hj e0).1 ⟨0, by omega, rfl⟩
  · rintro ⟨k, hk, rfl⟩
    exact (it_cor hv hP hI hc k).at_
end
end Go.Proofs.YtbjfinndngafoaaGreat
set_option linter.unusedVariables false
set_option linter.unusedSimpArgs false
set_option linter.unusedSectionVars false
namespace Go.Proofs.YtbjfinndngafoaaGreat
open Go.RowKit
def MP (f t : List Nat) : Nat := PX (t.getD (f.idxOf 0) 0) (t.getD (f.idxOf 1) 0) (t.getD (f.idxOf 2) 0) (t.getD (f.idxOf 3) 0)
def putO (m : List (Arr2 × GPlace)) (x : GL12Outer) : List (Arr2 × GPlace) := gput m ⟨x.tet, x.face⟩ ⟨x.to, x.perm⟩
def free4 : List GFace := [⟨-1, 0⟩, ⟨-1, 0⟩, ⟨-1, 0⟩, ⟨-1, 0⟩]
def o23 (o b : Int) (A q i : Nat) : List GL12Outer :=
  [⟨o, ((OT [A]).getD i 0 : Nat), (i : Nat), (MP [A, (OT [A]).getD ((i + 1) % 3) 0, (OT [A]).getD ((i + 2) % 3) 0, (OT [A]).getD i 0] [0, 2, 3, 1] : Nat)⟩,
   ⟨b, (PA q ((OT [A]).getD i 0) : Nat), (i : Nat), (MP [PA q A, PA q ((OT [A]).getD ((i + 1) % 3) 0), PA q ((OT [A]).getD ((i + 2) % 3) 0), PA q ((OT [A]).getD i 0)] [1, 2, 3, 0] : Nat)⟩]
def O23 (o b : Int) (A q : Nat) : List GL12Outer := o23 o b A q 0 ++ (o23 o b A q 1 ++ o23 o b A q 2)
def in23 : List Arr4 := [⟨0, 2, 1, 1⟩, ⟨1, 2, 2, 1⟩, ⟨2, 2, 0, 1⟩]
def fr23 : List (List GFace) := [[⟨-1, 0⟩, ⟨-1, 0⟩, ⟨1, 1⟩, ⟨2, 1⟩], [⟨-1, 0⟩, ⟨-1, 0⟩, ⟨2, 1⟩, ⟨0, 1⟩], [⟨-1, 0⟩, ⟨-1, 0⟩, ⟨0, 1⟩, ⟨1, 1⟩]]
theorem i23_tab : (fun (K : Nat) (o b : Int) => (List.range 96).map fun i : Nat => impl_Triangulation_change23.l1 (K + 100) (K + 100) o ((i / 24 : Nat) : Int) ⟨b, ((i % 24 : Nat) : Int)⟩ [o, b] 3 (PA (i % 24) 0 : Int) (PA (i % 24) 1 : Int) (PA (i % 24) 2 : Int) (PA (i % 24) 3 : Int) (ints (OT [i / 24])) [] [] 0) = fun K o b => (List.range 96).map fun i : Nat => some (some ([o, b], (O23 o b (i / 24) (i % 24)).foldl putO [], 3, in23)) := by kernel_rfl
theorem s23_tab : (fun (K : Nat) (o b : Int) => (List.range 96).map fun i : Nat => spec_l12Plan23.l1 (K + 100) (K + 100) o ((i / 24 : Nat) : Int) ⟨b, ((i % 24 : Nat) : Int)⟩ [] 0) = fun K o b => (List.range 96).map fun i : Nat => some ([o, b], fr23, O23 o b (i / 24) (i % 24), true) := by kernel_rfl
section
variable {ts : List (List GFace)} (hv : Val ts)
include hv
theorem c23_t {a f : Nat} (ha : a < ts.length) (hf : f < 4) :
    (Tends (fun K => impl_Triangulation_change23.f K ts (a : Int) (f : Int)) none ∧ Tends (fun K => spec_l12Plan23.f K ts (a : Int) (f : Int)) ([], [], [], false)) ∨
    (∃ b q : Nat, b < ts.length ∧ q < 24 ∧ face ts a f = ⟨b, q⟩ ∧ b ≠ a ∧ Tends (fun K => impl_Triangulation_change23.f K ts (a : Int) (f : Int)) (some ([(a : Int), (b : Int)], (O23 a b f q).foldl putO [], 3, in23)) ∧ Tends (fun K => spec_l12Plan23.f K ts (a : Int) (f : Int)) ([(a : Int), (b : Int)], fr23, O23 a b f q, true)) := by
  have hr := hv.four a ha
  have I : ∀ r, Tends (fun K => if decide ((face ts a f).Tet < 0) = true then some none else (if (face ts a f).Tet = (a : Int) then (some none) else (Go.Proofs.YtbjfinndngafoaaGreat.bind4 (impl_newChange.f 3 ([(a : Int), (face ts a f).Tet] : List Int)) (fun t23 t24 t25 t26 => (Go.Proofs.YtbjfinndngafoaaGreat.bind4 (impl_perm.f K (face ts a f).Perm) (fun t36 t37 t38 t39 => ((impl_others.f K ([(f : Int)] : List Int)).bind fun t45 => (impl_Triangulation_change23.l1 K K (a : Int) (f : Int) (face ts a f) t23 t25 t36 t37 t38 t39 t45 t24 t26 0)))))))) r → Tends (fun K => impl_Triangulation_change23.f K ts (a : Int) (f : Int)) r := fun r h => by
    refine Tends.pos (by omega) ?_
    simp only [Int.toNat_natCast]
    exact Tends.pos (by omega) h
  have S : ∀ r, Tends (fun K => if (face ts a f).Tet < 0 then (some (([] : List Int), ([] : List (List GFace)), ([] : List GL12Outer), false)) else (if (face ts a f).Tet = (a : Int) then (some (([] : List Int), ([] : List (List GFace)), ([] : List GL12Outer), false)) else (spec_l12Plan23.l1 K K (a : Int) (f : Int) (face ts a f) ([] : List Int) 0))) r → Tends (fun K => spec_l12Plan23.f K ts (a : Int) (f : Int)) r := fun r h => by
    refine Tends.pos (by omega) ?_
    simp only [Int.toNat_natCast]
    exact Tends.pos (by omega) h
  rcases face_cases hv ha hf with ⟨g1, _⟩ | ⟨g1, b, q, hb, hq, g2, g3⟩
  · exact .inl ⟨I _ (Tends.pos (decide_eq_true g1) (Tends.const _)), S _ (Tends.pos g1 (Tends.const _))⟩
  · rw [g2] at I S
    have n0 : ¬ ((b : Int) < 0) := by omega
    by_cases e : b = a
    · exact .inl ⟨I _ (Tends.neg (by rw [decide_eq_true_eq]; exact n0) (Tends.pos (by show (b : Int) = a; omega) (Tends.const _))), S _ (Tends.neg n0 (Tends.pos (by show (b : Int) = a; omega) (Tends.const _)))⟩
    · refine .inr ⟨b, q, hb, hq, g2, e, I _ (Tends.neg (by rw [decide_eq_true_eq]; exact n0) (Tends.neg (by show ¬ (b : Int) = a; omega) ?_)), S _ (Tends.neg n0 (Tends.neg (by show ¬ (b : Int) = a; omega) ?_))⟩
      · refine Tends.bind4 (a := [(a : Int), (b : Int)]) (b := []) (c := 3) (d := []) (Tends.const _) (Tends.bind4 (perm_t hq) (Tends.bind (others1_t hf) ?_))
        exact tab2 (F := fun K f q => impl_Triangulation_change23.l1 K K (a : Int) (f : Int) ⟨(b : Int), (q : Int)⟩ [(a : Int), (b : Int)] 3 (PA q 0 : Int) (PA q 1 : Int) (PA q 2 : Int) (PA q 3 : Int) (ints (OT [f])) [] [] 0) (g := fun f q => some ([(a : Int), (b : Int)], (O23 a b f q).foldl putO [], 3, in23)) (a := 4) (b := 24) (m := 100) (funext fun K => congrFun (congrFun (congrFun i23_tab K) (a : Int)) (b : Int)) hf hq
      · exact tab2 (F := fun K f q => spec_l12Plan23.l1 K K (a : Int) (f : Int) ⟨(b : Int), (q : Int)⟩ [] 0) (g := fun f q => ([(a : Int), (b : Int)], fr23, O23 a b f q, true)) (a := 4) (b := 24) (m := 100) (funext fun K => congrFun (congrFun (congrFun s23_tab K) (a : Int)) (b : Int)) hf hq
end
def EXC (i j : Nat) : Nat := PX ((([0, 1, 2, 3].set i j).set j i).getD 0 0) ((([0, 1, 2, 3].set i j).set j i).getD 1 0) ((([0, 1, 2, 3].set i j).set j i).getD 2 0) ((([0, 1, 2, 3].set i j).set j i).getD 3 0)
def O14 (t : Int) : List GL12Outer := [⟨t, 0, 0, 0⟩, ⟨t, 1, 1, 0⟩, ⟨t, 2, 2, 0⟩, ⟨t, 3, 3, 0⟩]
def in14 : List Arr4 := [⟨1, 0, 0, 6⟩, ⟨2, 0, 0, 14⟩, ⟨2, 1, 1, 2⟩, ⟨3, 0, 0, 21⟩, ⟨3, 1, 1, 5⟩, ⟨3, 2, 2, 1⟩]
def fr14 : List (List GFace) := [[⟨-1, 0⟩, ⟨1, 6⟩, ⟨2, 14⟩, ⟨3, 21⟩], [⟨0, 6⟩, ⟨-1, 0⟩, ⟨2, 2⟩, ⟨3, 5⟩], [⟨0, 14⟩, ⟨1, 2⟩, ⟨-1, 0⟩, ⟨3, 1⟩], [⟨0, 21⟩, ⟨1, 5⟩, ⟨2, 1⟩, ⟨-1, 0⟩]]
theorem i14_tab : (fun (K : Nat) (t : Int) => impl_change14.f (K + 100) t) = fun K t => some ([t], (O14 t).foldl putO [], 4, in14) := by kernel_rfl
theorem s14_tab : (fun (K : Nat) (t : Int) => spec_l12Plan14.f (K + 100) t) = fun K t => some ([t], fr14, O14 t) := by kernel_rfl
theorem c14_i (t : Int) : Tends (fun K => impl_change14.f K t) ([t], (O14 t).foldl putO [], 4, in14) := ⟨100, fun K hK => by
  have := congrFun (congrFun i14_tab (K - 100)) t
  rw [show K = K - 100 + 100 by omega]; exact this⟩
theorem c14_s (t : Int) : Tends (fun K => spec_l12Plan14.f K t) ([t], fr14, O14 t) := ⟨100, fun K hK => by
  have := congrFun (congrFun s14_tab (K - 100)) t
  rw [show K = K - 100 + 100 by omega]; exact this⟩
end Go.Proofs.YtbjfinndngafoaaGreat
set_option linter.unusedVariables false
set_option linter.unusedSimpArgs false
set_option linter.unusedSectionVars false
namespace Go.Proofs.YtbjfinndngafoaaGreat
open Go.RowKit
def X32 (i p : Nat) : Nat := MP [PA p 0, PA p 2, PA p 3, PA p 1] [0, 1 + i, 1 + (i + 1) % 3, 1 + (i + 2) % 3]
def Y32 (i p : Nat) : Nat := MP [PA p 1, PA p 2, PA p 3, PA p 0] [0, 1 + i, 1 + (i + 1) % 3, 1 + (i + 2) % 3]
def oX (i : Nat) (c : Nat × Nat) : GL12Outer := ⟨(c.1 : Int), (PA c.2 1 : Nat), 0, (X32 i c.2 : Nat)⟩
def oY (i : Nat) (c : Nat × Nat) : GL12Outer := ⟨(c.1 : Int), (PA c.2 0 : Nat), 1, (Y32 i c.2 : Nat)⟩
def O32 (c0 c1 c2 : Nat × Nat) : List GL12Outer := [oX 0 c0, oY 0 c0, oX 1 c1, oY 1 c1, oX 2 c2, oY 2 c2]
def fr32 : List (List GFace) := [[⟨1, 0⟩, ⟨-1, 0⟩, ⟨-1, 0⟩, ⟨-1, 0⟩], [⟨0, 0⟩, ⟨-1, 0⟩, ⟨-1, 0⟩, ⟨-1, 0⟩]]
def in32 : List Arr4 := [⟨0, 0, 1, 0⟩]
theorem x32_tab : (fun (K : Nat) => (List.range 72).map fun j : Nat => spec_l12Map.f (K + 60) [(PA (j % 24) 0 : Int), (PA (j % 24) 2 : Int), (PA (j % 24) 3 : Int), (PA (j % 24) 1 : Int)] [0, w64 (1 + ((j / 24 : Nat) : Int)), w64 (1 + ((w64 (((j / 24 : Nat) : Int) + 1)).tmod 3)), w64 (1 + ((w64 (((j / 24 : Nat) : Int) + 2)).tmod 3))]) = fun K => (List.range 72).map fun j : Nat => some ((X32 (j / 24) (j % 24) : Nat) : Int) := by kernel_rfl
theorem y32_tab : (fun (K : Nat) => (List.range 72).map fun j : Nat => spec_l12Map.f (K + 60) [(PA (j % 24) 1 : Int), (PA (j % 24) 2 : Int), (PA (j % 24) 3 : Int), (PA (j % 24) 0 : Int)] [0, w64 (1 + ((j / 24 : Nat) : Int)), w64 (1 + ((w64 (((j / 24 : Nat) : Int) + 1)).tmod 3)), w64 (1 + ((w64 (((j / 24 : Nat) : Int) + 2)).tmod 3))]) = fun K => (List.range 72).map fun j : Nat => some ((Y32 (j / 24) (j % 24) : Nat) : Int) := by kernel_rfl
def ixX (K i p : Nat) : Option Int := impl_indexOf.f K (se 0 (PA p 3 : Int) (w64 (1 + ((w64 ((i : Int) + 1)).tmod 3))) (se 0 (PA p 2 : Int) (w64 (1 + (i : Int))) (se 0 (PA p 1 : Int) (w64 (1 + ((w64 ((i : Int) + 2)).tmod 3))) (se 0 (PA p 0 : Int) 0 0)))) (se 1 (PA p 3 : Int) (w64 (1 + ((w64 ((i : Int) + 1)).tmod 3))) (se 1 (PA p 2 : Int) (w64 (1 + (i : Int))) (se 1 (PA p 1 : Int) (w64 (1 + ((w64 ((i : Int) + 2)).tmod 3))) (se 1 (PA p 0 : Int) 0 0)))) (se 2 (PA p 3 : Int) (w64 (1 + ((w64 ((i : Int) + 1)).tmod 3))) (se 2 (PA p 2 : Int) (w64 (1 + (i : Int))) (se 2 (PA p 1 : Int) (w64 (1 + ((w64 ((i : Int) + 2)).tmod 3))) (se 2 (PA p 0 : Int) 0 0)))) (se 3 (PA p 3 : Int) (w64 (1 + ((w64 ((i : Int) + 1)).tmod 3))) (se 3 (PA p 2 : Int) (w64 (1 + (i : Int))) (se 3 (PA p 1 : Int) (w64 (1 + ((w64 ((i : Int) + 2)).tmod 3))) (se 3 (PA p 0 : Int) 0 0))))
def ixY (K i p : Nat) : Option Int := impl_indexOf.f K (se 0 (PA p 3 : Int) (w64 (1 + ((w64 ((i : Int) + 1)).tmod 3))) (se 0 (PA p 2 : Int) (w64 (1 + (i : Int))) (se 0 (PA p 1 : Int) 0 (se 0 (PA p 0 : Int) (w64 (1 + ((w64 ((i : Int) + 2)).tmod 3))) 0)))) (se 1 (PA p 3 : Int) (w64 (1 + ((w64 ((i : Int) + 1)).tmod 3))) (se 1 (PA p 2 : Int) (w64 (1 + (i : Int))) (se 1 (PA p 1 : Int) 0 (se 1 (PA p 0 : Int) (w64 (1 + ((w64 ((i : Int) + 2)).tmod 3))) 0)))) (se 2 (PA p 3 : Int) (w64 (1 + ((w64 ((i : Int) + 1)).tmod 3))) (se 2 (PA p 2 : Int) (w64 (1 + (i : Int))) (se 2 (PA p 1 : Int) 0 (se 2 (PA p 0 : Int) (w64 (1 + ((w64 ((i : Int) + 2)).tmod 3))) 0)))) (se 3 (PA p 3 : Int) (w64 (1 + ((w64 ((i : Int) + 1)).tmod 3))) (se 3 (PA p 2 : Int) (w64 (1 + (i : Int))) (se 3 (PA p 1 : Int) 0 (se 3 (PA p 0 : Int) (w64 (1 + ((w64 ((i : Int) + 2)).tmod 3))) 0))))
theorem ixX_tab : (fun (K : Nat) => (List.range (3 * 24)).map fun j : Nat => ixX (K + 60) (j / 24) (j % 24)) = fun K => (List.range (3 * 24)).map fun j : Nat => some ((X32 (j / 24) (j % 24) : Nat) : Int) := by kernel_rfl
theorem ixY_tab : (fun (K : Nat) => (List.range (3 * 24)).map fun j : Nat => ixY (K + 60) (j / 24) (j % 24)) = fun K => (List.range (3 * 24)).map fun j : Nat => some ((Y32 (j / 24) (j % 24) : Nat) : Int) := by kernel_rfl
section
variable {i p : Nat} (hi : i < 3) (hp : p < 24)
include hi hp
theorem map32_x : Tends (fun K => spec_l12Map.f K [(PA p 0 : Int), (PA p 2 : Int), (PA p 3 : Int), (PA p 1 : Int)] [0, w64 (1 + (i : Int)), w64 (1 + ((w64 ((i : Int) + 1)).tmod 3)), w64 (1 + ((w64 ((i : Int) + 2)).tmod 3))]) ((X32 i p : Nat) : Int) :=
  tab2 (F := fun K i p => spec_l12Map.f K [(PA p 0 : Int), (PA p 2 : Int), (PA p 3 : Int), (PA p 1 : Int)] [0, w64 (1 + (i : Int)), w64 (1 + ((w64 ((i : Int) + 1)).tmod 3)), w64 (1 + ((w64 ((i : Int) + 2)).tmod 3))]) (g := fun i p => ((X32 i p : Nat) : Int)) (a := 3) (b := 24) (m := 60) x32_tab hi hp
theorem map32_y : Tends (fun K => spec_l12Map.f K [(PA p 1 : Int), (PA p 2 : Int), (PA p 3 : Int), (PA p 0 : Int)] [0, w64 (1 + (i : Int)), w64 (1 + ((w64 ((i : Int) + 1)).tmod 3)), w64 (1 + ((w64 ((i : Int) + 2)).tmod 3))]) ((Y32 i p : Nat) : Int) :=
  tab2 (F := fun K i p => spec_l12Map.f K [(PA p 1 : Int), (PA p 2 : Int), (PA p 3 : Int), (PA p 0 : Int)] [0, w64 (1 + (i : Int)), w64 (1 + ((w64 ((i : Int) + 1)).tmod 3)), w64 (1 + ((w64 ((i : Int) + 2)).tmod 3))]) (g := fun i p => ((Y32 i p : Nat) : Int)) (a := 3) (b := 24) (m := 60) y32_tab hi hp
theorem ixX_t : Tends (fun K => ixX K i p) ((X32 i p : Nat) : Int) := tab2 (F := ixX) (g := fun i p => ((X32 i p : Nat) : Int)) (a := 3) (b := 24) (m := 60) ixX_tab hi hp
theorem ixY_t : Tends (fun K => ixY K i p) ((Y32 i p : Nat) : Int) := tab2 (F := ixY) (g := fun i p => ((Y32 i p : Nat) : Int)) (a := 3) (b := 24) (m := 60) ixY_tab hi hp
end
section
variable {ring : List GFace} (hl : ring.length = 3) {i : Nat} (hi : i < 3) {c : Nat × Nat} (hp : c.2 < 24) (hr : ring.getD i z_GFace = crn c)
include hl hi hp hr
theorem i32_step {old : List Int} {inner : List Arr4} {m : List (Arr2 × GPlace)} {R : Option (List Int × List (Arr2 × GPlace) × Int × List Arr4)}
    (h : Tends2 (fun K k => impl_Triangulation_change32.l1 K k ring old 2 inner (putO (putO m (oX i c)) (oY i c)) ((i + 1 : Nat) : Int)) R) : Tends2 (fun K k => impl_Triangulation_change32.l1 K k ring old 2 inner m (i : Int)) R := by
  have h0 : PA c.2 0 < 4 := PA_lt hp (by omega)
  have h1 : PA c.2 1 < 4 := PA_lt hp (by omega)
  have h2 : PA c.2 2 < 4 := PA_lt hp (by omega)
  have h3 : PA c.2 3 < 4 := PA_lt hp (by omega)
  refine Tends2.succ ?_
  simp only [impl_Triangulation_change32.l1]
  rw [Int.toNat_natCast, hr]
  refine Tends2.pos (by omega) (Tends2.pos (by omega) ?_)
  simp only [bnd_eq, crn]
  refine Tends2.bind4 (perm_t hp).two ?_
  refine Tends2.pos (by omega) (Tends2.pos (by omega) (Tends2.pos (by omega) (Tends2.pos (by omega) ?_)))
  refine Tends2.bind (a := putO m (oX i c)) ?_ ?_
  rotate_left
  refine Tends2.bind (a := putO (putO m (oX i c)) (oY i c)) ?_ ?_
  rotate_left
  · rw [w64_succ (by omega)]; exact h
  · have := (ixX_t hi hp).two
    exact Tends2.bind this (Tends2.const _)
  · have := (ixY_t hi hp).two
    exact Tends2.bind this (Tends2.const _)
theorem s32_step {u v : List GFace} {old : List Int} {m : List GL12Outer} {R : List Int × List (List GFace) × List GL12Outer × Bool} (ho : old.length ≤ 10) (hm : m.length ≤ 20)
    (h : Tends2 (fun K k => spec_l12Plan32.l6 K k ring u v (old ++ [(c.1 : Int)]) ((m ++ [oX i c]) ++ [oY i c]) ((i + 1 : Nat) : Int)) R) : Tends2 (fun K k => spec_l12Plan32.l6 K k ring u v old m (i : Int)) R := by
  have h0 : PA c.2 0 < 4 := PA_lt hp (by omega)
  refine Tends2.succ ?_
  simp only [spec_l12Plan32.l6]
  rw [Int.toNat_natCast, hr]
  refine Tends2.pos (by omega) (Tends2.pos (by omega) ?_)
  simp only [bnd_eq, crn]
  refine Tends2.pos (by omega) ?_
  refine Tends2.bind (at_t hp (show 0 < 4 by omega)).two ?_
  refine Tends2.bind (at_t hp (show 1 < 4 by omega)).two ?_
  refine Tends2.bind (at_t hp (show 2 < 4 by omega)).two ?_
  refine Tends2.bind (at_t hp (show 3 < 4 by omega)).two ?_
  refine Tends2.bind (map32_x hi hp).two ?_
  refine Tends2.pos (by omega) ?_
  refine Tends2.bind (map32_y hi hp).two ?_
  refine Tends2.pos (by simp only [List.length_append, List.length_singleton]; omega) ?_
  rw [w64_succ (by omega)]
  exact h
end
section
variable {c0 c1 c2 : Nat × Nat} (h0 : c0.2 < 24) (h1 : c1.2 < 24) (h2 : c2.2 < 24)
include h0 h1 h2
theorem i32_all (old : List Int) (inner : List Arr4) : Tends (fun K => impl_Triangulation_change32.l1 K K [crn c0, crn c1, crn c2] old 2 inner [] 0) (some (old, (O32 c0 c1 c2).foldl putO [], 2, in32)) := by
  refine Tends2.diag (F := fun K k => impl_Triangulation_change32.l1 K k [crn c0, crn c1, crn c2] old 2 inner [] ((0 : Nat) : Int)) ?_
  refine i32_step rfl (by omega) h0 rfl (i32_step rfl (by omega) h1 rfl (i32_step rfl (by omega) h2 rfl ?_))
  exact Tends2.of fun K k => by rw [impl_Triangulation_change32.l1, if_neg (by show ¬ ((3 : Nat) : Int) < 3; omega)]; rfl
theorem s32_all : Tends2 (fun K k => spec_l12Plan32.l6 K k [crn c0, crn c1, crn c2] free4 free4 [] [] 0) ([(c0.1 : Int), (c1.1 : Int), (c2.1 : Int)], fr32, O32 c0 c1 c2, true) := by
  refine s32_step (i := 0) rfl (by omega) h0 rfl (by simp) (by simp) (s32_step rfl (by omega) h1 rfl (by simp) (by simp) (s32_step rfl (by omega) h2 rfl (by simp) (by simp) ?_))
  exact Tends2.of fun K k => by rw [spec_l12Plan32.l6, if_neg (by decide)]; rfl
end
end Go.Proofs.YtbjfinndngafoaaGreat
set_option linter.unusedVariables false
set_option linter.unusedSimpArgs false
set_option linter.unusedSectionVars false
namespace Go.Proofs.YtbjfinndngafoaaGreat
open Go.RowKit
def cnt (C : List Int) (v : Int) : Nat → Nat
  | 0 => 0
  | j + 1 => cnt C v j + if C.getD j 0 = v then 1 else 0
theorem cnt_le (C : List Int) (v : Int) : ∀ j, cnt C v j ≤ j
  | 0 => Nat.le_refl _
  | j + 1 => by have := cnt_le C v j; rw [cnt]; split <;> omega
theorem cnt_three {C : List Int} {v : Int} {N x y z : Nat} (hxy : x ≠ y) (hyz : y ≠ z) (hxz : x ≠ z) (hx : x < N) (hy : y < N) (hz : z < N) (h : ∀ j, j < N → (C.getD j 0 = v ↔ j = x ∨ j = y ∨ j = z)) : cnt C v N = 3 := by
  have : ∀ j, j ≤ N → cnt C v j = (if x < j then 1 else 0) + (if y < j then 1 else 0) + (if z < j then 1 else 0) := by
    intro j
    induction j with
    | zero => intro _; rfl
    | succ j ih =>
      intro hj
      rw [cnt, ih (by omega)]
      have hh := h j (by omega)
      by_cases e : C.getD j 0 = v
      · rw [if_pos e]
        rcases hh.1 e with e | e | e <;> subst e <;> (repeat' split) <;> omega
      · rw [if_neg e]
        have hn : ¬ (j = x ∨ j = y ∨ j = z) := fun q => e (hh.2 q)
        (repeat' split) <;> omega
  rw [this N (Nat.le_refl _), if_pos hx, if_pos hy, if_pos hz]
section
variable {ts : List (List GFace)} (hv : Val ts) {C : List Int} {a e : Nat} (ha : a < ts.length) (he : e < 6)
include hv ha he
theorem s32_l5 {a' : Nat} (ha' : a' < ts.length) {R : List Int × List (List GFace) × List GL12Outer × Bool}
    (h : Tends2 (fun K k => spec_l12Plan32.l1 K k ts (a : Int) (e : Int) (rowsOf C 6 ts.length) (cnt C (C.getD (6 * a + e) 0) (6 * (a' + 1)) : Int) ((a' + 1 : Nat) : Int)) R) :
    ∀ (d e' : Nat), 6 - e' = d → e' ≤ 6 → Tends2 (fun K k => spec_l12Plan32.l5 K k ts (a : Int) (e : Int) (rowsOf C 6 ts.length) (a' : Int) (cnt C (C.getD (6 * a + e) 0) (6 * a' + e') : Int) (e' : Int)) R
  | 0, e', hd, hle => by
    have h8 := hv.le
    obtain rfl : e' = 6 := by omega
    refine Tends2.step (fun K k => ?_) h
    rw [spec_l12Plan32.l5, if_neg (by omega), w64_succ (by omega)]; rfl
  | d + 1, e', hd, hle => by
    have h8 := hv.le
    have ih := s32_l5 ha' h d (e' + 1) (by omega) (by omega)
    have hcl := cnt_le C (C.getD (6 * a + e) 0) (6 * a' + e')
    refine Tends2.succ ?_
    simp only [spec_l12Plan32.l5]
    refine Tends2.pos (by omega) (Tends2.pos (by rw [rowsOf_len]; omega) ?_)
    simp only [Int.toNat_natCast, rowsOf_get ha', rowsOf_get ha, rowAt_get (show e' < 6 by omega), rowAt_get he]
    refine Tends2.pos (by rw [rowAt_len]; omega) ?_
    rw [w64_succ (by omega), w64_succ (by omega)]
    rw [show 6 * a' + (e' + 1) = 6 * a' + e' + 1 by omega, cnt] at ih
    by_cases hc : C.getD (6 * a' + e') 0 = C.getD (6 * a + e) 0
    · rw [if_pos hc] at ih
      exact Tends2.pos hc ih
    · rw [if_neg hc] at ih
      exact Tends2.neg hc ih
theorem s32_l1 {R : List Int × List (List GFace) × List GL12Outer × Bool}
    (h : Tends2 (fun K k => spec_l12Plan32.l1 K k ts (a : Int) (e : Int) (rowsOf C 6 ts.length) (cnt C (C.getD (6 * a + e) 0) (6 * ts.length) : Int) (ts.length : Int)) R) :
    ∀ (d a' : Nat), ts.length - a' = d → a' ≤ ts.length → Tends2 (fun K k => spec_l12Plan32.l1 K k ts (a : Int) (e : Int) (rowsOf C 6 ts.length) (cnt C (C.getD (6 * a + e) 0) (6 * a') : Int) (a' : Int)) R
  | 0, a', hd, hle => by
    obtain rfl : a' = ts.length := by omega
    exact h
  | d + 1, a', hd, hle => by
    have := s32_l5 hv ha he (show a' < ts.length by omega) (s32_l1 h d (a' + 1) (by omega) (by omega)) 6 0 rfl (by omega)
    refine Tends2.step (fun K k => ?_) this
    rw [spec_l12Plan32.l1, if_pos (by rw [rowsOf_len]; omega)]; rfl
section
variable {V E F : List Int} (hB : Tends (fun K => spec_BoundaryClasses.f K ts) (V, E, F)) (hE : E.length ≤ 100) {Sg : List Int} (hS : Tends (fun K => spec_l08Signs.f K ts) (rowsOf Sg 6 ts.length))
include hB hE hS
theorem s32_end {x : Nat} {R : List Int × List (List GFace) × List GL12Outer × Bool} (h3 : x ≠ 3 → R = ([], [], [], false)) (h0 : x = 3 → Sg.getD (6 * a + e) 0 = 0 → R = ([], [], [], false)) (hb : x = 3 → Sg.getD (6 * a + e) 0 ≠ 0 → C.getD (6 * a + e) 0 ∈ E → R = ([], [], [], false))
    (hr : x = 3 → Sg.getD (6 * a + e) 0 ≠ 0 → ¬ C.getD (6 * a + e) 0 ∈ E → ∃ ring, Tends (fun K => spec_l08Ring.f K ts (C.getD (6 * a + e) 0)) ring ∧ (ring.length ≠ 3 → R = ([], [], [], false)) ∧
      (ring.length = 3 → ((ring.getD 0 z_GFace).Tet = (ring.getD 1 z_GFace).Tet ∨ (ring.getD 1 z_GFace).Tet = (ring.getD 2 z_GFace).Tet ∨ (ring.getD 0 z_GFace).Tet = (ring.getD 2 z_GFace).Tet) → R = ([], [], [], false)) ∧
      (ring.length = 3 → (ring.getD 0 z_GFace).Tet ≠ (ring.getD 1 z_GFace).Tet → (ring.getD 1 z_GFace).Tet ≠ (ring.getD 2 z_GFace).Tet → (ring.getD 0 z_GFace).Tet ≠ (ring.getD 2 z_GFace).Tet → Tends2 (fun K k => spec_l12Plan32.l6 K k ring free4 free4 [] [] 0) R)) :
    Tends2 (fun K k => spec_l12Plan32.l1 K k ts (a : Int) (e : Int) (rowsOf C 6 ts.length) (x : Int) (ts.length : Int)) R := by
  have h8 := hv.le
  refine Tends2.succ ?_
  simp only [spec_l12Plan32.l1]
  refine Tends2.neg (by rw [rowsOf_len]; omega) ?_
  by_cases hx : x = 3
  rotate_left
  · rw [h3 hx]
    exact Tends2.neg (by omega) (Tends2.const _)
  refine Tends2.pos (by omega) ?_
  refine Tends2.bind3 hB.two ?_
  refine Tends2.bind hS.two ?_
  refine Tends2.pos (by rw [rowsOf_len]; omega) ?_
  simp only [Int.toNat_natCast, rowsOf_get ha, rowAt_get he]
  refine Tends2.pos (by rw [rowAt_len]; omega) ?_
  by_cases hs : Sg.getD (6 * a + e) 0 = 0
  · rw [h0 hx hs]; exact Tends2.pos hs (Tends2.const _)
  refine Tends2.neg hs ?_
  refine Tends2.bind (has_t (by omega)).two ?_
  by_cases hm : C.getD (6 * a + e) 0 ∈ E
  · rw [hb hx hs hm]; exact Tends2.pos (decide_eq_true hm) (Tends2.const _)
  refine Tends2.neg (by rw [decide_eq_true_eq]; exact hm) ?_
  obtain ⟨ring, g1, g2, g3, g4⟩ := hr hx hs hm
  refine Tends2.bind g1.two ?_
  by_cases hl : ring.length = 3
  rotate_left
  · rw [g2 hl]; exact Tends2.neg (by omega) (Tends2.const _)
  refine Tends2.pos (by omega) (Tends2.pos (by omega) ?_)
  simp only [bnd_eq]
  refine Tends2.pos (by omega) ?_
  by_cases e1 : (ring.getD 0 z_GFace).Tet = (ring.getD 1 z_GFace).Tet
  · rw [g3 hl (.inl e1)]; exact Tends2.pos e1 (Tends2.const _)
  refine Tends2.neg e1 (Tends2.pos (by omega) ?_)
  by_cases e2 : (ring.getD 1 z_GFace).Tet = (ring.getD 2 z_GFace).Tet
  · rw [g3 hl (.inr (.inl e2))]; exact Tends2.pos e2 (Tends2.const _)
  refine Tends2.neg e2 ?_
  by_cases e3 : (ring.getD 0 z_GFace).Tet = (ring.getD 2 z_GFace).Tet
  · rw [g3 hl (.inr (.inr e3))]; exact Tends2.pos e3 (Tends2.const _)
  refine Tends2.neg e3 ?_
  refine Tends2.bind (a := free4) (Tends2.const _) ?_
  refine Tends2.bind (a := free4) (Tends2.const _) ?_
  refine Tends2.pos (by decide) (Tends2.pos (by decide) (Tends2.pos (by decide) (Tends2.pos (by decide) ?_)))
  exact g4 hl e1 e2 e3
end
end
end Go.Proofs.YtbjfinndngafoaaGreat
set_option linter.unusedVariables false
set_option linter.unusedSimpArgs false
set_option linter.unusedSectionVars false
namespace Go.Proofs.YtbjfinndngafoaaGreat
open Go.RowKit
theorem least_of {P : Nat → Prop} : ∀ n, P n → ∃ m, m ≤ n ∧ P m ∧ ∀ j, j < m → ¬ P j := by
  intro n
  induction n using Nat.strongRecOn with
  | _ n ih =>
    intro hn
    by_cases h : ∃ j, j < n ∧ P j
    · obtain ⟨j, h1, h2⟩ := h
      obtain ⟨m, a, b⟩ := ih j h1 h2
      exact ⟨m, by omega, b⟩
    · exact ⟨n, Nat.le_refl _, hn, fun j h1 h2 => h ⟨j, h1, h2⟩⟩
def after32 (K : Nat) (t41 : List GFace) : Option (Option (List Int × List (Arr2 × GPlace) × Int × List Arr4)) := (if (t41.length : Int) = 3 then (if 0 ≤ (0 : Int) ∧ (0 : Int) < (t41.length : Int) then (bnd (t41.getD 0 z_GFace) (fun e62 => if 0 ≤ (1 : Int) ∧ (1 : Int) < (t41.length : Int) then (bnd (t41.getD 1 z_GFace) (fun e66 => if e62.Tet = e66.Tet then (some none) else (if 0 ≤ (2 : Int) ∧ (2 : Int) < (t41.length : Int) then (bnd (t41.getD 2 z_GFace) (fun e70 => if e66.Tet = e70.Tet then (some none) else (if e70.Tet = e62.Tet then (some none) else (Go.Proofs.YtbjfinndngafoaaGreat.bind4 (impl_newChange.f 2 ([e62.Tet, e66.Tet, e70.Tet] : List Int)) (fun t79 t80 t81 t82 => (impl_Triangulation_change32.l1 K K t41 t79 t81 t82 t80 0)))))) else none))) else none)) else none) else (some none))
theorem a32_no {ring : List GFace} (h : ring.length ≠ 3 ∨ (ring.length = 3 ∧ ((ring.getD 0 z_GFace).Tet = (ring.getD 1 z_GFace).Tet ∨ (ring.getD 1 z_GFace).Tet = (ring.getD 2 z_GFace).Tet ∨ (ring.getD 0 z_GFace).Tet = (ring.getD 2 z_GFace).Tet))) : Tends (fun K => after32 K ring) none := by
  unfold after32
  by_cases hl : ring.length = 3
  rotate_left
  · exact Tends.neg (by omega) (Tends.const _)
  refine Tends.pos (by omega) (Tends.pos (by omega) ?_)
  simp only [bnd_eq]
  refine Tends.pos (by omega) ?_
  by_cases e1 : (ring.getD 0 z_GFace).Tet = (ring.getD 1 z_GFace).Tet
  · exact Tends.pos e1 (Tends.const _)
  refine Tends.neg e1 (Tends.pos (by omega) ?_)
  by_cases e2 : (ring.getD 1 z_GFace).Tet = (ring.getD 2 z_GFace).Tet
  · exact Tends.pos e2 (Tends.const _)
  refine Tends.neg e2 ?_
  by_cases e3 : (ring.getD 2 z_GFace).Tet = (ring.getD 0 z_GFace).Tet
  · exact Tends.pos e3 (Tends.const _)
  · rcases h with h | ⟨_, h | h | h⟩
    · exact absurd hl h
    · exact absurd h e1
    · exact absurd h e2
    · exact absurd h.symm e3
theorem a32_yes {c0 c1 c2 : Nat × Nat} (h0 : c0.2 < 24) (h1 : c1.2 < 24) (h2 : c2.2 < 24) (e1 : c0.1 ≠ c1.1) (e2 : c1.1 ≠ c2.1) (e3 : c0.1 ≠ c2.1) : Tends (fun K => after32 K [crn c0, crn c1, crn c2]) (some ([(c0.1 : Int), (c1.1 : Int), (c2.1 : Int)], (O32 c0 c1 c2).foldl putO [], 2, in32)) := by
  unfold after32
  refine Tends.pos (by show ((3 : Nat) : Int) = 3; omega) (Tends.pos (by show 0 ≤ (0 : Int) ∧ (0 : Int) < ((3 : Nat) : Int); omega) ?_)
  simp only [bnd_eq]
  refine Tends.pos (by show 0 ≤ (1 : Int) ∧ (1 : Int) < ((3 : Nat) : Int); omega) ?_
  refine Tends.neg (by show ¬ ((c0.1 : Int) = (c1.1 : Int)); omega) ?_
  refine Tends.pos (by show 0 ≤ (2 : Int) ∧ (2 : Int) < ((3 : Nat) : Int); omega) ?_
  refine Tends.neg (by show ¬ ((c1.1 : Int) = (c2.1 : Int)); omega) ?_
  refine Tends.neg (by show ¬ ((c2.1 : Int) = (c0.1 : Int)); omega) ?_
  exact Tends.bind4 (a := [(c0.1 : Int), (c1.1 : Int), (c2.1 : Int)]) (b := []) (c := 2) (d := []) (Tends.const _) (i32_all h0 h1 h2 _ _)
section
variable {ts : List (List GFace)} (hv : Val ts) (hT : Tends (fun K => spec_IsTriangulation.f K ts) true)
include hv hT
theorem c32_t {a e : Nat} (ha : a < ts.length) (he : e < 6) :
    (Tends (fun K => impl_Triangulation_change32.f K ts (a : Int) (e : Int)) none ∧ Tends (fun K => spec_l12Plan32.f K ts (a : Int) (e : Int)) ([], [], [], false)) ∨
    (∃ c0 c1 c2 : Nat × Nat, (c0.1 < ts.length ∧ c0.2 < 24) ∧ (c1.1 < ts.length ∧ c1.2 < 24) ∧ (c2.1 < ts.length ∧ c2.2 < 24) ∧ nx ts c0 = some c1 ∧ nx ts c1 = some c2 ∧ nx ts c2 = some c0 ∧ c0.1 ≠ c1.1 ∧ c1.1 ≠ c2.1 ∧ c0.1 ≠ c2.1 ∧
      Tends (fun K => impl_Triangulation_change32.f K ts (a : Int) (e : Int)) (some ([(c0.1 : Int), (c1.1 : Int), (c2.1 : Int)], (O32 c0 c1 c2).foldl putO [], 2, in32)) ∧
      Tends (fun K => spec_l12Plan32.f K ts (a : Int) (e : Int)) ([(c0.1 : Int), (c1.1 : Int), (c2.1 : Int)], fr32, O32 c0 c1 c2, true)) := by
  have h8 := hv.le
  obtain ⟨vs, ys, fs, h1, hPL, h3, hcnt⟩ := count_t hv
  have hP := hPL.1
  obtain ⟨s', hP', hc'⟩ := edgeClasses_t hv
  have hc : Tends (fun K => impl_Triangulation_edgeClasses.f K ts) (CN (6 * ts.length) ys) := by rw [CN_same (hP.same hP')]; exact hc'
  obtain ⟨Sg, hS, hz, hs, hss⟩ := signs_t hv hP
  obtain ⟨o1, r1, r2, r3⟩ := reversed_t hv hP hc hS hz (hs hc)
  obtain ⟨o2, b1, b2, b3⟩ := boundary_t hv hP hc
  obtain ⟨V, E, F, g1, g2, g3⟩ := bc_t hv hT hcnt
  have hj : 6 * a + e < 6 * ts.length := mul_lt ha he
  obtain ⟨cr1, cr2, cr3⟩ := cn_range (s := ys) (N := 6 * ts.length) (by omega) hj
  obtain ⟨c, hcj⟩ : ∃ c : Nat, (CN (6 * ts.length) ys).getD (6 * a + e) 0 = (c : Int) := ⟨((CN (6 * ts.length) ys).getD (6 * a + e) 0).toNat, by omega⟩
  have r3 := r3 _ hj
  have g3 := g3 _ hj
  have front := fun {R} => s32_l1 (C := CN (6 * ts.length) ys) hv ha he (R := R)
  rw [hcj] at r3 g3 cr2 front
  rw [Int.toNat_natCast] at r3
  have w : w64 ((w64 (6 * (a : Int))) + (e : Int)) = ((6 * a + e : Nat) : Int) := w6 (c := 6) (by omega) (by omega) (by omega)
  have I : ∀ r, Tends (fun K => if (o1.getD c false) = true then (some none) else ((impl_Triangulation_boundaryEdges.f K ts).bind fun t33 => (if 0 ≤ (c : Int) ∧ (c : Int) < (t33.length : Int) then (if (t33.getD c false) = true then (some none) else ((impl_Triangulation_ring.f K ts (c : Int)).bind fun t41 => after32 K t41)) else none))) r → Tends (fun K => impl_Triangulation_change32.f K ts (a : Int) (e : Int)) r := fun r h => by
    refine Tends.bind hc ?_
    simp only [w, Int.toNat_natCast, hcj]
    refine Tends.pos (by rw [CN_len]; omega) ?_
    refine Tends.bind r1 (Tends.pos (by omega) h)
  have S : ∀ R, Tends2 (fun K k => spec_l12Plan32.l1 K k ts (a : Int) (e : Int) (rowsOf (CN (6 * ts.length) ys) 6 ts.length) (cnt (CN (6 * ts.length) ys) (c : Int) (6 * ts.length) : Int) (ts.length : Int)) R → Tends (fun K => spec_l12Plan32.f K ts (a : Int) (e : Int)) R := fun R h => by
    refine Tends.bind4 hcnt ?_
    refine Tends.pos (by rw [rowsOf_len]; omega) ?_
    simp only [Int.toNat_natCast, rowsOf_get ha]
    refine Tends.pos (by rw [rowAt_len]; omega) ?_
    exact (front h ts.length 0 rfl (by omega)).diag
  have En := fun {x : Nat} {R} => s32_end (C := CN (6 * ts.length) ys) hv ha he g1 g2 hss (x := x) (R := R)
  rw [hcj] at En
  by_cases hsg : Sg.getD (6 * a + e) 0 = 0
  · refine .inl ⟨I _ (Tends.pos (by rw [r3]; exact decide_eq_true hsg) (Tends.const _)), S _ (En (fun _ => rfl) (fun _ _ => rfl) (fun _ _ _ => rfl) (fun _ h => absurd hsg h))⟩
  have I1 : ∀ r, Tends (fun K => if (o2.getD c false) = true then (some none) else ((impl_Triangulation_ring.f K ts (c : Int)).bind fun t41 => after32 K t41)) r → Tends (fun K => impl_Triangulation_change32.f K ts (a : Int) (e : Int)) r := fun r h => I r (Tends.neg (by rw [r3, decide_eq_true_eq]; exact hsg) (Tends.bind b1 (Tends.pos (by omega) h)))
  by_cases hbd : o2.getD c false = true
  · have hE : (c : Int) ∈ E := g3.2 ((b3 c).1 hbd)
    exact .inl ⟨I1 _ (Tends.pos hbd (Tends.const _)), S _ (En (fun _ => rfl) (fun _ _ => rfl) (fun _ _ _ => rfl) (fun _ _ h => absurd hE h))⟩
  have hbf : o2.getD c false = false := Bool.eq_false_iff.2 hbd
  have hE : ¬ (c : Int) ∈ E := fun h => hbd ((b3 c).2 (g3.1 h))
  obtain ⟨j0, j1, j2, j3⟩ := least_of (P := fun j => (CN (6 * ts.length) ys).getD j 0 = (c : Int)) _ hcj
  have hj0 : j0 < 6 * ts.length := by omega
  obtain ⟨hI, st1, st2⟩ := start_both hv hP hc hcnt b1 b2 b3 hj0 j2 j3 hbf
  obtain ⟨s1, s2, s3, s4⟩ := ST_of (show j0 % 6 < 6 by omega)
  have hC : Cor ts (CN (6 * ts.length) ys) (c : Int) (j0 / 6, ST (j0 % 6)) := ⟨by show j0 / 6 < ts.length; omega, s1, by
    show (CN (6 * ts.length) ys).getD (6 * (j0 / 6) + EE (PA (ST (j0 % 6)) 0) (PA (ST (j0 % 6)) 1)) 0 = _
    rw [s4, show 6 * (j0 / 6) + j0 % 6 = j0 by omega]; exact j2⟩
  obtain ⟨m, m1, m2, m3, m4⟩ := orbit hv hP hI hC
  have R1 : Tends (fun K => impl_Triangulation_ring.f K ts (c : Int)) (crns ts (j0 / 6, ST (j0 % 6)) m) := Tends.bind2 st1 (ring_i hv hP hI hC m2 m3 m4 _ 0 rfl (by omega)).diag
  have R2 : Tends (fun K => spec_l08Ring.f K ts (c : Int)) (crns ts (j0 / 6, ST (j0 % 6)) m) := Tends.bind2 st2 (ring_s hv hP hI hC m2 m3 m4 _ 0 rfl (by omega)).diag
  have I2 : ∀ r, Tends (fun K => after32 K (crns ts (j0 / 6, ST (j0 % 6)) m)) r → Tends (fun K => impl_Triangulation_change32.f K ts (a : Int) (e : Int)) r := fun r h => I1 r (Tends.neg (by rw [hbf]; decide) (Tends.bind R1 h))
  by_cases hno : (crns ts (j0 / 6, ST (j0 % 6)) m).length ≠ 3 ∨ ((crns ts (j0 / 6, ST (j0 % 6)) m).length = 3 ∧ (((crns ts (j0 / 6, ST (j0 % 6)) m).getD 0 z_GFace).Tet = ((crns ts (j0 / 6, ST (j0 % 6)) m).getD 1 z_GFace).Tet ∨ ((crns ts (j0 / 6, ST (j0 % 6)) m).getD 1 z_GFace).Tet = ((crns ts (j0 / 6, ST (j0 % 6)) m).getD 2 z_GFace).Tet ∨ ((crns ts (j0 / 6, ST (j0 % 6)) m).getD 0 z_GFace).Tet = ((crns ts (j0 / 6, ST (j0 % 6)) m).getD 2 z_GFace).Tet))
  · refine .inl ⟨I2 _ (a32_no hno), S _ (En (fun _ => rfl) (fun _ _ => rfl) (fun _ _ _ => rfl) (fun _ _ _ => ⟨_, R2, fun _ => rfl, fun _ _ => rfl, fun q1 q2 q3 q4 => ?_⟩))⟩
    rcases hno with h | ⟨_, h | h | h⟩
    · exact absurd q1 h
    · exact absurd h q2
    · exact absurd h q3
    · exact absurd h q4
  · have hm : m = 3 := by
      have : ¬ (crns ts (j0 / 6, ST (j0 % 6)) m).length ≠ 3 := fun h => hno (.inl h)
      rw [crns_len] at this; omega
    subst hm
    have hl3 : crns ts (j0 / 6, ST (j0 % 6)) 3 = [crn (it ts (j0 / 6, ST (j0 % 6)) 0), crn (it ts (j0 / 6, ST (j0 % 6)) 1), crn (it ts (j0 / 6, ST (j0 % 6)) 2)] := rfl
    have k0 := it_cor hv hP hI hC 0
    have k1 := it_cor hv hP hI hC 1
    have k2 := it_cor hv hP hI hC 2
    have n0 := (it_nx hv hP hI hC 0).1
    have n1 := (it_nx hv hP hI hC 1).1
    have n2 := (it_nx hv hP hI hC 2).1
    have all : ∀ j, j < 6 * ts.length → ((CN (6 * ts.length) ys).getD j 0 = (c : Int) ↔ j = eo (it ts (j0 / 6, ST (j0 % 6)) 0) ∨ j = eo (it ts (j0 / 6, ST (j0 % 6)) 1) ∨ j = eo (it ts (j0 / 6, ST (j0 % 6)) 2)) := fun j hj => by
      rw [ring_all hv hP hI hC m1 m3 hj]
      constructor
      · rintro ⟨k, hk, e⟩
        rcases (by omega : k = 0 ∨ k = 1 ∨ k = 2) with rfl | rfl | rfl
        · exact .inl e
        · exact .inr (.inl e)
        · exact .inr (.inr e)
      · rintro (e | e | e)
        · exact ⟨0, by omega, e⟩
        · exact ⟨1, by omega, e⟩
        · exact ⟨2, by omega, e⟩
    have hlen : (crns ts (j0 / 6, ST (j0 % 6)) 3).length = 3 := crns_len _ _ _
    rw [hl3] at hno I2 R2 hlen
    have n2 : nx ts (it ts (j0 / 6, ST (j0 % 6)) 2) = some (it ts (j0 / 6, ST (j0 % 6)) 0) := n2.trans (congrArg some m3)
    generalize it ts (j0 / 6, ST (j0 % 6)) 0 = c0 at *
    generalize it ts (j0 / 6, ST (j0 % 6)) 1 = c1 at *
    generalize it ts (j0 / 6, ST (j0 % 6)) 2 = c2 at *
    have d1 : c0.1 ≠ c1.1 := fun h => hno (.inr ⟨hlen, .inl (by show (c0.1 : Int) = (c1.1 : Int); omega)⟩)
    have d2 : c1.1 ≠ c2.1 := fun h => hno (.inr ⟨hlen, .inr (.inl (by show (c1.1 : Int) = (c2.1 : Int); omega))⟩)
    have d3 : c0.1 ≠ c2.1 := fun h => hno (.inr ⟨hlen, .inr (.inr (by show (c0.1 : Int) = (c2.1 : Int); omega))⟩)
    refine .inr ⟨c0, c1, c2, ⟨k0.tet, k0.perm⟩, ⟨k1.tet, k1.perm⟩, ⟨k2.tet, k2.perm⟩, n0, n1, n2, d1, d2, d3, I2 _ (a32_yes k0.perm k1.perm k2.perm d1 d2 d3), S _ ?_⟩
    have f0 := eo_of k0.perm
    have f1 := eo_of k1.perm
    have f2 := eo_of k2.perm
    have lt : ∀ {x : Nat × Nat}, Cor ts (CN (6 * ts.length) ys) (c : Int) x → eo x < 6 * ts.length := fun h => mul_lt h.tet (eo_of h.perm).2.2.2.1
    have h3 : cnt (CN (6 * ts.length) ys) (c : Int) (6 * ts.length) = 3 := cnt_three (by omega) (by omega) (by omega) (lt k0) (lt k1) (lt k2) all
    refine En (fun h => absurd h3 h) (fun _ h => absurd h hsg) (fun _ _ h => absurd h hE) (fun _ _ _ => ⟨_, R2, fun h => absurd rfl h, fun _ q => ?_, fun _ _ _ _ => s32_all k0.perm k1.perm k2.perm⟩)
    exact (hno (.inr ⟨rfl, q⟩)).elim
end
end Go.Proofs.YtbjfinndngafoaaGreat
set_option linter.unusedVariables false
set_option linter.unusedSimpArgs false
set_option linter.unusedSectionVars false
namespace Go.Proofs.YtbjfinndngafoaaGreat
open Go.RowKit
theorem scan_all {α : Type} {l : Nat → Nat → Nat → Option α} {n : Nat} {P : Nat → Bool} {r : α} (go : ∀ i, i < n → P i = true → ∀ v, Tends2 (fun K k => l K k (i + 1)) v → Tends2 (fun K k => l K k i) v) (h : allB n P = true) (fin : Tends2 (fun K k => l K k n) r) : Tends2 (fun K k => l K k 0) r := by
  have main : ∀ m i, n - i = m → i ≤ n → Tends2 (fun K k => l K k i) r := by
    intro m
    induction m with
    | zero =>
      intro i h1 h2
      obtain rfl : i = n := by omega
      exact fin
    | succ m ih => intro i h1 h2; exact go i (by omega) (allB_get h (by omega)) _ (ih (i + 1) (by omega) (by omega))
  exact main n 0 rfl (Nat.zero_le _)
theorem exc_i {a b : Nat} (ha : a < 4) (hb : b < 4) (hab : a ≠ b) : Tends (fun K => impl_exchange.f K (a : Int) (b : Int)) (EXC a b : Int) :=
  tabP (F := fun K a b => impl_exchange.f K (a : Int) (b : Int)) (g := fun a b => (EXC a b : Int)) (m := 60) (by kernel_rfl) ha hb hab
theorem exc_s {a b : Nat} (ha : a < 4) (hb : b < 4) (hab : a ≠ b) : Tends (fun K => spec_l12Exchange.f K (a : Int) (b : Int)) (EXC a b : Int) :=
  tabP (F := fun K a b => spec_l12Exchange.f K (a : Int) (b : Int)) (g := fun a b => (EXC a b : Int)) (m := 60) (by kernel_rfl) ha hb hab
theorem EXC_lt {a b : Nat} (ha : a < 4) (hb : b < 4) : a ≠ b → EXC a b < 24 := by
  have : ∀ a, a < 4 → ∀ b, b < 4 → a ≠ b → EXC a b < 24 := by decide +kernel
  exact this a ha b hb
section
variable {ts : List (List GFace)} (hv : Val ts) {a A : Nat} (ha : a < ts.length) (hA : A < 4)
include hv ha hA
theorem i41_stop {t11 : List Int} (hl : t11.length = 3) {i y : Nat} (hi : i < 3) (hy : y < 4) (ht : t11.getD i 0 = (y : Int)) (hb : (face ts a y).Tet < 0) {o1 o2 o3 o4 o5 o6 o7 o8 : Int} :
    Tends2 (fun K k => impl_Triangulation_star.l1 K k ts (a : Int) (A : Int) t11 o1 o2 o3 o4 o5 o6 o7 o8 (i : Int)) (o1, o2, o3, o4, o5, o6, o7, o8, false) := by
  have h8 := hv.le
  have hr := hv.four a ha
  refine Tends2.succ ?_
  simp only [impl_Triangulation_star.l1, Int.toNat_natCast, ht, bnd_eq]
  refine Tends2.pos (by omega) (Tends2.pos (by omega) (Tends2.pos (by omega) (Tends2.pos (by omega) ?_)))
  show Tends2 (fun K k => if decide ((face ts a y).Tet < 0) = true then _ else _) _
  exact Tends2.pos (decide_eq_true hb) (Tends2.const _)
theorem i41_go {t11 : List Int} (hl : t11.length = 3) {i y : Nat} (hi : i < 3) (hy : y < 4) (hyA : A ≠ y) (ht : t11.getD i 0 = (y : Int)) {b q : Nat} (hb : face ts a y = ⟨b, q⟩) (hq : q < 24) {o1 o2 o3 o4 o5 o6 o7 o8 : Int} {R : Int × Int × Int × Int × Int × Int × Int × Int × Bool}
    (h : Tends2 (fun K k => impl_Triangulation_star.l1 K k ts (a : Int) (A : Int) t11 (se 0 (y : Int) (b : Int) o1) (se 0 (y : Int) (PM (PI q) (EXC A y) : Int) o2) (se 1 (y : Int) (b : Int) o3) (se 1 (y : Int) (PM (PI q) (EXC A y) : Int) o4) (se 2 (y : Int) (b : Int) o5) (se 2 (y : Int) (PM (PI q) (EXC A y) : Int) o6) (se 3 (y : Int) (b : Int) o7) (se 3 (y : Int) (PM (PI q) (EXC A y) : Int) o8) ((i + 1 : Nat) : Int)) R) :
    Tends2 (fun K k => impl_Triangulation_star.l1 K k ts (a : Int) (A : Int) t11 o1 o2 o3 o4 o5 o6 o7 o8 (i : Int)) R := by
  have h8 := hv.le
  have hr := hv.four a ha
  have hb' : (ts.getD a []).getD y z_GFace = ⟨b, q⟩ := hb
  refine Tends2.succ ?_
  simp only [impl_Triangulation_star.l1, Int.toNat_natCast, ht, bnd_eq, hb']
  refine Tends2.pos (by omega) (Tends2.pos (by omega) (Tends2.pos (by omega) (Tends2.pos (by omega) ?_)))
  refine Tends2.bind (a := decide ((b : Int) < 0)) (Tends2.const _) ?_
  refine Tends2.neg (by rw [decide_eq_true_eq]; omega) ?_
  refine Tends2.bind (invert_t hq).two ?_
  refine Tends2.bind (exc_i hA hy hyA).two ?_
  refine Tends2.bind (compose_t (PI_lt hq) (EXC_lt hA hy hyA)).two ?_
  refine Tends2.pos (by omega) ?_
  rw [w64_succ (by omega)]
  exact h
theorem s41_skip {T P : List Int} {R : List Int × List (List GFace) × List GL12Outer × Bool} (h : Tends2 (fun K k => spec_l12Plan41.l1 K k ts (a : Int) (A : Int) T P ((A + 1 : Nat) : Int)) R) : Tends2 (fun K k => spec_l12Plan41.l1 K k ts (a : Int) (A : Int) T P (A : Int)) R := by
  refine Tends2.step (fun K k => ?_) h
  rw [spec_l12Plan41.l1, if_pos (by omega), if_pos rfl, w64_succ (by omega)]
theorem s41_stop {T P : List Int} {y : Nat} (hy : y < 4) (hyA : A ≠ y) (hb : (face ts a y).Tet < 0) : Tends2 (fun K k => spec_l12Plan41.l1 K k ts (a : Int) (A : Int) T P (y : Int)) ([], [], [], false) := by
  have h8 := hv.le
  have hr := hv.four a ha
  refine Tends2.succ ?_
  simp only [spec_l12Plan41.l1, Int.toNat_natCast, bnd_eq]
  refine Tends2.pos (by omega) (Tends2.neg (by omega) (Tends2.pos (by omega) (Tends2.pos (by omega) ?_)))
  exact Tends2.pos hb (Tends2.const _)
theorem s41_go {T P : List Int} (hT : T.length = 4) (hP : P.length = 4) {y : Nat} (hy : y < 4) (hyA : A ≠ y) {b q : Nat} (hb : face ts a y = ⟨b, q⟩) (hq : q < 24) {R : List Int × List (List GFace) × List GL12Outer × Bool}
    (h : Tends2 (fun K k => spec_l12Plan41.l1 K k ts (a : Int) (A : Int) (T.set y (b : Int)) (P.set y (PM (PI q) (EXC A y) : Int)) ((y + 1 : Nat) : Int)) R) : Tends2 (fun K k => spec_l12Plan41.l1 K k ts (a : Int) (A : Int) T P (y : Int)) R := by
  have h8 := hv.le
  have hr := hv.four a ha
  have hb' : (ts.getD a []).getD y z_GFace = ⟨b, q⟩ := hb
  refine Tends2.succ ?_
  simp only [spec_l12Plan41.l1, Int.toNat_natCast, bnd_eq, hb']
  refine Tends2.pos (by omega) (Tends2.neg (by omega) (Tends2.pos (by omega) (Tends2.pos (by omega) ?_)))
  refine Tends2.neg (by omega) (Tends2.pos (by omega) ?_)
  refine Tends2.bind (back_t hq).two ?_
  refine Tends2.bind (exc_s hA hy hyA).two ?_
  refine Tends2.bind (then_t (PI_lt hq) (EXC_lt hA hy hyA)).two ?_
  refine Tends2.pos (by omega) ?_
  rw [w64_succ (by omega)]
  exact h
end
end Go.Proofs.YtbjfinndngafoaaGreat
