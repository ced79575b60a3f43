/-
  Triangulations: the corner behind a corner around its edge.
-/
import Derived.Test.YtbjfinndngafoaaGreatPlT16
set_option linter.unusedVariables false
set_option linter.unusedSimpArgs false
set_option linter.unusedSectionVars false
namespace Go.Proofs.YtbjfinndngafoaaGreat
open Go.RowKit
theorem indexOf_px {a b c d : Nat} (ha : a < 4) (hb : b < 4) (hc : c < 4) (hd : d < 4) (h : a ≠ b ∧ a ≠ c ∧ a ≠ d ∧ b ≠ c ∧ b ≠ d ∧ c ≠ d) : Tends (fun K => impl_indexOf.f K (a : Int) (b : Int) (c : Int) (d : Int)) (PX a b c d : Int) := by
  obtain ⟨h1, h2, h3, h4, h5⟩ := PX_of ha hb hc hd h
  have := indexOf_t h1
  rw [h2, h3, h4, h5] at this
  exact this
theorem index_px {a b c d : Nat} (ha : a < 4) (hb : b < 4) (hc : c < 4) (hd : d < 4) (h : a ≠ b ∧ a ≠ c ∧ a ≠ d ∧ b ≠ c ∧ b ≠ d ∧ c ≠ d) : Tends (fun K => spec_l06Index.f K [(a : Int), (b : Int), (c : Int), (d : Int)]) (PX a b c d : Int) := by
  obtain ⟨h1, h2, h3, h4, h5⟩ := PX_of ha hb hc hd h
  have := index_t h1
  rw [h2, h3, h4, h5] at this
  exact this
def NP (q p : Nat) : Nat := PX (PA q (PA p 0)) (PA q (PA p 1)) (PA q (PA p 3)) (PA q (PA p 2))
theorem PA_ne {p j k : Nat} (hp : p < 24) (hj : j < 4) (hk : k < 4) (h : j ≠ k) : PA p j ≠ PA p k := fun e => h (PA_inj hp hj hk e)
theorem NP_ne {p q j k : Nat} (hp : p < 24) (hq : q < 24) (hj : j < 4) (hk : k < 4) (h : j ≠ k) : PA q (PA p j) ≠ PA q (PA p k) := PA_ne hq (PA_lt hp hj) (PA_lt hp hk) (PA_ne hp hj hk h)
theorem NP_of {p q : Nat} (hp : p < 24) (hq : q < 24) : NP q p < 24 ∧ PA (NP q p) 0 = PA q (PA p 0) ∧ PA (NP q p) 1 = PA q (PA p 1) ∧ PA (NP q p) 2 = PA q (PA p 3) ∧ PA (NP q p) 3 = PA q (PA p 2) :=
  PX_of (PA_lt hq (PA_lt hp (by omega))) (PA_lt hq (PA_lt hp (by omega))) (PA_lt hq (PA_lt hp (by omega))) (PA_lt hq (PA_lt hp (by omega)))
    ⟨NP_ne hp hq (by omega) (by omega) (by omega), NP_ne hp hq (by omega) (by omega) (by omega), NP_ne hp hq (by omega) (by omega) (by omega), NP_ne hp hq (by omega) (by omega) (by omega), NP_ne hp hq (by omega) (by omega) (by omega), NP_ne hp hq (by omega) (by omega) (by omega)⟩
def nx (ts : List (List GFace)) (c : Nat × Nat) : Option (Nat × Nat) :=
  if (face ts c.1 (PA c.2 2)).Tet < 0 then none else some ((face ts c.1 (PA c.2 2)).Tet.toNat, NP (face ts c.1 (PA c.2 2)).Perm.toNat c.2)
def aft : Option (Nat × Nat) → Int × Int × Bool
  | none => (0, 0, false)
  | some c => ((c.1 : Int), (c.2 : Int), true)
section
variable {ts : List (List GFace)} (hv : Val ts)
include hv
theorem nx_cases {a p : Nat} (ha : a < ts.length) (hp : p < 24) : ((face ts a (PA p 2)).Tet < 0 ∧ nx ts (a, p) = none) ∨ (¬ (face ts a (PA p 2)).Tet < 0 ∧ ∃ b q : Nat, b < ts.length ∧ q < 24 ∧ face ts a (PA p 2) = ⟨b, q⟩ ∧ Glued ts a (PA p 2) b q ∧ nx ts (a, p) = some (b, NP q p)) := by
  unfold nx
  rcases face_cases hv ha (PA_lt hp (show 2 < 4 by omega)) with ⟨g1, g2⟩ | ⟨g1, b, q, hb, hq, g2, g3⟩
  · exact .inl ⟨g1, by rw [if_pos g1]⟩
  · refine .inr ⟨g1, b, q, hb, hq, g2, g3, ?_⟩
    rw [if_neg g1, g2]; rfl
theorem after_i {a p : Nat} (ha : a < ts.length) (hp : p < 24) : Tends (fun K => impl_Triangulation_after.f K ts (a : Int) (p : Int)) (aft (nx ts (a, p))) := by
  have h2 : PA p 2 < 4 := PA_lt hp (by omega)
  have h0 : PA p 0 < 4 := PA_lt hp (by omega)
  have h1 : PA p 1 < 4 := PA_lt hp (by omega)
  have h3 : PA p 3 < 4 := PA_lt hp (by omega)
  have hr := hv.four a ha
  refine Tends.bind4 (perm_t hp) ?_
  refine Tends.pos (by omega) ?_
  rw [Int.toNat_natCast]
  refine Tends.pos (by omega) ?_
  rw [Int.toNat_natCast]
  show Tends (fun K => if decide ((face ts a (PA p 2)).Tet < 0) = true then _ else _) _
  rcases nx_cases hv ha hp with ⟨g1, g2⟩ | ⟨g1, b, q, hb, hq, g2, g3, g4⟩
  · rw [g2]; exact Tends.pos (decide_eq_true g1) (Tends.const _)
  · rw [g4]
    refine Tends.neg (by rw [decide_eq_true_eq]; exact g1) ?_
    show Tends (fun K => Go.Proofs.YtbjfinndngafoaaGreat.bind4 (impl_perm.f K (face ts a (PA p 2)).Perm) _) _
    rw [g2]
    refine Tends.bind4 (perm_t hq) (Tends.pos (by omega) (Tends.pos (by omega) (Tends.pos (by omega) (Tends.pos (by omega) ?_))))
    have e2 := get4 (p := q) h2
    rw [Int.toNat_natCast] at e2
    rw [get4 h0, get4 h1, e2, get4 h3]
    refine Tends.bind (indexOf_px (PA_lt hq h0) (PA_lt hq h1) (PA_lt hq h3) (PA_lt hq h2) ⟨NP_ne hp hq (by omega) (by omega) (by omega), NP_ne hp hq (by omega) (by omega) (by omega), NP_ne hp hq (by omega) (by omega) (by omega), NP_ne hp hq (by omega) (by omega) (by omega), NP_ne hp hq (by omega) (by omega) (by omega), NP_ne hp hq (by omega) (by omega) (by omega)⟩) ?_
    show Tends (fun K => some ((face ts a (PA p 2)).Tet, _, true)) _
    rw [g2]
    exact Tends.const _
omit hv in
theorem after_step {p q : Nat} (hp : p < 24) (hq : q < 24) {t : Int} {im : List Int} {k s : Nat} {R : Int × Int × Bool} (hk : k < 4) (hs : s < 4) (hks : ([0, 1, 3, 2] : List Int).getD k 0 = (s : Int)) (hl : im.length ≤ 10)
    (h : Tends2 (fun K k' => spec_l08After.l1 K k' (p : Int) ⟨t, (q : Int)⟩ (im ++ [(PA q (PA p s) : Int)]) ((k + 1 : Nat) : Int)) R) : Tends2 (fun K k' => spec_l08After.l1 K k' (p : Int) ⟨t, (q : Int)⟩ im (k : Int)) R := by
  refine Tends2.step (G := fun K k' => (spec_l06At.f K (p : Int) (s : Int)).bind fun t69 => ((spec_l06At.f K (q : Int) t69).bind fun t73 => (if (im.length + 1) * 8 ≤ 140737488355328 then (spec_l08After.l1 K k' (p : Int) ⟨t, (q : Int)⟩ (im ++ [t73]) ((k + 1 : Nat) : Int)) else none))) (fun K k' => ?_) ?_
  · rw [spec_l08After.l1, if_pos (by omega), if_pos (by show 0 ≤ (k : Int) ∧ (k : Int) < 4; omega), Int.toNat_natCast, hks, w64_succ (by omega)]
  · exact Tends2.bind (G := fun K k' t69 => (spec_l06At.f K (q : Int) t69).bind fun t73 => (if (im.length + 1) * 8 ≤ 140737488355328 then (spec_l08After.l1 K k' (p : Int) ⟨t, (q : Int)⟩ (im ++ [t73]) ((k + 1 : Nat) : Int)) else none)) (at_t hp hs).two (Tends2.bind (G := fun K k' t73 => if (im.length + 1) * 8 ≤ 140737488355328 then (spec_l08After.l1 K k' (p : Int) ⟨t, (q : Int)⟩ (im ++ [t73]) ((k + 1 : Nat) : Int)) else none) (at_t hq (PA_lt hp hs)).two (Tends2.pos (by omega) h))
theorem after_s {a p : Nat} (ha : a < ts.length) (hp : p < 24) : Tends (fun K => spec_l08After.f K ts (a : Int) (p : Int)) (aft (nx ts (a, p))) := by
  have h2 : PA p 2 < 4 := PA_lt hp (by omega)
  have h0 : PA p 0 < 4 := PA_lt hp (by omega)
  have h1 : PA p 1 < 4 := PA_lt hp (by omega)
  have h3 : PA p 3 < 4 := PA_lt hp (by omega)
  have hr := hv.four a ha
  refine Tends.pos (by omega) (Tends.bind (at_t hp (show 2 < 4 by omega)) ?_)
  simp only [Int.toNat_natCast]
  refine Tends.pos (by omega) ?_
  show Tends (fun K => if (face ts a (PA p 2)).Tet < 0 then _ else spec_l08After.l1 K K (p : Int) (face ts a (PA p 2)) _ _) _
  rcases nx_cases hv ha hp with ⟨g1, g2⟩ | ⟨g1, b, q, hb, hq, g2, g3, g4⟩
  · rw [g2]; exact Tends.pos g1 (Tends.const _)
  · rw [g4]
    refine Tends.neg g1 ?_
    rw [g2]
    refine Tends2.diag (F := fun K k => spec_l08After.l1 K k (p : Int) ⟨(b : Int), (q : Int)⟩ [] ((0 : Nat) : Int)) ?_
    refine after_step hp hq (s := 0) (by omega) (by omega) rfl (by simp) ?_
    refine after_step hp hq (s := 1) (by omega) (by omega) rfl (by simp) ?_
    refine after_step hp hq (s := 3) (by omega) (by omega) rfl (by simp) ?_
    refine after_step hp hq (s := 2) (by omega) (by omega) rfl (by simp) ?_
    refine Tends2.step (G := fun K k' => (spec_l06Index.f K [(PA q (PA p 0) : Int), (PA q (PA p 1) : Int), (PA q (PA p 3) : Int), (PA q (PA p 2) : Int)]).bind fun t83 => some ((b : Int), t83, true)) (fun K k' => by rw [spec_l08After.l1, if_neg (by decide)]; rfl) ?_
    exact Tends2.bind (G := fun K k' t83 => some ((b : Int), t83, true)) (index_px (PA_lt hq h0) (PA_lt hq h1) (PA_lt hq h3) (PA_lt hq h2) ⟨NP_ne hp hq (by omega) (by omega) (by omega), NP_ne hp hq (by omega) (by omega) (by omega), NP_ne hp hq (by omega) (by omega) (by omega), NP_ne hp hq (by omega) (by omega) (by omega), NP_ne hp hq (by omega) (by omega) (by omega), NP_ne hp hq (by omega) (by omega) (by omega)⟩).two (Tends2.const _)
theorem nx_inj {a p a' p' : Nat} {c : Nat × Nat} (ha : a < ts.length) (hp : p < 24) (ha' : a' < ts.length) (hp' : p' < 24) (h : nx ts (a, p) = some c) (h' : nx ts (a', p') = some c) : a = a' ∧ p = p' := by
  rcases nx_cases hv ha hp with ⟨g1, g2⟩ | ⟨g1, b, q, hb, hq, g2, g3, g4⟩
  · rw [g2] at h; cases h
  rcases nx_cases hv ha' hp' with ⟨k1, k2⟩ | ⟨k1, b', q', hb', hq', k2, k3, k4⟩
  · rw [k2] at h'; cases h'
  rw [g4] at h
  rw [k4] at h'
  injection h with h
  injection h' with h'
  rw [← h'] at h
  injection h with e1 e2
  subst e1
  obtain ⟨n0, n1, n2, n3, n4⟩ := NP_of hp hq
  obtain ⟨m0, m1, m2, m3, m4⟩ := NP_of hp' hq'
  rw [← e2] at m1 m2 m3 m4
  have f1 := g3.2.2.2.1
  have f2 := k3.2.2.2.1
  have e3 : PA q (PA p 2) = PA q' (PA p' 2) := by omega
  rw [e3, f2] at f1
  injection f1 with f1 f3
  have e4 : a = a' := by omega
  have e5 : PI q = PI q' := by omega
  have e6 : q = q' := by rw [← PI_PI hq, e5, PI_PI hq']
  subst e6
  refine ⟨e4, PA_ext hp hp' fun k hk => ?_⟩
  have up : ∀ j, j < 4 → PA q (PA p j) = PA q (PA p' j) → PA p j = PA p' j := fun j hj e => PA_inj hq (PA_lt hp hj) (PA_lt hp' hj) e
  rcases (by omega : k = 0 ∨ k = 1 ∨ k = 2 ∨ k = 3) with rfl | rfl | rfl | rfl
  · exact up 0 (by omega) (by omega)
  · exact up 1 (by omega) (by omega)
  · exact up 2 (by omega) (by omega)
  · exact up 3 (by omega) (by omega)
end
end Go.Proofs.YtbjfinndngafoaaGreat
