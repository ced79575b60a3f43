/-
  Triangulations: the star of a vertex.
-/
import Derived.Test.YtbjfinndngafoaaGreatPlT24
set_option linter.unusedVariables false
set_option linter.unusedSimpArgs false
set_option linter.unusedSectionVars false
namespace Go.Proofs.YtbjfinndngafoaaGreat
open Go.RowKit
def stT (ts : List (List GFace)) (a A x : Nat) : Nat := if x = A then a else (face ts a x).Tet.toNat
def stP (ts : List (List GFace)) (a A x : Nat) : Nat := if x = A then 0 else PM (PI (face ts a x).Perm.toNat) (EXC A x)
def l4 (f : Nat → Nat) : List Int := [(f 0 : Int), (f 1 : Int), (f 2 : Int), (f 3 : Int)]
def Round (ts : List (List GFace)) (a A : Nat) : Prop := ∀ x, x < 4 → x ≠ A → ∃ b q : Nat, b < ts.length ∧ q < 24 ∧ face ts a x = ⟨b, q⟩
theorem stT_of {ts : List (List GFace)} {a A x b q : Nat} (h : x ≠ A) (hf : face ts a x = ⟨b, q⟩) : stT ts a A x = b ∧ stP ts a A x = PM (PI q) (EXC A x) := by
  unfold stT stP
  rw [if_neg h, if_neg h, hf]; exact ⟨rfl, rfl⟩
theorem stT_at (ts : List (List GFace)) (a A : Nat) : stT ts a A A = a ∧ stP ts a A A = 0 := by
  unfold stT stP
  rw [if_pos rfl, if_pos rfl]; exact ⟨rfl, rfl⟩
section
variable {ts : List (List GFace)} (hv : Val ts)
include hv
theorem Round.no {a A x : Nat} (hx : x < 4) (hxA : x ≠ A) (hb : (face ts a x).Tet < 0) : ¬ Round ts a A := fun h => by
  obtain ⟨b, q, _, _, h1⟩ := h x hx hxA
  rw [h1] at hb
  have hb : (b : Int) < 0 := hb
  omega
theorem star1_0 {a : Nat} (ha : a < ts.length) : (¬ Round ts a 0 ∧ (∃ o1 o2 o3 o4 o5 o6 o7 o8, Tends (fun K => impl_Triangulation_star.f K ts (a : Int) ((0 : Nat) : Int)) (o1, o2, o3, o4, o5, o6, o7, o8, false)) ∧ Tends (fun K => spec_l12Plan41.f K ts (a : Int) ((0 : Nat) : Int)) ([], [], [], false)) ∨
    (Round ts a 0 ∧ (∀ R, Tends2 (fun K k => impl_Triangulation_star.l10 K k ts (stT ts a 0 0 : Int) (stP ts a 0 0 : Int) (stT ts a 0 1 : Int) (stP ts a 0 1 : Int) (stT ts a 0 2 : Int) (stP ts a 0 2 : Int) (stT ts a 0 3 : Int) (stP ts a 0 3 : Int) 0) R → Tends (fun K => impl_Triangulation_star.f K ts (a : Int) ((0 : Nat) : Int)) R) ∧
      (∀ R, Tends2 (fun K k => spec_l12Plan41.l8 K k ts (l4 (stT ts a 0)) (l4 (stP ts a 0)) 0) R → Tends (fun K => spec_l12Plan41.f K ts (a : Int) ((0 : Nat) : Int)) R)) := by
  have hA : 0 < 4 := by omega
  have I : ∀ R, Tends2 (fun K k => impl_Triangulation_star.l1 K k ts (a : Int) ((0 : Nat) : Int) (ints (OT [0])) (se 0 ((0 : Nat) : Int) (a : Int) 0) (se 0 ((0 : Nat) : Int) 0 0) (se 1 ((0 : Nat) : Int) (a : Int) 0) (se 1 ((0 : Nat) : Int) 0 0) (se 2 ((0 : Nat) : Int) (a : Int) 0) (se 2 ((0 : Nat) : Int) 0 0) (se 3 ((0 : Nat) : Int) (a : Int) 0) (se 3 ((0 : Nat) : Int) 0 0) ((0 : Nat) : Int)) R → Tends (fun K => impl_Triangulation_star.f K ts (a : Int) ((0 : Nat) : Int)) R := fun R h => by
    refine Tends.pos (by omega) (Tends.bind (others1_t hA) ?_)
    exact h.diag
  have S : ∀ R, Tends2 (fun K k => spec_l12Plan41.l1 K k ts (a : Int) ((0 : Nat) : Int) ([0, 0, 0, 0].set 0 (a : Int)) [0, 0, 0, 0] ((0 : Nat) : Int)) R → Tends (fun K => spec_l12Plan41.f K ts (a : Int) ((0 : Nat) : Int)) R := fun R h => by
    refine Tends.pos (by decide) ?_
    exact h.diag
  have e := stT_at ts a 0
  rcases face_cases hv ha (show 1 < 4 by omega) with ⟨g1, _⟩ | ⟨_, b1, q1, hb1, hq1, f1, _⟩
  · refine .inl ⟨Round.no hv (show 1 < 4 by omega) (by omega) g1, ?_, S _ ?_⟩
    · exact ⟨_, _, _, _, _, _, _, _, I _ (i41_stop hv ha hA rfl (i := 0) (y := 1) (by omega) (by omega) rfl g1)⟩
    · skip
      refine s41_skip hv ha hA ?_
      exact s41_stop hv ha hA (y := 1) (by omega) (by omega) g1
  rcases face_cases hv ha (show 2 < 4 by omega) with ⟨g2, _⟩ | ⟨_, b2, q2, hb2, hq2, f2, _⟩
  · refine .inl ⟨Round.no hv (show 2 < 4 by omega) (by omega) g2, ?_, S _ ?_⟩
    · exact ⟨_, _, _, _, _, _, _, _, I _ (i41_go hv ha hA rfl (i := 0) (y := 1) (by omega) (by omega) (by omega) rfl f1 hq1 (i41_stop hv ha hA rfl (i := 1) (y := 2) (by omega) (by omega) rfl g2))⟩
    · skip
      refine s41_skip hv ha hA ?_
      refine s41_go hv ha hA (by simp) (by simp) (y := 1) (by omega) (by omega) f1 hq1 ?_
      exact s41_stop hv ha hA (y := 2) (by omega) (by omega) g2
  rcases face_cases hv ha (show 3 < 4 by omega) with ⟨g3, _⟩ | ⟨_, b3, q3, hb3, hq3, f3, _⟩
  · refine .inl ⟨Round.no hv (show 3 < 4 by omega) (by omega) g3, ?_, S _ ?_⟩
    · exact ⟨_, _, _, _, _, _, _, _, I _ (i41_go hv ha hA rfl (i := 0) (y := 1) (by omega) (by omega) (by omega) rfl f1 hq1 (i41_go hv ha hA rfl (i := 1) (y := 2) (by omega) (by omega) (by omega) rfl f2 hq2 (i41_stop hv ha hA rfl (i := 2) (y := 3) (by omega) (by omega) rfl g3)))⟩
    · skip
      refine s41_skip hv ha hA ?_
      refine s41_go hv ha hA (by simp) (by simp) (y := 1) (by omega) (by omega) f1 hq1 ?_
      refine s41_go hv ha hA (by simp) (by simp) (y := 2) (by omega) (by omega) f2 hq2 ?_
      exact s41_stop hv ha hA (y := 3) (by omega) (by omega) g3
  obtain ⟨t1, p1⟩ := stT_of (A := 0) (by omega) f1
  obtain ⟨t2, p2⟩ := stT_of (A := 0) (by omega) f2
  obtain ⟨t3, p3⟩ := stT_of (A := 0) (by omega) f3
  refine .inr ⟨fun x hx hxA => ?_, fun R h => I _ ?_, fun R h => S _ ?_⟩
  · rcases (by omega : x = 1 ∨ x = 2 ∨ x = 3) with rfl | rfl | rfl
    · exact ⟨b1, q1, hb1, hq1, f1⟩
    · exact ⟨b2, q2, hb2, hq2, f2⟩
    · exact ⟨b3, q3, hb3, hq3, f3⟩
  · skip
    refine i41_go hv ha hA rfl (i := 0) (y := 1) (by omega) (by omega) (by omega) rfl f1 hq1 ?_
    refine i41_go hv ha hA rfl (i := 1) (y := 2) (by omega) (by omega) (by omega) rfl f2 hq2 ?_
    refine i41_go hv ha hA rfl (i := 2) (y := 3) (by omega) (by omega) (by omega) rfl f3 hq3 ?_
    rw [e.1, e.2, t1, p1, t2, p2, t3, p3] at h
    refine Tends2.step (fun K k => ?_) h
    rw [impl_Triangulation_star.l1, if_neg (by decide)]; rfl
  · skip
    refine s41_skip hv ha hA ?_
    refine s41_go hv ha hA (by simp) (by simp) (y := 1) (by omega) (by omega) f1 hq1 ?_
    refine s41_go hv ha hA (by simp) (by simp) (y := 2) (by omega) (by omega) f2 hq2 ?_
    refine s41_go hv ha hA (by simp) (by simp) (y := 3) (by omega) (by omega) f3 hq3 ?_
    unfold l4 at h
    rw [e.1, e.2, t1, p1, t2, p2, t3, p3] at h
    refine Tends2.step (fun K k => ?_) h
    rw [spec_l12Plan41.l1, if_neg (by decide)]; rfl
theorem star1_1 {a : Nat} (ha : a < ts.length) : (¬ Round ts a 1 ∧ (∃ o1 o2 o3 o4 o5 o6 o7 o8, Tends (fun K => impl_Triangulation_star.f K ts (a : Int) ((1 : Nat) : Int)) (o1, o2, o3, o4, o5, o6, o7, o8, false)) ∧ Tends (fun K => spec_l12Plan41.f K ts (a : Int) ((1 : Nat) : Int)) ([], [], [], false)) ∨
    (Round ts a 1 ∧ (∀ R, Tends2 (fun K k => impl_Triangulation_star.l10 K k ts (stT ts a 1 0 : Int) (stP ts a 1 0 : Int) (stT ts a 1 1 : Int) (stP ts a 1 1 : Int) (stT ts a 1 2 : Int) (stP ts a 1 2 : Int) (stT ts a 1 3 : Int) (stP ts a 1 3 : Int) 0) R → Tends (fun K => impl_Triangulation_star.f K ts (a : Int) ((1 : Nat) : Int)) R) ∧
      (∀ R, Tends2 (fun K k => spec_l12Plan41.l8 K k ts (l4 (stT ts a 1)) (l4 (stP ts a 1)) 0) R → Tends (fun K => spec_l12Plan41.f K ts (a : Int) ((1 : Nat) : Int)) R)) := by
  have hA : 1 < 4 := by omega
  have I : ∀ R, Tends2 (fun K k => impl_Triangulation_star.l1 K k ts (a : Int) ((1 : Nat) : Int) (ints (OT [1])) (se 0 ((1 : Nat) : Int) (a : Int) 0) (se 0 ((1 : Nat) : Int) 0 0) (se 1 ((1 : Nat) : Int) (a : Int) 0) (se 1 ((1 : Nat) : Int) 0 0) (se 2 ((1 : Nat) : Int) (a : Int) 0) (se 2 ((1 : Nat) : Int) 0 0) (se 3 ((1 : Nat) : Int) (a : Int) 0) (se 3 ((1 : Nat) : Int) 0 0) ((0 : Nat) : Int)) R → Tends (fun K => impl_Triangulation_star.f K ts (a : Int) ((1 : Nat) : Int)) R := fun R h => by
    refine Tends.pos (by omega) (Tends.bind (others1_t hA) ?_)
    exact h.diag
  have S : ∀ R, Tends2 (fun K k => spec_l12Plan41.l1 K k ts (a : Int) ((1 : Nat) : Int) ([0, 0, 0, 0].set 1 (a : Int)) [0, 0, 0, 0] ((0 : Nat) : Int)) R → Tends (fun K => spec_l12Plan41.f K ts (a : Int) ((1 : Nat) : Int)) R := fun R h => by
    refine Tends.pos (by decide) ?_
    exact h.diag
  have e := stT_at ts a 1
  rcases face_cases hv ha (show 0 < 4 by omega) with ⟨g0, _⟩ | ⟨_, b0, q0, hb0, hq0, f0, _⟩
  · refine .inl ⟨Round.no hv (show 0 < 4 by omega) (by omega) g0, ?_, S _ ?_⟩
    · exact ⟨_, _, _, _, _, _, _, _, I _ (i41_stop hv ha hA rfl (i := 0) (y := 0) (by omega) (by omega) rfl g0)⟩
    · skip
      exact s41_stop hv ha hA (y := 0) (by omega) (by omega) g0
  rcases face_cases hv ha (show 2 < 4 by omega) with ⟨g2, _⟩ | ⟨_, b2, q2, hb2, hq2, f2, _⟩
  · refine .inl ⟨Round.no hv (show 2 < 4 by omega) (by omega) g2, ?_, S _ ?_⟩
    · exact ⟨_, _, _, _, _, _, _, _, I _ (i41_go hv ha hA rfl (i := 0) (y := 0) (by omega) (by omega) (by omega) rfl f0 hq0 (i41_stop hv ha hA rfl (i := 1) (y := 2) (by omega) (by omega) rfl g2))⟩
    · skip
      refine s41_go hv ha hA (by simp) (by simp) (y := 0) (by omega) (by omega) f0 hq0 ?_
      refine s41_skip hv ha hA ?_
      exact s41_stop hv ha hA (y := 2) (by omega) (by omega) g2
  rcases face_cases hv ha (show 3 < 4 by omega) with ⟨g3, _⟩ | ⟨_, b3, q3, hb3, hq3, f3, _⟩
  · refine .inl ⟨Round.no hv (show 3 < 4 by omega) (by omega) g3, ?_, S _ ?_⟩
    · exact ⟨_, _, _, _, _, _, _, _, I _ (i41_go hv ha hA rfl (i := 0) (y := 0) (by omega) (by omega) (by omega) rfl f0 hq0 (i41_go hv ha hA rfl (i := 1) (y := 2) (by omega) (by omega) (by omega) rfl f2 hq2 (i41_stop hv ha hA rfl (i := 2) (y := 3) (by omega) (by omega) rfl g3)))⟩
    · skip
      refine s41_go hv ha hA (by simp) (by simp) (y := 0) (by omega) (by omega) f0 hq0 ?_
      refine s41_skip hv ha hA ?_
      refine s41_go hv ha hA (by simp) (by simp) (y := 2) (by omega) (by omega) f2 hq2 ?_
      exact s41_stop hv ha hA (y := 3) (by omega) (by omega) g3
  obtain ⟨t0, p0⟩ := stT_of (A := 1) (by omega) f0
  obtain ⟨t2, p2⟩ := stT_of (A := 1) (by omega) f2
  obtain ⟨t3, p3⟩ := stT_of (A := 1) (by omega) f3
  refine .inr ⟨fun x hx hxA => ?_, fun R h => I _ ?_, fun R h => S _ ?_⟩
  · rcases (by omega : x = 0 ∨ x = 2 ∨ x = 3) with rfl | rfl | rfl
    · exact ⟨b0, q0, hb0, hq0, f0⟩
    · exact ⟨b2, q2, hb2, hq2, f2⟩
    · exact ⟨b3, q3, hb3, hq3, f3⟩
  · skip
    refine i41_go hv ha hA rfl (i := 0) (y := 0) (by omega) (by omega) (by omega) rfl f0 hq0 ?_
    refine i41_go hv ha hA rfl (i := 1) (y := 2) (by omega) (by omega) (by omega) rfl f2 hq2 ?_
    refine i41_go hv ha hA rfl (i := 2) (y := 3) (by omega) (by omega) (by omega) rfl f3 hq3 ?_
    rw [e.1, e.2, t0, p0, t2, p2, t3, p3] at h
    refine Tends2.step (fun K k => ?_) h
    rw [impl_Triangulation_star.l1, if_neg (by decide)]; rfl
  · skip
    refine s41_go hv ha hA (by simp) (by simp) (y := 0) (by omega) (by omega) f0 hq0 ?_
    refine s41_skip hv ha hA ?_
    refine s41_go hv ha hA (by simp) (by simp) (y := 2) (by omega) (by omega) f2 hq2 ?_
    refine s41_go hv ha hA (by simp) (by simp) (y := 3) (by omega) (by omega) f3 hq3 ?_
    unfold l4 at h
    rw [e.1, e.2, t0, p0, t2, p2, t3, p3] at h
    refine Tends2.step (fun K k => ?_) h
    rw [spec_l12Plan41.l1, if_neg (by decide)]; rfl
theorem star1_2 {a : Nat} (ha : a < ts.length) : (¬ Round ts a 2 ∧ (∃ o1 o2 o3 o4 o5 o6 o7 o8, Tends (fun K => impl_Triangulation_star.f K ts (a : Int) ((2 : Nat) : Int)) (o1, o2, o3, o4, o5, o6, o7, o8, false)) ∧ Tends (fun K => spec_l12Plan41.f K ts (a : Int) ((2 : Nat) : Int)) ([], [], [], false)) ∨
    (Round ts a 2 ∧ (∀ R, Tends2 (fun K k => impl_Triangulation_star.l10 K k ts (stT ts a 2 0 : Int) (stP ts a 2 0 : Int) (stT ts a 2 1 : Int) (stP ts a 2 1 : Int) (stT ts a 2 2 : Int) (stP ts a 2 2 : Int) (stT ts a 2 3 : Int) (stP ts a 2 3 : Int) 0) R → Tends (fun K => impl_Triangulation_star.f K ts (a : Int) ((2 : Nat) : Int)) R) ∧
      (∀ R, Tends2 (fun K k => spec_l12Plan41.l8 K k ts (l4 (stT ts a 2)) (l4 (stP ts a 2)) 0) R → Tends (fun K => spec_l12Plan41.f K ts (a : Int) ((2 : Nat) : Int)) R)) := by
  have hA : 2 < 4 := by omega
  have I : ∀ R, Tends2 (fun K k => impl_Triangulation_star.l1 K k ts (a : Int) ((2 : Nat) : Int) (ints (OT [2])) (se 0 ((2 : Nat) : Int) (a : Int) 0) (se 0 ((2 : Nat) : Int) 0 0) (se 1 ((2 : Nat) : Int) (a : Int) 0) (se 1 ((2 : Nat) : Int) 0 0) (se 2 ((2 : Nat) : Int) (a : Int) 0) (se 2 ((2 : Nat) : Int) 0 0) (se 3 ((2 : Nat) : Int) (a : Int) 0) (se 3 ((2 : Nat) : Int) 0 0) ((0 : Nat) : Int)) R → Tends (fun K => impl_Triangulation_star.f K ts (a : Int) ((2 : Nat) : Int)) R := fun R h => by
    refine Tends.pos (by omega) (Tends.bind (others1_t hA) ?_)
    exact h.diag
  have S : ∀ R, Tends2 (fun K k => spec_l12Plan41.l1 K k ts (a : Int) ((2 : Nat) : Int) ([0, 0, 0, 0].set 2 (a : Int)) [0, 0, 0, 0] ((0 : Nat) : Int)) R → Tends (fun K => spec_l12Plan41.f K ts (a : Int) ((2 : Nat) : Int)) R := fun R h => by
    refine Tends.pos (by decide) ?_
    exact h.diag
  have e := stT_at ts a 2
  rcases face_cases hv ha (show 0 < 4 by omega) with ⟨g0, _⟩ | ⟨_, b0, q0, hb0, hq0, f0, _⟩
  · refine .inl ⟨Round.no hv (show 0 < 4 by omega) (by omega) g0, ?_, S _ ?_⟩
    · exact ⟨_, _, _, _, _, _, _, _, I _ (i41_stop hv ha hA rfl (i := 0) (y := 0) (by omega) (by omega) rfl g0)⟩
    · skip
      exact s41_stop hv ha hA (y := 0) (by omega) (by omega) g0
  rcases face_cases hv ha (show 1 < 4 by omega) with ⟨g1, _⟩ | ⟨_, b1, q1, hb1, hq1, f1, _⟩
  · refine .inl ⟨Round.no hv (show 1 < 4 by omega) (by omega) g1, ?_, S _ ?_⟩
    · exact ⟨_, _, _, _, _, _, _, _, I _ (i41_go hv ha hA rfl (i := 0) (y := 0) (by omega) (by omega) (by omega) rfl f0 hq0 (i41_stop hv ha hA rfl (i := 1) (y := 1) (by omega) (by omega) rfl g1))⟩
    · skip
      refine s41_go hv ha hA (by simp) (by simp) (y := 0) (by omega) (by omega) f0 hq0 ?_
      exact s41_stop hv ha hA (y := 1) (by omega) (by omega) g1
  rcases face_cases hv ha (show 3 < 4 by omega) with ⟨g3, _⟩ | ⟨_, b3, q3, hb3, hq3, f3, _⟩
  · refine .inl ⟨Round.no hv (show 3 < 4 by omega) (by omega) g3, ?_, S _ ?_⟩
    · exact ⟨_, _, _, _, _, _, _, _, I _ (i41_go hv ha hA rfl (i := 0) (y := 0) (by omega) (by omega) (by omega) rfl f0 hq0 (i41_go hv ha hA rfl (i := 1) (y := 1) (by omega) (by omega) (by omega) rfl f1 hq1 (i41_stop hv ha hA rfl (i := 2) (y := 3) (by omega) (by omega) rfl g3)))⟩
    · skip
      refine s41_go hv ha hA (by simp) (by simp) (y := 0) (by omega) (by omega) f0 hq0 ?_
      refine s41_go hv ha hA (by simp) (by simp) (y := 1) (by omega) (by omega) f1 hq1 ?_
      refine s41_skip hv ha hA ?_
      exact s41_stop hv ha hA (y := 3) (by omega) (by omega) g3
  obtain ⟨t0, p0⟩ := stT_of (A := 2) (by omega) f0
  obtain ⟨t1, p1⟩ := stT_of (A := 2) (by omega) f1
  obtain ⟨t3, p3⟩ := stT_of (A := 2) (by omega) f3
  refine .inr ⟨fun x hx hxA => ?_, fun R h => I _ ?_, fun R h => S _ ?_⟩
  · rcases (by omega : x = 0 ∨ x = 1 ∨ x = 3) with rfl | rfl | rfl
    · exact ⟨b0, q0, hb0, hq0, f0⟩
    · exact ⟨b1, q1, hb1, hq1, f1⟩
    · exact ⟨b3, q3, hb3, hq3, f3⟩
  · skip
    refine i41_go hv ha hA rfl (i := 0) (y := 0) (by omega) (by omega) (by omega) rfl f0 hq0 ?_
    refine i41_go hv ha hA rfl (i := 1) (y := 1) (by omega) (by omega) (by omega) rfl f1 hq1 ?_
    refine i41_go hv ha hA rfl (i := 2) (y := 3) (by omega) (by omega) (by omega) rfl f3 hq3 ?_
    rw [e.1, e.2, t0, p0, t1, p1, t3, p3] at h
    refine Tends2.step (fun K k => ?_) h
    rw [impl_Triangulation_star.l1, if_neg (by decide)]; rfl
  · skip
    refine s41_go hv ha hA (by simp) (by simp) (y := 0) (by omega) (by omega) f0 hq0 ?_
    refine s41_go hv ha hA (by simp) (by simp) (y := 1) (by omega) (by omega) f1 hq1 ?_
    refine s41_skip hv ha hA ?_
    refine s41_go hv ha hA (by simp) (by simp) (y := 3) (by omega) (by omega) f3 hq3 ?_
    unfold l4 at h
    rw [e.1, e.2, t0, p0, t1, p1, t3, p3] at h
    refine Tends2.step (fun K k => ?_) h
    rw [spec_l12Plan41.l1, if_neg (by decide)]; rfl
theorem star1_3 {a : Nat} (ha : a < ts.length) : (¬ Round ts a 3 ∧ (∃ o1 o2 o3 o4 o5 o6 o7 o8, Tends (fun K => impl_Triangulation_star.f K ts (a : Int) ((3 : Nat) : Int)) (o1, o2, o3, o4, o5, o6, o7, o8, false)) ∧ Tends (fun K => spec_l12Plan41.f K ts (a : Int) ((3 : Nat) : Int)) ([], [], [], false)) ∨
    (Round ts a 3 ∧ (∀ R, Tends2 (fun K k => impl_Triangulation_star.l10 K k ts (stT ts a 3 0 : Int) (stP ts a 3 0 : Int) (stT ts a 3 1 : Int) (stP ts a 3 1 : Int) (stT ts a 3 2 : Int) (stP ts a 3 2 : Int) (stT ts a 3 3 : Int) (stP ts a 3 3 : Int) 0) R → Tends (fun K => impl_Triangulation_star.f K ts (a : Int) ((3 : Nat) : Int)) R) ∧
      (∀ R, Tends2 (fun K k => spec_l12Plan41.l8 K k ts (l4 (stT ts a 3)) (l4 (stP ts a 3)) 0) R → Tends (fun K => spec_l12Plan41.f K ts (a : Int) ((3 : Nat) : Int)) R)) := by
  have hA : 3 < 4 := by omega
  have I : ∀ R, Tends2 (fun K k => impl_Triangulation_star.l1 K k ts (a : Int) ((3 : Nat) : Int) (ints (OT [3])) (se 0 ((3 : Nat) : Int) (a : Int) 0) (se 0 ((3 : Nat) : Int) 0 0) (se 1 ((3 : Nat) : Int) (a : Int) 0) (se 1 ((3 : Nat) : Int) 0 0) (se 2 ((3 : Nat) : Int) (a : Int) 0) (se 2 ((3 : Nat) : Int) 0 0) (se 3 ((3 : Nat) : Int) (a : Int) 0) (se 3 ((3 : Nat) : Int) 0 0) ((0 : Nat) : Int)) R → Tends (fun K => impl_Triangulation_star.f K ts (a : Int) ((3 : Nat) : Int)) R := fun R h => by
    refine Tends.pos (by omega) (Tends.bind (others1_t hA) ?_)
    exact h.diag
  have S : ∀ R, Tends2 (fun K k => spec_l12Plan41.l1 K k ts (a : Int) ((3 : Nat) : Int) ([0, 0, 0, 0].set 3 (a : Int)) [0, 0, 0, 0] ((0 : Nat) : Int)) R → Tends (fun K => spec_l12Plan41.f K ts (a : Int) ((3 : Nat) : Int)) R := fun R h => by
    refine Tends.pos (by decide) ?_
    exact h.diag
  have e := stT_at ts a 3
  rcases face_cases hv ha (show 0 < 4 by omega) with ⟨g0, _⟩ | ⟨_, b0, q0, hb0, hq0, f0, _⟩
  · refine .inl ⟨Round.no hv (show 0 < 4 by omega) (by omega) g0, ?_, S _ ?_⟩
    · exact ⟨_, _, _, _, _, _, _, _, I _ (i41_stop hv ha hA rfl (i := 0) (y := 0) (by omega) (by omega) rfl g0)⟩
    · skip
      exact s41_stop hv ha hA (y := 0) (by omega) (by omega) g0
  rcases face_cases hv ha (show 1 < 4 by omega) with ⟨g1, _⟩ | ⟨_, b1, q1, hb1, hq1, f1, _⟩
  · refine .inl ⟨Round.no hv (show 1 < 4 by omega) (by omega) g1, ?_, S _ ?_⟩
    · exact ⟨_, _, _, _, _, _, _, _, I _ (i41_go hv ha hA rfl (i := 0) (y := 0) (by omega) (by omega) (by omega) rfl f0 hq0 (i41_stop hv ha hA rfl (i := 1) (y := 1) (by omega) (by omega) rfl g1))⟩
    · skip
      refine s41_go hv ha hA (by simp) (by simp) (y := 0) (by omega) (by omega) f0 hq0 ?_
      exact s41_stop hv ha hA (y := 1) (by omega) (by omega) g1
  rcases face_cases hv ha (show 2 < 4 by omega) with ⟨g2, _⟩ | ⟨_, b2, q2, hb2, hq2, f2, _⟩
  · refine .inl ⟨Round.no hv (show 2 < 4 by omega) (by omega) g2, ?_, S _ ?_⟩
    · exact ⟨_, _, _, _, _, _, _, _, I _ (i41_go hv ha hA rfl (i := 0) (y := 0) (by omega) (by omega) (by omega) rfl f0 hq0 (i41_go hv ha hA rfl (i := 1) (y := 1) (by omega) (by omega) (by omega) rfl f1 hq1 (i41_stop hv ha hA rfl (i := 2) (y := 2) (by omega) (by omega) rfl g2)))⟩
    · skip
      refine s41_go hv ha hA (by simp) (by simp) (y := 0) (by omega) (by omega) f0 hq0 ?_
      refine s41_go hv ha hA (by simp) (by simp) (y := 1) (by omega) (by omega) f1 hq1 ?_
      exact s41_stop hv ha hA (y := 2) (by omega) (by omega) g2
  obtain ⟨t0, p0⟩ := stT_of (A := 3) (by omega) f0
  obtain ⟨t1, p1⟩ := stT_of (A := 3) (by omega) f1
  obtain ⟨t2, p2⟩ := stT_of (A := 3) (by omega) f2
  refine .inr ⟨fun x hx hxA => ?_, fun R h => I _ ?_, fun R h => S _ ?_⟩
  · rcases (by omega : x = 0 ∨ x = 1 ∨ x = 2) with rfl | rfl | rfl
    · exact ⟨b0, q0, hb0, hq0, f0⟩
    · exact ⟨b1, q1, hb1, hq1, f1⟩
    · exact ⟨b2, q2, hb2, hq2, f2⟩
  · skip
    refine i41_go hv ha hA rfl (i := 0) (y := 0) (by omega) (by omega) (by omega) rfl f0 hq0 ?_
    refine i41_go hv ha hA rfl (i := 1) (y := 1) (by omega) (by omega) (by omega) rfl f1 hq1 ?_
    refine i41_go hv ha hA rfl (i := 2) (y := 2) (by omega) (by omega) (by omega) rfl f2 hq2 ?_
    rw [e.1, e.2, t0, p0, t1, p1, t2, p2] at h
    refine Tends2.step (fun K k => ?_) h
    rw [impl_Triangulation_star.l1, if_neg (by decide)]; rfl
  · skip
    refine s41_go hv ha hA (by simp) (by simp) (y := 0) (by omega) (by omega) f0 hq0 ?_
    refine s41_go hv ha hA (by simp) (by simp) (y := 1) (by omega) (by omega) f1 hq1 ?_
    refine s41_go hv ha hA (by simp) (by simp) (y := 2) (by omega) (by omega) f2 hq2 ?_
    refine s41_skip hv ha hA ?_
    unfold l4 at h
    rw [e.1, e.2, t0, p0, t1, p1, t2, p2] at h
    refine Tends2.step (fun K k => ?_) h
    rw [spec_l12Plan41.l1, if_neg (by decide)]; rfl
end
end Go.Proofs.YtbjfinndngafoaaGreat
