/-
  Triangulations: the star of a vertex.
  Triangulations: the move 4-1 in both.
  Triangulations: the code of a move in both.
  Triangulations: the classes of faces and of vertices in both.
  Triangulations: the moves that are possible, in both.
  Marks of lists, in general: what marking leaves is found again.
  Marks of moves; moves are equal to themselves.
  Marks of triangulations that nobody looks at again.
-/
import Derived.Test.YtbjfinndngafoaaGreatPlT24
set_option linter.unusedVariables false
set_option linter.unusedSimpArgs false
set_option linter.unusedSectionVars false
namespace Go.Proofs.YtbjfinndngafoaaGreat
open Go.RowKit
def stT (ts : List (List GFace)) (a A x : Nat) : Nat := if x = A then a else (face ts a x).Tet.toNat
def stP (ts : List (List GFace)) (a A x : Nat) : Nat := if x = A then 0 else PM (PI (face ts a x).Perm.toNat) (EXC A x)
def l4 (f : Nat → Nat) : List Int := [(f 0 : Int), (f 1 : Int), (f 2 : Int), (f 3 : Int)]
def Round (ts : List (List GFace)) (a A : Nat) : Prop := ∀ x, x < 4 → x ≠ A → ∃ b q : Nat, b < ts.length ∧ q < 24 ∧ face ts a x = ⟨b, q⟩
theorem stT_of {ts : List (List GFace)} {a A x b q : Nat} (h : x ≠ A) (hf : face ts a x = ⟨b, q⟩) : stT ts a A x = b ∧ stP ts a A x = PM (PI q) (EXC A x) := by
  unfold stT stP
  rw [if_neg h, if_neg h, hf]; exact ⟨rfl, rfl⟩
theorem stT_at (ts : List (List GFace)) (a A : Nat) : stT ts a A A = a ∧ stP ts a A A = 0 := by
  unfold stT stP
  rw [if_pos rfl, if_pos rfl]; exact ⟨rfl, rfl⟩
section
variable {ts : List (List GFace)} (hv : Val ts)
include hv
theorem Round.no {a A x : Nat} (hx : x < 4) (hxA : x ≠ A) (hb : (face ts a x).Tet < 0) : ¬ Round ts a A := fun h => by
  obtain ⟨b, q, _, _, h1⟩ := h x hx hxA
  rw [h1] at hb
  have hb : (b : Int) < 0 := hb
  omega
theorem star1_0 {a : Nat} (ha : a < ts.length) : (¬ Round ts a 0 ∧ (∃ o1 o2 o3 o4 o5 o6 o7 o8, Tends (fun K => impl_Triangulation_star.f K ts (a : Int) ((0 : Nat) : Int)) (o1, o2, o3, o4, o5, o6, o7, o8, false)) ∧ Tends (fun K => spec_l12Plan41.f K ts (a : Int) ((0 : Nat) : Int)) ([], [], [], false)) ∨
    (Round ts a 0 ∧ (∀ R, Tends2 (fun K k => impl_Triangulation_star.l10 K k ts (stT ts a 0 0 : Int) (stP ts a 0 0 : Int) (stT ts a 0 1 : Int) (stP ts a 0 1 : Int) (stT ts a 0 2 : Int) (stP ts a 0 2 : Int) (stT ts a 0 3 : Int) (stP ts a 0 3 : Int) 0) R → Tends (fun K => impl_Triangulation_star.f K ts (a : Int) ((0 : Nat) : Int)) R) ∧
      (∀ R, Tends2 (fun K k => spec_l12Plan41.l8 K k ts (l4 (stT ts a 0)) (l4 (stP ts a 0)) 0) R → Tends (fun K => spec_l12Plan41.f K ts (a : Int) ((0 : Nat) : Int)) R)) := by
  have hA : 0 < 4 := by omega
  have I : ∀ R, Tends2 (fun K k => impl_Triangulation_star.l1 K k ts (a : Int) ((0 : Nat) : Int) (ints (OT [0])) (se 0 ((0 : Nat) : Int) (a : Int) 0) (se 0 ((0 : Nat) : Int) 0 0) (se 1 ((0 : Nat) : Int) (a : Int) 0) (se 1 ((0 : Nat) : Int) 0 0) (se 2 ((0 : Nat) : Int) (a : Int) 0) (se 2 ((0 : Nat) : Int) 0 0) (se 3 ((0 : Nat) : Int) (a : Int) 0) (se 3 ((0 : Nat) : Int) 0 0) ((0 : Nat) : Int)) R → Tends (fun K => impl_Triangulation_star.f K ts (a : Int) ((0 : Nat) : Int)) R := fun R h => by
    refine Tends.pos (by omega) (Tends.bind (others1_t hA) ?_)
    exact h.diag
  have S : ∀ R, Tends2 (fun K k => spec_l12Plan41.l1 K k ts (a : Int) ((0 : Nat) : Int) ([0, 0, 0, 0].set 0 (a : Int)) [0, 0, 0, 0] ((0 : Nat) : Int)) R → Tends (fun K => spec_l12Plan41.f K ts (a : Int) ((0 : Nat) : Int)) R := fun R h => by
    refine Tends.pos (by decide) ?_
    exact h.diag
  have e := stT_at ts a 0
  rcases face_cases hv ha (show 1 < 4 by omega) with ⟨g1, _⟩ | ⟨_, b1, q1, hb1, hq1, f1, _⟩
  · refine .inl ⟨Round.no hv (show 1 < 4 by omega) (by omega) g1, ?_, S _ ?_⟩
    · exact ⟨_, _, _, _, _, _, _, _, I _ (i41_stop hv ha hA rfl (i := 0) (y := 1) (by omega) (by omega) rfl g1)⟩
    · skip
      refine s41_skip hv ha hA ?_
      exact s41_stop hv ha hA (y := 1) (by omega) (by omega) g1
  rcases face_cases hv ha (show 2 < 4 by omega) with ⟨g2, _⟩ | ⟨_, b2, q2, hb2, hq2, f2, _⟩
  · refine .inl ⟨Round.no hv (show 2 < 4 by omega) (by omega) g2, ?_, S _ ?_⟩
    · exact ⟨_, _, _, _, _, _, _, _, I _ (i41_go hv ha hA rfl (i := 0) (y := 1) (by omega) (by omega) (by omega) rfl f1 hq1 (i41_stop hv ha hA rfl (i := 1) (y := 2) (by omega) (by omega) rfl g2))⟩
    · skip
      refine s41_skip hv ha hA ?_
      refine s41_go hv ha hA (by simp) (by simp) (y := 1) (by omega) (by omega) f1 hq1 ?_
      exact s41_stop hv ha hA (y := 2) (by omega) (by omega) g2
  rcases face_cases hv ha (show 3 < 4 by omega) with ⟨g3, _⟩ | ⟨_, b3, q3, hb3, hq3, f3, _⟩
  · refine .inl ⟨Round.no hv (show 3 < 4 by omega) (by omega) g3, ?_, S _ ?_⟩
    · exact ⟨_, _, _, _, _, _, _, _, I _ (i41_go hv ha hA rfl (i := 0) (y := 1) (by omega) (by omega) (by omega) rfl f1 hq1 (i41_go hv ha hA rfl (i := 1) (y := 2) (by omega) (by omega) (by omega) rfl f2 hq2 (i41_stop hv ha hA rfl (i := 2) (y := 3) (by omega) (by omega) rfl g3)))⟩
    · skip
      refine s41_skip hv ha hA ?_
      refine s41_go hv ha hA (by simp) (by simp) (y := 1) (by omega) (by omega) f1 hq1 ?_
      refine s41_go hv ha hA (by simp) (by simp) (y := 2) (by omega) (by omega) f2 hq2 ?_
      exact s41_stop hv ha hA (y := 3) (by omega) (by omega) g3
  obtain ⟨t1, p1⟩ := stT_of (A := 0) (by omega) f1
  obtain ⟨t2, p2⟩ := stT_of (A := 0) (by omega) f2
  obtain ⟨t3, p3⟩ := stT_of (A := 0) (by omega) f3
  refine .inr ⟨fun x hx hxA => ?_, fun R h => I _ ?_, fun R h => S _ ?_⟩
  · rcases (by omega : x = 1 ∨ x = 2 ∨ x = 3) with rfl | rfl | rfl
    · exact ⟨b1, q1, hb1, hq1, f1⟩
    · exact ⟨b2, q2, hb2, hq2, f2⟩
    · exact ⟨b3, q3, hb3, hq3, f3⟩
  · skip
    refine i41_go hv ha hA rfl (i := 0) (y := 1) (by omega) (by omega) (by omega) rfl f1 hq1 ?_
    refine i41_go hv ha hA rfl (i := 1) (y := 2) (by omega) (by omega) (by omega) rfl f2 hq2 ?_
    refine i41_go hv ha hA rfl (i := 2) (y := 3) (by omega) (by omega) (by omega) rfl f3 hq3 ?_
    rw [e.1, e.2, t1, p1, t2, p2, t3, p3] at h
    refine Tends2.step (fun K k => ?_) h
    rw [impl_Triangulation_star.l1, if_neg (by decide)]; rfl
  · skip
    refine s41_skip hv ha hA ?_
    refine s41_go hv ha hA (by simp) (by simp) (y := 1) (by omega) (by omega) f1 hq1 ?_
    refine s41_go hv ha hA (by simp) (by simp) (y := 2) (by omega) (by omega) f2 hq2 ?_
    refine s41_go hv ha hA (by simp) (by simp) (y := 3) (by omega) (by omega) f3 hq3 ?_
    unfold l4 at h
    rw [e.1, e.2, t1, p1, t2, p2, t3, p3] at h
    refine Tends2.step (fun K k => ?_) h
    rw [spec_l12Plan41.l1, if_neg (by decide)]; rfl
theorem star1_1 {a : Nat} (ha : a < ts.length) : (¬ Round ts a 1 ∧ (∃ o1 o2 o3 o4 o5 o6 o7 o8, Tends (fun K => impl_Triangulation_star.f K ts (a : Int) ((1 : Nat) : Int)) (o1, o2, o3, o4, o5, o6, o7, o8, false)) ∧ Tends (fun K => spec_l12Plan41.f K ts (a : Int) ((1 : Nat) : Int)) ([], [], [], false)) ∨
    (Round ts a 1 ∧ (∀ R, Tends2 (fun K k => impl_Triangulation_star.l10 K k ts (stT ts a 1 0 : Int) (stP ts a 1 0 : Int) (stT ts a 1 1 : Int) (stP ts a 1 1 : Int) (stT ts a 1 2 : Int) (stP ts a 1 2 : Int) (stT ts a 1 3 : Int) (stP ts a 1 3 : Int) 0) R → Tends (fun K => impl_Triangulation_star.f K ts (a : Int) ((1 : Nat) : Int)) R) ∧
      (∀ R, Tends2 (fun K k => spec_l12Plan41.l8 K k ts (l4 (stT ts a 1)) (l4 (stP ts a 1)) 0) R → Tends (fun K => spec_l12Plan41.f K ts (a : Int) ((1 : Nat) : Int)) R)) := by
  have hA : 1 < 4 := by omega
  have I : ∀ R, Tends2 (fun K k => impl_Triangulation_star.l1 K k ts (a : Int) ((1 : Nat) : Int) (ints (OT [1])) (se 0 ((1 : Nat) : Int) (a : Int) 0) (se 0 ((1 : Nat) : Int) 0 0) (se 1 ((1 : Nat) : Int) (a : Int) 0) (se 1 ((1 : Nat) : Int) 0 0) (se 2 ((1 : Nat) : Int) (a : Int) 0) (se 2 ((1 : Nat) : Int) 0 0) (se 3 ((1 : Nat) : Int) (a : Int) 0) (se 3 ((1 : Nat) : Int) 0 0) ((0 : Nat) : Int)) R → Tends (fun K => impl_Triangulation_star.f K ts (a : Int) ((1 : Nat) : Int)) R := fun R h => by
    refine Tends.pos (by omega) (Tends.bind (others1_t hA) ?_)
    exact h.diag
  have S : ∀ R, Tends2 (fun K k => spec_l12Plan41.l1 K k ts (a : Int) ((1 : Nat) : Int) ([0, 0, 0, 0].set 1 (a : Int)) [0, 0, 0, 0] ((0 : Nat) : Int)) R → Tends (fun K => spec_l12Plan41.f K ts (a : Int) ((1 : Nat) : Int)) R := fun R h => by
    refine Tends.pos (by decide) ?_
    exact h.diag
  have e := stT_at ts a 1
  rcases face_cases hv ha (show 0 < 4 by omega) with ⟨g0, _⟩ | ⟨_, b0, q0, hb0, hq0, f0, _⟩
  · refine .inl ⟨Round.no hv (show 0 < 4 by omega) (by omega) g0, ?_, S _ ?_⟩
    · exact ⟨_, _, _, _, _, _, _, _, I _ (i41_stop hv ha hA rfl (i := 0) (y := 0) (by omega) (by omega) rfl g0)⟩
    · skip
      exact s41_stop hv ha hA (y := 0) (by omega) (by omega) g0
  rcases face_cases hv ha (show 2 < 4 by omega) with ⟨g2, _⟩ | ⟨_, b2, q2, hb2, hq2, f2, _⟩
  · refine .inl ⟨Round.no hv (show 2 < 4 by omega) (by omega) g2, ?_, S _ ?_⟩
    · exact ⟨_, _, _, _, _, _, _, _, I _ (i41_go hv ha hA rfl (i := 0) (y := 0) (by omega) (by omega) (by omega) rfl f0 hq0 (i41_stop hv ha hA rfl (i := 1) (y := 2) (by omega) (by omega) rfl g2))⟩
    · skip
      refine s41_go hv ha hA (by simp) (by simp) (y := 0) (by omega) (by omega) f0 hq0 ?_
      refine s41_skip hv ha hA ?_
      exact s41_stop hv ha hA (y := 2) (by omega) (by omega) g2
  rcases face_cases hv ha (show 3 < 4 by omega) with ⟨g3, _⟩ | ⟨_, b3, q3, hb3, hq3, f3, _⟩
  · refine .inl ⟨Round.no hv (show 3 < 4 by omega) (by omega) g3, ?_, S _ ?_⟩
    · exact ⟨_, _, _, _, _, _, _, _, I _ (i41_go hv ha hA rfl (i := 0) (y := 0) (by omega) (by omega) (by omega) rfl f0 hq0 (i41_go hv ha hA rfl (i := 1) (y := 2) (by omega) (by omega) (by omega) rfl f2 hq2 (i41_stop hv ha hA rfl (i := 2) (y := 3) (by omega) (by omega) rfl g3)))⟩
    · skip
      refine s41_go hv ha hA (by simp) (by simp) (y := 0) (by omega) (by omega) f0 hq0 ?_
      refine s41_skip hv ha hA ?_
      refine s41_go hv ha hA (by simp) (by simp) (y := 2) (by omega) (by omega) f2 hq2 ?_
      exact s41_stop hv ha hA (y := 3) (by omega) (by omega) g3
  obtain ⟨t0, p0⟩ := stT_of (A := 1) (by omega) f0
  obtain ⟨t2, p2⟩ := stT_of (A := 1) (by omega) f2
  obtain ⟨t3, p3⟩ := stT_of (A := 1) (by omega) f3
  refine .inr ⟨fun x hx hxA => ?_, fun R h => I _ ?_, fun R h => S _ ?_⟩
  · rcases (by omega : x = 0 ∨ x = 2 ∨ x = 3) with rfl | rfl | rfl
    · exact ⟨b0, q0, hb0, hq0, f0⟩
    · exact ⟨b2, q2, hb2, hq2, f2⟩
    · exact ⟨b3, q3, hb3, hq3, f3⟩
  · skip
    refine i41_go hv ha hA rfl (i := 0) (y := 0) (by omega) (by omega) (by omega) rfl f0 hq0 ?_
    refine i41_go hv ha hA rfl (i := 1) (y := 2) (by omega) (by omega) (by omega) rfl f2 hq2 ?_
    refine i41_go hv ha hA rfl (i := 2) (y := 3) (by omega) (by omega) (by omega) rfl f3 hq3 ?_
    rw [e.1, e.2, t0, p0, t2, p2, t3, p3] at h
    refine Tends2.step (fun K k => ?_) h
    rw [impl_Triangulation_star.l1, if_neg (by decide)]; rfl
  · skip
    refine s41_go hv ha hA (by simp) (by simp) (y := 0) (by omega) (by omega) f0 hq0 ?_
    refine s41_skip hv ha hA ?_
    refine s41_go hv ha hA (by simp) (by simp) (y := 2) (by omega) (by omega) f2 hq2 ?_
    refine s41_go hv ha hA (by simp) (by simp) (y := 3) (by omega) (by omega) f3 hq3 ?_
    unfold l4 at h
    rw [e.1, e.2, t0, p0, t2, p2, t3, p3] at h
    refine Tends2.step (fun K k => ?_) h
    rw [spec_l12Plan41.l1, if_neg (by decide)]; rfl
theorem star1_2 {a : Nat} (ha : a < ts.length) : (¬ Round ts a 2 ∧ (∃ o1 o2 o3 o4 o5 o6 o7 o8, Tends (fun K => impl_Triangulation_star.f K ts (a : Int) ((2 : Nat) : Int)) (o1, o2, o3, o4, o5, o6, o7, o8, false)) ∧ Tends (fun K => spec_l12Plan41.f K ts (a : Int) ((2 : Nat) : Int)) ([], [], [], false)) ∨
    (Round ts a 2 ∧ (∀ R, Tends2 (fun K k => impl_Triangulation_star.l10 K k ts (stT ts a 2 0 : Int) (stP ts a 2 0 : Int) (stT ts a 2 1 : Int) (stP ts a 2 1 : Int) (stT ts a 2 2 : Int) (stP ts a 2 2 : Int) (stT ts a 2 3 : Int) (stP ts a 2 3 : Int) 0) R → Tends (fun K => impl_Triangulation_star.f K ts (a : Int) ((2 : Nat) : Int)) R) ∧
      (∀ R, Tends2 (fun K k => spec_l12Plan41.l8 K k ts (l4 (stT ts a 2)) (l4 (stP ts a 2)) 0) R → Tends (fun K => spec_l12Plan41.f K ts (a : Int) ((2 : Nat) : Int)) R)) := by
  have hA : 2 < 4 := by omega
  have I : ∀ R, Tends2 (fun K k => impl_Triangulation_star.l1 K k ts (a : Int) ((2 : Nat) : Int) (ints (OT [2])) (se 0 ((2 : Nat) : Int) (a : Int) 0) (se 0 ((2 : Nat) : Int) 0 0) (se 1 ((2 : Nat) : Int) (a : Int) 0) (se 1 ((2 : Nat) : Int) 0 0) (se 2 ((2 : Nat) : Int) (a : Int) 0) (se 2 ((2 : Nat) : Int) 0 0) (se 3 ((2 : Nat) : Int) (a : Int) 0) (se 3 ((2 : Nat) : Int) 0 0) ((0 : Nat) : Int)) R → Tends (fun K => impl_Triangulation_star.f K ts (a : Int) ((2 : Nat) : Int)) R := fun R h => by
    refine Tends.pos (by omega) (Tends.bind (others1_t hA) ?_)
    exact h.diag
  have S : ∀ R, Tends2 (fun K k => spec_l12Plan41.l1 K k ts (a : Int) ((2 : Nat) : Int) ([0, 0, 0, 0].set 2 (a : Int)) [0, 0, 0, 0] ((0 : Nat) : Int)) R → Tends (fun K => spec_l12Plan41.f K ts (a : Int) ((2 : Nat) : Int)) R := fun R h => by
    refine Tends.pos (by decide) ?_
    exact h.diag
  have e := stT_at ts a 2
  rcases face_cases hv ha (show 0 < 4 by omega) with ⟨g0, _⟩ | ⟨_, b0, q0, hb0, hq0, f0, _⟩
  · refine .inl ⟨Round.no hv (show 0 < 4 by omega) (by omega) g0, ?_, S _ ?_⟩
    · exact ⟨_, _, _, _, _, _, _, _, I _ (i41_stop hv ha hA rfl (i := 0) (y := 0) (by omega) (by omega) rfl g0)⟩
    · skip
      exact s41_stop hv ha hA (y := 0) (by omega) (by omega) g0
  rcases face_cases hv ha (show 1 < 4 by omega) with ⟨g1, _⟩ | ⟨_, b1, q1, hb1, hq1, f1, _⟩
  · refine .inl ⟨Round.no hv (show 1 < 4 by omega) (by omega) g1, ?_, S _ ?_⟩
    · exact ⟨_, _, _, _, _, _, _, _, I _ (i41_go hv ha hA rfl (i := 0) (y := 0) (by omega) (by omega) (by omega) rfl f0 hq0 (i41_stop hv ha hA rfl (i := 1) (y := 1) (by omega) (by omega) rfl g1))⟩
    · skip
      refine s41_go hv ha hA (by simp) (by simp) (y := 0) (by omega) (by omega) f0 hq0 ?_
      exact s41_stop hv ha hA (y := 1) (by omega) (by omega) g1
  rcases face_cases hv ha (show 3 < 4 by omega) with ⟨g3, _⟩ | ⟨_, b3, q3, hb3, hq3, f3, _⟩
  · refine .inl ⟨Round.no hv (show 3 < 4 by omega) (by omega) g3, ?_, S _ ?_⟩
    · exact ⟨_, _, _, _, _, _, _, _, I _ (i41_go hv ha hA rfl (i := 0) (y := 0) (by omega) (by omega) (by omega) rfl f0 hq0 (i41_go hv ha hA rfl (i := 1) (y := 1) (by omega) (by omega) (by omega) rfl f1 hq1 (i41_stop hv ha hA rfl (i := 2) (y := 3) (by omega) (by omega) rfl g3)))⟩
    · skip
      refine s41_go hv ha hA (by simp) (by simp) (y := 0) (by omega) (by omega) f0 hq0 ?_
      refine s41_go hv ha hA (by simp) (by simp) (y := 1) (by omega) (by omega) f1 hq1 ?_
      refine s41_skip hv ha hA ?_
      exact s41_stop hv ha hA (y := 3) (by omega) (by omega) g3
  obtain ⟨t0, p0⟩ := stT_of (A := 2) (by omega) f0
  obtain ⟨t1, p1⟩ := stT_of (A := 2) (by omega) f1
  obtain ⟨t3, p3⟩ := stT_of (A := 2) (by omega) f3
  refine .inr ⟨fun x hx hxA => ?_, fun R h => I _ ?_, fun R h => S _ ?_⟩
  · rcases (by omega : x = 0 ∨ x = 1 ∨ x = 3) with rfl | rfl | rfl
    · exact ⟨b0, q0, hb0, hq0, f0⟩
    · exact ⟨b1, q1, hb1, hq1, f1⟩
    · exact ⟨b3, q3, hb3, hq3, f3⟩
  · skip
    refine i41_go hv ha hA rfl (i := 0) (y := 0) (by omega) (by omega) (by omega) rfl f0 hq0 ?_
    refine i41_go hv ha hA rfl (i := 1) (y := 1) (by omega) (by omega) (by omega) rfl f1 hq1 ?_
    refine i41_go hv ha hA rfl (i := 2) (y := 3) (by omega) (by omega) (by omega) rfl f3 hq3 ?_
    rw [e.1, e.2, t0, p0, t1, p1, t3, p3] at h
    refine Tends2.step (fun K k => ?_) h
    rw [impl_Triangulation_star.l1, if_neg (by decide)]; rfl
  · skip
    refine s41_go hv ha hA (by simp) (by simp) (y := 0) (by omega) (by omega) f0 hq0 ?_
    refine s41_go hv ha hA (by simp) (by simp) (y := 1) (by omega) (by omega) f1 hq1 ?_
    refine s41_skip hv ha hA ?_
    refine s41_go hv ha hA (by simp) (by simp) (y := 3) (by omega) (by omega) f3 hq3 ?_
    unfold l4 at h
    rw [e.1, e.2, t0, p0, t1, p1, t3, p3] at h
    refine Tends2.step (fun K k => ?_) h
    rw [spec_l12Plan41.l1, if_neg (by decide)]; rfl
theorem star1_3 {a : Nat} (ha : a < ts.length) : (¬ Round ts a 3 ∧ (∃ o1 o2 o3 o4 o5 o6 o7 o8, Tends (fun K => impl_Triangulation_star.f K ts (a : Int) ((3 : Nat) : Int)) (o1, o2, o3, o4, o5, o6, o7, o8, false)) ∧ Tends (fun K => spec_l12Plan41.f K ts (a : Int) ((3 : Nat) : Int)) ([], [], [], false)) ∨
    (Round ts a 3 ∧ (∀ R, Tends2 (fun K k => impl_Triangulation_star.l10 K k ts (stT ts a 3 0 : Int) (stP ts a 3 0 : Int) (stT ts a 3 1 : Int) (stP ts a 3 1 : Int) (stT ts a 3 2 : Int) (stP ts a 3 2 : Int) (stT ts a 3 3 : Int) (stP ts a 3 3 : Int) 0) R → Tends (fun K => impl_Triangulation_star.f K ts (a : Int) ((3 : Nat) : Int)) R) ∧
      (∀ R, Tends2 (fun K k => spec_l12Plan41.l8 K k ts (l4 (stT ts a 3)) (l4 (stP ts a 3)) 0) R → Tends (fun K => spec_l12Plan41.f K ts (a : Int) ((3 : Nat) : Int)) R)) := by
  have hA : 3 < 4 := by omega
  have I : ∀ R, Tends2 (fun K k => impl_Triangulation_star.l1 K k ts (a : Int) ((3 : Nat) : Int) (ints (OT [3])) (se 0 ((3 : Nat) : Int) (a : Int) 0) (se 0 ((3 : Nat) : Int) 0 0) (se 1 ((3 : Nat) : Int) (a : Int) 0) (se 1 ((3 : Nat) : Int) 0 0) (se 2 ((3 : Nat) : Int) (a : Int) 0) (se 2 ((3 : Nat) : Int) 0 0) (se 3 ((3 : Nat) : Int) (a : Int) 0) (se 3 ((3 : Nat) : Int) 0 0) ((0 : Nat) : Int)) R → Tends (fun K => impl_Triangulation_star.f K ts (a : Int) ((3 : Nat) : Int)) R := fun R h => by
    refine Tends.pos (by omega) (Tends.bind (others1_t hA) ?_)
    exact h.diag
  have S : ∀ R, Tends2 (fun K k => spec_l12Plan41.l1 K k ts (a : Int) ((3 : Nat) : Int) ([0, 0, 0, 0].set 3 (a : Int)) [0, 0, 0, 0] ((0 : Nat) : Int)) R → Tends (fun K => spec_l12Plan41.f K ts (a : Int) ((3 : Nat) : Int)) R := fun R h => by
    refine Tends.pos (by decide) ?_
    exact h.diag
  have e := stT_at ts a 3
  rcases face_cases hv ha (show 0 < 4 by omega) with ⟨g0, _⟩ | ⟨_, b0, q0, hb0, hq0, f0, _⟩
  · refine .inl ⟨Round.no hv (show 0 < 4 by omega) (by omega) g0, ?_, S _ ?_⟩
    · exact ⟨_, _, _, _, _, _, _, _, I _ (i41_stop hv ha hA rfl (i := 0) (y := 0) (by omega) (by omega) rfl g0)⟩
    · skip
      exact s41_stop hv ha hA (y := 0) (by omega) (by omega) g0
  rcases face_cases hv ha (show 1 < 4 by omega) with ⟨g1, _⟩ | ⟨_, b1, q1, hb1, hq1, f1, _⟩
  · refine .inl ⟨Round.no hv (show 1 < 4 by omega) (by omega) g1, ?_, S _ ?_⟩
    · exact ⟨_, _, _, _, _, _, _, _, I _ (i41_go hv ha hA rfl (i := 0) (y := 0) (by omega) (by omega) (by omega) rfl f0 hq0 (i41_stop hv ha hA rfl (i := 1) (y := 1) (by omega) (by omega) rfl g1))⟩
    · skip
      refine s41_go hv ha hA (by simp) (by simp) (y := 0) (by omega) (by omega) f0 hq0 ?_
      exact s41_stop hv ha hA (y := 1) (by omega) (by omega) g1
  rcases face_cases hv ha (show 2 < 4 by omega) with ⟨g2, _⟩ | ⟨_, b2, q2, hb2, hq2, f2, _⟩
  · refine .inl ⟨Round.no hv (show 2 < 4 by omega) (by omega) g2, ?_, S _ ?_⟩
    · exact ⟨_, _, _, _, _, _, _, _, I _ (i41_go hv ha hA rfl (i := 0) (y := 0) (by omega) (by omega) (by omega) rfl f0 hq0 (i41_go hv ha hA rfl (i := 1) (y := 1) (by omega) (by omega) (by omega) rfl f1 hq1 (i41_stop hv ha hA rfl (i := 2) (y := 2) (by omega) (by omega) rfl g2)))⟩
    · skip
      refine s41_go hv ha hA (by simp) (by simp) (y := 0) (by omega) (by omega) f0 hq0 ?_
      refine s41_go hv ha hA (by simp) (by simp) (y := 1) (by omega) (by omega) f1 hq1 ?_
      exact s41_stop hv ha hA (y := 2) (by omega) (by omega) g2
  obtain ⟨t0, p0⟩ := stT_of (A := 3) (by omega) f0
  obtain ⟨t1, p1⟩ := stT_of (A := 3) (by omega) f1
  obtain ⟨t2, p2⟩ := stT_of (A := 3) (by omega) f2
  refine .inr ⟨fun x hx hxA => ?_, fun R h => I _ ?_, fun R h => S _ ?_⟩
  · rcases (by omega : x = 0 ∨ x = 1 ∨ x = 2) with rfl | rfl | rfl
    · exact ⟨b0, q0, hb0, hq0, f0⟩
    · exact ⟨b1, q1, hb1, hq1, f1⟩
    · exact ⟨b2, q2, hb2, hq2, f2⟩
  · skip
    refine i41_go hv ha hA rfl (i := 0) (y := 0) (by omega) (by omega) (by omega) rfl f0 hq0 ?_
    refine i41_go hv ha hA rfl (i := 1) (y := 1) (by omega) (by omega) (by omega) rfl f1 hq1 ?_
    refine i41_go hv ha hA rfl (i := 2) (y := 2) (by omega) (by omega) (by omega) rfl f2 hq2 ?_
    rw [e.1, e.2, t0, p0, t1, p1, t2, p2] at h
    refine Tends2.step (fun K k => ?_) h
    rw [impl_Triangulation_star.l1, if_neg (by decide)]; rfl
  · skip
    refine s41_go hv ha hA (by simp) (by simp) (y := 0) (by omega) (by omega) f0 hq0 ?_
    refine s41_go hv ha hA (by simp) (by simp) (y := 1) (by omega) (by omega) f1 hq1 ?_
    refine s41_go hv ha hA (by simp) (by simp) (y := 2) (by omega) (by omega) f2 hq2 ?_
    refine s41_skip hv ha hA ?_
    unfold l4 at h
    rw [e.1, e.2, t0, p0, t1, p1, t2, p2] at h
    refine Tends2.step (fun K k => ?_) h
    rw [spec_l12Plan41.l1, if_neg (by decide)]; rfl
end
end Go.Proofs.YtbjfinndngafoaaGreat
set_option linter.unusedVariables false
set_option linter.unusedSimpArgs false
set_option linter.unusedSectionVars false
namespace Go.Proofs.YtbjfinndngafoaaGreat
open Go.RowKit
theorem l4_get {f : Nat → Nat} {k : Nat} (hk : k < 4) : ([(f 0 : Int), (f 1 : Int), (f 2 : Int), (f 3 : Int)] : List Int).getD k 0 = (f k : Int) := getD4 (f := f) rfl rfl rfl rfl hk
def okB (ts : List (List GFace)) (T P : Nat → Nat) (x y : Nat) : Bool := decide (x = y ∨ ((face ts (T x) (PA (PI (P x)) y)).Tet = (T y : Int) ∧ T x ≠ T y ∧ PM (PM (PI (P x)) (face ts (T x) (PA (PI (P x)) y)).Perm.toNat) (P y) = EXC x y))
section
variable {ts : List (List GFace)} (hv : Val ts) {T P : Nat → Nat} (hT : ∀ x, x < 4 → T x < ts.length) (hP : ∀ x, x < 4 → P x < 24)
include hv hT hP
theorem i41_pair {x y : Nat} (hx : x < 4) (hy : y < 4) {R : Int × Int × Int × Int × Int × Int × Int × Int × Bool}
    (hgo : okB ts T P x y = true → Tends2 (fun K k => impl_Triangulation_star.l13 K k ts (T 0 : Int) (P 0 : Int) (T 1 : Int) (P 1 : Int) (T 2 : Int) (P 2 : Int) (T 3 : Int) (P 3 : Int) (x : Int) ((y + 1 : Nat) : Int)) R)
    (hno : okB ts T P x y = false → R = ((T 0 : Int), (P 0 : Int), (T 1 : Int), (P 1 : Int), (T 2 : Int), (P 2 : Int), (T 3 : Int), (P 3 : Int), false)) :
    Tends2 (fun K k => impl_Triangulation_star.l13 K k ts (T 0 : Int) (P 0 : Int) (T 1 : Int) (P 1 : Int) (T 2 : Int) (P 2 : Int) (T 3 : Int) (P 3 : Int) (x : Int) (y : Int)) R := by
  have h8 := hv.le
  have hPx := hP x hx
  have hPy := hP y hy
  have hTx := hT x hx
  have hTy := hT y hy
  have hf : PA (PI (P x)) y < 4 := PA_lt (PI_lt hPx) hy
  have hr := hv.four _ hTx
  have gT := fun k (h : k < 4) => l4_get (f := T) h
  have gP := fun k (h : k < 4) => l4_get (f := P) h
  have gA := l4_get (f := PA (PI (P x))) hy
  refine Tends2.succ ?_
  simp only [impl_Triangulation_star.l13, Int.toNat_natCast, bnd_eq, gT x hx, gT y hy, gP x hx, gP y hy]
  refine Tends2.pos (by omega) ?_
  by_cases hxy : x = y
  · refine Tends2.pos (by omega) ?_
    rw [w64_succ (by omega)]
    exact hgo (decide_eq_true (.inl hxy))
  refine Tends2.neg (by omega) (Tends2.pos (by omega) ?_)
  refine Tends2.bind (invert_t hPx).two ?_
  refine Tends2.bind4 (perm_t (PI_lt hPx)).two ?_
  simp only [gA, Int.toNat_natCast]
  refine Tends2.pos (by omega) (Tends2.pos (by omega) (Tends2.pos (by omega) ?_))
  show Tends2 (fun K k => if (face ts (T x) (PA (PI (P x)) y)).Tet = (T y : Int) then _ else _) _
  by_cases h1 : (face ts (T x) (PA (PI (P x)) y)).Tet = (T y : Int)
  rotate_left
  · rw [hno (decide_eq_false (fun q => q.elim (fun h => hxy h) (fun h => h1 h.1)))]
    exact Tends2.neg h1 (Tends2.const _)
  refine Tends2.pos h1 ?_
  by_cases h2 : T x = T y
  · rw [hno (decide_eq_false (fun q => q.elim (fun h => hxy h) (fun h => h.2.1 h2)))]
    exact Tends2.pos (by omega) (Tends2.const _)
  refine Tends2.neg (by omega) ?_
  rcases face_cases hv hTx hf with ⟨c1, _⟩ | ⟨_, b, q, hb, hq, c2, _⟩
  · omega
  have e0 : (face ts (T x) (PA (PI (P x)) y)).Perm = (q : Int) := by rw [c2]
  have e0' : ((ts.getD (T x) []).getD (PA (PI (P x)) y) z_GFace).Perm = (q : Int) := e0
  refine Tends2.bind (invert_t hPx).two ?_
  simp only [e0']
  refine Tends2.bind (compose_t (PI_lt hPx) hq).two ?_
  refine Tends2.bind (compose_t (PM_lt (PI_lt hPx) hq) hPy).two ?_
  refine Tends2.bind (exc_i hx hy hxy).two ?_
  by_cases h3 : PM (PM (PI (P x)) q) (P y) = EXC x y
  · refine Tends2.pos (by omega) ?_
    rw [w64_succ (by omega)]
    exact hgo (decide_eq_true (.inr ⟨h1, h2, by rw [e0, Int.toNat_natCast]; exact h3⟩))
  · rw [hno (decide_eq_false (fun q => q.elim (fun h => hxy h) (fun h => h3 (by have := h.2.2; rw [e0, Int.toNat_natCast] at this; exact this))))]
    exact Tends2.neg (by omega) (Tends2.const _)
theorem s41_pair {x y : Nat} (hx : x < 4) (hy : y < 4) {R : List Int × List (List GFace) × List GL12Outer × Bool}
    (hgo : okB ts T P x y = true → Tends2 (fun K k => spec_l12Plan41.l12 K k ts (l4 T) (l4 P) (x : Int) ((y + 1 : Nat) : Int)) R)
    (hno : okB ts T P x y = false → R = ([], [], [], false)) :
    Tends2 (fun K k => spec_l12Plan41.l12 K k ts (l4 T) (l4 P) (x : Int) (y : Int)) R := by
  have h8 := hv.le
  have hPx := hP x hx
  have hPy := hP y hy
  have hTx := hT x hx
  have hTy := hT y hy
  have hf : PA (PI (P x)) y < 4 := PA_lt (PI_lt hPx) hy
  have hr := hv.four _ hTx
  have lT : (l4 T).length = 4 := rfl
  have lP : (l4 P).length = 4 := rfl
  have gT : ∀ k, k < 4 → (l4 T).getD k 0 = (T k : Int) := fun k (h : k < 4) => l4_get (f := T) h
  have gP : ∀ k, k < 4 → (l4 P).getD k 0 = (P k : Int) := fun k (h : k < 4) => l4_get (f := P) h
  refine Tends2.succ ?_
  simp only [spec_l12Plan41.l12, Int.toNat_natCast, bnd_eq, gT x hx, gT y hy, gP x hx, gP y hy]
  refine Tends2.pos (by omega) ?_
  by_cases hxy : x = y
  · refine Tends2.pos (by omega) ?_
    rw [w64_succ (by omega)]
    exact hgo (decide_eq_true (.inl hxy))
  refine Tends2.neg (by omega) (Tends2.pos (by omega) (Tends2.pos (by omega) (Tends2.pos (by omega) ?_)))
  refine Tends2.bind (back_t hPx).two ?_
  refine Tends2.bind (at_t (PI_lt hPx) hy).two ?_
  simp only [Int.toNat_natCast]
  refine Tends2.pos (by omega) (Tends2.pos (by omega) ?_)
  by_cases h2 : T x = T y
  · rw [hno (decide_eq_false (fun q => q.elim (fun h => hxy h) (fun h => h.2.1 h2)))]
    exact Tends2.pos (by omega) (Tends2.const _)
  refine Tends2.neg (by omega) ?_
  show Tends2 (fun K k => if (face ts (T x) (PA (PI (P x)) y)).Tet = (T y : Int) then _ else _) _
  by_cases h1 : (face ts (T x) (PA (PI (P x)) y)).Tet = (T y : Int)
  rotate_left
  · rw [hno (decide_eq_false (fun q => q.elim (fun h => hxy h) (fun h => h1 h.1)))]
    exact Tends2.neg h1 (Tends2.const _)
  refine Tends2.pos h1 ?_
  rcases face_cases hv hTx hf with ⟨c1, _⟩ | ⟨_, b, q, hb, hq, c2, _⟩
  · omega
  have e0 : (face ts (T x) (PA (PI (P x)) y)).Perm = (q : Int) := by rw [c2]
  have e0' : ((ts.getD (T x) []).getD (PA (PI (P x)) y) z_GFace).Perm = (q : Int) := e0
  refine Tends2.bind (back_t hPx).two ?_
  simp only [e0']
  refine Tends2.bind (then_t (PI_lt hPx) hq).two ?_
  refine Tends2.pos (by omega) ?_
  refine Tends2.bind (then_t (PM_lt (PI_lt hPx) hq) hPy).two ?_
  refine Tends2.bind (exc_s hx hy hxy).two ?_
  by_cases h3 : PM (PM (PI (P x)) q) (P y) = EXC x y
  · refine Tends2.pos (by omega) ?_
    rw [w64_succ (by omega)]
    exact hgo (decide_eq_true (.inr ⟨h1, h2, by rw [e0, Int.toNat_natCast]; exact h3⟩))
  · rw [hno (decide_eq_false (fun q => q.elim (fun h => hxy h) (fun h => h3 (by have := h.2.2; rw [e0, Int.toNat_natCast] at this; exact this))))]
    exact Tends2.neg (by omega) (Tends2.const _)
theorem i41_all : Tends2 (fun K k => impl_Triangulation_star.l10 K k ts (T 0 : Int) (P 0 : Int) (T 1 : Int) (P 1 : Int) (T 2 : Int) (P 2 : Int) (T 3 : Int) (P 3 : Int) 0) ((T 0 : Int), (P 0 : Int), (T 1 : Int), (P 1 : Int), (T 2 : Int), (P 2 : Int), (T 3 : Int), (P 3 : Int), allB 4 fun x => allB 4 (okB ts T P x)) := by
  have enter : ∀ x : Nat, x < 4 → ∀ R, Tends2 (fun K k => impl_Triangulation_star.l13 K k ts (T 0 : Int) (P 0 : Int) (T 1 : Int) (P 1 : Int) (T 2 : Int) (P 2 : Int) (T 3 : Int) (P 3 : Int) (x : Int) ((0 : Nat) : Int)) R → Tends2 (fun K k => impl_Triangulation_star.l10 K k ts (T 0 : Int) (P 0 : Int) (T 1 : Int) (P 1 : Int) (T 2 : Int) (P 2 : Int) (T 3 : Int) (P 3 : Int) (x : Int)) R := fun x hx R h => by
    refine Tends2.step (fun K k => ?_) h
    rw [impl_Triangulation_star.l10, if_pos (by omega)]; rfl
  have go : ∀ x : Nat, x < 4 → allB 4 (okB ts T P x) = true → ∀ v, Tends2 (fun K k => impl_Triangulation_star.l10 K k ts (T 0 : Int) (P 0 : Int) (T 1 : Int) (P 1 : Int) (T 2 : Int) (P 2 : Int) (T 3 : Int) (P 3 : Int) ((x + 1 : Nat) : Int)) v → Tends2 (fun K k => impl_Triangulation_star.l10 K k ts (T 0 : Int) (P 0 : Int) (T 1 : Int) (P 1 : Int) (T 2 : Int) (P 2 : Int) (T 3 : Int) (P 3 : Int) (x : Int)) v := fun x hx hok v h => by
    refine enter x hx v (scan_all (l := fun K k y => impl_Triangulation_star.l13 K k ts (T 0 : Int) (P 0 : Int) (T 1 : Int) (P 1 : Int) (T 2 : Int) (P 2 : Int) (T 3 : Int) (P 3 : Int) (x : Int) (y : Int)) (n := 4) (fun y hy hp w hw => i41_pair hv hT hP hx hy (fun _ => hw) (fun e => by rw [hp] at e; cases e)) hok ?_)
    refine Tends2.step (fun K k => ?_) h
    rw [impl_Triangulation_star.l13, if_neg (by omega), w64_succ (by omega)]
  cases hall : allB 4 fun x => allB 4 (okB ts T P x) with
  | true =>
    refine scan_all (l := fun K k x => impl_Triangulation_star.l10 K k ts (T 0 : Int) (P 0 : Int) (T 1 : Int) (P 1 : Int) (T 2 : Int) (P 2 : Int) (T 3 : Int) (P 3 : Int) (x : Int)) (n := 4) go hall ?_
    exact Tends2.of fun K k => by rw [impl_Triangulation_star.l10, if_neg (by omega)]
  | false =>
    refine scan_stop (l := fun K k x => impl_Triangulation_star.l10 K k ts (T 0 : Int) (P 0 : Int) (T 1 : Int) (P 1 : Int) (T 2 : Int) (P 2 : Int) (T 3 : Int) (P 3 : Int) (x : Int)) (n := 4) go (fun x hx hno => ?_) hall
    exact enter x hx _ (scan_stop (l := fun K k y => impl_Triangulation_star.l13 K k ts (T 0 : Int) (P 0 : Int) (T 1 : Int) (P 1 : Int) (T 2 : Int) (P 2 : Int) (T 3 : Int) (P 3 : Int) (x : Int) (y : Int)) (n := 4) (fun y hy hp w hw => i41_pair hv hT hP hx hy (fun _ => hw) (fun e => by rw [hp] at e; cases e)) (fun y hy hn => i41_pair hv hT hP hx hy (fun e => by rw [hn] at e; cases e) (fun _ => rfl)) hno)
theorem s41_all {R : List Int × List (List GFace) × List GL12Outer × Bool} (hyes : (allB 4 fun x => allB 4 (okB ts T P x)) = true → Tends2 (fun K k => spec_l12Plan41.l13 K k (l4 T) (l4 P) free4 [] 0) R) (hno : (allB 4 fun x => allB 4 (okB ts T P x)) = false → R = ([], [], [], false)) : Tends2 (fun K k => spec_l12Plan41.l8 K k ts (l4 T) (l4 P) 0) R := by
  have enter : ∀ x : Nat, x < 4 → ∀ R, Tends2 (fun K k => spec_l12Plan41.l12 K k ts (l4 T) (l4 P) (x : Int) ((0 : Nat) : Int)) R → Tends2 (fun K k => spec_l12Plan41.l8 K k ts (l4 T) (l4 P) (x : Int)) R := fun x hx R h => by
    refine Tends2.step (fun K k => ?_) h
    rw [spec_l12Plan41.l8, if_pos (by omega)]; rfl
  have go : ∀ x : Nat, x < 4 → allB 4 (okB ts T P x) = true → ∀ v, Tends2 (fun K k => spec_l12Plan41.l8 K k ts (l4 T) (l4 P) ((x + 1 : Nat) : Int)) v → Tends2 (fun K k => spec_l12Plan41.l8 K k ts (l4 T) (l4 P) (x : Int)) v := fun x hx hok v h => by
    refine enter x hx v (scan_all (l := fun K k y => spec_l12Plan41.l12 K k ts (l4 T) (l4 P) (x : Int) (y : Int)) (n := 4) (fun y hy hp w hw => s41_pair hv hT hP hx hy (fun _ => hw) (fun e => by rw [hp] at e; cases e)) hok ?_)
    refine Tends2.step (fun K k => ?_) h
    rw [spec_l12Plan41.l12, if_neg (by omega), w64_succ (by omega)]
  cases hall : allB 4 fun x => allB 4 (okB ts T P x) with
  | true =>
    refine scan_all (l := fun K k x => spec_l12Plan41.l8 K k ts (l4 T) (l4 P) (x : Int)) (n := 4) go hall ?_
    refine Tends2.step (fun K k => ?_) (hyes hall)
    rw [spec_l12Plan41.l8, if_neg (by omega)]; rfl
  | false =>
    rw [hno hall]
    refine scan_stop (l := fun K k x => spec_l12Plan41.l8 K k ts (l4 T) (l4 P) (x : Int)) (n := 4) go (fun x hx hn => ?_) hall
    exact enter x hx _ (scan_stop (l := fun K k y => spec_l12Plan41.l12 K k ts (l4 T) (l4 P) (x : Int) (y : Int)) (n := 4) (fun y hy hp w hw => s41_pair hv hT hP hx hy (fun _ => hw) (fun e => by rw [hp] at e; cases e)) (fun y hy hn => s41_pair hv hT hP hx hy (fun e => by rw [hn] at e; cases e) (fun _ => rfl)) hn)
def o41 (T P : Nat → Nat) (x : Nat) : GL12Outer := ⟨(T x : Int), (PA (PI (P x)) x : Nat), 0, (P x : Int)⟩
def O41 (T P : Nat → Nat) : List GL12Outer := [o41 T P 0, o41 T P 1, o41 T P 2, o41 T P 3]
omit hv hT in
theorem i41_put {x : Nat} (hx : x < 4) {old : List Int} (ho : old.length ≤ 10) {m : List (Arr2 × GPlace)} {R : Option (List Int × List (Arr2 × GPlace) × Int × List Arr4)}
    (h : Tends2 (fun K k => impl_Triangulation_change41.l1 K k (T 0 : Int) (P 0 : Int) (T 1 : Int) (P 1 : Int) (T 2 : Int) (P 2 : Int) (T 3 : Int) (P 3 : Int) 1 [] (old ++ [(T x : Int)]) (putO m (o41 T P x)) ((x + 1 : Nat) : Int)) R) : Tends2 (fun K k => impl_Triangulation_change41.l1 K k (T 0 : Int) (P 0 : Int) (T 1 : Int) (P 1 : Int) (T 2 : Int) (P 2 : Int) (T 3 : Int) (P 3 : Int) 1 [] old m (x : Int)) R := by
  have hPx := hP x hx
  have gT := fun k (h : k < 4) => l4_get (f := T) h
  have gP := fun k (h : k < 4) => l4_get (f := P) h
  have gA := l4_get (f := PA (PI (P x))) hx
  refine Tends2.succ ?_
  simp only [impl_Triangulation_change41.l1, Int.toNat_natCast, gT x hx, gP x hx]
  refine Tends2.pos (by omega) (Tends2.pos (by omega) (Tends2.pos (by omega) ?_))
  refine Tends2.bind (invert_t hPx).two ?_
  refine Tends2.bind4 (perm_t (PI_lt hPx)).two ?_
  refine Tends2.bind4 (perm_t hPx).two ?_
  simp only [gA]
  refine Tends2.bind (a := putO m (o41 T P x)) ?_ ?_
  · have := (indexOf_t hPx).two
    exact Tends2.bind this (Tends2.const _)
  · rw [w64_succ (by omega)]; exact h
omit hv hT in
theorem s41_put {x : Nat} (hx : x < 4) {m : List GL12Outer} (hm : m.length ≤ 10) {R : List Int × List (List GFace) × List GL12Outer × Bool}
    (h : Tends2 (fun K k => spec_l12Plan41.l13 K k (l4 T) (l4 P) free4 (m ++ [o41 T P x]) ((x + 1 : Nat) : Int)) R) : Tends2 (fun K k => spec_l12Plan41.l13 K k (l4 T) (l4 P) free4 m (x : Int)) R := by
  have hPx := hP x hx
  have lT : (l4 T).length = 4 := rfl
  have lP : (l4 P).length = 4 := rfl
  have gT : ∀ k, k < 4 → (l4 T).getD k 0 = (T k : Int) := fun k (h : k < 4) => l4_get (f := T) h
  have gP : ∀ k, k < 4 → (l4 P).getD k 0 = (P k : Int) := fun k (h : k < 4) => l4_get (f := P) h
  refine Tends2.succ ?_
  simp only [spec_l12Plan41.l13, Int.toNat_natCast, gT x hx, gP x hx]
  refine Tends2.pos (by omega) (Tends2.pos (by omega) (Tends2.pos (by omega) ?_))
  refine Tends2.bind (back_t hPx).two ?_
  refine Tends2.bind (at_t (PI_lt hPx) hx).two ?_
  refine Tends2.pos (by omega) ?_
  rw [w64_succ (by omega)]; exact h
omit hv hT in
theorem i41_puts : Tends (fun K => impl_Triangulation_change41.l1 K K (T 0 : Int) (P 0 : Int) (T 1 : Int) (P 1 : Int) (T 2 : Int) (P 2 : Int) (T 3 : Int) (P 3 : Int) 1 [] [] [] 0) (some (l4 T, (O41 T P).foldl putO [], 1, [])) := by
  refine Tends2.diag (F := fun K k => impl_Triangulation_change41.l1 K k (T 0 : Int) (P 0 : Int) (T 1 : Int) (P 1 : Int) (T 2 : Int) (P 2 : Int) (T 3 : Int) (P 3 : Int) 1 [] [] [] ((0 : Nat) : Int)) ?_
  refine i41_put hP (by omega) (by simp) (i41_put hP (by omega) (by simp) (i41_put hP (by omega) (by simp) (i41_put hP (by omega) (by simp) ?_)))
  exact Tends2.of fun K k => by rw [impl_Triangulation_change41.l1, if_neg (by decide)]; rfl
omit hv hT in
theorem s41_puts : Tends2 (fun K k => spec_l12Plan41.l13 K k (l4 T) (l4 P) free4 [] 0) (l4 T, [free4], O41 T P, true) := by
  refine s41_put (x := 0) hP (by omega) (by simp) (s41_put hP (by omega) (by simp) (s41_put hP (by omega) (by simp) (s41_put hP (by omega) (by simp) ?_)))
  exact Tends2.of fun K k => by rw [spec_l12Plan41.l13, if_neg (by decide)]; rfl
end
end Go.Proofs.YtbjfinndngafoaaGreat
set_option linter.unusedVariables false
set_option linter.unusedSimpArgs false
set_option linter.unusedSectionVars false
namespace Go.Proofs.YtbjfinndngafoaaGreat
open Go.RowKit
theorem Tends.bind9 {α1 α2 α3 α4 α5 α6 α7 α8 α9 β : Type} {F : Nat → Option (α1 × α2 × α3 × α4 × α5 × α6 × α7 × α8 × α9)} {G : Nat → α1 → α2 → α3 → α4 → α5 → α6 → α7 → α8 → α9 → Option β} {a1 : α1} {a2 : α2} {a3 : α3} {a4 : α4} {a5 : α5} {a6 : α6} {a7 : α7} {a8 : α8} {a9 : α9} {r : β} (h : Tends F (a1, a2, a3, a4, a5, a6, a7, a8, a9)) (g : Tends (fun K => G K a1 a2 a3 a4 a5 a6 a7 a8 a9) r) : Tends (fun K => Go.Proofs.YtbjfinndngafoaaGreat.bind9 (F K) (G K)) r := by
  obtain ⟨n, hn⟩ := h
  obtain ⟨m, hm⟩ := g
  exact ⟨n + m, fun K hK => by show Go.Proofs.YtbjfinndngafoaaGreat.bind9 (F K) (G K) = some r; rw [hn K (by omega)]; exact hm K (by omega)⟩
section
variable {ts : List (List GFace)} (hv : Val ts)
include hv
theorem star1 {a A : Nat} (ha : a < ts.length) (hA : A < 4) : (¬ Round ts a A ∧ (∃ o1 o2 o3 o4 o5 o6 o7 o8, Tends (fun K => impl_Triangulation_star.f K ts (a : Int) (A : Int)) (o1, o2, o3, o4, o5, o6, o7, o8, false)) ∧ Tends (fun K => spec_l12Plan41.f K ts (a : Int) (A : Int)) ([], [], [], false)) ∨
    (Round ts a A ∧ (∀ R, Tends2 (fun K k => impl_Triangulation_star.l10 K k ts (stT ts a A 0 : Int) (stP ts a A 0 : Int) (stT ts a A 1 : Int) (stP ts a A 1 : Int) (stT ts a A 2 : Int) (stP ts a A 2 : Int) (stT ts a A 3 : Int) (stP ts a A 3 : Int) 0) R → Tends (fun K => impl_Triangulation_star.f K ts (a : Int) (A : Int)) R) ∧
      (∀ R, Tends2 (fun K k => spec_l12Plan41.l8 K k ts (l4 (stT ts a A)) (l4 (stP ts a A)) 0) R → Tends (fun K => spec_l12Plan41.f K ts (a : Int) (A : Int)) R)) := by
  rcases (by omega : A = 0 ∨ A = 1 ∨ A = 2 ∨ A = 3) with rfl | rfl | rfl | rfl
  · exact star1_0 hv ha
  · exact star1_1 hv ha
  · exact star1_2 hv ha
  · exact star1_3 hv ha
theorem st_range {a A : Nat} (ha : a < ts.length) (hA : A < 4) (hR : Round ts a A) : (∀ x, x < 4 → stT ts a A x < ts.length) ∧ ∀ x, x < 4 → stP ts a A x < 24 := by
  constructor
  · intro x hx
    by_cases h : x = A
    · rw [h, (stT_at ts a A).1]; exact ha
    · obtain ⟨b, q, hb, hq, hf⟩ := hR x hx h
      rw [(stT_of h hf).1]; exact hb
  · intro x hx
    by_cases h : x = A
    · rw [h, (stT_at ts a A).2]; omega
    · obtain ⟨b, q, hb, hq, hf⟩ := hR x hx h
      rw [(stT_of h hf).2]; exact PM_lt (PI_lt hq) (EXC_lt hA hx (fun e => h e.symm))
theorem c41_t {a A : Nat} (ha : a < ts.length) (hA : A < 4) :
    (Tends (fun K => impl_Triangulation_change41.f K ts (a : Int) (A : Int)) none ∧ Tends (fun K => spec_l12Plan41.f K ts (a : Int) (A : Int)) ([], [], [], false)) ∨
    (Round ts a A ∧ (allB 4 fun x => allB 4 (okB ts (stT ts a A) (stP ts a A) x)) = true ∧ Tends (fun K => impl_Triangulation_change41.f K ts (a : Int) (A : Int)) (some (l4 (stT ts a A), (O41 (stT ts a A) (stP ts a A)).foldl putO [], 1, [])) ∧
      Tends (fun K => spec_l12Plan41.f K ts (a : Int) (A : Int)) (l4 (stT ts a A), [free4], O41 (stT ts a A) (stP ts a A), true)) := by
  rcases star1 hv ha hA with ⟨_, ⟨o1, o2, o3, o4, o5, o6, o7, o8, h1⟩, h2⟩ | ⟨hR, h1, h2⟩
  · exact .inl ⟨Tends.bind9 h1 (Tends.neg (by decide) (Tends.const _)), h2⟩
  · obtain ⟨hT, hP⟩ := st_range hv ha hA hR
    have hi := h1 _ (i41_all hv hT hP)
    cases hall : allB 4 fun x => allB 4 (okB ts (stT ts a A) (stP ts a A) x) with
    | false =>
      rw [hall] at hi
      exact .inl ⟨Tends.bind9 hi (Tends.neg (by decide) (Tends.const _)), h2 _ (s41_all hv hT hP (fun h => by rw [hall] at h; cases h) (fun _ => rfl))⟩
    | true =>
      rw [hall] at hi
      refine .inr ⟨hR, rfl, Tends.bind9 hi (Tends.pos rfl (Tends.bind4 (a := []) (b := []) (c := 1) (d := []) (Tends.const _) (i41_puts hP))), h2 _ (s41_all hv hT hP (fun _ => s41_puts hP) (fun h => by rw [hall] at h; cases h))⟩
end
def Fits (r : Option (List Int × List (Arr2 × GPlace) × Int × List Arr4)) (pl : List Int × List (List GFace) × List GL12Outer × Bool) : Prop :=
  (r = none ∧ pl = ([], [], [], false)) ∨ ∃ old news fresh outer inner, r = some (old, outer.foldl putO [], news, inner) ∧ pl = (old, fresh, outer, true) ∧ news = (fresh.length : Int) ∧ old.length ≤ 4 ∧ fresh.length ≤ 4
def most (kind : Int) : Int := if kind = 1 ∨ kind = 4 then 4 else if kind = 2 then 6 else if kind = 3 then 1 else 0
theorem indices_t (kind : Int) : Tends (fun K => impl_indices.f K kind) (most kind) := by
  unfold most
  have j : ∀ b : Bool, Tends (fun K => impl_indices.j1 K K kind b) (if b = true then 4 else if kind = 2 then 6 else if kind = 3 then 1 else 0) := fun b => by
    refine Tends2.diag (F := fun K k => impl_indices.j1 K k kind b) (Tends2.of fun K k => ?_)
    rw [impl_indices.j1]
    (repeat' split) <;> rfl
  by_cases h1 : kind = 1
  · rw [if_pos (.inl h1)]
    exact Tends.pos h1 (by have := j (decide (kind = 1)); rw [decide_eq_true h1] at this ⊢; exact this)
  · refine Tends.neg h1 ?_
    by_cases h4 : kind = 4
    · rw [if_pos (.inr h4)]
      have := j (decide (kind = 4)); rw [decide_eq_true h4] at this ⊢; exact this
    · rw [if_neg (fun h => h.elim h1 h4)]
      have := j (decide (kind = 4)); rw [decide_eq_false h4] at this ⊢; exact this
theorem most_t (kind : Int) : Tends (fun K => spec_l12Most.f K kind) (most kind - 1) := by
  unfold most
  have j : ∀ b : Bool, Tends (fun K => spec_l12Most.j1 K K kind b) ((if b = true then 4 else if kind = 2 then 6 else if kind = 3 then 1 else 0) - 1) := fun b => by
    refine Tends2.diag (F := fun K k => spec_l12Most.j1 K k kind b) (Tends2.of fun K k => ?_)
    rw [spec_l12Most.j1]
    (repeat' split) <;> rfl
  by_cases h1 : kind = 1
  · rw [if_pos (.inl h1)]
    exact Tends.pos h1 (by have := j (decide (kind = 1)); rw [decide_eq_true h1] at this ⊢; exact this)
  · refine Tends.neg h1 ?_
    by_cases h4 : kind = 4
    · rw [if_pos (.inr h4)]
      have := j (decide (kind = 4)); rw [decide_eq_true h4] at this ⊢; exact this
    · rw [if_neg (fun h => h.elim h1 h4)]
      have := j (decide (kind = 4)); rw [decide_eq_false h4] at this ⊢; exact this
section
variable {ts : List (List GFace)} (hv : Val ts) (hT : Tends (fun K => spec_IsTriangulation.f K ts) true)
include hv hT
theorem change_t {kind : Int} {a A : Nat} (ha : a < ts.length) (hA : (A : Int) < most kind) : ∃ r pl, Fits r pl ∧ Tends (fun K => impl_Triangulation_change.f K ts kind (a : Int) (A : Int)) r ∧ Tends (fun K => spec_l12Make.f K ts kind (a : Int) (A : Int)) pl := by
  unfold most at hA
  by_cases h1 : kind = 1
  · rw [if_pos (.inl h1)] at hA
    rcases c23_t hv ha (show A < 4 by omega) with ⟨c1, c2⟩ | ⟨b, q, _, _, _, _, c1, c2⟩
    · exact ⟨_, _, .inl ⟨rfl, rfl⟩, Tends.pos h1 (Tends.bind c1 (Tends.const _)), Tends.pos h1 (Tends.bind4 c2 (Tends.const _))⟩
    · exact ⟨_, _, .inr ⟨_, _, _, _, _, rfl, rfl, rfl, by simp, by decide⟩, Tends.pos h1 (Tends.bind c1 (Tends.const _)), Tends.pos h1 (Tends.bind4 c2 (Tends.const _))⟩
  by_cases h4 : kind = 4
  · rw [if_pos (.inr h4)] at hA
    have h2 : ¬ kind = 2 := by omega
    have h3 : ¬ kind = 3 := by omega
    rcases c41_t hv ha (show A < 4 by omega) with ⟨c1, c2⟩ | ⟨_, _, c1, c2⟩
    · exact ⟨_, _, .inl ⟨rfl, rfl⟩, Tends.neg h1 (Tends.neg h2 (Tends.neg h3 (Tends.bind c1 (Tends.const _)))), Tends.neg h1 (Tends.neg h2 (Tends.neg h3 (Tends.bind4 c2 (Tends.const _))))⟩
    · exact ⟨_, _, .inr ⟨_, _, _, _, _, rfl, rfl, rfl, by simp [l4], by decide⟩, Tends.neg h1 (Tends.neg h2 (Tends.neg h3 (Tends.bind c1 (Tends.const _)))), Tends.neg h1 (Tends.neg h2 (Tends.neg h3 (Tends.bind4 c2 (Tends.const _))))⟩
  rw [if_neg (fun h => h.elim h1 h4)] at hA
  by_cases h2 : kind = 2
  · rw [if_pos h2] at hA
    rcases c32_t hv hT ha (show A < 6 by omega) with ⟨c1, c2⟩ | ⟨_, _, _, _, _, _, _, _, _, _, _, _, c1, c2⟩
    · exact ⟨_, _, .inl ⟨rfl, rfl⟩, Tends.neg h1 (Tends.pos h2 (Tends.bind c1 (Tends.const _))), Tends.neg h1 (Tends.pos h2 (Tends.bind4 c2 (Tends.const _)))⟩
    · exact ⟨_, _, .inr ⟨_, _, _, _, _, rfl, rfl, rfl, by simp, by decide⟩, Tends.neg h1 (Tends.pos h2 (Tends.bind c1 (Tends.const _))), Tends.neg h1 (Tends.pos h2 (Tends.bind4 c2 (Tends.const _)))⟩
  rw [if_neg h2] at hA
  by_cases h3 : kind = 3
  · exact ⟨_, _, .inr ⟨_, _, _, _, _, rfl, rfl, rfl, by simp, by decide⟩, Tends.neg h1 (Tends.neg h2 (Tends.pos h3 (Tends.bind4 (c14_i (a : Int)) (Tends.const _)))), Tends.neg h1 (Tends.neg h2 (Tends.pos h3 (Tends.bind3 (c14_s (a : Int)) (Tends.const _))))⟩
  · rw [if_neg h3] at hA; omega
end
theorem code_t {ts : List (List GFace)} (hv : Val ts) (hT : Tends (fun K => spec_IsTriangulation.f K ts) true) (kind tet ix : Int) : ∃ (r : Option (List Int × List (Arr2 × GPlace) × Int × List Arr4)) (code : Int) (pl : List Int × List (List GFace) × List GL12Outer × Bool),
    Tends (fun K => impl_Triangulation_moveCode.f K ts kind tet ix) (r, code) ∧ Tends (fun K => spec_l12Check.f K ts kind tet ix) (pl.1, pl.2.1, pl.2.2.1, code) ∧
      (code = 0 → ∃ c, r = some c ∧ Fits r (pl.1, pl.2.1, pl.2.2.1, true) ∧ ∃ a A : Nat, tet = (a : Int) ∧ ix = (A : Int) ∧ a < ts.length ∧ (A : Int) < most kind ∧ Tends (fun K => impl_Triangulation_change.f K ts kind tet ix) r ∧ Tends (fun K => spec_l12Make.f K ts kind tet ix) (pl.1, pl.2.1, pl.2.2.1, true)) := by
  have h8 := hv.le
  have hm : 0 ≤ most kind ∧ most kind ≤ 6 := by unfold most; (repeat' split) <;> omega
  have hw1 : w64 ((ts.length : Int) - 1) = (ts.length : Int) - 1 := w64_id (by omega) (by omega)
  have I : ∀ r, Tends (fun K => if decide (0 ≤ tet ∧ tet ≤ (ts.length : Int) - 1) = true then (if decide (0 ≤ ix ∧ ix ≤ most kind - 1) = true then ((impl_Triangulation_change.f K ts kind tet ix).bind fun t32 => (optC t32 (some (none, 5)) (fun x43 => if 8 < w64 ((w64 ((ts.length : Int) - (x43.1.length : Int))) + x43.2.2.1) then (some (none, 3)) else (some (some (x43.1, x43.2.1, x43.2.2.1, x43.2.2.2), 0))))) else (some (none, 2))) else (some (none, 2))) r → Tends (fun K => impl_Triangulation_moveCode.f K ts kind tet ix) r := fun r h => by
    refine Tends.bind (Tends.congr (fun K => hasFace h8 hv.four tet) (Tends.const _)) ?_
    by_cases h1 : 0 ≤ tet ∧ tet ≤ (ts.length : Int) - 1
    · rw [decide_eq_true h1] at h ⊢
      refine Tends.pos rfl (Tends.bind (indices_t kind) ?_)
      rw [rng_eq, w64_id (by omega) (by omega)]
      exact Tends.bind (Tends.const _) h
    · rw [decide_eq_false h1] at h ⊢
      exact Tends.neg (by decide) h
  have S : ∀ r, Tends (fun K => if most kind - 1 < 0 then (some (([] : List Int), ([] : List (List GFace)), ([] : List GL12Outer), (2 : Int))) else (if decide (0 ≤ tet ∧ tet ≤ (ts.length : Int) - 1) = true then (if decide (0 ≤ ix ∧ ix ≤ most kind - 1) = true then (Go.Proofs.YtbjfinndngafoaaGreat.bind4 (spec_l12Make.f K ts kind tet ix) (fun t58 t59 t60 t61 => (if t61 = true then (if 8 < w64 ((w64 ((ts.length : Int) - (t58.length : Int))) + (t59.length : Int)) then (some (([] : List Int), ([] : List (List GFace)), ([] : List GL12Outer), 3)) else (some (t58, t59, t60, 0))) else (some (([] : List Int), ([] : List (List GFace)), ([] : List GL12Outer), 5))))) else (some (([] : List Int), ([] : List (List GFace)), ([] : List GL12Outer), 2))) else (some (([] : List Int), ([] : List (List GFace)), ([] : List GL12Outer), 2)))) r → Tends (fun K => spec_l12Check.f K ts kind tet ix) r := fun r h => by
    refine Tends.bind hT (Tends.pos rfl (Tends.bind (most_t kind) ?_))
    by_cases h0 : most kind - 1 < 0
    · exact Tends.pos h0 (Tends.congr (fun K => (if_pos h0).symm) h)
    · have h' := Tends.congr (fun K => (if_neg h0).symm) h
      refine Tends.neg h0 (Tends.eqBind (x := (ts.length : Int)) rfl ?_)
      rw [in7_eq, hw1]
      refine Tends.bind (Tends.const _) ?_
      by_cases h1 : 0 ≤ tet ∧ tet ≤ (ts.length : Int) - 1
      · rw [decide_eq_true h1] at h' ⊢
        refine Tends.pos rfl (Tends.bind (most_t kind) ?_)
        rw [in7_eq]
        exact Tends.bind (Tends.const _) h'
      · rw [decide_eq_false h1] at h' ⊢
        exact Tends.neg (by decide) h'
  by_cases h1 : 0 ≤ tet ∧ tet ≤ (ts.length : Int) - 1
  rotate_left
  · refine ⟨none, 2, ([], [], [], false), I _ (Tends.neg (by rw [decide_eq_true_eq]; exact h1) (Tends.const _)), S _ ?_, fun h => by omega⟩
    by_cases h0 : most kind - 1 < 0
    · exact Tends.pos h0 (Tends.const _)
    · exact Tends.neg h0 (Tends.neg (by rw [decide_eq_true_eq]; exact h1) (Tends.const _))
  by_cases h2 : 0 ≤ ix ∧ ix ≤ most kind - 1
  rotate_left
  · refine ⟨none, 2, ([], [], [], false), I _ (Tends.pos (decide_eq_true h1) (Tends.neg (by rw [decide_eq_true_eq]; exact h2) (Tends.const _))), S _ ?_, fun h => by omega⟩
    by_cases h0 : most kind - 1 < 0
    · exact Tends.pos h0 (Tends.const _)
    · exact Tends.neg h0 (Tends.pos (decide_eq_true h1) (Tends.neg (by rw [decide_eq_true_eq]; exact h2) (Tends.const _)))
  have h0 : ¬ most kind - 1 < 0 := by omega
  obtain ⟨a, rfl⟩ : ∃ a : Nat, tet = (a : Int) := ⟨tet.toNat, by omega⟩
  obtain ⟨A, rfl⟩ : ∃ A : Nat, ix = (A : Int) := ⟨ix.toNat, by omega⟩
  obtain ⟨r, pl, hF, ti, tsp⟩ := change_t hv hT (kind := kind) (show a < ts.length by omega) (show (A : Int) < most kind by omega)
  have I2 := fun {r'} h => I r' (Tends.pos (decide_eq_true h1) (Tends.pos (decide_eq_true h2) (Tends.bind ti h)))
  rcases hF with ⟨rfl, rfl⟩ | ⟨old, news, fresh, outer, inner, rfl, rfl, rfl, l1, l2⟩
  · exact ⟨none, 5, ([], [], [], false), I2 (Tends.const _), S _ (Tends.neg h0 (Tends.pos (decide_eq_true h1) (Tends.pos (decide_eq_true h2) (Tends.bind4 tsp (Tends.neg (by decide) (Tends.const _)))))), fun h => by omega⟩
  · by_cases hb : 8 < w64 ((w64 ((ts.length : Int) - (old.length : Int))) + (fresh.length : Int))
    · exact ⟨none, 3, ([], [], [], false), I2 (Tends.pos hb (Tends.const _)), S _ (Tends.neg h0 (Tends.pos (decide_eq_true h1) (Tends.pos (decide_eq_true h2) (Tends.bind4 tsp (Tends.pos rfl (Tends.pos hb (Tends.const _))))))), fun h => by omega⟩
    · refine ⟨some (old, outer.foldl putO [], (fresh.length : Int), inner), 0, (old, fresh, outer, true), I2 (Tends.neg hb (Tends.const _)), S _ (Tends.neg h0 (Tends.pos (decide_eq_true h1) (Tends.pos (decide_eq_true h2) (Tends.bind4 tsp (Tends.pos rfl (Tends.neg hb (Tends.const _))))))), fun _ => ⟨_, rfl, .inr ⟨_, _, _, _, _, rfl, rfl, rfl, l1, l2⟩, a, A, rfl, rfl, by omega, by omega, ti, tsp⟩⟩
end Go.Proofs.YtbjfinndngafoaaGreat
set_option linter.unusedVariables false
set_option linter.unusedSimpArgs false
set_option linter.unusedSectionVars false
namespace Go.Proofs.YtbjfinndngafoaaGreat
open Go.RowKit
section
variable {n : Nat} (hn : n ≤ 8) {a f b p : Nat} (ha : a < n) (hf : f < 4) (hb : b < n) (hp : p < 24) {J : List (Nat × Nat)}
include hn ha hf hb hp
theorem fc_f {s : List Int} (hs : Parted (4 * n) J s) : ∃ s', Tends (fun K => impl_Triangulation_faceClasses_fn1_free.f K (a : Int) (f : Int) (b : Int) (p : Int) (PA p 0 : Int) (PA p 1 : Int) (PA p 2 : Int) (PA p 3 : Int) s) s' ∧ s'.length = s.length ∧ Parted (4 * n) (J ++ jf ⟨b, p⟩ a f) s' := by
  have h := PA_lt hp hf
  obtain ⟨s1, t1, l1, h1⟩ := unionP (by omega) hs (i := 4 * a + f) (k := 4 * b + PA p f) (mul_lt ha hf) (mul_lt hb h)
  refine ⟨s1, Tends.pos (by omega) (Tends.bind (a := s1) ?_ (Tends.pos l1 (Tends.const _))), l1, h1⟩
  refine Tends.congr (fun K => ?_) t1
  have e1 := w6 (c := 4) (a := a) (e := f) (by decide) (by omega) (by omega)
  have e2 := w6 (c := 4) (a := b) (e := PA p f) (by decide) (by omega) (by omega)
  rw [get4 hf, ← e1, ← e2]
  rfl
theorem vc_step {t7 : List Int} {i v : Nat} (hi : i < 3) (hl : t7.length = 3) (hv : v < 4) (ht : t7.getD i 0 = (v : Int)) {s : List Int} (hs : Parted (4 * n) J s) :
    ∃ s1, s1.length = s.length ∧ Parted (4 * n) (J ++ [(4 * a + v, 4 * b + PA p v)]) s1 ∧ ∀ R, Tends2 (fun K k => impl_Triangulation_vertexClasses_fn1_free.l1 K k (a : Int) (b : Int) (PA p 0 : Int) (PA p 1 : Int) (PA p 2 : Int) (PA p 3 : Int) t7 s1 ((i + 1 : Nat) : Int)) R → Tends2 (fun K k => impl_Triangulation_vertexClasses_fn1_free.l1 K k (a : Int) (b : Int) (PA p 0 : Int) (PA p 1 : Int) (PA p 2 : Int) (PA p 3 : Int) t7 s (i : Int)) R := by
  have h := PA_lt hp hv
  obtain ⟨s1, t1, l1, h1⟩ := unionP (by omega) hs (i := 4 * a + v) (k := 4 * b + PA p v) (mul_lt ha hv) (mul_lt hb h)
  refine ⟨s1, l1, h1, fun R hR => ?_⟩
  have e1 : w64 (w64 (4 * (a : Int)) + (v : Int)) = ((4 * a + v : Nat) : Int) := w6 (c := 4) (by decide) (by omega) (by omega)
  have e2 : w64 (w64 (4 * (b : Int)) + (PA p v : Int)) = ((4 * b + PA p v : Nat) : Int) := w6 (c := 4) (by decide) (by omega) (by omega)
  have g := get4 (p := p) hv
  rw [Int.toNat_natCast] at g
  refine Tends2.succ ?_
  simp only [impl_Triangulation_vertexClasses_fn1_free.l1, Int.toNat_natCast, ht, g, e1, e2]
  refine Tends2.pos (by omega) (Tends2.pos (by omega) (Tends2.pos (by omega) ?_))
  refine Tends2.bind t1.two (Tends2.pos l1 ?_)
  rw [w64_succ (by omega)]
  exact hR
theorem vc_f {s : List Int} (hs : Parted (4 * n) J s) : ∃ s', Tends (fun K => impl_Triangulation_vertexClasses_fn1_free.f K (a : Int) (f : Int) (b : Int) (p : Int) (PA p 0 : Int) (PA p 1 : Int) (PA p 2 : Int) (PA p 3 : Int) s) s' ∧ s'.length = s.length ∧ Parted (4 * n) (J ++ LJ (jv ⟨b, p⟩ a f) 4) s' := by
  obtain ⟨u, v, w, hO, hu, hv', hw, hJ⟩ : ∃ u v w, OT [f] = [u, v, w] ∧ u < 4 ∧ v < 4 ∧ w < 4 ∧ LJ (jv ⟨b, p⟩ a f) 4 = [(4 * a + u, 4 * b + PA p u), (4 * a + v, 4 * b + PA p v), (4 * a + w, 4 * b + PA p w)] := by
    rcases (by omega : f = 0 ∨ f = 1 ∨ f = 2 ∨ f = 3) with rfl | rfl | rfl | rfl
    · exact ⟨1, 2, 3, rfl, by omega, by omega, by omega, rfl⟩
    · exact ⟨0, 2, 3, rfl, by omega, by omega, by omega, rfl⟩
    · exact ⟨0, 1, 3, rfl, by omega, by omega, by omega, rfl⟩
    · exact ⟨0, 1, 2, rfl, by omega, by omega, by omega, rfl⟩
  obtain ⟨s1, l1, p1, c1⟩ := vc_step hn ha hf hb hp (t7 := ints [u, v, w]) (i := 0) (v := u) (by omega) rfl hu rfl hs
  obtain ⟨s2, l2, p2, c2⟩ := vc_step hn ha hf hb hp (t7 := ints [u, v, w]) (i := 1) (v := v) (by omega) rfl hv' rfl p1
  obtain ⟨s3, l3, p3, c3⟩ := vc_step hn ha hf hb hp (t7 := ints [u, v, w]) (i := 2) (v := w) (by omega) rfl hw rfl p2
  refine ⟨s3, Tends.bind (others1_t hf) ?_, by omega, ?_⟩
  · rw [hO]
    refine Tends2.diag (F := fun K k => impl_Triangulation_vertexClasses_fn1_free.l1 K k (a : Int) (b : Int) (PA p 0 : Int) (PA p 1 : Int) (PA p 2 : Int) (PA p 3 : Int) (ints [u, v, w]) s ((0 : Nat) : Int)) ?_
    refine c1 _ (c2 _ (c3 _ (Tends2.of fun K k => ?_)))
    rw [impl_Triangulation_vertexClasses_fn1_free.l1, if_neg (by show ¬ ((3 : Nat) : Int) < ((3 : Nat) : Int); omega)]
  · rw [hJ]
    have e : J ++ [(4 * a + u, 4 * b + PA p u), (4 * a + v, 4 * b + PA p v), (4 * a + w, 4 * b + PA p w)] = J ++ [(4 * a + u, 4 * b + PA p u)] ++ [(4 * a + v, 4 * b + PA p v)] ++ [(4 * a + w, 4 * b + PA p w)] := by simp
    rw [e]; exact p3
end
section
variable {ts : List (List GFace)} (hv : Val ts)
include hv
theorem fgl_l4 {a : Nat} (ha : a < ts.length) {J : List (Nat × Nat)} : ∀ (d f : Nat) (s : List Int), 4 - f = d → f ≤ 4 → Parted (4 * ts.length) (J ++ LJ (JFf ts a) f) s →
    ∃ s', s'.length = s.length ∧ Parted (4 * ts.length) (J ++ LJ (JFf ts a) 4) s' ∧ ∀ R, Tends2 (fun K k => impl_Triangulation_glued_Triangulation_faceClasses_fn1.l1 K k ts s' ((a + 1 : Nat) : Int)) R → Tends2 (fun K k => impl_Triangulation_glued_Triangulation_faceClasses_fn1.l4 K k ts (a : Int) s (f : Int)) R
  | 0, f, s, hd, hf, hs => by
    obtain rfl : f = 4 := by omega
    refine ⟨s, rfl, hs, fun R hR => Tends2.step (fun K k => ?_) hR⟩
    have := hv.four a ha
    have := hv.le
    rw [impl_Triangulation_glued_Triangulation_faceClasses_fn1.l4, Int.toNat_natCast, if_neg (by omega), w64_succ (by omega)]
  | d + 1, f, s, hd, hf, hs => by
    have h4 := hv.four a ha
    have h8 := hv.le
    rcases face_cases hv ha (show f < 4 by omega) with ⟨h1, h2⟩ | ⟨h1, b, p, hb, hp, h2, _⟩
    · obtain ⟨s', l, h, c⟩ := fgl_l4 ha d (f + 1) s (by omega) (by omega) (by rw [LJ, JFf, if_pos h1, List.append_nil]; exact hs)
      refine ⟨s', l, h, fun R hR => Tends2.step (fun K k => ?_) (c R hR)⟩
      rw [impl_Triangulation_glued_Triangulation_faceClasses_fn1.l4, Int.toNat_natCast, if_pos (by omega), if_pos (by omega), Int.toNat_natCast, bnd_eq, w64_succ (by omega)]
      show (impl_Face_isBoundary.f (face ts a f).Tet (face ts a f).Perm).bind _ = _
      rw [isB hv, Option.bind_some, decide_eq_true h1, if_pos rfl]
    · obtain ⟨s1, t1, l1, g1⟩ := fc_f hv.le ha (show f < 4 by omega) hb hp hs
      obtain ⟨s', l, h, c⟩ := fgl_l4 ha d (f + 1) s1 (by omega) (by omega) (by rw [LJ, JFf, if_neg h1, h2, ← List.append_assoc]; exact g1)
      refine ⟨s', l.trans l1, h, fun R hR => Tends2.step (fun K k => ?_) (Tends2.bind4 (F := fun K _ => impl_perm.f K (p : Int)) (G := fun K k i0 i1 i2 i3 => (impl_Triangulation_faceClasses_fn1_free.f K (a : Int) (f : Int) (b : Int) (p : Int) i0 i1 i2 i3 s).bind fun t228 => if t228.length = s.length then impl_Triangulation_glued_Triangulation_faceClasses_fn1.l4 K k ts (a : Int) t228 ((f + 1 : Nat) : Int) else none) (perm_t hp).two (Tends2.bind t1.two (Tends2.pos l1 (c R hR))))⟩
      rw [impl_Triangulation_glued_Triangulation_faceClasses_fn1.l4, Int.toNat_natCast, if_pos (by omega), if_pos (by omega), Int.toNat_natCast, bnd_eq, w64_succ (by omega)]
      show (impl_Face_isBoundary.f (face ts a f).Tet (face ts a f).Perm).bind _ = _
      rw [isB hv, Option.bind_some, decide_eq_false h1, if_neg (by decide)]
      show bind4 (impl_perm.f K (face ts a f).Perm) (fun t221 t222 t223 t224 => (impl_Triangulation_faceClasses_fn1_free.f K (a : Int) (f : Int) (face ts a f).Tet (face ts a f).Perm t221 t222 t223 t224 s).bind _) = _
      rw [h2]
theorem fgl_l1 : ∀ (d a : Nat) (s : List Int), ts.length - a = d → a ≤ ts.length → Parted (4 * ts.length) (LJ (fun a => LJ (JFf ts a) 4) a) s →
    ∃ s', Tends2 (fun K k => impl_Triangulation_glued_Triangulation_faceClasses_fn1.l1 K k ts s (a : Int)) s' ∧ s'.length = s.length ∧ Parted (4 * ts.length) (JF ts) s'
  | 0, a, s, hd, ha, hs => by
    obtain rfl : a = ts.length := by omega
    exact ⟨s, Tends2.of fun K k => by rw [impl_Triangulation_glued_Triangulation_faceClasses_fn1.l1, if_neg (by omega)], rfl, hs⟩
  | d + 1, a, s, hd, ha, hs => by
    have hlt : a < ts.length := by omega
    obtain ⟨s1, l1, g1, c⟩ := fgl_l4 hv hlt 4 0 s (by omega) (by omega) (by rw [LJ, List.append_nil]; exact hs)
    obtain ⟨s', t, l, h⟩ := fgl_l1 d (a + 1) s1 (by omega) (by omega) (by rw [LJ]; exact g1)
    refine ⟨s', Tends2.step (fun K k => ?_) (c s' t), l.trans l1, h⟩
    rw [impl_Triangulation_glued_Triangulation_faceClasses_fn1.l1, if_pos (by omega), if_pos (by omega)]
    rfl
theorem faceClasses_t : ∃ s, Parted (4 * ts.length) (JF ts) s ∧ Tends (fun K => impl_Triangulation_faceClasses.f K ts) (CN (4 * ts.length) s) := by
  have h8 := hv.le
  obtain ⟨s', t, l, h⟩ := fgl_l1 hv ts.length 0 (upto (4 * ts.length)) (by omega) (by omega) (parted_upto _)
  refine ⟨s', h, Tends.eqBind (x := (ts.length : Int)) rfl (Tends.bind (a := upto (4 * ts.length)) ?_ (Tends.bind t.diag (Tends.pos l (Tends.bind (a := CN (4 * ts.length) s') ?_ (Tends.const _)))))⟩
  · refine Tends.congr (fun K => ?_) (counting_l1 hv (N := 4 * ts.length) (by omega) _ 0 rfl (Nat.zero_le _)).diag
    have e1 := w6' (c := 4) (a := ts.length) (by decide) (by omega)
    rw [← e1]
    rfl
  · have := numbered (s := s') (by rw [h.len]; omega)
    rw [h.len] at this
    exact this
theorem vgl_l4 {a : Nat} (ha : a < ts.length) {J : List (Nat × Nat)} : ∀ (d f : Nat) (s : List Int), 4 - f = d → f ≤ 4 → Parted (4 * ts.length) (J ++ LJ (JVf ts a) f) s →
    ∃ s', s'.length = s.length ∧ Parted (4 * ts.length) (J ++ LJ (JVf ts a) 4) s' ∧ ∀ R, Tends2 (fun K k => impl_Triangulation_glued_Triangulation_vertexClasses_fn1.l1 K k ts s' ((a + 1 : Nat) : Int)) R → Tends2 (fun K k => impl_Triangulation_glued_Triangulation_vertexClasses_fn1.l4 K k ts (a : Int) s (f : Int)) R
  | 0, f, s, hd, hf, hs => by
    obtain rfl : f = 4 := by omega
    refine ⟨s, rfl, hs, fun R hR => Tends2.step (fun K k => ?_) hR⟩
    have := hv.four a ha
    have := hv.le
    rw [impl_Triangulation_glued_Triangulation_vertexClasses_fn1.l4, Int.toNat_natCast, if_neg (by omega), w64_succ (by omega)]
  | d + 1, f, s, hd, hf, hs => by
    have h4 := hv.four a ha
    have h8 := hv.le
    rcases face_cases hv ha (show f < 4 by omega) with ⟨h1, h2⟩ | ⟨h1, b, p, hb, hp, h2, _⟩
    · obtain ⟨s', l, h, c⟩ := vgl_l4 ha d (f + 1) s (by omega) (by omega) (by rw [LJ, JVf, if_pos h1, List.append_nil]; exact hs)
      refine ⟨s', l, h, fun R hR => Tends2.step (fun K k => ?_) (c R hR)⟩
      rw [impl_Triangulation_glued_Triangulation_vertexClasses_fn1.l4, Int.toNat_natCast, if_pos (by omega), if_pos (by omega), Int.toNat_natCast, bnd_eq, w64_succ (by omega)]
      show (impl_Face_isBoundary.f (face ts a f).Tet (face ts a f).Perm).bind _ = _
      rw [isB hv, Option.bind_some, decide_eq_true h1, if_pos rfl]
    · obtain ⟨s1, t1, l1, g1⟩ := vc_f hv.le ha (show f < 4 by omega) hb hp hs
      obtain ⟨s', l, h, c⟩ := vgl_l4 ha d (f + 1) s1 (by omega) (by omega) (by rw [LJ, JVf, if_neg h1, h2, ← List.append_assoc]; exact g1)
      refine ⟨s', l.trans l1, h, fun R hR => Tends2.step (fun K k => ?_) (Tends2.bind4 (F := fun K _ => impl_perm.f K (p : Int)) (G := fun K k i0 i1 i2 i3 => (impl_Triangulation_vertexClasses_fn1_free.f K (a : Int) (f : Int) (b : Int) (p : Int) i0 i1 i2 i3 s).bind fun t228 => if t228.length = s.length then impl_Triangulation_glued_Triangulation_vertexClasses_fn1.l4 K k ts (a : Int) t228 ((f + 1 : Nat) : Int) else none) (perm_t hp).two (Tends2.bind t1.two (Tends2.pos l1 (c R hR))))⟩
      rw [impl_Triangulation_glued_Triangulation_vertexClasses_fn1.l4, Int.toNat_natCast, if_pos (by omega), if_pos (by omega), Int.toNat_natCast, bnd_eq, w64_succ (by omega)]
      show (impl_Face_isBoundary.f (face ts a f).Tet (face ts a f).Perm).bind _ = _
      rw [isB hv, Option.bind_some, decide_eq_false h1, if_neg (by decide)]
      show bind4 (impl_perm.f K (face ts a f).Perm) (fun t221 t222 t223 t224 => (impl_Triangulation_vertexClasses_fn1_free.f K (a : Int) (f : Int) (face ts a f).Tet (face ts a f).Perm t221 t222 t223 t224 s).bind _) = _
      rw [h2]
theorem vgl_l1 : ∀ (d a : Nat) (s : List Int), ts.length - a = d → a ≤ ts.length → Parted (4 * ts.length) (LJ (fun a => LJ (JVf ts a) 4) a) s →
    ∃ s', Tends2 (fun K k => impl_Triangulation_glued_Triangulation_vertexClasses_fn1.l1 K k ts s (a : Int)) s' ∧ s'.length = s.length ∧ Parted (4 * ts.length) (JV ts) s'
  | 0, a, s, hd, ha, hs => by
    obtain rfl : a = ts.length := by omega
    exact ⟨s, Tends2.of fun K k => by rw [impl_Triangulation_glued_Triangulation_vertexClasses_fn1.l1, if_neg (by omega)], rfl, hs⟩
  | d + 1, a, s, hd, ha, hs => by
    have hlt : a < ts.length := by omega
    obtain ⟨s1, l1, g1, c⟩ := vgl_l4 hv hlt 4 0 s (by omega) (by omega) (by rw [LJ, List.append_nil]; exact hs)
    obtain ⟨s', t, l, h⟩ := vgl_l1 d (a + 1) s1 (by omega) (by omega) (by rw [LJ]; exact g1)
    refine ⟨s', Tends2.step (fun K k => ?_) (c s' t), l.trans l1, h⟩
    rw [impl_Triangulation_glued_Triangulation_vertexClasses_fn1.l1, if_pos (by omega), if_pos (by omega)]
    rfl
theorem vertexClasses_t : ∃ s, Parted (4 * ts.length) (JV ts) s ∧ Tends (fun K => impl_Triangulation_vertexClasses.f K ts) (CN (4 * ts.length) s) := by
  have h8 := hv.le
  obtain ⟨s', t, l, h⟩ := vgl_l1 hv ts.length 0 (upto (4 * ts.length)) (by omega) (by omega) (parted_upto _)
  refine ⟨s', h, Tends.eqBind (x := (ts.length : Int)) rfl (Tends.bind (a := upto (4 * ts.length)) ?_ (Tends.bind t.diag (Tends.pos l (Tends.bind (a := CN (4 * ts.length) s') ?_ (Tends.const _)))))⟩
  · refine Tends.congr (fun K => ?_) (counting_l1 hv (N := 4 * ts.length) (by omega) _ 0 rfl (Nat.zero_le _)).diag
    have e1 := w6' (c := 4) (a := ts.length) (by decide) (by omega)
    rw [← e1]
    rfl
  · have := numbered (s := s') (by rw [h.len]; omega)
    rw [h.len] at this
    exact this
end
end Go.Proofs.YtbjfinndngafoaaGreat
set_option linter.unusedVariables false
set_option linter.unusedSimpArgs false
set_option linter.unusedSectionVars false
namespace Go.Proofs.YtbjfinndngafoaaGreat
open Go.RowKit
structure Seen (m : List (Arr2 × Bool)) (k : Nat) (seen : List Int) : Prop where
  now : ∀ c : Int, (gget m ⟨(k : Int), c⟩).getD false = true ↔ c ∈ seen
  later : ∀ k' : Nat, k < k' → ∀ c : Int, gget m ⟨(k' : Int), c⟩ = none
theorem Seen.next {m : List (Arr2 × Bool)} {k : Nat} {seen : List Int} (h : Seen m k seen) : Seen m (k + 1) [] :=
  ⟨fun c => by rw [h.later (k + 1) (by omega) c]; simp, fun k' hk c => h.later k' (by omega) c⟩
theorem Seen.put {m : List (Arr2 × Bool)} {k : Nat} {seen : List Int} (h : Seen m k seen) (v : Int) : Seen (gput m ⟨(k : Int), v⟩ true) k (seen ++ [v]) := by
  refine ⟨fun c => ?_, fun k' hk c => ?_⟩
  · rw [gget_gput, List.mem_append, List.mem_singleton]
    by_cases e : c = v
    · subst e
      rw [if_pos rfl]; simp
    · rw [if_neg (fun q => e (by injection q)), h.now]
      simp [e]
  · rw [gget_gput, if_neg (fun q => by injection q with q _; omega)]
    exact h.later k' hk c
theorem nothing_seen : Seen [] 1 [] := ⟨fun c => by simp [gget], fun _ _ _ => rfl⟩
section
variable {ts : List (List GFace)} (hv : Val ts) (hT : Tends (fun K => spec_IsTriangulation.f K ts) true) {vs ys fs : List Int}
  (hV : Tends (fun K => impl_Triangulation_vertexClasses.f K ts) (CN (4 * ts.length) vs)) (hE : Tends (fun K => impl_Triangulation_edgeClasses.f K ts) (CN (6 * ts.length) ys)) (hF : Tends (fun K => impl_Triangulation_faceClasses.f K ts) (CN (4 * ts.length) fs))
include hv hT hV hE hF
theorem class_t {k : Nat} (hk : 1 ≤ k) (hk4 : k ≤ 4) {a i : Nat} (ha : a < ts.length) (hi : (i : Int) < most (k : Int)) : ∃ c : Int,
    Tends (fun _ => spec_l12Place.f (rowsOf (CN (4 * ts.length) vs) 4 ts.length) (rowsOf (CN (6 * ts.length) ys) 6 ts.length) (rowsOf (CN (4 * ts.length) fs) 4 ts.length) (k : Int) (a : Int) (i : Int)) c ∧ Tends (fun K => impl_Triangulation_moveClass.f K ts (k : Int) (a : Int) (i : Int)) c := by
  have h8 := hv.le
  unfold most at hi
  rcases (by omega : k = 1 ∨ k = 2 ∨ k = 3 ∨ k = 4) with rfl | rfl | rfl | rfl
  · have hi : i < 4 := by simp at hi; omega
    have w : w64 (w64 (4 * (a : Int)) + (i : Int)) = ((4 * a + i : Nat) : Int) := w6 (c := 4) (by decide) (by omega) (by omega)
    refine ⟨(CN (4 * ts.length) fs).getD (4 * a + i) 0, ?_, ?_⟩
    · refine Tends.pos rfl (Tends.pos (by rw [rowsOf_len]; omega) ?_)
      simp only [Int.toNat_natCast, rowsOf_get ha, rowAt_get hi]
      exact Tends.pos (by rw [rowAt_len]; omega) (Tends.const _)
    · refine Tends.pos rfl (Tends.bind hF ?_)
      simp only [w, Int.toNat_natCast]
      exact Tends.pos (by rw [CN_len]; omega) (Tends.const _)
  · have hi : i < 6 := by simp at hi; omega
    have w : w64 (w64 (6 * (a : Int)) + (i : Int)) = ((6 * a + i : Nat) : Int) := w6 (c := 6) (by decide) (by omega) (by omega)
    refine ⟨(CN (6 * ts.length) ys).getD (6 * a + i) 0, ?_, ?_⟩
    · refine Tends.neg (by decide) (Tends.pos rfl (Tends.pos (by rw [rowsOf_len]; omega) ?_))
      simp only [Int.toNat_natCast, rowsOf_get ha, rowAt_get hi]
      exact Tends.pos (by rw [rowAt_len]; omega) (Tends.const _)
    · refine Tends.neg (by decide) (Tends.pos rfl (Tends.bind hE ?_))
      simp only [w, Int.toNat_natCast]
      exact Tends.pos (by rw [CN_len]; omega) (Tends.const _)
  · exact ⟨(a : Int), Tends.neg (by decide) (Tends.neg (by decide) (Tends.pos rfl (Tends.const _))), Tends.neg (by decide) (Tends.neg (by decide) (Tends.pos rfl (Tends.const _)))⟩
  · have hi : i < 4 := by simp at hi; omega
    have w : w64 (w64 (4 * (a : Int)) + (i : Int)) = ((4 * a + i : Nat) : Int) := w6 (c := 4) (by decide) (by omega) (by omega)
    refine ⟨(CN (4 * ts.length) vs).getD (4 * a + i) 0, ?_, ?_⟩
    · refine Tends.neg (by decide) (Tends.neg (by decide) (Tends.neg (by decide) (Tends.pos (by rw [rowsOf_len]; omega) ?_)))
      simp only [Int.toNat_natCast, rowsOf_get ha, rowAt_get hi]
      exact Tends.pos (by rw [rowAt_len]; omega) (Tends.const _)
    · refine Tends.neg (by decide) (Tends.neg (by decide) (Tends.neg (by decide) (Tends.bind hV ?_)))
      simp only [w, Int.toNat_natCast]
      exact Tends.pos (by rw [CN_len]; omega) (Tends.const _)
theorem poss_13 {k : Nat} (hk : 1 ≤ k) (hk4 : k ≤ 4) {a : Nat} (ha : a < ts.length) : ∀ (d i : Nat) (out : List GMove) (seen : List Int) (m : List (Arr2 × Bool)), (most (k : Int)).toNat - i = d → i ≤ (most (k : Int)).toNat → Seen m k seen → out.length + d ≤ 500 → seen.length + d ≤ 500 →
    ∃ out' seen' m', Seen m' k seen' ∧ out'.length ≤ out.length + d ∧ seen'.length ≤ seen.length + d ∧
      (∀ R, Tends2 (fun K r => spec_l12Possible.l10 K r ts (rowsOf (CN (4 * ts.length) vs) 4 ts.length) (rowsOf (CN (6 * ts.length) ys) 6 ts.length) (rowsOf (CN (4 * ts.length) fs) 4 ts.length) (k : Int) out' seen' ((a + 1 : Nat) : Int)) R →
        Tends2 (fun K r => spec_l12Possible.l13 K r ts (rowsOf (CN (4 * ts.length) vs) 4 ts.length) (rowsOf (CN (6 * ts.length) ys) 6 ts.length) (rowsOf (CN (4 * ts.length) fs) 4 ts.length) (k : Int) (a : Int) out seen (i : Int)) R) ∧
      (∀ R, Tends2 (fun K r => impl_Triangulation_possibleMoves.l10 K r ts (k : Int) (ts.length : Int) out' m' ((a + 1 : Nat) : Int)) R →
        Tends2 (fun K r => impl_Triangulation_possibleMoves.l13 K r ts (k : Int) (ts.length : Int) (a : Int) (most (k : Int)) out m (i : Int)) R)
  | 0, i, out, seen, m, hd, hle, hs, b1, b2 => by
    have h8 := hv.le
    have hm : 0 ≤ most (k : Int) ∧ most (k : Int) ≤ 6 := by unfold most; (repeat' split) <;> omega
    refine ⟨out, seen, m, hs, by omega, by omega, fun R h => ?_, fun R h => ?_⟩
    · refine Tends2.succ ?_
      simp only [spec_l12Possible.l13]
      refine Tends2.bind (most_t (k : Int)).two (Tends2.neg (by omega) ?_)
      rw [w64_succ (by omega)]; exact h
    · refine Tends2.step (fun K r => ?_) h
      rw [impl_Triangulation_possibleMoves.l13, if_neg (by omega), w64_succ (by omega)]
  | d + 1, i, out, seen, m, hd, hle, hs, b1, b2 => by
    have h8 := hv.le
    have hm : 0 ≤ most (k : Int) ∧ most (k : Int) ≤ 6 := by unfold most; (repeat' split) <;> omega
    have hi : (i : Int) < most (k : Int) := by omega
    have a1 : (most (k : Int)).toNat - (i + 1) = d := by omega
    have a2 : i + 1 ≤ (most (k : Int)).toNat := by omega
    obtain ⟨c, c1, c2⟩ := class_t hv hT hV hE hF hk hk4 ha hi
    obtain ⟨r, code, pl, q1, q2, _⟩ := code_t hv hT (k : Int) (a : Int) (i : Int)
    have q3 : Tends (fun K => spec_MoveCode.f K ts (k : Int) (a : Int) (i : Int)) code := Tends.bind4 q2 (Tends.const _)
    by_cases hc : code = 0 ∧ ¬ c ∈ seen
    · obtain ⟨out', seen', m', g1, g2, g3, g4, g5⟩ := poss_13 hk hk4 ha d (i + 1) (out ++ [⟨(k : Int), (a : Int), (i : Int)⟩]) (seen ++ [c]) (gput m ⟨(k : Int), c⟩ true) a1 a2 (hs.put c) (by rw [List.length_append, List.length_singleton]; omega) (by rw [List.length_append, List.length_singleton]; omega)
      rw [List.length_append, List.length_singleton] at g2 g3
      refine ⟨out', seen', m', g1, by omega, by omega, fun R h => ?_, fun R h => ?_⟩
      · have := g4 R h
        refine Tends2.succ ?_
        simp only [spec_l12Possible.l13]
        refine Tends2.bind (most_t (k : Int)).two (Tends2.pos (by omega) ?_)
        refine Tends2.bind c1.two ?_
        refine Tends2.bind (has_t (by omega)).two ?_
        refine Tends2.neg (by rw [decide_eq_true_eq]; exact hc.2) ?_
        refine Tends2.bind q3.two ?_
        refine Tends2.pos hc.1 (Tends2.pos (by omega) (Tends2.pos (by omega) ?_))
        rw [w64_succ (by omega)]; exact this
      · have := g5 R h
        refine Tends2.succ ?_
        simp only [impl_Triangulation_possibleMoves.l13]
        refine Tends2.pos (by omega) ?_
        refine Tends2.bind2 q1.two ?_
        refine Tends2.pos hc.1 ?_
        refine Tends2.bind c2.two ?_
        refine Tends2.neg (fun q => hc.2 ((hs.now c).1 q)) (Tends2.pos (by omega) ?_)
        rw [w64_succ (by omega)]; exact this
    · obtain ⟨out', seen', m', g1, g2, g3, g4, g5⟩ := poss_13 hk hk4 ha d (i + 1) out seen m a1 a2 hs (by omega) (by omega)
      refine ⟨out', seen', m', g1, by omega, by omega, fun R h => ?_, fun R h => ?_⟩
      · have := g4 R h
        refine Tends2.succ ?_
        simp only [spec_l12Possible.l13]
        refine Tends2.bind (most_t (k : Int)).two (Tends2.pos (by omega) ?_)
        refine Tends2.bind c1.two ?_
        refine Tends2.bind (has_t (by omega)).two ?_
        rw [w64_succ (by omega)]
        by_cases hin : c ∈ seen
        · exact Tends2.pos (decide_eq_true hin) this
        · refine Tends2.neg (by rw [decide_eq_true_eq]; exact hin) (Tends2.bind q3.two ?_)
          exact Tends2.neg (fun e => hc ⟨e, hin⟩) this
      · have := g5 R h
        refine Tends2.succ ?_
        simp only [impl_Triangulation_possibleMoves.l13]
        refine Tends2.pos (by omega) ?_
        refine Tends2.bind2 q1.two ?_
        rw [w64_succ (by omega)]
        by_cases h0 : code = 0
        · refine Tends2.pos h0 (Tends2.bind c2.two ?_)
          have hin : c ∈ seen := Classical.byContradiction fun q => hc ⟨h0, q⟩
          exact Tends2.pos ((hs.now c).2 hin) this
        · exact Tends2.neg h0 this
theorem poss_10 {k : Nat} (hk : 1 ≤ k) (hk4 : k ≤ 4) : ∀ (d a : Nat) (out : List GMove) (seen : List Int) (m : List (Arr2 × Bool)), ts.length - a = d → a ≤ ts.length → Seen m k seen → out.length + 6 * d ≤ 490 → seen.length + 6 * d ≤ 490 →
    ∃ out' m', Seen m' (k + 1) [] ∧ out'.length ≤ out.length + 6 * d ∧
      (∀ R, Tends2 (fun K r => spec_l12Possible.l1 K r ts (rowsOf (CN (4 * ts.length) vs) 4 ts.length) (rowsOf (CN (6 * ts.length) ys) 6 ts.length) (rowsOf (CN (4 * ts.length) fs) 4 ts.length) out' ((k + 1 : Nat) : Int)) R →
        Tends2 (fun K r => spec_l12Possible.l10 K r ts (rowsOf (CN (4 * ts.length) vs) 4 ts.length) (rowsOf (CN (6 * ts.length) ys) 6 ts.length) (rowsOf (CN (4 * ts.length) fs) 4 ts.length) (k : Int) out seen (a : Int)) R) ∧
      (∀ R, Tends2 (fun K r => impl_Triangulation_possibleMoves.l1 K r ts out' m' ((k + 1 : Nat) : Int)) R →
        Tends2 (fun K r => impl_Triangulation_possibleMoves.l10 K r ts (k : Int) (ts.length : Int) out m (a : Int)) R)
  | 0, a, out, seen, m, hd, hle, hs, b1, b2 => by
    have h8 := hv.le
    refine ⟨out, m, hs.next, by omega, fun R h => Tends2.step (fun K r => ?_) h, fun R h => Tends2.step (fun K r => ?_) h⟩
    · rw [spec_l12Possible.l10, spec_l07Tets.f, Option.bind_some, if_neg (by omega), w64_succ (by omega)]
    · rw [impl_Triangulation_possibleMoves.l10, if_neg (by omega), w64_succ (by omega)]
  | d + 1, a, out, seen, m, hd, hle, hs, b1, b2 => by
    have h8 := hv.le
    have hm : 0 ≤ most (k : Int) ∧ most (k : Int) ≤ 6 := by unfold most; (repeat' split) <;> omega
    obtain ⟨o1, s1, m1, g1, g2, g3, g4, g5⟩ := poss_13 hv hT hV hE hF hk hk4 (show a < ts.length by omega) _ 0 out seen m rfl (by omega) hs (by omega) (by omega)
    obtain ⟨o2, m2, f1, f2, f3, f4⟩ := poss_10 hk hk4 d (a + 1) o1 s1 m1 (by omega) (by omega) g1 (by omega) (by omega)
    refine ⟨o2, m2, f1, by omega, fun R h => ?_, fun R h => ?_⟩
    · refine Tends2.step (fun K r => ?_) (g4 R (f3 R h))
      rw [spec_l12Possible.l10, spec_l07Tets.f, Option.bind_some, if_pos (by omega)]; rfl
    · refine Tends2.succ ?_
      simp only [impl_Triangulation_possibleMoves.l10]
      refine Tends2.pos (by omega) (Tends2.bind (indices_t (k : Int)).two ?_)
      exact g5 R (f4 R h)
theorem poss_1 : ∀ (d k : Nat) (out : List GMove) (m : List (Arr2 × Bool)), 5 - k = d → 1 ≤ k → k ≤ 5 → Seen m k [] → out.length + 48 * d ≤ 200 →
    ∃ L : List GMove, L.length ≤ out.length + 48 * d ∧ Tends2 (fun K r => spec_l12Possible.l1 K r ts (rowsOf (CN (4 * ts.length) vs) 4 ts.length) (rowsOf (CN (6 * ts.length) ys) 6 ts.length) (rowsOf (CN (4 * ts.length) fs) 4 ts.length) out (k : Int)) L ∧ Tends2 (fun K r => impl_Triangulation_possibleMoves.l1 K r ts out m (k : Int)) L
  | 0, k, out, m, hd, hk, hle, hs, b1 => by
    refine ⟨out, by omega, Tends2.of fun K r => ?_, Tends2.of fun K r => ?_⟩
    · rw [spec_l12Possible.l1, if_neg (by omega)]
    · rw [impl_Triangulation_possibleMoves.l1, if_neg (by omega)]
  | d + 1, k, out, m, hd, hk, hle, hs, b1 => by
    have h8 := hv.le
    obtain ⟨o1, m1, g1, g2, g3, g4⟩ := poss_10 hv hT hV hE hF hk (show k ≤ 4 by omega) ts.length 0 out [] m rfl (by omega) hs (by omega) (by simp; omega)
    obtain ⟨L, f0, f1, f2⟩ := poss_1 d (k + 1) o1 m1 (by omega) (by omega) (by omega) g1 (by omega)
    refine ⟨L, by omega, Tends2.step (fun K r => ?_) (g3 L f1), Tends2.step (fun K r => ?_) (g4 L f2)⟩
    · rw [spec_l12Possible.l1, if_pos (by omega)]; rfl
    · rw [impl_Triangulation_possibleMoves.l1, if_pos (by omega), impl_size_impl_Face.f, Option.bind_some]; rfl
end
theorem possible_t {ts : List (List GFace)} (hv : Val ts) (hT : Tends (fun K => spec_IsTriangulation.f K ts) true) : ∃ L : List GMove, L.length ≤ 200 ∧ Tends (fun K => spec_l12Possible.f K ts) L ∧ Tends (fun K => impl_Triangulation_possibleMoves.f K ts) L := by
  obtain ⟨vs, ys, fs, h1, h2, h3, hcnt⟩ := count_t hv
  obtain ⟨s1, p1, t1⟩ := edgeClasses_t hv
  obtain ⟨s2, p2, t2⟩ := vertexClasses_t hv
  obtain ⟨s3, p3, t3⟩ := faceClasses_t hv
  have hE : Tends (fun K => impl_Triangulation_edgeClasses.f K ts) (CN (6 * ts.length) ys) := by rw [CN_same (h2.1.same p1)]; exact t1
  have hV : Tends (fun K => impl_Triangulation_vertexClasses.f K ts) (CN (4 * ts.length) vs) := by rw [CN_same (h1.1.same p2)]; exact t2
  have hF : Tends (fun K => impl_Triangulation_faceClasses.f K ts) (CN (4 * ts.length) fs) := by rw [CN_same (h3.1.same p3)]; exact t3
  obtain ⟨L, l, a, b⟩ := poss_1 hv hT hV hE hF 4 1 [] [] (by omega) (by omega) (by omega) nothing_seen (by simp)
  exact ⟨L, by simp at l; omega, Tends.bind4 hcnt a.diag, b.diag⟩
theorem possible_both (ts : List (List GFace)) (hn : ts.length ≤ 2000000) : ∃ L : List GMove, L.length ≤ 200 ∧ Tends (fun K => spec_PossibleMoves.f K ts) L ∧ Tends (fun K => impl_PossibleMoves.f K ts) L := by
  obtain ⟨b, h1, h2, h3⟩ := tri_both ts hn
  cases b with
  | false => exact ⟨[], by simp, Tends.bind h2 (Tends.neg (by decide) (Tends.const _)), Tends.bind h3 (Tends.neg (by decide) (Tends.const _))⟩
  | true =>
    obtain ⟨L, l, a, b⟩ := possible_t (h1 rfl) h2
    exact ⟨L, l, Tends.bind h2 (Tends.pos rfl (Tends.bind a (Tends.const _))), Tends.bind h3 (Tends.pos rfl (Tends.bind b (Tends.const _)))⟩
end Go.Proofs.YtbjfinndngafoaaGreat
set_option linter.unusedVariables false
set_option linter.unusedSimpArgs false
set_option linter.unusedSectionVars false
namespace Go.Proofs.YtbjfinndngafoaaGreat
open Go.RowKit
def sumF (f : Nat → Nat) : Nat → Nat → Nat
  | _, 0 => 0
  | i, m + 1 => f i + sumF f (i + 1) m
def MaxK : Int := 1000000000000000
theorem gds_self {α : Type} {xs : List α} {i : Nat} {x z : α} (h : i < xs.length) : (xs.set i x).getD i z = x := by
  rw [List.getD_eq_getElem?_getD, List.getElem?_set_self h]; rfl
theorem gds_ne {α : Type} {xs : List α} {i j : Nat} {x z : α} (h : i ≠ j) : (xs.set i x).getD j z = xs.getD j z := by
  rw [List.getD_eq_getElem?_getD, List.getElem?_set_ne h, ← List.getD_eq_getElem?_getD]
theorem mark_loop {α : Type} {xs : List α} {z : α} {l : Nat → Nat → List α → Int → Nat → Option (Int × List α)} {l' : Nat → Nat → List α → Int → Nat → Option Int} {cnt : Nat → Nat}
    (he : ∀ K k ys kk, ys.length = xs.length → l K (k + 1) ys kk xs.length = some (kk, ys)) (he' : ∀ K k ys kk, ys.length = xs.length → l' K (k + 1) ys kk xs.length = some kk)
    (h1 : ∀ i, i < xs.length → ∀ kk : Int, 0 ≤ kk → kk + (cnt i : Int) ≤ MaxK → ∃ y,
      (∀ ys r, ys.length = xs.length → ys.getD i z = xs.getD i z → Tends2 (fun K k => l K k (ys.set i y) (kk + (cnt i : Int)) (i + 1)) r → Tends2 (fun K k => l K k ys kk i) r) ∧
      (∀ ys r, ys.length = xs.length → ys.getD i z = y → Tends2 (fun K k => l' K k ys (kk + (cnt i : Int)) (i + 1)) r → Tends2 (fun K k => l' K k ys kk i) r)) :
    ∀ (m i : Nat) (ys : List α) (kk : Int), xs.length - i = m → i ≤ xs.length → ys.length = xs.length → (∀ j, i ≤ j → j < xs.length → ys.getD j z = xs.getD j z) → 0 ≤ kk → kk + (sumF cnt i m : Int) ≤ MaxK →
      ∃ zs, zs.length = xs.length ∧ (∀ j, j < i → zs.getD j z = ys.getD j z) ∧ Tends2 (fun K k => l K k ys kk i) (kk + (sumF cnt i m : Int), zs) ∧ Tends2 (fun K k => l' K k zs kk i) (kk + (sumF cnt i m : Int))
  | 0, i, ys, kk, hm, hi, hy, hg, h0, hb => by
    obtain rfl : i = xs.length := by omega
    refine ⟨ys, hy, fun _ _ => rfl, Tends2.of fun K k => ?_, Tends2.of fun K k => ?_⟩
    · rw [he K k ys kk hy]; simp [sumF]
    · rw [he' K k ys kk hy]; simp [sumF]
  | m + 1, i, ys, kk, hm, hi, hy, hg, h0, hb => by
    have hlt : i < xs.length := by omega
    have hs : (sumF cnt i (m + 1) : Int) = (cnt i : Int) + (sumF cnt (i + 1) m : Int) := by rw [sumF]; omega
    obtain ⟨y, a, b⟩ := h1 i hlt kk h0 (by omega)
    obtain ⟨zs, z1, z2, z3, z4⟩ := mark_loop he he' h1 m (i + 1) (ys.set i y) (kk + (cnt i : Int)) (by omega) (by omega) (by rw [List.length_set]; exact hy) (fun j hj hj' => by rw [gds_ne (by omega)]; exact hg j (by omega) hj') (by omega) (by omega)
    have hk : kk + (sumF cnt i (m + 1) : Int) = kk + (cnt i : Int) + (sumF cnt (i + 1) m : Int) := by omega
    rw [hk]
    refine ⟨zs, z1, fun j hj => ?_, a ys _ hy (hg i (Nat.le_refl _) hlt) z3, b zs _ z1 ?_ z4⟩
    · rw [z2 j (by omega), gds_ne (by omega)]
    · rw [z2 i (by omega), gds_self (by omega)]
def MarkL {β : Type} (mark : Nat → List β → Int → Option (Int × List β)) (held : Nat → List β → Int → Option Int) (xs : List β) (c : Nat) : Prop :=
  ∀ kk : Int, 0 ≤ kk → kk + (c : Int) ≤ MaxK → ∃ ys, ys.length = xs.length ∧ Tends (fun K => mark K xs kk) (kk + (c : Int), ys) ∧ Tends (fun K => held K ys kk) (kk + (c : Int))
theorem MarkL.of {α : Type} {xs : List α} {z : α} {mark : Nat → List α → Int → Option (Int × List α)} {held : Nat → List α → Int → Option Int} {l : Nat → Nat → List α → Int → Int → Option (Int × List α)} {l' : Nat → Nat → List α → Int → Int → Option Int} {cnt : Nat → Nat}
    (hm : ∀ K xs kk, mark K xs kk = l K K xs kk 0) (hh : ∀ K xs kk, held K xs kk = l' K K xs kk 0)
    (he : ∀ K k ys kk, ys.length = xs.length → l K (k + 1) ys kk (xs.length : Int) = some (kk, ys)) (he' : ∀ K k ys kk, ys.length = xs.length → l' K (k + 1) ys kk (xs.length : Int) = some kk)
    (h1 : ∀ i, i < xs.length → ∀ kk : Int, 0 ≤ kk → kk + (cnt i : Int) ≤ MaxK → ∃ y,
      (∀ ys r, ys.length = xs.length → ys.getD i z = xs.getD i z → Tends2 (fun K k => l K k (ys.set i y) (kk + (cnt i : Int)) ((i + 1 : Nat) : Int)) r → Tends2 (fun K k => l K k ys kk (i : Int)) r) ∧
      (∀ ys r, ys.length = xs.length → ys.getD i z = y → Tends2 (fun K k => l' K k ys (kk + (cnt i : Int)) ((i + 1 : Nat) : Int)) r → Tends2 (fun K k => l' K k ys kk (i : Int)) r)) : MarkL mark held xs (sumF cnt 0 xs.length) := fun kk h0 hb => by
  obtain ⟨zs, z1, _, z3, z4⟩ := mark_loop (l := fun K k ys kk i => l K k ys kk (i : Int)) (l' := fun K k ys kk i => l' K k ys kk (i : Int)) he he' h1 xs.length 0 xs kk (by omega) (by omega) rfl (fun _ _ _ => rfl) h0 hb
  exact ⟨zs, z1, Tends.congr (fun K => hm K xs kk) z3.diag, Tends.congr (fun K => hh K zs kk) z4.diag⟩
theorem sumF_const (c : Nat) : ∀ m i, sumF (fun _ => c) i m = c * m
  | 0, _ => rfl
  | m + 1, i => by rw [sumF, sumF_const c m, Nat.mul_succ, Nat.add_comm]
section
variable {kk : Int}
theorem w1 (h0 : 0 ≤ kk) (h1 : kk ≤ MaxK + 10) : w64 (kk + 1) = kk + 1 := by unfold MaxK at h1; exact w64_id (by omega) (by omega)
end
theorem sumF_le {f : Nat → Nat} {B : Nat} : ∀ (m i : Nat), (∀ j, i ≤ j → j < i + m → f j ≤ B) → sumF f i m ≤ B * m
  | 0, _, _ => Nat.le_refl _
  | m + 1, i, h => by
    have h1 := h i (Nat.le_refl _) (by omega)
    have h2 := sumF_le m (i + 1) (fun j a b => h j (by omega) (by omega))
    rw [sumF, Nat.mul_succ]; omega
end Go.Proofs.YtbjfinndngafoaaGreat
set_option linter.unusedVariables false
set_option linter.unusedSimpArgs false
set_option linter.unusedSectionVars false
namespace Go.Proofs.YtbjfinndngafoaaGreat
open Go.RowKit
theorem markMoveS {xs : List GMove} (hn : xs.length ≤ 2000000) : MarkL laws_markMoveS.f laws_heldMoveS.f xs (3 * xs.length) := by
  have h := MarkL.of (xs := xs) (z := z_GMove) (mark := laws_markMoveS.f) (held := laws_heldMoveS.f) (l := laws_markMoveS.l1) (l' := laws_heldMoveS.l1) (cnt := fun _ => 3) (fun _ _ _ => rfl) (fun _ _ _ => rfl)
    (fun K k ys kk hy => by rw [laws_markMoveS.l1, if_neg (by omega)]) (fun K k ys kk hy => by rw [laws_heldMoveS.l1, if_neg (by omega)]) (fun i hi kk h0 hb => ⟨⟨kk, kk + 1, kk + 2⟩, fun ys r hy hg h => Tends2.step (fun K k => ?_) h, fun ys r hy hg h => Tends2.step (fun K k => ?_) h⟩)
  · rw [sumF_const] at h; exact h
  all_goals
    have e1 := w1 h0 (by omega)
    have e2 : w64 (kk + 1 + 1) = kk + 2 := (w1 (by omega) (by omega)).trans (by omega)
    have e3 : w64 (kk + 2 + 1) = kk + 3 := (w1 (by omega) (by omega)).trans (by omega)
  · rw [laws_markMoveS.l1, if_pos (by omega), if_pos (by omega), Int.toNat_natCast]
    simp only [bnd_eq, List.length_set, if_pos (show 0 ≤ (i : Int) ∧ (i : Int) < (ys.length : Int) by omega), gds_self (show i < ys.length by omega), List.set_set, e1, e2, e3, w64_succ (show i < 4611686018427387904 by omega)]
    rfl
  · rw [laws_heldMoveS.l1, if_pos (by omega), if_pos (by omega), Int.toNat_natCast, hg, bnd_eq, if_pos rfl, e1, if_pos rfl, e2, if_pos rfl, e3, w64_succ (by omega)]; rfl
theorem eqMoveS_l1 {xs : List GMove} (hn : xs.length ≤ 2000000) : ∀ (m i : Nat), xs.length - i = m → Tends2 (fun K k => laws_eqMoveS.l1 K k xs xs (i : Int)) true
  | 0, i, hm => Tends2.of fun K k => by rw [laws_eqMoveS.l1, if_neg (by omega)]
  | m + 1, i, hm => by
    refine Tends2.step (fun K k => ?_) (eqMoveS_l1 hn m (i + 1) (by omega))
    rw [laws_eqMoveS.l1, if_pos (by omega), if_pos (by omega), bnd_eq, if_pos (by omega), bnd_eq, w64_succ (by omega)]
    unfold laws_eqMove.f
    rw [if_pos rfl, if_pos rfl, if_pos rfl, Option.bind_some, if_pos rfl]
theorem eqMoveS {xs : List GMove} (hn : xs.length ≤ 2000000) : Tends (fun K => laws_eqMoveS.f K xs xs) true := Tends.pos rfl (eqMoveS_l1 hn xs.length 0 rfl).diag
theorem markMv {xs : List GMove} (hn : xs.length ≤ 2000000) : ∃ (q : Int) (ys : List GMove), 0 ≤ q ∧ ys.length = xs.length ∧ Tends (fun K => laws_markMoveS.f K xs 1) (q, ys) ∧ Tends (fun K => laws_heldMoveS.f K ys 1) q := by
  obtain ⟨ys, y1, y2, y3⟩ := markMoveS hn 1 (by decide) (by unfold MaxK; omega)
  exact ⟨1 + ((3 * xs.length : Nat) : Int), ys, by omega, y1, y2, y3⟩
end Go.Proofs.YtbjfinndngafoaaGreat
set_option linter.unusedVariables false
set_option linter.unusedSimpArgs false
set_option linter.unusedSectionVars false
namespace Go.Proofs.YtbjfinndngafoaaGreat
open Go.RowKit
def MarkO {β : Type} (mark : Nat → List β → Int → Option (Int × List β)) (xs : List β) (c : Nat) : Prop := MarkL mark (fun _ _ kk => some (kk + (c : Int))) xs c
theorem MarkO.of {α : Type} {xs : List α} {z : α} {mark : Nat → List α → Int → Option (Int × List α)} {l : Nat → Nat → List α → Int → Int → Option (Int × List α)} {cnt : Nat → Nat}
    (hm : ∀ K xs kk, mark K xs kk = l K K xs kk 0) (he : ∀ K k ys kk, ys.length = xs.length → l K (k + 1) ys kk (xs.length : Int) = some (kk, ys))
    (h1 : ∀ i, i < xs.length → ∀ kk : Int, 0 ≤ kk → kk + (cnt i : Int) ≤ MaxK → ∃ y,
      (∀ ys r, ys.length = xs.length → ys.getD i z = xs.getD i z → Tends2 (fun K k => l K k (ys.set i y) (kk + (cnt i : Int)) ((i + 1 : Nat) : Int)) r → Tends2 (fun K k => l K k ys kk (i : Int)) r)) : MarkO mark xs (sumF cnt 0 xs.length) :=
  MarkL.of (z := z) (l := l) (l' := fun _ _ _ kk i => some (kk + (sumF cnt i.toNat (xs.length - i.toNat) : Int))) (cnt := cnt) hm (fun _ _ _ => rfl) he (fun K k ys kk hy => by simp [sumF]) fun i hi kk h0 hb => by
    obtain ⟨y, hy⟩ := h1 i hi kk h0 hb
    refine ⟨y, hy, fun ys r _ _ h => ?_⟩
    have e : sumF cnt i (xs.length - i) = cnt i + sumF cnt (i + 1) (xs.length - (i + 1)) := by rw [show xs.length - i = (xs.length - (i + 1)) + 1 by omega, sumF]
    simp only [Int.toNat_natCast] at h ⊢
    rw [e, Int.natCast_add, ← Int.add_assoc]
    exact h
theorem markFaceS {xs : List GFace} (hn : xs.length ≤ 2000000) : MarkO laws_markFaceS.f xs (2 * xs.length) := by
  have h := MarkO.of (xs := xs) (z := z_GFace) (mark := laws_markFaceS.f) (l := laws_markFaceS.l1) (cnt := fun _ => 2) (fun _ _ _ => rfl)
    (fun K k ys kk hy => by rw [laws_markFaceS.l1, if_neg (by omega)]) (fun i hi kk h0 hb => ⟨⟨kk, kk + 1⟩, fun ys r hy hg h => Tends2.step (fun K k => ?_) h⟩)
  · rw [sumF_const] at h; exact h
  · have e1 := w1 h0 (by omega)
    have e2 : w64 (kk + 1 + 1) = kk + 2 := (w1 (by omega) (by omega)).trans (by omega)
    rw [laws_markFaceS.l1, if_pos (by omega), if_pos (by omega), Int.toNat_natCast]
    simp only [bnd_eq, List.length_set, if_pos (show 0 ≤ (i : Int) ∧ (i : Int) < (ys.length : Int) by omega), gds_self (show i < ys.length by omega), List.set_set, e1, e2, w64_succ (show i < 4611686018427387904 by omega)]
    rfl
def cF (xs : List (List GFace)) : Nat := sumF (fun i => 2 * (xs.getD i []).length) 0 xs.length
theorem markFaceSS {xs : List (List GFace)} (hn : xs.length ≤ 2000000) (h : ∀ j, j < xs.length → (xs.getD j []).length ≤ 2000000) : MarkO laws_markFaceSS.f xs (cF xs) :=
  MarkO.of (z := []) (l := laws_markFaceSS.l1) (cnt := fun i => 2 * (xs.getD i []).length) (fun _ _ _ => rfl) (fun K k ys kk hy => by rw [laws_markFaceSS.l1, if_neg (by omega)]) fun i hi kk h0 hb => by
    obtain ⟨y, y1, y2, _⟩ := markFaceS (h i hi) kk h0 hb
    refine ⟨y, fun ys r hy hg h => ?_⟩
    refine Tends2.step (fun K k => ?_) (Tends2.bind2 (G := fun K k a b => if b.length = (xs.getD i []).length then laws_markFaceSS.l1 K k (ys.set i b) a ((i + 1 : Nat) : Int) else none) y2.two (Tends2.pos y1 h))
    rw [laws_markFaceSS.l1, if_pos (by omega), if_pos (by omega), Int.toNat_natCast, hg, w64_succ (by omega)]
theorem markTri {xs : List (List GFace)} (hn : xs.length ≤ 2000000) (h : ∀ j, j < xs.length → (xs.getD j []).length ≤ 2000000) : ∃ (q : Int) (ys : List (List GFace)), (0 ≤ q ∧ q ≤ 100000000000000) ∧ ys.length = xs.length ∧ Tends (fun K => laws_markTriangulation.f K xs 1) (q, ys) := by
  have hc : cF xs ≤ 4000000 * xs.length := by
    unfold cF
    exact sumF_le xs.length 0 (fun j _ hj => by have := h j (by omega); show 2 * (xs.getD j []).length ≤ 4000000; omega)
  obtain ⟨ys, y1, y2, _⟩ := markFaceSS hn h 1 (by decide) (by unfold MaxK; omega)
  exact ⟨1 + (cF xs : Int), ys, ⟨by omega, by omega⟩, y1, Tends.bind2 y2 (Tends.pos y1 (Tends.const _))⟩
end Go.Proofs.YtbjfinndngafoaaGreat
