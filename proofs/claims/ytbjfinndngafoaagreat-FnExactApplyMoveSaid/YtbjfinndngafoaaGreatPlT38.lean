/-
  Triangulations: the star of a vertex.
  Triangulations: the move 4-1 in both.
  Triangulations: the code of a move in both.
  What a change does to a triangulation, place by place.
  A change: both sides of a gluing; setting one place.
  A change, as the reference makes it.
  A change, as the reference makes it, whole.
  A change, as the program makes it: the rows to begin with.
-/
import Derived.Test.YtbjfinndngafoaaGreatPlT24
set_option linter.unusedVariables false
set_option linter.unusedSimpArgs false
set_option linter.unusedSectionVars false
namespace Go.Proofs.YtbjfinndngafoaaGreat
open Go.RowKit
def stT (ts : List (List Ab)) (a A x : Nat) : Nat := if x = A then a else (Bv ts a x).Tet.toNat
def stP (ts : List (List Ab)) (a A x : Nat) : Nat := if x = A then 0 else PM (PI (Bv ts a x).Perm.toNat) (EXC A x)
def l4 (f : Nat → Nat) : List Int := [(f 0 : Int), (f 1 : Int), (f 2 : Int), (f 3 : Int)]
def Iz (ts : List (List Ab)) (a A : Nat) : Prop := ∀ x, x < 4 → x ≠ A → ∃ b q : Nat, b < ts.length ∧ q < 24 ∧ Bv ts a x = ⟨b, q⟩
theorem J2 {ts : List (List Ab)} {a A x b q : Nat} (h : x ≠ A) (hf : Bv ts a x = ⟨b, q⟩) : stT ts a A x = b ∧ stP ts a A x = PM (PI q) (EXC A x) := by
  unfold stT stP
  rw [if_neg h, if_neg h, hf]; exact ⟨rfl, rfl⟩
theorem Pq (ts : List (List Ab)) (a A : Nat) : stT ts a A A = a ∧ stP ts a A A = 0 := by
  unfold stT stP
  rw [if_pos rfl, if_pos rfl]; exact ⟨rfl, rfl⟩
section
variable {ts : List (List Ab)} (hv : Val ts)
include hv
theorem Iz.no {a A x : Nat} (hx : x < 4) (hxA : x ≠ A) (hb : (Bv ts a x).Tet < 0) : ¬ Iz ts a A := fun h => by
  obtain ⟨b, q, _, _, h1⟩ := h x hx hxA
  rw [h1] at hb
  have hb : (b : Int) < 0 := hb
  omega
theorem iY {a : Nat} (ha : a < ts.length) : (¬ Iz ts a 0 ∧ (∃ o1 o2 o3 o4 o5 o6 o7 o8, Ac (fun K => Ag.f K ts (a : Int) ((0 : Nat) : Int)) (o1, o2, o3, o4, o5, o6, o7, o8, false)) ∧ Ac (fun K => Am.f K ts (a : Int) ((0 : Nat) : Int)) ([], [], [], false)) ∨
    (Iz ts a 0 ∧ (∀ R, Aa (fun K k => Ag.l10 K k ts (stT ts a 0 0 : Int) (stP ts a 0 0 : Int) (stT ts a 0 1 : Int) (stP ts a 0 1 : Int) (stT ts a 0 2 : Int) (stP ts a 0 2 : Int) (stT ts a 0 3 : Int) (stP ts a 0 3 : Int) 0) R → Ac (fun K => Ag.f K ts (a : Int) ((0 : Nat) : Int)) R) ∧
      (∀ R, Aa (fun K k => Am.l8 K k ts (l4 (stT ts a 0)) (l4 (stP ts a 0)) 0) R → Ac (fun K => Am.f K ts (a : Int) ((0 : Nat) : Int)) R)) := by
  have hA : 0 < 4 := by omega
  have I : ∀ R, Aa (fun K k => Ag.l1 K k ts (a : Int) ((0 : Nat) : Int) (ints (OT [0])) (se 0 ((0 : Nat) : Int) (a : Int) 0) (se 0 ((0 : Nat) : Int) 0 0) (se 1 ((0 : Nat) : Int) (a : Int) 0) (se 1 ((0 : Nat) : Int) 0 0) (se 2 ((0 : Nat) : Int) (a : Int) 0) (se 2 ((0 : Nat) : Int) 0 0) (se 3 ((0 : Nat) : Int) (a : Int) 0) (se 3 ((0 : Nat) : Int) 0 0) ((0 : Nat) : Int)) R → Ac (fun K => Ag.f K ts (a : Int) ((0 : Nat) : Int)) R := fun R h => by
    refine Ac.pos (by omega) (Ac.bind (Ll hA) ?_)
    exact h.G8
  have S : ∀ R, Aa (fun K k => Am.l1 K k ts (a : Int) ((0 : Nat) : Int) ([0, 0, 0, 0].set 0 (a : Int)) [0, 0, 0, 0] ((0 : Nat) : Int)) R → Ac (fun K => Am.f K ts (a : Int) ((0 : Nat) : Int)) R := fun R h => by
    refine Ac.pos (by decide) ?_
    exact h.G8
  have e := Pq ts a 0
  rcases Ea hv ha (show 1 < 4 by omega) with ⟨g1, _⟩ | ⟨_, b1, q1, hb1, hq1, f1, _⟩
  · refine .inl ⟨Iz.no hv (show 1 < 4 by omega) (by omega) g1, ?_, S _ ?_⟩
    · exact ⟨_, _, _, _, _, _, _, _, I _ (Jb hv ha hA rfl (i := 0) (y := 1) (by omega) (by omega) rfl g1)⟩
    · skip
      refine Jq hv ha hA ?_
      exact Ja hv ha hA (y := 1) (by omega) (by omega) g1
  rcases Ea hv ha (show 2 < 4 by omega) with ⟨g2, _⟩ | ⟨_, b2, q2, hb2, hq2, f2, _⟩
  · refine .inl ⟨Iz.no hv (show 2 < 4 by omega) (by omega) g2, ?_, S _ ?_⟩
    · exact ⟨_, _, _, _, _, _, _, _, I _ (H5 hv ha hA rfl (i := 0) (y := 1) (by omega) (by omega) (by omega) rfl f1 hq1 (Jb hv ha hA rfl (i := 1) (y := 2) (by omega) (by omega) rfl g2))⟩
    · skip
      refine Jq hv ha hA ?_
      refine Hz hv ha hA (by simp) (by simp) (y := 1) (by omega) (by omega) f1 hq1 ?_
      exact Ja hv ha hA (y := 2) (by omega) (by omega) g2
  rcases Ea hv ha (show 3 < 4 by omega) with ⟨g3, _⟩ | ⟨_, b3, q3, hb3, hq3, f3, _⟩
  · refine .inl ⟨Iz.no hv (show 3 < 4 by omega) (by omega) g3, ?_, S _ ?_⟩
    · exact ⟨_, _, _, _, _, _, _, _, I _ (H5 hv ha hA rfl (i := 0) (y := 1) (by omega) (by omega) (by omega) rfl f1 hq1 (H5 hv ha hA rfl (i := 1) (y := 2) (by omega) (by omega) (by omega) rfl f2 hq2 (Jb hv ha hA rfl (i := 2) (y := 3) (by omega) (by omega) rfl g3)))⟩
    · skip
      refine Jq hv ha hA ?_
      refine Hz hv ha hA (by simp) (by simp) (y := 1) (by omega) (by omega) f1 hq1 ?_
      refine Hz hv ha hA (by simp) (by simp) (y := 2) (by omega) (by omega) f2 hq2 ?_
      exact Ja hv ha hA (y := 3) (by omega) (by omega) g3
  obtain ⟨t1, p1⟩ := J2 (A := 0) (by omega) f1
  obtain ⟨t2, p2⟩ := J2 (A := 0) (by omega) f2
  obtain ⟨t3, p3⟩ := J2 (A := 0) (by omega) f3
  refine .inr ⟨fun x hx hxA => ?_, fun R h => I _ ?_, fun R h => S _ ?_⟩
  · rcases (by omega : x = 1 ∨ x = 2 ∨ x = 3) with rfl | rfl | rfl
    · exact ⟨b1, q1, hb1, hq1, f1⟩
    · exact ⟨b2, q2, hb2, hq2, f2⟩
    · exact ⟨b3, q3, hb3, hq3, f3⟩
  · skip
    refine H5 hv ha hA rfl (i := 0) (y := 1) (by omega) (by omega) (by omega) rfl f1 hq1 ?_
    refine H5 hv ha hA rfl (i := 1) (y := 2) (by omega) (by omega) (by omega) rfl f2 hq2 ?_
    refine H5 hv ha hA rfl (i := 2) (y := 3) (by omega) (by omega) (by omega) rfl f3 hq3 ?_
    rw [e.1, e.2, t1, p1, t2, p2, t3, p3] at h
    refine Aa.step (fun K k => ?_) h
    rw [Ag.l1, if_neg (by decide)]; rfl
  · skip
    refine Jq hv ha hA ?_
    refine Hz hv ha hA (by simp) (by simp) (y := 1) (by omega) (by omega) f1 hq1 ?_
    refine Hz hv ha hA (by simp) (by simp) (y := 2) (by omega) (by omega) f2 hq2 ?_
    refine Hz hv ha hA (by simp) (by simp) (y := 3) (by omega) (by omega) f3 hq3 ?_
    unfold l4 at h
    rw [e.1, e.2, t1, p1, t2, p2, t3, p3] at h
    refine Aa.step (fun K k => ?_) h
    rw [Am.l1, if_neg (by decide)]; rfl
theorem iL {a : Nat} (ha : a < ts.length) : (¬ Iz ts a 1 ∧ (∃ o1 o2 o3 o4 o5 o6 o7 o8, Ac (fun K => Ag.f K ts (a : Int) ((1 : Nat) : Int)) (o1, o2, o3, o4, o5, o6, o7, o8, false)) ∧ Ac (fun K => Am.f K ts (a : Int) ((1 : Nat) : Int)) ([], [], [], false)) ∨
    (Iz ts a 1 ∧ (∀ R, Aa (fun K k => Ag.l10 K k ts (stT ts a 1 0 : Int) (stP ts a 1 0 : Int) (stT ts a 1 1 : Int) (stP ts a 1 1 : Int) (stT ts a 1 2 : Int) (stP ts a 1 2 : Int) (stT ts a 1 3 : Int) (stP ts a 1 3 : Int) 0) R → Ac (fun K => Ag.f K ts (a : Int) ((1 : Nat) : Int)) R) ∧
      (∀ R, Aa (fun K k => Am.l8 K k ts (l4 (stT ts a 1)) (l4 (stP ts a 1)) 0) R → Ac (fun K => Am.f K ts (a : Int) ((1 : Nat) : Int)) R)) := by
  have hA : 1 < 4 := by omega
  have I : ∀ R, Aa (fun K k => Ag.l1 K k ts (a : Int) ((1 : Nat) : Int) (ints (OT [1])) (se 0 ((1 : Nat) : Int) (a : Int) 0) (se 0 ((1 : Nat) : Int) 0 0) (se 1 ((1 : Nat) : Int) (a : Int) 0) (se 1 ((1 : Nat) : Int) 0 0) (se 2 ((1 : Nat) : Int) (a : Int) 0) (se 2 ((1 : Nat) : Int) 0 0) (se 3 ((1 : Nat) : Int) (a : Int) 0) (se 3 ((1 : Nat) : Int) 0 0) ((0 : Nat) : Int)) R → Ac (fun K => Ag.f K ts (a : Int) ((1 : Nat) : Int)) R := fun R h => by
    refine Ac.pos (by omega) (Ac.bind (Ll hA) ?_)
    exact h.G8
  have S : ∀ R, Aa (fun K k => Am.l1 K k ts (a : Int) ((1 : Nat) : Int) ([0, 0, 0, 0].set 1 (a : Int)) [0, 0, 0, 0] ((0 : Nat) : Int)) R → Ac (fun K => Am.f K ts (a : Int) ((1 : Nat) : Int)) R := fun R h => by
    refine Ac.pos (by decide) ?_
    exact h.G8
  have e := Pq ts a 1
  rcases Ea hv ha (show 0 < 4 by omega) with ⟨g0, _⟩ | ⟨_, b0, q0, hb0, hq0, f0, _⟩
  · refine .inl ⟨Iz.no hv (show 0 < 4 by omega) (by omega) g0, ?_, S _ ?_⟩
    · exact ⟨_, _, _, _, _, _, _, _, I _ (Jb hv ha hA rfl (i := 0) (y := 0) (by omega) (by omega) rfl g0)⟩
    · skip
      exact Ja hv ha hA (y := 0) (by omega) (by omega) g0
  rcases Ea hv ha (show 2 < 4 by omega) with ⟨g2, _⟩ | ⟨_, b2, q2, hb2, hq2, f2, _⟩
  · refine .inl ⟨Iz.no hv (show 2 < 4 by omega) (by omega) g2, ?_, S _ ?_⟩
    · exact ⟨_, _, _, _, _, _, _, _, I _ (H5 hv ha hA rfl (i := 0) (y := 0) (by omega) (by omega) (by omega) rfl f0 hq0 (Jb hv ha hA rfl (i := 1) (y := 2) (by omega) (by omega) rfl g2))⟩
    · skip
      refine Hz hv ha hA (by simp) (by simp) (y := 0) (by omega) (by omega) f0 hq0 ?_
      refine Jq hv ha hA ?_
      exact Ja hv ha hA (y := 2) (by omega) (by omega) g2
  rcases Ea hv ha (show 3 < 4 by omega) with ⟨g3, _⟩ | ⟨_, b3, q3, hb3, hq3, f3, _⟩
  · refine .inl ⟨Iz.no hv (show 3 < 4 by omega) (by omega) g3, ?_, S _ ?_⟩
    · exact ⟨_, _, _, _, _, _, _, _, I _ (H5 hv ha hA rfl (i := 0) (y := 0) (by omega) (by omega) (by omega) rfl f0 hq0 (H5 hv ha hA rfl (i := 1) (y := 2) (by omega) (by omega) (by omega) rfl f2 hq2 (Jb hv ha hA rfl (i := 2) (y := 3) (by omega) (by omega) rfl g3)))⟩
    · skip
      refine Hz hv ha hA (by simp) (by simp) (y := 0) (by omega) (by omega) f0 hq0 ?_
      refine Jq hv ha hA ?_
      refine Hz hv ha hA (by simp) (by simp) (y := 2) (by omega) (by omega) f2 hq2 ?_
      exact Ja hv ha hA (y := 3) (by omega) (by omega) g3
  obtain ⟨t0, p0⟩ := J2 (A := 1) (by omega) f0
  obtain ⟨t2, p2⟩ := J2 (A := 1) (by omega) f2
  obtain ⟨t3, p3⟩ := J2 (A := 1) (by omega) f3
  refine .inr ⟨fun x hx hxA => ?_, fun R h => I _ ?_, fun R h => S _ ?_⟩
  · rcases (by omega : x = 0 ∨ x = 2 ∨ x = 3) with rfl | rfl | rfl
    · exact ⟨b0, q0, hb0, hq0, f0⟩
    · exact ⟨b2, q2, hb2, hq2, f2⟩
    · exact ⟨b3, q3, hb3, hq3, f3⟩
  · skip
    refine H5 hv ha hA rfl (i := 0) (y := 0) (by omega) (by omega) (by omega) rfl f0 hq0 ?_
    refine H5 hv ha hA rfl (i := 1) (y := 2) (by omega) (by omega) (by omega) rfl f2 hq2 ?_
    refine H5 hv ha hA rfl (i := 2) (y := 3) (by omega) (by omega) (by omega) rfl f3 hq3 ?_
    rw [e.1, e.2, t0, p0, t2, p2, t3, p3] at h
    refine Aa.step (fun K k => ?_) h
    rw [Ag.l1, if_neg (by decide)]; rfl
  · skip
    refine Hz hv ha hA (by simp) (by simp) (y := 0) (by omega) (by omega) f0 hq0 ?_
    refine Jq hv ha hA ?_
    refine Hz hv ha hA (by simp) (by simp) (y := 2) (by omega) (by omega) f2 hq2 ?_
    refine Hz hv ha hA (by simp) (by simp) (y := 3) (by omega) (by omega) f3 hq3 ?_
    unfold l4 at h
    rw [e.1, e.2, t0, p0, t2, p2, t3, p3] at h
    refine Aa.step (fun K k => ?_) h
    rw [Am.l1, if_neg (by decide)]; rfl
theorem fZ {a : Nat} (ha : a < ts.length) : (¬ Iz ts a 2 ∧ (∃ o1 o2 o3 o4 o5 o6 o7 o8, Ac (fun K => Ag.f K ts (a : Int) ((2 : Nat) : Int)) (o1, o2, o3, o4, o5, o6, o7, o8, false)) ∧ Ac (fun K => Am.f K ts (a : Int) ((2 : Nat) : Int)) ([], [], [], false)) ∨
    (Iz ts a 2 ∧ (∀ R, Aa (fun K k => Ag.l10 K k ts (stT ts a 2 0 : Int) (stP ts a 2 0 : Int) (stT ts a 2 1 : Int) (stP ts a 2 1 : Int) (stT ts a 2 2 : Int) (stP ts a 2 2 : Int) (stT ts a 2 3 : Int) (stP ts a 2 3 : Int) 0) R → Ac (fun K => Ag.f K ts (a : Int) ((2 : Nat) : Int)) R) ∧
      (∀ R, Aa (fun K k => Am.l8 K k ts (l4 (stT ts a 2)) (l4 (stP ts a 2)) 0) R → Ac (fun K => Am.f K ts (a : Int) ((2 : Nat) : Int)) R)) := by
  have hA : 2 < 4 := by omega
  have I : ∀ R, Aa (fun K k => Ag.l1 K k ts (a : Int) ((2 : Nat) : Int) (ints (OT [2])) (se 0 ((2 : Nat) : Int) (a : Int) 0) (se 0 ((2 : Nat) : Int) 0 0) (se 1 ((2 : Nat) : Int) (a : Int) 0) (se 1 ((2 : Nat) : Int) 0 0) (se 2 ((2 : Nat) : Int) (a : Int) 0) (se 2 ((2 : Nat) : Int) 0 0) (se 3 ((2 : Nat) : Int) (a : Int) 0) (se 3 ((2 : Nat) : Int) 0 0) ((0 : Nat) : Int)) R → Ac (fun K => Ag.f K ts (a : Int) ((2 : Nat) : Int)) R := fun R h => by
    refine Ac.pos (by omega) (Ac.bind (Ll hA) ?_)
    exact h.G8
  have S : ∀ R, Aa (fun K k => Am.l1 K k ts (a : Int) ((2 : Nat) : Int) ([0, 0, 0, 0].set 2 (a : Int)) [0, 0, 0, 0] ((0 : Nat) : Int)) R → Ac (fun K => Am.f K ts (a : Int) ((2 : Nat) : Int)) R := fun R h => by
    refine Ac.pos (by decide) ?_
    exact h.G8
  have e := Pq ts a 2
  rcases Ea hv ha (show 0 < 4 by omega) with ⟨g0, _⟩ | ⟨_, b0, q0, hb0, hq0, f0, _⟩
  · refine .inl ⟨Iz.no hv (show 0 < 4 by omega) (by omega) g0, ?_, S _ ?_⟩
    · exact ⟨_, _, _, _, _, _, _, _, I _ (Jb hv ha hA rfl (i := 0) (y := 0) (by omega) (by omega) rfl g0)⟩
    · skip
      exact Ja hv ha hA (y := 0) (by omega) (by omega) g0
  rcases Ea hv ha (show 1 < 4 by omega) with ⟨g1, _⟩ | ⟨_, b1, q1, hb1, hq1, f1, _⟩
  · refine .inl ⟨Iz.no hv (show 1 < 4 by omega) (by omega) g1, ?_, S _ ?_⟩
    · exact ⟨_, _, _, _, _, _, _, _, I _ (H5 hv ha hA rfl (i := 0) (y := 0) (by omega) (by omega) (by omega) rfl f0 hq0 (Jb hv ha hA rfl (i := 1) (y := 1) (by omega) (by omega) rfl g1))⟩
    · skip
      refine Hz hv ha hA (by simp) (by simp) (y := 0) (by omega) (by omega) f0 hq0 ?_
      exact Ja hv ha hA (y := 1) (by omega) (by omega) g1
  rcases Ea hv ha (show 3 < 4 by omega) with ⟨g3, _⟩ | ⟨_, b3, q3, hb3, hq3, f3, _⟩
  · refine .inl ⟨Iz.no hv (show 3 < 4 by omega) (by omega) g3, ?_, S _ ?_⟩
    · exact ⟨_, _, _, _, _, _, _, _, I _ (H5 hv ha hA rfl (i := 0) (y := 0) (by omega) (by omega) (by omega) rfl f0 hq0 (H5 hv ha hA rfl (i := 1) (y := 1) (by omega) (by omega) (by omega) rfl f1 hq1 (Jb hv ha hA rfl (i := 2) (y := 3) (by omega) (by omega) rfl g3)))⟩
    · skip
      refine Hz hv ha hA (by simp) (by simp) (y := 0) (by omega) (by omega) f0 hq0 ?_
      refine Hz hv ha hA (by simp) (by simp) (y := 1) (by omega) (by omega) f1 hq1 ?_
      refine Jq hv ha hA ?_
      exact Ja hv ha hA (y := 3) (by omega) (by omega) g3
  obtain ⟨t0, p0⟩ := J2 (A := 2) (by omega) f0
  obtain ⟨t1, p1⟩ := J2 (A := 2) (by omega) f1
  obtain ⟨t3, p3⟩ := J2 (A := 2) (by omega) f3
  refine .inr ⟨fun x hx hxA => ?_, fun R h => I _ ?_, fun R h => S _ ?_⟩
  · rcases (by omega : x = 0 ∨ x = 1 ∨ x = 3) with rfl | rfl | rfl
    · exact ⟨b0, q0, hb0, hq0, f0⟩
    · exact ⟨b1, q1, hb1, hq1, f1⟩
    · exact ⟨b3, q3, hb3, hq3, f3⟩
  · skip
    refine H5 hv ha hA rfl (i := 0) (y := 0) (by omega) (by omega) (by omega) rfl f0 hq0 ?_
    refine H5 hv ha hA rfl (i := 1) (y := 1) (by omega) (by omega) (by omega) rfl f1 hq1 ?_
    refine H5 hv ha hA rfl (i := 2) (y := 3) (by omega) (by omega) (by omega) rfl f3 hq3 ?_
    rw [e.1, e.2, t0, p0, t1, p1, t3, p3] at h
    refine Aa.step (fun K k => ?_) h
    rw [Ag.l1, if_neg (by decide)]; rfl
  · skip
    refine Hz hv ha hA (by simp) (by simp) (y := 0) (by omega) (by omega) f0 hq0 ?_
    refine Hz hv ha hA (by simp) (by simp) (y := 1) (by omega) (by omega) f1 hq1 ?_
    refine Jq hv ha hA ?_
    refine Hz hv ha hA (by simp) (by simp) (y := 3) (by omega) (by omega) f3 hq3 ?_
    unfold l4 at h
    rw [e.1, e.2, t0, p0, t1, p1, t3, p3] at h
    refine Aa.step (fun K k => ?_) h
    rw [Am.l1, if_neg (by decide)]; rfl
theorem iQ {a : Nat} (ha : a < ts.length) : (¬ Iz ts a 3 ∧ (∃ o1 o2 o3 o4 o5 o6 o7 o8, Ac (fun K => Ag.f K ts (a : Int) ((3 : Nat) : Int)) (o1, o2, o3, o4, o5, o6, o7, o8, false)) ∧ Ac (fun K => Am.f K ts (a : Int) ((3 : Nat) : Int)) ([], [], [], false)) ∨
    (Iz ts a 3 ∧ (∀ R, Aa (fun K k => Ag.l10 K k ts (stT ts a 3 0 : Int) (stP ts a 3 0 : Int) (stT ts a 3 1 : Int) (stP ts a 3 1 : Int) (stT ts a 3 2 : Int) (stP ts a 3 2 : Int) (stT ts a 3 3 : Int) (stP ts a 3 3 : Int) 0) R → Ac (fun K => Ag.f K ts (a : Int) ((3 : Nat) : Int)) R) ∧
      (∀ R, Aa (fun K k => Am.l8 K k ts (l4 (stT ts a 3)) (l4 (stP ts a 3)) 0) R → Ac (fun K => Am.f K ts (a : Int) ((3 : Nat) : Int)) R)) := by
  have hA : 3 < 4 := by omega
  have I : ∀ R, Aa (fun K k => Ag.l1 K k ts (a : Int) ((3 : Nat) : Int) (ints (OT [3])) (se 0 ((3 : Nat) : Int) (a : Int) 0) (se 0 ((3 : Nat) : Int) 0 0) (se 1 ((3 : Nat) : Int) (a : Int) 0) (se 1 ((3 : Nat) : Int) 0 0) (se 2 ((3 : Nat) : Int) (a : Int) 0) (se 2 ((3 : Nat) : Int) 0 0) (se 3 ((3 : Nat) : Int) (a : Int) 0) (se 3 ((3 : Nat) : Int) 0 0) ((0 : Nat) : Int)) R → Ac (fun K => Ag.f K ts (a : Int) ((3 : Nat) : Int)) R := fun R h => by
    refine Ac.pos (by omega) (Ac.bind (Ll hA) ?_)
    exact h.G8
  have S : ∀ R, Aa (fun K k => Am.l1 K k ts (a : Int) ((3 : Nat) : Int) ([0, 0, 0, 0].set 3 (a : Int)) [0, 0, 0, 0] ((0 : Nat) : Int)) R → Ac (fun K => Am.f K ts (a : Int) ((3 : Nat) : Int)) R := fun R h => by
    refine Ac.pos (by decide) ?_
    exact h.G8
  have e := Pq ts a 3
  rcases Ea hv ha (show 0 < 4 by omega) with ⟨g0, _⟩ | ⟨_, b0, q0, hb0, hq0, f0, _⟩
  · refine .inl ⟨Iz.no hv (show 0 < 4 by omega) (by omega) g0, ?_, S _ ?_⟩
    · exact ⟨_, _, _, _, _, _, _, _, I _ (Jb hv ha hA rfl (i := 0) (y := 0) (by omega) (by omega) rfl g0)⟩
    · skip
      exact Ja hv ha hA (y := 0) (by omega) (by omega) g0
  rcases Ea hv ha (show 1 < 4 by omega) with ⟨g1, _⟩ | ⟨_, b1, q1, hb1, hq1, f1, _⟩
  · refine .inl ⟨Iz.no hv (show 1 < 4 by omega) (by omega) g1, ?_, S _ ?_⟩
    · exact ⟨_, _, _, _, _, _, _, _, I _ (H5 hv ha hA rfl (i := 0) (y := 0) (by omega) (by omega) (by omega) rfl f0 hq0 (Jb hv ha hA rfl (i := 1) (y := 1) (by omega) (by omega) rfl g1))⟩
    · skip
      refine Hz hv ha hA (by simp) (by simp) (y := 0) (by omega) (by omega) f0 hq0 ?_
      exact Ja hv ha hA (y := 1) (by omega) (by omega) g1
  rcases Ea hv ha (show 2 < 4 by omega) with ⟨g2, _⟩ | ⟨_, b2, q2, hb2, hq2, f2, _⟩
  · refine .inl ⟨Iz.no hv (show 2 < 4 by omega) (by omega) g2, ?_, S _ ?_⟩
    · exact ⟨_, _, _, _, _, _, _, _, I _ (H5 hv ha hA rfl (i := 0) (y := 0) (by omega) (by omega) (by omega) rfl f0 hq0 (H5 hv ha hA rfl (i := 1) (y := 1) (by omega) (by omega) (by omega) rfl f1 hq1 (Jb hv ha hA rfl (i := 2) (y := 2) (by omega) (by omega) rfl g2)))⟩
    · skip
      refine Hz hv ha hA (by simp) (by simp) (y := 0) (by omega) (by omega) f0 hq0 ?_
      refine Hz hv ha hA (by simp) (by simp) (y := 1) (by omega) (by omega) f1 hq1 ?_
      exact Ja hv ha hA (y := 2) (by omega) (by omega) g2
  obtain ⟨t0, p0⟩ := J2 (A := 3) (by omega) f0
  obtain ⟨t1, p1⟩ := J2 (A := 3) (by omega) f1
  obtain ⟨t2, p2⟩ := J2 (A := 3) (by omega) f2
  refine .inr ⟨fun x hx hxA => ?_, fun R h => I _ ?_, fun R h => S _ ?_⟩
  · rcases (by omega : x = 0 ∨ x = 1 ∨ x = 2) with rfl | rfl | rfl
    · exact ⟨b0, q0, hb0, hq0, f0⟩
    · exact ⟨b1, q1, hb1, hq1, f1⟩
    · exact ⟨b2, q2, hb2, hq2, f2⟩
  · skip
    refine H5 hv ha hA rfl (i := 0) (y := 0) (by omega) (by omega) (by omega) rfl f0 hq0 ?_
    refine H5 hv ha hA rfl (i := 1) (y := 1) (by omega) (by omega) (by omega) rfl f1 hq1 ?_
    refine H5 hv ha hA rfl (i := 2) (y := 2) (by omega) (by omega) (by omega) rfl f2 hq2 ?_
    rw [e.1, e.2, t0, p0, t1, p1, t2, p2] at h
    refine Aa.step (fun K k => ?_) h
    rw [Ag.l1, if_neg (by decide)]; rfl
  · skip
    refine Hz hv ha hA (by simp) (by simp) (y := 0) (by omega) (by omega) f0 hq0 ?_
    refine Hz hv ha hA (by simp) (by simp) (y := 1) (by omega) (by omega) f1 hq1 ?_
    refine Hz hv ha hA (by simp) (by simp) (y := 2) (by omega) (by omega) f2 hq2 ?_
    refine Jq hv ha hA ?_
    unfold l4 at h
    rw [e.1, e.2, t0, p0, t1, p1, t2, p2] at h
    refine Aa.step (fun K k => ?_) h
    rw [Am.l1, if_neg (by decide)]; rfl
end
theorem Lf {f : Nat → Nat} {k : Nat} (hk : k < 4) : ([(f 0 : Int), (f 1 : Int), (f 2 : Int), (f 3 : Int)] : List Int).getD k 0 = (f k : Int) := Y1 (f := f) rfl rfl rfl rfl hk
def okB (ts : List (List Ab)) (T P : Nat → Nat) (x y : Nat) : Bool := decide (x = y ∨ ((Bv ts (T x) (PA (PI (P x)) y)).Tet = (T y : Int) ∧ T x ≠ T y ∧ PM (PM (PI (P x)) (Bv ts (T x) (PA (PI (P x)) y)).Perm.toNat) (P y) = EXC x y))
section
variable {ts : List (List Ab)} (hv : Val ts) {T P : Nat → Nat} (hT : ∀ x, x < 4 → T x < ts.length) (hP : ∀ x, x < 4 → P x < 24)
include hv hT hP
theorem Rm {x y : Nat} (hx : x < 4) (hy : y < 4) {R : Int × Int × Int × Int × Int × Int × Int × Int × Bool}
    (hgo : okB ts T P x y = true → Aa (fun K k => Ag.l13 K k ts (T 0 : Int) (P 0 : Int) (T 1 : Int) (P 1 : Int) (T 2 : Int) (P 2 : Int) (T 3 : Int) (P 3 : Int) (x : Int) ((y + 1 : Nat) : Int)) R)
    (hno : okB ts T P x y = false → R = ((T 0 : Int), (P 0 : Int), (T 1 : Int), (P 1 : Int), (T 2 : Int), (P 2 : Int), (T 3 : Int), (P 3 : Int), false)) :
    Aa (fun K k => Ag.l13 K k ts (T 0 : Int) (P 0 : Int) (T 1 : Int) (P 1 : Int) (T 2 : Int) (P 2 : Int) (T 3 : Int) (P 3 : Int) (x : Int) (y : Int)) R := by
  have h8 := hv.le
  have hPx := hP x hx
  have hPy := hP y hy
  have hTx := hT x hx
  have hTy := hT y hy
  have hf : PA (PI (P x)) y < 4 := D6 (G9 hPx) hy
  have hr := hv.four _ hTx
  have gT := fun k (h : k < 4) => Lf (f := T) h
  have gP := fun k (h : k < 4) => Lf (f := P) h
  have gA := Lf (f := PA (PI (P x))) hy
  refine Aa.succ ?_
  simp only [Ag.l13, Int.toNat_natCast, Fv, gT x hx, gT y hy, gP x hx, gP y hy]
  refine Aa.pos (by omega) ?_
  by_cases hxy : x = y
  · refine Aa.pos (by omega) ?_
    rw [Ba (by omega)]
    exact hgo (decide_eq_true (.inl hxy))
  refine Aa.neg (by omega) (Aa.pos (by omega) ?_)
  refine Aa.bind (K3 hPx).two ?_
  refine Aa.Eb (J9 (G9 hPx)).two ?_
  simp only [gA, Int.toNat_natCast]
  refine Aa.pos (by omega) (Aa.pos (by omega) (Aa.pos (by omega) ?_))
  show Aa (fun K k => if (Bv ts (T x) (PA (PI (P x)) y)).Tet = (T y : Int) then _ else _) _
  by_cases h1 : (Bv ts (T x) (PA (PI (P x)) y)).Tet = (T y : Int)
  rotate_left
  · rw [hno (decide_eq_false (fun q => q.elim (fun h => hxy h) (fun h => h1 h.1)))]
    exact Aa.neg h1 (Aa.const _)
  refine Aa.pos h1 ?_
  by_cases h2 : T x = T y
  · rw [hno (decide_eq_false (fun q => q.elim (fun h => hxy h) (fun h => h.2.1 h2)))]
    exact Aa.pos (by omega) (Aa.const _)
  refine Aa.neg (by omega) ?_
  rcases Ea hv hTx hf with ⟨c1, _⟩ | ⟨_, b, q, hb, hq, c2, _⟩
  · omega
  have e0 : (Bv ts (T x) (PA (PI (P x)) y)).Perm = (q : Int) := by rw [c2]
  have e0' : ((ts.getD (T x) []).getD (PA (PI (P x)) y) Bb).Perm = (q : Int) := e0
  refine Aa.bind (K3 hPx).two ?_
  simp only [e0']
  refine Aa.bind (Md (G9 hPx) hq).two ?_
  refine Aa.bind (Md (Lc (G9 hPx) hq) hPy).two ?_
  refine Aa.bind (kP hx hy hxy).two ?_
  by_cases h3 : PM (PM (PI (P x)) q) (P y) = EXC x y
  · refine Aa.pos (by omega) ?_
    rw [Ba (by omega)]
    exact hgo (decide_eq_true (.inr ⟨h1, h2, by rw [e0, Int.toNat_natCast]; exact h3⟩))
  · rw [hno (decide_eq_false (fun q => q.elim (fun h => hxy h) (fun h => h3 (by have := h.2.2; rw [e0, Int.toNat_natCast] at this; exact this))))]
    exact Aa.neg (by omega) (Aa.const _)
theorem Q8 {x y : Nat} (hx : x < 4) (hy : y < 4) {R : List Int × List (List Ab) × List Ap × Bool}
    (hgo : okB ts T P x y = true → Aa (fun K k => Am.l12 K k ts (l4 T) (l4 P) (x : Int) ((y + 1 : Nat) : Int)) R)
    (hno : okB ts T P x y = false → R = ([], [], [], false)) :
    Aa (fun K k => Am.l12 K k ts (l4 T) (l4 P) (x : Int) (y : Int)) R := by
  have h8 := hv.le
  have hPx := hP x hx
  have hPy := hP y hy
  have hTx := hT x hx
  have hTy := hT y hy
  have hf : PA (PI (P x)) y < 4 := D6 (G9 hPx) hy
  have hr := hv.four _ hTx
  have lT : (l4 T).length = 4 := rfl
  have lP : (l4 P).length = 4 := rfl
  have gT : ∀ k, k < 4 → (l4 T).getD k 0 = (T k : Int) := fun k (h : k < 4) => Lf (f := T) h
  have gP : ∀ k, k < 4 → (l4 P).getD k 0 = (P k : Int) := fun k (h : k < 4) => Lf (f := P) h
  refine Aa.succ ?_
  simp only [Am.l12, Int.toNat_natCast, Fv, gT x hx, gT y hy, gP x hx, gP y hy]
  refine Aa.pos (by omega) ?_
  by_cases hxy : x = y
  · refine Aa.pos (by omega) ?_
    rw [Ba (by omega)]
    exact hgo (decide_eq_true (.inl hxy))
  refine Aa.neg (by omega) (Aa.pos (by omega) (Aa.pos (by omega) (Aa.pos (by omega) ?_)))
  refine Aa.bind (Oh hPx).two ?_
  refine Aa.bind (K6 (G9 hPx) hy).two ?_
  simp only [Int.toNat_natCast]
  refine Aa.pos (by omega) (Aa.pos (by omega) ?_)
  by_cases h2 : T x = T y
  · rw [hno (decide_eq_false (fun q => q.elim (fun h => hxy h) (fun h => h.2.1 h2)))]
    exact Aa.pos (by omega) (Aa.const _)
  refine Aa.neg (by omega) ?_
  show Aa (fun K k => if (Bv ts (T x) (PA (PI (P x)) y)).Tet = (T y : Int) then _ else _) _
  by_cases h1 : (Bv ts (T x) (PA (PI (P x)) y)).Tet = (T y : Int)
  rotate_left
  · rw [hno (decide_eq_false (fun q => q.elim (fun h => hxy h) (fun h => h1 h.1)))]
    exact Aa.neg h1 (Aa.const _)
  refine Aa.pos h1 ?_
  rcases Ea hv hTx hf with ⟨c1, _⟩ | ⟨_, b, q, hb, hq, c2, _⟩
  · omega
  have e0 : (Bv ts (T x) (PA (PI (P x)) y)).Perm = (q : Int) := by rw [c2]
  have e0' : ((ts.getD (T x) []).getD (PA (PI (P x)) y) Bb).Perm = (q : Int) := e0
  refine Aa.bind (Oh hPx).two ?_
  simp only [e0']
  refine Aa.bind (R7 (G9 hPx) hq).two ?_
  refine Aa.pos (by omega) ?_
  refine Aa.bind (R7 (Lc (G9 hPx) hq) hPy).two ?_
  refine Aa.bind (kQ hx hy hxy).two ?_
  by_cases h3 : PM (PM (PI (P x)) q) (P y) = EXC x y
  · refine Aa.pos (by omega) ?_
    rw [Ba (by omega)]
    exact hgo (decide_eq_true (.inr ⟨h1, h2, by rw [e0, Int.toNat_natCast]; exact h3⟩))
  · rw [hno (decide_eq_false (fun q => q.elim (fun h => hxy h) (fun h => h3 (by have := h.2.2; rw [e0, Int.toNat_natCast] at this; exact this))))]
    exact Aa.neg (by omega) (Aa.const _)
theorem gK : Aa (fun K k => Ag.l10 K k ts (T 0 : Int) (P 0 : Int) (T 1 : Int) (P 1 : Int) (T 2 : Int) (P 2 : Int) (T 3 : Int) (P 3 : Int) 0) ((T 0 : Int), (P 0 : Int), (T 1 : Int), (P 1 : Int), (T 2 : Int), (P 2 : Int), (T 3 : Int), (P 3 : Int), Jp 4 fun x => Jp 4 (okB ts T P x)) := by
  have enter : ∀ x : Nat, x < 4 → ∀ R, Aa (fun K k => Ag.l13 K k ts (T 0 : Int) (P 0 : Int) (T 1 : Int) (P 1 : Int) (T 2 : Int) (P 2 : Int) (T 3 : Int) (P 3 : Int) (x : Int) ((0 : Nat) : Int)) R → Aa (fun K k => Ag.l10 K k ts (T 0 : Int) (P 0 : Int) (T 1 : Int) (P 1 : Int) (T 2 : Int) (P 2 : Int) (T 3 : Int) (P 3 : Int) (x : Int)) R := fun x hx R h => by
    refine Aa.step (fun K k => ?_) h
    rw [Ag.l10, if_pos (by omega)]; rfl
  have go : ∀ x : Nat, x < 4 → Jp 4 (okB ts T P x) = true → ∀ v, Aa (fun K k => Ag.l10 K k ts (T 0 : Int) (P 0 : Int) (T 1 : Int) (P 1 : Int) (T 2 : Int) (P 2 : Int) (T 3 : Int) (P 3 : Int) ((x + 1 : Nat) : Int)) v → Aa (fun K k => Ag.l10 K k ts (T 0 : Int) (P 0 : Int) (T 1 : Int) (P 1 : Int) (T 2 : Int) (P 2 : Int) (T 3 : Int) (P 3 : Int) (x : Int)) v := fun x hx hok v h => by
    refine enter x hx v (Oz (l := fun K k y => Ag.l13 K k ts (T 0 : Int) (P 0 : Int) (T 1 : Int) (P 1 : Int) (T 2 : Int) (P 2 : Int) (T 3 : Int) (P 3 : Int) (x : Int) (y : Int)) (n := 4) (fun y hy hp w hw => Rm hv hT hP hx hy (fun _ => hw) (fun e => by rw [hp] at e; cases e)) hok ?_)
    refine Aa.step (fun K k => ?_) h
    rw [Ag.l13, if_neg (by omega), Ba (by omega)]
  cases hall : Jp 4 fun x => Jp 4 (okB ts T P x) with
  | true =>
    refine Oz (l := fun K k x => Ag.l10 K k ts (T 0 : Int) (P 0 : Int) (T 1 : Int) (P 1 : Int) (T 2 : Int) (P 2 : Int) (T 3 : Int) (P 3 : Int) (x : Int)) (n := 4) go hall ?_
    exact Aa.of fun K k => by rw [Ag.l10, if_neg (by omega)]
  | false =>
    refine Lm (l := fun K k x => Ag.l10 K k ts (T 0 : Int) (P 0 : Int) (T 1 : Int) (P 1 : Int) (T 2 : Int) (P 2 : Int) (T 3 : Int) (P 3 : Int) (x : Int)) (n := 4) go (fun x hx hno => ?_) hall
    exact enter x hx _ (Lm (l := fun K k y => Ag.l13 K k ts (T 0 : Int) (P 0 : Int) (T 1 : Int) (P 1 : Int) (T 2 : Int) (P 2 : Int) (T 3 : Int) (P 3 : Int) (x : Int) (y : Int)) (n := 4) (fun y hy hp w hw => Rm hv hT hP hx hy (fun _ => hw) (fun e => by rw [hp] at e; cases e)) (fun y hy hn => Rm hv hT hP hx hy (fun e => by rw [hn] at e; cases e) (fun _ => rfl)) hno)
theorem Yw {R : List Int × List (List Ab) × List Ap × Bool} (hyes : (Jp 4 fun x => Jp 4 (okB ts T P x)) = true → Aa (fun K k => Am.l13 K k (l4 T) (l4 P) Iq [] 0) R) (hno : (Jp 4 fun x => Jp 4 (okB ts T P x)) = false → R = ([], [], [], false)) : Aa (fun K k => Am.l8 K k ts (l4 T) (l4 P) 0) R := by
  have enter : ∀ x : Nat, x < 4 → ∀ R, Aa (fun K k => Am.l12 K k ts (l4 T) (l4 P) (x : Int) ((0 : Nat) : Int)) R → Aa (fun K k => Am.l8 K k ts (l4 T) (l4 P) (x : Int)) R := fun x hx R h => by
    refine Aa.step (fun K k => ?_) h
    rw [Am.l8, if_pos (by omega)]; rfl
  have go : ∀ x : Nat, x < 4 → Jp 4 (okB ts T P x) = true → ∀ v, Aa (fun K k => Am.l8 K k ts (l4 T) (l4 P) ((x + 1 : Nat) : Int)) v → Aa (fun K k => Am.l8 K k ts (l4 T) (l4 P) (x : Int)) v := fun x hx hok v h => by
    refine enter x hx v (Oz (l := fun K k y => Am.l12 K k ts (l4 T) (l4 P) (x : Int) (y : Int)) (n := 4) (fun y hy hp w hw => Q8 hv hT hP hx hy (fun _ => hw) (fun e => by rw [hp] at e; cases e)) hok ?_)
    refine Aa.step (fun K k => ?_) h
    rw [Am.l12, if_neg (by omega), Ba (by omega)]
  cases hall : Jp 4 fun x => Jp 4 (okB ts T P x) with
  | true =>
    refine Oz (l := fun K k x => Am.l8 K k ts (l4 T) (l4 P) (x : Int)) (n := 4) go hall ?_
    refine Aa.step (fun K k => ?_) (hyes hall)
    rw [Am.l8, if_neg (by omega)]; rfl
  | false =>
    rw [hno hall]
    refine Lm (l := fun K k x => Am.l8 K k ts (l4 T) (l4 P) (x : Int)) (n := 4) go (fun x hx hn => ?_) hall
    exact enter x hx _ (Lm (l := fun K k y => Am.l12 K k ts (l4 T) (l4 P) (x : Int) (y : Int)) (n := 4) (fun y hy hp w hw => Q8 hv hT hP hx hy (fun _ => hw) (fun e => by rw [hp] at e; cases e)) (fun y hy hn => Q8 hv hT hP hx hy (fun e => by rw [hn] at e; cases e) (fun _ => rfl)) hn)
def o41 (T P : Nat → Nat) (x : Nat) : Ap := ⟨(T x : Int), (PA (PI (P x)) x : Nat), 0, (P x : Int)⟩
def O41 (T P : Nat → Nat) : List Ap := [o41 T P 0, o41 T P 1, o41 T P 2, o41 T P 3]
omit hv hT in
theorem Qz {x : Nat} (hx : x < 4) {old : List Int} (ho : old.length ≤ 10) {m : List (Gd × Dn)} {R : Option (List Int × List (Gd × Dn) × Int × List Fg)}
    (h : Aa (fun K k => Bl.l1 K k (T 0 : Int) (P 0 : Int) (T 1 : Int) (P 1 : Int) (T 2 : Int) (P 2 : Int) (T 3 : Int) (P 3 : Int) 1 [] (old ++ [(T x : Int)]) (I4 m (o41 T P x)) ((x + 1 : Nat) : Int)) R) : Aa (fun K k => Bl.l1 K k (T 0 : Int) (P 0 : Int) (T 1 : Int) (P 1 : Int) (T 2 : Int) (P 2 : Int) (T 3 : Int) (P 3 : Int) 1 [] old m (x : Int)) R := by
  have hPx := hP x hx
  have gT := fun k (h : k < 4) => Lf (f := T) h
  have gP := fun k (h : k < 4) => Lf (f := P) h
  have gA := Lf (f := PA (PI (P x))) hx
  refine Aa.succ ?_
  simp only [Bl.l1, Int.toNat_natCast, gT x hx, gP x hx]
  refine Aa.pos (by omega) (Aa.pos (by omega) (Aa.pos (by omega) ?_))
  refine Aa.bind (K3 hPx).two ?_
  refine Aa.Eb (J9 (G9 hPx)).two ?_
  refine Aa.Eb (J9 hPx).two ?_
  simp only [gA]
  refine Aa.bind (a := I4 m (o41 T P x)) ?_ ?_
  · have := (Pv hPx).two
    exact Aa.bind this (Aa.const _)
  · rw [Ba (by omega)]; exact h
omit hv hT in
theorem Qt {x : Nat} (hx : x < 4) {m : List Ap} (hm : m.length ≤ 10) {R : List Int × List (List Ab) × List Ap × Bool}
    (h : Aa (fun K k => Am.l13 K k (l4 T) (l4 P) Iq (m ++ [o41 T P x]) ((x + 1 : Nat) : Int)) R) : Aa (fun K k => Am.l13 K k (l4 T) (l4 P) Iq m (x : Int)) R := by
  have hPx := hP x hx
  have lT : (l4 T).length = 4 := rfl
  have lP : (l4 P).length = 4 := rfl
  have gT : ∀ k, k < 4 → (l4 T).getD k 0 = (T k : Int) := fun k (h : k < 4) => Lf (f := T) h
  have gP : ∀ k, k < 4 → (l4 P).getD k 0 = (P k : Int) := fun k (h : k < 4) => Lf (f := P) h
  refine Aa.succ ?_
  simp only [Am.l13, Int.toNat_natCast, gT x hx, gP x hx]
  refine Aa.pos (by omega) (Aa.pos (by omega) (Aa.pos (by omega) ?_))
  refine Aa.bind (Oh hPx).two ?_
  refine Aa.bind (K6 (G9 hPx) hx).two ?_
  refine Aa.pos (by omega) ?_
  rw [Ba (by omega)]; exact h
omit hv hT in
theorem fA : Ac (fun K => Bl.l1 K K (T 0 : Int) (P 0 : Int) (T 1 : Int) (P 1 : Int) (T 2 : Int) (P 2 : Int) (T 3 : Int) (P 3 : Int) 1 [] [] [] 0) (some (l4 T, (O41 T P).foldl I4 [], 1, [])) := by
  refine Aa.G8 (F := fun K k => Bl.l1 K k (T 0 : Int) (P 0 : Int) (T 1 : Int) (P 1 : Int) (T 2 : Int) (P 2 : Int) (T 3 : Int) (P 3 : Int) 1 [] [] [] ((0 : Nat) : Int)) ?_
  refine Qz hP (by omega) (by simp) (Qz hP (by omega) (by simp) (Qz hP (by omega) (by simp) (Qz hP (by omega) (by simp) ?_)))
  exact Aa.of fun K k => by rw [Bl.l1, if_neg (by decide)]; rfl
omit hv hT in
theorem eD : Aa (fun K k => Am.l13 K k (l4 T) (l4 P) Iq [] 0) (l4 T, [Iq], O41 T P, true) := by
  refine Qt (x := 0) hP (by omega) (by simp) (Qt hP (by omega) (by simp) (Qt hP (by omega) (by simp) (Qt hP (by omega) (by simp) ?_)))
  exact Aa.of fun K k => by rw [Am.l13, if_neg (by decide)]; rfl
end
theorem Ac.Pz {α1 α2 α3 α4 α5 α6 α7 α8 α9 β : Type} {F : Nat → Option (α1 × α2 × α3 × α4 × α5 × α6 × α7 × α8 × α9)} {G : Nat → α1 → α2 → α3 → α4 → α5 → α6 → α7 → α8 → α9 → Option β} {a1 : α1} {a2 : α2} {a3 : α3} {a4 : α4} {a5 : α5} {a6 : α6} {a7 : α7} {a8 : α8} {a9 : α9} {r : β} (h : Ac F (a1, a2, a3, a4, a5, a6, a7, a8, a9)) (g : Ac (fun K => G K a1 a2 a3 a4 a5 a6 a7 a8 a9) r) : Ac (fun K => Go.Proofs.YtbjfinndngafoaaGreat.Pz (F K) (G K)) r := by
  obtain ⟨n, hn⟩ := h
  obtain ⟨m, hm⟩ := g
  exact ⟨n + m, fun K hK => by show Go.Proofs.YtbjfinndngafoaaGreat.Pz (F K) (G K) = some r; rw [hn K (by omega)]; exact hm K (by omega)⟩
section
variable {ts : List (List Ab)} (hv : Val ts)
include hv
theorem rO {a A : Nat} (ha : a < ts.length) (hA : A < 4) : (¬ Iz ts a A ∧ (∃ o1 o2 o3 o4 o5 o6 o7 o8, Ac (fun K => Ag.f K ts (a : Int) (A : Int)) (o1, o2, o3, o4, o5, o6, o7, o8, false)) ∧ Ac (fun K => Am.f K ts (a : Int) (A : Int)) ([], [], [], false)) ∨
    (Iz ts a A ∧ (∀ R, Aa (fun K k => Ag.l10 K k ts (stT ts a A 0 : Int) (stP ts a A 0 : Int) (stT ts a A 1 : Int) (stP ts a A 1 : Int) (stT ts a A 2 : Int) (stP ts a A 2 : Int) (stT ts a A 3 : Int) (stP ts a A 3 : Int) 0) R → Ac (fun K => Ag.f K ts (a : Int) (A : Int)) R) ∧
      (∀ R, Aa (fun K k => Am.l8 K k ts (l4 (stT ts a A)) (l4 (stP ts a A)) 0) R → Ac (fun K => Am.f K ts (a : Int) (A : Int)) R)) := by
  rcases (by omega : A = 0 ∨ A = 1 ∨ A = 2 ∨ A = 3) with rfl | rfl | rfl | rfl
  · exact iY hv ha
  · exact iL hv ha
  · exact fZ hv ha
  · exact iQ hv ha
theorem Ww {a A : Nat} (ha : a < ts.length) (hA : A < 4) (hR : Iz ts a A) : (∀ x, x < 4 → stT ts a A x < ts.length) ∧ ∀ x, x < 4 → stP ts a A x < 24 := by
  constructor
  · intro x hx
    by_cases h : x = A
    · rw [h, (Pq ts a A).1]; exact ha
    · obtain ⟨b, q, hb, hq, hf⟩ := hR x hx h
      rw [(J2 h hf).1]; exact hb
  · intro x hx
    by_cases h : x = A
    · rw [h, (Pq ts a A).2]; omega
    · obtain ⟨b, q, hb, hq, hf⟩ := hR x hx h
      rw [(J2 h hf).2]; exact Lc (G9 hq) (Ye hA hx (fun e => h e.symm))
theorem kS {a A : Nat} (ha : a < ts.length) (hA : A < 4) :
    (Ac (fun K => Bl.f K ts (a : Int) (A : Int)) none ∧ Ac (fun K => Am.f K ts (a : Int) (A : Int)) ([], [], [], false)) ∨
    (Iz ts a A ∧ (Jp 4 fun x => Jp 4 (okB ts (stT ts a A) (stP ts a A) x)) = true ∧ Ac (fun K => Bl.f K ts (a : Int) (A : Int)) (some (l4 (stT ts a A), (O41 (stT ts a A) (stP ts a A)).foldl I4 [], 1, [])) ∧
      Ac (fun K => Am.f K ts (a : Int) (A : Int)) (l4 (stT ts a A), [Iq], O41 (stT ts a A) (stP ts a A), true)) := by
  rcases rO hv ha hA with ⟨_, ⟨o1, o2, o3, o4, o5, o6, o7, o8, h1⟩, h2⟩ | ⟨hR, h1, h2⟩
  · exact .inl ⟨Ac.Pz h1 (Ac.neg (by decide) (Ac.const _)), h2⟩
  · obtain ⟨hT, hP⟩ := Ww hv ha hA hR
    have hi := h1 _ (gK hv hT hP)
    cases hall : Jp 4 fun x => Jp 4 (okB ts (stT ts a A) (stP ts a A) x) with
    | false =>
      rw [hall] at hi
      exact .inl ⟨Ac.Pz hi (Ac.neg (by decide) (Ac.const _)), h2 _ (Yw hv hT hP (fun h => by rw [hall] at h; cases h) (fun _ => rfl))⟩
    | true =>
      rw [hall] at hi
      refine .inr ⟨hR, rfl, Ac.Pz hi (Ac.pos rfl (Ac.Eb (a := []) (b := []) (c := 1) (d := []) (Ac.const _) (fA hP))), h2 _ (Yw hv hT hP (fun _ => eD hP) (fun h => by rw [hall] at h; cases h))⟩
end
def Fits (r : Option (List Int × List (Gd × Dn) × Int × List Fg)) (pl : List Int × List (List Ab) × List Ap × Bool) : Prop :=
  (r = none ∧ pl = ([], [], [], false)) ∨ ∃ old news fresh outer inner, r = some (old, outer.foldl I4 [], news, inner) ∧ pl = (old, fresh, outer, true) ∧ news = (fresh.length : Int) ∧ old.length ≤ 4 ∧ fresh.length ≤ 4
def most (kind : Int) : Int := if kind = 1 ∨ kind = 4 then 4 else if kind = 2 then 6 else if kind = 3 then 1 else 0
theorem Z6 (kind : Int) : Ac (fun K => Fj.f K kind) (most kind) := by
  unfold most
  have j : ∀ b : Bool, Ac (fun K => Fj.j1 K K kind b) (if b = true then 4 else if kind = 2 then 6 else if kind = 3 then 1 else 0) := fun b => by
    refine Aa.G8 (F := fun K k => Fj.j1 K k kind b) (Aa.of fun K k => ?_)
    rw [Fj.j1]
    (repeat' split) <;> rfl
  by_cases h1 : kind = 1
  · rw [if_pos (.inl h1)]
    exact Ac.pos h1 (by have := j (decide (kind = 1)); rw [decide_eq_true h1] at this ⊢; exact this)
  · refine Ac.neg h1 ?_
    by_cases h4 : kind = 4
    · rw [if_pos (.inr h4)]
      have := j (decide (kind = 4)); rw [decide_eq_true h4] at this ⊢; exact this
    · rw [if_neg (fun h => h.elim h1 h4)]
      have := j (decide (kind = 4)); rw [decide_eq_false h4] at this ⊢; exact this
theorem aP (kind : Int) : Ac (fun K => Em.f K kind) (most kind - 1) := by
  unfold most
  have j : ∀ b : Bool, Ac (fun K => Em.j1 K K kind b) ((if b = true then 4 else if kind = 2 then 6 else if kind = 3 then 1 else 0) - 1) := fun b => by
    refine Aa.G8 (F := fun K k => Em.j1 K k kind b) (Aa.of fun K k => ?_)
    rw [Em.j1]
    (repeat' split) <;> rfl
  by_cases h1 : kind = 1
  · rw [if_pos (.inl h1)]
    exact Ac.pos h1 (by have := j (decide (kind = 1)); rw [decide_eq_true h1] at this ⊢; exact this)
  · refine Ac.neg h1 ?_
    by_cases h4 : kind = 4
    · rw [if_pos (.inr h4)]
      have := j (decide (kind = 4)); rw [decide_eq_true h4] at this ⊢; exact this
    · rw [if_neg (fun h => h.elim h1 h4)]
      have := j (decide (kind = 4)); rw [decide_eq_false h4] at this ⊢; exact this
section
variable {ts : List (List Ab)} (hv : Val ts) (hT : Ac (fun K => Ah.f K ts) true)
include hv hT
theorem aZ {kind : Int} {a A : Nat} (ha : a < ts.length) (hA : (A : Int) < most kind) : ∃ r pl, Fits r pl ∧ Ac (fun K => Dp.f K ts kind (a : Int) (A : Int)) r ∧ Ac (fun K => Gz.f K ts kind (a : Int) (A : Int)) pl := by
  unfold most at hA
  by_cases h1 : kind = 1
  · rw [if_pos (.inl h1)] at hA
    rcases kZ hv ha (show A < 4 by omega) with ⟨c1, c2⟩ | ⟨b, q, _, _, _, _, c1, c2⟩
    · exact ⟨_, _, .inl ⟨rfl, rfl⟩, Ac.pos h1 (Ac.bind c1 (Ac.const _)), Ac.pos h1 (Ac.Eb c2 (Ac.const _))⟩
    · exact ⟨_, _, .inr ⟨_, _, _, _, _, rfl, rfl, rfl, by simp, by decide⟩, Ac.pos h1 (Ac.bind c1 (Ac.const _)), Ac.pos h1 (Ac.Eb c2 (Ac.const _))⟩
  by_cases h4 : kind = 4
  · rw [if_pos (.inr h4)] at hA
    have h2 : ¬ kind = 2 := by omega
    have h3 : ¬ kind = 3 := by omega
    rcases kS hv ha (show A < 4 by omega) with ⟨c1, c2⟩ | ⟨_, _, c1, c2⟩
    · exact ⟨_, _, .inl ⟨rfl, rfl⟩, Ac.neg h1 (Ac.neg h2 (Ac.neg h3 (Ac.bind c1 (Ac.const _)))), Ac.neg h1 (Ac.neg h2 (Ac.neg h3 (Ac.Eb c2 (Ac.const _))))⟩
    · exact ⟨_, _, .inr ⟨_, _, _, _, _, rfl, rfl, rfl, by simp [l4], by decide⟩, Ac.neg h1 (Ac.neg h2 (Ac.neg h3 (Ac.bind c1 (Ac.const _)))), Ac.neg h1 (Ac.neg h2 (Ac.neg h3 (Ac.Eb c2 (Ac.const _))))⟩
  rw [if_neg (fun h => h.elim h1 h4)] at hA
  by_cases h2 : kind = 2
  · rw [if_pos h2] at hA
    rcases kG hv hT ha (show A < 6 by omega) with ⟨c1, c2⟩ | ⟨_, _, _, _, _, _, _, _, _, _, _, _, c1, c2⟩
    · exact ⟨_, _, .inl ⟨rfl, rfl⟩, Ac.neg h1 (Ac.pos h2 (Ac.bind c1 (Ac.const _))), Ac.neg h1 (Ac.pos h2 (Ac.Eb c2 (Ac.const _)))⟩
    · exact ⟨_, _, .inr ⟨_, _, _, _, _, rfl, rfl, rfl, by simp, by decide⟩, Ac.neg h1 (Ac.pos h2 (Ac.bind c1 (Ac.const _))), Ac.neg h1 (Ac.pos h2 (Ac.Eb c2 (Ac.const _)))⟩
  rw [if_neg h2] at hA
  by_cases h3 : kind = 3
  · exact ⟨_, _, .inr ⟨_, _, _, _, _, rfl, rfl, rfl, by simp, by decide⟩, Ac.neg h1 (Ac.neg h2 (Ac.pos h3 (Ac.Eb (lJ (a : Int)) (Ac.const _)))), Ac.neg h1 (Ac.neg h2 (Ac.pos h3 (Ac.Ik (kD (a : Int)) (Ac.const _))))⟩
  · rw [if_neg h3] at hA; omega
end
theorem pV {ts : List (List Ab)} (hv : Val ts) (hT : Ac (fun K => Ah.f K ts) true) (kind tet ix : Int) : ∃ (r : Option (List Int × List (Gd × Dn) × Int × List Fg)) (code : Int) (pl : List Int × List (List Ab) × List Ap × Bool),
    Ac (fun K => D8.f K ts kind tet ix) (r, code) ∧ Ac (fun K => Hg.f K ts kind tet ix) (pl.1, pl.2.1, pl.2.2.1, code) ∧
      (code = 0 → ∃ c, r = some c ∧ Fits r (pl.1, pl.2.1, pl.2.2.1, true) ∧ ∃ a A : Nat, tet = (a : Int) ∧ ix = (A : Int) ∧ a < ts.length ∧ (A : Int) < most kind ∧ Ac (fun K => Dp.f K ts kind tet ix) r ∧ Ac (fun K => Gz.f K ts kind tet ix) (pl.1, pl.2.1, pl.2.2.1, true) ∧ ¬ 8 < w64 ((w64 ((ts.length : Int) - (pl.1.length : Int))) + (pl.2.1.length : Int))) := by
  have h8 := hv.le
  have hm : 0 ≤ most kind ∧ most kind ≤ 6 := by unfold most; (repeat' split) <;> omega
  have hw1 : w64 ((ts.length : Int) - 1) = (ts.length : Int) - 1 := Gh (by omega) (by omega)
  have I : ∀ r, Ac (fun K => if decide (0 ≤ tet ∧ tet ≤ (ts.length : Int) - 1) = true then (if decide (0 ≤ ix ∧ ix ≤ most kind - 1) = true then ((Dp.f K ts kind tet ix).bind fun t32 => (eH t32 (some (none, 5)) (fun x43 => if 8 < w64 ((w64 ((ts.length : Int) - (x43.1.length : Int))) + x43.2.2.1) then (some (none, 3)) else (some (some (x43.1, x43.2.1, x43.2.2.1, x43.2.2.2), 0))))) else (some (none, 2))) else (some (none, 2))) r → Ac (fun K => D8.f K ts kind tet ix) r := fun r h => by
    refine Ac.bind (Ac.congr (fun K => Qp h8 hv.four tet) (Ac.const _)) ?_
    by_cases h1 : 0 ≤ tet ∧ tet ≤ (ts.length : Int) - 1
    · rw [decide_eq_true h1] at h ⊢
      refine Ac.pos rfl (Ac.bind (Z6 kind) ?_)
      rw [U6, Gh (by omega) (by omega)]
      exact Ac.bind (Ac.const _) h
    · rw [decide_eq_false h1] at h ⊢
      exact Ac.neg (by decide) h
  have S : ∀ r, Ac (fun K => if most kind - 1 < 0 then (some (([] : List Int), ([] : List (List Ab)), ([] : List Ap), (2 : Int))) else (if decide (0 ≤ tet ∧ tet ≤ (ts.length : Int) - 1) = true then (if decide (0 ≤ ix ∧ ix ≤ most kind - 1) = true then (Go.Proofs.YtbjfinndngafoaaGreat.Eb (Gz.f K ts kind tet ix) (fun t58 t59 t60 t61 => (if t61 = true then (if 8 < w64 ((w64 ((ts.length : Int) - (t58.length : Int))) + (t59.length : Int)) then (some (([] : List Int), ([] : List (List Ab)), ([] : List Ap), 3)) else (some (t58, t59, t60, 0))) else (some (([] : List Int), ([] : List (List Ab)), ([] : List Ap), 5))))) else (some (([] : List Int), ([] : List (List Ab)), ([] : List Ap), 2))) else (some (([] : List Int), ([] : List (List Ab)), ([] : List Ap), 2)))) r → Ac (fun K => Hg.f K ts kind tet ix) r := fun r h => by
    refine Ac.bind hT (Ac.pos rfl (Ac.bind (aP kind) ?_))
    by_cases h0 : most kind - 1 < 0
    · exact Ac.pos h0 (Ac.congr (fun K => (if_pos h0).symm) h)
    · have h' := Ac.congr (fun K => (if_neg h0).symm) h
      refine Ac.neg h0 (Ac.Ob (x := (ts.length : Int)) rfl ?_)
      rw [Vn, hw1]
      refine Ac.bind (Ac.const _) ?_
      by_cases h1 : 0 ≤ tet ∧ tet ≤ (ts.length : Int) - 1
      · rw [decide_eq_true h1] at h' ⊢
        refine Ac.pos rfl (Ac.bind (aP kind) ?_)
        rw [Vn]
        exact Ac.bind (Ac.const _) h'
      · rw [decide_eq_false h1] at h' ⊢
        exact Ac.neg (by decide) h'
  by_cases h1 : 0 ≤ tet ∧ tet ≤ (ts.length : Int) - 1
  rotate_left
  · refine ⟨none, 2, ([], [], [], false), I _ (Ac.neg (by rw [decide_eq_true_eq]; exact h1) (Ac.const _)), S _ ?_, fun h => by omega⟩
    by_cases h0 : most kind - 1 < 0
    · exact Ac.pos h0 (Ac.const _)
    · exact Ac.neg h0 (Ac.neg (by rw [decide_eq_true_eq]; exact h1) (Ac.const _))
  by_cases h2 : 0 ≤ ix ∧ ix ≤ most kind - 1
  rotate_left
  · refine ⟨none, 2, ([], [], [], false), I _ (Ac.pos (decide_eq_true h1) (Ac.neg (by rw [decide_eq_true_eq]; exact h2) (Ac.const _))), S _ ?_, fun h => by omega⟩
    by_cases h0 : most kind - 1 < 0
    · exact Ac.pos h0 (Ac.const _)
    · exact Ac.neg h0 (Ac.pos (decide_eq_true h1) (Ac.neg (by rw [decide_eq_true_eq]; exact h2) (Ac.const _)))
  have h0 : ¬ most kind - 1 < 0 := by omega
  obtain ⟨a, rfl⟩ : ∃ a : Nat, tet = (a : Int) := ⟨tet.toNat, by omega⟩
  obtain ⟨A, rfl⟩ : ∃ A : Nat, ix = (A : Int) := ⟨ix.toNat, by omega⟩
  obtain ⟨r, pl, hF, ti, tsp⟩ := aZ hv hT (kind := kind) (show a < ts.length by omega) (show (A : Int) < most kind by omega)
  have I2 := fun {r'} h => I r' (Ac.pos (decide_eq_true h1) (Ac.pos (decide_eq_true h2) (Ac.bind ti h)))
  rcases hF with ⟨rfl, rfl⟩ | ⟨old, news, fresh, outer, inner, rfl, rfl, rfl, l1, l2⟩
  · exact ⟨none, 5, ([], [], [], false), I2 (Ac.const _), S _ (Ac.neg h0 (Ac.pos (decide_eq_true h1) (Ac.pos (decide_eq_true h2) (Ac.Eb tsp (Ac.neg (by decide) (Ac.const _)))))), fun h => by omega⟩
  · by_cases hb : 8 < w64 ((w64 ((ts.length : Int) - (old.length : Int))) + (fresh.length : Int))
    · exact ⟨none, 3, ([], [], [], false), I2 (Ac.pos hb (Ac.const _)), S _ (Ac.neg h0 (Ac.pos (decide_eq_true h1) (Ac.pos (decide_eq_true h2) (Ac.Eb tsp (Ac.pos rfl (Ac.pos hb (Ac.const _))))))), fun h => by omega⟩
    · refine ⟨some (old, outer.foldl I4 [], (fresh.length : Int), inner), 0, (old, fresh, outer, true), I2 (Ac.neg hb (Ac.const _)), S _ (Ac.neg h0 (Ac.pos (decide_eq_true h1) (Ac.pos (decide_eq_true h2) (Ac.Eb tsp (Ac.pos rfl (Ac.neg hb (Ac.const _))))))), fun _ => ⟨_, rfl, .inr ⟨_, _, _, _, _, rfl, rfl, rfl, l1, l2⟩, a, A, rfl, rfl, by omega, by omega, ti, tsp, hb⟩⟩
structure En where
  x : Nat
  f : Nat
  i : Nat
  p : Nat
deriving DecidableEq
def En.g (e : En) : Ap := ⟨e.x, e.f, e.i, e.p⟩
def kept (old : List Nat) : Nat → Nat
  | 0 => 0
  | x + 1 => kept old x + if x ∈ old then 0 else 1
theorem Ju (old : List Nat) : ∀ n, kept old n ≤ n
  | 0 => Nat.le_refl _
  | n + 1 => by have := Ju old n; rw [kept]; split <;> omega
theorem aD (old : List Nat) : ∀ {x y}, x ≤ y → kept old x ≤ kept old y := fun {x y} h => by
  induction y with
  | zero => obtain rfl : x = 0 := by omega
            exact Nat.le_refl _
  | succ y ih =>
    by_cases e : x = y + 1
    · rw [e]; exact Nat.le_refl _
    · have := ih (by omega)
      rw [kept]; omega
theorem Kg {old : List Nat} {x y : Nat} (h : x < y) (hx : x ∉ old) : kept old x < kept old y := by
  have h1 := aD old (show x + 1 ≤ y from h)
  rw [kept, if_neg hx] at h1
  omega
theorem cO {old : List Nat} {x y : Nat} (hx : x ∉ old) (hy : y ∉ old) (h : kept old x = kept old y) : x = y := by
  rcases Nat.lt_trichotomy x y with h1 | h1 | h1
  · have := Kg h1 hx; omega
  · exact h1
  · have := Kg h1 hy; omega
theorem Rt {old : List Nat} : ∀ {n r}, r < kept old n → ∃ x, x < n ∧ x ∉ old ∧ kept old x = r
  | 0, r, h => by rw [kept] at h; omega
  | n + 1, r, h => by
    by_cases h1 : r < kept old n
    · obtain ⟨x, a, b, c⟩ := Rt h1
      exact ⟨x, by omega, b, c⟩
    · rw [kept] at h
      by_cases hn : n ∈ old
      · rw [if_pos hn] at h; omega
      · rw [if_neg hn] at h
        exact ⟨n, by omega, hn, by omega⟩
def plc (n : Nat) (old : List Nat) (es : List En) (x f : Nat) : Option (Nat × Nat) :=
  if x ∈ old then (es.find? fun e => decide (e.x = x ∧ e.f = f)).map fun e => (kept old n + e.i, e.p) else some (kept old x, 0)
def val (ts : List (List Ab)) (old : List Nat) (es : List En) (x f : Nat) : Ab :=
  if (Bv ts x f).Tet < 0 then ⟨-1, 0⟩ else
    ⟨(((plc ts.length old es (Bv ts x f).Tet.toNat (PA (Bv ts x f).Perm.toNat f)).getD (0, 0)).1 : Int),
     (PM (PM (PI (((plc ts.length old es x f).getD (0, 0)).2)) (Bv ts x f).Perm.toNat) (((plc ts.length old es (Bv ts x f).Tet.toNat (PA (Bv ts x f).Perm.toNat f)).getD (0, 0)).2) : Nat)⟩
structure Chg (ts : List (List Ab)) (old : List Nat) (es : List En) (nf : Nat) : Prop where
  Xu : ∀ x, x ∈ old → x < ts.length
  en : ∀ e, e ∈ es → e.x ∈ old ∧ e.f < 4 ∧ e.i < nf ∧ e.p < 24
  key : ∀ e e', e ∈ es → e' ∈ es → e.x = e'.x → e.f = e'.f → e = e'
  pos : ∀ e e', e ∈ es → e' ∈ es → e.i = e'.i → PA e.p e.f = PA e'.p e'.f → e = e'
  inn : ∀ x f, x ∈ old → f < 4 → (∀ e, e ∈ es → ¬ (e.x = x ∧ e.f = f)) → ∃ b q, Jr ts x f b q ∧ b ∈ old ∧ ∀ e, e ∈ es → ¬ (e.x = b ∧ e.f = PA q f)
def Ex (ts : List (List Ab)) (old : List Nat) (es : List En) (fr : List (List Ab)) (r c : Nat) (v : Ab) : Prop :=
  (∃ x f p, x < ts.length ∧ f < 4 ∧ plc ts.length old es x f = some (r, p) ∧ c = PA p f ∧ v = val ts old es x f) ∨
  (kept old ts.length ≤ r ∧ 0 ≤ (Bv fr (r - kept old ts.length) c).Tet ∧ v = ⟨(kept old ts.length : Int) + (Bv fr (r - kept old ts.length) c).Tet, (Bv fr (r - kept old ts.length) c).Perm⟩) ∨
  (kept old ts.length ≤ r ∧ (Bv fr (r - kept old ts.length) c).Tet < 0 ∧ (∀ e, e ∈ es → ¬ (kept old ts.length + e.i = r ∧ PA e.p e.f = c)) ∧ v = ⟨-1, 0⟩)
section
variable {ts : List (List Ab)} {old : List Nat} {es : List En} {nf : Nat}
theorem Lt {n x f : Nat} (h : x ∉ old) : plc n old es x f = some (kept old x, 0) := if_neg h
variable (hg : Chg ts old es nf)
include hg
theorem Yc {n : Nat} {e : En} (he : e ∈ es) : plc n old es e.x e.f = some (kept old n + e.i, e.p) := by
  unfold plc
  rw [if_pos (hg.en e he).1]
  cases h : es.find? fun e' => decide (e'.x = e.x ∧ e'.f = e.f) with
  | none =>
    have := List.find?_eq_none.1 h e he
    simp at this
  | some e' =>
    have h1 := List.find?_some h
    have h2 := List.mem_of_find?_eq_some h
    simp only [decide_eq_true_eq] at h1
    rw [hg.key e' e h2 he h1.1 h1.2]; rfl
theorem Jh {n x f r p : Nat} (h : plc n old es x f = some (r, p)) : (x ∉ old ∧ r = kept old x ∧ p = 0) ∨ ∃ e, e ∈ es ∧ e.x = x ∧ e.f = f ∧ r = kept old n + e.i ∧ p = e.p := by
  unfold plc at h
  by_cases hx : x ∈ old
  · rw [if_pos hx] at h
    cases hf : es.find? fun e => decide (e.x = x ∧ e.f = f) with
    | none => rw [hf] at h; cases h
    | some e =>
      rw [hf] at h
      have h1 := List.find?_some hf
      simp only [decide_eq_true_eq] at h1
      injection h with h
      injection h with h2 h3
      exact .inr ⟨e, List.mem_of_find?_eq_some hf, h1.1, h1.2, h2.symm, h3.symm⟩
  · rw [if_neg hx] at h
    injection h with h
    injection h with h2 h3
    exact .inl ⟨hx, h2.symm, h3.symm⟩
theorem Wj {n x f : Nat} (h : plc n old es x f = none) : x ∈ old ∧ ∀ e, e ∈ es → ¬ (e.x = x ∧ e.f = f) := by
  unfold plc at h
  by_cases hx : x ∈ old
  · rw [if_pos hx] at h
    refine ⟨hx, fun e he hk => ?_⟩
    cases hf : es.find? fun e => decide (e.x = x ∧ e.f = f) with
    | none =>
      have := List.find?_eq_none.1 hf e he
      simp only [decide_eq_true_eq] at this
      exact this hk
    | some e' => rw [hf] at h; cases h
  · rw [if_neg hx] at h; cases h
theorem kM {n x f r p : Nat} (h : plc n old es x f = some (r, p)) : p < 24 := by
  rcases Jh hg h with ⟨_, _, rfl⟩ | ⟨e, he, _, _, _, rfl⟩
  · omega
  · exact (hg.en e he).2.2.2
theorem Mm {k : Nat} (hk : k < 4) : PA 0 k = k := by
  have : ∀ k, k < 4 → PA 0 k = k := by decide +kernel
  exact this k hk
theorem jB {x f x' f' r p p' : Nat} (hx : x < ts.length) (hx' : x' < ts.length) (hf : f < 4) (hf' : f' < 4) (h : plc ts.length old es x f = some (r, p)) (h' : plc ts.length old es x' f' = some (r, p')) (hc : PA p f = PA p' f') : x = x' ∧ f = f' := by
  rcases Jh hg h with ⟨a1, a2, a3⟩ | ⟨e, a1, a2, a3, a4, a5⟩
  · rcases Jh hg h' with ⟨b1, b2, b3⟩ | ⟨e', b1, b2, b3, b4, b5⟩
    · subst a3; subst b3
      rw [Mm hg hf, Mm hg hf'] at hc
      exact ⟨cO a1 b1 (by omega), hc⟩
    · have := Kg hx a1; omega
  · rcases Jh hg h' with ⟨b1, b2, b3⟩ | ⟨e', b1, b2, b3, b4, b5⟩
    · have := Kg hx' b1; omega
    · subst a5; subst b5; subst a2; subst a3; subst b2; subst b3
      rw [hg.pos e e' a1 b1 (by omega) hc]
      exact ⟨rfl, rfl⟩
theorem Ex.det {fr : List (List Ab)} (hfr : ∀ e, e ∈ es → (Bv fr e.i (PA e.p e.f)).Tet < 0) {r c : Nat} {v w : Ab} (h : Ex ts old es fr r c v) (h' : Ex ts old es fr r c w) : v = w := by
  have no : ∀ {x f p}, x < ts.length → plc ts.length old es x f = some (r, p) → c = PA p f → kept old ts.length ≤ r → (Bv fr (r - kept old ts.length) c).Tet < 0 ∧ ∃ e, e ∈ es ∧ kept old ts.length + e.i = r ∧ PA e.p e.f = c := by
    intro x f p hx h1 h2 h3
    rcases Jh hg h1 with ⟨a1, a2, a3⟩ | ⟨e, a1, a2, a3, a4, a5⟩
    · have := Kg hx a1; omega
    · refine ⟨?_, e, a1, a4.symm, by rw [h2, a5, a3]⟩
      have := hfr e a1
      rw [h2, a5, ← a3, show r - kept old ts.length = e.i by omega]; exact this
  rcases h with ⟨x, f, p, h1, h2, h3, h4, h5⟩ | ⟨h1, h2, h3⟩ | ⟨h1, h2, h3, h4⟩
  · rcases h' with ⟨x', f', p', k1, k2, k3, k4, k5⟩ | ⟨k1, k2, k3⟩ | ⟨k1, k2, k3, k4⟩
    · obtain ⟨e1, e2⟩ := jB hg h1 k1 h2 k2 h3 k3 (h4.symm.trans k4)
      rw [h5, k5, e1, e2]
    · have := (no h1 h3 h4 k1).1; omega
    · obtain ⟨_, e, a, b, c'⟩ := no h1 h3 h4 k1
      exact (k3 e a ⟨b, c'⟩).elim
  · rcases h' with ⟨x', f', p', k1, k2, k3, k4, k5⟩ | ⟨k1, k2, k3⟩ | ⟨k1, k2, k3, k4⟩
    · have := (no k1 k3 k4 h1).1; omega
    · rw [h3, k3]
    · omega
  · rcases h' with ⟨x', f', p', k1, k2, k3, k4, k5⟩ | ⟨k1, k2, k3⟩ | ⟨k1, k2, k3, k4⟩
    · obtain ⟨_, e, a, b, c'⟩ := no k1 k3 k4 h1
      exact (h3 e a ⟨b, c'⟩).elim
    · omega
    · rw [h4, k4]
end
def Ow (L : List (List Ab)) (r c : Nat) (v : Ab) : List (List Ab) := L.set r ((L.getD r []).set c v)
structure Shape (L : List (List Ab)) (m : Nat) : Prop where
  len : L.length = m
  row : ∀ r, r < m → (L.getD r []).length = 4
theorem Mc {L : List (List Ab)} {m r c : Nat} {v : Ab} (h : Shape L m) (hr : r < m) (hc : c < 4) (r' c' : Nat) : Bv (Ow L r c v) r' c' = if r' = r ∧ c' = c then v else Bv L r' c' := by
  unfold Bv Ow
  have hl := h.len
  have hw := h.row r hr
  by_cases e : r' = r
  · subst e
    rw [List.getD_eq_getElem?_getD (l := L.set r' _), List.getElem?_set_self (by omega), Option.getD_some]
    by_cases e2 : c' = c
    · subst e2
      rw [if_pos ⟨rfl, rfl⟩, List.getD_eq_getElem?_getD, List.getElem?_set_self (by omega)]; rfl
    · rw [if_neg (fun q => e2 q.2), List.getD_eq_getElem?_getD, List.getElem?_set_ne (fun q => e2 q.symm), ← List.getD_eq_getElem?_getD]
  · rw [if_neg (fun q => e q.1), List.getD_eq_getElem?_getD (l := L.set r _), List.getElem?_set_ne (fun q => e q.symm), ← List.getD_eq_getElem?_getD]
theorem I7 {L : List (List Ab)} {m r c : Nat} {v : Ab} (h : Shape L m) : Shape (Ow L r c v) m := by
  refine ⟨by unfold Ow; rw [List.length_set]; exact h.len, fun r' hr' => ?_⟩
  have hl := h.len
  unfold Ow
  by_cases e : r' = r
  · subst e
    rw [List.getD_eq_getElem?_getD, List.getElem?_set_self (by omega), Option.getD_some, List.length_set]
    exact h.row r' hr'
  · rw [List.getD_eq_getElem?_getD, List.getElem?_set_ne (fun q => e q.symm), ← List.getD_eq_getElem?_getD]
    exact h.row r' hr'
theorem mQ {L : List (List Ab)} {m a f b p : Nat} (h : Shape L m) (ha : a < m) (hf : f < 4) (hb : b < m) (hp : p < 24) : Ac (fun K => Hm.f K L (a : Int) (f : Int) (b : Int) (p : Int)) (Ow (Ow L a f ⟨b, p⟩) b (PA p f) ⟨a, (PI p : Nat)⟩) := by
  have hl := h.len
  have hw := h.row a ha
  have h2 : Shape (L.set a ((L.getD a []).set f ⟨b, p⟩)) m := I7 (v := ⟨b, p⟩) (r := a) (c := f) h
  have hl2 := h2.len
  have hw2 := h2.row b hb
  have hpf := D6 hp hf
  refine Ac.pos (by omega) ?_
  simp only [Int.toNat_natCast]
  refine Ac.pos (by omega) (Ac.pos (by omega) ?_)
  refine Ac.bind (K6 hp hf) ?_
  refine Ac.bind (Oh hp) ?_
  simp only [Int.toNat_natCast]
  exact Ac.pos (by omega) (Ac.const _)
theorem pF {L : List (List Ab)} {m a f b p : Nat} (h : Shape L m) (ha : a < m) (hf : f < 4) (hb : b < m) (hp : p < 24) : Ac (fun K => Fp.f K L (a : Int) (f : Int) (b : Int) (p : Int)) (Ow (Ow L a f ⟨b, p⟩) b (PA p f) ⟨a, (PI p : Nat)⟩) := by
  have hl := h.len
  have hw := h.row a ha
  have h2 : Shape (L.set a ((L.getD a []).set f ⟨b, p⟩)) m := I7 (v := ⟨b, p⟩) (r := a) (c := f) h
  have hl2 := h2.len
  have hw2 := h2.row b hb
  have hpf := D6 hp hf
  refine Ac.pos (by omega) ?_
  simp only [Int.toNat_natCast]
  refine Ac.pos (by omega) (Ac.pos (by omega) ?_)
  refine Ac.bind (Rl (b : Int) hp hf) ?_
  refine Ac.Eg (a := (a : Int)) (b := ((PI p : Nat) : Int)) (Ac.bind (K3 hp) (Ac.const _)) ?_
  simp only [Int.toNat_natCast]
  exact Ac.pos (by omega) (Ac.const _)
theorem PM3 {p q p' : Nat} (hp : p < 24) (hq : q < 24) (hp' : p' < 24) : PM (PM (PI p) q) p' < 24 ∧ (∀ k, k < 4 → PA (PM (PM (PI p) q) p') (PA p k) = PA p' (PA q k)) ∧ PI (PM (PM (PI p) q) p') = PM (PM (PI p') (PI q)) p := by
  have h1 := G9 hp
  have h2 := Lc h1 hq
  have h3 := Lc h2 hp'
  have key : ∀ k, k < 4 → PA (PM (PM (PI p) q) p') (PA p k) = PA p' (PA q k) := fun k hk => by
    rw [Mr h2 hp' (D6 hp hk), Mr h1 hq (D6 hp hk), J6 hp hk]
  refine ⟨h3, key, bE (G9 h3) (Lc (Lc (G9 hp') (G9 hq)) hp) fun k hk => ?_⟩
  have e1 : PA (PM (PM (PI p') (PI q)) p) k = PA p (PA (PI q) (PA (PI p') k)) := by rw [Mr (Lc (G9 hp') (G9 hq)) hp hk, Mr (G9 hp') (G9 hq) hk]
  have a1 := D6 (G9 hp') hk
  have a2 := D6 (G9 hq) a1
  have e2 := key _ a2
  rw [Xj hq a1, Xj hp' hk] at e2
  rw [e1, ← J6 h3 (D6 hp a2), e2]
section
variable {ts : List (List Ab)} (hv : Val ts) {old : List Nat} {es : List En} {nf : Nat} (hg : Chg ts old es nf)
include hv hg
theorem Zx {x f r p : Nat} (hx : x < ts.length) (h : plc ts.length old es x f = some (r, p)) : r < kept old ts.length + nf := by
  rcases Jh hg h with ⟨a1, a2, _⟩ | ⟨e, a1, _, _, a4, _⟩
  · have := Kg hx a1; omega
  · have := (hg.en e a1).2.2.1; omega
theorem partner {x f r p b q : Nat} (hx : x < ts.length) (hf : f < 4) (h : plc ts.length old es x f = some (r, p)) (hG : Jr ts x f b q) : ∃ r' p', plc ts.length old es b (PA q f) = some (r', p') ∧ p < 24 ∧ p' < 24 ∧ r < kept old ts.length + nf ∧ r' < kept old ts.length + nf ∧
    val ts old es x f = ⟨r', (PM (PM (PI p) q) p' : Nat)⟩ ∧ val ts old es b (PA q f) = ⟨r, (PI (PM (PM (PI p) q) p') : Nat)⟩ := by
  obtain ⟨hb, hq, h1, h2, h3⟩ := hG
  have hp := kM hg h
  have hq' := G9 hq
  have hqf := D6 hq hf
  cases hpl : plc ts.length old es b (PA q f) with
  | none =>
    obtain ⟨c1, c2⟩ := Wj hg hpl
    obtain ⟨b', q', k1, k2, k3⟩ := hg.inn b (PA q f) c1 hqf c2
    have k4 := k1.2.2.1
    rw [h2] at k4
    injection k4 with k4 k5
    have e1 : b' = x := by omega
    have e2 : q' = PI q := by omega
    subst e1; subst e2
    rw [J6 hq hf] at k3
    rcases Jh hg h with ⟨a1, _⟩ | ⟨e, a1, a2, a3, _⟩
    · exact (a1 k2).elim
    · exact (k3 e a1 ⟨a2, a3⟩).elim
  | some rp =>
    obtain ⟨r', p'⟩ := rp
    have hp' := kM hg hpl
    obtain ⟨m1, m2, m3⟩ := PM3 hp hq hp'
    refine ⟨r', p', rfl, hp, hp', Zx hv hg hx h, Zx hv hg hb hpl, ?_, ?_⟩
    · unfold val
      rw [h1, if_neg (by show ¬ ((b : Int) < 0); omega), h]
      simp only [Int.toNat_natCast]
      rw [hpl]; rfl
    · unfold val
      rw [h2, if_neg (by show ¬ ((x : Int) < 0); omega), hpl]
      simp only [Int.toNat_natCast]
      rw [J6 hq hf, h, m3]; rfl
end
theorem bO {l : List Nat} {x : Nat} : (x : Int) ∈ ints l ↔ x ∈ l := by
  unfold ints
  rw [List.mem_map]
  constructor
  · rintro ⟨y, h1, h2⟩
    obtain rfl : y = x := by omega
    exact h1
  · intro h; exact ⟨x, h, rfl⟩
theorem aH {l : List Nat} (hl : l.length ≤ 100) (x : Nat) : Ac (fun K => Dw.f K (ints l) (x : Int)) (decide (x ∈ l)) := by
  have h := lK (l := ints l) (v := (x : Int)) (by unfold ints; rw [List.length_map]; omega)
  rw [decide_eq_decide.2 bO] at h
  exact h
def atL (old : List Nat) (n : Nat) : List Int := (List.range n).map fun x => (kept old x : Int)
theorem Ur (old : List Nat) (n : Nat) : (atL old n).length = n := by simp [atL]
theorem Zl {old : List Nat} {n x : Nat} (h : x < n) : (atL old n).getD x 0 = (kept old x : Int) := by
  rw [atL, List.getD_eq_getElem?_getD, List.getElem?_map, List.getElem?_range h]; rfl
theorem bQ (old : List Nat) (n : Nat) : atL old (n + 1) = atL old n ++ [(kept old n : Int)] := by unfold atL; rw [List.range_succ, List.map_append]; rfl
def rkf (ts : List (List Ab)) (old : List Nat) (x c : Nat) : Ab := if (Bv ts x c).Tet < 0 then ⟨-1, 0⟩ else if (Bv ts x c).Tet.toNat ∈ old then ⟨-1, 0⟩ else ⟨(kept old (Bv ts x c).Tet.toNat : Int), (Bv ts x c).Perm⟩
def frf (fr : List (List Ab)) (base i c : Nat) : Ab := if (Bv fr i c).Tet < 0 then ⟨-1, 0⟩ else ⟨(base : Int) + (Bv fr i c).Tet, (Bv fr i c).Perm⟩
theorem Nq {j : Nat} (h : j < 4) : Iq.getD j Bb = ⟨-1, 0⟩ := by
  rcases (by omega : j = 0 ∨ j = 1 ∨ j = 2 ∨ j = 3) with rfl | rfl | rfl | rfl <;> rfl
theorem Zq {l : List Ab} {c j : Nat} {v : Ab} (hc : c < l.length) : (l.set c v).getD j Bb = if j = c then v else l.getD j Bb := by
  by_cases e : j = c
  · subst e
    rw [if_pos rfl, List.getD_eq_getElem?_getD, List.getElem?_set_self hc]; rfl
  · rw [if_neg e, List.getD_eq_getElem?_getD, List.getElem?_set_ne (fun q => e q.symm), ← List.getD_eq_getElem?_getD]
theorem L6 {L : List (List Ab)} {row : List Ab} (r c : Nat) : Bv (L ++ [row]) r c = if r < L.length then Bv L r c else if r = L.length then row.getD c Bb else Bv (L ++ [row]) r c := by
  unfold Bv
  by_cases h : r < L.length
  · rw [if_pos h, List.getD_eq_getElem?_getD (l := L ++ [row]), List.getElem?_append_left h, ← List.getD_eq_getElem?_getD]
  · rw [if_neg h]
    by_cases e : r = L.length
    · rw [if_pos e, e, List.getD_eq_getElem?_getD (l := L ++ [row]), List.getElem?_append_right (Nat.le_refl _), Nat.sub_self]; rfl
    · rw [if_neg e]
theorem Shape.app {L : List (List Ab)} {m : Nat} (h : Shape L m) {row : List Ab} (hr : row.length = 4) : Shape (L ++ [row]) (m + 1) := by
  refine ⟨by rw [List.length_append, h.len]; rfl, fun r hlt => ?_⟩
  by_cases e : r < m
  · rw [List.getD_eq_getElem?_getD, List.getElem?_append_left (by rw [h.len]; exact e), ← List.getD_eq_getElem?_getD]; exact h.row r e
  · obtain rfl : r = m := by omega
    rw [List.getD_eq_getElem?_getD, List.getElem?_append_right (by rw [h.len]; exact Nat.le_refl _), h.len, Nat.sub_self]
    exact hr
section
variable {ts : List (List Ab)} (hv : Val ts) {old : List Nat} {es : List En} {fr : List (List Ab)} (hol : old.length ≤ 10)
include hv hol
theorem fD {R : List (List Ab)} (h : Aa (fun K k => Ao.l52 K k ts (ints old) fr (es.map En.g) (atL old ts.length) (kept old ts.length : Int) [] 0) R) : ∀ (d x : Nat), ts.length - x = d → x ≤ ts.length → Aa (fun K k => Ao.l1 K k ts (ints old) fr (es.map En.g) (atL old x) (kept old x : Int) (x : Int)) R
  | 0, x, hd, hx => by
    have h8 := hv.le
    obtain rfl : x = ts.length := by omega
    refine Aa.step (fun K k => ?_) h
    rw [Ao.l1, Cn.f, Option.bind_some, if_neg (by omega)]
  | d + 1, x, hd, hx => by
    have h8 := hv.le
    have hk := Ju old x
    have ih := fD h d (x + 1) (by omega) (by omega)
    rw [bQ, kept] at ih
    refine Aa.succ ?_
    simp only [Ao.l1, Cn.f, Option.bind_some]
    refine Aa.pos (by omega) (Aa.pos (by rw [Ur]; omega) ?_)
    refine Aa.bind (aH (by omega) x).two ?_
    rw [Ba (by omega), Ba (by omega)]
    by_cases hin : x ∈ old
    · rw [if_pos hin] at ih
      exact Aa.pos (decide_eq_true hin) ih
    · rw [if_neg hin] at ih
      exact Aa.neg (by rw [decide_eq_true_eq]; exact hin) ih
theorem Qy {x : Nat} (hx : x < ts.length) {rows : List (List Ab)} (hrl : rows.length ≤ 100) : ∀ (d c : Nat) (row : List Ab), 4 - c = d → c ≤ 4 → row.length = 4 → (∀ j, j < 4 → row.getD j Bb = if j < c then rkf ts old x j else ⟨-1, 0⟩) →
    ∃ row', row'.length = 4 ∧ (∀ j, j < 4 → row'.getD j Bb = rkf ts old x j) ∧ ∀ R, Aa (fun K k => Ao.l52 K k ts (ints old) fr (es.map En.g) (atL old ts.length) (kept old ts.length : Int) (rows ++ [row']) ((x + 1 : Nat) : Int)) R →
      Aa (fun K k => Ao.l69 K k ts (ints old) fr (es.map En.g) (atL old ts.length) (kept old ts.length : Int) rows (x : Int) row (c : Int)) R
  | 0, c, row, hd, hc, hl, hrow => by
    have h8 := hv.le
    refine ⟨row, hl, fun j hj => by rw [hrow j hj, if_pos (by omega)], fun R h => Aa.step (fun K k => ?_) h⟩
    rw [Ao.l69, if_neg (by omega), if_pos (by omega), Ba (by omega)]
  | d + 1, c, row, hd, hc, hl, hrow => by
    have h8 := hv.le
    have hc4 : c < 4 := by omega
    have hr := hv.four x hx
    have hskip : rkf ts old x c = ⟨-1, 0⟩ → ∀ j, j < 4 → row.getD j Bb = if j < c + 1 then rkf ts old x j else ⟨-1, 0⟩ := fun e j hj => by
      rw [hrow j hj]
      by_cases h1 : j < c
      · rw [if_pos h1, if_pos (by omega)]
      · by_cases h2 : j = c
        · subst h2; rw [if_neg h1, if_pos (by omega), e]
        · rw [if_neg h1, if_neg (by omega)]
    rcases Ea hv hx hc4 with ⟨g1, _⟩ | ⟨g1, b, q, hb, hq, g2, _⟩
    · obtain ⟨row', k1, k2, k3⟩ := Qy hx hrl d (c + 1) row (by omega) (by omega) hl (hskip (by unfold rkf; rw [if_pos g1]))
      refine ⟨row', k1, k2, fun R h => ?_⟩
      have := k3 R h
      have g1' : ((ts.getD x []).getD c Bb).Tet < 0 := g1
      refine Aa.succ ?_
      simp only [Ao.l69, Int.toNat_natCast, Fv]
      refine Aa.pos (by omega) (Aa.pos (by omega) (Aa.pos (by omega) (Aa.neg (by omega) ?_)))
      rw [Ba (by omega)]; exact this
    · have g2' : (ts.getD x []).getD c Bb = ⟨b, q⟩ := g2
      by_cases hin : b ∈ old
      · obtain ⟨row', k1, k2, k3⟩ := Qy hx hrl d (c + 1) row (by omega) (by omega) hl (hskip (by unfold rkf; rw [if_neg g1, g2]; simp only [Int.toNat_natCast]; rw [if_pos hin]))
        refine ⟨row', k1, k2, fun R h => ?_⟩
        have := k3 R h
        refine Aa.succ ?_
        simp only [Ao.l69, Int.toNat_natCast, Fv, g2']
        refine Aa.pos (by omega) (Aa.pos (by omega) (Aa.pos (by omega) (Aa.pos (by omega) ?_)))
        refine Aa.bind (aH (by omega) b).two (Aa.pos (decide_eq_true hin) ?_)
        rw [Ba (by omega)]; exact this
      · have e : rkf ts old x c = ⟨(kept old b : Int), (q : Int)⟩ := by unfold rkf; rw [if_neg g1, g2]; simp only [Int.toNat_natCast]; rw [if_neg hin]
        obtain ⟨row', k1, k2, k3⟩ := Qy hx hrl d (c + 1) (row.set c ⟨(kept old b : Int), (q : Int)⟩) (by omega) (by omega) (by rw [List.length_set]; exact hl) (fun j hj => by
          rw [Zq (by omega)]
          by_cases h2 : j = c
          · subst h2; rw [if_pos rfl, if_pos (by omega), e]
          · rw [if_neg h2, hrow j hj]
            by_cases h1 : j < c
            · rw [if_pos h1, if_pos (by omega)]
            · rw [if_neg h1, if_neg (by omega)])
        refine ⟨row', k1, k2, fun R h => ?_⟩
        have := k3 R h
        refine Aa.succ ?_
        simp only [Ao.l69, Int.toNat_natCast, Fv, g2', Zl hb]
        refine Aa.pos (by omega) (Aa.pos (by omega) (Aa.pos (by omega) (Aa.pos (by omega) ?_)))
        refine Aa.bind (aH (by omega) b).two (Aa.neg (by rw [decide_eq_true_eq]; exact hin) ?_)
        refine Aa.pos (by rw [Ur]; omega) (Aa.pos (by omega) ?_)
        rw [Ba (by omega)]; exact this
theorem Uh : ∀ (d x : Nat) (rows : List (List Ab)), ts.length - x = d → x ≤ ts.length → Shape rows (kept old x) → (∀ y c, y < x → y ∉ old → c < 4 → Bv rows (kept old y) c = rkf ts old y c) →
    ∃ rows', Shape rows' (kept old ts.length) ∧ (∀ y c, y < ts.length → y ∉ old → c < 4 → Bv rows' (kept old y) c = rkf ts old y c) ∧ ∀ R, Aa (fun K k => Ao.l70 K k ts (ints old) fr (es.map En.g) (atL old ts.length) (kept old ts.length : Int) rows' 0) R →
      Aa (fun K k => Ao.l52 K k ts (ints old) fr (es.map En.g) (atL old ts.length) (kept old ts.length : Int) rows (x : Int)) R
  | 0, x, rows, hd, hx, hs, hf => by
    have h8 := hv.le
    obtain rfl : x = ts.length := by omega
    refine ⟨rows, hs, hf, fun R h => Aa.step (fun K k => ?_) h⟩
    rw [Ao.l52, Cn.f, Option.bind_some, if_neg (by omega)]
  | d + 1, x, rows, hd, hx, hs, hf => by
    have h8 := hv.le
    have hk := Ju old x
    have hsl := hs.len
    have hlt : x < ts.length := by omega
    by_cases hin : x ∈ old
    · obtain ⟨rows', k1, k2, k3⟩ := Uh d (x + 1) rows (by omega) (by omega) (by rw [kept, if_pos hin]; exact hs) (fun y c hy hyo hc => hf y c (by
        by_cases e : y = x
        · subst e; exact (hyo hin).elim
        · omega) hyo hc)
      refine ⟨rows', k1, k2, fun R h => ?_⟩
      have := k3 R h
      refine Aa.succ ?_
      simp only [Ao.l52, Cn.f, Option.bind_some]
      refine Aa.pos (by omega) (Aa.bind (aH (by omega) x).two (Aa.pos (decide_eq_true hin) ?_))
      rw [Ba (by omega)]; exact this
    · obtain ⟨row', g1, g2, g3⟩ := Qy (es := es) (fr := fr) hv hol hlt (rows := rows) (by omega) 4 0 Iq rfl (by omega) rfl (fun j hj => by rw [if_neg (by omega)]; exact Nq hj)
      obtain ⟨rows', k1, k2, k3⟩ := Uh d (x + 1) (rows ++ [row']) (by omega) (by omega) (by rw [kept, if_neg hin]; exact hs.app g1) (fun y c hy hyo hc => by
        rw [L6, hsl]
        by_cases e : y = x
        · subst e
          rw [if_neg (by omega), if_pos rfl]; exact g2 c hc
        · rw [if_pos (Kg (by omega) hyo)]; exact hf y c (by omega) hyo hc)
      refine ⟨rows', k1, k2, fun R h => ?_⟩
      have := g3 R (k3 R h)
      refine Aa.succ ?_
      simp only [Ao.l52, Cn.f, Option.bind_some]
      refine Aa.pos (by omega) (Aa.bind (aH (by omega) x).two (Aa.neg (by rw [decide_eq_true_eq]; exact hin) ?_))
      exact Aa.bind (a := Iq) (Aa.const _) this
section
variable {nf : Nat} (hn4 : nf ≤ 4) (hfs : Shape fr nf) (hff : ∀ i c, i < nf → c < 4 → (Bv fr i c).Tet < nf)
include hn4 hfs hff
theorem U1 {i : Nat} (hi : i < nf) {rows : List (List Ab)} (hrl : rows.length ≤ 100) : ∀ (d c : Nat) (row : List Ab), 4 - c = d → c ≤ 4 → row.length = 4 → (∀ j, j < 4 → row.getD j Bb = if j < c then frf fr (kept old ts.length) i j else ⟨-1, 0⟩) →
    ∃ row', row'.length = 4 ∧ (∀ j, j < 4 → row'.getD j Bb = frf fr (kept old ts.length) i j) ∧ ∀ R, Aa (fun K k => Ao.l70 K k ts (ints old) fr (es.map En.g) (atL old ts.length) (kept old ts.length : Int) (rows ++ [row']) ((i + 1 : Nat) : Int)) R →
      Aa (fun K k => Ao.l75 K k ts (ints old) fr (es.map En.g) (atL old ts.length) (kept old ts.length : Int) rows (i : Int) row (c : Int)) R
  | 0, c, row, hd, hc, hl, hrow => by
    refine ⟨row, hl, fun j hj => by rw [hrow j hj, if_pos (by omega)], fun R h => Aa.step (fun K k => ?_) h⟩
    rw [Ao.l75, if_neg (by omega), if_pos (by omega), Ba (by omega)]
  | d + 1, c, row, hd, hc, hl, hrow => by
    have h8 := hv.le
    have hkn := Ju old ts.length
    have hc4 : c < 4 := by omega
    have hr := hfs.row i hi
    have hfl := hfs.len
    have hfi := hff i c hi hc4
    by_cases g1 : (Bv fr i c).Tet < 0
    · obtain ⟨row', k1, k2, k3⟩ := U1 hi hrl d (c + 1) row (by omega) (by omega) hl (fun j hj => by
        rw [hrow j hj]
        by_cases h1 : j < c
        · rw [if_pos h1, if_pos (by omega)]
        · by_cases h2 : j = c
          · subst h2; rw [if_neg h1, if_pos (by omega)]; unfold frf; rw [if_pos g1]
          · rw [if_neg h1, if_neg (by omega)])
      refine ⟨row', k1, k2, fun R h => ?_⟩
      have := k3 R h
      have g1' : ((fr.getD i []).getD c Bb).Tet < 0 := g1
      refine Aa.succ ?_
      simp only [Ao.l75, Int.toNat_natCast, Fv]
      refine Aa.pos (by omega) (Aa.pos (by omega) (Aa.pos (by omega) (Aa.neg (by omega) ?_)))
      rw [Ba (by omega)]; exact this
    · have e : frf fr (kept old ts.length) i c = ⟨(kept old ts.length : Int) + (Bv fr i c).Tet, (Bv fr i c).Perm⟩ := by unfold frf; rw [if_neg g1]
      obtain ⟨row', k1, k2, k3⟩ := U1 hi hrl d (c + 1) (row.set c ⟨(kept old ts.length : Int) + (Bv fr i c).Tet, (Bv fr i c).Perm⟩) (by omega) (by omega) (by rw [List.length_set]; exact hl) (fun j hj => by
        rw [Zq (by omega)]
        by_cases h2 : j = c
        · subst h2; rw [if_pos rfl, if_pos (by omega), e]
        · rw [if_neg h2, hrow j hj]
          by_cases h1 : j < c
          · rw [if_pos h1, if_pos (by omega)]
          · rw [if_neg h1, if_neg (by omega)])
      refine ⟨row', k1, k2, fun R h => ?_⟩
      have := k3 R h
      have hw : w64 ((kept old ts.length : Int) + ((fr.getD i []).getD c Bb).Tet) = (kept old ts.length : Int) + (Bv fr i c).Tet := Gh (by show -9223372036854775808 ≤ (kept old ts.length : Int) + (Bv fr i c).Tet; omega) (by show (kept old ts.length : Int) + (Bv fr i c).Tet ≤ _; omega)
      refine Aa.succ ?_
      simp only [Ao.l75, Int.toNat_natCast, Fv, hw]
      refine Aa.pos (by omega) (Aa.pos (by omega) (Aa.pos (by omega) (Aa.pos (by show 0 ≤ (Bv fr i c).Tet; omega) (Aa.pos (by omega) ?_))))
      rw [Ba (by omega)]; exact this
theorem Y4 : ∀ (d i : Nat) (rows : List (List Ab)), nf - i = d → i ≤ nf → Shape rows (kept old ts.length + i) → (∀ y c, y < ts.length → y ∉ old → c < 4 → Bv rows (kept old y) c = rkf ts old y c) → (∀ j c, j < i → c < 4 → Bv rows (kept old ts.length + j) c = frf fr (kept old ts.length) j c) →
    ∃ rows', Shape rows' (kept old ts.length + nf) ∧ (∀ y c, y < ts.length → y ∉ old → c < 4 → Bv rows' (kept old y) c = rkf ts old y c) ∧ (∀ j c, j < nf → c < 4 → Bv rows' (kept old ts.length + j) c = frf fr (kept old ts.length) j c) ∧ ∀ R, Aa (fun K k => Ao.l76 K k ts (ints old) (es.map En.g) (atL old ts.length) (kept old ts.length : Int) rows' 0) R →
      Aa (fun K k => Ao.l70 K k ts (ints old) fr (es.map En.g) (atL old ts.length) (kept old ts.length : Int) rows (i : Int)) R
  | 0, i, rows, hd, hi, hs, hf, hfn => by
    have hfl := hfs.len
    obtain rfl : i = nf := by omega
    refine ⟨rows, hs, hf, hfn, fun R h => Aa.step (fun K k => ?_) h⟩
    rw [Ao.l70, if_neg (by omega)]
  | d + 1, i, rows, hd, hi, hs, hf, hfn => by
    have h8 := hv.le
    have hkn := Ju old ts.length
    have hfl := hfs.len
    have hsl := hs.len
    have hlt : i < nf := by omega
    obtain ⟨row', g1, g2, g3⟩ := U1 (es := es) hv hol hn4 hfs hff hlt (rows := rows) (by omega) 4 0 Iq rfl (by omega) rfl (fun j hj => by rw [if_neg (by omega)]; exact Nq hj)
    obtain ⟨rows', k1, k2, k3, k4⟩ := Y4 d (i + 1) (rows ++ [row']) (by omega) (by omega) (hs.app g1) (fun y c hy hyo hc => by
      have := Kg hy hyo
      rw [L6, hsl, if_pos (by omega)]; exact hf y c hy hyo hc) (fun j c hj hc => by
      rw [L6, hsl]
      by_cases e : j = i
      · subst e
        rw [if_neg (by omega), if_pos rfl]; exact g2 c hc
      · rw [if_pos (by omega)]; exact hfn j c (by omega) hc)
    refine ⟨rows', k1, k2, k3, fun R h => ?_⟩
    have := g3 R (k4 R h)
    refine Aa.succ ?_
    simp only [Ao.l70]
    exact Aa.pos (by omega) (Aa.bind (a := Iq) (Aa.const _) this)
end
end
theorem En.get {es : List En} {t : Nat} {e : En} (h : es[t]? = some e) : t < es.length ∧ (es.map En.g).getD t Lb = e.g := by
  have ht : t < es.length := by
    by_cases q : t < es.length
    · exact q
    · rw [List.getElem?_eq_none (by omega)] at h; cases h
  exact ⟨ht, by rw [List.getD_eq_getElem?_getD, List.getElem?_map, h]; rfl⟩
theorem Yu {es : List En} (hl : es.length ≤ 100) {x g t : Nat} {e : En} (ht : es[t]? = some e) (hx : e.x = x) (hf : e.f = g) (hno : ∀ j, j < t → ∀ e', es[j]? = some e' → ¬ (e'.x = x ∧ e'.f = g)) : ∀ (d j : Nat), t - j = d → j ≤ t → Aa (fun K k => E8.l1 K k (es.map En.g) (x : Int) (g : Int) (j : Int)) (t : Int)
  | 0, j, hd, hj => by
    obtain rfl : j = t := by omega
    obtain ⟨a, b⟩ := En.get ht
    refine Aa.of fun K k => ?_
    rw [E8.l1, List.length_map, if_pos (by omega), if_pos (by omega), Int.toNat_natCast, b, Fv, if_pos (by show (e.x : Int) = x; omega), if_pos (by show (e.f : Int) = g; omega)]
  | d + 1, j, hd, hj => by
    obtain ⟨a, _⟩ := En.get ht
    have hjl : j < es.length := by omega
    have h1 : es[j]? = some es[j] := List.getElem?_eq_getElem hjl
    obtain ⟨_, b⟩ := En.get h1
    have hn := hno j (by omega) _ h1
    refine Aa.step (fun K k => ?_) (Yu hl ht hx hf hno d (j + 1) (by omega) (by omega))
    rw [E8.l1, List.length_map, if_pos (by omega), if_pos (by omega), Int.toNat_natCast, b, Fv, Ba (by omega)]
    by_cases e1 : es[j].x = x
    · rw [if_pos (by show (es[j].x : Int) = x; omega), if_neg (by show ¬ ((es[j].f : Int) = g); intro q; exact hn ⟨e1, by omega⟩)]
    · rw [if_neg (by show ¬ ((es[j].x : Int) = x); omega)]
theorem mH {es : List En} (hl : es.length ≤ 100) {x g : Nat} (h : ∃ e, e ∈ es ∧ e.x = x ∧ e.f = g) : ∃ (t : Nat) (e : En), es[t]? = some e ∧ e.x = x ∧ e.f = g ∧ Ac (fun K => E8.f K (es.map En.g) (x : Int) (g : Int)) (t : Int) := by
  obtain ⟨e0, h1, h2, h3⟩ := h
  obtain ⟨t0, ht0, h4⟩ := List.getElem_of_mem h1
  obtain ⟨t, _, ⟨e, k1, k2, k3⟩, k4⟩ := Sm (P := fun t : Nat => ∃ e : En, es[t]? = some e ∧ e.x = x ∧ e.f = g) t0 ⟨e0, by rw [List.getElem?_eq_getElem ht0, h4], h2, h3⟩
  exact ⟨t, e, k1, k2, k3, (Yu hl k1 k2 k3 (fun j hj e' h5 h6 => k4 j hj ⟨e', h5, h6.1, h6.2⟩) t 0 rfl (by omega)).G8⟩
theorem Ui {m : Nat} (hm : m < 24) : PM m 0 = m := by
  have : ∀ m, m < 24 → PM m 0 = m := by decide +kernel
  exact this m hm
theorem jX : PI 0 = 0 := by decide +kernel
theorem jZ {m : Nat} (hm : m < 24) : PM 0 m = m := by
  have : ∀ m, m < 24 → PM 0 m = m := by decide +kernel
  exact this m hm
def Pd (ts : List (List Ab)) (old : List Nat) (es : List En) (j r c : Nat) : Prop :=
  ∃ (t : Nat) (e : En) (b q r' p' : Nat), j ≤ t ∧ es[t]? = some e ∧ Jr ts e.x e.f b q ∧ plc ts.length old es b (PA q e.f) = some (r', p') ∧ ((r = kept old ts.length + e.i ∧ c = PA e.p e.f) ∨ (r = r' ∧ c = PA p' (PA q e.f)))
section
variable {ts : List (List Ab)} (hv : Val ts) {old : List Nat} {es : List En} {fr : List (List Ab)} (hol : old.length ≤ 10) {nf : Nat} (hn4 : nf ≤ 4) (hel : es.length ≤ 100) (hg : Chg ts old es nf)
include hv hol hn4 hel hg
theorem Un : ∀ (d j : Nat) (L : List (List Ab)), es.length - j = d → j ≤ es.length → Shape L (kept old ts.length + nf) → (∀ r c, r < kept old ts.length + nf → c < 4 → Ex ts old es fr r c (Bv L r c) ∨ Pd ts old es j r c) →
    ∃ L', Shape L' (kept old ts.length + nf) ∧ (∀ r c, r < kept old ts.length + nf → c < 4 → Ex ts old es fr r c (Bv L' r c)) ∧ Aa (fun K k => Ao.l76 K k ts (ints old) (es.map En.g) (atL old ts.length) (kept old ts.length : Int) L (j : Int)) L'
  | 0, j, L, hd, hj, hs, hx => by
    refine ⟨L, hs, fun r c hr hc => (hx r c hr hc).resolve_right ?_, Aa.of fun K k => ?_⟩
    · rintro ⟨t, e, b, q, r', p', h1, h2, _⟩
      have := (En.get h2).1
      omega
    · rw [Ao.l76, List.length_map, if_neg (by omega)]
  | d + 1, j, L, hd, hj, hs, hx => by
    have h8 := hv.le
    have hkn := Ju old ts.length
    have hjl : j < es.length := by omega
    have hej : es[j]? = some es[j] := List.getElem?_eq_getElem hjl
    obtain ⟨_, hgt⟩ := En.get hej
    have hmem : es[j] ∈ es := List.getElem_mem hjl
    generalize es[j] = e at hej hgt hmem
    obtain ⟨eo, ef, ei, ep⟩ := hg.en e hmem
    have hxn := hg.Xu _ eo
    have hr4 := hv.four _ hxn
    have hpf := D6 ep ef
    rcases Ea hv hxn ef with ⟨g1, _⟩ | ⟨g1, b, q, hb, hq, g2, hG⟩
    · obtain ⟨L', k1, k2, k3⟩ := Un d (j + 1) L (by omega) (by omega) hs (fun r c hr hc => by
        rcases hx r c hr hc with h | ⟨t, e', b, q, r', p', h1, h2, h3, h4⟩
        · exact .inl h
        · refine .inr ⟨t, e', b, q, r', p', ?_, h2, h3, h4⟩
          by_cases e1 : t = j
          · subst e1
            rw [hej] at h2
            injection h2 with h2
            subst h2
            rw [h3.2.2.1] at g1
            have g1 : (b : Int) < 0 := g1
            omega
          · omega)
      refine ⟨L', k1, k2, ?_⟩
      have g1' : ((ts.getD e.x []).getD e.f Bb).Tet < 0 := g1
      refine Aa.succ ?_
      simp only [Ao.l76, List.length_map, Int.toNat_natCast, hgt, Fv, En.g]
      refine Aa.pos (by omega) (Aa.pos (by omega) (Aa.pos (by omega) (Aa.pos (by omega) (Aa.pos g1' ?_))))
      rw [Ba (by omega)]; exact k3
    · have hpl := Yc hg (n := ts.length) hmem
      obtain ⟨r', p', q1, q2, q3, q4, q5, q6, q7⟩ := partner hv hg hxn ef hpl hG
      obtain ⟨m1, m2, m3⟩ := PM3 ep hq q3
      have m2' := m2 e.f ef
      have hqf := D6 hq ef
      have hp'q := D6 q3 hqf
      have hs2 : Shape (Ow (Ow L (kept old ts.length + e.i) (PA e.p e.f) ⟨r', (PM (PM (PI e.p) q) p' : Nat)⟩) r' (PA p' (PA q e.f)) ⟨(kept old ts.length + e.i : Nat), (PI (PM (PM (PI e.p) q) p') : Nat)⟩) (kept old ts.length + nf) := I7 (I7 hs)
      obtain ⟨L', k1, k2, k3⟩ := Un d (j + 1) _ (by omega) (by omega) hs2 (fun r c hr hc => by
        rw [Mc (I7 hs) q5 hp'q, Mc hs q4 hpf]
        by_cases c1 : r = r' ∧ c = PA p' (PA q e.f)
        · rw [if_pos c1]
          refine .inl (.inl ⟨b, PA q e.f, p', hb, hqf, by rw [c1.1]; exact q1, c1.2, ?_⟩)
          rw [q7]
        · rw [if_neg c1]
          by_cases c2 : r = kept old ts.length + e.i ∧ c = PA e.p e.f
          · rw [if_pos c2]
            refine .inl (.inl ⟨e.x, e.f, e.p, hxn, ef, by rw [c2.1]; exact hpl, c2.2, ?_⟩)
            rw [q6]
          · rw [if_neg c2]
            rcases hx r c hr hc with h | ⟨t, e', b1, q8, r1, p1, h1, h2, h3, h4, h5⟩
            · exact .inl h
            · refine .inr ⟨t, e', b1, q8, r1, p1, ?_, h2, h3, h4, h5⟩
              by_cases e1 : t = j
              · subst e1
                rw [hej] at h2
                injection h2 with h2
                subst h2
                have f1 := h3.2.2.1
                rw [g2] at f1
                injection f1 with f1 f2
                have f1 : b = b1 := by omega
                have f2 : q = q8 := by omega
                subst f1; subst f2
                rw [q1] at h4
                injection h4 with h4
                injection h4 with h4 h6
                subst h4; subst h6
                rcases h5 with h5 | h5
                · exact (c2 h5).elim
                · exact (c1 h5).elim
              · omega)
      refine ⟨L', k1, k2, ?_⟩
      have g2' : (ts.getD e.x []).getD e.f Bb = ⟨b, q⟩ := g2
      have w1 : w64 ((kept old ts.length : Int) + (e.i : Int)) = ((kept old ts.length + e.i : Nat) : Int) := by rw [Gh (by omega) (by omega)]; omega
      have hG1 := mQ hs q4 hpf q5 m1
      rw [m2'] at hG1
      refine Aa.succ ?_
      simp only [Ao.l76, List.length_map, Int.toNat_natCast, hgt, Fv, En.g, g2', w1]
      refine Aa.pos (by omega) (Aa.pos (by omega) (Aa.pos (by omega) (Aa.pos (by omega) (Aa.neg (by omega) ?_))))
      refine Aa.bind (K6 ep ef).two ?_
      refine Aa.bind (Oh ep).two ?_
      refine Aa.bind (R7 (G9 ep) hq).two ?_
      refine Aa.bind (aH (by omega) b).two ?_
      by_cases hbo : b ∈ old
      · refine Aa.pos (decide_eq_true hbo) ?_
        refine Aa.bind (K6 hq ef).two ?_
        rcases Jh hg q1 with ⟨z1, _⟩ | ⟨e2, z1, z2, z3, z4, z5⟩
        · exact (z1 hbo).elim
        · obtain ⟨t, e3, y1, y2, y3, y4⟩ := mH hel ⟨e2, z1, z2, z3⟩
          obtain ⟨y5, y6⟩ := En.get y1
          have y7 : e3 = e2 := hg.key e3 e2 (by
            rw [List.getElem?_eq_getElem y5] at y1
            injection y1 with y1
            rw [← y1]; exact List.getElem_mem y5) z1 (by omega) (by omega)
          rw [y7] at y6
          have w2 : w64 ((kept old ts.length : Int) + (e2.i : Int)) = (r' : Int) := by rw [Gh (by have := (hg.en e2 z1).2.2.1; omega) (by have := (hg.en e2 z1).2.2.1; omega)]; omega
          refine Aa.bind y4.two ?_
          simp only [Int.toNat_natCast, y6, En.g, w2]
          refine Aa.pos (by omega) ?_
          rw [← z5]
          refine Aa.bind (R7 (Lc (G9 ep) hq) q3).two ?_
          refine Aa.bind hG1.two ?_
          refine Aa.pos (by rw [hs2.len, hs.len]) ?_
          rw [Ba (by omega)]; exact k3
      · refine Aa.neg (by rw [decide_eq_true_eq]; exact hbo) ?_
        rw [Lt hbo] at q1
        injection q1 with q1
        injection q1 with z1 z2
        subst z2
        rw [Ui (Lc (G9 ep) hq)] at hG1 k3
        refine Aa.pos (by rw [Ur]; omega) ?_
        rw [Zl hb, z1]
        refine Aa.bind hG1.two ?_
        rw [Ui (Lc (G9 ep) hq)] at hs2
        refine Aa.pos (by rw [hs2.len, hs.len]) ?_
        rw [Ba (by omega)]; exact k3
theorem Z8 (hfs : Shape fr nf) (hff : ∀ i c, i < nf → c < 4 → (Bv fr i c).Tet < nf) (hfe : ∀ e, e ∈ es → (Bv fr e.i (PA e.p e.f)).Tet < 0) :
    ∃ L, Shape L (kept old ts.length + nf) ∧ (∀ r c, r < kept old ts.length + nf → c < 4 → Ex ts old es fr r c (Bv L r c)) ∧ Ac (fun K => Ao.f K ts (ints old) fr (es.map En.g)) L := by
  have h8 := hv.le
  obtain ⟨R1, a1, a2, a3⟩ := Uh (es := es) (fr := fr) hv hol ts.length 0 [] rfl (by omega) ⟨rfl, fun r hr => by rw [kept] at hr; omega⟩ (fun y c hy => by omega)
  obtain ⟨R2, b1, b2, b3, b4⟩ := Y4 (es := es) hv hol hn4 hfs hff nf 0 R1 rfl (by omega) a1 a2 (fun j c hj => by omega)
  obtain ⟨L, c1, c2, c3⟩ := Un (fr := fr) hv hol hn4 hel hg es.length 0 R2 rfl (by omega) b1 (fun r c hr hc => by
    by_cases hrk : r < kept old ts.length
    · obtain ⟨x, x1, x2, x3⟩ := Rt hrk
      subst x3
      have hpl := Lt (n := ts.length) (es := es) (f := c) x2
      rw [b2 x c x1 x2 hc]
      rcases Ea hv x1 hc with ⟨g1, _⟩ | ⟨g1, b, q, hb, hq, g2, hG⟩
      · refine .inl (.inl ⟨x, c, 0, x1, hc, hpl, (Mm hg hc).symm, ?_⟩)
        unfold rkf val
        rw [if_pos g1, if_pos g1]
      · obtain ⟨r', p', q1, q2, q3, q4, q5, q6, q7⟩ := partner hv hg x1 hc hpl hG
        by_cases hbo : b ∈ old
        · rcases Jh hg q1 with ⟨z1, _⟩ | ⟨e2, z1, z2, z3, z4, z5⟩
          · exact (z1 hbo).elim
          · obtain ⟨t, ht, h4⟩ := List.getElem_of_mem z1
            refine .inr ⟨t, e2, x, PI q, kept old x, 0, Nat.zero_le _, by rw [List.getElem?_eq_getElem ht, h4], ?_, ?_, .inr ⟨rfl, ?_⟩⟩
            · rw [z2, z3]
              refine ⟨x1, G9 hq, hG.2.2.2.1, ?_, ?_⟩
              · rw [J6 hq hc, Wu hq]; exact g2
              · rw [J6 hq hc]; exact fun h => hG.2.2.2.2 ⟨h.1.symm, h.2.symm⟩
            · exact Lt x2
            · rw [z3, J6 hq hc, Mm hg hc]
        · refine .inl (.inl ⟨x, c, 0, x1, hc, hpl, (Mm hg hc).symm, ?_⟩)
          rw [Lt hbo] at q1
          injection q1 with q1
          injection q1 with z1 z2
          subst z2
          rw [q6, ← z1, jX, jZ hq, Ui hq]
          unfold rkf
          rw [if_neg g1, g2]
          simp only [Int.toNat_natCast]
          rw [if_neg hbo]
    · obtain ⟨i, hi⟩ : ∃ i, r = kept old ts.length + i := ⟨r - kept old ts.length, by omega⟩
      subst hi
      have hin : i < nf := by omega
      rw [b3 i c hin hc]
      unfold frf
      by_cases hneg : (Bv fr i c).Tet < 0
      · rw [if_pos hneg]
        by_cases hex : ∃ e, e ∈ es ∧ e.i = i ∧ PA e.p e.f = c
        · obtain ⟨e, z1, z2, z3⟩ := hex
          obtain ⟨eo, ef, ei, ep⟩ := hg.en e z1
          have hxn := hg.Xu _ eo
          have hpl := Yc hg (n := ts.length) z1
          rcases Ea hv hxn ef with ⟨g1, _⟩ | ⟨g1, b, q, hb, hq, g2, hG⟩
          · refine .inl (.inl ⟨e.x, e.f, e.p, hxn, ef, by rw [hpl, z2], z3.symm, ?_⟩)
            unfold val
            rw [if_pos g1]
          · obtain ⟨r', p', q1, _⟩ := partner hv hg hxn ef hpl hG
            obtain ⟨t, ht, h4⟩ := List.getElem_of_mem z1
            exact .inr ⟨t, e, b, q, r', p', Nat.zero_le _, by rw [List.getElem?_eq_getElem ht, h4], hG, q1, .inl ⟨by rw [z2], z3.symm⟩⟩
        · refine .inl (.inr (.inr ⟨by omega, by rw [show kept old ts.length + i - kept old ts.length = i by omega]; exact hneg, fun e he h => hex ⟨e, he, by omega, h.2⟩, rfl⟩))
      · rw [if_neg hneg]
        refine .inl (.inr (.inl ⟨by omega, ?_, ?_⟩)) <;> rw [show kept old ts.length + i - kept old ts.length = i by omega]
        omega)
  exact ⟨L, c1, c2, (fD hv hol (a3 _ (b4 _ c3)) ts.length 0 rfl (by omega)).G8⟩
end
theorem Wh {l : List Int} (hl : l.length ≤ 1000) {v : Int} (h1 : ∀ j, j < l.length → l.getD j 0 ≠ v) : ∀ (d j : Nat), l.length - j = d → j ≤ l.length → Aa (fun K k => Bt.l1 K k l v (j : Int)) (-1)
  | 0, j, hd, hle => by
    refine Aa.of fun K k => ?_
    rw [Bt.l1, if_neg (by omega)]
  | d + 1, j, hd, hle => by
    refine Aa.step (fun K k => ?_) (Wh hl h1 d (j + 1) (by omega) (by omega))
    rw [Bt.l1, if_pos (by omega), if_pos (by omega), Int.toNat_natCast, if_neg (fun e => h1 j (by omega) e.symm), Ba (by omega)]
theorem Po {l : List Nat} (hl : l.length ≤ 100) (x : Nat) : Ac (fun K => Cw.f K (ints l) (x : Int)) (decide (x ∈ l)) := by
  have hll := Gt l
  by_cases h : x ∈ l
  · rw [decide_eq_true h]
    obtain ⟨t0, ht0, h4⟩ := List.getElem_of_mem h
    obtain ⟨t, k0, ⟨k1, k2⟩, k4⟩ := Sm (P := fun t => t < l.length ∧ (ints l).getD t 0 = (x : Int)) t0 ⟨ht0, by rw [Jt ht0, List.getD_eq_getElem?_getD, List.getElem?_eq_getElem ht0, h4]; rfl⟩
    have := Sd (l := ints l) (v := (x : Int)) (by omega) (j0 := t) (by omega) k2 (fun j hj e => k4 j hj ⟨by omega, e⟩) t 0 rfl (by omega)
    refine Ac.bind this.G8 ?_
    rw [decide_eq_true (by omega)]; exact Ac.const _
  · rw [decide_eq_false h]
    have := Wh (l := ints l) (v := (x : Int)) (by omega) (fun j hj e => h (by
      have hjl : j < l.length := by omega
      rw [Jt hjl] at e
      have e2 : l.getD j 0 = x := by omega
      rw [List.getD_eq_getElem?_getD, List.getElem?_eq_getElem hjl, Option.getD_some] at e2
      rw [← e2]; exact List.getElem_mem hjl)) _ 0 rfl (by omega)
    exact Ac.bind this.G8 (Ac.const _)
theorem Y6 {s : List Ab} (h : s.length = 4) : Cu.f s = some s := by
  unfold Cu.f
  rw [if_pos (by rw [h]; decide)]; rfl
theorem Yr {L : List (List Ab)} {m : Nat} (h : Shape L m) (hm : m ≤ 100) : ∀ (d x : Nat) (out : List (List Ab)), m - x = d → x ≤ m → out = L.take x → Aa (fun K k => Cm.l1 K k L out (x : Int)) L
  | 0, x, out, hd, hx, ho => by
    have hl := h.len
    refine Aa.of fun K k => ?_
    rw [Cm.l1, if_neg (by omega), ho, List.take_of_length_le (by omega)]
  | d + 1, x, out, hd, hx, ho => by
    have hl := h.len
    have hr := h.row x (by omega)
    have hlo : out.length = x := by rw [ho, List.length_take]; omega
    refine Aa.step (fun K k => ?_) (Yr h hm d (x + 1) (out ++ [L.getD x []]) (by omega) (by omega) (by
      rw [ho, List.take_add_one, List.getD_eq_getElem?_getD, List.getElem?_eq_getElem (by omega)]; rfl))
    rw [Cm.l1, if_pos (by omega), if_pos (by omega), Int.toNat_natCast, Y6 hr, Option.bind_some, if_pos (by omega), Ba (by omega)]
theorem nI {L : List (List Ab)} {m : Nat} (h : Shape L m) (hm : m ≤ 100) : Ac (fun K => Cm.f K L) L := (Yr h hm m 0 [] rfl (by omega) rfl).G8
theorem Xt : (fun (K : Nat) => Az.f (K + 40) ([⟨-1, 0⟩] : List Ab) 4) = fun _ => some Iq := by kernel_rfl
theorem aR : Ac (fun K => Az.f K ([⟨-1, 0⟩] : List Ab) 4) Iq := ⟨40, fun K hK => by
  have := congrFun Xt (K - 40)
  rw [show K = K - 40 + 40 by omega]; exact this⟩
theorem pG {L : List (List Ab)} {m : Nat} (h : Shape L m) (hm : m ≤ 100) : Ac (fun K => F8.f K L) (L ++ [Iq]) := by
  refine Ac.bind (nI h hm) (Ac.Eg (a := -1) (b := 0) (Ac.const _) (Ac.bind aR ?_))
  exact Ac.pos (by rw [h.len]; omega) (Ac.const _)
def yL (old : List Nat) (n x : Nat) : List Int := (List.range n).map fun j => if j < x ∧ j ∉ old then (kept old j : Int) else 0
theorem M7 (old : List Nat) (n x : Nat) : (yL old n x).length = n := by simp [yL]
theorem Pt {old : List Nat} {n x j : Nat} (h : j < n) : (yL old n x).getD j 0 = if j < x ∧ j ∉ old then (kept old j : Int) else 0 := by
  rw [yL, List.getD_eq_getElem?_getD, List.getElem?_map, List.getElem?_range h]; rfl
theorem jH {old : List Nat} {n x : Nat} (h : x ∈ old) : yL old n (x + 1) = yL old n x := by
  refine Nu (M7 _ _ _) (M7 _ _ _) fun i hi => ?_
  rw [Pt hi, Pt hi]
  by_cases e : i = x
  · subst e; rw [if_neg (fun q => q.2 h), if_neg (fun q => q.2 h)]
  · by_cases h1 : i < x ∧ i ∉ old
    · rw [if_pos h1, if_pos ⟨by omega, h1.2⟩]
    · rw [if_neg h1, if_neg (fun q => h1 ⟨by omega, q.2⟩)]
theorem pU {old : List Nat} {n x : Nat} (hx : x < n) (h : x ∉ old) : yL old n (x + 1) = (yL old n x).set x (kept old x : Int) := by
  refine Nu (M7 _ _ _) (by rw [List.length_set]; exact M7 _ _ _) fun i hi => ?_
  rw [Uw (by rw [M7]; exact hx), Pt hi, Pt hi]
  by_cases e : x = i
  · subst e; rw [if_pos rfl, if_pos ⟨by omega, h⟩]
  · rw [if_neg e]
    by_cases h1 : i < x ∧ i ∉ old
    · rw [if_pos h1, if_pos ⟨by omega, h1.2⟩]
    · rw [if_neg h1, if_neg (fun q => h1 ⟨by omega, q.2⟩)]
theorem gB (old : List Nat) (n : Nat) : yL old n 0 = List.replicate n (0 : Int) := by
  refine Nu (M7 _ _ _) (by simp) fun i hi => ?_
  rw [Pt hi, if_neg (fun q => by omega), List.getD_eq_getElem?_getD, List.getElem?_replicate, if_pos hi]; rfl
section
variable {ts : List (List Ab)} (hv : Val ts) {old : List Nat} {m : List (Gd × Dn)} {inn : List Fg} {nf : Nat} (hol : old.length ≤ 10) (hn4 : nf ≤ 4)
include hv hol hn4
theorem fE : ∀ (d x : Nat) (rows : List (List Ab)), ts.length - x = d → x ≤ ts.length → Shape rows (kept old x) → (∀ y c, y < x → y ∉ old → c < 4 → Bv rows (kept old y) c = Bv ts y c) →
    ∃ rows', Shape rows' (kept old ts.length) ∧ (∀ y c, y < ts.length → y ∉ old → c < 4 → Bv rows' (kept old y) c = Bv ts y c) ∧ ∀ R, Aa (fun K k => Ae.Vd K k ts (ints old) m (nf : Int) inn (yL old ts.length ts.length) (kept old ts.length : Int) rows' 0) R →
      Aa (fun K k => Ae.l1 K k ts (ints old) m (nf : Int) inn rows (yL old ts.length x) (x : Int)) R
  | 0, x, rows, hd, hx, hs, hf => by
    have h8 := hv.le
    obtain rfl : x = ts.length := by omega
    refine ⟨rows, hs, hf, fun R h => Aa.step (fun K k => ?_) h⟩
    rw [Ae.l1, if_neg (by omega), Bz.f, Option.bind_some, hs.len]
  | d + 1, x, rows, hd, hx, hs, hf => by
    have h8 := hv.le
    have hk := Ju old x
    have hsl := hs.len
    have hlt : x < ts.length := by omega
    have hr := hv.four x hlt
    by_cases hin : x ∈ old
    · obtain ⟨rows', k1, k2, k3⟩ := fE d (x + 1) rows (by omega) (by omega) (by rw [kept, if_pos hin]; exact hs) (fun y c hy hyo hc => hf y c (by
        by_cases e : y = x
        · subst e; exact (hyo hin).elim
        · omega) hyo hc)
      refine ⟨rows', k1, k2, fun R h => ?_⟩
      have := k3 R h
      rw [jH hin] at this
      refine Aa.succ ?_
      simp only [Ae.l1]
      refine Aa.pos (by omega) (Aa.pos (by omega) (Aa.bind (Po (by omega) x).two (Aa.pos (decide_eq_true hin) ?_)))
      rw [Ba (by omega)]; exact this
    · obtain ⟨rows', k1, k2, k3⟩ := fE d (x + 1) (rows ++ [ts.getD x []]) (by omega) (by omega) (by rw [kept, if_neg hin]; exact hs.app hr) (fun y c hy hyo hc => by
        rw [L6, hsl]
        by_cases e : y = x
        · subst e
          rw [if_neg (by omega), if_pos rfl]; rfl
        · rw [if_pos (Kg (by omega) hyo)]; exact hf y c (by omega) hyo hc)
      refine ⟨rows', k1, k2, fun R h => ?_⟩
      have := k3 R h
      rw [pU hlt hin] at this
      refine Aa.succ ?_
      simp only [Ae.l1, Int.toNat_natCast, Y6 hr, Bz.f, Option.bind_some, hsl]
      refine Aa.pos (by omega) (Aa.pos (by omega) (Aa.bind (Po (by omega) x).two (Aa.neg (by rw [decide_eq_true_eq]; exact hin) ?_)))
      refine Aa.pos (by rw [M7]; omega) (Aa.pos (by omega) ?_)
      rw [Ba (by omega)]; exact this
theorem Zh : ∀ (d i : Nat) (rows : List (List Ab)), nf - i = d → i ≤ nf → Shape rows (kept old ts.length + i) → (∀ y c, y < ts.length → y ∉ old → c < 4 → Bv rows (kept old y) c = Bv ts y c) → (∀ j c, j < i → c < 4 → Bv rows (kept old ts.length + j) c = ⟨-1, 0⟩) →
    ∃ rows', Shape rows' (kept old ts.length + nf) ∧ (∀ y c, y < ts.length → y ∉ old → c < 4 → Bv rows' (kept old y) c = Bv ts y c) ∧ (∀ j c, j < nf → c < 4 → Bv rows' (kept old ts.length + j) c = ⟨-1, 0⟩) ∧ ∀ R, Aa (fun K k => Ae.Sw K k ts (ints old) m (nf : Int) inn (yL old ts.length ts.length) (kept old ts.length : Int) (ts.length : Int) rows' 0) R →
      Aa (fun K k => Ae.Vd K k ts (ints old) m (nf : Int) inn (yL old ts.length ts.length) (kept old ts.length : Int) rows (i : Int)) R
  | 0, i, rows, hd, hi, hs, hf, hfn => by
    obtain rfl : i = nf := by omega
    refine ⟨rows, hs, hf, hfn, fun R h => Aa.step (fun K k => ?_) h⟩
    rw [Ae.Vd, if_neg (by omega), Bz.f, Option.bind_some]
  | d + 1, i, rows, hd, hi, hs, hf, hfn => by
    have h8 := hv.le
    have hkn := Ju old ts.length
    have hsl := hs.len
    obtain ⟨rows', k1, k2, k3, k4⟩ := Zh d (i + 1) (rows ++ [Iq]) (by omega) (by omega) (hs.app rfl) (fun y c hy hyo hc => by
      have := Kg hy hyo
      rw [L6, hsl, if_pos (by omega)]; exact hf y c hy hyo hc) (fun j c hj hc => by
      rw [L6, hsl]
      by_cases e : j = i
      · subst e
        rw [if_neg (by omega), if_pos rfl]; exact Nq hc
      · rw [if_pos (by omega)]; exact hfn j c (by omega) hc)
    refine ⟨rows', k1, k2, k3, fun R h => ?_⟩
    have := k4 R h
    refine Aa.succ ?_
    simp only [Ae.Vd]
    refine Aa.pos (by omega) (Aa.bind (pG hs (by omega)).two ?_)
    rw [Ba (by omega)]; exact this
end
end Go.Proofs.YtbjfinndngafoaaGreat
