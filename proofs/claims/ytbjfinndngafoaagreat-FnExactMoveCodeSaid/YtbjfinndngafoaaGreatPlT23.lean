/-
  Triangulations: the move 3-2 in both.
-/
import Derived.Test.YtbjfinndngafoaaGreatPlT22
set_option linter.unusedVariables false
set_option linter.unusedSimpArgs false
set_option linter.unusedSectionVars false
namespace Go.Proofs.YtbjfinndngafoaaGreat
open Go.RowKit
theorem least_of {P : Nat → Prop} : ∀ n, P n → ∃ m, m ≤ n ∧ P m ∧ ∀ j, j < m → ¬ P j := by
  intro n
  induction n using Nat.strongRecOn with
  | _ n ih =>
    intro hn
    by_cases h : ∃ j, j < n ∧ P j
    · obtain ⟨j, h1, h2⟩ := h
      obtain ⟨m, a, b⟩ := ih j h1 h2
      exact ⟨m, by omega, b⟩
    · exact ⟨n, Nat.le_refl _, hn, fun j h1 h2 => h ⟨j, h1, h2⟩⟩
def after32 (K : Nat) (t41 : List GFace) : Option (Option (List Int × List (Arr2 × GPlace) × Int × List Arr4)) := (if (t41.length : Int) = 3 then (if 0 ≤ (0 : Int) ∧ (0 : Int) < (t41.length : Int) then (bnd (t41.getD 0 z_GFace) (fun e62 => if 0 ≤ (1 : Int) ∧ (1 : Int) < (t41.length : Int) then (bnd (t41.getD 1 z_GFace) (fun e66 => if e62.Tet = e66.Tet then (some none) else (if 0 ≤ (2 : Int) ∧ (2 : Int) < (t41.length : Int) then (bnd (t41.getD 2 z_GFace) (fun e70 => if e66.Tet = e70.Tet then (some none) else (if e70.Tet = e62.Tet then (some none) else (Go.Proofs.YtbjfinndngafoaaGreat.bind4 (impl_newChange.f 2 ([e62.Tet, e66.Tet, e70.Tet] : List Int)) (fun t79 t80 t81 t82 => (impl_Triangulation_change32.l1 K K t41 t79 t81 t82 t80 0)))))) else none))) else none)) else none) else (some none))
theorem a32_no {ring : List GFace} (h : ring.length ≠ 3 ∨ (ring.length = 3 ∧ ((ring.getD 0 z_GFace).Tet = (ring.getD 1 z_GFace).Tet ∨ (ring.getD 1 z_GFace).Tet = (ring.getD 2 z_GFace).Tet ∨ (ring.getD 0 z_GFace).Tet = (ring.getD 2 z_GFace).Tet))) : Tends (fun K => after32 K ring) none := by
  unfold after32
  by_cases hl : ring.length = 3
  rotate_left
  · exact Tends.neg (by omega) (Tends.const _)
  refine Tends.pos (by omega) (Tends.pos (by omega) ?_)
  simp only [bnd_eq]
  refine Tends.pos (by omega) ?_
  by_cases e1 : (ring.getD 0 z_GFace).Tet = (ring.getD 1 z_GFace).Tet
  · exact Tends.pos e1 (Tends.const _)
  refine Tends.neg e1 (Tends.pos (by omega) ?_)
  by_cases e2 : (ring.getD 1 z_GFace).Tet = (ring.getD 2 z_GFace).Tet
  · exact Tends.pos e2 (Tends.const _)
  refine Tends.neg e2 ?_
  by_cases e3 : (ring.getD 2 z_GFace).Tet = (ring.getD 0 z_GFace).Tet
  · exact Tends.pos e3 (Tends.const _)
  · rcases h with h | ⟨_, h | h | h⟩
    · exact absurd hl h
    · exact absurd h e1
    · exact absurd h e2
    · exact absurd h.symm e3
theorem a32_yes {c0 c1 c2 : Nat × Nat} (h0 : c0.2 < 24) (h1 : c1.2 < 24) (h2 : c2.2 < 24) (e1 : c0.1 ≠ c1.1) (e2 : c1.1 ≠ c2.1) (e3 : c0.1 ≠ c2.1) : Tends (fun K => after32 K [crn c0, crn c1, crn c2]) (some ([(c0.1 : Int), (c1.1 : Int), (c2.1 : Int)], (O32 c0 c1 c2).foldl putO [], 2, in32)) := by
  unfold after32
  refine Tends.pos (by show ((3 : Nat) : Int) = 3; omega) (Tends.pos (by show 0 ≤ (0 : Int) ∧ (0 : Int) < ((3 : Nat) : Int); omega) ?_)
  simp only [bnd_eq]
  refine Tends.pos (by show 0 ≤ (1 : Int) ∧ (1 : Int) < ((3 : Nat) : Int); omega) ?_
  refine Tends.neg (by show ¬ ((c0.1 : Int) = (c1.1 : Int)); omega) ?_
  refine Tends.pos (by show 0 ≤ (2 : Int) ∧ (2 : Int) < ((3 : Nat) : Int); omega) ?_
  refine Tends.neg (by show ¬ ((c1.1 : Int) = (c2.1 : Int)); omega) ?_
  refine Tends.neg (by show ¬ ((c2.1 : Int) = (c0.1 : Int)); omega) ?_
  exact Tends.bind4 (a := [(c0.1 : Int), (c1.1 : Int), (c2.1 : Int)]) (b := []) (c := 2) (d := []) (Tends.const _) (i32_all h0 h1 h2 _ _)
section
variable {ts : List (List GFace)} (hv : Val ts) (hT : Tends (fun K => spec_IsTriangulation.f K ts) true)
include hv hT
theorem c32_t {a e : Nat} (ha : a < ts.length) (he : e < 6) :
    (Tends (fun K => impl_Triangulation_change32.f K ts (a : Int) (e : Int)) none ∧ Tends (fun K => spec_l12Plan32.f K ts (a : Int) (e : Int)) ([], [], [], false)) ∨
    (∃ c0 c1 c2 : Nat × Nat, (c0.1 < ts.length ∧ c0.2 < 24) ∧ (c1.1 < ts.length ∧ c1.2 < 24) ∧ (c2.1 < ts.length ∧ c2.2 < 24) ∧ nx ts c0 = some c1 ∧ nx ts c1 = some c2 ∧ nx ts c2 = some c0 ∧ c0.1 ≠ c1.1 ∧ c1.1 ≠ c2.1 ∧ c0.1 ≠ c2.1 ∧
      Tends (fun K => impl_Triangulation_change32.f K ts (a : Int) (e : Int)) (some ([(c0.1 : Int), (c1.1 : Int), (c2.1 : Int)], (O32 c0 c1 c2).foldl putO [], 2, in32)) ∧
      Tends (fun K => spec_l12Plan32.f K ts (a : Int) (e : Int)) ([(c0.1 : Int), (c1.1 : Int), (c2.1 : Int)], fr32, O32 c0 c1 c2, true)) := by
  have h8 := hv.le
  obtain ⟨vs, ys, fs, h1, hPL, h3, hcnt⟩ := count_t hv
  have hP := hPL.1
  obtain ⟨s', hP', hc'⟩ := edgeClasses_t hv
  have hc : Tends (fun K => impl_Triangulation_edgeClasses.f K ts) (CN (6 * ts.length) ys) := by rw [CN_same (hP.same hP')]; exact hc'
  obtain ⟨Sg, hS, hz, hs, hss⟩ := signs_t hv hP
  obtain ⟨o1, r1, r2, r3⟩ := reversed_t hv hP hc hS hz (hs hc)
  obtain ⟨o2, b1, b2, b3⟩ := boundary_t hv hP hc
  obtain ⟨V, E, F, g1, g2, g3⟩ := bc_t hv hT hcnt
  have hj : 6 * a + e < 6 * ts.length := mul_lt ha he
  obtain ⟨cr1, cr2, cr3⟩ := cn_range (s := ys) (N := 6 * ts.length) (by omega) hj
  obtain ⟨c, hcj⟩ : ∃ c : Nat, (CN (6 * ts.length) ys).getD (6 * a + e) 0 = (c : Int) := ⟨((CN (6 * ts.length) ys).getD (6 * a + e) 0).toNat, by omega⟩
  have r3 := r3 _ hj
  have g3 := g3 _ hj
  have front := fun {R} => s32_l1 (C := CN (6 * ts.length) ys) hv ha he (R := R)
  rw [hcj] at r3 g3 cr2 front
  rw [Int.toNat_natCast] at r3
  have w : w64 ((w64 (6 * (a : Int))) + (e : Int)) = ((6 * a + e : Nat) : Int) := w6 (c := 6) (by omega) (by omega) (by omega)
  have I : ∀ r, Tends (fun K => if (o1.getD c false) = true then (some none) else ((impl_Triangulation_boundaryEdges.f K ts).bind fun t33 => (if 0 ≤ (c : Int) ∧ (c : Int) < (t33.length : Int) then (if (t33.getD c false) = true then (some none) else ((impl_Triangulation_ring.f K ts (c : Int)).bind fun t41 => after32 K t41)) else none))) r → Tends (fun K => impl_Triangulation_change32.f K ts (a : Int) (e : Int)) r := fun r h => by
    refine Tends.bind hc ?_
    simp only [w, Int.toNat_natCast, hcj]
    refine Tends.pos (by rw [CN_len]; omega) ?_
    refine Tends.bind r1 (Tends.pos (by omega) h)
  have S : ∀ R, Tends2 (fun K k => spec_l12Plan32.l1 K k ts (a : Int) (e : Int) (rowsOf (CN (6 * ts.length) ys) 6 ts.length) (cnt (CN (6 * ts.length) ys) (c : Int) (6 * ts.length) : Int) (ts.length : Int)) R → Tends (fun K => spec_l12Plan32.f K ts (a : Int) (e : Int)) R := fun R h => by
    refine Tends.bind4 hcnt ?_
    refine Tends.pos (by rw [rowsOf_len]; omega) ?_
    simp only [Int.toNat_natCast, rowsOf_get ha]
    refine Tends.pos (by rw [rowAt_len]; omega) ?_
    exact (front h ts.length 0 rfl (by omega)).diag
  have En := fun {x : Nat} {R} => s32_end (C := CN (6 * ts.length) ys) hv ha he g1 g2 hss (x := x) (R := R)
  rw [hcj] at En
  by_cases hsg : Sg.getD (6 * a + e) 0 = 0
  · refine .inl ⟨I _ (Tends.pos (by rw [r3]; exact decide_eq_true hsg) (Tends.const _)), S _ (En (fun _ => rfl) (fun _ _ => rfl) (fun _ _ _ => rfl) (fun _ h => absurd hsg h))⟩
  have I1 : ∀ r, Tends (fun K => if (o2.getD c false) = true then (some none) else ((impl_Triangulation_ring.f K ts (c : Int)).bind fun t41 => after32 K t41)) r → Tends (fun K => impl_Triangulation_change32.f K ts (a : Int) (e : Int)) r := fun r h => I r (Tends.neg (by rw [r3, decide_eq_true_eq]; exact hsg) (Tends.bind b1 (Tends.pos (by omega) h)))
  by_cases hbd : o2.getD c false = true
  · have hE : (c : Int) ∈ E := g3.2 ((b3 c).1 hbd)
    exact .inl ⟨I1 _ (Tends.pos hbd (Tends.const _)), S _ (En (fun _ => rfl) (fun _ _ => rfl) (fun _ _ _ => rfl) (fun _ _ h => absurd hE h))⟩
  have hbf : o2.getD c false = false := Bool.eq_false_iff.2 hbd
  have hE : ¬ (c : Int) ∈ E := fun h => hbd ((b3 c).2 (g3.1 h))
  obtain ⟨j0, j1, j2, j3⟩ := least_of (P := fun j => (CN (6 * ts.length) ys).getD j 0 = (c : Int)) _ hcj
  have hj0 : j0 < 6 * ts.length := by omega
  obtain ⟨hI, st1, st2⟩ := start_both hv hP hc hcnt b1 b2 b3 hj0 j2 j3 hbf
  obtain ⟨s1, s2, s3, s4⟩ := ST_of (show j0 % 6 < 6 by omega)
  have hC : Cor ts (CN (6 * ts.length) ys) (c : Int) (j0 / 6, ST (j0 % 6)) := ⟨by show j0 / 6 < ts.length; omega, s1, by
    show (CN (6 * ts.length) ys).getD (6 * (j0 / 6) + EE (PA (ST (j0 % 6)) 0) (PA (ST (j0 % 6)) 1)) 0 = _
    rw [s4, show 6 * (j0 / 6) + j0 % 6 = j0 by omega]; exact j2⟩
  obtain ⟨m, m1, m2, m3, m4⟩ := orbit hv hP hI hC
  have R1 : Tends (fun K => impl_Triangulation_ring.f K ts (c : Int)) (crns ts (j0 / 6, ST (j0 % 6)) m) := Tends.bind2 st1 (ring_i hv hP hI hC m2 m3 m4 _ 0 rfl (by omega)).diag
  have R2 : Tends (fun K => spec_l08Ring.f K ts (c : Int)) (crns ts (j0 / 6, ST (j0 % 6)) m) := Tends.bind2 st2 (ring_s hv hP hI hC m2 m3 m4 _ 0 rfl (by omega)).diag
  have I2 : ∀ r, Tends (fun K => after32 K (crns ts (j0 / 6, ST (j0 % 6)) m)) r → Tends (fun K => impl_Triangulation_change32.f K ts (a : Int) (e : Int)) r := fun r h => I1 r (Tends.neg (by rw [hbf]; decide) (Tends.bind R1 h))
  by_cases hno : (crns ts (j0 / 6, ST (j0 % 6)) m).length ≠ 3 ∨ ((crns ts (j0 / 6, ST (j0 % 6)) m).length = 3 ∧ (((crns ts (j0 / 6, ST (j0 % 6)) m).getD 0 z_GFace).Tet = ((crns ts (j0 / 6, ST (j0 % 6)) m).getD 1 z_GFace).Tet ∨ ((crns ts (j0 / 6, ST (j0 % 6)) m).getD 1 z_GFace).Tet = ((crns ts (j0 / 6, ST (j0 % 6)) m).getD 2 z_GFace).Tet ∨ ((crns ts (j0 / 6, ST (j0 % 6)) m).getD 0 z_GFace).Tet = ((crns ts (j0 / 6, ST (j0 % 6)) m).getD 2 z_GFace).Tet))
  · refine .inl ⟨I2 _ (a32_no hno), S _ (En (fun _ => rfl) (fun _ _ => rfl) (fun _ _ _ => rfl) (fun _ _ _ => ⟨_, R2, fun _ => rfl, fun _ _ => rfl, fun q1 q2 q3 q4 => ?_⟩))⟩
    rcases hno with h | ⟨_, h | h | h⟩
    · exact absurd q1 h
    · exact absurd h q2
    · exact absurd h q3
    · exact absurd h q4
  · have hm : m = 3 := by
      have : ¬ (crns ts (j0 / 6, ST (j0 % 6)) m).length ≠ 3 := fun h => hno (.inl h)
      rw [crns_len] at this; omega
    subst hm
    have hl3 : crns ts (j0 / 6, ST (j0 % 6)) 3 = [crn (it ts (j0 / 6, ST (j0 % 6)) 0), crn (it ts (j0 / 6, ST (j0 % 6)) 1), crn (it ts (j0 / 6, ST (j0 % 6)) 2)] := rfl
    have k0 := it_cor hv hP hI hC 0
    have k1 := it_cor hv hP hI hC 1
    have k2 := it_cor hv hP hI hC 2
    have n0 := (it_nx hv hP hI hC 0).1
    have n1 := (it_nx hv hP hI hC 1).1
    have n2 := (it_nx hv hP hI hC 2).1
    have all : ∀ j, j < 6 * ts.length → ((CN (6 * ts.length) ys).getD j 0 = (c : Int) ↔ j = eo (it ts (j0 / 6, ST (j0 % 6)) 0) ∨ j = eo (it ts (j0 / 6, ST (j0 % 6)) 1) ∨ j = eo (it ts (j0 / 6, ST (j0 % 6)) 2)) := fun j hj => by
      rw [ring_all hv hP hI hC m1 m3 hj]
      constructor
      · rintro ⟨k, hk, e⟩
        rcases (by omega : k = 0 ∨ k = 1 ∨ k = 2) with rfl | rfl | rfl
        · exact .inl e
        · exact .inr (.inl e)
        · exact .inr (.inr e)
      · rintro (e | e | e)
        · exact ⟨0, by omega, e⟩
        · exact ⟨1, by omega, e⟩
        · exact ⟨2, by omega, e⟩
    have hlen : (crns ts (j0 / 6, ST (j0 % 6)) 3).length = 3 := crns_len _ _ _
    rw [hl3] at hno I2 R2 hlen
    have n2 : nx ts (it ts (j0 / 6, ST (j0 % 6)) 2) = some (it ts (j0 / 6, ST (j0 % 6)) 0) := n2.trans (congrArg some m3)
    generalize it ts (j0 / 6, ST (j0 % 6)) 0 = c0 at *
    generalize it ts (j0 / 6, ST (j0 % 6)) 1 = c1 at *
    generalize it ts (j0 / 6, ST (j0 % 6)) 2 = c2 at *
    have d1 : c0.1 ≠ c1.1 := fun h => hno (.inr ⟨hlen, .inl (by show (c0.1 : Int) = (c1.1 : Int); omega)⟩)
    have d2 : c1.1 ≠ c2.1 := fun h => hno (.inr ⟨hlen, .inr (.inl (by show (c1.1 : Int) = (c2.1 : Int); omega))⟩)
    have d3 : c0.1 ≠ c2.1 := fun h => hno (.inr ⟨hlen, .inr (.inr (by show (c0.1 : Int) = (c2.1 : Int); omega))⟩)
    refine .inr ⟨c0, c1, c2, ⟨k0.tet, k0.perm⟩, ⟨k1.tet, k1.perm⟩, ⟨k2.tet, k2.perm⟩, n0, n1, n2, d1, d2, d3, I2 _ (a32_yes k0.perm k1.perm k2.perm d1 d2 d3), S _ ?_⟩
    have f0 := eo_of k0.perm
    have f1 := eo_of k1.perm
    have f2 := eo_of k2.perm
    have lt : ∀ {x : Nat × Nat}, Cor ts (CN (6 * ts.length) ys) (c : Int) x → eo x < 6 * ts.length := fun h => mul_lt h.tet (eo_of h.perm).2.2.2.1
    have h3 : cnt (CN (6 * ts.length) ys) (c : Int) (6 * ts.length) = 3 := cnt_three (by omega) (by omega) (by omega) (lt k0) (lt k1) (lt k2) all
    refine En (fun h => absurd h3 h) (fun _ h => absurd h hsg) (fun _ _ h => absurd h hE) (fun _ _ _ => ⟨_, R2, fun h => absurd rfl h, fun _ q => ?_, fun _ _ _ _ => s32_all k0.perm k1.perm k2.perm⟩)
    exact (hno (.inr ⟨rfl, q⟩)).elim
end
end Go.Proofs.YtbjfinndngafoaaGreat
