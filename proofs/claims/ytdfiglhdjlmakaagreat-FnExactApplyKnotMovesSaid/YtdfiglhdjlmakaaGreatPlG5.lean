/-
  RemoveKink: both answers are the same, whatever the diagram and the crossing.
-/
import Derived.Test.YtdfiglhdjlmakaaGreatPlG4
import Derived.Test.YtdfiglhdjlmakaaGreatPlZ3
set_option linter.unusedVariables false
set_option linter.unusedSimpArgs false
set_option linter.unusedSectionVars false
namespace Go.Proofs.YtdfiglhdjlmakaaGreat
open Go.RowKit
theorem nodup4 {A B C D : Int} (h1 : A ≠ C) (h2 : B ≠ D) : ([A, B, C, D] : List Int).Nodup ↔ (A ≠ B ∧ B ≠ C ∧ C ≠ D ∧ D ≠ A) := by
  simp only [List.nodup_cons, List.mem_cons, List.not_mem_nil, or_false, not_or, List.nodup_nil, and_true, not_false_eq_true]
  constructor
  · rintro ⟨⟨a, b, c⟩, ⟨d, e⟩, f⟩
    exact ⟨a, d, f, fun h => c h.symm⟩
  · rintro ⟨a, b, c, d⟩
    exact ⟨⟨a, h1, fun h => d h.symm⟩, ⟨b, h2⟩, c⟩
theorem RemoveKink_both (xs : List GCrossing) (hx : xs.length ≤ 1048576) (cs c : Int) : ∃ ys c' e', List.length ys ≤ xs.length + 2 ∧ Tends (fun K => spec_RemoveKink.f K xs cs c) (ys, c', e') ∧ Tends (fun K => impl_RemoveKink.f K xs cs c) (ys, c', e') := by
  unfold spec_RemoveKink.f impl_RemoveKink.f
  rw [in_cross _ _ (by omega), has_cross _ _ (by omega)]
  rcases drawings xs (by omega) cs with ⟨h1, h2⟩ | ⟨hn, hs, f, t, hg, h1, h2⟩
  · exact ⟨[], 0, 1, by simp, Tends.bind h1 (Tends.neg (by decide) (Tends.const _)), Tends.bind3 h2 (Tends.neg (by decide) (Tends.const _))⟩
  by_cases hc : 0 ≤ c ∧ c < (xs.length : Int)
  rotate_left
  · rw [decide_eq_false hc]
    exact ⟨[], 0, 4, by simp, Tends.bind h1 (Tends.pos rfl (Tends.some_ (Tends.neg (by decide) (Tends.const _)))), Tends.bind3 h2 (Tends.pos rfl (Tends.some_ (Tends.neg (by decide) (Tends.const _))))⟩
  rw [decide_eq_true hc]
  obtain ⟨ci, rfl⟩ : ∃ k : Nat, c = (k : Int) := ⟨c.toNat, by omega⟩
  have hci : ci < xs.length := by omega
  have hw : ((xs.length : Int)).toNat = xs.length := Int.toNat_natCast _
  simp only [bnd_eq, Int.toNat_natCast]
  have ho0 := opp_ne hn hs hg h1 hci (p := 0) (by decide)
  have ho1 := opp_ne hn hs hg h1 hci (p := 1) (by decide)
  rw [arcAt_cp xs (by decide), show 4 * ci + 0 + 2 = 4 * ci + 2 by omega, arcAt_cp xs (by decide)] at ho0
  rw [arcAt_cp xs (by decide), show 4 * ci + 1 + 2 = 4 * ci + 3 by omega, arcAt_cp xs (by decide)] at ho1
  have hk := kink_f (xs.getD ci z_GCrossing).A (xs.getD ci z_GCrossing).B (xs.getD ci z_GCrossing).C (xs.getD ci z_GCrossing).D (xs.getD ci z_GCrossing).Sign
  have hA : (xs.getD ci z_GCrossing).A ≠ (xs.getD ci z_GCrossing).C := ho0
  have hB : (xs.getD ci z_GCrossing).B ≠ (xs.getD ci z_GCrossing).D := ho1
  have hnd := nodup4 hA hB
  generalize xs.getD ci z_GCrossing = e at *
  -- the reference's first steps
  have hspec : ∀ {F : List GCrossing × Int × Int} (b : Bool), b = decide (e.A ≠ e.B ∧ e.B ≠ e.C ∧ e.C ≠ e.D ∧ e.D ≠ e.A) → Tends (fun K => spec_RemoveKink.j1 K K xs cs (ci : Int) b) F →
      Tends (fun K => if e.A = e.B then spec_RemoveKink.j1 K K xs cs (ci : Int) false else (if e.B = e.C then spec_RemoveKink.j1 K K xs cs (ci : Int) false else (if e.C = e.D then spec_RemoveKink.j1 K K xs cs (ci : Int) false else (spec_RemoveKink.j1 K K xs cs (ci : Int) (!(decide (e.D = e.A))))))) F := fun b hb h => by
    by_cases a1 : e.A = e.B
    · rw [decide_eq_false (fun x => x.1 a1)] at hb
      subst hb
      exact Tends.pos a1 h
    by_cases a2 : e.B = e.C
    · rw [decide_eq_false (fun x => x.2.1 a2)] at hb
      subst hb
      exact Tends.neg a1 (Tends.pos a2 h)
    by_cases a3 : e.C = e.D
    · rw [decide_eq_false (fun x => x.2.2.1 a3)] at hb
      subst hb
      exact Tends.neg a1 (Tends.neg a2 (Tends.pos a3 h))
    have : b = !(decide (e.D = e.A)) := by
      rw [hb]
      by_cases a4 : e.D = e.A
      · rw [decide_eq_true a4, decide_eq_false (fun x => x.2.2.2 a4)]; rfl
      · rw [decide_eq_false a4, decide_eq_true ⟨a1, a2, a3, a4⟩]; rfl
    rw [← this]
    exact Tends.neg a1 (Tends.neg a2 (Tends.neg a3 h))
  by_cases hnk : e.A ≠ e.B ∧ e.B ≠ e.C ∧ e.C ≠ e.D ∧ e.D ≠ e.A
  · have hno : ¬ ¬ ([e.A, e.B, e.C, e.D] : List Int).Nodup := fun h => h (hnd.2 hnk)
    rw [decide_eq_false hno] at hk
    refine ⟨[], 0, 5, by simp, Tends.bind h1 (Tends.pos rfl (Tends.some_ (Tends.pos rfl (Tends.pos hc (hspec true (decide_eq_true hnk).symm ?_))))), Tends.bind3 h2 (Tends.pos rfl (Tends.some_ (Tends.pos rfl (Tends.pos hc (Tends.bind hk (Tends.neg (by decide) (Tends.const _)))))))⟩
    have hj : Tends2 (fun K k => spec_RemoveKink.j1 K k xs cs (ci : Int) true) (([] : List GCrossing), (0 : Int), (5 : Int)) := Tends2.succ (Tends2.congr (fun K k => by rw [spec_RemoveKink.j1, if_pos rfl]) (Tends2.const _))
    exact hj.diag
  · have hyes : ¬ ([e.A, e.B, e.C, e.D] : List Int).Nodup := fun h => hnk (hnd.1 h)
    rw [decide_eq_true hyes] at hk
    obtain ⟨o, hoo⟩ : ∃ o : List Bool, o = (List.replicate xs.length false).set ci true := ⟨_, rfl⟩
    have ho : o.length = xs.length := by rw [hoo]; simp
    have hcr : ∀ k, k < xs.length → Tends (fun K => slices_Contains_int64_int64.f K [(ci : Int)] (k : Int)) (o.getD k false) := fun k hk => by
      have h := contains_int (cr := [(ci : Int)]) (by simp) (k : Int)
      have e1 : o.getD k false = decide ((k : Int) ∈ [(ci : Int)]) := by
        rw [hoo, getD_setB (by simp; omega), getD_repB]
        by_cases a2 : k = ci
        · rw [if_pos a2, decide_eq_true (by rw [a2]; simp)]
        · rw [if_neg a2, decide_eq_false (by simp only [List.mem_cons, List.not_mem_nil, or_false]; omega)]
      rw [e1]
      exact h
    obtain ⟨ys, c', hl, hw1, hw2⟩ := removed hn hs hg o hcr ho cs
    obtain ⟨z, hz⟩ : ∃ z, z = limited ys c' := ⟨_, rfl⟩
    have hzl : z.1.length ≤ xs.length := by rw [hz]; exact limited_len hl
    rw [← hz] at hw2
    refine ⟨z.1, z.2.1, z.2.2, by omega, Tends.bind h1 (Tends.pos rfl (Tends.some_ (Tends.pos rfl (Tends.pos hc (hspec false (decide_eq_false hnk).symm ?_))))), Tends.bind3 h2 (Tends.pos rfl (Tends.some_ (Tends.pos rfl (Tends.pos hc (Tends.bind hk (Tends.pos rfl (Tends.bind2 hw1 ?_)))))))⟩
    · have hj : Tends2 (fun K k => spec_RemoveKink.j1 K k xs cs (ci : Int) false) (z.1, z.2.1, z.2.2) := by
        refine Tends2.succ (Tends2.congr (G := fun K k => bind3 (spec_l27Remove.f K xs cs o) fun t36 t37 t38 => some (t36, t37, t38)) (fun K k => ?_) (Tends.two (Tends.bind3 hw2 (Tends.const _))))
        rw [spec_RemoveKink.j1, if_neg (by decide), hw, if_pos (by omega), if_pos (by omega), if_pos (by rw [List.length_replicate]; omega), Int.toNat_natCast, ← hoo]
      exact hj.diag
    · rw [limited_impl, ← hz]
      exact Tends.bind3 (a := z.1) (b := z.2.1) (c := z.2.2) (Tends.const _) (Tends.const _)
end Go.Proofs.YtdfiglhdjlmakaaGreat
