/-
  AddKink: both answers agree.
-/
import Derived.Test.YtdfiglhdjlmakaaGreatPlV
set_option linter.unusedVariables false
set_option linter.unusedSimpArgs false
set_option linter.unusedSectionVars false
namespace Go.Proofs.YtdfiglhdjlmakaaGreat
open Go.RowKit
theorem AddKink_both (xs : List GCrossing) (hx : xs.length ≤ 1048576) (cs a v : Int) : ∃ ys c' e, List.length ys ≤ xs.length + 2 ∧ Tends (fun K => spec_AddKink.f K xs cs a v) (ys, c', e) ∧ Tends (fun K => impl_AddKink.f K xs cs a v) (ys, c', e) := by
  unfold spec_AddKink.f impl_AddKink.f
  rcases drawings xs (by omega) cs with ⟨h1, h2⟩ | ⟨hn, hs, f, t, hg, h1, h2⟩
  · exact ⟨[], 0, 1, by simp, Tends.bind h1 (Tends.neg (by decide) (Tends.const _)), Tends.bind3 h2 (Tends.neg (by decide) (Tends.const _))⟩
  have htl : (t.length : Int) = 2 * (xs.length : Int) := by rw [hg.tlen]; omega
  have hh : ∀ l, l = t → impl_hasIndex_impl_end.f l a = some (decide (0 ≤ a ∧ a < 2 * (xs.length : Int))) := fun l hl => by rw [hl, has_eq _ _ (by rw [hg.tlen]; omega), htl]
  rw [in_eq _ _ (by omega), range_eq, In_eq]
  by_cases ha : 0 ≤ a ∧ a < 2 * (xs.length : Int)
  rotate_left
  · refine ⟨[], 0, 4, by simp, Tends.bind h1 (Tends.pos rfl (Tends.bind (a := false) ?_ (Tends.neg (by decide) (Tends.const _)))), Tends.bind3 h2 (Tends.pos rfl (Tends.bind (a := false) ?_ (Tends.neg (by decide) (Tends.const _))))⟩
    · rw [decide_eq_false ha]; exact Tends.const _
    · rw [hh t rfl, decide_eq_false ha]; exact Tends.const _
  by_cases hv : 0 ≤ v ∧ v ≤ 3
  rotate_left
  · refine ⟨[], 0, 2, by simp, Tends.bind h1 (Tends.pos rfl (Tends.bind (a := true) ?_ (Tends.pos rfl (Tends.bind (a := false) ?_ (Tends.neg (by decide) (Tends.const _)))))), Tends.bind3 h2 (Tends.pos rfl (Tends.bind (a := true) ?_ (Tends.pos rfl (Tends.bind (a := false) ?_ (Tends.neg (by decide) (Tends.const _))))))⟩
    · rw [decide_eq_true ha]; exact Tends.const _
    · rw [decide_eq_false hv]; exact Tends.const _
    · rw [hh t rfl, decide_eq_true ha]; exact Tends.const _
    · rw [decide_eq_false hv]; exact Tends.const _
  by_cases h10 : (xs.length : Int) = 10
  · refine ⟨[], 0, 3, by simp, Tends.bind h1 (Tends.pos rfl (Tends.bind (a := true) ?_ (Tends.pos rfl (Tends.bind (a := true) ?_ (Tends.pos rfl (Tends.pos h10 (Tends.const _))))))), Tends.bind3 h2 (Tends.pos rfl (Tends.bind (a := true) ?_ (Tends.pos rfl (Tends.bind (a := true) ?_ (Tends.pos rfl (Tends.pos h10 (Tends.const _)))))))⟩
    · rw [decide_eq_true ha]; exact Tends.const _
    · rw [decide_eq_true hv]; exact Tends.const _
    · rw [hh t rfl, decide_eq_true ha]; exact Tends.const _
    · rw [decide_eq_true hv]; exact Tends.const _
  obtain ⟨i, rfl⟩ : ∃ i : Nat, a = (i : Int) := ⟨a.toNat, by omega⟩
  have hi : i < 2 * xs.length := by omega
  obtain ⟨q, hq, hb, he⟩ := hg.tall i hi
  have hpl := hg.place hn hs hq he hb cs
  obtain ⟨_, _, hte⟩ := hg.tin q hq hb
  rw [he, Int.toNat_natCast] at hte
  have hc : q / 4 < xs.length := by omega
  have hp : q % 4 < 4 := Nat.mod_lt _ (by decide)
  have hw2 : w64 (2 * (xs.length : Int)) = 2 * (xs.length : Int) := w64_id (by omega) (by omega)
  obtain ⟨ys, hys⟩ : ∃ ys, ys = xs.set (q / 4) (withArc (xs.getD (q / 4) z_GCrossing) (q % 4) (w64 (2 * (xs.length : Int) + 1))) := ⟨_, rfl⟩
  have hyl : ys.length = xs.length := by rw [hys, List.length_set]
  have main : ∀ (k : GCrossing), ([(⟨(i : Int), w64 (2 * (xs.length : Int) + 1), 2 * (xs.length : Int), 2 * (xs.length : Int), 1⟩ : GCrossing), ⟨(i : Int), 2 * (xs.length : Int), 2 * (xs.length : Int), w64 (2 * (xs.length : Int) + 1), -1⟩, ⟨2 * (xs.length : Int), 2 * (xs.length : Int), w64 (2 * (xs.length : Int) + 1), (i : Int), 1⟩, ⟨2 * (xs.length : Int), (i : Int), w64 (2 * (xs.length : Int) + 1), 2 * (xs.length : Int), -1⟩] : List GCrossing).getD v.toNat z_GCrossing = k →
      (Tends (fun _ => if v = 0 then (if (ys.length + 1) * 40 ≤ 140737488355328 then some (ys ++ [(⟨(i : Int), w64 (2 * (xs.length : Int) + 1), 2 * (xs.length : Int), 2 * (xs.length : Int), 1⟩ : GCrossing)], cs, 0) else none) else if v = 1 then (if (ys.length + 1) * 40 ≤ 140737488355328 then some (ys ++ [(⟨(i : Int), 2 * (xs.length : Int), 2 * (xs.length : Int), w64 (2 * (xs.length : Int) + 1), -1⟩ : GCrossing)], cs, 0) else none) else if v = 2 then (if (ys.length + 1) * 40 ≤ 140737488355328 then some (ys ++ [(⟨2 * (xs.length : Int), 2 * (xs.length : Int), w64 (2 * (xs.length : Int) + 1), (i : Int), 1⟩ : GCrossing)], cs, 0) else none) else if v = 3 then (if (ys.length + 1) * 40 ≤ 140737488355328 then some (ys ++ [(⟨2 * (xs.length : Int), (i : Int), w64 (2 * (xs.length : Int) + 1), 2 * (xs.length : Int), -1⟩ : GCrossing)], cs, 0) else none) else none) (ys ++ [k], cs, (0 : Int))) := fun k hk => by
    have hv4 : v = 0 ∨ v = 1 ∨ v = 2 ∨ v = 3 := by omega
    have hl : (ys.length + 1) * 40 ≤ 140737488355328 := by omega
    refine ⟨0, fun K _ => ?_⟩
    rcases hv4 with rfl | rfl | rfl | rfl <;> simp only [if_pos hl] <;> rw [← hk] <;> rfl
  obtain ⟨k, hk⟩ : ∃ k, ([(⟨(i : Int), w64 (2 * (xs.length : Int) + 1), 2 * (xs.length : Int), 2 * (xs.length : Int), 1⟩ : GCrossing), ⟨(i : Int), 2 * (xs.length : Int), 2 * (xs.length : Int), w64 (2 * (xs.length : Int) + 1), -1⟩, ⟨2 * (xs.length : Int), 2 * (xs.length : Int), w64 (2 * (xs.length : Int) + 1), (i : Int), 1⟩, ⟨2 * (xs.length : Int), (i : Int), w64 (2 * (xs.length : Int) + 1), 2 * (xs.length : Int), -1⟩] : List GCrossing).getD v.toNat z_GCrossing = k := ⟨_, rfl⟩
  have hm := main k hk
  refine ⟨ys ++ [k], cs, 0, by rw [List.length_append, hyl]; simp only [List.length_cons, List.length_nil]; omega, ?_, ?_⟩
  · refine Tends.bind h1 (Tends.pos rfl (Tends.bind (a := true) ?_ (Tends.pos rfl (Tends.bind (a := true) ?_ (Tends.pos rfl (Tends.neg h10 (Tends.pos (by simp; omega) (Tends.bind2 hpl (Tends.pos (by omega) ?_)))))))))
    · rw [decide_eq_true ha]; exact Tends.const _
    · rw [decide_eq_true hv]; exact Tends.const _
    · simp only [bnd_eq, Int.toNat_natCast, hw2, With_eq _ hp, bind5, Option.bind_some, List.nil_append]
      have e5 : (⟨(withArc (xs.getD (q / 4) z_GCrossing) (q % 4) (w64 (2 * (xs.length : Int) + 1))).A, (withArc (xs.getD (q / 4) z_GCrossing) (q % 4) (w64 (2 * (xs.length : Int) + 1))).B, (withArc (xs.getD (q / 4) z_GCrossing) (q % 4) (w64 (2 * (xs.length : Int) + 1))).C, (withArc (xs.getD (q / 4) z_GCrossing) (q % 4) (w64 (2 * (xs.length : Int) + 1))).D, (withArc (xs.getD (q / 4) z_GCrossing) (q % 4) (w64 (2 * (xs.length : Int) + 1))).Sign⟩ : GCrossing) = withArc (xs.getD (q / 4) z_GCrossing) (q % 4) (w64 (2 * (xs.length : Int) + 1)) := rfl
      rw [e5, ← hys, hk]
      refine Tends.pos (by omega) (Tends.pos (by simp; omega) (Tends.pos (by omega) ?_))
      exact Tends.const _
  · refine Tends.bind3 h2 (Tends.pos rfl (Tends.bind (a := true) ?_ (Tends.pos rfl (Tends.bind (a := true) ?_ (Tends.pos rfl (Tends.neg h10 (Tends.bind (a := (t.length : Int)) (Tends.const _) (Tends.bind2 (a := xs) (b := cs) ?_ (Tends.pos (by omega) ?_)))))))))
    · rw [hh t rfl, decide_eq_true ha]; exact Tends.const _
    · rw [decide_eq_true hv]; exact Tends.const _
    · refine Tends.congr (fun K => ?_) (Tends.const _)
      unfold impl_copyDiagram.f slices_Clone_impl_Crossing_impl_Crossing.f
      rw [if_pos (by simp; omega)]
      rfl
    · simp only [bnd_eq, Int.toNat_natCast, htl]
      rw [List.getD_eq_getElem?_getD, hte]
      show Tends (fun K => (impl_Diagram_set.f xs cs ((q / 4 : Nat) : Int) ((q % 4 : Nat) : Int) (w64 (2 * (xs.length : Int) + 1))).bind _) _
      rw [set_eq hc hp, ← hys]
      simp only [Option.bind_some]
      exact Tends.pos hyl hm
end Go.Proofs.YtdfiglhdjlmakaaGreat
