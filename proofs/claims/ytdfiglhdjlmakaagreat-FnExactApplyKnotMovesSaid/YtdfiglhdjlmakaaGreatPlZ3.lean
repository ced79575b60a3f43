/-
  The reference's removal with its limit; which crossings a list names.
-/
import Derived.Test.YtdfiglhdjlmakaaGreatPlZ2
set_option linter.unusedVariables false
set_option linter.unusedSimpArgs false
set_option linter.unusedSectionVars false
namespace Go.Proofs.YtdfiglhdjlmakaaGreat
open Go.RowKit
section
variable {xs : List GCrossing} (hn : xs.length ≤ 10) (hs : Signs xs) {f t : List GEnd} (hg : Good xs f t)
include hn hs hg
theorem remove_l1 {o : List Bool} {cs : Int} {ys : List GCrossing} {c' : Int} (hU : ∀ {A : List Int}, A.length = 2 * xs.length → (∀ a, a < 2 * xs.length → A.getD a 0 = (onArc xs t a : Int)) → Tends (fun K => spec_l28Unite.f K xs cs o A) (ys, c')) :
    ∀ (d a : Nat), 2 * xs.length - a = d → a ≤ 2 * xs.length → Tends2 (fun K k => spec_l27Remove.l1 K k xs cs o ((List.range a).map fun a => (onArc xs t a : Int)) (a : Int)) (limited ys c')
  | 0, a, hd, ha => by
    obtain rfl : a = 2 * xs.length := by omega
    have hw2 : w64 (2 * (xs.length : Int)) = 2 * (xs.length : Int) := w64_id (by omega) (by omega)
    have h := hU (A := (List.range (2 * xs.length)).map fun a => (onArc xs t a : Int)) (by simp) (fun a ha => by rw [List.getD_eq_getElem?_getD, List.getElem?_map, List.getElem?_range ha]; rfl)
    refine Tends2.succ (Tends2.congr (G := fun K k => bind2 (spec_l28Unite.f K xs cs o ((List.range (2 * xs.length)).map fun a => (onArc xs t a : Int))) fun t70 t71 => if 8 < t71 then some (([] : List GCrossing), (0 : Int), (3 : Int)) else some (t70, t71, 0)) (fun K k => ?_) (Tends2.bind2 h.two ?_))
    · rw [spec_l27Remove.l1, hw2, if_neg (by omega)]
    · refine Tends2.congr (fun K k => ?_) (Tends2.const _)
      unfold limited
      split <;> rfl
  | d + 1, a, hd, ha => by
    have hw2 : w64 (2 * (xs.length : Int)) = 2 * (xs.length : Int) := w64_id (by omega) (by omega)
    have ih := remove_l1 hU d (a + 1) (by omega) (by omega)
    have hstep : ∀ K k, spec_l27Remove.l1 K (k + 1) xs cs o ((List.range a).map fun a => (onArc xs t a : Int)) (a : Int) = (spec_l25Next.f K xs cs (a : Int)).bind fun t60 => spec_l27Remove.l1 K k xs cs o (((List.range a).map fun a => (onArc xs t a : Int)) ++ [t60]) ((a + 1 : Nat) : Int) := fun K k => by
      have hl : (((List.range a).map fun a => (onArc xs t a : Int)).length + 1) * 8 ≤ 140737488355328 := by simp only [List.length_map, List.length_range]; omega
      rw [spec_l27Remove.l1, hw2, if_pos (by omega), w64_succ (by omega)]
      simp only [if_pos hl]
    refine Tends2.succ (Tends2.congr hstep (Tends2.bind (next_spec hn hs hg cs (a := a) (by omega)).two ?_))
    rw [List.range_succ, List.map_append] at ih
    exact ih
theorem removed (o : List Bool) {cr : List Int} (hcr : ∀ c, c < xs.length → Tends (fun K => slices_Contains_int64_int64.f K cr (c : Int)) (o.getD c false)) (ho : o.length = xs.length) (cs : Int) :
    ∃ (ys : List GCrossing) (c' : Int), ys.length ≤ xs.length ∧ Tends (fun K => impl_Diagram_without.f K xs cs f t cr) (ys, c') ∧ Tends (fun K => spec_l27Remove.f K xs cs o) (limited ys c') := by
  obtain ⟨ys, c', h1, h2, h3⟩ := removals hn hs hg o hcr ho cs
  exact ⟨ys, c', h1, h2, Tends.congr (fun K => rfl) (remove_l1 hn hs hg h3 (2 * xs.length) 0 rfl (Nat.zero_le _)).diag⟩
end
theorem contains_l1 {cr : List Int} (hc : cr.length ≤ 1000) (v : Int) : ∀ (d i : Nat), cr.length - i = d → i ≤ cr.length → ∃ r : Int, Tends2 (fun K k => slices_Index_int64_int64.l1 K k cr v (i : Int)) r ∧ (0 ≤ r ↔ v ∈ cr.drop i)
  | 0, i, hd, hi => by
    obtain rfl : i = cr.length := by omega
    refine ⟨-1, Tends2.succ (Tends2.congr (fun K k => ?_) (Tends2.const _)), ?_⟩
    · rw [slices_Index_int64_int64.l1, if_neg (by omega)]
    · rw [List.drop_length]
      exact ⟨fun h => absurd h (by decide), fun h => absurd h (by simp)⟩
  | d + 1, i, hd, hi => by
    have hlt : i < cr.length := by omega
    have hg : cr.getD i 0 = cr[i] := by rw [List.getD_eq_getElem?_getD, List.getElem?_eq_getElem hlt]; rfl
    have hstep : ∀ K k, slices_Index_int64_int64.l1 K (k + 1) cr v (i : Int) = if v = cr[i] then some (i : Int) else slices_Index_int64_int64.l1 K k cr v ((i + 1 : Nat) : Int) := fun K k => by
      rw [slices_Index_int64_int64.l1, if_pos (by omega), if_pos (by omega), Int.toNat_natCast, hg, w64_succ (by omega)]
    rw [List.drop_eq_getElem_cons hlt]
    by_cases e : v = cr[i]
    · exact ⟨(i : Int), Tends2.succ (Tends2.congr hstep (Tends2.pos e (Tends2.const _))), ⟨fun _ => by rw [e]; exact List.mem_cons_self .., fun _ => by omega⟩⟩
    · obtain ⟨r, h1, h2⟩ := contains_l1 hc v d (i + 1) (by omega) (by omega)
      refine ⟨r, Tends2.succ (Tends2.congr hstep (Tends2.neg e h1)), h2.trans ⟨fun h => List.mem_cons_of_mem _ h, fun h => ?_⟩⟩
      rcases List.mem_cons.1 h with h | h
      · exact absurd h e
      · exact h
theorem contains_int {cr : List Int} (hc : cr.length ≤ 1000) (v : Int) : Tends (fun K => slices_Contains_int64_int64.f K cr v) (decide (v ∈ cr)) := by
  obtain ⟨r, h1, h2⟩ := contains_l1 hc v cr.length 0 rfl (Nat.zero_le _)
  unfold slices_Contains_int64_int64.f
  refine Tends.bind (a := r) (Tends.congr (fun K => rfl) h1.diag) (Tends.congr (fun K => ?_) (Tends.const _))
  congr 1
  rw [List.drop_zero] at h2
  exact decide_eq_decide.2 h2
end Go.Proofs.YtdfiglhdjlmakaaGreat
