/-
  The program's diagram without some crossings has the same crossings.
-/
import Derived.Test.YtdfiglhdjlmakaaGreatPlW
set_option linter.unusedVariables false
set_option linter.unusedSimpArgs false
set_option linter.unusedSectionVars false
namespace Go.Proofs.YtdfiglhdjlmakaaGreat
open Go.RowKit
section
variable {xs : List GCrossing} (hn : xs.length ≤ 10) (hs : Signs xs) {f t : List GEnd} (hg : Good xs f t)
variable {o : List Bool} (ho : o.length = xs.length) {nx pv : Nat → Nat} (hw : Wire (2 * xs.length) (goneTo o t) (goneTo o f) nx pv)
variable {cr : List Int} (hcr : ∀ c, c < xs.length → Tends (fun K => slices_Contains_int64_int64.f K cr (c : Int)) (o.getD c false)) (hnx : ∀ (cs : Int) a, a < 2 * xs.length → goneTo o t a = true → impl_Diagram_next.f xs cs f t (a : Int) = some (nx a : Int))
include hn hs hg ho hw hcr hnx
theorem without_way {cs : Int} {a : Nat} (ha : Start (2 * xs.length) (goneTo o f) a) {F : List GCrossing × Int}
    (next : ∀ work numbers, Moved xs (goneTo o t) (goneTo o f) nx (a + 1) work numbers → Tends2 (fun K k => impl_Diagram_without.l1 K k xs cs f t cr cs (t.length : Int) work numbers ((numOf (goneTo o f) (a + 1) : Nat) : Int) ((a + 1 : Nat) : Int)) F) :
    ∀ (d i b : Nat) (work : List GCrossing) (numbers : List Int), 2 * xs.length - i = d → Way (goneTo o t) nx a i b → Moved xs (goneTo o t) (goneTo o f) nx a work numbers →
    Tends2 (fun K k => impl_Diagram_without.l12 K k xs cs f t cr cs (t.length : Int) work numbers (numOf (goneTo o f) a : Int) (a : Int) (b : Int)) F
  | 0, i, b, work, numbers, hd, hway, hm => by
    have := hway.short hw ha
    omega
  | d + 1, i, b, work, numbers, hd, hway, hm => by
    have hi := hway.short hw ha
    have hb : b < 2 * xs.length := hway.lt hw ha.1
    have hnl := hm.nlen
    have hwl := hm.sg.1
    have hnum := numOf_le (goneTo o f) a
    have hal := ha.1
    have htl : (t.length : Int) = 2 * (xs.length : Int) := by rw [hg.tlen]; omega
    obtain ⟨c, p, hc, hp, _, hog, hte, harc, hent⟩ := place_to hn hs hg cs (o := o) hb
    have hstep : ∀ K k, impl_Diagram_without.l12 K (k + 1) xs cs f t cr cs (t.length : Int) work numbers (numOf (goneTo o f) a : Int) (a : Int) (b : Int) = ((slices_Contains_int64_int64.f K cr (c : Int)).bind fun t1 => some t1).bind fun t581 => if t581 = true then (impl_Diagram_next.f xs cs f t (b : Int)).bind fun t586 => impl_Diagram_without.l12 K k xs cs f t cr cs (t.length : Int) work numbers (numOf (goneTo o f) a : Int) (a : Int) t586 else (impl_Diagram_set.f work cs (c : Int) (p : Int) (a : Int)).bind fun t590 => if t590.length = work.length then impl_Diagram_without.l1 K k xs cs f t cr cs (t.length : Int) t590 (numbers.set a (numOf (goneTo o f) a : Int)) ((numOf (goneTo o f) a + 1 : Nat) : Int) ((a + 1 : Nat) : Int) else none := fun K k => by
      rw [impl_Diagram_without.l12, if_pos (by omega), bnd_eq, Int.toNat_natCast, Int.toNat_natCast, hte, w64_succ (by omega), w64_succ (by omega)]
      rfl
    refine Tends2.succ (Tends2.congr hstep (Tends2.bind (a := goneTo o t b) (Tends2.bind (hcr c hc).two (Tends2.congr (fun K k => congrArg some hog) (Tends2.const _))) ?_))
    cases hG : goneTo o t b with
    | true =>
      refine Tends2.pos rfl ?_
      rw [hnx cs b hb hG]
      exact without_way ha next d (i + 1) (nx b) _ _ (by omega) (.step hway hG) hm
    | false =>
      refine Tends2.neg (by decide) ?_
      rw [set_eq (by omega) hp]
      refine Tends2.pos (by rw [List.length_set]) ?_
      have hno : numOf (goneTo o f) (a + 1) = numOf (goneTo o f) a + 1 := by rw [numOf, ha.2, if_neg (by decide)]
      rw [← hno]
      refine next _ _ ⟨by rw [List.length_set]; exact hnl, hm.sg.set hc (by rw [withArc_sign]; exact hm.sg.2 c hc), fun s hs1 hs2 => ?_, fun q hq he => ?_, fun q s j hq he hs1 hs2 hsw hsg => ?_⟩
      · rw [getD_setI (by omega)]
        by_cases e : s = a
        · rw [if_pos e, e]
        · rw [if_neg e]; exact hm.num s (by omega) hs2
      · rw [arcAt_set (by omega) hp, if_neg]
        · exact hm.out q hq he
        · intro e
          rw [e, hent] at he
          cases he
      · rw [arcAt_set (by omega) hp]
        by_cases e : q = 4 * c + p
        · rw [if_pos e]
          rw [e, harc, Int.toNat_natCast] at hsw
          rw [(hway.one hw ha hs2 hsw).2]
        · rw [if_neg e]
          by_cases e2 : s = a
          · subst e2
            have hbe : (arcAt xs q).toNat = b := by
              rcases Nat.lt_trichotomy i j with h | h | h
              · obtain ⟨c', h1, h2⟩ := hsw.before h
                rw [hway.det h1, h2] at hG
                cases hG
              · subst h; exact hsw.det hway
              · obtain ⟨c', h1, h2⟩ := hway.before h
                rw [hsw.det h1, h2] at hsg
                cases hsg
            have hr := hg.range hq
            exact absurd (hg.one hn hs hq (show 4 * c + p < 4 * xs.length by omega) (by rw [harc]; omega) (by rw [he, hent])) e
          · exact hm.inn q s j hq he (by omega) hs2 hsw hsg
theorem without_l1 {cs : Int} {F : List GCrossing × Int}
    (next : ∀ work numbers, Moved xs (goneTo o t) (goneTo o f) nx (2 * xs.length) work numbers → Tends2 (fun K k => impl_Diagram_without.l13 K k xs cs f t cr work numbers ([] : List GCrossing) 0) F) :
    ∀ (d a : Nat) (work : List GCrossing) (numbers : List Int), 2 * xs.length - a = d → a ≤ 2 * xs.length → Moved xs (goneTo o t) (goneTo o f) nx a work numbers →
    Tends2 (fun K k => impl_Diagram_without.l1 K k xs cs f t cr cs (t.length : Int) work numbers (numOf (goneTo o f) a : Int) (a : Int)) F
  | 0, a, work, numbers, hd, ha, hm => by
    obtain rfl : a = 2 * xs.length := by omega
    have htl : (t.length : Int) = 2 * (xs.length : Int) := by rw [hg.tlen]; omega
    refine Tends2.succ (Tends2.congr (fun K k => ?_) (next work numbers hm))
    rw [impl_Diagram_without.l1, if_neg (by omega)]
  | d + 1, a, work, numbers, hd, ha, hm => by
    have hal : a < 2 * xs.length := by omega
    have htl : (t.length : Int) = 2 * (xs.length : Int) := by rw [hg.tlen]; omega
    have hfl : (f.length : Int) = 2 * (xs.length : Int) := by rw [hg.flen]; omega
    have hnum := numOf_le (goneTo o f) a
    have hnl := hm.nlen
    obtain ⟨c, p, hc, hp, _, hog, hfe, harc, hent⟩ := place_from hn hs hg cs (o := o) hal
    have hstep : ∀ K k, impl_Diagram_without.l1 K (k + 1) xs cs f t cr cs (t.length : Int) work numbers (numOf (goneTo o f) a : Int) (a : Int) = ((slices_Contains_int64_int64.f K cr (c : Int)).bind fun t1 => some t1).bind fun t536 => if t536 = true then impl_Diagram_without.l1 K k xs cs f t cr cs (t.length : Int) work numbers (numOf (goneTo o f) a : Int) ((a + 1 : Nat) : Int) else (if 0 ≤ (a : Int) ∧ (a : Int) < (numbers.length : Int) then impl_Diagram_without.l12 K k xs cs f t cr cs (t.length : Int) work numbers (numOf (goneTo o f) a : Int) (a : Int) (a : Int) else none) := fun K k => by
      rw [impl_Diagram_without.l1, if_pos (by omega), if_pos (by omega), bnd_eq, Int.toNat_natCast, hfe, w64_succ (by omega)]
      rfl
    refine Tends2.succ (Tends2.congr hstep (Tends2.bind (a := goneTo o f a) (Tends2.bind (hcr c hc).two (Tends2.congr (fun K k => congrArg some hog) (Tends2.const _))) ?_))
    cases hL : goneTo o f a with
    | true =>
      refine Tends2.pos rfl ?_
      have hno : numOf (goneTo o f) (a + 1) = numOf (goneTo o f) a := by rw [numOf, hL, if_pos rfl]; rfl
      rw [← hno]
      have hlow : ∀ s, s < a + 1 → Start (2 * xs.length) (goneTo o f) s → s < a := fun s h1 h2 => by
        rcases Nat.lt_succ_iff_lt_or_eq.1 h1 with h | h
        · exact h
        · rw [h] at h2; rw [h2.2] at hL; cases hL
      exact without_l1 next d (a + 1) work numbers (by omega) (by omega) ⟨hm.nlen, hm.sg, fun s h1 h2 => hm.num s (hlow s h1 h2) h2, hm.out, fun q s i hq he h1 h2 h3 h4 => hm.inn q s i hq he (hlow s h1 h2) h2 h3 h4⟩
    | false =>
      refine Tends2.neg (by decide) (Tends2.pos (by omega) ?_)
      exact without_way hn hs hg ho hw hcr hnx ⟨hal, hL⟩ (fun work numbers h => without_l1 next d (a + 1) work numbers (by omega) (by omega) h) _ 0 a work numbers rfl .refl hm
theorem without_l13 {cs : Int} {work : List GCrossing} {numbers : List Int} (hm : Moved xs (goneTo o t) (goneTo o f) nx (2 * xs.length) work numbers) {F : List GCrossing × Int}
    (next : Tends2 (fun K k => (impl_Diagram_strands.f K xs cs f t).bind fun t743 => impl_Diagram_without.l16 K k f t cr (rest xs o (2 * xs.length) (goneTo o t) (goneTo o f) nx xs.length) t743 cs 0) F) :
    ∀ (d c : Nat), xs.length - c = d → c ≤ xs.length → Tends2 (fun K k => impl_Diagram_without.l13 K k xs cs f t cr work numbers (rest xs o (2 * xs.length) (goneTo o t) (goneTo o f) nx c) (c : Int)) F
  | 0, c, hd, hc => by
    obtain rfl : c = xs.length := by omega
    have hwl := hm.sg.1
    refine Tends2.succ (Tends2.congr (fun K k => ?_) next)
    rw [impl_Diagram_without.l13, if_neg (by omega)]
  | d + 1, c, hd, hc => by
    have hlt : c < xs.length := by omega
    have ih := without_l13 hm next d (c + 1) (by omega) (by omega)
    have hrl := rest_len (xs := xs) (o := o) (2 * xs.length) (goneTo o t) (goneTo o f) nx c
    have hnl := hm.nlen
    have hwl := hm.sg.1
    have hstep : ∀ K k, impl_Diagram_without.l13 K (k + 1) xs cs f t cr work numbers (rest xs o (2 * xs.length) (goneTo o t) (goneTo o f) nx c) (c : Int) = (slices_Contains_int64_int64.f K cr (c : Int)).bind fun t727 => (if t727 = true then (impl_Diagram_without.l13 K k xs cs f t cr work numbers (rest xs o (2 * xs.length) (goneTo o t) (goneTo o f) nx c) ((c + 1 : Nat) : Int)) else (if 0 ≤ (work.getD c z_GCrossing).A ∧ (work.getD c z_GCrossing).A < (numbers.length : Int) then (if 0 ≤ (work.getD c z_GCrossing).B ∧ (work.getD c z_GCrossing).B < (numbers.length : Int) then (if 0 ≤ (work.getD c z_GCrossing).C ∧ (work.getD c z_GCrossing).C < (numbers.length : Int) then (if 0 ≤ (work.getD c z_GCrossing).D ∧ (work.getD c z_GCrossing).D < (numbers.length : Int) then (impl_Diagram_without.l13 K k xs cs f t cr work numbers (rest xs o (2 * xs.length) (goneTo o t) (goneTo o f) nx c ++ [(⟨numbers.getD (work.getD c z_GCrossing).A.toNat 0, numbers.getD (work.getD c z_GCrossing).B.toNat 0, numbers.getD (work.getD c z_GCrossing).C.toNat 0, numbers.getD (work.getD c z_GCrossing).D.toNat 0, (work.getD c z_GCrossing).Sign⟩ : GCrossing)]) ((c + 1 : Nat) : Int)) else none) else none) else none) else none)) := fun K k => by
      rw [impl_Diagram_without.l13, if_pos (by omega), if_pos (by omega), bnd_eq, Int.toNat_natCast, w64_succ (by omega), if_pos (show ((rest xs o (2 * xs.length) (goneTo o t) (goneTo o f) nx c).length + 1) * 40 ≤ 140737488355328 by omega)]
    refine Tends2.succ (Tends2.congr hstep (Tends2.bind (hcr c hlt).two ?_))
    rw [rest] at ih
    cases hst : o.getD c false with
    | true =>
      rw [hst, if_pos rfl, List.append_nil] at ih
      exact Tends2.pos rfl ih
    | false =>
      rw [hst, if_neg (by decide)] at ih
      refine Tends2.neg (by decide) ?_
      have hp : ∀ p, p < 4 → 0 ≤ endv (work.getD c z_GCrossing) p ∧ endv (work.getD c z_GCrossing) p < (numbers.length : Int) ∧ numbers.getD (endv (work.getD c z_GCrossing) p).toNat 0 = wayNo (2 * xs.length) (goneTo o t) (goneTo o f) nx (endv (xs.getD c z_GCrossing) p).toNat := fun p hp => by
        have hq : 4 * c + p < 4 * xs.length := by omega
        have hr := hg.range hq
        have hstq : o.getD ((4 * c + p) / 4) false = false := by rw [cp_div hp]; exact hst
        have hon := stay_on hn hs hg ho hw hq hstq
        have hwa : arcAt work (4 * c + p) = endv (work.getD c z_GCrossing) p := arcAt_cp work hp
        have hxa : arcAt xs (4 * c + p) = endv (xs.getD c z_GCrossing) p := arcAt_cp xs hp
        rw [← hwa, ← hxa]
        cases he : entAt xs (4 * c + p) with
        | true =>
          obtain ⟨s, i, hs1, hs2⟩ := hon
          have hgf : goneTo o t (arcAt xs (4 * c + p)).toNat = false := by rw [gone_to hn hs hg hq he]; exact hstq
          have h1 := hm.inn _ s i hq he hs1.1 hs1 hs2 hgf
          have hsl := hs1.1
          rw [h1, Int.toNat_natCast, hm.num s hs1.1 hs1, wayNo_eq hw hs1 hs2]
          exact ⟨by omega, by omega, rfl⟩
        | false =>
          have hst2 : Start (2 * xs.length) (goneTo o f) (arcAt xs (4 * c + p)).toNat := ⟨by omega, by rw [gone_from hn hs hg hq he]; exact hstq⟩
          rw [hm.out _ hq he, hm.num _ hst2.1 hst2, wayNo_eq hw hst2 .refl]
          exact ⟨hr.1, by omega, rfl⟩
      obtain ⟨a1, a2, a3⟩ := hp 0 (by decide)
      obtain ⟨b1, b2, b3⟩ := hp 1 (by decide)
      obtain ⟨c1, c2, c3⟩ := hp 2 (by decide)
      obtain ⟨d1, d2, d3⟩ := hp 3 (by decide)
      refine Tends2.pos ⟨a1, a2⟩ (Tends2.pos ⟨b1, b2⟩ (Tends2.pos ⟨c1, c2⟩ (Tends2.pos ⟨d1, d2⟩ ?_)))
      have e : (⟨numbers.getD (work.getD c z_GCrossing).A.toNat 0, numbers.getD (work.getD c z_GCrossing).B.toNat 0, numbers.getD (work.getD c z_GCrossing).C.toNat 0, numbers.getD (work.getD c z_GCrossing).D.toNat 0, (work.getD c z_GCrossing).Sign⟩ : GCrossing) = renamed (2 * xs.length) (goneTo o t) (goneTo o f) nx (xs.getD c z_GCrossing) := by
        unfold renamed
        have h1 : numbers.getD (work.getD c z_GCrossing).A.toNat 0 = wayNo (2 * xs.length) (goneTo o t) (goneTo o f) nx (xs.getD c z_GCrossing).A.toNat := a3
        have h2 : numbers.getD (work.getD c z_GCrossing).B.toNat 0 = wayNo (2 * xs.length) (goneTo o t) (goneTo o f) nx (xs.getD c z_GCrossing).B.toNat := b3
        have h3 : numbers.getD (work.getD c z_GCrossing).C.toNat 0 = wayNo (2 * xs.length) (goneTo o t) (goneTo o f) nx (xs.getD c z_GCrossing).C.toNat := c3
        have h4 : numbers.getD (work.getD c z_GCrossing).D.toNat 0 = wayNo (2 * xs.length) (goneTo o t) (goneTo o f) nx (xs.getD c z_GCrossing).D.toNat := d3
        rw [h1, h2, h3, h4, hm.sg.2 c hlt]
      rw [e]
      exact ih
end
end Go.Proofs.YtdfiglhdjlmakaaGreat
