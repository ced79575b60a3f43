/-
  The program's smoothed crossing: its crossings and its circles.
-/
import Derived.Test.YtdafmbaeiefacaaPlE1
set_option linter.unusedVariables false
set_option linter.unusedSimpArgs false
set_option linter.unusedSectionVars false
namespace Go.Proofs.Ytdafmbaeiefacaa
open Go.RowKit
/-- What the program's map still says. -/
structure MapSays (N : Nat) (G : Nat → Bool) (nx : Nat → Nat) (P : Nat → Prop) (m : List (Int × Int)) : Prop where
  um : UM m
  has : ∀ b, b < N → G b = true → ¬ P b → mget m (b : Int) = some (nx b : Int)
  not : ∀ b, b < N → (G b = false ∨ P b) → mget m (b : Int) = none
theorem MapSays.del {N : Nat} {G : Nat → Bool} {nx : Nat → Nat} {P : Nat → Prop} {m : List (Int × Int)} (h : MapSays N G nx P m) (b : Nat) : MapSays N G nx (fun b' => P b' ∨ b' = b) (mdel m (b : Int)) where
  um := h.um.del _
  has := fun b' hb' hG hP => by
    rw [mget_del _ _ h.um, if_neg (fun e => hP (.inr (by omega)))]
    exact h.has b' hb' hG (fun hp => hP (.inl hp))
  not := fun b' hb' hP => by
    rw [mget_del _ _ h.um]
    by_cases e : (b' : Int) = (b : Int)
    · rw [if_pos e]
    · rw [if_neg e]
      rcases hP with hG | hP | hP
      · exact h.not b' hb' (.inl hG)
      · exact h.not b' hb' (.inr hP)
      · exact absurd (by omega) e
theorem MapSays.iff {N : Nat} {G : Nat → Bool} {nx : Nat → Nat} {P Q : Nat → Prop} {m : List (Int × Int)} (h : MapSays N G nx P m) (hPQ : ∀ b, b < N → P b → Q b) (hQP : ∀ b, b < N → Q b → G b = false ∨ P b) : MapSays N G nx Q m :=
  ⟨h.um, fun b hb hG hQ => h.has b hb hG (fun hp => hQ (hPQ b hb hp)), fun b hb hQ => h.not b hb (hQ.elim .inl (hQP b hb))⟩
section
variable {xs : List GCrossing} (hn : xs.length ≤ 10) (hs : Signs xs) {f t : List GEnd} (hg : Good xs f t)
variable {o : List Bool} (ho : o.length = xs.length) {nx pv : Nat → Nat} (hw : Wire (2 * xs.length) (goneTo o t) (goneTo o f) nx pv)
variable {c0 : Nat} (hoc : ∀ c, c < xs.length → (o.getD c false = true ↔ c = c0))
include hn hs hg ho hw hoc
theorem sm_same {c : Nat} (hc : c < xs.length) : ((c : Int) = (c0 : Int)) ↔ o.getD c false = true := by
  rw [hoc c hc]
  omega
theorem smooth_way {e8 : GCrossing} {z0 z1 z2 z3 : Int} {cs : Int} {a : Nat} (ha : Start (2 * xs.length) (goneTo o f) a) {F : List GCrossing × Int}
    (next : ∀ m work numbers, MapSays (2 * xs.length) (goneTo o t) nx (Below_ (2 * xs.length) (goneTo o t) (goneTo o f) nx (a + 1)) m → Moved xs (goneTo o t) (goneTo o f) nx (a + 1) work numbers → Tends2 (fun K k => impl_Diagram_smoothed.l1 K k cs f t (c0 : Int) e8 z0 z1 z2 z3 cs (f.length : Int) m work numbers ((numOf (goneTo o f) (a + 1) : Nat) : Int) ((a + 1 : Nat) : Int)) F) :
    ∀ (d i b : Nat) (m : List (Int × Int)) (work : List GCrossing) (numbers : List Int), 2 * xs.length - i = d → Way (goneTo o t) nx a i b → MapSays (2 * xs.length) (goneTo o t) nx (fun b' => Below_ (2 * xs.length) (goneTo o t) (goneTo o f) nx a b' ∨ ∃ j, j < i ∧ Way (goneTo o t) nx a j b') m → Moved xs (goneTo o t) (goneTo o f) nx a work numbers → numbers.length = 2 * xs.length →
    Tends2 (fun K k => impl_Diagram_smoothed.l48 K k cs f t (c0 : Int) e8 z0 z1 z2 z3 cs (f.length : Int) work numbers (numOf (goneTo o f) a : Int) (a : Int) m (b : Int)) F
  | 0, i, b, m, work, numbers, hd, hway, hM, hm, _ => by
    have := hway.short hw ha
    omega
  | d + 1, i, b, m, work, numbers, hd, hway, hM, hm, hnl => by
    have hi := hway.short hw ha
    have hb : b < 2 * xs.length := hway.lt hw ha.1
    have hwl := hm.sg.1
    have hnum := numOf_le (goneTo o f) a
    have hal := ha.1
    have htl : (t.length : Int) = 2 * (xs.length : Int) := by rw [hg.tlen]; omega
    obtain ⟨c, p, hc, hp, _, hog, hte, harc, hent⟩ := place_to hn hs hg cs (o := o) hb
    have hsame := sm_same hn hs hg ho hw hoc hc
    have hstep : ∀ K k, impl_Diagram_smoothed.l48 K (k + 1) cs f t (c0 : Int) e8 z0 z1 z2 z3 cs (f.length : Int) work numbers (numOf (goneTo o f) a : Int) (a : Int) m (b : Int) = if (c : Int) = (c0 : Int) then impl_Diagram_smoothed.l48 K k cs f t (c0 : Int) e8 z0 z1 z2 z3 cs (f.length : Int) work numbers (numOf (goneTo o f) a : Int) (a : Int) (mdel m (b : Int)) ((mget m (b : Int)).getD 0) else (impl_Diagram_set.f work cs (c : Int) (p : Int) (a : Int)).bind fun t636 => if t636.length = work.length then impl_Diagram_smoothed.l1 K k cs f t (c0 : Int) e8 z0 z1 z2 z3 cs (f.length : Int) m t636 (numbers.set a (numOf (goneTo o f) a : Int)) ((numOf (goneTo o f) a + 1 : Nat) : Int) ((a + 1 : Nat) : Int) else none := fun K k => by
      rw [impl_Diagram_smoothed.l48, if_pos (by omega), bnd_eq, Int.toNat_natCast, Int.toNat_natCast, hte, w64_succ (by omega), w64_succ (by omega)]
    refine Tends2.succ (Tends2.congr hstep ?_)
    cases hG : goneTo o t b with
    | true =>
      refine Tends2.pos (hsame.2 (hog.trans hG)) ?_
      have hnot : ¬ (Below_ (2 * xs.length) (goneTo o t) (goneTo o f) nx a b ∨ ∃ j, j < i ∧ Way (goneTo o t) nx a j b) := by
        rintro (⟨s, j, h1, h2, h3⟩ | ⟨j, h1, h2⟩)
        · have := (h3.one hw h2 ha hway).2; omega
        · have := (h2.one hw ha ha hway).1; omega
      have hget := hM.has b hb hG hnot
      have e : (mget m (b : Int)).getD 0 = (nx b : Int) := by rw [hget]; rfl
      rw [e]
      refine smooth_way ha next d (i + 1) (nx b) _ _ _ (by omega) (.step hway hG) ((hM.del b).iff (fun b' hb' => ?_) (fun b' hb' => ?_)) hm hnl
      · rintro ((h | ⟨j, hj, h⟩) | h)
        · exact .inl h
        · exact .inr ⟨j, by omega, h⟩
        · exact .inr ⟨i, Nat.lt_succ_self _, by rw [h]; exact hway⟩
      · rintro (h | ⟨j, hj, h⟩)
        · exact .inr (.inl (.inl h))
        · by_cases e : j = i
          · rw [e] at h
            exact .inr (.inr (h.det hway))
          · exact .inr (.inl (.inr ⟨j, by omega, h⟩))
    | false =>
      refine Tends2.neg (fun h => by rw [hog, hG] at hsame; exact Bool.noConfusion (hsame.1 h)) ?_
      rw [set_eq (by omega) hp]
      refine Tends2.pos (by rw [List.length_set]) ?_
      have hno : numOf (goneTo o f) (a + 1) = numOf (goneTo o f) a + 1 := by rw [numOf, ha.2, if_neg (by decide)]
      rw [← hno]
      refine next _ _ _ (hM.iff (fun b' hb' => ?_) (fun b' hb' => ?_)) ⟨by rw [List.length_set]; exact hnl, hm.sg.set hc (by rw [withArc_sign]; exact hm.sg.2 c hc), fun s hs1 hs2 => ?_, fun q hq he => ?_, fun q s j hq he hs1 hs2 hsw hsg => ?_⟩
      · rintro (⟨s, j, hs1, hs2, h⟩ | ⟨j, hj, h⟩)
        · exact ⟨s, j, by omega, hs2, h⟩
        · exact ⟨a, j, Nat.lt_succ_self _, ha, h⟩
      · rintro ⟨s, j, hs1, hs2, h⟩
        by_cases e : s = a
        · rw [e] at h
          rcases Nat.lt_trichotomy j i with hji | hji | hji
          · exact .inr (.inr ⟨j, hji, h⟩)
          · rw [hji] at h
            exact .inl (by rw [h.det hway]; exact hG)
          · obtain ⟨c', h1, h2⟩ := h.before hji
            rw [hway.det h1, h2] at hG
            cases hG
        · exact .inr (.inl ⟨s, j, by omega, hs2, h⟩)
      · rw [getD_setI (by omega)]
        by_cases e : s = a
        · rw [if_pos e, e]
        · rw [if_neg e]; exact hm.num s (by omega) hs2
      · rw [arcAt_set (by omega) hp, if_neg]
        · exact hm.out q hq he
        · intro e
          rw [e, hent] at he
          cases he
      · rw [arcAt_set (by omega) hp]
        by_cases e : q = 4 * c + p
        · rw [if_pos e]
          rw [e, harc, Int.toNat_natCast] at hsw
          rw [(hway.one hw ha hs2 hsw).2]
        · rw [if_neg e]
          by_cases e2 : s = a
          · subst e2
            have hbe : (arcAt xs q).toNat = b := by
              rcases Nat.lt_trichotomy i j with h | h | h
              · obtain ⟨c', h1, h2⟩ := hsw.before h
                rw [hway.det h1, h2] at hG
                cases hG
              · subst h; exact hsw.det hway
              · obtain ⟨c', h1, h2⟩ := hway.before h
                rw [hsw.det h1, h2] at hsg
                cases hsg
            have hr := hg.range hq
            exact absurd (hg.one hn hs hq (show 4 * c + p < 4 * xs.length by omega) (by rw [harc]; omega) (by rw [he, hent])) e
          · exact hm.inn q s j hq he (by omega) hs2 hsw hsg
theorem smooth_l1 {e8 : GCrossing} {z0 z1 z2 z3 : Int} {cs : Int} {F : List GCrossing × Int}
    (next : ∀ m work numbers, MapSays (2 * xs.length) (goneTo o t) nx (On (2 * xs.length) (goneTo o t) (goneTo o f) nx) m → Moved xs (goneTo o t) (goneTo o f) nx (2 * xs.length) work numbers → Tends2 (fun K k => impl_Diagram_smoothed.l49 K k cs (c0 : Int) e8 z0 z1 z2 z3 m work numbers ([] : List GCrossing) 0) F) :
    ∀ (d a : Nat) (m : List (Int × Int)) (work : List GCrossing) (numbers : List Int), 2 * xs.length - a = d → a ≤ 2 * xs.length → MapSays (2 * xs.length) (goneTo o t) nx (Below_ (2 * xs.length) (goneTo o t) (goneTo o f) nx a) m → Moved xs (goneTo o t) (goneTo o f) nx a work numbers →
    Tends2 (fun K k => impl_Diagram_smoothed.l1 K k cs f t (c0 : Int) e8 z0 z1 z2 z3 cs (f.length : Int) m work numbers (numOf (goneTo o f) a : Int) (a : Int)) F
  | 0, a, m, work, numbers, hd, ha, hM, hm => by
    obtain rfl : a = 2 * xs.length := by omega
    have hfl : (f.length : Int) = 2 * (xs.length : Int) := by rw [hg.flen]; omega
    refine Tends2.succ (Tends2.congr (fun K k => ?_) (next m work numbers (hM.iff (fun b hb => ?_) (fun b hb => ?_)) hm))
    · rw [impl_Diagram_smoothed.l1, if_neg (by omega)]
    · rintro ⟨s, i, _, h1, h2⟩; exact ⟨s, i, h1, h2⟩
    · rintro ⟨s, i, h1, h2⟩; exact .inr ⟨s, i, h1.1, h1, h2⟩
  | d + 1, a, m, work, numbers, hd, ha, hM, hm => by
    have hal : a < 2 * xs.length := by omega
    have hfl : (f.length : Int) = 2 * (xs.length : Int) := by rw [hg.flen]; omega
    have hnum := numOf_le (goneTo o f) a
    have hnl := hm.nlen
    obtain ⟨c, p, hc, hp, _, hog, hfe, harc, hent⟩ := place_from hn hs hg cs (o := o) hal
    have hsame := sm_same hn hs hg ho hw hoc hc
    have hstep : ∀ K k, impl_Diagram_smoothed.l1 K (k + 1) cs f t (c0 : Int) e8 z0 z1 z2 z3 cs (f.length : Int) m work numbers (numOf (goneTo o f) a : Int) (a : Int) = if (c : Int) = (c0 : Int) then impl_Diagram_smoothed.l1 K k cs f t (c0 : Int) e8 z0 z1 z2 z3 cs (f.length : Int) m work numbers (numOf (goneTo o f) a : Int) ((a + 1 : Nat) : Int) else (if 0 ≤ (a : Int) ∧ (a : Int) < (numbers.length : Int) then impl_Diagram_smoothed.l48 K k cs f t (c0 : Int) e8 z0 z1 z2 z3 cs (f.length : Int) work numbers (numOf (goneTo o f) a : Int) (a : Int) m (a : Int) else none) := fun K k => by
      rw [impl_Diagram_smoothed.l1, if_pos (by omega), if_pos (by omega), bnd_eq, Int.toNat_natCast, hfe, w64_succ (by omega)]
    refine Tends2.succ (Tends2.congr hstep ?_)
    cases hL : goneTo o f a with
    | true =>
      refine Tends2.pos (hsame.2 (hog.trans hL)) ?_
      have hno : numOf (goneTo o f) (a + 1) = numOf (goneTo o f) a := by rw [numOf, hL, if_pos rfl]; rfl
      rw [← hno]
      have hlow : ∀ s, s < a + 1 → Start (2 * xs.length) (goneTo o f) s → s < a := fun s h1 h2 => by
        rcases Nat.lt_succ_iff_lt_or_eq.1 h1 with h | h
        · exact h
        · rw [h] at h2; rw [h2.2] at hL; cases hL
      refine smooth_l1 next d (a + 1) m work numbers (by omega) (by omega) (hM.iff (fun b hb => ?_) (fun b hb => ?_)) ⟨hm.nlen, hm.sg, fun s h1 h2 => hm.num s (hlow s h1 h2) h2, hm.out, fun q s i hq he h1 h2 h3 h4 => hm.inn q s i hq he (hlow s h1 h2) h2 h3 h4⟩
      · rintro ⟨s, i, h1, h2, h3⟩; exact ⟨s, i, by omega, h2, h3⟩
      · rintro ⟨s, i, h1, h2, h3⟩; exact .inr ⟨s, i, hlow s h1 h2, h2, h3⟩
    | false =>
      refine Tends2.neg (fun h => by rw [hog, hL] at hsame; exact Bool.noConfusion (hsame.1 h)) (Tends2.pos (by omega) ?_)
      refine smooth_way hn hs hg ho hw hoc ⟨hal, hL⟩ (fun m work numbers h1 h2 => smooth_l1 next d (a + 1) m work numbers (by omega) (by omega) h1 h2) _ 0 a m work numbers rfl .refl (hM.iff (fun b hb => .inl) (fun b hb => ?_)) hm hnl
      rintro (h | ⟨j, hj, _⟩)
      · exact .inr h
      · exact absurd hj (Nat.not_lt_zero _)
theorem smooth_l49 {e8 : GCrossing} {z0 z1 z2 z3 : Int} {cs : Int} {m : List (Int × Int)} {work : List GCrossing} {numbers : List Int} (hm : Moved xs (goneTo o t) (goneTo o f) nx (2 * xs.length) work numbers) {F : List GCrossing × Int}
    (next : Tends2 (fun K k => impl_Diagram_smoothed.l64 K k e8 z0 z1 z2 z3 (rest xs o (2 * xs.length) (goneTo o t) (goneTo o f) nx xs.length) m cs 0) F) :
    ∀ (d c : Nat), xs.length - c = d → c ≤ xs.length → Tends2 (fun K k => impl_Diagram_smoothed.l49 K k cs (c0 : Int) e8 z0 z1 z2 z3 m work numbers (rest xs o (2 * xs.length) (goneTo o t) (goneTo o f) nx c) (c : Int)) F
  | 0, c, hd, hc => by
    obtain rfl : c = xs.length := by omega
    have hwl := hm.sg.1
    refine Tends2.succ (Tends2.congr (fun K k => ?_) next)
    rw [impl_Diagram_smoothed.l49, if_neg (by omega)]
  | d + 1, c, hd, hc => by
    have hlt : c < xs.length := by omega
    have ih := smooth_l49 (e8 := e8) (z0 := z0) (z1 := z1) (z2 := z2) (z3 := z3) (m := m) hm next d (c + 1) (by omega) (by omega)
    have hrl := rest_len (xs := xs) (o := o) (2 * xs.length) (goneTo o t) (goneTo o f) nx c
    have hnl := hm.nlen
    have hwl := hm.sg.1
    have hsame := sm_same hn hs hg ho hw hoc hlt
    have hstep : ∀ K k, impl_Diagram_smoothed.l49 K (k + 1) cs (c0 : Int) e8 z0 z1 z2 z3 m work numbers (rest xs o (2 * xs.length) (goneTo o t) (goneTo o f) nx c) (c : Int) = (if (c : Int) = (c0 : Int) then (impl_Diagram_smoothed.l49 K k cs (c0 : Int) e8 z0 z1 z2 z3 m work numbers (rest xs o (2 * xs.length) (goneTo o t) (goneTo o f) nx c) ((c + 1 : Nat) : Int)) else (if 0 ≤ (work.getD c z_GCrossing).A ∧ (work.getD c z_GCrossing).A < (numbers.length : Int) then (if 0 ≤ (work.getD c z_GCrossing).B ∧ (work.getD c z_GCrossing).B < (numbers.length : Int) then (if 0 ≤ (work.getD c z_GCrossing).C ∧ (work.getD c z_GCrossing).C < (numbers.length : Int) then (if 0 ≤ (work.getD c z_GCrossing).D ∧ (work.getD c z_GCrossing).D < (numbers.length : Int) then (impl_Diagram_smoothed.l49 K k cs (c0 : Int) e8 z0 z1 z2 z3 m work numbers (rest xs o (2 * xs.length) (goneTo o t) (goneTo o f) nx c ++ [(⟨numbers.getD (work.getD c z_GCrossing).A.toNat 0, numbers.getD (work.getD c z_GCrossing).B.toNat 0, numbers.getD (work.getD c z_GCrossing).C.toNat 0, numbers.getD (work.getD c z_GCrossing).D.toNat 0, (work.getD c z_GCrossing).Sign⟩ : GCrossing)]) ((c + 1 : Nat) : Int)) else none) else none) else none) else none)) := fun K k => by
      rw [impl_Diagram_smoothed.l49, if_pos (by omega), if_pos (by omega), bnd_eq, Int.toNat_natCast, w64_succ (by omega), if_pos (show ((rest xs o (2 * xs.length) (goneTo o t) (goneTo o f) nx c).length + 1) * 40 ≤ 140737488355328 by omega)]
    refine Tends2.succ (Tends2.congr hstep ?_)
    rw [rest] at ih
    cases hst : o.getD c false with
    | true =>
      rw [hst, if_pos rfl, List.append_nil] at ih
      exact Tends2.pos (hsame.2 hst) ih
    | false =>
      rw [hst, if_neg (by decide)] at ih
      refine Tends2.neg (fun h => by rw [hst] at hsame; exact Bool.noConfusion (hsame.1 h)) ?_
      have hp : ∀ p, p < 4 → 0 ≤ endv (work.getD c z_GCrossing) p ∧ endv (work.getD c z_GCrossing) p < (numbers.length : Int) ∧ numbers.getD (endv (work.getD c z_GCrossing) p).toNat 0 = wayNo (2 * xs.length) (goneTo o t) (goneTo o f) nx (endv (xs.getD c z_GCrossing) p).toNat := fun p hp => by
        have hq : 4 * c + p < 4 * xs.length := by omega
        have hr := hg.range hq
        have hstq : o.getD ((4 * c + p) / 4) false = false := by rw [cp_div hp]; exact hst
        have hon := stay_on hn hs hg ho hw hq hstq
        have hwa : arcAt work (4 * c + p) = endv (work.getD c z_GCrossing) p := arcAt_cp work hp
        have hxa : arcAt xs (4 * c + p) = endv (xs.getD c z_GCrossing) p := arcAt_cp xs hp
        rw [← hwa, ← hxa]
        cases he : entAt xs (4 * c + p) with
        | true =>
          obtain ⟨s, i, hs1, hs2⟩ := hon
          have hgf : goneTo o t (arcAt xs (4 * c + p)).toNat = false := by rw [gone_to hn hs hg hq he]; exact hstq
          have h1 := hm.inn _ s i hq he hs1.1 hs1 hs2 hgf
          have hsl := hs1.1
          rw [h1, Int.toNat_natCast, hm.num s hs1.1 hs1, wayNo_eq hw hs1 hs2]
          exact ⟨by omega, by omega, rfl⟩
        | false =>
          have hst2 : Start (2 * xs.length) (goneTo o f) (arcAt xs (4 * c + p)).toNat := ⟨by omega, by rw [gone_from hn hs hg hq he]; exact hstq⟩
          rw [hm.out _ hq he, hm.num _ hst2.1 hst2, wayNo_eq hw hst2 .refl]
          exact ⟨hr.1, by omega, rfl⟩
      obtain ⟨a1, a2, a3⟩ := hp 0 (by decide)
      obtain ⟨b1, b2, b3⟩ := hp 1 (by decide)
      obtain ⟨c1, c2, c3⟩ := hp 2 (by decide)
      obtain ⟨d1, d2, d3⟩ := hp 3 (by decide)
      refine Tends2.pos ⟨a1, a2⟩ (Tends2.pos ⟨b1, b2⟩ (Tends2.pos ⟨c1, c2⟩ (Tends2.pos ⟨d1, d2⟩ ?_)))
      have e : (⟨numbers.getD (work.getD c z_GCrossing).A.toNat 0, numbers.getD (work.getD c z_GCrossing).B.toNat 0, numbers.getD (work.getD c z_GCrossing).C.toNat 0, numbers.getD (work.getD c z_GCrossing).D.toNat 0, (work.getD c z_GCrossing).Sign⟩ : GCrossing) = renamed (2 * xs.length) (goneTo o t) (goneTo o f) nx (xs.getD c z_GCrossing) := by
        unfold renamed
        have h1 : numbers.getD (work.getD c z_GCrossing).A.toNat 0 = wayNo (2 * xs.length) (goneTo o t) (goneTo o f) nx (xs.getD c z_GCrossing).A.toNat := a3
        have h2 : numbers.getD (work.getD c z_GCrossing).B.toNat 0 = wayNo (2 * xs.length) (goneTo o t) (goneTo o f) nx (xs.getD c z_GCrossing).B.toNat := b3
        have h3 : numbers.getD (work.getD c z_GCrossing).C.toNat 0 = wayNo (2 * xs.length) (goneTo o t) (goneTo o f) nx (xs.getD c z_GCrossing).C.toNat := c3
        have h4 : numbers.getD (work.getD c z_GCrossing).D.toNat 0 = wayNo (2 * xs.length) (goneTo o t) (goneTo o f) nx (xs.getD c z_GCrossing).D.toNat := d3
        rw [h1, h2, h3, h4, hm.sg.2 c hlt]
      rw [e]
      exact ih
end
end Go.Proofs.Ytdafmbaeiefacaa
