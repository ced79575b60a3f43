/-
  The reference's diagram without some crossings: the arcs' new numbers are those of their ways.
-/
import Derived.Test.YtdfiglhdjlmakaaGreatPlU2
set_option linter.unusedVariables false
set_option linter.unusedSimpArgs false
set_option linter.unusedSectionVars false
namespace Go.Proofs.YtdfiglhdjlmakaaGreat
open Go.RowKit
def goneTo (o : List Bool) (t : List GEnd) (a : Nat) : Bool := o.getD (t.getD a z_GEnd).crossing.toNat false
section
variable {xs : List GCrossing} (hn : xs.length ≤ 10) (hs : Signs xs) {f t : List GEnd} (hg : Good xs f t)
include hn hs hg
theorem to_end {a : Nat} (ha : a < 2 * xs.length) : ∃ q, q < 4 * xs.length ∧ arcAt xs q = (a : Int) ∧ entAt xs q = true ∧ t.getD a z_GEnd = endAt q := by
  obtain ⟨q, h1, h2, h3⟩ := hg.tall a ha
  obtain ⟨_, _, h4⟩ := hg.tin q h1 h2
  rw [h3, Int.toNat_natCast] at h4
  exact ⟨q, h1, h3, h2, get_end h4⟩
theorem from_end {a : Nat} (ha : a < 2 * xs.length) : ∃ q, q < 4 * xs.length ∧ arcAt xs q = (a : Int) ∧ entAt xs q = false ∧ f.getD a z_GEnd = endAt q := by
  obtain ⟨q, h1, h2, h3⟩ := hg.fall a ha
  obtain ⟨_, _, h4⟩ := hg.fout q h1 h2
  rw [h3, Int.toNat_natCast] at h4
  exact ⟨q, h1, h3, h2, get_end h4⟩
theorem gone_to {o : List Bool} {q : Nat} (hq : q < 4 * xs.length) (he : entAt xs q = true) : goneTo o t (arcAt xs q).toNat = o.getD (q / 4) false := by
  obtain ⟨_, _, h⟩ := hg.tin q hq he
  unfold goneTo
  rw [get_end h]
  rfl
theorem gone_from {o : List Bool} {q : Nat} (hq : q < 4 * xs.length) (he : entAt xs q = false) : goneTo o f (arcAt xs q).toNat = o.getD (q / 4) false := by
  obtain ⟨_, _, h⟩ := hg.fout q hq he
  unfold goneTo
  rw [get_end h]
  rfl
theorem place_to (cs : Int) {o : List Bool} {a : Nat} (ha : a < 2 * xs.length) : ∃ c p : Nat, c < xs.length ∧ p < 4 ∧ Tends (fun K => spec_l25Place.f K xs cs (a : Int) true) ((c : Int), (p : Int)) ∧ o.getD c false = goneTo o t a ∧ t.getD a z_GEnd = ⟨(c : Int), (p : Int)⟩ ∧ arcAt xs (4 * c + p) = (a : Int) ∧ entAt xs (4 * c + p) = true := by
  obtain ⟨q, h1, h2, h3, h4⟩ := to_end hn hs hg ha
  have hq : 4 * (q / 4) + q % 4 = q := by omega
  refine ⟨q / 4, q % 4, by omega, Nat.mod_lt _ (by decide), hg.place hn hs h1 h2 h3 cs, ?_, h4, by rw [hq]; exact h2, by rw [hq]; exact h3⟩
  have := gone_to hn hs hg (o := o) h1 h3
  rw [h2, Int.toNat_natCast] at this
  exact this.symm
theorem place_from (cs : Int) {o : List Bool} {a : Nat} (ha : a < 2 * xs.length) : ∃ c p : Nat, c < xs.length ∧ p < 4 ∧ Tends (fun K => spec_l25Place.f K xs cs (a : Int) false) ((c : Int), (p : Int)) ∧ o.getD c false = goneTo o f a ∧ f.getD a z_GEnd = ⟨(c : Int), (p : Int)⟩ ∧ arcAt xs (4 * c + p) = (a : Int) ∧ entAt xs (4 * c + p) = false := by
  obtain ⟨q, h1, h2, h3, h4⟩ := from_end hn hs hg ha
  have hq : 4 * (q / 4) + q % 4 = q := by omega
  refine ⟨q / 4, q % 4, by omega, Nat.mod_lt _ (by decide), hg.place hn hs h1 h2 h3 cs, ?_, h4, by rw [hq]; exact h2, by rw [hq]; exact h3⟩
  have := gone_from hn hs hg (o := o) h1 h3
  rw [h2, Int.toNat_natCast] at this
  exact this.symm
variable {o : List Bool} (ho : o.length = xs.length) {A : List Int} (hA : A.length = 2 * xs.length) {nx pv : Nat → Nat} (hw : Wire (2 * xs.length) (goneTo o t) (goneTo o f) nx pv) (hnx : ∀ a, a < 2 * xs.length → goneTo o t a = true → A.getD a 0 = (nx a : Int))
structure Named (xs : List GCrossing) (G Lf : Nat → Bool) (nx : Nat → Nat) (P : Nat → Prop) (name : List Int) (used : List Bool) : Prop where
  nlen : name.length = 2 * xs.length
  ulen : used.length = 2 * xs.length
  use : ∀ b, b < 2 * xs.length → (used.getD b false = true ↔ P b)
  nm : ∀ b, b < 2 * xs.length → P b → name.getD b 0 = wayNo (2 * xs.length) G Lf nx b
def Below_ (N : Nat) (G Lf : Nat → Bool) (nx : Nat → Nat) (a b : Nat) : Prop := ∃ s i, s < a ∧ Start N Lf s ∧ Way G nx s i b
include ho hA hw hnx
theorem unite_way {cs : Int} {a : Nat} (ha : Start (2 * xs.length) (goneTo o f) a) {F : List GCrossing × Int}
    (next : ∀ name used, Named xs (goneTo o t) (goneTo o f) nx (Below_ (2 * xs.length) (goneTo o t) (goneTo o f) nx (a + 1)) name used → Tends2 (fun K k => spec_l28Unite.l1 K k xs cs o A name used ((numOf (goneTo o f) (a + 1) : Nat) : Int) ((a + 1 : Nat) : Int)) F) :
    ∀ (d i b : Nat) (name : List Int) (used : List Bool), 2 * xs.length - i = d → Way (goneTo o t) nx a i b → Named xs (goneTo o t) (goneTo o f) nx (fun b' => Below_ (2 * xs.length) (goneTo o t) (goneTo o f) nx a b' ∨ ∃ j, j < i ∧ Way (goneTo o t) nx a j b') name used →
    Tends2 (fun K k => spec_l28Unite.l14 K k xs cs o A (numOf (goneTo o f) a : Int) (a : Int) name used (b : Int)) F
  | 0, i, b, name, used, hd, hway, hnm => by
    have := hway.short hw ha
    omega
  | d + 1, i, b, name, used, hd, hway, hnm => by
    have hi := hway.short hw ha
    have hb : b < 2 * xs.length := hway.lt hw ha.1
    have hnl := hnm.nlen
    have hul := hnm.ulen
    have hnum := numOf_le (goneTo o f) a
    have hal := ha.1
    obtain ⟨c, p, hc, hp, hpl, hog, _⟩ := place_to hn hs hg cs (o := o) hb
    have hset : Named xs (goneTo o t) (goneTo o f) nx (fun b' => Below_ (2 * xs.length) (goneTo o t) (goneTo o f) nx a b' ∨ ∃ j, j < i + 1 ∧ Way (goneTo o t) nx a j b') (name.set b (numOf (goneTo o f) a : Int)) (used.set b true) := by
      refine ⟨by rw [List.length_set]; exact hnl, by rw [List.length_set]; exact hul, fun b' hb' => ?_, fun b' hb' hP => ?_⟩
      · rw [getD_setB (by omega)]
        by_cases e : b' = b
        · subst e
          rw [if_pos rfl]
          exact ⟨fun _ => .inr ⟨i, Nat.lt_succ_self _, hway⟩, fun _ => rfl⟩
        · rw [if_neg e, hnm.use b' hb']
          constructor
          · rintro (h | ⟨j, hj, h⟩)
            · exact .inl h
            · exact .inr ⟨j, by omega, h⟩
          · rintro (h | ⟨j, hj, h⟩)
            · exact .inl h
            · by_cases hji : j = i
              · subst hji; exact absurd (h.det hway) e
              · exact .inr ⟨j, by omega, h⟩
      · rw [getD_setI (by omega)]
        by_cases e : b' = b
        · subst e
          rw [if_pos rfl, wayNo_eq hw ha hway]
        · rw [if_neg e]
          refine hnm.nm b' hb' ?_
          rcases hP with h | ⟨j, hj, h⟩
          · exact .inl h
          · by_cases hji : j = i
            · subst hji; exact absurd (h.det hway) e
            · exact .inr ⟨j, by omega, h⟩
    have hstep : ∀ K k, spec_l28Unite.l14 K (k + 1) xs cs o A (numOf (goneTo o f) a : Int) (a : Int) name used (b : Int) = bind2 (spec_l25Place.f K xs cs (b : Int) true) (fun t538 t539 => if 0 ≤ t538 ∧ t538 < (o.length : Int) then (if (o.getD t538.toNat false) = true then (if 0 ≤ (b : Int) ∧ (b : Int) < (A.length : Int) then spec_l28Unite.l14 K k xs cs o A (numOf (goneTo o f) a : Int) (a : Int) (name.set b (numOf (goneTo o f) a : Int)) (used.set b true) (A.getD b 0) else none) else spec_l28Unite.l1 K k xs cs o A (name.set b (numOf (goneTo o f) a : Int)) (used.set b true) ((numOf (goneTo o f) a + 1 : Nat) : Int) ((a + 1 : Nat) : Int)) else none) := fun K k => by
      rw [spec_l28Unite.l14, if_pos (by omega), if_pos (by omega), Int.toNat_natCast, w64_succ (by omega), w64_succ (by omega)]
    refine Tends2.succ (Tends2.congr hstep (Tends2.bind2 hpl.two (Tends2.pos (by omega) ?_)))
    rw [Int.toNat_natCast, hog]
    cases hG : goneTo o t b with
    | true =>
      refine Tends2.pos rfl (Tends2.pos (by omega) ?_)
      rw [hnx b hb hG]
      exact unite_way ha next d (i + 1) (nx b) _ _ (by omega) (.step hway hG) hset
    | false =>
      refine Tends2.neg (by decide) ?_
      have hno : numOf (goneTo o f) (a + 1) = numOf (goneTo o f) a + 1 := by rw [numOf, ha.2, if_neg (by decide)]
      rw [← hno]
      refine next _ _ ⟨hset.nlen, hset.ulen, fun b' hb' => (hset.use b' hb').trans ?_, fun b' hb' hP => hset.nm b' hb' ?_⟩
      · constructor
        · rintro (⟨s, j, hs1, hs2, h⟩ | ⟨j, hj, h⟩)
          · exact ⟨s, j, by omega, hs2, h⟩
          · exact ⟨a, j, Nat.lt_succ_self _, ha, h⟩
        · rintro ⟨s, j, hs1, hs2, h⟩
          by_cases e : s = a
          · subst e
            refine .inr ⟨j, Nat.lt_of_not_le (fun hle => ?_), h⟩
            obtain ⟨c', h1, h2⟩ := h.before (i := i) (by omega)
            rw [hway.det h1, h2] at hG
            cases hG
          · exact .inl ⟨s, j, by omega, hs2, h⟩
      · obtain ⟨s, j, hs1, hs2, h⟩ := hP
        by_cases e : s = a
        · subst e
          refine .inr ⟨j, Nat.lt_of_not_le (fun hle => ?_), h⟩
          obtain ⟨c', h1, h2⟩ := h.before (i := i) (by omega)
          rw [hway.det h1, h2] at hG
          cases hG
        · exact .inl ⟨s, j, by omega, hs2, h⟩
theorem unite_l1 {cs : Int} {F : List GCrossing × Int}
    (next : ∀ name used, Named xs (goneTo o t) (goneTo o f) nx (On (2 * xs.length) (goneTo o t) (goneTo o f) nx) name used → Tends2 (fun K k => spec_l28Unite.l15 K k xs o A name cs used 0) F) :
    ∀ (d a : Nat) (name : List Int) (used : List Bool), 2 * xs.length - a = d → a ≤ 2 * xs.length → Named xs (goneTo o t) (goneTo o f) nx (Below_ (2 * xs.length) (goneTo o t) (goneTo o f) nx a) name used →
    Tends2 (fun K k => spec_l28Unite.l1 K k xs cs o A name used (numOf (goneTo o f) a : Int) (a : Int)) F
  | 0, a, name, used, hd, ha, hnm => by
    obtain rfl : a = 2 * xs.length := by omega
    have hw2 : w64 (2 * (xs.length : Int)) = 2 * (xs.length : Int) := w64_id (by omega) (by omega)
    refine Tends2.succ (Tends2.congr (fun K k => ?_) (next name used ⟨hnm.nlen, hnm.ulen, fun b hb => (hnm.use b hb).trans ?_, fun b hb hP => hnm.nm b hb ?_⟩))
    · rw [spec_l28Unite.l1, hw2, if_neg (by omega)]
    · exact ⟨fun ⟨s, i, _, h1, h2⟩ => ⟨s, i, h1, h2⟩, fun ⟨s, i, h1, h2⟩ => ⟨s, i, h1.1, h1, h2⟩⟩
    · obtain ⟨s, i, h1, h2⟩ := hP
      exact ⟨s, i, h1.1, h1, h2⟩
  | d + 1, a, name, used, hd, ha, hnm => by
    have hal : a < 2 * xs.length := by omega
    have hw2 : w64 (2 * (xs.length : Int)) = 2 * (xs.length : Int) := w64_id (by omega) (by omega)
    have hnum := numOf_le (goneTo o f) a
    obtain ⟨c, p, hc, hp, hpl, hog, _⟩ := place_from hn hs hg cs (o := o) hal
    have hstep : ∀ K k, spec_l28Unite.l1 K (k + 1) xs cs o A name used (numOf (goneTo o f) a : Int) (a : Int) = bind2 (spec_l25Place.f K xs cs (a : Int) false) (fun t500 t501 => if 0 ≤ t500 ∧ t500 < (o.length : Int) then (if (o.getD t500.toNat false) = true then spec_l28Unite.l1 K k xs cs o A name used (numOf (goneTo o f) a : Int) ((a + 1 : Nat) : Int) else spec_l28Unite.l14 K k xs cs o A (numOf (goneTo o f) a : Int) (a : Int) name used (a : Int)) else none) := fun K k => by
      rw [spec_l28Unite.l1, hw2, if_pos (by omega), w64_succ (by omega)]
    refine Tends2.succ (Tends2.congr hstep (Tends2.bind2 hpl.two (Tends2.pos (by omega) ?_)))
    rw [Int.toNat_natCast, hog]
    cases hL : goneTo o f a with
    | true =>
      refine Tends2.pos rfl ?_
      have hno : numOf (goneTo o f) (a + 1) = numOf (goneTo o f) a := by rw [numOf, hL, if_pos rfl]; rfl
      rw [← hno]
      refine unite_l1 next d (a + 1) name used (by omega) (by omega) ⟨hnm.nlen, hnm.ulen, fun b hb => (hnm.use b hb).trans ?_, fun b hb hP => hnm.nm b hb ?_⟩
      · constructor
        · rintro ⟨s, i, h1, h2, h3⟩; exact ⟨s, i, by omega, h2, h3⟩
        · rintro ⟨s, i, h1, h2, h3⟩
          refine ⟨s, i, ?_, h2, h3⟩
          rcases Nat.lt_succ_iff_lt_or_eq.1 h1 with h | h
          · exact h
          · rw [h] at h2; rw [h2.2] at hL; cases hL
      · obtain ⟨s, i, h1, h2, h3⟩ := hP
        refine ⟨s, i, ?_, h2, h3⟩
        rcases Nat.lt_succ_iff_lt_or_eq.1 h1 with h | h
        · exact h
        · rw [h] at h2; rw [h2.2] at hL; cases hL
    | false =>
      refine Tends2.neg (by decide) ?_
      refine unite_way hn hs hg ho hA hw hnx ⟨hal, hL⟩ (fun name used h => unite_l1 next d (a + 1) name used (by omega) (by omega) h) _ 0 a name used rfl .refl ⟨hnm.nlen, hnm.ulen, fun b hb => (hnm.use b hb).trans ?_, fun b hb hP => hnm.nm b hb ?_⟩
      · exact ⟨.inl, fun h => h.elim id (fun ⟨j, hj, _⟩ => absurd hj (Nat.not_lt_zero _))⟩
      · exact hP.elim id (fun ⟨j, hj, _⟩ => absurd hj (Nat.not_lt_zero _))
noncomputable def renamed (N : Nat) (G Lf : Nat → Bool) (nx : Nat → Nat) (x : GCrossing) : GCrossing := ⟨wayNo N G Lf nx x.A.toNat, wayNo N G Lf nx x.B.toNat, wayNo N G Lf nx x.C.toNat, wayNo N G Lf nx x.D.toNat, x.Sign⟩
noncomputable def rest (xs : List GCrossing) (o : List Bool) (N : Nat) (G Lf : Nat → Bool) (nx : Nat → Nat) : Nat → List GCrossing
  | 0 => []
  | c + 1 => rest xs o N G Lf nx c ++ if o.getD c false = true then [] else [renamed N G Lf nx (xs.getD c z_GCrossing)]
omit hn hs hg ho hA hw hnx in
theorem rest_len (N : Nat) (G Lf : Nat → Bool) (nx : Nat → Nat) : ∀ c, (rest xs o N G Lf nx c).length ≤ c
  | 0 => Nat.le_refl _
  | c + 1 => by
    have := rest_len N G Lf nx c
    rw [rest, List.length_append]
    split <;> simp only [List.length_nil, List.length_singleton] <;> omega
omit hA hnx in
theorem stay_on {q : Nat} (hq : q < 4 * xs.length) (hst : o.getD (q / 4) false = false) : On (2 * xs.length) (goneTo o t) (goneTo o f) nx (arcAt xs q).toNat := by
  have hr := hg.range hq
  cases he : entAt xs q with
  | true => exact on_end hw (by omega) (by rw [gone_to hn hs hg hq he]; exact hst)
  | false => exact ⟨(arcAt xs q).toNat, 0, ⟨by omega, by rw [gone_from hn hs hg hq he]; exact hst⟩, .refl⟩
theorem unite_l21 {name : List Int} {used : List Bool} (hnm : Named xs (goneTo o t) (goneTo o f) nx (On (2 * xs.length) (goneTo o t) (goneTo o f) nx) name used) (circ : Int) :
    ∀ (d c : Nat), xs.length - c = d → c ≤ xs.length → Tends2 (fun K k => spec_l28Unite.l21 K k xs o name circ (rest xs o (2 * xs.length) (goneTo o t) (goneTo o f) nx c) (c : Int)) (rest xs o (2 * xs.length) (goneTo o t) (goneTo o f) nx xs.length, circ)
  | 0, c, hd, hc => by
    obtain rfl : c = xs.length := by omega
    refine Tends2.succ (Tends2.congr (fun K k => ?_) (Tends2.const _))
    rw [spec_l28Unite.l21, if_neg (by omega)]
  | d + 1, c, hd, hc => by
    have hlt : c < xs.length := by omega
    have ih := unite_l21 hnm circ d (c + 1) (by omega) (by omega)
    have hrl := rest_len (xs := xs) (o := o) (2 * xs.length) (goneTo o t) (goneTo o f) nx c
    have hnl := hnm.nlen
    refine Tends2.succ (Tends2.congr (fun K k => ?_) ih)
    rw [spec_l28Unite.l21, if_pos (by omega), if_pos (by omega), bnd_eq, if_pos (by omega), Int.toNat_natCast, w64_succ (by omega), rest]
    cases hst : o.getD c false with
    | true => rw [if_pos rfl, if_pos rfl, List.append_nil]
    | false =>
      have hp : ∀ p, p < 4 → 0 ≤ endv (xs.getD c z_GCrossing) p ∧ endv (xs.getD c z_GCrossing) p < (name.length : Int) ∧ name.getD (endv (xs.getD c z_GCrossing) p).toNat 0 = wayNo (2 * xs.length) (goneTo o t) (goneTo o f) nx (endv (xs.getD c z_GCrossing) p).toNat := fun p hp => by
        have hq : 4 * c + p < 4 * xs.length := by omega
        have hr := hg.range hq
        have hon := stay_on hn hs hg ho hw (q := 4 * c + p) hq (by rw [cp_div hp]; exact hst)
        rw [arcAt_cp xs hp] at hr hon
        exact ⟨hr.1, by omega, hnm.nm _ (by omega) hon⟩
      obtain ⟨a1, a2, a3⟩ : 0 ≤ (xs.getD c z_GCrossing).A ∧ (xs.getD c z_GCrossing).A < (name.length : Int) ∧ name.getD (xs.getD c z_GCrossing).A.toNat 0 = wayNo (2 * xs.length) (goneTo o t) (goneTo o f) nx (xs.getD c z_GCrossing).A.toNat := hp 0 (by decide)
      obtain ⟨b1, b2, b3⟩ : 0 ≤ (xs.getD c z_GCrossing).B ∧ (xs.getD c z_GCrossing).B < (name.length : Int) ∧ name.getD (xs.getD c z_GCrossing).B.toNat 0 = wayNo (2 * xs.length) (goneTo o t) (goneTo o f) nx (xs.getD c z_GCrossing).B.toNat := hp 1 (by decide)
      obtain ⟨c1, c2, c3⟩ : 0 ≤ (xs.getD c z_GCrossing).C ∧ (xs.getD c z_GCrossing).C < (name.length : Int) ∧ name.getD (xs.getD c z_GCrossing).C.toNat 0 = wayNo (2 * xs.length) (goneTo o t) (goneTo o f) nx (xs.getD c z_GCrossing).C.toNat := hp 2 (by decide)
      obtain ⟨d1, d2, d3⟩ : 0 ≤ (xs.getD c z_GCrossing).D ∧ (xs.getD c z_GCrossing).D < (name.length : Int) ∧ name.getD (xs.getD c z_GCrossing).D.toNat 0 = wayNo (2 * xs.length) (goneTo o t) (goneTo o f) nx (xs.getD c z_GCrossing).D.toNat := hp 3 (by decide)
      simp only [Bool.false_eq_true, if_false]
      rw [if_pos ⟨a1, a2⟩, if_pos ⟨b1, b2⟩, if_pos ⟨c1, c2⟩, if_pos ⟨d1, d2⟩, if_pos (by omega)]
      have e : (⟨name.getD (xs.getD c z_GCrossing).A.toNat 0, name.getD (xs.getD c z_GCrossing).B.toNat 0, name.getD (xs.getD c z_GCrossing).C.toNat 0, name.getD (xs.getD c z_GCrossing).D.toNat 0, (xs.getD c z_GCrossing).Sign⟩ : GCrossing) = renamed (2 * xs.length) (goneTo o t) (goneTo o f) nx (xs.getD c z_GCrossing) := by
        unfold renamed
        have h1 : name.getD (xs.getD c z_GCrossing).A.toNat 0 = wayNo (2 * xs.length) (goneTo o t) (goneTo o f) nx (xs.getD c z_GCrossing).A.toNat := a3
        have h2 : name.getD (xs.getD c z_GCrossing).B.toNat 0 = wayNo (2 * xs.length) (goneTo o t) (goneTo o f) nx (xs.getD c z_GCrossing).B.toNat := b3
        have h3 : name.getD (xs.getD c z_GCrossing).C.toNat 0 = wayNo (2 * xs.length) (goneTo o t) (goneTo o f) nx (xs.getD c z_GCrossing).C.toNat := c3
        have h4 : name.getD (xs.getD c z_GCrossing).D.toNat 0 = wayNo (2 * xs.length) (goneTo o t) (goneTo o f) nx (xs.getD c z_GCrossing).D.toNat := d3
        rw [h1, h2, h3, h4]
      rw [e]
theorem unite_f {cs : Int} {F : List GCrossing × Int}
    (next : ∀ name used, Named xs (goneTo o t) (goneTo o f) nx (On (2 * xs.length) (goneTo o t) (goneTo o f) nx) name used → Tends2 (fun K k => spec_l28Unite.l15 K k xs o A name cs used 0) F) : Tends (fun K => spec_l28Unite.f K xs cs o A) F := by
  have hw2 : w64 (2 * (xs.length : Int)) = 2 * (xs.length : Int) := w64_id (by omega) (by omega)
  have ht : (2 * (xs.length : Int)).toNat = 2 * xs.length := by omega
  have h := unite_l1 hn hs hg ho hA hw hnx next (2 * xs.length) 0 (List.replicate (2 * xs.length) (0 : Int)) (List.replicate (2 * xs.length) false) rfl (Nat.zero_le _) ⟨by simp, by simp, fun b hb => ?_, fun b hb ⟨s, i, h, _⟩ => absurd h (Nat.not_lt_zero _)⟩
  · unfold spec_l28Unite.f
    rw [hw2, ht]
    exact Tends.pos (by omega) (Tends.pos (by omega) (Tends.pos (by omega) h.diag))
  · rw [getD_repB]
    exact ⟨fun h => Bool.noConfusion h, fun ⟨s, i, h, _⟩ => absurd h (Nat.not_lt_zero _)⟩
end
end Go.Proofs.YtdfiglhdjlmakaaGreat
