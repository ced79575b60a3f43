/-
  Smoothed crossings: how the arcs go on; the reference's circles.
-/
import Derived.Test.YtdafmbaeiefacaaPlW
set_option linter.unusedVariables false
set_option linter.unusedSimpArgs false
set_option linter.unusedSectionVars false
namespace Go.Proofs.Ytdafmbaeiefacaa
open Go.RowKit
/-- The position at which a strand that enters at p leaves, smoothed. -/
def smo (x : GCrossing) (p : Nat) : Nat := if x.Sign = 1 then [1, 0, 3, 2].getD p 0 else [3, 2, 1, 0].getD p 0
theorem smo_lt (x : GCrossing) {p : Nat} (hp : p < 4) : smo x p < 4 := by
  unfold smo
  rcases (show p = 0 ∨ p = 1 ∨ p = 2 ∨ p = 3 by omega) with e | e | e | e <;> subst e <;> split <;> decide
theorem smo_two (x : GCrossing) {p : Nat} (hp : p < 4) : smo x (smo x p) = p := by
  unfold smo
  rcases (show p = 0 ∨ p = 1 ∨ p = 2 ∨ p = 3 by omega) with e | e | e | e <;> subst e <;> split <;> rfl
theorem smo_ent {x : GCrossing} (h : x.Sign = 1 ∨ x.Sign = -1) {p : Nat} (hp : p < 4) : ent x (smo x p) = !ent x p := by
  unfold ent smo
  rcases (show p = 0 ∨ p = 1 ∨ p = 2 ∨ p = 3 by omega) with e | e | e | e <;> subst e <;> rcases h with h | h <;> rw [h] <;> rfl
def smArc (xs : List GCrossing) (t : List GEnd) (a : Nat) : Nat := (endv (xs.getD (t.getD a z_GEnd).crossing.toNat z_GCrossing) (smo (xs.getD (t.getD a z_GEnd).crossing.toNat z_GCrossing) (t.getD a z_GEnd).position.toNat)).toNat
theorem it_add (nx : Nat → Nat) (a : Nat) : ∀ i j, it nx i (it nx j a) = it nx (i + j) a
  | 0, j => by rw [Nat.zero_add]; rfl
  | i + 1, j => by
    rw [show i + 1 + j = (i + j) + 1 by omega]
    show nx (it nx i (it nx j a)) = nx (it nx (i + j) a)
    rw [it_add nx a i j]
theorem it_mul {nx : Nat → Nat} {a m : Nat} (hm : it nx m a = a) : ∀ q, it nx (q * m) a = a
  | 0 => by rw [Nat.zero_mul]; rfl
  | q + 1 => by rw [Nat.succ_mul, ← it_add, hm, it_mul hm q]
theorem it_mod {nx : Nat → Nat} {a m : Nat} (hm : it nx m a = a) (h0 : 0 < m) (j : Nat) : ∃ j', j' < m ∧ it nx j a = it nx j' a := by
  refine ⟨j % m, Nat.mod_lt _ h0, ?_⟩
  have h1 : j = j % m + (j / m) * m := by rw [Nat.mul_comm]; exact (Nat.mod_add_div j m).symm
  conv => lhs; rw [h1, ← it_add, it_mul hm]
/-- How many numbers from a on, d of them, have a property. -/
def leads (P : Nat → Bool) : Nat → Nat → Nat
  | 0, _ => 0
  | d + 1, a => (if P a = true then 1 else 0) + leads P d (a + 1)
theorem leads_zero {P : Nat → Bool} : ∀ (d a : Nat), (∀ b, a ≤ b → b < a + d → P b = false) → leads P d a = 0
  | 0, _, _ => rfl
  | d + 1, a, h => by
    rw [leads, h a (Nat.le_refl _) (by omega), leads_zero d (a + 1) (fun b h1 h2 => h b (by omega) (by omega))]
    rfl
theorem leads_one {P : Nat → Bool} {e : Nat} : ∀ (d a : Nat), a ≤ e → e < a + d → (∀ b, a ≤ b → b < a + d → P b = true → b = e) → leads P d a = if P e = true then 1 else 0
  | 0, _, _, h, _ => by omega
  | d + 1, a, h1, h2, h => by
    rw [leads]
    by_cases e1 : a = e
    · subst e1
      rw [leads_zero d (a + 1) (fun b h3 h4 => by
        cases hx : P b with
        | false => rfl
        | true => have := h b (by omega) (by omega) hx; omega), Nat.add_zero]
    · have ha : ¬ P a = true := fun hp => e1 (h a (Nat.le_refl _) (by omega) hp)
      rw [if_neg ha, Nat.zero_add, leads_one d (a + 1) (by omega) (by omega) (fun b h3 h4 => h b (by omega) (by omega))]
theorem leads_two {P : Nat → Bool} {e u : Nat} (heu : e < u) : ∀ (d a : Nat), a ≤ e → u < a + d → (∀ b, a ≤ b → b < a + d → P b = true → b = e ∨ b = u) → leads P d a = (if P e = true then 1 else 0) + (if P u = true then 1 else 0)
  | 0, _, _, h, _ => by omega
  | d + 1, a, h1, h2, h => by
    rw [leads]
    by_cases e1 : a = e
    · subst e1
      rw [leads_one (e := u) d (a + 1) (by omega) (by omega) (fun b h3 h4 hp => (h b (by omega) (by omega) hp).resolve_left (by omega))]
    · have ha : ¬ P a = true := fun hp => (h a (Nat.le_refl _) (by omega) hp).elim e1 (by omega)
      rw [if_neg ha, Nat.zero_add, leads_two heu d (a + 1) (by omega) (by omega) (fun b h3 h4 => h b (by omega) (by omega))]
section
variable {xs : List GCrossing} (hn : xs.length ≤ 10) (hs : Signs xs) {f t : List GEnd} (hg : Good xs f t)
include hn hs hg
theorem sm_arc (o : List Bool) {a c p : Nat} (hp : p < 4) (hte : t.getD a z_GEnd = ⟨(c : Int), (p : Int)⟩) : smArc xs t a = (arcAt xs (4 * c + smo (xs.getD c z_GCrossing) p)).toNat := by
  unfold smArc
  rw [hte, arcAt_cp xs (smo_lt _ hp)]
  rfl
theorem sm_fwd (o : List Bool) {a : Nat} (ha : a < 2 * xs.length) : smArc xs t a < 2 * xs.length ∧ goneTo o f (smArc xs t a) = goneTo o t a ∧ smArc xs f (smArc xs t a) = a := by
  obtain ⟨c, p, hc, hp, _, hog, hte, harc, hent⟩ := place_to hn hs hg 0 (o := o) ha
  have hp2 := smo_lt (xs.getD c z_GCrossing) hp
  have hq : 4 * c + smo (xs.getD c z_GCrossing) p < 4 * xs.length := by omega
  have he := sm_arc hn hs hg o hp hte
  have hr := hg.range hq
  have hl : entAt xs (4 * c + smo (xs.getD c z_GCrossing) p) = false := by
    rw [entAt_cp xs hp2, smo_ent (hs c hc) hp, ← entAt_cp xs hp, hent]; rfl
  obtain ⟨_, _, hf⟩ := hg.fout _ hq hl
  have hfe := get_end hf
  rw [he]
  refine ⟨by omega, ?_, ?_⟩
  · rw [gone_from hn hs hg hq hl, ← hog, cp_div hp2]
  · unfold smArc
    rw [hfe]
    unfold endAt
    rw [cp_div hp2, cp_mod hp2]
    show (endv (xs.getD (c : Int).toNat z_GCrossing) (smo (xs.getD (c : Int).toNat z_GCrossing) ((smo (xs.getD c z_GCrossing) p : Nat) : Int).toNat)).toNat = a
    rw [Int.toNat_natCast, Int.toNat_natCast, smo_two _ hp, ← arcAt_cp xs hp, harc, Int.toNat_natCast]
theorem sm_bwd (o : List Bool) {b : Nat} (hb : b < 2 * xs.length) : smArc xs f b < 2 * xs.length ∧ goneTo o t (smArc xs f b) = goneTo o f b ∧ smArc xs t (smArc xs f b) = b := by
  obtain ⟨c, p, hc, hp, _, hog, hte, harc, hent⟩ := place_from hn hs hg 0 (o := o) hb
  have hp2 := smo_lt (xs.getD c z_GCrossing) hp
  have hq : 4 * c + smo (xs.getD c z_GCrossing) p < 4 * xs.length := by omega
  have he : smArc xs f b = (arcAt xs (4 * c + smo (xs.getD c z_GCrossing) p)).toNat := by
    unfold smArc
    rw [hte, arcAt_cp xs hp2]
    rfl
  have hr := hg.range hq
  have hl : entAt xs (4 * c + smo (xs.getD c z_GCrossing) p) = true := by
    rw [entAt_cp xs hp2, smo_ent (hs c hc) hp, ← entAt_cp xs hp, hent]; rfl
  obtain ⟨_, _, hf⟩ := hg.tin _ hq hl
  have hfe := get_end hf
  rw [he]
  refine ⟨by omega, ?_, ?_⟩
  · rw [gone_to hn hs hg hq hl, ← hog, cp_div hp2]
  · unfold smArc
    rw [hfe]
    unfold endAt
    rw [cp_div hp2, cp_mod hp2]
    show (endv (xs.getD (c : Int).toNat z_GCrossing) (smo (xs.getD (c : Int).toNat z_GCrossing) ((smo (xs.getD c z_GCrossing) p : Nat) : Int).toNat)).toNat = b
    rw [Int.toNat_natCast, Int.toNat_natCast, smo_two _ hp, ← arcAt_cp xs hp, harc, Int.toNat_natCast]
theorem sm_turn : Turn (2 * xs.length) (smArc xs t) (smArc xs f) :=
  ⟨fun a ha => ⟨(sm_fwd hn hs hg [] ha).1, (sm_fwd hn hs hg [] ha).2.2⟩, fun b hb => ⟨(sm_bwd hn hs hg [] hb).1, (sm_bwd hn hs hg [] hb).2.2⟩⟩
theorem sm_wire (o : List Bool) : Wire (2 * xs.length) (goneTo o t) (goneTo o f) (smArc xs t) (smArc xs f) :=
  ⟨fun a ha hG => ⟨(sm_fwd hn hs hg o ha).1, (sm_fwd hn hs hg o ha).2.1.trans hG, (sm_fwd hn hs hg o ha).2.2⟩, fun b hb hL => ⟨(sm_bwd hn hs hg o hb).1, (sm_bwd hn hs hg o hb).2.1.trans hL, (sm_bwd hn hs hg o hb).2.2⟩⟩
theorem sm_all (o : List Bool) {b : Nat} (hb : b < 2 * xs.length) : On (2 * xs.length) (goneTo o t) (goneTo o f) (smArc xs t) (smArc xs t b) ↔ On (2 * xs.length) (goneTo o t) (goneTo o f) (smArc xs t) b := by
  have hw := sm_wire hn hs hg o
  cases hG : goneTo o t b with
  | true => exact on_next hw hb hG
  | false =>
    have hf := sm_fwd hn hs hg o hb
    exact ⟨fun _ => on_end hw hb hG, fun _ => ⟨smArc xs t b, 0, ⟨hf.1, hf.2.1.trans hG⟩, .refl⟩⟩
theorem sm_it (o : List Bool) {a : Nat} (ha : a < 2 * xs.length) : ∀ i, On (2 * xs.length) (goneTo o t) (goneTo o f) (smArc xs t) (it (smArc xs t) i a) ↔ On (2 * xs.length) (goneTo o t) (goneTo o f) (smArc xs t) a
  | 0 => Iff.rfl
  | i + 1 => (sm_all hn hs hg o (it_lt (sm_turn hn hs hg) ha i)).trans (sm_it o ha i)
open Classical in
/-- The first arc of a circle that arises. -/
noncomputable def lead (N : Nat) (G Lf : Nat → Bool) (nx : Nat → Nat) (a : Nat) : Bool := decide (¬ On N G Lf nx a ∧ ¬ ∃ a' j, a' < a ∧ a = it nx j a')
omit hn hs hg in
open Classical in
theorem lead_iff {N : Nat} {G Lf : Nat → Bool} {nx : Nat → Nat} {a : Nat} : lead N G Lf nx a = true ↔ (¬ On N G Lf nx a ∧ ¬ ∃ a' j, a' < a ∧ a = it nx j a') := by
  unfold lead
  exact decide_eq_true_iff
variable (o : List Bool) {A : List Int} (hA : A.length = 2 * xs.length) (hnA : ∀ a, a < 2 * xs.length → goneTo o t a = true → A.getD a 0 = (smArc xs t a : Int))
include hA hnA
theorem circle_sm {name : List Int} {circ : Int} {a m : Nat} (ha : a < 2 * xs.length) (hon : ¬ On (2 * xs.length) (goneTo o t) (goneTo o f) (smArc xs t) a) (h0 : 0 < m) (hm : it (smArc xs t) m a = a) (hone : ∀ i j, i < m → j < m → it (smArc xs t) i a = it (smArc xs t) j a → i = j) {old : List Bool} (hun : ∀ j, j < m → old.getD (it (smArc xs t) j a) false = false) {F : List GCrossing × Int}
    (next : ∀ new, Marked (2 * xs.length) (smArc xs t) a m old new → Tends2 (fun K k => spec_l28Unite.l15 K k xs o A name (w64 (circ + 1)) new ((a + 1 : Nat) : Int)) F) :
    ∀ (d i : Nat) (new : List Bool), m - i = d → i ≤ m → Marked (2 * xs.length) (smArc xs t) a i old new →
    Tends2 (fun K k => spec_l28Unite.l20 K k xs o A name circ (a : Int) new (it (smArc xs t) i a : Int)) F
  | 0, i, new, hd, hi, hM => by
    obtain rfl : i = m := by omega
    have hl := hM.1
    have hnew : new.getD a false = true := (hM.2 a ha).2 (.inr ⟨0, h0, rfl⟩)
    refine Tends2.succ (Tends2.congr (fun K k => ?_) (next new hM))
    rw [hm, spec_l28Unite.l20, if_pos (by omega), Int.toNat_natCast, if_pos hnew, w64_succ (j := a) (by omega)]
  | d + 1, i, new, hd, hi, hM => by
    have hlt := it_lt (sm_turn hn hs hg) ha i
    have hl := hM.1
    have hnew : ¬ new.getD (it (smArc xs t) i a) false = true := fun h => by
      rcases (hM.2 _ hlt).1 h with h | ⟨j, hj, e⟩
      · rw [hun i (by omega)] at h; cases h
      · have := hone i j (by omega) (by omega) e
        omega
    have hG : goneTo o t (it (smArc xs t) i a) = true := by
      cases hx : goneTo o t (it (smArc xs t) i a) with
      | true => rfl
      | false => exact absurd ((sm_it hn hs hg o ha i).1 (on_end (sm_wire hn hs hg o) hlt hx)) hon
    refine Tends2.succ (Tends2.congr (fun K k => ?_) (circle_sm ha hon h0 hm hone hun next d (i + 1) _ (by omega) (by omega) (hM.next hlt)))
    rw [spec_l28Unite.l20, if_pos (by omega), Int.toNat_natCast, if_neg hnew, if_pos (by omega), hnA _ hlt hG]
    rfl
theorem circles_sm {name : List Int} {F : List GCrossing × Int} : ∀ (d a : Nat) (used : List Bool) (circ : Int), 2 * xs.length - a = d → a ≤ 2 * xs.length → used.length = 2 * xs.length →
    (∀ b, b < 2 * xs.length → (used.getD b false = true ↔ (On (2 * xs.length) (goneTo o t) (goneTo o f) (smArc xs t) b ∨ ∃ a' j, a' < a ∧ b = it (smArc xs t) j a'))) →
    Tends2 (fun K k => spec_l28Unite.l21 K k xs o name (addW circ (leads (lead (2 * xs.length) (goneTo o t) (goneTo o f) (smArc xs t)) d a)) ([] : List GCrossing) 0) F → Tends2 (fun K k => spec_l28Unite.l15 K k xs o A name circ used (a : Int)) F
  | 0, a, used, circ, hd, ha, hul, hus, h => by
    obtain rfl : a = 2 * xs.length := by omega
    have hw2 : w64 (2 * (xs.length : Int)) = 2 * (xs.length : Int) := w64_id (by omega) (by omega)
    refine Tends2.succ (Tends2.congr (fun K k => ?_) h)
    rw [spec_l28Unite.l15, hw2, if_neg (by omega)]
    rfl
  | d + 1, a, used, circ, hd, ha, hul, hus, h => by
    have hal : a < 2 * xs.length := by omega
    have hw2 : w64 (2 * (xs.length : Int)) = 2 * (xs.length : Int) := w64_id (by omega) (by omega)
    have hT := sm_turn hn hs hg
    rw [leads] at h
    by_cases hu : used.getD a false = true
    · have hl : ¬ lead (2 * xs.length) (goneTo o t) (goneTo o f) (smArc xs t) a = true := fun hl => by
        have := lead_iff.1 hl
        rcases (hus a hal).1 hu with h1 | h1
        · exact this.1 h1
        · exact this.2 h1
      rw [if_neg hl, Nat.zero_add] at h
      refine Tends2.succ (Tends2.congr (fun K k => ?_) (circles_sm d (a + 1) used circ (by omega) (by omega) hul (fun b hb => ?_) h))
      · rw [spec_l28Unite.l15, hw2, if_pos (by omega), if_pos (by omega), Int.toNat_natCast, if_pos hu, w64_succ (by omega)]
      · rw [hus b hb]
        constructor
        · rintro (h1 | ⟨a', j, h1, h2⟩)
          · exact .inl h1
          · exact .inr ⟨a', j, by omega, h2⟩
        · rintro (h1 | ⟨a', j, h1, h2⟩)
          · exact .inl h1
          · by_cases e : a' = a
            · subst e
              rcases (hus a' hal).1 hu with h3 | ⟨a2, j2, h3, h4⟩
              · rw [h2]; exact .inl ((sm_it hn hs hg o hal j).2 h3)
              · exact .inr ⟨a2, j + j2, h3, by rw [h2, ← it_add, ← h4]⟩
            · exact .inr ⟨a', j, by omega, h2⟩
    · have hno := fun h1 => hu ((hus a hal).2 h1)
      have hon : ¬ On (2 * xs.length) (goneTo o t) (goneTo o f) (smArc xs t) a := fun h1 => hno (.inl h1)
      have hl : lead (2 * xs.length) (goneTo o t) (goneTo o f) (smArc xs t) a = true := lead_iff.2 ⟨hon, fun h1 => hno (.inr h1)⟩
      rw [if_pos hl, Nat.add_comm] at h
      obtain ⟨m, h0, hmN, hm, hone⟩ := period hT hal
      have hun : ∀ j, j < m → used.getD (it (smArc xs t) j a) false = false := fun j hj => by
        cases hx : used.getD (it (smArc xs t) j a) false with
        | false => rfl
        | true =>
          rcases (hus _ (it_lt hT hal j)).1 hx with h1 | ⟨a', j', h1, h2⟩
          · exact absurd ((sm_it hn hs hg o hal j).1 h1) hon
          · refine absurd (.inr ⟨a', (m - j) + j', h1, ?_⟩) hno
            rw [← it_add, ← h2, it_add, show m - j + j = m by omega, hm]
      obtain ⟨new, hM⟩ := Marked.all hT hal hul m
      have hc := circle_sm hn hs hg o hA hnA (name := name) (circ := circ) hal hon h0 hm hone hun (F := F) (fun new' hM' => by
        rw [hM'.unique hM]
        refine circles_sm d (a + 1) new (w64 (circ + 1)) (by omega) (by omega) hM.1 (fun b hb => ?_) h
        rw [hM.2 b hb, hus b hb]
        constructor
        · rintro ((h1 | ⟨a', j, h1, h2⟩) | ⟨j, h1, h2⟩)
          · exact .inl h1
          · exact .inr ⟨a', j, by omega, h2⟩
          · exact .inr ⟨a, j, by omega, h2⟩
        · rintro (h1 | ⟨a', j, h1, h2⟩)
          · exact .inl (.inl h1)
          · by_cases e : a' = a
            · subst e
              obtain ⟨j', hj', e'⟩ := it_mod hm h0 j
              exact .inr ⟨j', hj', by rw [h2, e']⟩
            · exact .inl (.inr ⟨a', j, by omega, h2⟩)) m 0 used rfl (Nat.zero_le _) (Marked.none hul)
      refine Tends2.succ (Tends2.congr (fun K k => ?_) hc)
      rw [spec_l28Unite.l15, hw2, if_pos (by omega), if_pos (by omega), Int.toNat_natCast, if_neg hu]
      rfl
end
end Go.Proofs.Ytdafmbaeiefacaa
