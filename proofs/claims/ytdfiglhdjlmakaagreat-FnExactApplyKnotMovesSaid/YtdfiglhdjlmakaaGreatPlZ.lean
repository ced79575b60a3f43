/-
  Strands that go straight on through their crossings; the circles that a removal leaves: both counts are the same.
-/
import Derived.Test.YtdfiglhdjlmakaaGreatPlY
set_option linter.unusedVariables false
set_option linter.unusedSimpArgs false
set_option linter.unusedSectionVars false
namespace Go.Proofs.YtdfiglhdjlmakaaGreat
open Go.RowKit
theorem opp_ent {x : GCrossing} (h : x.Sign = 1 ∨ x.Sign = -1) {p : Nat} (hp : p < 4) : ent x ((p + 2) % 4) = !ent x p := by
  unfold ent
  rcases (show p = 0 ∨ p = 1 ∨ p = 2 ∨ p = 3 by omega) with e | e | e | e <;> subst e <;> rcases h with h | h <;> rw [h] <;> rfl
def onArc (xs : List GCrossing) (t : List GEnd) (a : Nat) : Nat := (endv (xs.getD (t.getD a z_GEnd).crossing.toNat z_GCrossing) (((t.getD a z_GEnd).position.toNat + 2) % 4)).toNat
section
variable {xs : List GCrossing} (hn : xs.length ≤ 10) (hs : Signs xs) {f t : List GEnd} (hg : Good xs f t)
include hn hs hg
theorem on_fwd (o : List Bool) {a : Nat} (ha : a < 2 * xs.length) : onArc xs t a < 2 * xs.length ∧ goneTo o f (onArc xs t a) = goneTo o t a ∧ onArc xs f (onArc xs t a) = a := by
  obtain ⟨c, p, hc, hp, _, hog, hte, harc, hent⟩ := place_to hn hs hg 0 (o := o) ha
  have hp2 : (p + 2) % 4 < 4 := Nat.mod_lt _ (by decide)
  have hq : 4 * c + (p + 2) % 4 < 4 * xs.length := by omega
  have he : onArc xs t a = (arcAt xs (4 * c + (p + 2) % 4)).toNat := by
    unfold onArc
    rw [hte, arcAt_cp xs hp2]; rfl
  have hr := hg.range hq
  have hl : entAt xs (4 * c + (p + 2) % 4) = false := by
    rw [entAt_cp xs hp2, opp_ent (hs c hc) hp, ← entAt_cp xs hp, hent]; rfl
  obtain ⟨_, _, hf⟩ := hg.fout _ hq hl
  have hfe := get_end hf
  rw [he]
  refine ⟨by omega, ?_, ?_⟩
  · rw [gone_from hn hs hg hq hl, ← hog, cp_div hp2]
  · unfold onArc
    rw [hfe]
    unfold endAt
    rw [cp_div hp2, cp_mod hp2]
    show (endv (xs.getD (c : Int).toNat z_GCrossing) (((((p + 2) % 4 : Nat) : Int).toNat + 2) % 4)).toNat = a
    rw [Int.toNat_natCast, Int.toNat_natCast, show ((p + 2) % 4 + 2) % 4 = p by omega, ← arcAt_cp xs hp, harc, Int.toNat_natCast]
theorem on_bwd (o : List Bool) {b : Nat} (hb : b < 2 * xs.length) : onArc xs f b < 2 * xs.length ∧ goneTo o t (onArc xs f b) = goneTo o f b ∧ onArc xs t (onArc xs f b) = b := by
  obtain ⟨c, p, hc, hp, _, hog, hte, harc, hent⟩ := place_from hn hs hg 0 (o := o) hb
  have hp2 : (p + 2) % 4 < 4 := Nat.mod_lt _ (by decide)
  have hq : 4 * c + (p + 2) % 4 < 4 * xs.length := by omega
  have he : onArc xs f b = (arcAt xs (4 * c + (p + 2) % 4)).toNat := by
    unfold onArc
    rw [hte, arcAt_cp xs hp2]; rfl
  have hr := hg.range hq
  have hl : entAt xs (4 * c + (p + 2) % 4) = true := by
    rw [entAt_cp xs hp2, opp_ent (hs c hc) hp, ← entAt_cp xs hp, hent]; rfl
  obtain ⟨_, _, hf⟩ := hg.tin _ hq hl
  have hfe := get_end hf
  rw [he]
  refine ⟨by omega, ?_, ?_⟩
  · rw [gone_to hn hs hg hq hl, ← hog, cp_div hp2]
  · unfold onArc
    rw [hfe]
    unfold endAt
    rw [cp_div hp2, cp_mod hp2]
    show (endv (xs.getD (c : Int).toNat z_GCrossing) (((((p + 2) % 4 : Nat) : Int).toNat + 2) % 4)).toNat = b
    rw [Int.toNat_natCast, Int.toNat_natCast, show ((p + 2) % 4 + 2) % 4 = p by omega, ← arcAt_cp xs hp, harc, Int.toNat_natCast]
theorem on_turn : Turn (2 * xs.length) (onArc xs t) (onArc xs f) :=
  ⟨fun a ha => ⟨(on_fwd hn hs hg [] ha).1, (on_fwd hn hs hg [] ha).2.2⟩, fun b hb => ⟨(on_bwd hn hs hg [] hb).1, (on_bwd hn hs hg [] hb).2.2⟩⟩
theorem on_wire (o : List Bool) : Wire (2 * xs.length) (goneTo o t) (goneTo o f) (onArc xs t) (onArc xs f) :=
  ⟨fun a ha hG => ⟨(on_fwd hn hs hg o ha).1, (on_fwd hn hs hg o ha).2.1.trans hG, (on_fwd hn hs hg o ha).2.2⟩, fun b hb hL => ⟨(on_bwd hn hs hg o hb).1, (on_bwd hn hs hg o hb).2.1.trans hL, (on_bwd hn hs hg o hb).2.2⟩⟩
theorem next_impl (cs : Int) {a : Nat} (ha : a < 2 * xs.length) : impl_Diagram_next.f xs cs f t (a : Int) = some (onArc xs t a : Int) := by
  obtain ⟨c, p, hc, hp, _, hog, hte, harc, hent⟩ := place_to hn hs hg cs (o := []) ha
  have hp2 : (p + 2) % 4 < 4 := Nat.mod_lt _ (by decide)
  have htl : (t.length : Int) = 2 * (xs.length : Int) := by rw [hg.tlen]; omega
  have hm : (w64 ((p : Int) + 2)).tmod 4 = (((p + 2) % 4 : Nat) : Int) := by rw [w64_id (by omega) (by omega)]; rfl
  have hr := hg.range (q := 4 * c + (p + 2) % 4) (by omega)
  rw [arcAt_cp xs hp2] at hr
  unfold impl_Diagram_next.f
  rw [if_pos (by omega), Int.toNat_natCast, hte]
  simp only [bnd_eq, impl_Crossing_ends.f, bind4, Option.bind_some, hm, Int.toNat_natCast, ends_get]
  rw [if_pos (by omega), if_pos (by omega)]
  unfold onArc
  rw [hte]
  congr 1
  show endv (xs.getD c z_GCrossing) ((p + 2) % 4) = ((endv (xs.getD (c : Int).toNat z_GCrossing) (((p : Int).toNat + 2) % 4)).toNat : Int)
  rw [Int.toNat_natCast, Int.toNat_natCast]
  omega
theorem next_spec (cs : Int) {a : Nat} (ha : a < 2 * xs.length) : Tends (fun K => spec_l25Next.f K xs cs (a : Int)) (onArc xs t a : Int) := by
  obtain ⟨c, p, hc, hp, hpl, hog, hte, harc, hent⟩ := place_to hn hs hg cs (o := []) ha
  have hp2 : (p + 2) % 4 < 4 := Nat.mod_lt _ (by decide)
  have hm : (w64 ((p : Int) + 2)).tmod 4 = (((p + 2) % 4 : Nat) : Int) := by rw [w64_id (by omega) (by omega)]; rfl
  have hr := hg.range (q := 4 * c + (p + 2) % 4) (by omega)
  rw [arcAt_cp xs hp2] at hr
  have e : (onArc xs t a : Int) = endv (xs.getD c z_GCrossing) ((p + 2) % 4) := by
    unfold onArc
    rw [hte]
    show ((endv (xs.getD (c : Int).toNat z_GCrossing) (((p : Int).toNat + 2) % 4)).toNat : Int) = _
    rw [Int.toNat_natCast, Int.toNat_natCast]
    omega
  unfold spec_l25Next.f
  refine Tends.bind2 hpl (Tends.pos (by omega) ?_)
  rw [e]
  refine Tends.congr (fun K => ?_) (Tends.const _)
  rw [bnd_eq, Int.toNat_natCast, hm, End_eq _ hp2]
  rfl
def cyc (nx : Nat → Nat) (m a : Nat) : List Int := (List.range m).map fun j => (it nx j a : Int)
theorem strand_in {cs : Int} {a m : Nat} (ha : a < 2 * xs.length) (h0 : 0 < m) (hmN : m ≤ 2 * xs.length) (hm : it (onArc xs t) m a = a) (hone : ∀ i j, i < m → j < m → it (onArc xs t) i a = it (onArc xs t) j a → i = j) {out : List (List Int)} (hout : out.length ≤ 100) {old : List Bool} (hun : ∀ j, j < m → old.getD (it (onArc xs t) j a) false = false) {F : List (List Int)}
    (next : ∀ new, Marked (2 * xs.length) (onArc xs t) a m old new → Tends2 (fun K k => impl_Diagram_strands.l1 K k xs cs f t (out ++ [cyc (onArc xs t) m a]) new ((a + 1 : Nat) : Int)) F) :
    ∀ (d i : Nat) (new : List Bool), m - i = d → i ≤ m → Marked (2 * xs.length) (onArc xs t) a i old new →
    Tends2 (fun K k => impl_Diagram_strands.l4 K k xs cs f t out (a : Int) new (cyc (onArc xs t) i a) (it (onArc xs t) i a : Int)) F
  | 0, i, new, hd, hi, hM => by
    obtain rfl : i = m := by omega
    have hl := hM.1
    have hnew : new.getD a false = true := (hM.2 a ha).2 (.inr ⟨0, h0, rfl⟩)
    refine Tends2.succ (Tends2.congr (fun K k => ?_) (next new hM))
    rw [hm, impl_Diagram_strands.l4, if_pos (by omega), Int.toNat_natCast, if_pos hnew, if_pos (by unfold cyc; simp only [List.length_map, List.length_range]; omega), if_pos (by omega), w64_succ (by omega)]
  | d + 1, i, new, hd, hi, hM => by
    have hlt := it_lt (on_turn hn hs hg) ha i
    have hl := hM.1
    have hnew : ¬ new.getD (it (onArc xs t) i a) false = true := fun h => by
      rcases (hM.2 _ hlt).1 h with h | ⟨j, hj, e⟩
      · rw [hun i (by omega)] at h; cases h
      · have := hone i j (by omega) (by omega) e
        omega
    refine Tends2.succ (Tends2.congr (fun K k => ?_) (strand_in ha h0 hmN hm hone hout hun next d (i + 1) _ (by omega) (by omega) (hM.next hlt)))
    rw [impl_Diagram_strands.l4, if_pos (by omega), Int.toNat_natCast, if_neg hnew, if_pos (by unfold cyc; simp only [List.length_map, List.length_range]; omega), next_impl hn hs hg cs hlt, Option.bind_some]
    have e : cyc (onArc xs t) (i + 1) a = cyc (onArc xs t) i a ++ [(it (onArc xs t) i a : Int)] := by unfold cyc; rw [List.range_succ, List.map_append]; rfl
    rw [e]
    rfl
theorem circle_in {A : List Int} (hA : A.length = 2 * xs.length) (hnA : ∀ a, a < 2 * xs.length → A.getD a 0 = (onArc xs t a : Int)) {o : List Bool} {name : List Int} {circ : Int} {a m : Nat} (ha : a < 2 * xs.length) (h0 : 0 < m) (hm : it (onArc xs t) m a = a) (hone : ∀ i j, i < m → j < m → it (onArc xs t) i a = it (onArc xs t) j a → i = j) {old : List Bool} (hun : ∀ j, j < m → old.getD (it (onArc xs t) j a) false = false) {F : List GCrossing × Int}
    (next : ∀ new, Marked (2 * xs.length) (onArc xs t) a m old new → Tends2 (fun K k => spec_l28Unite.l15 K k xs o A name (w64 (circ + 1)) new ((a + 1 : Nat) : Int)) F) :
    ∀ (d i : Nat) (new : List Bool), m - i = d → i ≤ m → Marked (2 * xs.length) (onArc xs t) a i old new →
    Tends2 (fun K k => spec_l28Unite.l20 K k xs o A name circ (a : Int) new (it (onArc xs t) i a : Int)) F
  | 0, i, new, hd, hi, hM => by
    obtain rfl : i = m := by omega
    have hl := hM.1
    have hnew : new.getD a false = true := (hM.2 a ha).2 (.inr ⟨0, h0, rfl⟩)
    refine Tends2.succ (Tends2.congr (fun K k => ?_) (next new hM))
    rw [hm, spec_l28Unite.l20, if_pos (by omega), Int.toNat_natCast, if_pos hnew, w64_succ (j := a) (by omega)]
  | d + 1, i, new, hd, hi, hM => by
    have hlt := it_lt (on_turn hn hs hg) ha i
    have hl := hM.1
    have hnew : ¬ new.getD (it (onArc xs t) i a) false = true := fun h => by
      rcases (hM.2 _ hlt).1 h with h | ⟨j, hj, e⟩
      · rw [hun i (by omega)] at h; cases h
      · have := hone i j (by omega) (by omega) e
        omega
    refine Tends2.succ (Tends2.congr (fun K k => ?_) (circle_in hA hnA ha h0 hm hone hun next d (i + 1) _ (by omega) (by omega) (hM.next hlt)))
    rw [spec_l28Unite.l20, if_pos (by omega), Int.toNat_natCast, if_neg hnew, if_pos (by omega), hnA _ hlt]
    rfl
end
end Go.Proofs.YtdfiglhdjlmakaaGreat
