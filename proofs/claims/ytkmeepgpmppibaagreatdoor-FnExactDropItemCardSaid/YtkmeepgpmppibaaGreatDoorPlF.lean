/-
  The regions: both walks over the corners run in step.
-/
import Derived.Test.YtkmeepgpmppibaaGreatDoorPlE
set_option linter.unusedVariables false
set_option linter.unusedSimpArgs false
set_option linter.unusedSectionVars false
namespace Go.Proofs.YtkmeepgpmppibaaGreatDoor
open Go.RowKit
theorem count_unset : ∀ (l : List Bool) (i : Nat), l[i]? = some false → (l.set i true).count false + 1 = l.count false
  | b :: r, 0, h => by
    obtain rfl : b = false := by simpa using h
    simp
  | b :: r, i + 1, h => by
    have := count_unset r i (by simpa using h)
    rw [List.set_cons_succ, List.count_cons, List.count_cons]
    omega
theorem endAt_inj {q q' : Nat} (h : endAt q = endAt q') : q = q' := by
  unfold endAt at h
  rw [GEnd.mk.injEq] at h
  omega
def RegionOk (n : Nat) (r : List Int) : Prop := r.length ≤ 4 * n ∧ ∃ first : Nat, r.head? = some (first : Int) ∧ ∀ k, k ∈ r → ∃ j : Nat, k = (j : Int) ∧ j < 4 * n ∧ first ≤ j
def RegionsOk (n : Nat) (R : List (List Int)) : Prop := R.length ≤ 4 * n ∧ ∀ r, r ∈ R → RegionOk n r
structure RI (n first at_ : Nat) (done : List Bool) (region : List Int) : Prop where
  low : ∀ j, j < first → done.getD j false = true
  mem : ∀ k, k ∈ region → ∃ j : Nat, k = (j : Int) ∧ j < 4 * n ∧ first ≤ j
  hd : 0 < region.length → region.head? = some (first : Int) ∧ done.getD first false = true
  nl : region = [] → at_ = first
theorem getD_set_true {l : List Bool} {i j : Nat} (h : l.getD j false = true) : (l.set i true).getD j false = true := by
  rw [List.getD_eq_getElem?_getD, List.getElem?_set]
  by_cases hij : i = j
  · subst hij
    rw [if_pos rfl]
    by_cases hl : i < l.length
    · rw [if_pos hl]; rfl
    · rw [List.getD_eq_getElem?_getD, List.getElem?_eq_none (by omega)] at h
      cases h
  · rw [if_neg hij, ← List.getD_eq_getElem?_getD]; exact h
theorem getD_set_self {l : List Bool} {i : Nat} (h : i < l.length) : (l.set i true).getD i false = true := by
  rw [List.getD_eq_getElem?_getD, List.getElem?_set_self h]; rfl
theorem RI.step {n first at_ k' : Nat} {done : List Bool} {region : List Int} (h : RI n first at_ done region) (hd : ¬ done.getD at_ false = true) (ha : at_ < 4 * n) (hl : done.length = 4 * n) : RI n first k' (done.set at_ true) (region ++ [(at_ : Int)]) where
  low := fun j hj => getD_set_true (h.low j hj)
  mem := fun k hk => by
    rcases List.mem_append.1 hk with hk | hk
    · exact h.mem k hk
    · refine ⟨at_, List.mem_singleton.1 hk, ha, Nat.le_of_not_lt (fun hlt => hd (h.low at_ hlt))⟩
  hd := fun _ => by
    by_cases hr : region = []
    · have := h.nl hr
      subst this
      subst hr
      exact ⟨rfl, getD_set_self (by omega)⟩
    · have h0 : 0 < region.length := List.length_pos_iff.2 hr
      obtain ⟨h1, h2⟩ := h.hd h0
      refine ⟨?_, getD_set_true h2⟩
      cases region with
      | nil => exact absurd rfl hr
      | cons x r => exact h1
  nl := fun e => by simp at e
theorem RI.ok {n first at_ : Nat} {done : List Bool} {region : List Int} (h : RI n first at_ done region) (h0 : 0 < region.length) (hl : region.length ≤ 4 * n) : RegionOk n region := ⟨hl, first, (h.hd h0).1, h.mem⟩
theorem low_succ {first : Nat} {done : List Bool} (h : ∀ j, j < first → done.getD j false = true) (h1 : done.getD first false = true) : ∀ j, j < first + 1 → done.getD j false = true := fun j hj => by
  by_cases hj2 : j < first
  · exact h j hj2
  · obtain rfl : j = first := by omega
    exact h1
theorem ok_snoc {n : Nat} {out : List (List Int)} {r : List Int} (h : ∀ r, r ∈ out → RegionOk n r) (hr : RegionOk n r) : ∀ r', r' ∈ out ++ [r] → RegionOk n r' := fun r' h' => by
  rcases List.mem_append.1 h' with h' | h'
  · exact h r' h'
  · rw [List.mem_singleton.1 h']; exact hr
section
variable {xs : List GCrossing} (hn : xs.length ≤ 10) (hs : Signs xs) {f t : List GEnd} (hg : Good xs f t)
include hn hs hg
theorem Good.one {q q' : Nat} (hq : q < 4 * xs.length) (hq' : q' < 4 * xs.length) (ha : arcAt xs q = arcAt xs q') (he : entAt xs q = entAt xs q') : q = q' := by
  cases h : entAt xs q with
  | true =>
    have h1 := (hg.tin q hq h).2.2
    have h2 := (hg.tin q' hq' (he ▸ h)).2.2
    rw [ha, h2] at h1
    exact (endAt_inj (Option.some.inj h1)).symm
  | false =>
    have h1 := (hg.fout q hq h).2.2
    have h2 := (hg.fout q' hq' (he ▸ h)).2.2
    rw [ha, h2] at h1
    exact (endAt_inj (Option.some.inj h1)).symm
theorem Good.mate {q : Nat} (hq : q < 4 * xs.length) : ∃ q', q' < 4 * xs.length ∧ arcAt xs q' = arcAt xs q ∧ entAt xs q' = !entAt xs q := by
  cases h : entAt xs q with
  | true =>
    obtain ⟨h0, h1, _⟩ := hg.tin q hq h
    obtain ⟨q', a, b, c⟩ := hg.fall (arcAt xs q).toNat (by omega)
    exact ⟨q', a, by omega, b⟩
  | false =>
    obtain ⟨h0, h1, _⟩ := hg.fout q hq h
    obtain ⟨q', a, b, c⟩ := hg.tall (arcAt xs q).toNat (by omega)
    exact ⟨q', a, by omega, b⟩
theorem Good.place {q : Nat} (hq : q < 4 * xs.length) {a : Int} {b : Bool} (ha : arcAt xs q = a) (hb : entAt xs q = b) (cs : Int) : Tends (fun K => spec_l25Place.f K xs cs a b) (((q / 4 : Nat) : Int), ((q % 4 : Nat) : Int)) :=
  Go.Proofs.YtkmeepgpmppibaaGreatDoor.place (by omega) hq ha hb (fun q' h1 h2 => by
    have := hg.one hn hs hq (show q' < 4 * xs.length by omega) (by rw [ha, h2.1]) (by rw [hb, h2.2])
    omega) cs
theorem successor (cs : Int) {k : Nat} (hk : k < 4 * xs.length) : ∃ k', k' < 4 * xs.length ∧ Tends (fun K => spec_l25Successor.f K xs cs (k : Int)) (k' : Int) ∧
    impl_Diagram_other.f xs cs f t (w64 ((k : Int).tdiv 4)) ((w64 ((k : Int) + 1)).tmod 4) = some (((k' / 4 : Nat) : Int), ((k' % 4 : Nat) : Int)) := by
  have hp : (k % 4 + 1) % 4 < 4 := Nat.mod_lt _ (by decide)
  have hq : 4 * (k / 4) + (k % 4 + 1) % 4 < 4 * xs.length := by omega
  obtain ⟨k', h1, h2, h3⟩ := hg.mate hn hs hq
  have hc : w64 ((k : Int).tdiv 4) = ((k / 4 : Nat) : Int) := by
    have : (k : Int).tdiv 4 = ((k / 4 : Nat) : Int) := rfl
    rw [this]; exact w64_nat (by omega)
  have hm : w64 ((k : Int).tmod 4 + 1) = ((k % 4 + 1 : Nat) : Int) := by
    have : (k : Int).tmod 4 = ((k % 4 : Nat) : Int) := rfl
    rw [this]; exact w64_succ (by omega)
  have hm2 : (((k % 4 + 1 : Nat) : Int)).tmod 4 = (((k % 4 + 1) % 4 : Nat) : Int) := rfl
  have hm3 : (w64 ((k : Int) + 1)).tmod 4 = (((k % 4 + 1) % 4 : Nat) : Int) := by
    rw [w64_succ (by omega)]
    have : (((k + 1 : Nat) : Int)).tmod 4 = (((k + 1) % 4 : Nat) : Int) := rfl
    rw [this]
    omega
  have hcl : k / 4 < xs.length := by omega
  have hA := arcAt_cp xs (c := k / 4) hp
  have hE := entAt_cp xs (c := k / 4) hp
  refine ⟨k', h1, ?_, ?_⟩
  · have hpl := hg.place hn hs h1 (a := arcAt xs (4 * (k / 4) + (k % 4 + 1) % 4)) (b := !entAt xs (4 * (k / 4) + (k % 4 + 1) % 4)) h2 h3 cs
    refine Tends.congr (fun K => ?_) (Tends.bind2 hpl (Tends.congr (fun K => ?_) (Tends.const (k' : Int))) (G := fun K a b => some (w64 ((w64 (4 * a)) + b))))
    · rw [spec_l25Successor.f, hc, if_pos (by omega), bnd_eq, Int.toNat_natCast, hm, hm2, End_eq _ hp, Option.bind_some, Enters_eq _ hp, Option.bind_some, ← hA, ← hE]
    · show some (w64 (w64 (4 * ((k' / 4 : Nat) : Int)) + ((k' % 4 : Nat) : Int))) = _
      rw [w64_id (x := 4 * ((k' / 4 : Nat) : Int)) (by omega) (by omega), w64_id (by omega) (by omega)]
      congr 1
      omega
  · have hget : ([(xs.getD (k / 4) z_GCrossing).A, (xs.getD (k / 4) z_GCrossing).B, (xs.getD (k / 4) z_GCrossing).C, (xs.getD (k / 4) z_GCrossing).D] : List Int).getD ((k % 4 + 1) % 4) 0 = arcAt xs (4 * (k / 4) + (k % 4 + 1) % 4) := by rw [hA]; rfl
    have hen := enters_impl (hs _ hcl) hp
    rw [impl_Diagram_other.f, hc, hm3, if_pos (by omega), bnd_eq, Int.toNat_natCast]
    simp only [impl_Crossing_ends.f, bind4, Option.bind_some]
    rw [if_pos (by omega), hen, Option.bind_some, Int.toNat_natCast, hget, ← hE]
    cases hb : entAt xs (4 * (k / 4) + (k % 4 + 1) % 4) with
    | true =>
      rw [hb] at h3
      obtain ⟨p0, p1, p2⟩ := hg.fout k' h1 h3
      rw [h2] at p0 p1 p2
      rw [if_pos rfl, if_pos ⟨p0, by rw [hg.flen]; omega⟩, bnd_eq, List.getD_eq_getElem?_getD, p2]
      rfl
    | false =>
      rw [hb] at h3
      obtain ⟨p0, p1, p2⟩ := hg.tin k' h1 h3
      rw [h2] at p0 p1 p2
      rw [if_neg (by decide), if_pos ⟨p0, by rw [hg.tlen]; omega⟩, bnd_eq, List.getD_eq_getElem?_getD, p2]
      rfl
theorem regions_both (cs : Int) : ∀ μ : Nat,
    (∀ (first at_ : Nat) (out : List (List Int)) (done : List Bool) (region : List Int), first < 4 * xs.length → at_ < 4 * xs.length → done.length = 4 * xs.length → done.count false + (4 * xs.length - first) = μ → out.length ≤ first → region.length + done.count false ≤ 4 * xs.length → (done.getD at_ false = true → 0 < region.length) → RI xs.length first at_ done region → (∀ r, r ∈ out → RegionOk xs.length r) →
      ∃ R, RegionsOk xs.length R ∧ Tends2 (fun K k => spec_l25Regions.l4 K k xs cs out (first : Int) done region (at_ : Int)) R ∧ Tends2 (fun K k => impl_Diagram_regions.l4 K k xs cs f t out (first : Int) done region (at_ : Int)) R) ∧
    (∀ (first : Nat) (out : List (List Int)) (done : List Bool), first ≤ 4 * xs.length → done.length = 4 * xs.length → done.count false + (4 * xs.length - first) = μ → out.length ≤ first → (∀ j, j < first → done.getD j false = true) → (∀ r, r ∈ out → RegionOk xs.length r) →
      ∃ R, RegionsOk xs.length R ∧ Tends2 (fun K k => spec_l25Regions.l1 K k xs cs out done (first : Int)) R ∧ Tends2 (fun K k => impl_Diagram_regions.l1 K k xs cs f t out done (first : Int)) R) := by
  intro μ
  induction μ using Nat.strongRecOn with
  | _ μ ih =>
    have hw4 : w64 (4 * (xs.length : Int)) = 4 * (xs.length : Int) := w64_id (by omega) (by omega)
    have L4 : ∀ (first at_ : Nat) (out : List (List Int)) (done : List Bool) (region : List Int), first < 4 * xs.length → at_ < 4 * xs.length → done.length = 4 * xs.length → done.count false + (4 * xs.length - first) = μ → out.length ≤ first → region.length + done.count false ≤ 4 * xs.length → (done.getD at_ false = true → 0 < region.length) → RI xs.length first at_ done region → (∀ r, r ∈ out → RegionOk xs.length r) →
        ∃ R, RegionsOk xs.length R ∧ Tends2 (fun K k => spec_l25Regions.l4 K k xs cs out (first : Int) done region (at_ : Int)) R ∧ Tends2 (fun K k => impl_Diagram_regions.l4 K k xs cs f t out (first : Int) done region (at_ : Int)) R := by
      intro first at_ out done region hf ha hd hμ ho hrl hr hi hok
      by_cases hdn : done.getD at_ false = true
      · have hr0 := hr hdn
        obtain ⟨R, hR, h1, h2⟩ := (ih (μ - 1) (by omega)).2 (first + 1) (out ++ [region]) done (by omega) hd (by omega) (by rw [List.length_append]; simp; omega) (low_succ hi.low (hi.hd hr0).2) (ok_snoc hok (hi.ok hr0 (by omega)))
        refine ⟨R, hR, Tends2.succ (Tends2.congr (fun K k => ?_) h1), Tends2.succ (Tends2.congr (fun K k => ?_) h2)⟩
        · rw [spec_l25Regions.l4, if_pos (by omega), Int.toNat_natCast, if_pos hdn, if_pos (by omega), w64_succ (by omega)]
        · rw [impl_Diagram_regions.l4, if_pos (by omega), Int.toNat_natCast, if_pos hdn, if_pos (by omega), if_pos (by omega), w64_succ (by omega)]
      · have hfalse : done[at_]? = some false := by
          have h1 := getD_some (d := false) (show at_ < done.length by omega)
          rw [h1]
          cases hx : done.getD at_ false with
          | true => exact absurd hx hdn
          | false => rfl
        obtain ⟨k', hk, hS, hI⟩ := successor hn hs hg cs ha
        have hcnt := count_unset _ _ hfalse
        obtain ⟨R, hR, h1, h2⟩ := (ih (μ - 1) (by omega)).1 first k' out (done.set at_ true) (region ++ [(at_ : Int)]) hf hk (by rw [List.length_set]; exact hd) (by omega) ho (by rw [List.length_append]; simp; omega) (fun _ => by simp) (hi.step hdn ha hd) hok
        refine ⟨R, hR, Tends2.succ (Tends2.congr (fun K k => ?_) (Tends2.bind (G := fun K k t194 => spec_l25Regions.l4 K k xs cs out (first : Int) (done.set at_ true) (region ++ [(at_ : Int)]) t194) hS.two h1)), Tends2.succ (Tends2.congr (fun K k => ?_) h2)⟩
        · rw [spec_l25Regions.l4, if_pos (by omega), Int.toNat_natCast, if_neg hdn, if_pos (by omega)]
        · rw [impl_Diagram_regions.l4, if_pos (by omega), Int.toNat_natCast, if_neg hdn, if_pos (by omega), hI]
          simp only [bind2, Option.bind_some]
          have e1 : w64 (w64 (4 * ((k' / 4 : Nat) : Int)) + ((k' % 4 : Nat) : Int)) = (k' : Int) := by
            rw [w64_id (x := 4 * ((k' / 4 : Nat) : Int)) (by omega) (by omega), w64_id (by omega) (by omega)]
            omega
          rw [e1]
    refine ⟨L4, ?_⟩
    intro first out done hf hd hμ ho hlow hok
    have hll : ((List.replicate (w64 (4 * (xs.length : Int))).toNat false).length : Int) = 4 * (xs.length : Int) := by rw [List.length_replicate, hw4]; omega
    by_cases hlt : first < 4 * xs.length
    · by_cases hdn : done.getD first false = true
      · obtain ⟨R, hR, h1, h2⟩ := (ih (μ - 1) (by omega)).2 (first + 1) out done (by omega) hd (by omega) (by omega) (low_succ hlow hdn) hok
        refine ⟨R, hR, Tends2.succ (Tends2.congr (fun K k => ?_) h1), Tends2.succ (Tends2.congr (G := fun K k => impl_Diagram_regions.l4 K k xs cs f t out (first : Int) done [] (first : Int)) (fun K k => ?_) (Tends2.succ (Tends2.congr (fun K k => ?_) h2)))⟩
        · rw [spec_l25Regions.l1, if_pos (by omega), if_pos (by omega), Int.toNat_natCast, if_pos hdn, w64_succ (by omega)]
        · rw [impl_Diagram_regions.l1, hll, if_pos (by omega)]
        · rw [impl_Diagram_regions.l4, if_pos (by omega), Int.toNat_natCast, if_pos hdn, if_neg (by simp), w64_succ (by omega)]
      · obtain ⟨R, hR, h1, h2⟩ := L4 first first out done [] hlt hlt hd hμ ho (by have := List.count_le_length (a := false) (l := done); simp; omega) (fun h => absurd h hdn) ⟨hlow, fun k hk => (by simp at hk), fun h => absurd h (Nat.lt_irrefl _), fun _ => rfl⟩ hok
        refine ⟨R, hR, Tends2.succ (Tends2.congr (fun K k => ?_) h1), Tends2.succ (Tends2.congr (fun K k => ?_) h2)⟩
        · rw [spec_l25Regions.l1, if_pos (by omega), if_pos (by omega), Int.toNat_natCast, if_neg hdn]
        · rw [impl_Diagram_regions.l1, hll, if_pos (by omega)]
    · refine ⟨out, ⟨by omega, hok⟩, Tends2.succ (Tends2.congr (fun K k => ?_) (Tends2.const out)), Tends2.succ (Tends2.congr (fun K k => ?_) (Tends2.const out))⟩
      · rw [spec_l25Regions.l1, if_neg (by omega)]
      · rw [impl_Diagram_regions.l1, hll, if_neg (by omega)]
theorem regions (cs : Int) : ∃ R, RegionsOk xs.length R ∧ Tends (fun K => spec_l25Regions.f K xs cs) R ∧ Tends (fun K => impl_Diagram_regions.f K xs cs f t) R := by
  have hw4 : w64 (4 * (xs.length : Int)) = 4 * (xs.length : Int) := w64_id (by omega) (by omega)
  have ht : (4 * (xs.length : Int)).toNat = 4 * xs.length := by omega
  obtain ⟨R, hR, h1, h2⟩ := (regions_both hn hs hg cs _).2 0 [] (List.replicate (4 * xs.length) false) (by omega) (by simp) rfl (by simp) (fun j hj => absurd hj (Nat.not_lt_zero _)) (fun r hr => by simp at hr)
  refine ⟨R, hR, Tends.congr (fun K => ?_) h1.diag, Tends.congr (fun K => ?_) h2.diag⟩
  · rw [spec_l25Regions.f, hw4, ht, if_pos (by omega), if_pos (by omega)]
    rfl
  · rw [impl_Diagram_regions.f, hw4, ht, if_pos (by omega), if_pos (by omega)]
    rfl
end
end Go.Proofs.YtkmeepgpmppibaaGreatDoor
