/-
  The regions: both walks over the corners run in step.
-/
import Derived.Test.YtkmeepgpmppibaaGreatDoorPlE
set_option linter.unusedVariables false
set_option linter.unusedSimpArgs false
set_option linter.unusedSectionVars false
namespace Go.Proofs.YtkmeepgpmppibaaGreatDoor
open Go.RowKit
theorem Uw : ∀ (l : List Bool) (i : Nat), l[i]? = some false → (l.set i true).count false + 1 = l.count false
  | b :: r, 0, h => by
    obtain rfl : b = false := by simpa using h
    simp
  | b :: r, i + 1, h => by
    have := Uw r i (by simpa using h)
    rw [List.set_cons_succ, List.count_cons, List.count_cons]
    omega
theorem Yo {q q' : Nat} (h : N9 q = N9 q') : q = q' := by
  unfold N9 at h
  rw [Fv.mk.injEq] at h
  omega
def Ow (n : Nat) (r : List Int) : Prop := r.length ≤ 4 * n ∧ ∃ first : Nat, r.head? = some (first : Int) ∧ ∀ k, k ∈ r → ∃ j : Nat, k = (j : Int) ∧ j < 4 * n ∧ first ≤ j
def Ru (n : Nat) (R : List (List Int)) : Prop := R.length ≤ 4 * n ∧ ∀ r, r ∈ R → Ow n r
structure RI (n first at_ : Nat) (done : List Bool) (region : List Int) : Prop where
  low : ∀ j, j < first → done.getD j false = true
  mem : ∀ k, k ∈ region → ∃ j : Nat, k = (j : Int) ∧ j < 4 * n ∧ first ≤ j
  hd : 0 < region.length → region.head? = some (first : Int) ∧ done.getD first false = true
  nl : region = [] → at_ = first
theorem getD_set_true {l : List Bool} {i j : Nat} (h : l.getD j false = true) : (l.set i true).getD j false = true := by
  rw [List.getD_eq_getElem?_getD, List.getElem?_set]
  by_cases hij : i = j
  · subst hij
    rw [if_pos rfl]
    by_cases hl : i < l.length
    · rw [if_pos hl]; rfl
    · rw [List.getD_eq_getElem?_getD, List.getElem?_eq_none (by omega)] at h
      cases h
  · rw [if_neg hij, ← List.getD_eq_getElem?_getD]; exact h
theorem Xi {l : List Bool} {i : Nat} (h : i < l.length) : (l.set i true).getD i false = true := by
  rw [List.getD_eq_getElem?_getD, List.getElem?_set_self h]; rfl
theorem RI.step {n first at_ k' : Nat} {done : List Bool} {region : List Int} (h : RI n first at_ done region) (hd : ¬ done.getD at_ false = true) (ha : at_ < 4 * n) (hl : done.length = 4 * n) : RI n first k' (done.set at_ true) (region ++ [(at_ : Int)]) where
  low := fun j hj => getD_set_true (h.low j hj)
  mem := fun k hk => by
    rcases List.mem_append.1 hk with hk | hk
    · exact h.mem k hk
    · refine ⟨at_, List.mem_singleton.1 hk, ha, Nat.le_of_not_lt (fun hlt => hd (h.low at_ hlt))⟩
  hd := fun _ => by
    by_cases hr : region = []
    · have := h.nl hr
      subst this
      subst hr
      exact ⟨rfl, Xi (by omega)⟩
    · have h0 : 0 < region.length := List.length_pos_iff.2 hr
      obtain ⟨h1, h2⟩ := h.hd h0
      refine ⟨?_, getD_set_true h2⟩
      cases region with
      | nil => exact absurd rfl hr
      | cons x r => exact h1
  nl := fun e => by simp at e
theorem RI.ok {n first at_ : Nat} {done : List Bool} {region : List Int} (h : RI n first at_ done region) (h0 : 0 < region.length) (hl : region.length ≤ 4 * n) : Ow n region := ⟨hl, first, (h.hd h0).1, h.mem⟩
theorem bH {first : Nat} {done : List Bool} (h : ∀ j, j < first → done.getD j false = true) (h1 : done.getD first false = true) : ∀ j, j < first + 1 → done.getD j false = true := fun j hj => by
  by_cases hj2 : j < first
  · exact h j hj2
  · obtain rfl : j = first := by omega
    exact h1
theorem rP {n : Nat} {out : List (List Int)} {r : List Int} (h : ∀ r, r ∈ out → Ow n r) (hr : Ow n r) : ∀ r', r' ∈ out ++ [r] → Ow n r' := fun r' h' => by
  rcases List.mem_append.1 h' with h' | h'
  · exact h r' h'
  · rw [List.mem_singleton.1 h']; exact hr
section
variable {xs : List Al} (hn : xs.length ≤ 10) (hs : Sz xs) {f t : List Fv} (hg : Good xs f t)
include hn hs hg
theorem Good.one {q q' : Nat} (hq : q < 4 * xs.length) (hq' : q' < 4 * xs.length) (ha : Gj xs q = Gj xs q') (he : Kn xs q = Kn xs q') : q = q' := by
  cases h : Kn xs q with
  | true =>
    have h1 := (hg.tin q hq h).2.2
    have h2 := (hg.tin q' hq' (he ▸ h)).2.2
    rw [ha, h2] at h1
    exact (Yo (Option.some.inj h1)).symm
  | false =>
    have h1 := (hg.jR q hq h).2.2
    have h2 := (hg.jR q' hq' (he ▸ h)).2.2
    rw [ha, h2] at h1
    exact (Yo (Option.some.inj h1)).symm
theorem Good.yK {q : Nat} (hq : q < 4 * xs.length) : ∃ q', q' < 4 * xs.length ∧ Gj xs q' = Gj xs q ∧ Kn xs q' = !Kn xs q := by
  cases h : Kn xs q with
  | true =>
    obtain ⟨h0, h1, _⟩ := hg.tin q hq h
    obtain ⟨q', a, b, c⟩ := hg.fall (Gj xs q).toNat (by omega)
    exact ⟨q', a, by omega, b⟩
  | false =>
    obtain ⟨h0, h1, _⟩ := hg.jR q hq h
    obtain ⟨q', a, b, c⟩ := hg.wS (Gj xs q).toNat (by omega)
    exact ⟨q', a, by omega, b⟩
theorem Good.place {q : Nat} (hq : q < 4 * xs.length) {a : Int} {b : Bool} (ha : Gj xs q = a) (hb : Kn xs q = b) (cs : Int) : Ab (fun K => Ck.f K xs cs a b) (((q / 4 : Nat) : Int), ((q % 4 : Nat) : Int)) :=
  Go.Proofs.YtkmeepgpmppibaaGreatDoor.place (by omega) hq ha hb (fun q' h1 h2 => by
    have := hg.one hn hs hq (show q' < 4 * xs.length by omega) (by rw [ha, h2.1]) (by rw [hb, h2.2])
    omega) cs
theorem successor (cs : Int) {k : Nat} (hk : k < 4 * xs.length) : ∃ k', k' < 4 * xs.length ∧ Ab (fun K => Ia.f K xs cs (k : Int)) (k' : Int) ∧
    Hr.f xs cs f t (w64 ((k : Int).tdiv 4)) ((w64 ((k : Int) + 1)).tmod 4) = some (((k' / 4 : Nat) : Int), ((k' % 4 : Nat) : Int)) := by
  have hp : (k % 4 + 1) % 4 < 4 := Nat.mod_lt _ (by decide)
  have hq : 4 * (k / 4) + (k % 4 + 1) % 4 < 4 * xs.length := by omega
  obtain ⟨k', h1, h2, h3⟩ := hg.yK hn hs hq
  have hc : w64 ((k : Int).tdiv 4) = ((k / 4 : Nat) : Int) := by
    have : (k : Int).tdiv 4 = ((k / 4 : Nat) : Int) := rfl
    rw [this]; exact rE (by omega)
  have hm : w64 ((k : Int).tmod 4 + 1) = ((k % 4 + 1 : Nat) : Int) := by
    have : (k : Int).tmod 4 = ((k % 4 : Nat) : Int) := rfl
    rw [this]; exact Cc (by omega)
  have hm2 : (((k % 4 + 1 : Nat) : Int)).tmod 4 = (((k % 4 + 1) % 4 : Nat) : Int) := rfl
  have hm3 : (w64 ((k : Int) + 1)).tmod 4 = (((k % 4 + 1) % 4 : Nat) : Int) := by
    rw [Cc (by omega)]
    have : (((k + 1 : Nat) : Int)).tmod 4 = (((k + 1) % 4 : Nat) : Int) := rfl
    rw [this]
    omega
  have hcl : k / 4 < xs.length := by omega
  have hA := Tj xs (c := k / 4) hp
  have hE := Ot xs (c := k / 4) hp
  refine ⟨k', h1, ?_, ?_⟩
  · have hpl := hg.place hn hs h1 (a := Gj xs (4 * (k / 4) + (k % 4 + 1) % 4)) (b := !Kn xs (4 * (k / 4) + (k % 4 + 1) % 4)) h2 h3 cs
    refine Ab.congr (fun K => ?_) (Ab.Ed hpl (Ab.congr (fun K => ?_) (Ab.const (k' : Int))) (G := fun K a b => some (w64 ((w64 (4 * a)) + b))))
    · rw [Ia.f, hc, if_pos (by omega), Fe, Int.toNat_natCast, hm, hm2, Y7 _ hp, Option.bind_some, Ry _ hp, Option.bind_some, ← hA, ← hE]
    · show some (w64 (w64 (4 * ((k' / 4 : Nat) : Int)) + ((k' % 4 : Nat) : Int))) = _
      rw [H8 (x := 4 * ((k' / 4 : Nat) : Int)) (by omega) (by omega), H8 (by omega) (by omega)]
      congr 1
      omega
  · have hget : ([(xs.getD (k / 4) Au).A, (xs.getD (k / 4) Au).B, (xs.getD (k / 4) Au).C, (xs.getD (k / 4) Au).D] : List Int).getD ((k % 4 + 1) % 4) 0 = Gj xs (4 * (k / 4) + (k % 4 + 1) % 4) := by rw [hA]; rfl
    have hen := Uq (hs _ hcl) hp
    rw [Hr.f, hc, hm3, if_pos (by omega), Fe, Int.toNat_natCast]
    simp only [Gs.f, M9, Option.bind_some]
    rw [if_pos (by omega), hen, Option.bind_some, Int.toNat_natCast, hget, ← hE]
    cases hb : Kn xs (4 * (k / 4) + (k % 4 + 1) % 4) with
    | true =>
      rw [hb] at h3
      obtain ⟨p0, p1, p2⟩ := hg.jR k' h1 h3
      rw [h2] at p0 p1 p2
      rw [if_pos rfl, if_pos ⟨p0, by rw [hg.qB]; omega⟩, Fe, List.getD_eq_getElem?_getD, p2]
      rfl
    | false =>
      rw [hb] at h3
      obtain ⟨p0, p1, p2⟩ := hg.tin k' h1 h3
      rw [h2] at p0 p1 p2
      rw [if_neg (by decide), if_pos ⟨p0, by rw [hg.Tp]; omega⟩, Fe, List.getD_eq_getElem?_getD, p2]
      rfl
theorem Zd (cs : Int) : ∀ μ : Nat,
    (∀ (first at_ : Nat) (out : List (List Int)) (done : List Bool) (region : List Int), first < 4 * xs.length → at_ < 4 * xs.length → done.length = 4 * xs.length → done.count false + (4 * xs.length - first) = μ → out.length ≤ first → region.length + done.count false ≤ 4 * xs.length → (done.getD at_ false = true → 0 < region.length) → RI xs.length first at_ done region → (∀ r, r ∈ out → Ow xs.length r) →
      ∃ R, Ru xs.length R ∧ Ac (fun K k => Cj.l4 K k xs cs out (first : Int) done region (at_ : Int)) R ∧ Ac (fun K k => Bz.l4 K k xs cs f t out (first : Int) done region (at_ : Int)) R) ∧
    (∀ (first : Nat) (out : List (List Int)) (done : List Bool), first ≤ 4 * xs.length → done.length = 4 * xs.length → done.count false + (4 * xs.length - first) = μ → out.length ≤ first → (∀ j, j < first → done.getD j false = true) → (∀ r, r ∈ out → Ow xs.length r) →
      ∃ R, Ru xs.length R ∧ Ac (fun K k => Cj.l1 K k xs cs out done (first : Int)) R ∧ Ac (fun K k => Bz.l1 K k xs cs f t out done (first : Int)) R) := by
  intro μ
  induction μ using Nat.strongRecOn with
  | _ μ ih =>
    have hw4 : w64 (4 * (xs.length : Int)) = 4 * (xs.length : Int) := H8 (by omega) (by omega)
    have L4 : ∀ (first at_ : Nat) (out : List (List Int)) (done : List Bool) (region : List Int), first < 4 * xs.length → at_ < 4 * xs.length → done.length = 4 * xs.length → done.count false + (4 * xs.length - first) = μ → out.length ≤ first → region.length + done.count false ≤ 4 * xs.length → (done.getD at_ false = true → 0 < region.length) → RI xs.length first at_ done region → (∀ r, r ∈ out → Ow xs.length r) →
        ∃ R, Ru xs.length R ∧ Ac (fun K k => Cj.l4 K k xs cs out (first : Int) done region (at_ : Int)) R ∧ Ac (fun K k => Bz.l4 K k xs cs f t out (first : Int) done region (at_ : Int)) R := by
      intro first at_ out done region hf ha hd hμ ho hrl hr hi hok
      by_cases hdn : done.getD at_ false = true
      · have hr0 := hr hdn
        obtain ⟨R, hR, h1, h2⟩ := (ih (μ - 1) (by omega)).2 (first + 1) (out ++ [region]) done (by omega) hd (by omega) (by rw [List.length_append]; simp; omega) (bH hi.low (hi.hd hr0).2) (rP hok (hi.ok hr0 (by omega)))
        refine ⟨R, hR, Ac.succ (Ac.congr (fun K k => ?_) h1), Ac.succ (Ac.congr (fun K k => ?_) h2)⟩
        · rw [Cj.l4, if_pos (by omega), Int.toNat_natCast, if_pos hdn, if_pos (by omega), Cc (by omega)]
        · rw [Bz.l4, if_pos (by omega), Int.toNat_natCast, if_pos hdn, if_pos (by omega), if_pos (by omega), Cc (by omega)]
      · have hfalse : done[at_]? = some false := by
          have h1 := getD_some (d := false) (show at_ < done.length by omega)
          rw [h1]
          cases hx : done.getD at_ false with
          | true => exact absurd hx hdn
          | false => rfl
        obtain ⟨k', hk, hS, hI⟩ := successor hn hs hg cs ha
        have hcnt := Uw _ _ hfalse
        obtain ⟨R, hR, h1, h2⟩ := (ih (μ - 1) (by omega)).1 first k' out (done.set at_ true) (region ++ [(at_ : Int)]) hf hk (by rw [List.length_set]; exact hd) (by omega) ho (by rw [List.length_append]; simp; omega) (fun _ => by simp) (hi.step hdn ha hd) hok
        refine ⟨R, hR, Ac.succ (Ac.congr (fun K k => ?_) (Ac.bind (G := fun K k t194 => Cj.l4 K k xs cs out (first : Int) (done.set at_ true) (region ++ [(at_ : Int)]) t194) hS.two h1)), Ac.succ (Ac.congr (fun K k => ?_) h2)⟩
        · rw [Cj.l4, if_pos (by omega), Int.toNat_natCast, if_neg hdn, if_pos (by omega)]
        · rw [Bz.l4, if_pos (by omega), Int.toNat_natCast, if_neg hdn, if_pos (by omega), hI]
          simp only [Ed, Option.bind_some]
          have e1 : w64 (w64 (4 * ((k' / 4 : Nat) : Int)) + ((k' % 4 : Nat) : Int)) = (k' : Int) := by
            rw [H8 (x := 4 * ((k' / 4 : Nat) : Int)) (by omega) (by omega), H8 (by omega) (by omega)]
            omega
          rw [e1]
    refine ⟨L4, ?_⟩
    intro first out done hf hd hμ ho hlow hok
    have hll : ((List.replicate (w64 (4 * (xs.length : Int))).toNat false).length : Int) = 4 * (xs.length : Int) := by rw [List.length_replicate, hw4]; omega
    by_cases hlt : first < 4 * xs.length
    · by_cases hdn : done.getD first false = true
      · obtain ⟨R, hR, h1, h2⟩ := (ih (μ - 1) (by omega)).2 (first + 1) out done (by omega) hd (by omega) (by omega) (bH hlow hdn) hok
        refine ⟨R, hR, Ac.succ (Ac.congr (fun K k => ?_) h1), Ac.succ (Ac.congr (G := fun K k => Bz.l4 K k xs cs f t out (first : Int) done [] (first : Int)) (fun K k => ?_) (Ac.succ (Ac.congr (fun K k => ?_) h2)))⟩
        · rw [Cj.l1, if_pos (by omega), if_pos (by omega), Int.toNat_natCast, if_pos hdn, Cc (by omega)]
        · rw [Bz.l1, hll, if_pos (by omega)]
        · rw [Bz.l4, if_pos (by omega), Int.toNat_natCast, if_pos hdn, if_neg (by simp), Cc (by omega)]
      · obtain ⟨R, hR, h1, h2⟩ := L4 first first out done [] hlt hlt hd hμ ho (by have := List.count_le_length (a := false) (l := done); simp; omega) (fun h => absurd h hdn) ⟨hlow, fun k hk => (by simp at hk), fun h => absurd h (Nat.lt_irrefl _), fun _ => rfl⟩ hok
        refine ⟨R, hR, Ac.succ (Ac.congr (fun K k => ?_) h1), Ac.succ (Ac.congr (fun K k => ?_) h2)⟩
        · rw [Cj.l1, if_pos (by omega), if_pos (by omega), Int.toNat_natCast, if_neg hdn]
        · rw [Bz.l1, hll, if_pos (by omega)]
    · refine ⟨out, ⟨by omega, hok⟩, Ac.succ (Ac.congr (fun K k => ?_) (Ac.const out)), Ac.succ (Ac.congr (fun K k => ?_) (Ac.const out))⟩
      · rw [Cj.l1, if_neg (by omega)]
      · rw [Bz.l1, hll, if_neg (by omega)]
theorem regions (cs : Int) : ∃ R, Ru xs.length R ∧ Ab (fun K => Cj.f K xs cs) R ∧ Ab (fun K => Bz.f K xs cs f t) R := by
  have hw4 : w64 (4 * (xs.length : Int)) = 4 * (xs.length : Int) := H8 (by omega) (by omega)
  have ht : (4 * (xs.length : Int)).toNat = 4 * xs.length := by omega
  obtain ⟨R, hR, h1, h2⟩ := (Zd hn hs hg cs _).2 0 [] (List.replicate (4 * xs.length) false) (by omega) (by simp) rfl (by simp) (fun j hj => absurd hj (Nat.not_lt_zero _)) (fun r hr => by simp at hr)
  refine ⟨R, hR, Ab.congr (fun K => ?_) h1.Ib, Ab.congr (fun K => ?_) h2.Ib⟩
  · rw [Cj.f, hw4, ht, if_pos (by omega), if_pos (by omega)]
    rfl
  · rw [Bz.f, hw4, ht, if_pos (by omega), if_pos (by omega)]
    rfl
end
end Go.Proofs.YtkmeepgpmppibaaGreatDoor
