/-
  A valid diagram is drawn on a sphere: no arc has the same region on its two sides' walks; so opposite ends of a crossing are different arcs.
-/
import Derived.Test.YtdfiglhdjlmakaaGreatPlG1
import Derived.Test.YtdfiglhdjlmakaaGreatPlZ
set_option linter.unusedVariables false
set_option linter.unusedSimpArgs false
set_option linter.unusedSectionVars false
namespace Go.Proofs.YtdfiglhdjlmakaaGreat
open Go.RowKit
theorem Tends.det {α : Type} {F : Nat → Option α} {a b : α} (h : Tends F a) (h' : Tends F b) : a = b := by
  obtain ⟨n, hn⟩ := h
  obtain ⟨m, hm⟩ := h'
  have h1 := hn (n + m) (by omega)
  rw [hm (n + m) (by omega)] at h1
  exact (Option.some.inj h1).symm
def posOf (e : GEnd) : Nat := 4 * e.crossing.toNat + e.position.toNat
theorem posOf_end (q : Nat) : posOf (endAt q) = q := by unfold posOf endAt; simp only [Int.toNat_natCast]; omega
def pT (t : List GEnd) (a : Nat) : Nat := posOf (t.getD a z_GEnd)
def mt (xs : List GCrossing) (f t : List GEnd) (q : Nat) : Nat := if entAt xs q = true then pT f (arcAt xs q).toNat else pT t (arcAt xs q).toNat
def endsL (f t : List GEnd) (A : List Nat) : List (Nat × Nat) := A.map fun a => (pT t a, pT f a)
section
variable {xs : List GCrossing} (hn : xs.length ≤ 10) (hs : Signs xs) {f t : List GEnd} (hg : Good xs f t)
include hn hs hg
theorem pT_to {a : Nat} (ha : a < 2 * xs.length) : pT t a < 4 * xs.length ∧ arcAt xs (pT t a) = (a : Int) ∧ entAt xs (pT t a) = true := by
  obtain ⟨q, h1, h2, h3, h4⟩ := to_end hn hs hg ha
  unfold pT
  rw [h4, posOf_end]
  exact ⟨h1, h2, h3⟩
theorem pT_from {a : Nat} (ha : a < 2 * xs.length) : pT f a < 4 * xs.length ∧ arcAt xs (pT f a) = (a : Int) ∧ entAt xs (pT f a) = false := by
  obtain ⟨q, h1, h2, h3, h4⟩ := from_end hn hs hg ha
  unfold pT
  rw [h4, posOf_end]
  exact ⟨h1, h2, h3⟩
theorem arc_lt {q : Nat} (hq : q < 4 * xs.length) : (arcAt xs q).toNat < 2 * xs.length ∧ ((arcAt xs q).toNat : Int) = arcAt xs q := by
  have := hg.range hq
  omega
theorem end_to {q : Nat} (hq : q < 4 * xs.length) (h : entAt xs q = true) : q = pT t (arcAt xs q).toNat := by
  have h1 := arc_lt hn hs hg hq
  have h2 := pT_to hn hs hg h1.1
  exact hg.one hn hs hq h2.1 (by rw [h2.2.1, h1.2]) (by rw [h2.2.2, h])
theorem end_from {q : Nat} (hq : q < 4 * xs.length) (h : entAt xs q = false) : q = pT f (arcAt xs q).toNat := by
  have h1 := arc_lt hn hs hg hq
  have h2 := pT_from hn hs hg h1.1
  exact hg.one hn hs hq h2.1 (by rw [h2.2.1, h1.2]) (by rw [h2.2.2, h])
theorem mt_ok {q : Nat} (hq : q < 4 * xs.length) : mt xs f t q < 4 * xs.length ∧ arcAt xs (mt xs f t q) = arcAt xs q ∧ entAt xs (mt xs f t q) = !entAt xs q := by
  have h1 := arc_lt hn hs hg hq
  unfold mt
  cases h : entAt xs q with
  | true =>
    have h2 := pT_from hn hs hg h1.1
    rw [if_pos rfl]
    exact ⟨h2.1, by rw [h2.2.1, h1.2], h2.2.2⟩
  | false =>
    have h2 := pT_to hn hs hg h1.1
    rw [if_neg (by decide)]
    exact ⟨h2.1, by rw [h2.2.1, h1.2], h2.2.2⟩
theorem mt_eq {q q' : Nat} (hq : q < 4 * xs.length) (hq' : q' < 4 * xs.length) (ha : arcAt xs q' = arcAt xs q) (he : entAt xs q' = !entAt xs q) : mt xs f t q = q' := by
  have h := mt_ok hn hs hg hq
  exact hg.one hn hs h.1 hq' (by rw [h.2.1, ha]) (by rw [h.2.2, he])
theorem sw_ends : ∀ {A : List Nat}, A.Nodup → (∀ a, a ∈ A → a < 2 * xs.length) → ∀ x, x < 4 * xs.length → sw (endsL f t A) x = if (arcAt xs x).toNat ∈ A then mt xs f t x else x
  | [], _, _, x, hx => by rw [if_neg (by simp)]; rfl
  | a :: A, hnd, hlt, x, hx => by
    have hnd' := List.nodup_cons.1 hnd
    have ih := sw_ends hnd'.2 (fun a ha => hlt a (List.mem_cons_of_mem _ ha)) x hx
    have hal := hlt a (List.mem_cons_self ..)
    have hT := pT_to hn hs hg hal
    have hF := pT_from hn hs hg hal
    have hm := mt_ok hn hs hg hx
    show tw (pT t a) (pT f a) (sw (endsL f t A) x) = _
    rw [ih]
    have hx1 := arc_lt hn hs hg hx
    by_cases h1 : (arcAt xs x).toNat ∈ A
    · rw [if_pos h1, if_pos (List.mem_cons_of_mem _ h1)]
      have hne : (arcAt xs x).toNat ≠ a := fun e => hnd'.1 (e ▸ h1)
      unfold tw
      rw [if_neg, if_neg]
      · intro e
        rw [e, hF.2.1] at hm
        omega
      · intro e
        rw [e, hT.2.1] at hm
        omega
    · rw [if_neg h1]
      by_cases h2 : (arcAt xs x).toNat = a
      · rw [if_pos (by rw [h2]; exact List.mem_cons_self ..)]
        unfold tw mt
        cases h3 : entAt xs x with
        | true =>
          have h4 := end_to hn hs hg hx h3
          rw [h2] at h4
          rw [if_pos h4, if_pos rfl, h2]
        | false =>
          have h4 := end_from hn hs hg hx h3
          rw [h2] at h4
          rw [if_neg, if_pos h4, if_neg (by decide), h2]
          intro e
          rw [e, hT.2.2] at h3
          cases h3
      · rw [if_neg (fun h => (List.mem_cons.1 h).elim h2 h1)]
        unfold tw
        rw [if_neg, if_neg]
        · intro e
          rw [e, hF.2.1] at h2
          omega
        · intro e
          rw [e, hT.2.1] at h2
          omega
theorem ends_ok {A : List Nat} (h : ∀ a, a ∈ A → a < 2 * xs.length) : OkEnds xs.length (endsL f t A) := fun e he => by
  obtain ⟨a, ha, rfl⟩ := List.mem_map.1 he
  have hT := pT_to hn hs hg (h a ha)
  have hF := pT_from hn hs hg (h a ha)
  refine ⟨hT.1, hF.1, fun e => ?_⟩
  have h1 : pT t a = pT f a := e
  rw [h1, hF.2.2] at hT
  exact absurd hT.2.2 (by decide)
theorem succ_spec (cs : Int) {k : Nat} (hk : k < 4 * xs.length) : Tends (fun K => spec_l25Successor.f K xs cs (k : Int)) ((mt xs f t (rotC k) : Nat) : Int) := by
  have hp : (k % 4 + 1) % 4 < 4 := Nat.mod_lt _ (by decide)
  have hrc : rotC k = 4 * (k / 4) + (k % 4 + 1) % 4 := rfl
  have hq : 4 * (k / 4) + (k % 4 + 1) % 4 < 4 * xs.length := by omega
  obtain ⟨h1, h2, h3⟩ := mt_ok hn hs hg hq
  rw [hrc]
  generalize mt xs f t (4 * (k / 4) + (k % 4 + 1) % 4) = k' at *
  have hc : w64 ((k : Int).tdiv 4) = ((k / 4 : Nat) : Int) := by
    have : (k : Int).tdiv 4 = ((k / 4 : Nat) : Int) := rfl
    rw [this]; exact w64_nat (by omega)
  have hm : w64 ((k : Int).tmod 4 + 1) = ((k % 4 + 1 : Nat) : Int) := by
    have : (k : Int).tmod 4 = ((k % 4 : Nat) : Int) := rfl
    rw [this]; exact w64_succ (by omega)
  have hm2 : (((k % 4 + 1 : Nat) : Int)).tmod 4 = (((k % 4 + 1) % 4 : Nat) : Int) := rfl
  have hcl : k / 4 < xs.length := by omega
  have hA := arcAt_cp xs (c := k / 4) hp
  have hE := entAt_cp xs (c := k / 4) hp
  have hpl := hg.place hn hs h1 (a := arcAt xs (4 * (k / 4) + (k % 4 + 1) % 4)) (b := !entAt xs (4 * (k / 4) + (k % 4 + 1) % 4)) h2 h3 cs
  refine Tends.congr (fun K => ?_) (Tends.bind2 hpl (Tends.congr (fun K => ?_) (Tends.const (k' : Int))) (G := fun K a b => some (w64 ((w64 (4 * a)) + b))))
  · rw [spec_l25Successor.f, hc, if_pos (by omega), bnd_eq, Int.toNat_natCast, hm, hm2, End_eq _ hp, Option.bind_some, Enters_eq _ hp, Option.bind_some, ← hA, ← hE]
  · show some (w64 (w64 (4 * ((k' / 4 : Nat) : Int)) + ((k' % 4 : Nat) : Int))) = _
    rw [w64_id (x := 4 * ((k' / 4 : Nat) : Int)) (by omega) (by omega), w64_id (by omega) (by omega)]
    congr 1
    omega
theorem region_in (cs : Int) {φ ψ : Nat → Nat} (hT : Turn (4 * xs.length) φ ψ) (hφ : ∀ k, k < 4 * xs.length → φ k = mt xs f t (rotC k)) {a m : Nat} (ha : a < 4 * xs.length) (h0 : 0 < m) (hmN : m ≤ 4 * xs.length) (hm : it φ m a = a) (hone : ∀ i j, i < m → j < m → it φ i a = it φ j a → i = j) {out : List (List Int)} (hout : out.length ≤ 100) {old : List Bool} (hun : ∀ j, j < m → old.getD (it φ j a) false = false) {F : List (List Int)}
    (hF : ∀ new, Marked (4 * xs.length) φ a m old new → Tends2 (fun K k => spec_l25Regions.l1 K k xs cs (out ++ [cyc φ m a]) new ((a + 1 : Nat) : Int)) F) :
    ∀ (d i : Nat) (new : List Bool), m - i = d → i ≤ m → Marked (4 * xs.length) φ a i old new → Tends2 (fun K k => spec_l25Regions.l4 K k xs cs out (a : Int) new (cyc φ i a) ((it φ i a : Nat) : Int)) F
  | 0, i, new, hd, hi, hM => by
    obtain rfl : i = m := by omega
    have hmk : new.getD a false = true := (hM.2 a ha).2 (.inr ⟨0, h0, rfl⟩)
    have hl := hM.1
    refine Tends2.succ (Tends2.congr (fun K k => ?_) (hF new hM))
    rw [hm, spec_l25Regions.l4, if_pos (by omega), Int.toNat_natCast, if_pos hmk, if_pos (by omega), w64_succ (by omega)]
  | d + 1, i, new, hd, hi, hM => by
    have hlt := it_lt hT ha i
    have hl := hM.1
    have hcl : (cyc φ i a).length = i := by unfold cyc; simp
    have hnm : ¬ new.getD (it φ i a) false = true := fun h => by
      rcases (hM.2 _ hlt).1 h with h | ⟨j, hj, h⟩
      · rw [hun i (by omega)] at h; cases h
      · have := hone i j (by omega) (by omega) h
        omega
    have ih := region_in cs hT hφ ha h0 hmN hm hone hout hun hF d (i + 1) (new.set (it φ i a) true) (by omega) (by omega) (hM.next hlt)
    have hcs : cyc φ (i + 1) a = cyc φ i a ++ [((it φ i a : Nat) : Int)] := by unfold cyc; rw [List.range_succ, List.map_append]; rfl
    rw [hcs] at ih
    have hS := succ_spec hn hs hg cs hlt
    rw [← hφ _ hlt] at hS
    refine Tends2.succ (Tends2.congr (fun K k => ?_) (Tends2.bind (G := fun K k t194 => spec_l25Regions.l4 K k xs cs out (a : Int) (new.set (it φ i a) true) (cyc φ i a ++ [((it φ i a : Nat) : Int)]) t194) hS.two ih))
    rw [spec_l25Regions.l4, if_pos (by omega), Int.toNat_natCast, if_neg hnm, if_pos (by omega)]
theorem region_out (cs : Int) {φ ψ : Nat → Nat} (hT : Turn (4 * xs.length) φ ψ) (hφ : ∀ k, k < 4 * xs.length → φ k = mt xs f t (rotC k)) : ∀ (d a : Nat) (done : List Bool) (out : List (List Int)), 4 * xs.length - a = d → a ≤ 4 * xs.length → out.length ≤ num (RR φ) a → out.length ≤ a → done.length = 4 * xs.length → (∀ b, b < 4 * xs.length → done.getD (φ b) false = done.getD b false) → (∀ b, b < a → done.getD b false = true) →
    ∃ R : List (List Int), R.length ≤ num (RR φ) (4 * xs.length) ∧ Tends2 (fun K k => spec_l25Regions.l1 K k xs cs out done (a : Int)) R
  | 0, a, done, out, hd, ha, ho, ho2, hl, hcl, hlow => by
    obtain rfl : a = 4 * xs.length := by omega
    refine ⟨out, ho, Tends2.succ (Tends2.congr (fun K k => ?_) (Tends2.const out))⟩
    rw [spec_l25Regions.l1, if_neg (by omega)]
  | d + 1, a, done, out, hd, ha, ho, ho2, hl, hcl, hlow => by
    have hal : a < 4 * xs.length := by omega
    by_cases hdn : done.getD a false = true
    · obtain ⟨R, h1, h2⟩ := region_out cs hT hφ d (a + 1) done out (by omega) (by omega) (by rw [num]; omega) (by omega) hl hcl (low_succ hlow hdn)
      refine ⟨R, h1, Tends2.succ (Tends2.congr (fun K k => ?_) h2)⟩
      rw [spec_l25Regions.l1, if_pos (by omega), if_pos (by omega), Int.toNat_natCast, if_pos hdn, w64_succ (by omega)]
    · obtain ⟨m, h0, hmN, hm, hone⟩ := period hT hal
      have hsame : ∀ b, b < 4 * xs.length → ∀ j, done.getD (it φ j b) false = done.getD b false := fun b hb j => by
        induction j with
        | zero => rfl
        | succ j ih => exact (hcl _ (it_lt hT hb j)).trans ih
      have hfa : done.getD a false = false := by
        cases hx : done.getD a false with
        | false => rfl
        | true => exact absurd hx hdn
      have hun : ∀ j, done.getD (it φ j a) false = false := fun j => (hsame a hal j).trans hfa
      have hnew : ¬ Old (RR φ) a := by
        rintro ⟨k', h1, j, h2⟩
        have h3 := hsame k' (by omega) j
        rw [h2, hfa, hlow k' h1] at h3
        cases h3
      obtain ⟨new, hM⟩ := Marked.all hT hal hl m
      have hclN : ∀ b, b < 4 * xs.length → new.getD (φ b) false = new.getD b false := fun b hb => by
        have hb' := (hT.fwd b hb).1
        have e1 := hM.2 b hb
        have e2 := hM.2 _ hb'
        rw [hcl b hb] at e2
        have e3 : new.getD (φ b) false = true ↔ new.getD b false = true := by
          rw [e1, e2]
          exact ⟨fun h => h.imp id (cycle_back hT hal h0 hm hb), fun h => h.imp id (cycle_on hT h0 hm)⟩
        cases hx : new.getD (φ b) false <;> cases hy : new.getD b false
        · rfl
        · exact absurd (e3.2 hy) (by rw [hx]; decide)
        · exact absurd (e3.1 hx) (by rw [hy]; decide)
        · rfl
      have hlowN : ∀ b, b < a + 1 → new.getD b false = true := fun b hb => (hM.2 b (by omega)).2 (by
        by_cases h : b < a
        · exact .inl (hlow b h)
        · exact .inr ⟨0, h0, by show b = a; omega⟩)
      -- the region's own list
      obtain ⟨R, h1, h2⟩ := region_out cs hT hφ d (a + 1) new (out ++ [cyc φ m a]) (by omega) (by omega) (by rw [num, if_neg hnew, List.length_append]; show out.length + 1 ≤ _; omega) (by rw [List.length_append]; show out.length + 1 ≤ _; omega) hM.1 hclN hlowN
      refine ⟨R, h1, Tends2.succ (Tends2.congr (fun K k => ?_) (region_in hn hs hg (out := out) cs hT hφ hal h0 hmN hm hone (by omega) (fun j _ => hun j) (fun new' hM' => by rw [hM'.unique hM]; exact h2) m 0 done rfl (Nat.zero_le _) (Marked.none hl)))⟩
      rw [spec_l25Regions.l1, if_pos (by omega), if_pos (by omega), Int.toNat_natCast, if_neg hdn]
      rfl
end
end Go.Proofs.YtdfiglhdjlmakaaGreat
