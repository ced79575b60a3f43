/-
  The scan of all positions: the program's lists of ends and the reference's marks run in step; when both go through, every arc has its one way in and its one way out.
-/
import Derived.Test.YtkmeepgpmppibaaGreatDoorPlC
set_option linter.unusedVariables false
set_option linter.unusedSimpArgs false
set_option linter.unusedSectionVars false
namespace Go.Proofs.YtkmeepgpmppibaaGreatDoor
open Go.RowKit
theorem count_set : ∀ (l : List Bool) (i : Nat), l[i]? = some false → (l.set i true).count true = l.count true + 1
  | b :: r, 0, h => by
    obtain rfl : b = false := by simpa using h
    simp
  | b :: r, i + 1, h => by
    have := count_set r i (by simpa using h)
    rw [List.set_cons_succ, List.count_cons, List.count_cons, this]
    omega
def entN (xs : List GCrossing) : Nat → Nat
  | 0 => 0
  | q + 1 => entN xs q + (if entAt xs q = true then 1 else 0)
def Signs (xs : List GCrossing) : Prop := ∀ c, c < xs.length → (xs.getD c z_GCrossing).Sign = 1 ∨ (xs.getD c z_GCrossing).Sign = -1
theorem ent4 {x : GCrossing} (h : x.Sign = 1 ∨ x.Sign = -1) : (if ent x 0 = true then 1 else 0) + (if ent x 1 = true then 1 else 0) + (if ent x 2 = true then 1 else 0) + (if ent x 3 = true then 1 else 0) = 2 := by
  unfold ent
  rcases h with h | h <;> rw [h] <;> decide
theorem entN_four {xs : List GCrossing} (hs : Signs xs) : ∀ c, c ≤ xs.length → entN xs (4 * c) = 2 * c
  | 0, _ => rfl
  | c + 1, h => by
    have h1 := entN_four hs c (by omega)
    have h2 := ent4 (hs c (by omega))
    have e0 : entAt xs (4 * c) = ent (xs.getD c z_GCrossing) 0 := entAt_cp xs (c := c) (p := 0) (by omega)
    have e1 := entAt_cp xs (c := c) (p := 1) (by omega)
    have e2 := entAt_cp xs (c := c) (p := 2) (by omega)
    have e3 := entAt_cp xs (c := c) (p := 3) (by omega)
    show entN xs (4 * c + 1 + 1 + 1 + 1) = _
    simp only [entN]
    rw [show 4 * c + 1 + 1 + 1 = 4 * c + 3 by omega, show 4 * c + 1 + 1 = 4 * c + 2 by omega, e0, e1, e2, e3]
    rw [h1]
    omega
theorem enters_impl {x : GCrossing} (h : x.Sign = 1 ∨ x.Sign = -1) {p : Nat} (hp : p < 4) : impl_Crossing_enters.f x.A x.B x.C x.D x.Sign (p : Int) = some (ent x p) := by
  unfold impl_Crossing_enters.f ent
  have hw : w64 (2 + x.Sign) = 2 + x.Sign := w64_id (by omega) (by omega)
  rw [hw]
  match p, hp with
  | 0, _ => rfl
  | 1, _ => rcases h with h | h <;> rw [h] <;> decide
  | 2, _ => rcases h with h | h <;> rw [h] <;> decide
  | 3, _ => rcases h with h | h <;> rw [h] <;> decide
theorem in_eq (a : Int) (n : Nat) (hn : n ≤ 2000000) : spec_l01In.f a 0 (w64 (w64 (2 * (n : Int)) - 1)) = some (decide (0 ≤ a ∧ a < 2 * (n : Int))) := by
  rw [w64_id (x := 2 * (n : Int)) (by omega) (by omega), w64_id (by omega) (by omega)]
  unfold spec_l01In.f
  by_cases h : 0 ≤ a
  · rw [if_pos h]
    congr 1
    rw [decide_eq_decide]
    omega
  · rw [if_neg h]
    congr 1
    exact (decide_eq_false (by omega)).symm
theorem has_eq (l : List GEnd) (a : Int) (hl : l.length ≤ 4000000) : impl_hasIndex_impl_end.f l a = some (decide (0 ≤ a ∧ a < (l.length : Int))) := by
  unfold impl_hasIndex_impl_end.f impl_size_impl_end.f impl_inRange.f
  rw [Option.bind_some, w64_id (by omega) (by omega)]
  by_cases h : 0 ≤ a
  · rw [if_pos h, Option.bind_some]
    congr 1
    rw [decide_eq_decide]
    omega
  · rw [if_neg h, Option.bind_some]
    congr 1
    exact (decide_eq_false (by omega)).symm
def endAt (q : Nat) : GEnd := ⟨((q / 4 : Nat) : Int), ((q % 4 : Nat) : Int)⟩
structure Side (xs : List GCrossing) (b : Bool) (q : Nat) (l : List GEnd) (t : List Bool) : Prop where
  len : l.length = 2 * xs.length
  tlen : t.length = 2 * xs.length
  has : ∀ q', q' < q → entAt xs q' = b → 0 ≤ arcAt xs q' ∧ arcAt xs q' < 2 * (xs.length : Int) ∧ l[(arcAt xs q').toNat]? = some (endAt q')
  back : ∀ i, i < 2 * xs.length → 0 ≤ (l.getD i z_GEnd).crossing → ∃ q', q' < q ∧ entAt xs q' = b ∧ arcAt xs q' = (i : Int)
  mark : ∀ i, i < 2 * xs.length → t.getD i false = decide (0 ≤ (l.getD i z_GEnd).crossing)
theorem Side.skip {xs : List GCrossing} {b : Bool} {q : Nat} {l : List GEnd} {t : List Bool} (h : Side xs b q l t) (hb : entAt xs q ≠ b) : Side xs b (q + 1) l t :=
  ⟨h.len, h.tlen, fun q' hq he => by
    rcases Nat.lt_or_ge q' q with h1 | h1
    · exact h.has q' h1 he
    · obtain rfl : q' = q := by omega
      exact absurd he hb, fun i hi hc => by
    obtain ⟨q', h1, h2⟩ := h.back i hi hc
    exact ⟨q', by omega, h2⟩, h.mark⟩
theorem Side.put {xs : List GCrossing} {b : Bool} {q : Nat} {l : List GEnd} {t : List Bool} (h : Side xs b q l t) (hb : entAt xs q = b) (h0 : 0 ≤ arcAt xs q) (h1 : arcAt xs q < 2 * (xs.length : Int)) (hfree : ¬ 0 ≤ (l.getD (arcAt xs q).toNat z_GEnd).crossing) :
    Side xs b (q + 1) (l.set (arcAt xs q).toNat (endAt q)) (t.set (arcAt xs q).toNat true) := by
  have hi : (arcAt xs q).toNat < 2 * xs.length := by omega
  have hget : ∀ i, i < 2 * xs.length → (l.set (arcAt xs q).toNat (endAt q)).getD i z_GEnd = if (arcAt xs q).toNat = i then endAt q else l.getD i z_GEnd := fun i hi' => by
    rw [List.getD_eq_getElem?_getD, List.getElem?_set]
    by_cases he : (arcAt xs q).toNat = i
    · subst he; simp [h.len, hi]
    · simp [he]
  have hc0 : 0 ≤ (endAt q).crossing := by unfold endAt; exact Int.natCast_nonneg _
  refine ⟨by rw [List.length_set]; exact h.len, by rw [List.length_set]; exact h.tlen, fun q' hq he => ?_, fun i hi' hc => ?_, fun i hi' => ?_⟩
  · rcases Nat.lt_or_ge q' q with hlt | hge
    · obtain ⟨p0, p1, p2⟩ := h.has q' hlt he
      refine ⟨p0, p1, ?_⟩
      have hne : (arcAt xs q).toNat ≠ (arcAt xs q').toNat := fun e => hfree (by rw [e, List.getD_eq_getElem?_getD, p2]; exact Int.natCast_nonneg _)
      rw [List.getElem?_set_ne hne]
      exact p2
    · obtain rfl : q' = q := by omega
      exact ⟨h0, h1, List.getElem?_set_self (by rw [h.len]; exact hi)⟩
  · rw [hget i hi'] at hc
    by_cases he : (arcAt xs q).toNat = i
    · exact ⟨q, by omega, hb, by omega⟩
    · rw [if_neg he] at hc
      obtain ⟨q', h1', h2'⟩ := h.back i hi' hc
      exact ⟨q', by omega, h2'⟩
  · rw [hget i hi', List.getD_eq_getElem?_getD, List.getElem?_set]
    by_cases he : (arcAt xs q).toNat = i
    · subst he; simp [h.tlen, hi, hc0]
    · simp only [he, if_false]
      rw [← List.getD_eq_getElem?_getD]
      exact h.mark i hi'
structure Both (xs : List GCrossing) (q : Nat) (f t : List GEnd) (tin tout : List Bool) : Prop where
  inn : Side xs true q t tin
  out : Side xs false q f tout
  cin : tin.count true = entN xs q
  cout : tout.count true + entN xs q = q
structure Good (xs : List GCrossing) (f t : List GEnd) : Prop where
  flen : f.length = 2 * xs.length
  tlen : t.length = 2 * xs.length
  tin : ∀ q, q < 4 * xs.length → entAt xs q = true → 0 ≤ arcAt xs q ∧ arcAt xs q < 2 * (xs.length : Int) ∧ t[(arcAt xs q).toNat]? = some (endAt q)
  fout : ∀ q, q < 4 * xs.length → entAt xs q = false → 0 ≤ arcAt xs q ∧ arcAt xs q < 2 * (xs.length : Int) ∧ f[(arcAt xs q).toNat]? = some (endAt q)
  tall : ∀ i, i < 2 * xs.length → ∃ q, q < 4 * xs.length ∧ entAt xs q = true ∧ arcAt xs q = (i : Int)
  fall : ∀ i, i < 2 * xs.length → ∃ q, q < 4 * xs.length ∧ entAt xs q = false ∧ arcAt xs q = (i : Int)
theorem all_of_count {l : List Bool} (h : l.count true = l.length) {i : Nat} (hi : i < l.length) : l.getD i false = true := by
  have := List.count_eq_length.1 h (l[i]) (List.getElem_mem hi)
  rw [List.getD_eq_getElem?_getD, List.getElem?_eq_getElem hi]
  exact this.symm
theorem Both.good {xs : List GCrossing} {f t : List GEnd} {tin tout : List Bool} (hs : Signs xs) (h : Both xs (4 * xs.length) f t tin tout) : Good xs f t := by
  have he := entN_four hs xs.length (Nat.le_refl _)
  refine ⟨h.out.len, h.inn.len, fun q hq hb => h.inn.has q hq hb, fun q hq hb => h.out.has q hq hb, fun i hi => ?_, fun i hi => ?_⟩
  · have hm := h.inn.mark i hi
    rw [all_of_count (by rw [h.cin, he, h.inn.tlen]) (by rw [h.inn.tlen]; exact hi)] at hm
    exact h.inn.back i hi (of_decide_eq_true hm.symm)
  · have hm := h.out.mark i hi
    have hc := h.cout
    rw [all_of_count (by rw [h.out.tlen]; omega) (by rw [h.out.tlen]; exact hi)] at hm
    exact h.out.back i hi (of_decide_eq_true hm.symm)
structure Inj (xs : List GCrossing) : Prop where
  range : ∀ q, q < 4 * xs.length → 0 ≤ arcAt xs q ∧ arcAt xs q < 2 * (xs.length : Int)
  one : ∀ q q', q < 4 * xs.length → q' < 4 * xs.length → arcAt xs q = arcAt xs q' → entAt xs q = entAt xs q' → q = q'
section
variable {xs : List GCrossing} (hn : xs.length ≤ 10) (hs : Signs xs)
include hn
theorem counts_enter {c : Nat} (hc : c < xs.length) (hs : (xs.getD c z_GCrossing).Sign = 1 ∨ (xs.getD c z_GCrossing).Sign = -1) {tin tout : List Bool} {r : Bool} (h : Tends2 (fun K k => spec_l25Counts.l13 K k xs (c : Int) (xs.getD c z_GCrossing) tin tout 0) r) :
    Tends2 (fun K k => spec_l25Counts.l1 K k xs tin tout (c : Int)) r := by
  refine Tends2.succ (Tends2.congr (G := fun K k => spec_l25Counts.j12 K k xs tin tout (c : Int) (xs.getD c z_GCrossing) false) (fun K k => ?_) (Tends2.succ (Tends2.congr (fun K k => ?_) h)))
  · rw [spec_l25Counts.l1, if_pos (by omega), if_pos (by omega), bnd_eq, Int.toNat_natCast]
    rcases hs with h1 | h1
    · rw [if_pos h1]
    · rw [if_neg (by omega), h1]; rfl
  · rw [spec_l25Counts.j12, if_neg (by decide)]
theorem arrows_enter {c : Nat} (hc : c < xs.length) {f t : List GEnd} {r} (h : Tends2 (fun K k => impl_Diagram_arrows.l10 K k xs (c : Int) (xs.getD c z_GCrossing) (xs.getD c z_GCrossing).A (xs.getD c z_GCrossing).B (xs.getD c z_GCrossing).C (xs.getD c z_GCrossing).D f t 0) r) :
    Tends2 (fun K k => impl_Diagram_arrows.l1 K k xs f t (c : Int)) r := by
  refine Tends2.succ (Tends2.congr (fun K k => ?_) h)
  rw [impl_Diagram_arrows.l1, if_pos (by omega), if_pos (by omega), bnd_eq, Int.toNat_natCast]
  rfl
include hs
theorem scan : ∀ (m c p : Nat) (f t : List GEnd) (tin tout : List Bool), 5 * c + p + m = 5 * xs.length → p ≤ 4 → c < xs.length → Both xs (4 * c + p) f t tin tout →
    (Tends2 (fun K k => spec_l25Counts.l13 K k xs (c : Int) (xs.getD c z_GCrossing) tin tout (p : Int)) false ∧ ∃ f' t', Tends2 (fun K k => impl_Diagram_arrows.l10 K k xs (c : Int) (xs.getD c z_GCrossing) (xs.getD c z_GCrossing).A (xs.getD c z_GCrossing).B (xs.getD c z_GCrossing).C (xs.getD c z_GCrossing).D f t (p : Int)) (f', t', false) ∧ ¬ Inj xs) ∨
    (Tends2 (fun K k => spec_l25Counts.l13 K k xs (c : Int) (xs.getD c z_GCrossing) tin tout (p : Int)) true ∧ ∃ f' t', Tends2 (fun K k => impl_Diagram_arrows.l10 K k xs (c : Int) (xs.getD c z_GCrossing) (xs.getD c z_GCrossing).A (xs.getD c z_GCrossing).B (xs.getD c z_GCrossing).C (xs.getD c z_GCrossing).D f t (p : Int)) (f', t', true) ∧ Good xs f' t')
  | 0, c, p, f, t, tin, tout, hm, hp, hc, hB => by omega
  | m + 1, c, p, f, t, tin, tout, hm, hp, hc, hB => by
    by_cases h4 : p < 4
    · have hE := arcAt_cp xs (c := c) h4
      have hN := entAt_cp xs (c := c) h4
      have hget : ([(xs.getD c z_GCrossing).A, (xs.getD c z_GCrossing).B, (xs.getD c z_GCrossing).C, (xs.getD c z_GCrossing).D] : List Int).getD p 0 = arcAt xs (4 * c + p) := by rw [hE]; rfl
      have hend : (⟨(c : Int), (p : Int)⟩ : GEnd) = endAt (4 * c + p) := by unfold endAt; rw [cp_div h4, cp_mod h4]
      generalize ha : arcAt xs (4 * c + p) = a at *
      -- both ways' first steps
      have hS : ∀ K k, spec_l25Counts.l13 K (k + 1) xs (c : Int) (xs.getD c z_GCrossing) tin tout (p : Int) = if decide (0 ≤ a ∧ a < 2 * (xs.length : Int)) = true then (if entAt xs (4 * c + p) = true then (if 0 ≤ a ∧ a < (tin.length : Int) then (if (tin.getD a.toNat false) = true then some false else spec_l25Counts.l13 K k xs (c : Int) (xs.getD c z_GCrossing) (tin.set a.toNat true) tout ((p + 1 : Nat) : Int)) else none) else (if 0 ≤ a ∧ a < (tout.length : Int) then (if (tout.getD a.toNat false) = true then some false else spec_l25Counts.l13 K k xs (c : Int) (xs.getD c z_GCrossing) tin (tout.set a.toNat true) ((p + 1 : Nat) : Int)) else none)) else some false := fun K k => by
        rw [spec_l25Counts.l13, if_pos (by omega), End_eq _ h4, ← hE, Option.bind_some, in_eq _ _ (by omega), Option.bind_some, Enters_eq _ h4, ← hN, Option.bind_some, w64_succ (by omega)]
      have hI : ∀ K k, impl_Diagram_arrows.l10 K (k + 1) xs (c : Int) (xs.getD c z_GCrossing) (xs.getD c z_GCrossing).A (xs.getD c z_GCrossing).B (xs.getD c z_GCrossing).C (xs.getD c z_GCrossing).D f t (p : Int) = if entAt xs (4 * c + p) = true then (if decide (0 ≤ a ∧ a < (t.length : Int)) = true then (if 0 ≤ a ∧ a < (t.length : Int) then (if 0 ≤ (t.getD a.toNat z_GEnd).crossing then some (f, t, false) else impl_Diagram_arrows.l10 K k xs (c : Int) (xs.getD c z_GCrossing) (xs.getD c z_GCrossing).A (xs.getD c z_GCrossing).B (xs.getD c z_GCrossing).C (xs.getD c z_GCrossing).D f (t.set a.toNat (endAt (4 * c + p))) ((p + 1 : Nat) : Int)) else none) else some (f, t, false)) else (if decide (0 ≤ a ∧ a < (f.length : Int)) = true then (if 0 ≤ a ∧ a < (f.length : Int) then (if 0 ≤ (f.getD a.toNat z_GEnd).crossing then some (f, t, false) else impl_Diagram_arrows.l10 K k xs (c : Int) (xs.getD c z_GCrossing) (xs.getD c z_GCrossing).A (xs.getD c z_GCrossing).B (xs.getD c z_GCrossing).C (xs.getD c z_GCrossing).D (f.set a.toNat (endAt (4 * c + p))) t ((p + 1 : Nat) : Int)) else none) else some (f, t, false)) := fun K k => by
        rw [impl_Diagram_arrows.l10, if_pos (by omega), if_pos (by omega), enters_impl (hs c hc) h4, ← hN, Option.bind_some, Int.toNat_natCast, hget, has_eq _ _ (by rw [hB.inn.len]; omega), has_eq _ _ (by rw [hB.out.len]; omega), Option.bind_some, Option.bind_some, bnd_eq, bnd_eq, w64_succ (by omega), hend]
      by_cases hr : 0 ≤ a ∧ a < 2 * (xs.length : Int)
      · have hti : (tin.length : Int) = 2 * (xs.length : Int) := by rw [hB.inn.tlen]; omega
        have hto : (tout.length : Int) = 2 * (xs.length : Int) := by rw [hB.out.tlen]; omega
        have hfl : (f.length : Int) = 2 * (xs.length : Int) := by rw [hB.out.len]; omega
        have htl : (t.length : Int) = 2 * (xs.length : Int) := by rw [hB.inn.len]; omega
        have hia : a.toNat < 2 * xs.length := by omega
        cases hb : entAt xs (4 * c + p) with
        | true =>
          have hmk := hB.inn.mark a.toNat hia
          by_cases hu : 0 ≤ (t.getD a.toNat z_GEnd).crossing
          · rw [decide_eq_true hu] at hmk
            refine .inl ⟨Tends2.succ (Tends2.congr hS ?_), f, t, Tends2.succ (Tends2.congr hI ?_), fun hj => (by obtain ⟨q', k1, k2, k3⟩ := hB.inn.back a.toNat hia hu; have := hj.one q' (4 * c + p) (by omega) (by omega) (by omega) (by rw [k2, hb]); omega)⟩
            · rw [hb]
              exact Tends2.pos (decide_eq_true hr) (Tends2.pos rfl (Tends2.pos (by rw [hti]; exact hr) (Tends2.pos hmk (Tends2.const _))))
            · rw [hb]
              exact Tends2.pos rfl (Tends2.pos (decide_eq_true (by rw [htl]; exact hr)) (Tends2.pos (by rw [htl]; exact hr) (Tends2.pos hu (Tends2.const _))))
          · rw [decide_eq_false hu] at hmk
            have hB' : Both xs (4 * c + (p + 1)) f (t.set a.toNat (endAt (4 * c + p))) (tin.set a.toNat true) tout := by
              refine ⟨?_, hB.out.skip (by rw [hb]; decide), ?_, ?_⟩
              · have := hB.inn.put hb (by rw [ha]; exact hr.1) (by rw [ha]; exact hr.2) (by rw [ha]; exact hu)
                rw [ha] at this
                exact this
              · rw [count_set _ _ (by rw [← hmk]; exact getD_some (by rw [hB.inn.tlen]; exact hia)), hB.cin]
                show _ = entN xs (4 * c + p + 1)
                rw [entN, if_pos hb]
              · show _ + entN xs (4 * c + p + 1) = _
                rw [entN, if_pos hb]
                have := hB.cout
                omega
            have ih := scan m c (p + 1) f _ _ tout (by omega) (by omega) hc hB'
            have gS : ∀ {r}, Tends2 (fun K k => spec_l25Counts.l13 K k xs (c : Int) (xs.getD c z_GCrossing) (tin.set a.toNat true) tout ((p + 1 : Nat) : Int)) r → Tends2 (fun K k => spec_l25Counts.l13 K k xs (c : Int) (xs.getD c z_GCrossing) tin tout (p : Int)) r := fun h => by
              refine Tends2.succ (Tends2.congr hS ?_)
              rw [hb]
              exact Tends2.pos (decide_eq_true hr) (Tends2.pos rfl (Tends2.pos (by rw [hti]; exact hr) (Tends2.neg (by rw [hmk]; decide) h)))
            have gI : ∀ {r}, Tends2 (fun K k => impl_Diagram_arrows.l10 K k xs (c : Int) (xs.getD c z_GCrossing) (xs.getD c z_GCrossing).A (xs.getD c z_GCrossing).B (xs.getD c z_GCrossing).C (xs.getD c z_GCrossing).D f (t.set a.toNat (endAt (4 * c + p))) ((p + 1 : Nat) : Int)) r → Tends2 (fun K k => impl_Diagram_arrows.l10 K k xs (c : Int) (xs.getD c z_GCrossing) (xs.getD c z_GCrossing).A (xs.getD c z_GCrossing).B (xs.getD c z_GCrossing).C (xs.getD c z_GCrossing).D f t (p : Int)) r := fun h => by
              refine Tends2.succ (Tends2.congr hI ?_)
              rw [hb]
              exact Tends2.pos rfl (Tends2.pos (decide_eq_true (by rw [htl]; exact hr)) (Tends2.pos (by rw [htl]; exact hr) (Tends2.neg hu h)))
            rcases ih with ⟨h1, f', t', h2, h3⟩ | ⟨h1, f', t', h2, h3⟩
            · exact .inl ⟨gS h1, f', t', gI h2, h3⟩
            · exact .inr ⟨gS h1, f', t', gI h2, h3⟩
        | false =>
          have hmk := hB.out.mark a.toNat hia
          by_cases hu : 0 ≤ (f.getD a.toNat z_GEnd).crossing
          · rw [decide_eq_true hu] at hmk
            refine .inl ⟨Tends2.succ (Tends2.congr hS ?_), f, t, Tends2.succ (Tends2.congr hI ?_), fun hj => (by obtain ⟨q', k1, k2, k3⟩ := hB.out.back a.toNat hia hu; have := hj.one q' (4 * c + p) (by omega) (by omega) (by omega) (by rw [k2, hb]); omega)⟩
            · rw [hb]
              exact Tends2.pos (decide_eq_true hr) (Tends2.neg (by decide) (Tends2.pos (by rw [hto]; exact hr) (Tends2.pos hmk (Tends2.const _))))
            · rw [hb]
              exact Tends2.neg (by decide) (Tends2.pos (decide_eq_true (by rw [hfl]; exact hr)) (Tends2.pos (by rw [hfl]; exact hr) (Tends2.pos hu (Tends2.const _))))
          · rw [decide_eq_false hu] at hmk
            have hB' : Both xs (4 * c + (p + 1)) (f.set a.toNat (endAt (4 * c + p))) t tin (tout.set a.toNat true) := by
              refine ⟨hB.inn.skip (by rw [hb]; decide), ?_, ?_, ?_⟩
              · have := hB.out.put hb (by rw [ha]; exact hr.1) (by rw [ha]; exact hr.2) (by rw [ha]; exact hu)
                rw [ha] at this
                exact this
              · show _ = entN xs (4 * c + p + 1)
                rw [entN, if_neg (by rw [hb]; decide)]
                exact hB.cin
              · rw [count_set _ _ (by rw [← hmk]; exact getD_some (by rw [hB.out.tlen]; exact hia))]
                show _ + entN xs (4 * c + p + 1) = _
                rw [entN, if_neg (by rw [hb]; decide)]
                have := hB.cout
                omega
            have ih := scan m c (p + 1) _ t tin _ (by omega) (by omega) hc hB'
            have gS : ∀ {r}, Tends2 (fun K k => spec_l25Counts.l13 K k xs (c : Int) (xs.getD c z_GCrossing) tin (tout.set a.toNat true) ((p + 1 : Nat) : Int)) r → Tends2 (fun K k => spec_l25Counts.l13 K k xs (c : Int) (xs.getD c z_GCrossing) tin tout (p : Int)) r := fun h => by
              refine Tends2.succ (Tends2.congr hS ?_)
              rw [hb]
              exact Tends2.pos (decide_eq_true hr) (Tends2.neg (by decide) (Tends2.pos (by rw [hto]; exact hr) (Tends2.neg (by rw [hmk]; decide) h)))
            have gI : ∀ {r}, Tends2 (fun K k => impl_Diagram_arrows.l10 K k xs (c : Int) (xs.getD c z_GCrossing) (xs.getD c z_GCrossing).A (xs.getD c z_GCrossing).B (xs.getD c z_GCrossing).C (xs.getD c z_GCrossing).D (f.set a.toNat (endAt (4 * c + p))) t ((p + 1 : Nat) : Int)) r → Tends2 (fun K k => impl_Diagram_arrows.l10 K k xs (c : Int) (xs.getD c z_GCrossing) (xs.getD c z_GCrossing).A (xs.getD c z_GCrossing).B (xs.getD c z_GCrossing).C (xs.getD c z_GCrossing).D f t (p : Int)) r := fun h => by
              refine Tends2.succ (Tends2.congr hI ?_)
              rw [hb]
              exact Tends2.neg (by decide) (Tends2.pos (decide_eq_true (by rw [hfl]; exact hr)) (Tends2.pos (by rw [hfl]; exact hr) (Tends2.neg hu h)))
            rcases ih with ⟨h1, f', t', h2, h3⟩ | ⟨h1, f', t', h2, h3⟩
            · exact .inl ⟨gS h1, f', t', gI h2, h3⟩
            · exact .inr ⟨gS h1, f', t', gI h2, h3⟩
      · refine .inl ⟨Tends2.succ (Tends2.congr hS (Tends2.neg (by rw [decide_eq_false hr]; decide) (Tends2.const _))), f, t, Tends2.succ (Tends2.congr hI ?_), fun hj => hr (by have := hj.range (4 * c + p) (by omega); rw [ha] at this; exact this)⟩
        have hrt : ¬ (0 ≤ a ∧ a < (t.length : Int)) := by rw [hB.inn.len]; omega
        have hrf : ¬ (0 ≤ a ∧ a < (f.length : Int)) := by rw [hB.out.len]; omega
        cases hb : entAt xs (4 * c + p) with
        | true => exact Tends2.pos rfl (Tends2.neg (by rw [decide_eq_false hrt]; decide) (Tends2.const _))
        | false => exact Tends2.neg (by decide) (Tends2.neg (by rw [decide_eq_false hrf]; decide) (Tends2.const _))
    · obtain rfl : p = 4 := by omega
      have gS : ∀ {r}, Tends2 (fun K k => spec_l25Counts.l1 K k xs tin tout ((c + 1 : Nat) : Int)) r → Tends2 (fun K k => spec_l25Counts.l13 K k xs (c : Int) (xs.getD c z_GCrossing) tin tout ((4 : Nat) : Int)) r := fun h => by
        refine Tends2.succ (Tends2.congr (fun K k => ?_) h)
        rw [spec_l25Counts.l13, if_neg (by omega), w64_succ (by omega)]
      have gI : ∀ {r}, Tends2 (fun K k => impl_Diagram_arrows.l1 K k xs f t ((c + 1 : Nat) : Int)) r → Tends2 (fun K k => impl_Diagram_arrows.l10 K k xs (c : Int) (xs.getD c z_GCrossing) (xs.getD c z_GCrossing).A (xs.getD c z_GCrossing).B (xs.getD c z_GCrossing).C (xs.getD c z_GCrossing).D f t ((4 : Nat) : Int)) r := fun h => by
        refine Tends2.succ (Tends2.congr (fun K k => ?_) h)
        rw [impl_Diagram_arrows.l10, if_neg (by omega), w64_succ (by omega)]
      by_cases hc1 : c + 1 < xs.length
      · have ih := scan m (c + 1) 0 f t tin tout (by omega) (by omega) hc1 (by rw [show 4 * (c + 1) + 0 = 4 * c + 4 by omega]; exact hB)
        rcases ih with ⟨h1, f', t', h2, h3⟩ | ⟨h1, f', t', h2, h3⟩
        · exact .inl ⟨gS (counts_enter hn hc1 (hs _ hc1) h1), f', t', gI (arrows_enter hn hc1 h2), h3⟩
        · exact .inr ⟨gS (counts_enter hn hc1 (hs _ hc1) h1), f', t', gI (arrows_enter hn hc1 h2), h3⟩
      · have hB' : Both xs (4 * xs.length) f t tin tout := by rw [show 4 * xs.length = 4 * c + 4 by omega]; exact hB
        refine .inr ⟨gS (Tends2.succ (Tends2.congr (fun K k => ?_) (Tends2.const true))), f, t, gI (Tends2.succ (Tends2.congr (fun K k => ?_) (Tends2.const (f, t, true)))), hB'.good hs⟩
        · rw [spec_l25Counts.l1, if_neg (by omega)]
        · rw [impl_Diagram_arrows.l1, if_neg (by omega)]
end
end Go.Proofs.YtkmeepgpmppibaaGreatDoor
