/-
  Opposite ends of a crossing of a valid diagram are different arcs.
-/
import Derived.Test.YtdfiglhdjlmakaaGreatPlG2
set_option linter.unusedVariables false
set_option linter.unusedSimpArgs false
set_option linter.unusedSectionVars false
namespace Go.Proofs.YtdfiglhdjlmakaaGreat
open Go.RowKit
theorem cn_mem {n : Nat} : ∀ {l : List (Nat × Nat)}, OkEnds n l → ∀ e, e ∈ l → cn l (e.1 / 4) (e.2 / 4)
  | x :: l, h, e, he => by
    have hE := cn_eqN h.tail
    rcases List.mem_cons.1 he with rfl | he
    · have := h e (List.mem_cons_self ..)
      exact .inr (.inl ⟨hE.refl _ (by omega), hE.refl _ (by omega)⟩)
    · exact .inl (cn_mem h.tail e he)
theorem num_first {E : Nat → Nat → Prop} {o : List Int} {n : Nat} (h : ∀ i j, i < n → j < n → o.getD i 0 = o.getD j 0 → E i j) : ∀ i, i ≤ n → num E i ≤ firstN o i
  | 0, _ => Nat.le_refl _
  | i + 1, hi => by
    have ih := num_first h i (by omega)
    rw [num, firstN]
    by_cases hf : isFirst o i = true
    · rw [if_pos hf]
      split <;> omega
    · have hold : Old E i := by
        have h1 : ¬ ∀ j, j < i → o.getD j 0 ≠ o.getD i 0 := fun h => hf (isFirst_iff.2 h)
        obtain ⟨j, hj⟩ := Classical.not_forall.1 h1
        obtain ⟨hj1, hj2⟩ := Classical.not_imp.1 hj
        exact ⟨j, hj1, h j i (by omega) (by omega) (Classical.not_not.1 hj2)⟩
      rw [if_neg hf, if_pos hold]
      omega
section
variable {xs : List GCrossing} (hn : xs.length ≤ 10) (hs : Signs xs) {f t : List GEnd} (hg : Good xs f t)
include hn hs hg
theorem parts_E (cs : Int) {E : Nat → Nat → Prop} (hE : EqN xs.length E) (hA : ∀ a, a < 2 * xs.length → E (pT t a / 4) (pT f a / 4)) : ∀ (d a : Nat) (o : List Int), 2 * xs.length - a = d → a ≤ 2 * xs.length → (∀ i j, i < xs.length → j < xs.length → o.getD i 0 = o.getD j 0 → E i j) → Least xs.length o →
    ∃ o', Least xs.length o' ∧ (∀ i j, i < xs.length → j < xs.length → o'.getD i 0 = o'.getD j 0 → E i j) ∧ Tends2 (fun K k => spec_l25Parts.l10 K k xs cs o (a : Int)) o'
  | 0, a, o, hd, ha, hI, hl => by
    refine ⟨o, hl, hI, Tends2.succ (Tends2.congr (fun K k => ?_) (Tends2.const _))⟩
    rw [spec_l25Parts.l10, w64_id (by omega) (by omega), if_neg (by omega)]
  | d + 1, a, o, hd, ha, hI, hl => by
    have hal : a < 2 * xs.length := by omega
    have hT := pT_to hn hs hg hal
    have hF := pT_from hn hs hg hal
    have p1 := hg.place hn hs hT.1 hT.2.1 hT.2.2 cs
    have p2 := hg.place hn hs hF.1 hF.2.1 hF.2.2 cs
    have hEa := hA a hal
    generalize pT t a = q1 at *
    generalize pT f a = q2 at *
    have hc : q1 / 4 < xs.length := by omega
    have he : q2 / 4 < xs.length := by omega
    obtain ⟨p, hp⟩ : ∃ p, p = if o.getD (q2 / 4) 0 > o.getD (q1 / 4) 0 then o.getD (q2 / 4) 0 else o.getD (q1 / 4) 0 := ⟨_, rfl⟩
    obtain ⟨q, hq⟩ : ∃ q, q = if o.getD (q2 / 4) 0 < o.getD (q1 / 4) 0 then o.getD (q2 / 4) 0 else o.getD (q1 / 4) 0 := ⟨_, rfl⟩
    have hpq : (p = o.getD (q1 / 4) 0 ∧ q = o.getD (q2 / 4) 0) ∨ (p = o.getD (q2 / 4) 0 ∧ q = o.getD (q1 / 4) 0) := by
      by_cases h3 : o.getD (q2 / 4) 0 > o.getD (q1 / 4) 0
      · rw [if_pos h3] at hp; rw [if_neg (by omega)] at hq; exact .inr ⟨hp, hq⟩
      · rw [if_neg h3] at hp
        by_cases h4 : o.getD (q2 / 4) 0 < o.getD (q1 / 4) 0
        · rw [if_pos h4] at hq; exact .inl ⟨hp, hq⟩
        · rw [if_neg h4] at hq; exact .inl ⟨hp, by omega⟩
    have hle : q ≤ p := by rw [hp, hq]; split <;> split <;> omega
    have hcE : E (q2 / 4) (q1 / 4) := hE.symm _ _ hc he hEa
    -- a value p or q belongs to the part of q1's crossing
    have hval : ∀ i, i < xs.length → (o.getD i 0 = p ∨ o.getD i 0 = q) → E i (q1 / 4) := fun i hi h => by
      have : o.getD i 0 = o.getD (q1 / 4) 0 ∨ o.getD i 0 = o.getD (q2 / 4) 0 := by
        rcases hpq with ⟨e1, e2⟩ | ⟨e1, e2⟩ <;> rcases h with h | h
        · exact .inl (h.trans e1)
        · exact .inr (h.trans e2)
        · exact .inr (h.trans e1)
        · exact .inl (h.trans e2)
      rcases this with h | h
      · exact hI i _ hi hc h
      · exact hE.trans _ _ _ hi he hc (hI i _ hi he h) hcE
    have hI' : ∀ i j, i < xs.length → j < xs.length → (o.map (repl p q)).getD i 0 = (o.map (repl p q)).getD j 0 → E i j := fun i j hi hj h => by
      rw [getD_map (by rw [hl.len]; exact hi), getD_map (by rw [hl.len]; exact hj), repl_eq] at h
      rcases h with h | ⟨h1, h2⟩
      · exact hI i j hi hj h
      · exact hE.trans _ _ _ hi hc hj (hval i hi h1) (hE.symm _ _ hj hc (hval j hj h2))
    obtain ⟨o', k1, k2, k4⟩ := parts_E cs hE hA d (a + 1) (o.map (repl p q)) (by omega) (by omega) hI' (hl.join hc he hpq hle)
    refine ⟨o', k1, k2, ?_⟩
    have h13 := parts_l13 hn cs hl.len hal hp hq k4 o.length 0 o (by omega) rfl (fun i h => by omega) (fun _ _ => rfl)
    refine Tends2.succ (Tends2.congr (fun K k => ?_) (Tends2.bind2 (G := fun K k c _ => bind2 (spec_l25Place.f K xs cs (a : Int) false) (fun e _ => if 0 ≤ c ∧ c < (o.length : Int) then (if 0 ≤ e ∧ e < (o.length : Int) then spec_l25Parts.l13 K k xs cs o (a : Int) c e o 0 else none) else none)) p1.two (Tends2.bind2 (G := fun K k e _ => if 0 ≤ ((q1 / 4 : Nat) : Int) ∧ ((q1 / 4 : Nat) : Int) < (o.length : Int) then (if 0 ≤ e ∧ e < (o.length : Int) then spec_l25Parts.l13 K k xs cs o (a : Int) ((q1 / 4 : Nat) : Int) e o 0 else none) else none) p2.two (Tends2.pos (by rw [hl.len]; omega) (Tends2.pos (by rw [hl.len]; omega) h13)))))
    rw [spec_l25Parts.l10, w64_id (by omega) (by omega), if_pos (by omega)]
theorem count_E (cs : Int) {E : Nat → Nat → Prop} (hE : EqN xs.length E) (hA : ∀ a, a < 2 * xs.length → E (pT t a / 4) (pT f a / 4)) : ∃ C : Nat, num E xs.length ≤ C ∧ C ≤ xs.length ∧ Tends (fun K => spec_l25PartCount.f K xs cs) (C : Int) := by
  obtain ⟨o', h1, h2, h3⟩ := parts_E hn hs hg cs hE hA (2 * xs.length) 0 (upto xs.length) (by omega) (by omega) (fun i j hi hj h => by
    rw [upto_get hi, upto_get hj] at h
    obtain rfl : i = j := by omega
    exact hE.refl i hi) (upto_least _)
  have hp := parts_l1 hn cs (R := o') h3 xs.length 0 rfl (by omega)
  have hc := partCount_l1 (o := o') (by rw [h1.len]; exact hn) o'.length 0 rfl (by omega)
  have hle := fixN_le o' o'.length
  refine ⟨fixN o' o'.length, ?_, by rw [h1.len] at hle; rw [h1.len]; exact hle, Tends.bind (G := fun K t3 => spec_l25PartCount.l1 K K t3 0 0) (Tends.congr (fun K => rfl) hp.diag) hc.diag⟩
  rw [h1.len, fixN_first h1 _ (Nat.le_refl _)]
  exact num_first h2 _ (Nat.le_refl _)
theorem region_number {cs : Int} (hd : Tends (fun K => spec_IsDiagram.f K xs cs) true) {R : List (List Int)} (hR : Tends (fun K => spec_l25Regions.f K xs cs) R) {C : Int} (hC : Tends (fun K => spec_l25PartCount.f K xs cs) C) (h0 : 0 ≤ C ∧ C ≤ 1000) : (R.length : Int) = (xs.length : Int) + 2 * C := by
  have hin : spec_l01In.f cs 0 8 = some (decide (0 ≤ cs ∧ cs ≤ 8)) := by
    unfold spec_l01In.f
    by_cases h : 0 ≤ cs <;> simp [h]
  unfold spec_IsDiagram.f at hd
  rw [hin] at hd
  simp only [Option.bind_some] at hd
  by_cases hc : 0 ≤ cs ∧ cs ≤ 8
  · rw [decide_eq_true hc] at hd
    rcases scans hn cs hs with ⟨h1, f', t', h2, _⟩ | ⟨h1, _⟩
    · exact absurd (Tends.det hd (Tends.neg (by omega) (Tends.pos rfl (Tends.bind h1 (Tends.neg (by decide) (Tends.const false)))))) (by decide)
    · have h3 := Tends.det hd (Tends.neg (by omega) (Tends.pos rfl (Tends.bind h1 (Tends.pos rfl (Tends.bind hR (Tends.bind hC (Tends.const _)))))))
      have h4 := of_decide_eq_true h3.symm
      rw [w64_id (x := 2 * C) (by omega) (by omega), w64_id (by omega) (by omega)] at h4
      exact h4
  · rw [decide_eq_false hc] at hd
    exact absurd (Tends.det hd (Tends.neg (by omega) (Tends.neg (by decide) (Tends.const false)))) (by decide)
theorem next_at {a : Nat} (ha : a < 2 * xs.length) : pT f (onArc xs t a) / 4 = pT t a / 4 := by
  obtain ⟨q, h1, h2, h3, h4⟩ := to_end hn hs hg ha
  have hp2 : (q % 4 + 2) % 4 < 4 := Nat.mod_lt _ (by decide)
  have hc : q / 4 < xs.length := by omega
  have hq2 : 4 * (q / 4) + (q % 4 + 2) % 4 < 4 * xs.length := by omega
  have he : entAt xs (4 * (q / 4) + (q % 4 + 2) % 4) = false := by
    rw [entAt_cp xs hp2, opp_ent (hs _ hc) (Nat.mod_lt _ (by decide))]
    have : ent (xs.getD (q / 4) z_GCrossing) (q % 4) = true := h3
    rw [this]; rfl
  have hon : onArc xs t a = (arcAt xs (4 * (q / 4) + (q % 4 + 2) % 4)).toNat := by
    unfold onArc
    rw [h4, arcAt_cp xs hp2]; rfl
  have := end_from hn hs hg hq2 he
  rw [hon, ← this]
  unfold pT
  rw [h4, posOf_end]
  omega
theorem no_bridge {B : Nat} (hB : B < 2 * xs.length) {E : Nat → Nat → Prop} (hE : EqN xs.length E) (hA : ∀ a, a < 2 * xs.length → a ≠ B → E (pT t a / 4) (pT f a / 4)) : ∀ a, a < 2 * xs.length → E (pT t a / 4) (pT f a / 4) := fun a ha => by
  by_cases hab : a = B
  · subst hab
    have hT := on_turn hn hs hg
    obtain ⟨m, h0, hmN, hm, hone⟩ := period hT ha
    have hcr : ∀ i, pT t (it (onArc xs t) i a) / 4 < xs.length := fun i => by
      have := (pT_to hn hs hg (it_lt hT ha i)).1
      omega
    have hall : ∀ i, i + 1 ≤ m → E (pT t a / 4) (pT t (it (onArc xs t) i a) / 4) := fun i => by
      induction i with
      | zero => intro _; exact hE.refl _ (hcr 0)
      | succ i ih =>
        intro hi
        have h1 := ih (by omega)
        have hne : it (onArc xs t) (i + 1) a ≠ a := fun e => by
          have := hone (i + 1) 0 (by omega) h0 e
          omega
        have hl := it_lt hT ha (i + 1)
        have h2 := hA _ hl hne
        have h3 : pT f (it (onArc xs t) (i + 1) a) / 4 = pT t (it (onArc xs t) i a) / 4 := next_at hn hs hg (it_lt hT ha i)
        rw [h3] at h2
        exact hE.trans _ _ _ (hcr 0) (hcr i) (hcr (i + 1)) h1 (hE.symm _ _ (hcr (i + 1)) (hcr i) h2)
    have h1 := hall (m - 1) (by omega)
    have h3 : pT f (it (onArc xs t) (m - 1 + 1) a) / 4 = pT t (it (onArc xs t) (m - 1) a) / 4 := next_at hn hs hg (it_lt hT ha (m - 1))
    rw [Nat.sub_add_cancel h0, hm] at h3
    rw [h3]
    exact h1
  · exact hA a ha hab
theorem planar {cs : Int} (hd : Tends (fun K => spec_IsDiagram.f K xs cs) true) {B : Nat} (hB : B < 2 * xs.length) : ∃ φ ψ, Turn (4 * xs.length) φ ψ ∧ (∀ k, k < 4 * xs.length → φ k = mt xs f t (rotC k)) ∧ ¬ RR φ (pT t B) (pT f B) := by
  have hrest : ∀ a, a ∈ (List.range (2 * xs.length)).erase B ↔ (a ≠ B ∧ a < 2 * xs.length) := fun a => by
    rw [List.Nodup.mem_erase_iff List.nodup_range, List.mem_range]
  have hlen : ((List.range (2 * xs.length)).erase B).length = 2 * xs.length - 1 := by
    rw [List.length_erase_of_mem (List.mem_range.2 hB), List.length_range]
  have hnd : ((List.range (2 * xs.length)).erase B).Nodup := List.Nodup.erase _ List.nodup_range
  generalize (List.range (2 * xs.length)).erase B = S at *
  have hndB : (B :: S).Nodup := List.nodup_cons.2 ⟨fun h => ((hrest B).1 h).1 rfl, hnd⟩
  have hall : ∀ a, a ∈ B :: S ↔ a < 2 * xs.length := fun a => by
    rw [List.mem_cons, hrest]
    constructor
    · rintro (h | h)
      · rw [h]; exact hB
      · exact h.2
    · intro h
      by_cases e : a = B
      · exact .inl e
      · exact .inr ⟨e, h⟩
  have hokB := ends_ok hn hs hg (A := B :: S) (fun a ha => (hall a).1 ha)
  have hok : OkEnds xs.length (endsL f t S) := hokB.tail
  obtain ⟨ψ, hT⟩ := pm_turn hokB
  obtain ⟨ψ', hT'⟩ := pm_turn hok
  have hφ : ∀ k, k < 4 * xs.length → pm (endsL f t (B :: S)) k = mt xs f t (rotC k) := fun k hk => by
    have hr : rotC k < 4 * xs.length := ((rotC_turn xs.length).fwd k hk).1
    show sw (endsL f t (B :: S)) (rotC k) = _
    rw [sw_ends hn hs hg hndB (fun a ha => (hall a).1 ha) _ hr, if_pos ((hall _).2 (arc_lt hn hs hg hr).1)]
  refine ⟨_, ψ, hT, hφ, fun hRR => ?_⟩
  have heB := hokB (pT t B, pT f B) (List.mem_cons_self ..)
  have hno : ¬ RR (pm (endsL f t S)) (pT t B) (pT f B) := fun h => cycle_split hT' heB.1 heB.2.1 heB.2.2 h hRR
  have h1 : num (RR (pm (endsL f t (B :: S)))) (4 * xs.length) + 1 = num (RR (pm (endsL f t S))) (4 * xs.length) := num_tw_join hT' heB.1 heB.2.1 hno
  have h2 := euler hok
  have hEq := cn_eqN hok
  have hEA := no_bridge hn hs hg hB hEq (fun a ha hne => cn_mem hok (pT t a, pT f a) (List.mem_map.2 ⟨a, (hrest a).2 ⟨hne, ha⟩, rfl⟩))
  obtain ⟨C, h3, h4, h5⟩ := count_E hn hs hg cs hEq hEA
  obtain ⟨R, h6, h7⟩ := region_out hn hs hg cs hT hφ (4 * xs.length) 0 (List.replicate (4 * xs.length) false) [] (by omega) (Nat.zero_le _) (Nat.zero_le _) (Nat.zero_le _) (List.length_replicate ..) (fun b hb => by rw [getD_repB, getD_repB]) (fun b hb => absurd hb (Nat.not_lt_zero _))
  have hw4 : w64 (4 * (xs.length : Int)) = 4 * (xs.length : Int) := w64_id (by omega) (by omega)
  have ht : (4 * (xs.length : Int)).toNat = 4 * xs.length := by omega
  have h8 : Tends (fun K => spec_l25Regions.f K xs cs) R := Tends.congr (fun K => by
    rw [spec_l25Regions.f, hw4, ht, if_pos (by omega), if_pos (by omega)]
    rfl) h7.diag
  have h9 := region_number hn hs hg hd h8 h5 (by omega)
  have h10 : (endsL f t S).length = 2 * xs.length - 1 := by unfold endsL; rw [List.length_map, hlen]
  rw [h10] at h2
  omega
theorem opp_ne {cs : Int} (hd : Tends (fun K => spec_IsDiagram.f K xs cs) true) {c p : Nat} (hc : c < xs.length) (hp : p < 2) : arcAt xs (4 * c + p) ≠ arcAt xs (4 * c + p + 2) := fun e => by
  have hq : 4 * c + p + 1 < 4 * xs.length := by omega
  have hB := arc_lt hn hs hg hq
  obtain ⟨φ, ψ, hT, hφ, hno⟩ := planar hn hs hg hd hB.1
  have hr1 : rotC (4 * c + p + 1) = 4 * c + p + 2 := by unfold rotC; omega
  have hr0 : rotC (4 * c + p) = 4 * c + p + 1 := by unfold rotC; omega
  have hopp : entAt xs (4 * c + p) = !entAt xs (4 * c + p + 2) := by
    have h1 : entAt xs (4 * c + p) = ent (xs.getD c z_GCrossing) p := entAt_cp xs (by omega)
    have h2 : entAt xs (4 * c + (p + 2)) = ent (xs.getD c z_GCrossing) (p + 2) := entAt_cp xs (by omega)
    have h3 := opp_ent (hs c hc) (p := p) (by omega)
    rw [show (p + 2) % 4 = p + 2 by omega] at h3
    rw [h1, show 4 * c + p + 2 = 4 * c + (p + 2) by omega, h2, h3, Bool.not_not]
  have e1 : φ (4 * c + p + 1) = 4 * c + p := by
    rw [hφ _ hq, hr1]
    exact mt_eq hn hs hg (by omega) (by omega) e hopp
  have e2 : φ (4 * c + p) = mt xs f t (4 * c + p + 1) := by rw [hφ _ (by omega), hr0]
  have hR : RR φ (4 * c + p + 1) (mt xs f t (4 * c + p + 1)) := ⟨2, by show φ (φ (4 * c + p + 1)) = _; rw [e1, e2]⟩
  refine hno ?_
  cases h : entAt xs (4 * c + p + 1) with
  | true =>
    have h1 := end_to hn hs hg hq h
    unfold mt at hR
    rw [h, if_pos rfl] at hR
    rwa [← h1]
  | false =>
    have h1 := end_from hn hs hg hq h
    unfold mt at hR
    rw [h, if_neg (by decide)] at hR
    have h2 := hR.symm hT hq
    rwa [← h1]
end
end Go.Proofs.YtdfiglhdjlmakaaGreat
