/-
  The search through a class, whole; what it leaves.
-/
import Derived.Test.YtbjfinndngafoaaGreatPlT11
set_option linter.unusedVariables false
set_option linter.unusedSimpArgs false
set_option linter.unusedSectionVars false
namespace Go.Proofs.YtbjfinndngafoaaGreat
open Go.RowKit
section
variable {ts : List (List GFace)} (hv : Val ts) {C : List Int} (hCl : C.length = 6 * ts.length) (hC : ∀ i f j fl, i < 6 * ts.length → f < 4 → nbr ts i f = some (j, fl) → j < 6 * ts.length ∧ C.getD j 0 = C.getD i 0)
include hv hCl hC
theorem Sr.all4 {sg0 : List Int} {i0 : Nat} {st : Srch} (h : Sr ts (6 * ts.length) C sg0 i0 st) {i : Nat} (hi : i ∈ st.2.1) : ∀ {m : Nat}, m ≤ 4 →
    Sr ts (6 * ts.length) C sg0 i0 (all4 ts i st m) ∧ (∀ j, j < 6 * ts.length → st.1.getD j 0 ≠ 0 → (Go.Proofs.YtbjfinndngafoaaGreat.all4 ts i st m).1.getD j 0 ≠ 0) ∧ (∀ f, f < m → ∀ j fl, nbr ts i f = some (j, fl) → (Go.Proofs.YtbjfinndngafoaaGreat.all4 ts i st m).1.getD j 0 ≠ 0) ∧ ∃ r, (Go.Proofs.YtbjfinndngafoaaGreat.all4 ts i st m).2.1 = st.2.1 ++ r
  | 0, _ => ⟨h, fun j _ hj => hj, fun f hf => by omega, [], by simp [Go.Proofs.YtbjfinndngafoaaGreat.all4]⟩
  | m + 1, hm => by
    obtain ⟨h1, h2, h3, r, h4⟩ := Sr.all4 h hi (m := m) (by omega)
    obtain ⟨g1, g2, g3, r', g4⟩ := h1.fst4 hv hCl hC (i := i) (f := m) (by rw [h4]; exact List.mem_append_left _ hi) (by omega)
    refine ⟨g1, fun j hj hn => g2 j hj (h2 j hj hn), fun f hf j fl hn => ?_, r ++ r', by rw [Go.Proofs.YtbjfinndngafoaaGreat.all4, g4, h4, List.append_assoc]⟩
    by_cases e : f = m
    · subst e; exact g3 j fl hn
    · have hiN := (h.inn i hi).1
      exact g2 j (hC i f j fl hiN (by omega) hn).1 (h3 f (by omega) j fl hn)
theorem sp_step {sg0 : List Int} {i0 : Nat} {st : Srch} (h : Sr ts (6 * ts.length) C sg0 i0 st) {rv : List Bool} {q1 : List Nat} {qi : Nat} (hq : qi < q1.length) {i : Nat} (hi : q1.getD qi 0 = i) {r : List Nat} (hr : st.2.1 = q1 ++ r) {f : Nat} (hf : f < 4) : ∀ R,
    Tends2 (fun K k => spec_l08Signs.l74 K k ts (ts.length : Int) rv (i0 : Int) (ints q1) (qi : Int) (EA (i % 6) : Int) (EB (i % 6) : Int) (fst4 ts i f st).1 (ints (fst4 ts i f st).2.1) (fst4 ts i f st).2.2 ((f + 1 : Nat) : Int)) R →
    Tends2 (fun K k => spec_l08Signs.l74 K k ts (ts.length : Int) rv (i0 : Int) (ints q1) (qi : Int) (EA (i % 6) : Int) (EB (i % 6) : Int) st.1 (ints st.2.1) st.2.2 (f : Int)) R := by
  intro R hR
  have h8 := hv.le
  have hql := h.qlen
  have hq' : qi < st.2.1.length := by rw [hr, List.length_append]; omega
  have hi' : st.2.1.getD qi 0 = i := by rw [hr, List.getD_eq_getElem?_getD, List.getElem?_append_left hq, ← List.getD_eq_getElem?_getD]; exact hi
  have him : i ∈ st.2.1 := by rw [← hi', List.getD_eq_getElem?_getD, List.getElem?_eq_getElem hq']; exact List.getElem_mem hq'
  obtain ⟨hiN, hic⟩ := h.inn i him
  have hl := h.len
  have ha : i / 6 < ts.length := by omega
  have he : i % 6 < 6 := by omega
  have h4 := hv.four (i / 6) ha
  obtain ⟨q1', q2, q3⟩ := EAB he
  have hqv : (ints q1).getD qi 0 = (i : Int) := by rw [ints_get hq, hi]
  have hqv' : (ints st.2.1).getD qi 0 = (i : Int) := by rw [ints_get hq', hi']
  have hw : w64 ((i : Int).tdiv 6) = ((i / 6 : Nat) : Int) := by rw [tdiv6, w64_id (by omega) (by omega)]
  rcases face_cases hv ha hf with ⟨g1, g2⟩ | ⟨g1, b, p, hb, hp, g2, g3⟩
  · have hs : fst4 ts i f st = st := by
      unfold Go.Proofs.YtbjfinndngafoaaGreat.fst4 nbr
      by_cases hc : EA (i % 6) = f ∨ EB (i % 6) = f
      · rw [if_pos hc]
      · rw [if_neg hc, if_pos g1]
    rw [hs] at hR
    have hfx2 : (ts.getD (i / 6) []).getD f z_GFace = ⟨-1, 0⟩ := g2
    refine Tends2.step (fun K k => ?_) hR
    rw [spec_l08Signs.l74, if_pos (by omega), Int.toNat_natCast, hqv, hw, Int.toNat_natCast, if_pos (by omega), Int.toNat_natCast, if_pos (by omega), bnd_eq, hfx2, if_pos (by decide), w64_succ (by omega)]
  · have hfx2 : (ts.getD (i / 6) []).getD f z_GFace = ⟨b, p⟩ := g2
    by_cases hc : EA (i % 6) = f ∨ EB (i % 6) = f
    · have hs : fst4 ts i f st = st := fst4_end hc
      rw [hs] at hR
      refine Tends2.step (fun K k => ?_) hR
      rw [spec_l08Signs.l74, if_pos (by omega), Int.toNat_natCast, hqv, hw, Int.toNat_natCast, if_pos (by omega), Int.toNat_natCast, if_pos (by omega), bnd_eq, hfx2, if_neg (by show ¬ (b : Int) < 0; omega), w64_succ (by omega)]
      by_cases e1 : EA (i % 6) = f
      · rw [if_pos (by omega)]
      · rw [if_neg (by omega), if_pos (by omega)]
    · have c1 : EA (i % 6) ≠ f := fun e => hc (.inl e)
      have c2 : EB (i % 6) ≠ f := fun e => hc (.inr e)
      obtain ⟨p1, p2, p3, p4⟩ := edge_img hp he
      have hn : nbr ts i f = some (6 * b + EE (PA p (EA (i % 6))) (PA p (EB (i % 6))), decide (PA p (EB (i % 6)) < PA p (EA (i % 6)))) := by
        have := nbr_glued hv (a := i / 6) he c1 c2 g2
        rwa [show 6 * (i / 6) + i % 6 = i by omega] at this
      have hs : fst4 ts i f st = stp i st (6 * b + EE (PA p (EA (i % 6))) (PA p (EB (i % 6))), decide (PA p (EB (i % 6)) < PA p (EA (i % 6)))) := by unfold Go.Proofs.YtbjfinndngafoaaGreat.fst4; rw [hn]
      obtain ⟨k1, k2⟩ := hC i f _ _ hiN hf hn
      rw [hs] at hR
      have hvi := h.val i hiN
      obtain ⟨j, hj⟩ : ∃ j, j = 6 * b + EE (PA p (EA (i % 6))) (PA p (EB (i % 6))) := ⟨_, rfl⟩
      obtain ⟨fl, hfl⟩ : ∃ fl, fl = decide (PA p (EB (i % 6)) < PA p (EA (i % 6))) := ⟨_, rfl⟩
      obtain ⟨wt, hwt⟩ : ∃ wt, wt = bif fl then - st.1.getD i 0 else st.1.getD i 0 := ⟨_, rfl⟩
      rw [← hj] at k1
      rw [← hj, ← hfl] at hR
      have e6 : w64 ((w64 (6 * (b : Int))) + ((EE (PA p (EA (i % 6))) (PA p (EB (i % 6))) : Nat) : Int)) = (j : Int) := by
        have := w6 (c := 6) (a := b) (e := EE (PA p (EA (i % 6))) (PA p (EB (i % 6)))) (by decide) (by omega) (by omega)
        rw [hj]; exact this
      have hwant : (if ((PA p (EB (i % 6)) : Nat) : Int) < ((PA p (EA (i % 6)) : Nat) : Int) then w64 (0 - (st.1.getD i 0)) else st.1.getD i 0) = wt := by
        rw [hwt, hfl]
        by_cases hlt : PA p (EB (i % 6)) < PA p (EA (i % 6))
        · rw [if_pos (by omega), decide_eq_true hlt, w64_id (by omega) (by omega)]; show _ = - st.1.getD i 0; omega
        · rw [if_neg (by omega), decide_eq_false hlt]; rfl
      have j80 : ∀ (sg' : List Int) (q' : List Int) (bad' : Bool), sg'.length = 6 * ts.length → (bif st.2.2 then true else !decide (sg'.getD j 0 = wt)) = bad' → Tends2 (fun K k => spec_l08Signs.l74 K k ts (ts.length : Int) rv (i0 : Int) (ints q1) (qi : Int) (EA (i % 6) : Int) (EB (i % 6) : Int) sg' q' bad' ((f + 1 : Nat) : Int)) R →
          Tends2 (fun K k => spec_l08Signs.j80 K k ts (ts.length : Int) rv (i0 : Int) (ints q1) (qi : Int) (EA (i % 6) : Int) (EB (i % 6) : Int) st.2.2 (f : Int) ⟨b, p⟩ ((EE (PA p (EA (i % 6))) (PA p (EB (i % 6))) : Nat) : Int) wt sg' q') R := fun sg' q' bad' hl' hb' ht => by
        refine Tends2.step (fun K k => ?_) ht
        rw [spec_l08Signs.j80, e6, Int.toNat_natCast, w64_succ (by omega), ← hb']
        cases st.2.2 with
        | true => rw [if_pos rfl]; rfl
        | false => rw [if_neg (by decide), if_pos (by omega)]; rfl
      have j79 : Tends2 (fun K k => spec_l08Signs.j79 K k ts (ts.length : Int) rv (i0 : Int) (ints q1) (qi : Int) (EA (i % 6) : Int) (EB (i % 6) : Int) st.1 (ints st.2.1) st.2.2 (f : Int) ⟨b, p⟩ ((EE (PA p (EA (i % 6))) (PA p (EB (i % 6))) : Nat) : Int) wt) R := by
        by_cases h0 : st.1.getD j 0 = 0
        · have hst : stp i st (j, fl) = (st.1.set j wt, st.2.1 ++ [j], st.2.2) := by unfold stp; simp only []; rw [if_pos h0, hwt]
          rw [hst] at hR
          refine Tends2.step (fun K k => ?_) (j80 (st.1.set j wt) (ints st.2.1 ++ [(j : Int)]) st.2.2 (by rw [List.length_set]; exact hl) (by rw [setD (by omega), if_pos rfl, decide_eq_true rfl]; cases st.2.2 <;> rfl) (by rw [← ints_app]; exact hR))
          rw [spec_l08Signs.j79, e6, if_pos (by omega), Int.toNat_natCast, if_pos h0, if_pos (by rw [ints_len]; omega)]
        · have hst : stp i st (j, fl) = (st.1, st.2.1, st.2.2 || !decide (st.1.getD j 0 = wt)) := by unfold stp; simp only []; rw [if_neg h0, hwt]
          rw [hst] at hR
          refine Tends2.step (fun K k => ?_) (j80 st.1 (ints st.2.1) (st.2.2 || !decide (st.1.getD j 0 = wt)) hl (by cases st.2.2 <;> rfl) hR)
          rw [spec_l08Signs.j79, e6, if_pos (by omega), Int.toNat_natCast, if_neg h0]
      refine Tends2.step (G := fun K k => (spec_l06At.f K (p : Int) (EA (i % 6) : Int)).bind fun t1847 => (spec_l06At.f K (p : Int) (EB (i % 6) : Int)).bind fun t1851 => (spec_l08Edge.f K t1847 t1851).bind fun t1855 => if t1851 < t1847 then spec_l08Signs.j79 K k ts (ts.length : Int) rv (i0 : Int) (ints q1) (qi : Int) (EA (i % 6) : Int) (EB (i % 6) : Int) st.1 (ints st.2.1) st.2.2 (f : Int) ⟨b, p⟩ t1855 (w64 (0 - (st.1.getD i 0))) else spec_l08Signs.j79 K k ts (ts.length : Int) rv (i0 : Int) (ints q1) (qi : Int) (EA (i % 6) : Int) (EB (i % 6) : Int) st.1 (ints st.2.1) st.2.2 (f : Int) ⟨b, p⟩ t1855 (st.1.getD i 0)) (fun K k => ?_) (Tends2.bind (at_t hp (by omega)).two (Tends2.bind (at_t hp q2).two (Tends2.bind (edge8_t p1 p2 p3).two ?_)))
      · rw [spec_l08Signs.l74, if_pos (by omega), Int.toNat_natCast, hqv, hw, Int.toNat_natCast, if_pos (by omega), Int.toNat_natCast, if_pos (by omega), bnd_eq, hfx2, if_neg (by show ¬ (b : Int) < 0; omega), if_neg (by omega), if_neg (by omega), hqv', Int.toNat_natCast]
        simp only [ints_len, hl, show (0 ≤ (qi : Int) ∧ (qi : Int) < (st.2.1.length : Int)) from ⟨by omega, by omega⟩, show (0 ≤ (i : Int) ∧ (i : Int) < ((6 * ts.length : Nat) : Int)) from ⟨by omega, by omega⟩, and_self, if_true]
      · by_cases hlt : ((PA p (EB (i % 6)) : Nat) : Int) < ((PA p (EA (i % 6)) : Nat) : Int)
        · rw [if_pos hlt] at hwant
          exact Tends2.pos hlt (by rw [hwant]; exact j79)
        · rw [if_neg hlt] at hwant
          exact Tends2.neg hlt (by rw [hwant]; exact j79)
theorem sp_four {sg0 : List Int} {i0 : Nat} {st : Srch} (h : Sr ts (6 * ts.length) C sg0 i0 st) {rv : List Bool} {qi : Nat} (hq : qi < st.2.1.length) {i : Nat} (hi : st.2.1.getD qi 0 = i) : ∀ R,
    Tends2 (fun K k => spec_l08Signs.l57 K k ts (ts.length : Int) rv (i0 : Int) (all4 ts i st 4).1 (ints (all4 ts i st 4).2.1) (all4 ts i st 4).2.2 ((qi + 1 : Nat) : Int)) R →
    Tends2 (fun K k => spec_l08Signs.l74 K k ts (ts.length : Int) rv (i0 : Int) (ints st.2.1) (qi : Int) (EA (i % 6) : Int) (EB (i % 6) : Int) st.1 (ints st.2.1) st.2.2 0) R := by
  intro R hR
  have hql := h.qlen
  have h8 := hv.le
  have him : i ∈ st.2.1 := by rw [← hi, List.getD_eq_getElem?_getD, List.getElem?_eq_getElem hq]; exact List.getElem_mem hq
  have key : ∀ m, m ≤ 4 → Tends2 (fun K k => spec_l08Signs.l74 K k ts (ts.length : Int) rv (i0 : Int) (ints st.2.1) (qi : Int) (EA (i % 6) : Int) (EB (i % 6) : Int) (all4 ts i st m).1 (ints (all4 ts i st m).2.1) (all4 ts i st m).2.2 (m : Int)) R → Tends2 (fun K k => spec_l08Signs.l74 K k ts (ts.length : Int) rv (i0 : Int) (ints st.2.1) (qi : Int) (EA (i % 6) : Int) (EB (i % 6) : Int) st.1 (ints st.2.1) st.2.2 0) R := by
    intro m
    induction m with
    | zero => intro _ ht; exact ht
    | succ m ih =>
      intro hm ht
      obtain ⟨h1, _, _, r, h4⟩ := h.all4 hv hCl hC him (m := m) (by omega)
      exact ih (by omega) (sp_step hv hCl hC h1 hq hi h4 (f := m) (by omega) R ht)
  refine key 4 (by omega) (Tends2.step (fun K k => ?_) hR)
  rw [spec_l08Signs.l74, if_neg (by decide), w64_succ (by omega)]
theorem bfs {sg0 : List Int} {i0 : Nat} {rv : List Bool} {rev0 : List (Int × Bool)} (hi0 : i0 < 6 * ts.length) : ∀ (d qi : Nat) (st : Srch) (rev : List (Int × Bool)), 6 * ts.length - qi = d → Sr ts (6 * ts.length) C sg0 i0 st → qi ≤ st.2.1.length → (∀ t, t < qi → ∀ f, f < 4 → ∀ j fl, nbr ts (st.2.1.getD t 0) f = some (j, fl) → st.1.getD j 0 ≠ 0) → RevR rev0 rev (C.getD i0 0) st.2.2 →
    ∃ st' rev', Sr ts (6 * ts.length) C sg0 i0 st' ∧ (∀ t, t < st'.2.1.length → ∀ f, f < 4 → ∀ j fl, nbr ts (st'.2.1.getD t 0) f = some (j, fl) → st'.1.getD j 0 ≠ 0) ∧ RevR rev0 rev' (C.getD i0 0) st'.2.2 ∧
      (∀ R, Tends2 (fun K k => spec_l08Signs.l81 K k ts (ts.length : Int) (i0 : Int) st'.1 (ints st'.2.1) st'.2.2 rv 0) R → Tends2 (fun K k => spec_l08Signs.l57 K k ts (ts.length : Int) rv (i0 : Int) st.1 (ints st.2.1) st.2.2 (qi : Int)) R) ∧
      (∀ R, Tends2 (fun K k => impl_Triangulation_edgeSigns.l1 K k ts (ts.length : Int) C st'.1 rev' ((i0 + 1 : Nat) : Int)) R → Tends2 (fun K k => impl_Triangulation_edgeSigns.l6 K k ts (ts.length : Int) C (i0 : Int) st.1 rev (ints st.2.1) (qi : Int)) R) := by
  intro d
  have h8 := hv.le
  induction d with
  | zero =>
    intro qi st rev hd h hq hp hr
    have hql := h.qlen
    have : qi = st.2.1.length := by omega
    refine ⟨st, rev, h, by rw [← this]; exact hp, hr, fun R hR => Tends2.step (fun K k => ?_) hR, fun R hR => Tends2.step (fun K k => ?_) hR⟩
    · rw [spec_l08Signs.l57, if_neg (by rw [ints_len]; omega)]
    · rw [impl_Triangulation_edgeSigns.l6, if_neg (by rw [ints_len]; omega), w64_succ (by omega)]
  | succ d ih =>
    intro qi st rev hd h hq hp hr
    have hql := h.qlen
    by_cases hlt : qi < st.2.1.length
    · obtain ⟨i, hi⟩ : ∃ i, st.2.1.getD qi 0 = i := ⟨_, rfl⟩
      have him : i ∈ st.2.1 := by rw [← hi, List.getD_eq_getElem?_getD, List.getElem?_eq_getElem hlt]; exact List.getElem_mem hlt
      obtain ⟨h1, h2, h3, r, h4⟩ := h.all4 hv hCl hC him (m := 4) (Nat.le_refl _)
      obtain ⟨rev1, g1, t1⟩ := nb_t hv hCl hC h hlt hi hr
      have hg : ∀ t, t < st.2.1.length → (all4 ts i st 4).2.1.getD t 0 = st.2.1.getD t 0 := fun t ht => by rw [h4, List.getD_eq_getElem?_getD, List.getElem?_append_left ht, ← List.getD_eq_getElem?_getD]
      obtain ⟨st', rev', k1, k2, k3, k4, k5⟩ := ih (qi + 1) (all4 ts i st 4) rev1 (by omega) h1 (by rw [h4, List.length_append]; omega) (fun t ht f hf j fl hn => by
        rw [hg t (by omega)] at hn
        by_cases e : t = qi
        · rw [e, hi] at hn; exact h3 f hf j fl hn
        · have hm : st.2.1.getD t 0 ∈ st.2.1 := by rw [List.getD_eq_getElem?_getD, List.getElem?_eq_getElem (by omega : t < st.2.1.length)]; exact List.getElem_mem _
          exact h2 j (hC _ f j fl (h.inn _ hm).1 hf hn).1 (hp t (by omega) f hf j fl hn)) g1
      refine ⟨st', rev', k1, k2, k3, fun R hR => ?_, fun R hR => ?_⟩
      · refine Tends2.step (fun K k => ?_) (sp_four hv hCl hC h hlt hi R (k4 R hR))
        rw [spec_l08Signs.l57, if_pos (by rw [ints_len]; omega), if_pos (by rw [ints_len]; omega), Int.toNat_natCast, ints_get hlt, hi, tmod6, ends8_t (by omega)]
        rfl
      · refine Tends2.step (fun K k => ?_) (Tends2.bind3 (F := fun K _ => impl_Triangulation_neighbors_Triangulation_edgeSigns_fn1.f K ts (i : Int) st.1 (ints st.2.1) (qi : Int) rev C) (G := fun K k t259 t260 t261 => if t259.length = st.1.length then impl_Triangulation_edgeSigns.l6 K k ts (ts.length : Int) C (i0 : Int) t259 t261 t260 ((qi + 1 : Nat) : Int) else none) t1.two (Tends2.pos (by rw [h1.len, h.len]) (k5 R hR)))
        rw [impl_Triangulation_edgeSigns.l6, if_pos (by rw [ints_len]; omega), if_pos (by rw [ints_len]; omega), Int.toNat_natCast, ints_get hlt, hi, w64_succ (by omega)]
    · have : qi = st.2.1.length := by omega
      refine ⟨st, rev, h, by rw [← this]; exact hp, hr, fun R hR => Tends2.step (fun K k => ?_) hR, fun R hR => Tends2.step (fun K k => ?_) hR⟩
      · rw [spec_l08Signs.l57, if_neg (by rw [ints_len]; omega)]
      · rw [impl_Triangulation_edgeSigns.l6, if_neg (by rw [ints_len]; omega), w64_succ (by omega)]
end
end Go.Proofs.YtbjfinndngafoaaGreat
