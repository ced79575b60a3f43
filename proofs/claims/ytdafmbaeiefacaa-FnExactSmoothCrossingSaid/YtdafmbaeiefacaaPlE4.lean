/-
  SmoothCrossing: both answers agree.
-/
import Derived.Test.YtdafmbaeiefacaaPlE3
set_option linter.unusedVariables false
set_option linter.unusedSimpArgs false
set_option linter.unusedSectionVars false
namespace Go.Proofs.Ytdafmbaeiefacaa
open Go.RowKit
section
variable {xs : List GCrossing} (hn : xs.length ≤ 10) (hs : Signs xs) {f t : List GEnd} (hg : Good xs f t) {c : Nat} (hc : c < xs.length)
include hn hs hg hc
/-- Both smoothings come to the same. -/
theorem smoothings (cs : Int) : ∃ (ys : List GCrossing) (c' : Int), ys.length ≤ xs.length ∧ Tends (fun K => impl_Diagram_smoothed.f K xs cs f t (c : Int)) (ys, c') ∧
    ∀ {A : List Int}, A.length = 2 * xs.length → (∀ a, a < 2 * xs.length → goneTo ((List.replicate xs.length false).set c true) t a = true → A.getD a 0 = (smArc xs t a : Int)) → Tends (fun K => spec_l28Unite.f K xs cs ((List.replicate xs.length false).set c true) A) (ys, c') := by
  obtain ⟨o, hoo⟩ : ∃ o : List Bool, o = (List.replicate xs.length false).set c true := ⟨_, rfl⟩
  rw [← hoo]
  have ho : o.length = xs.length := by rw [hoo]; simp
  have hoc : ∀ k, k < xs.length → (o.getD k false = true ↔ k = c) := fun k hk => by
    rw [hoo, getD_setB (by simp; omega), getD_repB]
    by_cases e : k = c
    · rw [if_pos e]; exact ⟨fun _ => e, fun _ => rfl⟩
    · rw [if_neg e]; exact ⟨fun h => Bool.noConfusion h, fun h => absurd h e⟩
  have hw := sm_wire hn hs hg o
  have hfl : (f.length : Int) = 2 * (xs.length : Int) := by rw [hg.flen]; omega
  have hrl := rest_len (xs := xs) (o := o) (2 * xs.length) (goneTo o t) (goneTo o f) (smArc xs t) xs.length
  refine ⟨rest xs o (2 * xs.length) (goneTo o t) (goneTo o f) (smArc xs t) xs.length, addW cs (leads (lead (2 * xs.length) (goneTo o t) (goneTo o f) (smArc xs t)) (2 * xs.length) 0), hrl, ?_, fun {A} hA hnA => ?_⟩
  · -- the program
    obtain ⟨x, hx⟩ : ∃ x, x = xs.getD c z_GCrossing := ⟨_, rfl⟩
    have hsg := hs c hc
    rw [← hx] at hsg
    obtain ⟨pu, hpu, u1, u2, u3, u4, u5⟩ := up_facts hsg
    have hpu4 : pu < 4 := by omega
    have hq0 : 4 * c + 0 < 4 * xs.length := by omega
    have hqu : 4 * c + pu < 4 * xs.length := by omega
    have e0 : entAt xs (4 * c + 0) = true := by rw [entAt_cp xs (by decide)]; rfl
    have eu : entAt xs (4 * c + pu) = true := by rw [entAt_cp xs hpu4, ← hx]; exact u4
    obtain ⟨a0, a1, a2⟩ := hg.tin _ hq0 e0
    obtain ⟨b0, b1, b2⟩ := hg.tin _ hqu eu
    have hA0 : arcAt xs (4 * c + 0) = x.A := by rw [arcAt_cp xs (by decide), ← hx]; rfl
    have hAu : arcAt xs (4 * c + pu) = endv x pu := by rw [arcAt_cp xs hpu4, ← hx]
    rw [hA0] at a0 a1 a2
    rw [hAu] at b0 b1 b2
    obtain ⟨e, he⟩ : ∃ e : Nat, x.A = (e : Int) := ⟨x.A.toNat, by omega⟩
    obtain ⟨u, hu⟩ : ∃ u : Nat, endv x pu = (u : Int) := ⟨(endv x pu).toNat, by omega⟩
    rw [he, Int.toNat_natCast] at a2
    rw [hu, Int.toNat_natCast] at b2
    have hel : e < 2 * xs.length := by omega
    have hul : u < 2 * xs.length := by omega
    have hne : e ≠ u := fun h => by
      subst h
      have h1 := a2.symm.trans b2
      have := endAt_inj (Option.some.inj h1)
      omega
    have ha2 : t.getD e z_GEnd = ⟨(c : Int), ((0 : Nat) : Int)⟩ := by rw [get_end a2]; unfold endAt; rw [cp_div (by decide), cp_mod (by decide)]
    have hb2 : t.getD u z_GEnd = ⟨(c : Int), (pu : Int)⟩ := by rw [get_end b2]; unfold endAt; rw [cp_div hpu4, cp_mod hpu4]
    have hGe : goneTo o t e = true := by
      unfold goneTo
      rw [ha2]
      show o.getD (c : Int).toNat false = true
      rw [Int.toNat_natCast]
      exact (hoc c hc).2 rfl
    have hGu : goneTo o t u = true := by
      unfold goneTo
      rw [hb2]
      show o.getD (c : Int).toNat false = true
      rw [Int.toNat_natCast]
      exact (hoc c hc).2 rfl
    have hGa : ∀ b, b < 2 * xs.length → goneTo o t b = true → b = e ∨ b = u := fun b hb hG => by
      obtain ⟨c', p, hc', hp, _, hog, hte, harc, hent⟩ := place_to hn hs hg cs (o := o) hb
      have hcc : c' = c := (hoc c' hc').1 (hog.trans hG)
      rw [hcc] at harc hent
      rw [entAt_cp xs hp, ← hx] at hent
      rcases u5 p hp hent with h | h
      · rw [h, hA0] at harc; left; omega
      · rw [h, hAu] at harc; right; omega
    have hm0 : smo x 0 < 4 := smo_lt x (by decide)
    have n0 : (smArc xs t e : Int) = endv x (smo x 0) := by
      rw [sm_arc hn hs hg o (by decide) ha2, ← hx]
      have r := hg.range (q := 4 * c + smo x 0) (by omega)
      have h0 : arcAt xs (4 * c + smo x 0) = endv x (smo x 0) := by rw [arcAt_cp xs hm0, ← hx]
      rw [h0] at r ⊢
      omega
    have nu : (smArc xs t u : Int) = x.C := by
      rw [sm_arc hn hs hg o hpu4 hb2, ← hx, u3]
      have h := hg.range (q := 4 * c + 2) (by omega)
      have h2 : arcAt xs (4 * c + 2) = x.C := by rw [arcAt_cp xs (by decide), ← hx]; rfl
      rw [h2] at h ⊢
      omega
    have hgu : ([x.A, x.B, x.C, x.D] : List Int).getD (w64 (2 + x.Sign)).toNat 0 = (u : Int) := by rw [u1, Int.toNat_natCast]; exact hu
    unfold impl_Diagram_smoothed.f impl_size_impl_end.f
    refine Tends.pos (by omega) ?_
    rw [Int.toNat_natCast, ← hx]
    simp only [bnd_eq, impl_Crossing_ends.f, bind4, Option.bind_some]
    rw [u2]
    refine Tends.pos (by omega) (Tends.pos (by rw [u1]; omega) (Tends.neg (by rw [hgu, he]; omega) ?_))
    refine Tends.bind2 (a := xs) (b := cs) (Tends.congr (fun K => ?_) (Tends.const _)) ?_
    · unfold impl_copyDiagram.f
      rw [clone_eq (xs := xs) (by omega)]
      rfl
    · rw [hfl]
      refine Tends.bind (repeat_int (-1) hn) ?_
      rw [Int.toNat_natCast, ends_get, hgu, ← n0, ← nu, he, ← hfl]
      have hmap : MapSays (2 * xs.length) (goneTo o t) (smArc xs t) (Below_ (2 * xs.length) (goneTo o t) (goneTo o f) (smArc xs t) 0) (mput (mput ([] : List (Int × Int)) (e : Int) (smArc xs t e : Int)) (u : Int) (smArc xs t u : Int)) := by
        refine ⟨(UM.put _ _ (UM.put _ _ List.nodup_nil)), fun b hb hG _ => ?_, fun b hb h => ?_⟩
        · rw [mget_put, mget_put]
          rcases hGa b hb hG with h | h
          · subst h
            rw [if_neg (by omega), if_pos rfl]
          · subst h
            rw [if_pos rfl]
        · rcases h with hG | ⟨s, i, h, _⟩
          · rw [mget_put, mget_put, if_neg, if_neg]
            · rfl
            · intro h
              have : b = e := by omega
              rw [this, hGe] at hG; cases hG
            · intro h
              have : b = u := by omega
              rw [this, hGu] at hG; cases hG
          · exact absurd h (Nat.not_lt_zero _)
      have hL : ([x.A, ([x.A, x.B, x.C, x.D] : List Int).getD (w64 (2 + x.Sign)).toNat 0] : List Int) = [(e : Int), (u : Int)] := by rw [hgu, he]
      rw [he, ← nu] at hL
      have h := smooth_l1 hn hs hg ho hw hoc (e8 := x) (z0 := (e : Int)) (z1 := x.B) (z2 := (smArc xs t u : Int)) (z3 := x.D) (cs := cs) (F := (rest xs o (2 * xs.length) (goneTo o t) (goneTo o f) (smArc xs t) xs.length, addW cs (leads (lead (2 * xs.length) (goneTo o t) (goneTo o f) (smArc xs t)) (2 * xs.length) 0))) (fun m work numbers hM hm => ?_) (2 * xs.length) 0 _ xs (List.replicate (2 * xs.length) (-1)) rfl (Nat.zero_le _) hmap ⟨by simp, ⟨rfl, fun _ _ => rfl⟩, fun s h _ => absurd h (Nat.not_lt_zero _), fun _ _ _ => rfl, fun q s i _ _ h => absurd h (Nat.not_lt_zero _)⟩
      · exact h.diag
      · refine smooth_l49 hn hs hg ho hw hoc hm ?_ xs.length 0 rfl (Nat.zero_le _)
        exact smooth_circles hn hs hg o hL hne hel hul hGe hGu hGa hM cs
  · -- the reference
    refine unite_f hn hs hg ho hA hw hnA (fun name used hnm => ?_)
    refine circles_sm hn hs hg o hA hnA (2 * xs.length) 0 used cs rfl (Nat.zero_le _) hnm.ulen (fun b hb => ?_) ?_
    · rw [hnm.use b hb]
      exact ⟨.inl, fun h => h.elim id (fun ⟨a', j, h, _⟩ => absurd h (Nat.not_lt_zero _))⟩
    · exact unite_l21 hn hs hg ho hA hw hnA hnm _ xs.length 0 rfl (Nat.zero_le _)
/-- The reference's list of how the arcs go on. -/
theorem next_list {x : GCrossing} (hx : x = xs.getD c z_GCrossing) {pu : Nat} (hpu4 : pu < 4) (u3 : smo x pu = 2) (u4 : ent x pu = true) (hp0 : pu ≠ 0) (u5 : ∀ p, p < 4 → ent x p = true → p = 0 ∨ p = pu) :
    ∀ a, a < 2 * xs.length → goneTo ((List.replicate xs.length false).set c true) t a = true → (((List.replicate (2 * xs.length) (0 : Int)).set x.A.toNat (endv x (smo x 0))).set (endv x pu).toNat x.C).getD a 0 = (smArc xs t a : Int) := by
  intro a ha hG
  obtain ⟨c', p, hc', hp, _, hog, hte, harc, hent⟩ := place_to hn hs hg 0 (o := (List.replicate xs.length false).set c true) ha
  have hcc : c' = c := by
    rw [hG, getD_setB (by simp; omega), getD_repB] at hog
    by_cases e : c' = c
    · exact e
    · rw [if_neg e] at hog; cases hog
  rw [hcc] at harc hent hte
  have hent' := hent
  rw [entAt_cp xs hp, ← hx] at hent'
  have hA0 : arcAt xs (4 * c + 0) = x.A := by rw [arcAt_cp xs (by decide), ← hx]; rfl
  have hAu : arcAt xs (4 * c + pu) = endv x pu := by rw [arcAt_cp xs hpu4, ← hx]
  have r0 := hg.range (q := 4 * c + 0) (by omega)
  have ru := hg.range (q := 4 * c + pu) (by omega)
  rw [hA0] at r0
  rw [hAu] at ru
  have e0 : entAt xs (4 * c + 0) = true := by rw [entAt_cp xs (by decide)]; rfl
  have eu : entAt xs (4 * c + pu) = true := by rw [entAt_cp xs hpu4, ← hx]; exact u4
  have hne : x.A ≠ endv x pu := fun h => by
    have := hg.one hn hs (q := 4 * c + 0) (q' := 4 * c + pu) (by omega) (by omega) (by rw [hA0, hAu]; exact h) (by rw [e0, eu])
    omega
  have hm0 : smo x 0 < 4 := smo_lt x (by decide)
  rw [getD_setI (by rw [List.length_set, List.length_replicate]; omega), getD_setI (by rw [List.length_replicate]; omega), sm_arc hn hs hg [] hp hte, ← hx]
  rcases u5 p hp hent' with h | h
  · subst h
    rw [hA0] at harc
    have r := hg.range (q := 4 * c + smo x 0) (by omega)
    rw [arcAt_cp xs hm0, ← hx] at r ⊢
    rw [if_neg (by omega), if_pos (by omega)]
    omega
  · subst h
    rw [hAu] at harc
    rw [if_pos (by omega), u3]
    have r := hg.range (q := 4 * c + 2) (by omega)
    have h2 : arcAt xs (4 * c + 2) = x.C := by rw [arcAt_cp xs (by decide), ← hx]; rfl
    rw [h2] at r ⊢
    omega
end
theorem SmoothCrossing_both (xs : List GCrossing) (hx : xs.length ≤ 1048576) (cs c : Int) : ∃ ys c' e', List.length ys ≤ 2000000 ∧ Tends (fun K => spec_SmoothCrossing.f K xs cs c) (ys, c', e') ∧ Tends (fun K => impl_SmoothCrossing.f K xs cs c) (ys, c', e') := by
  unfold spec_SmoothCrossing.f impl_SmoothCrossing.f impl_crossingCode.f
  rw [in_cross _ _ (by omega), has_cross _ _ (by omega)]
  rcases drawings xs (by omega) cs with ⟨h1, h2⟩ | ⟨hn, hs, f, t, hg, h1, h2⟩
  · refine ⟨[], 0, 1, by simp, Tends.bind h1 (Tends.neg (by decide) (Tends.const _)), ?_⟩
    exact Tends.bind (a := (1 : Int)) (Tends.bind (a := false) (Tends.bind3 h2 (Tends.const false)) (Tends.neg (by decide) (Tends.const _))) (Tends.neg (by decide) (Tends.const _))
  have h3 : Tends (fun K => impl_isDiagram.f K xs cs) true := Tends.bind3 h2 (Tends.const true)
  by_cases hc : 0 ≤ c ∧ c < (xs.length : Int)
  rotate_left
  · rw [decide_eq_false hc]
    exact ⟨[], 0, 4, by simp, Tends.bind h1 (Tends.pos rfl (Tends.some_ (Tends.neg (by decide) (Tends.const _)))), Tends.bind (a := (4 : Int)) (Tends.bind h3 (Tends.pos rfl (Tends.some_ (Tends.neg (by decide) (Tends.const _))))) (Tends.neg (by decide) (Tends.const _))⟩
  rw [decide_eq_true hc]
  obtain ⟨ci, rfl⟩ : ∃ k : Nat, c = (k : Int) := ⟨c.toNat, by omega⟩
  have hcl : ci < xs.length := by omega
  have hw2 : w64 (2 * (xs.length : Int)) = 2 * (xs.length : Int) := w64_id (by omega) (by omega)
  have ht2 : (2 * (xs.length : Int)).toNat = 2 * xs.length := by omega
  obtain ⟨ys, c', hl, g1, g2⟩ := smoothings hn hs hg hcl cs
  obtain ⟨z, hz⟩ : ∃ z, z = limited ys c' := ⟨_, rfl⟩
  have hzl : z.1.length ≤ xs.length := by rw [hz]; exact limited_len hl
  refine ⟨z.1, z.2.1, z.2.2, by omega, ?_, ?_⟩
  · have hj : ∀ {A : List Int}, A.length = 2 * xs.length → (∀ a, a < 2 * xs.length → goneTo ((List.replicate xs.length false).set ci true) t a = true → A.getD a 0 = (smArc xs t a : Int)) → Tends (fun K => spec_SmoothCrossing.j1 K K xs cs (ci : Int) A) (z.1, z.2.1, z.2.2) := fun {A} hA hnA => by
      refine Tends2.diag (F := fun K k => spec_SmoothCrossing.j1 K k xs cs (ci : Int) A) (Tends2.succ (Tends2.congr (G := fun K k => bind2 (spec_l28Unite.f K xs cs ((List.replicate xs.length false).set ci true) A) fun t41 t42 => if 8 < t42 then some (([] : List GCrossing), (0 : Int), (3 : Int)) else some (t41, t42, 0)) (fun K k => ?_) (Tends2.bind2 (g2 hA hnA).two (Tends2.congr (fun K k => ?_) (Tends2.const _)))))
      · rw [spec_SmoothCrossing.j1, Int.toNat_natCast, Int.toNat_natCast]
      · rw [hz]
        unfold limited
        split <;> rfl
    obtain ⟨x, hxx⟩ : ∃ x, x = xs.getD ci z_GCrossing := ⟨_, rfl⟩
    have hsg := hs ci hcl
    rw [← hxx] at hsg
    have hr : ∀ p, p < 4 → 0 ≤ endv x p ∧ endv x p < 2 * (xs.length : Int) := fun p hp => by
      have := hg.range (q := 4 * ci + p) (by omega)
      rwa [arcAt_cp xs hp, ← hxx] at this
    have rA : 0 ≤ x.A ∧ x.A < 2 * (xs.length : Int) := hr 0 (by decide)
    have rB : 0 ≤ x.B ∧ x.B < 2 * (xs.length : Int) := hr 1 (by decide)
    have rD : 0 ≤ x.D ∧ x.D < 2 * (xs.length : Int) := hr 3 (by decide)
    refine Tends.bind h1 (Tends.pos rfl (Tends.some_ (Tends.pos rfl (Tends.pos (by omega) (Tends.pos (by omega) (Tends.pos (by omega) (Tends.pos (by omega) (Tends.pos (by simp; omega) (Tends.pos (by omega) ?_)))))))))
    rw [Int.toNat_natCast, ← hxx, hw2, ht2]
    simp only [bnd_eq]
    by_cases h5 : x.Sign = 1
    · refine Tends.pos h5 (Tends.pos (by rw [List.length_replicate]; omega) (Tends.pos (by rw [List.length_set, List.length_replicate]; omega) ?_))
      have hm : smo x 0 = 1 := by unfold smo; rw [h5]; rfl
      have := next_list hn hs hg hcl hxx (pu := 3) (by decide) (by unfold smo; rw [h5]; rfl) (by unfold ent; rw [h5]; rfl) (by decide) (fun p hp he => by
        unfold ent at he
        rw [h5] at he
        rcases (show p = 0 ∨ p = 1 ∨ p = 2 ∨ p = 3 by omega) with e | e | e | e <;> subst e <;> simp at he ⊢)
      rw [hm] at this
      exact hj (by rw [List.length_set, List.length_set, List.length_replicate]) this
    · have h6 : x.Sign = -1 := hsg.resolve_left h5
      refine Tends.neg h5 (Tends.pos (by rw [List.length_replicate]; omega) (Tends.pos (by rw [List.length_set, List.length_replicate]; omega) ?_))
      have hm : smo x 0 = 3 := by unfold smo; rw [h6]; rfl
      have := next_list hn hs hg hcl hxx (pu := 1) (by decide) (by unfold smo; rw [h6]; rfl) (by unfold ent; rw [h6]; rfl) (by decide) (fun p hp he => by
        unfold ent at he
        rw [h6] at he
        rcases (show p = 0 ∨ p = 1 ∨ p = 2 ∨ p = 3 by omega) with e | e | e | e <;> subst e <;> simp at he ⊢)
      rw [hm] at this
      exact hj (by rw [List.length_set, List.length_set, List.length_replicate]) this
  · refine Tends.bind (a := (0 : Int)) (Tends.bind h3 (Tends.pos rfl (Tends.some_ (Tends.pos rfl (Tends.const _))))) (Tends.pos rfl (Tends.bind3 h2 (Tends.bind2 g1 ?_)))
    rw [limited_impl, ← hz]
    exact Tends.bind3 (a := z.1) (b := z.2.1) (c := z.2.2) (Tends.const _) (Tends.const _)
end Go.Proofs.Ytdafmbaeiefacaa
