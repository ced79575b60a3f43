/-
  Triangulations: both look at the same faces in the same order.
-/
import Derived.Test.YtbjfinndngafoaaGreatPlT3
set_option linter.unusedVariables false
set_option linter.unusedSimpArgs false
set_option linter.unusedSectionVars false
namespace Go.Proofs.YtbjfinndngafoaaGreat
open Go.RowKit
def face (ts : List (List GFace)) (a f : Nat) : GFace := (ts.getD a []).getD f z_GFace
def Glued (ts : List (List GFace)) (a f b p : Nat) : Prop := b < ts.length ∧ p < 24 ∧ face ts a f = ⟨b, p⟩ ∧ face ts b (PA p f) = ⟨a, PI p⟩ ∧ ¬ (b = a ∧ PA p f = f)
def Free (ts : List (List GFace)) (a f : Nat) : Prop := face ts a f = ⟨-1, 0⟩
structure Val (ts : List (List GFace)) : Prop where
  le : ts.length ≤ 8
  four : ∀ a, a < ts.length → (ts.getD a []).length = 4
  ok : ∀ a f, a < ts.length → f < 4 → Free ts a f ∨ ∃ b p, Glued ts a f b p
theorem valid_eq (p : Int) : spec_l06Valid.f p = some (decide (0 ≤ p ∧ p ≤ 23)) := by
  unfold spec_l06Valid.f
  by_cases h : 0 ≤ p
  · rw [if_pos h]; congr 1; apply decide_eq_decide.2; omega
  · rw [if_neg h, decide_eq_false (by omega)]
section
variable {ts : List (List GFace)} (h8 : ts.length ≤ 8) (h4 : ∀ i, i < ts.length → (ts.getD i []).length = 4)
include h8 h4
theorem hasFace (v : Int) : impl_hasIndex_impl_Face.f ts v = some (decide (0 ≤ v ∧ v ≤ (ts.length : Int) - 1)) := by
  unfold impl_hasIndex_impl_Face.f impl_size_impl_Face.f
  rw [Option.bind_some, rng_eq, Option.bind_some, w64_id (by omega) (by omega)]
theorem good_both {a f : Nat} (ha : a < ts.length) (hf : f < 4) : ∃ b, (b = true → Free ts a f ∨ ∃ b p, Glued ts a f b p) ∧ Tends (fun K => impl_Triangulation_isGood.f K ts (a : Int) (f : Int)) b ∧
    (b = true → ∀ v, Tends2 (fun K k => spec_IsTriangulation.l37 K k ts (a : Int) ((f + 1 : Nat) : Int)) v → Tends2 (fun K k => spec_IsTriangulation.l37 K k ts (a : Int) (f : Int)) v) ∧
    (b = false → Tends2 (fun K k => spec_IsTriangulation.l37 K k ts (a : Int) (f : Int)) false) := by
  have hr := h4 a ha
  generalize hx : (ts.getD a []).getD f z_GFace = x
  have enter : ∀ (c : Bool) (v : Bool), (x.Tet = -1 → c = decide (x.Perm = 0)) → (x.Tet ≠ -1 → c = false) → Tends2 (fun K k => spec_IsTriangulation.j40 K k ts (a : Int) (f : Int) x c) v → Tends2 (fun K k => spec_IsTriangulation.l37 K k ts (a : Int) (f : Int)) v := fun c v c1 c2 h => by
    refine Tends2.step (fun K k => ?_) h
    rw [spec_IsTriangulation.l37, if_pos (by omega), if_pos (by omega), Int.toNat_natCast, if_pos (by omega), Int.toNat_natCast, hx, bnd_eq]
    by_cases ht : x.Tet = -1
    · rw [if_pos ht, ← c1 ht]
    · rw [if_neg ht, c2 ht]
  have no : ∀ c : Bool, (c = true → False) → (0 ≤ x.Tet ∧ x.Tet ≤ (ts.length : Int) - 1 → 0 ≤ x.Perm ∧ x.Perm ≤ 23 → False) → Tends2 (fun K k => spec_IsTriangulation.j40 K k ts (a : Int) (f : Int) x c) false := fun c hc h => by
    refine Tends2.of fun K k => ?_
    rw [spec_IsTriangulation.j40, if_neg (fun e => hc e), spec_l07Tets.f, Option.bind_some, in7_eq, Option.bind_some, w64_id (by omega) (by omega)]
    by_cases h1 : 0 ≤ x.Tet ∧ x.Tet ≤ (ts.length : Int) - 1
    · rw [decide_eq_true h1, if_pos rfl, valid_eq, Option.bind_some, if_neg (by rw [decide_eq_true_eq]; exact h h1)]
    · rw [decide_eq_false h1, if_neg (by decide)]
  have impl0 : ∀ b : Bool, Tends (fun K => if x.Tet = (-1) then (some (decide (x.Perm = 0))) else ((impl_hasIndex_impl_Face.f ts x.Tet).bind fun t20 => (if t20 = true then ((impl_isPerm.f x.Perm).bind fun t25 => (if t25 = true then ((impl_Face_target.f K x.Tet x.Perm f).bind fun t30 => (if 0 ≤ x.Tet ∧ x.Tet < (ts.length : Int) then (if 0 ≤ t30 ∧ t30 < ((ts.getD x.Tet.toNat []).length : Int) then (bnd ((ts.getD x.Tet.toNat []).getD t30.toNat z_GFace) (fun e36 => bind2 (impl_Face_partner.f K x.Tet x.Perm a) (fun t38 t39 => (if (e36.Tet, e36.Perm) = (t38, t39) then (if x.Tet = (a : Int) then (some (!(decide (t30 = f)))) else (some true)) else (some false))))) else none) else none)) else (some false))) else (some false)))) b → Tends (fun K => impl_Triangulation_isGood.f K ts (a : Int) (f : Int)) b := fun b h => by
    refine Tends.congr (fun K => ?_) h
    rw [impl_Triangulation_isGood.f, if_pos (by omega), Int.toNat_natCast, if_pos (by omega), Int.toNat_natCast, hx, bnd_eq]
  by_cases ht : x.Tet = -1
  · refine ⟨decide (x.Perm = 0), fun hb => .inl (by unfold Free face; rw [hx]; cases x; simp only at ht; simp only [decide_eq_true_eq] at hb; rw [ht, hb]), impl0 _ (Tends.pos ht (Tends.const _)), fun hb v hv => ?_, fun hb => ?_⟩
    · refine enter true v (fun _ => hb.symm) (fun h => absurd ht h) (Tends2.step (fun K k => ?_) hv)
      rw [spec_IsTriangulation.j40, if_pos rfl, w64_succ (by omega)]
    · exact enter false false (fun _ => hb.symm) (fun h => absurd ht h) (no false (by decide) (fun h => by omega))
  · by_cases h1 : 0 ≤ x.Tet ∧ x.Tet ≤ (ts.length : Int) - 1
    rotate_left
    · refine ⟨false, (fun h => by cases h), impl0 _ (Tends.neg ht ?_), (fun h => by cases h), fun _ => enter false false (fun h => absurd h ht) (fun _ => rfl) (no false (by decide) (fun h => absurd h h1))⟩
      rw [hasFace h8 h4, decide_eq_false h1]; exact Tends.const _
    by_cases h2 : 0 ≤ x.Perm ∧ x.Perm ≤ 23
    rotate_left
    · refine ⟨false, (fun h => by cases h), impl0 _ (Tends.neg ht ?_), (fun h => by cases h), fun _ => enter false false (fun h => absurd h ht) (fun _ => rfl) (no false (by decide) (fun _ h => absurd h h2))⟩
      rw [hasFace h8 h4, decide_eq_true h1]
      refine Tends.bind (Tends.const true) (Tends.pos rfl ?_)
      unfold impl_isPerm.f
      rw [rng_eq, decide_eq_false h2]; exact Tends.const _
    obtain ⟨u, hu⟩ : ∃ u : Nat, x.Tet = u := ⟨x.Tet.toNat, by omega⟩
    obtain ⟨q, hq⟩ : ∃ q : Nat, x.Perm = q := ⟨x.Perm.toNat, by omega⟩
    have hq24 : q < 24 := by omega
    have hs := PA_lt hq24 hf
    have h4u := h4 u (by omega)
    have tA : Tends (fun K => spec_l06At.f K x.Perm (f : Int)) ((PA q f : Int)) := by rw [hq]; exact at_t hq24 hf
    have tB : Tends (fun K => spec_l06Back.f K x.Perm) ((PI q : Int)) := by rw [hq]; exact back_t hq24
    have iA : Tends (fun K => impl_Face_target.f K x.Tet x.Perm (f : Int)) ((PA q f : Int)) := by rw [hq]; exact target_t _ hq24 hf
    have iB : Tends (fun K => impl_Face_partner.f K x.Tet x.Perm (a : Int)) ((a : Int), (PI q : Int)) := by
      rw [hq]; exact Tends.bind (invert_t hq24) (Tends.const _)
    generalize hy : (ts.getD x.Tet.toNat []).getD (((PA q f : Nat) : Int)).toNat z_GFace = y
    have hut : (ts.getD x.Tet.toNat []).length = 4 := by rw [hu, Int.toNat_natCast]; exact h4u
    let c : Bool := decide ((y.Tet, y.Perm) = ((a : Int), (PI q : Int))) && !(decide (x.Tet = (a : Int)) && decide ((PA q f : Int) = (f : Int)))
    have hspec : ∀ v r : Bool, (c = true → Tends2 (fun K k => spec_IsTriangulation.l37 K k ts (a : Int) ((f + 1 : Nat) : Int)) v ∧ r = v) → (c = false → r = false) → Tends2 (fun K k => spec_IsTriangulation.j40 K k ts (a : Int) (f : Int) x false) r := fun v r g1 g2 => by
      refine Tends2.step (G := fun K k => (spec_l06At.f K x.Perm (f : Int)).bind fun t1613 => (spec_l06Back.f K x.Perm).bind fun t1617 => (if 0 ≤ x.Tet ∧ x.Tet < (ts.length : Int) then (if 0 ≤ t1613 ∧ t1613 < ((ts.getD x.Tet.toNat []).length : Int) then (bnd ((ts.getD x.Tet.toNat []).getD t1613.toNat z_GFace) (fun e1626 => if (e1626.Tet, e1626.Perm) = ((a : Int), t1617) then (if x.Tet = (a : Int) then (if t1613 = (f : Int) then (some false) else (spec_IsTriangulation.l37 K k ts (a : Int) (w64 ((f : Int) + 1)))) else (spec_IsTriangulation.l37 K k ts (a : Int) (w64 ((f : Int) + 1)))) else (some false))) else none) else none)) (fun K k => ?_) ?_
      · rw [spec_IsTriangulation.j40, if_neg (by decide), spec_l07Tets.f, Option.bind_some, in7_eq, Option.bind_some, w64_id (by omega) (by omega), decide_eq_true h1, if_pos rfl, valid_eq, Option.bind_some, decide_eq_true h2, if_pos rfl]
      · refine Tends2.bind tA.two (Tends2.bind tB.two (Tends2.pos (by omega) (Tends2.pos (by rw [hut]; omega) ?_)))
        rw [hy]
        simp only [bnd_eq, w64_succ (show f < 4611686018427387904 by omega)]
        by_cases e1 : (y.Tet, y.Perm) = ((a : Int), (PI q : Int))
        · refine Tends2.pos e1 ?_
          by_cases e2 : x.Tet = (a : Int)
          · by_cases e3 : (PA q f : Int) = (f : Int)
            · have : c = false := by show (_ && _) = false; rw [decide_eq_true e1, decide_eq_true e2, decide_eq_true e3]; rfl
              rw [g2 this]; exact Tends2.pos e2 (Tends2.pos e3 (Tends2.const _))
            · have : c = true := by show (_ && _) = true; rw [decide_eq_true e1, decide_eq_true e2, decide_eq_false e3]; rfl
              rw [(g1 this).2]; exact Tends2.pos e2 (Tends2.neg e3 (g1 this).1)
          · have : c = true := by show (_ && _) = true; rw [decide_eq_true e1, decide_eq_false e2]; rfl
            rw [(g1 this).2]; exact Tends2.neg e2 (g1 this).1
        · have : c = false := by show (_ && _) = false; rw [decide_eq_false e1]; rfl
          rw [g2 this]; exact Tends2.neg e1 (Tends2.const _)
    have hgood : c = true → Free ts a f ∨ ∃ b p, Glued ts a f b p := fun hc => by
      have hc' := hc
      simp only [c, Bool.and_eq_true, Bool.not_eq_true', Bool.and_eq_false_iff, decide_eq_true_eq, decide_eq_false_iff_not] at hc'
      obtain ⟨h5, h6⟩ := hc'
      refine .inr ⟨u, q, by omega, hq24, ?_, ?_, ?_⟩
      · unfold face; rw [hx, ← hu, ← hq]
      · unfold face; rw [hu, Int.toNat_natCast, Int.toNat_natCast] at hy; rw [hy]; cases y; simp only [Prod.mk.injEq] at h5; rw [h5.1, h5.2]
      · rintro ⟨h7, h8⟩; rcases h6 with h6 | h6 <;> omega
    refine ⟨c, hgood, impl0 _ (Tends.neg ht ?_), fun hb v hv => enter false v (fun h => absurd h ht) (fun _ => rfl) (hspec v v (fun _ => ⟨hv, rfl⟩) (fun h => by rw [hb] at h; cases h)), fun hb => enter false false (fun h => absurd h ht) (fun _ => rfl) (hspec false false (fun h => by rw [hb] at h; cases h) (fun _ => rfl))⟩
    rw [hasFace h8 h4, decide_eq_true h1]
    refine Tends.bind (Tends.const true) (Tends.pos rfl ?_)
    unfold impl_isPerm.f
    rw [rng_eq, decide_eq_true h2]
    refine Tends.bind (a := true) (Tends.const _) (Tends.pos rfl <| Tends.bind iA (Tends.pos (by omega) (Tends.pos (by rw [hut]; omega) ?_)))
    rw [hy]
    simp only [bnd_eq]
    refine Tends.bind2 iB ?_
    by_cases e1 : (y.Tet, y.Perm) = ((a : Int), (PI q : Int))
    · refine Tends.pos e1 ?_
      by_cases e2 : x.Tet = (a : Int)
      · refine Tends.pos e2 ?_
        have : c = !decide ((PA q f : Int) = (f : Int)) := by show (_ && _) = _; rw [decide_eq_true e1, decide_eq_true e2]; simp
        rw [this]; exact Tends.const _
      · have : c = true := by show (_ && _) = true; rw [decide_eq_true e1, decide_eq_false e2]; rfl
        rw [this]; exact Tends.neg e2 (Tends.const _)
    · have : c = false := by show (_ && _) = false; rw [decide_eq_false e1]; rfl
      rw [this]; exact Tends.neg e1 (Tends.const _)
theorem loops_both : ∀ m a, ts.length - a = m → a ≤ ts.length → ∃ b, (b = true → ∀ a', a ≤ a' → a' < ts.length → ∀ f, f < 4 → Free ts a' f ∨ ∃ b p, Glued ts a' f b p) ∧ Tends2 (fun K k => spec_IsTriangulation.l28 K k ts (a : Int)) b ∧ Tends2 (fun K k => impl_isTriangulation.l1 K k ts (ts.length : Int) (a : Int)) b
  | 0, a, hm, hi => ⟨true, fun _ a' h1 h2 => by omega, Tends2.of fun K k => by rw [spec_IsTriangulation.l28, spec_l07Tets.f, Option.bind_some, if_neg (by omega)], Tends2.of fun K k => by rw [impl_isTriangulation.l1, if_neg (by omega)]⟩
  | m + 1, a, hm, hi => by
    obtain ⟨b', hb', t1, t2⟩ := loops_both m (a + 1) (by omega) (by omega)
    have ha : a < ts.length := by omega
    obtain ⟨G, hG⟩ : ∃ G : Nat → Bool, ∀ f : Nat, f < 4 → (G f = true → Free ts a f ∨ ∃ b p, Glued ts a f b p) ∧ Tends (fun K => impl_Triangulation_isGood.f K ts (a : Int) (f : Int)) (G f) ∧
        (G f = true → ∀ v, Tends2 (fun K k => spec_IsTriangulation.l37 K k ts (a : Int) ((f + 1 : Nat) : Int)) v → Tends2 (fun K k => spec_IsTriangulation.l37 K k ts (a : Int) (f : Int)) v) ∧
        (G f = false → Tends2 (fun K k => spec_IsTriangulation.l37 K k ts (a : Int) (f : Int)) false) :=
      ⟨fun f => if h : f < 4 then Classical.choose (good_both h8 h4 ha h) else false, fun f h => by simp only [dif_pos h]; exact Classical.choose_spec (good_both h8 h4 ha h)⟩
    have s := scan_bool (l := fun K k i => spec_IsTriangulation.l37 K k ts (a : Int) (i : Int)) (n := 4) (P := G) (r := b') (fun i hi hp v hv => (hG i hi).2.2.1 hp v hv) (fun i hi hp => (hG i hi).2.2.2 hp)
      (Tends2.step (fun K k => by rw [spec_IsTriangulation.l37, if_neg (by decide), w64_succ (by omega)]) t1)
    have i := scan_bool (l := fun K k i => impl_isTriangulation.l4 K k ts (ts.length : Int) (a : Int) (i : Int)) (n := 4) (P := G) (r := b') (fun i hi hp v hv => by
        refine Tends2.step (fun K k => ?_) (Tends2.bind (G := fun K k t => if t = true then impl_isTriangulation.l4 K k ts (ts.length : Int) (a : Int) (w64 ((i : Int) + 1)) else some false) (hG i hi).2.1.two (Tends2.pos hp (by rw [w64_succ (by omega)]; exact hv)))
        rw [impl_isTriangulation.l4, if_pos (by omega)])
      (fun i hi hp => by
        refine Tends2.step (fun K k => ?_) (Tends2.bind (G := fun K k t => if t = true then impl_isTriangulation.l4 K k ts (ts.length : Int) (a : Int) (w64 ((i : Int) + 1)) else some false) (hG i hi).2.1.two (Tends2.neg (by rw [hp]; decide) (Tends2.const _)))
        rw [impl_isTriangulation.l4, if_pos (by omega)])
      (Tends2.step (fun K k => by rw [impl_isTriangulation.l4, if_neg (by decide), w64_succ (by omega)]) t2)
    refine ⟨_, fun hb a' h1 h2 f hf => ?_, Tends2.step (fun K k => by rw [spec_IsTriangulation.l28, spec_l07Tets.f, Option.bind_some, if_pos (by omega)]; rfl) s, Tends2.step (fun K k => by rw [impl_isTriangulation.l1, if_pos (by omega)]; rfl) i⟩
    rw [Bool.and_eq_true] at hb
    by_cases e : a' = a
    · subst e; exact (hG f hf).1 (allB_get hb.1 hf)
    · exact hb' hb.2 a' (by omega) h2 f hf
end
theorem tri_both (ts : List (List GFace)) (hn : ts.length ≤ 2000000) : ∃ b, (b = true → Val ts) ∧ Tends (fun K => spec_IsTriangulation.f K ts) b ∧ Tends (fun K => impl_isTriangulation.f K ts) b := by
  unfold spec_IsTriangulation.f impl_isTriangulation.f impl_size_impl_Face.f spec_l07Tets.f
  simp only [Option.bind_some]
  by_cases h8 : 8 < ts.length
  · exact ⟨false, (fun h => by cases h), Tends.pos (by omega) (Tends.const _), Tends.pos (by omega) (Tends.const _)⟩
  let P : Nat → Bool := fun i => decide (((ts.getD i []).length : Int) = 4)
  obtain ⟨v, t, e⟩ := scan_idx (l := fun K k i => slices_IndexFunc_impl_Face_impl_Face_isTriangulation_fn1.l1 K k ts (i : Int)) (n := ts.length) (P := P) (fun i hi hp v hv => Tends2.step (fun K k => by
      rw [slices_IndexFunc_impl_Face_impl_Face_isTriangulation_fn1.l1, if_pos (by omega), if_pos (by omega), Int.toNat_natCast, impl_isTriangulation_fn1.f, Option.bind_some, if_neg (by show ¬ (!P i) = true; rw [hp]; decide), w64_succ (by omega)]) hv)
    (fun i hi hp => Tends2.of fun K k => by rw [slices_IndexFunc_impl_Face_impl_Face_isTriangulation_fn1.l1, if_pos (by omega), if_pos (by omega), Int.toNat_natCast, impl_isTriangulation_fn1.f, Option.bind_some, if_pos (by show (!P i) = true; rw [hp]; rfl)])
    (Tends2.of fun K k => by rw [slices_IndexFunc_impl_Face_impl_Face_isTriangulation_fn1.l1, if_neg (by omega)])
  have tc : Tends (fun K => slices_ContainsFunc_impl_Face_impl_Face_isTriangulation_fn1.f K ts) (!allB ts.length P) := by
    rw [← e]; exact Tends.bind (F := fun K => slices_IndexFunc_impl_Face_impl_Face_isTriangulation_fn1.f K ts) t.diag (Tends.const _)
  cases hA : allB ts.length P with
  | false =>
    rw [hA] at tc
    refine ⟨false, (fun h => by cases h), Tends.neg (by omega) (scan_stop (l := fun K k i => spec_IsTriangulation.l1 K k ts (i : Int)) (n := ts.length) (P := P) (fun i hi hp v hv => Tends2.step (fun K k => by
        rw [spec_IsTriangulation.l1, if_pos (by omega), if_pos (by omega), Int.toNat_natCast, if_pos (of_decide_eq_true hp), w64_succ (by omega)]) hv)
      (fun i hi hp => Tends2.of fun K k => by rw [spec_IsTriangulation.l1, if_pos (by omega), if_pos (by omega), Int.toNat_natCast, if_neg (of_decide_eq_false hp)]) hA).diag, Tends.neg (by omega) (Tends.bind tc (Tends.pos rfl (Tends.const _)))⟩
  | true =>
    rw [hA] at tc
    have h4 : ∀ i, i < ts.length → (ts.getD i []).length = 4 := fun i hi => by
      have := of_decide_eq_true (allB_get hA hi)
      omega
    obtain ⟨b, hv, t1, t2⟩ := loops_both (by omega) h4 ts.length 0 (by omega) (by omega)
    have hs := scan_bool (l := fun K k i => spec_IsTriangulation.l1 K k ts (i : Int)) (n := ts.length) (P := P) (r := b) (fun i hi hp v hv => Tends2.step (fun K k => by
        rw [spec_IsTriangulation.l1, if_pos (by omega), if_pos (by omega), Int.toNat_natCast, if_pos (of_decide_eq_true hp), w64_succ (by omega)]) hv)
      (fun i hi hp => Tends2.of fun K k => by rw [spec_IsTriangulation.l1, if_pos (by omega), if_pos (by omega), Int.toNat_natCast, if_neg (of_decide_eq_false hp)])
      (Tends2.step (fun K k => by rw [spec_IsTriangulation.l1, if_neg (by omega)]; rfl) t1)
    rw [hA, Bool.true_and] at hs
    exact ⟨b, fun hb => ⟨by omega, h4, fun a f ha hf => hv hb a (Nat.zero_le _) ha f hf⟩, Tends.neg (by omega) hs.diag, Tends.neg (by omega) (Tends.bind tc (Tends.neg (by decide) t2.diag))⟩
end Go.Proofs.YtbjfinndngafoaaGreat
