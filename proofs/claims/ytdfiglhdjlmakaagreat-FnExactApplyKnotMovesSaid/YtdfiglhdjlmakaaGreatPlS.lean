/-
  SlideTriangle: both answers agree.
-/
import Derived.Test.YtdfiglhdjlmakaaGreatPlO
import Derived.Test.YtdfiglhdjlmakaaGreatPlR
set_option linter.unusedVariables false
set_option linter.unusedSimpArgs false
set_option linter.unusedSectionVars false
namespace Go.Proofs.YtdfiglhdjlmakaaGreat
open Go.RowKit
def strand (x : GCrossing) (q : Nat) (a b : Int) : GCrossing := withArc (withArc x q a) ((q + 2) % 4) b
theorem strand_sign (x : GCrossing) (q : Nat) (a b : Int) : (strand x q a b).Sign = x.Sign := by unfold strand; rw [withArc_sign, withArc_sign]
theorem pass_eq (c p : Nat) (hc : c < 1000) : impl_passOf.f (c : Int) (p : Int) = some (if p % 2 = 1 then ((c + 1 : Nat) : Int) else -((c + 1 : Nat) : Int)) := by
  unfold impl_passOf.f impl_isUpper.f
  rw [Option.bind_some, w64_succ (by omega)]
  have h1 : (p : Int).tmod 2 = ((p % 2 : Nat) : Int) := rfl
  rw [h1]
  by_cases h : p % 2 = 1
  · rw [if_pos h, if_pos (by rw [h]; rfl)]
  · have : p % 2 = 0 := by omega
    rw [if_neg h, if_neg (by rw [this]; decide), w64_id (by omega) (by omega)]
    congr 1
section
variable {xs : List GCrossing} (hn : xs.length ≤ 10) (hs : Signs xs)
include hn hs
theorem through_eq {list : List GCrossing} (hl : SameSigns xs list) (cs : Int) {c q : Nat} (hc : c < xs.length) (hq : q < 4) (he : ent (xs.getD c z_GCrossing) q = true) {up : Nat} (hup : up % 2 = q % 2) (a b : Int) :
    Tends (fun K => impl_Diagram_through.f K list cs (if up % 2 = 1 then ((c + 1 : Nat) : Int) else -((c + 1 : Nat) : Int)) a b) (list.set c (strand (list.getD c z_GCrossing) q a b)) := by
  have hll := hl.1
  have hsg := hs c hc
  have hls := hl.2 c hc
  have habs : impl_abs.f (if up % 2 = 1 then ((c + 1 : Nat) : Int) else -((c + 1 : Nat) : Int)) = some ((c + 1 : Nat) : Int) := by
    unfold impl_abs.f
    by_cases h : up % 2 = 1
    · rw [if_pos h, if_neg (by omega)]
    · rw [if_neg h, if_pos (by omega), w64_id (by omega) (by omega)]
      congr 1
      omega
  have hm1 : w64 (((c + 1 : Nat) : Int) - 1) = (c : Int) := by rw [w64_id (by omega) (by omega)]; omega
  have hj : Tends (fun K => impl_Diagram_through.j1 K K list cs a b ((c + 1 : Nat) : Int) (q : Int)) (list.set c (strand (list.getD c z_GCrossing) q a b)) := by
    have hq2 : (w64 ((q : Int) + 2)).tmod 4 = (((q + 2) % 4 : Nat) : Int) := by
      rw [w64_id (by omega) (by omega)]; rfl
    refine Tends2.diag (F := fun K k => impl_Diagram_through.j1 K k list cs a b ((c + 1 : Nat) : Int) (q : Int)) (Tends2.succ (Tends2.congr (fun K k => ?_) (Tends2.const _)))
    rw [impl_Diagram_through.j1, hm1, set_eq (by omega) hq, Option.bind_some, if_pos (by rw [List.length_set]), hq2, set_eq (by rw [List.length_set]; omega) (Nat.mod_lt _ (by decide)), Option.bind_some, if_pos (by rw [List.length_set]), getD_set_eq (by omega), List.set_set]
    rfl
  unfold impl_Diagram_through.f
  rw [habs]
  by_cases h : up % 2 = 1
  · have hq1 : w64 (2 + (list.getD c z_GCrossing).Sign) = (q : Int) := by
      rw [hls]
      unfold ent at he
      rcases hsg with e | e
      · rw [e] at he ⊢
        have : q = 3 := by
          rcases (show q = 1 ∨ q = 3 by omega) with h1 | h1
          · subst h1; simp at he
          · exact h1
        subst this; decide
      · rw [e] at he ⊢
        have : q = 1 := by
          rcases (show q = 1 ∨ q = 3 by omega) with h1 | h1
          · exact h1
          · subst h1; simp at he
        subst this; decide
    refine Tends.some_ (Tends.pos (by rw [if_pos h]; omega) (Tends.pos (by rw [hm1]; omega) ?_))
    rw [hm1]
    simp only [bnd_eq, Int.toNat_natCast]
    rw [hq1]
    exact hj
  · have hq0 : q = 0 := by
      unfold ent at he
      rcases (show q = 0 ∨ q = 2 by omega) with h1 | h1
      · exact h1
      · subst h1; simp at he
    subst hq0
    exact Tends.some_ (Tends.neg (by rw [if_neg h]; omega) hj)
variable {f t : List GEnd} (hg : Good xs f t)
include hg
theorem slide_one (cs : Int) {q : Nat} {list : List GCrossing} (hl : SameSigns xs list) {e : Nat} (hq : e < 2 * xs.length) : ∃ (list' mid : List GCrossing) (c p f' q' : Nat) (a b : Int), SameSigns xs list' ∧ SameSigns xs mid ∧ c < xs.length ∧ f' < xs.length ∧ p < 4 ∧ q' < 4 ∧
    f[e]? = some ⟨(c : Int), (p : Int)⟩ ∧ t[e]? = some ⟨(f' : Int), (q' : Int)⟩ ∧ endv (xs.getD c z_GCrossing) ((p + 2) % 4) = a ∧ endv (xs.getD f' z_GCrossing) ((q' + 2) % 4) = b ∧
    Tends (fun K => spec_l27Slide.f K xs cs list (e : Int)) list' ∧
    Tends (fun K => impl_Diagram_through.f K list cs (if q' % 2 = 1 then ((f' + 1 : Nat) : Int) else -((f' + 1 : Nat) : Int)) a (e : Int)) mid ∧
    Tends (fun K => impl_Diagram_through.f K mid cs (if p % 2 = 1 then ((c + 1 : Nat) : Int) else -((c + 1 : Nat) : Int)) (e : Int) b) list' := by
  obtain ⟨r, hr, hrb, hre⟩ := hg.fall e hq
  obtain ⟨u, hu, hub, hue⟩ := hg.tall e hq
  have pr := hg.place hn hs hr hre hrb cs
  have pu := hg.place hn hs hu hue hub cs
  obtain ⟨_, _, tr⟩ := hg.fout r hr hrb
  obtain ⟨_, _, tu⟩ := hg.tin u hu hub
  rw [hre, Int.toNat_natCast] at tr
  rw [hue, Int.toNat_natCast] at tu
  have hp : r % 4 < 4 := Nat.mod_lt _ (by decide)
  have hp' : u % 4 < 4 := Nat.mod_lt _ (by decide)
  have hp2 : (r % 4 + 2) % 4 < 4 := Nat.mod_lt _ (by decide)
  have hp2' : (u % 4 + 2) % 4 < 4 := Nat.mod_lt _ (by decide)
  have hc : r / 4 < xs.length := by omega
  have hc' : u / 4 < xs.length := by omega
  have hm : ∀ {k : Nat}, k < 4 → (w64 ((k : Int) + 2)).tmod 4 = (((k + 2) % 4 : Nat) : Int) := fun {k} hk => by
    rw [w64_id (by omega) (by omega)]; rfl
  have hmid : SameSigns xs (list.set (u / 4) (strand (list.getD (u / 4) z_GCrossing) (u % 4) (endv (xs.getD (r / 4) z_GCrossing) ((r % 4 + 2) % 4)) (e : Int))) := hl.set hc' (by rw [strand_sign]; exact hl.2 _ hc')
  obtain ⟨mid, hmd⟩ : ∃ mid, mid = list.set (u / 4) (strand (list.getD (u / 4) z_GCrossing) (u % 4) (endv (xs.getD (r / 4) z_GCrossing) ((r % 4 + 2) % 4)) (e : Int)) := ⟨_, rfl⟩
  rw [← hmd] at hmid
  have hll := hl.1
  have hml := hmid.1
  -- the strand that leaves at r entered two positions before
  have hent : ent (xs.getD (r / 4) z_GCrossing) ((r % 4 + 2) % 4) = true := by
    have h1 : ent (xs.getD (r / 4) z_GCrossing) (r % 4) = false := hrb
    have hsg := hs _ hc
    unfold ent at h1 ⊢
    rcases (show r % 4 = 0 ∨ r % 4 = 1 ∨ r % 4 = 2 ∨ r % 4 = 3 by omega) with h2 | h2 | h2 | h2 <;> rw [h2] at h1 ⊢ <;> rcases hsg with e' | e' <;> rw [e'] at h1 ⊢ <;> simp at h1 ⊢
  have hback : ((r % 4 + 2) % 4 + 2) % 4 = r % 4 := by omega
  refine ⟨mid.set (r / 4) (strand (mid.getD (r / 4) z_GCrossing) ((r % 4 + 2) % 4) (e : Int) (endv (xs.getD (u / 4) z_GCrossing) ((u % 4 + 2) % 4))), mid, r / 4, r % 4, u / 4, u % 4, _, _, hmid.set hc (by rw [strand_sign]; exact hmid.2 _ hc), hmid, hc, hc', hp, hp', tr, tu, rfl, rfl, ?_, ?_, ?_⟩
  · unfold spec_l27Slide.f
    refine Tends.bind2 pr (Tends.bind2 pu ?_)
    refine Tends.congr (fun K => ?_) (Tends.const _)
    simp only [bnd_eq, Int.toNat_natCast, hm hp, hm hp', End_eq _ hp2, End_eq _ hp2', Option.bind_some, With_eq _ hp', With_eq _ hp2', With_eq _ hp, With_eq _ hp2, bind5, eta']
    rw [if_pos (by omega), if_pos (by omega), if_pos (by omega)]
    have e1 : withArc (withArc (list.getD (u / 4) z_GCrossing) (u % 4) (endv (xs.getD (r / 4) z_GCrossing) ((r % 4 + 2) % 4))) ((u % 4 + 2) % 4) (e : Int) = strand (list.getD (u / 4) z_GCrossing) (u % 4) (endv (xs.getD (r / 4) z_GCrossing) ((r % 4 + 2) % 4)) (e : Int) := rfl
    rw [e1, ← hmd, if_pos (by omega)]
    unfold strand
    rw [hback]
  · rw [hmd]
    exact through_eq hn hs hl cs hc' hp' hub rfl _ _
  · refine through_eq hn hs hmid cs hc hp2 hent (by omega) _ _
theorem slides {r : List Int} (h3 : r.length = 3) (hmem : ∀ j, j < 3 → ∃ k : Nat, r.getD j 0 = (k : Int) ∧ k < 4 * xs.length) {R T : List (List Int)} {i m : Nat} (hi : i < R.length) (hRi : R.getD i [] = r) (hm : m < T.length) (hTm : T.getD m [] = r) (cs : Int) :
    ∀ (d j : Nat) (list : List GCrossing), 3 - j = d → j ≤ 3 → SameSigns xs list → ∃ out : List GCrossing, out.length = xs.length ∧ Tends2 (fun K k => spec_SlideTriangle.l4 K k xs cs R (i : Int) list (j : Int)) (out, cs, 0) ∧ Tends2 (fun K k => impl_SlideTriangle.l1 K k xs f t T (m : Int) cs list (j : Int)) (out, cs, 0)
  | 0, j, list, hd, hj, hl => by
    obtain rfl : j = 3 := by omega
    refine ⟨list, hl.1, Tends2.succ (Tends2.congr (fun K k => ?_) (Tends2.const _)), Tends2.succ (Tends2.congr (fun K k => ?_) (Tends2.const _))⟩
    · rw [spec_SlideTriangle.l4, if_neg (by omega)]
    · rw [impl_SlideTriangle.l1, Int.toNat_natCast, hTm, h3, if_neg (by omega)]
  | d + 1, j, list, hd, hj, hl => by
    have hj3 : j < 3 := by omega
    obtain ⟨k0, hk0, hk1⟩ := hmem j hj3
    obtain ⟨hs0, hs1, hs2, hs3⟩ := side_range hn hs hg hk1
    obtain ⟨e, he⟩ : ∃ e : Nat, arcAt xs (behind k0) = (e : Int) := ⟨(arcAt xs (behind k0)).toNat, by omega⟩
    have hel : e < 2 * xs.length := by omega
    have hside : w64 ((sideOf xs k0).tdiv 2) = (e : Int) := by
      unfold sideOf
      rw [he]
      split
      · have : (2 * (e : Int)).tdiv 2 = (e : Int) := Int.mul_tdiv_cancel_left _ (by decide)
        rw [this]; exact w64_nat (by omega)
      · have : (2 * (e : Int) + 1).tdiv 2 = ((( 2 * e + 1) / 2 : Nat) : Int) := rfl
        rw [this, show (2 * e + 1) / 2 = e by omega]; exact w64_nat (by omega)
    obtain ⟨list', mid, c, p, f', q', a, b, hl', hmid, hc, hf', hp, hq', hfe, hte, ha, hb, s1, s2, s3⟩ := slide_one hn hs hg cs (q := 0) hl hel
    obtain ⟨out, ho, t1, t2⟩ := slides h3 hmem hi hRi hm hTm cs d (j + 1) list' (by omega) (by omega) hl'
    have hll := hl.1
    have hll' := hl'.1
    have hml := hmid.1
    have hfl : (f.length : Int) = 2 * (xs.length : Int) := by rw [hg.flen]; omega
    have htl : (t.length : Int) = 2 * (xs.length : Int) := by rw [hg.tlen]; omega
    refine ⟨out, ho, Tends2.succ (Tends2.congr (G := fun K k => (spec_l27Slide.f K xs cs list (e : Int)).bind fun t182 => if t182.length = list.length then spec_SlideTriangle.l4 K k xs cs R (i : Int) t182 ((j + 1 : Nat) : Int) else none) (fun K k => ?_) (Tends2.bind s1.two (Tends2.pos (by omega) t1))), Tends2.succ (Tends2.congr (G := fun K k => (impl_Diagram_through.f K list cs (if q' % 2 = 1 then ((f' + 1 : Nat) : Int) else -((f' + 1 : Nat) : Int)) a (e : Int)).bind fun t230 => if t230.length = list.length then (impl_Diagram_through.f K t230 cs (if p % 2 = 1 then ((c + 1 : Nat) : Int) else -((c + 1 : Nat) : Int)) (e : Int) b).bind fun t239 => if t239.length = t230.length then impl_SlideTriangle.l1 K k xs f t T (m : Int) cs t239 ((j + 1 : Nat) : Int) else none else none) (fun K k => ?_) (Tends2.bind s2.two (Tends2.pos (by omega) (Tends2.bind s3.two (Tends2.pos (by omega) t2)))))⟩
    · rw [spec_SlideTriangle.l4, if_pos (by omega), Int.toNat_natCast, hRi, h3, if_pos (by omega), Int.toNat_natCast, hk0, side_spec hn hs hg cs hk1, Option.bind_some, hside, w64_succ (by omega)]
    · have hcm : ∀ {z : Nat}, z < 4 → (w64 ((z : Int) + 2)).tmod 4 = (((z + 2) % 4 : Nat) : Int) := fun {z} hz => by
        rw [w64_id (by omega) (by omega)]; rfl
      have hp4 : (k0 % 4 + 1) % 4 < 4 := Nat.mod_lt _ (by decide)
      have hget : endv (xs.getD (k0 / 4) z_GCrossing) ((k0 % 4 + 1) % 4) = (e : Int) := by
        rw [← he, show behind k0 = 4 * (k0 / 4) + (k0 % 4 + 1) % 4 from rfl, arcAt_cp xs hp4]
      rw [impl_SlideTriangle.l1, Int.toNat_natCast, hTm, h3, if_pos (by omega), if_pos (by omega), Int.toNat_natCast, hk0, corner_div (by omega), if_pos (by omega), bnd_eq, Int.toNat_natCast, corner_mod' (by omega)]
      simp only [impl_Crossing_ends.f, bind4, Option.bind_some, Int.toNat_natCast, ends_get, hget, get_end hfe, get_end hte, bnd_eq, hcm hp, hcm hq', pass_eq _ _ (show c < 1000 by omega), pass_eq _ _ (show f' < 1000 by omega), ha, hb, hfl, htl, w64_succ (show j < 4611686018427387904 by omega)]
      rw [if_pos (by omega), if_pos (by omega), if_pos (by omega), if_pos (by omega), if_pos (by omega), if_pos (by omega), if_pos (by omega)]
end
theorem index74 {T : List (List Int)} (hT : T.length ≤ 1000) (hr : ∀ r, r ∈ T → 0 < r.length) (corner : Int) : ∀ (d i : Nat), T.length - i = d → i ≤ T.length → (∀ m, m < i → (T.getD m []).getD 0 0 ≠ corner) →
    ∃ r : Int, Tends2 (fun K k => slices_IndexFunc_int64_int64_74.l1 K k T corner (i : Int)) r ∧ ((r = -1 ∧ ∀ m, m < T.length → (T.getD m []).getD 0 0 ≠ corner) ∨ ∃ n : Nat, r = (n : Int) ∧ n < T.length ∧ (T.getD n []).getD 0 0 = corner ∧ ∀ m, m < n → (T.getD m []).getD 0 0 ≠ corner)
  | 0, i, hd, hi, hm => by
    obtain rfl : i = T.length := by omega
    refine ⟨-1, Tends2.succ (Tends2.congr (fun K k => ?_) (Tends2.const _)), .inl ⟨rfl, hm⟩⟩
    rw [slices_IndexFunc_int64_int64_74.l1, if_neg (by omega)]
  | d + 1, i, hd, hi, hm => by
    have hlt : i < T.length := by omega
    have hpos := hr (T.getD i []) (by rw [List.getD_eq_getElem?_getD, List.getElem?_eq_getElem hlt]; exact List.getElem_mem _)
    have hstep : ∀ K k, slices_IndexFunc_int64_int64_74.l1 K (k + 1) T corner (i : Int) = if decide ((T.getD i []).getD 0 0 = corner) = true then some (i : Int) else slices_IndexFunc_int64_int64_74.l1 K k T corner ((i + 1 : Nat) : Int) := fun K k => by
      rw [slices_IndexFunc_int64_int64_74.l1, if_pos (by omega), if_pos (by omega), Int.toNat_natCast, w64_succ (by omega)]
      unfold impl_SlideTriangle_fn1_free.f
      rw [if_pos (by omega), Option.bind_some]
    by_cases hc : (T.getD i []).getD 0 0 = corner
    · exact ⟨(i : Int), Tends2.succ (Tends2.congr hstep (Tends2.pos (decide_eq_true hc) (Tends2.const _))), .inr ⟨i, rfl, hlt, hc, hm⟩⟩
    · obtain ⟨r, h1, h2⟩ := index74 hT hr corner d (i + 1) (by omega) (by omega) (fun m h => by
        by_cases h' : m < i
        · exact hm m h'
        · obtain rfl : m = i := by omega
          exact hc)
      exact ⟨r, Tends2.succ (Tends2.congr hstep (Tends2.neg (by rw [decide_eq_true_iff]; exact hc) h1)), h2⟩
section
variable {xs : List GCrossing} {R : List (List Int)} (hn : xs.length ≤ 10) (hR : RegionsOk xs.length R) (cs corner : Int)
include hn hR
theorem slide_step {i : Nat} (hi : i < R.length) {F : List GCrossing × Int × Int} (h : Tends2 (fun K k => if (R.getD i []).getD 0 0 = corner then (if tri (R.getD i []) = true then spec_SlideTriangle.l4 K k xs cs R (i : Int) xs ((0 : Nat) : Int) else spec_SlideTriangle.l1 K k xs cs corner R ((i + 1 : Nat) : Int)) else spec_SlideTriangle.l1 K k xs cs corner R ((i + 1 : Nat) : Int)) F) :
    Tends2 (fun K k => spec_SlideTriangle.l1 K k xs cs corner R (i : Int)) F := by
  have hRl := hR.1
  have hok : RegionOk xs.length (R.getD i []) := hR.2 _ (by rw [List.getD_eq_getElem?_getD, List.getElem?_eq_getElem hi]; exact List.getElem_mem _)
  have hlen := hok.1
  obtain ⟨first, hf, _⟩ := hok.2
  have hpos : 0 < (R.getD i []).length := by
    cases hx : R.getD i [] with
    | nil => rw [hx] at hf; cases hf
    | cons _ _ => simp
  have hstep : ∀ K k, spec_SlideTriangle.l1 K (k + 1) xs cs corner R (i : Int) = if (R.getD i []).getD 0 0 = corner then ((spec_l27Triangle.f K (R.getD i [])).bind fun t142 => if t142 = true then spec_SlideTriangle.l4 K k xs cs R (i : Int) xs ((0 : Nat) : Int) else spec_SlideTriangle.l1 K k xs cs corner R ((i + 1 : Nat) : Int)) else spec_SlideTriangle.l1 K k xs cs corner R ((i + 1 : Nat) : Int) := fun K k => by
    rw [spec_SlideTriangle.l1, if_pos (by omega), if_pos (by omega), Int.toNat_natCast, if_pos (by omega), w64_succ (by omega), if_pos (show (([] : List GCrossing).length + xs.length) * 40 ≤ 140737488355328 by simp only [List.length_nil]; omega), List.nil_append]
    rfl
  refine Tends2.succ (Tends2.congr hstep ?_)
  by_cases hc : (R.getD i []).getD 0 0 = corner
  · refine Tends2.pos hc (Tends2.bind (tri_spec _ (by omega)).two ?_)
    refine Tends2.congr (fun K k => ?_) h
    rw [if_pos hc]
  · refine Tends2.neg hc (Tends2.congr (fun K k => ?_) h)
    rw [if_neg hc]
theorem slide_none : ∀ (d i : Nat), R.length - i = d → i ≤ R.length → (∀ m, i ≤ m → m < R.length → ¬ (tri (R.getD m []) = true ∧ (R.getD m []).getD 0 0 = corner)) → Tends2 (fun K k => spec_SlideTriangle.l1 K k xs cs corner R (i : Int)) ([], 0, 4)
  | 0, i, hd, hi, hm => by
    obtain rfl : i = R.length := by omega
    refine Tends2.succ (Tends2.congr (fun K k => ?_) (Tends2.const _))
    rw [spec_SlideTriangle.l1, if_neg (by omega)]
  | d + 1, i, hd, hi, hm => by
    have ih := slide_none d (i + 1) (by omega) (by omega) (fun m h1 h2 => hm m (by omega) h2)
    refine slide_step hn hR cs corner (by omega) ?_
    have h := hm i (Nat.le_refl _) (by omega)
    by_cases hc : (R.getD i []).getD 0 0 = corner
    · exact Tends2.pos hc (Tends2.neg (fun ht => h ⟨ht, hc⟩) ih)
    · exact Tends2.neg hc ih
theorem slide_at {n : Nat} (hnl : n < R.length) (ht : tri (R.getD n []) = true) (hcn : (R.getD n []).getD 0 0 = corner) {F : List GCrossing × Int × Int} (hF : Tends2 (fun K k => spec_SlideTriangle.l4 K k xs cs R (n : Int) xs ((0 : Nat) : Int)) F) : ∀ (d i : Nat), n - i = d → i ≤ n → (∀ m, i ≤ m → m < n → ¬ (tri (R.getD m []) = true ∧ (R.getD m []).getD 0 0 = corner)) → Tends2 (fun K k => spec_SlideTriangle.l1 K k xs cs corner R (i : Int)) F
  | 0, i, hd, hi, hm => by
    obtain rfl : i = n := by omega
    exact slide_step hn hR cs corner hnl (Tends2.pos hcn (Tends2.pos ht hF))
  | d + 1, i, hd, hi, hm => by
    have ih := slide_at hnl ht hcn hF d (i + 1) (by omega) (by omega) (fun m h1 h2 => hm m (by omega) h2)
    refine slide_step hn hR cs corner (by omega) ?_
    have h := hm i (Nat.le_refl _) (by omega)
    by_cases hc : (R.getD i []).getD 0 0 = corner
    · exact Tends2.pos hc (Tends2.neg (fun ht => h ⟨ht, hc⟩) ih)
    · exact Tends2.neg hc ih
end
theorem first_of {α : Type} {l : List α} {p : α → Bool} {x : α} (h : l.find? p = some x) (d : α) : ∃ n, n < l.length ∧ l.getD n d = x ∧ p x = true ∧ ∀ m, m < n → p (l.getD m d) = false := by
  obtain ⟨h1, n, hn, h2, h3⟩ := List.find?_eq_some_iff_getElem.1 h
  refine ⟨n, hn, by rw [List.getD_eq_getElem?_getD, List.getElem?_eq_getElem hn]; exact h2, h1, fun m hm => ?_⟩
  have := h3 m hm
  rw [List.getD_eq_getElem?_getD, List.getElem?_eq_getElem (show m < l.length by omega)]
  simpa using this
theorem SlideTriangle_both (xs : List GCrossing) (hx : xs.length ≤ 1048576) (cs corner : Int) : ∃ ys c' e, List.length ys ≤ xs.length + 2 ∧ Tends (fun K => spec_SlideTriangle.f K xs cs corner) (ys, c', e) ∧ Tends (fun K => impl_SlideTriangle.f K xs cs corner) (ys, c', e) := by
  unfold spec_SlideTriangle.f impl_SlideTriangle.f
  rcases drawings xs (by omega) cs with ⟨h1, h2⟩ | ⟨hn, hs, f, t, hg, h1, h2⟩
  · exact ⟨[], 0, 1, by simp, Tends.bind h1 (Tends.neg (by decide) (Tends.const _)), Tends.bind3 h2 (Tends.neg (by decide) (Tends.const _))⟩
  obtain ⟨R, hR, r1, r2⟩ := regions hn hs hg cs
  have hRl := hR.1
  have hmemR : ∀ r, r ∈ R → ∀ k, k ∈ r → ∃ j : Nat, k = (j : Int) ∧ j < 1000 := fun r hr k hk => by
    obtain ⟨_, first, _, h⟩ := hR.2 r hr
    obtain ⟨j, h1, h2, _⟩ := h k hk
    exact ⟨j, h1, by omega⟩
  have hposR : ∀ r, r ∈ R → 0 < r.length := fun r hr => by
    obtain ⟨_, first, h, _⟩ := hR.2 r hr
    cases r with
    | nil => cases h
    | cons _ _ => simp
  have htri : Tends (fun K => impl_Diagram_triangles.f K xs cs f t) (R.filter tri) := Tends.bind r2 (Tends.bind (del_f (by omega) hmemR) (Tends.const _))
  have hTl : (R.filter tri).length ≤ 1000 := Nat.le_trans (List.length_filter_le _ _) (by omega)
  obtain ⟨ix, i1, i2⟩ := index74 (T := R.filter tri) hTl (fun r hr => hposR r (List.mem_filter.1 hr).1) corner (R.filter tri).length 0 rfl (Nat.zero_le _) (fun m h => absurd h (Nat.not_lt_zero _))
  have hix : Tends (fun K => slices_IndexFunc_int64_int64_74.f K (R.filter tri) corner) ix := Tends.congr (fun K => rfl) i1.diag
  cases hfind : R.find? (fun r => tri r && decide (r.getD 0 0 = corner)) with
  | none =>
    have hnone := List.find?_eq_none.1 hfind
    have hneg : ix = -1 := by
      rcases i2 with ⟨h, _⟩ | ⟨n, _, hn', hc, _⟩
      · exact h
      · have hm : (R.filter tri).getD n [] ∈ R.filter tri := by rw [List.getD_eq_getElem?_getD, List.getElem?_eq_getElem hn']; exact List.getElem_mem _
        have := List.mem_filter.1 hm
        exact absurd (show (tri ((R.filter tri).getD n []) && decide (((R.filter tri).getD n []).getD 0 0 = corner)) = true by rw [this.2, decide_eq_true hc]; rfl) (hnone _ this.1)
    subst hneg
    refine ⟨[], 0, 4, by simp, Tends.bind h1 (Tends.pos rfl (Tends.bind r1 ?_)), Tends.bind3 h2 (Tends.pos rfl (Tends.bind htri (Tends.bind hix (Tends.pos (by decide) (Tends.const _)))))⟩
    refine (slide_none hn hR cs corner R.length 0 rfl (Nat.zero_le _) (fun m _ hm h => ?_)).diag
    have hmem : R.getD m [] ∈ R := by rw [List.getD_eq_getElem?_getD, List.getElem?_eq_getElem hm]; exact List.getElem_mem _
    exact hnone _ hmem (by rw [h.1, decide_eq_true h.2]; rfl)
  | some r0 =>
    obtain ⟨n, hnR, hRn, hp, hlow⟩ := first_of hfind []
    rw [Bool.and_eq_true, decide_eq_true_iff] at hp
    have hfT : (R.filter tri).find? (fun r => decide (r.getD 0 0 = corner)) = some r0 := by
      rw [List.find?_filter, ← hfind]
      congr 1
      funext r
      cases tri r <;> simp
    obtain ⟨m0, hm0, hTm0, hq0, hlow0⟩ := first_of hfT []
    have hixn : ix = (m0 : Int) := by
      rcases i2 with ⟨_, h⟩ | ⟨n', rfl, hn', hc, hl⟩
      · exact absurd (by rw [hTm0]; exact of_decide_eq_true hq0) (h m0 hm0)
      · rcases Nat.lt_trichotomy n' m0 with h | h | h
        · have := hlow0 n' h
          rw [decide_eq_false_iff_not] at this
          exact absurd hc this
        · rw [h]
        · exact absurd (by rw [hTm0]; exact of_decide_eq_true hq0) (hl m0 h)
    subst hixn
    have hr0 : r0 ∈ R := List.mem_of_find?_eq_some hfind
    have h3 : r0.length = 3 := by
      have := hp.1
      unfold tri at this
      rw [Bool.and_eq_true, decide_eq_true_iff] at this
      exact this.1.1
    have hmem : ∀ j, j < 3 → ∃ k : Nat, r0.getD j 0 = (k : Int) ∧ k < 4 * xs.length := fun j hj => by
      obtain ⟨_, first, _, h⟩ := hR.2 r0 hr0
      obtain ⟨k, hk, hk2, _⟩ := h (r0.getD j 0) (by rw [List.getD_eq_getElem?_getD, List.getElem?_eq_getElem (show j < r0.length by omega)]; exact List.getElem_mem _)
      exact ⟨k, hk, hk2⟩
    obtain ⟨out, ho, t1, t2⟩ := slides hn hs hg h3 hmem hnR hRn hm0 hTm0 cs 3 0 xs rfl (by omega) ⟨rfl, fun _ _ => rfl⟩
    refine ⟨out, cs, 0, by omega, Tends.bind h1 (Tends.pos rfl (Tends.bind r1 ?_)), Tends.bind3 h2 (Tends.pos rfl (Tends.bind htri (Tends.bind hix (Tends.neg (by omega) ?_))))⟩
    · refine (slide_at hn hR cs corner hnR (by rw [hRn]; exact hp.1) (by rw [hRn]; exact hp.2) t1 n 0 rfl (Nat.zero_le _) (fun m _ hm h => ?_)).diag
      have := hlow m hm
      rw [h.1, decide_eq_true h.2] at this
      cases this
    · refine Tends.bind2 (a := xs) (b := cs) ?_ (Tends.pos (by omega) t2.diag)
      refine Tends.congr (fun K => ?_) (Tends.const _)
      unfold impl_copyDiagram.f
      rw [clone_eq (xs := xs) (by omega)]
      rfl
end Go.Proofs.YtdfiglhdjlmakaaGreat
