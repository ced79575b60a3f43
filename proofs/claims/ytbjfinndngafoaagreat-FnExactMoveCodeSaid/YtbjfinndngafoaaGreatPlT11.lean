/-
  The search through a class, on both sides.
-/
import Derived.Test.YtbjfinndngafoaaGreatPlT10
set_option linter.unusedVariables false
set_option linter.unusedSimpArgs false
set_option linter.unusedSectionVars false
namespace Go.Proofs.YtbjfinndngafoaaGreat
open Go.RowKit
theorem nodup_le : ∀ {N : Nat} {q : List Nat}, q.Nodup → (∀ j, j ∈ q → j < N) → q.length ≤ N
  | 0, [], _, _ => Nat.le_refl _
  | 0, a :: q, _, h => absurd (h a (List.mem_cons_self ..)) (Nat.not_lt_zero _)
  | N + 1, q, hn, h => by
    by_cases hm : N ∈ q
    · have := nodup_le (N := N) (q := q.erase N) (hn.erase N) (fun j hj => by
        have h1 := (List.Nodup.mem_erase_iff hn).1 hj
        have := h j h1.2
        have := h1.1
        omega)
      rw [List.length_erase_of_mem hm] at this
      omega
    · have := nodup_le (N := N) (q := q) hn (fun j hj => by
        have := h j hj
        have : j ≠ N := fun e => hm (e ▸ hj)
        omega)
      omega
theorem gget_gput {κ ν : Type} [DecidableEq κ] (k : κ) (v : ν) (k' : κ) : ∀ m : List (κ × ν), gget (gput m k v) k' = if k' = k then some v else gget m k'
  | [] => by unfold gput gget gget; rfl
  | p :: r => by
    unfold gput
    by_cases h : k = p.1
    · rw [if_pos h]
      unfold gget
      by_cases h2 : k' = k
      · rw [if_pos h2, if_pos h2]
      · rw [if_neg h2, if_neg h2, if_neg (by rw [← h]; exact h2)]
    · rw [if_neg h]
      unfold gget
      by_cases h2 : k' = p.1
      · rw [if_pos h2, if_pos h2, if_neg (by rw [h2]; exact fun e => h e.symm)]
      · rw [if_neg h2, if_neg h2, gget_gput k v k' r]
theorem ints_len (l : List Nat) : (ints l).length = l.length := by simp [ints]
theorem ints_get {l : List Nat} {i : Nat} (h : i < l.length) : (ints l).getD i 0 = ((l.getD i 0 : Nat) : Int) := by
  unfold ints
  rw [List.getD_eq_getElem?_getD, List.getElem?_map, getD_some (d := 0) h]; rfl
theorem ints_app (l : List Nat) (x : Nat) : ints (l ++ [x]) = ints l ++ [(x : Int)] := by simp [ints]
theorem Sr.qlen {ts : List (List GFace)} {N : Nat} {C sg0 : List Int} {i0 : Nat} {st : Srch} (h : Sr ts N C sg0 i0 st) : st.2.1.length ≤ N := nodup_le h.nodup fun j hj => (h.inn j hj).1
def RevR (rev0 rev : List (Int × Bool)) (c : Int) (bad : Bool) : Prop := (∀ c', c' ≠ c → gget rev c' = gget rev0 c') ∧ gget rev c = if bad = true then some true else none
theorem isBg (b p : Nat) : impl_Face_isBoundary.f (⟨(b : Int), (p : Int)⟩ : GFace).Tet (⟨(b : Int), (p : Int)⟩ : GFace).Perm = some false := congrArg some (decide_eq_false (by show ¬ (b : Int) < 0; omega))
theorem tmod6 (i : Nat) : (i : Int).tmod 6 = ((i % 6 : Nat) : Int) := by
  rw [Int.tmod_eq_emod_of_nonneg (by omega)]; omega
theorem tdiv6 (i : Nat) : (i : Int).tdiv 6 = ((i / 6 : Nat) : Int) := by
  rw [Int.tdiv_eq_ediv_of_nonneg (by omega)]; omega
section
variable {ts : List (List GFace)} (hv : Val ts) {C : List Int} (hCl : C.length = 6 * ts.length) (hC : ∀ i f j fl, i < 6 * ts.length → f < 4 → nbr ts i f = some (j, fl) → j < 6 * ts.length ∧ C.getD j 0 = C.getD i 0)
include hv hCl hC
theorem Sr.fst4 {sg0 : List Int} {i0 : Nat} {st : Srch} (h : Sr ts (6 * ts.length) C sg0 i0 st) {i f : Nat} (hi : i ∈ st.2.1) (hf : f < 4) :
    Sr ts (6 * ts.length) C sg0 i0 (fst4 ts i f st) ∧ (∀ j, j < 6 * ts.length → st.1.getD j 0 ≠ 0 → (Go.Proofs.YtbjfinndngafoaaGreat.fst4 ts i f st).1.getD j 0 ≠ 0) ∧ (∀ j fl, nbr ts i f = some (j, fl) → (Go.Proofs.YtbjfinndngafoaaGreat.fst4 ts i f st).1.getD j 0 ≠ 0) ∧ ∃ r, (Go.Proofs.YtbjfinndngafoaaGreat.fst4 ts i f st).2.1 = st.2.1 ++ r := by
  unfold Go.Proofs.YtbjfinndngafoaaGreat.fst4
  cases hn : nbr ts i f with
  | none => exact ⟨h, fun j _ hj => hj, fun j fl e => (by cases e), [], by simp⟩
  | some t =>
    obtain ⟨g1, g2⟩ := hC i f t.1 t.2 (h.inn i hi).1 hf hn
    obtain ⟨h1, h2, h3, h4⟩ := h.stp hi g1 g2
    refine ⟨h1, h2, fun j fl e => ?_, h4⟩
    injection e with e
    subst e
    exact h3
theorem fn1_t {sg0 : List Int} {i0 : Nat} {st : Srch} (h : Sr ts (6 * ts.length) C sg0 i0 st) {qi : Nat} (hq : qi < st.2.1.length) {j : Nat} {fl : Bool} (hj : j < 6 * ts.length) (hjC : C.getD j 0 = C.getD i0 0) {rev0 rev : List (Int × Bool)} (hr : RevR rev0 rev (C.getD i0 0) st.2.2) :
    ∃ rev', impl_Triangulation_edgeSigns_fn1_free.f (j : Int) (bif fl then -1 else 1) st.1 (ints st.2.1) (qi : Int) rev C = some ((stp (st.2.1.getD qi 0) st (j, fl)).1, ints (stp (st.2.1.getD qi 0) st (j, fl)).2.1, rev') ∧ RevR rev0 rev' (C.getD i0 0) (stp (st.2.1.getD qi 0) st (j, fl)).2.2 ∧ (stp (st.2.1.getD qi 0) st (j, fl)).1.length = st.1.length := by
  have h8 := hv.le
  have hl := h.len
  have hql := h.qlen
  have him : st.2.1.getD qi 0 ∈ st.2.1 := by rw [List.getD_eq_getElem?_getD, List.getElem?_eq_getElem hq]; exact List.getElem_mem hq
  obtain ⟨i, hi⟩ : ∃ i, i = st.2.1.getD qi 0 := ⟨_, rfl⟩
  rw [← hi] at him ⊢
  have hiN := (h.inn i him).1
  have hvi := h.val i hiN
  have hvj := h.val j hj
  have hsi : st.1.getD i 0 ≠ 0 := (h.sgn i hiN).2 (.inl him)
  have hqi : (ints st.2.1).getD qi 0 = (i : Int) := by rw [ints_get hq, hi]
  have hwant : w64 (st.1.getD i 0 * (bif fl then -1 else 1)) = bif fl then - st.1.getD i 0 else st.1.getD i 0 := by
    cases fl <;> simp only [cond_true, cond_false] <;> rw [w64_id (by omega) (by omega)] <;> omega
  unfold impl_Triangulation_edgeSigns_fn1_free.f
  rw [if_pos (by rw [ints_len]; omega), Int.toNat_natCast, hqi, if_pos (by omega), if_pos (by omega), Int.toNat_natCast, Int.toNat_natCast, hwant]
  unfold stp
  by_cases h0 : st.1.getD j 0 = 0
  · rw [if_pos h0, if_pos h0, if_pos (by rw [ints_len]; omega)]
    exact ⟨rev, by rw [ints_app], hr, by rw [List.length_set]⟩
  · rw [if_neg h0, if_neg h0]
    generalize hw : (bif fl then - st.1.getD i 0 else st.1.getD i 0) = wt
    have hwv : wt = 1 ∨ wt = -1 := by rw [← hw]; cases fl <;> simp only [cond_true, cond_false] <;> omega
    have hneg : w64 (0 - wt) = - wt := by rw [w64_id (by omega) (by omega)]; omega
    rw [hneg]
    by_cases h1 : st.1.getD j 0 = - wt
    · rw [if_pos h1, if_pos (by omega)]
      refine ⟨gput rev (C.getD j 0) true, rfl, ⟨fun c' hc' => ?_, ?_⟩, rfl⟩
      · rw [gget_gput, if_neg (by rw [hjC]; exact hc')]; exact hr.1 c' hc'
      · rw [gget_gput, hjC, if_pos rfl]
        show _ = if (st.2.2 || !decide (st.1.getD j 0 = wt)) = true then _ else _
        rw [decide_eq_false (by omega)]; simp
    · rw [if_neg h1]
      refine ⟨rev, rfl, ?_, rfl⟩
      show RevR rev0 rev _ (st.2.2 || !decide (st.1.getD j 0 = wt))
      rw [decide_eq_true (by omega)]
      simpa using hr
theorem nb_step {sg0 : List Int} {i0 : Nat} {st : Srch} (h : Sr ts (6 * ts.length) C sg0 i0 st) {qi : Nat} (hq : qi < st.2.1.length) {i : Nat} (hi : st.2.1.getD qi 0 = i) {l : List Nat} {x f : Nat} (hx : x < l.length) (hl : l.length ≤ 4) (hfx : l.getD x 0 = f) (hf : f < 4) (h1 : EA (i % 6) ≠ f) (h2 : EB (i % 6) ≠ f) {rev0 rev : List (Int × Bool)} (hr : RevR rev0 rev (C.getD i0 0) st.2.2) :
    ∃ rev', RevR rev0 rev' (C.getD i0 0) (fst4 ts i f st).2.2 ∧ ∀ R, Tends2 (fun K k => impl_Triangulation_neighbors_Triangulation_edgeSigns_fn1.l1 K k ts (i : Int) (qi : Int) C (EA (i % 6) : Int) (EB (i % 6) : Int) (ints l) (fst4 ts i f st).1 (ints (fst4 ts i f st).2.1) rev' ((x + 1 : Nat) : Int)) R →
      Tends2 (fun K k => impl_Triangulation_neighbors_Triangulation_edgeSigns_fn1.l1 K k ts (i : Int) (qi : Int) C (EA (i % 6) : Int) (EB (i % 6) : Int) (ints l) st.1 (ints st.2.1) rev (x : Int)) R := by
  have h8 := hv.le
  have him : i ∈ st.2.1 := by rw [← hi, List.getD_eq_getElem?_getD, List.getElem?_eq_getElem hq]; exact List.getElem_mem hq
  obtain ⟨hiN, hic⟩ := h.inn i him
  have ha : i / 6 < ts.length := by omega
  have he : i % 6 < 6 := by omega
  have h4 := hv.four (i / 6) ha
  have hfl : (ints l).getD x 0 = (f : Int) := by rw [ints_get hx, hfx]
  have hw : w64 ((i : Int).tdiv 6) = ((i / 6 : Nat) : Int) := by rw [tdiv6, w64_id (by omega) (by omega)]
  rcases face_cases hv ha hf with ⟨g1, g2⟩ | ⟨g1, b, p, hb, hp, g2, g3⟩
  · have hn : nbr ts i f = none := by unfold nbr; rw [if_neg (by rintro (e | e) <;> contradiction), if_pos g1]
    have hs : fst4 ts i f st = st := by unfold Go.Proofs.YtbjfinndngafoaaGreat.fst4; rw [hn]
    rw [hs]
    refine ⟨rev, hr, fun R hR => Tends2.step (fun K k => ?_) hR⟩
    rw [impl_Triangulation_neighbors_Triangulation_edgeSigns_fn1.l1, if_pos (by rw [ints_len]; omega), if_pos (by rw [ints_len]; omega), hw, Int.toNat_natCast, if_pos (by omega), hfl, Int.toNat_natCast, if_pos (by omega), Int.toNat_natCast, bnd_eq, w64_succ (by omega)]
    show (impl_Face_isBoundary.f (face ts (i / 6) f).Tet (face ts (i / 6) f).Perm).bind _ = _
    rw [isB hv, Option.bind_some, decide_eq_true g1, if_pos rfl]
  · obtain ⟨q1, q2, q3⟩ := EAB he
    obtain ⟨p1, p2, p3, p4⟩ := edge_img hp he
    have hn : nbr ts i f = some (6 * b + EE (PA p (EA (i % 6))) (PA p (EB (i % 6))), decide (PA p (EB (i % 6)) < PA p (EA (i % 6)))) := by
      have := nbr_glued hv (a := i / 6) he h1 h2 g2
      rwa [show 6 * (i / 6) + i % 6 = i by omega] at this
    have hs : fst4 ts i f st = stp i st (6 * b + EE (PA p (EA (i % 6))) (PA p (EB (i % 6))), decide (PA p (EB (i % 6)) < PA p (EA (i % 6)))) := by unfold Go.Proofs.YtbjfinndngafoaaGreat.fst4; rw [hn]
    obtain ⟨k1, k2⟩ := hC i f _ _ hiN hf hn
    obtain ⟨rev', e1, e2, e3⟩ := fn1_t hv hCl hC h hq (fl := decide (PA p (EB (i % 6)) < PA p (EA (i % 6)))) k1 (k2.trans hic) hr
    rw [hi] at e1 e2 e3
    rw [hs]
    have hfx2 : (ts.getD (i / 6) []).getD f z_GFace = ⟨b, p⟩ := g2
    refine ⟨rev', e2, fun R hR => Tends2.step (G := fun K k => bind4 (impl_perm.f K (p : Int)) (fun t122 t123 t124 t125 => (if 0 ≤ (EA (i % 6) : Int) ∧ (EA (i % 6) : Int) < 4 then (if 0 ≤ (EB (i % 6) : Int) ∧ (EB (i % 6) : Int) < 4 then ((impl_edge.f K (([t122, t123, t124, t125] : List Int).getD (EA (i % 6) : Int).toNat 0) (([t122, t123, t124, t125] : List Int).getD (EB (i % 6) : Int).toNat 0)).bind fun t134 => ((impl_sign.f (w64 ((([t122, t123, t124, t125] : List Int).getD (EB (i % 6) : Int).toNat 0) - (([t122, t123, t124, t125] : List Int).getD (EA (i % 6) : Int).toNat 0)))).bind fun t138 => (bind3 (impl_Triangulation_edgeSigns_fn1_free.f (w64 ((w64 (6 * (b : Int))) + t134)) t138 st.1 (ints st.2.1) (qi : Int) rev C) (fun t142 t143 t144 => (if t142.length = st.1.length then (impl_Triangulation_neighbors_Triangulation_edgeSigns_fn1.l1 K k ts (i : Int) (qi : Int) C (EA (i % 6) : Int) (EB (i % 6) : Int) (ints l) t142 t143 t144 ((x + 1 : Nat) : Int)) else none))))) else none) else none))) (fun K k => ?_) (Tends2.bind4 (perm_t hp).two (Tends2.pos (by omega) (Tends2.pos (by omega) (Tends2.bind (a := ((EE (PA p (EA (i % 6))) (PA p (EB (i % 6))) : Nat) : Int)) ?_ ?_))))⟩
    · rw [impl_Triangulation_neighbors_Triangulation_edgeSigns_fn1.l1, if_pos (by rw [ints_len]; omega), if_pos (by rw [ints_len]; omega), hw, Int.toNat_natCast, if_pos (by omega), hfl, Int.toNat_natCast, if_pos (by omega), Int.toNat_natCast, bnd_eq, w64_succ (by omega), hfx2, isBg b p, Option.bind_some, if_neg (by decide)]
    · refine Tends2.congr (fun K k => ?_) (edge_t p1 p2 p3).two
      rw [get4 (k := EA (i % 6)) (by omega), get4 (k := EB (i % 6)) q2]
    · have hsg : impl_sign.f (w64 ((([(PA p 0 : Int), (PA p 1 : Int), (PA p 2 : Int), (PA p 3 : Int)] : List Int).getD (EB (i % 6) : Int).toNat 0) - (([(PA p 0 : Int), (PA p 1 : Int), (PA p 2 : Int), (PA p 3 : Int)] : List Int).getD (EA (i % 6) : Int).toNat 0))) = some (bif decide (PA p (EB (i % 6)) < PA p (EA (i % 6))) then -1 else 1) := by
        rw [get4 (k := EA (i % 6)) (by omega), get4 (k := EB (i % 6)) q2, w64_id (by omega) (by omega)]
        unfold impl_sign.f
        by_cases hlt : PA p (EB (i % 6)) < PA p (EA (i % 6))
        · rw [if_pos (by omega), decide_eq_true hlt]; rfl
        · rw [if_neg (by omega), decide_eq_false hlt]; rfl
      have e6 := w6 (c := 6) (a := b) (e := EE (PA p (EA (i % 6))) (PA p (EB (i % 6)))) (by decide) (by omega) (by omega)
      refine Tends2.eqBind hsg ?_
      refine Tends2.congr (fun K k => ?_) hR
      show bind3 (impl_Triangulation_edgeSigns_fn1_free.f (w64 ((w64 (((6 : Nat) : Int) * (b : Int))) + _)) _ _ _ _ _ _) _ = _
      rw [e6, e1]
      show (if _ then _ else _) = _
      rw [if_pos e3]
theorem nb_t {sg0 : List Int} {i0 : Nat} {st : Srch} (h : Sr ts (6 * ts.length) C sg0 i0 st) {qi : Nat} (hq : qi < st.2.1.length) {i : Nat} (hi : st.2.1.getD qi 0 = i) {rev0 rev : List (Int × Bool)} (hr : RevR rev0 rev (C.getD i0 0) st.2.2) :
    ∃ rev', RevR rev0 rev' (C.getD i0 0) (all4 ts i st 4).2.2 ∧ Tends (fun K => impl_Triangulation_neighbors_Triangulation_edgeSigns_fn1.f K ts (i : Int) st.1 (ints st.2.1) (qi : Int) rev C) ((all4 ts i st 4).1, ints (all4 ts i st 4).2.1, rev') := by
  have him : i ∈ st.2.1 := by rw [← hi, List.getD_eq_getElem?_getD, List.getElem?_eq_getElem hq]; exact List.getElem_mem hq
  have he : i % 6 < 6 := by omega
  obtain ⟨q1, q2, q3⟩ := EAB he
  obtain ⟨f, g, ho, hf, hg, a1, a2, b1, b2⟩ := OT_two he
  obtain ⟨s1, _, _, r, e⟩ := h.fst4 hv hCl hC him hf
  have hq' : qi < (fst4 ts i f st).2.1.length := by rw [e, List.length_append]; omega
  have hi' : (fst4 ts i f st).2.1.getD qi 0 = i := by rw [e, List.getD_eq_getElem?_getD, List.getElem?_append_left hq, ← List.getD_eq_getElem?_getD]; exact hi
  obtain ⟨rev1, g1, c1⟩ := nb_step hv hCl hC h hq hi (l := [f, g]) (x := 0) (f := f) (by simp) (by simp) rfl hf a1 a2 hr
  obtain ⟨rev2, g2, c2⟩ := nb_step hv hCl hC s1 hq' hi' (l := [f, g]) (x := 1) (f := g) (by simp) (by simp) rfl hg b1 b2 g1
  rw [all4_two ts i st ho]
  refine ⟨rev2, g2, Tends.bind2 (a := (EA (i % 6) : Int)) (b := (EB (i % 6) : Int)) ?_ (Tends.bind (a := ints (OT [EA (i % 6), EB (i % 6)])) (others2_t (by omega) q2 (by omega)) ?_)⟩
  · rw [tmod6]; exact ends_t he
  · rw [ho]
    refine (c1 _ (c2 _ (Tends2.of fun K k => ?_))).diag
    rw [impl_Triangulation_neighbors_Triangulation_edgeSigns_fn1.l1, if_neg (by simp [ints])]
end
end Go.Proofs.YtbjfinndngafoaaGreat
