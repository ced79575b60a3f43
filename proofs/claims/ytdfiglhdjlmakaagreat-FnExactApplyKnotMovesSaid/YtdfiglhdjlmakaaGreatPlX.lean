/-
  The sides of arcs: both tables of their regions are the same. AddBigon: both answers agree.
-/
import Derived.Test.YtdfiglhdjlmakaaGreatPlO
set_option linter.unusedVariables false
set_option linter.unusedSimpArgs false
set_option linter.unusedSectionVars false
namespace Go.Proofs.YtdfiglhdjlmakaaGreat
open Go.RowKit
section
variable {xs : List GCrossing} (hn : xs.length ≤ 10) (hs : Signs xs) {f t : List GEnd} (hg : Good xs f t)
include hn hs hg
theorem sides_inner {R : List (List Int)} (hR : RegionsOk xs.length R) (cs : Int) {i : Nat} (hi : i < R.length)
    (next : ∀ out : List Int, out.length = 4 * xs.length → ∃ O : List Int, O.length = 4 * xs.length ∧ Tends2 (fun K k => spec_l27Sides.l1 K k xs cs R out ((i + 1 : Nat) : Int)) O ∧ Tends2 (fun K k => impl_Diagram_sides.l1 K k xs R out ((i + 1 : Nat) : Int)) O) :
    ∀ (d j : Nat) (out : List Int), (R.getD i []).length - j = d → out.length = 4 * xs.length →
      ∃ O : List Int, O.length = 4 * xs.length ∧ Tends2 (fun K k => spec_l27Sides.l4 K k xs cs R (i : Int) out (j : Int)) O ∧ Tends2 (fun K k => impl_Diagram_sides.l10 K k xs R (i : Int) out (j : Int)) O
  | 0, j, out, hd, ho => by
    obtain ⟨O, h0, h1, h2⟩ := next out ho
    have hRl := hR.1
    refine ⟨O, h0, Tends2.succ (Tends2.congr (fun K k => ?_) h1), Tends2.succ (Tends2.congr (fun K k => ?_) h2)⟩
    · rw [spec_l27Sides.l4, if_pos (by omega), Int.toNat_natCast, if_neg (by omega), w64_succ (by omega)]
    · rw [impl_Diagram_sides.l10, Int.toNat_natCast, if_neg (by omega), w64_succ (by omega)]
  | d + 1, j, out, hd, ho => by
    have hRl := hR.1
    have hr : RegionOk xs.length (R.getD i []) := hR.2 _ (by rw [List.getD_eq_getElem?_getD, List.getElem?_eq_getElem hi]; exact List.getElem_mem hi)
    have hrl := hr.1
    have hj : j < (R.getD i []).length := by omega
    obtain ⟨first, _, hmem⟩ := hr.2
    obtain ⟨k0, hk0, hk1, _⟩ := hmem ((R.getD i []).getD j 0) (by rw [List.getD_eq_getElem?_getD (i := j), List.getElem?_eq_getElem hj]; exact List.getElem_mem hj)
    have hsr := side_range hn hs hg hk1
    obtain ⟨O, h0, h1, h2⟩ := sides_inner hR cs hi next d (j + 1) (out.set (sideOf xs k0).toNat (i : Int)) (by omega) (by rw [List.length_set]; exact ho)
    refine ⟨O, h0, Tends2.succ (Tends2.congr (fun K k => ?_) h1), ?_⟩
    · rw [spec_l27Sides.l4, if_pos (by omega), Int.toNat_natCast, if_pos (by omega), if_pos (by omega), Int.toNat_natCast, hk0, side_spec hn hs hg cs hk1, Option.bind_some, if_pos (by omega), w64_succ (by omega)]
    · have hp : (k0 % 4 + 1) % 4 < 4 := Nat.mod_lt _ (by decide)
      have hA := arcAt_cp xs (c := k0 / 4) hp
      have hE := entAt_cp xs (c := k0 / 4) hp
      have hb : behind k0 = 4 * (k0 / 4) + (k0 % 4 + 1) % 4 := rfl
      have hget : ([(xs.getD (k0 / 4) z_GCrossing).A, (xs.getD (k0 / 4) z_GCrossing).B, (xs.getD (k0 / 4) z_GCrossing).C, (xs.getD (k0 / 4) z_GCrossing).D] : List Int).getD ((k0 % 4 + 1) % 4) 0 = arcAt xs (behind k0) := by rw [hb, hA]; rfl
      have hen := enters_impl (hs (k0 / 4) (by omega)) hp
      have e1 : w64 (2 * arcAt xs (behind k0)) = 2 * arcAt xs (behind k0) := w64_id (by omega) (by omega)
      have e2 : w64 (2 * arcAt xs (behind k0) + 1) = 2 * arcAt xs (behind k0) + 1 := w64_id (by omega) (by omega)
      refine Tends2.succ (Tends2.congr (G := fun K k => impl_Diagram_sides.j13 K k xs R (i : Int) out (j : Int) (sideOf xs k0)) (fun K k => ?_) (Tends2.succ (Tends2.congr (fun K k => ?_) h2)))
      · rw [impl_Diagram_sides.l10, Int.toNat_natCast, if_pos (by omega), if_pos (by omega), Int.toNat_natCast, hk0, corner_div (by omega), corner_mod' (by omega), if_pos (by omega), bnd_eq, Int.toNat_natCast]
        simp only [impl_Crossing_ends.f, bind4, Option.bind_some]
        rw [if_pos (by omega), hen, Option.bind_some, Int.toNat_natCast, hget, ← hE, ← hb, e1, e2]
        unfold sideOf
        split <;> rfl
      · rw [impl_Diagram_sides.j13, if_pos (by omega), w64_succ (by omega)]
theorem sides_outer {R : List (List Int)} (hR : RegionsOk xs.length R) (cs : Int) : ∀ (d i : Nat) (out : List Int), R.length - i = d → out.length = 4 * xs.length →
      ∃ O : List Int, O.length = 4 * xs.length ∧ Tends2 (fun K k => spec_l27Sides.l1 K k xs cs R out (i : Int)) O ∧ Tends2 (fun K k => impl_Diagram_sides.l1 K k xs R out (i : Int)) O
  | 0, i, out, hd, ho => by
    refine ⟨out, ho, Tends2.succ (Tends2.congr (fun K k => ?_) (Tends2.const out)), Tends2.succ (Tends2.congr (fun K k => ?_) (Tends2.const out))⟩
    · rw [spec_l27Sides.l1, if_neg (by omega)]
    · rw [impl_Diagram_sides.l1, if_neg (by omega)]
  | d + 1, i, out, hd, ho => by
    obtain ⟨O, h0, h1, h2⟩ := sides_inner hn hs hg hR cs (i := i) (by omega) (fun out' ho' => sides_outer hR cs d (i + 1) out' (by omega) ho') _ 0 out rfl ho
    refine ⟨O, h0, Tends2.succ (Tends2.congr (fun K k => ?_) h1), Tends2.succ (Tends2.congr (fun K k => ?_) h2)⟩
    · rw [spec_l27Sides.l1, if_pos (by omega)]
      rfl
    · rw [impl_Diagram_sides.l1, if_pos (by omega), if_pos (by omega)]
      rfl
theorem sides (cs : Int) : ∃ O : List Int, O.length = 4 * xs.length ∧ Tends (fun K => spec_l27Sides.f K xs cs) O ∧ Tends (fun K => impl_Diagram_sides.f K xs cs f t) O := by
  have hw4 : w64 (4 * (xs.length : Int)) = 4 * (xs.length : Int) := w64_id (by omega) (by omega)
  have ht : (4 * (xs.length : Int)).toNat = 4 * xs.length := by omega
  have htl : w64 (2 * (t.length : Int)) = 4 * (xs.length : Int) := by rw [hg.tlen, w64_id (by omega) (by omega)]; omega
  obtain ⟨R, hR, r1, r2⟩ := regions hn hs hg cs
  obtain ⟨O, h0, h1, h2⟩ := sides_outer hn hs hg hR cs R.length 0 (List.replicate (4 * xs.length) 0) rfl (by simp)
  refine ⟨O, h0, ?_, ?_⟩
  · unfold spec_l27Sides.f
    rw [hw4, ht]
    exact Tends.pos (by omega) (Tends.pos (by omega) (Tends.bind r1 h1.diag))
  · unfold impl_Diagram_sides.f
    rw [htl, ht]
    exact Tends.pos (by omega) (Tends.pos (by omega) (Tends.bind r2 h2.diag))
end
theorem has_int (l : List Int) (a : Int) (hl : l.length ≤ 4000000) : impl_hasIndex_int64.f l a = some (decide (0 ≤ a ∧ a < (l.length : Int))) := by
  unfold impl_hasIndex_int64.f impl_size_int64_97.f
  rw [Option.bind_some, range_eq, Option.bind_some]
  congr 2
  rw [w64_id (by omega) (by omega)]
  apply propext
  constructor <;> intro h <;> omega
theorem in_four (a : Int) (n : Nat) (hn : n ≤ 2000000) : spec_l01In.f a 0 (w64 (w64 (2 * w64 (2 * (n : Int))) - 1)) = some (decide (0 ≤ a ∧ a < 4 * (n : Int))) := by
  rw [In_eq]
  congr 2
  rw [w64_id (x := 2 * (n : Int)) (by omega) (by omega), w64_id (x := 2 * (2 * (n : Int))) (by omega) (by omega), w64_id (by omega) (by omega)]
  apply propext
  constructor <;> intro h <;> omega
def crossing (low lowOut up upOut : Int) (s : Bool) : GCrossing := if s = true then ⟨low, upOut, lowOut, up, 1⟩ else ⟨low, up, lowOut, upOut, -1⟩
def sgn (s : Bool) : Int := if s = true then 1 else -1
theorem Upper_eq (a b c d : Int) (s : Bool) : spec_l27Upper.f a b c d (sgn s) = some ((crossing a b c d s).A, (crossing a b c d s).B, (crossing a b c d s).C, (crossing a b c d s).D, (crossing a b c d s).Sign) := by cases s <;> rfl
theorem crossed_eq (a b c d : Int) (s : Bool) : impl_crossed.f a b c d (sgn s) = some ((crossing a b c d s).A, (crossing a b c d s).B, (crossing a b c d s).C, (crossing a b c d s).D, (crossing a b c d s).Sign) := by cases s <;> rfl
theorem sgn_neg (s : Bool) : w64 (0 - sgn s) = sgn (!s) := by cases s <;> decide
def bigon (a b m : Int) (same s : Bool) : List GCrossing := if same = true then [crossing (m + 2) (m + 3) a m s, crossing b (m + 2) m (m + 1) (!s)] else [crossing b (m + 2) a m s, crossing (m + 2) (m + 3) m (m + 1) (!s)]
theorem bigon_spec {xs : List GCrossing} (hn : xs.length ≤ 10) {cs o A a b c p c2 p2 : Int} {x y : GCrossing} {s : Bool} (ha : w64 (o.tdiv 2) = a) (hb : w64 (A.tdiv 2) = b) :
    Tends (fun K => spec_AddBigon.j1 K K xs cs o A c x.A x.B x.C x.D x.Sign c2 y.A y.B y.C y.D y.Sign (sgn s)) ((xs.set c.toNat x).set c2.toNat y ++ bigon a b (2 * (xs.length : Int)) (decide (o.tmod 2 = A.tmod 2)) s, cs, 0) := by
  have e0 : w64 (2 * (xs.length : Int)) = 2 * (xs.length : Int) := w64_id (by omega) (by omega)
  have e1 : w64 (2 * (xs.length : Int) + 1) = 2 * (xs.length : Int) + 1 := w64_id (by omega) (by omega)
  have e2 : w64 (2 * (xs.length : Int) + 2) = 2 * (xs.length : Int) + 2 := w64_id (by omega) (by omega)
  have e3 : w64 (2 * (xs.length : Int) + 3) = 2 * (xs.length : Int) + 3 := w64_id (by omega) (by omega)
  refine Tends2.diag (F := fun K k => spec_AddBigon.j1 K k xs cs o A c x.A x.B x.C x.D x.Sign c2 y.A y.B y.C y.D y.Sign (sgn s)) (Tends2.succ (Tends2.succ ?_))
  refine Tends2.congr (fun K k => ?_) (Tends2.const _)
  rw [spec_AddBigon.j1]
  simp only [e0, e1, e2, e3, ha, hb, sgn_neg, Upper_eq, bind5, Option.bind_some]
  by_cases h : o.tmod 2 = A.tmod 2
  · rw [if_pos h, decide_eq_true h, spec_AddBigon.j2]
    simp only [eta', List.nil_append]
    rw [if_pos (by simp only [List.length_set, List.length_cons, List.length_nil]; omega)]
    rfl
  · rw [if_neg h, decide_eq_false h, spec_AddBigon.j2]
    simp only [eta', List.nil_append]
    rw [if_pos (by simp only [List.length_set, List.length_cons, List.length_nil]; omega)]
    rfl
theorem AddBigon_both (xs : List GCrossing) (hx : xs.length ≤ 1048576) (cs o A : Int) : ∃ ys c' e, List.length ys ≤ xs.length + 2 ∧ Tends (fun K => spec_AddBigon.f K xs cs o A) (ys, c', e) ∧ Tends (fun K => impl_AddBigon.f K xs cs o A) (ys, c', e) := by
  unfold spec_AddBigon.f impl_AddBigon.f
  rcases drawings xs (by omega) cs with ⟨h1, h2⟩ | ⟨hn, hs, f, t, hg, h1, h2⟩
  · exact ⟨[], 0, 1, by simp, Tends.bind h1 (Tends.neg (by decide) (Tends.const _)), Tends.bind3 h2 (Tends.neg (by decide) (Tends.const _))⟩
  rw [in_four _ _ (by omega), in_four _ _ (by omega)]
  obtain ⟨O, ho, s1, s2⟩ := sides hn hs hg cs
  have hOl : (O.length : Int) = 4 * (xs.length : Int) := by omega
  by_cases hi : 0 ≤ o ∧ o < 4 * (xs.length : Int)
  rotate_left
  · refine ⟨[], 0, 4, by simp, Tends.bind h1 (Tends.pos rfl ?_), Tends.bind3 h2 (Tends.pos rfl (Tends.bind s2 ?_))⟩
    · rw [decide_eq_false hi]; exact Tends.some_ (Tends.neg (by decide) (Tends.const _))
    · rw [has_int _ _ (by omega), hOl, decide_eq_false hi]; exact Tends.some_ (Tends.neg (by decide) (Tends.const _))
  by_cases hj : 0 ≤ A ∧ A < 4 * (xs.length : Int)
  rotate_left
  · refine ⟨[], 0, 4, by simp, Tends.bind h1 (Tends.pos rfl ?_), Tends.bind3 h2 (Tends.pos rfl (Tends.bind s2 ?_))⟩
    · rw [decide_eq_true hi, decide_eq_false hj]; exact Tends.some_ (Tends.pos rfl (Tends.some_ (Tends.neg (by decide) (Tends.const _))))
    · rw [has_int _ _ (by omega), has_int _ _ (by omega), hOl, decide_eq_true hi, decide_eq_false hj]; exact Tends.some_ (Tends.pos rfl (Tends.some_ (Tends.neg (by decide) (Tends.const _))))
  rw [decide_eq_true hi, decide_eq_true hj]
  obtain ⟨oi, rfl⟩ : ∃ k : Nat, o = (k : Int) := ⟨o.toNat, by omega⟩
  obtain ⟨aj, rfl⟩ : ∃ k : Nat, A = (k : Int) := ⟨A.toNat, by omega⟩
  have hd1 : w64 ((oi : Int).tdiv 2) = ((oi / 2 : Nat) : Int) := by
    have : (oi : Int).tdiv 2 = ((oi / 2 : Nat) : Int) := rfl
    rw [this]; exact w64_nat (by omega)
  have hd2 : w64 ((aj : Int).tdiv 2) = ((aj / 2 : Nat) : Int) := by
    have : (aj : Int).tdiv 2 = ((aj / 2 : Nat) : Int) := rfl
    rw [this]; exact w64_nat (by omega)
  by_cases hab : oi / 2 = aj / 2
  · refine ⟨[], 0, 5, by simp, Tends.bind h1 (Tends.pos rfl (Tends.some_ (Tends.pos rfl (Tends.some_ (Tends.pos rfl (Tends.bind s1 (Tends.pos (by rw [hd1, hd2, hab]) (Tends.const _)))))))), Tends.bind3 h2 (Tends.pos rfl (Tends.bind s2 ?_))⟩
    rw [has_int _ _ (by omega), has_int _ _ (by omega), hOl, decide_eq_true hi, decide_eq_true hj]
    exact Tends.some_ (Tends.pos rfl (Tends.some_ (Tends.pos rfl (Tends.pos (by rw [hd1, hd2, hab]) (Tends.const _)))))
  have hne : ¬ w64 ((oi : Int).tdiv 2) = w64 ((aj : Int).tdiv 2) := by rw [hd1, hd2]; omega
  by_cases heq : O.getD (oi : Int).toNat 0 = O.getD (aj : Int).toNat 0
  rotate_left
  · refine ⟨[], 0, 5, by simp, Tends.bind h1 (Tends.pos rfl (Tends.some_ (Tends.pos rfl (Tends.some_ (Tends.pos rfl (Tends.bind s1 (Tends.neg hne (Tends.pos (by omega) (Tends.pos (by omega) (Tends.neg heq (Tends.const _))))))))))), Tends.bind3 h2 (Tends.pos rfl (Tends.bind s2 ?_))⟩
    rw [has_int _ _ (by omega), has_int _ _ (by omega), hOl, decide_eq_true hi, decide_eq_true hj]
    exact Tends.some_ (Tends.pos rfl (Tends.some_ (Tends.pos rfl (Tends.neg hne (Tends.pos (by omega) (Tends.pos (by omega) (Tends.neg heq (Tends.const _))))))))
  by_cases h8 : 8 < (xs.length : Int)
  · refine ⟨[], 0, 3, by simp, Tends.bind h1 (Tends.pos rfl (Tends.some_ (Tends.pos rfl (Tends.some_ (Tends.pos rfl (Tends.bind s1 (Tends.neg hne (Tends.pos (by omega) (Tends.pos (by omega) (Tends.pos heq (Tends.pos h8 (Tends.const _)))))))))))), Tends.bind3 h2 (Tends.pos rfl (Tends.bind s2 ?_))⟩
    rw [has_int _ _ (by omega), has_int _ _ (by omega), hOl, decide_eq_true hi, decide_eq_true hj]
    exact Tends.some_ (Tends.pos rfl (Tends.some_ (Tends.pos rfl (Tends.neg hne (Tends.pos (by omega) (Tends.pos (by omega) (Tends.pos heq (Tends.pos h8 (Tends.const _)))))))))
  have e0 : w64 (2 * (xs.length : Int)) = 2 * (xs.length : Int) := w64_id (by omega) (by omega)
  have e1 : w64 (2 * (xs.length : Int) + 1) = 2 * (xs.length : Int) + 1 := w64_id (by omega) (by omega)
  have e2 : w64 (2 * (xs.length : Int) + 2) = 2 * (xs.length : Int) + 2 := w64_id (by omega) (by omega)
  have e3 : w64 (2 * (xs.length : Int) + 3) = 2 * (xs.length : Int) + 3 := w64_id (by omega) (by omega)
  obtain ⟨q, hq, hqb, hqe⟩ := hg.tall (oi / 2) (by omega)
  obtain ⟨r, hr, hrb, hre⟩ := hg.tall (aj / 2) (by omega)
  have pq := hg.place hn hs hq hqe hqb cs
  have pr := hg.place hn hs hr hre hrb cs
  obtain ⟨_, _, tq⟩ := hg.tin q hq hqb
  obtain ⟨_, _, tr⟩ := hg.tin r hr hrb
  rw [hqe, Int.toNat_natCast] at tq
  rw [hre, Int.toNat_natCast] at tr
  have hp : q % 4 < 4 := Nat.mod_lt _ (by decide)
  have hp2 : r % 4 < 4 := Nat.mod_lt _ (by decide)
  have hTl : (t.length : Int) = 2 * (xs.length : Int) := by rw [hg.tlen]; omega
  obtain ⟨x, hxx⟩ : ∃ x, x = withArc (xs.getD (q / 4) z_GCrossing) (q % 4) (2 * (xs.length : Int) + 1) := ⟨_, rfl⟩
  obtain ⟨ys, hys⟩ : ∃ ys, ys = xs.set (q / 4) x := ⟨_, rfl⟩
  have hyl : ys.length = xs.length := by rw [hys, List.length_set]
  obtain ⟨y, hyy⟩ : ∃ y, y = withArc (ys.getD (r / 4) z_GCrossing) (r % 4) (2 * (xs.length : Int) + 3) := ⟨_, rfl⟩
  obtain ⟨us, hus⟩ : ∃ us, us = ys.set (r / 4) y := ⟨_, rfl⟩
  have hul : us.length = ys.length := by rw [hus, List.length_set]
  obtain ⟨s, hss⟩ : ∃ s : Bool, s = decide (¬ aj % 2 = 1) := ⟨_, rfl⟩
  have hm1 : (aj : Int).tmod 2 = ((aj % 2 : Nat) : Int) := rfl
  refine ⟨us ++ bigon ((oi / 2 : Nat) : Int) ((aj / 2 : Nat) : Int) (2 * (xs.length : Int)) (decide ((oi : Int).tmod 2 = (aj : Int).tmod 2)) s, cs, 0, ?_, ?_, ?_⟩
  · rw [List.length_append]
    unfold bigon
    split <;> (simp only [List.length_cons, List.length_nil]; omega)
  · refine Tends.bind h1 (Tends.pos rfl (Tends.some_ (Tends.pos rfl (Tends.some_ (Tends.pos rfl (Tends.bind s1 (Tends.neg hne (Tends.pos (by omega) (Tends.pos (by omega) (Tends.pos heq (Tends.neg h8 (Tends.pos (by simp only [List.length_nil]; omega) ?_))))))))))))
    rw [hd1, hd2]
    refine Tends.bind2 pq (Tends.pos (by simp only [List.nil_append]; omega) ?_)
    simp only [bnd_eq, Int.toNat_natCast, e0, e1, List.nil_append, With_eq _ hp]
    rw [← hxx]
    simp only [bind5, Option.bind_some, eta']
    rw [← hys]
    refine Tends.bind2 pr (Tends.pos (by omega) ?_)
    simp only [Int.toNat_natCast, e3, With_eq _ hp2]
    rw [← hyy]
    simp only [Option.bind_some]
    have hb := bigon_spec (xs := xs) hn (cs := cs) (o := (oi : Int)) (A := (aj : Int)) (c := ((q / 4 : Nat) : Int)) (c2 := ((r / 4 : Nat) : Int)) (p := 0) (p2 := 0) (x := x) (y := y) (s := s) hd1 hd2
    rw [Int.toNat_natCast, Int.toNat_natCast, ← hys, ← hus] at hb
    by_cases hodd : aj % 2 = 1
    · have hsf : s = false := by rw [hss]; simp [hodd]
      rw [hsf] at hb ⊢
      exact Tends.pos (by rw [hm1, hodd]; rfl) hb
    · have hst : s = true := by rw [hss]; simp [hodd]
      rw [hst] at hb ⊢
      exact Tends.neg (by rw [hm1]; omega) hb
  · refine Tends.bind3 h2 (Tends.pos rfl (Tends.bind s2 ?_))
    rw [has_int _ _ (by omega), has_int _ _ (by omega), hOl, decide_eq_true hi, decide_eq_true hj]
    refine Tends.some_ (Tends.pos rfl (Tends.some_ (Tends.pos rfl (Tends.neg hne (Tends.pos (by omega) (Tends.pos (by omega) (Tends.pos heq (Tends.neg h8 ?_))))))))
    unfold impl_size_impl_end.f impl_copyDiagram.f
    rw [clone_eq (xs := xs) (by omega), hd1, hd2]
    simp only [Option.bind_some, bind2]
    refine Tends.pos (by omega) ?_
    simp only [bnd_eq, Int.toNat_natCast, hTl, e1, e2, e3]
    rw [List.getD_eq_getElem?_getD, tq, List.getD_eq_getElem?_getD, tr]
    show Tends (fun K => (impl_Diagram_set.f xs cs ((q / 4 : Nat) : Int) ((q % 4 : Nat) : Int) (2 * (xs.length : Int) + 1)).bind _) _
    rw [set_eq (by omega) hp, ← hxx, ← hys]
    refine Tends.pos hyl (Tends.pos (by omega) ?_)
    show Tends (fun K => (impl_Diagram_set.f ys cs ((r / 4 : Nat) : Int) ((r % 4 : Nat) : Int) (2 * (xs.length : Int) + 3)).bind _) _
    rw [set_eq (by omega) hp2, ← hyy, ← hus]
    refine Tends.pos hul ?_
    have hsg : w64 (1 - w64 (2 * (aj : Int).tmod 2)) = sgn s := by
      rw [hm1, hss]
      by_cases hodd : aj % 2 = 1
      · rw [hodd]; simp; decide
      · have : aj % 2 = 0 := by omega
        rw [this]; simp; decide
    rw [hsg]
    simp only [sgn_neg, crossed_eq, bind5, Option.bind_some, eta']
    by_cases hpar : (oi : Int).tmod 2 = (aj : Int).tmod 2
    · rw [decide_eq_true hpar]
      refine Tends.pos hpar (Tends.pos (by simp only [List.length_cons, List.length_nil]; omega) (Tends.const _))
    · rw [decide_eq_false hpar]
      refine Tends.neg hpar (Tends.pos (by simp only [List.length_cons, List.length_nil]; omega) (Tends.const _))
end Go.Proofs.YtdfiglhdjlmakaaGreat
