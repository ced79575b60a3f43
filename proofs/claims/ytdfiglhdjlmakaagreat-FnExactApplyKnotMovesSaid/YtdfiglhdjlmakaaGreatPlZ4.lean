/-
  RemoveBigon: both answers agree.
-/
import Derived.Test.YtdfiglhdjlmakaaGreatPlZ3
import Derived.Test.YtdfiglhdjlmakaaGreatPlQ
set_option linter.unusedVariables false
set_option linter.unusedSimpArgs false
set_option linter.unusedSectionVars false
namespace Go.Proofs.YtdfiglhdjlmakaaGreat
open Go.RowKit
def bigB (c e : Nat) (r : List Int) : Bool := decide (r.length = 2 ∧ w64 ((r.getD 0 0).tdiv 4) = ((min c e : Nat) : Int) ∧ w64 ((r.getD 1 0).tdiv 4) = ((max c e : Nat) : Int)) && (pureAt r 0 || pureAt r 1)
theorem big_step {R : List (List Int)} (hR : R.length ≤ 1000) {c e i : Nat} (hi : i < R.length) (hr : (R.getD i []).length ≤ 1000) {F : Bool} (h : Tends2 (fun K k => if bigB c e (R.getD i []) = true then some true else spec_l27Bigon.l1 K k (c : Int) (e : Int) R ((i + 1 : Nat) : Int)) F) :
    Tends2 (fun K k => spec_l27Bigon.l1 K k (c : Int) (e : Int) R (i : Int)) F := by
  obtain ⟨r, hrr⟩ : ∃ r, r = R.getD i [] := ⟨_, rfl⟩
  rw [← hrr] at hr h
  have hmin : (if (e : Int) < (c : Int) then (e : Int) else (c : Int)) = ((min c e : Nat) : Int) := by split <;> omega
  have hmax : (if (e : Int) > (c : Int) then (e : Int) else (c : Int)) = ((max c e : Nat) : Int) := by split <;> omega
  have hstep : ∀ K k, spec_l27Bigon.l1 K (k + 1) (c : Int) (e : Int) R (i : Int) = if (r.length : Int) = 2 then (if 0 ≤ (0 : Int) ∧ (0 : Int) < (r.length : Int) then (if w64 ((r.getD 0 0).tdiv 4) = ((min c e : Nat) : Int) then (if 0 ≤ (1 : Int) ∧ (1 : Int) < (r.length : Int) then (if w64 ((r.getD 1 0).tdiv 4) = ((max c e : Nat) : Int) then ((spec_l27Edges.f K r).bind fun t78 => ((spec_l27Pure.f K t78 0).bind fun t85 => (if t85 = true then (some true) else ((spec_l27Pure.f K t78 1).bind fun t90 => (if t90 = true then (some true) else (spec_l27Bigon.l1 K k (c : Int) (e : Int) R ((i + 1 : Nat) : Int))))))) else (spec_l27Bigon.l1 K k (c : Int) (e : Int) R ((i + 1 : Nat) : Int))) else none) else (spec_l27Bigon.l1 K k (c : Int) (e : Int) R ((i + 1 : Nat) : Int))) else none) else (spec_l27Bigon.l1 K k (c : Int) (e : Int) R ((i + 1 : Nat) : Int)) := fun K k => by
    rw [spec_l27Bigon.l1, if_pos (by omega), if_pos (by omega), Int.toNat_natCast, ← hrr, hmin, hmax, w64_succ (by omega)]
  refine Tends2.succ (Tends2.congr hstep ?_)
  unfold bigB at h
  by_cases h2 : r.length = 2
  rotate_left
  · rw [decide_eq_false (fun x => h2 x.1), Bool.false_and] at h
    exact Tends2.neg (by omega) (Tends2.congr (fun K k => (if_neg (by decide)).symm) h)
  refine Tends2.pos (by omega) (Tends2.pos (by omega) ?_)
  by_cases h3 : w64 ((r.getD 0 0).tdiv 4) = ((min c e : Nat) : Int)
  rotate_left
  · rw [decide_eq_false (fun x => h3 x.2.1), Bool.false_and] at h
    exact Tends2.neg h3 (Tends2.congr (fun K k => (if_neg (by decide)).symm) h)
  refine Tends2.pos h3 (Tends2.pos (by omega) ?_)
  by_cases h4 : w64 ((r.getD 1 0).tdiv 4) = ((max c e : Nat) : Int)
  rotate_left
  · rw [decide_eq_false (fun x => h4 x.2.2), Bool.false_and] at h
    exact Tends2.neg h4 (Tends2.congr (fun K k => (if_neg (by decide)).symm) h)
  rw [decide_eq_true ⟨h2, h3, h4⟩, Bool.true_and] at h
  refine Tends2.pos h4 (Tends2.bind (edges_f r hr).two (Tends2.bind (pure_f r hr 0).two ?_))
  cases hp : pureAt r 0
  · rw [hp, Bool.false_or] at h
    exact Tends2.neg (by decide) (Tends2.bind (pure_f r hr 1).two h)
  · rw [hp, Bool.true_or] at h
    exact Tends2.pos rfl (Tends2.congr (fun K k => (if_pos rfl).symm) h)
theorem lev_opp {k : Nat} (h : k < 1000000) : lev1 (k : Int) = 1 - lev0 (k : Int) := by
  rw [lev1_nat h, lev0_nat]
  omega
theorem lev0_two (k : Nat) : lev0 (k : Int) = 0 ∨ lev0 (k : Int) = 1 := by
  rw [lev0_nat]
  omega
theorem big_fn {r : List Int} {n : Nat} (hok : RegionOk n r) (hn : n ≤ 10) {c e : Nat} (hce : c ≠ e) : impl_Diagram_isBigon_fn1_free.f r (c : Int) (e : Int) = some (bigB c e r) := by
  unfold impl_Diagram_isBigon_fn1_free.f bigB
  by_cases h2 : r.length = 2
  rotate_left
  · rw [decide_eq_false (fun x => h2 x.1), Bool.false_and, if_neg (by omega)]
  obtain ⟨_, first, hf, hm⟩ := hok
  obtain ⟨x, y, rfl⟩ : ∃ x y, r = [x, y] := by
    match r, h2 with
    | [x, y], _ => exact ⟨x, y, rfl⟩
  obtain ⟨a, rfl, ha, ha2⟩ := hm x (by simp)
  obtain ⟨b, rfl, hb, hb2⟩ := hm y (by simp)
  have hfa : a = first := by
    have : some ((a : Nat) : Int) = some ((first : Nat) : Int) := hf
    have := Option.some.inj this
    omega
  have g0 : ([(a : Int), (b : Int)] : List Int).getD 0 0 = (a : Int) := rfl
  have g1 : ([(a : Int), (b : Int)] : List Int).getD 1 0 = (b : Int) := rfl
  have hE : edgesOf [(a : Int), (b : Int)] = [(lev1 (a : Int), lev0 (b : Int)), (lev1 (b : Int), lev0 (a : Int))] := by
    have h3 : ([(a : Int), (b : Int)] : List Int).length = 2 := rfl
    unfold edgesOf edgeOf
    rw [h3]
    show [(lev1 ([(a : Int), (b : Int)].getD 0 0), lev0 ([(a : Int), (b : Int)].getD 1 0)), (lev1 ([(a : Int), (b : Int)].getD 1 0), lev0 ([(a : Int), (b : Int)].getD 0 0))] = _
    rw [g0, g1]
  have hpure : (pureAt [(a : Int), (b : Int)] 0 || pureAt [(a : Int), (b : Int)] 1) = (decide (lev1 (a : Int) = 1) == decide (lev0 (b : Int) = 1)) := by
    unfold pureAt
    rw [hE, lev_opp (show a < 1000000 by omega), lev_opp (show b < 1000000 by omega)]
    rcases lev0_two a with e1 | e1 <;> rcases lev0_two b with e2 | e2 <;> rw [e1, e2] <;> rfl
  rw [g0, g1, corner_div (show a < 1000000 by omega), corner_div (show b < 1000000 by omega), upper1 (show a < 1000000 by omega), upper0, hpure]
  rw [if_pos (show (([(a : Int), (b : Int)] : List Int).length : Int) = 2 from rfl), if_pos (show (0 : Int) ≤ 0 ∧ (0 : Int) < (([(a : Int), (b : Int)] : List Int).length : Int) by simp), if_pos (show (0 : Int) ≤ 1 ∧ (1 : Int) < (([(a : Int), (b : Int)] : List Int).length : Int) by simp)]
  simp only [Option.bind_some]
  generalize hD : decide (([(a : Int), (b : Int)] : List Int).length = 2 ∧ ((a / 4 : Nat) : Int) = ((min c e : Nat) : Int) ∧ ((b / 4 : Nat) : Int) = ((max c e : Nat) : Int)) = D
  by_cases hA : a / 4 = c ∧ b / 4 = e
  · have hDt : D = true := by rw [← hD]; exact decide_eq_true ⟨rfl, by omega, by omega⟩
    rw [if_pos (by omega), if_pos (by omega), hDt, Bool.true_and]
  · by_cases hB : a / 4 = e ∧ b / 4 = c
    · have hDt : D = true := by rw [← hD]; exact decide_eq_true ⟨rfl, by omega, by omega⟩
      rw [if_neg (by omega), if_pos (by omega), if_pos (by omega), hDt, Bool.true_and]
    · have hDf : D = false := by
        rw [← hD]
        refine decide_eq_false (fun h => ?_)
        have h1 := h.2.1
        have h3 := h.2.2
        rcases Nat.lt_or_ge c e with h4 | h4
        · exact hA ⟨by omega, by omega⟩
        · exact hB ⟨by omega, by omega⟩
      rw [hDf, Bool.false_and]
      by_cases h5 : a / 4 = c
      · rw [if_pos (by omega), if_neg (by omega), if_neg (by omega)]
      · rw [if_neg (by omega)]
        by_cases h6 : a / 4 = e
        · rw [if_pos (by omega), if_neg (by omega)]
        · rw [if_neg (by omega)]
section
variable {R : List (List Int)} {n : Nat} (hn : n ≤ 10) (hR : RegionsOk n R) {c e : Nat}
include hn hR
theorem big_at {i : Nat} (hi : i < R.length) : RegionOk n (R.getD i []) := hR.2 _ (by rw [List.getD_eq_getElem?_getD, List.getElem?_eq_getElem hi]; exact List.getElem_mem _)
theorem big_cons {i : Nat} (hi : i < R.length) : (R.drop i).any (bigB c e) = (bigB c e (R.getD i []) || (R.drop (i + 1)).any (bigB c e)) := by
  rw [List.drop_eq_getElem_cons hi, List.any_cons, List.getD_eq_getElem?_getD, List.getElem?_eq_getElem hi]; rfl
theorem big_spec : ∀ (d i : Nat), R.length - i = d → i ≤ R.length → Tends2 (fun K k => spec_l27Bigon.l1 K k (c : Int) (e : Int) R (i : Int)) ((R.drop i).any (bigB c e))
  | 0, i, hd, hi => by
    obtain rfl : i = R.length := by omega
    refine Tends2.succ (Tends2.congr (fun K k => ?_) (Tends2.const _))
    rw [spec_l27Bigon.l1, if_neg (by omega), List.drop_length]
    rfl
  | d + 1, i, hd, hi => by
    have hlt : i < R.length := by omega
    have hRl := hR.1
    have hok := (big_at hn hR hlt).1
    refine big_step (by omega) hlt (by omega) ?_
    rw [big_cons hn hR hlt]
    cases hb : bigB c e (R.getD i []) with
    | true => exact Tends2.pos rfl (Tends2.const _)
    | false => exact Tends2.neg (by decide) (big_spec d (i + 1) (by omega) (by omega))
theorem big_impl (hce : c ≠ e) : ∀ (d i : Nat), R.length - i = d → i ≤ R.length → ∃ r : Int, Tends2 (fun K k => slices_IndexFunc_int64_int64_129.l1 K k R (c : Int) (e : Int) (i : Int)) r ∧ (0 ≤ r ↔ (R.drop i).any (bigB c e) = true)
  | 0, i, hd, hi => by
    obtain rfl : i = R.length := by omega
    refine ⟨-1, Tends2.succ (Tends2.congr (fun K k => ?_) (Tends2.const _)), ?_⟩
    · rw [slices_IndexFunc_int64_int64_129.l1, if_neg (by omega)]
    · rw [List.drop_length]
      exact ⟨fun h => absurd h (by decide), fun h => Bool.noConfusion h⟩
  | d + 1, i, hd, hi => by
    have hlt : i < R.length := by omega
    have hRl := hR.1
    have hstep : ∀ K k, slices_IndexFunc_int64_int64_129.l1 K (k + 1) R (c : Int) (e : Int) (i : Int) = if bigB c e (R.getD i []) = true then some (i : Int) else slices_IndexFunc_int64_int64_129.l1 K k R (c : Int) (e : Int) ((i + 1 : Nat) : Int) := fun K k => by
      rw [slices_IndexFunc_int64_int64_129.l1, if_pos (by omega), if_pos (by omega), Int.toNat_natCast, big_fn (big_at hn hR hlt) hn hce, Option.bind_some, w64_succ (by omega)]
    rw [big_cons hn hR hlt]
    cases hb : bigB c e (R.getD i []) with
    | true => exact ⟨(i : Int), Tends2.succ (Tends2.congr hstep (Tends2.pos hb (Tends2.const _))), ⟨fun _ => rfl, fun _ => by omega⟩⟩
    | false =>
      obtain ⟨r, h1, h2⟩ := big_impl hce d (i + 1) (by omega) (by omega)
      exact ⟨r, Tends2.succ (Tends2.congr hstep (Tends2.neg (by rw [hb]; decide) h1)), by rw [Bool.false_or]; exact h2⟩
end
theorem RemoveBigon_both (xs : List GCrossing) (hx : xs.length ≤ 1048576) (cs c e : Int) : ∃ ys c' e', List.length ys ≤ xs.length + 2 ∧ Tends (fun K => spec_RemoveBigon.f K xs cs c e) (ys, c', e') ∧ Tends (fun K => impl_RemoveBigon.f K xs cs c e) (ys, c', e') := by
  unfold spec_RemoveBigon.f impl_RemoveBigon.f
  rw [in_cross _ _ (by omega), in_cross _ _ (by omega), has_cross _ _ (by omega), has_cross _ _ (by omega)]
  rcases drawings xs (by omega) cs with ⟨h1, h2⟩ | ⟨hn, hs, f, t, hg, h1, h2⟩
  · exact ⟨[], 0, 1, by simp, Tends.bind h1 (Tends.neg (by decide) (Tends.const _)), Tends.bind3 h2 (Tends.neg (by decide) (Tends.const _))⟩
  by_cases hc : 0 ≤ c ∧ c < (xs.length : Int)
  rotate_left
  · rw [decide_eq_false hc]
    exact ⟨[], 0, 4, by simp, Tends.bind h1 (Tends.pos rfl (Tends.some_ (Tends.neg (by decide) (Tends.const _)))), Tends.bind3 h2 (Tends.pos rfl (Tends.some_ (Tends.neg (by decide) (Tends.const _))))⟩
  rw [decide_eq_true hc]
  by_cases he : 0 ≤ e ∧ e < (xs.length : Int)
  rotate_left
  · rw [decide_eq_false he]
    exact ⟨[], 0, 4, by simp, Tends.bind h1 (Tends.pos rfl (Tends.some_ (Tends.pos rfl (Tends.some_ (Tends.neg (by decide) (Tends.const _)))))), Tends.bind3 h2 (Tends.pos rfl (Tends.some_ (Tends.pos rfl (Tends.some_ (Tends.neg (by decide) (Tends.const _))))))⟩
  rw [decide_eq_true he]
  unfold impl_Diagram_isBigon.f
  by_cases hce : c = e
  · refine ⟨[], 0, 5, by simp, Tends.bind h1 (Tends.pos rfl (Tends.some_ (Tends.pos rfl (Tends.some_ (Tends.pos rfl (Tends.pos hce (Tends.const _))))))), Tends.bind3 h2 (Tends.pos rfl (Tends.some_ (Tends.pos rfl (Tends.some_ (Tends.pos rfl ?_)))))⟩
    exact Tends.bind (a := false) (Tends.pos hce (Tends.const _)) (Tends.neg (by decide) (Tends.const _))
  obtain ⟨ci, rfl⟩ : ∃ k : Nat, c = (k : Int) := ⟨c.toNat, by omega⟩
  obtain ⟨ei, rfl⟩ : ∃ k : Nat, e = (k : Int) := ⟨e.toNat, by omega⟩
  have hne : ci ≠ ei := by omega
  obtain ⟨R, hR, r1, r2⟩ := regions hn hs hg cs
  have hB1 : Tends (fun K => spec_l27Bigon.f K xs cs (ci : Int) (ei : Int)) (R.any (bigB ci ei)) := Tends.bind r1 (big_spec hn hR R.length 0 rfl (Nat.zero_le _)).diag
  obtain ⟨ix, i1, i2⟩ := big_impl hn hR hne R.length 0 rfl (Nat.zero_le _)
  have hB2 : Tends (fun K => slices_ContainsFunc_int64_int64_129.f K R (ci : Int) (ei : Int)) (R.any (bigB ci ei)) := by
    refine Tends.bind (a := ix) (Tends.congr (fun K => rfl) i1.diag) (Tends.congr (fun K => ?_) (Tends.const _))
    rw [List.drop_zero] at i2
    congr 1
    cases hb : R.any (bigB ci ei) with
    | true => exact decide_eq_true (i2.2 hb)
    | false => exact decide_eq_false (fun h => by rw [i2.1 h] at hb; cases hb)
  have hB3 : Tends (fun K => if (ci : Int) = (ei : Int) then some false else ((impl_Diagram_regions.f K xs cs f t).bind fun t10 => ((slices_ContainsFunc_int64_int64_129.f K t10 (ci : Int) (ei : Int)).bind fun t17 => (some t17)))) (R.any (bigB ci ei)) := Tends.neg hce (Tends.bind r2 (Tends.bind hB2 (Tends.const _)))
  cases hb : R.any (bigB ci ei) with
  | false =>
    rw [hb] at hB1 hB3
    exact ⟨[], 0, 5, by simp, Tends.bind h1 (Tends.pos rfl (Tends.some_ (Tends.pos rfl (Tends.some_ (Tends.pos rfl (Tends.neg hce (Tends.bind hB1 (Tends.neg (by decide) (Tends.const _))))))))), Tends.bind3 h2 (Tends.pos rfl (Tends.some_ (Tends.pos rfl (Tends.some_ (Tends.pos rfl (Tends.bind hB3 (Tends.neg (by decide) (Tends.const _))))))))⟩
  | true =>
    rw [hb] at hB1 hB3
    obtain ⟨o, hoo⟩ : ∃ o : List Bool, o = ((List.replicate xs.length false).set ci true).set ei true := ⟨_, rfl⟩
    have ho : o.length = xs.length := by rw [hoo]; simp
    have hcr : ∀ k, k < xs.length → Tends (fun K => slices_Contains_int64_int64.f K [(ci : Int), (ei : Int)] (k : Int)) (o.getD k false) := fun k hk => by
      have h := contains_int (cr := [(ci : Int), (ei : Int)]) (by simp) (k : Int)
      have e1 : o.getD k false = decide ((k : Int) ∈ [(ci : Int), (ei : Int)]) := by
        rw [hoo, getD_setB (by simp; omega), getD_setB (by simp; omega), getD_repB]
        by_cases a1 : k = ei
        · rw [if_pos a1, decide_eq_true (by rw [a1]; simp)]
        · rw [if_neg a1]
          by_cases a2 : k = ci
          · rw [if_pos a2, decide_eq_true (by rw [a2]; simp)]
          · rw [if_neg a2, decide_eq_false (by simp only [List.mem_cons, List.not_mem_nil, or_false]; omega)]
      rw [e1]
      exact h
    obtain ⟨ys, c', hl, hw1, hw2⟩ := removed hn hs hg o hcr ho cs
    obtain ⟨z, hz⟩ : ∃ z, z = limited ys c' := ⟨_, rfl⟩
    have hzl : z.1.length ≤ xs.length := by rw [hz]; exact limited_len hl
    rw [← hz] at hw2
    refine ⟨z.1, z.2.1, z.2.2, by omega, Tends.bind h1 (Tends.pos rfl (Tends.some_ (Tends.pos rfl (Tends.some_ (Tends.pos rfl (Tends.neg hce (Tends.bind hB1 (Tends.pos rfl (Tends.pos (by omega) (Tends.pos (by omega) (Tends.pos (by simp; omega) (Tends.pos (by simp; omega) ?_)))))))))))), Tends.bind3 h2 (Tends.pos rfl (Tends.some_ (Tends.pos rfl (Tends.some_ (Tends.pos rfl (Tends.bind hB3 (Tends.pos rfl (Tends.bind2 hw1 ?_))))))))⟩
    · simp only [Int.toNat_natCast]
      rw [← hoo]
      exact Tends.bind3 hw2 (Tends.const _)
    · rw [limited_impl, ← hz]
      exact Tends.bind3 (a := z.1) (b := z.2.1) (c := z.2.2) (Tends.const _) (Tends.const _)
end Go.Proofs.YtdfiglhdjlmakaaGreat
