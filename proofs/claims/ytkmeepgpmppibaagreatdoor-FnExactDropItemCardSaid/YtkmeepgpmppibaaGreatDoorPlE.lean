/-
  Rows of one element; the test of the signs; the reference's counting where a sign is wrong; both scans as wholes.
-/
import Derived.Test.YtkmeepgpmppibaaGreatDoorPlD
set_option linter.unusedVariables false
set_option linter.unusedSimpArgs false
set_option linter.unusedSectionVars false
namespace Go.Proofs.YtkmeepgpmppibaaGreatDoor
open Go.RowKit
theorem rep_l4 (e : GEnd) {m : Nat} (hm : m ≤ 2000000) : ∀ (d i : Nat) (xs : List GEnd), m - i = d → i ≤ m → (0 < i ∨ m = 0) → xs.length = m → (∀ j, j < i → xs[j]? = some e) → Tends2 (fun K k => slices_Repeat_impl_end_impl_end.l4 K k xs (i : Int)) (List.replicate m e) := by
  intro d
  induction d using Nat.strongRecOn with
  | _ d ih =>
    intro i xs hd hi h0 hl hx
    by_cases hlt : i < m
    · have hi0 : 0 < i := by omega
      have hys : ((xs.take i).drop 0).take ((xs.take xs.length).drop i).length = xs.take (min i (m - i)) := by
        rw [List.drop_zero, List.take_length, List.length_drop, List.take_take, hl, Nat.min_comm]
      have hyl : (xs.take (min i (m - i))).length = min i (m - i) := by rw [List.length_take]; omega
      have hti : (xs.take i).length = i := by rw [List.length_take]; omega
      have hov : over xs i (xs.take (min i (m - i))) = over xs i (xs.take (min i (m - i))) := rfl
      have hget : ∀ j, j < i + min i (m - i) → (over xs i (xs.take (min i (m - i))))[j]? = some e := fun j hj => by
        unfold over
        by_cases h1 : j < i
        · rw [List.append_assoc, List.getElem?_append_left (by rw [List.length_take]; omega), List.getElem?_take, if_pos h1]
          exact hx j h1
        · rw [List.append_assoc, List.getElem?_append_right (by rw [hti]; omega), hti, List.getElem?_append_left (by rw [hyl]; omega), List.getElem?_take, if_pos (by omega)]
          exact hx _ (by omega)
      have h2 := ih (m - (i + min i (m - i))) (by omega) (i + min i (m - i)) (over xs i (xs.take (min i (m - i)))) rfl (by omega) (.inl (by omega)) (by rw [over_length (by rw [hyl]; omega)]; exact hl) hget
      refine Tends2.succ (Tends2.congr (fun K k => ?_) h2)
      rw [slices_Repeat_impl_end_impl_end.l4, if_pos (by omega), if_pos (by omega), Int.toNat_natCast, hys, hyl]
      rw [w64_id (by omega) (by omega)]
      rfl
    · obtain rfl : i = m := by omega
      have he : xs = List.replicate i e := by
        apply List.ext_getElem?
        intro j
        by_cases hj : j < i
        · rw [hx j hj, List.getElem?_replicate, if_pos hj]
        · rw [List.getElem?_eq_none (by omega), List.getElem?_eq_none (by simp; omega)]
      refine Tends2.succ (Tends2.congr (fun K k => ?_) (Tends2.const _))
      rw [slices_Repeat_impl_end_impl_end.l4, if_neg (by omega), he]
theorem mul_small : ∀ n : Nat, n ≤ 10 → math_bits_Mul.f (IntKind.wrap .u64 1) (IntKind.wrap .u64 (2 * (n : Int))) = some (0, 2 * (n : Int))
  | 0, _ | 1, _ | 2, _ | 3, _ | 4, _ | 5, _ | 6, _ | 7, _ | 8, _ | 9, _ | 10, _ => by decide
  | n + 11, h => by omega
theorem repeat_end (e : GEnd) {n : Nat} (hn : n ≤ 10) : Tends (fun K => slices_Repeat_impl_end_impl_end.f K [e] (w64 (2 * (n : Int)))) (List.replicate (2 * n) e) := by
  have hw : w64 (2 * (n : Int)) = 2 * (n : Int) := w64_id (by omega) (by omega)
  have ht : (2 * (n : Int)).toNat = 2 * n := by omega
  have hl : ∃ i : Nat, (([e] : List GEnd).take (List.replicate (2 * n) z_GEnd).length).length = i ∧ i ≤ 2 * n ∧ (0 < i ∨ 2 * n = 0) ∧ i ≤ 1 := ⟨_, rfl, by simp; omega, by simp; omega, by simp; omega⟩
  obtain ⟨i, h1, h2, h3, h4⟩ := hl
  have hx : ∀ j, j < i → (over (List.replicate (2 * n) z_GEnd) 0 (([e] : List GEnd).take (List.replicate (2 * n) z_GEnd).length))[j]? = some e := fun j hj => by
    obtain rfl : j = 0 := by omega
    unfold over
    have : ([e] : List GEnd).take (List.replicate (2 * n) z_GEnd).length = [e] := List.take_of_length_le (by simp; omega)
    rw [this]
    rfl
  have hm := rep_l4 e (m := 2 * n) (by omega) (2 * n - i) i (over (List.replicate (2 * n) z_GEnd) 0 (([e] : List GEnd).take (List.replicate (2 * n) z_GEnd).length)) rfl h2 h3 (by rw [over_length (by rw [h1]; simp; omega)]; simp) hx
  refine Tends.congr (fun K => ?_) (Tends2.diag (Tends2.succ (F := fun K k => slices_Repeat_impl_end_impl_end.j2 K k [e] (2 * (n : Int)) false) (Tends2.congr (fun K k => ?_) hm)))
  · rw [slices_Repeat_impl_end_impl_end.f, hw, if_neg (by omega)]
    show bind2 (math_bits_Mul.f (IntKind.wrap .u64 1) (IntKind.wrap .u64 (2 * (n : Int)))) _ = _
    rw [mul_small n hn]
    simp only [bind2, Option.bind_some]
    rw [if_neg (by omega), decide_eq_false (by omega)]
  · rw [slices_Repeat_impl_end_impl_end.j2, if_neg (by decide), hw, if_pos (by omega), ht, if_pos (by omega), h1]
def okSign (x : GCrossing) : Bool := decide (x.Sign = 1 ∨ x.Sign = -1)
theorem sign_fn (x : GCrossing) : impl_Diagram_drawing_fn1.f x.A x.B x.C x.D x.Sign = some (!okSign x) := by
  unfold impl_Diagram_drawing_fn1.f okSign
  by_cases h : x.Sign = 1
  · simp [h]
  · rw [if_neg h]
    by_cases h2 : x.Sign = -1 <;> simp [h, h2]
section
variable {xs : List GCrossing} (hn : xs.length ≤ 10)
include hn
theorem index_good : ∀ (m i : Nat), xs.length - i = m → (∀ c, i ≤ c → c < xs.length → okSign (xs.getD c z_GCrossing) = true) → Tends2 (fun K k => slices_IndexFunc_impl_Crossing_impl_Crossing_109.l1 K k xs (i : Int)) (-1)
  | 0, i, hm, h => Tends2.succ (Tends2.congr (fun K k => by rw [slices_IndexFunc_impl_Crossing_impl_Crossing_109.l1, if_neg (by omega)]) (Tends2.const _))
  | m + 1, i, hm, h => by
    refine Tends2.succ (Tends2.congr (fun K k => ?_) (index_good m (i + 1) (by omega) (fun c h1 h2 => h c (by omega) h2)))
    rw [slices_IndexFunc_impl_Crossing_impl_Crossing_109.l1, if_pos (by omega), if_pos (by omega), bnd_eq, sign_fn, Option.bind_some, Int.toNat_natCast, h i (by omega) (by omega), w64_succ (by omega)]
    rfl
theorem index_bad {c : Nat} (hc : c < xs.length) (hb : okSign (xs.getD c z_GCrossing) = false) : ∀ (m i : Nat), xs.length - i = m → i ≤ c → ∃ r : Int, 0 ≤ r ∧ Tends2 (fun K k => slices_IndexFunc_impl_Crossing_impl_Crossing_109.l1 K k xs (i : Int)) r
  | 0, i, hm, h => by omega
  | m + 1, i, hm, h => by
    cases hs : okSign (xs.getD i z_GCrossing) with
    | false =>
      refine ⟨i, by omega, Tends2.succ (Tends2.congr (fun K k => ?_) (Tends2.const _))⟩
      rw [slices_IndexFunc_impl_Crossing_impl_Crossing_109.l1, if_pos (by omega), if_pos (by omega), bnd_eq, sign_fn, Option.bind_some, Int.toNat_natCast, hs]
      rfl
    | true =>
      have hne : i ≠ c := fun e => by rw [e, hb] at hs; cases hs
      obtain ⟨r, h0, hr⟩ := index_bad hc hb m (i + 1) (by omega) (by omega)
      refine ⟨r, h0, Tends2.succ (Tends2.congr (fun K k => ?_) hr)⟩
      rw [slices_IndexFunc_impl_Crossing_impl_Crossing_109.l1, if_pos (by omega), if_pos (by omega), bnd_eq, sign_fn, Option.bind_some, Int.toNat_natCast, hs, w64_succ (by omega)]
      rfl
theorem contains_good (h : ∀ c, c < xs.length → okSign (xs.getD c z_GCrossing) = true) : Tends (fun K => slices_ContainsFunc_impl_Crossing_impl_Crossing_109.f K xs) false := by
  refine Tends.bind (Tends.congr (fun K => rfl) (index_good hn xs.length 0 (by omega) (fun c _ hc => h c hc)).diag) ?_
  exact Tends.const false
theorem contains_bad {c : Nat} (hc : c < xs.length) (hb : okSign (xs.getD c z_GCrossing) = false) : Tends (fun K => slices_ContainsFunc_impl_Crossing_impl_Crossing_109.f K xs) true := by
  obtain ⟨r, h0, hr⟩ := index_bad hn hc hb xs.length 0 (by omega) (by omega)
  refine Tends.bind (Tends.congr (fun K => rfl) hr.diag) (Tends.congr (fun K => ?_) (Tends.const true))
  rw [decide_eq_true h0]
theorem counts_bad {c0 : Nat} (hc0 : c0 < xs.length) (hb : okSign (xs.getD c0 z_GCrossing) = false) : ∀ (m c p : Nat) (tin tout : List Bool), 5 * c + p + m = 5 * xs.length → p ≤ 4 → c < c0 → tin.length = 2 * xs.length → tout.length = 2 * xs.length →
    Tends2 (fun K k => spec_l25Counts.l13 K k xs (c : Int) (xs.getD c z_GCrossing) tin tout (p : Int)) false
  | 0, c, p, tin, tout, hm, hp, hc, hi, ho => by omega
  | m + 1, c, p, tin, tout, hm, hp, hc, hi, ho => by
    by_cases h4 : p < 4
    · have hS : ∀ K k, spec_l25Counts.l13 K (k + 1) xs (c : Int) (xs.getD c z_GCrossing) tin tout (p : Int) = if decide (0 ≤ arcAt xs (4 * c + p) ∧ arcAt xs (4 * c + p) < 2 * (xs.length : Int)) = true then (if entAt xs (4 * c + p) = true then (if 0 ≤ arcAt xs (4 * c + p) ∧ arcAt xs (4 * c + p) < (tin.length : Int) then (if (tin.getD (arcAt xs (4 * c + p)).toNat false) = true then some false else spec_l25Counts.l13 K k xs (c : Int) (xs.getD c z_GCrossing) (tin.set (arcAt xs (4 * c + p)).toNat true) tout ((p + 1 : Nat) : Int)) else none) else (if 0 ≤ arcAt xs (4 * c + p) ∧ arcAt xs (4 * c + p) < (tout.length : Int) then (if (tout.getD (arcAt xs (4 * c + p)).toNat false) = true then some false else spec_l25Counts.l13 K k xs (c : Int) (xs.getD c z_GCrossing) tin (tout.set (arcAt xs (4 * c + p)).toNat true) ((p + 1 : Nat) : Int)) else none)) else some false := fun K k => by
        rw [spec_l25Counts.l13, if_pos (by omega), End_eq _ h4, ← arcAt_cp xs h4, Option.bind_some, in_eq _ _ (by omega), Option.bind_some, Enters_eq _ h4, ← entAt_cp xs h4, Option.bind_some, w64_succ (by omega)]
      refine Tends2.succ (Tends2.congr hS ?_)
      by_cases hr : 0 ≤ arcAt xs (4 * c + p) ∧ arcAt xs (4 * c + p) < 2 * (xs.length : Int)
      · refine Tends2.pos (decide_eq_true hr) ?_
        by_cases hN : entAt xs (4 * c + p) = true
        · refine Tends2.pos hN (Tends2.pos (by rw [hi]; omega) ?_)
          by_cases hu : (tin.getD (arcAt xs (4 * c + p)).toNat false) = true
          · exact Tends2.pos hu (Tends2.const _)
          · exact Tends2.neg hu (counts_bad hc0 hb m c (p + 1) _ _ (by omega) (by omega) hc (by rw [List.length_set]; exact hi) ho)
        · refine Tends2.neg hN (Tends2.pos (by rw [ho]; omega) ?_)
          by_cases hu : (tout.getD (arcAt xs (4 * c + p)).toNat false) = true
          · exact Tends2.pos hu (Tends2.const _)
          · exact Tends2.neg hu (counts_bad hc0 hb m c (p + 1) _ _ (by omega) (by omega) hc hi (by rw [List.length_set]; exact ho))
      · exact Tends2.neg (by rw [decide_eq_false hr]; decide) (Tends2.const _)
    · obtain rfl : p = 4 := by omega
      refine Tends2.succ (Tends2.congr (G := fun K k => spec_l25Counts.l1 K k xs tin tout ((c + 1 : Nat) : Int)) (fun K k => by rw [spec_l25Counts.l13, if_neg (by omega), w64_succ (by omega)]) ?_)
      cases hs : okSign (xs.getD (c + 1) z_GCrossing) with
      | true =>
        have hne : c + 1 ≠ c0 := fun e => by rw [e, hb] at hs; cases hs
        exact counts_enter hn (by omega) (of_decide_eq_true hs) (counts_bad hc0 hb m (c + 1) 0 _ _ (by omega) (by omega) (by omega) hi ho)
      | false =>
        have h2 := of_decide_eq_false hs
        refine Tends2.succ (Tends2.congr (G := fun K k => spec_l25Counts.j12 K k xs tin tout ((c + 1 : Nat) : Int) (xs.getD (c + 1) z_GCrossing) true) (fun K k => ?_) (Tends2.succ (Tends2.congr (fun K k => ?_) (Tends2.const _))))
        · rw [spec_l25Counts.l1, if_pos (by omega), if_pos (by omega), bnd_eq, Int.toNat_natCast, if_neg (fun h => h2 (.inl h)), decide_eq_false (fun h => h2 (.inr h))]
          rfl
        · rw [spec_l25Counts.j12, if_pos rfl]
theorem counts_f (cs : Int) (r : Bool) (h : Tends2 (fun K k => spec_l25Counts.l1 K k xs (List.replicate (2 * xs.length) false) (List.replicate (2 * xs.length) false) 0) r) : Tends (fun K => spec_l25Counts.f K xs cs) r := by
  refine Tends.congr (fun K => ?_) h.diag
  have hw : w64 (2 * (xs.length : Int)) = 2 * (xs.length : Int) := w64_id (by omega) (by omega)
  have ht : (2 * (xs.length : Int)).toNat = 2 * xs.length := by omega
  rw [spec_l25Counts.f, hw, if_pos (by omega), ht, if_pos (by omega)]
theorem counts_bad_f (cs : Int) {c0 : Nat} (hc0 : c0 < xs.length) (hb : okSign (xs.getD c0 z_GCrossing) = false) : Tends (fun K => spec_l25Counts.f K xs cs) false := by
  refine counts_f hn cs _ ?_
  cases hs : okSign (xs.getD 0 z_GCrossing) with
  | true =>
    have hne : 0 ≠ c0 := fun e => by rw [← e, hs] at hb; cases hb
    exact counts_enter hn (c := 0) (by omega) (of_decide_eq_true hs) (counts_bad hn hc0 hb (5 * xs.length) 0 0 _ _ (by omega) (by omega) (by omega) (by simp) (by simp))
  | false =>
    have h2 := of_decide_eq_false hs
    refine Tends2.succ (Tends2.congr (G := fun K k => spec_l25Counts.j12 K k xs (List.replicate (2 * xs.length) false) (List.replicate (2 * xs.length) false) 0 (xs.getD 0 z_GCrossing) true) (fun K k => ?_) (Tends2.succ (Tends2.congr (fun K k => ?_) (Tends2.const _))))
    · rw [spec_l25Counts.l1, if_pos (by omega), if_pos (by omega), bnd_eq]
      show (if (xs.getD 0 z_GCrossing).Sign = 1 then _ else _) = _
      rw [if_neg (fun h => h2 (.inl h))]
      show spec_l25Counts.j12 K k xs _ _ 0 (xs.getD 0 z_GCrossing) (!(decide ((xs.getD 0 z_GCrossing).Sign = (-1)))) = _
      rw [decide_eq_false (fun h => h2 (.inr h))]
      rfl
    · rw [spec_l25Counts.j12, if_pos rfl]
theorem both_start : Both xs 0 (List.replicate (2 * xs.length) ⟨-1, 0⟩) (List.replicate (2 * xs.length) ⟨-1, 0⟩) (List.replicate (2 * xs.length) false) (List.replicate (2 * xs.length) false) := by
  have hs : ∀ b, Side xs b 0 (List.replicate (2 * xs.length) ⟨-1, 0⟩) (List.replicate (2 * xs.length) false) := fun b => by
    have hg : ∀ i, i < 2 * xs.length → ((List.replicate (2 * xs.length) (⟨-1, 0⟩ : GEnd)).getD i z_GEnd) = ⟨-1, 0⟩ := fun i hi => by
      rw [List.getD_eq_getElem?_getD, List.getElem?_replicate, if_pos hi]; rfl
    refine ⟨by simp, by simp, fun q' h => by omega, fun i hi hc => ?_, fun i hi => ?_⟩
    · rw [hg i hi] at hc; exact absurd hc (by decide)
    · rw [hg i hi, List.getD_eq_getElem?_getD, List.getElem?_replicate, if_pos hi]; rfl
  have hc : (List.replicate (2 * xs.length) false).count true = 0 := by rw [List.count_replicate]; rfl
  exact ⟨hs true, hs false, hc, by rw [hc]; rfl⟩
theorem scans (cs : Int) (hs : Signs xs) :
    (Tends (fun K => spec_l25Counts.f K xs cs) false ∧ ∃ f t, Tends (fun K => impl_Diagram_arrows.f K xs cs) (f, t, false) ∧ ¬ Inj xs) ∨
    (Tends (fun K => spec_l25Counts.f K xs cs) true ∧ ∃ f t, Tends (fun K => impl_Diagram_arrows.f K xs cs) (f, t, true) ∧ Good xs f t) := by
  have gI : ∀ r, Tends2 (fun K k => impl_Diagram_arrows.l1 K k xs (List.replicate (2 * xs.length) ⟨-1, 0⟩) (List.replicate (2 * xs.length) ⟨-1, 0⟩) 0) r → Tends (fun K => impl_Diagram_arrows.f K xs cs) r := fun r h => by
    refine Tends.congr (fun K => rfl) (Tends.bind (repeat_end ⟨-1, 0⟩ hn) (Tends.bind (repeat_end ⟨-1, 0⟩ hn) ?_))
    exact h.diag
  by_cases h0 : 0 < xs.length
  · rcases scan hn hs (5 * xs.length) 0 0 _ _ _ _ (by omega) (by omega) h0 (both_start hn) with ⟨h1, f, t, h2, h3⟩ | ⟨h1, f, t, h2, h3⟩
    · exact .inl ⟨counts_f hn cs _ (counts_enter hn (c := 0) h0 (hs 0 h0) h1), f, t, gI _ (arrows_enter hn (c := 0) h0 h2), h3⟩
    · exact .inr ⟨counts_f hn cs _ (counts_enter hn (c := 0) h0 (hs 0 h0) h1), f, t, gI _ (arrows_enter hn (c := 0) h0 h2), h3⟩
  · refine .inr ⟨counts_f hn cs _ (Tends2.succ (Tends2.congr (fun K k => ?_) (Tends2.const true))), _, _, gI _ (Tends2.succ (Tends2.congr (fun K k => ?_) (Tends2.const (_, _, true)))), Both.good hs (tin := List.replicate (2 * xs.length) false) (tout := List.replicate (2 * xs.length) false) (by rw [show 4 * xs.length = 0 by omega]; exact both_start hn)⟩
    · rw [spec_l25Counts.l1, if_neg (by omega)]
    · rw [impl_Diagram_arrows.l1, if_neg (by omega)]
end
end Go.Proofs.YtkmeepgpmppibaaGreatDoor
