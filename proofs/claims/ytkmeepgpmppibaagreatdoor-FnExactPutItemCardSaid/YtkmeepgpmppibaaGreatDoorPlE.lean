/-
  Rows of one element; the test of the signs; the reference's counting where a sign is wrong; both scans as wholes.
-/
import Derived.Test.YtkmeepgpmppibaaGreatDoorPlD
set_option linter.unusedVariables false
set_option linter.unusedSimpArgs false
set_option linter.unusedSectionVars false
namespace Go.Proofs.YtkmeepgpmppibaaGreatDoor
open Go.RowKit
theorem wH (e : Fv) {m : Nat} (hm : m ≤ 2000000) : ∀ (d i : Nat) (xs : List Fv), m - i = d → i ≤ m → (0 < i ∨ m = 0) → xs.length = m → (∀ j, j < i → xs[j]? = some e) → Ac (fun K k => Bd.l4 K k xs (i : Int)) (List.replicate m e) := by
  intro d
  induction d using Nat.strongRecOn with
  | _ d ih =>
    intro i xs hd hi h0 hl hx
    by_cases hlt : i < m
    · have hi0 : 0 < i := by omega
      have hys : ((xs.take i).drop 0).take ((xs.take xs.length).drop i).length = xs.take (min i (m - i)) := by
        rw [List.drop_zero, List.take_length, List.length_drop, List.take_take, hl, Nat.min_comm]
      have hyl : (xs.take (min i (m - i))).length = min i (m - i) := by rw [List.length_take]; omega
      have hti : (xs.take i).length = i := by rw [List.length_take]; omega
      have hov : over xs i (xs.take (min i (m - i))) = over xs i (xs.take (min i (m - i))) := rfl
      have hget : ∀ j, j < i + min i (m - i) → (over xs i (xs.take (min i (m - i))))[j]? = some e := fun j hj => by
        unfold over
        by_cases h1 : j < i
        · rw [List.append_assoc, List.getElem?_append_left (by rw [List.length_take]; omega), List.getElem?_take, if_pos h1]
          exact hx j h1
        · rw [List.append_assoc, List.getElem?_append_right (by rw [hti]; omega), hti, List.getElem?_append_left (by rw [hyl]; omega), List.getElem?_take, if_pos (by omega)]
          exact hx _ (by omega)
      have h2 := ih (m - (i + min i (m - i))) (by omega) (i + min i (m - i)) (over xs i (xs.take (min i (m - i)))) rfl (by omega) (.inl (by omega)) (by rw [Lh (by rw [hyl]; omega)]; exact hl) hget
      refine Ac.succ (Ac.congr (fun K k => ?_) h2)
      rw [Bd.l4, if_pos (by omega), if_pos (by omega), Int.toNat_natCast, hys, hyl]
      rw [H8 (by omega) (by omega)]
      rfl
    · obtain rfl : i = m := by omega
      have he : xs = List.replicate i e := by
        apply List.ext_getElem?
        intro j
        by_cases hj : j < i
        · rw [hx j hj, List.getElem?_replicate, if_pos hj]
        · rw [List.getElem?_eq_none (by omega), List.getElem?_eq_none (by simp; omega)]
      refine Ac.succ (Ac.congr (fun K k => ?_) (Ac.const _))
      rw [Bd.l4, if_neg (by omega), he]
theorem gV : ∀ n : Nat, n ≤ 10 → J4.f (IntKind.wrap .u64 1) (IntKind.wrap .u64 (2 * (n : Int))) = some (0, 2 * (n : Int))
  | 0, _ | 1, _ | 2, _ | 3, _ | 4, _ | 5, _ | 6, _ | 7, _ | 8, _ | 9, _ | 10, _ => by decide
  | n + 11, h => by omega
theorem Wx (e : Fv) {n : Nat} (hn : n ≤ 10) : Ab (fun K => Bd.f K [e] (w64 (2 * (n : Int)))) (List.replicate (2 * n) e) := by
  have hw : w64 (2 * (n : Int)) = 2 * (n : Int) := H8 (by omega) (by omega)
  have ht : (2 * (n : Int)).toNat = 2 * n := by omega
  have hl : ∃ i : Nat, (([e] : List Fv).take (List.replicate (2 * n) Jf).length).length = i ∧ i ≤ 2 * n ∧ (0 < i ∨ 2 * n = 0) ∧ i ≤ 1 := ⟨_, rfl, by simp; omega, by simp; omega, by simp; omega⟩
  obtain ⟨i, h1, h2, h3, h4⟩ := hl
  have hx : ∀ j, j < i → (over (List.replicate (2 * n) Jf) 0 (([e] : List Fv).take (List.replicate (2 * n) Jf).length))[j]? = some e := fun j hj => by
    obtain rfl : j = 0 := by omega
    unfold over
    have : ([e] : List Fv).take (List.replicate (2 * n) Jf).length = [e] := List.take_of_length_le (by simp; omega)
    rw [this]
    rfl
  have hm := wH e (m := 2 * n) (by omega) (2 * n - i) i (over (List.replicate (2 * n) Jf) 0 (([e] : List Fv).take (List.replicate (2 * n) Jf).length)) rfl h2 h3 (by rw [Lh (by rw [h1]; simp; omega)]; simp) hx
  refine Ab.congr (fun K => ?_) (Ac.Ib (Ac.succ (F := fun K k => Bd.j2 K k [e] (2 * (n : Int)) false) (Ac.congr (fun K k => ?_) hm)))
  · rw [Bd.f, hw, if_neg (by omega)]
    show Ed (J4.f (IntKind.wrap .u64 1) (IntKind.wrap .u64 (2 * (n : Int)))) _ = _
    rw [gV n hn]
    simp only [Ed, Option.bind_some]
    rw [if_neg (by omega), decide_eq_false (by omega)]
  · rw [Bd.j2, if_neg (by decide), hw, if_pos (by omega), ht, if_pos (by omega), h1]
def Nn (x : Al) : Bool := decide (x.Sign = 1 ∨ x.Sign = -1)
theorem Zg (x : Al) : Fh.f x.A x.B x.C x.D x.Sign = some (!Nn x) := by
  unfold Fh.f Nn
  by_cases h : x.Sign = 1
  · simp [h]
  · rw [if_neg h]
    by_cases h2 : x.Sign = -1 <;> simp [h, h2]
section
variable {xs : List Al} (hn : xs.length ≤ 10)
include hn
theorem Wl : ∀ (m i : Nat), xs.length - i = m → (∀ c, i ≤ c → c < xs.length → Nn (xs.getD c Au) = true) → Ac (fun K k => Ba.l1 K k xs (i : Int)) (-1)
  | 0, i, hm, h => Ac.succ (Ac.congr (fun K k => by rw [Ba.l1, if_neg (by omega)]) (Ac.const _))
  | m + 1, i, hm, h => by
    refine Ac.succ (Ac.congr (fun K k => ?_) (Wl m (i + 1) (by omega) (fun c h1 h2 => h c (by omega) h2)))
    rw [Ba.l1, if_pos (by omega), if_pos (by omega), Fe, Zg, Option.bind_some, Int.toNat_natCast, h i (by omega) (by omega), Cc (by omega)]
    rfl
theorem Xt {c : Nat} (hc : c < xs.length) (hb : Nn (xs.getD c Au) = false) : ∀ (m i : Nat), xs.length - i = m → i ≤ c → ∃ r : Int, 0 ≤ r ∧ Ac (fun K k => Ba.l1 K k xs (i : Int)) r
  | 0, i, hm, h => by omega
  | m + 1, i, hm, h => by
    cases hs : Nn (xs.getD i Au) with
    | false =>
      refine ⟨i, by omega, Ac.succ (Ac.congr (fun K k => ?_) (Ac.const _))⟩
      rw [Ba.l1, if_pos (by omega), if_pos (by omega), Fe, Zg, Option.bind_some, Int.toNat_natCast, hs]
      rfl
    | true =>
      have hne : i ≠ c := fun e => by rw [e, hb] at hs; cases hs
      obtain ⟨r, h0, hr⟩ := Xt hc hb m (i + 1) (by omega) (by omega)
      refine ⟨r, h0, Ac.succ (Ac.congr (fun K k => ?_) hr)⟩
      rw [Ba.l1, if_pos (by omega), if_pos (by omega), Fe, Zg, Option.bind_some, Int.toNat_natCast, hs, Cc (by omega)]
      rfl
theorem Xj (h : ∀ c, c < xs.length → Nn (xs.getD c Au) = true) : Ab (fun K => Cg.f K xs) false := by
  refine Ab.bind (Ab.congr (fun K => rfl) (Wl hn xs.length 0 (by omega) (fun c _ hc => h c hc)).Ib) ?_
  exact Ab.const false
theorem Z8 {c : Nat} (hc : c < xs.length) (hb : Nn (xs.getD c Au) = false) : Ab (fun K => Cg.f K xs) true := by
  obtain ⟨r, h0, hr⟩ := Xt hn hc hb xs.length 0 (by omega) (by omega)
  refine Ab.bind (Ab.congr (fun K => rfl) hr.Ib) (Ab.congr (fun K => ?_) (Ab.const true))
  rw [decide_eq_true h0]
theorem Qc {c0 : Nat} (hc0 : c0 < xs.length) (hb : Nn (xs.getD c0 Au) = false) : ∀ (m c p : Nat) (tin tout : List Bool), 5 * c + p + m = 5 * xs.length → p ≤ 4 → c < c0 → tin.length = 2 * xs.length → tout.length = 2 * xs.length →
    Ac (fun K k => Bf.l13 K k xs (c : Int) (xs.getD c Au) tin tout (p : Int)) false
  | 0, c, p, tin, tout, hm, hp, hc, hi, ho => by omega
  | m + 1, c, p, tin, tout, hm, hp, hc, hi, ho => by
    by_cases h4 : p < 4
    · have hS : ∀ K k, Bf.l13 K (k + 1) xs (c : Int) (xs.getD c Au) tin tout (p : Int) = if decide (0 ≤ Gj xs (4 * c + p) ∧ Gj xs (4 * c + p) < 2 * (xs.length : Int)) = true then (if Kn xs (4 * c + p) = true then (if 0 ≤ Gj xs (4 * c + p) ∧ Gj xs (4 * c + p) < (tin.length : Int) then (if (tin.getD (Gj xs (4 * c + p)).toNat false) = true then some false else Bf.l13 K k xs (c : Int) (xs.getD c Au) (tin.set (Gj xs (4 * c + p)).toNat true) tout ((p + 1 : Nat) : Int)) else none) else (if 0 ≤ Gj xs (4 * c + p) ∧ Gj xs (4 * c + p) < (tout.length : Int) then (if (tout.getD (Gj xs (4 * c + p)).toNat false) = true then some false else Bf.l13 K k xs (c : Int) (xs.getD c Au) tin (tout.set (Gj xs (4 * c + p)).toNat true) ((p + 1 : Nat) : Int)) else none)) else some false := fun K k => by
        rw [Bf.l13, if_pos (by omega), Y7 _ h4, ← Tj xs h4, Option.bind_some, uV _ _ (by omega), Option.bind_some, Ry _ h4, ← Ot xs h4, Option.bind_some, Cc (by omega)]
      refine Ac.succ (Ac.congr hS ?_)
      by_cases hr : 0 ≤ Gj xs (4 * c + p) ∧ Gj xs (4 * c + p) < 2 * (xs.length : Int)
      · refine Ac.pos (decide_eq_true hr) ?_
        by_cases hN : Kn xs (4 * c + p) = true
        · refine Ac.pos hN (Ac.pos (by rw [hi]; omega) ?_)
          by_cases hu : (tin.getD (Gj xs (4 * c + p)).toNat false) = true
          · exact Ac.pos hu (Ac.const _)
          · exact Ac.neg hu (Qc hc0 hb m c (p + 1) _ _ (by omega) (by omega) hc (by rw [List.length_set]; exact hi) ho)
        · refine Ac.neg hN (Ac.pos (by rw [ho]; omega) ?_)
          by_cases hu : (tout.getD (Gj xs (4 * c + p)).toNat false) = true
          · exact Ac.pos hu (Ac.const _)
          · exact Ac.neg hu (Qc hc0 hb m c (p + 1) _ _ (by omega) (by omega) hc hi (by rw [List.length_set]; exact ho))
      · exact Ac.neg (by rw [decide_eq_false hr]; decide) (Ac.const _)
    · obtain rfl : p = 4 := by omega
      refine Ac.succ (Ac.congr (G := fun K k => Bf.l1 K k xs tin tout ((c + 1 : Nat) : Int)) (fun K k => by rw [Bf.l13, if_neg (by omega), Cc (by omega)]) ?_)
      cases hs : Nn (xs.getD (c + 1) Au) with
      | true =>
        have hne : c + 1 ≠ c0 := fun e => by rw [e, hb] at hs; cases hs
        exact Nf hn (by omega) (of_decide_eq_true hs) (Qc hc0 hb m (c + 1) 0 _ _ (by omega) (by omega) (by omega) hi ho)
      | false =>
        have h2 := of_decide_eq_false hs
        refine Ac.succ (Ac.congr (G := fun K k => Bf.j12 K k xs tin tout ((c + 1 : Nat) : Int) (xs.getD (c + 1) Au) true) (fun K k => ?_) (Ac.succ (Ac.congr (fun K k => ?_) (Ac.const _))))
        · rw [Bf.l1, if_pos (by omega), if_pos (by omega), Fe, Int.toNat_natCast, if_neg (fun h => h2 (.inl h)), decide_eq_false (fun h => h2 (.inr h))]
          rfl
        · rw [Bf.j12, if_pos rfl]
theorem Sy (cs : Int) (r : Bool) (h : Ac (fun K k => Bf.l1 K k xs (List.replicate (2 * xs.length) false) (List.replicate (2 * xs.length) false) 0) r) : Ab (fun K => Bf.f K xs cs) r := by
  refine Ab.congr (fun K => ?_) h.Ib
  have hw : w64 (2 * (xs.length : Int)) = 2 * (xs.length : Int) := H8 (by omega) (by omega)
  have ht : (2 * (xs.length : Int)).toNat = 2 * xs.length := by omega
  rw [Bf.f, hw, if_pos (by omega), ht, if_pos (by omega)]
theorem Z6 (cs : Int) {c0 : Nat} (hc0 : c0 < xs.length) (hb : Nn (xs.getD c0 Au) = false) : Ab (fun K => Bf.f K xs cs) false := by
  refine Sy hn cs _ ?_
  cases hs : Nn (xs.getD 0 Au) with
  | true =>
    have hne : 0 ≠ c0 := fun e => by rw [← e, hs] at hb; cases hb
    exact Nf hn (c := 0) (by omega) (of_decide_eq_true hs) (Qc hn hc0 hb (5 * xs.length) 0 0 _ _ (by omega) (by omega) (by omega) (by simp) (by simp))
  | false =>
    have h2 := of_decide_eq_false hs
    refine Ac.succ (Ac.congr (G := fun K k => Bf.j12 K k xs (List.replicate (2 * xs.length) false) (List.replicate (2 * xs.length) false) 0 (xs.getD 0 Au) true) (fun K k => ?_) (Ac.succ (Ac.congr (fun K k => ?_) (Ac.const _))))
    · rw [Bf.l1, if_pos (by omega), if_pos (by omega), Fe]
      show (if (xs.getD 0 Au).Sign = 1 then _ else _) = _
      rw [if_neg (fun h => h2 (.inl h))]
      show Bf.j12 K k xs _ _ 0 (xs.getD 0 Au) (!(decide ((xs.getD 0 Au).Sign = (-1)))) = _
      rw [decide_eq_false (fun h => h2 (.inr h))]
      rfl
    · rw [Bf.j12, if_pos rfl]
theorem Vi : Both xs 0 (List.replicate (2 * xs.length) ⟨-1, 0⟩) (List.replicate (2 * xs.length) ⟨-1, 0⟩) (List.replicate (2 * xs.length) false) (List.replicate (2 * xs.length) false) := by
  have hs : ∀ b, Side xs b 0 (List.replicate (2 * xs.length) ⟨-1, 0⟩) (List.replicate (2 * xs.length) false) := fun b => by
    have hg : ∀ i, i < 2 * xs.length → ((List.replicate (2 * xs.length) (⟨-1, 0⟩ : Fv)).getD i Jf) = ⟨-1, 0⟩ := fun i hi => by
      rw [List.getD_eq_getElem?_getD, List.getElem?_replicate, if_pos hi]; rfl
    refine ⟨by simp, by simp, fun q' h => by omega, fun i hi hc => ?_, fun i hi => ?_⟩
    · rw [hg i hi] at hc; exact absurd hc (by decide)
    · rw [hg i hi, List.getD_eq_getElem?_getD, List.getElem?_replicate, if_pos hi]; rfl
  have hc : (List.replicate (2 * xs.length) false).count true = 0 := by rw [List.count_replicate]; rfl
  exact ⟨hs true, hs false, hc, by rw [hc]; rfl⟩
theorem scans (cs : Int) (hs : Sz xs) :
    (Ab (fun K => Bf.f K xs cs) false ∧ ∃ f t, Ab (fun K => Bg.f K xs cs) (f, t, false) ∧ ¬ Inj xs) ∨
    (Ab (fun K => Bf.f K xs cs) true ∧ ∃ f t, Ab (fun K => Bg.f K xs cs) (f, t, true) ∧ Good xs f t) := by
  have gI : ∀ r, Ac (fun K k => Bg.l1 K k xs (List.replicate (2 * xs.length) ⟨-1, 0⟩) (List.replicate (2 * xs.length) ⟨-1, 0⟩) 0) r → Ab (fun K => Bg.f K xs cs) r := fun r h => by
    refine Ab.congr (fun K => rfl) (Ab.bind (Wx ⟨-1, 0⟩ hn) (Ab.bind (Wx ⟨-1, 0⟩ hn) ?_))
    exact h.Ib
  by_cases h0 : 0 < xs.length
  · rcases scan hn hs (5 * xs.length) 0 0 _ _ _ _ (by omega) (by omega) h0 (Vi hn) with ⟨h1, f, t, h2, h3⟩ | ⟨h1, f, t, h2, h3⟩
    · exact .inl ⟨Sy hn cs _ (Nf hn (c := 0) h0 (hs 0 h0) h1), f, t, gI _ (O5 hn (c := 0) h0 h2), h3⟩
    · exact .inr ⟨Sy hn cs _ (Nf hn (c := 0) h0 (hs 0 h0) h1), f, t, gI _ (O5 hn (c := 0) h0 h2), h3⟩
  · refine .inr ⟨Sy hn cs _ (Ac.succ (Ac.congr (fun K k => ?_) (Ac.const true))), _, _, gI _ (Ac.succ (Ac.congr (fun K k => ?_) (Ac.const (_, _, true)))), Both.good hs (tin := List.replicate (2 * xs.length) false) (tout := List.replicate (2 * xs.length) false) (by rw [show 4 * xs.length = 0 by omega]; exact Vi hn)⟩
    · rw [Bf.l1, if_neg (by omega)]
    · rw [Bg.l1, if_neg (by omega)]
end
end Go.Proofs.YtkmeepgpmppibaaGreatDoor
