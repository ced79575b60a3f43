/-
  Lists of items and stacks of lists: sizes, copies, comparisons; both benches ask the same.
-/
import Derived.Test.YtkmeepgpmppibaaGreatDoorPlB6
set_option linter.unusedVariables false
set_option linter.unusedSimpArgs false
namespace Go.Proofs.YtkmeepgpmppibaaGreatDoor
open Go.RowKit
def Small (x : Am) : Prop := x.Name.size ≤ 2000000 ∧ (x.Ad.length ≤ 2000000 ∧ ∀ j, j < x.Ad.length → (x.Ad.getD j []).length ≤ 2000000) ∧ x.Ae.length ≤ 2000000 ∧ x.Av.length ≤ 2000000 ∧ x.Af.length ≤ 2000000 ∧ x.Ai.length ≤ 2000000 ∧ x.Ag.length ≤ 2000000
def Fits (x : Am) : Prop := x.Name.size ≤ 9223372036854775807 ∧ (x.Ad.length ≤ 9223372036854775807 ∧ ∀ j, j < x.Ad.length → (x.Ad.getD j []).length ≤ 9223372036854775807) ∧ x.Ae.length ≤ 9223372036854775807 ∧ x.Av.length ≤ 9223372036854775807 ∧ x.Af.length ≤ 9223372036854775807 ∧ x.Ai.length ≤ 9223372036854775807 ∧ x.Ag.length ≤ 9223372036854775807
abbrev szI (K : Nat) (x : Am) (left : Int) : Option Int := Kb.f K x.Name x.Kind x.Ad x.Ae x.Aj x.Ao x.Av x.Ak x.Ah x.Af x.Ai x.Ag left
theorem T9 {α : Type} {xs : List α} {z : α} {l : Nat → Nat → List α → Nat → Option (List α)} {one : Nat → Nat → Option α}
    (hl : ∀ K k out i, i < xs.length → out.length = xs.length → l K (k + 1) out i = (one K i).bind fun t => l K k (out.set i t) (i + 1)) (he : ∀ K k out, l K (k + 1) out xs.length = some out)
    (h1 : ∀ i, i < xs.length → Ab (fun K => one K i) (xs.getD i z)) :
    ∀ (m i : Nat) (out : List α), xs.length - i = m → i ≤ xs.length → out.length = xs.length → (∀ j, j < i → out[j]? = xs[j]?) → Ac (fun K k => l K k out i) xs
  | 0, i, out, hm, hi, ho, hj => by
    obtain rfl : i = xs.length := by omega
    have e : out = xs := by
      apply List.ext_getElem?
      intro j
      by_cases h : j < xs.length
      · exact hj j h
      · rw [List.getElem?_eq_none (by omega), List.getElem?_eq_none (by omega)]
    exact Ac.of fun K k => by rw [he, e]
  | m + 1, i, out, hm, hi, ho, hj => by
    have hlt : i < xs.length := by omega
    have hg : xs.getD i z = xs[i] := by rw [List.getD_eq_getElem?_getD, List.getElem?_eq_getElem hlt]; rfl
    refine Ac.step (fun K k => hl K k out i hlt ho) (Ac.bind (h1 i hlt).two (T9 hl he h1 m (i + 1) _ (by omega) (by omega) (by rw [List.length_set]; exact ho) (fun j hj' => ?_)))
    by_cases hij : i = j
    · subst hij; rw [List.getElem?_set_self (by omega), List.getElem?_eq_getElem hlt, hg]
    · rw [List.getElem?_set_ne hij]; exact hj j (by omega)
abbrev toI (K : Nat) (x : Am) : Option Am := Go.Proofs.YtkmeepgpmppibaaGreatDoor.Hf (Gy.f K x.Name x.Kind x.Ad x.Ae x.Aj x.Ao x.Av x.Ak x.Ah x.Af x.Ai x.Ag) (fun a b c d e f g h i j k l => some (⟨a, b, c, d, e, f, g, h, i, j, k, l⟩ : Am))
theorem Q6 {α0 α1 α2 α3 α4 α5 α6 α7 α8 α9 α10 α11 β γ : Type} (x : Option (α0 × α1 × α2 × α3 × α4 × α5 × α6 × α7 × α8 × α9 × α10 × α11)) (f : α0 → α1 → α2 → α3 → α4 → α5 → α6 → α7 → α8 → α9 → α10 → α11 → β) (g : β → Option γ) :
    (Go.Proofs.YtkmeepgpmppibaaGreatDoor.Hf x fun a b c d e f' g' h i j k l => some (f a b c d e f' g' h i j k l)).bind g = Go.Proofs.YtkmeepgpmppibaaGreatDoor.Hf x fun a b c d e f' g' h i j k l => g (f a b c d e f' g' h i j k l) := by cases x <;> rfl
theorem gN {x : Am} (h : Small x) : Ab (fun K => toI K x) x := by
  obtain ⟨h1, ⟨h2, h2r⟩, h3, h4, h5, h6, h7⟩ := h
  exact Ab.Hf (kI _ _ _ _ _ _ _ _ _ _ _ _ h2 h2r h3 h4 h5 h6 h7) (Ab.const _)
theorem dY {xs : List Am} (hn : xs.length ≤ 2000000) (h : ∀ i, i < xs.length → Small (xs.getD i Br)) : Ab (fun K => Fb.f K xs) xs := by
  refine Ab.congr (fun K => ?_) (T9 (z := Br) (l := fun K k out i => Fb.l1 K k xs out (i : Int)) (one := fun K i => toI K (xs.getD i Br)) (fun K k out i hi ho => by
      rw [Fb.l1, if_pos (by omega), if_pos (by omega), Int.toNat_natCast, Fe, Q6, Cc (by omega)]
      simp only [if_pos (show 0 ≤ (i : Int) ∧ (i : Int) < (out.length : Int) by omega)])
    (fun K k out => by rw [Fb.l1, if_neg (by omega)]) (fun i hi => gN (h i hi)) xs.length 0 (List.replicate xs.length Br) (by omega) (by omega) (by simp) (fun j hj => by omega)).Ib
  rw [Fb.f, if_pos (by omega), if_pos (by omega), Int.toNat_natCast]
  rfl
theorem aL {xs : List (List Am)} (hn : xs.length ≤ 2000000) (h : ∀ i, i < xs.length → (xs.getD i []).length ≤ 2000000 ∧ ∀ j, j < (xs.getD i []).length → Small ((xs.getD i []).getD j Br)) : Ab (fun K => Eu.f K xs) xs := by
  refine Ab.congr (fun K => ?_) (T9 (z := []) (l := fun K k out i => Eu.l1 K k xs out (i : Int)) (one := fun K i => Fb.f K (xs.getD i [])) (fun K k out i hi ho => by
      rw [Eu.l1, if_pos (by omega), if_pos (by omega), Int.toNat_natCast, Cc (by omega)]
      simp only [if_pos (show 0 ≤ (i : Int) ∧ (i : Int) < (out.length : Int) by omega)])
    (fun K k out => by rw [Eu.l1, if_neg (by omega)]) (fun i hi => dY (h i hi).1 (h i hi).2) xs.length 0 (List.replicate xs.length []) (by omega) (by omega) (by simp) (fun j hj => by omega)).Ib
  rw [Eu.f, if_pos (by omega), if_pos (by omega), Int.toNat_natCast]
  rfl
theorem dZ {n : Nat} {l : Nat → Nat → Nat → Option Bool} {one : Nat → Nat → Option Bool} (hl : ∀ K k i, i < n → l K (k + 1) i = (one K i).bind fun t => if t = true then l K k (i + 1) else some false) (he : ∀ K k, l K (k + 1) n = some true)
    (h1 : ∀ i, i < n → Ab (fun K => one K i) true) : Ac (fun K k => l K k 0) true := by
  have := Lx (l := l) (n := n) (P := fun _ => true) (r := true) (fun i hi _ v hv => Ac.step (fun K k => hl K k i hi) (Ac.bind (h1 i hi).two (Ac.pos rfl hv))) (fun i hi hp => by cases hp) (Ac.of he)
  rw [Rs (fun _ _ => rfl)] at this
  exact this
theorem dP {xs : List Am} (hn : xs.length ≤ 2000000) (h : ∀ i, i < xs.length → Small (xs.getD i Br)) : Ab (fun K => Fw.f K xs xs) true := by
  refine Ab.pos rfl (dZ (n := xs.length) (l := fun K k i => Fw.l1 K k xs xs (i : Int)) (fun K k i hi => by
      rw [Fw.l1, if_pos (by omega), if_pos (by omega), Int.toNat_natCast, Fe, if_pos (by omega), Fe, Cc (by omega)])
    (fun K k => by rw [Fw.l1, if_neg (by omega)]) (fun i hi => ?_)).Ib
  obtain ⟨h1, ⟨h2, h2r⟩, h3, h4, h5, h6, h7⟩ := h i hi
  exact nC _ _ _ _ _ _ _ _ _ _ _ _ h2 h2r h3 h4 h5 h6 h7
theorem bB {xs : List (List Am)} (hn : xs.length ≤ 2000000) (h : ∀ i, i < xs.length → (xs.getD i []).length ≤ 2000000 ∧ ∀ j, j < (xs.getD i []).length → Small ((xs.getD i []).getD j Br)) : Ab (fun K => E8.f K xs xs) true :=
  Ab.pos rfl (dZ (n := xs.length) (l := fun K k i => E8.l1 K k xs xs (i : Int)) (fun K k i hi => by
      rw [E8.l1, if_pos (by omega), if_pos (by omega), if_pos (by omega), Int.toNat_natCast, Cc (by omega)])
    (fun K k => by rw [E8.l1, if_neg (by omega)]) (fun i hi => dP (h i hi).1 (h i hi).2)).Ib
theorem qE {x : Am} (h : Small x) : ∃ b, Ab (fun K => Cr.f K x.Name x.Kind x.Ad x.Ae x.Aj x.Ao x.Av x.Ak x.Ah x.Af x.Ai x.Ag) b ∧
    Ab (fun K => Ig.f K x.Name x.Kind x.Ad x.Ae x.Aj x.Ao x.Av x.Ak x.Ah x.Af x.Ai x.Ag) b := by
  obtain ⟨h1, ⟨h2, h2r⟩, h3, h4, h5, h6, h7⟩ := h
  exact Yn x.Name x.Kind x.Ad x.Ae x.Aj x.Ao x.Av x.Ak x.Ah x.Af x.Ai x.Ag h1 h2 h3 h4 h5 h6 h7
theorem Xv {xs : List Am} (hn : xs.length ≤ 2000000) {l : Nat → Nat → Int → Option Bool} {one : Nat → Am → Option Bool} (B : Nat → Bool) (hB : ∀ i, i < xs.length → Ab (fun K => one K (xs.getD i Br)) (B i))
    (hl : ∀ K k (i : Nat), i < xs.length → l K (k + 1) (i : Int) = (one K (xs.getD i Br)).bind fun t => if t = true then (if 0 < (i : Int) then (if 0 ≤ w64 ((i : Int) - 1) ∧ w64 ((i : Int) - 1) < (xs.length : Int) then (bnd (xs.getD ((w64 ((i : Int) - 1)).toNat) Br) (fun e => if (slt e.Name (xs.getD i Br).Name) = true then (l K k (w64 ((i : Int) + 1))) else (some false))) else none) else (l K k (w64 ((i : Int) + 1)))) else some false)
    (he : ∀ K k, l K (k + 1) (xs.length : Int) = some (decide ((xs.length : Int) ≤ 10))) :
    Ac (fun K k => l K k 0) (J7 xs.length (fun i => B i && (decide (i = 0) || slt (xs.getD (i - 1) Br).Name (xs.getD i Br).Name)) && decide ((xs.length : Int) ≤ 10)) := by
  have prev : ∀ i : Nat, i < xs.length → 0 < i → w64 ((i : Int) - 1) = ((i - 1 : Nat) : Int) := fun i h1 h2 => by rw [H8 (by omega) (by omega)]; omega
  refine Lx (l := fun K k i => l K k (i : Int)) (n := xs.length) (fun i hi hp v hv => ?_) (fun i hi hp => ?_) (Ac.of he)
  · rw [Bool.and_eq_true] at hp
    refine Ac.step (fun K k => hl K k i hi) (Ac.bind (hB i hi).two (Ac.pos hp.1 ?_))
    rw [Cc (by omega)]
    by_cases h0 : 0 < i
    · have h2 : slt (xs.getD (i - 1) Br).Name (xs.getD i Br).Name = true := by
        have := hp.2; rw [decide_eq_false (by omega), Bool.false_or] at this; exact this
      refine Ac.pos (by omega) ?_
      rw [prev i hi h0, Int.toNat_natCast]
      exact Ac.pos (by omega) (Ac.pos h2 hv)
    · exact Ac.neg (by omega) hv
  · refine Ac.step (fun K k => hl K k i hi) (Ac.bind (hB i hi).two ?_)
    cases hb : B i with
    | false => exact Ac.neg (by decide) (Ac.const _)
    | true =>
      rw [hb, Bool.true_and, Bool.or_eq_false_iff] at hp
      have h0 : 0 < i := by have := of_decide_eq_false hp.1; omega
      refine Ac.pos rfl (Ac.pos (by omega) ?_)
      rw [prev i hi h0, Int.toNat_natCast]
      exact Ac.pos (by omega) (Ac.neg (by rw [hp.2]; decide) (Ac.const _))
theorem Td {n : Nat} {Q : Nat → Bool → Prop} (h : ∀ i, i < n → ∃ b, Q i b) : ∃ B : Nat → Bool, ∀ i, i < n → Q i (B i) :=
  ⟨fun i => if hi : i < n then Classical.choose (h i hi) else false, fun i hi => by simp only [dif_pos hi]; exact Classical.choose_spec (h i hi)⟩
theorem Yp {xs : List Am} (hn : xs.length ≤ 2000000) (h : ∀ i, i < xs.length → Small (xs.getD i Br)) : ∃ b, Ab (fun K => Ec.f K xs) b ∧ Ab (fun K => Ee.f K xs) b ∧ (b = true → ∀ i, 0 < i → i < xs.length → slt (xs.getD (i - 1) Br).Name (xs.getD i Br).Name = true) := by
  obtain ⟨B, hB⟩ := Td fun i hi => qE (h i hi)
  refine ⟨_, (Xv hn (l := fun K k i => Ec.l1 K k xs i) (one := fun K x => Cr.f K x.Name x.Kind x.Ad x.Ae x.Aj x.Ao x.Av x.Ak x.Ah x.Af x.Ai x.Ag) B (fun i hi => (hB i hi).1)
      (fun K k i hi => by rw [Ec.l1, if_pos (by omega), if_pos (by omega), Int.toNat_natCast, Fe]) (fun K k => by rw [Ec.l1, if_neg (by omega)])).Ib,
    (Xv hn (l := fun K k i => Ee.l1 K k xs i) (one := fun K x => Ig.f K x.Name x.Kind x.Ad x.Ae x.Aj x.Ao x.Av x.Ak x.Ah x.Af x.Ai x.Ag) B (fun i hi => (hB i hi).2)
      (fun K k i hi => by rw [Ee.l1, if_pos (by omega), if_pos (by omega), Int.toNat_natCast, Fe]) (fun K k => by rw [Ee.l1, if_neg (by omega)])).Ib, fun hb i h0 hi => ?_⟩
  rw [Bool.and_eq_true] at hb
  have h1 := Qt hb.1 hi
  rw [Bool.and_eq_true, decide_eq_false (by omega), Bool.false_or] at h1
  exact h1.2
theorem Wm {L : List (List Am)} (hn : L.length ≤ 2000000) (P : Nat → Bool) (hP : ∀ i, i < L.length → Ab (fun K => Ee.f K (L.getD i [])) (P i)) : Ab (fun K => Bo.f K L) (!J7 L.length P) := by
  have fn : ∀ i, i < L.length → Ab (fun K => Jg.f K (L.getD i [])) (!P i) := fun i hi => Ab.bind (hP i hi) (Ab.const _)
  obtain ⟨v, t, e⟩ := Pn (l := fun K k i => Az.l1 K k L (i : Int)) (n := L.length) (P := P) (fun i hi hp v hv => by
      refine Ac.step (fun K k => ?_) (Ac.bind (G := fun K k b => if b = true then some (i : Int) else Az.l1 K k L (w64 ((i : Int) + 1))) (fn i hi).two (Ac.neg (by rw [hp]; decide) (by rw [Cc (by omega)]; exact hv)))
      rw [Az.l1, if_pos (by omega), if_pos (by omega), Int.toNat_natCast])
    (fun i hi hp => by
      refine Ac.step (fun K k => ?_) (Ac.bind (G := fun K k b => if b = true then some (i : Int) else Az.l1 K k L (w64 ((i : Int) + 1))) (fn i hi).two (Ac.pos (by rw [hp]; rfl) (Ac.const _)))
      rw [Az.l1, if_pos (by omega), if_pos (by omega), Int.toNat_natCast])
    (Ac.of fun K k => by rw [Az.l1, if_neg (by omega)])
  rw [← e]
  exact Ab.bind (F := fun K => Az.f K L) t.Ib (Ab.const _)
theorem dF {L : List (List Am)} (hn : L.length ≤ 2000000) (P : Nat → Bool) (hP : ∀ i, i < L.length → Ab (fun K => Ec.f K (L.getD i [])) (P i)) : Ab (fun K => Dp.f K L) (J7 L.length P && decide ((L.length : Int) ≤ 6)) := by
  refine (Lx (l := fun K k i => Dp.l1 K k L (i : Int)) (n := L.length) (P := P) (fun i hi hp v hv => ?_) (fun i hi hp => ?_) (Ac.of fun K k => by rw [Dp.l1, if_neg (by omega)])).Ib
  · refine Ac.step (fun K k => ?_) (Ac.bind (G := fun K k b => if b = true then Dp.l1 K k L (w64 ((i : Int) + 1)) else some false) (hP i hi).two (Ac.pos hp (by rw [Cc (by omega)]; exact hv)))
    rw [Dp.l1, if_pos (by omega), if_pos (by omega), Int.toNat_natCast]
  · refine Ac.step (fun K k => ?_) (Ac.bind (G := fun K k b => if b = true then Dp.l1 K k L (w64 ((i : Int) + 1)) else some false) (hP i hi).two (Ac.neg (by rw [hp]; decide) (Ac.const _)))
    rw [Dp.l1, if_pos (by omega), if_pos (by omega), Int.toNat_natCast]
def Jb (L : List (List Am)) : Prop := L.length ≤ 2000000 ∧ ∀ i, i < L.length → (L.getD i []).length ≤ 2000000 ∧ ∀ j, j < (L.getD i []).length → Small ((L.getD i []).getD j Br)
theorem Wp {L : List (List Am)} (h : Jb L) : ∃ B : Bool, Ab (fun K => Dp.f K L) (B && decide ((L.length : Int) ≤ 6)) ∧ Ab (fun K => Bo.f K L) (!B) := by
  obtain ⟨P, hP⟩ := Td (Q := fun i b => Ab (fun K => Ec.f K (L.getD i [])) b ∧ Ab (fun K => Ee.f K (L.getD i [])) b) fun i hi => (Yp (h.2 i hi).1 (h.2 i hi).2).imp fun b hb => ⟨hb.1, hb.2.1⟩
  exact ⟨_, dF h.1 P (fun i hi => (hP i hi).1), Wm h.1 P (fun i hi => (hP i hi).2)⟩
theorem W9 {I : List Am} {U R : List (List Am)} {bi bu br : Bool} (i0 : Ab (fun K => Ee.f K I) bi) (i1 : Ab (fun K => Bo.f K U) (!bu)) (i2 : Ab (fun K => Bo.f K R) (!br)) :
    Ab (fun K => Ep.f K I U R) (bi && ((bu && decide ((U.length : Int) ≤ 6)) && (br && decide ((R.length : Int) ≤ 6)))) := by
  have c0 : Ab (fun K => Bo.f K [I]) (!bi) := by
    have := Wm (L := [I]) (by simp) (fun _ => bi) (fun i hi => by
      obtain rfl : i = 0 := by simp at hi; exact hi
      exact i0)
    have e : J7 [I].length (fun _ => bi) = bi := by show (bi && true) = bi; rw [Bool.and_true]
    rw [e] at this; exact this
  have step : ∀ (x : Nat) (L : List (List Am)), x < 3 → ([([I] : List (List Am)), U, R] : List (List (List Am))).getD x [] = L → ∀ c, Ab (fun K => Bo.f K L) (!c) → ∀ r, Ac (fun K k => Ep.l1 K k I U R ((x + 1 : Nat) : Int)) r → Ac (fun K k => Ep.l1 K k I U R (x : Int)) ((c && decide ((L.length : Int) ≤ 6)) && r) := fun x L hx hL c hc r hr => by
    have e : ∀ K k, Ep.l1 K (k + 1) I U R (x : Int) = if 6 < (L.length : Int) then some false else (Bo.f K L).bind fun t => if t = true then some false else Ep.l1 K k I U R ((x + 1 : Nat) : Int) := fun K k => by
      rw [Ep.l1, if_pos (by omega), if_pos (by show 0 ≤ (x : Int) ∧ (x : Int) < 3; omega), Int.toNat_natCast, hL, Cc (by omega)]
    refine Ac.step e ?_
    by_cases h6 : 6 < (L.length : Int)
    · rw [decide_eq_false (by omega), Bool.and_false, Bool.false_and]; exact Ac.pos h6 (Ac.const _)
    · rw [decide_eq_true (by omega), Bool.and_true]
      refine Ac.neg h6 (Ac.bind hc.two ?_)
      cases c with
      | true => exact Ac.neg (by decide) hr
      | false => exact Ac.pos rfl (Ac.const _)
  have hi := step 0 [I] (by decide) rfl bi c0 _ (step 1 U (by decide) rfl bu i1 _ (step 2 R (by decide) rfl br i2 true (Ac.of fun K k => by rw [Ep.l1, if_neg (by decide)])))
  have hd := hi.Ib
  have e1 : (bi && decide ((([I] : List (List Am)).length : Int) ≤ 6)) = bi := by rw [show decide ((([I] : List (List Am)).length : Int) ≤ 6) = true from rfl, Bool.and_true]
  rw [e1, Bool.and_true] at hd
  exact hd
theorem cO {I : List Am} {U R : List (List Am)} (hI : I.length ≤ 2000000) (hIs : ∀ i, i < I.length → Small (I.getD i Br)) (hU : Jb U) (hR : Jb R) : ∃ b, Ab (fun K => Il.f K I U R) b ∧ Ab (fun K => Ep.f K I U R) b ∧ Ab (fun K => Ep.f K I R U) b ∧ (b = true → ((U.length : Int) ≤ 6 ∧ (R.length : Int) ≤ 6) ∧ ∀ i, 0 < i → i < I.length → slt (I.getD (i - 1) Br).Name (I.getD i Br).Name = true) := by
  obtain ⟨bi, s0, i0, o0⟩ := Yp hI hIs
  obtain ⟨bu, s1, i1⟩ := Wp hU
  obtain ⟨br, s2, i2⟩ := Wp hR
  have e2 := W9 i0 i2 i1
  rw [Bool.and_comm (br && _)] at e2
  refine ⟨_, ?_, W9 i0 i1 i2, e2, fun h => ?_⟩
  · unfold Il.f
    refine Ab.bind s0 ?_
    cases bi with
    | false => exact Ab.neg (by decide) (Ab.const _)
    | true =>
      refine Ab.pos rfl (Ab.bind s1 ?_)
      rw [Bool.true_and]
      cases hb : (bu && decide ((U.length : Int) ≤ 6)) with
      | false => exact Ab.neg (by decide) (Ab.const _)
      | true =>
        refine Ab.pos rfl (Ab.bind s2 ?_)
        rw [Bool.true_and]; exact Ab.const _
  · simp only [Bool.and_eq_true, decide_eq_true_eq] at h
    obtain ⟨h1, h2, h3⟩ := h
    exact ⟨⟨h2.2, h3.2⟩, o0 h1⟩
end Go.Proofs.YtkmeepgpmppibaaGreatDoor
