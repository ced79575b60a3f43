/-
  Lists of items and stacks of lists: sizes, copies, comparisons; both benches ask the same.
-/
import Derived.Test.YtkmeepgpmppibaaGreatDoorPlB6
set_option linter.unusedVariables false
set_option linter.unusedSimpArgs false
namespace Go.Proofs.YtkmeepgpmppibaaGreatDoor
open Go.RowKit
def Small (x : GItem) : Prop := x.Name.size ≤ 2000000 ∧ (x.Triangulation_Tets.length ≤ 2000000 ∧ ∀ j, j < x.Triangulation_Tets.length → (x.Triangulation_Tets.getD j []).length ≤ 2000000) ∧ x.Diagram_Crossings.length ≤ 2000000 ∧ x.Braid_Word.length ≤ 2000000 ∧ x.Certificate_Moves.length ≤ 2000000 ∧ x.Certificate_Tets.length ≤ 2000000 ∧ x.Certificate_Perms.length ≤ 2000000
def Fits (x : GItem) : Prop := x.Name.size ≤ 9223372036854775807 ∧ (x.Triangulation_Tets.length ≤ 9223372036854775807 ∧ ∀ j, j < x.Triangulation_Tets.length → (x.Triangulation_Tets.getD j []).length ≤ 9223372036854775807) ∧ x.Diagram_Crossings.length ≤ 9223372036854775807 ∧ x.Braid_Word.length ≤ 9223372036854775807 ∧ x.Certificate_Moves.length ≤ 9223372036854775807 ∧ x.Certificate_Tets.length ≤ 9223372036854775807 ∧ x.Certificate_Perms.length ≤ 9223372036854775807
abbrev szI (K : Nat) (x : GItem) (left : Int) : Option Int := laws_szItem.f K x.Name x.Kind x.Triangulation_Tets x.Diagram_Crossings x.Diagram_Circles x.Braid_Strands x.Braid_Word x.Certificate_Name x.Certificate_Trait x.Certificate_Moves x.Certificate_Tets x.Certificate_Perms left
theorem copy_loop {α : Type} {xs : List α} {z : α} {l : Nat → Nat → List α → Nat → Option (List α)} {one : Nat → Nat → Option α}
    (hl : ∀ K k out i, i < xs.length → out.length = xs.length → l K (k + 1) out i = (one K i).bind fun t => l K k (out.set i t) (i + 1)) (he : ∀ K k out, l K (k + 1) out xs.length = some out)
    (h1 : ∀ i, i < xs.length → Tends (fun K => one K i) (xs.getD i z)) :
    ∀ (m i : Nat) (out : List α), xs.length - i = m → i ≤ xs.length → out.length = xs.length → (∀ j, j < i → out[j]? = xs[j]?) → Tends2 (fun K k => l K k out i) xs
  | 0, i, out, hm, hi, ho, hj => by
    obtain rfl : i = xs.length := by omega
    have e : out = xs := by
      apply List.ext_getElem?
      intro j
      by_cases h : j < xs.length
      · exact hj j h
      · rw [List.getElem?_eq_none (by omega), List.getElem?_eq_none (by omega)]
    exact Tends2.of fun K k => by rw [he, e]
  | m + 1, i, out, hm, hi, ho, hj => by
    have hlt : i < xs.length := by omega
    have hg : xs.getD i z = xs[i] := by rw [List.getD_eq_getElem?_getD, List.getElem?_eq_getElem hlt]; rfl
    refine Tends2.step (fun K k => hl K k out i hlt ho) (Tends2.bind (h1 i hlt).two (copy_loop hl he h1 m (i + 1) _ (by omega) (by omega) (by rw [List.length_set]; exact ho) (fun j hj' => ?_)))
    by_cases hij : i = j
    · subst hij; rw [List.getElem?_set_self (by omega), List.getElem?_eq_getElem hlt, hg]
    · rw [List.getElem?_set_ne hij]; exact hj j (by omega)
abbrev toI (K : Nat) (x : GItem) : Option GItem := Go.Proofs.YtkmeepgpmppibaaGreatDoor.bind12 (laws_toItem.f K x.Name x.Kind x.Triangulation_Tets x.Diagram_Crossings x.Diagram_Circles x.Braid_Strands x.Braid_Word x.Certificate_Name x.Certificate_Trait x.Certificate_Moves x.Certificate_Tets x.Certificate_Perms) (fun a b c d e f g h i j k l => some (⟨a, b, c, d, e, f, g, h, i, j, k, l⟩ : GItem))
theorem bind12_bind {α0 α1 α2 α3 α4 α5 α6 α7 α8 α9 α10 α11 β γ : Type} (x : Option (α0 × α1 × α2 × α3 × α4 × α5 × α6 × α7 × α8 × α9 × α10 × α11)) (f : α0 → α1 → α2 → α3 → α4 → α5 → α6 → α7 → α8 → α9 → α10 → α11 → β) (g : β → Option γ) :
    (Go.Proofs.YtkmeepgpmppibaaGreatDoor.bind12 x fun a b c d e f' g' h i j k l => some (f a b c d e f' g' h i j k l)).bind g = Go.Proofs.YtkmeepgpmppibaaGreatDoor.bind12 x fun a b c d e f' g' h i j k l => g (f a b c d e f' g' h i j k l) := by cases x <;> rfl
theorem toI_small {x : GItem} (h : Small x) : Tends (fun K => toI K x) x := by
  obtain ⟨h1, ⟨h2, h2r⟩, h3, h4, h5, h6, h7⟩ := h
  exact Tends.bind12 (toItem _ _ _ _ _ _ _ _ _ _ _ _ h2 h2r h3 h4 h5 h6 h7) (Tends.const _)
theorem toItemS {xs : List GItem} (hn : xs.length ≤ 2000000) (h : ∀ i, i < xs.length → Small (xs.getD i z_GItem)) : Tends (fun K => laws_toItemS.f K xs) xs := by
  refine Tends.congr (fun K => ?_) (copy_loop (z := z_GItem) (l := fun K k out i => laws_toItemS.l1 K k xs out (i : Int)) (one := fun K i => toI K (xs.getD i z_GItem)) (fun K k out i hi ho => by
      rw [laws_toItemS.l1, if_pos (by omega), if_pos (by omega), Int.toNat_natCast, bnd_eq, bind12_bind, w64_succ (by omega)]
      simp only [if_pos (show 0 ≤ (i : Int) ∧ (i : Int) < (out.length : Int) by omega)])
    (fun K k out => by rw [laws_toItemS.l1, if_neg (by omega)]) (fun i hi => toI_small (h i hi)) xs.length 0 (List.replicate xs.length z_GItem) (by omega) (by omega) (by simp) (fun j hj => by omega)).diag
  rw [laws_toItemS.f, if_pos (by omega), if_pos (by omega), Int.toNat_natCast]
  rfl
theorem toItemSS {xs : List (List GItem)} (hn : xs.length ≤ 2000000) (h : ∀ i, i < xs.length → (xs.getD i []).length ≤ 2000000 ∧ ∀ j, j < (xs.getD i []).length → Small ((xs.getD i []).getD j z_GItem)) : Tends (fun K => laws_toItemSS.f K xs) xs := by
  refine Tends.congr (fun K => ?_) (copy_loop (z := []) (l := fun K k out i => laws_toItemSS.l1 K k xs out (i : Int)) (one := fun K i => laws_toItemS.f K (xs.getD i [])) (fun K k out i hi ho => by
      rw [laws_toItemSS.l1, if_pos (by omega), if_pos (by omega), Int.toNat_natCast, w64_succ (by omega)]
      simp only [if_pos (show 0 ≤ (i : Int) ∧ (i : Int) < (out.length : Int) by omega)])
    (fun K k out => by rw [laws_toItemSS.l1, if_neg (by omega)]) (fun i hi => toItemS (h i hi).1 (h i hi).2) xs.length 0 (List.replicate xs.length []) (by omega) (by omega) (by simp) (fun j hj => by omega)).diag
  rw [laws_toItemSS.f, if_pos (by omega), if_pos (by omega), Int.toNat_natCast]
  rfl
theorem eq_loop {n : Nat} {l : Nat → Nat → Nat → Option Bool} {one : Nat → Nat → Option Bool} (hl : ∀ K k i, i < n → l K (k + 1) i = (one K i).bind fun t => if t = true then l K k (i + 1) else some false) (he : ∀ K k, l K (k + 1) n = some true)
    (h1 : ∀ i, i < n → Tends (fun K => one K i) true) : Tends2 (fun K k => l K k 0) true := by
  have := scan_bool (l := l) (n := n) (P := fun _ => true) (r := true) (fun i hi _ v hv => Tends2.step (fun K k => hl K k i hi) (Tends2.bind (h1 i hi).two (Tends2.pos rfl hv))) (fun i hi hp => by cases hp) (Tends2.of he)
  rw [allB_true (fun _ _ => rfl)] at this
  exact this
theorem eqItemS {xs : List GItem} (hn : xs.length ≤ 2000000) (h : ∀ i, i < xs.length → Small (xs.getD i z_GItem)) : Tends (fun K => laws_eqItemS.f K xs xs) true := by
  refine Tends.pos rfl (eq_loop (n := xs.length) (l := fun K k i => laws_eqItemS.l1 K k xs xs (i : Int)) (fun K k i hi => by
      rw [laws_eqItemS.l1, if_pos (by omega), if_pos (by omega), Int.toNat_natCast, bnd_eq, if_pos (by omega), bnd_eq, w64_succ (by omega)])
    (fun K k => by rw [laws_eqItemS.l1, if_neg (by omega)]) (fun i hi => ?_)).diag
  obtain ⟨h1, ⟨h2, h2r⟩, h3, h4, h5, h6, h7⟩ := h i hi
  exact eqItem _ _ _ _ _ _ _ _ _ _ _ _ h2 h2r h3 h4 h5 h6 h7
theorem eqItemSS {xs : List (List GItem)} (hn : xs.length ≤ 2000000) (h : ∀ i, i < xs.length → (xs.getD i []).length ≤ 2000000 ∧ ∀ j, j < (xs.getD i []).length → Small ((xs.getD i []).getD j z_GItem)) : Tends (fun K => laws_eqItemSS.f K xs xs) true :=
  Tends.pos rfl (eq_loop (n := xs.length) (l := fun K k i => laws_eqItemSS.l1 K k xs xs (i : Int)) (fun K k i hi => by
      rw [laws_eqItemSS.l1, if_pos (by omega), if_pos (by omega), if_pos (by omega), Int.toNat_natCast, w64_succ (by omega)])
    (fun K k => by rw [laws_eqItemSS.l1, if_neg (by omega)]) (fun i hi => eqItemS (h i hi).1 (h i hi).2)).diag
theorem item_is {x : GItem} (h : Small x) : ∃ b, Tends (fun K => spec_ValidItem.f K x.Name x.Kind x.Triangulation_Tets x.Diagram_Crossings x.Diagram_Circles x.Braid_Strands x.Braid_Word x.Certificate_Name x.Certificate_Trait x.Certificate_Moves x.Certificate_Tets x.Certificate_Perms) b ∧
    Tends (fun K => impl_isItem.f K x.Name x.Kind x.Triangulation_Tets x.Diagram_Crossings x.Diagram_Circles x.Braid_Strands x.Braid_Word x.Certificate_Name x.Certificate_Trait x.Certificate_Moves x.Certificate_Tets x.Certificate_Perms) b := by
  obtain ⟨h1, ⟨h2, h2r⟩, h3, h4, h5, h6, h7⟩ := h
  exact item_both x.Name x.Kind x.Triangulation_Tets x.Diagram_Crossings x.Diagram_Circles x.Braid_Strands x.Braid_Word x.Certificate_Name x.Certificate_Trait x.Certificate_Moves x.Certificate_Tets x.Certificate_Perms h1 h2 h3 h4 h5 h6 h7
theorem list_scan {xs : List GItem} (hn : xs.length ≤ 2000000) {l : Nat → Nat → Int → Option Bool} {one : Nat → GItem → Option Bool} (B : Nat → Bool) (hB : ∀ i, i < xs.length → Tends (fun K => one K (xs.getD i z_GItem)) (B i))
    (hl : ∀ K k (i : Nat), i < xs.length → l K (k + 1) (i : Int) = (one K (xs.getD i z_GItem)).bind fun t => if t = true then (if 0 < (i : Int) then (if 0 ≤ w64 ((i : Int) - 1) ∧ w64 ((i : Int) - 1) < (xs.length : Int) then (bnd (xs.getD ((w64 ((i : Int) - 1)).toNat) z_GItem) (fun e => if (slt e.Name (xs.getD i z_GItem).Name) = true then (l K k (w64 ((i : Int) + 1))) else (some false))) else none) else (l K k (w64 ((i : Int) + 1)))) else some false)
    (he : ∀ K k, l K (k + 1) (xs.length : Int) = some (decide ((xs.length : Int) ≤ 10))) :
    Tends2 (fun K k => l K k 0) (allB xs.length (fun i => B i && (decide (i = 0) || slt (xs.getD (i - 1) z_GItem).Name (xs.getD i z_GItem).Name)) && decide ((xs.length : Int) ≤ 10)) := by
  have prev : ∀ i : Nat, i < xs.length → 0 < i → w64 ((i : Int) - 1) = ((i - 1 : Nat) : Int) := fun i h1 h2 => by rw [w64_id (by omega) (by omega)]; omega
  refine scan_bool (l := fun K k i => l K k (i : Int)) (n := xs.length) (fun i hi hp v hv => ?_) (fun i hi hp => ?_) (Tends2.of he)
  · rw [Bool.and_eq_true] at hp
    refine Tends2.step (fun K k => hl K k i hi) (Tends2.bind (hB i hi).two (Tends2.pos hp.1 ?_))
    rw [w64_succ (by omega)]
    by_cases h0 : 0 < i
    · have h2 : slt (xs.getD (i - 1) z_GItem).Name (xs.getD i z_GItem).Name = true := by
        have := hp.2; rw [decide_eq_false (by omega), Bool.false_or] at this; exact this
      refine Tends2.pos (by omega) ?_
      rw [prev i hi h0, Int.toNat_natCast]
      exact Tends2.pos (by omega) (Tends2.pos h2 hv)
    · exact Tends2.neg (by omega) hv
  · refine Tends2.step (fun K k => hl K k i hi) (Tends2.bind (hB i hi).two ?_)
    cases hb : B i with
    | false => exact Tends2.neg (by decide) (Tends2.const _)
    | true =>
      rw [hb, Bool.true_and, Bool.or_eq_false_iff] at hp
      have h0 : 0 < i := by have := of_decide_eq_false hp.1; omega
      refine Tends2.pos rfl (Tends2.pos (by omega) ?_)
      rw [prev i hi h0, Int.toNat_natCast]
      exact Tends2.pos (by omega) (Tends2.neg (by rw [hp.2]; decide) (Tends2.const _))
theorem choose_below {n : Nat} {Q : Nat → Bool → Prop} (h : ∀ i, i < n → ∃ b, Q i b) : ∃ B : Nat → Bool, ∀ i, i < n → Q i (B i) :=
  ⟨fun i => if hi : i < n then Classical.choose (h i hi) else false, fun i hi => by simp only [dif_pos hi]; exact Classical.choose_spec (h i hi)⟩
theorem list_both {xs : List GItem} (hn : xs.length ≤ 2000000) (h : ∀ i, i < xs.length → Small (xs.getD i z_GItem)) : ∃ b, Tends (fun K => spec_l33List.f K xs) b ∧ Tends (fun K => impl_areItems.f K xs) b ∧ (b = true → ∀ i, 0 < i → i < xs.length → slt (xs.getD (i - 1) z_GItem).Name (xs.getD i z_GItem).Name = true) := by
  obtain ⟨B, hB⟩ := choose_below fun i hi => item_is (h i hi)
  refine ⟨_, (list_scan hn (l := fun K k i => spec_l33List.l1 K k xs i) (one := fun K x => spec_ValidItem.f K x.Name x.Kind x.Triangulation_Tets x.Diagram_Crossings x.Diagram_Circles x.Braid_Strands x.Braid_Word x.Certificate_Name x.Certificate_Trait x.Certificate_Moves x.Certificate_Tets x.Certificate_Perms) B (fun i hi => (hB i hi).1)
      (fun K k i hi => by rw [spec_l33List.l1, if_pos (by omega), if_pos (by omega), Int.toNat_natCast, bnd_eq]) (fun K k => by rw [spec_l33List.l1, if_neg (by omega)])).diag,
    (list_scan hn (l := fun K k i => impl_areItems.l1 K k xs i) (one := fun K x => impl_isItem.f K x.Name x.Kind x.Triangulation_Tets x.Diagram_Crossings x.Diagram_Circles x.Braid_Strands x.Braid_Word x.Certificate_Name x.Certificate_Trait x.Certificate_Moves x.Certificate_Tets x.Certificate_Perms) B (fun i hi => (hB i hi).2)
      (fun K k i hi => by rw [impl_areItems.l1, if_pos (by omega), if_pos (by omega), Int.toNat_natCast, bnd_eq]) (fun K k => by rw [impl_areItems.l1, if_neg (by omega)])).diag, fun hb i h0 hi => ?_⟩
  rw [Bool.and_eq_true] at hb
  have h1 := allB_get hb.1 hi
  rw [Bool.and_eq_true, decide_eq_false (by omega), Bool.false_or] at h1
  exact h1.2
theorem stack_impl {L : List (List GItem)} (hn : L.length ≤ 2000000) (P : Nat → Bool) (hP : ∀ i, i < L.length → Tends (fun K => impl_areItems.f K (L.getD i [])) (P i)) : Tends (fun K => slices_ContainsFunc_impl_Item_impl_Item_isBench_fn1.f K L) (!allB L.length P) := by
  have fn : ∀ i, i < L.length → Tends (fun K => impl_isBench_fn1.f K (L.getD i [])) (!P i) := fun i hi => Tends.bind (hP i hi) (Tends.const _)
  obtain ⟨v, t, e⟩ := scan_idx (l := fun K k i => slices_IndexFunc_impl_Item_impl_Item_isBench_fn1.l1 K k L (i : Int)) (n := L.length) (P := P) (fun i hi hp v hv => by
      refine Tends2.step (fun K k => ?_) (Tends2.bind (G := fun K k b => if b = true then some (i : Int) else slices_IndexFunc_impl_Item_impl_Item_isBench_fn1.l1 K k L (w64 ((i : Int) + 1))) (fn i hi).two (Tends2.neg (by rw [hp]; decide) (by rw [w64_succ (by omega)]; exact hv)))
      rw [slices_IndexFunc_impl_Item_impl_Item_isBench_fn1.l1, if_pos (by omega), if_pos (by omega), Int.toNat_natCast])
    (fun i hi hp => by
      refine Tends2.step (fun K k => ?_) (Tends2.bind (G := fun K k b => if b = true then some (i : Int) else slices_IndexFunc_impl_Item_impl_Item_isBench_fn1.l1 K k L (w64 ((i : Int) + 1))) (fn i hi).two (Tends2.pos (by rw [hp]; rfl) (Tends2.const _)))
      rw [slices_IndexFunc_impl_Item_impl_Item_isBench_fn1.l1, if_pos (by omega), if_pos (by omega), Int.toNat_natCast])
    (Tends2.of fun K k => by rw [slices_IndexFunc_impl_Item_impl_Item_isBench_fn1.l1, if_neg (by omega)])
  rw [← e]
  exact Tends.bind (F := fun K => slices_IndexFunc_impl_Item_impl_Item_isBench_fn1.f K L) t.diag (Tends.const _)
theorem stack_spec {L : List (List GItem)} (hn : L.length ≤ 2000000) (P : Nat → Bool) (hP : ∀ i, i < L.length → Tends (fun K => spec_l33List.f K (L.getD i [])) (P i)) : Tends (fun K => spec_l33Stack.f K L) (allB L.length P && decide ((L.length : Int) ≤ 6)) := by
  refine (scan_bool (l := fun K k i => spec_l33Stack.l1 K k L (i : Int)) (n := L.length) (P := P) (fun i hi hp v hv => ?_) (fun i hi hp => ?_) (Tends2.of fun K k => by rw [spec_l33Stack.l1, if_neg (by omega)])).diag
  · refine Tends2.step (fun K k => ?_) (Tends2.bind (G := fun K k b => if b = true then spec_l33Stack.l1 K k L (w64 ((i : Int) + 1)) else some false) (hP i hi).two (Tends2.pos hp (by rw [w64_succ (by omega)]; exact hv)))
    rw [spec_l33Stack.l1, if_pos (by omega), if_pos (by omega), Int.toNat_natCast]
  · refine Tends2.step (fun K k => ?_) (Tends2.bind (G := fun K k b => if b = true then spec_l33Stack.l1 K k L (w64 ((i : Int) + 1)) else some false) (hP i hi).two (Tends2.neg (by rw [hp]; decide) (Tends2.const _)))
    rw [spec_l33Stack.l1, if_pos (by omega), if_pos (by omega), Int.toNat_natCast]
def StackS (L : List (List GItem)) : Prop := L.length ≤ 2000000 ∧ ∀ i, i < L.length → (L.getD i []).length ≤ 2000000 ∧ ∀ j, j < (L.getD i []).length → Small ((L.getD i []).getD j z_GItem)
theorem stack_both {L : List (List GItem)} (h : StackS L) : ∃ B : Bool, Tends (fun K => spec_l33Stack.f K L) (B && decide ((L.length : Int) ≤ 6)) ∧ Tends (fun K => slices_ContainsFunc_impl_Item_impl_Item_isBench_fn1.f K L) (!B) := by
  obtain ⟨P, hP⟩ := choose_below (Q := fun i b => Tends (fun K => spec_l33List.f K (L.getD i [])) b ∧ Tends (fun K => impl_areItems.f K (L.getD i [])) b) fun i hi => (list_both (h.2 i hi).1 (h.2 i hi).2).imp fun b hb => ⟨hb.1, hb.2.1⟩
  exact ⟨_, stack_spec h.1 P (fun i hi => (hP i hi).1), stack_impl h.1 P (fun i hi => (hP i hi).2)⟩
theorem isBench_is {I : List GItem} {U R : List (List GItem)} {bi bu br : Bool} (i0 : Tends (fun K => impl_areItems.f K I) bi) (i1 : Tends (fun K => slices_ContainsFunc_impl_Item_impl_Item_isBench_fn1.f K U) (!bu)) (i2 : Tends (fun K => slices_ContainsFunc_impl_Item_impl_Item_isBench_fn1.f K R) (!br)) :
    Tends (fun K => impl_isBench.f K I U R) (bi && ((bu && decide ((U.length : Int) ≤ 6)) && (br && decide ((R.length : Int) ≤ 6)))) := by
  have c0 : Tends (fun K => slices_ContainsFunc_impl_Item_impl_Item_isBench_fn1.f K [I]) (!bi) := by
    have := stack_impl (L := [I]) (by simp) (fun _ => bi) (fun i hi => by
      obtain rfl : i = 0 := by simp at hi; exact hi
      exact i0)
    have e : allB [I].length (fun _ => bi) = bi := by show (bi && true) = bi; rw [Bool.and_true]
    rw [e] at this; exact this
  have step : ∀ (x : Nat) (L : List (List GItem)), x < 3 → ([([I] : List (List GItem)), U, R] : List (List (List GItem))).getD x [] = L → ∀ c, Tends (fun K => slices_ContainsFunc_impl_Item_impl_Item_isBench_fn1.f K L) (!c) → ∀ r, Tends2 (fun K k => impl_isBench.l1 K k I U R ((x + 1 : Nat) : Int)) r → Tends2 (fun K k => impl_isBench.l1 K k I U R (x : Int)) ((c && decide ((L.length : Int) ≤ 6)) && r) := fun x L hx hL c hc r hr => by
    have e : ∀ K k, impl_isBench.l1 K (k + 1) I U R (x : Int) = if 6 < (L.length : Int) then some false else (slices_ContainsFunc_impl_Item_impl_Item_isBench_fn1.f K L).bind fun t => if t = true then some false else impl_isBench.l1 K k I U R ((x + 1 : Nat) : Int) := fun K k => by
      rw [impl_isBench.l1, if_pos (by omega), if_pos (by show 0 ≤ (x : Int) ∧ (x : Int) < 3; omega), Int.toNat_natCast, hL, w64_succ (by omega)]
    refine Tends2.step e ?_
    by_cases h6 : 6 < (L.length : Int)
    · rw [decide_eq_false (by omega), Bool.and_false, Bool.false_and]; exact Tends2.pos h6 (Tends2.const _)
    · rw [decide_eq_true (by omega), Bool.and_true]
      refine Tends2.neg h6 (Tends2.bind hc.two ?_)
      cases c with
      | true => exact Tends2.neg (by decide) hr
      | false => exact Tends2.pos rfl (Tends2.const _)
  have hi := step 0 [I] (by decide) rfl bi c0 _ (step 1 U (by decide) rfl bu i1 _ (step 2 R (by decide) rfl br i2 true (Tends2.of fun K k => by rw [impl_isBench.l1, if_neg (by decide)])))
  have hd := hi.diag
  have e1 : (bi && decide ((([I] : List (List GItem)).length : Int) ≤ 6)) = bi := by rw [show decide ((([I] : List (List GItem)).length : Int) ≤ 6) = true from rfl, Bool.and_true]
  rw [e1, Bool.and_true] at hd
  exact hd
theorem bench_both {I : List GItem} {U R : List (List GItem)} (hI : I.length ≤ 2000000) (hIs : ∀ i, i < I.length → Small (I.getD i z_GItem)) (hU : StackS U) (hR : StackS R) : ∃ b, Tends (fun K => spec_ValidBench.f K I U R) b ∧ Tends (fun K => impl_isBench.f K I U R) b ∧ Tends (fun K => impl_isBench.f K I R U) b ∧ (b = true → ((U.length : Int) ≤ 6 ∧ (R.length : Int) ≤ 6) ∧ ∀ i, 0 < i → i < I.length → slt (I.getD (i - 1) z_GItem).Name (I.getD i z_GItem).Name = true) := by
  obtain ⟨bi, s0, i0, o0⟩ := list_both hI hIs
  obtain ⟨bu, s1, i1⟩ := stack_both hU
  obtain ⟨br, s2, i2⟩ := stack_both hR
  have e2 := isBench_is i0 i2 i1
  rw [Bool.and_comm (br && _)] at e2
  refine ⟨_, ?_, isBench_is i0 i1 i2, e2, fun h => ?_⟩
  · unfold spec_ValidBench.f
    refine Tends.bind s0 ?_
    cases bi with
    | false => exact Tends.neg (by decide) (Tends.const _)
    | true =>
      refine Tends.pos rfl (Tends.bind s1 ?_)
      rw [Bool.true_and]
      cases hb : (bu && decide ((U.length : Int) ≤ 6)) with
      | false => exact Tends.neg (by decide) (Tends.const _)
      | true =>
        refine Tends.pos rfl (Tends.bind s2 ?_)
        rw [Bool.true_and]; exact Tends.const _
  · simp only [Bool.and_eq_true, decide_eq_true_eq] at h
    obtain ⟨h1, h2, h3⟩ := h
    exact ⟨⟨h2.2, h3.2⟩, o0 h1⟩
end Go.Proofs.YtkmeepgpmppibaaGreatDoor
