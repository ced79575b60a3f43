/-
  FindItem: a binary search among sorted names finds what looking at all finds.
-/
import Derived.Test.YtkmeepgpmppibaaGreatDoorPlBO
set_option linter.unusedVariables false
set_option linter.unusedSimpArgs false
namespace Go.Proofs.YtkmeepgpmppibaaGreatDoor
open Go.RowKit
theorem cmp_lt : ∀ (a b : List UInt8), Lib.compareBytes a b < 0 ↔ Op.bytesLess a b = true
  | [], [] => by simp [Lib.compareBytes, Op.bytesLess]
  | [], _ :: _ => by simp [Lib.compareBytes, Op.bytesLess]
  | _ :: _, [] => by simp [Lib.compareBytes, Op.bytesLess]
  | a :: x, b :: y => by
    have ih := cmp_lt x y
    unfold Lib.compareBytes Op.bytesLess
    by_cases h1 : a < b
    · simp [h1]
    · by_cases h2 : b < a
      · have hne : a ≠ b := fun e => by rw [e] at h2; exact absurd h2 (UInt8.lt_irrefl b)
        simp [h1, h2, hne]
      · have he : a = b := UInt8.le_antisymm (UInt8.not_lt.1 h2) (UInt8.not_lt.1 h1)
        simp [h1, h2, he, ih]
theorem cmp_zero : ∀ (a b : List UInt8), Lib.compareBytes a b = 0 ↔ a = b
  | [], [] => by simp [Lib.compareBytes]
  | [], _ :: _ => by simp [Lib.compareBytes]
  | _ :: _, [] => by simp [Lib.compareBytes]
  | a :: x, b :: y => by
    have ih := cmp_zero x y
    unfold Lib.compareBytes
    by_cases h1 : a < b
    · have hne : a ≠ b := fun e => by rw [e] at h1; exact absurd h1 (UInt8.lt_irrefl b)
      simp [h1, hne]
    · by_cases h2 : b < a
      · have hne : a ≠ b := fun e => by rw [e] at h2; exact absurd h2 (UInt8.lt_irrefl b)
        simp [h1, h2, hne]
      · have he : a = b := UInt8.le_antisymm (UInt8.not_lt.1 h2) (UInt8.not_lt.1 h1)
        simp [h1, h2, he, ih]
theorem bl_trans : ∀ {a b c : List UInt8}, Op.bytesLess a b = true → Op.bytesLess b c = true → Op.bytesLess a c = true
  | _, [], _, h, _ => by cases ‹List UInt8› <;> simp [Op.bytesLess] at h
  | _, _ :: _, [], _, h => by simp [Op.bytesLess] at h
  | [], _ :: _, _ :: _, _, _ => by simp [Op.bytesLess]
  | a :: x, b :: y, c :: z, h, g => by
    simp only [Op.bytesLess, Bool.or_eq_true, Bool.and_eq_true, decide_eq_true_eq, beq_iff_eq] at h g ⊢
    rcases h with h | ⟨rfl, h⟩
    · rcases g with g | ⟨rfl, g⟩
      · exact .inl (UInt8.lt_trans h g)
      · exact .inl h
    · rcases g with g | ⟨rfl, g⟩
      · exact .inl g
      · exact .inr ⟨rfl, bl_trans h g⟩
theorem scmp_lt (a b : ByteArray) : scmp a b < 0 ↔ slt a b = true := by unfold scmp slt; rw [ByteArray.toList_eq, ByteArray.toList_eq]; exact cmp_lt _ _
theorem scmp_zero (a b : ByteArray) : scmp a b = 0 ↔ seq a b = true := by unfold scmp seq; rw [ByteArray.toList_eq, ByteArray.toList_eq, beq_iff_eq]; exact cmp_zero _ _
theorem slt_trans {a b c : ByteArray} (h : slt a b = true) (g : slt b c = true) : slt a c = true := bl_trans h g
abbrev nm (xs : List GItem) (i : Nat) : ByteArray := (xs.getD i z_GItem).Name
theorem half {lo hi : Nat} (h : lo < hi) (hn : hi ≤ 2000000) : w64 ((IntKind.wrap .u64 (w64 ((lo : Int) + (hi : Int)))) / 2 ^ 1) = (((lo + hi) / 2 : Nat) : Int) := by
  have e1 : w64 ((lo : Int) + (hi : Int)) = ((lo + hi : Nat) : Int) := by rw [w64_id (by omega) (by omega)]; omega
  have e2 : IntKind.wrap .u64 ((lo + hi : Nat) : Int) = ((lo + hi : Nat) : Int) := by
    show ((lo + hi : Nat) : Int) % 18446744073709551616 = _
    omega
  rw [e1, e2, show (2 : Int) ^ 1 = 2 by decide, w64_id (by omega) (by omega)]
  omega
theorem itemAt_cmp (x : GItem) (t : ByteArray) : impl_itemAt_fn1.f x.Name x.Kind x.Triangulation_Tets x.Diagram_Crossings x.Diagram_Circles x.Braid_Strands x.Braid_Word x.Certificate_Name x.Certificate_Trait x.Certificate_Moves x.Certificate_Tets x.Certificate_Perms t = some (scmp x.Name t) := rfl
theorem bs_loop {xs : List GItem} {t : ByteArray} (hn : xs.length ≤ 2000000) : ∀ (m lo hi : Nat), hi - lo ≤ m → lo ≤ hi → hi ≤ xs.length → ∃ p : Nat, lo ≤ p ∧ p ≤ hi ∧ (p < hi → ¬ scmp (nm xs p) t < 0) ∧ (lo < p → scmp (nm xs (p - 1)) t < 0) ∧
    Tends2 (fun K k => slices_BinarySearchFunc_impl_Item_impl_Item_string_itemAt_fn1.l1 K k xs t (lo : Int) (hi : Int)) ((p : Int), decide (p < xs.length ∧ scmp (nm xs p) t = 0))
  | m, lo, hi, hm, hlo, hhi => by
    by_cases hlt : lo < hi
    · have hh := half hlt (by omega)
      have h1 : lo ≤ (lo + hi) / 2 := by omega
      have h2 : (lo + hi) / 2 < hi := by omega
      generalize hg : (lo + hi) / 2 = h at hh h1 h2
      have hs : ∀ K k, slices_BinarySearchFunc_impl_Item_impl_Item_string_itemAt_fn1.l1 K (k + 1) xs t (lo : Int) (hi : Int) = if scmp (nm xs h) t < 0 then slices_BinarySearchFunc_impl_Item_impl_Item_string_itemAt_fn1.l1 K k xs t ((h + 1 : Nat) : Int) (hi : Int) else slices_BinarySearchFunc_impl_Item_impl_Item_string_itemAt_fn1.l1 K k xs t (lo : Int) (h : Int) := fun K k => by
        rw [slices_BinarySearchFunc_impl_Item_impl_Item_string_itemAt_fn1.l1, if_pos (by omega), hh, if_pos (by omega), Int.toNat_natCast, bnd_eq, itemAt_cmp, Option.bind_some, w64_succ (by omega)]
      cases m with
      | zero => omega
      | succ m =>
        by_cases hc : scmp (nm xs h) t < 0
        · obtain ⟨p, p1, p2, p3, p4, p5⟩ := bs_loop hn m (h + 1) hi (by omega) (by omega) hhi
          refine ⟨p, by omega, p2, p3, fun hp => ?_, Tends2.step hs (Tends2.pos hc p5)⟩
          by_cases e : p = h + 1
          · rw [e, Nat.add_sub_cancel]; exact hc
          · exact p4 (by omega)
        · obtain ⟨p, p1, p2, p3, p4, p5⟩ := bs_loop hn m lo h (by omega) h1 (by omega)
          refine ⟨p, p1, by omega, fun hp => ?_, p4, Tends2.step hs (Tends2.neg hc p5)⟩
          by_cases e : p = h
          · rw [e]; exact hc
          · exact p3 (by omega)
    · obtain rfl : lo = hi := by omega
      refine ⟨lo, Nat.le_refl _, Nat.le_refl _, fun h => absurd h (Nat.lt_irrefl _), fun h => absurd h (Nat.lt_irrefl _), Tends2.of fun K k => ?_⟩
      rw [slices_BinarySearchFunc_impl_Item_impl_Item_string_itemAt_fn1.l1, if_neg (by omega)]
      by_cases hl : lo < xs.length
      · rw [if_pos (by omega), if_pos (by omega), Int.toNat_natCast, bnd_eq, itemAt_cmp, Option.bind_some]
        have e : (lo < xs.length ∧ scmp (nm xs lo) t = 0) ↔ scmp (nm xs lo) t = 0 := ⟨fun h => h.2, fun h => ⟨hl, h⟩⟩
        simp only [e]
      · rw [if_neg (by omega), decide_eq_false (fun h => hl h.1)]
theorem itemAt_at {xs : List GItem} {t : ByteArray} (hn : xs.length ≤ 2000000) : ∃ p : Nat, p ≤ xs.length ∧ (p < xs.length → ¬ scmp (nm xs p) t < 0) ∧ (0 < p → scmp (nm xs (p - 1)) t < 0) ∧ Tends (fun K => impl_itemAt.f K xs t) ((p : Int), decide (p < xs.length ∧ scmp (nm xs p) t = 0)) := by
  obtain ⟨p, p1, p2, p3, p4, p5⟩ := bs_loop (t := t) hn xs.length 0 xs.length (by omega) (by omega) (Nat.le_refl _)
  exact ⟨p, p2, p3, p4, Tends.bind2 (F := fun K => slices_BinarySearchFunc_impl_Item_impl_Item_string_itemAt_fn1.f K xs t) p5.diag (Tends.const _)⟩
theorem find_at {xs : List GItem} {t : ByteArray} (hn : xs.length ≤ 2000000) : ∃ v : Int, Tends (fun K => spec_l33Find.f K xs t) v ∧ (v = -1 ∧ (∀ j, j < xs.length → seq (nm xs j) t = false) ∨ ∃ j : Nat, v = (j : Int) ∧ j < xs.length ∧ seq (nm xs j) t = true) := by
  obtain ⟨v, tv, e⟩ : ∃ v, Tends2 (fun K k => spec_l33Find.l1 K k xs t ((0 : Nat) : Int)) v ∧ (v = -1 ∧ (∀ j, 0 ≤ j → j < xs.length → seq (nm xs j) t = false) ∨ ∃ j : Nat, v = (j : Int) ∧ j < xs.length ∧ seq (nm xs j) t = true) := by
    have go : ∀ m i : Nat, xs.length - i = m → ∃ v, Tends2 (fun K k => spec_l33Find.l1 K k xs t (i : Int)) v ∧ (v = -1 ∧ (∀ j, i ≤ j → j < xs.length → seq (nm xs j) t = false) ∨ ∃ j : Nat, v = (j : Int) ∧ j < xs.length ∧ seq (nm xs j) t = true) := by
      intro m
      induction m with
      | zero =>
        intro i hi
        exact ⟨-1, Tends2.of fun K k => by rw [spec_l33Find.l1, if_neg (by omega)], .inl ⟨rfl, fun j h1 h2 => by omega⟩⟩
      | succ m ih =>
        intro i hi
        have hs : ∀ K k, spec_l33Find.l1 K (k + 1) xs t (i : Int) = if seq (nm xs i) t = true then some (i : Int) else spec_l33Find.l1 K k xs t ((i + 1 : Nat) : Int) := fun K k => by
          rw [spec_l33Find.l1, if_pos (by omega), if_pos (by omega), Int.toNat_natCast, bnd_eq, w64_succ (by omega)]
        cases hq : seq (nm xs i) t with
        | true => exact ⟨(i : Int), Tends2.step hs (Tends2.pos hq (Tends2.const _)), .inr ⟨i, rfl, by omega, hq⟩⟩
        | false =>
          obtain ⟨v, tv, e⟩ := ih (i + 1) (by omega)
          refine ⟨v, Tends2.step hs (Tends2.neg (by rw [hq]; decide) tv), e.imp (fun ⟨e1, e2⟩ => ⟨e1, fun j h1 h2 => ?_⟩) id⟩
          by_cases hj : j = i
          · rw [hj]; exact hq
          · exact e2 j (by omega) h2
    exact go xs.length 0 (by omega)
  exact ⟨v, tv.diag, e.imp (fun ⟨e1, e2⟩ => ⟨e1, fun j hj => e2 j (Nat.zero_le _) hj⟩) id⟩
theorem sorted_lt {xs : List GItem} (h : ∀ i, 0 < i → i < xs.length → slt (nm xs (i - 1)) (nm xs i) = true) : ∀ (m i : Nat), i + m + 1 < xs.length → slt (nm xs i) (nm xs (i + m + 1)) = true
  | 0, i, hi => by have := h (i + 1) (by omega) (by omega); rwa [Nat.add_sub_cancel] at this
  | m + 1, i, hi => slt_trans (sorted_lt h m i (by omega)) (by have := h (i + (m + 1) + 1) (by omega) hi; rwa [Nat.add_sub_cancel] at this)
theorem scmp_self_of {a t : ByteArray} (h : seq a t = true) : scmp a t = 0 := (scmp_zero a t).2 h
theorem find_both {xs : List GItem} {t : ByteArray} (hn : xs.length ≤ 2000000) (h : ∀ i, 0 < i → i < xs.length → slt (nm xs (i - 1)) (nm xs i) = true) : ∃ (v : Int) (p : Int) (q : Bool),
    Tends (fun K => spec_l33Find.f K xs t) v ∧ Tends (fun K => impl_itemAt.f K xs t) (p, q) ∧ (v < 0 ∧ q = false ∨ q = true ∧ v = p ∧ 0 ≤ p ∧ p < (xs.length : Int)) := by
  obtain ⟨v, tv, e⟩ := find_at (t := t) hn
  obtain ⟨p, p1, p3, p4, p5⟩ := itemAt_at (t := t) hn
  refine ⟨v, _, _, tv, p5, ?_⟩
  rcases e with ⟨e1, e2⟩ | ⟨j, e1, hj, e2⟩
  · refine .inl ⟨by omega, decide_eq_false fun ⟨h1, h2⟩ => ?_⟩
    have := e2 p h1
    rw [(scmp_zero _ _).1 h2] at this
    cases this
  · have hz := scmp_self_of e2
    have hpj : p = j := by
      rcases Nat.lt_trichotomy p j with hlt | heq | hgt
      · have h1 := sorted_lt h (j - p - 1) p (by omega)
        rw [show p + (j - p - 1) + 1 = j by omega] at h1
        have h2 := p3 (by omega)
        rw [scmp_lt] at h2
        have hjt : nm xs j = t ∨ slt (nm xs p) t = true := by
          have h3 := hz
          unfold scmp at h3
          have := (cmp_zero _ _).1 h3
          right
          unfold slt at h1 ⊢
          rw [ByteArray.toList_eq, ByteArray.toList_eq] at h1 ⊢
          rw [← this]
          exact h1
        rcases hjt with hjt | hjt
        · rw [hjt] at h1; exact absurd h1 h2
        · exact absurd hjt h2
      · exact heq
      · have h1 := p4 (by omega)
        rw [scmp_lt] at h1
        have h2 : slt (nm xs j) t = true := by
          by_cases e : j = p - 1
          · rw [e]; exact h1
          · have h3 := sorted_lt h (p - 1 - j - 1) j (by omega)
            rw [show j + (p - 1 - j - 1) + 1 = p - 1 by omega] at h3
            exact slt_trans h3 h1
        rw [← scmp_lt] at h2
        omega
    subst hpj
    exact .inr ⟨decide_eq_true ⟨hj, hz⟩, by omega, by omega, by omega⟩
end Go.Proofs.YtkmeepgpmppibaaGreatDoor
