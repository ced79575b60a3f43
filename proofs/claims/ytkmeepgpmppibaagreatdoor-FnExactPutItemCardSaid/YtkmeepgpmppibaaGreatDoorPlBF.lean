/-
  FindItem: a binary search among sorted names finds what looking at all finds.
-/
import Derived.Test.YtkmeepgpmppibaaGreatDoorPlBO
set_option linter.unusedVariables false
set_option linter.unusedSimpArgs false
namespace Go.Proofs.YtkmeepgpmppibaaGreatDoor
open Go.RowKit
theorem oK : ∀ (a b : List UInt8), Lib.compareBytes a b < 0 ↔ Op.bytesLess a b = true
  | [], [] => by simp [Lib.compareBytes, Op.bytesLess]
  | [], _ :: _ => by simp [Lib.compareBytes, Op.bytesLess]
  | _ :: _, [] => by simp [Lib.compareBytes, Op.bytesLess]
  | a :: x, b :: y => by
    have ih := oK x y
    unfold Lib.compareBytes Op.bytesLess
    by_cases h1 : a < b
    · simp [h1]
    · by_cases h2 : b < a
      · have hne : a ≠ b := fun e => by rw [e] at h2; exact absurd h2 (UInt8.lt_irrefl b)
        simp [h1, h2, hne]
      · have he : a = b := UInt8.le_antisymm (UInt8.not_lt.1 h2) (UInt8.not_lt.1 h1)
        simp [h1, h2, he, ih]
theorem aJ : ∀ (a b : List UInt8), Lib.compareBytes a b = 0 ↔ a = b
  | [], [] => by simp [Lib.compareBytes]
  | [], _ :: _ => by simp [Lib.compareBytes]
  | _ :: _, [] => by simp [Lib.compareBytes]
  | a :: x, b :: y => by
    have ih := aJ x y
    unfold Lib.compareBytes
    by_cases h1 : a < b
    · have hne : a ≠ b := fun e => by rw [e] at h1; exact absurd h1 (UInt8.lt_irrefl b)
      simp [h1, hne]
    · by_cases h2 : b < a
      · have hne : a ≠ b := fun e => by rw [e] at h2; exact absurd h2 (UInt8.lt_irrefl b)
        simp [h1, h2, hne]
      · have he : a = b := UInt8.le_antisymm (UInt8.not_lt.1 h2) (UInt8.not_lt.1 h1)
        simp [h1, h2, he, ih]
theorem aY : ∀ {a b c : List UInt8}, Op.bytesLess a b = true → Op.bytesLess b c = true → Op.bytesLess a c = true
  | _, [], _, h, _ => by cases ‹List UInt8› <;> simp [Op.bytesLess] at h
  | _, _ :: _, [], _, h => by simp [Op.bytesLess] at h
  | [], _ :: _, _ :: _, _, _ => by simp [Op.bytesLess]
  | a :: x, b :: y, c :: z, h, g => by
    simp only [Op.bytesLess, Bool.or_eq_true, Bool.and_eq_true, decide_eq_true_eq, beq_iff_eq] at h g ⊢
    rcases h with h | ⟨rfl, h⟩
    · rcases g with g | ⟨rfl, g⟩
      · exact .inl (UInt8.lt_trans h g)
      · exact .inl h
    · rcases g with g | ⟨rfl, g⟩
      · exact .inl g
      · exact .inr ⟨rfl, aY h g⟩
theorem fG (a b : ByteArray) : Qp a b < 0 ↔ slt a b = true := by unfold Qp slt; rw [ByteArray.toList_eq, ByteArray.toList_eq]; exact oK _ _
theorem Yi (a b : ByteArray) : Qp a b = 0 ↔ seq a b = true := by unfold Qp seq; rw [ByteArray.toList_eq, ByteArray.toList_eq, beq_iff_eq]; exact aJ _ _
theorem Tw {a b c : ByteArray} (h : slt a b = true) (g : slt b c = true) : slt a c = true := aY h g
abbrev nm (xs : List Am) (i : Nat) : ByteArray := (xs.getD i Br).Name
theorem half {lo hi : Nat} (h : lo < hi) (hn : hi ≤ 2000000) : w64 ((IntKind.wrap .u64 (w64 ((lo : Int) + (hi : Int)))) / 2 ^ 1) = (((lo + hi) / 2 : Nat) : Int) := by
  have e1 : w64 ((lo : Int) + (hi : Int)) = ((lo + hi : Nat) : Int) := by rw [H8 (by omega) (by omega)]; omega
  have e2 : IntKind.wrap .u64 ((lo + hi : Nat) : Int) = ((lo + hi : Nat) : Int) := by
    show ((lo + hi : Nat) : Int) % 18446744073709551616 = _
    omega
  rw [e1, e2, show (2 : Int) ^ 1 = 2 by decide, H8 (by omega) (by omega)]
  omega
theorem Wi (x : Am) (t : ByteArray) : Im.f x.Name x.Kind x.Ad x.Ae x.Aj x.Ao x.Av x.Ak x.Ah x.Af x.Ai x.Ag t = some (Qp x.Name t) := rfl
theorem Zv {xs : List Am} {t : ByteArray} (hn : xs.length ≤ 2000000) : ∀ (m lo hi : Nat), hi - lo ≤ m → lo ≤ hi → hi ≤ xs.length → ∃ p : Nat, lo ≤ p ∧ p ≤ hi ∧ (p < hi → ¬ Qp (nm xs p) t < 0) ∧ (lo < p → Qp (nm xs (p - 1)) t < 0) ∧
    Ac (fun K k => Ap.l1 K k xs t (lo : Int) (hi : Int)) ((p : Int), decide (p < xs.length ∧ Qp (nm xs p) t = 0))
  | m, lo, hi, hm, hlo, hhi => by
    by_cases hlt : lo < hi
    · have hh := half hlt (by omega)
      have h1 : lo ≤ (lo + hi) / 2 := by omega
      have h2 : (lo + hi) / 2 < hi := by omega
      generalize hg : (lo + hi) / 2 = h at hh h1 h2
      have hs : ∀ K k, Ap.l1 K (k + 1) xs t (lo : Int) (hi : Int) = if Qp (nm xs h) t < 0 then Ap.l1 K k xs t ((h + 1 : Nat) : Int) (hi : Int) else Ap.l1 K k xs t (lo : Int) (h : Int) := fun K k => by
        rw [Ap.l1, if_pos (by omega), hh, if_pos (by omega), Int.toNat_natCast, Fe, Wi, Option.bind_some, Cc (by omega)]
      cases m with
      | zero => omega
      | succ m =>
        by_cases hc : Qp (nm xs h) t < 0
        · obtain ⟨p, p1, p2, p3, p4, p5⟩ := Zv hn m (h + 1) hi (by omega) (by omega) hhi
          refine ⟨p, by omega, p2, p3, fun hp => ?_, Ac.step hs (Ac.pos hc p5)⟩
          by_cases e : p = h + 1
          · rw [e, Nat.add_sub_cancel]; exact hc
          · exact p4 (by omega)
        · obtain ⟨p, p1, p2, p3, p4, p5⟩ := Zv hn m lo h (by omega) h1 (by omega)
          refine ⟨p, p1, by omega, fun hp => ?_, p4, Ac.step hs (Ac.neg hc p5)⟩
          by_cases e : p = h
          · rw [e]; exact hc
          · exact p3 (by omega)
    · obtain rfl : lo = hi := by omega
      refine ⟨lo, Nat.le_refl _, Nat.le_refl _, fun h => absurd h (Nat.lt_irrefl _), fun h => absurd h (Nat.lt_irrefl _), Ac.of fun K k => ?_⟩
      rw [Ap.l1, if_neg (by omega)]
      by_cases hl : lo < xs.length
      · rw [if_pos (by omega), if_pos (by omega), Int.toNat_natCast, Fe, Wi, Option.bind_some]
        have e : (lo < xs.length ∧ Qp (nm xs lo) t = 0) ↔ Qp (nm xs lo) t = 0 := ⟨fun h => h.2, fun h => ⟨hl, h⟩⟩
        simp only [e]
      · rw [if_neg (by omega), decide_eq_false (fun h => hl h.1)]
theorem Yk {xs : List Am} {t : ByteArray} (hn : xs.length ≤ 2000000) : ∃ p : Nat, p ≤ xs.length ∧ (p < xs.length → ¬ Qp (nm xs p) t < 0) ∧ (0 < p → Qp (nm xs (p - 1)) t < 0) ∧ Ab (fun K => Li.f K xs t) ((p : Int), decide (p < xs.length ∧ Qp (nm xs p) t = 0)) := by
  obtain ⟨p, p1, p2, p3, p4, p5⟩ := Zv (t := t) hn xs.length 0 xs.length (by omega) (by omega) (Nat.le_refl _)
  exact ⟨p, p2, p3, p4, Ab.Ed (F := fun K => Ap.f K xs t) p5.Ib (Ab.const _)⟩
theorem rU {xs : List Am} {t : ByteArray} (hn : xs.length ≤ 2000000) : ∃ v : Int, Ab (fun K => Ew.f K xs t) v ∧ (v = -1 ∧ (∀ j, j < xs.length → seq (nm xs j) t = false) ∨ ∃ j : Nat, v = (j : Int) ∧ j < xs.length ∧ seq (nm xs j) t = true) := by
  obtain ⟨v, tv, e⟩ : ∃ v, Ac (fun K k => Ew.l1 K k xs t ((0 : Nat) : Int)) v ∧ (v = -1 ∧ (∀ j, 0 ≤ j → j < xs.length → seq (nm xs j) t = false) ∨ ∃ j : Nat, v = (j : Int) ∧ j < xs.length ∧ seq (nm xs j) t = true) := by
    have go : ∀ m i : Nat, xs.length - i = m → ∃ v, Ac (fun K k => Ew.l1 K k xs t (i : Int)) v ∧ (v = -1 ∧ (∀ j, i ≤ j → j < xs.length → seq (nm xs j) t = false) ∨ ∃ j : Nat, v = (j : Int) ∧ j < xs.length ∧ seq (nm xs j) t = true) := by
      intro m
      induction m with
      | zero =>
        intro i hi
        exact ⟨-1, Ac.of fun K k => by rw [Ew.l1, if_neg (by omega)], .inl ⟨rfl, fun j h1 h2 => by omega⟩⟩
      | succ m ih =>
        intro i hi
        have hs : ∀ K k, Ew.l1 K (k + 1) xs t (i : Int) = if seq (nm xs i) t = true then some (i : Int) else Ew.l1 K k xs t ((i + 1 : Nat) : Int) := fun K k => by
          rw [Ew.l1, if_pos (by omega), if_pos (by omega), Int.toNat_natCast, Fe, Cc (by omega)]
        cases hq : seq (nm xs i) t with
        | true => exact ⟨(i : Int), Ac.step hs (Ac.pos hq (Ac.const _)), .inr ⟨i, rfl, by omega, hq⟩⟩
        | false =>
          obtain ⟨v, tv, e⟩ := ih (i + 1) (by omega)
          refine ⟨v, Ac.step hs (Ac.neg (by rw [hq]; decide) tv), e.imp (fun ⟨e1, e2⟩ => ⟨e1, fun j h1 h2 => ?_⟩) id⟩
          by_cases hj : j = i
          · rw [hj]; exact hq
          · exact e2 j (by omega) h2
    exact go xs.length 0 (by omega)
  exact ⟨v, tv.Ib, e.imp (fun ⟨e1, e2⟩ => ⟨e1, fun j hj => e2 j (Nat.zero_le _) hj⟩) id⟩
theorem Uh {xs : List Am} (h : ∀ i, 0 < i → i < xs.length → slt (nm xs (i - 1)) (nm xs i) = true) : ∀ (m i : Nat), i + m + 1 < xs.length → slt (nm xs i) (nm xs (i + m + 1)) = true
  | 0, i, hi => by have := h (i + 1) (by omega) (by omega); rwa [Nat.add_sub_cancel] at this
  | m + 1, i, hi => Tw (Uh h m i (by omega)) (by have := h (i + (m + 1) + 1) (by omega) hi; rwa [Nat.add_sub_cancel] at this)
end Go.Proofs.YtkmeepgpmppibaaGreatDoor
