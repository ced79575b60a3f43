/-
  PutItem: where an item goes, and the two ways of putting it there.
-/
import Derived.Test.YtkmeepgpmppibaaGreatDoorPlBOA
import Derived.Test.YtkmeepgpmppibaaGreatDoorPlBF
set_option linter.unusedVariables false
set_option linter.unusedSimpArgs false
namespace Go.Proofs.YtkmeepgpmppibaaGreatDoor
open Go.RowKit
theorem Ac.Hf {α0 α1 α2 α3 α4 α5 α6 α7 α8 α9 α10 α11 ε : Type} {a0 : α0} {a1 : α1} {a2 : α2} {a3 : α3} {a4 : α4} {a5 : α5} {a6 : α6} {a7 : α7} {a8 : α8} {a9 : α9} {a10 : α10} {a11 : α11} {F : Nat → Nat → Option (α0 × α1 × α2 × α3 × α4 × α5 × α6 × α7 × α8 × α9 × α10 × α11)} {G : Nat → Nat → α0 → α1 → α2 → α3 → α4 → α5 → α6 → α7 → α8 → α9 → α10 → α11 → Option ε} {r : ε} (h : Ac F (a0, a1, a2, a3, a4, a5, a6, a7, a8, a9, a10, a11)) (g : Ac (fun K k => G K k a0 a1 a2 a3 a4 a5 a6 a7 a8 a9 a10 a11) r) : Ac (fun K k => Go.Proofs.YtkmeepgpmppibaaGreatDoor.Hf (F K k) (G K k)) r := by
  obtain ⟨n, hn⟩ := h
  obtain ⟨m, hm⟩ := g
  exact ⟨n + m, fun K k hK hk => by show Go.Proofs.YtkmeepgpmppibaaGreatDoor.Hf (F K k) (G K k) = some r; rw [hn K k (by omega) (by omega)]; exact hm K k (by omega) (by omega)⟩
theorem Xq : ∀ (a : List UInt8), Op.bytesLess a a = false
  | [] => rfl
  | x :: r => by simp [Op.bytesLess, Xq r, UInt8.lt_irrefl]
theorem dG (a : ByteArray) : slt a a = false := by unfold slt; exact Xq _
theorem aN {a b : ByteArray} (h : seq a b = true) : a.toList = b.toList := by unfold seq at h; exact beq_iff_eq.1 h
theorem pX {a b c : ByteArray} (h : seq b c = true) : slt a b = slt a c := by unfold slt; rw [aN h]
theorem qU {a b c : ByteArray} (h : seq a b = true) : slt a c = slt b c := by unfold slt; rw [aN h]
structure At (xs : List Am) (t : ByteArray) (p : Nat) (q : Bool) : Prop where
  le : p ≤ xs.length
  lo : ∀ i, i < p → slt (nm xs i) t = true
  hi : ∀ i, p ≤ i → i < xs.length → slt (nm xs i) t = false
  ne : ∀ i, i ≠ p → i < xs.length → seq (nm xs i) t = false
  eq : p < xs.length → seq (nm xs p) t = q
  lt : q = true → p < xs.length
theorem bU {xs : List Am} {t : ByteArray} (hn : xs.length ≤ 2000000) (h : ∀ i, 0 < i → i < xs.length → slt (nm xs (i - 1)) (nm xs i) = true) : ∃ (p : Nat) (q : Bool), At xs t p q ∧ Ab (fun K => Li.f K xs t) ((p : Int), q) := by
  obtain ⟨p, p1, p3, p4, p5⟩ := Yk (t := t) hn
  have lo : ∀ i, i < p → slt (nm xs i) t = true := fun i hi => by
    have h1 := p4 (by omega)
    rw [fG] at h1
    by_cases e : i = p - 1
    · rw [e]; exact h1
    · have h3 := Uh h (p - 1 - i - 1) i (by omega)
      rw [show i + (p - 1 - i - 1) + 1 = p - 1 by omega] at h3
      exact Tw h3 h1
  have up : ∀ i, p < i → i < xs.length → slt (nm xs p) (nm xs i) = true := fun i h1 h2 => by
    have h3 := Uh h (i - p - 1) p (by omega)
    rw [show p + (i - p - 1) + 1 = i by omega] at h3
    exact h3
  have hp : p < xs.length → slt (nm xs p) t = false := fun hp => by
    have h1 := p3 hp
    rw [fG] at h1
    exact Bool.eq_false_iff.2 h1
  refine ⟨p, _, ⟨p1, lo, fun i h1 h2 => ?_, fun i h1 h2 => ?_, fun hp2 => ?_, fun hq => (of_decide_eq_true hq).1⟩, p5⟩
  · by_cases e : i = p
    · rw [e]; exact hp (by omega)
    · cases hs : slt (nm xs i) t with
      | false => rfl
      | true => have := Tw (up i (by omega) h2) hs; rw [hp (by omega)] at this; cases this
  · cases hs : seq (nm xs i) t with
    | false => rfl
    | true =>
      by_cases e : i < p
      · have := lo i e; rw [qU hs, dG] at this; cases this
      · have := up i (by omega) h2; rw [pX hs, hp (by omega)] at this; cases this
  · cases hs : seq (nm xs p) t with
    | true => exact (decide_eq_true ⟨hp2, (Yi _ _).2 hs⟩).symm
    | false => exact (decide_eq_false (fun hc => by have := (Yi _ _).1 hc.2; rw [hs] at this; cases this)).symm
theorem bR {xs : List Am} {t : ByteArray} {p : Nat} {q : Bool} (hn : xs.length ≤ 2000000) (h : At xs t p q) : ∃ v : Int, Ab (fun K => Ew.f K xs t) v ∧ (v < 0 ↔ q = false) := by
  obtain ⟨v, tv, e⟩ := rU (t := t) hn
  refine ⟨v, tv, ?_⟩
  rcases e with ⟨e1, e2⟩ | ⟨j, e1, hj, e2⟩
  · refine ⟨fun _ => ?_, fun _ => by omega⟩
    cases hq : q with
    | false => rfl
    | true =>
      have hp := h.lt hq
      have h1 := h.eq hp
      rw [e2 p hp, hq] at h1
      cases h1
  · refine ⟨fun hv => by omega, fun hq => ?_⟩
    by_cases e : j = p
    · have h1 := h.eq (by omega); rw [← e, e2, hq] at h1; cases h1
    · have h1 := h.ne j e hj; rw [e2] at h1; cases h1
def putAt (I : List Am) (x : Am) (p : Nat) (q : Bool) : List Am := I.take p ++ x :: I.drop (p + q.toNat)
theorem Zi {I : List Am} {x : Am} {p : Nat} {q : Bool} (h : p ≤ I.length) (hl : q = true → p < I.length) : (putAt I x p q).length + q.toNat = I.length + 1 := by
  unfold putAt
  rw [List.length_append, List.length_take, List.length_cons, List.length_drop]
  cases q with
  | false => simp; omega
  | true => have := hl rfl; simp; omega
theorem iH {I : List Am} {x : Am} {p : Nat} (h : p < I.length) : I.set p x = putAt I x p true := by
  unfold putAt
  rw [List.set_eq_take_append_cons_drop, if_pos h]
  rfl
end Go.Proofs.YtkmeepgpmppibaaGreatDoor
