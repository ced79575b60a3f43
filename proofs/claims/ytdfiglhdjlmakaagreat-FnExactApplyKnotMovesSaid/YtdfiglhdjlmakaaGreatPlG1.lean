/-
  Cycles of permutations under exchanges, classes of joined relations, and the inequality of Euler for crossings that are joined by arcs one after the other. No program in sight.
-/
import Derived.Test.YtdfiglhdjlmakaaGreatPlU2
set_option linter.unusedVariables false
set_option linter.unusedSimpArgs false
set_option linter.unusedSectionVars false
namespace Go.Proofs.YtdfiglhdjlmakaaGreat
open Go.RowKit
theorem it_plus (nx : Nat → Nat) (a : Nat) : ∀ i j, it nx i (it nx j a) = it nx (i + j) a
  | 0, j => by rw [Nat.zero_add]; rfl
  | i + 1, j => by
    rw [show i + 1 + j = (i + j) + 1 by omega]
    show nx (it nx i (it nx j a)) = nx (it nx (i + j) a)
    rw [it_plus nx a i j]
theorem it_times {nx : Nat → Nat} {a m : Nat} (hm : it nx m a = a) : ∀ q, it nx (q * m) a = a
  | 0 => by rw [Nat.zero_mul]; rfl
  | q + 1 => by rw [Nat.succ_mul, ← it_plus, hm, it_times hm q]
theorem it_rem {nx : Nat → Nat} {a m : Nat} (hm : it nx m a = a) (h0 : 0 < m) (j : Nat) : it nx j a = it nx (j % m) a := by
  have h1 : j = j % m + (j / m) * m := by rw [Nat.mul_comm]; exact (Nat.mod_add_div j m).symm
  conv => lhs; rw [h1, ← it_plus, it_times hm]
def RR (φ : Nat → Nat) (k k' : Nat) : Prop := ∃ j, it φ j k = k'
theorem RR.refl (φ : Nat → Nat) (k : Nat) : RR φ k k := ⟨0, rfl⟩
theorem RR.trans {φ : Nat → Nat} {a b c : Nat} (h : RR φ a b) (h' : RR φ b c) : RR φ a c := by
  obtain ⟨i, rfl⟩ := h
  obtain ⟨j, rfl⟩ := h'
  exact ⟨j + i, (it_plus φ a j i).symm⟩
theorem RR.step (φ : Nat → Nat) (k : Nat) : RR φ k (φ k) := ⟨1, rfl⟩
theorem RR.symm {N : Nat} {φ ψ : Nat → Nat} (hT : Turn N φ ψ) {k k' : Nat} (hk : k < N) (h : RR φ k k') : RR φ k' k := by
  obtain ⟨j, rfl⟩ := h
  obtain ⟨m, h0, _, hm, _⟩ := period hT hk
  refine ⟨j * m - j, ?_⟩
  have : j ≤ j * m := Nat.le_mul_of_pos_right _ h0
  rw [it_plus, Nat.sub_add_cancel this, it_times hm]
structure EqN (N : Nat) (E : Nat → Nat → Prop) : Prop where
  refl : ∀ k, k < N → E k k
  symm : ∀ k k', k < N → k' < N → E k k' → E k' k
  trans : ∀ a b c, a < N → b < N → c < N → E a b → E b c → E a c
def Jn (E : Nat → Nat → Prop) (p q k k' : Nat) : Prop := E k k' ∨ (E k p ∧ E q k') ∨ (E k q ∧ E p k')
theorem EqN.join {N : Nat} {E : Nat → Nat → Prop} (h : EqN N E) {p q : Nat} (hp : p < N) (hq : q < N) : EqN N (Jn E p q) where
  refl := fun k hk => .inl (h.refl k hk)
  symm := fun k k' hk hk' e => by
    rcases e with e | ⟨e1, e2⟩ | ⟨e1, e2⟩
    · exact .inl (h.symm _ _ hk hk' e)
    · exact .inr (.inr ⟨h.symm _ _ hq hk' e2, h.symm _ _ hk hp e1⟩)
    · exact .inr (.inl ⟨h.symm _ _ hp hk' e2, h.symm _ _ hk hq e1⟩)
  trans := fun a b c ha hb hc e e' => by
    have tr := fun {x y z} (hx : x < N) (hy : y < N) (hz : z < N) => h.trans x y z hx hy hz
    rcases e with e | ⟨e1, e2⟩ | ⟨e1, e2⟩ <;> rcases e' with f | ⟨f1, f2⟩ | ⟨f1, f2⟩
    · exact .inl (tr ha hb hc e f)
    · exact .inr (.inl ⟨tr ha hb hp e f1, f2⟩)
    · exact .inr (.inr ⟨tr ha hb hq e f1, f2⟩)
    · exact .inr (.inl ⟨e1, tr hq hb hc e2 f⟩)
    · exact .inr (.inl ⟨e1, f2⟩)
    · exact .inl (tr ha hp hc e1 f2)
    · exact .inr (.inr ⟨e1, tr hp hb hc e2 f⟩)
    · exact .inl (tr ha hq hc e1 f2)
    · exact .inr (.inr ⟨e1, f2⟩)
def Old (E : Nat → Nat → Prop) (k : Nat) : Prop := ∃ k', k' < k ∧ E k' k
open Classical in
noncomputable def num (E : Nat → Nat → Prop) : Nat → Nat
  | 0 => 0
  | k + 1 => num E k + if Old E k then 0 else 1
open Classical in
theorem num_mono {E E' : Nat → Nat → Prop} : ∀ {N : Nat}, (∀ k, k < N → Old E k → Old E' k) → num E' N ≤ num E N
  | 0, _ => Nat.le_refl _
  | N + 1, h => by
    have ih := num_mono (N := N) (fun k hk => h k (by omega))
    have h1 := h N (Nat.lt_succ_self _)
    rw [num, num]
    by_cases a : Old E N
    · rw [if_pos a, if_pos (h1 a)]; omega
    · rw [if_neg a]; split <;> omega
open Classical in
theorem num_drop {E E' : Nat → Nat → Prop} {b : Nat} (h1 : ¬ Old E b) (h2 : Old E' b) : ∀ {N : Nat}, (∀ k, k < N → k ≠ b → (Old E k ↔ Old E' k)) → num E' N + (if b < N then 1 else 0) = num E N
  | 0, _ => by rw [if_neg (Nat.not_lt_zero _)]; rfl
  | N + 1, h => by
    have ih := num_drop (N := N) h1 h2 (fun k hk => h k (by omega))
    rw [num, num]
    by_cases e : N = b
    · subst e
      rw [if_neg (Nat.lt_irrefl _)] at ih
      rw [if_pos h2, if_neg h1, if_pos (Nat.lt_succ_self _)]
      omega
    · have h3 := h N (Nat.lt_succ_self _) e
      have h4 : (if b < N + 1 then 1 else 0) = (if b < N then 1 else 0) := by
        by_cases hb : b < N
        · rw [if_pos hb, if_pos (by omega)]
        · rw [if_neg hb, if_neg (by omega)]
      rw [h4]
      by_cases a : Old E N
      · rw [if_pos a, if_pos (h3.1 a)]; omega
      · rw [if_neg a, if_neg (fun x => a (h3.2 x))]; omega
theorem num_join_lt {N : Nat} {E : Nat → Nat → Prop} (h : EqN N E) {p q a b : Nat} (hp : p < N) (hq : q < N) (ha : E a p) (hb : E b q) (hal : ∀ k, k < a → ¬ E k p) (hbl : ∀ k, k < b → ¬ E k q) (hbN : b < N) (hab : a < b) (hpq : ¬ E p q) : num (Jn E p q) N + 1 = num E N := by
  have haN : a < N := by omega
  have hold : ∀ k, k < N → k ≠ b → (Old E k ↔ Old (Jn E p q) k) := fun k hk hkb => by
    constructor
    · rintro ⟨k', h1, h2⟩; exact ⟨k', h1, .inl h2⟩
    · rintro ⟨k', h1, h2 | ⟨h2, h3⟩ | ⟨h2, h3⟩⟩
      · exact ⟨k', h1, h2⟩
      · -- k in the class of q, not its first
        have hkq : E k q := h.symm _ _ hq hk h3
        have hbk : b < k := by
          rcases Nat.lt_trichotomy b k with h4 | h4 | h4
          · exact h4
          · exact absurd h4.symm hkb
          · exact absurd hkq (hbl k h4)
        exact ⟨b, hbk, h.trans b q k hbN hq hk hb h3⟩
      · have hkp : E k p := h.symm _ _ hp hk h3
        by_cases hka : k = a
        · subst hka
          exact absurd h2 (hbl k' (by omega))
        · have hak : a < k := by
            rcases Nat.lt_trichotomy a k with h4 | h4 | h4
            · exact h4
            · exact absurd h4.symm hka
            · exact absurd hkp (hal k h4)
          exact ⟨a, hak, h.trans a p k haN hp hk ha h3⟩
  have h1 : ¬ Old E b := fun ⟨k', h1, h2⟩ => hbl k' h1 (h.trans k' b q (by omega) hbN hq h2 hb)
  have h2 : Old (Jn E p q) b := ⟨a, hab, .inr (.inl ⟨ha, h.symm _ _ hbN hq hb⟩)⟩
  have := num_drop h1 h2 hold
  rw [if_pos hbN] at this
  exact this
theorem num_join {N : Nat} {E : Nat → Nat → Prop} (h : EqN N E) {p q : Nat} (hp : p < N) (hq : q < N) (hpq : ¬ E p q) : num (Jn E p q) N + 1 = num E N := by
  obtain ⟨a, ha, hal⟩ := least (P := fun k => E k p) ⟨p, h.refl p hp⟩
  obtain ⟨b, hb, hbl⟩ := least (P := fun k => E k q) ⟨q, h.refl q hq⟩
  have haN : a < N := Nat.lt_of_not_le (fun hle => hal p (by omega) (h.refl p hp))
  have hbN : b < N := Nat.lt_of_not_le (fun hle => hbl q (by omega) (h.refl q hq))
  rcases Nat.lt_trichotomy a b with hab | hab | hab
  · exact num_join_lt h hp hq ha hb hal hbl hbN hab hpq
  · subst hab
    exact absurd (h.trans p a q hp haN hq (h.symm _ _ haN hp ha) hb) hpq
  · have hqp : ¬ E q p := fun e => hpq (h.symm _ _ hq hp e)
    have h1 := num_join_lt h hq hp hb ha hbl hal haN hab hqp
    have h2 : num (Jn E p q) N = num (Jn E q p) N := by
      have hs : ∀ k k', Jn E p q k k' ↔ Jn E q p k k' := fun k k' => ⟨fun e => e.imp id Or.symm, fun e => e.imp id Or.symm⟩
      exact Nat.le_antisymm (num_mono (fun k _ ⟨k', h3, h4⟩ => ⟨k', h3, (hs k' k).2 h4⟩)) (num_mono (fun k _ ⟨k', h3, h4⟩ => ⟨k', h3, (hs k' k).1 h4⟩))
    rw [h2]
    exact h1
theorem num_join_le {N : Nat} {E : Nat → Nat → Prop} (h : EqN N E) {p q : Nat} (hp : p < N) (hq : q < N) : num E N ≤ num (Jn E p q) N + 1 := by
  by_cases hpq : E p q
  · have : num E N ≤ num (Jn E p q) N := num_mono (fun k hk ⟨k', h1, h2⟩ => ⟨k', h1, by
      rcases h2 with h2 | ⟨h2, h3⟩ | ⟨h2, h3⟩
      · exact h2
      · exact h.trans k' p k (by omega) hp hk h2 (h.trans p q k hp hq hk hpq h3)
      · exact h.trans k' q k (by omega) hq hk h2 (h.trans q p k hq hp hk (h.symm _ _ hp hq hpq) h3)⟩)
    omega
  · have := num_join h hp hq hpq
    omega
def tw (p q x : Nat) : Nat := if x = p then q else if x = q then p else x
theorem tw_tw (p q x : Nat) : tw p q (tw p q x) = x := by
  unfold tw
  by_cases h1 : x = p
  · subst h1
    by_cases h2 : q = x
    · subst h2; simp
    · simp [h2]
  · by_cases h2 : x = q
    · subst h2; simp [h1]
    · simp [h1, h2]
theorem tw_lt {N p q x : Nat} (hp : p < N) (hq : q < N) (hx : x < N) : tw p q x < N := by
  unfold tw
  split
  · exact hq
  · split
    · exact hp
    · exact hx
def twφ (p q : Nat) (φ : Nat → Nat) (k : Nat) : Nat := tw p q (φ k)
theorem Turn.tw {N : Nat} {φ ψ : Nat → Nat} (hT : Turn N φ ψ) {p q : Nat} (hp : p < N) (hq : q < N) : Turn N (twφ p q φ) (fun x => ψ (Go.Proofs.YtdfiglhdjlmakaaGreat.tw p q x)) where
  fwd := fun a ha => ⟨tw_lt hp hq (hT.fwd a ha).1, by
    show ψ (Go.Proofs.YtdfiglhdjlmakaaGreat.tw p q (Go.Proofs.YtdfiglhdjlmakaaGreat.tw p q (φ a))) = a
    rw [tw_tw]; exact (hT.fwd a ha).2⟩
  bwd := fun b hb => ⟨(hT.bwd _ (tw_lt hp hq hb)).1, by
    show Go.Proofs.YtdfiglhdjlmakaaGreat.tw p q (φ (ψ (Go.Proofs.YtdfiglhdjlmakaaGreat.tw p q b))) = b
    rw [(hT.bwd _ (tw_lt hp hq hb)).2, tw_tw]⟩
theorem it_tw {p q : Nat} {φ : Nat → Nat} {a : Nat} : ∀ i, (∀ j, j < i → it φ (j + 1) a ≠ p ∧ it φ (j + 1) a ≠ q) → it (twφ p q φ) i a = it φ i a
  | 0, _ => rfl
  | i + 1, h => by
    have ih := it_tw (p := p) (q := q) i (fun j hj => h j (by omega))
    have h1 := h i (Nat.lt_succ_self _)
    show tw p q (φ (it (twφ p q φ) i a)) = φ (it φ i a)
    rw [ih]
    have h2 : φ (it φ i a) ≠ p ∧ φ (it φ i a) ≠ q := h1
    unfold tw
    rw [if_neg h2.1, if_neg h2.2]
section
variable {N : Nat} {φ ψ : Nat → Nat} (hT : Turn N φ ψ) {p q : Nat} (hp : p < N) (hq : q < N)
include hT hp hq
theorem to_other (hno : ¬ RR φ q p) : RR (twφ p q φ) q p := by
  obtain ⟨m, h0, _, hm, hone⟩ := period hT hq
  obtain ⟨m', rfl⟩ : ∃ m', m = m' + 1 := ⟨m - 1, by omega⟩
  have hs := it_tw (p := p) (q := q) (φ := φ) (a := q) m' (fun j hj => ⟨fun e => hno ⟨_, e⟩, fun e => by
    have := hone (j + 1) 0 (by omega) (by omega) e
    omega⟩)
  refine ⟨m' + 1, ?_⟩
  show tw p q (φ (it (twφ p q φ) m' q)) = p
  rw [hs]
  have e : φ (it φ m' q) = q := hm
  rw [e]
  unfold tw
  by_cases h : q = p
  · rw [if_pos h]; exact h
  · rw [if_neg h, if_pos rfl]
theorem to_other' (hno : ¬ RR φ p q) : RR (twφ p q φ) p q := by
  obtain ⟨m, h0, _, hm, hone⟩ := period hT hp
  obtain ⟨m', rfl⟩ : ∃ m', m = m' + 1 := ⟨m - 1, by omega⟩
  have hs := it_tw (p := p) (q := q) (φ := φ) (a := p) m' (fun j hj => ⟨fun e => by
    have := hone (j + 1) 0 (by omega) (by omega) e
    omega, fun e => hno ⟨_, e⟩⟩)
  refine ⟨m' + 1, ?_⟩
  show tw p q (φ (it (twφ p q φ) m' p)) = q
  rw [hs]
  have e : φ (it φ m' p) = p := hm
  rw [e]
  unfold tw
  rw [if_pos rfl]
theorem cycles_join (hno : ¬ RR φ p q) {k k' : Nat} (hk : k < N) : RR (twφ p q φ) k k' ↔ Jn (RR φ) p q k k' := by
  have hno' : ¬ RR φ q p := fun h => hno (h.symm hT hq)
  have a1 := to_other hT hp hq hno'
  have a2 := to_other' hT hp hq hno
  constructor
  · rintro ⟨j, rfl⟩
    induction j with
    | zero => exact .inl (RR.refl _ _)
    | succ j ih =>
      have post : ∀ y, RR φ (it (twφ p q φ) j k) y → Jn (RR φ) p q k y := fun y hy => ih.imp (fun h => h.trans hy) (Or.imp (fun h => ⟨h.1, h.2.trans hy⟩) (fun h => ⟨h.1, h.2.trans hy⟩))
      have h1 := post _ (RR.step φ _)
      show Jn (RR φ) p q k (tw p q (φ (it (twφ p q φ) j k)))
      unfold tw
      split
      · rename_i e
        rw [e] at h1
        rcases h1 with h | ⟨h, _⟩ | ⟨h, _⟩
        · exact .inr (.inl ⟨h, RR.refl _ _⟩)
        · exact .inr (.inl ⟨h, RR.refl _ _⟩)
        · exact .inl h
      · split
        · rename_i e
          rw [e] at h1
          rcases h1 with h | ⟨h, _⟩ | ⟨h, _⟩
          · exact .inr (.inr ⟨h, RR.refl _ _⟩)
          · exact .inl h
          · exact .inr (.inr ⟨h, RR.refl _ _⟩)
        · exact h1
  · have one : ∀ x, RR (twφ p q φ) x (φ x) := fun x => by
      have h1 := RR.step (twφ p q φ) x
      have h2 : twφ p q φ x = tw p q (φ x) := rfl
      rw [h2] at h1
      unfold tw at h1
      split at h1
      · rename_i e; rw [e]; exact h1.trans a1
      · split at h1
        · rename_i e; rw [e]; exact h1.trans a2
        · exact h1
    have all : ∀ j x, RR (twφ p q φ) x (it φ j x) := fun j x => by
      induction j with
      | zero => exact RR.refl _ _
      | succ j ih => exact ih.trans (one _)
    rintro (⟨j, rfl⟩ | ⟨⟨i, h1⟩, ⟨j, rfl⟩⟩ | ⟨⟨i, h1⟩, ⟨j, rfl⟩⟩)
    · exact all j k
    · have := all i k
      rw [h1] at this
      exact (this.trans a2).trans (all j q)
    · have := all i k
      rw [h1] at this
      exact (this.trans a1).trans (all j p)
theorem cycle_split (hpq : p ≠ q) (h : RR φ p q) : ¬ RR (twφ p q φ) p q := by
  obtain ⟨r, hr, hmin⟩ := least (P := fun j => it φ j p = q) h
  have hr0 : r ≠ 0 := fun e => by subst e; exact hpq hr
  obtain ⟨r', rfl⟩ : ∃ r', r = r' + 1 := ⟨r - 1, by omega⟩
  have hmid : ∀ j, j + 1 < r' + 1 → it φ (j + 1) p ≠ p := fun j hj e => by
    refine hmin (r' + 1 - (j + 1)) (by omega) ?_
    have := it_plus φ p (r' + 1 - (j + 1)) (j + 1)
    rw [e, show r' + 1 - (j + 1) + (j + 1) = r' + 1 by omega, hr] at this
    exact this
  have hs : ∀ i, i ≤ r' → it (twφ p q φ) i p = it φ i p := fun i hi => it_tw i (fun j hj => ⟨hmid j (by omega), hmin (j + 1) (by omega)⟩)
  have hback : it (twφ p q φ) (r' + 1) p = p := by
    show tw p q (φ (it (twφ p q φ) r' p)) = p
    rw [hs r' (Nat.le_refl _)]
    have e : φ (it φ r' p) = q := hr
    rw [e]
    unfold tw
    rw [if_neg (fun e => hpq e.symm), if_pos rfl]
  rintro ⟨j, hj⟩
  rw [it_rem hback (Nat.succ_pos _) j] at hj
  have hlt : j % (r' + 1) < r' + 1 := Nat.mod_lt _ (Nat.succ_pos _)
  rw [hs _ (by omega)] at hj
  exact hmin _ hlt hj
theorem RR_eqN : EqN N (RR φ) := ⟨fun k _ => RR.refl _ _, fun k k' hk _ h => h.symm hT hk, fun a b c _ _ _ h h' => h.trans h'⟩
theorem num_tw_join (hno : ¬ RR φ p q) : num (RR (twφ p q φ)) N + 1 = num (RR φ) N := by
  have h := num_join (RR_eqN hT hp hq) hp hq hno
  have h2 : num (RR (twφ p q φ)) N = num (Jn (RR φ) p q) N :=
    Nat.le_antisymm (num_mono (fun k hk ⟨k', h3, h4⟩ => ⟨k', h3, (cycles_join hT hp hq hno (by omega)).2 h4⟩)) (num_mono (fun k hk ⟨k', h3, h4⟩ => ⟨k', h3, (cycles_join hT hp hq hno (by omega)).1 h4⟩))
  rw [h2]
  exact h
theorem num_tw_split (hpq : p ≠ q) (h : RR φ p q) : num (RR (twφ p q φ)) N = num (RR φ) N + 1 := by
  have h1 := num_tw_join (hT.tw hp hq) hp hq (cycle_split hT hp hq hpq h)
  have h2 : twφ p q (twφ p q φ) = φ := funext fun k => tw_tw p q (φ k)
  rw [h2] at h1
  exact h1.symm
end
def rotC (k : Nat) : Nat := 4 * (k / 4) + (k % 4 + 1) % 4
theorem rotC_turn (n : Nat) : Turn (4 * n) rotC (fun k => 4 * (k / 4) + (k % 4 + 3) % 4) where
  fwd := fun a ha => by unfold rotC; constructor <;> omega
  bwd := fun b hb => by unfold rotC; constructor <;> omega
theorem rotC_div (k : Nat) : rotC k / 4 = k / 4 := by unfold rotC; omega
def sw : List (Nat × Nat) → Nat → Nat
  | [], x => x
  | e :: l, x => tw e.1 e.2 (sw l x)
def pm (l : List (Nat × Nat)) (k : Nat) : Nat := sw l (rotC k)
def cn : List (Nat × Nat) → Nat → Nat → Prop
  | [] => fun i j => i = j
  | e :: l => Jn (cn l) (e.1 / 4) (e.2 / 4)
def OkEnds (n : Nat) (l : List (Nat × Nat)) : Prop := ∀ e, e ∈ l → e.1 < 4 * n ∧ e.2 < 4 * n ∧ e.1 ≠ e.2
theorem OkEnds.tail {n : Nat} {e : Nat × Nat} {l : List (Nat × Nat)} (h : OkEnds n (e :: l)) : OkEnds n l := fun x hx => h x (List.mem_cons_of_mem _ hx)
theorem pm_cons (e : Nat × Nat) (l : List (Nat × Nat)) : pm (e :: l) = twφ e.1 e.2 (pm l) := rfl
theorem pm_turn {n : Nat} : ∀ {l : List (Nat × Nat)}, OkEnds n l → ∃ ψ, Turn (4 * n) (pm l) ψ
  | [], _ => ⟨_, rotC_turn n⟩
  | e :: l, h => by
    obtain ⟨ψ, hψ⟩ := pm_turn h.tail
    have he := h e (List.mem_cons_self ..)
    exact ⟨_, hψ.tw he.1 he.2.1⟩
theorem cn_eqN {n : Nat} : ∀ {l : List (Nat × Nat)}, OkEnds n l → EqN n (cn l)
  | [], _ => ⟨fun _ _ => rfl, fun _ _ _ _ h => h.symm, fun _ _ _ _ _ _ h h' => h.trans h'⟩
  | e :: l, h => by
    have he := h e (List.mem_cons_self ..)
    exact (cn_eqN h.tail).join (by omega) (by omega)
theorem cn_sw {n : Nat} : ∀ {l : List (Nat × Nat)}, OkEnds n l → ∀ x, x < 4 * n → sw l x < 4 * n ∧ cn l (x / 4) (sw l x / 4)
  | [], _, x, hx => ⟨hx, rfl⟩
  | e :: l, h, x, hx => by
    have he := h e (List.mem_cons_self ..)
    obtain ⟨h1, h2⟩ := cn_sw h.tail x hx
    have hE := cn_eqN h.tail
    refine ⟨tw_lt he.1 he.2.1 h1, ?_⟩
    show Jn (cn l) (e.1 / 4) (e.2 / 4) (x / 4) (tw e.1 e.2 (sw l x) / 4)
    unfold tw
    split
    · rename_i e1
      rw [e1] at h2
      exact .inr (.inl ⟨h2, hE.refl _ (by omega)⟩)
    · split
      · rename_i e1
        rw [e1] at h2
        exact .inr (.inr ⟨h2, hE.refl _ (by omega)⟩)
      · exact .inl h2
theorem cn_RR {n : Nat} {l : List (Nat × Nat)} (h : OkEnds n l) {k : Nat} (hk : k < 4 * n) : ∀ j, cn l (k / 4) (it (pm l) j k / 4)
  | 0 => (cn_eqN h).refl _ (by omega)
  | j + 1 => by
    obtain ⟨ψ, hT⟩ := pm_turn h
    have hlt := it_lt hT hk j
    have hr : rotC (it (pm l) j k) < 4 * n := ((rotC_turn n).fwd _ hlt).1
    obtain ⟨h1, h2⟩ := cn_sw h _ hr
    rw [rotC_div] at h2
    exact (cn_eqN h).trans _ _ _ (by omega) (by omega) (by show sw l (rotC (it (pm l) j k)) / 4 < n; omega) (cn_RR h hk j) h2
theorem num_eq (n : Nat) : num (fun i j : Nat => i = j) n = n := by
  induction n with
  | zero => rfl
  | succ n ih =>
    rw [num, ih, if_neg]
    rintro ⟨k', h1, h2⟩
    omega
theorem num_rot : ∀ n, num (RR rotC) (4 * n) ≤ n
  | 0 => Nat.le_refl _
  | n + 1 => by
    have ih := num_rot n
    have hold : ∀ i, i < 3 → Old (RR rotC) (4 * n + 1 + i) := fun i hi => by
      refine ⟨4 * n, by omega, i + 1, ?_⟩
      rcases (show i = 0 ∨ i = 1 ∨ i = 2 by omega) with h | h | h <;> subst h
      · show rotC (4 * n) = _; unfold rotC; omega
      · show rotC (rotC (4 * n)) = _; unfold rotC; omega
      · show rotC (rotC (rotC (4 * n))) = _; unfold rotC; omega
    have h1 := hold 0 (by decide)
    have h2 := hold 1 (by decide)
    have h3 := hold 2 (by decide)
    rw [show 4 * (n + 1) = 4 * n + 1 + 1 + 1 + 1 by omega, num, num, num, num, if_pos h3, if_pos h2, if_pos h1]
    split <;> omega
theorem euler {n : Nat} : ∀ {l : List (Nat × Nat)}, OkEnds n l → num (RR (pm l)) (4 * n) + n ≤ 2 * num (cn l) n + l.length
  | [], _ => by
    have h1 : num (RR (pm [])) (4 * n) ≤ n := num_rot n
    have h2 : num (cn []) n = n := num_eq n
    rw [h2, List.length_nil]
    omega
  | e :: l, h => by
    have ih := euler h.tail
    have he := h e (List.mem_cons_self ..)
    obtain ⟨ψ, hT⟩ := pm_turn h.tail
    have hE := cn_eqN h.tail
    rw [pm_cons, List.length_cons]
    have hc : num (cn l) n ≤ num (cn (e :: l)) n + 1 := num_join_le hE (by omega) (by omega)
    by_cases hr : RR (pm l) e.1 e.2
    · have h1 := num_tw_split hT he.1 he.2.1 he.2.2 hr
      have hcn : cn l (e.1 / 4) (e.2 / 4) := by
        obtain ⟨j, hj⟩ := hr
        have := cn_RR h.tail he.1 j
        rwa [hj] at this
      have h2 : num (cn l) n ≤ num (cn (e :: l)) n := num_mono (fun k hk ⟨k', h3, h4⟩ => ⟨k', h3, by
        rcases h4 with h4 | ⟨h4, h5⟩ | ⟨h4, h5⟩
        · exact h4
        · exact hE.trans _ _ _ (by omega) (by omega) hk (hE.trans _ _ _ (by omega) (by omega) (by omega) h4 hcn) h5
        · exact hE.trans _ _ _ (by omega) (by omega) hk (hE.trans _ _ _ (by omega) (by omega) (by omega) h4 (hE.symm _ _ (by omega) (by omega) hcn)) h5⟩)
      omega
    · have h1 := num_tw_join hT he.1 he.2.1 hr
      omega
end Go.Proofs.YtdfiglhdjlmakaaGreat
