/-
  Ways: from each arc that begins at a crossing that stays, over arcs that lead to crossings that go, to one that leads to a crossing that stays. No program in sight.
-/
import Derived.Test.YtdfiglhdjlmakaaGreatPlM
set_option linter.unusedVariables false
set_option linter.unusedSimpArgs false
set_option linter.unusedSectionVars false
namespace Go.Proofs.YtdfiglhdjlmakaaGreat
open Go.RowKit
theorem pigeon : ∀ (N : Nat) (s : Nat → Nat), (∀ i, i ≤ N → s i < N) → ∃ i j, i < j ∧ j ≤ N ∧ s i = s j
  | 0, s, h => absurd (h 0 (Nat.le_refl _)) (Nat.not_lt_zero _)
  | N + 1, s, h => by
    by_cases he : ∃ i, i ≤ N ∧ s i = s (N + 1)
    · obtain ⟨i, hi, e⟩ := he
      exact ⟨i, N + 1, by omega, Nat.le_refl _, e⟩
    · have hne : ∀ i, i ≤ N → s i ≠ s (N + 1) := fun i hi e => he ⟨i, hi, e⟩
      obtain ⟨i, j, hij, hj, e⟩ := pigeon N (fun i => if s i = N then s (N + 1) else s i) (fun i hi => by
        have h1 := h i (by omega)
        have h2 := h (N + 1) (Nat.le_refl _)
        have h3 := hne i hi
        show (if s i = N then s (N + 1) else s i) < N
        split <;> omega)
      have h1 := hne i (by omega)
      have h2 := hne j hj
      refine ⟨i, j, hij, by omega, ?_⟩
      have e : (if s i = N then s (N + 1) else s i) = (if s j = N then s (N + 1) else s j) := e
      split at e <;> split at e <;> omega
structure Wire (N : Nat) (G Lf : Nat → Bool) (nx pv : Nat → Nat) : Prop where
  fwd : ∀ a, a < N → G a = true → nx a < N ∧ Lf (nx a) = true ∧ pv (nx a) = a
  bwd : ∀ b, b < N → Lf b = true → pv b < N ∧ G (pv b) = true ∧ nx (pv b) = b
inductive Way (G : Nat → Bool) (nx : Nat → Nat) (a : Nat) : Nat → Nat → Prop
  | refl : Way G nx a 0 a
  | step {i b : Nat} : Way G nx a i b → G b = true → Way G nx a (i + 1) (nx b)
def Start (N : Nat) (Lf : Nat → Bool) (a : Nat) : Prop := a < N ∧ Lf a = false
def On (N : Nat) (G Lf : Nat → Bool) (nx : Nat → Nat) (b : Nat) : Prop := ∃ a i, Start N Lf a ∧ Way G nx a i b
section
variable {N : Nat} {G Lf : Nat → Bool} {nx pv : Nat → Nat}
theorem Way.zero {a b : Nat} (h : Way G nx a 0 b) : b = a := by cases h; rfl
theorem Way.succ {a i b : Nat} (h : Way G nx a (i + 1) b) : ∃ c, Way G nx a i c ∧ G c = true ∧ b = nx c := by
  cases h with
  | step h1 h2 => exact ⟨_, h1, h2, rfl⟩
theorem Way.det {a : Nat} : ∀ {i b b' : Nat}, Way G nx a i b → Way G nx a i b' → b = b'
  | 0, b, b', h, h' => h.zero.trans h'.zero.symm
  | i + 1, b, b', h, h' => by
    obtain ⟨c, h1, _, rfl⟩ := h.succ
    obtain ⟨c', h2, _, rfl⟩ := h'.succ
    rw [h1.det h2]
theorem Way.before {a : Nat} : ∀ {j b i : Nat}, Way G nx a j b → i < j → ∃ c, Way G nx a i c ∧ G c = true
  | 0, _, _, _, h => absurd h (Nat.not_lt_zero _)
  | j + 1, b, i, h, hi => by
    obtain ⟨c, h1, h2, _⟩ := h.succ
    by_cases e : i = j
    · subst e; exact ⟨c, h1, h2⟩
    · exact h1.before (by omega)
theorem Way.head {a : Nat} (hg : G a = true) : ∀ {i b : Nat}, Way G nx (nx a) i b → Way G nx a (i + 1) b
  | 0, b, h => by rw [h.zero]; exact .step .refl hg
  | i + 1, b, h => by
    obtain ⟨c, h1, h2, rfl⟩ := h.succ
    exact .step (Way.head hg h1) h2
variable (hw : Wire N G Lf nx pv)
include hw
theorem Way.lt {a : Nat} (ha : a < N) : ∀ {i b : Nat}, Way G nx a i b → b < N
  | 0, b, h => by rw [h.zero]; exact ha
  | i + 1, b, h => by
    obtain ⟨c, h1, h2, rfl⟩ := h.succ
    exact (hw.fwd c (h1.lt ha) h2).1
theorem Wire.inj {c c' : Nat} (hc : c < N) (hc' : c' < N) (hg : G c = true) (hg' : G c' = true) (e : nx c = nx c') : c = c' := by
  rw [← (hw.fwd c hc hg).2.2, e, (hw.fwd c' hc' hg').2.2]
theorem Way.one {a a' : Nat} (ha : Start N Lf a) (ha' : Start N Lf a') : ∀ {i j b : Nat}, Way G nx a i b → Way G nx a' j b → i = j ∧ a = a'
  | 0, 0, b, h, h' => ⟨rfl, h.zero.symm.trans h'.zero⟩
  | 0, j + 1, b, h, h' => by
    obtain ⟨c, h1, h2, e⟩ := h'.succ
    have := (hw.fwd c (h1.lt hw ha'.1) h2).2.1
    rw [← e, h.zero, ha.2] at this
    cases this
  | i + 1, 0, b, h, h' => by
    obtain ⟨c, h1, h2, e⟩ := h.succ
    have := (hw.fwd c (h1.lt hw ha.1) h2).2.1
    rw [← e, h'.zero, ha'.2] at this
    cases this
  | i + 1, j + 1, b, h, h' => by
    obtain ⟨c, h1, h2, rfl⟩ := h.succ
    obtain ⟨c', h3, h4, e⟩ := h'.succ
    have := hw.inj (h1.lt hw ha.1) (h3.lt hw ha'.1) h2 h4 e
    subst this
    obtain ⟨e1, e2⟩ := h1.one ha ha' h3
    exact ⟨by omega, e2⟩
theorem Way.short {a i b : Nat} (ha : Start N Lf a) (h : Way G nx a i b) : i < N := by
  refine Nat.lt_of_not_le (fun hle => ?_)
  have hex : ∀ j, j ≤ N → ∃ c, Way G nx a j c := fun j hj => by
    by_cases e : j = i
    · subst e; exact ⟨b, h⟩
    · obtain ⟨c, hc, _⟩ := h.before (i := j) (by omega)
      exact ⟨c, hc⟩
  have hs : ∀ j, ∃ c, j ≤ N → Way G nx a j c := fun j => by
    by_cases hj : j ≤ N
    · obtain ⟨c, hc⟩ := hex j hj
      exact ⟨c, fun _ => hc⟩
    · exact ⟨0, fun h => absurd h hj⟩
  obtain ⟨i', j', hij, hj, e⟩ := pigeon N (fun j => Classical.choose (hs j)) (fun j hj => (Classical.choose_spec (hs j) hj).lt hw ha.1)
  have h1 := Classical.choose_spec (hs i') (by omega)
  have h2 := Classical.choose_spec (hs j') hj
  have e : Classical.choose (hs i') = Classical.choose (hs j') := e
  rw [e] at h1
  have := (h1.one hw ha ha h2).1
  omega
theorem Way.back {x : Nat} (hx : x < N) : ∀ i, (∃ y, y < N ∧ Way G nx y i x) ∨ On N G Lf nx x
  | 0 => .inl ⟨x, hx, .refl⟩
  | i + 1 => by
    rcases Way.back hx i with ⟨y, hy, h⟩ | h
    · cases hl : Lf y with
      | true =>
        obtain ⟨h1, h2, h3⟩ := hw.bwd y hy hl
        exact .inl ⟨pv y, h1, Way.head h2 (by rw [h3]; exact h)⟩
      | false => exact .inr ⟨y, i, ⟨hy, hl⟩, h⟩
    · exact .inr h
theorem on_end {x : Nat} (hx : x < N) (hg : G x = false) : On N G Lf nx x := by
  refine Classical.byContradiction (fun hno => ?_)
  have hs : ∀ i, ∃ y, y < N ∧ Way G nx y i x := fun i => (Way.back hw hx i).resolve_right hno
  obtain ⟨i, j, hij, hj, e⟩ := pigeon N (fun j => Classical.choose (hs j)) (fun j _ => (Classical.choose_spec (hs j)).1)
  have h1 := (Classical.choose_spec (hs i)).2
  have h2 := (Classical.choose_spec (hs j)).2
  have e : Classical.choose (hs i) = Classical.choose (hs j) := e
  rw [e] at h1
  obtain ⟨c, hc, hgc⟩ := h2.before hij
  rw [h1.det hc, hgc] at hg
  cases hg
theorem on_next {b : Nat} (hb : b < N) (hg : G b = true) : On N G Lf nx (nx b) ↔ On N G Lf nx b := by
  constructor
  · rintro ⟨a, i, ha, h⟩
    cases i with
    | zero =>
      have := (hw.fwd b hb hg).2.1
      rw [h.zero, ha.2] at this
      cases this
    | succ i =>
      obtain ⟨c, h1, h2, e⟩ := h.succ
      have := hw.inj hb (h1.lt hw ha.1) hg h2 e
      subst this
      exact ⟨a, i, ha, h1⟩
  · rintro ⟨a, i, ha, h⟩
    exact ⟨a, i + 1, ha, .step h hg⟩
omit hw
def numOf (Lf : Nat → Bool) : Nat → Nat
  | 0 => 0
  | a + 1 => numOf Lf a + if Lf a = true then 0 else 1
theorem numOf_le (Lf : Nat → Bool) : ∀ a, numOf Lf a ≤ a
  | 0 => Nat.le_refl _
  | a + 1 => by
    have := numOf_le Lf a
    rw [numOf]
    split <;> omega
open Classical in
noncomputable def wayNo (N : Nat) (G Lf : Nat → Bool) (nx : Nat → Nat) (b : Nat) : Int := if h : On N G Lf nx b then (numOf Lf (Classical.choose h) : Int) else 0
include hw
theorem wayNo_eq {a i b : Nat} (ha : Start N Lf a) (h : Way G nx a i b) : wayNo N G Lf nx b = (numOf Lf a : Int) := by
  have hon : On N G Lf nx b := ⟨a, i, ha, h⟩
  unfold wayNo
  rw [dif_pos hon]
  obtain ⟨i', hs, hway⟩ := Classical.choose_spec hon
  rw [(hway.one hw hs ha h).2]
end
end Go.Proofs.YtdfiglhdjlmakaaGreat
