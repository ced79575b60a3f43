/-
  How much a bench is bounds what marking counts; the copies of items, lists and stacks.
-/
import Derived.Test.YtkmeepgpmppibaaGreatDoorPlBM
set_option linter.unusedVariables false
set_option linter.unusedSimpArgs false
namespace Go.Proofs.YtkmeepgpmppibaaGreatDoor
open Go.RowKit
theorem Xo {n : Nat} {F : Nat → Int → Option Int} {left : Int} (h0 : 0 ≤ left) (h1 : left ≤ 1048576) (hn : n ≤ 9223372036854775807) {P : Int → Prop} (h : ∀ l, 0 ≤ l → l + (n : Int) = left → ∃ r, Ab (fun K => F K l) r ∧ (r < 0 ∨ P r)) :
    ∃ r, Ab (fun K => if w64 (left - (n : Int)) < 0 then some (-1) else F K (w64 (left - (n : Int)))) r ∧ (r < 0 ∨ P r) := by
  rw [H8 (by omega) (by omega)]
  by_cases hl : left - (n : Int) < 0
  · exact ⟨-1, Ab.pos hl (Ab.const _), .inl (by omega)⟩
  · obtain ⟨r, t, c⟩ := h (left - n) (by omega) (by omega)
    exact ⟨r, Ab.neg hl t, c⟩
theorem Tk {n : Nat} {l : Nat → Nat → Int → Nat → Option Int} {one : Nat → Nat → Int → Option Int} {Q : Nat → Prop} {wt : Nat → Nat}
    (hl : ∀ K k left i, i < n → l K (k + 1) left i = (one K i left).bind fun t => if t < 0 then some (-1) else l K k t (i + 1)) (he : ∀ K k left, l K (k + 1) left n = some left)
    (h1 : ∀ i, i < n → ∀ left : Int, 0 ≤ left → left ≤ 1048576 → ∃ r, Ab (fun K => one K i left) r ∧ (r < 0 ∨ (0 ≤ r ∧ 6 * r + (wt i : Int) ≤ 6 * left ∧ Q i))) :
    ∀ m i left, n - i = m → i ≤ n → 0 ≤ left → left ≤ 1048576 → ∃ r, Ac (fun K k => l K k left i) r ∧ (r < 0 ∨ (0 ≤ r ∧ 6 * r + (Nr wt i m : Int) ≤ 6 * left ∧ ∀ j, i ≤ j → j < n → Q j))
  | 0, i, left, hm, hi, z0, z1 => by
    obtain rfl : i = n := by omega
    exact ⟨left, Ac.of fun K k => he K k left, .inr ⟨z0, by simp [Nr], fun j a b => by omega⟩⟩
  | m + 1, i, left, hm, hi, z0, z1 => by
    obtain ⟨r, t, c⟩ := h1 i (by omega) left z0 z1
    by_cases hr : r < 0
    · exact ⟨-1, Ac.step (fun K k => hl K k left i (by omega)) (Ac.bind t.two (Ac.pos hr (Ac.const _))), .inl (by omega)⟩
    · obtain ⟨c0, c1, c2⟩ := c.resolve_left hr
      obtain ⟨r', t', d⟩ := Tk hl he h1 m (i + 1) r (by omega) (by omega) c0 (by omega)
      refine ⟨r', Ac.step (fun K k => hl K k left i (by omega)) (Ac.bind t.two (Ac.neg hr t')), ?_⟩
      rcases d with d | ⟨d0, d1, d2⟩
      · exact .inl d
      · refine .inr ⟨d0, by rw [Nr]; omega, fun j a b => ?_⟩
        by_cases e : j = i
        · subst e; exact c2
        · exact d2 j (by omega) b
theorem rF {xs : List (List Bt)} (hn : xs.length ≤ 9223372036854775807) (hr : ∀ i, i < xs.length → (xs.getD i []).length ≤ 9223372036854775807) {left : Int} (h0 : 0 ≤ left) (h1 : left ≤ 1048576) :
    ∃ r, Ab (fun K => Gd.f K xs left) r ∧ (r < 0 ∨ (0 ≤ r ∧ 6 * r + (cF xs : Int) ≤ 6 * left ∧ xs.length ≤ 2000000 ∧ ∀ j, j < xs.length → (xs.getD j []).length ≤ 2000000)) := by
  unfold Gd.f
  refine Oh (P := fun r => 0 ≤ r ∧ 6 * r + (cF xs : Int) ≤ 6 * left ∧ xs.length ≤ 2000000 ∧ ∀ j, j < xs.length → (xs.getD j []).length ≤ 2000000) ?_ fun r hr _ => ⟨r, Ab.const _, .inr hr⟩
  unfold Fj.f
  refine Xo (F := fun K l => Fj.l1 K K xs l 0) h0 h1 hn fun l0 a0 a1 => ?_
  obtain ⟨r, t, c⟩ := Tk (n := xs.length) (l := fun K k left i => Fj.l1 K k xs left (i : Int)) (one := fun K i left => K9.f (xs.getD i []) left) (Q := fun i => (xs.getD i []).length ≤ 2000000) (wt := fun i => 2 * (xs.getD i []).length)
    (fun K k left i hi => by rw [Fj.l1, if_pos (by omega), if_pos (by omega), Int.toNat_natCast, Cc (by omega)])
    (fun K k left => by rw [Fj.l1, if_neg (by omega)])
    (fun i hi left y0 y1 => Xo (F := fun _ l => some l) y0 y1 (hr i hi) fun l b0 b1 => ⟨l, Ab.const _, .inr ⟨b0, by omega, by omega⟩⟩) xs.length 0 l0 (by omega) (by omega) a0 (by omega)
  refine ⟨r, t.Ib, c.imp id fun ⟨c0, c1, c2⟩ => ⟨c0, ?_, by omega, fun j hj => c2 j (Nat.zero_le _) hj⟩⟩
  show 6 * r + (Nr (fun i => 2 * (xs.getD i []).length) 0 xs.length : Int) ≤ _
  omega
theorem fB {x : Am} (h : Fits x) {left : Int} (z0 : 0 ≤ left) (z1 : left ≤ 1048576) : ∃ r, Ab (fun K => szI K x left) r ∧ (r < 0 ∨ (0 ≤ r ∧ 6 * r + ((Lu x : Nat) : Int) ≤ 6 * left + 6 ∧ Small x)) := by
  obtain ⟨h1, ⟨h2, h2r⟩, h3, h4, h5, h6, h7⟩ := h
  unfold szI Kb.f Lu
  refine Xo (F := fun K l => (Gd.f K x.Ad l).bind _) z0 z1 h1 fun l0 a0 a1 => ?_
  refine Oh (rF h2 h2r a0 (by omega)) fun l1 ⟨b0, b1, b2⟩ _ => ?_
  unfold J9.f Jh.f Lb.f Hz.f Ij.f Ld.f Hz.f
  refine Oh (P := fun r => 0 ≤ r ∧ r + (x.Ae.length : Int) = l1) (Oh (P := fun r => 0 ≤ r ∧ r + (x.Ae.length : Int) = l1) (Xo (F := fun _ l => some l) b0 (by omega) h3 fun l e0 e1 => ⟨l, Ab.const _, .inr ⟨e0, e1⟩⟩) fun r hr _ => ⟨r, Ab.const _, .inr hr⟩) fun l2 ⟨c0, c1⟩ _ => ?_
  refine Oh (P := fun r => 0 ≤ r ∧ r + (x.Av.length : Int) = l2) (Oh (P := fun r => 0 ≤ r ∧ r + (x.Av.length : Int) = l2) (Xo (F := fun _ l => some l) c0 (by omega) h4 fun l e0 e1 => ⟨l, Ab.const _, .inr ⟨e0, e1⟩⟩) fun r hr _ => ⟨r, Ab.const _, .inr hr⟩) fun l3 ⟨d0, d1⟩ _ => ?_
  refine Oh (P := fun r => 0 ≤ r ∧ r + (x.Af.length : Int) + (x.Ai.length : Int) + (x.Ag.length : Int) = l3) ?_ fun l6 ⟨f0, f1⟩ _ => ⟨l6, Ab.const _, .inr ⟨f0, by omega, by omega, b2, by omega, by omega, by omega, by omega, by omega⟩⟩
  refine Oh (P := fun r => 0 ≤ r ∧ r + (x.Af.length : Int) = l3) (Xo (F := fun _ l => some l) d0 (by omega) h5 fun l e0 e1 => ⟨l, Ab.const _, .inr ⟨e0, e1⟩⟩) fun l4 ⟨e0, e1⟩ _ => ?_
  refine Oh (P := fun r => 0 ≤ r ∧ r + (x.Ai.length : Int) = l4) (Xo (F := fun _ l => some l) e0 (by omega) h6 fun l e0 e1 => ⟨l, Ab.const _, .inr ⟨e0, e1⟩⟩) fun l5 ⟨g0, g1⟩ _ => ?_
  exact Oh (P := fun r => 0 ≤ r ∧ r + (x.Ag.length : Int) = l5) (Xo (F := fun _ l => some l) g0 (by omega) h7 fun l e0 e1 => ⟨l, Ab.const _, .inr ⟨e0, e1⟩⟩) fun l6 ⟨p0, p1⟩ _ => ⟨l6, Ab.const _, .inr ⟨p0, by omega⟩⟩
theorem aG (f : Nat → Nat) (c : Nat) : ∀ m i, Nr (fun i => f i + c) i m = Nr f i m + c * m
  | 0, _ => rfl
  | m + 1, i => by rw [Nr, aG f c m, Nr, Nat.mul_succ]; omega
theorem eH {f g : Nat → Nat} : ∀ m i, (∀ j, i ≤ j → j < i + m → f j ≤ g j) → Nr f i m ≤ Nr g i m
  | 0, _, _ => Nat.le_refl _
  | m + 1, i, h => by
    have h1 := h i (Nat.le_refl _) (by omega)
    have h2 := eH m (i + 1) (fun j hj hj' => h j (by omega) (by omega))
    rw [Nr, Nr]; omega
theorem Ua (x : Am) : 6 ≤ Lu x := by unfold Lu; omega
theorem aF {xs : List Am} (hn : xs.length ≤ 9223372036854775807) (h : ∀ i, i < xs.length → Fits (xs.getD i Br)) {left : Int} (z0 : 0 ≤ left) (z1 : left ≤ 1048576) :
    ∃ r, Ab (fun K => Ev.f K xs left) r ∧ (r < 0 ∨ (0 ≤ r ∧ 6 * r + (Kk xs : Int) ≤ 6 * left ∧ xs.length ≤ 2000000 ∧ ∀ i, i < xs.length → Small (xs.getD i Br))) := by
  unfold Ev.f
  refine Xo (F := fun K l => Ev.l1 K K xs l 0) z0 z1 hn fun l0 a0 a1 => ?_
  obtain ⟨r, t, c⟩ := Tk (n := xs.length) (l := fun K k left i => Ev.l1 K k xs left (i : Int)) (one := fun K i left => szI K (xs.getD i Br) left) (Q := fun i => Small (xs.getD i Br)) (wt := fun i => Lu (xs.getD i Br) - 6)
    (fun K k left i hi => by rw [Ev.l1, if_pos (by omega), if_pos (by omega), Int.toNat_natCast, Fe, Cc (by omega)])
    (fun K k left => by rw [Ev.l1, if_neg (by omega)])
    (fun i hi left y0 y1 => by
      obtain ⟨r, t, c⟩ := fB (h i hi) y0 y1
      have := Ua (xs.getD i Br)
      exact ⟨r, t, c.imp id fun ⟨c0, c1, c2⟩ => ⟨c0, by omega, c2⟩⟩) xs.length 0 l0 (by omega) (by omega) a0 (by omega)
  refine ⟨r, t.Ib, c.imp id fun ⟨c0, c1, c2⟩ => ⟨c0, ?_, by omega, fun i hi => c2 i (Nat.zero_le _) hi⟩⟩
  have h1 := eH (f := fun i => Lu (xs.getD i Br)) (g := fun i => (Lu (xs.getD i Br) - 6) + 6) xs.length 0 (fun j _ _ => by have := Ua (xs.getD j Br); omega)
  rw [aG] at h1
  unfold Kk
  omega
theorem X4 {xs : List (List Am)} (hn : xs.length ≤ 9223372036854775807) (hr : ∀ i, i < xs.length → (xs.getD i []).length ≤ 9223372036854775807 ∧ ∀ j, j < (xs.getD i []).length → Fits ((xs.getD i []).getD j Br)) {left : Int} (z0 : 0 ≤ left) (z1 : left ≤ 1048576) :
    ∃ r, Ab (fun K => Ef.f K xs left) r ∧ (r < 0 ∨ (0 ≤ r ∧ 6 * r + (Hu xs : Int) ≤ 6 * left ∧ Jb xs)) := by
  unfold Ef.f
  refine Xo (F := fun K l => Ef.l1 K K xs l 0) z0 z1 hn fun l0 a0 a1 => ?_
  obtain ⟨r, t, c⟩ := Tk (n := xs.length) (l := fun K k left i => Ef.l1 K k xs left (i : Int)) (one := fun K i left => Ev.f K (xs.getD i []) left) (Q := fun i => (xs.getD i []).length ≤ 2000000 ∧ ∀ j, j < (xs.getD i []).length → Small ((xs.getD i []).getD j Br)) (wt := fun i => Kk (xs.getD i []))
    (fun K k left i hi => by rw [Ef.l1, if_pos (by omega), if_pos (by omega), Int.toNat_natCast, Cc (by omega)])
    (fun K k left => by rw [Ef.l1, if_neg (by omega)])
    (fun i hi left y0 y1 => aF (hr i hi).1 (hr i hi).2 y0 y1) xs.length 0 l0 (by omega) (by omega) a0 (by omega)
  refine ⟨r, t.Ib, c.imp id fun ⟨c0, c1, c2⟩ => ⟨c0, ?_, by omega, fun i hi => c2 i (Nat.zero_le _) hi⟩⟩
  unfold Hu
  omega
end Go.Proofs.YtkmeepgpmppibaaGreatDoor
