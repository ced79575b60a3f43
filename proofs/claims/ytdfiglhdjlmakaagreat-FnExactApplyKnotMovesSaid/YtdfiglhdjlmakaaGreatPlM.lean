/-
  Places at crossings get other arcs; copies; ranges; corners.
-/
import Derived.Test.YtdfiglhdjlmakaaGreatPlH
set_option linter.unusedVariables false
set_option linter.unusedSimpArgs false
set_option linter.unusedSectionVars false
namespace Go.Proofs.YtdfiglhdjlmakaaGreat
open Go.RowKit
theorem Tends.some_ {α β : Type} {G : Nat → α → Option β} {a : α} {r : β} (g : Tends (fun K => G K a) r) : Tends (fun K => (some a).bind (G K)) r := g
def withArc (x : GCrossing) (p : Nat) (a : Int) : GCrossing := match p with
  | 0 => ⟨a, x.B, x.C, x.D, x.Sign⟩
  | 1 => ⟨x.A, a, x.C, x.D, x.Sign⟩
  | 2 => ⟨x.A, x.B, a, x.D, x.Sign⟩
  | _ => ⟨x.A, x.B, x.C, a, x.Sign⟩
theorem set_eq {xs : List GCrossing} {cs : Int} {c p : Nat} (hc : c < xs.length) (hp : p < 4) (a : Int) : impl_Diagram_set.f xs cs (c : Int) (p : Int) a = some (xs.set c (withArc (xs.getD c z_GCrossing) p a)) := by
  unfold impl_Diagram_set.f
  rw [if_pos (by omega), bnd_eq, Int.toNat_natCast]
  match p, hp with
  | 0, _ | 1, _ | 2, _ | 3, _ => rfl
theorem range_eq (v : Int) (lo hi : Int) : impl_inRange.f v lo hi = some (decide (lo ≤ v ∧ v ≤ hi)) := by
  unfold impl_inRange.f
  by_cases h : lo ≤ v <;> simp [h]
theorem In_eq (v : Int) (lo hi : Int) : spec_l01In.f v lo hi = some (decide (lo ≤ v ∧ v ≤ hi)) := by
  unfold spec_l01In.f
  by_cases h : lo ≤ v <;> simp [h]
theorem clone_eq {xs : List GCrossing} (h : xs.length ≤ 2000000) : slices_Clone_impl_Crossing_impl_Crossing.f xs = some xs := by
  unfold slices_Clone_impl_Crossing_impl_Crossing.f
  rw [if_pos (by simp; omega)]
  rfl
theorem eta' (x : GCrossing) : (⟨x.A, x.B, x.C, x.D, x.Sign⟩ : GCrossing) = x := rfl
def behind (k : Nat) : Nat := 4 * (k / 4) + (k % 4 + 1) % 4
theorem corner_div {k : Nat} (h : k < 1000000) : w64 ((k : Int).tdiv 4) = ((k / 4 : Nat) : Int) := by
  have : (k : Int).tdiv 4 = ((k / 4 : Nat) : Int) := rfl
  rw [this]; exact w64_nat (by omega)
theorem corner_mod {k : Nat} (h : k < 1000000) : (w64 ((k : Int).tmod 4 + 1)).tmod 4 = (((k % 4 + 1) % 4 : Nat) : Int) := by
  have h1 : (k : Int).tmod 4 = ((k % 4 : Nat) : Int) := rfl
  rw [h1, w64_succ (by omega)]
  rfl
theorem corner_mod' {k : Nat} (h : k < 1000000) : (w64 ((k : Int) + 1)).tmod 4 = (((k % 4 + 1) % 4 : Nat) : Int) := by
  rw [w64_succ (by omega)]
  have : (((k + 1 : Nat) : Int)).tmod 4 = (((k + 1) % 4 : Nat) : Int) := rfl
  rw [this]
  omega
theorem withArc_sign (x : GCrossing) (p : Nat) (a : Int) : (withArc x p a).Sign = x.Sign := by
  unfold withArc
  split <;> rfl
def SameSigns (xs list : List GCrossing) : Prop := list.length = xs.length ∧ ∀ c, c < xs.length → (list.getD c z_GCrossing).Sign = (xs.getD c z_GCrossing).Sign
theorem getD_set_eq {list : List GCrossing} {c : Nat} (h : c < list.length) (y : GCrossing) : (list.set c y).getD c z_GCrossing = y := set_set_get h y
theorem getD_set_ne {list : List GCrossing} {c c' : Nat} (h : c ≠ c') (y : GCrossing) : (list.set c y).getD c' z_GCrossing = list.getD c' z_GCrossing := by
  rw [List.getD_eq_getElem?_getD, List.getElem?_set_ne h, ← List.getD_eq_getElem?_getD]
theorem SameSigns.set {xs list : List GCrossing} (h : SameSigns xs list) {c : Nat} (hc : c < xs.length) {y : GCrossing} (hy : y.Sign = (xs.getD c z_GCrossing).Sign) : SameSigns xs (list.set c y) := by
  refine ⟨by rw [List.length_set]; exact h.1, fun c' hc' => ?_⟩
  by_cases e : c = c'
  · subst e
    rw [getD_set_eq (by rw [h.1]; exact hc), hy]
  · rw [getD_set_ne e]; exact h.2 c' hc'
theorem get_end {l : List GEnd} {e : Nat} {x : GEnd} (h : l[e]? = some x) : l.getD e z_GEnd = x := by rw [List.getD_eq_getElem?_getD, h]; rfl
theorem ends_get (x : GCrossing) (p : Nat) : ([x.A, x.B, x.C, x.D] : List Int).getD p 0 = endv x p := rfl
end Go.Proofs.YtdfiglhdjlmakaaGreat
