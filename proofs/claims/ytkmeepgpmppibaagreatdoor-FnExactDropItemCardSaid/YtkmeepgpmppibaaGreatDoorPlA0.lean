/-
  In how many rounds: words for 'from some number of rounds on the answer is this'; the law's own copying, comparing and marking of diagrams.
-/
import Derived.Test.YtkmeepgpmppibaaGreatDoorAlM
set_option linter.unusedVariables false
set_option linter.unusedSimpArgs false
namespace Go.Proofs.YtkmeepgpmppibaaGreatDoor
open Go.RowKit
def Tends {α : Type} (F : Nat → Option α) (r : α) : Prop := ∃ n, ∀ K, n ≤ K → F K = some r
def Tends2 {α : Type} (F : Nat → Nat → Option α) (r : α) : Prop := ∃ n, ∀ K k, n ≤ K → n ≤ k → F K k = some r
section
variable {α β γ δ ε ζ : Type}
theorem Tends.const (r : α) : Tends (fun _ => some r) r := ⟨0, fun _ _ => rfl⟩
theorem Tends2.const (r : α) : Tends2 (fun _ _ => some r) r := ⟨0, fun _ _ _ _ => rfl⟩
theorem Tends.congr {F G : Nat → Option α} {r : α} (h : ∀ K, F K = G K) (hg : Tends G r) : Tends F r := by
  obtain ⟨n, hn⟩ := hg
  exact ⟨n, fun K hK => (h K).trans (hn K hK)⟩
theorem Tends2.congr {F G : Nat → Nat → Option α} {r : α} (h : ∀ K k, F K k = G K k) (hg : Tends2 G r) : Tends2 F r := by
  obtain ⟨n, hn⟩ := hg
  exact ⟨n, fun K k hK hk => (h K k).trans (hn K k hK hk)⟩
theorem Tends2.succ {F : Nat → Nat → Option α} {r : α} (h : Tends2 (fun K k => F K (k + 1)) r) : Tends2 F r := by
  obtain ⟨n, hn⟩ := h
  refine ⟨n + 1, fun K k hK hk => ?_⟩
  obtain ⟨k', rfl⟩ : ∃ k', k = k' + 1 := ⟨k - 1, by omega⟩
  exact hn K k' (by omega) (by omega)
theorem Tends2.diag {F : Nat → Nat → Option α} {r : α} (h : Tends2 F r) : Tends (fun K => F K K) r := by
  obtain ⟨n, hn⟩ := h
  exact ⟨n, fun K hK => hn K K hK hK⟩
theorem Tends.two {F : Nat → Option α} {r : α} (h : Tends F r) : Tends2 (fun K _ => F K) r := by
  obtain ⟨n, hn⟩ := h
  exact ⟨n, fun K k hK hk => hn K hK⟩
theorem Tends.bind {F : Nat → Option α} {G : Nat → α → Option β} {a : α} {r : β} (h : Tends F a) (g : Tends (fun K => G K a) r) : Tends (fun K => (F K).bind (G K)) r := by
  obtain ⟨n, hn⟩ := h
  obtain ⟨m, hm⟩ := g
  exact ⟨n + m, fun K hK => by show (F K).bind (G K) = some r; rw [hn K (by omega)]; exact hm K (by omega)⟩
theorem Tends.bind2 {F : Nat → Option (α × β)} {G : Nat → α → β → Option γ} {a : α} {b : β} {r : γ} (h : Tends F (a, b)) (g : Tends (fun K => G K a b) r) : Tends (fun K => Go.Proofs.YtkmeepgpmppibaaGreatDoor.bind2 (F K) (G K)) r := by
  obtain ⟨n, hn⟩ := h
  obtain ⟨m, hm⟩ := g
  exact ⟨n + m, fun K hK => by show Go.Proofs.YtkmeepgpmppibaaGreatDoor.bind2 (F K) (G K) = some r; rw [hn K (by omega)]; exact hm K (by omega)⟩
theorem Tends.bind3 {F : Nat → Option (α × β × γ)} {G : Nat → α → β → γ → Option δ} {a : α} {b : β} {c : γ} {r : δ} (h : Tends F (a, b, c)) (g : Tends (fun K => G K a b c) r) : Tends (fun K => Go.Proofs.YtkmeepgpmppibaaGreatDoor.bind3 (F K) (G K)) r := by
  obtain ⟨n, hn⟩ := h
  obtain ⟨m, hm⟩ := g
  exact ⟨n + m, fun K hK => by show Go.Proofs.YtkmeepgpmppibaaGreatDoor.bind3 (F K) (G K) = some r; rw [hn K (by omega)]; exact hm K (by omega)⟩
theorem Tends2.bind {F : Nat → Nat → Option α} {G : Nat → Nat → α → Option β} {a : α} {r : β} (h : Tends2 F a) (g : Tends2 (fun K k => G K k a) r) : Tends2 (fun K k => (F K k).bind (G K k)) r := by
  obtain ⟨n, hn⟩ := h
  obtain ⟨m, hm⟩ := g
  exact ⟨n + m, fun K k hK hk => by show (F K k).bind (G K k) = some r; rw [hn K k (by omega) (by omega)]; exact hm K k (by omega) (by omega)⟩
theorem Tends2.bind2 {F : Nat → Nat → Option (α × β)} {G : Nat → Nat → α → β → Option γ} {a : α} {b : β} {r : γ} (h : Tends2 F (a, b)) (g : Tends2 (fun K k => G K k a b) r) : Tends2 (fun K k => Go.Proofs.YtkmeepgpmppibaaGreatDoor.bind2 (F K k) (G K k)) r := by
  obtain ⟨n, hn⟩ := h
  obtain ⟨m, hm⟩ := g
  exact ⟨n + m, fun K k hK hk => by show Go.Proofs.YtkmeepgpmppibaaGreatDoor.bind2 (F K k) (G K k) = some r; rw [hn K k (by omega) (by omega)]; exact hm K k (by omega) (by omega)⟩
theorem Tends.get {F : Nat → Option α} {r : α} (h : Tends F r) : ∃ K, F K = some r := by
  obtain ⟨n, hn⟩ := h
  exact ⟨n, hn n (Nat.le_refl _)⟩
end
theorem w64_succ {j : Nat} (h : j < 4611686018427387904) : w64 ((j : Int) + 1) = ((j + 1 : Nat) : Int) := by rw [w64_id (by omega) (by omega)]; omega
theorem w64_nat {j : Nat} (h : j < 4611686018427387904) : w64 (j : Int) = (j : Int) := w64_id (by omega) (by omega)
theorem bnd_eq {α β : Type} (x : β) (f : β → Option α) : bnd x f = f x := rfl
theorem toCrossingS_l1 {xs : List GCrossing} (hn : xs.length ≤ 2000000) : ∀ (m i : Nat) (out : List GCrossing), xs.length - i = m → i ≤ xs.length → out.length = xs.length → (∀ j, j < i → out[j]? = xs[j]?) →
    Tends2 (fun K k => laws_toCrossingS.l1 K k xs out (i : Int)) xs
  | 0, i, out, hm, hi, hl, ho => by
    have he : out = xs := by
      apply List.ext_getElem?
      intro j
      by_cases hj : j < i
      · exact ho j hj
      · rw [List.getElem?_eq_none (by omega), List.getElem?_eq_none (by omega)]
    refine Tends2.succ (Tends2.congr (G := fun _ _ => some xs) (fun K k => ?_) (Tends2.const _))
    rw [laws_toCrossingS.l1, if_neg (by omega), he]
  | m + 1, i, out, hm, hi, hl, ho => by
    have hlt : i < xs.length := by omega
    have ih := toCrossingS_l1 hn m (i + 1) (out.set i xs[i]) (by omega) (by omega) (by rw [List.length_set]; exact hl) (fun j hj => by
      by_cases hij : i = j
      · subst hij; rw [List.getElem?_set_self (by omega), List.getElem?_eq_getElem hlt]
      · rw [List.getElem?_set_ne hij]; exact ho j (by omega))
    refine Tends2.succ (Tends2.congr (fun K k => ?_) ih)
    rw [laws_toCrossingS.l1, if_pos (by omega), if_pos (by omega), bnd_eq]
    simp only [laws_toCrossing.f, bind5, Option.bind_some]
    rw [if_pos (by omega), Int.toNat_natCast, w64_succ (by omega), List.getD_eq_getElem?_getD, List.getElem?_eq_getElem hlt]
    rfl
theorem toCrossingS {xs : List GCrossing} (hn : xs.length ≤ 2000000) : Tends (fun K => laws_toCrossingS.f K xs) xs := by
  refine Tends.congr (fun K => ?_) (toCrossingS_l1 hn xs.length 0 (List.replicate xs.length z_GCrossing) (by omega) (by omega) (by simp) (fun j hj => by omega)).diag
  rw [laws_toCrossingS.f, if_pos (by omega), if_pos (by omega), Int.toNat_natCast]
  rfl
theorem toDiagram {xs : List GCrossing} (hn : xs.length ≤ 2000000) (c : Int) : Tends (fun K => laws_toDiagram.f K xs c) (xs, c) := (toCrossingS hn).bind (Tends.const _)
theorem eqCrossingS_l1 {xs : List GCrossing} (hn : xs.length ≤ 2000000) : ∀ (m i : Nat), xs.length - i = m → Tends2 (fun K k => laws_eqCrossingS.l1 K k xs xs (i : Int)) true
  | 0, i, hm => by
    refine Tends2.succ (Tends2.congr (G := fun _ _ => some true) (fun K k => ?_) (Tends2.const _))
    rw [laws_eqCrossingS.l1, if_neg (by omega)]
  | m + 1, i, hm => by
    refine Tends2.succ (Tends2.congr (fun K k => ?_) (eqCrossingS_l1 hn m (i + 1) (by omega)))
    rw [laws_eqCrossingS.l1, if_pos (by omega), if_pos (by omega), bnd_eq, if_pos (by omega), bnd_eq]
    simp only [laws_eqCrossing.f, if_true, Option.bind_some]
    rw [w64_succ (by omega)]
theorem eqDiagram {xs : List GCrossing} (hn : xs.length ≤ 2000000) (c : Int) : Tends (fun K => laws_eqDiagram.f K xs c xs c) true := by
  refine Tends.bind (a := true) (Tends.congr (fun K => ?_) (eqCrossingS_l1 hn xs.length 0 (by omega)).diag) (Tends.congr (G := fun _ => some true) (fun K => by simp) (Tends.const _))
  rw [laws_eqCrossingS.f, if_pos rfl]
  rfl
end Go.Proofs.YtkmeepgpmppibaaGreatDoor
