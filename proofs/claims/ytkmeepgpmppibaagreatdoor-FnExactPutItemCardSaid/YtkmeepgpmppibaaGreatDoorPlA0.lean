/-
  In how many rounds: words for 'from some number of rounds on the answer is this'; the law's own copying, comparing and marking of diagrams.
-/
import Derived.Test.YtkmeepgpmppibaaGreatDoorAlM
set_option linter.unusedVariables false
set_option linter.unusedSimpArgs false
namespace Go.Proofs.YtkmeepgpmppibaaGreatDoor
open Go.RowKit
def Ab {α : Type} (F : Nat → Option α) (r : α) : Prop := ∃ n, ∀ K, n ≤ K → F K = some r
def Ac {α : Type} (F : Nat → Nat → Option α) (r : α) : Prop := ∃ n, ∀ K k, n ≤ K → n ≤ k → F K k = some r
section
variable {α β γ δ ε ζ : Type}
theorem Ab.const (r : α) : Ab (fun _ => some r) r := ⟨0, fun _ _ => rfl⟩
theorem Ac.const (r : α) : Ac (fun _ _ => some r) r := ⟨0, fun _ _ _ _ => rfl⟩
theorem Ab.congr {F G : Nat → Option α} {r : α} (h : ∀ K, F K = G K) (hg : Ab G r) : Ab F r := by
  obtain ⟨n, hn⟩ := hg
  exact ⟨n, fun K hK => (h K).trans (hn K hK)⟩
theorem Ac.congr {F G : Nat → Nat → Option α} {r : α} (h : ∀ K k, F K k = G K k) (hg : Ac G r) : Ac F r := by
  obtain ⟨n, hn⟩ := hg
  exact ⟨n, fun K k hK hk => (h K k).trans (hn K k hK hk)⟩
theorem Ac.succ {F : Nat → Nat → Option α} {r : α} (h : Ac (fun K k => F K (k + 1)) r) : Ac F r := by
  obtain ⟨n, hn⟩ := h
  refine ⟨n + 1, fun K k hK hk => ?_⟩
  obtain ⟨k', rfl⟩ : ∃ k', k = k' + 1 := ⟨k - 1, by omega⟩
  exact hn K k' (by omega) (by omega)
theorem Ac.Ib {F : Nat → Nat → Option α} {r : α} (h : Ac F r) : Ab (fun K => F K K) r := by
  obtain ⟨n, hn⟩ := h
  exact ⟨n, fun K hK => hn K K hK hK⟩
theorem Ab.two {F : Nat → Option α} {r : α} (h : Ab F r) : Ac (fun K _ => F K) r := by
  obtain ⟨n, hn⟩ := h
  exact ⟨n, fun K k hK hk => hn K hK⟩
theorem Ab.bind {F : Nat → Option α} {G : Nat → α → Option β} {a : α} {r : β} (h : Ab F a) (g : Ab (fun K => G K a) r) : Ab (fun K => (F K).bind (G K)) r := by
  obtain ⟨n, hn⟩ := h
  obtain ⟨m, hm⟩ := g
  exact ⟨n + m, fun K hK => by show (F K).bind (G K) = some r; rw [hn K (by omega)]; exact hm K (by omega)⟩
theorem Ab.Ed {F : Nat → Option (α × β)} {G : Nat → α → β → Option γ} {a : α} {b : β} {r : γ} (h : Ab F (a, b)) (g : Ab (fun K => G K a b) r) : Ab (fun K => Go.Proofs.YtkmeepgpmppibaaGreatDoor.Ed (F K) (G K)) r := by
  obtain ⟨n, hn⟩ := h
  obtain ⟨m, hm⟩ := g
  exact ⟨n + m, fun K hK => by show Go.Proofs.YtkmeepgpmppibaaGreatDoor.Ed (F K) (G K) = some r; rw [hn K (by omega)]; exact hm K (by omega)⟩
theorem Ab.M8 {F : Nat → Option (α × β × γ)} {G : Nat → α → β → γ → Option δ} {a : α} {b : β} {c : γ} {r : δ} (h : Ab F (a, b, c)) (g : Ab (fun K => G K a b c) r) : Ab (fun K => Go.Proofs.YtkmeepgpmppibaaGreatDoor.M8 (F K) (G K)) r := by
  obtain ⟨n, hn⟩ := h
  obtain ⟨m, hm⟩ := g
  exact ⟨n + m, fun K hK => by show Go.Proofs.YtkmeepgpmppibaaGreatDoor.M8 (F K) (G K) = some r; rw [hn K (by omega)]; exact hm K (by omega)⟩
theorem Ac.bind {F : Nat → Nat → Option α} {G : Nat → Nat → α → Option β} {a : α} {r : β} (h : Ac F a) (g : Ac (fun K k => G K k a) r) : Ac (fun K k => (F K k).bind (G K k)) r := by
  obtain ⟨n, hn⟩ := h
  obtain ⟨m, hm⟩ := g
  exact ⟨n + m, fun K k hK hk => by show (F K k).bind (G K k) = some r; rw [hn K k (by omega) (by omega)]; exact hm K k (by omega) (by omega)⟩
theorem Ac.Ed {F : Nat → Nat → Option (α × β)} {G : Nat → Nat → α → β → Option γ} {a : α} {b : β} {r : γ} (h : Ac F (a, b)) (g : Ac (fun K k => G K k a b) r) : Ac (fun K k => Go.Proofs.YtkmeepgpmppibaaGreatDoor.Ed (F K k) (G K k)) r := by
  obtain ⟨n, hn⟩ := h
  obtain ⟨m, hm⟩ := g
  exact ⟨n + m, fun K k hK hk => by show Go.Proofs.YtkmeepgpmppibaaGreatDoor.Ed (F K k) (G K k) = some r; rw [hn K k (by omega) (by omega)]; exact hm K k (by omega) (by omega)⟩
theorem Ab.get {F : Nat → Option α} {r : α} (h : Ab F r) : ∃ K, F K = some r := by
  obtain ⟨n, hn⟩ := h
  exact ⟨n, hn n (Nat.le_refl _)⟩
end
theorem Cc {j : Nat} (h : j < 4611686018427387904) : w64 ((j : Int) + 1) = ((j + 1 : Nat) : Int) := by rw [H8 (by omega) (by omega)]; omega
theorem rE {j : Nat} (h : j < 4611686018427387904) : w64 (j : Int) = (j : Int) := H8 (by omega) (by omega)
theorem Fe {α β : Type} (x : β) (f : β → Option α) : bnd x f = f x := rfl
theorem Rf {xs : List Al} (hn : xs.length ≤ 2000000) : ∀ (m i : Nat) (out : List Al), xs.length - i = m → i ≤ xs.length → out.length = xs.length → (∀ j, j < i → out[j]? = xs[j]?) →
    Ac (fun K k => Dt.l1 K k xs out (i : Int)) xs
  | 0, i, out, hm, hi, hl, ho => by
    have he : out = xs := by
      apply List.ext_getElem?
      intro j
      by_cases hj : j < i
      · exact ho j hj
      · rw [List.getElem?_eq_none (by omega), List.getElem?_eq_none (by omega)]
    refine Ac.succ (Ac.congr (G := fun _ _ => some xs) (fun K k => ?_) (Ac.const _))
    rw [Dt.l1, if_neg (by omega), he]
  | m + 1, i, out, hm, hi, hl, ho => by
    have hlt : i < xs.length := by omega
    have ih := Rf hn m (i + 1) (out.set i xs[i]) (by omega) (by omega) (by rw [List.length_set]; exact hl) (fun j hj => by
      by_cases hij : i = j
      · subst hij; rw [List.getElem?_set_self (by omega), List.getElem?_eq_getElem hlt]
      · rw [List.getElem?_set_ne hij]; exact ho j (by omega))
    refine Ac.succ (Ac.congr (fun K k => ?_) ih)
    rw [Dt.l1, if_pos (by omega), if_pos (by omega), Fe]
    simp only [Ju.f, dW, Option.bind_some]
    rw [if_pos (by omega), Int.toNat_natCast, Cc (by omega), List.getD_eq_getElem?_getD, List.getElem?_eq_getElem hlt]
    rfl
theorem aX {xs : List Al} (hn : xs.length ≤ 2000000) : Ab (fun K => Dt.f K xs) xs := by
  refine Ab.congr (fun K => ?_) (Rf hn xs.length 0 (List.replicate xs.length Au) (by omega) (by omega) (by simp) (fun j hj => by omega)).Ib
  rw [Dt.f, if_pos (by omega), if_pos (by omega), Int.toNat_natCast]
  rfl
theorem gZ {xs : List Al} (hn : xs.length ≤ 2000000) (c : Int) : Ab (fun K => Kc.f K xs c) (xs, c) := (aX hn).bind (Ab.const _)
theorem Qy {xs : List Al} (hn : xs.length ≤ 2000000) : ∀ (m i : Nat), xs.length - i = m → Ac (fun K k => D7.l1 K k xs xs (i : Int)) true
  | 0, i, hm => by
    refine Ac.succ (Ac.congr (G := fun _ _ => some true) (fun K k => ?_) (Ac.const _))
    rw [D7.l1, if_neg (by omega)]
  | m + 1, i, hm => by
    refine Ac.succ (Ac.congr (fun K k => ?_) (Qy hn m (i + 1) (by omega)))
    rw [D7.l1, if_pos (by omega), if_pos (by omega), Fe, if_pos (by omega), Fe]
    simp only [Jv.f, if_true, Option.bind_some]
    rw [Cc (by omega)]
theorem iX {xs : List Al} (hn : xs.length ≤ 2000000) (c : Int) : Ab (fun K => Ke.f K xs c xs c) true := by
  refine Ab.bind (a := true) (Ab.congr (fun K => ?_) (Qy hn xs.length 0 (by omega)).Ib) (Ab.congr (G := fun _ => some true) (fun K => by simp) (Ab.const _))
  rw [D7.f, if_pos rfl]
  rfl
end Go.Proofs.YtkmeepgpmppibaaGreatDoor
