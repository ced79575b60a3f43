/-
  Words for 'from some number of rounds on the answer is this'; loops that look for the first that fails.
-/
import Derived.Test.YtbjfinndngafoaaGreatAlM
set_option linter.unusedVariables false
set_option linter.unusedSimpArgs false
set_option linter.unusedSectionVars false
namespace Go.Proofs.YtbjfinndngafoaaGreat
open Go.RowKit
def Tends {α : Type} (F : Nat → Option α) (r : α) : Prop := ∃ n, ∀ K, n ≤ K → F K = some r
def Tends2 {α : Type} (F : Nat → Nat → Option α) (r : α) : Prop := ∃ n, ∀ K k, n ≤ K → n ≤ k → F K k = some r
section
variable {α β γ δ ε ζ : Type}
theorem Tends.const (r : α) : Tends (fun _ => some r) r := ⟨0, fun _ _ => rfl⟩
theorem Tends2.const (r : α) : Tends2 (fun _ _ => some r) r := ⟨0, fun _ _ _ _ => rfl⟩
theorem Tends.congr {F G : Nat → Option α} {r : α} (h : ∀ K, F K = G K) (hg : Tends G r) : Tends F r := by
  obtain ⟨n, hn⟩ := hg
  exact ⟨n, fun K hK => (h K).trans (hn K hK)⟩
theorem Tends2.congr {F G : Nat → Nat → Option α} {r : α} (h : ∀ K k, F K k = G K k) (hg : Tends2 G r) : Tends2 F r := by
  obtain ⟨n, hn⟩ := hg
  exact ⟨n, fun K k hK hk => (h K k).trans (hn K k hK hk)⟩
theorem Tends2.succ {F : Nat → Nat → Option α} {r : α} (h : Tends2 (fun K k => F K (k + 1)) r) : Tends2 F r := by
  obtain ⟨n, hn⟩ := h
  refine ⟨n + 1, fun K k hK hk => ?_⟩
  obtain ⟨k', rfl⟩ : ∃ k', k = k' + 1 := ⟨k - 1, by omega⟩
  exact hn K k' (by omega) (by omega)
theorem Tends2.diag {F : Nat → Nat → Option α} {r : α} (h : Tends2 F r) : Tends (fun K => F K K) r := by
  obtain ⟨n, hn⟩ := h
  exact ⟨n, fun K hK => hn K K hK hK⟩
theorem Tends.two {F : Nat → Option α} {r : α} (h : Tends F r) : Tends2 (fun K _ => F K) r := by
  obtain ⟨n, hn⟩ := h
  exact ⟨n, fun K k hK hk => hn K hK⟩
theorem Tends.bind {F : Nat → Option α} {G : Nat → α → Option β} {a : α} {r : β} (h : Tends F a) (g : Tends (fun K => G K a) r) : Tends (fun K => (F K).bind (G K)) r := by
  obtain ⟨n, hn⟩ := h
  obtain ⟨m, hm⟩ := g
  exact ⟨n + m, fun K hK => by show (F K).bind (G K) = some r; rw [hn K (by omega)]; exact hm K (by omega)⟩
theorem Tends.bind2 {F : Nat → Option (α × β)} {G : Nat → α → β → Option γ} {a : α} {b : β} {r : γ} (h : Tends F (a, b)) (g : Tends (fun K => G K a b) r) : Tends (fun K => Go.Proofs.YtbjfinndngafoaaGreat.bind2 (F K) (G K)) r := by
  obtain ⟨n, hn⟩ := h
  obtain ⟨m, hm⟩ := g
  exact ⟨n + m, fun K hK => by show Go.Proofs.YtbjfinndngafoaaGreat.bind2 (F K) (G K) = some r; rw [hn K (by omega)]; exact hm K (by omega)⟩
theorem Tends.bind3 {F : Nat → Option (α × β × γ)} {G : Nat → α → β → γ → Option δ} {a : α} {b : β} {c : γ} {r : δ} (h : Tends F (a, b, c)) (g : Tends (fun K => G K a b c) r) : Tends (fun K => Go.Proofs.YtbjfinndngafoaaGreat.bind3 (F K) (G K)) r := by
  obtain ⟨n, hn⟩ := h
  obtain ⟨m, hm⟩ := g
  exact ⟨n + m, fun K hK => by show Go.Proofs.YtbjfinndngafoaaGreat.bind3 (F K) (G K) = some r; rw [hn K (by omega)]; exact hm K (by omega)⟩
theorem Tends2.bind {F : Nat → Nat → Option α} {G : Nat → Nat → α → Option β} {a : α} {r : β} (h : Tends2 F a) (g : Tends2 (fun K k => G K k a) r) : Tends2 (fun K k => (F K k).bind (G K k)) r := by
  obtain ⟨n, hn⟩ := h
  obtain ⟨m, hm⟩ := g
  exact ⟨n + m, fun K k hK hk => by show (F K k).bind (G K k) = some r; rw [hn K k (by omega) (by omega)]; exact hm K k (by omega) (by omega)⟩
theorem Tends2.bind2 {F : Nat → Nat → Option (α × β)} {G : Nat → Nat → α → β → Option γ} {a : α} {b : β} {r : γ} (h : Tends2 F (a, b)) (g : Tends2 (fun K k => G K k a b) r) : Tends2 (fun K k => Go.Proofs.YtbjfinndngafoaaGreat.bind2 (F K k) (G K k)) r := by
  obtain ⟨n, hn⟩ := h
  obtain ⟨m, hm⟩ := g
  exact ⟨n + m, fun K k hK hk => by show Go.Proofs.YtbjfinndngafoaaGreat.bind2 (F K k) (G K k) = some r; rw [hn K k (by omega) (by omega)]; exact hm K k (by omega) (by omega)⟩
theorem Tends.get {F : Nat → Option α} {r : α} (h : Tends F r) : ∃ K, F K = some r := by
  obtain ⟨n, hn⟩ := h
  exact ⟨n, hn n (Nat.le_refl _)⟩
end
theorem w64_succ {j : Nat} (h : j < 4611686018427387904) : w64 ((j : Int) + 1) = ((j + 1 : Nat) : Int) := by rw [w64_id (by omega) (by omega)]; omega
theorem bnd_eq {α β : Type} (x : β) (f : β → Option α) : bnd x f = f x := rfl
theorem Tends.pos {α : Type} {p : Prop} [Decidable p] {F G : Nat → Option α} {r : α} (hp : p) (h : Tends F r) : Tends (fun K => if p then F K else G K) r := Tends.congr (fun K => if_pos hp) h
theorem Tends.neg {α : Type} {p : Prop} [Decidable p] {F G : Nat → Option α} {r : α} (hp : ¬ p) (h : Tends G r) : Tends (fun K => if p then F K else G K) r := Tends.congr (fun K => if_neg hp) h
theorem Tends2.pos {α : Type} {p : Prop} [Decidable p] {F G : Nat → Nat → Option α} {r : α} (hp : p) (h : Tends2 F r) : Tends2 (fun K k => if p then F K k else G K k) r := Tends2.congr (fun K k => if_pos hp) h
theorem Tends2.neg {α : Type} {p : Prop} [Decidable p] {F G : Nat → Nat → Option α} {r : α} (hp : ¬ p) (h : Tends2 G r) : Tends2 (fun K k => if p then F K k else G K k) r := Tends2.congr (fun K k => if_neg hp) h
def allB (n : Nat) (P : Nat → Bool) : Bool := (List.range n).all P
theorem allB_true {n : Nat} {P : Nat → Bool} (h : ∀ j, j < n → P j = true) : allB n P = true := by
  unfold allB; rw [List.all_eq_true]; intro x hx; exact h x (List.mem_range.1 hx)
theorem allB_false {n : Nat} {P : Nat → Bool} (h : ∃ j, j < n ∧ P j = false) : allB n P = false := by
  obtain ⟨j, h1, h2⟩ := h
  unfold allB; rw [List.all_eq_false]; exact ⟨j, List.mem_range.2 h1, by rw [h2]; decide⟩
theorem allB_get {n : Nat} {P : Nat → Bool} (h : allB n P = true) {j : Nat} (hj : j < n) : P j = true := by
  unfold allB at h; exact List.all_eq_true.1 h j (List.mem_range.2 hj)
section
variable {α : Type} {l : Nat → Nat → Nat → Option α} {n : Nat} {P : Nat → Bool} {r : α} {N : α → Prop}
theorem scan_from (go : ∀ i, i < n → P i = true → ∀ v, Tends2 (fun K k => l K k (i + 1)) v → Tends2 (fun K k => l K k i) v)
    (stop : ∀ i, i < n → P i = false → ∃ v, N v ∧ Tends2 (fun K k => l K k i) v) (fin : Tends2 (fun K k => l K k n) r) :
    ∀ m i, n - i = m → i ≤ n → ((∀ j, i ≤ j → j < n → P j = true) ∧ Tends2 (fun K k => l K k i) r) ∨ ((∃ j, j < n ∧ P j = false) ∧ ∃ v, N v ∧ Tends2 (fun K k => l K k i) v)
  | 0, i, hm, hi => by
    obtain rfl : i = n := by omega
    exact .inl ⟨fun j h1 h2 => by omega, fin⟩
  | m + 1, i, hm, hi => by
    cases hp : P i with
    | false => exact .inr ⟨⟨i, by omega, hp⟩, stop i (by omega) hp⟩
    | true =>
      rcases scan_from go stop fin m (i + 1) (by omega) (by omega) with ⟨h1, h2⟩ | ⟨h1, v, h2, h3⟩
      · refine .inl ⟨fun j hj hlt => ?_, go i (by omega) hp _ h2⟩
        by_cases e : j = i
        · subst e; exact hp
        · exact h1 j (by omega) hlt
      · exact .inr ⟨h1, v, h2, go i (by omega) hp _ h3⟩
theorem scanG (go : ∀ i, i < n → P i = true → ∀ v, Tends2 (fun K k => l K k (i + 1)) v → Tends2 (fun K k => l K k i) v)
    (stop : ∀ i, i < n → P i = false → ∃ v, N v ∧ Tends2 (fun K k => l K k i) v) (fin : Tends2 (fun K k => l K k n) r) :
    (allB n P = true ∧ Tends2 (fun K k => l K k 0) r) ∨ (allB n P = false ∧ ∃ v, N v ∧ Tends2 (fun K k => l K k 0) v) := by
  rcases scan_from go stop fin n 0 (by omega) (by omega) with ⟨h1, h2⟩ | ⟨h1, h2⟩
  · exact .inl ⟨allB_true fun j hj => h1 j (Nat.zero_le _) hj, h2⟩
  · exact .inr ⟨allB_false h1, h2⟩
end
theorem scan_bool {l : Nat → Nat → Nat → Option Bool} {n : Nat} {P : Nat → Bool} {r : Bool} (go : ∀ i, i < n → P i = true → ∀ v, Tends2 (fun K k => l K k (i + 1)) v → Tends2 (fun K k => l K k i) v)
    (stop : ∀ i, i < n → P i = false → Tends2 (fun K k => l K k i) false) (fin : Tends2 (fun K k => l K k n) r) : Tends2 (fun K k => l K k 0) (allB n P && r) := by
  rcases scanG (N := fun v => v = false) go (fun i h1 h2 => ⟨false, rfl, stop i h1 h2⟩) fin with ⟨h1, h2⟩ | ⟨h1, v, rfl, h2⟩
  · rw [h1]; exact h2
  · rw [h1]; exact h2
theorem scan_idx {l : Nat → Nat → Nat → Option Int} {n : Nat} {P : Nat → Bool} (go : ∀ i, i < n → P i = true → ∀ v, Tends2 (fun K k => l K k (i + 1)) v → Tends2 (fun K k => l K k i) v)
    (stop : ∀ i, i < n → P i = false → Tends2 (fun K k => l K k i) (i : Int)) (fin : Tends2 (fun K k => l K k n) (-1)) : ∃ v : Int, Tends2 (fun K k => l K k 0) v ∧ decide (0 ≤ v) = !allB n P := by
  rcases scanG (N := fun v => 0 ≤ v) go (fun i h1 h2 => ⟨(i : Int), Int.natCast_nonneg i, stop i h1 h2⟩) fin with ⟨h1, h2⟩ | ⟨h1, v, h3, h2⟩
  · exact ⟨-1, h2, by rw [h1]; rfl⟩
  · exact ⟨v, h2, by rw [h1, decide_eq_true h3]; rfl⟩
theorem Tends2.of {α : Type} {F : Nat → Nat → Option α} {r : α} (h : ∀ K k, F K (k + 1) = some r) : Tends2 F r := Tends2.succ (Tends2.congr (G := fun _ _ => some r) h (Tends2.const _))
theorem Tends2.step {α : Type} {F G : Nat → Nat → Option α} {r : α} (h : ∀ K k, F K (k + 1) = G K k) (g : Tends2 G r) : Tends2 F r := Tends2.succ (Tends2.congr h g)
theorem in7_eq (v lo hi : Int) : spec_l07In.f v lo hi = some (decide (lo ≤ v ∧ v ≤ hi)) := by
  unfold spec_l07In.f
  by_cases h : lo ≤ v <;> simp [h]
theorem rng_eq (v lo hi : Int) : impl_inRange.f v lo hi = some (decide (lo ≤ v ∧ v ≤ hi)) := by
  unfold impl_inRange.f
  by_cases h : lo ≤ v <;> simp [h]
theorem scan_stop {α : Type} {l : Nat → Nat → Nat → Option α} {n : Nat} {P : Nat → Bool} {no : α} (go : ∀ i, i < n → P i = true → ∀ v, Tends2 (fun K k => l K k (i + 1)) v → Tends2 (fun K k => l K k i) v)
    (stop : ∀ i, i < n → P i = false → Tends2 (fun K k => l K k i) no) (h : allB n P = false) : Tends2 (fun K k => l K k 0) no := by
  have main : ∀ m i, n - i = m → (∃ j, i ≤ j ∧ j < n ∧ P j = false) → Tends2 (fun K k => l K k i) no := by
    intro m
    induction m with
    | zero => intro i hm ⟨j, h1, h2, _⟩; omega
    | succ m ih =>
      intro i hm ⟨j, h1, h2, h3⟩
      cases hp : P i with
      | false => exact stop i (by omega) hp
      | true => exact go i (by omega) hp _ (ih (i + 1) (by omega) ⟨j, by
          by_cases e : j = i
          · subst e; rw [hp] at h3; cases h3
          · omega, h2, h3⟩)
  unfold allB at h
  rw [List.all_eq_false] at h
  obtain ⟨j, hj, hn⟩ := h
  exact main n 0 (by omega) ⟨j, Nat.zero_le _, List.mem_range.1 hj, Bool.eq_false_iff.2 hn⟩
theorem Tends.bind4 {α β γ δ ε : Type} {F : Nat → Option (α × β × γ × δ)} {G : Nat → α → β → γ → δ → Option ε} {a : α} {b : β} {c : γ} {d : δ} {r : ε} (h : Tends F (a, b, c, d)) (g : Tends (fun K => G K a b c d) r) : Tends (fun K => Go.Proofs.YtbjfinndngafoaaGreat.bind4 (F K) (G K)) r := by
  obtain ⟨n, hn⟩ := h
  obtain ⟨m, hm⟩ := g
  exact ⟨n + m, fun K hK => by show Go.Proofs.YtbjfinndngafoaaGreat.bind4 (F K) (G K) = some r; rw [hn K (by omega)]; exact hm K (by omega)⟩
theorem Tends2.bind4 {α β γ δ ε : Type} {F : Nat → Nat → Option (α × β × γ × δ)} {G : Nat → Nat → α → β → γ → δ → Option ε} {a : α} {b : β} {c : γ} {d : δ} {r : ε} (h : Tends2 F (a, b, c, d)) (g : Tends2 (fun K k => G K k a b c d) r) : Tends2 (fun K k => Go.Proofs.YtbjfinndngafoaaGreat.bind4 (F K k) (G K k)) r := by
  obtain ⟨n, hn⟩ := h
  obtain ⟨m, hm⟩ := g
  exact ⟨n + m, fun K k hK hk => by show Go.Proofs.YtbjfinndngafoaaGreat.bind4 (F K k) (G K k) = some r; rw [hn K k (by omega) (by omega)]; exact hm K k (by omega) (by omega)⟩
theorem Tends.eqBind {α β : Type} {y : Option α} {x : α} (h : y = some x) {G : Nat → α → Option β} {r : β} (g : Tends (fun K => G K x) r) : Tends (fun K => y.bind (G K)) r := by subst h; exact g
theorem Tends2.eqBind {α β : Type} {y : Option α} {x : α} (h : y = some x) {G : Nat → Nat → α → Option β} {r : β} (g : Tends2 (fun K k => G K k x) r) : Tends2 (fun K k => y.bind (G K k)) r := by subst h; exact g
theorem Tends2.bind3 {α β γ δ : Type} {F : Nat → Nat → Option (α × β × γ)} {G : Nat → Nat → α → β → γ → Option δ} {a : α} {b : β} {c : γ} {r : δ} (h : Tends2 F (a, b, c)) (g : Tends2 (fun K k => G K k a b c) r) : Tends2 (fun K k => Go.Proofs.YtbjfinndngafoaaGreat.bind3 (F K k) (G K k)) r := by
  obtain ⟨n, hn⟩ := h
  obtain ⟨m, hm⟩ := g
  exact ⟨n + m, fun K k hK hk => by show Go.Proofs.YtbjfinndngafoaaGreat.bind3 (F K k) (G K k) = some r; rw [hn K k (by omega) (by omega)]; exact hm K k (by omega) (by omega)⟩
end Go.Proofs.YtbjfinndngafoaaGreat
