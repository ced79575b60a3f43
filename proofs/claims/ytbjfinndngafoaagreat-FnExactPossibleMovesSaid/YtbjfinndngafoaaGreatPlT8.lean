/-
  Words for 'from some number of rounds on the answer is this'; loops that look for the first that fails.
  Parts: lists of marks that part numbers alike; how many come up first; one value put for another.
  Parts again: what joining pairs leaves; parts numbered in the order of their first members.
  Permutations of four by their numbers, edges by their ends: tables, and that both sides follow them.
  Triangulations: both look at the same faces in the same order.
  Triangulations copied, compared with themselves, and how much they are.
  Joining and numbering: the program's way and the reference's way.
  The reference's rows of numbers.
  The classes of vertices, edges and faces: both sides join the same pairs.
-/
import Derived.Test.YtbjfinndngafoaaGreatAlM
import Derived.KernelRfl
set_option linter.unusedVariables false
set_option linter.unusedSimpArgs false
set_option linter.unusedSectionVars false
namespace Go.Proofs.YtbjfinndngafoaaGreat
open Go.RowKit
def Tends {α : Type} (F : Nat → Option α) (r : α) : Prop := ∃ n, ∀ K, n ≤ K → F K = some r
def Tends2 {α : Type} (F : Nat → Nat → Option α) (r : α) : Prop := ∃ n, ∀ K k, n ≤ K → n ≤ k → F K k = some r
section
variable {α β γ δ ε ζ : Type}
theorem Tends.const (r : α) : Tends (fun _ => some r) r := ⟨0, fun _ _ => rfl⟩
theorem Tends2.const (r : α) : Tends2 (fun _ _ => some r) r := ⟨0, fun _ _ _ _ => rfl⟩
theorem Tends.congr {F G : Nat → Option α} {r : α} (h : ∀ K, F K = G K) (hg : Tends G r) : Tends F r := by
  obtain ⟨n, hn⟩ := hg
  exact ⟨n, fun K hK => (h K).trans (hn K hK)⟩
theorem Tends2.congr {F G : Nat → Nat → Option α} {r : α} (h : ∀ K k, F K k = G K k) (hg : Tends2 G r) : Tends2 F r := by
  obtain ⟨n, hn⟩ := hg
  exact ⟨n, fun K k hK hk => (h K k).trans (hn K k hK hk)⟩
theorem Tends2.succ {F : Nat → Nat → Option α} {r : α} (h : Tends2 (fun K k => F K (k + 1)) r) : Tends2 F r := by
  obtain ⟨n, hn⟩ := h
  refine ⟨n + 1, fun K k hK hk => ?_⟩
  obtain ⟨k', rfl⟩ : ∃ k', k = k' + 1 := ⟨k - 1, by omega⟩
  exact hn K k' (by omega) (by omega)
theorem Tends2.diag {F : Nat → Nat → Option α} {r : α} (h : Tends2 F r) : Tends (fun K => F K K) r := by
  obtain ⟨n, hn⟩ := h
  exact ⟨n, fun K hK => hn K K hK hK⟩
theorem Tends.two {F : Nat → Option α} {r : α} (h : Tends F r) : Tends2 (fun K _ => F K) r := by
  obtain ⟨n, hn⟩ := h
  exact ⟨n, fun K k hK hk => hn K hK⟩
theorem Tends.bind {F : Nat → Option α} {G : Nat → α → Option β} {a : α} {r : β} (h : Tends F a) (g : Tends (fun K => G K a) r) : Tends (fun K => (F K).bind (G K)) r := by
  obtain ⟨n, hn⟩ := h
  obtain ⟨m, hm⟩ := g
  exact ⟨n + m, fun K hK => by show (F K).bind (G K) = some r; rw [hn K (by omega)]; exact hm K (by omega)⟩
theorem Tends.bind2 {F : Nat → Option (α × β)} {G : Nat → α → β → Option γ} {a : α} {b : β} {r : γ} (h : Tends F (a, b)) (g : Tends (fun K => G K a b) r) : Tends (fun K => Go.Proofs.YtbjfinndngafoaaGreat.bind2 (F K) (G K)) r := by
  obtain ⟨n, hn⟩ := h
  obtain ⟨m, hm⟩ := g
  exact ⟨n + m, fun K hK => by show Go.Proofs.YtbjfinndngafoaaGreat.bind2 (F K) (G K) = some r; rw [hn K (by omega)]; exact hm K (by omega)⟩
theorem Tends.bind3 {F : Nat → Option (α × β × γ)} {G : Nat → α → β → γ → Option δ} {a : α} {b : β} {c : γ} {r : δ} (h : Tends F (a, b, c)) (g : Tends (fun K => G K a b c) r) : Tends (fun K => Go.Proofs.YtbjfinndngafoaaGreat.bind3 (F K) (G K)) r := by
  obtain ⟨n, hn⟩ := h
  obtain ⟨m, hm⟩ := g
  exact ⟨n + m, fun K hK => by show Go.Proofs.YtbjfinndngafoaaGreat.bind3 (F K) (G K) = some r; rw [hn K (by omega)]; exact hm K (by omega)⟩
theorem Tends2.bind {F : Nat → Nat → Option α} {G : Nat → Nat → α → Option β} {a : α} {r : β} (h : Tends2 F a) (g : Tends2 (fun K k => G K k a) r) : Tends2 (fun K k => (F K k).bind (G K k)) r := by
  obtain ⟨n, hn⟩ := h
  obtain ⟨m, hm⟩ := g
  exact ⟨n + m, fun K k hK hk => by show (F K k).bind (G K k) = some r; rw [hn K k (by omega) (by omega)]; exact hm K k (by omega) (by omega)⟩
theorem Tends2.bind2 {F : Nat → Nat → Option (α × β)} {G : Nat → Nat → α → β → Option γ} {a : α} {b : β} {r : γ} (h : Tends2 F (a, b)) (g : Tends2 (fun K k => G K k a b) r) : Tends2 (fun K k => Go.Proofs.YtbjfinndngafoaaGreat.bind2 (F K k) (G K k)) r := by
  obtain ⟨n, hn⟩ := h
  obtain ⟨m, hm⟩ := g
  exact ⟨n + m, fun K k hK hk => by show Go.Proofs.YtbjfinndngafoaaGreat.bind2 (F K k) (G K k) = some r; rw [hn K k (by omega) (by omega)]; exact hm K k (by omega) (by omega)⟩
theorem Tends.get {F : Nat → Option α} {r : α} (h : Tends F r) : ∃ K, F K = some r := by
  obtain ⟨n, hn⟩ := h
  exact ⟨n, hn n (Nat.le_refl _)⟩
end
theorem w64_succ {j : Nat} (h : j < 4611686018427387904) : w64 ((j : Int) + 1) = ((j + 1 : Nat) : Int) := by rw [w64_id (by omega) (by omega)]; omega
theorem bnd_eq {α β : Type} (x : β) (f : β → Option α) : bnd x f = f x := rfl
theorem Tends.pos {α : Type} {p : Prop} [Decidable p] {F G : Nat → Option α} {r : α} (hp : p) (h : Tends F r) : Tends (fun K => if p then F K else G K) r := Tends.congr (fun K => if_pos hp) h
theorem Tends.neg {α : Type} {p : Prop} [Decidable p] {F G : Nat → Option α} {r : α} (hp : ¬ p) (h : Tends G r) : Tends (fun K => if p then F K else G K) r := Tends.congr (fun K => if_neg hp) h
theorem Tends2.pos {α : Type} {p : Prop} [Decidable p] {F G : Nat → Nat → Option α} {r : α} (hp : p) (h : Tends2 F r) : Tends2 (fun K k => if p then F K k else G K k) r := Tends2.congr (fun K k => if_pos hp) h
theorem Tends2.neg {α : Type} {p : Prop} [Decidable p] {F G : Nat → Nat → Option α} {r : α} (hp : ¬ p) (h : Tends2 G r) : Tends2 (fun K k => if p then F K k else G K k) r := Tends2.congr (fun K k => if_neg hp) h
def allB (n : Nat) (P : Nat → Bool) : Bool := (List.range n).all P
theorem allB_true {n : Nat} {P : Nat → Bool} (h : ∀ j, j < n → P j = true) : allB n P = true := by
  unfold allB; rw [List.all_eq_true]; intro x hx; exact h x (List.mem_range.1 hx)
theorem allB_false {n : Nat} {P : Nat → Bool} (h : ∃ j, j < n ∧ P j = false) : allB n P = false := by
  obtain ⟨j, h1, h2⟩ := h
  unfold allB; rw [List.all_eq_false]; exact ⟨j, List.mem_range.2 h1, by rw [h2]; decide⟩
theorem allB_get {n : Nat} {P : Nat → Bool} (h : allB n P = true) {j : Nat} (hj : j < n) : P j = true := by
  unfold allB at h; exact List.all_eq_true.1 h j (List.mem_range.2 hj)
section
variable {α : Type} {l : Nat → Nat → Nat → Option α} {n : Nat} {P : Nat → Bool} {r : α} {N : α → Prop}
theorem scan_from (go : ∀ i, i < n → P i = true → ∀ v, Tends2 (fun K k => l K k (i + 1)) v → Tends2 (fun K k => l K k i) v)
    (stop : ∀ i, i < n → P i = false → ∃ v, N v ∧ Tends2 (fun K k => l K k i) v) (fin : Tends2 (fun K k => l K k n) r) :
    ∀ m i, n - i = m → i ≤ n → ((∀ j, i ≤ j → j < n → P j = true) ∧ Tends2 (fun K k => l K k i) r) ∨ ((∃ j, j < n ∧ P j = false) ∧ ∃ v, N v ∧ Tends2 (fun K k => l K k i) v)
  | 0, i, hm, hi => by
    obtain rfl : i = n := by omega
    exact .inl ⟨fun j h1 h2 => by omega, fin⟩
  | m + 1, i, hm, hi => by
    cases hp : P i with
    | false => exact .inr ⟨⟨i, by omega, hp⟩, stop i (by omega) hp⟩
    | true =>
      rcases scan_from go stop fin m (i + 1) (by omega) (by omega) with ⟨h1, h2⟩ | ⟨h1, v, h2, h3⟩
      · refine .inl ⟨fun j hj hlt => ?_, go i (by omega) hp _ h2⟩
        by_cases e : j = i
        · subst e; exact hp
        · exact h1 j (by omega) hlt
      · exact .inr ⟨h1, v, h2, go i (by omega) hp _ h3⟩
theorem scanG (go : ∀ i, i < n → P i = true → ∀ v, Tends2 (fun K k => l K k (i + 1)) v → Tends2 (fun K k => l K k i) v)
    (stop : ∀ i, i < n → P i = false → ∃ v, N v ∧ Tends2 (fun K k => l K k i) v) (fin : Tends2 (fun K k => l K k n) r) :
    (allB n P = true ∧ Tends2 (fun K k => l K k 0) r) ∨ (allB n P = false ∧ ∃ v, N v ∧ Tends2 (fun K k => l K k 0) v) := by
  rcases scan_from go stop fin n 0 (by omega) (by omega) with ⟨h1, h2⟩ | ⟨h1, h2⟩
  · exact .inl ⟨allB_true fun j hj => h1 j (Nat.zero_le _) hj, h2⟩
  · exact .inr ⟨allB_false h1, h2⟩
end
theorem scan_bool {l : Nat → Nat → Nat → Option Bool} {n : Nat} {P : Nat → Bool} {r : Bool} (go : ∀ i, i < n → P i = true → ∀ v, Tends2 (fun K k => l K k (i + 1)) v → Tends2 (fun K k => l K k i) v)
    (stop : ∀ i, i < n → P i = false → Tends2 (fun K k => l K k i) false) (fin : Tends2 (fun K k => l K k n) r) : Tends2 (fun K k => l K k 0) (allB n P && r) := by
  rcases scanG (N := fun v => v = false) go (fun i h1 h2 => ⟨false, rfl, stop i h1 h2⟩) fin with ⟨h1, h2⟩ | ⟨h1, v, rfl, h2⟩
  · rw [h1]; exact h2
  · rw [h1]; exact h2
theorem scan_idx {l : Nat → Nat → Nat → Option Int} {n : Nat} {P : Nat → Bool} (go : ∀ i, i < n → P i = true → ∀ v, Tends2 (fun K k => l K k (i + 1)) v → Tends2 (fun K k => l K k i) v)
    (stop : ∀ i, i < n → P i = false → Tends2 (fun K k => l K k i) (i : Int)) (fin : Tends2 (fun K k => l K k n) (-1)) : ∃ v : Int, Tends2 (fun K k => l K k 0) v ∧ decide (0 ≤ v) = !allB n P := by
  rcases scanG (N := fun v => 0 ≤ v) go (fun i h1 h2 => ⟨(i : Int), Int.natCast_nonneg i, stop i h1 h2⟩) fin with ⟨h1, h2⟩ | ⟨h1, v, h3, h2⟩
  · exact ⟨-1, h2, by rw [h1]; rfl⟩
  · exact ⟨v, h2, by rw [h1, decide_eq_true h3]; rfl⟩
theorem Tends2.of {α : Type} {F : Nat → Nat → Option α} {r : α} (h : ∀ K k, F K (k + 1) = some r) : Tends2 F r := Tends2.succ (Tends2.congr (G := fun _ _ => some r) h (Tends2.const _))
theorem Tends2.step {α : Type} {F G : Nat → Nat → Option α} {r : α} (h : ∀ K k, F K (k + 1) = G K k) (g : Tends2 G r) : Tends2 F r := Tends2.succ (Tends2.congr h g)
theorem in7_eq (v lo hi : Int) : spec_l07In.f v lo hi = some (decide (lo ≤ v ∧ v ≤ hi)) := by
  unfold spec_l07In.f
  by_cases h : lo ≤ v <;> simp [h]
theorem rng_eq (v lo hi : Int) : impl_inRange.f v lo hi = some (decide (lo ≤ v ∧ v ≤ hi)) := by
  unfold impl_inRange.f
  by_cases h : lo ≤ v <;> simp [h]
theorem scan_stop {α : Type} {l : Nat → Nat → Nat → Option α} {n : Nat} {P : Nat → Bool} {no : α} (go : ∀ i, i < n → P i = true → ∀ v, Tends2 (fun K k => l K k (i + 1)) v → Tends2 (fun K k => l K k i) v)
    (stop : ∀ i, i < n → P i = false → Tends2 (fun K k => l K k i) no) (h : allB n P = false) : Tends2 (fun K k => l K k 0) no := by
  have main : ∀ m i, n - i = m → (∃ j, i ≤ j ∧ j < n ∧ P j = false) → Tends2 (fun K k => l K k i) no := by
    intro m
    induction m with
    | zero => intro i hm ⟨j, h1, h2, _⟩; omega
    | succ m ih =>
      intro i hm ⟨j, h1, h2, h3⟩
      cases hp : P i with
      | false => exact stop i (by omega) hp
      | true => exact go i (by omega) hp _ (ih (i + 1) (by omega) ⟨j, by
          by_cases e : j = i
          · subst e; rw [hp] at h3; cases h3
          · omega, h2, h3⟩)
  unfold allB at h
  rw [List.all_eq_false] at h
  obtain ⟨j, hj, hn⟩ := h
  exact main n 0 (by omega) ⟨j, Nat.zero_le _, List.mem_range.1 hj, Bool.eq_false_iff.2 hn⟩
theorem Tends.bind4 {α β γ δ ε : Type} {F : Nat → Option (α × β × γ × δ)} {G : Nat → α → β → γ → δ → Option ε} {a : α} {b : β} {c : γ} {d : δ} {r : ε} (h : Tends F (a, b, c, d)) (g : Tends (fun K => G K a b c d) r) : Tends (fun K => Go.Proofs.YtbjfinndngafoaaGreat.bind4 (F K) (G K)) r := by
  obtain ⟨n, hn⟩ := h
  obtain ⟨m, hm⟩ := g
  exact ⟨n + m, fun K hK => by show Go.Proofs.YtbjfinndngafoaaGreat.bind4 (F K) (G K) = some r; rw [hn K (by omega)]; exact hm K (by omega)⟩
theorem Tends2.bind4 {α β γ δ ε : Type} {F : Nat → Nat → Option (α × β × γ × δ)} {G : Nat → Nat → α → β → γ → δ → Option ε} {a : α} {b : β} {c : γ} {d : δ} {r : ε} (h : Tends2 F (a, b, c, d)) (g : Tends2 (fun K k => G K k a b c d) r) : Tends2 (fun K k => Go.Proofs.YtbjfinndngafoaaGreat.bind4 (F K k) (G K k)) r := by
  obtain ⟨n, hn⟩ := h
  obtain ⟨m, hm⟩ := g
  exact ⟨n + m, fun K k hK hk => by show Go.Proofs.YtbjfinndngafoaaGreat.bind4 (F K k) (G K k) = some r; rw [hn K k (by omega) (by omega)]; exact hm K k (by omega) (by omega)⟩
theorem Tends.eqBind {α β : Type} {y : Option α} {x : α} (h : y = some x) {G : Nat → α → Option β} {r : β} (g : Tends (fun K => G K x) r) : Tends (fun K => y.bind (G K)) r := by subst h; exact g
theorem Tends2.eqBind {α β : Type} {y : Option α} {x : α} (h : y = some x) {G : Nat → Nat → α → Option β} {r : β} (g : Tends2 (fun K k => G K k x) r) : Tends2 (fun K k => y.bind (G K k)) r := by subst h; exact g
theorem Tends2.bind3 {α β γ δ : Type} {F : Nat → Nat → Option (α × β × γ)} {G : Nat → Nat → α → β → γ → Option δ} {a : α} {b : β} {c : γ} {r : δ} (h : Tends2 F (a, b, c)) (g : Tends2 (fun K k => G K k a b c) r) : Tends2 (fun K k => Go.Proofs.YtbjfinndngafoaaGreat.bind3 (F K k) (G K k)) r := by
  obtain ⟨n, hn⟩ := h
  obtain ⟨m, hm⟩ := g
  exact ⟨n + m, fun K k hK hk => by show Go.Proofs.YtbjfinndngafoaaGreat.bind3 (F K k) (G K k) = some r; rw [hn K k (by omega) (by omega)]; exact hm K k (by omega) (by omega)⟩
end Go.Proofs.YtbjfinndngafoaaGreat
set_option linter.unusedVariables false
set_option linter.unusedSimpArgs false
set_option linter.unusedSectionVars false
namespace Go.Proofs.YtbjfinndngafoaaGreat
open Go.RowKit
def isFirst (l : List Int) (i : Nat) : Bool := (List.range i).all fun j => l.getD j 0 != l.getD i 0
theorem isFirst_iff {l : List Int} {i : Nat} : isFirst l i = true ↔ ∀ j, j < i → l.getD j 0 ≠ l.getD i 0 := by
  unfold isFirst
  rw [List.all_eq_true]
  constructor
  · intro h j hj
    simpa using h j (List.mem_range.2 hj)
  · intro h j hj
    simpa using h j (List.mem_range.1 hj)
def firstN (l : List Int) : Nat → Nat
  | 0 => 0
  | i + 1 => firstN l i + (if isFirst l i = true then 1 else 0)
theorem firstN_le (l : List Int) : ∀ i, firstN l i ≤ i
  | 0 => Nat.le_refl _
  | i + 1 => by
    have := firstN_le l i
    rw [firstN]
    split <;> omega
def SameParts (n : Nat) (s o : List Int) : Prop := ∀ i j, i < n → j < n → (s.getD i 0 = s.getD j 0 ↔ o.getD i 0 = o.getD j 0)
theorem firstN_same {n : Nat} {s o : List Int} (h : SameParts n s o) : ∀ i, i ≤ n → firstN s i = firstN o i
  | 0, _ => rfl
  | i + 1, hi => by
    rw [firstN, firstN, firstN_same h i (by omega)]
    have : isFirst s i = isFirst o i := by
      rw [Bool.eq_iff_iff, isFirst_iff, isFirst_iff]
      constructor
      · intro h1 j hj e
        exact h1 j hj ((h j i (by omega) (by omega)).2 e)
      · intro h1 j hj e
        exact h1 j hj ((h j i (by omega) (by omega)).1 e)
    rw [this]
structure Least (n : Nat) (o : List Int) : Prop where
  len : o.length = n
  low : ∀ i, i < n → 0 ≤ o.getD i 0 ∧ o.getD i 0 ≤ (i : Int)
  root : ∀ i, i < n → o.getD (o.getD i 0).toNat 0 = o.getD i 0
def repl (p q v : Int) : Int := if v = p then q else v
theorem getD_map {f : Int → Int} {l : List Int} {i : Nat} (h : i < l.length) : (l.map f).getD i 0 = f (l.getD i 0) := by
  rw [List.getD_eq_getElem?_getD, List.getElem?_map, getD_some (d := 0) h]; rfl
theorem repl_eq {p q u v : Int} : repl p q u = repl p q v ↔ (u = v ∨ ((u = p ∨ u = q) ∧ (v = p ∨ v = q))) := by
  unfold repl
  grind
theorem Least.join {n : Nat} {o : List Int} (h : Least n o) {c e : Nat} (hc : c < n) (he : e < n) {p q : Int} (hpq : (p = o.getD c 0 ∧ q = o.getD e 0) ∨ (p = o.getD e 0 ∧ q = o.getD c 0)) (hle : q ≤ p) : Least n (o.map (repl p q)) := by
  have hq : ∃ d, d < n ∧ q = o.getD d 0 := by rcases hpq with ⟨_, h⟩ | ⟨_, h⟩ <;> exact ⟨_, by assumption, h⟩
  obtain ⟨d, hd, hqd⟩ := hq
  have hqr : o.getD q.toNat 0 = q := by rw [hqd]; exact h.root d hd
  have hql := h.low d hd
  have hfl : ∀ i, i < n → (o.map (repl p q)).getD i 0 = repl p q (o.getD i 0) := fun i hi => getD_map (by rw [h.len]; exact hi)
  refine ⟨by rw [List.length_map]; exact h.len, fun i hi => ?_, fun i hi => ?_⟩
  · have hl := h.low i hi
    rw [hfl i hi]
    unfold repl
    split <;> omega
  · have hl := h.low i hi
    have hr := h.root i hi
    have hv : (o.getD i 0).toNat < n := by omega
    rw [hfl i hi]
    by_cases hp : o.getD i 0 = p
    · have e1 : repl p q (o.getD i 0) = q := by unfold repl; rw [if_pos hp]
      rw [e1, hfl _ (by omega), hqr]
      unfold repl
      split <;> rfl
    · have e1 : repl p q (o.getD i 0) = o.getD i 0 := by unfold repl; rw [if_neg hp]
      rw [e1, hfl _ hv, hr, e1]
def upto (n : Nat) : List Int := (List.range n).map fun i : Nat => (i : Int)
theorem upto_length (n : Nat) : (upto n).length = n := by simp [upto]
theorem upto_get {n i : Nat} (h : i < n) : (upto n).getD i 0 = (i : Int) := by
  unfold upto
  rw [List.getD_eq_getElem?_getD, List.getElem?_map, List.getElem?_range h]; rfl
theorem upto_succ (n : Nat) : upto (n + 1) = upto n ++ [(n : Int)] := by unfold upto; rw [List.range_succ, List.map_append]; rfl
theorem upto_least (n : Nat) : Least n (upto n) := ⟨upto_length n, fun i hi => by rw [upto_get hi]; omega, fun i hi => by rw [upto_get hi, Int.toNat_natCast, upto_get hi]⟩
theorem list_half {l l' : List Int} {f : Int → Int} {j : Nat} (hl : l'.length = l.length) (h1 : ∀ i, i < j → l'[i]? = (l.map f)[i]?) (hj : l.length ≤ j) : l' = l.map f := by
  apply List.ext_getElem?
  intro i
  by_cases hi : i < j
  · exact h1 i hi
  · rw [List.getElem?_eq_none (by omega), List.getElem?_eq_none (by rw [List.length_map]; omega)]
theorem half_step {l l' : List Int} {p q : Int} {j : Nat} (hl : l'.length = l.length) (hj : j < l.length) (h1 : ∀ i, i < j → l'[i]? = (l.map (repl p q))[i]?) (h2 : ∀ i, j ≤ i → l'[i]? = l[i]?) (d : Bool) (hd : d = decide (l'.getD j 0 = p)) :
    ((bif d then l'.set j q else l').length = l.length) ∧ (∀ i, i < j + 1 → (bif d then l'.set j q else l')[i]? = (l.map (repl p q))[i]?) ∧ (∀ i, j + 1 ≤ i → (bif d then l'.set j q else l')[i]? = l[i]?) := by
  have hg : l'.getD j 0 = l.getD j 0 := by rw [List.getD_eq_getElem?_getD, h2 j (Nat.le_refl _), ← List.getD_eq_getElem?_getD]
  have hs := getD_some (d := 0) hj
  cases d with
  | true =>
    have hp : l.getD j 0 = p := by rw [← hg]; exact of_decide_eq_true hd.symm
    refine ⟨by show (l'.set j q).length = _; rw [List.length_set]; exact hl, fun i hi => ?_, fun i hi => ?_⟩
    · show (l'.set j q)[i]? = _
      by_cases he : j = i
      · subst he
        rw [List.getElem?_set_self (by omega), List.getElem?_map, hs, hp]
        show _ = some (repl p q p)
        unfold repl
        rw [if_pos rfl]
      · rw [List.getElem?_set_ne he]; exact h1 i (by omega)
    · show (l'.set j q)[i]? = _
      rw [List.getElem?_set_ne (by omega)]; exact h2 i (by omega)
  | false =>
    have hp : l.getD j 0 ≠ p := by rw [← hg]; exact of_decide_eq_false hd.symm
    refine ⟨hl, fun i hi => ?_, fun i hi => h2 i (by omega)⟩
    show l'[i]? = _
    by_cases he : j = i
    · subst he
      rw [h2 j (Nat.le_refl _), List.getElem?_map, hs]
      show _ = some (repl p q _)
      unfold repl
      rw [if_neg hp]
    · exact h1 i (by omega)
end Go.Proofs.YtbjfinndngafoaaGreat
set_option linter.unusedVariables false
set_option linter.unusedSimpArgs false
set_option linter.unusedSectionVars false
namespace Go.Proofs.YtbjfinndngafoaaGreat
open Go.RowKit
structure Parted (n : Nat) (J : List (Nat × Nat)) (s : List Int) : Prop where
  len : s.length = n
  inn : ∀ p, p ∈ J → p.1 < n ∧ p.2 < n
  one : ∀ p, p ∈ J → s.getD p.1 0 = s.getD p.2 0
  min : ∀ Q : Nat → Prop, (∀ p, p ∈ J → (Q p.1 ↔ Q p.2)) → ∀ i j, i < n → j < n → s.getD i 0 = s.getD j 0 → (Q i ↔ Q j)
theorem parted_upto (n : Nat) : Parted n [] (upto n) := by
  refine ⟨upto_length n, fun p h => (List.not_mem_nil h).elim, fun p h => (List.not_mem_nil h).elim, fun Q _ i j hi hj h => ?_⟩
  rw [upto_get hi, upto_get hj] at h
  have : i = j := by omega
  rw [this]
structure IsNum (n : Nat) (s c : List Int) : Prop where
  len : c.length = n
  first : ∀ i, i < n → isFirst s i = true → c.getD i 0 = (firstN s i : Int)
  same : ∀ i j, i < n → j < n → s.getD i 0 = s.getD j 0 → c.getD i 0 = c.getD j 0
theorem first_of (s : List Int) : ∀ i : Nat, ∃ j, j ≤ i ∧ isFirst s j = true ∧ s.getD j 0 = s.getD i 0 := by
  intro i
  induction i using Nat.strongRecOn with
  | _ i ih =>
    cases hf : isFirst s i with
    | true => exact ⟨i, Nat.le_refl _, hf, rfl⟩
    | false =>
      have : ¬ ∀ j, j < i → s.getD j 0 ≠ s.getD i 0 := fun h => by rw [isFirst_iff.2 h] at hf; cases hf
      obtain ⟨j, hj⟩ := Classical.not_forall.1 this
      obtain ⟨hj1, hj2⟩ := Classical.not_imp.1 hj
      obtain ⟨k, h1, h2, h3⟩ := ih j hj1
      exact ⟨k, by omega, h2, h3.trans (Classical.not_not.1 hj2)⟩
theorem firstN_mono (s : List Int) : ∀ {i j : Nat}, i ≤ j → firstN s i ≤ firstN s j
  | i, 0, h => by rw [Nat.le_zero.1 h]; exact Nat.le_refl _
  | i, j + 1, h => by
    rcases Nat.lt_or_eq_of_le h with h | h
    · have := firstN_mono s (Nat.le_of_lt_succ h)
      rw [firstN]; omega
    · rw [h]; exact Nat.le_refl _
theorem firstN_lt {s : List Int} {i j : Nat} (hf : isFirst s i = true) (h : i < j) : firstN s i < firstN s j := by
  have h1 := firstN_mono s (show i + 1 ≤ j from h)
  rw [firstN, if_pos hf] at h1
  omega
theorem firstN_inj {s : List Int} {i j : Nat} (hi : isFirst s i = true) (hj : isFirst s j = true) (h : firstN s i = firstN s j) : i = j := by
  rcases Nat.lt_trichotomy i j with h1 | h1 | h1
  · have := firstN_lt hi h1; omega
  · exact h1
  · have := firstN_lt hj h1; omega
theorem IsNum.at_ {n : Nat} {s c : List Int} (h : IsNum n s c) {i : Nat} (hi : i < n) : ∃ j, j ≤ i ∧ isFirst s j = true ∧ s.getD j 0 = s.getD i 0 ∧ c.getD i 0 = (firstN s j : Int) := by
  obtain ⟨j, h1, h2, h3⟩ := first_of s i
  exact ⟨j, h1, h2, h3, by rw [← h.first j (by omega) h2]; exact h.same i j hi (by omega) h3.symm⟩
theorem IsNum.uniq {n : Nat} {s c c' : List Int} (h : IsNum n s c) (h' : IsNum n s c') : c = c' := by
  apply List.ext_getElem?
  intro i
  by_cases hi : i < n
  · rw [getD_some (d := 0) (by rw [h.len]; exact hi), getD_some (d := 0) (by rw [h'.len]; exact hi)]
    obtain ⟨j, h1, h2, h3, h4⟩ := h.at_ hi
    rw [h4, ← h'.first j (by omega) h2, h'.same j i (by omega) hi h3]
  · rw [List.getElem?_eq_none (by rw [h.len]; omega), List.getElem?_eq_none (by rw [h'.len]; omega)]
theorem IsNum.range {n : Nat} {s c : List Int} (h : IsNum n s c) {i : Nat} (hi : i < n) : 0 ≤ c.getD i 0 ∧ c.getD i 0 < (firstN s n : Int) := by
  obtain ⟨j, h1, h2, h3, h4⟩ := h.at_ hi
  have := firstN_lt h2 (show j < n by omega)
  omega
theorem IsNum.inj {n : Nat} {s c : List Int} (h : IsNum n s c) {i j : Nat} (hi : i < n) (hj : j < n) (e : c.getD i 0 = c.getD j 0) : s.getD i 0 = s.getD j 0 := by
  obtain ⟨a, h1, h2, h3, h4⟩ := h.at_ hi
  obtain ⟨b, g1, g2, g3, g4⟩ := h.at_ hj
  have : a = b := firstN_inj h2 g2 (by omega)
  rw [← h3, ← g3, this]
theorem IsNum.onto {n : Nat} {s c : List Int} (h : IsNum n s c) : ∀ {m : Nat}, m ≤ n → ∀ {v : Nat}, v < firstN s m → ∃ i, i < m ∧ isFirst s i = true ∧ c.getD i 0 = (v : Int)
  | 0, _, v, hv => by cases hv
  | m + 1, hm, v, hv => by
    rw [firstN] at hv
    by_cases h1 : v < firstN s m
    · obtain ⟨i, g1, g2⟩ := h.onto (Nat.le_of_succ_le hm) h1
      exact ⟨i, by omega, g2⟩
    · by_cases hf : isFirst s m = true
      · rw [if_pos hf] at hv
        exact ⟨m, Nat.lt_succ_self _, hf, by rw [h.first m hm hf]; omega⟩
      · rw [if_neg hf] at hv; omega
theorem isFirst_same {n : Nat} {s o : List Int} (h : SameParts n s o) {i : Nat} (hi : i < n) : isFirst s i = isFirst o i := by
  rw [Bool.eq_iff_iff, isFirst_iff, isFirst_iff]
  constructor
  · intro h1 j hj e; exact h1 j hj ((h j i (by omega) hi).2 e)
  · intro h1 j hj e; exact h1 j hj ((h j i (by omega) hi).1 e)
theorem IsNum.congr {n : Nat} {s o c : List Int} (h : IsNum n s c) (hs : SameParts n s o) : IsNum n o c :=
  ⟨h.len, fun i hi hf => by rw [← firstN_same hs i (by omega)]; exact h.first i hi (by rw [isFirst_same hs hi]; exact hf), fun i j hi hj e => h.same i j hi hj ((hs i j hi hj).2 e)⟩
theorem Parted.same {n : Nat} {J : List (Nat × Nat)} {s o : List Int} (h : Parted n J s) (g : Parted n J o) : SameParts n s o := fun i j hi hj => by
  constructor
  · intro e
    exact ((h.min (fun x => o.getD x 0 = o.getD j 0) (fun p hp => by rw [g.one p hp]) i j hi hj e).2 rfl)
  · intro e
    exact ((g.min (fun x => s.getD x 0 = s.getD j 0) (fun p hp => by rw [h.one p hp]) i j hi hj e).2 rfl)
end Go.Proofs.YtbjfinndngafoaaGreat
set_option linter.unusedVariables false
set_option linter.unusedSimpArgs false
set_option maxRecDepth 100000
set_option maxHeartbeats 40000000
namespace Go.Proofs.YtbjfinndngafoaaGreat
open Go.RowKit
def permTab : List (List Nat) := [[0,1,2,3],[0,1,3,2],[0,2,1,3],[0,2,3,1],[0,3,1,2],[0,3,2,1],[1,0,2,3],[1,0,3,2],[1,2,0,3],[1,2,3,0],[1,3,0,2],[1,3,2,0],[2,0,1,3],[2,0,3,1],[2,1,0,3],[2,1,3,0],[2,3,0,1],[2,3,1,0],[3,0,1,2],[3,0,2,1],[3,1,0,2],[3,1,2,0],[3,2,0,1],[3,2,1,0]]
def PA (p k : Nat) : Nat := (permTab.getD p []).getD k 0
def PX (a b c d : Nat) : Nat := permTab.idxOf [a, b, c, d]
def PB (p k : Nat) : Nat := (permTab.getD p []).idxOf k
def PI (p : Nat) : Nat := PX (PB p 0) (PB p 1) (PB p 2) (PB p 3)
def PM (p q : Nat) : Nat := PX (PA q (PA p 0)) (PA q (PA p 1)) (PA q (PA p 2)) (PA q (PA p 3))
def EA (e : Nat) : Nat := [0, 0, 0, 1, 1, 2].getD e 0
def EB (e : Nat) : Nat := [1, 2, 3, 2, 3, 3].getD e 0
def EE (a b : Nat) : Nat := [[9, 0, 1, 2], [0, 9, 3, 4], [1, 3, 9, 5], [2, 4, 5, 9]].getD a [] |>.getD b 0
def OT (l : List Nat) : List Nat := [0, 1, 2, 3].filter fun k => !l.contains k
def ints (l : List Nat) : List Int := l.map fun n : Nat => (n : Int)
theorem tab {α : Type} {F : Nat → Nat → Option α} {g : Nat → α} {n m : Nat} (h : (fun K => (List.range n).map (F (K + m))) = fun _ => (List.range n).map fun i => some (g i)) {i : Nat} (hi : i < n) : Tends (fun K => F K i) (g i) := ⟨m, fun K hK => by
  obtain ⟨k, rfl⟩ : ∃ k, K = k + m := ⟨K - m, by omega⟩
  have h1 := congrArg (fun l => l[i]?) (congrFun h k)
  simp only [List.getElem?_map, List.getElem?_range hi, Option.map_some, Option.some.injEq] at h1
  exact h1⟩
theorem tab2 {α : Type} {F : Nat → Nat → Nat → Option α} {g : Nat → Nat → α} {a b m : Nat} (h : (fun K => (List.range (a * b)).map fun i => F (K + m) (i / b) (i % b)) = fun _ => (List.range (a * b)).map fun i => some (g (i / b) (i % b))) {i j : Nat} (hi : i < a) (hj : j < b) : Tends (fun K => F K i j) (g i j) := by
  have hb : 0 < b := by omega
  have h1 : (i * b + j) / b = i := by rw [Nat.add_comm, Nat.add_mul_div_right _ _ hb, Nat.div_eq_of_lt hj, Nat.zero_add]
  have h2 : (i * b + j) % b = j := by rw [Nat.add_comm, Nat.add_mul_mod_self_right, Nat.mod_eq_of_lt hj]
  have h3 : i * b + j < a * b := by
    have : (i + 1) * b ≤ a * b := Nat.mul_le_mul_right _ hi
    rw [Nat.succ_mul] at this
    omega
  have := tab (F := fun K i => F K (i / b) (i % b)) (g := fun i => g (i / b) (i % b)) h h3
  simp only [h1, h2] at this
  exact this
theorem PA_lt {p k : Nat} (hp : p < 24) (hk : k < 4) : PA p k < 4 := by
  have : ∀ p, p < 24 → ∀ k, k < 4 → PA p k < 4 := by decide +kernel
  exact this p hp k hk
theorem PA_inj {p j k : Nat} (hp : p < 24) (hj : j < 4) (hk : k < 4) (h : PA p j = PA p k) : j = k := by
  have : ∀ p, p < 24 → ∀ j, j < 4 → ∀ k, k < 4 → PA p j = PA p k → j = k := by decide +kernel
  exact this p hp j hj k hk h
theorem PI_lt {p : Nat} (hp : p < 24) : PI p < 24 := by
  have : ∀ p, p < 24 → PI p < 24 := by decide +kernel
  exact this p hp
theorem PI_PA {p k : Nat} (hp : p < 24) (hk : k < 4) : PA (PI p) (PA p k) = k := by
  have : ∀ p, p < 24 → ∀ k, k < 4 → PA (PI p) (PA p k) = k := by decide +kernel
  exact this p hp k hk
theorem PI_PI {p : Nat} (hp : p < 24) : PI (PI p) = p := by
  have : ∀ p, p < 24 → PI (PI p) = p := by decide +kernel
  exact this p hp
theorem PM_lt {p q : Nat} (hp : p < 24) (hq : q < 24) : PM p q < 24 := by
  have : ∀ p, p < 24 → ∀ q, q < 24 → PM p q < 24 := by decide +kernel
  exact this p hp q hq
theorem PA_PM {p q k : Nat} (hp : p < 24) (hq : q < 24) (hk : k < 4) : PA (PM p q) k = PA q (PA p k) := by
  have : ∀ p, p < 24 → ∀ q, q < 24 → ∀ k, k < 4 → PA (PM p q) k = PA q (PA p k) := by decide +kernel
  exact this p hp q hq k hk
theorem PA_ext {p q : Nat} (hp : p < 24) (hq : q < 24) (h : ∀ k, k < 4 → PA p k = PA q k) : p = q := by
  have : ∀ p, p < 24 → ∀ q, q < 24 → (∀ k, k < 4 → PA p k = PA q k) → p = q := by decide +kernel
  exact this p hp q hq h
theorem PX_of {a b c d : Nat} (ha : a < 4) (hb : b < 4) (hc : c < 4) (hd : d < 4) (h : a ≠ b ∧ a ≠ c ∧ a ≠ d ∧ b ≠ c ∧ b ≠ d ∧ c ≠ d) : PX a b c d < 24 ∧ PA (PX a b c d) 0 = a ∧ PA (PX a b c d) 1 = b ∧ PA (PX a b c d) 2 = c ∧ PA (PX a b c d) 3 = d := by
  have key : ∀ i, i < 256 → (i / 64 ≠ i / 16 % 4 ∧ i / 64 ≠ i / 4 % 4 ∧ i / 64 ≠ i % 4 ∧ i / 16 % 4 ≠ i / 4 % 4 ∧ i / 16 % 4 ≠ i % 4 ∧ i / 4 % 4 ≠ i % 4) →
      PX (i / 64) (i / 16 % 4) (i / 4 % 4) (i % 4) < 24 ∧ PA (PX (i / 64) (i / 16 % 4) (i / 4 % 4) (i % 4)) 0 = i / 64 ∧ PA (PX (i / 64) (i / 16 % 4) (i / 4 % 4) (i % 4)) 1 = i / 16 % 4 ∧ PA (PX (i / 64) (i / 16 % 4) (i / 4 % 4) (i % 4)) 2 = i / 4 % 4 ∧ PA (PX (i / 64) (i / 16 % 4) (i / 4 % 4) (i % 4)) 3 = i % 4 := by decide +kernel
  have e1 : (a * 64 + b * 16 + c * 4 + d) / 64 = a := by omega
  have e2 : (a * 64 + b * 16 + c * 4 + d) / 16 % 4 = b := by omega
  have e3 : (a * 64 + b * 16 + c * 4 + d) / 4 % 4 = c := by omega
  have e4 : (a * 64 + b * 16 + c * 4 + d) % 4 = d := by omega
  have := key (a * 64 + b * 16 + c * 4 + d) (by omega)
  rw [e1, e2, e3, e4] at this
  exact this h
theorem EAB {e : Nat} (he : e < 6) : EA e < EB e ∧ EB e < 4 ∧ EE (EA e) (EB e) = e := by
  have : ∀ e, e < 6 → EA e < EB e ∧ EB e < 4 ∧ EE (EA e) (EB e) = e := by decide +kernel
  exact this e he
theorem EE_of {a b : Nat} (ha : a < 4) (hb : b < 4) (h : a ≠ b) : EE a b < 6 ∧ EA (EE a b) = min a b ∧ EB (EE a b) = max a b := by
  have : ∀ a, a < 4 → ∀ b, b < 4 → a ≠ b → EE a b < 6 ∧ EA (EE a b) = min a b ∧ EB (EE a b) = max a b := by decide +kernel
  exact this a ha b hb h
theorem EE_comm {a b : Nat} (ha : a < 4) (hb : b < 4) : EE a b = EE b a := by
  have : ∀ a, a < 4 → ∀ b, b < 4 → EE a b = EE b a := by decide +kernel
  exact this a ha b hb
theorem perm_t {p : Nat} (hp : p < 24) : Tends (fun K => impl_perm.f K (p : Int)) ((PA p 0 : Int), (PA p 1 : Int), (PA p 2 : Int), (PA p 3 : Int)) :=
  tab (F := fun K p => impl_perm.f K (p : Int)) (g := fun p => ((PA p 0 : Int), (PA p 1 : Int), (PA p 2 : Int), (PA p 3 : Int))) (m := 40) (n := 24) (by kernel_rfl) hp
theorem images_t {p : Nat} (hp : p < 24) : Tends (fun K => spec_l06Images.f K (p : Int)) [(PA p 0 : Int), (PA p 1 : Int), (PA p 2 : Int), (PA p 3 : Int)] :=
  tab (F := fun K p => spec_l06Images.f K (p : Int)) (g := fun p => [(PA p 0 : Int), (PA p 1 : Int), (PA p 2 : Int), (PA p 3 : Int)]) (m := 40) (n := 24) (by kernel_rfl) hp
theorem at_t {p k : Nat} (hp : p < 24) (hk : k < 4) : Tends (fun K => spec_l06At.f K (p : Int) (k : Int)) (PA p k : Int) :=
  tab2 (F := fun K p k => spec_l06At.f K (p : Int) (k : Int)) (g := fun p k => (PA p k : Int)) (m := 40) (a := 24) (b := 4) (by kernel_rfl) hp hk
theorem target_t {p k : Nat} (t : Int) (hp : p < 24) (hk : k < 4) : Tends (fun K => impl_Face_target.f K t (p : Int) (k : Int)) (PA p k : Int) := by
  refine Tends.bind4 (perm_t hp) (Tends.pos (by omega) ?_)
  have : ([(PA p 0 : Int), (PA p 1 : Int), (PA p 2 : Int), (PA p 3 : Int)] : List Int).getD (k : Int).toNat 0 = (PA p k : Int) := by
    rw [Int.toNat_natCast]
    have : k = 0 ∨ k = 1 ∨ k = 2 ∨ k = 3 := by omega
    rcases this with rfl | rfl | rfl | rfl <;> rfl
  rw [this]
  exact Tends.const _
theorem back_t {p : Nat} (hp : p < 24) : Tends (fun K => spec_l06Back.f K (p : Int)) (PI p : Int) :=
  tab (F := fun K p => spec_l06Back.f K (p : Int)) (g := fun p => (PI p : Int)) (m := 40) (n := 24) (by kernel_rfl) hp
theorem invert_t {p : Nat} (hp : p < 24) : Tends (fun K => impl_invert.f K (p : Int)) (PI p : Int) :=
  tab (F := fun K p => impl_invert.f K (p : Int)) (g := fun p => (PI p : Int)) (m := 40) (n := 24) (by kernel_rfl) hp
theorem indexOf_t {p : Nat} (hp : p < 24) : Tends (fun K => impl_indexOf.f K (PA p 0 : Int) (PA p 1 : Int) (PA p 2 : Int) (PA p 3 : Int)) (p : Int) :=
  tab (F := fun K p => impl_indexOf.f K (PA p 0 : Int) (PA p 1 : Int) (PA p 2 : Int) (PA p 3 : Int)) (g := fun p => (p : Int)) (m := 40) (n := 24) (by kernel_rfl) hp
theorem index_t {p : Nat} (hp : p < 24) : Tends (fun K => spec_l06Index.f K [(PA p 0 : Int), (PA p 1 : Int), (PA p 2 : Int), (PA p 3 : Int)]) (p : Int) :=
  tab (F := fun K p => spec_l06Index.f K [(PA p 0 : Int), (PA p 1 : Int), (PA p 2 : Int), (PA p 3 : Int)]) (g := fun p => (p : Int)) (m := 40) (n := 24) (by kernel_rfl) hp
theorem getD4 {a b c d : Int} {k : Nat} {f : Nat → Nat} (h0 : a = (f 0 : Int)) (h1 : b = (f 1 : Int)) (h2 : c = (f 2 : Int)) (h3 : d = (f 3 : Int)) (hk : k < 4) : ([a, b, c, d] : List Int).getD k 0 = (f k : Int) := by
  have : k = 0 ∨ k = 1 ∨ k = 2 ∨ k = 3 := by omega
  rcases this with rfl | rfl | rfl | rfl
  · exact h0
  · exact h1
  · exact h2
  · exact h3
theorem then_t {p q : Nat} (hp : p < 24) (hq : q < 24) : Tends (fun K => spec_l06Then.f K (p : Int) (q : Int)) (PM p q : Int) := by
  have b := fun k (hk : k < 4) => PA_lt hp hk
  have g := fun k (hk : k < 4) => getD4 (f := PA q) rfl rfl rfl rfl (b k hk)
  refine Tends.bind (images_t hp) (Tends.bind (images_t hq) ?_)
  have b0 := b 0 (by decide); have b1 := b 1 (by decide); have b2 := b 2 (by decide); have b3 := b 3 (by decide)
  refine Tends.pos (by simp) (Tends.pos ?_ (Tends.pos (by simp) (Tends.pos ?_ (Tends.pos (by simp) (Tends.pos ?_ (Tends.pos (by simp) (Tends.pos ?_ ?_)))))))
  · show 0 ≤ (PA p 0 : Int) ∧ (PA p 0 : Int) < 4; omega
  · show 0 ≤ (PA p 1 : Int) ∧ (PA p 1 : Int) < 4; omega
  · show 0 ≤ (PA p 2 : Int) ∧ (PA p 2 : Int) < 4; omega
  · show 0 ≤ (PA p 3 : Int) ∧ (PA p 3 : Int) < 4; omega
  · refine Tends.bind (F := fun K => spec_l06Index.f K [([(PA q 0 : Int), (PA q 1 : Int), (PA q 2 : Int), (PA q 3 : Int)] : List Int).getD (PA p 0) 0, ([(PA q 0 : Int), (PA q 1 : Int), (PA q 2 : Int), (PA q 3 : Int)] : List Int).getD (PA p 1) 0, ([(PA q 0 : Int), (PA q 1 : Int), (PA q 2 : Int), (PA q 3 : Int)] : List Int).getD (PA p 2) 0, ([(PA q 0 : Int), (PA q 1 : Int), (PA q 2 : Int), (PA q 3 : Int)] : List Int).getD (PA p 3) 0]) ?_ (Tends.const _)
    rw [g 0 (by decide), g 1 (by decide), g 2 (by decide), g 3 (by decide), ← PA_PM hp hq (by decide), ← PA_PM hp hq (by decide), ← PA_PM hp hq (by decide), ← PA_PM hp hq (by decide)]
    exact index_t (PM_lt hp hq)
theorem compose_l1 : (fun (K : Nat) (a b c d : Int) => (List.range 24).map fun p => impl_compose.l1 (K + 40) (K + 40) (PA p 0 : Int) (PA p 1 : Int) (PA p 2 : Int) (PA p 3 : Int) a b c d 0 0 0 0 0) = fun K a b c d => (List.range 24).map fun p => (impl_indexOf.f (K + 40) (([a, b, c, d] : List Int).getD (PA p 0) 0) (([a, b, c, d] : List Int).getD (PA p 1) 0) (([a, b, c, d] : List Int).getD (PA p 2) 0) (([a, b, c, d] : List Int).getD (PA p 3) 0)).bind fun t => some t := by kernel_rfl
theorem compose_t {p q : Nat} (hp : p < 24) (hq : q < 24) : Tends (fun K => impl_compose.f K (p : Int) (q : Int)) (PM p q : Int) := by
  have b := fun k (hk : k < 4) => PA_lt hp hk
  have g := fun k (hk : k < 4) => getD4 (f := PA q) rfl rfl rfl rfl (b k hk)
  refine Tends.bind4 (perm_t hp) (Tends.bind4 (perm_t hq) ?_)
  obtain ⟨n, hn⟩ := indexOf_t (PM_lt hp hq)
  refine ⟨n + 40, fun K hK => ?_⟩
  obtain ⟨k, rfl⟩ : ∃ k, K = k + 40 := ⟨K - 40, by omega⟩
  have h1 := congrArg (fun F : Nat → Int → Int → Int → Int → List (Option Int) => (F k (PA q 0) (PA q 1) (PA q 2) (PA q 3))[p]?) compose_l1
  simp only [List.getElem?_map, List.getElem?_range hp, Option.map_some, Option.some.injEq] at h1
  show impl_compose.l1 (k + 40) (k + 40) _ _ _ _ _ _ _ _ 0 0 0 0 0 = _
  have h2 := hn (k + 40) (by omega)
  simp only [] at h2
  rw [h1, g 0 (by decide), g 1 (by decide), g 2 (by decide), g 3 (by decide), ← PA_PM hp hq (by decide), ← PA_PM hp hq (by decide), ← PA_PM hp hq (by decide), ← PA_PM hp hq (by decide), h2]
  rfl
theorem ends_t {e : Nat} (he : e < 6) : Tends (fun K => impl_ends.f K (e : Int)) ((EA e : Int), (EB e : Int)) :=
  tab (F := fun K e => impl_ends.f K (e : Int)) (g := fun e => ((EA e : Int), (EB e : Int))) (m := 20) (n := 6) (by kernel_rfl) he
theorem ends8_t {e : Nat} (he : e < 6) : spec_l08Ends.f (e : Int) = some ((EA e : Int), (EB e : Int)) := by
  have : e = 0 ∨ e = 1 ∨ e = 2 ∨ e = 3 ∨ e = 4 ∨ e = 5 := by omega
  rcases this with rfl | rfl | rfl | rfl | rfl | rfl <;> rfl
def pairs12 : List (Nat × Nat) := [(0, 1), (0, 2), (0, 3), (1, 0), (1, 2), (1, 3), (2, 0), (2, 1), (2, 3), (3, 0), (3, 1), (3, 2)]
theorem pairs12_mem {a b : Nat} (ha : a < 4) (hb : b < 4) (h : a ≠ b) : ∃ i, i < 12 ∧ pairs12.getD i (0, 0) = (a, b) := by
  have : ∀ a, a < 4 → ∀ b, b < 4 → a ≠ b → ∃ i, i < 12 ∧ pairs12.getD i (0, 0) = (a, b) := by decide +kernel
  exact this a ha b hb h
theorem tabP {α : Type} {F : Nat → Nat → Nat → Option α} {g : Nat → Nat → α} {m : Nat} (h : (fun K => (List.range 12).map fun i => F (K + m) (pairs12.getD i (0, 0)).1 (pairs12.getD i (0, 0)).2) = fun _ => (List.range 12).map fun i => some (g (pairs12.getD i (0, 0)).1 (pairs12.getD i (0, 0)).2)) {a b : Nat} (ha : a < 4) (hb : b < 4) (hab : a ≠ b) : Tends (fun K => F K a b) (g a b) := by
  obtain ⟨i, hi, he⟩ := pairs12_mem ha hb hab
  have := tab (F := fun K i => F K (pairs12.getD i (0, 0)).1 (pairs12.getD i (0, 0)).2) (g := fun i => g (pairs12.getD i (0, 0)).1 (pairs12.getD i (0, 0)).2) h hi
  simp only [he] at this
  exact this
theorem edge_t {a b : Nat} (ha : a < 4) (hb : b < 4) (hab : a ≠ b) : Tends (fun K => impl_edge.f K (a : Int) (b : Int)) (EE a b : Int) :=
  tabP (F := fun K a b => impl_edge.f K (a : Int) (b : Int)) (g := fun a b => (EE a b : Int)) (m := 20) (by kernel_rfl) ha hb hab
theorem edge8_t {a b : Nat} (ha : a < 4) (hb : b < 4) (hab : a ≠ b) : Tends (fun K => spec_l08Edge.f K (a : Int) (b : Int)) (EE a b : Int) :=
  tabP (F := fun K a b => spec_l08Edge.f K (a : Int) (b : Int)) (g := fun a b => (EE a b : Int)) (m := 20) (by kernel_rfl) ha hb hab
theorem others1_t {f : Nat} (hf : f < 4) : Tends (fun K => impl_others.f K [(f : Int)]) (ints (OT [f])) :=
  tab (F := fun K f => impl_others.f K [(f : Int)]) (g := fun f => ints (OT [f])) (m := 30) (n := 4) (by kernel_rfl) hf
theorem others2_t {a b : Nat} (ha : a < 4) (hb : b < 4) (hab : a ≠ b) : Tends (fun K => impl_others.f K [(a : Int), (b : Int)]) (ints (OT [a, b])) :=
  tabP (F := fun K a b => impl_others.f K [(a : Int), (b : Int)]) (g := fun a b => ints (OT [a, b])) (m := 30) (by kernel_rfl) ha hb hab
end Go.Proofs.YtbjfinndngafoaaGreat
set_option linter.unusedVariables false
set_option linter.unusedSimpArgs false
set_option linter.unusedSectionVars false
namespace Go.Proofs.YtbjfinndngafoaaGreat
open Go.RowKit
def face (ts : List (List GFace)) (a f : Nat) : GFace := (ts.getD a []).getD f z_GFace
def Glued (ts : List (List GFace)) (a f b p : Nat) : Prop := b < ts.length ∧ p < 24 ∧ face ts a f = ⟨b, p⟩ ∧ face ts b (PA p f) = ⟨a, PI p⟩ ∧ ¬ (b = a ∧ PA p f = f)
def Free (ts : List (List GFace)) (a f : Nat) : Prop := face ts a f = ⟨-1, 0⟩
structure Val (ts : List (List GFace)) : Prop where
  le : ts.length ≤ 8
  four : ∀ a, a < ts.length → (ts.getD a []).length = 4
  ok : ∀ a f, a < ts.length → f < 4 → Free ts a f ∨ ∃ b p, Glued ts a f b p
theorem valid_eq (p : Int) : spec_l06Valid.f p = some (decide (0 ≤ p ∧ p ≤ 23)) := by
  unfold spec_l06Valid.f
  by_cases h : 0 ≤ p
  · rw [if_pos h]; congr 1; apply decide_eq_decide.2; omega
  · rw [if_neg h, decide_eq_false (by omega)]
section
variable {ts : List (List GFace)} (h8 : ts.length ≤ 8) (h4 : ∀ i, i < ts.length → (ts.getD i []).length = 4)
include h8 h4
theorem hasFace (v : Int) : impl_hasIndex_impl_Face.f ts v = some (decide (0 ≤ v ∧ v ≤ (ts.length : Int) - 1)) := by
  unfold impl_hasIndex_impl_Face.f impl_size_impl_Face.f
  rw [Option.bind_some, rng_eq, Option.bind_some, w64_id (by omega) (by omega)]
theorem good_both {a f : Nat} (ha : a < ts.length) (hf : f < 4) : ∃ b, (b = true → Free ts a f ∨ ∃ b p, Glued ts a f b p) ∧ Tends (fun K => impl_Triangulation_isGood.f K ts (a : Int) (f : Int)) b ∧
    (b = true → ∀ v, Tends2 (fun K k => spec_IsTriangulation.l37 K k ts (a : Int) ((f + 1 : Nat) : Int)) v → Tends2 (fun K k => spec_IsTriangulation.l37 K k ts (a : Int) (f : Int)) v) ∧
    (b = false → Tends2 (fun K k => spec_IsTriangulation.l37 K k ts (a : Int) (f : Int)) false) := by
  have hr := h4 a ha
  generalize hx : (ts.getD a []).getD f z_GFace = x
  have enter : ∀ (c : Bool) (v : Bool), (x.Tet = -1 → c = decide (x.Perm = 0)) → (x.Tet ≠ -1 → c = false) → Tends2 (fun K k => spec_IsTriangulation.j40 K k ts (a : Int) (f : Int) x c) v → Tends2 (fun K k => spec_IsTriangulation.l37 K k ts (a : Int) (f : Int)) v := fun c v c1 c2 h => by
    refine Tends2.step (fun K k => ?_) h
    rw [spec_IsTriangulation.l37, if_pos (by omega), if_pos (by omega), Int.toNat_natCast, if_pos (by omega), Int.toNat_natCast, hx, bnd_eq]
    by_cases ht : x.Tet = -1
    · rw [if_pos ht, ← c1 ht]
    · rw [if_neg ht, c2 ht]
  have no : ∀ c : Bool, (c = true → False) → (0 ≤ x.Tet ∧ x.Tet ≤ (ts.length : Int) - 1 → 0 ≤ x.Perm ∧ x.Perm ≤ 23 → False) → Tends2 (fun K k => spec_IsTriangulation.j40 K k ts (a : Int) (f : Int) x c) false := fun c hc h => by
    refine Tends2.of fun K k => ?_
    rw [spec_IsTriangulation.j40, if_neg (fun e => hc e), spec_l07Tets.f, Option.bind_some, in7_eq, Option.bind_some, w64_id (by omega) (by omega)]
    by_cases h1 : 0 ≤ x.Tet ∧ x.Tet ≤ (ts.length : Int) - 1
    · rw [decide_eq_true h1, if_pos rfl, valid_eq, Option.bind_some, if_neg (by rw [decide_eq_true_eq]; exact h h1)]
    · rw [decide_eq_false h1, if_neg (by decide)]
  have impl0 : ∀ b : Bool, Tends (fun K => if x.Tet = (-1) then (some (decide (x.Perm = 0))) else ((impl_hasIndex_impl_Face.f ts x.Tet).bind fun t20 => (if t20 = true then ((impl_isPerm.f x.Perm).bind fun t25 => (if t25 = true then ((impl_Face_target.f K x.Tet x.Perm f).bind fun t30 => (if 0 ≤ x.Tet ∧ x.Tet < (ts.length : Int) then (if 0 ≤ t30 ∧ t30 < ((ts.getD x.Tet.toNat []).length : Int) then (bnd ((ts.getD x.Tet.toNat []).getD t30.toNat z_GFace) (fun e36 => bind2 (impl_Face_partner.f K x.Tet x.Perm a) (fun t38 t39 => (if (e36.Tet, e36.Perm) = (t38, t39) then (if x.Tet = (a : Int) then (some (!(decide (t30 = f)))) else (some true)) else (some false))))) else none) else none)) else (some false))) else (some false)))) b → Tends (fun K => impl_Triangulation_isGood.f K ts (a : Int) (f : Int)) b := fun b h => by
    refine Tends.congr (fun K => ?_) h
    rw [impl_Triangulation_isGood.f, if_pos (by omega), Int.toNat_natCast, if_pos (by omega), Int.toNat_natCast, hx, bnd_eq]
  by_cases ht : x.Tet = -1
  · refine ⟨decide (x.Perm = 0), fun hb => .inl (by unfold Free face; rw [hx]; cases x; simp only at ht; simp only [decide_eq_true_eq] at hb; rw [ht, hb]), impl0 _ (Tends.pos ht (Tends.const _)), fun hb v hv => ?_, fun hb => ?_⟩
    · refine enter true v (fun _ => hb.symm) (fun h => absurd ht h) (Tends2.step (fun K k => ?_) hv)
      rw [spec_IsTriangulation.j40, if_pos rfl, w64_succ (by omega)]
    · exact enter false false (fun _ => hb.symm) (fun h => absurd ht h) (no false (by decide) (fun h => by omega))
  · by_cases h1 : 0 ≤ x.Tet ∧ x.Tet ≤ (ts.length : Int) - 1
    rotate_left
    · refine ⟨false, (fun h => by cases h), impl0 _ (Tends.neg ht ?_), (fun h => by cases h), fun _ => enter false false (fun h => absurd h ht) (fun _ => rfl) (no false (by decide) (fun h => absurd h h1))⟩
      rw [hasFace h8 h4, decide_eq_false h1]; exact Tends.const _
    by_cases h2 : 0 ≤ x.Perm ∧ x.Perm ≤ 23
    rotate_left
    · refine ⟨false, (fun h => by cases h), impl0 _ (Tends.neg ht ?_), (fun h => by cases h), fun _ => enter false false (fun h => absurd h ht) (fun _ => rfl) (no false (by decide) (fun _ h => absurd h h2))⟩
      rw [hasFace h8 h4, decide_eq_true h1]
      refine Tends.bind (Tends.const true) (Tends.pos rfl ?_)
      unfold impl_isPerm.f
      rw [rng_eq, decide_eq_false h2]; exact Tends.const _
    obtain ⟨u, hu⟩ : ∃ u : Nat, x.Tet = u := ⟨x.Tet.toNat, by omega⟩
    obtain ⟨q, hq⟩ : ∃ q : Nat, x.Perm = q := ⟨x.Perm.toNat, by omega⟩
    have hq24 : q < 24 := by omega
    have hs := PA_lt hq24 hf
    have h4u := h4 u (by omega)
    have tA : Tends (fun K => spec_l06At.f K x.Perm (f : Int)) ((PA q f : Int)) := by rw [hq]; exact at_t hq24 hf
    have tB : Tends (fun K => spec_l06Back.f K x.Perm) ((PI q : Int)) := by rw [hq]; exact back_t hq24
    have iA : Tends (fun K => impl_Face_target.f K x.Tet x.Perm (f : Int)) ((PA q f : Int)) := by rw [hq]; exact target_t _ hq24 hf
    have iB : Tends (fun K => impl_Face_partner.f K x.Tet x.Perm (a : Int)) ((a : Int), (PI q : Int)) := by
      rw [hq]; exact Tends.bind (invert_t hq24) (Tends.const _)
    generalize hy : (ts.getD x.Tet.toNat []).getD (((PA q f : Nat) : Int)).toNat z_GFace = y
    have hut : (ts.getD x.Tet.toNat []).length = 4 := by rw [hu, Int.toNat_natCast]; exact h4u
    let c : Bool := decide ((y.Tet, y.Perm) = ((a : Int), (PI q : Int))) && !(decide (x.Tet = (a : Int)) && decide ((PA q f : Int) = (f : Int)))
    have hspec : ∀ v r : Bool, (c = true → Tends2 (fun K k => spec_IsTriangulation.l37 K k ts (a : Int) ((f + 1 : Nat) : Int)) v ∧ r = v) → (c = false → r = false) → Tends2 (fun K k => spec_IsTriangulation.j40 K k ts (a : Int) (f : Int) x false) r := fun v r g1 g2 => by
      refine Tends2.step (G := fun K k => (spec_l06At.f K x.Perm (f : Int)).bind fun t1613 => (spec_l06Back.f K x.Perm).bind fun t1617 => (if 0 ≤ x.Tet ∧ x.Tet < (ts.length : Int) then (if 0 ≤ t1613 ∧ t1613 < ((ts.getD x.Tet.toNat []).length : Int) then (bnd ((ts.getD x.Tet.toNat []).getD t1613.toNat z_GFace) (fun e1626 => if (e1626.Tet, e1626.Perm) = ((a : Int), t1617) then (if x.Tet = (a : Int) then (if t1613 = (f : Int) then (some false) else (spec_IsTriangulation.l37 K k ts (a : Int) (w64 ((f : Int) + 1)))) else (spec_IsTriangulation.l37 K k ts (a : Int) (w64 ((f : Int) + 1)))) else (some false))) else none) else none)) (fun K k => ?_) ?_
      · rw [spec_IsTriangulation.j40, if_neg (by decide), spec_l07Tets.f, Option.bind_some, in7_eq, Option.bind_some, w64_id (by omega) (by omega), decide_eq_true h1, if_pos rfl, valid_eq, Option.bind_some, decide_eq_true h2, if_pos rfl]
      · refine Tends2.bind tA.two (Tends2.bind tB.two (Tends2.pos (by omega) (Tends2.pos (by rw [hut]; omega) ?_)))
        rw [hy]
        simp only [bnd_eq, w64_succ (show f < 4611686018427387904 by omega)]
        by_cases e1 : (y.Tet, y.Perm) = ((a : Int), (PI q : Int))
        · refine Tends2.pos e1 ?_
          by_cases e2 : x.Tet = (a : Int)
          · by_cases e3 : (PA q f : Int) = (f : Int)
            · have : c = false := by show (_ && _) = false; rw [decide_eq_true e1, decide_eq_true e2, decide_eq_true e3]; rfl
              rw [g2 this]; exact Tends2.pos e2 (Tends2.pos e3 (Tends2.const _))
            · have : c = true := by show (_ && _) = true; rw [decide_eq_true e1, decide_eq_true e2, decide_eq_false e3]; rfl
              rw [(g1 this).2]; exact Tends2.pos e2 (Tends2.neg e3 (g1 this).1)
          · have : c = true := by show (_ && _) = true; rw [decide_eq_true e1, decide_eq_false e2]; rfl
            rw [(g1 this).2]; exact Tends2.neg e2 (g1 this).1
        · have : c = false := by show (_ && _) = false; rw [decide_eq_false e1]; rfl
          rw [g2 this]; exact Tends2.neg e1 (Tends2.const _)
    have hgood : c = true → Free ts a f ∨ ∃ b p, Glued ts a f b p := fun hc => by
      have hc' := hc
      simp only [c, Bool.and_eq_true, Bool.not_eq_true', Bool.and_eq_false_iff, decide_eq_true_eq, decide_eq_false_iff_not] at hc'
      obtain ⟨h5, h6⟩ := hc'
      refine .inr ⟨u, q, by omega, hq24, ?_, ?_, ?_⟩
      · unfold face; rw [hx, ← hu, ← hq]
      · unfold face; rw [hu, Int.toNat_natCast, Int.toNat_natCast] at hy; rw [hy]; cases y; simp only [Prod.mk.injEq] at h5; rw [h5.1, h5.2]
      · rintro ⟨h7, h8⟩; rcases h6 with h6 | h6 <;> omega
    refine ⟨c, hgood, impl0 _ (Tends.neg ht ?_), fun hb v hv => enter false v (fun h => absurd h ht) (fun _ => rfl) (hspec v v (fun _ => ⟨hv, rfl⟩) (fun h => by rw [hb] at h; cases h)), fun hb => enter false false (fun h => absurd h ht) (fun _ => rfl) (hspec false false (fun h => by rw [hb] at h; cases h) (fun _ => rfl))⟩
    rw [hasFace h8 h4, decide_eq_true h1]
    refine Tends.bind (Tends.const true) (Tends.pos rfl ?_)
    unfold impl_isPerm.f
    rw [rng_eq, decide_eq_true h2]
    refine Tends.bind (a := true) (Tends.const _) (Tends.pos rfl <| Tends.bind iA (Tends.pos (by omega) (Tends.pos (by rw [hut]; omega) ?_)))
    rw [hy]
    simp only [bnd_eq]
    refine Tends.bind2 iB ?_
    by_cases e1 : (y.Tet, y.Perm) = ((a : Int), (PI q : Int))
    · refine Tends.pos e1 ?_
      by_cases e2 : x.Tet = (a : Int)
      · refine Tends.pos e2 ?_
        have : c = !decide ((PA q f : Int) = (f : Int)) := by show (_ && _) = _; rw [decide_eq_true e1, decide_eq_true e2]; simp
        rw [this]; exact Tends.const _
      · have : c = true := by show (_ && _) = true; rw [decide_eq_true e1, decide_eq_false e2]; rfl
        rw [this]; exact Tends.neg e2 (Tends.const _)
    · have : c = false := by show (_ && _) = false; rw [decide_eq_false e1]; rfl
      rw [this]; exact Tends.neg e1 (Tends.const _)
theorem loops_both : ∀ m a, ts.length - a = m → a ≤ ts.length → ∃ b, (b = true → ∀ a', a ≤ a' → a' < ts.length → ∀ f, f < 4 → Free ts a' f ∨ ∃ b p, Glued ts a' f b p) ∧ Tends2 (fun K k => spec_IsTriangulation.l28 K k ts (a : Int)) b ∧ Tends2 (fun K k => impl_isTriangulation.l1 K k ts (ts.length : Int) (a : Int)) b
  | 0, a, hm, hi => ⟨true, fun _ a' h1 h2 => by omega, Tends2.of fun K k => by rw [spec_IsTriangulation.l28, spec_l07Tets.f, Option.bind_some, if_neg (by omega)], Tends2.of fun K k => by rw [impl_isTriangulation.l1, if_neg (by omega)]⟩
  | m + 1, a, hm, hi => by
    obtain ⟨b', hb', t1, t2⟩ := loops_both m (a + 1) (by omega) (by omega)
    have ha : a < ts.length := by omega
    obtain ⟨G, hG⟩ : ∃ G : Nat → Bool, ∀ f : Nat, f < 4 → (G f = true → Free ts a f ∨ ∃ b p, Glued ts a f b p) ∧ Tends (fun K => impl_Triangulation_isGood.f K ts (a : Int) (f : Int)) (G f) ∧
        (G f = true → ∀ v, Tends2 (fun K k => spec_IsTriangulation.l37 K k ts (a : Int) ((f + 1 : Nat) : Int)) v → Tends2 (fun K k => spec_IsTriangulation.l37 K k ts (a : Int) (f : Int)) v) ∧
        (G f = false → Tends2 (fun K k => spec_IsTriangulation.l37 K k ts (a : Int) (f : Int)) false) :=
      ⟨fun f => if h : f < 4 then Classical.choose (good_both h8 h4 ha h) else false, fun f h => by simp only [dif_pos h]; exact Classical.choose_spec (good_both h8 h4 ha h)⟩
    have s := scan_bool (l := fun K k i => spec_IsTriangulation.l37 K k ts (a : Int) (i : Int)) (n := 4) (P := G) (r := b') (fun i hi hp v hv => (hG i hi).2.2.1 hp v hv) (fun i hi hp => (hG i hi).2.2.2 hp)
      (Tends2.step (fun K k => by rw [spec_IsTriangulation.l37, if_neg (by decide), w64_succ (by omega)]) t1)
    have i := scan_bool (l := fun K k i => impl_isTriangulation.l4 K k ts (ts.length : Int) (a : Int) (i : Int)) (n := 4) (P := G) (r := b') (fun i hi hp v hv => by
        refine Tends2.step (fun K k => ?_) (Tends2.bind (G := fun K k t => if t = true then impl_isTriangulation.l4 K k ts (ts.length : Int) (a : Int) (w64 ((i : Int) + 1)) else some false) (hG i hi).2.1.two (Tends2.pos hp (by rw [w64_succ (by omega)]; exact hv)))
        rw [impl_isTriangulation.l4, if_pos (by omega)])
      (fun i hi hp => by
        refine Tends2.step (fun K k => ?_) (Tends2.bind (G := fun K k t => if t = true then impl_isTriangulation.l4 K k ts (ts.length : Int) (a : Int) (w64 ((i : Int) + 1)) else some false) (hG i hi).2.1.two (Tends2.neg (by rw [hp]; decide) (Tends2.const _)))
        rw [impl_isTriangulation.l4, if_pos (by omega)])
      (Tends2.step (fun K k => by rw [impl_isTriangulation.l4, if_neg (by decide), w64_succ (by omega)]) t2)
    refine ⟨_, fun hb a' h1 h2 f hf => ?_, Tends2.step (fun K k => by rw [spec_IsTriangulation.l28, spec_l07Tets.f, Option.bind_some, if_pos (by omega)]; rfl) s, Tends2.step (fun K k => by rw [impl_isTriangulation.l1, if_pos (by omega)]; rfl) i⟩
    rw [Bool.and_eq_true] at hb
    by_cases e : a' = a
    · subst e; exact (hG f hf).1 (allB_get hb.1 hf)
    · exact hb' hb.2 a' (by omega) h2 f hf
end
theorem tri_both (ts : List (List GFace)) (hn : ts.length ≤ 2000000) : ∃ b, (b = true → Val ts) ∧ Tends (fun K => spec_IsTriangulation.f K ts) b ∧ Tends (fun K => impl_isTriangulation.f K ts) b := by
  unfold spec_IsTriangulation.f impl_isTriangulation.f impl_size_impl_Face.f spec_l07Tets.f
  simp only [Option.bind_some]
  by_cases h8 : 8 < ts.length
  · exact ⟨false, (fun h => by cases h), Tends.pos (by omega) (Tends.const _), Tends.pos (by omega) (Tends.const _)⟩
  let P : Nat → Bool := fun i => decide (((ts.getD i []).length : Int) = 4)
  obtain ⟨v, t, e⟩ := scan_idx (l := fun K k i => slices_IndexFunc_impl_Face_impl_Face_isTriangulation_fn1.l1 K k ts (i : Int)) (n := ts.length) (P := P) (fun i hi hp v hv => Tends2.step (fun K k => by
      rw [slices_IndexFunc_impl_Face_impl_Face_isTriangulation_fn1.l1, if_pos (by omega), if_pos (by omega), Int.toNat_natCast, impl_isTriangulation_fn1.f, Option.bind_some, if_neg (by show ¬ (!P i) = true; rw [hp]; decide), w64_succ (by omega)]) hv)
    (fun i hi hp => Tends2.of fun K k => by rw [slices_IndexFunc_impl_Face_impl_Face_isTriangulation_fn1.l1, if_pos (by omega), if_pos (by omega), Int.toNat_natCast, impl_isTriangulation_fn1.f, Option.bind_some, if_pos (by show (!P i) = true; rw [hp]; rfl)])
    (Tends2.of fun K k => by rw [slices_IndexFunc_impl_Face_impl_Face_isTriangulation_fn1.l1, if_neg (by omega)])
  have tc : Tends (fun K => slices_ContainsFunc_impl_Face_impl_Face_isTriangulation_fn1.f K ts) (!allB ts.length P) := by
    rw [← e]; exact Tends.bind (F := fun K => slices_IndexFunc_impl_Face_impl_Face_isTriangulation_fn1.f K ts) t.diag (Tends.const _)
  cases hA : allB ts.length P with
  | false =>
    rw [hA] at tc
    refine ⟨false, (fun h => by cases h), Tends.neg (by omega) (scan_stop (l := fun K k i => spec_IsTriangulation.l1 K k ts (i : Int)) (n := ts.length) (P := P) (fun i hi hp v hv => Tends2.step (fun K k => by
        rw [spec_IsTriangulation.l1, if_pos (by omega), if_pos (by omega), Int.toNat_natCast, if_pos (of_decide_eq_true hp), w64_succ (by omega)]) hv)
      (fun i hi hp => Tends2.of fun K k => by rw [spec_IsTriangulation.l1, if_pos (by omega), if_pos (by omega), Int.toNat_natCast, if_neg (of_decide_eq_false hp)]) hA).diag, Tends.neg (by omega) (Tends.bind tc (Tends.pos rfl (Tends.const _)))⟩
  | true =>
    rw [hA] at tc
    have h4 : ∀ i, i < ts.length → (ts.getD i []).length = 4 := fun i hi => by
      have := of_decide_eq_true (allB_get hA hi)
      omega
    obtain ⟨b, hv, t1, t2⟩ := loops_both (by omega) h4 ts.length 0 (by omega) (by omega)
    have hs := scan_bool (l := fun K k i => spec_IsTriangulation.l1 K k ts (i : Int)) (n := ts.length) (P := P) (r := b) (fun i hi hp v hv => Tends2.step (fun K k => by
        rw [spec_IsTriangulation.l1, if_pos (by omega), if_pos (by omega), Int.toNat_natCast, if_pos (of_decide_eq_true hp), w64_succ (by omega)]) hv)
      (fun i hi hp => Tends2.of fun K k => by rw [spec_IsTriangulation.l1, if_pos (by omega), if_pos (by omega), Int.toNat_natCast, if_neg (of_decide_eq_false hp)])
      (Tends2.step (fun K k => by rw [spec_IsTriangulation.l1, if_neg (by omega)]; rfl) t1)
    rw [hA, Bool.true_and] at hs
    exact ⟨b, fun hb => ⟨by omega, h4, fun a f ha hf => hv hb a (Nat.zero_le _) ha f hf⟩, Tends.neg (by omega) hs.diag, Tends.neg (by omega) (Tends.bind tc (Tends.neg (by decide) t2.diag))⟩
end Go.Proofs.YtbjfinndngafoaaGreat
set_option linter.unusedVariables false
set_option linter.unusedSimpArgs false
namespace Go.Proofs.YtbjfinndngafoaaGreat
open Go.RowKit
theorem toFaceS_l1 {xs : List GFace} (hn : xs.length ≤ 2000000) : ∀ (m i : Nat) (out : List GFace), xs.length - i = m → i ≤ xs.length → out.length = xs.length → (∀ j, j < i → out[j]? = xs[j]?) →
    Tends2 (fun K k => laws_toFaceS.l1 K k xs out (i : Int)) xs
  | 0, i, out, hm, hi, hl, ho => by
    have he : out = xs := by
      apply List.ext_getElem?
      intro j
      by_cases hj : j < i
      · exact ho j hj
      · rw [List.getElem?_eq_none (by omega), List.getElem?_eq_none (by omega)]
    refine Tends2.succ (Tends2.congr (G := fun _ _ => some xs) (fun K k => ?_) (Tends2.const _))
    rw [laws_toFaceS.l1, if_neg (by omega), he]
  | m + 1, i, out, hm, hi, hl, ho => by
    have hlt : i < xs.length := by omega
    have ih := toFaceS_l1 hn m (i + 1) (out.set i xs[i]) (by omega) (by omega) (by rw [List.length_set]; exact hl) (fun j hj => by
      by_cases hij : i = j
      · subst hij; rw [List.getElem?_set_self (by omega), List.getElem?_eq_getElem hlt]
      · rw [List.getElem?_set_ne hij]; exact ho j (by omega))
    refine Tends2.succ (Tends2.congr (fun K k => ?_) ih)
    rw [laws_toFaceS.l1, if_pos (by omega), if_pos (by omega)]
    try simp only [laws_toFace.f, bind2, Option.bind_some, bnd_eq]
    rw [if_pos (by omega), Int.toNat_natCast, w64_succ (by omega), List.getD_eq_getElem?_getD, List.getElem?_eq_getElem hlt]
    rfl
theorem toFaceS {xs : List GFace} (hn : xs.length ≤ 2000000) : Tends (fun K => laws_toFaceS.f K xs) xs := by
  refine Tends.congr (fun K => ?_) (toFaceS_l1 hn xs.length 0 (List.replicate xs.length z_GFace) (by omega) (by omega) (by simp) (fun j hj => by omega)).diag
  rw [laws_toFaceS.f, if_pos (by omega), if_pos (by omega), Int.toNat_natCast]
  rfl
theorem eqFaceS_l1 {xs : List GFace} (hn : xs.length ≤ 2000000) : ∀ (m i : Nat), xs.length - i = m → Tends2 (fun K k => laws_eqFaceS.l1 K k xs xs (i : Int)) true
  | 0, i, hm => by
    refine Tends2.succ (Tends2.congr (G := fun _ _ => some true) (fun K k => ?_) (Tends2.const _))
    rw [laws_eqFaceS.l1, if_neg (by omega)]
  | m + 1, i, hm => by
    refine Tends2.succ (Tends2.congr (fun K k => ?_) (eqFaceS_l1 hn m (i + 1) (by omega)))
    rw [laws_eqFaceS.l1, if_pos (by omega), if_pos (by omega), bnd_eq, if_pos (by omega), bnd_eq]
    simp only [laws_eqFace.f, if_true, Option.bind_some]
    rw [w64_succ (by omega)]
theorem eqFaceS {xs : List GFace} (hn : xs.length ≤ 2000000) : Tends (fun K => laws_eqFaceS.f K xs xs) true := by
  refine Tends.congr (fun K => ?_) (eqFaceS_l1 hn xs.length 0 (by omega)).diag
  rw [laws_eqFaceS.f, if_pos rfl]
  rfl
theorem toFaceSS_l1 {xs : List (List GFace)} (hn : xs.length ≤ 2000000) (hr : ∀ i, i < xs.length → (xs.getD i []).length ≤ 2000000) : ∀ (m i : Nat) (out : List (List GFace)), xs.length - i = m → i ≤ xs.length → out.length = xs.length → (∀ j, j < i → out[j]? = xs[j]?) →
    Tends2 (fun K k => laws_toFaceSS.l1 K k xs out (i : Int)) xs
  | 0, i, out, hm, hi, hl, ho => by
    have he : out = xs := by
      apply List.ext_getElem?
      intro j
      by_cases hj : j < i
      · exact ho j hj
      · rw [List.getElem?_eq_none (by omega), List.getElem?_eq_none (by omega)]
    refine Tends2.succ (Tends2.congr (G := fun _ _ => some xs) (fun K k => ?_) (Tends2.const _))
    rw [laws_toFaceSS.l1, if_neg (by omega), he]
  | m + 1, i, out, hm, hi, hl, ho => by
    have hlt : i < xs.length := by omega
    have hg : xs.getD i [] = xs[i] := by rw [List.getD_eq_getElem?_getD, List.getElem?_eq_getElem hlt]; rfl
    have ih := toFaceSS_l1 hn hr m (i + 1) (out.set i xs[i]) (by omega) (by omega) (by rw [List.length_set]; exact hl) (fun j hj => by
      by_cases hij : i = j
      · subst hij; rw [List.getElem?_set_self (by omega), List.getElem?_eq_getElem hlt]
      · rw [List.getElem?_set_ne hij]; exact ho j (by omega))
    have hb := Tends2.bind (G := fun K k t => if 0 ≤ (i : Int) ∧ (i : Int) < (out.length : Int) then laws_toFaceSS.l1 K k xs (out.set i t) (w64 ((i : Int) + 1)) else none) (toFaceS (hr i hlt)).two (r := xs) (Tends2.pos (by omega) (by rw [hg, w64_succ (by omega)]; exact ih))
    refine Tends2.succ (Tends2.congr (fun K k => ?_) hb)
    rw [laws_toFaceSS.l1, if_pos (by omega), if_pos (by omega), Int.toNat_natCast]
theorem toFaceSS {xs : List (List GFace)} (hn : xs.length ≤ 2000000) (hr : ∀ i, i < xs.length → (xs.getD i []).length ≤ 2000000) : Tends (fun K => laws_toFaceSS.f K xs) xs := by
  refine Tends.congr (fun K => ?_) (toFaceSS_l1 hn hr xs.length 0 (List.replicate xs.length []) (by omega) (by omega) (by simp) (fun j hj => by omega)).diag
  rw [laws_toFaceSS.f, if_pos (by omega), if_pos (by omega), Int.toNat_natCast]
  rfl
theorem eqFaceSS_l1 {xs : List (List GFace)} (hn : xs.length ≤ 2000000) (hr : ∀ i, i < xs.length → (xs.getD i []).length ≤ 2000000) : ∀ (m i : Nat), xs.length - i = m → Tends2 (fun K k => laws_eqFaceSS.l1 K k xs xs (i : Int)) true
  | 0, i, hm => by
    refine Tends2.succ (Tends2.congr (G := fun _ _ => some true) (fun K k => ?_) (Tends2.const _))
    rw [laws_eqFaceSS.l1, if_neg (by omega)]
  | m + 1, i, hm => by
    have hb := Tends2.bind (G := fun K k t => if t = true then laws_eqFaceSS.l1 K k xs xs (w64 ((i : Int) + 1)) else some false) (eqFaceS (hr i (by omega))).two (r := true) (Tends2.pos rfl (by rw [w64_succ (by omega)]; exact eqFaceSS_l1 hn hr m (i + 1) (by omega)))
    refine Tends2.succ (Tends2.congr (fun K k => ?_) hb)
    rw [laws_eqFaceSS.l1, if_pos (by omega), if_pos (by omega), if_pos (by omega), Int.toNat_natCast]
theorem eqFaceSS {xs : List (List GFace)} (hn : xs.length ≤ 2000000) (hr : ∀ i, i < xs.length → (xs.getD i []).length ≤ 2000000) : Tends (fun K => laws_eqFaceSS.f K xs xs) true := by
  refine Tends.congr (fun K => ?_) (eqFaceSS_l1 hn hr xs.length 0 (by omega)).diag
  rw [laws_eqFaceSS.f, if_pos rfl]
  rfl
def Left (n : Nat) (r left : Int) : Prop := r < 0 ∨ (0 ≤ r ∧ r ≤ left ∧ (n : Int) ≤ left)
theorem sz_step {n : Nat} {left : Int} (h0 : 0 ≤ left) (h1 : left ≤ 1048576) (hn : n ≤ 9223372036854775807) : ∃ r, (if w64 (left - (n : Int)) < 0 then some (-1 : Int) else some (w64 (left - (n : Int)))) = some r ∧ Left n r left := by
  rw [w64_id (by omega) (by omega)]
  by_cases h : left - (n : Int) < 0
  · exact ⟨-1, if_pos h, .inl (by omega)⟩
  · exact ⟨left - n, if_neg h, .inr (by omega)⟩
theorem szFaceSS_l1 {xs : List (List GFace)} (hn : xs.length ≤ 2000000) (hr : ∀ i, i < xs.length → (xs.getD i []).length ≤ 9223372036854775807) : ∀ (m i : Nat) (left : Int), xs.length - i = m → 0 ≤ left → left ≤ 1048576 →
    ∃ r, Tends2 (fun K k => laws_szFaceSS.l1 K k xs left (i : Int)) r ∧ (r < 0 ∨ (0 ≤ r ∧ r ≤ left ∧ ∀ j, i ≤ j → j < xs.length → (xs.getD j []).length ≤ 2000000))
  | 0, i, left, hm, h0, h1 => by
    refine ⟨left, Tends2.succ (Tends2.congr (G := fun _ _ => some left) (fun K k => ?_) (Tends2.const _)), .inr ⟨h0, Int.le_refl _, fun j hj hlt => by omega⟩⟩
    rw [laws_szFaceSS.l1, if_neg (by omega)]
  | m + 1, i, left, hm, h0, h1 => by
    obtain ⟨r, hr1, hr2⟩ := sz_step h0 h1 (hr i (by omega))
    have hs : laws_szFaceS.f (xs.getD i []) left = some r := hr1
    rcases hr2 with hneg | ⟨g0, g1, g2⟩
    · refine ⟨-1, Tends2.succ (Tends2.congr (G := fun _ _ => some (-1)) (fun K k => ?_) (Tends2.const _)), .inl (by omega)⟩
      rw [laws_szFaceSS.l1, if_pos (by omega), if_pos (by omega), Int.toNat_natCast, hs, Option.bind_some, if_pos hneg]
    · obtain ⟨r', t, c⟩ := szFaceSS_l1 hn hr m (i + 1) r (by omega) g0 (by omega)
      refine ⟨r', Tends2.succ (Tends2.congr (fun K k => ?_) t), ?_⟩
      · rw [laws_szFaceSS.l1, if_pos (by omega), if_pos (by omega), Int.toNat_natCast, hs, Option.bind_some, if_neg (by omega), w64_succ (by omega)]
      · rcases c with c | ⟨c0, c1, c2⟩
        · exact .inl c
        · refine .inr ⟨c0, by omega, fun j hj hlt => ?_⟩
          by_cases e : j = i
          · subst e; omega
          · exact c2 j (by omega) hlt
theorem szFaceSS {xs : List (List GFace)} (hn : xs.length ≤ 9223372036854775807) (hr : ∀ i, i < xs.length → (xs.getD i []).length ≤ 9223372036854775807) {left : Int} (h0 : 0 ≤ left) (h1 : left ≤ 1048576) :
    ∃ r, Tends (fun K => laws_szTriangulation.f K xs left) r ∧ (r < 0 ∨ (0 ≤ r ∧ r ≤ left ∧ xs.length ≤ 2000000 ∧ ∀ j, j < xs.length → (xs.getD j []).length ≤ 2000000)) := by
  by_cases h : left - (xs.length : Int) < 0
  · refine ⟨-1, Tends.congr (G := fun _ => some (-1)) (fun K => ?_) (Tends.const _), .inl (by omega)⟩
    unfold laws_szTriangulation.f laws_szFaceSS.f
    rw [w64_id (by omega) (by omega), if_pos h, Option.bind_some, if_pos (by omega)]
  · obtain ⟨r, t, c⟩ := szFaceSS_l1 (by omega) hr xs.length 0 (left - xs.length) (by omega) (by omega) (by omega)
    have t' : Tends (fun K => laws_szFaceSS.f K xs left) r := Tends.congr (fun K => by unfold laws_szFaceSS.f; rw [w64_id (by omega) (by omega), if_neg h]; rfl) t.diag
    rcases c with c | ⟨c0, c1, c2⟩
    · exact ⟨-1, Tends.bind t' (Tends.pos c (Tends.const _)), .inl (by omega)⟩
    · exact ⟨r, Tends.bind t' (Tends.neg (by omega) (Tends.const _)), .inr ⟨c0, by omega, by omega, fun j hj => c2 j (Nat.zero_le _) hj⟩⟩
end Go.Proofs.YtbjfinndngafoaaGreat
set_option linter.unusedVariables false
set_option linter.unusedSimpArgs false
set_option linter.unusedSectionVars false
namespace Go.Proofs.YtbjfinndngafoaaGreat
open Go.RowKit
theorem Parted.joinPQ {n : Nat} {J : List (Nat × Nat)} {s : List Int} (h : Parted n J s) {i k : Nat} (hi : i < n) (hk : k < n) {p q : Int} (hpq : (p = s.getD i 0 ∧ q = s.getD k 0) ∨ (p = s.getD k 0 ∧ q = s.getD i 0)) : Parted n (J ++ [(i, k)]) (s.map (repl p q)) := by
  have hg : ∀ x, x < n → (s.map (repl p q)).getD x 0 = repl p q (s.getD x 0) := fun x hx => getD_map (by rw [h.len]; exact hx)
  refine ⟨by rw [List.length_map]; exact h.len, fun x hx => ?_, fun x hx => ?_, fun Q hQ a b ha hb hab => ?_⟩
  · rcases List.mem_append.1 hx with hx | hx
    · exact h.inn x hx
    · rw [List.mem_singleton.1 hx]; exact ⟨hi, hk⟩
  · rcases List.mem_append.1 hx with hx | hx
    · have := h.inn x hx
      rw [hg _ this.1, hg _ this.2, h.one x hx]
    · rw [List.mem_singleton.1 hx, hg _ hi, hg _ hk, repl_eq]
      rcases hpq with ⟨rfl, rfl⟩ | ⟨rfl, rfl⟩
      · exact .inr ⟨.inl rfl, .inr rfl⟩
      · exact .inr ⟨.inr rfl, .inl rfl⟩
  · have hm := h.min Q (fun x hx => hQ x (List.mem_append_left _ hx))
    have hik : Q i ↔ Q k := hQ (i, k) (List.mem_append_right _ (List.mem_singleton.2 rfl))
    rw [hg _ ha, hg _ hb, repl_eq] at hab
    rcases hab with hab | ⟨h1, h2⟩
    · exact hm a b ha hb hab
    · have key : ∀ x, x < n → (s.getD x 0 = p ∨ s.getD x 0 = q) → (Q x ↔ Q i) := fun x hx hxx => by
        have : s.getD x 0 = s.getD i 0 ∨ s.getD x 0 = s.getD k 0 := by
          rcases hpq with ⟨rfl, rfl⟩ | ⟨rfl, rfl⟩
          · exact hxx
          · exact hxx.symm
        rcases this with e | e
        · exact hm x i hx hi e
        · exact (hm x k hx hk e).trans hik.symm
      exact (key a ha h1).trans (key b hb h2).symm
theorem union_l1 {s : List Int} (hn : s.length ≤ 100) {i k : Int} : ∀ (d j : Nat) (s' : List Int), s.length - j = d → s'.length = s.length → (∀ i', i' < j → s'[i']? = (s.map (repl (s.getD k.toNat 0) (s.getD i.toNat 0)))[i']?) → (∀ i', j ≤ i' → s'[i']? = s[i']?) →
    Tends2 (fun K k' => impl_union.l1 K k' s i k s' (j : Int)) (s.map (repl (s.getD k.toNat 0) (s.getD i.toNat 0)))
  | 0, j, s', hd, hl, h1, h2 => by
    refine Tends2.succ (Tends2.congr (fun K k' => ?_) (Tends2.const _))
    rw [impl_union.l1, if_neg (by omega), list_half hl h1 (by omega)]
  | d + 1, j, s', hd, hl, h1, h2 => by
    obtain ⟨g1, g2, g3⟩ := half_step hl (show j < s.length by omega) h1 h2 _ rfl
    have ih := union_l1 hn d (j + 1) _ (by omega) g1 g2 g3
    refine Tends2.succ (Tends2.congr (fun K k' => ?_) ih)
    rw [impl_union.l1, if_pos (by omega), if_pos (by omega), Int.toNat_natCast, w64_succ (by omega)]
    by_cases hc : s'.getD j 0 = s.getD k.toNat 0
    · rw [if_pos hc, decide_eq_true hc]; rfl
    · rw [if_neg hc, decide_eq_false hc]; rfl
theorem unionP {n : Nat} {J : List (Nat × Nat)} {s : List Int} (hn : n ≤ 100) (h : Parted n J s) {i k : Nat} (hi : i < n) (hk : k < n) : ∃ s', Tends (fun K => impl_union.f K s (i : Int) (k : Int)) s' ∧ s'.length = s.length ∧ Parted n (J ++ [(i, k)]) s' := by
  have hl := h.len
  refine ⟨_, Tends.congr (fun K => ?_) (union_l1 (by omega) (i := (i : Int)) (k := (k : Int)) s.length 0 s rfl rfl (fun i' h => by omega) (fun _ _ => rfl)).diag, by rw [List.length_map], ?_⟩
  · rw [impl_union.f, if_pos (by omega), if_pos (by omega)]; rfl
  · rw [Int.toNat_natCast, Int.toNat_natCast]
    exact h.joinPQ hi hk (.inr ⟨rfl, rfl⟩)
theorem join_l1 {s : List Int} (hn : s.length ≤ 100) {i k : Nat} {p q : Int} (hp : p = if s.getD k 0 > s.getD i 0 then s.getD k 0 else s.getD i 0) (hq : q = if s.getD k 0 < s.getD i 0 then s.getD k 0 else s.getD i 0) : ∀ (d j : Nat) (s' : List Int), s.length - j = d → s'.length = s.length → (∀ i', i' < j → s'[i']? = (s.map (repl p q))[i']?) → (∀ i', j ≤ i' → s'[i']? = s[i']?) →
    Tends2 (fun K k' => spec_l08Join.l1 K k' s (i : Int) (k : Int) s' (j : Int)) (s.map (repl p q))
  | 0, j, s', hd, hl, h1, h2 => by
    refine Tends2.succ (Tends2.congr (fun K k' => ?_) (Tends2.const _))
    rw [spec_l08Join.l1, if_neg (by omega), list_half hl h1 (by omega)]
  | d + 1, j, s', hd, hl, h1, h2 => by
    obtain ⟨g1, g2, g3⟩ := half_step hl (show j < s.length by omega) h1 h2 _ rfl
    have ih := join_l1 hn hp hq d (j + 1) _ (by omega) g1 g2 g3
    refine Tends2.succ (Tends2.congr (fun K k' => ?_) ih)
    rw [spec_l08Join.l1, if_pos (by omega), if_pos (by omega), Int.toNat_natCast, Int.toNat_natCast, Int.toNat_natCast, w64_succ (by omega), ← hp, ← hq]
    by_cases hc : s'.getD j 0 = p
    · rw [if_pos hc, decide_eq_true hc]; rfl
    · rw [if_neg hc, decide_eq_false hc]; rfl
theorem joinP {n : Nat} {J : List (Nat × Nat)} {s : List Int} (hn : n ≤ 100) (h : Parted n J s) (hL : Least n s) {i k : Nat} (hi : i < n) (hk : k < n) : ∃ s', Tends (fun K => spec_l08Join.f K s (i : Int) (k : Int)) s' ∧ s'.length = s.length ∧ Parted n (J ++ [(i, k)]) s' ∧ Least n s' := by
  have hl := h.len
  obtain ⟨p, hp⟩ : ∃ p, p = if s.getD k 0 > s.getD i 0 then s.getD k 0 else s.getD i 0 := ⟨_, rfl⟩
  obtain ⟨q, hq⟩ : ∃ q, q = if s.getD k 0 < s.getD i 0 then s.getD k 0 else s.getD i 0 := ⟨_, rfl⟩
  have hpq : (p = s.getD i 0 ∧ q = s.getD k 0) ∨ (p = s.getD k 0 ∧ q = s.getD i 0) := by
    by_cases h3 : s.getD k 0 > s.getD i 0
    · rw [if_pos h3] at hp; rw [if_neg (by omega)] at hq; exact .inr ⟨hp, hq⟩
    · rw [if_neg h3] at hp
      by_cases h4 : s.getD k 0 < s.getD i 0
      · rw [if_pos h4] at hq; exact .inl ⟨hp, hq⟩
      · rw [if_neg h4] at hq; exact .inl ⟨hp, by omega⟩
  have hle : q ≤ p := by rw [hp, hq]; split <;> split <;> omega
  refine ⟨_, Tends.congr (fun K => ?_) (join_l1 (by omega) hp hq s.length 0 s rfl rfl (fun i' h => by omega) (fun _ _ => rfl)).diag, by rw [List.length_map], h.joinPQ hi hk hpq, ?_⟩
  · rw [spec_l08Join.f, if_pos (by omega), if_pos (by omega)]; rfl
  · rcases hpq with ⟨h1, h2⟩ | ⟨h1, h2⟩
    · exact hL.join hi hk (.inl ⟨h1, h2⟩) hle
    · exact hL.join hi hk (.inr ⟨h1, h2⟩) hle
noncomputable def fo (s : List Int) (i : Nat) : Nat := Classical.choose (first_of s i)
theorem fo_spec (s : List Int) (i : Nat) : fo s i ≤ i ∧ isFirst s (fo s i) = true ∧ s.getD (fo s i) 0 = s.getD i 0 := Classical.choose_spec (first_of s i)
theorem fo_uniq {s : List Int} {i j : Nat} (hf : isFirst s j = true) (he : s.getD j 0 = s.getD i 0) : fo s i = j := by
  obtain ⟨h1, h2, h3⟩ := fo_spec s i
  rcases Nat.lt_trichotomy (fo s i) j with h | h | h
  · exact absurd (h3.trans he.symm) (isFirst_iff.1 hf _ h)
  · exact h
  · exact absurd (he.trans h3.symm) (isFirst_iff.1 h2 _ h)
noncomputable def cn (s : List Int) (i : Nat) : Int := (firstN s (fo s i) : Int)
noncomputable def CN (n : Nat) (s : List Int) : List Int := (List.range n).map (cn s)
theorem CN_len (n : Nat) (s : List Int) : (CN n s).length = n := by simp [CN]
theorem CN_get {n : Nat} {s : List Int} {i : Nat} (hi : i < n) : (CN n s).getD i 0 = cn s i := by
  unfold CN
  rw [List.getD_eq_getElem?_getD, List.getElem?_map, List.getElem?_range hi]; rfl
theorem CN_num (n : Nat) (s : List Int) : IsNum n s (CN n s) := ⟨CN_len n s, fun i hi hf => by rw [CN_get hi, cn, fo_uniq hf rfl], fun i j hi hj he => by
  rw [CN_get hi, CN_get hj, cn, cn, fo_uniq (fo_spec s j).2.1 ((fo_spec s j).2.2.trans he.symm)]⟩
theorem CN_same {n : Nat} {s o : List Int} (h : SameParts n s o) : CN n s = CN n o := ((CN_num n s).congr h).uniq (CN_num n o)
theorem mget_mput (k v k' : Int) : ∀ m : List (Int × Int), mget (mput m k v) k' = if k' = k then some v else mget m k'
  | [] => by unfold mput mget mget; rfl
  | p :: r => by
    unfold mput
    by_cases h : k = p.1
    · rw [if_pos h]
      unfold mget
      by_cases h2 : k' = k
      · rw [if_pos h2, if_pos h2]
      · rw [if_neg h2, if_neg h2, if_neg (by rw [← h]; exact h2)]
    · rw [if_neg h]
      unfold mget
      by_cases h2 : k' = p.1
      · rw [if_pos h2, if_pos h2, if_neg (by rw [h2]; exact fun e => h e.symm)]
      · rw [if_neg h2, if_neg h2, mget_mput k v k' r]
theorem mput_len {k v : Int} : ∀ {m : List (Int × Int)}, mget m k = none → (mput m k v).length = m.length + 1
  | [], _ => rfl
  | p :: r, h => by
    unfold mget at h
    by_cases hk : k = p.1
    · rw [if_pos hk] at h; cases h
    · rw [if_neg hk] at h
      unfold mput
      rw [if_neg hk, List.length_cons, List.length_cons, mput_len h]
theorem CN_succ (s : List Int) (x : Nat) : CN (x + 1) s = CN x s ++ [cn s x] := by unfold CN; rw [List.range_succ, List.map_append]; rfl
theorem numbered_l1 {s : List Int} (hn : s.length ≤ 100) : ∀ (d x : Nat) (m : List (Int × Int)), s.length - x = d → x ≤ s.length → (∀ j, j < x → isFirst s j = true → mget m (s.getD j 0) = some (firstN s j : Int)) → (∀ v, (∀ j, j < x → s.getD j 0 ≠ v) → mget m v = none) → m.length = firstN s x →
    Tends2 (fun K k => impl_numbered.l1 K k s m (CN x s) (x : Int)) (CN s.length s)
  | 0, x, m, hd, hx, h1, h2, h3 => by
    obtain rfl : x = s.length := by omega
    refine Tends2.of fun K k => ?_
    rw [impl_numbered.l1, if_neg (by omega)]
  | d + 1, x, m, hd, hx, h1, h2, h3 => by
    have hxl : x < s.length := by omega
    have hlen := CN_len x s
    cases hf : isFirst s x with
    | true =>
      have hno : mget m (s.getD x 0) = none := h2 _ (fun j hj => isFirst_iff.1 hf j hj)
      have hcn : cn s x = (firstN s x : Int) := by rw [cn, fo_uniq hf rfl]
      have ih := numbered_l1 hn d (x + 1) (mput m (s.getD x 0) (m.length : Int)) (by omega) (by omega) (fun j hj hfj => by
          rw [mget_mput]
          by_cases e : j = x
          · subst e; rw [if_pos rfl, h3]
          · rw [if_neg (isFirst_iff.1 hf j (by omega)), h1 j (by omega) hfj]) (fun v hv => by
          rw [mget_mput, if_neg (fun e => hv x (by omega) e.symm)]
          exact h2 v (fun j hj => hv j (by omega))) (by rw [mput_len hno, h3, firstN, if_pos hf])
      refine Tends2.step (G := fun K k => impl_numbered.j4 K k s (CN x s) (x : Int) (mput m (s.getD x 0) (m.length : Int))) (fun K k => ?_) (Tends2.step (fun K k => ?_) ih)
      · rw [impl_numbered.l1, if_pos (by omega), if_pos (by omega), Int.toNat_natCast, hno, if_neg (by decide)]
      · rw [impl_numbered.j4, if_pos (by omega), Int.toNat_natCast, mget_mput, if_pos rfl, w64_succ (by omega), CN_succ, hcn, h3]
        rfl
    | false =>
      obtain ⟨g1, g2, g3⟩ := fo_spec s x
      have hlt : fo s x < x := by
        rcases Nat.lt_or_eq_of_le g1 with h | h
        · exact h
        · rw [h, hf] at g2; cases g2
      have hyes : mget m (s.getD x 0) = some (firstN s (fo s x) : Int) := by rw [← g3]; exact h1 _ hlt g2
      have ih := numbered_l1 hn d (x + 1) m (by omega) (by omega) (fun j hj hfj => by
          by_cases e : j = x
          · subst e; rw [hf] at hfj; cases hfj
          · exact h1 j (by omega) hfj) (fun v hv => h2 v (fun j hj => hv j (by omega))) (by rw [firstN, if_neg (by rw [hf]; decide), h3]; rfl)
      refine Tends2.step (G := fun K k => impl_numbered.j4 K k s (CN x s) (x : Int) m) (fun K k => ?_) (Tends2.step (fun K k => ?_) ih)
      · rw [impl_numbered.l1, if_pos (by omega), if_pos (by omega), Int.toNat_natCast, hyes, if_pos (by rfl)]
      · rw [impl_numbered.j4, if_pos (by omega), Int.toNat_natCast, hyes, w64_succ (by omega), CN_succ, cn]
        rfl
theorem numbered {s : List Int} (hn : s.length ≤ 100) : Tends (fun K => impl_numbered.f K s) (CN s.length s) :=
  (numbered_l1 hn s.length 0 [] (by omega) (by omega) (fun j hj => by omega) (fun v _ => rfl) rfl).diag
end Go.Proofs.YtbjfinndngafoaaGreat
set_option linter.unusedVariables false
set_option linter.unusedSimpArgs false
set_option linter.unusedSectionVars false
namespace Go.Proofs.YtbjfinndngafoaaGreat
open Go.RowKit
theorem Least.first_iff {n : Nat} {o : List Int} (h : Least n o) {i : Nat} (hi : i < n) : isFirst o i = true ↔ o.getD i 0 = (i : Int) := by
  have h1 := h.low i hi
  have h2 := h.root i hi
  rw [isFirst_iff]
  constructor
  · intro hf
    rcases Int.lt_or_eq_of_le h1.2 with hlt | he
    · exact absurd h2 (hf _ (by omega))
    · exact he
  · intro he j hj e
    have := (h.low j (by omega)).2
    rw [e, he] at this
    omega
theorem Least.cn {n : Nat} {o : List Int} (h : Least n o) {i : Nat} (hi : i < n) : (o.getD i 0).toNat < n ∧ fo o i = (o.getD i 0).toNat := by
  have h1 := h.low i hi
  have h2 := h.root i hi
  have hl : (o.getD i 0).toNat < n := by omega
  exact ⟨hl, fo_uniq ((h.first_iff hl).2 (by rw [h2]; omega)) h2⟩
def rowAt (C : List Int) (w a : Nat) : List Int := (List.range w).map fun e => C.getD (w * a + e) 0
def rowsOf (C : List Int) (w m : Nat) : List (List Int) := (List.range m).map (rowAt C w)
theorem rowAt_len (C : List Int) (w a : Nat) : (rowAt C w a).length = w := by simp [rowAt]
theorem rowsOf_len (C : List Int) (w m : Nat) : (rowsOf C w m).length = m := by simp [rowsOf]
theorem rowsOf_get {C : List Int} {w m a : Nat} (h : a < m) : (rowsOf C w m).getD a [] = rowAt C w a := by
  unfold rowsOf
  rw [List.getD_eq_getElem?_getD, List.getElem?_map, List.getElem?_range h]; rfl
theorem rowAt_get {C : List Int} {w a e : Nat} (h : e < w) : (rowAt C w a).getD e 0 = C.getD (w * a + e) 0 := by
  unfold rowAt
  rw [List.getD_eq_getElem?_getD, List.getElem?_map, List.getElem?_range h]; rfl
section
variable {o : List Int} {w m : Nat} (hw : o.length = w * m) (hn : w * m ≤ 100) (hw0 : 0 < w) (hw1 : w ≤ 100) (hL : Least (w * m) o)
include hw hn hw0 hw1 hL
theorem rows_l10 {num : List Int} {c : Int} (hnl : num.length = w * m) (hnum : ∀ j, j < w * m → o.getD j 0 = (j : Int) → num.getD j 0 = (firstN o j : Int)) {out : List (List Int)} (ho : out.length ≤ 100) {a : Nat} (ha : a < m) {R : List (List Int) × Int}
    (hR : Tends2 (fun K k => spec_l08Rows.l7 K k o (w : Int) num c (out ++ [rowAt (CN (w * m) o) w a]) ((w * (a + 1) : Nat) : Int)) R) : ∀ (d e : Nat), w - e = d → e ≤ w →
    Tends2 (fun K k => spec_l08Rows.l10 K k o (w : Int) num c out ((w * a : Nat) : Int) ((List.range e).map fun e => (CN (w * m) o).getD (w * a + e) 0) ((w * a + e : Nat) : Int)) R
  | 0, e, hd, he => by
    obtain rfl : e = w := by omega
    refine Tends2.step (fun K k => ?_) hR
    have h1 : w64 (((e * a : Nat) : Int) + (e : Int)) = ((e * (a + 1) : Nat) : Int) := by
      have h2 : e * (a + 1) = e * a + e := Nat.mul_succ e a
      have : e * (a + 1) ≤ e * m := Nat.mul_le_mul_left e ha
      rw [w64_id (by omega) (by omega)]; omega
    rw [spec_l08Rows.l10, h1, if_neg (by rw [Nat.mul_succ]; omega), if_pos (by omega)]
    rfl
  | d + 1, e, hd, he => by
    have hlt : e < w := by omega
    have h2 : w * (a + 1) ≤ w * m := Nat.mul_le_mul_left w ha
    rw [Nat.mul_succ] at h2
    have hin : w * a + e < w * m := by omega
    obtain ⟨g1, g2⟩ := hL.cn hin
    have g3 := hL.low _ hin
    have g4 := hL.root _ hin
    refine Tends2.step (fun K k => ?_) (rows_l10 hnl hnum ho ha hR d (e + 1) (by omega) (by omega))
    rw [spec_l08Rows.l10, w64_id (by omega) (by omega), if_pos (by omega), if_pos (by omega), Int.toNat_natCast, if_pos (by omega), if_pos (by rw [List.length_map, List.length_range]; omega), w64_succ (by omega), List.range_succ, List.map_append]
    have h5 : num.getD (o.getD (w * a + e) 0).toNat 0 = (CN (w * m) o).getD (w * a + e) 0 := by
      rw [CN_get hin, cn, g2, hnum _ g1 (by rw [g4]; omega)]
    rw [h5]
    rfl
theorem rows_l7 {num : List Int} {c : Int} (hnl : num.length = w * m) (hnum : ∀ j, j < w * m → o.getD j 0 = (j : Int) → num.getD j 0 = (firstN o j : Int)) : ∀ (d a : Nat), m - a = d → a ≤ m →
    Tends2 (fun K k => spec_l08Rows.l7 K k o (w : Int) num c (rowsOf (CN (w * m) o) w a) ((w * a : Nat) : Int)) (rowsOf (CN (w * m) o) w m, c)
  | 0, a, hd, ha => by
    obtain rfl : a = m := by omega
    refine Tends2.of fun K k => ?_
    rw [spec_l08Rows.l7, if_neg (by omega)]
  | d + 1, a, hd, ha => by
    have hlt : a < m := by omega
    have h2 : w * (a + 1) ≤ w * m := Nat.mul_le_mul_left w hlt
    rw [Nat.mul_succ] at h2
    have hma : a < 100 := by
      have : 1 * (a + 1) ≤ w * (a + 1) := Nat.mul_le_mul_right _ hw0
      rw [Nat.mul_succ w] at this; omega
    have ih := rows_l7 (c := c) hnl hnum d (a + 1) (by omega) (by omega)
    have e : rowsOf (CN (w * m) o) w (a + 1) = rowsOf (CN (w * m) o) w a ++ [rowAt (CN (w * m) o) w a] := by unfold rowsOf; rw [List.range_succ, List.map_append]; rfl
    rw [e] at ih
    have h10 := rows_l10 hw hn hw0 hw1 hL hnl hnum (by rw [rowsOf_len]; omega) hlt ih w 0 (by omega) (by omega)
    refine Tends2.step (fun K k => ?_) h10
    rw [spec_l08Rows.l7, if_pos (by omega)]
    rfl
theorem rows_l1 : ∀ (d i : Nat) (num : List Int), w * m - i = d → i ≤ w * m → num.length = w * m → (∀ j, j < i → o.getD j 0 = (j : Int) → num.getD j 0 = (firstN o j : Int)) →
    Tends2 (fun K k => spec_l08Rows.l1 K k o (w : Int) num (firstN o i : Int) (i : Int)) (rowsOf (CN (w * m) o) w m, (firstN o (w * m) : Int))
  | 0, i, num, hd, hi, hl, h => by
    obtain rfl : i = w * m := by omega
    refine Tends2.step (fun K k => ?_) (rows_l7 hw hn hw0 hw1 hL hl h m 0 (by omega) (by omega))
    rw [spec_l08Rows.l1, if_neg (by omega)]
    rfl
  | d + 1, i, num, hd, hi, hl, h => by
    have hlt : i < w * m := by omega
    have hle := firstN_le o i
    by_cases hc : o.getD i 0 = (i : Int)
    · have hf := (hL.first_iff hlt).2 hc
      have ih := rows_l1 d (i + 1) (num.set i (firstN o i : Int)) (by omega) (by omega) (by rw [List.length_set]; exact hl) (fun j hj he => by
        by_cases e : i = j
        · subst e; rw [List.getD_eq_getElem?_getD, List.getElem?_set_self (by omega)]; rfl
        · rw [List.getD_eq_getElem?_getD, List.getElem?_set_ne e, ← List.getD_eq_getElem?_getD]; exact h j (by omega) he)
      refine Tends2.step (fun K k => ?_) ih
      rw [spec_l08Rows.l1, if_pos (by omega), if_pos (by omega), Int.toNat_natCast, if_pos hc, if_pos (by omega), w64_succ (by omega), w64_succ (by omega), firstN, if_pos hf]
    · have hf : ¬ isFirst o i = true := fun e => hc ((hL.first_iff hlt).1 e)
      have ih := rows_l1 d (i + 1) num (by omega) (by omega) hl (fun j hj he => by
        by_cases e : j = i
        · subst e; exact absurd he hc
        · exact h j (by omega) he)
      refine Tends2.step (fun K k => ?_) ih
      rw [spec_l08Rows.l1, if_pos (by omega), if_pos (by omega), Int.toNat_natCast, if_neg hc, w64_succ (by omega), firstN, if_neg hf]
      rfl
theorem rows_t : Tends (fun K => spec_l08Rows.f K o (w : Int)) (rowsOf (CN (w * m) o) w m, (firstN o (w * m) : Int)) := by
  refine Tends.congr (fun K => ?_) (rows_l1 hw hn hw0 hw1 hL (w * m) 0 (List.replicate o.length 0) (by omega) (by omega) (by rw [List.length_replicate]; exact hw) (fun j hj => by omega)).diag
  rw [spec_l08Rows.f, if_pos (by omega), if_pos (by omega), Int.toNat_natCast]
  rfl
end
end Go.Proofs.YtbjfinndngafoaaGreat
set_option linter.unusedVariables false
set_option linter.unusedSimpArgs false
set_option linter.unusedSectionVars false
namespace Go.Proofs.YtbjfinndngafoaaGreat
open Go.RowKit
def LJ (F : Nat → List (Nat × Nat)) : Nat → List (Nat × Nat)
  | 0 => []
  | i + 1 => LJ F i ++ F i
theorem LJ_mem {F : Nat → List (Nat × Nat)} {p : Nat × Nat} : ∀ {m : Nat}, p ∈ LJ F m ↔ ∃ i, i < m ∧ p ∈ F i
  | 0 => ⟨fun h => (List.not_mem_nil h).elim, fun ⟨i, h, _⟩ => by omega⟩
  | m + 1 => by
    rw [LJ, List.mem_append, LJ_mem]
    constructor
    · rintro (⟨i, h1, h2⟩ | h)
      · exact ⟨i, by omega, h2⟩
      · exact ⟨m, by omega, h⟩
    · rintro ⟨i, h1, h2⟩
      by_cases e : i = m
      · subst e; exact .inr h2
      · exact .inl ⟨i, by omega, h2⟩
def je (x : GFace) (a f e : Nat) : List (Nat × Nat) := if EA e = f ∨ EB e = f then [] else [(6 * a + e, 6 * x.Tet.toNat + EE (PA x.Perm.toNat (EA e)) (PA x.Perm.toNat (EB e)))]
def jv (x : GFace) (a f v : Nat) : List (Nat × Nat) := if v = f then [] else [(4 * a + v, 4 * x.Tet.toNat + PA x.Perm.toNat v)]
def jf (x : GFace) (a f : Nat) : List (Nat × Nat) := [(4 * a + f, 4 * x.Tet.toNat + PA x.Perm.toNat f)]
def JEf (ts : List (List GFace)) (a f : Nat) : List (Nat × Nat) := if (face ts a f).Tet < 0 then [] else LJ (je (face ts a f) a f) 6
def JVf (ts : List (List GFace)) (a f : Nat) : List (Nat × Nat) := if (face ts a f).Tet < 0 then [] else LJ (jv (face ts a f) a f) 4
def JFf (ts : List (List GFace)) (a f : Nat) : List (Nat × Nat) := if (face ts a f).Tet < 0 then [] else jf (face ts a f) a f
def JE (ts : List (List GFace)) : List (Nat × Nat) := LJ (fun a => LJ (JEf ts a) 4) ts.length
def JV (ts : List (List GFace)) : List (Nat × Nat) := LJ (fun a => LJ (JVf ts a) 4) ts.length
def JF (ts : List (List GFace)) : List (Nat × Nat) := LJ (fun a => LJ (JFf ts a) 4) ts.length
theorem w6 {c a e : Nat} (hc : c ≤ 6) (ha : a ≤ 8) (he : e ≤ 6) : w64 ((w64 ((c : Int) * (a : Int))) + (e : Int)) = ((c * a + e : Nat) : Int) := by
  have : c * a ≤ 6 * 8 := Nat.mul_le_mul hc ha
  have h2 : (c : Int) * (a : Int) = ((c * a : Nat) : Int) := by simp
  rw [h2, w64_id (x := ((c * a : Nat) : Int)) (by omega) (by omega), w64_id (by omega) (by omega)]
  omega
theorem w6' {c a : Nat} (hc : c ≤ 6) (ha : a ≤ 8) : w64 ((c : Int) * (a : Int)) = ((c * a : Nat) : Int) := by
  have : c * a ≤ 6 * 8 := Nat.mul_le_mul hc ha
  have h2 : (c : Int) * (a : Int) = ((c * a : Nat) : Int) := by simp
  rw [h2, w64_id (by omega) (by omega)]
theorem mul_lt {c a e n : Nat} (ha : a < n) (he : e < c) : c * a + e < c * n := by
  have : c * (a + 1) ≤ c * n := Nat.mul_le_mul_left c ha
  rw [Nat.mul_succ] at this; omega
theorem get4 {p k : Nat} (hk : k < 4) : ([(PA p 0 : Int), (PA p 1 : Int), (PA p 2 : Int), (PA p 3 : Int)] : List Int).getD (k : Int).toNat 0 = (PA p k : Int) := by
  rw [Int.toNat_natCast]
  exact getD4 (f := PA p) rfl rfl rfl rfl hk
theorem edge_img {p e : Nat} (hp : p < 24) (he : e < 6) : PA p (EA e) < 4 ∧ PA p (EB e) < 4 ∧ PA p (EA e) ≠ PA p (EB e) ∧ EE (PA p (EA e)) (PA p (EB e)) < 6 := by
  obtain ⟨h1, h2, h3⟩ := EAB he
  have g1 := PA_lt hp (show EA e < 4 by omega)
  have g2 := PA_lt hp h2
  have g3 : PA p (EA e) ≠ PA p (EB e) := fun h => by have := PA_inj hp (by omega) h2 h; omega
  exact ⟨g1, g2, g3, (EE_of g1 g2 g3).1⟩
section
variable {n : Nat} (hn : n ≤ 8) {a f b p : Nat} (ha : a < n) (hf : f < 4) (hb : b < n) (hp : p < 24) {J : List (Nat × Nat)}
include hn ha hf hb hp
theorem ec_l1 : ∀ (d e : Nat) (s : List Int), 6 - e = d → e ≤ 6 → Parted (6 * n) (J ++ LJ (je ⟨b, p⟩ a f) e) s →
    ∃ s', Tends2 (fun K k => impl_Triangulation_edgeClasses_fn1_free.l1 K k (a : Int) (f : Int) (b : Int) (PA p 0 : Int) (PA p 1 : Int) (PA p 2 : Int) (PA p 3 : Int) s (e : Int)) s' ∧ s'.length = s.length ∧ Parted (6 * n) (J ++ LJ (je ⟨b, p⟩ a f) 6) s'
  | 0, e, s, hd, he, hs => by
    obtain rfl : e = 6 := by omega
    exact ⟨s, Tends2.of fun K k => by rw [impl_Triangulation_edgeClasses_fn1_free.l1, if_neg (by decide)], rfl, hs⟩
  | d + 1, e, s, hd, he, hs => by
    have he6 : e < 6 := by omega
    obtain ⟨q1, q2, q3⟩ := EAB he6
    obtain ⟨g1, g2, g3, g4⟩ := edge_img hp he6
    by_cases hc : EA e = f ∨ EB e = f
    · have hs' : Parted (6 * n) (J ++ LJ (je ⟨b, p⟩ a f) (e + 1)) s := by rw [LJ, je, if_pos hc, List.append_nil]; exact hs
      obtain ⟨s', t, l, h⟩ := ec_l1 d (e + 1) s (by omega) (by omega) hs'
      refine ⟨s', Tends2.step (fun K k => by rw [impl_Triangulation_edgeClasses_fn1_free.l1, if_pos (by omega), w64_succ (by omega)]) (Tends2.bind2 (ends_t he6).two ?_), l, h⟩
      by_cases h1 : EA e = f
      · exact Tends2.pos (by omega) t
      · exact Tends2.neg (by omega) (Tends2.pos (by omega) t)
    · obtain ⟨s1, t1, l1, h1⟩ := unionP (by omega) hs (i := 6 * a + e) (k := 6 * b + EE (PA p (EA e)) (PA p (EB e))) (mul_lt ha he6) (mul_lt hb g4)
      have hs' : Parted (6 * n) (J ++ LJ (je ⟨b, p⟩ a f) (e + 1)) s1 := by
        rw [LJ, je, if_neg hc, ← List.append_assoc]
        exact h1
      obtain ⟨s', t, l, h⟩ := ec_l1 d (e + 1) s1 (by omega) (by omega) hs'
      refine ⟨s', Tends2.step (fun K k => by rw [impl_Triangulation_edgeClasses_fn1_free.l1, if_pos (by omega), w64_succ (by omega)]) (Tends2.bind2 (ends_t he6).two ?_), l.trans l1, h⟩
      refine Tends2.neg (by omega) (Tends2.neg (by omega) (Tends2.pos (by omega) (Tends2.pos (by omega) (Tends2.bind (a := ((EE (PA p (EA e)) (PA p (EB e)) : Nat) : Int)) ?_ (Tends2.bind (a := s1) ?_ (Tends2.pos l1 t))))))
      · refine Tends2.congr (fun K k => ?_) (edge_t g1 g2 g3).two
        rw [get4 (by omega), get4 q2]
      · refine Tends2.congr (fun K k => ?_) t1.two
        have e1 := w6 (c := 6) (a := a) (e := e) (by decide) (by omega) (by omega)
        have e2 := w6 (c := 6) (a := b) (e := EE (PA p (EA e)) (PA p (EB e))) (by decide) (by omega) (by omega)
        rw [← e1, ← e2]
        rfl
end
section
variable {ts : List (List GFace)} (hv : Val ts)
include hv
theorem isB (a f : Nat) : impl_Face_isBoundary.f (face ts a f).Tet (face ts a f).Perm = some (decide ((face ts a f).Tet < 0)) := rfl
theorem face_cases {a f : Nat} (ha : a < ts.length) (hf : f < 4) : ((face ts a f).Tet < 0 ∧ face ts a f = ⟨-1, 0⟩) ∨ (¬ (face ts a f).Tet < 0 ∧ ∃ b p : Nat, b < ts.length ∧ p < 24 ∧ face ts a f = ⟨b, p⟩ ∧ Glued ts a f b p) := by
  rcases hv.ok a f ha hf with h | ⟨b, p, h⟩
  · left; rw [show face ts a f = ⟨-1, 0⟩ from h]; exact ⟨by decide, rfl⟩
  · right
    have h2 := h.2.2.1
    rw [h2]
    exact ⟨by show ¬ (b : Int) < 0; omega, b, p, h.1, h.2.1, rfl, h⟩
theorem gl_l4 {a : Nat} (ha : a < ts.length) {J : List (Nat × Nat)} : ∀ (d f : Nat) (s : List Int), 4 - f = d → f ≤ 4 → Parted (6 * ts.length) (J ++ LJ (JEf ts a) f) s →
    ∃ s', s'.length = s.length ∧ Parted (6 * ts.length) (J ++ LJ (JEf ts a) 4) s' ∧ ∀ R, Tends2 (fun K k => impl_Triangulation_glued_Triangulation_edgeClasses_fn1.l1 K k ts s' ((a + 1 : Nat) : Int)) R → Tends2 (fun K k => impl_Triangulation_glued_Triangulation_edgeClasses_fn1.l4 K k ts (a : Int) s (f : Int)) R
  | 0, f, s, hd, hf, hs => by
    obtain rfl : f = 4 := by omega
    refine ⟨s, rfl, hs, fun R hR => Tends2.step (fun K k => ?_) hR⟩
    have := hv.four a ha
    have := hv.le
    rw [impl_Triangulation_glued_Triangulation_edgeClasses_fn1.l4, Int.toNat_natCast, if_neg (by omega), w64_succ (by omega)]
  | d + 1, f, s, hd, hf, hs => by
    have h4 := hv.four a ha
    have h8 := hv.le
    rcases face_cases hv ha (show f < 4 by omega) with ⟨h1, h2⟩ | ⟨h1, b, p, hb, hp, h2, _⟩
    · obtain ⟨s', l, h, c⟩ := gl_l4 ha d (f + 1) s (by omega) (by omega) (by rw [LJ, JEf, if_pos h1, List.append_nil]; exact hs)
      refine ⟨s', l, h, fun R hR => Tends2.step (fun K k => ?_) (c R hR)⟩
      rw [impl_Triangulation_glued_Triangulation_edgeClasses_fn1.l4, Int.toNat_natCast, if_pos (by omega), if_pos (by omega), Int.toNat_natCast, bnd_eq, w64_succ (by omega)]
      show (impl_Face_isBoundary.f (face ts a f).Tet (face ts a f).Perm).bind _ = _
      rw [isB hv, Option.bind_some, decide_eq_true h1, if_pos rfl]
    · obtain ⟨s1, t1, l1, g1⟩ := ec_l1 hv.le ha (show f < 4 by omega) hb hp 6 0 s (by omega) (by omega) (by rw [LJ, List.append_nil]; exact hs)
      obtain ⟨s', l, h, c⟩ := gl_l4 ha d (f + 1) s1 (by omega) (by omega) (by rw [LJ, JEf, if_neg h1, h2, ← List.append_assoc]; exact g1)
      refine ⟨s', l.trans l1, h, fun R hR => Tends2.step (fun K k => ?_) (Tends2.bind4 (F := fun K _ => impl_perm.f K (p : Int)) (G := fun K k i0 i1 i2 i3 => (impl_Triangulation_edgeClasses_fn1_free.f K (a : Int) (f : Int) (b : Int) (p : Int) i0 i1 i2 i3 s).bind fun t228 => if t228.length = s.length then impl_Triangulation_glued_Triangulation_edgeClasses_fn1.l4 K k ts (a : Int) t228 ((f + 1 : Nat) : Int) else none) (perm_t hp).two (Tends2.bind t1.diag.two (Tends2.pos l1 (c R hR))))⟩
      rw [impl_Triangulation_glued_Triangulation_edgeClasses_fn1.l4, Int.toNat_natCast, if_pos (by omega), if_pos (by omega), Int.toNat_natCast, bnd_eq, w64_succ (by omega)]
      show (impl_Face_isBoundary.f (face ts a f).Tet (face ts a f).Perm).bind _ = _
      rw [isB hv, Option.bind_some, decide_eq_false h1, if_neg (by decide)]
      show bind4 (impl_perm.f K (face ts a f).Perm) (fun t221 t222 t223 t224 => (impl_Triangulation_edgeClasses_fn1_free.f K (a : Int) (f : Int) (face ts a f).Tet (face ts a f).Perm t221 t222 t223 t224 s).bind _) = _
      rw [h2]
theorem gl_l1 : ∀ (d a : Nat) (s : List Int), ts.length - a = d → a ≤ ts.length → Parted (6 * ts.length) (LJ (fun a => LJ (JEf ts a) 4) a) s →
    ∃ s', Tends2 (fun K k => impl_Triangulation_glued_Triangulation_edgeClasses_fn1.l1 K k ts s (a : Int)) s' ∧ s'.length = s.length ∧ Parted (6 * ts.length) (JE ts) s'
  | 0, a, s, hd, ha, hs => by
    obtain rfl : a = ts.length := by omega
    exact ⟨s, Tends2.of fun K k => by rw [impl_Triangulation_glued_Triangulation_edgeClasses_fn1.l1, if_neg (by omega)], rfl, hs⟩
  | d + 1, a, s, hd, ha, hs => by
    have hlt : a < ts.length := by omega
    obtain ⟨s1, l1, g1, c⟩ := gl_l4 hv hlt 4 0 s (by omega) (by omega) (by rw [LJ, List.append_nil]; exact hs)
    obtain ⟨s', t, l, h⟩ := gl_l1 d (a + 1) s1 (by omega) (by omega) (by rw [LJ]; exact g1)
    refine ⟨s', Tends2.step (fun K k => ?_) (c s' t), l.trans l1, h⟩
    rw [impl_Triangulation_glued_Triangulation_edgeClasses_fn1.l1, if_pos (by omega), if_pos (by omega)]
    rfl
theorem counting_l1 {N : Nat} (hN : N ≤ 100) : ∀ (d c : Nat), N - c = d → c ≤ N → Tends2 (fun K k => impl_counting.l1 K k (N : Int) (upto c) (c : Int)) (upto N)
  | 0, c, hd, hc => by
    obtain rfl : c = N := by omega
    refine Tends2.of fun K k => ?_
    rw [impl_counting.l1, if_neg (by omega)]
  | d + 1, c, hd, hc => by
    refine Tends2.step (fun K k => ?_) (counting_l1 hN d (c + 1) (by omega) (by omega))
    rw [impl_counting.l1, if_pos (by omega), if_pos (by rw [upto_length]; omega), w64_succ (by omega), upto_succ]
theorem fresh_l1 {N : Nat} (hN : N ≤ 100) : ∀ (d c : Nat), N - c = d → c ≤ N → Tends2 (fun K k => spec_l08Fresh.l1 K k (N : Int) (upto c) (c : Int)) (upto N)
  | 0, c, hd, hc => by
    obtain rfl : c = N := by omega
    refine Tends2.of fun K k => ?_
    rw [spec_l08Fresh.l1, if_neg (by omega)]
  | d + 1, c, hd, hc => by
    refine Tends2.step (fun K k => ?_) (fresh_l1 hN d (c + 1) (by omega) (by omega))
    rw [spec_l08Fresh.l1, if_pos (by omega), if_pos (by rw [upto_length]; omega), w64_succ (by omega), upto_succ]
theorem edgeClasses_t : ∃ s, Parted (6 * ts.length) (JE ts) s ∧ Tends (fun K => impl_Triangulation_edgeClasses.f K ts) (CN (6 * ts.length) s) := by
  have h8 := hv.le
  obtain ⟨s', t, l, h⟩ := gl_l1 hv ts.length 0 (upto (6 * ts.length)) (by omega) (by omega) (parted_upto _)
  refine ⟨s', h, Tends.eqBind (x := (ts.length : Int)) rfl (Tends.bind (a := upto (6 * ts.length)) ?_ (Tends.bind t.diag (Tends.pos l (Tends.bind (a := CN (6 * ts.length) s') ?_ (Tends.const _)))))⟩
  · refine Tends.congr (fun K => ?_) (counting_l1 hv (N := 6 * ts.length) (by omega) _ 0 rfl (Nat.zero_le _)).diag
    have e1 := w6' (c := 6) (a := ts.length) (by decide) (by omega)
    rw [← e1]
    rfl
  · have := numbered (s := s') (by rw [h.len]; omega)
    rw [h.len] at this
    exact this
end
end Go.Proofs.YtbjfinndngafoaaGreat
