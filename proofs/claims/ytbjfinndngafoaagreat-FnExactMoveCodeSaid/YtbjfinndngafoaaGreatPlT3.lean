/-
  Permutations of four by their numbers, edges by their ends: tables, and that both sides follow them.
-/
import Derived.Test.YtbjfinndngafoaaGreatPlT2
import Derived.KernelRfl
set_option linter.unusedVariables false
set_option linter.unusedSimpArgs false
set_option maxRecDepth 100000
set_option maxHeartbeats 40000000
namespace Go.Proofs.YtbjfinndngafoaaGreat
open Go.RowKit
def permTab : List (List Nat) := [[0,1,2,3],[0,1,3,2],[0,2,1,3],[0,2,3,1],[0,3,1,2],[0,3,2,1],[1,0,2,3],[1,0,3,2],[1,2,0,3],[1,2,3,0],[1,3,0,2],[1,3,2,0],[2,0,1,3],[2,0,3,1],[2,1,0,3],[2,1,3,0],[2,3,0,1],[2,3,1,0],[3,0,1,2],[3,0,2,1],[3,1,0,2],[3,1,2,0],[3,2,0,1],[3,2,1,0]]
def PA (p k : Nat) : Nat := (permTab.getD p []).getD k 0
def PX (a b c d : Nat) : Nat := permTab.idxOf [a, b, c, d]
def PB (p k : Nat) : Nat := (permTab.getD p []).idxOf k
def PI (p : Nat) : Nat := PX (PB p 0) (PB p 1) (PB p 2) (PB p 3)
def PM (p q : Nat) : Nat := PX (PA q (PA p 0)) (PA q (PA p 1)) (PA q (PA p 2)) (PA q (PA p 3))
def EA (e : Nat) : Nat := [0, 0, 0, 1, 1, 2].getD e 0
def EB (e : Nat) : Nat := [1, 2, 3, 2, 3, 3].getD e 0
def EE (a b : Nat) : Nat := [[9, 0, 1, 2], [0, 9, 3, 4], [1, 3, 9, 5], [2, 4, 5, 9]].getD a [] |>.getD b 0
def OT (l : List Nat) : List Nat := [0, 1, 2, 3].filter fun k => !l.contains k
def ints (l : List Nat) : List Int := l.map fun n : Nat => (n : Int)
theorem tab {α : Type} {F : Nat → Nat → Option α} {g : Nat → α} {n m : Nat} (h : (fun K => (List.range n).map (F (K + m))) = fun _ => (List.range n).map fun i => some (g i)) {i : Nat} (hi : i < n) : Tends (fun K => F K i) (g i) := ⟨m, fun K hK => by
  obtain ⟨k, rfl⟩ : ∃ k, K = k + m := ⟨K - m, by omega⟩
  have h1 := congrArg (fun l => l[i]?) (congrFun h k)
  simp only [List.getElem?_map, List.getElem?_range hi, Option.map_some, Option.some.injEq] at h1
  exact h1⟩
theorem tab2 {α : Type} {F : Nat → Nat → Nat → Option α} {g : Nat → Nat → α} {a b m : Nat} (h : (fun K => (List.range (a * b)).map fun i => F (K + m) (i / b) (i % b)) = fun _ => (List.range (a * b)).map fun i => some (g (i / b) (i % b))) {i j : Nat} (hi : i < a) (hj : j < b) : Tends (fun K => F K i j) (g i j) := by
  have hb : 0 < b := by omega
  have h1 : (i * b + j) / b = i := by rw [Nat.add_comm, Nat.add_mul_div_right _ _ hb, Nat.div_eq_of_lt hj, Nat.zero_add]
  have h2 : (i * b + j) % b = j := by rw [Nat.add_comm, Nat.add_mul_mod_self_right, Nat.mod_eq_of_lt hj]
  have h3 : i * b + j < a * b := by
    have : (i + 1) * b ≤ a * b := Nat.mul_le_mul_right _ hi
    rw [Nat.succ_mul] at this
    omega
  have := tab (F := fun K i => F K (i / b) (i % b)) (g := fun i => g (i / b) (i % b)) h h3
  simp only [h1, h2] at this
  exact this
theorem PA_lt {p k : Nat} (hp : p < 24) (hk : k < 4) : PA p k < 4 := by
  have : ∀ p, p < 24 → ∀ k, k < 4 → PA p k < 4 := by decide +kernel
  exact this p hp k hk
theorem PA_inj {p j k : Nat} (hp : p < 24) (hj : j < 4) (hk : k < 4) (h : PA p j = PA p k) : j = k := by
  have : ∀ p, p < 24 → ∀ j, j < 4 → ∀ k, k < 4 → PA p j = PA p k → j = k := by decide +kernel
  exact this p hp j hj k hk h
theorem PI_lt {p : Nat} (hp : p < 24) : PI p < 24 := by
  have : ∀ p, p < 24 → PI p < 24 := by decide +kernel
  exact this p hp
theorem PI_PA {p k : Nat} (hp : p < 24) (hk : k < 4) : PA (PI p) (PA p k) = k := by
  have : ∀ p, p < 24 → ∀ k, k < 4 → PA (PI p) (PA p k) = k := by decide +kernel
  exact this p hp k hk
theorem PI_PI {p : Nat} (hp : p < 24) : PI (PI p) = p := by
  have : ∀ p, p < 24 → PI (PI p) = p := by decide +kernel
  exact this p hp
theorem PM_lt {p q : Nat} (hp : p < 24) (hq : q < 24) : PM p q < 24 := by
  have : ∀ p, p < 24 → ∀ q, q < 24 → PM p q < 24 := by decide +kernel
  exact this p hp q hq
theorem PA_PM {p q k : Nat} (hp : p < 24) (hq : q < 24) (hk : k < 4) : PA (PM p q) k = PA q (PA p k) := by
  have : ∀ p, p < 24 → ∀ q, q < 24 → ∀ k, k < 4 → PA (PM p q) k = PA q (PA p k) := by decide +kernel
  exact this p hp q hq k hk
theorem PA_ext {p q : Nat} (hp : p < 24) (hq : q < 24) (h : ∀ k, k < 4 → PA p k = PA q k) : p = q := by
  have : ∀ p, p < 24 → ∀ q, q < 24 → (∀ k, k < 4 → PA p k = PA q k) → p = q := by decide +kernel
  exact this p hp q hq h
theorem PX_of {a b c d : Nat} (ha : a < 4) (hb : b < 4) (hc : c < 4) (hd : d < 4) (h : a ≠ b ∧ a ≠ c ∧ a ≠ d ∧ b ≠ c ∧ b ≠ d ∧ c ≠ d) : PX a b c d < 24 ∧ PA (PX a b c d) 0 = a ∧ PA (PX a b c d) 1 = b ∧ PA (PX a b c d) 2 = c ∧ PA (PX a b c d) 3 = d := by
  have key : ∀ i, i < 256 → (i / 64 ≠ i / 16 % 4 ∧ i / 64 ≠ i / 4 % 4 ∧ i / 64 ≠ i % 4 ∧ i / 16 % 4 ≠ i / 4 % 4 ∧ i / 16 % 4 ≠ i % 4 ∧ i / 4 % 4 ≠ i % 4) →
      PX (i / 64) (i / 16 % 4) (i / 4 % 4) (i % 4) < 24 ∧ PA (PX (i / 64) (i / 16 % 4) (i / 4 % 4) (i % 4)) 0 = i / 64 ∧ PA (PX (i / 64) (i / 16 % 4) (i / 4 % 4) (i % 4)) 1 = i / 16 % 4 ∧ PA (PX (i / 64) (i / 16 % 4) (i / 4 % 4) (i % 4)) 2 = i / 4 % 4 ∧ PA (PX (i / 64) (i / 16 % 4) (i / 4 % 4) (i % 4)) 3 = i % 4 := by decide +kernel
  have e1 : (a * 64 + b * 16 + c * 4 + d) / 64 = a := by omega
  have e2 : (a * 64 + b * 16 + c * 4 + d) / 16 % 4 = b := by omega
  have e3 : (a * 64 + b * 16 + c * 4 + d) / 4 % 4 = c := by omega
  have e4 : (a * 64 + b * 16 + c * 4 + d) % 4 = d := by omega
  have := key (a * 64 + b * 16 + c * 4 + d) (by omega)
  rw [e1, e2, e3, e4] at this
  exact this h
theorem EAB {e : Nat} (he : e < 6) : EA e < EB e ∧ EB e < 4 ∧ EE (EA e) (EB e) = e := by
  have : ∀ e, e < 6 → EA e < EB e ∧ EB e < 4 ∧ EE (EA e) (EB e) = e := by decide +kernel
  exact this e he
theorem EE_of {a b : Nat} (ha : a < 4) (hb : b < 4) (h : a ≠ b) : EE a b < 6 ∧ EA (EE a b) = min a b ∧ EB (EE a b) = max a b := by
  have : ∀ a, a < 4 → ∀ b, b < 4 → a ≠ b → EE a b < 6 ∧ EA (EE a b) = min a b ∧ EB (EE a b) = max a b := by decide +kernel
  exact this a ha b hb h
theorem EE_comm {a b : Nat} (ha : a < 4) (hb : b < 4) : EE a b = EE b a := by
  have : ∀ a, a < 4 → ∀ b, b < 4 → EE a b = EE b a := by decide +kernel
  exact this a ha b hb
theorem perm_t {p : Nat} (hp : p < 24) : Tends (fun K => impl_perm.f K (p : Int)) ((PA p 0 : Int), (PA p 1 : Int), (PA p 2 : Int), (PA p 3 : Int)) :=
  tab (F := fun K p => impl_perm.f K (p : Int)) (g := fun p => ((PA p 0 : Int), (PA p 1 : Int), (PA p 2 : Int), (PA p 3 : Int))) (m := 40) (n := 24) (by kernel_rfl) hp
theorem images_t {p : Nat} (hp : p < 24) : Tends (fun K => spec_l06Images.f K (p : Int)) [(PA p 0 : Int), (PA p 1 : Int), (PA p 2 : Int), (PA p 3 : Int)] :=
  tab (F := fun K p => spec_l06Images.f K (p : Int)) (g := fun p => [(PA p 0 : Int), (PA p 1 : Int), (PA p 2 : Int), (PA p 3 : Int)]) (m := 40) (n := 24) (by kernel_rfl) hp
theorem at_t {p k : Nat} (hp : p < 24) (hk : k < 4) : Tends (fun K => spec_l06At.f K (p : Int) (k : Int)) (PA p k : Int) :=
  tab2 (F := fun K p k => spec_l06At.f K (p : Int) (k : Int)) (g := fun p k => (PA p k : Int)) (m := 40) (a := 24) (b := 4) (by kernel_rfl) hp hk
theorem target_t {p k : Nat} (t : Int) (hp : p < 24) (hk : k < 4) : Tends (fun K => impl_Face_target.f K t (p : Int) (k : Int)) (PA p k : Int) := by
  refine Tends.bind4 (perm_t hp) (Tends.pos (by omega) ?_)
  have : ([(PA p 0 : Int), (PA p 1 : Int), (PA p 2 : Int), (PA p 3 : Int)] : List Int).getD (k : Int).toNat 0 = (PA p k : Int) := by
    rw [Int.toNat_natCast]
    have : k = 0 ∨ k = 1 ∨ k = 2 ∨ k = 3 := by omega
    rcases this with rfl | rfl | rfl | rfl <;> rfl
  rw [this]
  exact Tends.const _
theorem back_t {p : Nat} (hp : p < 24) : Tends (fun K => spec_l06Back.f K (p : Int)) (PI p : Int) :=
  tab (F := fun K p => spec_l06Back.f K (p : Int)) (g := fun p => (PI p : Int)) (m := 40) (n := 24) (by kernel_rfl) hp
theorem invert_t {p : Nat} (hp : p < 24) : Tends (fun K => impl_invert.f K (p : Int)) (PI p : Int) :=
  tab (F := fun K p => impl_invert.f K (p : Int)) (g := fun p => (PI p : Int)) (m := 40) (n := 24) (by kernel_rfl) hp
theorem indexOf_t {p : Nat} (hp : p < 24) : Tends (fun K => impl_indexOf.f K (PA p 0 : Int) (PA p 1 : Int) (PA p 2 : Int) (PA p 3 : Int)) (p : Int) :=
  tab (F := fun K p => impl_indexOf.f K (PA p 0 : Int) (PA p 1 : Int) (PA p 2 : Int) (PA p 3 : Int)) (g := fun p => (p : Int)) (m := 40) (n := 24) (by kernel_rfl) hp
theorem index_t {p : Nat} (hp : p < 24) : Tends (fun K => spec_l06Index.f K [(PA p 0 : Int), (PA p 1 : Int), (PA p 2 : Int), (PA p 3 : Int)]) (p : Int) :=
  tab (F := fun K p => spec_l06Index.f K [(PA p 0 : Int), (PA p 1 : Int), (PA p 2 : Int), (PA p 3 : Int)]) (g := fun p => (p : Int)) (m := 40) (n := 24) (by kernel_rfl) hp
theorem getD4 {a b c d : Int} {k : Nat} {f : Nat → Nat} (h0 : a = (f 0 : Int)) (h1 : b = (f 1 : Int)) (h2 : c = (f 2 : Int)) (h3 : d = (f 3 : Int)) (hk : k < 4) : ([a, b, c, d] : List Int).getD k 0 = (f k : Int) := by
  have : k = 0 ∨ k = 1 ∨ k = 2 ∨ k = 3 := by omega
  rcases this with rfl | rfl | rfl | rfl
  · exact h0
  · exact h1
  · exact h2
  · exact h3
theorem then_t {p q : Nat} (hp : p < 24) (hq : q < 24) : Tends (fun K => spec_l06Then.f K (p : Int) (q : Int)) (PM p q : Int) := by
  have b := fun k (hk : k < 4) => PA_lt hp hk
  have g := fun k (hk : k < 4) => getD4 (f := PA q) rfl rfl rfl rfl (b k hk)
  refine Tends.bind (images_t hp) (Tends.bind (images_t hq) ?_)
  have b0 := b 0 (by decide); have b1 := b 1 (by decide); have b2 := b 2 (by decide); have b3 := b 3 (by decide)
  refine Tends.pos (by simp) (Tends.pos ?_ (Tends.pos (by simp) (Tends.pos ?_ (Tends.pos (by simp) (Tends.pos ?_ (Tends.pos (by simp) (Tends.pos ?_ ?_)))))))
  · show 0 ≤ (PA p 0 : Int) ∧ (PA p 0 : Int) < 4; omega
  · show 0 ≤ (PA p 1 : Int) ∧ (PA p 1 : Int) < 4; omega
  · show 0 ≤ (PA p 2 : Int) ∧ (PA p 2 : Int) < 4; omega
  · show 0 ≤ (PA p 3 : Int) ∧ (PA p 3 : Int) < 4; omega
  · refine Tends.bind (F := fun K => spec_l06Index.f K [([(PA q 0 : Int), (PA q 1 : Int), (PA q 2 : Int), (PA q 3 : Int)] : List Int).getD (PA p 0) 0, ([(PA q 0 : Int), (PA q 1 : Int), (PA q 2 : Int), (PA q 3 : Int)] : List Int).getD (PA p 1) 0, ([(PA q 0 : Int), (PA q 1 : Int), (PA q 2 : Int), (PA q 3 : Int)] : List Int).getD (PA p 2) 0, ([(PA q 0 : Int), (PA q 1 : Int), (PA q 2 : Int), (PA q 3 : Int)] : List Int).getD (PA p 3) 0]) ?_ (Tends.const _)
    rw [g 0 (by decide), g 1 (by decide), g 2 (by decide), g 3 (by decide), ← PA_PM hp hq (by decide), ← PA_PM hp hq (by decide), ← PA_PM hp hq (by decide), ← PA_PM hp hq (by decide)]
    exact index_t (PM_lt hp hq)
theorem compose_l1 : (fun (K : Nat) (a b c d : Int) => (List.range 24).map fun p => impl_compose.l1 (K + 40) (K + 40) (PA p 0 : Int) (PA p 1 : Int) (PA p 2 : Int) (PA p 3 : Int) a b c d 0 0 0 0 0) = fun K a b c d => (List.range 24).map fun p => (impl_indexOf.f (K + 40) (([a, b, c, d] : List Int).getD (PA p 0) 0) (([a, b, c, d] : List Int).getD (PA p 1) 0) (([a, b, c, d] : List Int).getD (PA p 2) 0) (([a, b, c, d] : List Int).getD (PA p 3) 0)).bind fun t => some t := by kernel_rfl
theorem compose_t {p q : Nat} (hp : p < 24) (hq : q < 24) : Tends (fun K => impl_compose.f K (p : Int) (q : Int)) (PM p q : Int) := by
  have b := fun k (hk : k < 4) => PA_lt hp hk
  have g := fun k (hk : k < 4) => getD4 (f := PA q) rfl rfl rfl rfl (b k hk)
  refine Tends.bind4 (perm_t hp) (Tends.bind4 (perm_t hq) ?_)
  obtain ⟨n, hn⟩ := indexOf_t (PM_lt hp hq)
  refine ⟨n + 40, fun K hK => ?_⟩
  obtain ⟨k, rfl⟩ : ∃ k, K = k + 40 := ⟨K - 40, by omega⟩
  have h1 := congrArg (fun F : Nat → Int → Int → Int → Int → List (Option Int) => (F k (PA q 0) (PA q 1) (PA q 2) (PA q 3))[p]?) compose_l1
  simp only [List.getElem?_map, List.getElem?_range hp, Option.map_some, Option.some.injEq] at h1
  show impl_compose.l1 (k + 40) (k + 40) _ _ _ _ _ _ _ _ 0 0 0 0 0 = _
  have h2 := hn (k + 40) (by omega)
  simp only [] at h2
  rw [h1, g 0 (by decide), g 1 (by decide), g 2 (by decide), g 3 (by decide), ← PA_PM hp hq (by decide), ← PA_PM hp hq (by decide), ← PA_PM hp hq (by decide), ← PA_PM hp hq (by decide), h2]
  rfl
theorem ends_t {e : Nat} (he : e < 6) : Tends (fun K => impl_ends.f K (e : Int)) ((EA e : Int), (EB e : Int)) :=
  tab (F := fun K e => impl_ends.f K (e : Int)) (g := fun e => ((EA e : Int), (EB e : Int))) (m := 20) (n := 6) (by kernel_rfl) he
theorem ends8_t {e : Nat} (he : e < 6) : spec_l08Ends.f (e : Int) = some ((EA e : Int), (EB e : Int)) := by
  have : e = 0 ∨ e = 1 ∨ e = 2 ∨ e = 3 ∨ e = 4 ∨ e = 5 := by omega
  rcases this with rfl | rfl | rfl | rfl | rfl | rfl <;> rfl
def pairs12 : List (Nat × Nat) := [(0, 1), (0, 2), (0, 3), (1, 0), (1, 2), (1, 3), (2, 0), (2, 1), (2, 3), (3, 0), (3, 1), (3, 2)]
theorem pairs12_mem {a b : Nat} (ha : a < 4) (hb : b < 4) (h : a ≠ b) : ∃ i, i < 12 ∧ pairs12.getD i (0, 0) = (a, b) := by
  have : ∀ a, a < 4 → ∀ b, b < 4 → a ≠ b → ∃ i, i < 12 ∧ pairs12.getD i (0, 0) = (a, b) := by decide +kernel
  exact this a ha b hb h
theorem tabP {α : Type} {F : Nat → Nat → Nat → Option α} {g : Nat → Nat → α} {m : Nat} (h : (fun K => (List.range 12).map fun i => F (K + m) (pairs12.getD i (0, 0)).1 (pairs12.getD i (0, 0)).2) = fun _ => (List.range 12).map fun i => some (g (pairs12.getD i (0, 0)).1 (pairs12.getD i (0, 0)).2)) {a b : Nat} (ha : a < 4) (hb : b < 4) (hab : a ≠ b) : Tends (fun K => F K a b) (g a b) := by
  obtain ⟨i, hi, he⟩ := pairs12_mem ha hb hab
  have := tab (F := fun K i => F K (pairs12.getD i (0, 0)).1 (pairs12.getD i (0, 0)).2) (g := fun i => g (pairs12.getD i (0, 0)).1 (pairs12.getD i (0, 0)).2) h hi
  simp only [he] at this
  exact this
theorem edge_t {a b : Nat} (ha : a < 4) (hb : b < 4) (hab : a ≠ b) : Tends (fun K => impl_edge.f K (a : Int) (b : Int)) (EE a b : Int) :=
  tabP (F := fun K a b => impl_edge.f K (a : Int) (b : Int)) (g := fun a b => (EE a b : Int)) (m := 20) (by kernel_rfl) ha hb hab
theorem edge8_t {a b : Nat} (ha : a < 4) (hb : b < 4) (hab : a ≠ b) : Tends (fun K => spec_l08Edge.f K (a : Int) (b : Int)) (EE a b : Int) :=
  tabP (F := fun K a b => spec_l08Edge.f K (a : Int) (b : Int)) (g := fun a b => (EE a b : Int)) (m := 20) (by kernel_rfl) ha hb hab
theorem others1_t {f : Nat} (hf : f < 4) : Tends (fun K => impl_others.f K [(f : Int)]) (ints (OT [f])) :=
  tab (F := fun K f => impl_others.f K [(f : Int)]) (g := fun f => ints (OT [f])) (m := 30) (n := 4) (by kernel_rfl) hf
theorem others2_t {a b : Nat} (ha : a < 4) (hb : b < 4) (hab : a ≠ b) : Tends (fun K => impl_others.f K [(a : Int), (b : Int)]) (ints (OT [a, b])) :=
  tabP (F := fun K a b => impl_others.f K [(a : Int), (b : Int)]) (g := fun a b => ints (OT [a, b])) (m := 30) (by kernel_rfl) ha hb hab
end Go.Proofs.YtbjfinndngafoaaGreat
