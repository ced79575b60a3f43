/-
  Triangulations: the tetrahedra around a vertex that is to go.
-/
import Derived.Test.YtbjfinndngafoaaGreatPlT23
set_option linter.unusedVariables false
set_option linter.unusedSimpArgs false
set_option linter.unusedSectionVars false
namespace Go.Proofs.YtbjfinndngafoaaGreat
open Go.RowKit
theorem scan_all {α : Type} {l : Nat → Nat → Nat → Option α} {n : Nat} {P : Nat → Bool} {r : α} (go : ∀ i, i < n → P i = true → ∀ v, Tends2 (fun K k => l K k (i + 1)) v → Tends2 (fun K k => l K k i) v) (h : allB n P = true) (fin : Tends2 (fun K k => l K k n) r) : Tends2 (fun K k => l K k 0) r := by
  have main : ∀ m i, n - i = m → i ≤ n → Tends2 (fun K k => l K k i) r := by
    intro m
    induction m with
    | zero =>
      intro i h1 h2
      obtain rfl : i = n := by omega
      exact fin
    | succ m ih => intro i h1 h2; exact go i (by omega) (allB_get h (by omega)) _ (ih (i + 1) (by omega) (by omega))
  exact main n 0 rfl (Nat.zero_le _)
theorem exc_i {a b : Nat} (ha : a < 4) (hb : b < 4) (hab : a ≠ b) : Tends (fun K => impl_exchange.f K (a : Int) (b : Int)) (EXC a b : Int) :=
  tabP (F := fun K a b => impl_exchange.f K (a : Int) (b : Int)) (g := fun a b => (EXC a b : Int)) (m := 60) (by kernel_rfl) ha hb hab
theorem exc_s {a b : Nat} (ha : a < 4) (hb : b < 4) (hab : a ≠ b) : Tends (fun K => spec_l12Exchange.f K (a : Int) (b : Int)) (EXC a b : Int) :=
  tabP (F := fun K a b => spec_l12Exchange.f K (a : Int) (b : Int)) (g := fun a b => (EXC a b : Int)) (m := 60) (by kernel_rfl) ha hb hab
theorem EXC_lt {a b : Nat} (ha : a < 4) (hb : b < 4) : a ≠ b → EXC a b < 24 := by
  have : ∀ a, a < 4 → ∀ b, b < 4 → a ≠ b → EXC a b < 24 := by decide +kernel
  exact this a ha b hb
section
variable {ts : List (List GFace)} (hv : Val ts) {a A : Nat} (ha : a < ts.length) (hA : A < 4)
include hv ha hA
theorem i41_stop {t11 : List Int} (hl : t11.length = 3) {i y : Nat} (hi : i < 3) (hy : y < 4) (ht : t11.getD i 0 = (y : Int)) (hb : (face ts a y).Tet < 0) {o1 o2 o3 o4 o5 o6 o7 o8 : Int} :
    Tends2 (fun K k => impl_Triangulation_star.l1 K k ts (a : Int) (A : Int) t11 o1 o2 o3 o4 o5 o6 o7 o8 (i : Int)) (o1, o2, o3, o4, o5, o6, o7, o8, false) := by
  have h8 := hv.le
  have hr := hv.four a ha
  refine Tends2.succ ?_
  simp only [impl_Triangulation_star.l1, Int.toNat_natCast, ht, bnd_eq]
  refine Tends2.pos (by omega) (Tends2.pos (by omega) (Tends2.pos (by omega) (Tends2.pos (by omega) ?_)))
  show Tends2 (fun K k => if decide ((face ts a y).Tet < 0) = true then _ else _) _
  exact Tends2.pos (decide_eq_true hb) (Tends2.const _)
theorem i41_go {t11 : List Int} (hl : t11.length = 3) {i y : Nat} (hi : i < 3) (hy : y < 4) (hyA : A ≠ y) (ht : t11.getD i 0 = (y : Int)) {b q : Nat} (hb : face ts a y = ⟨b, q⟩) (hq : q < 24) {o1 o2 o3 o4 o5 o6 o7 o8 : Int} {R : Int × Int × Int × Int × Int × Int × Int × Int × Bool}
    (h : Tends2 (fun K k => impl_Triangulation_star.l1 K k ts (a : Int) (A : Int) t11 (se 0 (y : Int) (b : Int) o1) (se 0 (y : Int) (PM (PI q) (EXC A y) : Int) o2) (se 1 (y : Int) (b : Int) o3) (se 1 (y : Int) (PM (PI q) (EXC A y) : Int) o4) (se 2 (y : Int) (b : Int) o5) (se 2 (y : Int) (PM (PI q) (EXC A y) : Int) o6) (se 3 (y : Int) (b : Int) o7) (se 3 (y : Int) (PM (PI q) (EXC A y) : Int) o8) ((i + 1 : Nat) : Int)) R) :
    Tends2 (fun K k => impl_Triangulation_star.l1 K k ts (a : Int) (A : Int) t11 o1 o2 o3 o4 o5 o6 o7 o8 (i : Int)) R := by
  have h8 := hv.le
  have hr := hv.four a ha
  have hb' : (ts.getD a []).getD y z_GFace = ⟨b, q⟩ := hb
  refine Tends2.succ ?_
  simp only [impl_Triangulation_star.l1, Int.toNat_natCast, ht, bnd_eq, hb']
  refine Tends2.pos (by omega) (Tends2.pos (by omega) (Tends2.pos (by omega) (Tends2.pos (by omega) ?_)))
  refine Tends2.bind (a := decide ((b : Int) < 0)) (Tends2.const _) ?_
  refine Tends2.neg (by rw [decide_eq_true_eq]; omega) ?_
  refine Tends2.bind (invert_t hq).two ?_
  refine Tends2.bind (exc_i hA hy hyA).two ?_
  refine Tends2.bind (compose_t (PI_lt hq) (EXC_lt hA hy hyA)).two ?_
  refine Tends2.pos (by omega) ?_
  rw [w64_succ (by omega)]
  exact h
theorem s41_skip {T P : List Int} {R : List Int × List (List GFace) × List GL12Outer × Bool} (h : Tends2 (fun K k => spec_l12Plan41.l1 K k ts (a : Int) (A : Int) T P ((A + 1 : Nat) : Int)) R) : Tends2 (fun K k => spec_l12Plan41.l1 K k ts (a : Int) (A : Int) T P (A : Int)) R := by
  refine Tends2.step (fun K k => ?_) h
  rw [spec_l12Plan41.l1, if_pos (by omega), if_pos rfl, w64_succ (by omega)]
theorem s41_stop {T P : List Int} {y : Nat} (hy : y < 4) (hyA : A ≠ y) (hb : (face ts a y).Tet < 0) : Tends2 (fun K k => spec_l12Plan41.l1 K k ts (a : Int) (A : Int) T P (y : Int)) ([], [], [], false) := by
  have h8 := hv.le
  have hr := hv.four a ha
  refine Tends2.succ ?_
  simp only [spec_l12Plan41.l1, Int.toNat_natCast, bnd_eq]
  refine Tends2.pos (by omega) (Tends2.neg (by omega) (Tends2.pos (by omega) (Tends2.pos (by omega) ?_)))
  exact Tends2.pos hb (Tends2.const _)
theorem s41_go {T P : List Int} (hT : T.length = 4) (hP : P.length = 4) {y : Nat} (hy : y < 4) (hyA : A ≠ y) {b q : Nat} (hb : face ts a y = ⟨b, q⟩) (hq : q < 24) {R : List Int × List (List GFace) × List GL12Outer × Bool}
    (h : Tends2 (fun K k => spec_l12Plan41.l1 K k ts (a : Int) (A : Int) (T.set y (b : Int)) (P.set y (PM (PI q) (EXC A y) : Int)) ((y + 1 : Nat) : Int)) R) : Tends2 (fun K k => spec_l12Plan41.l1 K k ts (a : Int) (A : Int) T P (y : Int)) R := by
  have h8 := hv.le
  have hr := hv.four a ha
  have hb' : (ts.getD a []).getD y z_GFace = ⟨b, q⟩ := hb
  refine Tends2.succ ?_
  simp only [spec_l12Plan41.l1, Int.toNat_natCast, bnd_eq, hb']
  refine Tends2.pos (by omega) (Tends2.neg (by omega) (Tends2.pos (by omega) (Tends2.pos (by omega) ?_)))
  refine Tends2.neg (by omega) (Tends2.pos (by omega) ?_)
  refine Tends2.bind (back_t hq).two ?_
  refine Tends2.bind (exc_s hA hy hyA).two ?_
  refine Tends2.bind (then_t (PI_lt hq) (EXC_lt hA hy hyA)).two ?_
  refine Tends2.pos (by omega) ?_
  rw [w64_succ (by omega)]
  exact h
end
end Go.Proofs.YtbjfinndngafoaaGreat
