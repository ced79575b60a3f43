/-
  Triangulations: the move 4-1 in both.
-/
import Derived.Test.YtbjfinndngafoaaGreatPlT25
set_option linter.unusedVariables false
set_option linter.unusedSimpArgs false
set_option linter.unusedSectionVars false
namespace Go.Proofs.YtbjfinndngafoaaGreat
open Go.RowKit
theorem l4_get {f : Nat → Nat} {k : Nat} (hk : k < 4) : ([(f 0 : Int), (f 1 : Int), (f 2 : Int), (f 3 : Int)] : List Int).getD k 0 = (f k : Int) := getD4 (f := f) rfl rfl rfl rfl hk
def okB (ts : List (List GFace)) (T P : Nat → Nat) (x y : Nat) : Bool := decide (x = y ∨ ((face ts (T x) (PA (PI (P x)) y)).Tet = (T y : Int) ∧ T x ≠ T y ∧ PM (PM (PI (P x)) (face ts (T x) (PA (PI (P x)) y)).Perm.toNat) (P y) = EXC x y))
section
variable {ts : List (List GFace)} (hv : Val ts) {T P : Nat → Nat} (hT : ∀ x, x < 4 → T x < ts.length) (hP : ∀ x, x < 4 → P x < 24)
include hv hT hP
theorem i41_pair {x y : Nat} (hx : x < 4) (hy : y < 4) {R : Int × Int × Int × Int × Int × Int × Int × Int × Bool}
    (hgo : okB ts T P x y = true → Tends2 (fun K k => impl_Triangulation_star.l13 K k ts (T 0 : Int) (P 0 : Int) (T 1 : Int) (P 1 : Int) (T 2 : Int) (P 2 : Int) (T 3 : Int) (P 3 : Int) (x : Int) ((y + 1 : Nat) : Int)) R)
    (hno : okB ts T P x y = false → R = ((T 0 : Int), (P 0 : Int), (T 1 : Int), (P 1 : Int), (T 2 : Int), (P 2 : Int), (T 3 : Int), (P 3 : Int), false)) :
    Tends2 (fun K k => impl_Triangulation_star.l13 K k ts (T 0 : Int) (P 0 : Int) (T 1 : Int) (P 1 : Int) (T 2 : Int) (P 2 : Int) (T 3 : Int) (P 3 : Int) (x : Int) (y : Int)) R := by
  have h8 := hv.le
  have hPx := hP x hx
  have hPy := hP y hy
  have hTx := hT x hx
  have hTy := hT y hy
  have hf : PA (PI (P x)) y < 4 := PA_lt (PI_lt hPx) hy
  have hr := hv.four _ hTx
  have gT := fun k (h : k < 4) => l4_get (f := T) h
  have gP := fun k (h : k < 4) => l4_get (f := P) h
  have gA := l4_get (f := PA (PI (P x))) hy
  refine Tends2.succ ?_
  simp only [impl_Triangulation_star.l13, Int.toNat_natCast, bnd_eq, gT x hx, gT y hy, gP x hx, gP y hy]
  refine Tends2.pos (by omega) ?_
  by_cases hxy : x = y
  · refine Tends2.pos (by omega) ?_
    rw [w64_succ (by omega)]
    exact hgo (decide_eq_true (.inl hxy))
  refine Tends2.neg (by omega) (Tends2.pos (by omega) ?_)
  refine Tends2.bind (invert_t hPx).two ?_
  refine Tends2.bind4 (perm_t (PI_lt hPx)).two ?_
  simp only [gA, Int.toNat_natCast]
  refine Tends2.pos (by omega) (Tends2.pos (by omega) (Tends2.pos (by omega) ?_))
  show Tends2 (fun K k => if (face ts (T x) (PA (PI (P x)) y)).Tet = (T y : Int) then _ else _) _
  by_cases h1 : (face ts (T x) (PA (PI (P x)) y)).Tet = (T y : Int)
  rotate_left
  · rw [hno (decide_eq_false (fun q => q.elim (fun h => hxy h) (fun h => h1 h.1)))]
    exact Tends2.neg h1 (Tends2.const _)
  refine Tends2.pos h1 ?_
  by_cases h2 : T x = T y
  · rw [hno (decide_eq_false (fun q => q.elim (fun h => hxy h) (fun h => h.2.1 h2)))]
    exact Tends2.pos (by omega) (Tends2.const _)
  refine Tends2.neg (by omega) ?_
  rcases face_cases hv hTx hf with ⟨c1, _⟩ | ⟨_, b, q, hb, hq, c2, _⟩
  · omega
  have e0 : (face ts (T x) (PA (PI (P x)) y)).Perm = (q : Int) := by rw [c2]
  have e0' : ((ts.getD (T x) []).getD (PA (PI (P x)) y) z_GFace).Perm = (q : Int) := e0
  refine Tends2.bind (invert_t hPx).two ?_
  simp only [e0']
  refine Tends2.bind (compose_t (PI_lt hPx) hq).two ?_
  refine Tends2.bind (compose_t (PM_lt (PI_lt hPx) hq) hPy).two ?_
  refine Tends2.bind (exc_i hx hy hxy).two ?_
  by_cases h3 : PM (PM (PI (P x)) q) (P y) = EXC x y
  · refine Tends2.pos (by omega) ?_
    rw [w64_succ (by omega)]
    exact hgo (decide_eq_true (.inr ⟨h1, h2, by rw [e0, Int.toNat_natCast]; exact h3⟩))
  · rw [hno (decide_eq_false (fun q => q.elim (fun h => hxy h) (fun h => h3 (by have := h.2.2; rw [e0, Int.toNat_natCast] at this; exact this))))]
    exact Tends2.neg (by omega) (Tends2.const _)
theorem s41_pair {x y : Nat} (hx : x < 4) (hy : y < 4) {R : List Int × List (List GFace) × List GL12Outer × Bool}
    (hgo : okB ts T P x y = true → Tends2 (fun K k => spec_l12Plan41.l12 K k ts (l4 T) (l4 P) (x : Int) ((y + 1 : Nat) : Int)) R)
    (hno : okB ts T P x y = false → R = ([], [], [], false)) :
    Tends2 (fun K k => spec_l12Plan41.l12 K k ts (l4 T) (l4 P) (x : Int) (y : Int)) R := by
  have h8 := hv.le
  have hPx := hP x hx
  have hPy := hP y hy
  have hTx := hT x hx
  have hTy := hT y hy
  have hf : PA (PI (P x)) y < 4 := PA_lt (PI_lt hPx) hy
  have hr := hv.four _ hTx
  have lT : (l4 T).length = 4 := rfl
  have lP : (l4 P).length = 4 := rfl
  have gT : ∀ k, k < 4 → (l4 T).getD k 0 = (T k : Int) := fun k (h : k < 4) => l4_get (f := T) h
  have gP : ∀ k, k < 4 → (l4 P).getD k 0 = (P k : Int) := fun k (h : k < 4) => l4_get (f := P) h
  refine Tends2.succ ?_
  simp only [spec_l12Plan41.l12, Int.toNat_natCast, bnd_eq, gT x hx, gT y hy, gP x hx, gP y hy]
  refine Tends2.pos (by omega) ?_
  by_cases hxy : x = y
  · refine Tends2.pos (by omega) ?_
    rw [w64_succ (by omega)]
    exact hgo (decide_eq_true (.inl hxy))
  refine Tends2.neg (by omega) (Tends2.pos (by omega) (Tends2.pos (by omega) (Tends2.pos (by omega) ?_)))
  refine Tends2.bind (back_t hPx).two ?_
  refine Tends2.bind (at_t (PI_lt hPx) hy).two ?_
  simp only [Int.toNat_natCast]
  refine Tends2.pos (by omega) (Tends2.pos (by omega) ?_)
  by_cases h2 : T x = T y
  · rw [hno (decide_eq_false (fun q => q.elim (fun h => hxy h) (fun h => h.2.1 h2)))]
    exact Tends2.pos (by omega) (Tends2.const _)
  refine Tends2.neg (by omega) ?_
  show Tends2 (fun K k => if (face ts (T x) (PA (PI (P x)) y)).Tet = (T y : Int) then _ else _) _
  by_cases h1 : (face ts (T x) (PA (PI (P x)) y)).Tet = (T y : Int)
  rotate_left
  · rw [hno (decide_eq_false (fun q => q.elim (fun h => hxy h) (fun h => h1 h.1)))]
    exact Tends2.neg h1 (Tends2.const _)
  refine Tends2.pos h1 ?_
  rcases face_cases hv hTx hf with ⟨c1, _⟩ | ⟨_, b, q, hb, hq, c2, _⟩
  · omega
  have e0 : (face ts (T x) (PA (PI (P x)) y)).Perm = (q : Int) := by rw [c2]
  have e0' : ((ts.getD (T x) []).getD (PA (PI (P x)) y) z_GFace).Perm = (q : Int) := e0
  refine Tends2.bind (back_t hPx).two ?_
  simp only [e0']
  refine Tends2.bind (then_t (PI_lt hPx) hq).two ?_
  refine Tends2.pos (by omega) ?_
  refine Tends2.bind (then_t (PM_lt (PI_lt hPx) hq) hPy).two ?_
  refine Tends2.bind (exc_s hx hy hxy).two ?_
  by_cases h3 : PM (PM (PI (P x)) q) (P y) = EXC x y
  · refine Tends2.pos (by omega) ?_
    rw [w64_succ (by omega)]
    exact hgo (decide_eq_true (.inr ⟨h1, h2, by rw [e0, Int.toNat_natCast]; exact h3⟩))
  · rw [hno (decide_eq_false (fun q => q.elim (fun h => hxy h) (fun h => h3 (by have := h.2.2; rw [e0, Int.toNat_natCast] at this; exact this))))]
    exact Tends2.neg (by omega) (Tends2.const _)
theorem i41_all : Tends2 (fun K k => impl_Triangulation_star.l10 K k ts (T 0 : Int) (P 0 : Int) (T 1 : Int) (P 1 : Int) (T 2 : Int) (P 2 : Int) (T 3 : Int) (P 3 : Int) 0) ((T 0 : Int), (P 0 : Int), (T 1 : Int), (P 1 : Int), (T 2 : Int), (P 2 : Int), (T 3 : Int), (P 3 : Int), allB 4 fun x => allB 4 (okB ts T P x)) := by
  have enter : ∀ x : Nat, x < 4 → ∀ R, Tends2 (fun K k => impl_Triangulation_star.l13 K k ts (T 0 : Int) (P 0 : Int) (T 1 : Int) (P 1 : Int) (T 2 : Int) (P 2 : Int) (T 3 : Int) (P 3 : Int) (x : Int) ((0 : Nat) : Int)) R → Tends2 (fun K k => impl_Triangulation_star.l10 K k ts (T 0 : Int) (P 0 : Int) (T 1 : Int) (P 1 : Int) (T 2 : Int) (P 2 : Int) (T 3 : Int) (P 3 : Int) (x : Int)) R := fun x hx R h => by
    refine Tends2.step (fun K k => ?_) h
    rw [impl_Triangulation_star.l10, if_pos (by omega)]; rfl
  have go : ∀ x : Nat, x < 4 → allB 4 (okB ts T P x) = true → ∀ v, Tends2 (fun K k => impl_Triangulation_star.l10 K k ts (T 0 : Int) (P 0 : Int) (T 1 : Int) (P 1 : Int) (T 2 : Int) (P 2 : Int) (T 3 : Int) (P 3 : Int) ((x + 1 : Nat) : Int)) v → Tends2 (fun K k => impl_Triangulation_star.l10 K k ts (T 0 : Int) (P 0 : Int) (T 1 : Int) (P 1 : Int) (T 2 : Int) (P 2 : Int) (T 3 : Int) (P 3 : Int) (x : Int)) v := fun x hx hok v h => by
    refine enter x hx v (scan_all (l := fun K k y => impl_Triangulation_star.l13 K k ts (T 0 : Int) (P 0 : Int) (T 1 : Int) (P 1 : Int) (T 2 : Int) (P 2 : Int) (T 3 : Int) (P 3 : Int) (x : Int) (y : Int)) (n := 4) (fun y hy hp w hw => i41_pair hv hT hP hx hy (fun _ => hw) (fun e => by rw [hp] at e; cases e)) hok ?_)
    refine Tends2.step (fun K k => ?_) h
    rw [impl_Triangulation_star.l13, if_neg (by omega), w64_succ (by omega)]
  cases hall : allB 4 fun x => allB 4 (okB ts T P x) with
  | true =>
    refine scan_all (l := fun K k x => impl_Triangulation_star.l10 K k ts (T 0 : Int) (P 0 : Int) (T 1 : Int) (P 1 : Int) (T 2 : Int) (P 2 : Int) (T 3 : Int) (P 3 : Int) (x : Int)) (n := 4) go hall ?_
    exact Tends2.of fun K k => by rw [impl_Triangulation_star.l10, if_neg (by omega)]
  | false =>
    refine scan_stop (l := fun K k x => impl_Triangulation_star.l10 K k ts (T 0 : Int) (P 0 : Int) (T 1 : Int) (P 1 : Int) (T 2 : Int) (P 2 : Int) (T 3 : Int) (P 3 : Int) (x : Int)) (n := 4) go (fun x hx hno => ?_) hall
    exact enter x hx _ (scan_stop (l := fun K k y => impl_Triangulation_star.l13 K k ts (T 0 : Int) (P 0 : Int) (T 1 : Int) (P 1 : Int) (T 2 : Int) (P 2 : Int) (T 3 : Int) (P 3 : Int) (x : Int) (y : Int)) (n := 4) (fun y hy hp w hw => i41_pair hv hT hP hx hy (fun _ => hw) (fun e => by rw [hp] at e; cases e)) (fun y hy hn => i41_pair hv hT hP hx hy (fun e => by rw [hn] at e; cases e) (fun _ => rfl)) hno)
theorem s41_all {R : List Int × List (List GFace) × List GL12Outer × Bool} (hyes : (allB 4 fun x => allB 4 (okB ts T P x)) = true → Tends2 (fun K k => spec_l12Plan41.l13 K k (l4 T) (l4 P) free4 [] 0) R) (hno : (allB 4 fun x => allB 4 (okB ts T P x)) = false → R = ([], [], [], false)) : Tends2 (fun K k => spec_l12Plan41.l8 K k ts (l4 T) (l4 P) 0) R := by
  have enter : ∀ x : Nat, x < 4 → ∀ R, Tends2 (fun K k => spec_l12Plan41.l12 K k ts (l4 T) (l4 P) (x : Int) ((0 : Nat) : Int)) R → Tends2 (fun K k => spec_l12Plan41.l8 K k ts (l4 T) (l4 P) (x : Int)) R := fun x hx R h => by
    refine Tends2.step (fun K k => ?_) h
    rw [spec_l12Plan41.l8, if_pos (by omega)]; rfl
  have go : ∀ x : Nat, x < 4 → allB 4 (okB ts T P x) = true → ∀ v, Tends2 (fun K k => spec_l12Plan41.l8 K k ts (l4 T) (l4 P) ((x + 1 : Nat) : Int)) v → Tends2 (fun K k => spec_l12Plan41.l8 K k ts (l4 T) (l4 P) (x : Int)) v := fun x hx hok v h => by
    refine enter x hx v (scan_all (l := fun K k y => spec_l12Plan41.l12 K k ts (l4 T) (l4 P) (x : Int) (y : Int)) (n := 4) (fun y hy hp w hw => s41_pair hv hT hP hx hy (fun _ => hw) (fun e => by rw [hp] at e; cases e)) hok ?_)
    refine Tends2.step (fun K k => ?_) h
    rw [spec_l12Plan41.l12, if_neg (by omega), w64_succ (by omega)]
  cases hall : allB 4 fun x => allB 4 (okB ts T P x) with
  | true =>
    refine scan_all (l := fun K k x => spec_l12Plan41.l8 K k ts (l4 T) (l4 P) (x : Int)) (n := 4) go hall ?_
    refine Tends2.step (fun K k => ?_) (hyes hall)
    rw [spec_l12Plan41.l8, if_neg (by omega)]; rfl
  | false =>
    rw [hno hall]
    refine scan_stop (l := fun K k x => spec_l12Plan41.l8 K k ts (l4 T) (l4 P) (x : Int)) (n := 4) go (fun x hx hn => ?_) hall
    exact enter x hx _ (scan_stop (l := fun K k y => spec_l12Plan41.l12 K k ts (l4 T) (l4 P) (x : Int) (y : Int)) (n := 4) (fun y hy hp w hw => s41_pair hv hT hP hx hy (fun _ => hw) (fun e => by rw [hp] at e; cases e)) (fun y hy hn => s41_pair hv hT hP hx hy (fun e => by rw [hn] at e; cases e) (fun _ => rfl)) hn)
def o41 (T P : Nat → Nat) (x : Nat) : GL12Outer := ⟨(T x : Int), (PA (PI (P x)) x : Nat), 0, (P x : Int)⟩
def O41 (T P : Nat → Nat) : List GL12Outer := [o41 T P 0, o41 T P 1, o41 T P 2, o41 T P 3]
omit hv hT in
theorem i41_put {x : Nat} (hx : x < 4) {old : List Int} (ho : old.length ≤ 10) {m : List (Arr2 × GPlace)} {R : Option (List Int × List (Arr2 × GPlace) × Int × List Arr4)}
    (h : Tends2 (fun K k => impl_Triangulation_change41.l1 K k (T 0 : Int) (P 0 : Int) (T 1 : Int) (P 1 : Int) (T 2 : Int) (P 2 : Int) (T 3 : Int) (P 3 : Int) 1 [] (old ++ [(T x : Int)]) (putO m (o41 T P x)) ((x + 1 : Nat) : Int)) R) : Tends2 (fun K k => impl_Triangulation_change41.l1 K k (T 0 : Int) (P 0 : Int) (T 1 : Int) (P 1 : Int) (T 2 : Int) (P 2 : Int) (T 3 : Int) (P 3 : Int) 1 [] old m (x : Int)) R := by
  have hPx := hP x hx
  have gT := fun k (h : k < 4) => l4_get (f := T) h
  have gP := fun k (h : k < 4) => l4_get (f := P) h
  have gA := l4_get (f := PA (PI (P x))) hx
  refine Tends2.succ ?_
  simp only [impl_Triangulation_change41.l1, Int.toNat_natCast, gT x hx, gP x hx]
  refine Tends2.pos (by omega) (Tends2.pos (by omega) (Tends2.pos (by omega) ?_))
  refine Tends2.bind (invert_t hPx).two ?_
  refine Tends2.bind4 (perm_t (PI_lt hPx)).two ?_
  refine Tends2.bind4 (perm_t hPx).two ?_
  simp only [gA]
  refine Tends2.bind (a := putO m (o41 T P x)) ?_ ?_
  · have := (indexOf_t hPx).two
    exact Tends2.bind this (Tends2.const _)
  · rw [w64_succ (by omega)]; exact h
omit hv hT in
theorem s41_put {x : Nat} (hx : x < 4) {m : List GL12Outer} (hm : m.length ≤ 10) {R : List Int × List (List GFace) × List GL12Outer × Bool}
    (h : Tends2 (fun K k => spec_l12Plan41.l13 K k (l4 T) (l4 P) free4 (m ++ [o41 T P x]) ((x + 1 : Nat) : Int)) R) : Tends2 (fun K k => spec_l12Plan41.l13 K k (l4 T) (l4 P) free4 m (x : Int)) R := by
  have hPx := hP x hx
  have lT : (l4 T).length = 4 := rfl
  have lP : (l4 P).length = 4 := rfl
  have gT : ∀ k, k < 4 → (l4 T).getD k 0 = (T k : Int) := fun k (h : k < 4) => l4_get (f := T) h
  have gP : ∀ k, k < 4 → (l4 P).getD k 0 = (P k : Int) := fun k (h : k < 4) => l4_get (f := P) h
  refine Tends2.succ ?_
  simp only [spec_l12Plan41.l13, Int.toNat_natCast, gT x hx, gP x hx]
  refine Tends2.pos (by omega) (Tends2.pos (by omega) (Tends2.pos (by omega) ?_))
  refine Tends2.bind (back_t hPx).two ?_
  refine Tends2.bind (at_t (PI_lt hPx) hx).two ?_
  refine Tends2.pos (by omega) ?_
  rw [w64_succ (by omega)]; exact h
omit hv hT in
theorem i41_puts : Tends (fun K => impl_Triangulation_change41.l1 K K (T 0 : Int) (P 0 : Int) (T 1 : Int) (P 1 : Int) (T 2 : Int) (P 2 : Int) (T 3 : Int) (P 3 : Int) 1 [] [] [] 0) (some (l4 T, (O41 T P).foldl putO [], 1, [])) := by
  refine Tends2.diag (F := fun K k => impl_Triangulation_change41.l1 K k (T 0 : Int) (P 0 : Int) (T 1 : Int) (P 1 : Int) (T 2 : Int) (P 2 : Int) (T 3 : Int) (P 3 : Int) 1 [] [] [] ((0 : Nat) : Int)) ?_
  refine i41_put hP (by omega) (by simp) (i41_put hP (by omega) (by simp) (i41_put hP (by omega) (by simp) (i41_put hP (by omega) (by simp) ?_)))
  exact Tends2.of fun K k => by rw [impl_Triangulation_change41.l1, if_neg (by decide)]; rfl
omit hv hT in
theorem s41_puts : Tends2 (fun K k => spec_l12Plan41.l13 K k (l4 T) (l4 P) free4 [] 0) (l4 T, [free4], O41 T P, true) := by
  refine s41_put (x := 0) hP (by omega) (by simp) (s41_put hP (by omega) (by simp) (s41_put hP (by omega) (by simp) (s41_put hP (by omega) (by simp) ?_)))
  exact Tends2.of fun K k => by rw [spec_l12Plan41.l13, if_neg (by decide)]; rfl
end
end Go.Proofs.YtbjfinndngafoaaGreat
