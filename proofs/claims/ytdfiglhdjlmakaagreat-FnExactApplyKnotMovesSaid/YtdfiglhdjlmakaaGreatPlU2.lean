/-
  Cycles of a permutation of the arcs; marks; repeated numbers; limits.
-/
import Derived.Test.YtdfiglhdjlmakaaGreatPlU
set_option linter.unusedVariables false
set_option linter.unusedSimpArgs false
set_option linter.unusedSectionVars false
namespace Go.Proofs.YtdfiglhdjlmakaaGreat
open Go.RowKit
theorem getD_setB {l : List Bool} {i j : Nat} {v : Bool} (h : i < l.length) : (l.set i v).getD j false = if j = i then v else l.getD j false := by
  rw [List.getD_eq_getElem?_getD, List.getElem?_set]
  by_cases e : i = j
  · subst e; rw [if_pos rfl, if_pos h, if_pos rfl]; rfl
  · rw [if_neg e, if_neg (fun h => e h.symm), ← List.getD_eq_getElem?_getD]
theorem getD_setI {l : List Int} {i j : Nat} {v : Int} (h : i < l.length) : (l.set i v).getD j 0 = if j = i then v else l.getD j 0 := by
  rw [List.getD_eq_getElem?_getD, List.getElem?_set]
  by_cases e : i = j
  · subst e; rw [if_pos rfl, if_pos h, if_pos rfl]; rfl
  · rw [if_neg e, if_neg (fun h => e h.symm), ← List.getD_eq_getElem?_getD]
theorem getD_repB (n i : Nat) : (List.replicate n false).getD i false = false := by
  rw [List.getD_eq_getElem?_getD, List.getElem?_replicate]
  split <;> rfl
theorem least {P : Nat → Prop} (h : ∃ m, P m) : ∃ m, P m ∧ ∀ k, k < m → ¬ P k := by
  obtain ⟨m, hm⟩ := h
  induction m using Nat.strongRecOn with
  | _ m ih =>
    by_cases he : ∃ k, k < m ∧ P k
    · obtain ⟨k, hk, hp⟩ := he
      exact ih k hk hp
    · exact ⟨m, hm, fun k hk hp => he ⟨k, hk, hp⟩⟩
def it (nx : Nat → Nat) : Nat → Nat → Nat
  | 0, a => a
  | i + 1, a => nx (it nx i a)
structure Turn (N : Nat) (nx pv : Nat → Nat) : Prop where
  fwd : ∀ a, a < N → nx a < N ∧ pv (nx a) = a
  bwd : ∀ b, b < N → pv b < N ∧ nx (pv b) = b
section
variable {N : Nat} {nx pv : Nat → Nat} (hT : Turn N nx pv)
include hT
theorem it_lt {a : Nat} (ha : a < N) : ∀ i, it nx i a < N
  | 0 => ha
  | i + 1 => (hT.fwd _ (it_lt ha i)).1
theorem Turn.inj {a b : Nat} (ha : a < N) (hb : b < N) (e : nx a = nx b) : a = b := by rw [← (hT.fwd a ha).2, e, (hT.fwd b hb).2]
theorem it_back {a : Nat} (ha : a < N) : ∀ {i j : Nat}, i ≤ j → it nx i a = it nx j a → it nx (j - i) a = a
  | 0, j, _, e => e.symm
  | i + 1, 0, h, _ => absurd h (by omega)
  | i + 1, j + 1, h, e => by
    have := it_back ha (i := i) (j := j) (by omega) (hT.inj (it_lt hT ha i) (it_lt hT ha j) e)
    rwa [show j + 1 - (i + 1) = j - i by omega]
theorem period {a : Nat} (ha : a < N) : ∃ m, 0 < m ∧ m ≤ N ∧ it nx m a = a ∧ ∀ i j, i < m → j < m → it nx i a = it nx j a → i = j := by
  obtain ⟨i, j, hij, hj, e⟩ := pigeon N (fun i => it nx i a) (fun i _ => it_lt hT ha i)
  obtain ⟨m, ⟨h0, h1⟩, hmin⟩ := least (P := fun m => 0 < m ∧ it nx m a = a) ⟨j - i, by omega, it_back hT ha (by omega) e⟩
  refine ⟨m, h0, Nat.le_of_not_lt (fun h => hmin (j - i) (by omega) ⟨by omega, it_back hT ha (by omega) e⟩), h1, fun i' j' hi hj' e' => ?_⟩
  rcases Nat.lt_trichotomy i' j' with h | h | h
  · exact absurd ⟨by omega, it_back hT ha (by omega) e'⟩ (hmin (j' - i') (by omega))
  · exact h
  · exact absurd ⟨by omega, it_back hT ha (by omega) e'.symm⟩ (hmin (i' - j') (by omega))
theorem cycle_back {a m b : Nat} (ha : a < N) (h0 : 0 < m) (hm : it nx m a = a) (hb : b < N) (h : ∃ j, j < m ∧ nx b = it nx j a) : ∃ j, j < m ∧ b = it nx j a := by
  obtain ⟨j, hj, e⟩ := h
  cases j with
  | zero =>
    refine ⟨m - 1, by omega, hT.inj hb (it_lt hT ha _) ?_⟩
    rw [e]
    show a = it nx (m - 1 + 1) a
    rw [Nat.sub_add_cancel h0, hm]
  | succ j => exact ⟨j, by omega, hT.inj hb (it_lt hT ha j) e⟩
theorem cycle_on {a m b : Nat} (h0 : 0 < m) (hm : it nx m a = a) (h : ∃ j, j < m ∧ b = it nx j a) : ∃ j, j < m ∧ nx b = it nx j a := by
  obtain ⟨j, hj, rfl⟩ := h
  by_cases e : j + 1 = m
  · exact ⟨0, h0, by
      show it nx (j + 1) a = a
      rw [e, hm]⟩
  · exact ⟨j + 1, by omega, rfl⟩
end
def Marked (N : Nat) (nx : Nat → Nat) (a i : Nat) (old new : List Bool) : Prop := new.length = N ∧ ∀ b, b < N → (new.getD b false = true ↔ (old.getD b false = true ∨ ∃ j, j < i ∧ b = it nx j a))
theorem Marked.next {N : Nat} {nx : Nat → Nat} {a i : Nat} {old new : List Bool} (h : Marked N nx a i old new) (hi : it nx i a < N) : Marked N nx a (i + 1) old (new.set (it nx i a) true) := by
  refine ⟨by rw [List.length_set]; exact h.1, fun b hb => ?_⟩
  rw [getD_setB (by rw [h.1]; exact hi)]
  by_cases e : b = it nx i a
  · rw [if_pos e]
    exact ⟨fun _ => .inr ⟨i, Nat.lt_succ_self _, e⟩, fun _ => rfl⟩
  · rw [if_neg e, h.2 b hb]
    constructor
    · rintro (h | ⟨j, hj, h⟩)
      · exact .inl h
      · exact .inr ⟨j, by omega, h⟩
    · rintro (h | ⟨j, hj, hq⟩)
      · exact .inl h
      · rcases Nat.lt_succ_iff_lt_or_eq.1 hj with h' | h'
        · exact .inr ⟨j, h', hq⟩
        · rw [h'] at hq; exact absurd hq e
theorem rep_int_l4 (e : Int) {m : Nat} (hm : m ≤ 2000000) : ∀ (d i : Nat) (xs : List Int), m - i = d → i ≤ m → (0 < i ∨ m = 0) → xs.length = m → (∀ j, j < i → xs[j]? = some e) → Tends2 (fun K k => slices_Repeat_int64_int64.l4 K k xs (i : Int)) (List.replicate m e) := by
  intro d
  induction d using Nat.strongRecOn with
  | _ d ih =>
    intro i xs hd hi h0 hl hx
    by_cases hlt : i < m
    · have hi0 : 0 < i := by omega
      have hys : ((xs.take i).drop 0).take ((xs.take xs.length).drop i).length = xs.take (min i (m - i)) := by
        rw [List.drop_zero, List.take_length, List.length_drop, List.take_take, hl, Nat.min_comm]
      have hyl : (xs.take (min i (m - i))).length = min i (m - i) := by rw [List.length_take]; omega
      have hti : (xs.take i).length = i := by rw [List.length_take]; omega
      have hov : over xs i (xs.take (min i (m - i))) = over xs i (xs.take (min i (m - i))) := rfl
      have hget : ∀ j, j < i + min i (m - i) → (over xs i (xs.take (min i (m - i))))[j]? = some e := fun j hj => by
        unfold over
        by_cases h1 : j < i
        · rw [List.append_assoc, List.getElem?_append_left (by rw [List.length_take]; omega), List.getElem?_take, if_pos h1]
          exact hx j h1
        · rw [List.append_assoc, List.getElem?_append_right (by rw [hti]; omega), hti, List.getElem?_append_left (by rw [hyl]; omega), List.getElem?_take, if_pos (by omega)]
          exact hx _ (by omega)
      have h2 := ih (m - (i + min i (m - i))) (by omega) (i + min i (m - i)) (over xs i (xs.take (min i (m - i)))) rfl (by omega) (.inl (by omega)) (by rw [over_length (by rw [hyl]; omega)]; exact hl) hget
      refine Tends2.succ (Tends2.congr (fun K k => ?_) h2)
      rw [slices_Repeat_int64_int64.l4, if_pos (by omega), if_pos (by omega), Int.toNat_natCast, hys, hyl]
      rw [w64_id (by omega) (by omega)]
      rfl
    · obtain rfl : i = m := by omega
      have he : xs = List.replicate i e := by
        apply List.ext_getElem?
        intro j
        by_cases hj : j < i
        · rw [hx j hj, List.getElem?_replicate, if_pos hj]
        · rw [List.getElem?_eq_none (by omega), List.getElem?_eq_none (by simp; omega)]
      refine Tends2.succ (Tends2.congr (fun K k => ?_) (Tends2.const _))
      rw [slices_Repeat_int64_int64.l4, if_neg (by omega), he]
theorem repeat_int (e : Int) {n : Nat} (hn : n ≤ 10) : Tends (fun K => slices_Repeat_int64_int64.f K [e] (2 * (n : Int))) (List.replicate (2 * n) e) := by
  have hw : w64 (2 * (n : Int)) = 2 * (n : Int) := w64_id (by omega) (by omega)
  have ht : (2 * (n : Int)).toNat = 2 * n := by omega
  have hl : ∃ i : Nat, (([e] : List Int).take (List.replicate (2 * n) (0 : Int)).length).length = i ∧ i ≤ 2 * n ∧ (0 < i ∨ 2 * n = 0) ∧ i ≤ 1 := ⟨_, rfl, by simp; omega, by simp; omega, by simp; omega⟩
  obtain ⟨i, h1, h2, h3, h4⟩ := hl
  have hx : ∀ j, j < i → (over (List.replicate (2 * n) (0 : Int)) 0 (([e] : List Int).take (List.replicate (2 * n) (0 : Int)).length))[j]? = some e := fun j hj => by
    obtain rfl : j = 0 := by omega
    unfold over
    have : ([e] : List Int).take (List.replicate (2 * n) (0 : Int)).length = [e] := List.take_of_length_le (by simp; omega)
    rw [this]
    rfl
  have hm := rep_int_l4 e (m := 2 * n) (by omega) (2 * n - i) i (over (List.replicate (2 * n) (0 : Int)) 0 (([e] : List Int).take (List.replicate (2 * n) (0 : Int)).length)) rfl h2 h3 (by rw [over_length (by rw [h1]; simp; omega)]; simp) hx
  refine Tends.congr (fun K => ?_) (Tends2.diag (Tends2.succ (F := fun K k => slices_Repeat_int64_int64.j2 K k [e] (2 * (n : Int)) false) (Tends2.congr (fun K k => ?_) hm)))
  · rw [slices_Repeat_int64_int64.f, if_neg (by omega)]
    show bind2 (math_bits_Mul.f (IntKind.wrap .u64 1) (IntKind.wrap .u64 (2 * (n : Int)))) _ = _
    rw [mul_small n hn]
    simp only [bind2, Option.bind_some]
    rw [if_neg (by omega), decide_eq_false (by omega)]
  · rw [slices_Repeat_int64_int64.j2, if_neg (by decide), hw, if_pos (by omega), ht, if_pos (by omega), h1]
def addW : Int → Nat → Int
  | c, 0 => c
  | c, k + 1 => addW (w64 (c + 1)) k
theorem Marked.unique {N : Nat} {nx : Nat → Nat} {a i : Nat} {old n1 n2 : List Bool} (h1 : Marked N nx a i old n1) (h2 : Marked N nx a i old n2) : n1 = n2 := by
  apply List.ext_getElem?
  intro b
  by_cases hb : b < N
  · have e1 := h1.2 b hb
    have e2 := h2.2 b hb
    have e3 : n1.getD b false = n2.getD b false := by
      cases hx : n1.getD b false <;> cases hy : n2.getD b false
      · rfl
      · exact absurd (e1.2 (e2.1 hy)) (by rw [hx]; decide)
      · exact absurd (e2.2 (e1.1 hx)) (by rw [hy]; decide)
      · rfl
    rw [List.getD_eq_getElem?_getD, List.getD_eq_getElem?_getD, List.getElem?_eq_getElem (by rw [h1.1]; exact hb), List.getElem?_eq_getElem (by rw [h2.1]; exact hb)] at e3
    rw [List.getElem?_eq_getElem (by rw [h1.1]; exact hb), List.getElem?_eq_getElem (by rw [h2.1]; exact hb)]
    exact congrArg some e3
  · rw [List.getElem?_eq_none (by rw [h1.1]; omega), List.getElem?_eq_none (by rw [h2.1]; omega)]
theorem Marked.none {N : Nat} {nx : Nat → Nat} {a : Nat} {old : List Bool} (h : old.length = N) : Marked N nx a 0 old old :=
  ⟨h, fun b hb => ⟨.inl, fun h => h.elim id (fun ⟨j, hj, _⟩ => absurd hj (Nat.not_lt_zero _))⟩⟩
theorem Marked.all {N : Nat} {nx pv : Nat → Nat} (hT : Turn N nx pv) {a : Nat} (ha : a < N) {old : List Bool} (h : old.length = N) : ∀ i, ∃ new, Marked N nx a i old new
  | 0 => ⟨old, Marked.none h⟩
  | i + 1 => by
    obtain ⟨new, hn⟩ := Marked.all hT ha h i
    exact ⟨_, hn.next (it_lt hT ha i)⟩
def limited (ys : List GCrossing) (c : Int) : List GCrossing × Int × Int := if 8 < c then ([], 0, 3) else (ys, c, 0)
theorem limited_impl (ys : List GCrossing) (c : Int) : impl_limitedCircles.f ys c = some (limited ys c) := by
  unfold impl_limitedCircles.f limited
  split <;> rfl
theorem limited_len {ys : List GCrossing} {c : Int} {n : Nat} (h : ys.length ≤ n) : (limited ys c).1.length ≤ n := by
  unfold limited
  split
  · exact Nat.zero_le _
  · exact h
theorem has_cross (l : List GCrossing) (a : Int) (hl : l.length ≤ 4000000) : impl_hasIndex_impl_Crossing.f l a = some (decide (0 ≤ a ∧ a < (l.length : Int))) := by
  unfold impl_hasIndex_impl_Crossing.f impl_size_impl_Crossing.f
  rw [Option.bind_some, range_eq, Option.bind_some]
  congr 2
  rw [w64_id (by omega) (by omega)]
  apply propext
  constructor <;> intro h <;> omega
theorem in_cross (a : Int) (n : Nat) (hn : n ≤ 2000000) : spec_l01In.f a 0 (w64 ((n : Int) - 1)) = some (decide (0 ≤ a ∧ a < (n : Int))) := by
  rw [In_eq]
  congr 2
  rw [w64_id (by omega) (by omega)]
  apply propext
  constructor <;> intro h <;> omega
theorem endv_with (x : GCrossing) {p p' : Nat} (hp : p < 4) (hp' : p' < 4) (a : Int) : endv (withArc x p a) p' = if p' = p then a else endv x p' := by
  match p, hp, p', hp' with
  | 0, _, 0, _ | 0, _, 1, _ | 0, _, 2, _ | 0, _, 3, _ | 1, _, 0, _ | 1, _, 1, _ | 1, _, 2, _ | 1, _, 3, _ | 2, _, 0, _ | 2, _, 1, _ | 2, _, 2, _ | 2, _, 3, _ | 3, _, 0, _ | 3, _, 1, _ | 3, _, 2, _ | 3, _, 3, _ => rfl
theorem arcAt_set {l : List GCrossing} {c p q : Nat} (hc : c < l.length) (hp : p < 4) (a : Int) : arcAt (l.set c (withArc (l.getD c z_GCrossing) p a)) q = if q = 4 * c + p then a else arcAt l q := by
  unfold arcAt
  by_cases e : c = q / 4
  · subst e
    rw [getD_set_eq hc, endv_with _ hp (Nat.mod_lt _ (by decide))]
    by_cases e2 : q % 4 = p
    · rw [if_pos e2, if_pos (by omega)]
    · rw [if_neg e2, if_neg (by omega)]
  · rw [getD_set_ne e, if_neg (by omega)]
structure Moved (xs : List GCrossing) (G Lf : Nat → Bool) (nx : Nat → Nat) (a : Nat) (work : List GCrossing) (numbers : List Int) : Prop where
  nlen : numbers.length = 2 * xs.length
  sg : SameSigns xs work
  num : ∀ s, s < a → Start (2 * xs.length) Lf s → numbers.getD s 0 = (numOf Lf s : Int)
  out : ∀ q, q < 4 * xs.length → entAt xs q = false → arcAt work q = arcAt xs q
  inn : ∀ q s i, q < 4 * xs.length → entAt xs q = true → s < a → Start (2 * xs.length) Lf s → Way G nx s i (arcAt xs q).toNat → G (arcAt xs q).toNat = false → arcAt work q = (s : Int)
end Go.Proofs.YtdfiglhdjlmakaaGreat
