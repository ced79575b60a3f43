/-
  The parts: both ways of joining crossings keep the same parts; how many there are is counted alike.
-/
import Derived.Test.YtkmeepgpmppibaaGreatDoorPlF
set_option linter.unusedVariables false
set_option linter.unusedSimpArgs false
set_option linter.unusedSectionVars false
namespace Go.Proofs.YtkmeepgpmppibaaGreatDoor
open Go.RowKit
def isFirst (l : List Int) (i : Nat) : Bool := (List.range i).all fun j => l.getD j 0 != l.getD i 0
theorem Ny {l : List Int} {i : Nat} : isFirst l i = true ↔ ∀ j, j < i → l.getD j 0 ≠ l.getD i 0 := by
  unfold isFirst
  rw [List.all_eq_true]
  constructor
  · intro h j hj
    simpa using h j (List.mem_range.2 hj)
  · intro h j hj
    simpa using h j (List.mem_range.1 hj)
def M4 (l : List Int) : Nat → Nat
  | 0 => 0
  | i + 1 => M4 l i + (if isFirst l i = true then 1 else 0)
def Zy (l : List Int) : Nat → Nat
  | 0 => 0
  | i + 1 => Zy l i + (if l.getD i 0 = (i : Int) then 1 else 0)
theorem X5 (l : List Int) : ∀ i, M4 l i ≤ i
  | 0 => Nat.le_refl _
  | i + 1 => by
    have := X5 l i
    rw [M4]
    split <;> omega
theorem fF (l : List Int) : ∀ i, Zy l i ≤ i
  | 0 => Nat.le_refl _
  | i + 1 => by
    have := fF l i
    rw [Zy]
    split <;> omega
def Pf (n : Nat) (s o : List Int) : Prop := ∀ i j, i < n → j < n → (s.getD i 0 = s.getD j 0 ↔ o.getD i 0 = o.getD j 0)
theorem U6 {n : Nat} {s o : List Int} (h : Pf n s o) : ∀ i, i ≤ n → M4 s i = M4 o i
  | 0, _ => rfl
  | i + 1, hi => by
    rw [M4, M4, U6 h i (by omega)]
    have : isFirst s i = isFirst o i := by
      rw [Bool.eq_iff_iff, Ny, Ny]
      constructor
      · intro h1 j hj e
        exact h1 j hj ((h j i (by omega) (by omega)).2 e)
      · intro h1 j hj e
        exact h1 j hj ((h j i (by omega) (by omega)).1 e)
    rw [this]
structure Vk (n : Nat) (o : List Int) : Prop where
  len : o.length = n
  low : ∀ i, i < n → 0 ≤ o.getD i 0 ∧ o.getD i 0 ≤ (i : Int)
  root : ∀ i, i < n → o.getD (o.getD i 0).toNat 0 = o.getD i 0
theorem Wv {n : Nat} {o : List Int} (h : Vk n o) : ∀ i, i ≤ n → Zy o i = M4 o i
  | 0, _ => rfl
  | i + 1, hi => by
    rw [M4, Zy, Wv h i (by omega)]
    congr 1
    have h1 := h.low i (by omega)
    have h2 := h.root i (by omega)
    have : isFirst o i = true ↔ o.getD i 0 = (i : Int) := by
      rw [Ny]
      constructor
      · intro hf
        rcases Int.lt_or_eq_of_le h1.2 with hlt | he
        · exact absurd h2 (hf _ (by omega))
        · exact he
      · intro he j hj e
        have := (h.low j (by omega)).2
        rw [e, he] at this
        omega
    by_cases hc : o.getD i 0 = (i : Int)
    · rw [if_pos hc, if_pos (this.2 hc)]
    · rw [if_neg hc, if_neg (fun h => hc (this.1 h))]
def Oj (p q v : Int) : Int := if v = p then q else v
theorem getD_map {f : Int → Int} {l : List Int} {i : Nat} (h : i < l.length) : (l.map f).getD i 0 = f (l.getD i 0) := by
  rw [List.getD_eq_getElem?_getD, List.getElem?_map, getD_some (d := 0) h]; rfl
theorem fJ {p q u v : Int} : Oj p q u = Oj p q v ↔ (u = v ∨ ((u = p ∨ u = q) ∧ (v = p ∨ v = q))) := by
  unfold Oj
  grind
theorem Pf.join {n : Nat} {s o : List Int} (h : Pf n s o) (hs : s.length = n) (ho : o.length = n) {c e : Nat} (hc : c < n) (he : e < n) {p q : Int} (hpq : (p = o.getD c 0 ∧ q = o.getD e 0) ∨ (p = o.getD e 0 ∧ q = o.getD c 0)) :
    Pf n (s.map (Oj (s.getD c 0) (s.getD e 0))) (o.map (Oj p q)) := by
  intro i j hi hj
  rw [getD_map (by omega), getD_map (by omega), getD_map (by omega), getD_map (by omega), fJ, fJ, h i j hi hj, h i c hi hc, h i e hi he, h j c hj hc, h j e hj he]
  rcases hpq with ⟨rfl, rfl⟩ | ⟨rfl, rfl⟩
  · exact Iff.rfl
  · constructor <;> intro h <;> rcases h with h | ⟨h1, h2⟩ <;> first | exact .inl h | exact .inr ⟨h1.symm, h2.symm⟩
theorem Vk.join {n : Nat} {o : List Int} (h : Vk n o) {c e : Nat} (hc : c < n) (he : e < n) {p q : Int} (hpq : (p = o.getD c 0 ∧ q = o.getD e 0) ∨ (p = o.getD e 0 ∧ q = o.getD c 0)) (hle : q ≤ p) : Vk n (o.map (Oj p q)) := by
  have hq : ∃ d, d < n ∧ q = o.getD d 0 := by rcases hpq with ⟨_, h⟩ | ⟨_, h⟩ <;> exact ⟨_, by assumption, h⟩
  obtain ⟨d, hd, hqd⟩ := hq
  have hqr : o.getD q.toNat 0 = q := by rw [hqd]; exact h.root d hd
  have hql := h.low d hd
  have hfl : ∀ i, i < n → (o.map (Oj p q)).getD i 0 = Oj p q (o.getD i 0) := fun i hi => getD_map (by rw [h.len]; exact hi)
  refine ⟨by rw [List.length_map]; exact h.len, fun i hi => ?_, fun i hi => ?_⟩
  · have hl := h.low i hi
    rw [hfl i hi]
    unfold Oj
    split <;> omega
  · have hl := h.low i hi
    have hr := h.root i hi
    have hv : (o.getD i 0).toNat < n := by omega
    rw [hfl i hi]
    by_cases hp : o.getD i 0 = p
    · have e1 : Oj p q (o.getD i 0) = q := by unfold Oj; rw [if_pos hp]
      rw [e1, hfl _ (by omega), hqr]
      unfold Oj
      split <;> rfl
    · have e1 : Oj p q (o.getD i 0) = o.getD i 0 := by unfold Oj; rw [if_neg hp]
      rw [e1, hfl _ hv, hr, e1]
def upto (n : Nat) : List Int := (List.range n).map fun i : Nat => (i : Int)
theorem Pw (n : Nat) : (upto n).length = n := by simp [upto]
theorem Vt {n i : Nat} (h : i < n) : (upto n).getD i 0 = (i : Int) := by
  unfold upto
  rw [List.getD_eq_getElem?_getD, List.getElem?_map, List.getElem?_range h]; rfl
theorem Xp (n : Nat) : upto (n + 1) = upto n ++ [(n : Int)] := by unfold upto; rw [List.range_succ, List.map_append]; rfl
theorem bO (n : Nat) : Vk n (upto n) := ⟨Pw n, fun i hi => by rw [Vt hi]; omega, fun i hi => by rw [Vt hi, Int.toNat_natCast, Vt hi]⟩
theorem Xu {l l' : List Int} {f : Int → Int} {j : Nat} (hl : l'.length = l.length) (h1 : ∀ i, i < j → l'[i]? = (l.map f)[i]?) (hj : l.length ≤ j) : l' = l.map f := by
  apply List.ext_getElem?
  intro i
  by_cases hi : i < j
  · exact h1 i hi
  · rw [List.getElem?_eq_none (by omega), List.getElem?_eq_none (by rw [List.length_map]; omega)]
theorem Yw {l l' : List Int} {p q : Int} {j : Nat} (hl : l'.length = l.length) (hj : j < l.length) (h1 : ∀ i, i < j → l'[i]? = (l.map (Oj p q))[i]?) (h2 : ∀ i, j ≤ i → l'[i]? = l[i]?) (d : Bool) (hd : d = decide (l'.getD j 0 = p)) :
    ((bif d then l'.set j q else l').length = l.length) ∧ (∀ i, i < j + 1 → (bif d then l'.set j q else l')[i]? = (l.map (Oj p q))[i]?) ∧ (∀ i, j + 1 ≤ i → (bif d then l'.set j q else l')[i]? = l[i]?) := by
  have hg : l'.getD j 0 = l.getD j 0 := by rw [List.getD_eq_getElem?_getD, h2 j (Nat.le_refl _), ← List.getD_eq_getElem?_getD]
  have hs := getD_some (d := 0) hj
  cases d with
  | true =>
    have hp : l.getD j 0 = p := by rw [← hg]; exact of_decide_eq_true hd.symm
    refine ⟨by show (l'.set j q).length = _; rw [List.length_set]; exact hl, fun i hi => ?_, fun i hi => ?_⟩
    · show (l'.set j q)[i]? = _
      by_cases he : j = i
      · subst he
        rw [List.getElem?_set_self (by omega), List.getElem?_map, hs, hp]
        show _ = some (Oj p q p)
        unfold Oj
        rw [if_pos rfl]
      · rw [List.getElem?_set_ne he]; exact h1 i (by omega)
    · show (l'.set j q)[i]? = _
      rw [List.getElem?_set_ne (by omega)]; exact h2 i (by omega)
  | false =>
    have hp : l.getD j 0 ≠ p := by rw [← hg]; exact of_decide_eq_false hd.symm
    refine ⟨hl, fun i hi => ?_, fun i hi => h2 i (by omega)⟩
    show l'[i]? = _
    by_cases he : j = i
    · subst he
      rw [h2 j (Nat.le_refl _), List.getElem?_map, hs]
      show _ = some (Oj p q _)
      unfold Oj
      rw [if_neg hp]
    · exact h1 i (by omega)
theorem aV {s : List Int} (hn : s.length ≤ 10) {i k : Int} : ∀ (d j : Nat) (s' : List Int), s.length - j = d → s'.length = s.length → (∀ i', i' < j → s'[i']? = (s.map (Oj (s.getD k.toNat 0) (s.getD i.toNat 0)))[i']?) → (∀ i', j ≤ i' → s'[i']? = s[i']?) →
    Ac (fun K k' => G8.l1 K k' s i k s' (j : Int)) (s.map (Oj (s.getD k.toNat 0) (s.getD i.toNat 0)))
  | 0, j, s', hd, hl, h1, h2 => by
    refine Ac.succ (Ac.congr (fun K k' => ?_) (Ac.const _))
    rw [G8.l1, if_neg (by omega), Xu hl h1 (by omega)]
  | d + 1, j, s', hd, hl, h1, h2 => by
    obtain ⟨g1, g2, g3⟩ := Yw hl (show j < s.length by omega) h1 h2 _ rfl
    have ih := aV hn d (j + 1) _ (by omega) g1 g2 g3
    refine Ac.succ (Ac.congr (fun K k' => ?_) ih)
    rw [G8.l1, if_pos (by omega), if_pos (by omega), Int.toNat_natCast, Cc (by omega)]
    by_cases hc : s'.getD j 0 = s.getD k.toNat 0
    · rw [if_pos hc, decide_eq_true hc]; rfl
    · rw [if_neg hc, decide_eq_false hc]; rfl
theorem union {s : List Int} (hn : s.length ≤ 10) {i k : Nat} (hi : i < s.length) (hk : k < s.length) : Ab (fun K => G8.f K s (i : Int) (k : Int)) (s.map (Oj (s.getD k 0) (s.getD i 0))) := by
  refine Ab.congr (fun K => ?_) (aV hn (i := (i : Int)) (k := (k : Int)) s.length 0 s rfl rfl (fun i' h => by omega) (fun _ _ => rfl)).Ib
  rw [G8.f, if_pos (by omega), if_pos (by omega)]
  rfl
section
variable {xs : List Al} (hn : xs.length ≤ 10) (cs : Int)
include hn
theorem Ym {o : List Int} (ho : o.length = xs.length) {a c e : Nat} (ha : a < 2 * xs.length) {R : List Int} {p q : Int} (hp : p = if o.getD e 0 > o.getD c 0 then o.getD e 0 else o.getD c 0) (hq : q = if o.getD e 0 < o.getD c 0 then o.getD e 0 else o.getD c 0)
    (hR : Ac (fun K k => Ch.l10 K k xs cs (o.map (Oj p q)) ((a + 1 : Nat) : Int)) R) : ∀ (d j : Nat) (o' : List Int), o.length - j = d → o'.length = o.length → (∀ i, i < j → o'[i]? = (o.map (Oj p q))[i]?) → (∀ i, j ≤ i → o'[i]? = o[i]?) →
    Ac (fun K k => Ch.l13 K k xs cs o (a : Int) (c : Int) (e : Int) o' (j : Int)) R
  | 0, j, o', hd, hl, h1, h2 => by
    refine Ac.succ (Ac.congr (fun K k => ?_) hR)
    rw [Ch.l13, if_neg (by omega), Xu hl h1 (by omega), Cc (by omega)]
  | d + 1, j, o', hd, hl, h1, h2 => by
    obtain ⟨g1, g2, g3⟩ := Yw hl (show j < o.length by omega) h1 h2 _ rfl
    have ih := Ym ho ha hp hq hR d (j + 1) _ (by omega) g1 g2 g3
    refine Ac.succ (Ac.congr (fun K k => ?_) ih)
    rw [Ch.l13, if_pos (by omega), if_pos (by omega), Int.toNat_natCast, Int.toNat_natCast, Int.toNat_natCast, Cc (by omega), ← hp, ← hq]
    by_cases hc : o'.getD j 0 = p
    · rw [if_pos hc, decide_eq_true hc]; rfl
    · rw [if_neg hc, decide_eq_false hc]; rfl
theorem aU {R : List Int} (hR : Ac (fun K k => Ch.l10 K k xs cs (upto xs.length) 0) R) : ∀ (d c : Nat), xs.length - c = d → c ≤ xs.length → Ac (fun K k => Ch.l1 K k xs cs (upto c) (c : Int)) R
  | 0, c, hd, hc => by
    obtain rfl : c = xs.length := by omega
    refine Ac.succ (Ac.congr (fun K k => ?_) hR)
    rw [Ch.l1, if_neg (by omega)]
  | d + 1, c, hd, hc => by
    refine Ac.succ (Ac.congr (fun K k => ?_) (aU hR d (c + 1) (by omega) (by omega)))
    rw [Ch.l1, if_pos (by omega), if_pos (by rw [Pw]; omega), Cc (by omega), Xp]
theorem Uy : ∀ (d c : Nat), xs.length - c = d → c ≤ xs.length → Ac (fun K k => Fz.l1 K k (xs.length : Int) (upto c) (c : Int)) (upto xs.length)
  | 0, c, hd, hc => by
    obtain rfl : c = xs.length := by omega
    refine Ac.succ (Ac.congr (fun K k => ?_) (Ac.const _))
    rw [Fz.l1, if_neg (by omega)]
  | d + 1, c, hd, hc => by
    refine Ac.succ (Ac.congr (fun K k => ?_) (Uy d (c + 1) (by omega) (by omega)))
    rw [Fz.l1, if_pos (by omega), if_pos (by rw [Pw]; omega), Cc (by omega), Xp]
variable (hs : Sz xs) {f t : List Fv} (hg : Good xs f t)
include hs hg
theorem Wz : ∀ (d a : Nat) (s o : List Int), 2 * xs.length - a = d → a ≤ 2 * xs.length → s.length = xs.length → Pf xs.length s o → Vk xs.length o →
    ∃ s' o', s'.length = xs.length ∧ Pf xs.length s' o' ∧ Vk xs.length o' ∧ Ac (fun K k => Ch.l10 K k xs cs o (a : Int)) o' ∧ ∀ R, Ab (fun K => Cz.f K s') R → Ac (fun K k => C9.l1 K k f t s (a : Int)) R
  | 0, a, s, o, hd, ha, hsl, hsp, hl => by
    refine ⟨s, o, hsl, hsp, hl, Ac.succ (Ac.congr (fun K k => ?_) (Ac.const _)), fun R hR => Ac.succ (Ac.congr (fun K k => ?_) hR.two)⟩
    · rw [Ch.l10, H8 (by omega) (by omega), if_neg (by omega)]
    · rw [C9.l1, if_neg (by rw [hg.qB]; omega)]
      cases Cz.f K s <;> rfl
  | d + 1, a, s, o, hd, ha, hsl, hsp, hl => by
    have hal : a < 2 * xs.length := by omega
    obtain ⟨q1, h1, b1, e1⟩ := hg.wS a hal
    obtain ⟨q2, h2, b2, e2⟩ := hg.fall a hal
    have p1 := hg.place hn hs h1 e1 b1 cs
    have p2 := hg.place hn hs h2 e2 b2 cs
    have hc : q1 / 4 < xs.length := by omega
    have he : q2 / 4 < xs.length := by omega
    obtain ⟨p, hp⟩ : ∃ p, p = if o.getD (q2 / 4) 0 > o.getD (q1 / 4) 0 then o.getD (q2 / 4) 0 else o.getD (q1 / 4) 0 := ⟨_, rfl⟩
    obtain ⟨q, hq⟩ : ∃ q, q = if o.getD (q2 / 4) 0 < o.getD (q1 / 4) 0 then o.getD (q2 / 4) 0 else o.getD (q1 / 4) 0 := ⟨_, rfl⟩
    have hpq : (p = o.getD (q1 / 4) 0 ∧ q = o.getD (q2 / 4) 0) ∨ (p = o.getD (q2 / 4) 0 ∧ q = o.getD (q1 / 4) 0) := by
      by_cases h3 : o.getD (q2 / 4) 0 > o.getD (q1 / 4) 0
      · rw [if_pos h3] at hp; rw [if_neg (by omega)] at hq; exact .inr ⟨hp, hq⟩
      · rw [if_neg h3] at hp
        by_cases h4 : o.getD (q2 / 4) 0 < o.getD (q1 / 4) 0
        · rw [if_pos h4] at hq; exact .inl ⟨hp, hq⟩
        · rw [if_neg h4] at hq; exact .inl ⟨hp, by omega⟩
    have hle : q ≤ p := by rw [hp, hq]; split <;> split <;> omega
    obtain ⟨s', o', k1, k2, k3, k4, k5⟩ := Wz d (a + 1) (s.map (Oj (s.getD (q1 / 4) 0) (s.getD (q2 / 4) 0))) (o.map (Oj p q)) (by omega) (by omega) (by rw [List.length_map]; exact hsl) (hsp.join hsl hl.len hc he hpq) (hl.join hc he hpq hle)
    refine ⟨s', o', k1, k2, k3, ?_, fun R hR => ?_⟩
    · have h13 := Ym hn cs hl.len hal hp hq k4 o.length 0 o (by omega) rfl (fun i h => by omega) (fun _ _ => rfl)
      refine Ac.succ (Ac.congr (fun K k => ?_) (Ac.Ed (G := fun K k c _ => Ed (Ck.f K xs cs (a : Int) false) (fun e _ => if 0 ≤ c ∧ c < (o.length : Int) then (if 0 ≤ e ∧ e < (o.length : Int) then Ch.l13 K k xs cs o (a : Int) c e o 0 else none) else none)) p1.two (Ac.Ed (G := fun K k e _ => if 0 ≤ ((q1 / 4 : Nat) : Int) ∧ ((q1 / 4 : Nat) : Int) < (o.length : Int) then (if 0 ≤ e ∧ e < (o.length : Int) then Ch.l13 K k xs cs o (a : Int) ((q1 / 4 : Nat) : Int) e o 0 else none) else none) p2.two (Ac.pos (by rw [hl.len]; omega) (Ac.pos (by rw [hl.len]; omega) h13)))))
      rw [Ch.l10, H8 (by omega) (by omega), if_pos (by omega)]
    · have hr := k5 R hR
      obtain ⟨_, _, g1⟩ := hg.jR q2 h2 b2
      obtain ⟨_, _, g2⟩ := hg.tin q1 h1 b1
      rw [e2, Int.toNat_natCast] at g1
      rw [e1, Int.toNat_natCast] at g2
      have hu := union (s := s) (by omega) (i := q2 / 4) (k := q1 / 4) (by omega) (by omega)
      refine Ac.succ (Ac.congr (fun K k => ?_) (Ac.bind (G := fun K k t69 => if t69.length = s.length then C9.l1 K k f t t69 ((a + 1 : Nat) : Int) else none) hu.two (Ac.pos (by rw [List.length_map]) hr)))
      rw [C9.l1, if_pos (by rw [hg.qB]; omega), if_pos (by rw [hg.qB]; omega), Fe, if_pos (by rw [hg.Tp]; omega), Fe, Int.toNat_natCast, List.getD_eq_getElem?_getD, g1, List.getD_eq_getElem?_getD, g2, Cc (by omega)]
      rfl
end
end Go.Proofs.YtkmeepgpmppibaaGreatDoor
