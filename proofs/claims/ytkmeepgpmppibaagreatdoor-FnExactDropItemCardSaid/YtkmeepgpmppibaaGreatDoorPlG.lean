/-
  The parts: both ways of joining crossings keep the same parts; how many there are is counted alike.
-/
import Derived.Test.YtkmeepgpmppibaaGreatDoorPlF
set_option linter.unusedVariables false
set_option linter.unusedSimpArgs false
set_option linter.unusedSectionVars false
namespace Go.Proofs.YtkmeepgpmppibaaGreatDoor
open Go.RowKit
def isFirst (l : List Int) (i : Nat) : Bool := (List.range i).all fun j => l.getD j 0 != l.getD i 0
theorem isFirst_iff {l : List Int} {i : Nat} : isFirst l i = true ↔ ∀ j, j < i → l.getD j 0 ≠ l.getD i 0 := by
  unfold isFirst
  rw [List.all_eq_true]
  constructor
  · intro h j hj
    simpa using h j (List.mem_range.2 hj)
  · intro h j hj
    simpa using h j (List.mem_range.1 hj)
def firstN (l : List Int) : Nat → Nat
  | 0 => 0
  | i + 1 => firstN l i + (if isFirst l i = true then 1 else 0)
def fixN (l : List Int) : Nat → Nat
  | 0 => 0
  | i + 1 => fixN l i + (if l.getD i 0 = (i : Int) then 1 else 0)
theorem firstN_le (l : List Int) : ∀ i, firstN l i ≤ i
  | 0 => Nat.le_refl _
  | i + 1 => by
    have := firstN_le l i
    rw [firstN]
    split <;> omega
theorem fixN_le (l : List Int) : ∀ i, fixN l i ≤ i
  | 0 => Nat.le_refl _
  | i + 1 => by
    have := fixN_le l i
    rw [fixN]
    split <;> omega
def SameParts (n : Nat) (s o : List Int) : Prop := ∀ i j, i < n → j < n → (s.getD i 0 = s.getD j 0 ↔ o.getD i 0 = o.getD j 0)
theorem firstN_same {n : Nat} {s o : List Int} (h : SameParts n s o) : ∀ i, i ≤ n → firstN s i = firstN o i
  | 0, _ => rfl
  | i + 1, hi => by
    rw [firstN, firstN, firstN_same h i (by omega)]
    have : isFirst s i = isFirst o i := by
      rw [Bool.eq_iff_iff, isFirst_iff, isFirst_iff]
      constructor
      · intro h1 j hj e
        exact h1 j hj ((h j i (by omega) (by omega)).2 e)
      · intro h1 j hj e
        exact h1 j hj ((h j i (by omega) (by omega)).1 e)
    rw [this]
structure Least (n : Nat) (o : List Int) : Prop where
  len : o.length = n
  low : ∀ i, i < n → 0 ≤ o.getD i 0 ∧ o.getD i 0 ≤ (i : Int)
  root : ∀ i, i < n → o.getD (o.getD i 0).toNat 0 = o.getD i 0
theorem fixN_first {n : Nat} {o : List Int} (h : Least n o) : ∀ i, i ≤ n → fixN o i = firstN o i
  | 0, _ => rfl
  | i + 1, hi => by
    rw [firstN, fixN, fixN_first h i (by omega)]
    congr 1
    have h1 := h.low i (by omega)
    have h2 := h.root i (by omega)
    have : isFirst o i = true ↔ o.getD i 0 = (i : Int) := by
      rw [isFirst_iff]
      constructor
      · intro hf
        rcases Int.lt_or_eq_of_le h1.2 with hlt | he
        · exact absurd h2 (hf _ (by omega))
        · exact he
      · intro he j hj e
        have := (h.low j (by omega)).2
        rw [e, he] at this
        omega
    by_cases hc : o.getD i 0 = (i : Int)
    · rw [if_pos hc, if_pos (this.2 hc)]
    · rw [if_neg hc, if_neg (fun h => hc (this.1 h))]
def repl (p q v : Int) : Int := if v = p then q else v
theorem getD_map {f : Int → Int} {l : List Int} {i : Nat} (h : i < l.length) : (l.map f).getD i 0 = f (l.getD i 0) := by
  rw [List.getD_eq_getElem?_getD, List.getElem?_map, getD_some (d := 0) h]; rfl
theorem repl_eq {p q u v : Int} : repl p q u = repl p q v ↔ (u = v ∨ ((u = p ∨ u = q) ∧ (v = p ∨ v = q))) := by
  unfold repl
  grind
theorem SameParts.join {n : Nat} {s o : List Int} (h : SameParts n s o) (hs : s.length = n) (ho : o.length = n) {c e : Nat} (hc : c < n) (he : e < n) {p q : Int} (hpq : (p = o.getD c 0 ∧ q = o.getD e 0) ∨ (p = o.getD e 0 ∧ q = o.getD c 0)) :
    SameParts n (s.map (repl (s.getD c 0) (s.getD e 0))) (o.map (repl p q)) := by
  intro i j hi hj
  rw [getD_map (by omega), getD_map (by omega), getD_map (by omega), getD_map (by omega), repl_eq, repl_eq, h i j hi hj, h i c hi hc, h i e hi he, h j c hj hc, h j e hj he]
  rcases hpq with ⟨rfl, rfl⟩ | ⟨rfl, rfl⟩
  · exact Iff.rfl
  · constructor <;> intro h <;> rcases h with h | ⟨h1, h2⟩ <;> first | exact .inl h | exact .inr ⟨h1.symm, h2.symm⟩
theorem Least.join {n : Nat} {o : List Int} (h : Least n o) {c e : Nat} (hc : c < n) (he : e < n) {p q : Int} (hpq : (p = o.getD c 0 ∧ q = o.getD e 0) ∨ (p = o.getD e 0 ∧ q = o.getD c 0)) (hle : q ≤ p) : Least n (o.map (repl p q)) := by
  have hq : ∃ d, d < n ∧ q = o.getD d 0 := by rcases hpq with ⟨_, h⟩ | ⟨_, h⟩ <;> exact ⟨_, by assumption, h⟩
  obtain ⟨d, hd, hqd⟩ := hq
  have hqr : o.getD q.toNat 0 = q := by rw [hqd]; exact h.root d hd
  have hql := h.low d hd
  have hfl : ∀ i, i < n → (o.map (repl p q)).getD i 0 = repl p q (o.getD i 0) := fun i hi => getD_map (by rw [h.len]; exact hi)
  refine ⟨by rw [List.length_map]; exact h.len, fun i hi => ?_, fun i hi => ?_⟩
  · have hl := h.low i hi
    rw [hfl i hi]
    unfold repl
    split <;> omega
  · have hl := h.low i hi
    have hr := h.root i hi
    have hv : (o.getD i 0).toNat < n := by omega
    rw [hfl i hi]
    by_cases hp : o.getD i 0 = p
    · have e1 : repl p q (o.getD i 0) = q := by unfold repl; rw [if_pos hp]
      rw [e1, hfl _ (by omega), hqr]
      unfold repl
      split <;> rfl
    · have e1 : repl p q (o.getD i 0) = o.getD i 0 := by unfold repl; rw [if_neg hp]
      rw [e1, hfl _ hv, hr, e1]
def upto (n : Nat) : List Int := (List.range n).map fun i : Nat => (i : Int)
theorem upto_length (n : Nat) : (upto n).length = n := by simp [upto]
theorem upto_get {n i : Nat} (h : i < n) : (upto n).getD i 0 = (i : Int) := by
  unfold upto
  rw [List.getD_eq_getElem?_getD, List.getElem?_map, List.getElem?_range h]; rfl
theorem upto_succ (n : Nat) : upto (n + 1) = upto n ++ [(n : Int)] := by unfold upto; rw [List.range_succ, List.map_append]; rfl
theorem upto_least (n : Nat) : Least n (upto n) := ⟨upto_length n, fun i hi => by rw [upto_get hi]; omega, fun i hi => by rw [upto_get hi, Int.toNat_natCast, upto_get hi]⟩
theorem list_half {l l' : List Int} {f : Int → Int} {j : Nat} (hl : l'.length = l.length) (h1 : ∀ i, i < j → l'[i]? = (l.map f)[i]?) (hj : l.length ≤ j) : l' = l.map f := by
  apply List.ext_getElem?
  intro i
  by_cases hi : i < j
  · exact h1 i hi
  · rw [List.getElem?_eq_none (by omega), List.getElem?_eq_none (by rw [List.length_map]; omega)]
theorem half_step {l l' : List Int} {p q : Int} {j : Nat} (hl : l'.length = l.length) (hj : j < l.length) (h1 : ∀ i, i < j → l'[i]? = (l.map (repl p q))[i]?) (h2 : ∀ i, j ≤ i → l'[i]? = l[i]?) (d : Bool) (hd : d = decide (l'.getD j 0 = p)) :
    ((bif d then l'.set j q else l').length = l.length) ∧ (∀ i, i < j + 1 → (bif d then l'.set j q else l')[i]? = (l.map (repl p q))[i]?) ∧ (∀ i, j + 1 ≤ i → (bif d then l'.set j q else l')[i]? = l[i]?) := by
  have hg : l'.getD j 0 = l.getD j 0 := by rw [List.getD_eq_getElem?_getD, h2 j (Nat.le_refl _), ← List.getD_eq_getElem?_getD]
  have hs := getD_some (d := 0) hj
  cases d with
  | true =>
    have hp : l.getD j 0 = p := by rw [← hg]; exact of_decide_eq_true hd.symm
    refine ⟨by show (l'.set j q).length = _; rw [List.length_set]; exact hl, fun i hi => ?_, fun i hi => ?_⟩
    · show (l'.set j q)[i]? = _
      by_cases he : j = i
      · subst he
        rw [List.getElem?_set_self (by omega), List.getElem?_map, hs, hp]
        show _ = some (repl p q p)
        unfold repl
        rw [if_pos rfl]
      · rw [List.getElem?_set_ne he]; exact h1 i (by omega)
    · show (l'.set j q)[i]? = _
      rw [List.getElem?_set_ne (by omega)]; exact h2 i (by omega)
  | false =>
    have hp : l.getD j 0 ≠ p := by rw [← hg]; exact of_decide_eq_false hd.symm
    refine ⟨hl, fun i hi => ?_, fun i hi => h2 i (by omega)⟩
    show l'[i]? = _
    by_cases he : j = i
    · subst he
      rw [h2 j (Nat.le_refl _), List.getElem?_map, hs]
      show _ = some (repl p q _)
      unfold repl
      rw [if_neg hp]
    · exact h1 i (by omega)
theorem union_l1 {s : List Int} (hn : s.length ≤ 10) {i k : Int} : ∀ (d j : Nat) (s' : List Int), s.length - j = d → s'.length = s.length → (∀ i', i' < j → s'[i']? = (s.map (repl (s.getD k.toNat 0) (s.getD i.toNat 0)))[i']?) → (∀ i', j ≤ i' → s'[i']? = s[i']?) →
    Tends2 (fun K k' => impl_union.l1 K k' s i k s' (j : Int)) (s.map (repl (s.getD k.toNat 0) (s.getD i.toNat 0)))
  | 0, j, s', hd, hl, h1, h2 => by
    refine Tends2.succ (Tends2.congr (fun K k' => ?_) (Tends2.const _))
    rw [impl_union.l1, if_neg (by omega), list_half hl h1 (by omega)]
  | d + 1, j, s', hd, hl, h1, h2 => by
    obtain ⟨g1, g2, g3⟩ := half_step hl (show j < s.length by omega) h1 h2 _ rfl
    have ih := union_l1 hn d (j + 1) _ (by omega) g1 g2 g3
    refine Tends2.succ (Tends2.congr (fun K k' => ?_) ih)
    rw [impl_union.l1, if_pos (by omega), if_pos (by omega), Int.toNat_natCast, w64_succ (by omega)]
    by_cases hc : s'.getD j 0 = s.getD k.toNat 0
    · rw [if_pos hc, decide_eq_true hc]; rfl
    · rw [if_neg hc, decide_eq_false hc]; rfl
theorem union {s : List Int} (hn : s.length ≤ 10) {i k : Nat} (hi : i < s.length) (hk : k < s.length) : Tends (fun K => impl_union.f K s (i : Int) (k : Int)) (s.map (repl (s.getD k 0) (s.getD i 0))) := by
  refine Tends.congr (fun K => ?_) (union_l1 hn (i := (i : Int)) (k := (k : Int)) s.length 0 s rfl rfl (fun i' h => by omega) (fun _ _ => rfl)).diag
  rw [impl_union.f, if_pos (by omega), if_pos (by omega)]
  rfl
section
variable {xs : List GCrossing} (hn : xs.length ≤ 10) (cs : Int)
include hn
theorem parts_l13 {o : List Int} (ho : o.length = xs.length) {a c e : Nat} (ha : a < 2 * xs.length) {R : List Int} {p q : Int} (hp : p = if o.getD e 0 > o.getD c 0 then o.getD e 0 else o.getD c 0) (hq : q = if o.getD e 0 < o.getD c 0 then o.getD e 0 else o.getD c 0)
    (hR : Tends2 (fun K k => spec_l25Parts.l10 K k xs cs (o.map (repl p q)) ((a + 1 : Nat) : Int)) R) : ∀ (d j : Nat) (o' : List Int), o.length - j = d → o'.length = o.length → (∀ i, i < j → o'[i]? = (o.map (repl p q))[i]?) → (∀ i, j ≤ i → o'[i]? = o[i]?) →
    Tends2 (fun K k => spec_l25Parts.l13 K k xs cs o (a : Int) (c : Int) (e : Int) o' (j : Int)) R
  | 0, j, o', hd, hl, h1, h2 => by
    refine Tends2.succ (Tends2.congr (fun K k => ?_) hR)
    rw [spec_l25Parts.l13, if_neg (by omega), list_half hl h1 (by omega), w64_succ (by omega)]
  | d + 1, j, o', hd, hl, h1, h2 => by
    obtain ⟨g1, g2, g3⟩ := half_step hl (show j < o.length by omega) h1 h2 _ rfl
    have ih := parts_l13 ho ha hp hq hR d (j + 1) _ (by omega) g1 g2 g3
    refine Tends2.succ (Tends2.congr (fun K k => ?_) ih)
    rw [spec_l25Parts.l13, if_pos (by omega), if_pos (by omega), Int.toNat_natCast, Int.toNat_natCast, Int.toNat_natCast, w64_succ (by omega), ← hp, ← hq]
    by_cases hc : o'.getD j 0 = p
    · rw [if_pos hc, decide_eq_true hc]; rfl
    · rw [if_neg hc, decide_eq_false hc]; rfl
theorem parts_l1 {R : List Int} (hR : Tends2 (fun K k => spec_l25Parts.l10 K k xs cs (upto xs.length) 0) R) : ∀ (d c : Nat), xs.length - c = d → c ≤ xs.length → Tends2 (fun K k => spec_l25Parts.l1 K k xs cs (upto c) (c : Int)) R
  | 0, c, hd, hc => by
    obtain rfl : c = xs.length := by omega
    refine Tends2.succ (Tends2.congr (fun K k => ?_) hR)
    rw [spec_l25Parts.l1, if_neg (by omega)]
  | d + 1, c, hd, hc => by
    refine Tends2.succ (Tends2.congr (fun K k => ?_) (parts_l1 hR d (c + 1) (by omega) (by omega)))
    rw [spec_l25Parts.l1, if_pos (by omega), if_pos (by rw [upto_length]; omega), w64_succ (by omega), upto_succ]
theorem counting_l1 : ∀ (d c : Nat), xs.length - c = d → c ≤ xs.length → Tends2 (fun K k => impl_counting.l1 K k (xs.length : Int) (upto c) (c : Int)) (upto xs.length)
  | 0, c, hd, hc => by
    obtain rfl : c = xs.length := by omega
    refine Tends2.succ (Tends2.congr (fun K k => ?_) (Tends2.const _))
    rw [impl_counting.l1, if_neg (by omega)]
  | d + 1, c, hd, hc => by
    refine Tends2.succ (Tends2.congr (fun K k => ?_) (counting_l1 d (c + 1) (by omega) (by omega)))
    rw [impl_counting.l1, if_pos (by omega), if_pos (by rw [upto_length]; omega), w64_succ (by omega), upto_succ]
variable (hs : Signs xs) {f t : List GEnd} (hg : Good xs f t)
include hs hg
theorem parts_both : ∀ (d a : Nat) (s o : List Int), 2 * xs.length - a = d → a ≤ 2 * xs.length → s.length = xs.length → SameParts xs.length s o → Least xs.length o →
    ∃ s' o', s'.length = xs.length ∧ SameParts xs.length s' o' ∧ Least xs.length o' ∧ Tends2 (fun K k => spec_l25Parts.l10 K k xs cs o (a : Int)) o' ∧ ∀ R, Tends (fun K => impl_numbered.f K s') R → Tends2 (fun K k => impl_Diagram_parts.l1 K k f t s (a : Int)) R
  | 0, a, s, o, hd, ha, hsl, hsp, hl => by
    refine ⟨s, o, hsl, hsp, hl, Tends2.succ (Tends2.congr (fun K k => ?_) (Tends2.const _)), fun R hR => Tends2.succ (Tends2.congr (fun K k => ?_) hR.two)⟩
    · rw [spec_l25Parts.l10, w64_id (by omega) (by omega), if_neg (by omega)]
    · rw [impl_Diagram_parts.l1, if_neg (by rw [hg.flen]; omega)]
      cases impl_numbered.f K s <;> rfl
  | d + 1, a, s, o, hd, ha, hsl, hsp, hl => by
    have hal : a < 2 * xs.length := by omega
    obtain ⟨q1, h1, b1, e1⟩ := hg.tall a hal
    obtain ⟨q2, h2, b2, e2⟩ := hg.fall a hal
    have p1 := hg.place hn hs h1 e1 b1 cs
    have p2 := hg.place hn hs h2 e2 b2 cs
    have hc : q1 / 4 < xs.length := by omega
    have he : q2 / 4 < xs.length := by omega
    obtain ⟨p, hp⟩ : ∃ p, p = if o.getD (q2 / 4) 0 > o.getD (q1 / 4) 0 then o.getD (q2 / 4) 0 else o.getD (q1 / 4) 0 := ⟨_, rfl⟩
    obtain ⟨q, hq⟩ : ∃ q, q = if o.getD (q2 / 4) 0 < o.getD (q1 / 4) 0 then o.getD (q2 / 4) 0 else o.getD (q1 / 4) 0 := ⟨_, rfl⟩
    have hpq : (p = o.getD (q1 / 4) 0 ∧ q = o.getD (q2 / 4) 0) ∨ (p = o.getD (q2 / 4) 0 ∧ q = o.getD (q1 / 4) 0) := by
      by_cases h3 : o.getD (q2 / 4) 0 > o.getD (q1 / 4) 0
      · rw [if_pos h3] at hp; rw [if_neg (by omega)] at hq; exact .inr ⟨hp, hq⟩
      · rw [if_neg h3] at hp
        by_cases h4 : o.getD (q2 / 4) 0 < o.getD (q1 / 4) 0
        · rw [if_pos h4] at hq; exact .inl ⟨hp, hq⟩
        · rw [if_neg h4] at hq; exact .inl ⟨hp, by omega⟩
    have hle : q ≤ p := by rw [hp, hq]; split <;> split <;> omega
    obtain ⟨s', o', k1, k2, k3, k4, k5⟩ := parts_both d (a + 1) (s.map (repl (s.getD (q1 / 4) 0) (s.getD (q2 / 4) 0))) (o.map (repl p q)) (by omega) (by omega) (by rw [List.length_map]; exact hsl) (hsp.join hsl hl.len hc he hpq) (hl.join hc he hpq hle)
    refine ⟨s', o', k1, k2, k3, ?_, fun R hR => ?_⟩
    · have h13 := parts_l13 hn cs hl.len hal hp hq k4 o.length 0 o (by omega) rfl (fun i h => by omega) (fun _ _ => rfl)
      refine Tends2.succ (Tends2.congr (fun K k => ?_) (Tends2.bind2 (G := fun K k c _ => bind2 (spec_l25Place.f K xs cs (a : Int) false) (fun e _ => if 0 ≤ c ∧ c < (o.length : Int) then (if 0 ≤ e ∧ e < (o.length : Int) then spec_l25Parts.l13 K k xs cs o (a : Int) c e o 0 else none) else none)) p1.two (Tends2.bind2 (G := fun K k e _ => if 0 ≤ ((q1 / 4 : Nat) : Int) ∧ ((q1 / 4 : Nat) : Int) < (o.length : Int) then (if 0 ≤ e ∧ e < (o.length : Int) then spec_l25Parts.l13 K k xs cs o (a : Int) ((q1 / 4 : Nat) : Int) e o 0 else none) else none) p2.two (Tends2.pos (by rw [hl.len]; omega) (Tends2.pos (by rw [hl.len]; omega) h13)))))
      rw [spec_l25Parts.l10, w64_id (by omega) (by omega), if_pos (by omega)]
    · have hr := k5 R hR
      obtain ⟨_, _, g1⟩ := hg.fout q2 h2 b2
      obtain ⟨_, _, g2⟩ := hg.tin q1 h1 b1
      rw [e2, Int.toNat_natCast] at g1
      rw [e1, Int.toNat_natCast] at g2
      have hu := union (s := s) (by omega) (i := q2 / 4) (k := q1 / 4) (by omega) (by omega)
      refine Tends2.succ (Tends2.congr (fun K k => ?_) (Tends2.bind (G := fun K k t69 => if t69.length = s.length then impl_Diagram_parts.l1 K k f t t69 ((a + 1 : Nat) : Int) else none) hu.two (Tends2.pos (by rw [List.length_map]) hr)))
      rw [impl_Diagram_parts.l1, if_pos (by rw [hg.flen]; omega), if_pos (by rw [hg.flen]; omega), bnd_eq, if_pos (by rw [hg.tlen]; omega), bnd_eq, Int.toNat_natCast, List.getD_eq_getElem?_getD, g1, List.getD_eq_getElem?_getD, g2, w64_succ (by omega)]
      rfl
end
end Go.Proofs.YtkmeepgpmppibaaGreatDoor
