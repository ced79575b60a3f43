/-
  The signs of edges: both sides leave the same.
-/
import Derived.Test.YtbjfinndngafoaaGreatPlT12
set_option linter.unusedVariables false
set_option linter.unusedSimpArgs false
set_option linter.unusedSectionVars false
namespace Go.Proofs.YtbjfinndngafoaaGreat
open Go.RowKit
theorem setB {l : List Bool} {i j : Nat} {v : Bool} (hi : i < l.length) : (l.set i v).getD j false = if i = j then v else l.getD j false := by
  rw [List.getD_eq_getElem?_getD]
  by_cases h : i = j
  · subst h; rw [List.getElem?_set_self hi, if_pos rfl]; rfl
  · rw [List.getElem?_set_ne h, if_neg h, List.getD_eq_getElem?_getD]
theorem list_ext0 {l l' : List Int} {n : Nat} (h : l.length = n) (h' : l'.length = n) (e : ∀ i, i < n → l.getD i 0 = l'.getD i 0) : l = l' := by
  apply List.ext_getElem?
  intro i
  by_cases hi : i < n
  · rw [getD_some (d := 0) (by omega : i < l.length), getD_some (d := 0) (by omega : i < l'.length), e i hi]
  · rw [List.getElem?_eq_none (by omega), List.getElem?_eq_none (by omega)]
structure Out (N : Nat) (C sg : List Int) (rv : List Bool) (rev : List (Int × Bool)) : Prop where
  len : sg.length = N
  rlen : rv.length = N
  sat : ∀ i j, i < N → j < N → C.getD i 0 = C.getD j 0 → sg.getD i 0 ≠ 0 → sg.getD j 0 ≠ 0
  val : ∀ j, j < N → sg.getD j 0 = 0 ∨ sg.getD j 0 = 1 ∨ sg.getD j 0 = -1
  yes : ∀ j, j < N → sg.getD j 0 ≠ 0 → rv.getD j false = (gget rev (C.getD j 0)).getD false
  no : ∀ j, j < N → sg.getD j 0 = 0 → gget rev (C.getD j 0) = none
section
variable {ts : List (List GFace)} (hv : Val ts) {s : List Int} (hP : Parted (6 * ts.length) (JE ts) s)
include hv hP
theorem CN_nbr : ∀ i f j fl, i < 6 * ts.length → f < 4 → nbr ts i f = some (j, fl) → j < 6 * ts.length ∧ (CN (6 * ts.length) s).getD j 0 = (CN (6 * ts.length) s).getD i 0 := fun i f j fl hi hf h => by
  have hm := nbr_JE hv hi hf h
  have hj := (hP.inn _ hm).2
  exact ⟨hj, ((CN_num _ s).same j i hj hi (hP.one _ hm).symm)⟩
theorem l81_t {sg : List Int} {bad : Bool} {i0 : Nat} {R : List (List Int)} {q : List Nat} (hq : ∀ j, j ∈ q → j < 6 * ts.length) (hql : q.length ≤ 100) (hi0 : i0 < 6 * ts.length) {rv0 : List Bool} : ∀ (d t : Nat) (rv : List Bool), q.length - t = d → t ≤ q.length → rv.length = 6 * ts.length → (∀ j, rv.getD j false = if j ∈ q.take t then bad else rv0.getD j false) →
    ∃ rv', rv'.length = 6 * ts.length ∧ (∀ j, rv'.getD j false = if j ∈ q then bad else rv0.getD j false) ∧ (Tends2 (fun K k => spec_l08Signs.l1 K k ts (ts.length : Int) sg rv' ((i0 + 1 : Nat) : Int)) R → Tends2 (fun K k => spec_l08Signs.l81 K k ts (ts.length : Int) (i0 : Int) sg (ints q) bad rv (t : Int)) R)
  | 0, t, rv, hd, ht, hl, hr => by
    have h8 := hv.le
    obtain rfl : t = q.length := by omega
    refine ⟨rv, hl, by rw [List.take_length] at hr; exact hr, fun hR => Tends2.step (fun K k => ?_) hR⟩
    rw [spec_l08Signs.l81, if_neg (by rw [ints_len]; omega), w64_succ (by omega)]
  | d + 1, t, rv, hd, ht, hl, hr => by
    have hlt : t < q.length := by omega
    have hm : q.getD t 0 ∈ q := by rw [List.getD_eq_getElem?_getD, List.getElem?_eq_getElem hlt]; exact List.getElem_mem hlt
    have hb := hq _ hm
    obtain ⟨rv', h1, h2, h3⟩ := l81_t hq hql hi0 (rv0 := rv0) d (t + 1) (rv.set (q.getD t 0) bad) (by omega) (by omega) (by rw [List.length_set]; exact hl) (fun j => by
      rw [setB (by omega), hr j, List.take_add_one, List.getElem?_eq_getElem hlt]
      simp only [Option.toList_some, List.mem_append, List.mem_singleton]
      have e : q[t] = q.getD t 0 := by rw [List.getD_eq_getElem?_getD, List.getElem?_eq_getElem hlt]; rfl
      rw [e]
      by_cases h4 : q.getD t 0 = j
      · rw [if_pos h4, if_pos (.inr h4.symm)]
      · rw [if_neg h4]
        by_cases h5 : j ∈ q.take t
        · rw [if_pos h5, if_pos (.inl h5)]
        · rw [if_neg h5, if_neg (by rintro (h6 | h6); exact h5 h6; exact h4 h6.symm)])
    refine ⟨rv', h1, h2, fun hR => Tends2.step (fun K k => ?_) (h3 hR)⟩
    rw [spec_l08Signs.l81, if_pos (by rw [ints_len]; omega), if_pos (by rw [ints_len]; omega), Int.toNat_natCast, ints_get hlt, Int.toNat_natCast, if_pos (by omega), w64_succ (by omega)]
theorem outer : ∀ (d x : Nat) (sg : List Int) (rv : List Bool) (rev : List (Int × Bool)), 6 * ts.length - x = d → x ≤ 6 * ts.length → Out (6 * ts.length) (CN (6 * ts.length) s) sg rv rev → (∀ j, j < x → sg.getD j 0 ≠ 0) →
    ∃ sg' rv' rev', Out (6 * ts.length) (CN (6 * ts.length) s) sg' rv' rev' ∧ (∀ j, j < 6 * ts.length → sg'.getD j 0 ≠ 0) ∧
      (∀ R, Tends2 (fun K k => spec_l08Signs.l82 K k (ts.length : Int) sg' rv' [] 0) R → Tends2 (fun K k => spec_l08Signs.l1 K k ts (ts.length : Int) sg rv (x : Int)) R) ∧
      (∀ R, Tends2 (fun K k => impl_Triangulation_edgeSigns.l7 K k (CN (6 * ts.length) s) sg' rev' sg' 0) R → Tends2 (fun K k => impl_Triangulation_edgeSigns.l1 K k ts (ts.length : Int) (CN (6 * ts.length) s) sg rev (x : Int)) R)
  | 0, x, sg, rv, rev, hd, hx, h, hs => by
    have h8 := hv.le
    obtain rfl : x = 6 * ts.length := by omega
    have e6 : w64 (6 * (ts.length : Int)) = ((6 * ts.length : Nat) : Int) := w6' (c := 6) (by decide) (by omega)
    refine ⟨sg, rv, rev, h, hs, fun R hR => Tends2.step (fun K k => ?_) hR, fun R hR => Tends2.step (fun K k => ?_) hR⟩
    · rw [spec_l08Signs.l1, e6, if_neg (by omega)]
    · rw [impl_Triangulation_edgeSigns.l1, e6, if_neg (by omega)]
  | d + 1, x, sg, rv, rev, hd, hx, h, hs => by
    have h8 := hv.le
    have hlt : x < 6 * ts.length := by omega
    have e6 : w64 (6 * (ts.length : Int)) = ((6 * ts.length : Nat) : Int) := w6' (c := 6) (by decide) (by omega)
    have hl := h.len
    by_cases h0 : sg.getD x 0 = 0
    · have hC := CN_nbr hv hP
      have hCl := CN_len (6 * ts.length) s
      have hsr : Sr ts (6 * ts.length) (CN (6 * ts.length) s) sg x (sg.set x 1, [x], false) := by
        refine ⟨by rw [List.length_set]; exact hl, ⟨rfl, by show 0 < 1; decide⟩, fun j hj => ?_, by simp, fun j hj => ?_, fun j hj => ?_⟩
        · rw [List.mem_singleton.1 hj]; exact ⟨hlt, rfl⟩
        · show (sg.set x 1).getD j 0 ≠ 0 ↔ (j ∈ [x] ∨ _)
          rw [setD (by omega), List.mem_singleton]
          by_cases e : x = j
          · rw [if_pos e]; exact ⟨fun _ => .inl e.symm, fun _ => by decide⟩
          · rw [if_neg e]; exact ⟨fun h => .inr h, fun h => h.elim (fun e' => absurd e'.symm e) id⟩
        · show (sg.set x 1).getD j 0 = 0 ∨ _
          rw [setD (by omega)]
          by_cases e : x = j
          · rw [if_pos e]; exact .inr (.inl rfl)
          · rw [if_neg e]; exact h.val j hj
      obtain ⟨st', rev', k1, k2, k3, k4, k5⟩ := bfs hv hCl hC (rv := rv) (rev0 := rev) hlt (6 * ts.length) 0 (sg.set x 1, [x], false) rev (by omega) hsr (by show 0 ≤ 1; decide) (fun t ht => by omega) ⟨fun c' _ => rfl, h.no x hlt h0⟩
      have hxq : x ∈ st'.2.1 := by
        have := k1.head
        rw [← this.1, List.getD_eq_getElem?_getD, List.getElem?_eq_getElem this.2]; exact List.getElem_mem _
      -- the whole class is found
      have clos : ∀ i k f fl, f < 4 → i ∈ st'.2.1 → nbr ts i f = some (k, fl) → k ∈ st'.2.1 := fun i k f fl hf hi hn => by
        obtain ⟨t, ht, he⟩ := List.getElem_of_mem hi
        have hg : st'.2.1.getD t 0 = i := by rw [List.getD_eq_getElem?_getD, List.getElem?_eq_getElem ht, he]; rfl
        obtain ⟨hk, hkc⟩ := hC i f k fl (k1.inn i hi).1 hf hn
        rcases (k1.sgn k hk).1 (k2 t ht f hf k fl (by rw [hg]; exact hn)) with h5 | h5
        · exact h5
        · exact absurd h0 (h.sat k x hk hlt (hkc.trans (k1.inn i hi).2) h5)
      have hQ : ∀ p, p ∈ JE ts → (p.1 ∈ st'.2.1 ↔ p.2 ∈ st'.2.1) := fun p hp => by
        obtain ⟨hi, f, fl, hf, hn⟩ := JE_nbr hv (i := p.1) (j := p.2) hp
        constructor
        · exact fun h6 => clos p.1 p.2 f fl hf h6 hn
        · intro h6
          obtain ⟨f', fl', hf', hn'⟩ := nbr_symm hv hi hf hn
          exact clos p.2 p.1 f' fl' hf' h6 hn'
      have full : ∀ j, j < 6 * ts.length → (CN (6 * ts.length) s).getD j 0 = (CN (6 * ts.length) s).getD x 0 → j ∈ st'.2.1 := fun j hj he =>
        (hP.min (fun m => m ∈ st'.2.1) hQ j x hj hlt ((CN_num _ s).inj hj hlt he)).2 hxq
      obtain ⟨rv', r1, r2, r3⟩ := l81_t hv hP (sg := st'.1) (bad := st'.2.2) (i0 := x) (R := []) (q := st'.2.1) (fun j hj => (k1.inn j hj).1) (by have := k1.qlen; omega) hlt (rv0 := rv) st'.2.1.length 0 rv (by omega) (by omega) h.rlen (fun j => by simp)
      have ho : Out (6 * ts.length) (CN (6 * ts.length) s) st'.1 rv' rev' := by
        refine ⟨k1.len, r1, fun i j hi hj he hn => ?_, k1.val, fun j hj hn => ?_, fun j hj hz => ?_⟩
        · rcases (k1.sgn i hi).1 hn with h5 | h5
          · exact (k1.sgn j hj).2 (.inl (full j hj (he.symm.trans (k1.inn i h5).2)))
          · exact (k1.sgn j hj).2 (.inr (h.sat i j hi hj he h5))
        · rw [r2 j]
          by_cases h5 : j ∈ st'.2.1
          · rw [if_pos h5, (k1.inn j h5).2, k3.2]
            cases st'.2.2 <;> rfl
          · rw [if_neg h5]
            have h6 : sg.getD j 0 ≠ 0 := ((k1.sgn j hj).1 hn).resolve_left h5
            rw [h.yes j hj h6, k3.1 _ (fun e => h5 (full j hj e))]
        · have h5 : j ∉ st'.2.1 := fun e => (k1.sgn j hj).2 (.inl e) hz
          have h6 : sg.getD j 0 = 0 := Classical.byContradiction fun e => (k1.sgn j hj).2 (.inr e) hz
          rw [k3.1 _ (fun e => h5 (full j hj e))]
          exact h.no j hj h6
      obtain ⟨sg', rv'', rev'', o1, o2, o3, o4⟩ := outer d (x + 1) st'.1 rv' rev' (by omega) (by omega) ho (fun j hj => by
        by_cases e : j = x
        · subst e; exact (k1.sgn j hlt).2 (.inl hxq)
        · exact (k1.sgn j (by omega)).2 (.inr (hs j (by omega))))
      refine ⟨sg', rv'', rev'', o1, o2, fun R hR => ?_, fun R hR => ?_⟩
      · obtain ⟨rv3, u1, u2, u3⟩ := l81_t hv hP (sg := st'.1) (bad := st'.2.2) (i0 := x) (R := R) (q := st'.2.1) (fun j hj => (k1.inn j hj).1) (by have := k1.qlen; omega) hlt (rv0 := rv) st'.2.1.length 0 rv (by omega) (by omega) h.rlen (fun j => by simp)
        have e3 : rv3 = rv' := by
          apply List.ext_getElem?
          intro j
          by_cases hj : j < 6 * ts.length
          · rw [getD_some (d := false) (by omega : j < rv3.length), getD_some (d := false) (by omega : j < rv'.length), u2 j, r2 j]
          · rw [List.getElem?_eq_none (by omega), List.getElem?_eq_none (by omega)]
        rw [e3] at u3
        refine Tends2.step (fun K k => ?_) (k4 R (u3 (o3 R hR)))
        rw [spec_l08Signs.l1, e6, if_pos (by omega), if_pos (by omega), Int.toNat_natCast, if_pos h0]
        rfl
      · refine Tends2.step (fun K k => ?_) (k5 R (o4 R hR))
        rw [impl_Triangulation_edgeSigns.l1, e6, if_pos (by omega), if_pos (by omega), Int.toNat_natCast, if_pos h0]
        rfl
    · obtain ⟨sg', rv'', rev'', o1, o2, o3, o4⟩ := outer d (x + 1) sg rv rev (by omega) (by omega) h (fun j hj => by
        by_cases e : j = x
        · subst e; exact h0
        · exact hs j (by omega))
      refine ⟨sg', rv'', rev'', o1, o2, fun R hR => Tends2.step (fun K k => ?_) (o3 R hR), fun R hR => Tends2.step (fun K k => ?_) (o4 R hR)⟩
      · rw [spec_l08Signs.l1, e6, if_pos (by omega), if_pos (by omega), Int.toNat_natCast, if_neg h0, w64_succ (by omega)]
      · rw [impl_Triangulation_edgeSigns.l1, e6, if_pos (by omega), if_pos (by omega), Int.toNat_natCast, if_neg h0, w64_succ (by omega)]
def sgF (C sg : List Int) (rev : List (Int × Bool)) (i : Nat) : Int := if (gget rev (C.getD i 0)).getD false = true then 0 else sg.getD i 0
theorem l7_t {C sg : List Int} {rev : List (Int × Bool)} {N : Nat} (hN : N ≤ 100) (hl : sg.length = N) (hCl : C.length = N) : ∀ (d x : Nat) (o : List Int), N - x = d → x ≤ N → o.length = N → (∀ j, j < N → o.getD j 0 = if j < x then sgF C sg rev j else sg.getD j 0) →
    Tends2 (fun K k => impl_Triangulation_edgeSigns.l7 K k C sg rev o (x : Int)) ((List.range N).map (sgF C sg rev))
  | 0, x, o, hd, hx, ho, h => by
    obtain rfl : x = N := by omega
    have : o = (List.range x).map (sgF C sg rev) := list_ext0 ho (by simp) (fun i hi => by
      rw [h i hi, if_pos hi, List.getD_eq_getElem?_getD, List.getElem?_map, List.getElem?_range hi]; rfl)
    rw [← this]
    refine Tends2.of fun K k => ?_
    rw [impl_Triangulation_edgeSigns.l7, if_neg (by omega)]
  | d + 1, x, o, hd, hx, ho, h => by
    by_cases hc : (gget rev (C.getD x 0)).getD false = true
    · refine Tends2.step (fun K k => ?_) (l7_t hN hl hCl d (x + 1) (o.set x 0) (by omega) (by omega) (by rw [List.length_set]; exact ho) (fun j hj => ?_))
      · rw [impl_Triangulation_edgeSigns.l7, if_pos (by omega), if_pos (by omega), Int.toNat_natCast, if_pos hc, if_pos (by omega), w64_succ (by omega)]
      · rw [setD (by omega), h j hj]
        by_cases e : x = j
        · subst e; rw [if_pos rfl, if_pos (by omega), sgF, if_pos hc]
        · rw [if_neg e]
          by_cases h2 : j < x
          · rw [if_pos h2, if_pos (by omega)]
          · rw [if_neg h2, if_neg (by omega)]
    · refine Tends2.step (fun K k => ?_) (l7_t hN hl hCl d (x + 1) o (by omega) (by omega) ho (fun j hj => ?_))
      · rw [impl_Triangulation_edgeSigns.l7, if_pos (by omega), if_pos (by omega), Int.toNat_natCast, if_neg hc, w64_succ (by omega)]
      · rw [h j hj]
        by_cases e : j = x
        · subst e; rw [if_neg (by omega), if_pos (by omega), sgF, if_neg hc]
        · by_cases h2 : j < x
          · rw [if_pos h2, if_pos (by omega)]
          · rw [if_neg h2, if_neg (by omega)]
theorem l85_t {C sg : List Int} {rv : List Bool} {rev : List (Int × Bool)} (hl : sg.length = 6 * ts.length) (hrl : rv.length = 6 * ts.length) (hy : ∀ j, j < 6 * ts.length → rv.getD j false = (gget rev (C.getD j 0)).getD false) {out : List (List Int)} (ho : out.length ≤ 100) {a : Nat} (ha : a < ts.length) {R : List (List Int)}
    (hR : Tends2 (fun K k => spec_l08Signs.l82 K k (ts.length : Int) sg rv (out ++ [rowAt ((List.range (6 * ts.length)).map (sgF C sg rev)) 6 a]) ((6 * (a + 1) : Nat) : Int)) R) : ∀ (d e : Nat), 6 - e = d → e ≤ 6 →
    Tends2 (fun K k => spec_l08Signs.l85 K k (ts.length : Int) sg rv out ((6 * a : Nat) : Int) ((List.range e).map fun e => ((List.range (6 * ts.length)).map (sgF C sg rev)).getD (6 * a + e) 0) ((6 * a + e : Nat) : Int)) R
  | 0, e, hd, he => by
    have h8 := hv.le
    obtain rfl : e = 6 := by omega
    have h1 : w64 (((6 * a : Nat) : Int) + 6) = ((6 * (a + 1) : Nat) : Int) := by rw [w64_id (by omega) (by omega)]; omega
    refine Tends2.step (fun K k => ?_) hR
    rw [spec_l08Signs.l85, h1, if_neg (by omega), if_pos (by omega)]
    rfl
  | d + 1, e, hd, he => by
    have h8 := hv.le
    have hin : 6 * a + e < 6 * ts.length := mul_lt ha (by omega)
    have h1 : w64 (((6 * a : Nat) : Int) + 6) = ((6 * (a + 1) : Nat) : Int) := by rw [w64_id (by omega) (by omega)]; omega
    refine Tends2.step (fun K k => ?_) (l85_t hl hrl hy ho ha hR d (e + 1) (by omega) (by omega))
    rw [spec_l08Signs.l85, h1, if_pos (by omega), if_pos (by omega), Int.toNat_natCast, hy _ hin, w64_succ (by omega), List.range_succ, List.map_append, List.map_singleton]
    have hg : ((List.range (6 * ts.length)).map (sgF C sg rev)).getD (6 * a + e) 0 = sgF C sg rev (6 * a + e) := by rw [List.getD_eq_getElem?_getD, List.getElem?_map, List.getElem?_range hin]; rfl
    rw [hg]
    unfold sgF
    by_cases hc : (gget rev (C.getD (6 * a + e) 0)).getD false = true
    · rw [if_pos hc, if_pos hc, if_pos (by rw [List.length_map, List.length_range]; omega)]; rfl
    · rw [if_neg hc, if_neg hc, if_pos (by omega), if_pos (by rw [List.length_map, List.length_range]; omega)]; rfl
theorem l82_t {C sg : List Int} {rv : List Bool} {rev : List (Int × Bool)} (hl : sg.length = 6 * ts.length) (hrl : rv.length = 6 * ts.length) (hy : ∀ j, j < 6 * ts.length → rv.getD j false = (gget rev (C.getD j 0)).getD false) : ∀ (d a : Nat), ts.length - a = d → a ≤ ts.length →
    Tends2 (fun K k => spec_l08Signs.l82 K k (ts.length : Int) sg rv (rowsOf ((List.range (6 * ts.length)).map (sgF C sg rev)) 6 a) ((6 * a : Nat) : Int)) (rowsOf ((List.range (6 * ts.length)).map (sgF C sg rev)) 6 ts.length)
  | 0, a, hd, ha => by
    have h8 := hv.le
    obtain rfl : a = ts.length := by omega
    have e6 : w64 (6 * (ts.length : Int)) = ((6 * ts.length : Nat) : Int) := w6' (c := 6) (by decide) (by omega)
    refine Tends2.of fun K k => ?_
    rw [spec_l08Signs.l82, e6, if_neg (by omega)]
  | d + 1, a, hd, ha => by
    have h8 := hv.le
    have hlt : a < ts.length := by omega
    have e6 : w64 (6 * (ts.length : Int)) = ((6 * ts.length : Nat) : Int) := w6' (c := 6) (by decide) (by omega)
    have ih := l82_t hl hrl hy d (a + 1) (by omega) (by omega)
    have e : rowsOf ((List.range (6 * ts.length)).map (sgF C sg rev)) 6 (a + 1) = rowsOf ((List.range (6 * ts.length)).map (sgF C sg rev)) 6 a ++ [rowAt ((List.range (6 * ts.length)).map (sgF C sg rev)) 6 a] := by unfold rowsOf; rw [List.range_succ, List.map_append]; rfl
    rw [e] at ih
    have h10 := l85_t hv hP hl hrl hy (by rw [rowsOf_len]; omega) hlt ih 6 0 (by omega) (by omega)
    refine Tends2.step (fun K k => ?_) h10
    rw [spec_l08Signs.l82, e6, if_pos (by omega)]
    rfl
theorem signs_t : ∃ Sg : List Int, Sg.length = 6 * ts.length ∧ (∀ i j, i < 6 * ts.length → j < 6 * ts.length → (CN (6 * ts.length) s).getD i 0 = (CN (6 * ts.length) s).getD j 0 → (Sg.getD i 0 = 0 ↔ Sg.getD j 0 = 0)) ∧
    (Tends (fun K => impl_Triangulation_edgeClasses.f K ts) (CN (6 * ts.length) s) → Tends (fun K => impl_Triangulation_edgeSigns.f K ts) Sg) ∧ Tends (fun K => spec_l08Signs.f K ts) (rowsOf Sg 6 ts.length) := by
  have h8 := hv.le
  have e6 : w64 (6 * (ts.length : Int)) = ((6 * ts.length : Nat) : Int) := w6' (c := 6) (by decide) (by omega)
  have hrep : ∀ j, (List.replicate (6 * ts.length) (0 : Int)).getD j 0 = 0 := fun j => by rw [List.getD_eq_getElem?_getD, List.getElem?_replicate]; split <;> rfl
  obtain ⟨sg, rv, rev, o1, o2, o3, o4⟩ := outer hv hP (6 * ts.length) 0 (List.replicate (6 * ts.length) 0) (List.replicate (6 * ts.length) false) [] (by omega) (by omega) ⟨by simp, by simp, fun i j _ _ _ h => absurd (hrep i) h, fun j _ => .inl (hrep j), fun j _ h => absurd (hrep j) h, fun j _ _ => rfl⟩ (fun j hj => by omega)
  have hg : ∀ i, i < 6 * ts.length → ((List.range (6 * ts.length)).map (sgF (CN (6 * ts.length) s) sg rev)).getD i 0 = sgF (CN (6 * ts.length) s) sg rev i := fun i hi => by rw [List.getD_eq_getElem?_getD, List.getElem?_map, List.getElem?_range hi]; rfl
  refine ⟨(List.range (6 * ts.length)).map (sgF (CN (6 * ts.length) s) sg rev), by simp, fun i j hi hj he => ?_, fun hc => ?_, ?_⟩
  · rw [hg i hi, hg j hj]
    unfold sgF
    rw [he]
    have := o2 i hi
    have := o2 j hj
    split
    · exact Iff.rfl
    · exact ⟨fun e => absurd e (o2 i hi), fun e => absurd e (o2 j hj)⟩
  · have t := o4 _ (l7_t hv hP (by omega) o1.len (CN_len _ s) (6 * ts.length) 0 sg (by omega) (by omega) o1.len (fun j hj => by rw [if_neg (by omega)]))
    refine Tends.eqBind (x := (ts.length : Int)) rfl (Tends.pos (by omega) (Tends.pos (by rw [e6]; omega) (Tends.bind hc ?_)))
    rw [e6, Int.toNat_natCast]
    exact t.diag
  · have t := o3 _ (l82_t hv hP o1.len o1.rlen (fun j hj => o1.yes j hj (o2 j hj)) ts.length 0 (by omega) (by omega))
    refine Tends.eqBind (x := (ts.length : Int)) rfl (Tends.pos (by omega) (Tends.pos (by rw [e6]; omega) (Tends.pos (by rw [e6]; omega) ?_)))
    rw [e6, Int.toNat_natCast]
    exact t.diag
end
end Go.Proofs.YtbjfinndngafoaaGreat
