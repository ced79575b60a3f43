/-
  The reference's classes.
-/
import Derived.Test.YtbjfinndngafoaaGreatPlT8
set_option linter.unusedVariables false
set_option linter.unusedSimpArgs false
set_option linter.unusedSectionVars false
namespace Go.Proofs.YtbjfinndngafoaaGreat
open Go.RowKit
structure PL (n : Nat) (J : List (Nat × Nat)) (s : List Int) : Prop where
  p : Parted n J s
  l : Least n s
theorem PL.join {n : Nat} {J : List (Nat × Nat)} {s : List Int} (hn : n ≤ 100) (h : PL n J s) {i k : Nat} (hi : i < n) (hk : k < n) : ∃ s', Tends (fun K => spec_l08Join.f K s (i : Int) (k : Int)) s' ∧ s'.length = s.length ∧ PL n (J ++ [(i, k)]) s' := by
  obtain ⟨s', t, l, h1, h2⟩ := joinP hn h.p h.l hi hk
  exact ⟨s', t, l, h1, h2⟩
theorem PL.upto (n : Nat) : PL n [] (upto n) := ⟨parted_upto n, upto_least n⟩
section
variable {ts : List (List GFace)} {n : Nat} (hn : n ≤ 8) {a f b p : Nat} (ha : a < n) (hf : f < 4) (hb : b < n) (hp : p < 24) {J : List (Nat × Nat)}
include hn ha hf hb hp
theorem sc_l34 {fs vs : List Int} : ∀ (d e : Nat) (s : List Int), 6 - e = d → e ≤ 6 → PL (6 * n) (J ++ LJ (je ⟨b, p⟩ a f) e) s →
    ∃ s', PL (6 * n) (J ++ LJ (je ⟨b, p⟩ a f) 6) s' ∧ ∀ R, Tends2 (fun K k => spec_l08Count.l24 K k ts (n : Int) (a : Int) vs s' fs ((f + 1 : Nat) : Int)) R → Tends2 (fun K k => spec_l08Count.l34 K k ts (n : Int) (a : Int) (f : Int) ⟨b, p⟩ fs vs s (e : Int)) R
  | 0, e, s, hd, he, hs => by
    obtain rfl : e = 6 := by omega
    exact ⟨s, hs, fun R hR => Tends2.step (fun K k => by rw [spec_l08Count.l34, if_neg (by decide), w64_succ (by omega)]) hR⟩
  | d + 1, e, s, hd, he, hs => by
    have he6 : e < 6 := by omega
    obtain ⟨q1, q2, q3⟩ := EAB he6
    obtain ⟨g1, g2, g3, g4⟩ := edge_img hp he6
    by_cases hc : EA e = f ∨ EB e = f
    · have hs' : PL (6 * n) (J ++ LJ (je ⟨b, p⟩ a f) (e + 1)) s := by rw [LJ, je, if_pos hc, List.append_nil]; exact hs
      obtain ⟨s', h, c⟩ := sc_l34 d (e + 1) s (by omega) (by omega) hs'
      refine ⟨s', h, fun R hR => Tends2.step (fun K k => ?_) (c R hR)⟩
      rw [spec_l08Count.l34, if_pos (by omega), ends8_t he6, w64_succ (by omega)]
      show (if _ then _ else if _ then _ else _) = _
      by_cases h1 : EA e = f
      · rw [if_pos (by omega)]
      · rw [if_neg (by omega), if_pos (by omega)]
    · obtain ⟨s1, t1, l1, h1⟩ := hs.join (by omega) (i := 6 * a + e) (k := 6 * b + EE (PA p (EA e)) (PA p (EB e))) (mul_lt ha he6) (mul_lt hb g4)
      have hs' : PL (6 * n) (J ++ LJ (je ⟨b, p⟩ a f) (e + 1)) s1 := by
        rw [LJ, je, if_neg hc, ← List.append_assoc]
        exact h1
      obtain ⟨s', h, c⟩ := sc_l34 d (e + 1) s1 (by omega) (by omega) hs'
      refine ⟨s', h, fun R hR => Tends2.step (G := fun K k => (spec_l06At.f K (p : Int) (EA e : Int)).bind fun t2234 => (spec_l06At.f K (p : Int) (EB e : Int)).bind fun t2238 => (spec_l08Edge.f K t2234 t2238).bind fun t2242 => (spec_l08Join.f K s (w64 ((w64 (6 * (a : Int))) + (e : Int))) (w64 ((w64 (6 * (b : Int))) + t2242))).bind fun t2246 => if t2246.length = s.length then spec_l08Count.l34 K k ts (n : Int) (a : Int) (f : Int) ⟨b, p⟩ fs vs t2246 ((e + 1 : Nat) : Int) else none) (fun K k => ?_) (Tends2.bind (at_t hp (by omega)).two (Tends2.bind (at_t hp q2).two (Tends2.bind (edge8_t g1 g2 g3).two (Tends2.bind (a := s1) ?_ (Tends2.pos l1 (c R hR))))))⟩
      · rw [spec_l08Count.l34, if_pos (by omega), ends8_t he6, w64_succ (by omega)]
        show (if _ then _ else if _ then _ else _) = _
        rw [if_neg (by omega), if_neg (by omega)]
      · refine Tends2.congr (fun K k => ?_) t1.two
        have e1 := w6 (c := 6) (a := a) (e := e) (by decide) (by omega) (by omega)
        have e2 := w6 (c := 6) (a := b) (e := EE (PA p (EA e)) (PA p (EB e))) (by decide) (by omega) (by omega)
        rw [← e1, ← e2]
        rfl
theorem sc_l32 {fs : List Int} {ys : List Int} : ∀ (d v : Nat) (s : List Int), 4 - v = d → v ≤ 4 → PL (4 * n) (J ++ LJ (jv ⟨b, p⟩ a f) v) s →
    ∃ s', PL (4 * n) (J ++ LJ (jv ⟨b, p⟩ a f) 4) s' ∧ ∀ R, Tends2 (fun K k => spec_l08Count.l34 K k ts (n : Int) (a : Int) (f : Int) ⟨b, p⟩ fs s' ys 0) R → Tends2 (fun K k => spec_l08Count.l32 K k ts (n : Int) (a : Int) ys (f : Int) ⟨b, p⟩ fs s (v : Int)) R
  | 0, v, s, hd, he, hs => by
    obtain rfl : v = 4 := by omega
    exact ⟨s, hs, fun R hR => Tends2.step (fun K k => by rw [spec_l08Count.l32, if_neg (by decide)]) hR⟩
  | d + 1, v, s, hd, he, hs => by
    have hv4 : v < 4 := by omega
    have g1 := PA_lt hp hv4
    by_cases hc : v = f
    · obtain ⟨s', h, c⟩ := sc_l32 d (v + 1) s (by omega) (by omega) (by rw [LJ, jv, if_pos hc, List.append_nil]; exact hs)
      refine ⟨s', h, fun R hR => Tends2.step (fun K k => ?_) (c R hR)⟩
      rw [spec_l08Count.l32, if_pos (by omega), if_pos (by omega), w64_succ (by omega)]
    · obtain ⟨s1, t1, l1, h1⟩ := hs.join (by omega) (i := 4 * a + v) (k := 4 * b + PA p v) (mul_lt ha hv4) (mul_lt hb g1)
      obtain ⟨s', h, c⟩ := sc_l32 d (v + 1) s1 (by omega) (by omega) (by rw [LJ, jv, if_neg hc, ← List.append_assoc]; exact h1)
      refine ⟨s', h, fun R hR => Tends2.step (G := fun K k => (spec_l06At.f K (p : Int) (v : Int)).bind fun t2163 => (spec_l08Join.f K s (w64 ((w64 (4 * (a : Int))) + (v : Int))) (w64 ((w64 (4 * (b : Int))) + t2163))).bind fun t2167 => if t2167.length = s.length then spec_l08Count.l32 K k ts (n : Int) (a : Int) ys (f : Int) ⟨b, p⟩ fs t2167 ((v + 1 : Nat) : Int) else none) (fun K k => ?_) (Tends2.bind (at_t hp hv4).two (Tends2.bind (a := s1) ?_ (Tends2.pos l1 (c R hR))))⟩
      · rw [spec_l08Count.l32, if_pos (by omega), if_neg (by omega), w64_succ (by omega)]
      · refine Tends2.congr (fun K k => ?_) t1.two
        have e1 := w6 (c := 4) (a := a) (e := v) (by decide) (by omega) (by omega)
        have e2 := w6 (c := 4) (a := b) (e := PA p v) (by decide) (by omega) (by omega)
        rw [← e1, ← e2]
        rfl
end
section
variable {ts : List (List GFace)} (hv : Val ts)
include hv
theorem sc_l24 {a : Nat} (ha : a < ts.length) {JV0 JE0 JF0 : List (Nat × Nat)} : ∀ (d f : Nat) (vs ys fs : List Int), 4 - f = d → f ≤ 4 → PL (4 * ts.length) (JV0 ++ LJ (JVf ts a) f) vs → PL (6 * ts.length) (JE0 ++ LJ (JEf ts a) f) ys → PL (4 * ts.length) (JF0 ++ LJ (JFf ts a) f) fs →
    ∃ vs' ys' fs', PL (4 * ts.length) (JV0 ++ LJ (JVf ts a) 4) vs' ∧ PL (6 * ts.length) (JE0 ++ LJ (JEf ts a) 4) ys' ∧ PL (4 * ts.length) (JF0 ++ LJ (JFf ts a) 4) fs' ∧
      ∀ R, Tends2 (fun K k => spec_l08Count.l1 K k ts (ts.length : Int) vs' ys' fs' ((a + 1 : Nat) : Int)) R → Tends2 (fun K k => spec_l08Count.l24 K k ts (ts.length : Int) (a : Int) vs ys fs (f : Int)) R
  | 0, f, vs, ys, fs, hd, hf, h1, h2, h3 => by
    obtain rfl : f = 4 := by omega
    have := hv.le
    exact ⟨vs, ys, fs, h1, h2, h3, fun R hR => Tends2.step (fun K k => by rw [spec_l08Count.l24, if_neg (by decide), w64_succ (by omega)]) hR⟩
  | d + 1, f, vs, ys, fs, hd, hf, h1, h2, h3 => by
    have h4 := hv.four a ha
    have h8 := hv.le
    have hf4 : f < 4 := by omega
    have start : ∀ K k, spec_l08Count.l24 K (k + 1) ts (ts.length : Int) (a : Int) vs ys fs (f : Int) = (if (face ts a f).Tet < 0 then spec_l08Count.l24 K k ts (ts.length : Int) (a : Int) vs ys fs ((f + 1 : Nat) : Int) else
        (spec_l06At.f K (face ts a f).Perm (f : Int)).bind fun t2050 => (spec_l08Join.f K fs (w64 ((w64 (4 * (a : Int))) + (f : Int))) (w64 ((w64 (4 * (face ts a f).Tet)) + t2050))).bind fun t2054 => if t2054.length = fs.length then spec_l08Count.l32 K k ts (ts.length : Int) (a : Int) ys (f : Int) (face ts a f) t2054 vs 0 else none) := fun K k => by
      rw [spec_l08Count.l24, if_pos (by omega), if_pos (by omega), Int.toNat_natCast, if_pos (by omega), Int.toNat_natCast, bnd_eq, w64_succ (by omega)]
      rfl
    rcases face_cases hv ha hf4 with ⟨g1, g2⟩ | ⟨g1, b, p, hb, hp, g2, _⟩
    · obtain ⟨vs', ys', fs', k1, k2, k3, c⟩ := sc_l24 ha d (f + 1) vs ys fs (by omega) (by omega) (by rw [LJ, JVf, if_pos g1, List.append_nil]; exact h1) (by rw [LJ, JEf, if_pos g1, List.append_nil]; exact h2) (by rw [LJ, JFf, if_pos g1, List.append_nil]; exact h3)
      refine ⟨vs', ys', fs', k1, k2, k3, fun R hR => Tends2.step (fun K k => ?_) (c R hR)⟩
      rw [start, if_pos g1]
    · have g3 := PA_lt hp hf4
      obtain ⟨fs1, t1, l1, i1⟩ := h3.join (by omega) (i := 4 * a + f) (k := 4 * b + PA p f) (mul_lt ha hf4) (mul_lt hb g3)
      obtain ⟨vs1, i2, c2⟩ := sc_l32 (ts := ts) hv.le ha hf4 hb hp (fs := fs1) (ys := ys) 4 0 vs (by omega) (by omega) (by rw [LJ, List.append_nil]; exact h1)
      obtain ⟨ys1, i3, c3⟩ := sc_l34 (ts := ts) hv.le ha hf4 hb hp (fs := fs1) (vs := vs1) 6 0 ys (by omega) (by omega) (by rw [LJ, List.append_nil]; exact h2)
      obtain ⟨vs', ys', fs', k1, k2, k3, c⟩ := sc_l24 ha d (f + 1) vs1 ys1 fs1 (by omega) (by omega) (by rw [LJ, JVf, if_neg g1, g2, ← List.append_assoc]; exact i2) (by rw [LJ, JEf, if_neg g1, g2, ← List.append_assoc]; exact i3) (by rw [LJ, JFf, if_neg g1, g2, ← List.append_assoc]; exact i1)
      refine ⟨vs', ys', fs', k1, k2, k3, fun R hR => Tends2.step (fun K k => ?_) (Tends2.bind (F := fun K _ => spec_l06At.f K (p : Int) (f : Int)) (G := fun K k t2050 => (spec_l08Join.f K fs (w64 ((w64 (4 * (a : Int))) + (f : Int))) (w64 ((w64 (4 * (b : Int))) + t2050))).bind fun t2054 => if t2054.length = fs.length then spec_l08Count.l32 K k ts (ts.length : Int) (a : Int) ys (f : Int) ⟨b, p⟩ t2054 vs 0 else none) (at_t hp hf4).two (Tends2.bind (a := fs1) ?_ (Tends2.pos l1 (c2 R (c3 R (c R hR))))))⟩
      · rw [start, if_neg g1, g2]
      · refine Tends2.congr (fun K k => ?_) t1.two
        have e1 := w6 (c := 4) (a := a) (e := f) (by decide) (by omega) (by omega)
        have e2 := w6 (c := 4) (a := b) (e := PA p f) (by decide) (by omega) (by omega)
        rw [← e1, ← e2]
        rfl
theorem sc_l1 : ∀ (d a : Nat) (vs ys fs : List Int), ts.length - a = d → a ≤ ts.length → PL (4 * ts.length) (LJ (fun a => LJ (JVf ts a) 4) a) vs → PL (6 * ts.length) (LJ (fun a => LJ (JEf ts a) 4) a) ys → PL (4 * ts.length) (LJ (fun a => LJ (JFf ts a) 4) a) fs →
    ∃ vs' ys' fs', PL (4 * ts.length) (JV ts) vs' ∧ PL (6 * ts.length) (JE ts) ys' ∧ PL (4 * ts.length) (JF ts) fs' ∧
      Tends2 (fun K k => spec_l08Count.l1 K k ts (ts.length : Int) vs ys fs (a : Int)) (rowsOf (CN (4 * ts.length) vs') 4 ts.length, rowsOf (CN (6 * ts.length) ys') 6 ts.length, rowsOf (CN (4 * ts.length) fs') 4 ts.length, [(firstN vs' (4 * ts.length) : Int), (firstN ys' (6 * ts.length) : Int), (firstN fs' (4 * ts.length) : Int), (ts.length : Int)])
  | 0, a, vs, ys, fs, hd, ha, h1, h2, h3 => by
    obtain rfl : a = ts.length := by omega
    have h8 := hv.le
    have r4 : Tends (fun K => spec_l08Rows.f K vs 4) _ := rows_t (w := 4) h1.p.len (by omega) (by decide) (by decide) h1.l
    have r6 : Tends (fun K => spec_l08Rows.f K ys 6) _ := rows_t (w := 6) h2.p.len (by omega) (by decide) (by decide) h2.l
    have r7 : Tends (fun K => spec_l08Rows.f K fs 4) _ := rows_t (w := 4) h3.p.len (by omega) (by decide) (by decide) h3.l
    refine ⟨vs, ys, fs, h1, h2, h3, Tends2.step (G := fun K k => bind2 (spec_l08Rows.f K vs 4) (fun t2256 t2257 => if 0 ≤ (0 : Int) ∧ (0 : Int) < (([0, 0, 0, (ts.length : Int)] : List Int).length : Int) then (bind2 (spec_l08Rows.f K ys 6) (fun t2267 t2268 => if 0 ≤ (1 : Int) ∧ (1 : Int) < ((([0, 0, 0, (ts.length : Int)] : List Int).set 0 t2257).length : Int) then (bind2 (spec_l08Rows.f K fs 4) (fun t2278 t2279 => if 0 ≤ (2 : Int) ∧ (2 : Int) < (((([0, 0, 0, (ts.length : Int)] : List Int).set 0 t2257).set 1 t2268).length : Int) then (some (t2256, t2267, t2278, (((([0, 0, 0, (ts.length : Int)] : List Int).set 0 t2257).set 1 t2268).set 2 t2279))) else none)) else none)) else none)) (fun K k => by rw [spec_l08Count.l1, if_neg (by omega)]) (Tends2.bind2 r4.two (Tends2.pos (by simp) (Tends2.bind2 r6.two (Tends2.pos (by simp) (Tends2.bind2 r7.two (Tends2.pos (by simp) (Tends2.const _)))))))⟩
  | d + 1, a, vs, ys, fs, hd, ha, h1, h2, h3 => by
    have hlt : a < ts.length := by omega
    obtain ⟨vs1, ys1, fs1, k1, k2, k3, c⟩ := sc_l24 hv hlt 4 0 vs ys fs (by omega) (by omega) (by rw [LJ, List.append_nil]; exact h1) (by rw [LJ, List.append_nil]; exact h2) (by rw [LJ, List.append_nil]; exact h3)
    obtain ⟨vs', ys', fs', i1, i2, i3, t⟩ := sc_l1 d (a + 1) vs1 ys1 fs1 (by omega) (by omega) (by rw [LJ]; exact k1) (by rw [LJ]; exact k2) (by rw [LJ]; exact k3)
    refine ⟨vs', ys', fs', i1, i2, i3, Tends2.step (fun K k => ?_) (c _ t)⟩
    rw [spec_l08Count.l1, if_pos (by omega)]
    rfl
theorem count_t : ∃ vs ys fs, PL (4 * ts.length) (JV ts) vs ∧ PL (6 * ts.length) (JE ts) ys ∧ PL (4 * ts.length) (JF ts) fs ∧
      Tends (fun K => spec_l08Count.f K ts) (rowsOf (CN (4 * ts.length) vs) 4 ts.length, rowsOf (CN (6 * ts.length) ys) 6 ts.length, rowsOf (CN (4 * ts.length) fs) 4 ts.length, [(firstN vs (4 * ts.length) : Int), (firstN ys (6 * ts.length) : Int), (firstN fs (4 * ts.length) : Int), (ts.length : Int)]) := by
  have h8 := hv.le
  obtain ⟨vs, ys, fs, h1, h2, h3, t⟩ := sc_l1 hv ts.length 0 (upto (4 * ts.length)) (upto (6 * ts.length)) (upto (4 * ts.length)) (by omega) (by omega) (PL.upto _) (PL.upto _) (PL.upto _)
  have f4 : Tends (fun K => spec_l08Fresh.f K (w64 (4 * (ts.length : Int)))) (upto (4 * ts.length)) := by
    refine Tends.congr (fun K => ?_) (fresh_l1 hv (N := 4 * ts.length) (by omega) _ 0 rfl (Nat.zero_le _)).diag
    have e1 := w6' (c := 4) (a := ts.length) (by decide) (by omega)
    rw [← e1]
    rfl
  have f6 : Tends (fun K => spec_l08Fresh.f K (w64 (6 * (ts.length : Int)))) (upto (6 * ts.length)) := by
    refine Tends.congr (fun K => ?_) (fresh_l1 hv (N := 6 * ts.length) (by omega) _ 0 rfl (Nat.zero_le _)).diag
    have e1 := w6' (c := 6) (a := ts.length) (by decide) (by omega)
    rw [← e1]
    rfl
  exact ⟨vs, ys, fs, h1, h2, h3, Tends.eqBind (x := (ts.length : Int)) rfl (Tends.bind f4 (Tends.bind f6 (Tends.bind f4 t.diag)))⟩
end
end Go.Proofs.YtbjfinndngafoaaGreat
