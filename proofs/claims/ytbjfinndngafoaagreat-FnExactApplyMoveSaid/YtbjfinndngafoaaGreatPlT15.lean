/-
  The reference's classes.
  An edge's neighbours; one step of the search through a class.
  The search through a class, on both sides.
  The search through a class, whole; what it leaves.
  The signs of edges: both sides leave the same.
  How many classes; which are reversed; which lie on the boundary.
  The reference's boundary classes.
-/
import Derived.Test.YtbjfinndngafoaaGreatPlT8
set_option linter.unusedVariables false
set_option linter.unusedSimpArgs false
set_option linter.unusedSectionVars false
namespace Go.Proofs.YtbjfinndngafoaaGreat
open Go.RowKit
structure PL (n : Nat) (J : List (Nat × Nat)) (s : List Int) : Prop where
  p : Hu n J s
  l : Ms n s
theorem PL.join {n : Nat} {J : List (Nat × Nat)} {s : List Int} (hn : n ≤ 100) (h : PL n J s) {i k : Nat} (hi : i < n) (hk : k < n) : ∃ s', Ac (fun K => Dh.f K s (i : Int) (k : Int)) s' ∧ s'.length = s.length ∧ PL n (J ++ [(i, k)]) s' := by
  obtain ⟨s', t, l, h1, h2⟩ := rF hn h.p h.l hi hk
  exact ⟨s', t, l, h1, h2⟩
theorem PL.upto (n : Nat) : PL n [] (upto n) := ⟨Qa n, X8 n⟩
section
variable {ts : List (List Ab)} {n : Nat} (hn : n ≤ 8) {a f b p : Nat} (ha : a < n) (hf : f < 4) (hb : b < n) (hp : p < 24) {J : List (Nat × Nat)}
include hn ha hf hb hp
theorem Xx {fs vs : List Int} : ∀ (d e : Nat) (s : List Int), 6 - e = d → e ≤ 6 → PL (6 * n) (J ++ LJ (je ⟨b, p⟩ a f) e) s →
    ∃ s', PL (6 * n) (J ++ LJ (je ⟨b, p⟩ a f) 6) s' ∧ ∀ R, Aa (fun K k => Ay.l24 K k ts (n : Int) (a : Int) vs s' fs ((f + 1 : Nat) : Int)) R → Aa (fun K k => Ay.l34 K k ts (n : Int) (a : Int) (f : Int) ⟨b, p⟩ fs vs s (e : Int)) R
  | 0, e, s, hd, he, hs => by
    obtain rfl : e = 6 := by omega
    exact ⟨s, hs, fun R hR => Aa.step (fun K k => by rw [Ay.l34, if_neg (by decide), Ba (by omega)]) hR⟩
  | d + 1, e, s, hd, he, hs => by
    have he6 : e < 6 := by omega
    obtain ⟨q1, q2, q3⟩ := EAB he6
    obtain ⟨g1, g2, g3, g4⟩ := Lr hp he6
    by_cases hc : EA e = f ∨ EB e = f
    · have hs' : PL (6 * n) (J ++ LJ (je ⟨b, p⟩ a f) (e + 1)) s := by rw [LJ, je, if_pos hc, List.append_nil]; exact hs
      obtain ⟨s', h, c⟩ := Xx d (e + 1) s (by omega) (by omega) hs'
      refine ⟨s', h, fun R hR => Aa.step (fun K k => ?_) (c R hR)⟩
      rw [Ay.l34, if_pos (by omega), Ns he6, Ba (by omega)]
      show (if _ then _ else if _ then _ else _) = _
      by_cases h1 : EA e = f
      · rw [if_pos (by omega)]
      · rw [if_neg (by omega), if_pos (by omega)]
    · obtain ⟨s1, t1, l1, h1⟩ := hs.join (by omega) (i := 6 * a + e) (k := 6 * b + EE (PA p (EA e)) (PA p (EB e))) (mul_lt ha he6) (mul_lt hb g4)
      have hs' : PL (6 * n) (J ++ LJ (je ⟨b, p⟩ a f) (e + 1)) s1 := by
        rw [LJ, je, if_neg hc, ← List.append_assoc]
        exact h1
      obtain ⟨s', h, c⟩ := Xx d (e + 1) s1 (by omega) (by omega) hs'
      refine ⟨s', h, fun R hR => Aa.step (G := fun K k => (Be.f K (p : Int) (EA e : Int)).bind fun t2234 => (Be.f K (p : Int) (EB e : Int)).bind fun t2238 => (D7.f K t2234 t2238).bind fun t2242 => (Dh.f K s (w64 ((w64 (6 * (a : Int))) + (e : Int))) (w64 ((w64 (6 * (b : Int))) + t2242))).bind fun t2246 => if t2246.length = s.length then Ay.l34 K k ts (n : Int) (a : Int) (f : Int) ⟨b, p⟩ fs vs t2246 ((e + 1 : Nat) : Int) else none) (fun K k => ?_) (Aa.bind (K6 hp (by omega)).two (Aa.bind (K6 hp q2).two (Aa.bind (Va g1 g2 g3).two (Aa.bind (a := s1) ?_ (Aa.pos l1 (c R hR))))))⟩
      · rw [Ay.l34, if_pos (by omega), Ns he6, Ba (by omega)]
        show (if _ then _ else if _ then _ else _) = _
        rw [if_neg (by omega), if_neg (by omega)]
      · refine Aa.congr (fun K k => ?_) t1.two
        have e1 := w6 (c := 6) (a := a) (e := e) (by decide) (by omega) (by omega)
        have e2 := w6 (c := 6) (a := b) (e := EE (PA p (EA e)) (PA p (EB e))) (by decide) (by omega) (by omega)
        rw [← e1, ← e2]
        rfl
theorem Xq {fs : List Int} {ys : List Int} : ∀ (d v : Nat) (s : List Int), 4 - v = d → v ≤ 4 → PL (4 * n) (J ++ LJ (jv ⟨b, p⟩ a f) v) s →
    ∃ s', PL (4 * n) (J ++ LJ (jv ⟨b, p⟩ a f) 4) s' ∧ ∀ R, Aa (fun K k => Ay.l34 K k ts (n : Int) (a : Int) (f : Int) ⟨b, p⟩ fs s' ys 0) R → Aa (fun K k => Ay.l32 K k ts (n : Int) (a : Int) ys (f : Int) ⟨b, p⟩ fs s (v : Int)) R
  | 0, v, s, hd, he, hs => by
    obtain rfl : v = 4 := by omega
    exact ⟨s, hs, fun R hR => Aa.step (fun K k => by rw [Ay.l32, if_neg (by decide)]) hR⟩
  | d + 1, v, s, hd, he, hs => by
    have hv4 : v < 4 := by omega
    have g1 := D6 hp hv4
    by_cases hc : v = f
    · obtain ⟨s', h, c⟩ := Xq d (v + 1) s (by omega) (by omega) (by rw [LJ, jv, if_pos hc, List.append_nil]; exact hs)
      refine ⟨s', h, fun R hR => Aa.step (fun K k => ?_) (c R hR)⟩
      rw [Ay.l32, if_pos (by omega), if_pos (by omega), Ba (by omega)]
    · obtain ⟨s1, t1, l1, h1⟩ := hs.join (by omega) (i := 4 * a + v) (k := 4 * b + PA p v) (mul_lt ha hv4) (mul_lt hb g1)
      obtain ⟨s', h, c⟩ := Xq d (v + 1) s1 (by omega) (by omega) (by rw [LJ, jv, if_neg hc, ← List.append_assoc]; exact h1)
      refine ⟨s', h, fun R hR => Aa.step (G := fun K k => (Be.f K (p : Int) (v : Int)).bind fun t2163 => (Dh.f K s (w64 ((w64 (4 * (a : Int))) + (v : Int))) (w64 ((w64 (4 * (b : Int))) + t2163))).bind fun t2167 => if t2167.length = s.length then Ay.l32 K k ts (n : Int) (a : Int) ys (f : Int) ⟨b, p⟩ fs t2167 ((v + 1 : Nat) : Int) else none) (fun K k => ?_) (Aa.bind (K6 hp hv4).two (Aa.bind (a := s1) ?_ (Aa.pos l1 (c R hR))))⟩
      · rw [Ay.l32, if_pos (by omega), if_neg (by omega), Ba (by omega)]
      · refine Aa.congr (fun K k => ?_) t1.two
        have e1 := w6 (c := 4) (a := a) (e := v) (by decide) (by omega) (by omega)
        have e2 := w6 (c := 4) (a := b) (e := PA p v) (by decide) (by omega) (by omega)
        rw [← e1, ← e2]
        rfl
end
section
variable {ts : List (List Ab)} (hv : Val ts)
include hv
theorem Yi {a : Nat} (ha : a < ts.length) {JV0 JE0 JF0 : List (Nat × Nat)} : ∀ (d f : Nat) (vs ys fs : List Int), 4 - f = d → f ≤ 4 → PL (4 * ts.length) (JV0 ++ LJ (JVf ts a) f) vs → PL (6 * ts.length) (JE0 ++ LJ (JEf ts a) f) ys → PL (4 * ts.length) (JF0 ++ LJ (JFf ts a) f) fs →
    ∃ vs' ys' fs', PL (4 * ts.length) (JV0 ++ LJ (JVf ts a) 4) vs' ∧ PL (6 * ts.length) (JE0 ++ LJ (JEf ts a) 4) ys' ∧ PL (4 * ts.length) (JF0 ++ LJ (JFf ts a) 4) fs' ∧
      ∀ R, Aa (fun K k => Ay.l1 K k ts (ts.length : Int) vs' ys' fs' ((a + 1 : Nat) : Int)) R → Aa (fun K k => Ay.l24 K k ts (ts.length : Int) (a : Int) vs ys fs (f : Int)) R
  | 0, f, vs, ys, fs, hd, hf, h1, h2, h3 => by
    obtain rfl : f = 4 := by omega
    have := hv.le
    exact ⟨vs, ys, fs, h1, h2, h3, fun R hR => Aa.step (fun K k => by rw [Ay.l24, if_neg (by decide), Ba (by omega)]) hR⟩
  | d + 1, f, vs, ys, fs, hd, hf, h1, h2, h3 => by
    have h4 := hv.four a ha
    have h8 := hv.le
    have hf4 : f < 4 := by omega
    have start : ∀ K k, Ay.l24 K (k + 1) ts (ts.length : Int) (a : Int) vs ys fs (f : Int) = (if (Bv ts a f).Tet < 0 then Ay.l24 K k ts (ts.length : Int) (a : Int) vs ys fs ((f + 1 : Nat) : Int) else
        (Be.f K (Bv ts a f).Perm (f : Int)).bind fun t2050 => (Dh.f K fs (w64 ((w64 (4 * (a : Int))) + (f : Int))) (w64 ((w64 (4 * (Bv ts a f).Tet)) + t2050))).bind fun t2054 => if t2054.length = fs.length then Ay.l32 K k ts (ts.length : Int) (a : Int) ys (f : Int) (Bv ts a f) t2054 vs 0 else none) := fun K k => by
      rw [Ay.l24, if_pos (by omega), if_pos (by omega), Int.toNat_natCast, if_pos (by omega), Int.toNat_natCast, Fv, Ba (by omega)]
      rfl
    rcases Ea hv ha hf4 with ⟨g1, g2⟩ | ⟨g1, b, p, hb, hp, g2, _⟩
    · obtain ⟨vs', ys', fs', k1, k2, k3, c⟩ := Yi ha d (f + 1) vs ys fs (by omega) (by omega) (by rw [LJ, JVf, if_pos g1, List.append_nil]; exact h1) (by rw [LJ, JEf, if_pos g1, List.append_nil]; exact h2) (by rw [LJ, JFf, if_pos g1, List.append_nil]; exact h3)
      refine ⟨vs', ys', fs', k1, k2, k3, fun R hR => Aa.step (fun K k => ?_) (c R hR)⟩
      rw [start, if_pos g1]
    · have g3 := D6 hp hf4
      obtain ⟨fs1, t1, l1, i1⟩ := h3.join (by omega) (i := 4 * a + f) (k := 4 * b + PA p f) (mul_lt ha hf4) (mul_lt hb g3)
      obtain ⟨vs1, i2, c2⟩ := Xq (ts := ts) hv.le ha hf4 hb hp (fs := fs1) (ys := ys) 4 0 vs (by omega) (by omega) (by rw [LJ, List.append_nil]; exact h1)
      obtain ⟨ys1, i3, c3⟩ := Xx (ts := ts) hv.le ha hf4 hb hp (fs := fs1) (vs := vs1) 6 0 ys (by omega) (by omega) (by rw [LJ, List.append_nil]; exact h2)
      obtain ⟨vs', ys', fs', k1, k2, k3, c⟩ := Yi ha d (f + 1) vs1 ys1 fs1 (by omega) (by omega) (by rw [LJ, JVf, if_neg g1, g2, ← List.append_assoc]; exact i2) (by rw [LJ, JEf, if_neg g1, g2, ← List.append_assoc]; exact i3) (by rw [LJ, JFf, if_neg g1, g2, ← List.append_assoc]; exact i1)
      refine ⟨vs', ys', fs', k1, k2, k3, fun R hR => Aa.step (fun K k => ?_) (Aa.bind (F := fun K _ => Be.f K (p : Int) (f : Int)) (G := fun K k t2050 => (Dh.f K fs (w64 ((w64 (4 * (a : Int))) + (f : Int))) (w64 ((w64 (4 * (b : Int))) + t2050))).bind fun t2054 => if t2054.length = fs.length then Ay.l32 K k ts (ts.length : Int) (a : Int) ys (f : Int) ⟨b, p⟩ t2054 vs 0 else none) (K6 hp hf4).two (Aa.bind (a := fs1) ?_ (Aa.pos l1 (c2 R (c3 R (c R hR))))))⟩
      · rw [start, if_neg g1, g2]
      · refine Aa.congr (fun K k => ?_) t1.two
        have e1 := w6 (c := 4) (a := a) (e := f) (by decide) (by omega) (by omega)
        have e2 := w6 (c := 4) (a := b) (e := PA p f) (by decide) (by omega) (by omega)
        rw [← e1, ← e2]
        rfl
theorem kY : ∀ (d a : Nat) (vs ys fs : List Int), ts.length - a = d → a ≤ ts.length → PL (4 * ts.length) (LJ (fun a => LJ (JVf ts a) 4) a) vs → PL (6 * ts.length) (LJ (fun a => LJ (JEf ts a) 4) a) ys → PL (4 * ts.length) (LJ (fun a => LJ (JFf ts a) 4) a) fs →
    ∃ vs' ys' fs', PL (4 * ts.length) (JV ts) vs' ∧ PL (6 * ts.length) (JE ts) ys' ∧ PL (4 * ts.length) (JF ts) fs' ∧
      Aa (fun K k => Ay.l1 K k ts (ts.length : Int) vs ys fs (a : Int)) (rowsOf (CN (4 * ts.length) vs') 4 ts.length, rowsOf (CN (6 * ts.length) ys') 6 ts.length, rowsOf (CN (4 * ts.length) fs') 4 ts.length, [(Cx vs' (4 * ts.length) : Int), (Cx ys' (6 * ts.length) : Int), (Cx fs' (4 * ts.length) : Int), (ts.length : Int)])
  | 0, a, vs, ys, fs, hd, ha, h1, h2, h3 => by
    obtain rfl : a = ts.length := by omega
    have h8 := hv.le
    have r4 : Ac (fun K => Bp.f K vs 4) _ := Xn (w := 4) h1.p.len (by omega) (by decide) (by decide) h1.l
    have r6 : Ac (fun K => Bp.f K ys 6) _ := Xn (w := 6) h2.p.len (by omega) (by decide) (by decide) h2.l
    have r7 : Ac (fun K => Bp.f K fs 4) _ := Xn (w := 4) h3.p.len (by omega) (by decide) (by decide) h3.l
    refine ⟨vs, ys, fs, h1, h2, h3, Aa.step (G := fun K k => Eg (Bp.f K vs 4) (fun t2256 t2257 => if 0 ≤ (0 : Int) ∧ (0 : Int) < (([0, 0, 0, (ts.length : Int)] : List Int).length : Int) then (Eg (Bp.f K ys 6) (fun t2267 t2268 => if 0 ≤ (1 : Int) ∧ (1 : Int) < ((([0, 0, 0, (ts.length : Int)] : List Int).set 0 t2257).length : Int) then (Eg (Bp.f K fs 4) (fun t2278 t2279 => if 0 ≤ (2 : Int) ∧ (2 : Int) < (((([0, 0, 0, (ts.length : Int)] : List Int).set 0 t2257).set 1 t2268).length : Int) then (some (t2256, t2267, t2278, (((([0, 0, 0, (ts.length : Int)] : List Int).set 0 t2257).set 1 t2268).set 2 t2279))) else none)) else none)) else none)) (fun K k => by rw [Ay.l1, if_neg (by omega)]) (Aa.Eg r4.two (Aa.pos (by simp) (Aa.Eg r6.two (Aa.pos (by simp) (Aa.Eg r7.two (Aa.pos (by simp) (Aa.const _)))))))⟩
  | d + 1, a, vs, ys, fs, hd, ha, h1, h2, h3 => by
    have hlt : a < ts.length := by omega
    obtain ⟨vs1, ys1, fs1, k1, k2, k3, c⟩ := Yi hv hlt 4 0 vs ys fs (by omega) (by omega) (by rw [LJ, List.append_nil]; exact h1) (by rw [LJ, List.append_nil]; exact h2) (by rw [LJ, List.append_nil]; exact h3)
    obtain ⟨vs', ys', fs', i1, i2, i3, t⟩ := kY d (a + 1) vs1 ys1 fs1 (by omega) (by omega) (by rw [LJ]; exact k1) (by rw [LJ]; exact k2) (by rw [LJ]; exact k3)
    refine ⟨vs', ys', fs', i1, i2, i3, Aa.step (fun K k => ?_) (c _ t)⟩
    rw [Ay.l1, if_pos (by omega)]
    rfl
theorem gX : ∃ vs ys fs, PL (4 * ts.length) (JV ts) vs ∧ PL (6 * ts.length) (JE ts) ys ∧ PL (4 * ts.length) (JF ts) fs ∧
      Ac (fun K => Ay.f K ts) (rowsOf (CN (4 * ts.length) vs) 4 ts.length, rowsOf (CN (6 * ts.length) ys) 6 ts.length, rowsOf (CN (4 * ts.length) fs) 4 ts.length, [(Cx vs (4 * ts.length) : Int), (Cx ys (6 * ts.length) : Int), (Cx fs (4 * ts.length) : Int), (ts.length : Int)]) := by
  have h8 := hv.le
  obtain ⟨vs, ys, fs, h1, h2, h3, t⟩ := kY hv ts.length 0 (upto (4 * ts.length)) (upto (6 * ts.length)) (upto (4 * ts.length)) (by omega) (by omega) (PL.upto _) (PL.upto _) (PL.upto _)
  have f4 : Ac (fun K => Du.f K (w64 (4 * (ts.length : Int)))) (upto (4 * ts.length)) := by
    refine Ac.congr (fun K => ?_) (Sk hv (N := 4 * ts.length) (by omega) _ 0 rfl (Nat.zero_le _)).G8
    have e1 := w6' (c := 4) (a := ts.length) (by decide) (by omega)
    rw [← e1]
    rfl
  have f6 : Ac (fun K => Du.f K (w64 (6 * (ts.length : Int)))) (upto (6 * ts.length)) := by
    refine Ac.congr (fun K => ?_) (Sk hv (N := 6 * ts.length) (by omega) _ 0 rfl (Nat.zero_le _)).G8
    have e1 := w6' (c := 6) (a := ts.length) (by decide) (by omega)
    rw [← e1]
    rfl
  exact ⟨vs, ys, fs, h1, h2, h3, Ac.Ob (x := (ts.length : Int)) rfl (Ac.bind f4 (Ac.bind f6 (Ac.bind f4 t.G8)))⟩
end
def nbr (ts : List (List Ab)) (i f : Nat) : Option (Nat × Bool) :=
  if EA (i % 6) = f ∨ EB (i % 6) = f then none else if (Bv ts (i / 6) f).Tet < 0 then none else
    some (6 * (Bv ts (i / 6) f).Tet.toNat + EE (PA (Bv ts (i / 6) f).Perm.toNat (EA (i % 6))) (PA (Bv ts (i / 6) f).Perm.toNat (EB (i % 6))), decide (PA (Bv ts (i / 6) f).Perm.toNat (EB (i % 6)) < PA (Bv ts (i / 6) f).Perm.toNat (EA (i % 6))))
theorem de6 {a e : Nat} (he : e < 6) : (6 * a + e) / 6 = a ∧ (6 * a + e) % 6 = e := by omega
section
variable {ts : List (List Ab)} (hv : Val ts)
include hv
theorem Me {a e f b p : Nat} (he : e < 6) (h1 : EA e ≠ f) (h2 : EB e ≠ f) (hx : Bv ts a f = ⟨b, p⟩) : nbr ts (6 * a + e) f = some (6 * b + EE (PA p (EA e)) (PA p (EB e)), decide (PA p (EB e) < PA p (EA e))) := by
  unfold nbr
  rw [(de6 he).1, (de6 he).2, hx, if_neg (by rintro (h | h) <;> contradiction), if_neg (by show ¬ (b : Int) < 0; omega)]
  rfl
theorem Rb {i f j : Nat} {fl : Bool} (hi : i < 6 * ts.length) (hf : f < 4) (h : nbr ts i f = some (j, fl)) : ∃ b p : Nat, b < ts.length ∧ p < 24 ∧ Bv ts (i / 6) f = ⟨b, p⟩ ∧ Jr ts (i / 6) f b p ∧ EA (i % 6) ≠ f ∧ EB (i % 6) ≠ f ∧ j = 6 * b + EE (PA p (EA (i % 6))) (PA p (EB (i % 6))) ∧ fl = decide (PA p (EB (i % 6)) < PA p (EA (i % 6))) ∧ j < 6 * ts.length := by
  have ha : i / 6 < ts.length := by omega
  have he : i % 6 < 6 := by omega
  unfold nbr at h
  by_cases h1 : EA (i % 6) = f ∨ EB (i % 6) = f
  · rw [if_pos h1] at h; cases h
  · rw [if_neg h1] at h
    rcases Ea hv ha hf with ⟨g1, _⟩ | ⟨g1, b, p, hb, hp, g2, g3⟩
    · rw [if_pos g1] at h; cases h
    · rw [if_neg g1, g2] at h
      injection h with h
      injection h with h2 h3
      have hbb : ((b : Int)).toNat = b := Int.toNat_natCast b
      refine ⟨b, p, hb, hp, g2, g3, fun e => h1 (.inl e), fun e => h1 (.inr e), h2.symm, h3.symm, ?_⟩
      rw [← h2]
      exact mul_lt (c := 6) hb (Lr hp he).2.2.2
theorem pK {i f j : Nat} {fl : Bool} (hi : i < 6 * ts.length) (hf : f < 4) (h : nbr ts i f = some (j, fl)) : (i, j) ∈ JE ts := by
  obtain ⟨b, p, hb, hp, hx, _, h1, h2, hj, _, _⟩ := Rb hv hi hf h
  unfold JE
  refine Ol.2 ⟨i / 6, by omega, Ol.2 ⟨f, hf, ?_⟩⟩
  unfold JEf
  rw [hx, if_neg (by show ¬ (b : Int) < 0; omega)]
  refine Ol.2 ⟨i % 6, by omega, ?_⟩
  unfold je
  rw [if_neg (by rintro (h | h) <;> contradiction)]
  refine List.mem_singleton.2 ?_
  rw [hj, show 6 * (i / 6) + i % 6 = i by omega]
  rfl
theorem bN {i j : Nat} (h : (i, j) ∈ JE ts) : i < 6 * ts.length ∧ ∃ f fl, f < 4 ∧ nbr ts i f = some (j, fl) := by
  unfold JE at h
  obtain ⟨a, ha, h⟩ := Ol.1 h
  obtain ⟨f, hf, h⟩ := Ol.1 h
  unfold JEf at h
  rcases Ea hv ha hf with ⟨g1, _⟩ | ⟨g1, b, p, hb, hp, g2, g3⟩
  · rw [if_pos g1] at h; exact (List.not_mem_nil h).elim
  · rw [if_neg g1, g2] at h
    obtain ⟨e, he, h⟩ := Ol.1 h
    unfold je at h
    by_cases hc : EA e = f ∨ EB e = f
    · rw [if_pos hc] at h; exact (List.not_mem_nil h).elim
    · rw [if_neg hc] at h
      have h := List.mem_singleton.1 h
      injection h with h1 h2
      have h5 := Me hv he (fun e => hc (.inl e)) (fun e => hc (.inr e)) g2
      rw [h1, h2]
      exact ⟨mul_lt (c := 6) ha he, f, _, hf, h5⟩
theorem Wt {i f j : Nat} {fl : Bool} (hi : i < 6 * ts.length) (hf : f < 4) (h : nbr ts i f = some (j, fl)) : ∃ f' fl', f' < 4 ∧ nbr ts j f' = some (i, fl') := by
  obtain ⟨b, p, hb, hp, hx, hg, h1, h2, hj, _, _⟩ := Rb hv hi hf h
  have he : i % 6 < 6 := by omega
  obtain ⟨q1, q2, q3⟩ := EAB he
  obtain ⟨g1, g2, g3, g4⟩ := Lr hp he
  obtain ⟨_, e1, e2⟩ := Q4 g1 g2 g3
  have hp' := G9 hp
  have n1 : PA p (EA (i % 6)) ≠ PA p f := fun e => h1 (Rp hp (by omega) hf e)
  have n2 : PA p (EB (i % 6)) ≠ PA p f := fun e => h2 (Rp hp q2 hf e)
  have h5 := Me hv g4 (by rw [e1]; omega) (by rw [e2]; omega) hg.2.2.2.1
  rw [← hj, e1, e2] at h5
  have k1 := J6 hp (show EA (i % 6) < 4 by omega)
  have k2 := J6 hp q2
  have : EE (PA (PI p) (min (PA p (EA (i % 6))) (PA p (EB (i % 6))))) (PA (PI p) (max (PA p (EA (i % 6))) (PA p (EB (i % 6))))) = i % 6 := by
    rcases Nat.lt_or_gt_of_ne g3 with hlt | hlt
    · rw [Nat.min_eq_left (by omega), Nat.max_eq_right (by omega), k1, k2, q3]
    · rw [Nat.min_eq_right (by omega), Nat.max_eq_left (by omega), k1, k2, Zo q2 (by omega), q3]
  rw [this, show 6 * (i / 6) + i % 6 = i by omega] at h5
  exact ⟨PA p f, _, D6 hp hf, h5⟩
end
abbrev Mk := List Int × List Nat × Bool
def stp (i : Nat) (st : Mk) (t : Nat × Bool) : Mk :=
  let want : Int := bif t.2 then - st.1.getD i 0 else st.1.getD i 0
  if st.1.getD t.1 0 = 0 then (st.1.set t.1 want, st.2.1 ++ [t.1], st.2.2) else (st.1, st.2.1, st.2.2 || !decide (st.1.getD t.1 0 = want))
def Jz (ts : List (List Ab)) (i f : Nat) (st : Mk) : Mk := match nbr ts i f with
  | none => st
  | some t => stp i st t
def Kn (ts : List (List Ab)) (i : Nat) (st : Mk) : Nat → Mk
  | 0 => st
  | f + 1 => Jz ts i f (Kn ts i st f)
theorem V5 {ts : List (List Ab)} {i f : Nat} {st : Mk} (h : EA (i % 6) = f ∨ EB (i % 6) = f) : Jz ts i f st = st := by
  unfold Jz nbr
  rw [if_pos h]
theorem X5 {e : Nat} (he : e < 6) : ∃ f g, OT [EA e, EB e] = [f, g] ∧ f < 4 ∧ g < 4 ∧ EA e ≠ f ∧ EB e ≠ f ∧ EA e ≠ g ∧ EB e ≠ g := by
  have : e = 0 ∨ e = 1 ∨ e = 2 ∨ e = 3 ∨ e = 4 ∨ e = 5 := by omega
  rcases this with rfl | rfl | rfl | rfl | rfl | rfl <;> exact ⟨_, _, rfl, by decide, by decide, by decide, by decide, by decide, by decide⟩
theorem bU (ts : List (List Ab)) (i : Nat) (st : Mk) {f g : Nat} (h : OT [EA (i % 6), EB (i % 6)] = [f, g]) : Kn ts i st 4 = Jz ts i g (Jz ts i f st) := by
  have hf := fun f st => @V5 ts i f st
  have : i % 6 = 0 ∨ i % 6 = 1 ∨ i % 6 = 2 ∨ i % 6 = 3 ∨ i % 6 = 4 ∨ i % 6 = 5 := by omega
  simp only [Kn]
  rcases this with e | e | e | e | e | e <;> rw [e] at h hf <;> (injection h with h1 h2; injection h2 with h2 _; subst h1; subst h2)
  · rw [hf 0 _ (by decide), hf 1 _ (by decide)]
  · rw [hf 0 _ (by decide), hf 2 _ (by decide)]
  · rw [hf 0 _ (by decide), hf 3 _ (by decide)]
  · rw [hf 1 _ (by decide), hf 2 _ (by decide)]
  · rw [hf 1 _ (by decide), hf 3 _ (by decide)]
  · rw [hf 2 _ (by decide), hf 3 _ (by decide)]
structure Sr (ts : List (List Ab)) (N : Nat) (C sg0 : List Int) (i0 : Nat) (st : Mk) : Prop where
  len : st.1.length = N
  head : st.2.1.getD 0 0 = i0 ∧ 0 < st.2.1.length
  inn : ∀ j, j ∈ st.2.1 → j < N ∧ C.getD j 0 = C.getD i0 0
  nodup : st.2.1.Nodup
  sgn : ∀ j, j < N → (st.1.getD j 0 ≠ 0 ↔ (j ∈ st.2.1 ∨ sg0.getD j 0 ≠ 0))
  val : ∀ j, j < N → st.1.getD j 0 = 0 ∨ st.1.getD j 0 = 1 ∨ st.1.getD j 0 = -1
theorem Uw {l : List Int} {i j : Nat} {v : Int} (hi : i < l.length) : (l.set i v).getD j 0 = if i = j then v else l.getD j 0 := by
  rw [List.getD_eq_getElem?_getD]
  by_cases h : i = j
  · subst h; rw [List.getElem?_set_self hi, if_pos rfl]; rfl
  · rw [List.getElem?_set_ne h, if_neg h, List.getD_eq_getElem?_getD]
theorem Sr.stp {ts : List (List Ab)} {N : Nat} {C sg0 : List Int} {i0 : Nat} {st : Mk} (h : Sr ts N C sg0 i0 st) {i : Nat} (hi : i ∈ st.2.1) {t : Nat × Bool} (ht : t.1 < N) (hC : C.getD t.1 0 = C.getD i 0) :
    Sr ts N C sg0 i0 (stp i st t) ∧ (∀ j, j < N → st.1.getD j 0 ≠ 0 → (Go.Proofs.YtbjfinndngafoaaGreat.stp i st t).1.getD j 0 ≠ 0) ∧ (Go.Proofs.YtbjfinndngafoaaGreat.stp i st t).1.getD t.1 0 ≠ 0 ∧ ∃ r, (Go.Proofs.YtbjfinndngafoaaGreat.stp i st t).2.1 = st.2.1 ++ r := by
  have hiN := (h.inn i hi).1
  have hsi : st.1.getD i 0 ≠ 0 := (h.sgn i hiN).2 (.inl hi)
  unfold Go.Proofs.YtbjfinndngafoaaGreat.stp
  by_cases h0 : st.1.getD t.1 0 = 0
  · rw [if_pos h0]
    have hnq : t.1 ∉ st.2.1 := fun e => (h.sgn t.1 ht).2 (.inl e) h0
    have hw : (bif t.2 then - st.1.getD i 0 else st.1.getD i 0) ≠ 0 := by cases t.2 <;> simp only [cond_true, cond_false] <;> omega
    have hl := h.len
    refine ⟨⟨by rw [List.length_set]; exact hl, ⟨?_, by simp⟩, fun j hj => ?_, ?_, fun j hj => ?_, fun j hj => ?_⟩, fun j hj hn => ?_, ?_, ⟨_, rfl⟩⟩
    · have := h.head
      show (st.2.1 ++ [t.1]).getD 0 0 = i0
      rw [List.getD_eq_getElem?_getD, List.getElem?_append_left this.2, ← List.getD_eq_getElem?_getD]
      exact this.1
    · rcases List.mem_append.1 hj with hj | hj
      · exact h.inn j hj
      · rw [List.mem_singleton.1 hj]; exact ⟨ht, hC.trans (h.inn i hi).2⟩
    · exact List.nodup_append.2 ⟨h.nodup, by simp, fun a ha b hb => by rw [List.mem_singleton.1 hb]; exact fun e => hnq (e ▸ ha)⟩
    · show (st.1.set t.1 _).getD j 0 ≠ 0 ↔ _
      rw [Uw (by omega)]
      by_cases e : t.1 = j
      · rw [if_pos e]
        exact ⟨fun _ => .inl (List.mem_append_right _ (List.mem_singleton.2 e.symm)), fun _ => hw⟩
      · rw [if_neg e, h.sgn j hj]
        constructor
        · rintro (h1 | h1)
          · exact .inl (List.mem_append_left _ h1)
          · exact .inr h1
        · rintro (h1 | h1)
          · rcases List.mem_append.1 h1 with h1 | h1
            · exact .inl h1
            · exact absurd (List.mem_singleton.1 h1).symm e
          · exact .inr h1
    · show (st.1.set t.1 _).getD j 0 = 0 ∨ _
      rw [Uw (by omega)]
      have hvi := h.val i hiN
      have hvj := h.val j hj
      by_cases e : t.1 = j
      · rw [if_pos e]; cases t.2 <;> simp only [cond_true, cond_false] <;> omega
      · rw [if_neg e]; exact hvj
    · show (st.1.set t.1 _).getD j 0 ≠ 0
      rw [Uw (by omega)]
      by_cases e : t.1 = j
      · rw [if_pos e]; exact hw
      · rw [if_neg e]; exact hn
    · show (st.1.set t.1 _).getD t.1 0 ≠ 0
      rw [Uw (by omega), if_pos rfl]; exact hw
  · rw [if_neg h0]
    exact ⟨⟨h.len, h.head, h.inn, h.nodup, h.sgn, h.val⟩, fun j _ hn => hn, h0, ⟨[], by simp⟩⟩
theorem Rw : ∀ {N : Nat} {q : List Nat}, q.Nodup → (∀ j, j ∈ q → j < N) → q.length ≤ N
  | 0, [], _, _ => Nat.le_refl _
  | 0, a :: q, _, h => absurd (h a (List.mem_cons_self ..)) (Nat.not_lt_zero _)
  | N + 1, q, hn, h => by
    by_cases hm : N ∈ q
    · have := Rw (N := N) (q := q.erase N) (hn.erase N) (fun j hj => by
        have h1 := (List.Nodup.mem_erase_iff hn).1 hj
        have := h j h1.2
        have := h1.1
        omega)
      rw [List.length_erase_of_mem hm] at this
      omega
    · have := Rw (N := N) (q := q) hn (fun j hj => by
        have := h j hj
        have : j ≠ N := fun e => hm (e ▸ hj)
        omega)
      omega
theorem Np {κ ν : Type} [DecidableEq κ] (k : κ) (v : ν) (k' : κ) : ∀ m : List (κ × ν), Iu (Na m k v) k' = if k' = k then some v else Iu m k'
  | [] => by unfold Na Iu Iu; rfl
  | p :: r => by
    unfold Na
    by_cases h : k = p.1
    · rw [if_pos h]
      unfold Iu
      by_cases h2 : k' = k
      · rw [if_pos h2, if_pos h2]
      · rw [if_neg h2, if_neg h2, if_neg (by rw [← h]; exact h2)]
    · rw [if_neg h]
      unfold Iu
      by_cases h2 : k' = p.1
      · rw [if_pos h2, if_pos h2, if_neg (by rw [h2]; exact fun e => h e.symm)]
      · rw [if_neg h2, if_neg h2, Np k v k' r]
theorem Gt (l : List Nat) : (ints l).length = l.length := by simp [ints]
theorem Jt {l : List Nat} {i : Nat} (h : i < l.length) : (ints l).getD i 0 = ((l.getD i 0 : Nat) : Int) := by
  unfold ints
  rw [List.getD_eq_getElem?_getD, List.getElem?_map, getD_some (d := 0) h]; rfl
theorem Wp (l : List Nat) (x : Nat) : ints (l ++ [x]) = ints l ++ [(x : Int)] := by simp [ints]
theorem Sr.Yp {ts : List (List Ab)} {N : Nat} {C sg0 : List Int} {i0 : Nat} {st : Mk} (h : Sr ts N C sg0 i0 st) : st.2.1.length ≤ N := Rw h.nodup fun j hj => (h.inn j hj).1
def Uf (rev0 rev : List (Int × Bool)) (c : Int) (bad : Bool) : Prop := (∀ c', c' ≠ c → Iu rev c' = Iu rev0 c') ∧ Iu rev c = if bad = true then some true else none
theorem vB (b p : Nat) : Bn.f (⟨(b : Int), (p : Int)⟩ : Ab).Tet (⟨(b : Int), (p : Int)⟩ : Ab).Perm = some false := congrArg some (decide_eq_false (by show ¬ (b : Int) < 0; omega))
theorem aT (i : Nat) : (i : Int).tmod 6 = ((i % 6 : Nat) : Int) := by
  rw [Int.tmod_eq_emod_of_nonneg (by omega)]; omega
theorem dX (i : Nat) : (i : Int).tdiv 6 = ((i / 6 : Nat) : Int) := by
  rw [Int.tdiv_eq_ediv_of_nonneg (by omega)]; omega
section
variable {ts : List (List Ab)} (hv : Val ts) {C : List Int} (hCl : C.length = 6 * ts.length) (hC : ∀ i f j fl, i < 6 * ts.length → f < 4 → nbr ts i f = some (j, fl) → j < 6 * ts.length ∧ C.getD j 0 = C.getD i 0)
include hv hCl hC
theorem Sr.Jz {sg0 : List Int} {i0 : Nat} {st : Mk} (h : Sr ts (6 * ts.length) C sg0 i0 st) {i f : Nat} (hi : i ∈ st.2.1) (hf : f < 4) :
    Sr ts (6 * ts.length) C sg0 i0 (Jz ts i f st) ∧ (∀ j, j < 6 * ts.length → st.1.getD j 0 ≠ 0 → (Go.Proofs.YtbjfinndngafoaaGreat.Jz ts i f st).1.getD j 0 ≠ 0) ∧ (∀ j fl, nbr ts i f = some (j, fl) → (Go.Proofs.YtbjfinndngafoaaGreat.Jz ts i f st).1.getD j 0 ≠ 0) ∧ ∃ r, (Go.Proofs.YtbjfinndngafoaaGreat.Jz ts i f st).2.1 = st.2.1 ++ r := by
  unfold Go.Proofs.YtbjfinndngafoaaGreat.Jz
  cases hn : nbr ts i f with
  | none => exact ⟨h, fun j _ hj => hj, fun j fl e => (by cases e), [], by simp⟩
  | some t =>
    obtain ⟨g1, g2⟩ := hC i f t.1 t.2 (h.inn i hi).1 hf hn
    obtain ⟨h1, h2, h3, h4⟩ := h.stp hi g1 g2
    refine ⟨h1, h2, fun j fl e => ?_, h4⟩
    injection e with e
    subst e
    exact h3
theorem qJ {sg0 : List Int} {i0 : Nat} {st : Mk} (h : Sr ts (6 * ts.length) C sg0 i0 st) {qi : Nat} (hq : qi < st.2.1.length) {j : Nat} {fl : Bool} (hj : j < 6 * ts.length) (hjC : C.getD j 0 = C.getD i0 0) {rev0 rev : List (Int × Bool)} (hr : Uf rev0 rev (C.getD i0 0) st.2.2) :
    ∃ rev', Cg.f (j : Int) (bif fl then -1 else 1) st.1 (ints st.2.1) (qi : Int) rev C = some ((stp (st.2.1.getD qi 0) st (j, fl)).1, ints (stp (st.2.1.getD qi 0) st (j, fl)).2.1, rev') ∧ Uf rev0 rev' (C.getD i0 0) (stp (st.2.1.getD qi 0) st (j, fl)).2.2 ∧ (stp (st.2.1.getD qi 0) st (j, fl)).1.length = st.1.length := by
  have h8 := hv.le
  have hl := h.len
  have hql := h.Yp
  have him : st.2.1.getD qi 0 ∈ st.2.1 := by rw [List.getD_eq_getElem?_getD, List.getElem?_eq_getElem hq]; exact List.getElem_mem hq
  obtain ⟨i, hi⟩ : ∃ i, i = st.2.1.getD qi 0 := ⟨_, rfl⟩
  rw [← hi] at him ⊢
  have hiN := (h.inn i him).1
  have hvi := h.val i hiN
  have hvj := h.val j hj
  have hsi : st.1.getD i 0 ≠ 0 := (h.sgn i hiN).2 (.inl him)
  have hqi : (ints st.2.1).getD qi 0 = (i : Int) := by rw [Jt hq, hi]
  have hwant : w64 (st.1.getD i 0 * (bif fl then -1 else 1)) = bif fl then - st.1.getD i 0 else st.1.getD i 0 := by
    cases fl <;> simp only [cond_true, cond_false] <;> rw [Gh (by omega) (by omega)] <;> omega
  unfold Cg.f
  rw [if_pos (by rw [Gt]; omega), Int.toNat_natCast, hqi, if_pos (by omega), if_pos (by omega), Int.toNat_natCast, Int.toNat_natCast, hwant]
  unfold stp
  by_cases h0 : st.1.getD j 0 = 0
  · rw [if_pos h0, if_pos h0, if_pos (by rw [Gt]; omega)]
    exact ⟨rev, by rw [Wp], hr, by rw [List.length_set]⟩
  · rw [if_neg h0, if_neg h0]
    generalize hw : (bif fl then - st.1.getD i 0 else st.1.getD i 0) = wt
    have hwv : wt = 1 ∨ wt = -1 := by rw [← hw]; cases fl <;> simp only [cond_true, cond_false] <;> omega
    have hneg : w64 (0 - wt) = - wt := by rw [Gh (by omega) (by omega)]; omega
    rw [hneg]
    by_cases h1 : st.1.getD j 0 = - wt
    · rw [if_pos h1, if_pos (by omega)]
      refine ⟨Na rev (C.getD j 0) true, rfl, ⟨fun c' hc' => ?_, ?_⟩, rfl⟩
      · rw [Np, if_neg (by rw [hjC]; exact hc')]; exact hr.1 c' hc'
      · rw [Np, hjC, if_pos rfl]
        show _ = if (st.2.2 || !decide (st.1.getD j 0 = wt)) = true then _ else _
        rw [decide_eq_false (by omega)]; simp
    · rw [if_neg h1]
      refine ⟨rev, rfl, ?_, rfl⟩
      show Uf rev0 rev _ (st.2.2 || !decide (st.1.getD j 0 = wt))
      rw [decide_eq_true (by omega)]
      simpa using hr
theorem Zk {sg0 : List Int} {i0 : Nat} {st : Mk} (h : Sr ts (6 * ts.length) C sg0 i0 st) {qi : Nat} (hq : qi < st.2.1.length) {i : Nat} (hi : st.2.1.getD qi 0 = i) {l : List Nat} {x f : Nat} (hx : x < l.length) (hl : l.length ≤ 4) (hfx : l.getD x 0 = f) (hf : f < 4) (h1 : EA (i % 6) ≠ f) (h2 : EB (i % 6) ≠ f) {rev0 rev : List (Int × Bool)} (hr : Uf rev0 rev (C.getD i0 0) st.2.2) :
    ∃ rev', Uf rev0 rev' (C.getD i0 0) (Jz ts i f st).2.2 ∧ ∀ R, Aa (fun K k => Ai.l1 K k ts (i : Int) (qi : Int) C (EA (i % 6) : Int) (EB (i % 6) : Int) (ints l) (Jz ts i f st).1 (ints (Jz ts i f st).2.1) rev' ((x + 1 : Nat) : Int)) R →
      Aa (fun K k => Ai.l1 K k ts (i : Int) (qi : Int) C (EA (i % 6) : Int) (EB (i % 6) : Int) (ints l) st.1 (ints st.2.1) rev (x : Int)) R := by
  have h8 := hv.le
  have him : i ∈ st.2.1 := by rw [← hi, List.getD_eq_getElem?_getD, List.getElem?_eq_getElem hq]; exact List.getElem_mem hq
  obtain ⟨hiN, hic⟩ := h.inn i him
  have ha : i / 6 < ts.length := by omega
  have he : i % 6 < 6 := by omega
  have h4 := hv.four (i / 6) ha
  have hfl : (ints l).getD x 0 = (f : Int) := by rw [Jt hx, hfx]
  have hw : w64 ((i : Int).tdiv 6) = ((i / 6 : Nat) : Int) := by rw [dX, Gh (by omega) (by omega)]
  rcases Ea hv ha hf with ⟨g1, g2⟩ | ⟨g1, b, p, hb, hp, g2, g3⟩
  · have hn : nbr ts i f = none := by unfold nbr; rw [if_neg (by rintro (e | e) <;> contradiction), if_pos g1]
    have hs : Jz ts i f st = st := by unfold Go.Proofs.YtbjfinndngafoaaGreat.Jz; rw [hn]
    rw [hs]
    refine ⟨rev, hr, fun R hR => Aa.step (fun K k => ?_) hR⟩
    rw [Ai.l1, if_pos (by rw [Gt]; omega), if_pos (by rw [Gt]; omega), hw, Int.toNat_natCast, if_pos (by omega), hfl, Int.toNat_natCast, if_pos (by omega), Int.toNat_natCast, Fv, Ba (by omega)]
    show (Bn.f (Bv ts (i / 6) f).Tet (Bv ts (i / 6) f).Perm).bind _ = _
    rw [isB hv, Option.bind_some, decide_eq_true g1, if_pos rfl]
  · obtain ⟨q1, q2, q3⟩ := EAB he
    obtain ⟨p1, p2, p3, p4⟩ := Lr hp he
    have hn : nbr ts i f = some (6 * b + EE (PA p (EA (i % 6))) (PA p (EB (i % 6))), decide (PA p (EB (i % 6)) < PA p (EA (i % 6)))) := by
      have := Me hv (a := i / 6) he h1 h2 g2
      rwa [show 6 * (i / 6) + i % 6 = i by omega] at this
    have hs : Jz ts i f st = stp i st (6 * b + EE (PA p (EA (i % 6))) (PA p (EB (i % 6))), decide (PA p (EB (i % 6)) < PA p (EA (i % 6)))) := by unfold Go.Proofs.YtbjfinndngafoaaGreat.Jz; rw [hn]
    obtain ⟨k1, k2⟩ := hC i f _ _ hiN hf hn
    obtain ⟨rev', e1, e2, e3⟩ := qJ hv hCl hC h hq (fl := decide (PA p (EB (i % 6)) < PA p (EA (i % 6)))) k1 (k2.trans hic) hr
    rw [hi] at e1 e2 e3
    rw [hs]
    have hfx2 : (ts.getD (i / 6) []).getD f Bb = ⟨b, p⟩ := g2
    refine ⟨rev', e2, fun R hR => Aa.step (G := fun K k => Eb (Ct.f K (p : Int)) (fun t122 t123 t124 t125 => (if 0 ≤ (EA (i % 6) : Int) ∧ (EA (i % 6) : Int) < 4 then (if 0 ≤ (EB (i % 6) : Int) ∧ (EB (i % 6) : Int) < 4 then ((F9.f K (([t122, t123, t124, t125] : List Int).getD (EA (i % 6) : Int).toNat 0) (([t122, t123, t124, t125] : List Int).getD (EB (i % 6) : Int).toNat 0)).bind fun t134 => ((Jc.f (w64 ((([t122, t123, t124, t125] : List Int).getD (EB (i % 6) : Int).toNat 0) - (([t122, t123, t124, t125] : List Int).getD (EA (i % 6) : Int).toNat 0)))).bind fun t138 => (Ik (Cg.f (w64 ((w64 (6 * (b : Int))) + t134)) t138 st.1 (ints st.2.1) (qi : Int) rev C) (fun t142 t143 t144 => (if t142.length = st.1.length then (Ai.l1 K k ts (i : Int) (qi : Int) C (EA (i % 6) : Int) (EB (i % 6) : Int) (ints l) t142 t143 t144 ((x + 1 : Nat) : Int)) else none))))) else none) else none))) (fun K k => ?_) (Aa.Eb (J9 hp).two (Aa.pos (by omega) (Aa.pos (by omega) (Aa.bind (a := ((EE (PA p (EA (i % 6))) (PA p (EB (i % 6))) : Nat) : Int)) ?_ ?_))))⟩
    · rw [Ai.l1, if_pos (by rw [Gt]; omega), if_pos (by rw [Gt]; omega), hw, Int.toNat_natCast, if_pos (by omega), hfl, Int.toNat_natCast, if_pos (by omega), Int.toNat_natCast, Fv, Ba (by omega), hfx2, vB b p, Option.bind_some, if_neg (by decide)]
    · refine Aa.congr (fun K k => ?_) (dV p1 p2 p3).two
      rw [Rj (k := EA (i % 6)) (by omega), Rj (k := EB (i % 6)) q2]
    · have hsg : Jc.f (w64 ((([(PA p 0 : Int), (PA p 1 : Int), (PA p 2 : Int), (PA p 3 : Int)] : List Int).getD (EB (i % 6) : Int).toNat 0) - (([(PA p 0 : Int), (PA p 1 : Int), (PA p 2 : Int), (PA p 3 : Int)] : List Int).getD (EA (i % 6) : Int).toNat 0))) = some (bif decide (PA p (EB (i % 6)) < PA p (EA (i % 6))) then -1 else 1) := by
        rw [Rj (k := EA (i % 6)) (by omega), Rj (k := EB (i % 6)) q2, Gh (by omega) (by omega)]
        unfold Jc.f
        by_cases hlt : PA p (EB (i % 6)) < PA p (EA (i % 6))
        · rw [if_pos (by omega), decide_eq_true hlt]; rfl
        · rw [if_neg (by omega), decide_eq_false hlt]; rfl
      have e6 := w6 (c := 6) (a := b) (e := EE (PA p (EA (i % 6))) (PA p (EB (i % 6)))) (by decide) (by omega) (by omega)
      refine Aa.Ob hsg ?_
      refine Aa.congr (fun K k => ?_) hR
      show Ik (Cg.f (w64 ((w64 (((6 : Nat) : Int) * (b : Int))) + _)) _ _ _ _ _ _) _ = _
      rw [e6, e1]
      show (if _ then _ else _) = _
      rw [if_pos e3]
theorem uQ {sg0 : List Int} {i0 : Nat} {st : Mk} (h : Sr ts (6 * ts.length) C sg0 i0 st) {qi : Nat} (hq : qi < st.2.1.length) {i : Nat} (hi : st.2.1.getD qi 0 = i) {rev0 rev : List (Int × Bool)} (hr : Uf rev0 rev (C.getD i0 0) st.2.2) :
    ∃ rev', Uf rev0 rev' (C.getD i0 0) (Kn ts i st 4).2.2 ∧ Ac (fun K => Ai.f K ts (i : Int) st.1 (ints st.2.1) (qi : Int) rev C) ((Kn ts i st 4).1, ints (Kn ts i st 4).2.1, rev') := by
  have him : i ∈ st.2.1 := by rw [← hi, List.getD_eq_getElem?_getD, List.getElem?_eq_getElem hq]; exact List.getElem_mem hq
  have he : i % 6 < 6 := by omega
  obtain ⟨q1, q2, q3⟩ := EAB he
  obtain ⟨f, g, ho, hf, hg, a1, a2, b1, b2⟩ := X5 he
  obtain ⟨s1, _, _, r, e⟩ := h.Jz hv hCl hC him hf
  have hq' : qi < (Jz ts i f st).2.1.length := by rw [e, List.length_append]; omega
  have hi' : (Jz ts i f st).2.1.getD qi 0 = i := by rw [e, List.getD_eq_getElem?_getD, List.getElem?_append_left hq, ← List.getD_eq_getElem?_getD]; exact hi
  obtain ⟨rev1, g1, c1⟩ := Zk hv hCl hC h hq hi (l := [f, g]) (x := 0) (f := f) (by simp) (by simp) rfl hf a1 a2 hr
  obtain ⟨rev2, g2, c2⟩ := Zk hv hCl hC s1 hq' hi' (l := [f, g]) (x := 1) (f := g) (by simp) (by simp) rfl hg b1 b2 g1
  rw [bU ts i st ho]
  refine ⟨rev2, g2, Ac.Eg (a := (EA (i % 6) : Int)) (b := (EB (i % 6) : Int)) ?_ (Ac.bind (a := ints (OT [EA (i % 6), EB (i % 6)])) (Tw (by omega) q2 (by omega)) ?_)⟩
  · rw [aT]; exact Ux he
  · rw [ho]
    refine (c1 _ (c2 _ (Aa.of fun K k => ?_))).G8
    rw [Ai.l1, if_neg (by simp [ints])]
end
section
variable {ts : List (List Ab)} (hv : Val ts) {C : List Int} (hCl : C.length = 6 * ts.length) (hC : ∀ i f j fl, i < 6 * ts.length → f < 4 → nbr ts i f = some (j, fl) → j < 6 * ts.length ∧ C.getD j 0 = C.getD i 0)
include hv hCl hC
theorem Sr.Kn {sg0 : List Int} {i0 : Nat} {st : Mk} (h : Sr ts (6 * ts.length) C sg0 i0 st) {i : Nat} (hi : i ∈ st.2.1) : ∀ {m : Nat}, m ≤ 4 →
    Sr ts (6 * ts.length) C sg0 i0 (Kn ts i st m) ∧ (∀ j, j < 6 * ts.length → st.1.getD j 0 ≠ 0 → (Go.Proofs.YtbjfinndngafoaaGreat.Kn ts i st m).1.getD j 0 ≠ 0) ∧ (∀ f, f < m → ∀ j fl, nbr ts i f = some (j, fl) → (Go.Proofs.YtbjfinndngafoaaGreat.Kn ts i st m).1.getD j 0 ≠ 0) ∧ ∃ r, (Go.Proofs.YtbjfinndngafoaaGreat.Kn ts i st m).2.1 = st.2.1 ++ r
  | 0, _ => ⟨h, fun j _ hj => hj, fun f hf => by omega, [], by simp [Go.Proofs.YtbjfinndngafoaaGreat.Kn]⟩
  | m + 1, hm => by
    obtain ⟨h1, h2, h3, r, h4⟩ := Sr.Kn h hi (m := m) (by omega)
    obtain ⟨g1, g2, g3, r', g4⟩ := h1.Jz hv hCl hC (i := i) (f := m) (by rw [h4]; exact List.mem_append_left _ hi) (by omega)
    refine ⟨g1, fun j hj hn => g2 j hj (h2 j hj hn), fun f hf j fl hn => ?_, r ++ r', by rw [Go.Proofs.YtbjfinndngafoaaGreat.Kn, g4, h4, List.append_assoc]⟩
    by_cases e : f = m
    · subst e; exact g3 j fl hn
    · have hiN := (h.inn i hi).1
      exact g2 j (hC i f j fl hiN (by omega) hn).1 (h3 f (by omega) j fl hn)
theorem iW {sg0 : List Int} {i0 : Nat} {st : Mk} (h : Sr ts (6 * ts.length) C sg0 i0 st) {rv : List Bool} {q1 : List Nat} {qi : Nat} (hq : qi < q1.length) {i : Nat} (hi : q1.getD qi 0 = i) {r : List Nat} (hr : st.2.1 = q1 ++ r) {f : Nat} (hf : f < 4) : ∀ R,
    Aa (fun K k => Ak.l74 K k ts (ts.length : Int) rv (i0 : Int) (ints q1) (qi : Int) (EA (i % 6) : Int) (EB (i % 6) : Int) (Jz ts i f st).1 (ints (Jz ts i f st).2.1) (Jz ts i f st).2.2 ((f + 1 : Nat) : Int)) R →
    Aa (fun K k => Ak.l74 K k ts (ts.length : Int) rv (i0 : Int) (ints q1) (qi : Int) (EA (i % 6) : Int) (EB (i % 6) : Int) st.1 (ints st.2.1) st.2.2 (f : Int)) R := by
  intro R hR
  have h8 := hv.le
  have hql := h.Yp
  have hq' : qi < st.2.1.length := by rw [hr, List.length_append]; omega
  have hi' : st.2.1.getD qi 0 = i := by rw [hr, List.getD_eq_getElem?_getD, List.getElem?_append_left hq, ← List.getD_eq_getElem?_getD]; exact hi
  have him : i ∈ st.2.1 := by rw [← hi', List.getD_eq_getElem?_getD, List.getElem?_eq_getElem hq']; exact List.getElem_mem hq'
  obtain ⟨hiN, hic⟩ := h.inn i him
  have hl := h.len
  have ha : i / 6 < ts.length := by omega
  have he : i % 6 < 6 := by omega
  have h4 := hv.four (i / 6) ha
  obtain ⟨q1', q2, q3⟩ := EAB he
  have hqv : (ints q1).getD qi 0 = (i : Int) := by rw [Jt hq, hi]
  have hqv' : (ints st.2.1).getD qi 0 = (i : Int) := by rw [Jt hq', hi']
  have hw : w64 ((i : Int).tdiv 6) = ((i / 6 : Nat) : Int) := by rw [dX, Gh (by omega) (by omega)]
  rcases Ea hv ha hf with ⟨g1, g2⟩ | ⟨g1, b, p, hb, hp, g2, g3⟩
  · have hs : Jz ts i f st = st := by
      unfold Go.Proofs.YtbjfinndngafoaaGreat.Jz nbr
      by_cases hc : EA (i % 6) = f ∨ EB (i % 6) = f
      · rw [if_pos hc]
      · rw [if_neg hc, if_pos g1]
    rw [hs] at hR
    have hfx2 : (ts.getD (i / 6) []).getD f Bb = ⟨-1, 0⟩ := g2
    refine Aa.step (fun K k => ?_) hR
    rw [Ak.l74, if_pos (by omega), Int.toNat_natCast, hqv, hw, Int.toNat_natCast, if_pos (by omega), Int.toNat_natCast, if_pos (by omega), Fv, hfx2, if_pos (by decide), Ba (by omega)]
  · have hfx2 : (ts.getD (i / 6) []).getD f Bb = ⟨b, p⟩ := g2
    by_cases hc : EA (i % 6) = f ∨ EB (i % 6) = f
    · have hs : Jz ts i f st = st := V5 hc
      rw [hs] at hR
      refine Aa.step (fun K k => ?_) hR
      rw [Ak.l74, if_pos (by omega), Int.toNat_natCast, hqv, hw, Int.toNat_natCast, if_pos (by omega), Int.toNat_natCast, if_pos (by omega), Fv, hfx2, if_neg (by show ¬ (b : Int) < 0; omega), Ba (by omega)]
      by_cases e1 : EA (i % 6) = f
      · rw [if_pos (by omega)]
      · rw [if_neg (by omega), if_pos (by omega)]
    · have c1 : EA (i % 6) ≠ f := fun e => hc (.inl e)
      have c2 : EB (i % 6) ≠ f := fun e => hc (.inr e)
      obtain ⟨p1, p2, p3, p4⟩ := Lr hp he
      have hn : nbr ts i f = some (6 * b + EE (PA p (EA (i % 6))) (PA p (EB (i % 6))), decide (PA p (EB (i % 6)) < PA p (EA (i % 6)))) := by
        have := Me hv (a := i / 6) he c1 c2 g2
        rwa [show 6 * (i / 6) + i % 6 = i by omega] at this
      have hs : Jz ts i f st = stp i st (6 * b + EE (PA p (EA (i % 6))) (PA p (EB (i % 6))), decide (PA p (EB (i % 6)) < PA p (EA (i % 6)))) := by unfold Go.Proofs.YtbjfinndngafoaaGreat.Jz; rw [hn]
      obtain ⟨k1, k2⟩ := hC i f _ _ hiN hf hn
      rw [hs] at hR
      have hvi := h.val i hiN
      obtain ⟨j, hj⟩ : ∃ j, j = 6 * b + EE (PA p (EA (i % 6))) (PA p (EB (i % 6))) := ⟨_, rfl⟩
      obtain ⟨fl, hfl⟩ : ∃ fl, fl = decide (PA p (EB (i % 6)) < PA p (EA (i % 6))) := ⟨_, rfl⟩
      obtain ⟨wt, hwt⟩ : ∃ wt, wt = bif fl then - st.1.getD i 0 else st.1.getD i 0 := ⟨_, rfl⟩
      rw [← hj] at k1
      rw [← hj, ← hfl] at hR
      have e6 : w64 ((w64 (6 * (b : Int))) + ((EE (PA p (EA (i % 6))) (PA p (EB (i % 6))) : Nat) : Int)) = (j : Int) := by
        have := w6 (c := 6) (a := b) (e := EE (PA p (EA (i % 6))) (PA p (EB (i % 6)))) (by decide) (by omega) (by omega)
        rw [hj]; exact this
      have hwant : (if ((PA p (EB (i % 6)) : Nat) : Int) < ((PA p (EA (i % 6)) : Nat) : Int) then w64 (0 - (st.1.getD i 0)) else st.1.getD i 0) = wt := by
        rw [hwt, hfl]
        by_cases hlt : PA p (EB (i % 6)) < PA p (EA (i % 6))
        · rw [if_pos (by omega), decide_eq_true hlt, Gh (by omega) (by omega)]; show _ = - st.1.getD i 0; omega
        · rw [if_neg (by omega), decide_eq_false hlt]; rfl
      have j80 : ∀ (sg' : List Int) (q' : List Int) (bad' : Bool), sg'.length = 6 * ts.length → (bif st.2.2 then true else !decide (sg'.getD j 0 = wt)) = bad' → Aa (fun K k => Ak.l74 K k ts (ts.length : Int) rv (i0 : Int) (ints q1) (qi : Int) (EA (i % 6) : Int) (EB (i % 6) : Int) sg' q' bad' ((f + 1 : Nat) : Int)) R →
          Aa (fun K k => Ak.j80 K k ts (ts.length : Int) rv (i0 : Int) (ints q1) (qi : Int) (EA (i % 6) : Int) (EB (i % 6) : Int) st.2.2 (f : Int) ⟨b, p⟩ ((EE (PA p (EA (i % 6))) (PA p (EB (i % 6))) : Nat) : Int) wt sg' q') R := fun sg' q' bad' hl' hb' ht => by
        refine Aa.step (fun K k => ?_) ht
        rw [Ak.j80, e6, Int.toNat_natCast, Ba (by omega), ← hb']
        cases st.2.2 with
        | true => rw [if_pos rfl]; rfl
        | false => rw [if_neg (by decide), if_pos (by omega)]; rfl
      have j79 : Aa (fun K k => Ak.j79 K k ts (ts.length : Int) rv (i0 : Int) (ints q1) (qi : Int) (EA (i % 6) : Int) (EB (i % 6) : Int) st.1 (ints st.2.1) st.2.2 (f : Int) ⟨b, p⟩ ((EE (PA p (EA (i % 6))) (PA p (EB (i % 6))) : Nat) : Int) wt) R := by
        by_cases h0 : st.1.getD j 0 = 0
        · have hst : stp i st (j, fl) = (st.1.set j wt, st.2.1 ++ [j], st.2.2) := by unfold stp; simp only []; rw [if_pos h0, hwt]
          rw [hst] at hR
          refine Aa.step (fun K k => ?_) (j80 (st.1.set j wt) (ints st.2.1 ++ [(j : Int)]) st.2.2 (by rw [List.length_set]; exact hl) (by rw [Uw (by omega), if_pos rfl, decide_eq_true rfl]; cases st.2.2 <;> rfl) (by rw [← Wp]; exact hR))
          rw [Ak.j79, e6, if_pos (by omega), Int.toNat_natCast, if_pos h0, if_pos (by rw [Gt]; omega)]
        · have hst : stp i st (j, fl) = (st.1, st.2.1, st.2.2 || !decide (st.1.getD j 0 = wt)) := by unfold stp; simp only []; rw [if_neg h0, hwt]
          rw [hst] at hR
          refine Aa.step (fun K k => ?_) (j80 st.1 (ints st.2.1) (st.2.2 || !decide (st.1.getD j 0 = wt)) hl (by cases st.2.2 <;> rfl) hR)
          rw [Ak.j79, e6, if_pos (by omega), Int.toNat_natCast, if_neg h0]
      refine Aa.step (G := fun K k => (Be.f K (p : Int) (EA (i % 6) : Int)).bind fun t1847 => (Be.f K (p : Int) (EB (i % 6) : Int)).bind fun t1851 => (D7.f K t1847 t1851).bind fun t1855 => if t1851 < t1847 then Ak.j79 K k ts (ts.length : Int) rv (i0 : Int) (ints q1) (qi : Int) (EA (i % 6) : Int) (EB (i % 6) : Int) st.1 (ints st.2.1) st.2.2 (f : Int) ⟨b, p⟩ t1855 (w64 (0 - (st.1.getD i 0))) else Ak.j79 K k ts (ts.length : Int) rv (i0 : Int) (ints q1) (qi : Int) (EA (i % 6) : Int) (EB (i % 6) : Int) st.1 (ints st.2.1) st.2.2 (f : Int) ⟨b, p⟩ t1855 (st.1.getD i 0)) (fun K k => ?_) (Aa.bind (K6 hp (by omega)).two (Aa.bind (K6 hp q2).two (Aa.bind (Va p1 p2 p3).two ?_)))
      · rw [Ak.l74, if_pos (by omega), Int.toNat_natCast, hqv, hw, Int.toNat_natCast, if_pos (by omega), Int.toNat_natCast, if_pos (by omega), Fv, hfx2, if_neg (by show ¬ (b : Int) < 0; omega), if_neg (by omega), if_neg (by omega), hqv', Int.toNat_natCast]
        simp only [Gt, hl, show (0 ≤ (qi : Int) ∧ (qi : Int) < (st.2.1.length : Int)) from ⟨by omega, by omega⟩, show (0 ≤ (i : Int) ∧ (i : Int) < ((6 * ts.length : Nat) : Int)) from ⟨by omega, by omega⟩, and_self, if_true]
      · by_cases hlt : ((PA p (EB (i % 6)) : Nat) : Int) < ((PA p (EA (i % 6)) : Nat) : Int)
        · rw [if_pos hlt] at hwant
          exact Aa.pos hlt (by rw [hwant]; exact j79)
        · rw [if_neg hlt] at hwant
          exact Aa.neg hlt (by rw [hwant]; exact j79)
theorem fK {sg0 : List Int} {i0 : Nat} {st : Mk} (h : Sr ts (6 * ts.length) C sg0 i0 st) {rv : List Bool} {qi : Nat} (hq : qi < st.2.1.length) {i : Nat} (hi : st.2.1.getD qi 0 = i) : ∀ R,
    Aa (fun K k => Ak.l57 K k ts (ts.length : Int) rv (i0 : Int) (Kn ts i st 4).1 (ints (Kn ts i st 4).2.1) (Kn ts i st 4).2.2 ((qi + 1 : Nat) : Int)) R →
    Aa (fun K k => Ak.l74 K k ts (ts.length : Int) rv (i0 : Int) (ints st.2.1) (qi : Int) (EA (i % 6) : Int) (EB (i % 6) : Int) st.1 (ints st.2.1) st.2.2 0) R := by
  intro R hR
  have hql := h.Yp
  have h8 := hv.le
  have him : i ∈ st.2.1 := by rw [← hi, List.getD_eq_getElem?_getD, List.getElem?_eq_getElem hq]; exact List.getElem_mem hq
  have key : ∀ m, m ≤ 4 → Aa (fun K k => Ak.l74 K k ts (ts.length : Int) rv (i0 : Int) (ints st.2.1) (qi : Int) (EA (i % 6) : Int) (EB (i % 6) : Int) (Kn ts i st m).1 (ints (Kn ts i st m).2.1) (Kn ts i st m).2.2 (m : Int)) R → Aa (fun K k => Ak.l74 K k ts (ts.length : Int) rv (i0 : Int) (ints st.2.1) (qi : Int) (EA (i % 6) : Int) (EB (i % 6) : Int) st.1 (ints st.2.1) st.2.2 0) R := by
    intro m
    induction m with
    | zero => intro _ ht; exact ht
    | succ m ih =>
      intro hm ht
      obtain ⟨h1, _, _, r, h4⟩ := h.Kn hv hCl hC him (m := m) (by omega)
      exact ih (by omega) (iW hv hCl hC h1 hq hi h4 (f := m) (by omega) R ht)
  refine key 4 (by omega) (Aa.step (fun K k => ?_) hR)
  rw [Ak.l74, if_neg (by decide), Ba (by omega)]
theorem bfs {sg0 : List Int} {i0 : Nat} {rv : List Bool} {rev0 : List (Int × Bool)} (hi0 : i0 < 6 * ts.length) : ∀ (d qi : Nat) (st : Mk) (rev : List (Int × Bool)), 6 * ts.length - qi = d → Sr ts (6 * ts.length) C sg0 i0 st → qi ≤ st.2.1.length → (∀ t, t < qi → ∀ f, f < 4 → ∀ j fl, nbr ts (st.2.1.getD t 0) f = some (j, fl) → st.1.getD j 0 ≠ 0) → Uf rev0 rev (C.getD i0 0) st.2.2 →
    ∃ st' rev', Sr ts (6 * ts.length) C sg0 i0 st' ∧ (∀ t, t < st'.2.1.length → ∀ f, f < 4 → ∀ j fl, nbr ts (st'.2.1.getD t 0) f = some (j, fl) → st'.1.getD j 0 ≠ 0) ∧ Uf rev0 rev' (C.getD i0 0) st'.2.2 ∧
      (∀ R, Aa (fun K k => Ak.l81 K k ts (ts.length : Int) (i0 : Int) st'.1 (ints st'.2.1) st'.2.2 rv 0) R → Aa (fun K k => Ak.l57 K k ts (ts.length : Int) rv (i0 : Int) st.1 (ints st.2.1) st.2.2 (qi : Int)) R) ∧
      (∀ R, Aa (fun K k => Aj.l1 K k ts (ts.length : Int) C st'.1 rev' ((i0 + 1 : Nat) : Int)) R → Aa (fun K k => Aj.l6 K k ts (ts.length : Int) C (i0 : Int) st.1 rev (ints st.2.1) (qi : Int)) R) := by
  intro d
  have h8 := hv.le
  induction d with
  | zero =>
    intro qi st rev hd h hq hp hr
    have hql := h.Yp
    have : qi = st.2.1.length := by omega
    refine ⟨st, rev, h, by rw [← this]; exact hp, hr, fun R hR => Aa.step (fun K k => ?_) hR, fun R hR => Aa.step (fun K k => ?_) hR⟩
    · rw [Ak.l57, if_neg (by rw [Gt]; omega)]
    · rw [Aj.l6, if_neg (by rw [Gt]; omega), Ba (by omega)]
  | succ d ih =>
    intro qi st rev hd h hq hp hr
    have hql := h.Yp
    by_cases hlt : qi < st.2.1.length
    · obtain ⟨i, hi⟩ : ∃ i, st.2.1.getD qi 0 = i := ⟨_, rfl⟩
      have him : i ∈ st.2.1 := by rw [← hi, List.getD_eq_getElem?_getD, List.getElem?_eq_getElem hlt]; exact List.getElem_mem hlt
      obtain ⟨h1, h2, h3, r, h4⟩ := h.Kn hv hCl hC him (m := 4) (Nat.le_refl _)
      obtain ⟨rev1, g1, t1⟩ := uQ hv hCl hC h hlt hi hr
      have hg : ∀ t, t < st.2.1.length → (Kn ts i st 4).2.1.getD t 0 = st.2.1.getD t 0 := fun t ht => by rw [h4, List.getD_eq_getElem?_getD, List.getElem?_append_left ht, ← List.getD_eq_getElem?_getD]
      obtain ⟨st', rev', k1, k2, k3, k4, k5⟩ := ih (qi + 1) (Kn ts i st 4) rev1 (by omega) h1 (by rw [h4, List.length_append]; omega) (fun t ht f hf j fl hn => by
        rw [hg t (by omega)] at hn
        by_cases e : t = qi
        · rw [e, hi] at hn; exact h3 f hf j fl hn
        · have hm : st.2.1.getD t 0 ∈ st.2.1 := by rw [List.getD_eq_getElem?_getD, List.getElem?_eq_getElem (by omega : t < st.2.1.length)]; exact List.getElem_mem _
          exact h2 j (hC _ f j fl (h.inn _ hm).1 hf hn).1 (hp t (by omega) f hf j fl hn)) g1
      refine ⟨st', rev', k1, k2, k3, fun R hR => ?_, fun R hR => ?_⟩
      · refine Aa.step (fun K k => ?_) (fK hv hCl hC h hlt hi R (k4 R hR))
        rw [Ak.l57, if_pos (by rw [Gt]; omega), if_pos (by rw [Gt]; omega), Int.toNat_natCast, Jt hlt, hi, aT, Ns (by omega)]
        rfl
      · refine Aa.step (fun K k => ?_) (Aa.Ik (F := fun K _ => Ai.f K ts (i : Int) st.1 (ints st.2.1) (qi : Int) rev C) (G := fun K k t259 t260 t261 => if t259.length = st.1.length then Aj.l6 K k ts (ts.length : Int) C (i0 : Int) t259 t261 t260 ((qi + 1 : Nat) : Int) else none) t1.two (Aa.pos (by rw [h1.len, h.len]) (k5 R hR)))
        rw [Aj.l6, if_pos (by rw [Gt]; omega), if_pos (by rw [Gt]; omega), Int.toNat_natCast, Jt hlt, hi, Ba (by omega)]
    · have : qi = st.2.1.length := by omega
      refine ⟨st, rev, h, by rw [← this]; exact hp, hr, fun R hR => Aa.step (fun K k => ?_) hR, fun R hR => Aa.step (fun K k => ?_) hR⟩
      · rw [Ak.l57, if_neg (by rw [Gt]; omega)]
      · rw [Aj.l6, if_neg (by rw [Gt]; omega), Ba (by omega)]
end
theorem Vx {l : List Bool} {i j : Nat} {v : Bool} (hi : i < l.length) : (l.set i v).getD j false = if i = j then v else l.getD j false := by
  rw [List.getD_eq_getElem?_getD]
  by_cases h : i = j
  · subst h; rw [List.getElem?_set_self hi, if_pos rfl]; rfl
  · rw [List.getElem?_set_ne h, if_neg h, List.getD_eq_getElem?_getD]
theorem Nu {l l' : List Int} {n : Nat} (h : l.length = n) (h' : l'.length = n) (e : ∀ i, i < n → l.getD i 0 = l'.getD i 0) : l = l' := by
  apply List.ext_getElem?
  intro i
  by_cases hi : i < n
  · rw [getD_some (d := 0) (by omega : i < l.length), getD_some (d := 0) (by omega : i < l'.length), e i hi]
  · rw [List.getElem?_eq_none (by omega), List.getElem?_eq_none (by omega)]
structure Out (N : Nat) (C sg : List Int) (rv : List Bool) (rev : List (Int × Bool)) : Prop where
  len : sg.length = N
  nZ : rv.length = N
  sat : ∀ i j, i < N → j < N → C.getD i 0 = C.getD j 0 → sg.getD i 0 ≠ 0 → sg.getD j 0 ≠ 0
  val : ∀ j, j < N → sg.getD j 0 = 0 ∨ sg.getD j 0 = 1 ∨ sg.getD j 0 = -1
  yes : ∀ j, j < N → sg.getD j 0 ≠ 0 → rv.getD j false = (Iu rev (C.getD j 0)).getD false
  no : ∀ j, j < N → sg.getD j 0 = 0 → Iu rev (C.getD j 0) = none
section
variable {ts : List (List Ab)} (hv : Val ts) {s : List Int} (hP : Hu (6 * ts.length) (JE ts) s)
include hv hP
theorem dK : ∀ i f j fl, i < 6 * ts.length → f < 4 → nbr ts i f = some (j, fl) → j < 6 * ts.length ∧ (CN (6 * ts.length) s).getD j 0 = (CN (6 * ts.length) s).getD i 0 := fun i f j fl hi hf h => by
  have hm := pK hv hi hf h
  have hj := (hP.inn _ hm).2
  exact ⟨hj, ((Ni _ s).same j i hj hi (hP.one _ hm).symm)⟩
theorem eO {sg : List Int} {bad : Bool} {i0 : Nat} {R : List (List Int)} {q : List Nat} (hq : ∀ j, j ∈ q → j < 6 * ts.length) (hql : q.length ≤ 100) (hi0 : i0 < 6 * ts.length) {rv0 : List Bool} : ∀ (d t : Nat) (rv : List Bool), q.length - t = d → t ≤ q.length → rv.length = 6 * ts.length → (∀ j, rv.getD j false = if j ∈ q.take t then bad else rv0.getD j false) →
    ∃ rv', rv'.length = 6 * ts.length ∧ (∀ j, rv'.getD j false = if j ∈ q then bad else rv0.getD j false) ∧ (Aa (fun K k => Ak.l1 K k ts (ts.length : Int) sg rv' ((i0 + 1 : Nat) : Int)) R → Aa (fun K k => Ak.l81 K k ts (ts.length : Int) (i0 : Int) sg (ints q) bad rv (t : Int)) R)
  | 0, t, rv, hd, ht, hl, hr => by
    have h8 := hv.le
    obtain rfl : t = q.length := by omega
    refine ⟨rv, hl, by rw [List.take_length] at hr; exact hr, fun hR => Aa.step (fun K k => ?_) hR⟩
    rw [Ak.l81, if_neg (by rw [Gt]; omega), Ba (by omega)]
  | d + 1, t, rv, hd, ht, hl, hr => by
    have hlt : t < q.length := by omega
    have hm : q.getD t 0 ∈ q := by rw [List.getD_eq_getElem?_getD, List.getElem?_eq_getElem hlt]; exact List.getElem_mem hlt
    have hb := hq _ hm
    obtain ⟨rv', h1, h2, h3⟩ := eO hq hql hi0 (rv0 := rv0) d (t + 1) (rv.set (q.getD t 0) bad) (by omega) (by omega) (by rw [List.length_set]; exact hl) (fun j => by
      rw [Vx (by omega), hr j, List.take_add_one, List.getElem?_eq_getElem hlt]
      simp only [Option.toList_some, List.mem_append, List.mem_singleton]
      have e : q[t] = q.getD t 0 := by rw [List.getD_eq_getElem?_getD, List.getElem?_eq_getElem hlt]; rfl
      rw [e]
      by_cases h4 : q.getD t 0 = j
      · rw [if_pos h4, if_pos (.inr h4.symm)]
      · rw [if_neg h4]
        by_cases h5 : j ∈ q.take t
        · rw [if_pos h5, if_pos (.inl h5)]
        · rw [if_neg h5, if_neg (by rintro (h6 | h6); exact h5 h6; exact h4 h6.symm)])
    refine ⟨rv', h1, h2, fun hR => Aa.step (fun K k => ?_) (h3 hR)⟩
    rw [Ak.l81, if_pos (by rw [Gt]; omega), if_pos (by rw [Gt]; omega), Int.toNat_natCast, Jt hlt, Int.toNat_natCast, if_pos (by omega), Ba (by omega)]
theorem outer : ∀ (d x : Nat) (sg : List Int) (rv : List Bool) (rev : List (Int × Bool)), 6 * ts.length - x = d → x ≤ 6 * ts.length → Out (6 * ts.length) (CN (6 * ts.length) s) sg rv rev → (∀ j, j < x → sg.getD j 0 ≠ 0) →
    ∃ sg' rv' rev', Out (6 * ts.length) (CN (6 * ts.length) s) sg' rv' rev' ∧ (∀ j, j < 6 * ts.length → sg'.getD j 0 ≠ 0) ∧
      (∀ R, Aa (fun K k => Ak.l82 K k (ts.length : Int) sg' rv' [] 0) R → Aa (fun K k => Ak.l1 K k ts (ts.length : Int) sg rv (x : Int)) R) ∧
      (∀ R, Aa (fun K k => Aj.l7 K k (CN (6 * ts.length) s) sg' rev' sg' 0) R → Aa (fun K k => Aj.l1 K k ts (ts.length : Int) (CN (6 * ts.length) s) sg rev (x : Int)) R)
  | 0, x, sg, rv, rev, hd, hx, h, hs => by
    have h8 := hv.le
    obtain rfl : x = 6 * ts.length := by omega
    have e6 : w64 (6 * (ts.length : Int)) = ((6 * ts.length : Nat) : Int) := w6' (c := 6) (by decide) (by omega)
    refine ⟨sg, rv, rev, h, hs, fun R hR => Aa.step (fun K k => ?_) hR, fun R hR => Aa.step (fun K k => ?_) hR⟩
    · rw [Ak.l1, e6, if_neg (by omega)]
    · rw [Aj.l1, e6, if_neg (by omega)]
  | d + 1, x, sg, rv, rev, hd, hx, h, hs => by
    have h8 := hv.le
    have hlt : x < 6 * ts.length := by omega
    have e6 : w64 (6 * (ts.length : Int)) = ((6 * ts.length : Nat) : Int) := w6' (c := 6) (by decide) (by omega)
    have hl := h.len
    by_cases h0 : sg.getD x 0 = 0
    · have hC := dK hv hP
      have hCl := K4 (6 * ts.length) s
      have hsr : Sr ts (6 * ts.length) (CN (6 * ts.length) s) sg x (sg.set x 1, [x], false) := by
        refine ⟨by rw [List.length_set]; exact hl, ⟨rfl, by show 0 < 1; decide⟩, fun j hj => ?_, by simp, fun j hj => ?_, fun j hj => ?_⟩
        · rw [List.mem_singleton.1 hj]; exact ⟨hlt, rfl⟩
        · show (sg.set x 1).getD j 0 ≠ 0 ↔ (j ∈ [x] ∨ _)
          rw [Uw (by omega), List.mem_singleton]
          by_cases e : x = j
          · rw [if_pos e]; exact ⟨fun _ => .inl e.symm, fun _ => by decide⟩
          · rw [if_neg e]; exact ⟨fun h => .inr h, fun h => h.elim (fun e' => absurd e'.symm e) id⟩
        · show (sg.set x 1).getD j 0 = 0 ∨ _
          rw [Uw (by omega)]
          by_cases e : x = j
          · rw [if_pos e]; exact .inr (.inl rfl)
          · rw [if_neg e]; exact h.val j hj
      obtain ⟨st', rev', k1, k2, k3, k4, k5⟩ := bfs hv hCl hC (rv := rv) (rev0 := rev) hlt (6 * ts.length) 0 (sg.set x 1, [x], false) rev (by omega) hsr (by show 0 ≤ 1; decide) (fun t ht => by omega) ⟨fun c' _ => rfl, h.no x hlt h0⟩
      have hxq : x ∈ st'.2.1 := by
        have := k1.head
        rw [← this.1, List.getD_eq_getElem?_getD, List.getElem?_eq_getElem this.2]; exact List.getElem_mem _
      -- the whole class is found
      have clos : ∀ i k f fl, f < 4 → i ∈ st'.2.1 → nbr ts i f = some (k, fl) → k ∈ st'.2.1 := fun i k f fl hf hi hn => by
        obtain ⟨t, ht, he⟩ := List.getElem_of_mem hi
        have hg : st'.2.1.getD t 0 = i := by rw [List.getD_eq_getElem?_getD, List.getElem?_eq_getElem ht, he]; rfl
        obtain ⟨hk, hkc⟩ := hC i f k fl (k1.inn i hi).1 hf hn
        rcases (k1.sgn k hk).1 (k2 t ht f hf k fl (by rw [hg]; exact hn)) with h5 | h5
        · exact h5
        · exact absurd h0 (h.sat k x hk hlt (hkc.trans (k1.inn i hi).2) h5)
      have hQ : ∀ p, p ∈ JE ts → (p.1 ∈ st'.2.1 ↔ p.2 ∈ st'.2.1) := fun p hp => by
        obtain ⟨hi, f, fl, hf, hn⟩ := bN hv (i := p.1) (j := p.2) hp
        constructor
        · exact fun h6 => clos p.1 p.2 f fl hf h6 hn
        · intro h6
          obtain ⟨f', fl', hf', hn'⟩ := Wt hv hi hf hn
          exact clos p.2 p.1 f' fl' hf' h6 hn'
      have full : ∀ j, j < 6 * ts.length → (CN (6 * ts.length) s).getD j 0 = (CN (6 * ts.length) s).getD x 0 → j ∈ st'.2.1 := fun j hj he =>
        (hP.min (fun m => m ∈ st'.2.1) hQ j x hj hlt ((Ni _ s).inj hj hlt he)).2 hxq
      obtain ⟨rv', r1, r2, r3⟩ := eO hv hP (sg := st'.1) (bad := st'.2.2) (i0 := x) (R := []) (q := st'.2.1) (fun j hj => (k1.inn j hj).1) (by have := k1.Yp; omega) hlt (rv0 := rv) st'.2.1.length 0 rv (by omega) (by omega) h.nZ (fun j => by simp)
      have ho : Out (6 * ts.length) (CN (6 * ts.length) s) st'.1 rv' rev' := by
        refine ⟨k1.len, r1, fun i j hi hj he hn => ?_, k1.val, fun j hj hn => ?_, fun j hj hz => ?_⟩
        · rcases (k1.sgn i hi).1 hn with h5 | h5
          · exact (k1.sgn j hj).2 (.inl (full j hj (he.symm.trans (k1.inn i h5).2)))
          · exact (k1.sgn j hj).2 (.inr (h.sat i j hi hj he h5))
        · rw [r2 j]
          by_cases h5 : j ∈ st'.2.1
          · rw [if_pos h5, (k1.inn j h5).2, k3.2]
            cases st'.2.2 <;> rfl
          · rw [if_neg h5]
            have h6 : sg.getD j 0 ≠ 0 := ((k1.sgn j hj).1 hn).resolve_left h5
            rw [h.yes j hj h6, k3.1 _ (fun e => h5 (full j hj e))]
        · have h5 : j ∉ st'.2.1 := fun e => (k1.sgn j hj).2 (.inl e) hz
          have h6 : sg.getD j 0 = 0 := Classical.byContradiction fun e => (k1.sgn j hj).2 (.inr e) hz
          rw [k3.1 _ (fun e => h5 (full j hj e))]
          exact h.no j hj h6
      obtain ⟨sg', rv'', rev'', o1, o2, o3, o4⟩ := outer d (x + 1) st'.1 rv' rev' (by omega) (by omega) ho (fun j hj => by
        by_cases e : j = x
        · subst e; exact (k1.sgn j hlt).2 (.inl hxq)
        · exact (k1.sgn j (by omega)).2 (.inr (hs j (by omega))))
      refine ⟨sg', rv'', rev'', o1, o2, fun R hR => ?_, fun R hR => ?_⟩
      · obtain ⟨rv3, u1, u2, u3⟩ := eO hv hP (sg := st'.1) (bad := st'.2.2) (i0 := x) (R := R) (q := st'.2.1) (fun j hj => (k1.inn j hj).1) (by have := k1.Yp; omega) hlt (rv0 := rv) st'.2.1.length 0 rv (by omega) (by omega) h.nZ (fun j => by simp)
        have e3 : rv3 = rv' := by
          apply List.ext_getElem?
          intro j
          by_cases hj : j < 6 * ts.length
          · rw [getD_some (d := false) (by omega : j < rv3.length), getD_some (d := false) (by omega : j < rv'.length), u2 j, r2 j]
          · rw [List.getElem?_eq_none (by omega), List.getElem?_eq_none (by omega)]
        rw [e3] at u3
        refine Aa.step (fun K k => ?_) (k4 R (u3 (o3 R hR)))
        rw [Ak.l1, e6, if_pos (by omega), if_pos (by omega), Int.toNat_natCast, if_pos h0]
        rfl
      · refine Aa.step (fun K k => ?_) (k5 R (o4 R hR))
        rw [Aj.l1, e6, if_pos (by omega), if_pos (by omega), Int.toNat_natCast, if_pos h0]
        rfl
    · obtain ⟨sg', rv'', rev'', o1, o2, o3, o4⟩ := outer d (x + 1) sg rv rev (by omega) (by omega) h (fun j hj => by
        by_cases e : j = x
        · subst e; exact h0
        · exact hs j (by omega))
      refine ⟨sg', rv'', rev'', o1, o2, fun R hR => Aa.step (fun K k => ?_) (o3 R hR), fun R hR => Aa.step (fun K k => ?_) (o4 R hR)⟩
      · rw [Ak.l1, e6, if_pos (by omega), if_pos (by omega), Int.toNat_natCast, if_neg h0, Ba (by omega)]
      · rw [Aj.l1, e6, if_pos (by omega), if_pos (by omega), Int.toNat_natCast, if_neg h0, Ba (by omega)]
def sgF (C sg : List Int) (rev : List (Int × Bool)) (i : Nat) : Int := if (Iu rev (C.getD i 0)).getD false = true then 0 else sg.getD i 0
theorem oU {C sg : List Int} {rev : List (Int × Bool)} {N : Nat} (hN : N ≤ 100) (hl : sg.length = N) (hCl : C.length = N) : ∀ (d x : Nat) (o : List Int), N - x = d → x ≤ N → o.length = N → (∀ j, j < N → o.getD j 0 = if j < x then sgF C sg rev j else sg.getD j 0) →
    Aa (fun K k => Aj.l7 K k C sg rev o (x : Int)) ((List.range N).map (sgF C sg rev))
  | 0, x, o, hd, hx, ho, h => by
    obtain rfl : x = N := by omega
    have : o = (List.range x).map (sgF C sg rev) := Nu ho (by simp) (fun i hi => by
      rw [h i hi, if_pos hi, List.getD_eq_getElem?_getD, List.getElem?_map, List.getElem?_range hi]; rfl)
    rw [← this]
    refine Aa.of fun K k => ?_
    rw [Aj.l7, if_neg (by omega)]
  | d + 1, x, o, hd, hx, ho, h => by
    by_cases hc : (Iu rev (C.getD x 0)).getD false = true
    · refine Aa.step (fun K k => ?_) (oU hN hl hCl d (x + 1) (o.set x 0) (by omega) (by omega) (by rw [List.length_set]; exact ho) (fun j hj => ?_))
      · rw [Aj.l7, if_pos (by omega), if_pos (by omega), Int.toNat_natCast, if_pos hc, if_pos (by omega), Ba (by omega)]
      · rw [Uw (by omega), h j hj]
        by_cases e : x = j
        · subst e; rw [if_pos rfl, if_pos (by omega), sgF, if_pos hc]
        · rw [if_neg e]
          by_cases h2 : j < x
          · rw [if_pos h2, if_pos (by omega)]
          · rw [if_neg h2, if_neg (by omega)]
    · refine Aa.step (fun K k => ?_) (oU hN hl hCl d (x + 1) o (by omega) (by omega) ho (fun j hj => ?_))
      · rw [Aj.l7, if_pos (by omega), if_pos (by omega), Int.toNat_natCast, if_neg hc, Ba (by omega)]
      · rw [h j hj]
        by_cases e : j = x
        · subst e; rw [if_neg (by omega), if_pos (by omega), sgF, if_neg hc]
        · by_cases h2 : j < x
          · rw [if_pos h2, if_pos (by omega)]
          · rw [if_neg h2, if_neg (by omega)]
theorem lD {C sg : List Int} {rv : List Bool} {rev : List (Int × Bool)} (hl : sg.length = 6 * ts.length) (hrl : rv.length = 6 * ts.length) (hy : ∀ j, j < 6 * ts.length → rv.getD j false = (Iu rev (C.getD j 0)).getD false) {out : List (List Int)} (ho : out.length ≤ 100) {a : Nat} (ha : a < ts.length) {R : List (List Int)}
    (hR : Aa (fun K k => Ak.l82 K k (ts.length : Int) sg rv (out ++ [rowAt ((List.range (6 * ts.length)).map (sgF C sg rev)) 6 a]) ((6 * (a + 1) : Nat) : Int)) R) : ∀ (d e : Nat), 6 - e = d → e ≤ 6 →
    Aa (fun K k => Ak.l85 K k (ts.length : Int) sg rv out ((6 * a : Nat) : Int) ((List.range e).map fun e => ((List.range (6 * ts.length)).map (sgF C sg rev)).getD (6 * a + e) 0) ((6 * a + e : Nat) : Int)) R
  | 0, e, hd, he => by
    have h8 := hv.le
    obtain rfl : e = 6 := by omega
    have h1 : w64 (((6 * a : Nat) : Int) + 6) = ((6 * (a + 1) : Nat) : Int) := by rw [Gh (by omega) (by omega)]; omega
    refine Aa.step (fun K k => ?_) hR
    rw [Ak.l85, h1, if_neg (by omega), if_pos (by omega)]
    rfl
  | d + 1, e, hd, he => by
    have h8 := hv.le
    have hin : 6 * a + e < 6 * ts.length := mul_lt ha (by omega)
    have h1 : w64 (((6 * a : Nat) : Int) + 6) = ((6 * (a + 1) : Nat) : Int) := by rw [Gh (by omega) (by omega)]; omega
    refine Aa.step (fun K k => ?_) (lD hl hrl hy ho ha hR d (e + 1) (by omega) (by omega))
    rw [Ak.l85, h1, if_pos (by omega), if_pos (by omega), Int.toNat_natCast, hy _ hin, Ba (by omega), List.range_succ, List.map_append, List.map_singleton]
    have hg : ((List.range (6 * ts.length)).map (sgF C sg rev)).getD (6 * a + e) 0 = sgF C sg rev (6 * a + e) := by rw [List.getD_eq_getElem?_getD, List.getElem?_map, List.getElem?_range hin]; rfl
    rw [hg]
    unfold sgF
    by_cases hc : (Iu rev (C.getD (6 * a + e) 0)).getD false = true
    · rw [if_pos hc, if_pos hc, if_pos (by rw [List.length_map, List.length_range]; omega)]; rfl
    · rw [if_neg hc, if_neg hc, if_pos (by omega), if_pos (by rw [List.length_map, List.length_range]; omega)]; rfl
theorem lL {C sg : List Int} {rv : List Bool} {rev : List (Int × Bool)} (hl : sg.length = 6 * ts.length) (hrl : rv.length = 6 * ts.length) (hy : ∀ j, j < 6 * ts.length → rv.getD j false = (Iu rev (C.getD j 0)).getD false) : ∀ (d a : Nat), ts.length - a = d → a ≤ ts.length →
    Aa (fun K k => Ak.l82 K k (ts.length : Int) sg rv (rowsOf ((List.range (6 * ts.length)).map (sgF C sg rev)) 6 a) ((6 * a : Nat) : Int)) (rowsOf ((List.range (6 * ts.length)).map (sgF C sg rev)) 6 ts.length)
  | 0, a, hd, ha => by
    have h8 := hv.le
    obtain rfl : a = ts.length := by omega
    have e6 : w64 (6 * (ts.length : Int)) = ((6 * ts.length : Nat) : Int) := w6' (c := 6) (by decide) (by omega)
    refine Aa.of fun K k => ?_
    rw [Ak.l82, e6, if_neg (by omega)]
  | d + 1, a, hd, ha => by
    have h8 := hv.le
    have hlt : a < ts.length := by omega
    have e6 : w64 (6 * (ts.length : Int)) = ((6 * ts.length : Nat) : Int) := w6' (c := 6) (by decide) (by omega)
    have ih := lL hl hrl hy d (a + 1) (by omega) (by omega)
    have e : rowsOf ((List.range (6 * ts.length)).map (sgF C sg rev)) 6 (a + 1) = rowsOf ((List.range (6 * ts.length)).map (sgF C sg rev)) 6 a ++ [rowAt ((List.range (6 * ts.length)).map (sgF C sg rev)) 6 a] := by unfold rowsOf; rw [List.range_succ, List.map_append]; rfl
    rw [e] at ih
    have h10 := lD hv hP hl hrl hy (by rw [Gn]; omega) hlt ih 6 0 (by omega) (by omega)
    refine Aa.step (fun K k => ?_) h10
    rw [Ak.l82, e6, if_pos (by omega)]
    rfl
theorem iF : ∃ Sg : List Int, Sg.length = 6 * ts.length ∧ (∀ i j, i < 6 * ts.length → j < 6 * ts.length → (CN (6 * ts.length) s).getD i 0 = (CN (6 * ts.length) s).getD j 0 → (Sg.getD i 0 = 0 ↔ Sg.getD j 0 = 0)) ∧
    (Ac (fun K => Bj.f K ts) (CN (6 * ts.length) s) → Ac (fun K => Aj.f K ts) Sg) ∧ Ac (fun K => Ak.f K ts) (rowsOf Sg 6 ts.length) := by
  have h8 := hv.le
  have e6 : w64 (6 * (ts.length : Int)) = ((6 * ts.length : Nat) : Int) := w6' (c := 6) (by decide) (by omega)
  have hrep : ∀ j, (List.replicate (6 * ts.length) (0 : Int)).getD j 0 = 0 := fun j => by rw [List.getD_eq_getElem?_getD, List.getElem?_replicate]; split <;> rfl
  obtain ⟨sg, rv, rev, o1, o2, o3, o4⟩ := outer hv hP (6 * ts.length) 0 (List.replicate (6 * ts.length) 0) (List.replicate (6 * ts.length) false) [] (by omega) (by omega) ⟨by simp, by simp, fun i j _ _ _ h => absurd (hrep i) h, fun j _ => .inl (hrep j), fun j _ h => absurd (hrep j) h, fun j _ _ => rfl⟩ (fun j hj => by omega)
  have hg : ∀ i, i < 6 * ts.length → ((List.range (6 * ts.length)).map (sgF (CN (6 * ts.length) s) sg rev)).getD i 0 = sgF (CN (6 * ts.length) s) sg rev i := fun i hi => by rw [List.getD_eq_getElem?_getD, List.getElem?_map, List.getElem?_range hi]; rfl
  refine ⟨(List.range (6 * ts.length)).map (sgF (CN (6 * ts.length) s) sg rev), by simp, fun i j hi hj he => ?_, fun hc => ?_, ?_⟩
  · rw [hg i hi, hg j hj]
    unfold sgF
    rw [he]
    have := o2 i hi
    have := o2 j hj
    split
    · exact Iff.rfl
    · exact ⟨fun e => absurd e (o2 i hi), fun e => absurd e (o2 j hj)⟩
  · have t := o4 _ (oU hv hP (by omega) o1.len (K4 _ s) (6 * ts.length) 0 sg (by omega) (by omega) o1.len (fun j hj => by rw [if_neg (by omega)]))
    refine Ac.Ob (x := (ts.length : Int)) rfl (Ac.pos (by omega) (Ac.pos (by rw [e6]; omega) (Ac.bind hc ?_)))
    rw [e6, Int.toNat_natCast]
    exact t.G8
  · have t := o3 _ (lL hv hP o1.len o1.nZ (fun j hj => o1.yes j hj (o2 j hj)) ts.length 0 (by omega) (by omega))
    refine Ac.Ob (x := (ts.length : Int)) rfl (Ac.pos (by omega) (Ac.pos (by rw [e6]; omega) (Ac.pos (by rw [e6]; omega) ?_)))
    rw [e6, Int.toNat_natCast]
    exact t.G8
end
theorem fC {x : List Int} (hl : x.length ≤ 100) (hb : ∀ i, i < x.length → 0 ≤ x.getD i 0 ∧ x.getD i 0 < 1000) : ∀ (d i : Nat) (m : Int), x.length - i = d → i ≤ x.length → 0 < i → (∃ j, j < i ∧ x.getD j 0 = m) → (∀ j, j < i → x.getD j 0 ≤ m) →
    ∃ m', Aa (fun K k => Ch.l2 K k x m (i : Int)) m' ∧ (∃ j, j < x.length ∧ x.getD j 0 = m') ∧ ∀ j, j < x.length → x.getD j 0 ≤ m'
  | 0, i, m, hd, hi, h0, h1, h2 => by
    obtain rfl : i = x.length := by omega
    exact ⟨m, Aa.of fun K k => by rw [Ch.l2, if_neg (by omega)], h1, h2⟩
  | d + 1, i, m, hd, hi, h0, ⟨j, hj, he⟩, h2 => by
    have hlt : i < x.length := by omega
    obtain ⟨m', t, g1, g2⟩ := fC hl hb d (i + 1) (if x.getD i 0 > m then x.getD i 0 else m) (by omega) (by omega) (by omega) (by
        by_cases hc : x.getD i 0 > m
        · rw [if_pos hc]; exact ⟨i, by omega, rfl⟩
        · rw [if_neg hc]; exact ⟨j, by omega, he⟩) (fun k hk => by
        by_cases e : k = i
        · subst e; split <;> omega
        · have := h2 k (by omega); split <;> omega)
    refine ⟨m', Aa.step (fun K k => ?_) t, g1, g2⟩
    rw [Ch.l2, if_pos (by omega), if_pos (by omega), Int.toNat_natCast, Ba (by omega)]
section
variable {ts : List (List Ab)} (hv : Val ts) {s : List Int} {N : Nat} (hN : N ≤ 100)
include hN
theorem I9 {i : Nat} (hi : i < N) : 0 ≤ (CN N s).getD i 0 ∧ (CN N s).getD i 0 < (Cx s N : Int) ∧ Cx s N ≤ N := ⟨((Ni N s).range hi).1, ((Ni N s).range hi).2, Hr s N⟩
theorem Zd : Ac (fun K => Gf.f K (CN N s)) (Cx s N : Int) := by
  have hl := K4 N s
  have hle := Hr s N
  by_cases h0 : N = 0
  · subst h0
    refine Ac.pos (by rw [hl]; rfl) ?_
    exact Ac.const _
  · refine Ac.neg (by omega) ?_
    obtain ⟨m', t, ⟨j, hj, he⟩, h2⟩ := fC (x := CN N s) (by omega) (fun i hi => by have := I9 (s := s) hN (i := i) (by omega); omega) (N - 1) 1 ((CN N s).getD 0 0) (by omega) (by omega) (by omega) ⟨0, by omega, rfl⟩ (fun j hj => by
      have e : j = 0 := by omega
      rw [e]; exact Int.le_refl _)
    have hpos : 0 < Cx s N := by
      have := I9 (s := s) hN (i := 0) (by omega); omega
    obtain ⟨i, hi, _, hc⟩ := (Ni N s).onto (Nat.le_refl N) (show Cx s N - 1 < Cx s N by omega)
    have h3 := h2 i (by omega)
    have h4 := I9 (s := s) hN (i := j) (by omega)
    have hm : m' = (Cx s N : Int) - 1 := by omega
    refine Ac.bind (a := m') (Ac.congr (fun K => ?_) t.G8) ?_
    · show Ch.f K (CN N s) = _
      rw [Ch.f, if_neg (by omega), if_pos (by omega)]
      rfl
    · rw [hm, Gh (by omega) (by omega), show (Cx s N : Int) - 1 + 1 = (Cx s N : Int) by omega]
      exact Ac.const _
theorem eF {Sg : List Int} (hS : Sg.length = N) : ∀ (d i : Nat) (o : List Bool), N - i = d → i ≤ N → o.length = Cx s N → (∀ c : Nat, o.getD c false = true → ∃ j, j < i ∧ (CN N s).getD j 0 = (c : Int)) → (∀ (c : Nat) j, j < i → (CN N s).getD j 0 = (c : Int) → ∃ j', j' < i ∧ (CN N s).getD j' 0 = (c : Int) ∧ o.getD c false = decide (Sg.getD j' 0 = 0)) →
    ∃ o', Aa (fun K k => Bh.l1 K k (CN N s) Sg o (i : Int)) o' ∧ o'.length = Cx s N ∧ ∀ j, j < N → ∃ j', j' < N ∧ (CN N s).getD j' 0 = (CN N s).getD j 0 ∧ o'.getD ((CN N s).getD j 0).toNat false = decide (Sg.getD j' 0 = 0)
  | 0, i, o, hd, hi, hl, h1, h2 => by
    obtain rfl : i = N := by omega
    refine ⟨o, Aa.of fun K k => by rw [Bh.l1, if_neg (by omega)], hl, fun j hj => ?_⟩
    have := I9 (s := s) hN hj
    have e : (CN i s).getD j 0 = (((CN i s).getD j 0).toNat : Int) := by omega
    obtain ⟨j', a, b, c⟩ := h2 _ j hj e
    exact ⟨j', a, b.trans e.symm, c⟩
  | d + 1, i, o, hd, hi, hl, h1, h2 => by
    have hlt : i < N := by omega
    have hCl := K4 N s
    have hr := I9 (s := s) hN hlt
    obtain ⟨c, hc⟩ : ∃ c : Nat, (CN N s).getD i 0 = (c : Int) := ⟨((CN N s).getD i 0).toNat, by omega⟩
    obtain ⟨o', t, g1, g2⟩ := eF hS d (i + 1) (o.set c (decide (Sg.getD i 0 = 0))) (by omega) (by omega) (by rw [List.length_set]; exact hl) (fun c' hc' => by
        rw [Vx (by omega)] at hc'
        by_cases e : c = c'
        · exact ⟨i, by omega, by rw [← e]; exact hc⟩
        · rw [if_neg e] at hc'
          obtain ⟨j, a, b⟩ := h1 c' hc'
          exact ⟨j, by omega, b⟩) (fun c' j hj he => by
        rw [Vx (by omega)]
        by_cases e : c = c'
        · exact ⟨i, by omega, by rw [← e]; exact hc, by rw [if_pos e]⟩
        · rw [if_neg e]
          have hji : j ≠ i := fun e2 => e (by rw [e2, hc] at he; omega)
          obtain ⟨j', a, b, c⟩ := h2 c' j (by omega) he
          exact ⟨j', by omega, b, c⟩)
    refine ⟨o', Aa.step (fun K k => ?_) t, g1, g2⟩
    rw [Bh.l1, if_pos (by omega), if_pos (by omega), if_pos (by omega), Int.toNat_natCast, hc, if_pos (by omega), Int.toNat_natCast, Ba (by omega)]
end
def bdE (ts : List (List Ab)) (i f : Nat) : Prop := f < 4 ∧ EA (i % 6) ≠ f ∧ EB (i % 6) ≠ f ∧ (Bv ts (i / 6) f).Tet < 0
section
variable {ts : List (List Ab)} (hv : Val ts) {s : List Int} (hP : Hu (6 * ts.length) (JE ts) s) (hc : Ac (fun K => Bj.f K ts) (CN (6 * ts.length) s))
include hv hP hc
theorem Ya {Sg : List Int} (hS : Sg.length = 6 * ts.length) (hz : ∀ i j, i < 6 * ts.length → j < 6 * ts.length → (CN (6 * ts.length) s).getD i 0 = (CN (6 * ts.length) s).getD j 0 → (Sg.getD i 0 = 0 ↔ Sg.getD j 0 = 0)) (hs : Ac (fun K => Aj.f K ts) Sg) :
    ∃ o : List Bool, Ac (fun K => Bh.f K ts) o ∧ o.length = Cx s (6 * ts.length) ∧ ∀ j, j < 6 * ts.length → o.getD ((CN (6 * ts.length) s).getD j 0).toNat false = decide (Sg.getD j 0 = 0) := by
  have h8 := hv.le
  have hle := Hr s (6 * ts.length)
  have hrep : ∀ (m j : Nat), (List.replicate m false).getD j false = false := fun m j => by rw [List.getD_eq_getElem?_getD, List.getElem?_replicate]; split <;> rfl
  obtain ⟨o, t, l, h⟩ := eF (s := s) (N := 6 * ts.length) (by omega) hS (6 * ts.length) 0 (List.replicate (Cx s (6 * ts.length)) false) (by omega) (by omega) (by simp) (fun c hc' => by rw [hrep] at hc'; cases hc') (fun c j hj => by omega)
  refine ⟨o, Ac.bind hc (Ac.bind (Zd (by omega)) (Ac.pos (by omega) (Ac.pos (by omega) (Ac.bind hs ?_)))), l, fun j hj => ?_⟩
  · rw [Int.toNat_natCast]; exact t.G8
  · obtain ⟨j', a, b, c⟩ := h j hj
    rw [c]
    exact decide_eq_decide.2 (hz j' j a hj b)
theorem tX {i : Nat} (hi : i < 6 * ts.length) {f g : Nat} (ho : OT [EA (i % 6), EB (i % 6)] = [f, g]) {c : Nat} (hci : (CN (6 * ts.length) s).getD i 0 = (c : Int)) (hcl : c < Cx s (6 * ts.length)) {o : List Bool} (hl : o.length = Cx s (6 * ts.length)) :
    ∃ o', o'.length = Cx s (6 * ts.length) ∧ (∀ c', c' ≠ c → o'.getD c' false = o.getD c' false) ∧ (o'.getD c false = true ↔ o.getD c false = true ∨ ∃ f, bdE ts i f) ∧
      ∀ R, Aa (fun K k => Al.l1 K k ts (CN (6 * ts.length) s) o' ((i + 1 : Nat) : Int)) R → Aa (fun K k => Al.l4 K k ts (CN (6 * ts.length) s) (i : Int) (ints (OT [EA (i % 6), EB (i % 6)])) o 0) R := by
  have h8 := hv.le
  have hle := Hr s (6 * ts.length)
  have he : i % 6 < 6 := by omega
  have hw : w64 ((i : Int).tdiv 6) = ((i / 6 : Nat) : Int) := by rw [dX, Gh (by omega) (by omega)]
  have h4 := hv.four (i / 6) (by omega)
  obtain ⟨f', g', ho', hf, hg, a1, a2, b1, b2⟩ := X5 he
  rw [ho] at ho'
  injection ho' with e1 e2
  injection e2 with e2 _
  subst e1; subst e2
  -- one Bv
  have one : ∀ (x y : Nat) (o : List Bool), x < 2 → [f, g].getD x 0 = y → y < 4 → o.length = Cx s (6 * ts.length) → ∃ o', o'.length = Cx s (6 * ts.length) ∧ (∀ c', c' ≠ c → o'.getD c' false = o.getD c' false) ∧ (o'.getD c false = true ↔ o.getD c false = true ∨ (Bv ts (i / 6) y).Tet < 0) ∧
      ∀ R, Aa (fun K k => Al.l4 K k ts (CN (6 * ts.length) s) (i : Int) (ints [f, g]) o' ((x + 1 : Nat) : Int)) R → Aa (fun K k => Al.l4 K k ts (CN (6 * ts.length) s) (i : Int) (ints [f, g]) o (x : Int)) R := by
    intro x y o hx hy hy4 hl
    have hxy : (ints [f, g]).getD x 0 = (y : Int) := by rw [Jt (by simpa using hx), hy]
    have hlen : (ints [f, g]).length = 2 := rfl
    by_cases hc1 : o.getD c false = true
    · refine ⟨o.set c true, by rw [List.length_set]; exact hl, fun c' hc' => by rw [Vx (by omega), if_neg (fun e => hc' e.symm)], by rw [Vx (by omega), if_pos rfl]; exact ⟨fun _ => .inl hc1, fun _ => rfl⟩, fun R hR => Aa.step (fun K k => ?_) hR⟩
      rw [Al.l4, if_pos (by omega), if_pos (by omega), Int.toNat_natCast, hci, if_pos (by omega), Int.toNat_natCast, if_pos hc1, Ba (by omega)]
    · refine ⟨o.set c (decide ((Bv ts (i / 6) y).Tet < 0)), by rw [List.length_set]; exact hl, fun c' hc' => by rw [Vx (by omega), if_neg (fun e => hc' e.symm)], by rw [Vx (by omega), if_pos rfl, decide_eq_true_eq]; exact ⟨fun h => .inr h, fun h => h.resolve_left hc1⟩, fun R hR => Aa.step (fun K k => ?_) hR⟩
      rw [Al.l4, if_pos (by omega), if_pos (by omega), Int.toNat_natCast, hci, if_pos (by omega), Int.toNat_natCast, if_neg hc1, hw, Int.toNat_natCast, if_pos (by omega), Int.toNat_natCast, hxy, Int.toNat_natCast, if_pos (by omega), Fv, Ba (by omega)]
      rfl
  obtain ⟨o1, l1, p1, q1, t1⟩ := one 0 f o (by decide) rfl hf hl
  obtain ⟨o2, l2, p2, q2, t2⟩ := one 1 g o1 (by decide) rfl hg l1
  refine ⟨o2, l2, fun c' hc' => (p2 c' hc').trans (p1 c' hc'), ?_, fun R hR => ?_⟩
  · rw [q2, q1]
    constructor
    · rintro ((h | h) | h)
      · exact .inl h
      · exact .inr ⟨f, hf, a1, a2, h⟩
      · exact .inr ⟨g, hg, b1, b2, h⟩
    · rintro (h | ⟨x, hx, n1, n2, h⟩)
      · exact .inl (.inl h)
      · have hmem : x ∈ OT [EA (i % 6), EB (i % 6)] := by
          unfold OT
          refine List.mem_filter.2 ⟨?_, ?_⟩
          · have : x = 0 ∨ x = 1 ∨ x = 2 ∨ x = 3 := by omega
            rcases this with rfl | rfl | rfl | rfl <;> decide
          · simp [n1.symm, n2.symm]
        rw [ho] at hmem
        rcases List.mem_cons.1 hmem with e | hmem
        · subst e; exact .inl (.inr h)
        · rw [List.mem_singleton.1 hmem] at h; exact .inr h
  · rw [ho]
    refine t1 R (t2 R (Aa.step (fun K k => ?_) hR))
    have hlen : (ints [f, g]).length = 2 := rfl
    rw [Al.l4, if_neg (by rw [hlen]; decide), Ba (by omega)]
theorem kT : ∀ (d i : Nat) (o : List Bool), 6 * ts.length - i = d → i ≤ 6 * ts.length → o.length = Cx s (6 * ts.length) → (∀ c : Nat, o.getD c false = true ↔ ∃ j, j < i ∧ (CN (6 * ts.length) s).getD j 0 = (c : Int) ∧ ∃ f, bdE ts j f) →
    ∃ o', Aa (fun K k => Al.l1 K k ts (CN (6 * ts.length) s) o (i : Int)) o' ∧ o'.length = Cx s (6 * ts.length) ∧ ∀ c : Nat, o'.getD c false = true ↔ ∃ j, j < 6 * ts.length ∧ (CN (6 * ts.length) s).getD j 0 = (c : Int) ∧ ∃ f, bdE ts j f
  | 0, i, o, hd, hi, hl, h => by
    obtain rfl : i = 6 * ts.length := by omega
    have hCl := K4 (6 * ts.length) s
    exact ⟨o, Aa.of fun K k => by rw [Al.l1, if_neg (by omega)], hl, h⟩
  | d + 1, i, o, hd, hi, hl, h => by
    have h8 := hv.le
    have hlt : i < 6 * ts.length := by omega
    have hCl := K4 (6 * ts.length) s
    have hr := I9 (s := s) (N := 6 * ts.length) (by omega) hlt
    obtain ⟨c, hcc⟩ : ∃ c : Nat, (CN (6 * ts.length) s).getD i 0 = (c : Int) := ⟨((CN (6 * ts.length) s).getD i 0).toNat, by omega⟩
    have he : i % 6 < 6 := by omega
    obtain ⟨q1, q2, q3⟩ := EAB he
    obtain ⟨f, g, ho, _⟩ := X5 he
    obtain ⟨o1, l1, p1, p2, t1⟩ := tX hv hP hc hlt ho hcc (by omega) hl
    obtain ⟨o', t, g1, g2⟩ := kT d (i + 1) o1 (by omega) (by omega) l1 (fun c' => by
      by_cases e : c' = c
      · subst e
        rw [p2, h]
        constructor
        · rintro (⟨j, a, b⟩ | b)
          · exact ⟨j, by omega, b⟩
          · exact ⟨i, by omega, hcc, b⟩
        · rintro ⟨j, a, b, b'⟩
          by_cases e2 : j = i
          · subst e2; exact .inr b'
          · exact .inl ⟨j, by omega, b, b'⟩
      · rw [p1 c' e, h]
        constructor
        · rintro ⟨j, a, b⟩; exact ⟨j, by omega, b⟩
        · rintro ⟨j, a, b, b'⟩
          have : j ≠ i := fun e2 => e (by rw [e2, hcc] at b; omega)
          exact ⟨j, by omega, b, b'⟩)
    have ha4 : EA (i % 6) < 4 := by omega
    have hne : EA (i % 6) ≠ EB (i % 6) := by omega
    refine ⟨o', Aa.step (fun K k => ?_) (Aa.Eg (F := fun K _ => Fq.f K ((i % 6 : Nat) : Int)) (G := fun K k t139 t140 => (Eo.f K ([t139, t140] : List Int)).bind fun t146 => Al.l4 K k ts (CN (6 * ts.length) s) (i : Int) t146 o 0) (Ux he).two (Aa.bind (Tw ha4 q2 hne).two (t1 _ t))), g1, g2⟩
    rw [Al.l1, if_pos (by omega), if_pos (by omega), aT]
theorem Xw : ∃ o : List Bool, Ac (fun K => Al.f K ts) o ∧ o.length = Cx s (6 * ts.length) ∧ ∀ c : Nat, o.getD c false = true ↔ ∃ j, j < 6 * ts.length ∧ (CN (6 * ts.length) s).getD j 0 = (c : Int) ∧ ∃ f, bdE ts j f := by
  have h8 := hv.le
  have hle := Hr s (6 * ts.length)
  have hrep : ∀ (m j : Nat), (List.replicate m false).getD j false = false := fun m j => by rw [List.getD_eq_getElem?_getD, List.getElem?_replicate]; split <;> rfl
  obtain ⟨o, t, l, h⟩ := kT hv hP hc (6 * ts.length) 0 (List.replicate (Cx s (6 * ts.length)) false) (by omega) (by omega) (by simp) (fun c => by rw [hrep]; exact ⟨fun h => (by cases h), fun ⟨j, hj, _⟩ => by omega⟩)
  refine ⟨o, Ac.bind hc (Ac.bind (Zd (by omega)) (Ac.pos (by omega) (Ac.pos (by omega) ?_))), l, h⟩
  rw [Int.toNat_natCast]; exact t.G8
end
theorem bH {l : List Int} {v : Int} (hl : l.length ≤ 1000) : ∀ (d i : Nat), l.length - i = d → i ≤ l.length → (∀ j, j < i → l.getD j 0 ≠ v) → Aa (fun K k => Dw.l1 K k l v (i : Int)) (decide (v ∈ l))
  | 0, i, hd, hi, h => by
    obtain rfl : i = l.length := by omega
    have : ¬ v ∈ l := fun hm => by
      obtain ⟨j, hj, he⟩ := List.getElem_of_mem hm
      exact h j hj (by rw [List.getD_eq_getElem?_getD, List.getElem?_eq_getElem hj, he]; rfl)
    rw [decide_eq_false this]
    refine Aa.of fun K k => ?_
    rw [Dw.l1, if_neg (by omega)]
  | d + 1, i, hd, hi, h => by
    have hlt : i < l.length := by omega
    by_cases hc : l.getD i 0 = v
    · have : v ∈ l := by rw [← hc, List.getD_eq_getElem?_getD, List.getElem?_eq_getElem hlt]; exact List.getElem_mem hlt
      rw [decide_eq_true this]
      refine Aa.of fun K k => ?_
      rw [Dw.l1, if_pos (by omega), if_pos (by omega), Int.toNat_natCast, if_pos hc]
    · refine Aa.step (fun K k => ?_) (bH hl d (i + 1) (by omega) (by omega) (fun j hj => by
        by_cases e : j = i
        · subst e; exact hc
        · exact h j (by omega)))
      rw [Dw.l1, if_pos (by omega), if_pos (by omega), Int.toNat_natCast, if_neg hc, Ba (by omega)]
theorem lK {l : List Int} {v : Int} (hl : l.length ≤ 1000) : Ac (fun K => Dw.f K l v) (decide (v ∈ l)) := (bH hl l.length 0 (by omega) (by omega) (fun j hj => by omega)).G8
theorem Ph {fl : List Bool} (hl : fl.length ≤ 100) : ∀ (d i : Nat) (o : List Int), fl.length - i = d → i ≤ fl.length → o.length ≤ i → (∀ v : Int, v ∈ o ↔ ∃ c : Nat, v = (c : Int) ∧ c < i ∧ fl.getD c false = true) →
    ∃ o', Aa (fun K k => Cq.l1 K k fl o (i : Int)) o' ∧ o'.length ≤ fl.length ∧ ∀ v : Int, v ∈ o' ↔ ∃ c : Nat, v = (c : Int) ∧ c < fl.length ∧ fl.getD c false = true
  | 0, i, o, hd, hi, ho, h => by
    obtain rfl : i = fl.length := by omega
    exact ⟨o, Aa.of fun K k => by rw [Cq.l1, if_neg (by omega)], ho, h⟩
  | d + 1, i, o, hd, hi, ho, h => by
    by_cases hc : fl.getD i false = true
    · obtain ⟨o', t, g1, g2⟩ := Ph hl d (i + 1) (o ++ [(i : Int)]) (by omega) (by omega) (by rw [List.length_append]; simp; omega) (fun v => by
        rw [List.mem_append, h, List.mem_singleton]
        constructor
        · rintro (⟨c, a, b, e⟩ | e)
          · exact ⟨c, a, by omega, e⟩
          · exact ⟨i, e, by omega, hc⟩
        · rintro ⟨c, a, b, e⟩
          by_cases e2 : c = i
          · subst e2; exact .inr a
          · exact .inl ⟨c, a, by omega, e⟩)
      refine ⟨o', Aa.step (fun K k => ?_) t, g1, g2⟩
      rw [Cq.l1, if_pos (by omega), if_pos (by omega), Int.toNat_natCast, if_pos hc, if_pos (by omega), Ba (by omega)]
    · obtain ⟨o', t, g1, g2⟩ := Ph hl d (i + 1) o (by omega) (by omega) (by omega) (fun v => by
        rw [h]
        constructor
        · rintro ⟨c, a, b, e⟩; exact ⟨c, a, by omega, e⟩
        · rintro ⟨c, a, b, e⟩
          have : c ≠ i := fun e2 => hc (e2 ▸ e)
          exact ⟨c, a, by omega, e⟩)
      refine ⟨o', Aa.step (fun K k => ?_) t, g1, g2⟩
      rw [Cq.l1, if_pos (by omega), if_pos (by omega), Int.toNat_natCast, if_neg hc, Ba (by omega)]
theorem Ri {fl : List Bool} (hl : fl.length ≤ 100) : ∃ o, Ac (fun K => Cq.f K fl) o ∧ o.length ≤ fl.length ∧ ∀ v : Int, v ∈ o ↔ ∃ c : Nat, v = (c : Int) ∧ c < fl.length ∧ fl.getD c false = true := by
  obtain ⟨o, t, h1, h2⟩ := Ph hl fl.length 0 [] (by omega) (by omega) (by simp) (fun v => ⟨fun h => (List.not_mem_nil h).elim, fun ⟨c, _, h, _⟩ => by omega⟩)
  exact ⟨o, t.G8, h1, h2⟩
section
variable {ts : List (List Ab)} (hv : Val ts)
include hv
def BdL (ts : List (List Ab)) (L : List (List Int)) (D : Nat → Nat → Prop) : Prop :=
  (∀ t, t < L.length → ∃ a f : Nat, a < ts.length ∧ f < 4 ∧ L.getD t [] = [(a : Int), (f : Int)] ∧ (Bv ts a f).Tet < 0) ∧ ∀ a f : Nat, D a f → (Bv ts a f).Tet < 0 → ∃ t, t < L.length ∧ L.getD t [] = [(a : Int), (f : Int)]
theorem bL {a : Nat} (ha : a < ts.length) : ∀ (d f : Nat) (L : List (List Int)), 4 - f = d → f ≤ 4 → L.length ≤ 4 * a + f → BdL ts L (fun a' f' => a' < a ∧ f' < 4 ∨ a' = a ∧ f' < f) →
    ∃ L', L'.length ≤ 4 * (a + 1) ∧ BdL ts L' (fun a' f' => a' < a + 1 ∧ f' < 4) ∧ ∀ R, Aa (fun K k => Cb.l1 K k ts L' ((a + 1 : Nat) : Int)) R → Aa (fun K k => Cb.l4 K k ts (a : Int) L (f : Int)) R
  | 0, f, L, hd, hf, hl, h => by
    obtain rfl : f = 4 := by omega
    have h8 := hv.le
    refine ⟨L, by omega, ⟨h.1, fun a' f' hh => h.2 a' f' (by by_cases e : a' = a; exact .inr ⟨e, hh.2⟩; exact .inl ⟨by omega, hh.2⟩)⟩, fun R hR => Aa.step (fun K k => ?_) hR⟩
    rw [Cb.l4, if_neg (by decide), Ba (by omega)]
  | d + 1, f, L, hd, hf, hl, h => by
    have h8 := hv.le
    have h4 := hv.four a ha
    by_cases hc : (Bv ts a f).Tet < 0
    · obtain ⟨L', g1, g2, g3⟩ := bL ha d (f + 1) (L ++ [[(a : Int), (f : Int)]]) (by omega) (by omega) (by rw [List.length_append]; simp; omega) ⟨fun t ht => by
          rw [List.length_append] at ht
          by_cases e : t < L.length
          · rw [List.getD_eq_getElem?_getD, List.getElem?_append_left e, ← List.getD_eq_getElem?_getD]; exact h.1 t e
          · have : t = L.length := by simp at ht; omega
            refine ⟨a, f, ha, by omega, ?_, hc⟩
            rw [this, List.getD_eq_getElem?_getD, List.getElem?_append_right (Nat.le_refl _), Nat.sub_self]; rfl, fun a' f' hh hb => by
          by_cases e : a' = a ∧ f' = f
          · refine ⟨L.length, by rw [List.length_append]; simp, ?_⟩
            rw [List.getD_eq_getElem?_getD, List.getElem?_append_right (Nat.le_refl _), Nat.sub_self, e.1, e.2]; rfl
          · obtain ⟨t, ht, he⟩ := h.2 a' f' (by rcases hh with hh | hh; exact .inl hh; exact .inr ⟨hh.1, by have := fun e2 => e ⟨hh.1, e2⟩; omega⟩) hb
            exact ⟨t, by rw [List.length_append]; omega, by rw [List.getD_eq_getElem?_getD, List.getElem?_append_left ht, ← List.getD_eq_getElem?_getD]; exact he⟩⟩
      refine ⟨L', g1, g2, fun R hR => Aa.step (fun K k => ?_) (g3 R hR)⟩
      rw [Cb.l4, if_pos (by omega), if_pos (by omega), Int.toNat_natCast, if_pos (by omega), Int.toNat_natCast, Fv]
      show (if (Bv ts a f).Tet < 0 then _ else _) = _
      rw [if_pos hc, if_pos (by omega), Ba (by omega)]
    · obtain ⟨L', g1, g2, g3⟩ := bL ha d (f + 1) L (by omega) (by omega) (by omega) ⟨h.1, fun a' f' hh hb => h.2 a' f' (by
          rcases hh with hh | hh
          · exact .inl hh
          · refine .inr ⟨hh.1, ?_⟩
            have : f' ≠ f := fun e => hc (by rw [← e, ← hh.1]; exact hb)
            omega) hb⟩
      refine ⟨L', g1, g2, fun R hR => Aa.step (fun K k => ?_) (g3 R hR)⟩
      rw [Cb.l4, if_pos (by omega), if_pos (by omega), Int.toNat_natCast, if_pos (by omega), Int.toNat_natCast, Fv]
      show (if (Bv ts a f).Tet < 0 then _ else _) = _
      rw [if_neg hc, Ba (by omega)]
theorem lC : ∀ (d a : Nat) (L : List (List Int)), ts.length - a = d → a ≤ ts.length → L.length ≤ 4 * a → BdL ts L (fun a' f' => a' < a ∧ f' < 4) →
    ∃ L', Aa (fun K k => Cb.l1 K k ts L (a : Int)) L' ∧ L'.length ≤ 4 * ts.length ∧ BdL ts L' (fun a' f' => a' < ts.length ∧ f' < 4)
  | 0, a, L, hd, ha, hl, h => by
    obtain rfl : a = ts.length := by omega
    exact ⟨L, Aa.of fun K k => by rw [Cb.l1, if_neg (by omega)], hl, h⟩
  | d + 1, a, L, hd, ha, hl, h => by
    have h8 := hv.le
    obtain ⟨L1, g1, g2, g3⟩ := bL hv (a := a) (by omega) 4 0 L (by omega) (by omega) (by omega) ⟨h.1, fun a' f' hh hb => h.2 a' f' (by rcases hh with hh | hh; exact hh; omega) hb⟩
    obtain ⟨L', t, k1, k2⟩ := lC d (a + 1) L1 (by omega) (by omega) g1 g2
    refine ⟨L', Aa.step (fun K k => ?_) (g3 _ t), k1, k2⟩
    rw [Cb.l1, if_pos (by omega)]
    rfl
theorem uX : ∃ L, Ac (fun K => Cb.f K ts) L ∧ L.length ≤ 4 * ts.length ∧ BdL ts L (fun a' f' => a' < ts.length ∧ f' < 4) := by
  obtain ⟨L, t, h1, h2⟩ := lC hv ts.length 0 [] (by omega) (by omega) (by simp) ⟨fun t ht => by simp at ht, fun a' f' hh => by omega⟩
  exact ⟨L, t.G8, h1, h2⟩
section
variable {vs ys fs : List Int} {L : List (List Int)} (hL : L.length ≤ 4 * ts.length)
include hL
theorem Xo {a f t : Nat} (ha : a < ts.length) (hf : f < 4) (ht : t < L.length) (hLt : L.getD t [] = [(a : Int), (f : Int)]) {fb vb : List Bool} : ∀ (d e : Nat) (eb : List Bool), 6 - e = d → e ≤ 6 → eb.length = Cx ys (6 * ts.length) →
    ∃ eb', eb'.length = Cx ys (6 * ts.length) ∧ (∀ c : Nat, eb'.getD c false = true ↔ eb.getD c false = true ∨ ∃ e', e ≤ e' ∧ e' < 6 ∧ EA e' ≠ f ∧ EB e' ≠ f ∧ (CN (6 * ts.length) ys).getD (6 * a + e') 0 = (c : Int)) ∧
      ∀ R, Aa (fun K k => Av.l1 K k (rowsOf (CN (4 * ts.length) vs) 4 ts.length) (rowsOf (CN (6 * ts.length) ys) 6 ts.length) (rowsOf (CN (4 * ts.length) fs) 4 ts.length) L vb eb' (fb.set ((CN (4 * ts.length) fs).getD (4 * a + f) 0).toNat true) ((t + 1 : Nat) : Int)) R →
        Aa (fun K k => Av.l10 K k (rowsOf (CN (4 * ts.length) vs) 4 ts.length) (rowsOf (CN (6 * ts.length) ys) 6 ts.length) (rowsOf (CN (4 * ts.length) fs) 4 ts.length) L fb (t : Int) vb eb (e : Int)) R
  | 0, e, eb, hd, he, hl => by
    obtain rfl : e = 6 := by omega
    have h8 := hv.le
    refine ⟨eb, hl, fun c => ⟨fun h => .inl h, fun h => h.elim id (fun ⟨e', a1, a2, _⟩ => by omega)⟩, fun R hR => Aa.step (fun K k => ?_) hR⟩
    rw [Av.l10, if_neg (by decide), Int.toNat_natCast, hLt]
    show Av.l1 K k _ _ _ L vb eb (fb.set (((rowsOf (CN (4 * ts.length) fs) 4 ts.length).getD (a : Int).toNat []).getD (f : Int).toNat 0).toNat true) (w64 ((t : Int) + 1)) = _
    rw [Int.toNat_natCast, Int.toNat_natCast, Ia ha, Jd hf, Ba (by omega)]
  | d + 1, e, eb, hd, he, hl => by
    have h8 := hv.le
    have he6 : e < 6 := by omega
    have hin : 6 * a + e < 6 * ts.length := mul_lt ha he6
    have hr := I9 (s := ys) (N := 6 * ts.length) (by omega) hin
    obtain ⟨c0, hc0⟩ : ∃ c : Nat, (CN (6 * ts.length) ys).getD (6 * a + e) 0 = (c : Int) := ⟨((CN (6 * ts.length) ys).getD (6 * a + e) 0).toNat, by omega⟩
    have hleE := Hr ys (6 * ts.length)
    by_cases hc : EA e = f ∨ EB e = f
    · obtain ⟨eb', g1, g2, g3⟩ := Xo ha hf ht hLt (fb := fb) (vb := vb) d (e + 1) eb (by omega) (by omega) hl
      refine ⟨eb', g1, fun c => ?_, fun R hR => Aa.step (fun K k => ?_) (g3 R hR)⟩
      · rw [g2 c]
        constructor
        · rintro (h | ⟨e', a1, a2⟩)
          · exact .inl h
          · exact .inr ⟨e', by omega, a2⟩
        · rintro (h | ⟨e', a1, a2, a3, a4, a5⟩)
          · exact .inl h
          · have : e' ≠ e := fun e2 => by subst e2; rcases hc with hc | hc <;> contradiction
            exact .inr ⟨e', by omega, a2, a3, a4, a5⟩
      · rw [Av.l10, if_pos (by omega), Ns he6, Int.toNat_natCast, hLt, Ba (by omega)]
        show (if ((EA e : Nat) : Int) = (f : Int) then _ else if ((EB e : Nat) : Int) = (f : Int) then _ else _) = _
        by_cases h1 : EA e = f
        · rw [if_pos (by omega)]
        · rw [if_neg (by omega), if_pos (by omega)]
    · obtain ⟨eb', g1, g2, g3⟩ := Xo ha hf ht hLt (fb := fb) (vb := vb) d (e + 1) (eb.set c0 true) (by omega) (by omega) (by rw [List.length_set]; exact hl)
      refine ⟨eb', g1, fun c => ?_, fun R hR => Aa.step (fun K k => ?_) (g3 R hR)⟩
      · rw [g2 c, Vx (by omega)]
        by_cases e2 : c0 = c
        · rw [if_pos e2]
          exact ⟨fun _ => .inr ⟨e, Nat.le_refl _, he6, fun h => hc (.inl h), fun h => hc (.inr h), by rw [hc0, e2]⟩, fun _ => .inl rfl⟩
        · rw [if_neg e2]
          constructor
          · rintro (h | ⟨e', a1, a2⟩)
            · exact .inl h
            · exact .inr ⟨e', by omega, a2⟩
          · rintro (h | ⟨e', a1, a2, a3, a4, a5⟩)
            · exact .inl h
            · have : e' ≠ e := fun e3 => e2 (by subst e3; rw [hc0] at a5; omega)
              exact .inr ⟨e', by omega, a2, a3, a4, a5⟩
      · rw [Av.l10, if_pos (by omega), Ns he6, Int.toNat_natCast, hLt, Ba (by omega)]
        show (if ((EA e : Nat) : Int) = (f : Int) then _ else if ((EB e : Nat) : Int) = (f : Int) then _ else (if 0 ≤ (a : Int) ∧ (a : Int) < _ then (if 0 ≤ (e : Int) ∧ (e : Int) < (((rowsOf (CN (6 * ts.length) ys) 6 ts.length).getD (a : Int).toNat []).length : Int) then (if 0 ≤ ((rowsOf (CN (6 * ts.length) ys) 6 ts.length).getD (a : Int).toNat []).getD (e : Int).toNat 0 ∧ ((rowsOf (CN (6 * ts.length) ys) 6 ts.length).getD (a : Int).toNat []).getD (e : Int).toNat 0 < _ then Av.l10 K k _ _ _ L fb (t : Int) vb (eb.set (((rowsOf (CN (6 * ts.length) ys) 6 ts.length).getD (a : Int).toNat []).getD (e : Int).toNat 0).toNat true) _ else none) else none) else none)) = _
        rw [if_neg (by omega), if_neg (by omega), if_pos (by rw [Gn]; omega), Int.toNat_natCast, Ia ha, if_pos (by rw [Jk]; omega), Int.toNat_natCast, Jd he6, hc0, if_pos (by omega), Int.toNat_natCast]
end
end
end Go.Proofs.YtbjfinndngafoaaGreat
