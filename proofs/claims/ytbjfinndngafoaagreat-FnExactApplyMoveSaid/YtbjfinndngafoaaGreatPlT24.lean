/-
  The reference's boundary classes, whole.
  Triangulations: the corner behind a corner around its edge.
  Triangulations: where the ring around an edge's class begins.
  Triangulations: the ring around an edge's class that touches no boundary.
  Triangulations: what the moves 2-3 and 1-4 plan.
  Triangulations: what the move 3-2 plans.
  Triangulations: the move 3-2, whole.
  Triangulations: the move 3-2 in both.
  Triangulations: the tetrahedra around a vertex that is to go.
-/
import Derived.Test.YtbjfinndngafoaaGreatPlT15
set_option linter.unusedVariables false
set_option linter.unusedSimpArgs false
set_option linter.unusedSectionVars false
namespace Go.Proofs.YtbjfinndngafoaaGreat
open Go.RowKit
section
variable {ts : List (List Ab)} (hv : Val ts)
include hv
section
variable {vs ys fs : List Int} {L : List (List Int)} (hL : L.length ≤ 4 * ts.length)
include hL
theorem dO {a f t : Nat} (ha : a < ts.length) (hf : f < 4) (ht : t < L.length) (hLt : L.getD t [] = [(a : Int), (f : Int)]) {fb eb : List Bool} : ∀ (d v : Nat) (vb : List Bool), 4 - v = d → v ≤ 4 → vb.length = Cx vs (4 * ts.length) →
    ∃ vb', vb'.length = Cx vs (4 * ts.length) ∧ ∀ R, Aa (fun K k => Av.l10 K k (rowsOf (CN (4 * ts.length) vs) 4 ts.length) (rowsOf (CN (6 * ts.length) ys) 6 ts.length) (rowsOf (CN (4 * ts.length) fs) 4 ts.length) L fb (t : Int) vb' eb 0) R →
        Aa (fun K k => Av.l8 K k (rowsOf (CN (4 * ts.length) vs) 4 ts.length) (rowsOf (CN (6 * ts.length) ys) 6 ts.length) (rowsOf (CN (4 * ts.length) fs) 4 ts.length) L eb fb (t : Int) vb (v : Int)) R
  | 0, v, vb, hd, he, hl => by
    obtain rfl : v = 4 := by omega
    refine ⟨vb, hl, fun R hR => Aa.step (fun K k => ?_) hR⟩
    rw [Av.l8, if_neg (by decide)]
  | d + 1, v, vb, hd, he, hl => by
    have h8 := hv.le
    have hv4 : v < 4 := by omega
    have hin : 4 * a + v < 4 * ts.length := mul_lt ha hv4
    have hr := I9 (s := vs) (N := 4 * ts.length) (by omega) hin
    obtain ⟨c0, hc0⟩ : ∃ c : Nat, (CN (4 * ts.length) vs).getD (4 * a + v) 0 = (c : Int) := ⟨((CN (4 * ts.length) vs).getD (4 * a + v) 0).toNat, by omega⟩
    by_cases hc : v = f
    · obtain ⟨vb', g1, g3⟩ := dO ha hf ht hLt (fb := fb) (eb := eb) d (v + 1) vb (by omega) (by omega) hl
      refine ⟨vb', g1, fun R hR => Aa.step (fun K k => ?_) (g3 R hR)⟩
      rw [Av.l8, if_pos (by omega), Int.toNat_natCast, hLt, Ba (by omega)]
      show (if (v : Int) = (f : Int) then _ else _) = _
      rw [if_pos (by omega)]
    · obtain ⟨vb', g1, g3⟩ := dO ha hf ht hLt (fb := fb) (eb := eb) d (v + 1) (vb.set c0 true) (by omega) (by omega) (by rw [List.length_set]; exact hl)
      refine ⟨vb', g1, fun R hR => Aa.step (fun K k => ?_) (g3 R hR)⟩
      rw [Av.l8, if_pos (by omega), Int.toNat_natCast, hLt, Ba (by omega)]
      show (if (v : Int) = (f : Int) then _ else (if 0 ≤ (a : Int) ∧ (a : Int) < _ then (if 0 ≤ (v : Int) ∧ (v : Int) < (((rowsOf (CN (4 * ts.length) vs) 4 ts.length).getD (a : Int).toNat []).length : Int) then (if 0 ≤ ((rowsOf (CN (4 * ts.length) vs) 4 ts.length).getD (a : Int).toNat []).getD (v : Int).toNat 0 ∧ ((rowsOf (CN (4 * ts.length) vs) 4 ts.length).getD (a : Int).toNat []).getD (v : Int).toNat 0 < _ then Av.l8 K k _ _ _ L eb fb (t : Int) (vb.set (((rowsOf (CN (4 * ts.length) vs) 4 ts.length).getD (a : Int).toNat []).getD (v : Int).toNat 0).toNat true) _ else none) else none) else none)) = _
      rw [if_neg (by omega), if_pos (by rw [Gn]; omega), Int.toNat_natCast, Ia ha, if_pos (by rw [Jk]; omega), Int.toNat_natCast, Jd hv4, hc0, if_pos (by omega), Int.toNat_natCast]
theorem lF (hB : BdL ts L (fun a' f' => a' < ts.length ∧ f' < 4)) : ∀ (d t : Nat) (vb eb fb : List Bool), L.length - t = d → t ≤ L.length → vb.length = Cx vs (4 * ts.length) → eb.length = Cx ys (6 * ts.length) → fb.length = Cx fs (4 * ts.length) →
      (∀ c : Nat, eb.getD c false = true ↔ ∃ t', t' < t ∧ ∃ a f e : Nat, a < ts.length ∧ f < 4 ∧ e < 6 ∧ L.getD t' [] = [(a : Int), (f : Int)] ∧ (Bv ts a f).Tet < 0 ∧ EA e ≠ f ∧ EB e ≠ f ∧ (CN (6 * ts.length) ys).getD (6 * a + e) 0 = (c : Int)) →
    ∃ V E F, Aa (fun K k => Av.l1 K k (rowsOf (CN (4 * ts.length) vs) 4 ts.length) (rowsOf (CN (6 * ts.length) ys) 6 ts.length) (rowsOf (CN (4 * ts.length) fs) 4 ts.length) L vb eb fb (t : Int)) (V, E, F) ∧ E.length ≤ 100 ∧
      ∀ v : Int, v ∈ E ↔ ∃ c : Nat, v = (c : Int) ∧ c < Cx ys (6 * ts.length) ∧ ∃ t', t' < L.length ∧ ∃ a f e : Nat, a < ts.length ∧ f < 4 ∧ e < 6 ∧ L.getD t' [] = [(a : Int), (f : Int)] ∧ (Bv ts a f).Tet < 0 ∧ EA e ≠ f ∧ EB e ≠ f ∧ (CN (6 * ts.length) ys).getD (6 * a + e) 0 = (c : Int)
  | 0, t, vb, eb, fb, hd, ht, l1, l2, l3, h => by
    obtain rfl : t = L.length := by omega
    have h8 := hv.le
    have u1 := Hr vs (4 * ts.length)
    have u2 := Hr ys (6 * ts.length)
    have u3 := Hr fs (4 * ts.length)
    obtain ⟨V, tV, _, _⟩ := Ri (fl := vb) (by omega)
    obtain ⟨E, tE, g1, g2⟩ := Ri (fl := eb) (by omega)
    obtain ⟨F, tF, _, _⟩ := Ri (fl := fb) (by omega)
    refine ⟨V, E, F, Aa.step (G := fun K k => (Cq.f K vb).bind fun t412 => (Cq.f K eb).bind fun t418 => (Cq.f K fb).bind fun t424 => some (t412, t418, t424)) (fun K k => by rw [Av.l1, if_neg (by omega)]) (Aa.bind (G := fun K k t412 => (Cq.f K eb).bind fun t418 => (Cq.f K fb).bind fun t424 => some (t412, t418, t424)) tV.two (Aa.bind (G := fun K k t418 => (Cq.f K fb).bind fun t424 => some (V, t418, t424)) tE.two (Aa.bind (G := fun K k t424 => some (V, E, t424)) tF.two (Aa.const _)))), by omega, fun v => ?_⟩
    rw [g2]
    constructor
    · rintro ⟨c, a, b, e⟩; exact ⟨c, a, by omega, (h c).1 e⟩
    · rintro ⟨c, a, b, e⟩; exact ⟨c, a, by omega, (h c).2 e⟩
  | d + 1, t, vb, eb, fb, hd, ht, l1, l2, l3, h => by
    have h8 := hv.le
    have hlt : t < L.length := by omega
    obtain ⟨a, f, ha, hf, hLt, hbd⟩ := hB.1 t hlt
    have hin : 4 * a + f < 4 * ts.length := mul_lt ha hf
    have hr := I9 (s := fs) (N := 4 * ts.length) (by omega) hin
    obtain ⟨vb', k1, k2⟩ := dO hv hL (ys := ys) (fs := fs) ha hf hlt hLt (fb := fb) (eb := eb) 4 0 vb (by omega) (by omega) l1
    obtain ⟨eb', k3, k4, k5⟩ := Xo hv hL (vs := vs) (fs := fs) ha hf hlt hLt (fb := fb) (vb := vb') 6 0 eb (by omega) (by omega) l2
    obtain ⟨V, E, F, tt, g1, g2⟩ := lF hB d (t + 1) vb' eb' (fb.set ((CN (4 * ts.length) fs).getD (4 * a + f) 0).toNat true) (by omega) (by omega) k1 k3 (by rw [List.length_set]; exact l3) (fun c => by
      rw [k4 c, h c]
      constructor
      · rintro (⟨t', b1, b2⟩ | ⟨e', b1, b2, b3, b4, b5⟩)
        · exact ⟨t', by omega, b2⟩
        · exact ⟨t, by omega, a, f, e', ha, hf, b2, hLt, hbd, b3, b4, b5⟩
      · rintro ⟨t', b1, a', f', e', b2, b3, b4, b5, b6, b7⟩
        by_cases e2 : t' = t
        · subst e2
          rw [hLt] at b5
          injection b5 with c1 c2
          injection c2 with c2 _
          obtain rfl : a = a' := by omega
          obtain rfl : f = f' := by omega
          exact .inr ⟨e', by omega, b4, b7⟩
        · exact .inl ⟨t', by omega, a', f', e', b2, b3, b4, b5, b6, b7⟩)
    refine ⟨V, E, F, Aa.step (fun K k => ?_) (k2 _ (k5 _ tt)), g1, g2⟩
    rw [Av.l1, if_pos (by omega), if_pos (by omega), Int.toNat_natCast, hLt]
    show (if 0 ≤ (0 : Int) ∧ (0 : Int) < 2 then (if 0 ≤ (1 : Int) ∧ (1 : Int) < 2 then (if 0 ≤ (a : Int) ∧ (a : Int) < _ then (if 0 ≤ (f : Int) ∧ (f : Int) < (((rowsOf (CN (4 * ts.length) fs) 4 ts.length).getD (a : Int).toNat []).length : Int) then (if 0 ≤ ((rowsOf (CN (4 * ts.length) fs) 4 ts.length).getD (a : Int).toNat []).getD (f : Int).toNat 0 ∧ ((rowsOf (CN (4 * ts.length) fs) 4 ts.length).getD (a : Int).toNat []).getD (f : Int).toNat 0 < _ then _ else none) else none) else none) else none) else none) = _
    rw [if_pos (by decide), if_pos (by decide), if_pos (by rw [Gn]; omega), Int.toNat_natCast, Ia ha, if_pos (by rw [Jk]; omega), Int.toNat_natCast, Jd hf, if_pos (by omega)]
    rfl
end
theorem uV (hT : Ac (fun K => Ah.f K ts) true) {vs ys fs : List Int} (hc : Ac (fun K => Ay.f K ts) (rowsOf (CN (4 * ts.length) vs) 4 ts.length, rowsOf (CN (6 * ts.length) ys) 6 ts.length, rowsOf (CN (4 * ts.length) fs) 4 ts.length, [(Cx vs (4 * ts.length) : Int), (Cx ys (6 * ts.length) : Int), (Cx fs (4 * ts.length) : Int), (ts.length : Int)])) :
    ∃ V E F, Ac (fun K => Av.f K ts) (V, E, F) ∧ E.length ≤ 100 ∧ ∀ j, j < 6 * ts.length → ((CN (6 * ts.length) ys).getD j 0 ∈ E ↔ ∃ j', j' < 6 * ts.length ∧ (CN (6 * ts.length) ys).getD j' 0 = (CN (6 * ts.length) ys).getD j 0 ∧ ∃ f, bdE ts j' f) := by
  have h8 := hv.le
  have u1 := Hr vs (4 * ts.length)
  have u2 := Hr ys (6 * ts.length)
  have u3 := Hr fs (4 * ts.length)
  obtain ⟨L, tL, hL, hB⟩ := uX hv
  have hrep : ∀ (m j : Nat), (List.replicate m false).getD j false = false := fun m j => by rw [List.getD_eq_getElem?_getD, List.getElem?_replicate]; split <;> rfl
  obtain ⟨V, E, F, t, g1, g2⟩ := lF hv hL (vs := vs) (ys := ys) (fs := fs) hB L.length 0 (List.replicate (Cx vs (4 * ts.length)) false) (List.replicate (Cx ys (6 * ts.length)) false) (List.replicate (Cx fs (4 * ts.length)) false) (by omega) (by omega) (by simp) (by simp) (by simp) (fun c => by rw [hrep]; exact ⟨fun h => (by cases h), fun ⟨t', h, _⟩ => by omega⟩)
  refine ⟨V, E, F, Ac.bind hT (Ac.pos rfl (Ac.Eb hc (Ac.pos (by simp) (Ac.pos ?_ (Ac.pos ?_ (Ac.pos (by simp) (Ac.pos ?_ (Ac.pos ?_ (Ac.pos (by simp) (Ac.pos ?_ (Ac.pos ?_ (Ac.bind tL ?_)))))))))))), g1, fun j hj => ?_⟩
  · show 0 ≤ (Cx vs (4 * ts.length) : Int); omega
  · show (Cx vs (4 * ts.length) : Int).toNat * 1 ≤ _; omega
  · show 0 ≤ (Cx ys (6 * ts.length) : Int); omega
  · show (Cx ys (6 * ts.length) : Int).toNat * 1 ≤ _; omega
  · show 0 ≤ (Cx fs (4 * ts.length) : Int); omega
  · show (Cx fs (4 * ts.length) : Int).toNat * 1 ≤ _; omega
  · exact t.G8
  · rw [g2]
    have hr := I9 (s := ys) (N := 6 * ts.length) (by omega) hj
    constructor
    · rintro ⟨c, e1, e2, t', b1, a, f, e, b2, b3, b4, b5, b6, b7, b8, b9⟩
      refine ⟨6 * a + e, mul_lt b2 b4, by rw [b9, e1], f, b3, ?_⟩
      rw [(de6 b4).1, (de6 b4).2]
      exact ⟨b7, b8, b6⟩
    · rintro ⟨j', a1, a2, f, b1, b2, b3, b4⟩
      obtain ⟨t', c1, c2⟩ := hB.2 (j' / 6) f ⟨by omega, b1⟩ b4
      refine ⟨((CN (6 * ts.length) ys).getD j 0).toNat, by omega, by omega, t', c1, j' / 6, f, j' % 6, by omega, b1, by omega, c2, b4, b2, b3, ?_⟩
      rw [show 6 * (j' / 6) + j' % 6 = j' by omega, a2]; omega
end
theorem Yg {a b c d : Nat} (ha : a < 4) (hb : b < 4) (hc : c < 4) (hd : d < 4) (h : a ≠ b ∧ a ≠ c ∧ a ≠ d ∧ b ≠ c ∧ b ≠ d ∧ c ≠ d) : Ac (fun K => Cf.f K (a : Int) (b : Int) (c : Int) (d : Int)) (PX a b c d : Int) := by
  obtain ⟨h1, h2, h3, h4, h5⟩ := dW ha hb hc hd h
  have := Pv h1
  rw [h2, h3, h4, h5] at this
  exact this
theorem aN {a b c d : Nat} (ha : a < 4) (hb : b < 4) (hc : c < 4) (hd : d < 4) (h : a ≠ b ∧ a ≠ c ∧ a ≠ d ∧ b ≠ c ∧ b ≠ d ∧ c ≠ d) : Ac (fun K => Ci.f K [(a : Int), (b : Int), (c : Int), (d : Int)]) (PX a b c d : Int) := by
  obtain ⟨h1, h2, h3, h4, h5⟩ := dW ha hb hc hd h
  have := Zp h1
  rw [h2, h3, h4, h5] at this
  exact this
def NP (q p : Nat) : Nat := PX (PA q (PA p 0)) (PA q (PA p 1)) (PA q (PA p 3)) (PA q (PA p 2))
theorem Io {p j k : Nat} (hp : p < 24) (hj : j < 4) (hk : k < 4) (h : j ≠ k) : PA p j ≠ PA p k := fun e => h (Rp hp hj hk e)
theorem J7 {p q j k : Nat} (hp : p < 24) (hq : q < 24) (hj : j < 4) (hk : k < 4) (h : j ≠ k) : PA q (PA p j) ≠ PA q (PA p k) := Io hq (D6 hp hj) (D6 hp hk) (Io hp hj hk h)
theorem Zz {p q : Nat} (hp : p < 24) (hq : q < 24) : NP q p < 24 ∧ PA (NP q p) 0 = PA q (PA p 0) ∧ PA (NP q p) 1 = PA q (PA p 1) ∧ PA (NP q p) 2 = PA q (PA p 3) ∧ PA (NP q p) 3 = PA q (PA p 2) :=
  dW (D6 hq (D6 hp (by omega))) (D6 hq (D6 hp (by omega))) (D6 hq (D6 hp (by omega))) (D6 hq (D6 hp (by omega)))
    ⟨J7 hp hq (by omega) (by omega) (by omega), J7 hp hq (by omega) (by omega) (by omega), J7 hp hq (by omega) (by omega) (by omega), J7 hp hq (by omega) (by omega) (by omega), J7 hp hq (by omega) (by omega) (by omega), J7 hp hq (by omega) (by omega) (by omega)⟩
def nx (ts : List (List Ab)) (c : Nat × Nat) : Option (Nat × Nat) :=
  if (Bv ts c.1 (PA c.2 2)).Tet < 0 then none else some ((Bv ts c.1 (PA c.2 2)).Tet.toNat, NP (Bv ts c.1 (PA c.2 2)).Perm.toNat c.2)
def aft : Option (Nat × Nat) → Int × Int × Bool
  | none => (0, 0, false)
  | some c => ((c.1 : Int), (c.2 : Int), true)
section
variable {ts : List (List Ab)} (hv : Val ts)
include hv
theorem Ma {a p : Nat} (ha : a < ts.length) (hp : p < 24) : ((Bv ts a (PA p 2)).Tet < 0 ∧ nx ts (a, p) = none) ∨ (¬ (Bv ts a (PA p 2)).Tet < 0 ∧ ∃ b q : Nat, b < ts.length ∧ q < 24 ∧ Bv ts a (PA p 2) = ⟨b, q⟩ ∧ Jr ts a (PA p 2) b q ∧ nx ts (a, p) = some (b, NP q p)) := by
  unfold nx
  rcases Ea hv ha (D6 hp (show 2 < 4 by omega)) with ⟨g1, g2⟩ | ⟨g1, b, q, hb, hq, g2, g3⟩
  · exact .inl ⟨g1, by rw [if_pos g1]⟩
  · refine .inr ⟨g1, b, q, hb, hq, g2, g3, ?_⟩
    rw [if_neg g1, g2]; rfl
theorem jY {a p : Nat} (ha : a < ts.length) (hp : p < 24) : Ac (fun K => Eu.f K ts (a : Int) (p : Int)) (aft (nx ts (a, p))) := by
  have h2 : PA p 2 < 4 := D6 hp (by omega)
  have h0 : PA p 0 < 4 := D6 hp (by omega)
  have h1 : PA p 1 < 4 := D6 hp (by omega)
  have h3 : PA p 3 < 4 := D6 hp (by omega)
  have hr := hv.four a ha
  refine Ac.Eb (J9 hp) ?_
  refine Ac.pos (by omega) ?_
  rw [Int.toNat_natCast]
  refine Ac.pos (by omega) ?_
  rw [Int.toNat_natCast]
  show Ac (fun K => if decide ((Bv ts a (PA p 2)).Tet < 0) = true then _ else _) _
  rcases Ma hv ha hp with ⟨g1, g2⟩ | ⟨g1, b, q, hb, hq, g2, g3, g4⟩
  · rw [g2]; exact Ac.pos (decide_eq_true g1) (Ac.const _)
  · rw [g4]
    refine Ac.neg (by rw [decide_eq_true_eq]; exact g1) ?_
    show Ac (fun K => Go.Proofs.YtbjfinndngafoaaGreat.Eb (Ct.f K (Bv ts a (PA p 2)).Perm) _) _
    rw [g2]
    refine Ac.Eb (J9 hq) (Ac.pos (by omega) (Ac.pos (by omega) (Ac.pos (by omega) (Ac.pos (by omega) ?_))))
    have e2 := Rj (p := q) h2
    rw [Int.toNat_natCast] at e2
    rw [Rj h0, Rj h1, e2, Rj h3]
    refine Ac.bind (Yg (D6 hq h0) (D6 hq h1) (D6 hq h3) (D6 hq h2) ⟨J7 hp hq (by omega) (by omega) (by omega), J7 hp hq (by omega) (by omega) (by omega), J7 hp hq (by omega) (by omega) (by omega), J7 hp hq (by omega) (by omega) (by omega), J7 hp hq (by omega) (by omega) (by omega), J7 hp hq (by omega) (by omega) (by omega)⟩) ?_
    show Ac (fun K => some ((Bv ts a (PA p 2)).Tet, _, true)) _
    rw [g2]
    exact Ac.const _
omit hv in
theorem Mo {p q : Nat} (hp : p < 24) (hq : q < 24) {t : Int} {im : List Int} {k s : Nat} {R : Int × Int × Bool} (hk : k < 4) (hs : s < 4) (hks : ([0, 1, 3, 2] : List Int).getD k 0 = (s : Int)) (hl : im.length ≤ 10)
    (h : Aa (fun K k' => Dj.l1 K k' (p : Int) ⟨t, (q : Int)⟩ (im ++ [(PA q (PA p s) : Int)]) ((k + 1 : Nat) : Int)) R) : Aa (fun K k' => Dj.l1 K k' (p : Int) ⟨t, (q : Int)⟩ im (k : Int)) R := by
  refine Aa.step (G := fun K k' => (Be.f K (p : Int) (s : Int)).bind fun t69 => ((Be.f K (q : Int) t69).bind fun t73 => (if (im.length + 1) * 8 ≤ 140737488355328 then (Dj.l1 K k' (p : Int) ⟨t, (q : Int)⟩ (im ++ [t73]) ((k + 1 : Nat) : Int)) else none))) (fun K k' => ?_) ?_
  · rw [Dj.l1, if_pos (by omega), if_pos (by show 0 ≤ (k : Int) ∧ (k : Int) < 4; omega), Int.toNat_natCast, hks, Ba (by omega)]
  · exact Aa.bind (G := fun K k' t69 => (Be.f K (q : Int) t69).bind fun t73 => (if (im.length + 1) * 8 ≤ 140737488355328 then (Dj.l1 K k' (p : Int) ⟨t, (q : Int)⟩ (im ++ [t73]) ((k + 1 : Nat) : Int)) else none)) (K6 hp hs).two (Aa.bind (G := fun K k' t73 => if (im.length + 1) * 8 ≤ 140737488355328 then (Dj.l1 K k' (p : Int) ⟨t, (q : Int)⟩ (im ++ [t73]) ((k + 1 : Nat) : Int)) else none) (K6 hq (D6 hp hs)).two (Aa.pos (by omega) h))
theorem iT {a p : Nat} (ha : a < ts.length) (hp : p < 24) : Ac (fun K => Dj.f K ts (a : Int) (p : Int)) (aft (nx ts (a, p))) := by
  have h2 : PA p 2 < 4 := D6 hp (by omega)
  have h0 : PA p 0 < 4 := D6 hp (by omega)
  have h1 : PA p 1 < 4 := D6 hp (by omega)
  have h3 : PA p 3 < 4 := D6 hp (by omega)
  have hr := hv.four a ha
  refine Ac.pos (by omega) (Ac.bind (K6 hp (show 2 < 4 by omega)) ?_)
  simp only [Int.toNat_natCast]
  refine Ac.pos (by omega) ?_
  show Ac (fun K => if (Bv ts a (PA p 2)).Tet < 0 then _ else Dj.l1 K K (p : Int) (Bv ts a (PA p 2)) _ _) _
  rcases Ma hv ha hp with ⟨g1, g2⟩ | ⟨g1, b, q, hb, hq, g2, g3, g4⟩
  · rw [g2]; exact Ac.pos g1 (Ac.const _)
  · rw [g4]
    refine Ac.neg g1 ?_
    rw [g2]
    refine Aa.G8 (F := fun K k => Dj.l1 K k (p : Int) ⟨(b : Int), (q : Int)⟩ [] ((0 : Nat) : Int)) ?_
    refine Mo hp hq (s := 0) (by omega) (by omega) rfl (by simp) ?_
    refine Mo hp hq (s := 1) (by omega) (by omega) rfl (by simp) ?_
    refine Mo hp hq (s := 3) (by omega) (by omega) rfl (by simp) ?_
    refine Mo hp hq (s := 2) (by omega) (by omega) rfl (by simp) ?_
    refine Aa.step (G := fun K k' => (Ci.f K [(PA q (PA p 0) : Int), (PA q (PA p 1) : Int), (PA q (PA p 3) : Int), (PA q (PA p 2) : Int)]).bind fun t83 => some ((b : Int), t83, true)) (fun K k' => by rw [Dj.l1, if_neg (by decide)]; rfl) ?_
    exact Aa.bind (G := fun K k' t83 => some ((b : Int), t83, true)) (aN (D6 hq h0) (D6 hq h1) (D6 hq h3) (D6 hq h2) ⟨J7 hp hq (by omega) (by omega) (by omega), J7 hp hq (by omega) (by omega) (by omega), J7 hp hq (by omega) (by omega) (by omega), J7 hp hq (by omega) (by omega) (by omega), J7 hp hq (by omega) (by omega) (by omega), J7 hp hq (by omega) (by omega) (by omega)⟩).two (Aa.const _)
theorem nK {a p a' p' : Nat} {c : Nat × Nat} (ha : a < ts.length) (hp : p < 24) (ha' : a' < ts.length) (hp' : p' < 24) (h : nx ts (a, p) = some c) (h' : nx ts (a', p') = some c) : a = a' ∧ p = p' := by
  rcases Ma hv ha hp with ⟨g1, g2⟩ | ⟨g1, b, q, hb, hq, g2, g3, g4⟩
  · rw [g2] at h; cases h
  rcases Ma hv ha' hp' with ⟨k1, k2⟩ | ⟨k1, b', q', hb', hq', k2, k3, k4⟩
  · rw [k2] at h'; cases h'
  rw [g4] at h
  rw [k4] at h'
  injection h with h
  injection h' with h'
  rw [← h'] at h
  injection h with e1 e2
  subst e1
  obtain ⟨n0, n1, n2, n3, n4⟩ := Zz hp hq
  obtain ⟨m0, m1, m2, m3, m4⟩ := Zz hp' hq'
  rw [← e2] at m1 m2 m3 m4
  have f1 := g3.2.2.2.1
  have f2 := k3.2.2.2.1
  have e3 : PA q (PA p 2) = PA q' (PA p' 2) := by omega
  rw [e3, f2] at f1
  injection f1 with f1 f3
  have e4 : a = a' := by omega
  have e5 : PI q = PI q' := by omega
  have e6 : q = q' := by rw [← Wu hq, e5, Wu hq']
  subst e6
  refine ⟨e4, bE hp hp' fun k hk => ?_⟩
  have up : ∀ j, j < 4 → PA q (PA p j) = PA q (PA p' j) → PA p j = PA p' j := fun j hj e => Rp hq (D6 hp hj) (D6 hp' hj) e
  rcases (by omega : k = 0 ∨ k = 1 ∨ k = 2 ∨ k = 3) with rfl | rfl | rfl | rfl
  · exact up 0 (by omega) (by omega)
  · exact up 1 (by omega) (by omega)
  · exact up 2 (by omega) (by omega)
  · exact up 3 (by omega) (by omega)
end
def ST (e : Nat) : Nat := [0, 2, 4, 8, 10, 16].getD e 0
theorem qD {e : Nat} (he : e < 6) : ST e < 24 ∧ PA (ST e) 0 = EA e ∧ PA (ST e) 1 = EB e ∧ EE (PA (ST e) 0) (PA (ST e) 1) = e := by
  have : ∀ e, e < 6 → ST e < 24 ∧ PA (ST e) 0 = EA e ∧ PA (ST e) 1 = EB e ∧ EE (PA (ST e) 0) (PA (ST e) 1) = e := by decide +kernel
  exact this e he
theorem Z0 : (fun (K : Nat) (r : Int) => (List.range 6).map fun e : Nat => Go.Proofs.YtbjfinndngafoaaGreat.Eg (Fq.f (K + 150) (e : Int)) (fun t412 t413 => ((Eo.f (K + 150) ([t412, t413] : List Int)).bind fun t419 => (if 0 ≤ (0 : Int) ∧ (0 : Int) < (t419.length : Int) then (if 0 ≤ (1 : Int) ∧ (1 : Int) < (t419.length : Int) then ((Cf.f (K + 150) t412 t413 (t419.getD 0 0) (t419.getD 1 0)).bind fun t429 => (some (r, t429))) else none) else none)))) = fun K r => (List.range 6).map fun e : Nat => some (r, (ST e : Int)) := by kernel_rfl
theorem gJ {e : Nat} (he : e < 6) (r : Int) : Ac (fun K => Go.Proofs.YtbjfinndngafoaaGreat.Eg (Fq.f K (e : Int)) (fun t412 t413 => ((Eo.f K ([t412, t413] : List Int)).bind fun t419 => (if 0 ≤ (0 : Int) ∧ (0 : Int) < (t419.length : Int) then (if 0 ≤ (1 : Int) ∧ (1 : Int) < (t419.length : Int) then ((Cf.f K t412 t413 (t419.getD 0 0) (t419.getD 1 0)).bind fun t429 => (some (r, t429))) else none) else none)))) (r, (ST e : Int)) :=
  tab (F := fun K e => Go.Proofs.YtbjfinndngafoaaGreat.Eg (Fq.f K (e : Int)) (fun t412 t413 => ((Eo.f K ([t412, t413] : List Int)).bind fun t419 => (if 0 ≤ (0 : Int) ∧ (0 : Int) < (t419.length : Int) then (if 0 ≤ (1 : Int) ∧ (1 : Int) < (t419.length : Int) then ((Cf.f K t412 t413 (t419.getD 0 0) (t419.getD 1 0)).bind fun t429 => (some (r, t429))) else none) else none)))) (g := fun e => (r, (ST e : Int))) (m := 150) (n := 6) (funext fun K => congrFun (congrFun Z0 K) r) he
theorem tO {e : Nat} (he : e < 6) : Ac (fun K => Bw.f K [0, 1] [(EA e : Int), (EB e : Int)]) ((ST e : Int), true) :=
  tab (F := fun K e => Bw.f K [0, 1] [(EA e : Int), (EB e : Int)]) (g := fun e => ((ST e : Int), true)) (m := 120) (n := 6) (by kernel_rfl) he
theorem Sd {l : List Int} (hl : l.length ≤ 1000) {v : Int} {j0 : Nat} (hj : j0 < l.length) (h0 : l.getD j0 0 = v) (h1 : ∀ j, j < j0 → l.getD j 0 ≠ v) : ∀ (d j : Nat), j0 - j = d → j ≤ j0 → Aa (fun K k => Bt.l1 K k l v (j : Int)) (j0 : Int)
  | 0, j, hd, hle => by
    obtain rfl : j = j0 := by omega
    refine Aa.of fun K k => ?_
    rw [Bt.l1, if_pos (by omega), if_pos (by omega), Int.toNat_natCast, if_pos h0.symm]
  | d + 1, j, hd, hle => by
    refine Aa.step (fun K k => ?_) (Sd hl hj h0 h1 d (j + 1) (by omega) (by omega))
    rw [Bt.l1, if_pos (by omega), if_pos (by omega), Int.toNat_natCast, if_neg (fun e => h1 j (by omega) e.symm), Ba (by omega)]
theorem dY {a b : Nat} (ha : a < 4) (hb : b < 4) (h : a ≠ b) {f : Nat} (hfa : f ≠ a) (hfb : f ≠ b) : EA (EE a b) ≠ f ∧ EB (EE a b) ≠ f := by
  obtain ⟨_, h1, h2⟩ := Q4 ha hb h
  rw [h1, h2]; omega
structure Zj (ts : List (List Ab)) (C : List Int) (cl : Int) : Prop where
  no : ∀ j, j < 6 * ts.length → C.getD j 0 = cl → ∀ f, ¬ bdE ts j f
section
variable {ts : List (List Ab)} (hv : Val ts) {C : List Int} {cl : Int} (hI : Zj ts C cl)
include hv hI
theorem Wx {a : Nat} (ha : a < ts.length) {R : Int × Int} (hR : Aa (fun K k => Co.l1 K k ts cl (rowsOf C 6 ts.length) ((a + 1 : Nat) : Int)) R) : ∀ (d p : Nat), 24 - p = d → p ≤ 24 → Aa (fun K k => Co.l4 K k ts cl (rowsOf C 6 ts.length) (a : Int) (p : Int)) R
  | 0, p, hd, hp => by
    have h8 := hv.le
    refine Aa.step (fun K k => ?_) hR
    rw [Co.l4, if_neg (by omega), Ba (by omega)]
  | d + 1, p, hd, hp => by
    have h8 := hv.le
    have hp : p < 24 := by omega
    have h0 : PA p 0 < 4 := D6 hp (by omega)
    have h1 : PA p 1 < 4 := D6 hp (by omega)
    have h3 : PA p 3 < 4 := D6 hp (by omega)
    have hne : PA p 0 ≠ PA p 1 := Io hp (by omega) (by omega) (by omega)
    have he := (Q4 h0 h1 hne).1
    have ih := Wx ha hR d (p + 1) (by omega) (by omega)
    have hr := hv.four a ha
    refine Aa.step (G := fun K k => (Be.f K (p : Int) ((0 : Nat) : Int)).bind fun t387 => ((Be.f K (p : Int) ((1 : Nat) : Int)).bind fun t391 => ((D7.f K t387 t391).bind fun t395 => (if 0 ≤ (a : Int) ∧ (a : Int) < ((rowsOf C 6 ts.length).length : Int) then (if 0 ≤ t395 ∧ t395 < (((rowsOf C 6 ts.length).getD a []).length : Int) then (if ((rowsOf C 6 ts.length).getD a []).getD t395.toNat 0 = cl then (if 0 ≤ (a : Int) ∧ (a : Int) < (ts.length : Int) then ((Be.f K (p : Int) ((3 : Nat) : Int)).bind fun t415 => (if 0 ≤ t415 ∧ t415 < ((ts.getD a []).length : Int) then (if ((ts.getD a []).getD t415.toNat Bb).Tet < 0 then (some ((a : Int), (p : Int))) else (Co.l4 K k ts cl (rowsOf C 6 ts.length) (a : Int) ((p + 1 : Nat) : Int))) else none)) else none) else (Co.l4 K k ts cl (rowsOf C 6 ts.length) (a : Int) ((p + 1 : Nat) : Int))) else none) else none)))) (fun K k => ?_) ?_
    · rw [Co.l4, if_pos (by omega), Ba (by omega)]; rfl
    · refine Aa.bind (K6 hp (by omega)).two ?_
      refine Aa.bind (K6 hp (by omega)).two ?_
      refine Aa.bind (Va h0 h1 hne).two ?_
      refine Aa.pos (by rw [Gn]; omega) ?_
      rw [Ia ha]
      refine Aa.pos (by rw [Jk]; omega) ?_
      rw [Int.toNat_natCast, Jd he]
      by_cases hcl : C.getD (6 * a + EE (PA p 0) (PA p 1)) 0 = cl
      · refine Aa.pos hcl (Aa.pos (by omega) ?_)
        refine Aa.bind (K6 hp (by omega)).two (Aa.pos (by omega) ?_)
        rw [Int.toNat_natCast]
        refine Aa.neg (fun hlt => ?_) ih
        refine hI.no _ (mul_lt ha he) hcl (PA p 3) ?_
        unfold bdE
        rw [(de6 he).1, (de6 he).2]
        obtain ⟨n1, n2⟩ := dY h0 h1 hne (f := PA p 3) (Io hp (by omega) (by omega) (by omega)) (Io hp (by omega) (by omega) (by omega))
        exact ⟨h3, n1, n2, hlt⟩
      · exact Aa.neg hcl ih
theorem Vw {R : Int × Int} (hR : Ac (fun K => Go.Proofs.YtbjfinndngafoaaGreat.Eg (Cv.f K ts cl) (fun t424 t425 => (Go.Proofs.YtbjfinndngafoaaGreat.Eg (Fx.f t425) (fun t429 t430 => (Go.Proofs.YtbjfinndngafoaaGreat.Eg (Bw.f K ([0, 1] : List Int) ([t429, t430] : List Int)) (fun t438 t439 => (some (t424, t438)))))))) R) : ∀ (d a : Nat), ts.length - a = d → a ≤ ts.length → Aa (fun K k => Co.l1 K k ts cl (rowsOf C 6 ts.length) (a : Int)) R
  | 0, a, hd, ha => by
    have h8 := hv.le
    refine Aa.step (fun K k => ?_) hR.two
    rw [Co.l1, Cn.f, Option.bind_some, if_neg (by omega)]
  | d + 1, a, hd, ha => by
    have h8 := hv.le
    refine Aa.step (fun K k => ?_) (Wx hv hI (show a < ts.length by omega) (Vw hR d (a + 1) (by omega) (by omega)) 24 0 (by omega) (by omega))
    rw [Co.l1, Cn.f, Option.bind_some, if_pos (by omega)]
    rfl
end
section
variable {ts : List (List Ab)} (hv : Val ts) {C : List Int} {cl : Int} {j0 : Nat} (hj : j0 < 6 * ts.length) (h0 : C.getD j0 0 = cl) (h1 : ∀ j, j < j0 → C.getD j 0 ≠ cl)
include hv hj h0 h1
theorem Ra : ∀ (d a e : Nat), 7 * (j0 / 6) + j0 % 6 - (7 * a + e) = d → a ≤ j0 / 6 → e ≤ 6 → 6 * a + e ≤ j0 → Aa (fun K k => Cv.l4 K k cl (rowsOf C 6 ts.length) (a : Int) (e : Int)) (((j0 / 6 : Nat) : Int), ((j0 % 6 : Nat) : Int))
  | 0, a, e, hd, ha, he, hle => by
    have h8 := hv.le
    have ha' : a = j0 / 6 := by omega
    have he' : e = j0 % 6 := by omega
    have hlt : a < ts.length := by omega
    refine Aa.of fun K k => ?_
    rw [Cv.l4, if_pos (by omega), if_pos (by rw [Gn]; omega), Int.toNat_natCast, Ia hlt, if_pos (by rw [Jk]; omega), Int.toNat_natCast, Jd (by omega), if_pos (by rw [show 6 * a + e = j0 by omega]; exact h0), ha', he']
  | d + 1, a, e, hd, ha, he, hle => by
    have h8 := hv.le
    have hlt : a < ts.length := by omega
    by_cases h6 : e = 6
    · refine Aa.step (G := fun K k => Cv.l1 K k cl (rowsOf C 6 ts.length) ((a + 1 : Nat) : Int)) (fun K k => ?_) (Aa.step (fun K k => ?_) (Ra d (a + 1) 0 (by omega) (by omega) (by omega) (by omega)))
      · rw [Cv.l4, if_neg (by omega), Ba (by omega)]
      · rw [Cv.l1, if_pos (by rw [Gn]; omega)]; rfl
    · refine Aa.step (fun K k => ?_) (Ra d a (e + 1) (by omega) (by omega) (by omega) (by omega))
      rw [Cv.l4, if_pos (by omega), if_pos (by rw [Gn]; omega), Int.toNat_natCast, Ia hlt, if_pos (by rw [Jk]; omega), Int.toNat_natCast, Jd (by omega), if_neg (h1 _ (by omega)), Ba (by omega)]
theorem aX : Aa (fun K k => Cv.l1 K k cl (rowsOf C 6 ts.length) 0) (((j0 / 6 : Nat) : Int), ((j0 % 6 : Nat) : Int)) := by
  refine Aa.step (fun K k => ?_) (Ra hv hj h0 h1 _ 0 0 rfl (by omega) (by omega) (by omega))
  rw [Cv.l1, if_pos (by rw [Gn]; omega)]; rfl
end
section
variable {ts : List (List Ab)} (hv : Val ts) {s : List Int} (hP : Hu (6 * ts.length) (JE ts) s) (hc : Ac (fun K => Bj.f K ts) (CN (6 * ts.length) s))
  {vr fr : List (List Int)} {nn : List Int} (hcnt : Ac (fun K => Ay.f K ts) (vr, rowsOf (CN (6 * ts.length) s) 6 ts.length, fr, nn))
  {o : List Bool} (hbt : Ac (fun K => Al.f K ts) o) (hbl : o.length = Cx s (6 * ts.length)) (hbb : ∀ c : Nat, o.getD c false = true ↔ ∃ j, j < 6 * ts.length ∧ (CN (6 * ts.length) s).getD j 0 = (c : Int) ∧ ∃ f, bdE ts j f)
include hv hP hc hcnt hbt hbl hbb
theorem Yf {c j0 : Nat} (hj : j0 < 6 * ts.length) (h0 : (CN (6 * ts.length) s).getD j0 0 = (c : Int)) (h1 : ∀ j, j < j0 → (CN (6 * ts.length) s).getD j 0 ≠ (c : Int)) (hno : o.getD c false = false) :
    Zj ts (CN (6 * ts.length) s) (c : Int) ∧ Ac (fun K => Bd.f K ts (c : Int)) (((j0 / 6 : Nat) : Int), (ST (j0 % 6) : Int)) ∧ Ac (fun K => Co.f K ts (c : Int)) (((j0 / 6 : Nat) : Int), (ST (j0 % 6) : Int)) := by
  have h8 := hv.le
  have he : j0 % 6 < 6 := by omega
  have hI : Zj ts (CN (6 * ts.length) s) (c : Int) := ⟨fun j hj' hcl f hbd => by
    have := (hbb c).2 ⟨j, hj', hcl, f, hbd⟩
    rw [hno] at this; cases this⟩
  have hr := I9 (s := s) (N := 6 * ts.length) (by omega) hj
  refine ⟨hI, ?_, ?_⟩
  · refine Ac.bind hc (Ac.bind hbt (Ac.pos (by omega) ?_))
    rw [Int.toNat_natCast]
    refine Ac.neg (by rw [hno]; decide) (Ac.bind (a := (j0 : Int)) (Sd (by rw [K4]; omega) (by rw [K4]; exact hj) h0 h1 _ 0 rfl (by omega)).G8 ?_)
    have e1 : (j0 : Int).tmod 6 = ((j0 % 6 : Nat) : Int) := by rw [Int.tmod_eq_emod_of_nonneg (by omega)]; omega
    have e2 : w64 ((j0 : Int).tdiv 6) = ((j0 / 6 : Nat) : Int) := by rw [Int.tdiv_eq_ediv_of_nonneg (by omega), Gh (by omega) (by omega)]; omega
    rw [e1, e2]
    exact gJ he _
  · refine Ac.Eb hcnt ?_
    refine Aa.G8 (F := fun K k => Co.l1 K k ts (c : Int) (rowsOf (CN (6 * ts.length) s) 6 ts.length) ((0 : Nat) : Int)) ?_
    refine Vw hv hI ?_ _ 0 rfl (by omega)
    have hf : Ac (fun K => Cv.f K ts (c : Int)) (((j0 / 6 : Nat) : Int), ((j0 % 6 : Nat) : Int)) := Ac.Eb hcnt (aX hv hj h0 h1).G8
    refine Ac.Eg hf ?_
    refine Ac.Eg (a := (EA (j0 % 6) : Int)) (b := (EB (j0 % 6) : Int)) (Ac.congr (fun K => Ns he) (Ac.const _)) ?_
    exact Ac.Eg (tO he) (Ac.const _)
end
theorem cZ : ∀ (N : Nat) (f : Nat → Nat), (∀ i, i ≤ N → f i < N) → ∃ i j, i < j ∧ j ≤ N ∧ f i = f j
  | 0, f, h => by have := h 0 (Nat.le_refl _); omega
  | N + 1, f, h => by
    by_cases hx : ∃ i, i ≤ N ∧ f i = f (N + 1)
    · obtain ⟨i, hi, e⟩ := hx
      exact ⟨i, N + 1, by omega, by omega, e⟩
    · have hne : ∀ i, i ≤ N → f i ≠ f (N + 1) := fun i hi e => hx ⟨i, hi, e⟩
      have hl := h (N + 1) (Nat.le_refl _)
      obtain ⟨i, j, h1, h2, h3⟩ := cZ N (fun i => if f i > f (N + 1) then f i - 1 else f i) (fun i hi => by
        have h1 := h i (by omega)
        have h2 := hne i hi
        show (if f i > f (N + 1) then f i - 1 else f i) < N
        split <;> omega)
      refine ⟨i, j, h1, by omega, ?_⟩
      have e1 := hne i (by omega)
      have e2 := hne j h2
      have h3 : (if f i > f (N + 1) then f i - 1 else f i) = (if f j > f (N + 1) then f j - 1 else f j) := h3
      split at h3 <;> split at h3 <;> omega
def it (ts : List (List Ab)) (c : Nat × Nat) : Nat → Nat × Nat
  | 0 => c
  | k + 1 => (nx ts (it ts c k)).getD c
def eo (c : Nat × Nat) : Nat := 6 * c.1 + EE (PA c.2 0) (PA c.2 1)
def crn (c : Nat × Nat) : Ab := ⟨c.1, c.2⟩
def Jn (ts : List (List Ab)) (c : Nat × Nat) (k : Nat) : List Ab := (List.range k).map fun i => crn (it ts c i)
theorem Lp (ts : List (List Ab)) (c : Nat × Nat) (k : Nat) : (Jn ts c k).length = k := by simp [Jn]
theorem V7 {ts : List (List Ab)} {c : Nat × Nat} {k i : Nat} (h : i < k) : (Jn ts c k).getD i Bb = crn (it ts c i) := by
  rw [Jn, List.getD_eq_getElem?_getD, List.getElem?_map, List.getElem?_range h]; rfl
theorem Sz (ts : List (List Ab)) (c : Nat × Nat) (k : Nat) : Jn ts c (k + 1) = Jn ts c k ++ [crn (it ts c k)] := by unfold Jn; rw [List.range_succ, List.map_append]; rfl
structure Cor (ts : List (List Ab)) (C : List Int) (cl : Int) (c : Nat × Nat) : Prop where
  tet : c.1 < ts.length
  perm : c.2 < 24
  at_ : C.getD (eo c) 0 = cl
theorem Sc {c : Nat × Nat} (hp : c.2 < 24) : PA c.2 0 < 4 ∧ PA c.2 1 < 4 ∧ PA c.2 0 ≠ PA c.2 1 ∧ EE (PA c.2 0) (PA c.2 1) < 6 ∧ eo c / 6 = c.1 ∧ eo c % 6 = EE (PA c.2 0) (PA c.2 1) := by
  have h0 : PA c.2 0 < 4 := D6 hp (by omega)
  have h1 : PA c.2 1 < 4 := D6 hp (by omega)
  have hne : PA c.2 0 ≠ PA c.2 1 := Io hp (by omega) (by omega) (by omega)
  have he := (Q4 h0 h1 hne).1
  exact ⟨h0, h1, hne, he, (de6 he).1, (de6 he).2⟩
section
variable {ts : List (List Ab)} (hv : Val ts)
include hv
theorem Q7 {a f b q u v : Nat} (hq : q < 24) (hu : u < 4) (hw : v < 4) (huv : u ≠ v) (h1 : f ≠ u) (h2 : f ≠ v) (hx : Bv ts a f = ⟨b, q⟩) : ∃ fl, nbr ts (6 * a + EE u v) f = some (6 * b + EE (PA q u) (PA q v), fl) := by
  obtain ⟨he, hm, hM⟩ := Q4 hu hw huv
  obtain ⟨n1, n2⟩ := dY hu hw huv h1 h2
  have key := Me hv he n1 n2 hx
  rw [hm, hM] at key
  have hE : EE (PA q (min u v)) (PA q (max u v)) = EE (PA q u) (PA q v) := by
    by_cases h : u ≤ v
    · rw [Nat.min_eq_left h, Nat.max_eq_right h]
    · rw [Nat.min_eq_right (by omega), Nat.max_eq_left (by omega)]
      exact Zo (D6 hq hw) (D6 hq hu)
  rw [hE] at key
  exact ⟨_, key⟩
variable {s : List Int} (hP : Hu (6 * ts.length) (JE ts) s) {cl : Int} (hI : Zj ts (CN (6 * ts.length) s) cl)
include hP hI
theorem dD {c : Nat × Nat} (hc : Cor ts (CN (6 * ts.length) s) cl c) : ∃ c', nx ts c = some c' ∧ Cor ts (CN (6 * ts.length) s) cl c' ∧ (∃ fl, nbr ts (eo c) (PA c.2 2) = some (eo c', fl)) ∧ (∃ fl, nbr ts (eo c') (PA c'.2 3) = some (eo c, fl)) := by
  obtain ⟨a, p⟩ := c
  obtain ⟨ha, hp, hat⟩ := hc
  have ha : a < ts.length := ha
  have hp : p < 24 := hp
  obtain ⟨h0, h1, hne, he, d1, d2⟩ := Sc (c := (a, p)) hp
  have h0 : PA p 0 < 4 := h0
  have h1 : PA p 1 < 4 := h1
  have hne : PA p 0 ≠ PA p 1 := hne
  have h20 : PA p 2 ≠ PA p 0 := Io hp (by omega) (by omega) (by omega)
  have h21 : PA p 2 ≠ PA p 1 := Io hp (by omega) (by omega) (by omega)
  have h2 : PA p 2 < 4 := D6 hp (by omega)
  have hlt : eo (a, p) < 6 * ts.length := mul_lt ha he
  rcases Ma hv ha hp with ⟨g1, g2⟩ | ⟨g1, b, q, hb, hq, g2, g3, g4⟩
  · refine (hI.no _ hlt hat (PA p 2) ?_).elim
    unfold bdE
    rw [d1, d2]
    obtain ⟨n1, n2⟩ := dY h0 h1 hne h20 h21
    exact ⟨h2, n1, n2, g1⟩
  · obtain ⟨m0, m1, m2, m3, m4⟩ := Zz hp hq
    have e1 : eo (b, NP q p) = 6 * b + EE (PA q (PA p 0)) (PA q (PA p 1)) := by
      show 6 * b + EE (PA (NP q p) 0) (PA (NP q p) 1) = _
      rw [m1, m2]
    obtain ⟨fl, hn⟩ := Q7 hv hq h0 h1 hne h20 h21 g2
    have hn : nbr ts (eo (a, p)) (PA p 2) = some (eo (b, NP q p), fl) := by rw [e1]; exact hn
    obtain ⟨fl', hn'⟩ := Q7 hv (G9 hq) (D6 hq h0) (D6 hq h1) (Io hq h0 h1 hne) (Io hq h2 h0 h20) (Io hq h2 h1 h21) g3.2.2.2.1
    rw [J6 hq h0, J6 hq h1] at hn'
    refine ⟨(b, NP q p), g4, ⟨hb, m0, ?_⟩, ⟨fl, hn⟩, ⟨fl', ?_⟩⟩
    · rw [(dK hv hP _ _ _ _ hlt h2 hn).2]; exact hat
    · show nbr ts (eo (b, NP q p)) (PA (NP q p) 3) = _
      rw [m4, e1]; exact hn'
theorem Jv {c : Nat × Nat} (hc : Cor ts (CN (6 * ts.length) s) cl c) : ∀ k, Cor ts (CN (6 * ts.length) s) cl (it ts c k)
  | 0 => hc
  | k + 1 => by
    obtain ⟨c', h1, h2, _⟩ := dD hv hP hI (Jv hc k)
    rw [it, h1]; exact h2
theorem O0 {c : Nat × Nat} (hc : Cor ts (CN (6 * ts.length) s) cl c) (k : Nat) : nx ts (it ts c k) = some (it ts c (k + 1)) ∧ (∃ fl, nbr ts (eo (it ts c k)) (PA (it ts c k).2 2) = some (eo (it ts c (k + 1)), fl)) ∧ (∃ fl, nbr ts (eo (it ts c (k + 1))) (PA (it ts c (k + 1)).2 3) = some (eo (it ts c k), fl)) := by
  obtain ⟨c', h1, h2, h3, h4⟩ := dD hv hP hI (Jv hv hP hI hc k)
  have e : it ts c (k + 1) = c' := by rw [it, h1]; rfl
  rw [e]
  exact ⟨h1, h3, h4⟩
theorem Zy {c : Nat × Nat} (hc : Cor ts (CN (6 * ts.length) s) cl c) : ∀ i j, it ts c i = it ts c (i + j) → it ts c j = c
  | 0, j, h => by rw [Nat.zero_add] at h; exact h.symm
  | i + 1, j, h => by
    refine Zy hc i j ?_
    have c1 := Jv hv hP hI hc i
    have c2 := Jv hv hP hI hc (i + j)
    have n1 := (O0 hv hP hI hc i).1
    have n2 := (O0 hv hP hI hc (i + j)).1
    rw [h, show i + 1 + j = i + j + 1 by omega] at n1
    obtain ⟨e1, e2⟩ := nK hv c1.tet c1.perm c2.tet c2.perm n1 n2
    exact Prod.ext e1 e2
theorem qZ {c : Nat × Nat} (hc : Cor ts (CN (6 * ts.length) s) cl c) : ∃ m, 1 ≤ m ∧ m ≤ 192 ∧ it ts c m = c ∧ ∀ j, 0 < j → j < m → it ts c j ≠ c := by
  have h8 := hv.le
  obtain ⟨i, j, h1, h2, h3⟩ := cZ 192 (fun k => 24 * (it ts c k).1 + (it ts c k).2) (fun i _ => by
    have c1 := Jv hv hP hI hc i
    have := c1.tet
    have := c1.perm
    show 24 * (it ts c i).1 + (it ts c i).2 < 192
    omega)
  have hex : ∃ m, 1 ≤ m ∧ m ≤ 192 ∧ it ts c m = c := by
    refine ⟨j - i, by omega, by omega, Zy hv hP hI hc i (j - i) ?_⟩
    rw [show i + (j - i) = j by omega]
    have c1 := (Jv hv hP hI hc i).perm
    have c2 := (Jv hv hP hI hc j).perm
    have h3 : 24 * (it ts c i).1 + (it ts c i).2 = 24 * (it ts c j).1 + (it ts c j).2 := h3
    exact Prod.ext (by omega) (by omega)
  have least : ∀ n m, m ≤ n → 1 ≤ m → m ≤ 192 → it ts c m = c → ∃ m, 1 ≤ m ∧ m ≤ 192 ∧ it ts c m = c ∧ ∀ j, 0 < j → j < m → it ts c j ≠ c := by
    intro n
    induction n with
    | zero => intro m h1 h2; omega
    | succ n ih =>
      intro m h1 h2 h3 h4
      by_cases hx : ∃ j, 0 < j ∧ j < m ∧ it ts c j = c
      · obtain ⟨j, k1, k2, k3⟩ := hx
        exact ih j (by omega) (by omega) (by omega) k3
      · exact ⟨m, h2, h3, h4, fun j k1 k2 k3 => hx ⟨j, k1, k2, k3⟩⟩
  obtain ⟨m, h4, h5, h6⟩ := hex
  exact least m m (Nat.le_refl _) h4 h5 h6
theorem dL {c : Nat × Nat} (hc : Cor ts (CN (6 * ts.length) s) cl c) {m : Nat} (hm : m ≤ 192) (hmc : it ts c m = c) (hno : ∀ j, 0 < j → j < m → it ts c j ≠ c) : ∀ (d k : Nat), m - (k + 1) = d → k < m → Aa (fun K f => Cc.l1 K f ts (c.1 : Int) (c.2 : Int) (Jn ts c (k + 1))) (Jn ts c m)
  | d, k, hd, hk => by
    have hk1 := Jv hv hP hI hc k
    have hn := (O0 hv hP hI hc k).1
    have aft1 := jY hv hk1.tet hk1.perm
    rw [hn] at aft1
    have hw : w64 (((k + 1 : Nat) : Int) - 1) = (k : Int) := by rw [Gh (by omega) (by omega)]; omega
    refine Aa.step (G := fun K f => Go.Proofs.YtbjfinndngafoaaGreat.Ik (Eu.f K ts ((it ts c k).1 : Int) ((it ts c k).2 : Int)) (fun t64 t65 t66 => (if t66 = true then (if (t64, t65) = ((c.1 : Int), (c.2 : Int)) then (some (Jn ts c (k + 1))) else (if ((Jn ts c (k + 1)).length + 1) * 16 ≤ 140737488355328 then (Cc.l1 K f ts (c.1 : Int) (c.2 : Int) ((Jn ts c (k + 1)) ++ [(⟨t64, t65⟩ : Ab)])) else none)) else (some (Jn ts c (k + 1)))))) (fun K f => ?_) ?_
    · rw [Cc.l1, Lp, hw, if_pos (by omega), Int.toNat_natCast, V7 (by omega)]; rfl
    · refine Aa.Ik (a := ((it ts c (k + 1)).1 : Int)) (b := ((it ts c (k + 1)).2 : Int)) (c := true) aft1.two (Aa.pos rfl ?_)
      by_cases e : k + 1 = m
      · subst e
        refine Aa.pos ?_ (Aa.const _)
        rw [hmc]
      · have h2 : ¬ (((it ts c (k + 1)).1 : Int), ((it ts c (k + 1)).2 : Int)) = ((c.1 : Int), (c.2 : Int)) := fun h => by
          injection h with h1 h2
          exact hno (k + 1) (by omega) (by omega) (Prod.ext (by omega) (by omega))
        refine Aa.neg h2 (Aa.pos (by rw [Lp]; omega) ?_)
        have := dL hc hm hmc hno (d - 1) (k + 1) (by omega) (by omega)
        rw [Sz ts c (k + 1)] at this
        exact this
theorem aV {c : Nat × Nat} (hc : Cor ts (CN (6 * ts.length) s) cl c) {m : Nat} (hm : m ≤ 192) (hmc : it ts c m = c) (hno : ∀ j, 0 < j → j < m → it ts c j ≠ c) : ∀ (d k : Nat), m - (k + 1) = d → k < m → Aa (fun K f => E9.l1 K f ts (c.1 : Int) (c.2 : Int) (Jn ts c (k + 1))) (Jn ts c m)
  | d, k, hd, hk => by
    have hk1 := Jv hv hP hI hc k
    have hn := (O0 hv hP hI hc k).1
    have aft1 := iT hv hk1.tet hk1.perm
    rw [hn] at aft1
    have hw : w64 (((k + 1 : Nat) : Int) - 1) = (k : Int) := by rw [Gh (by omega) (by omega)]; omega
    refine Aa.step (G := fun K f => Go.Proofs.YtbjfinndngafoaaGreat.Ik (Dj.f K ts ((it ts c k).1 : Int) ((it ts c k).2 : Int)) (fun t64 t65 t66 => (if t66 = true then (if (t64, t65) = ((c.1 : Int), (c.2 : Int)) then (some (Jn ts c (k + 1))) else (if ((Jn ts c (k + 1)).length + 1) * 16 ≤ 140737488355328 then (E9.l1 K f ts (c.1 : Int) (c.2 : Int) ((Jn ts c (k + 1)) ++ [(⟨t64, t65⟩ : Ab)])) else none)) else (some (Jn ts c (k + 1)))))) (fun K f => ?_) ?_
    · rw [E9.l1, Lp, hw, if_pos (by omega), Int.toNat_natCast, V7 (by omega)]; rfl
    · refine Aa.Ik (a := ((it ts c (k + 1)).1 : Int)) (b := ((it ts c (k + 1)).2 : Int)) (c := true) aft1.two (Aa.pos rfl ?_)
      by_cases e : k + 1 = m
      · subst e
        refine Aa.pos ?_ (Aa.const _)
        rw [hmc]
      · have h2 : ¬ (((it ts c (k + 1)).1 : Int), ((it ts c (k + 1)).2 : Int)) = ((c.1 : Int), (c.2 : Int)) := fun h => by
          injection h with h1 h2
          exact hno (k + 1) (by omega) (by omega) (Prod.ext (by omega) (by omega))
        refine Aa.neg h2 (Aa.pos (by rw [Lp]; omega) ?_)
        have := aV hc hm hmc hno (d - 1) (k + 1) (by omega) (by omega)
        rw [Sz ts c (k + 1)] at this
        exact this
theorem aW {c : Nat × Nat} (hc : Cor ts (CN (6 * ts.length) s) cl c) {m : Nat} (hm : 1 ≤ m) (hmc : it ts c m = c) {j : Nat} (hj : j < 6 * ts.length) : (CN (6 * ts.length) s).getD j 0 = cl ↔ ∃ k, k < m ∧ j = eo (it ts c k) := by
  have lt : ∀ k, eo (it ts c k) < 6 * ts.length := fun k => by
    have h := Jv hv hP hI hc k
    exact mul_lt h.tet (Sc h.perm).2.2.2.1
  constructor
  · intro hcl
    have nxt : ∀ k, k < m → ∃ k', k' < m ∧ eo (it ts c (k + 1)) = eo (it ts c k') := fun k hk => by
      by_cases e : k + 1 = m
      · exact ⟨0, by omega, by rw [e, hmc]; rfl⟩
      · exact ⟨k + 1, by omega, rfl⟩
    have one : ∀ x y f fl, f < 4 → nbr ts x f = some (y, fl) → (∃ k, k < m ∧ x = eo (it ts c k)) → ∃ k, k < m ∧ y = eo (it ts c k) := fun x y f fl hf hn ⟨k, hk, hx⟩ => by
      have hck := Jv hv hP hI hc k
      have hp := hck.perm
      obtain ⟨h0, h1, hne, he, d1, d2⟩ := Sc (c := it ts c k) hp
      rw [hx] at hn
      obtain ⟨b, q, _, _, _, _, n1, n2, _⟩ := Rb hv (lt k) hf hn
      rw [d2] at n1 n2
      obtain ⟨_, e1, e2⟩ := Q4 h0 h1 hne
      rw [e1] at n1
      rw [e2] at n2
      have h2 : PA (it ts c k).2 2 < 4 := D6 hp (by omega)
      have h3 : PA (it ts c k).2 3 < 4 := D6 hp (by omega)
      have h02 : PA (it ts c k).2 0 ≠ PA (it ts c k).2 2 := Io hp (by omega) (by omega) (by omega)
      have h03 : PA (it ts c k).2 0 ≠ PA (it ts c k).2 3 := Io hp (by omega) (by omega) (by omega)
      have h12 : PA (it ts c k).2 1 ≠ PA (it ts c k).2 2 := Io hp (by omega) (by omega) (by omega)
      have h13 : PA (it ts c k).2 1 ≠ PA (it ts c k).2 3 := Io hp (by omega) (by omega) (by omega)
      have h23 : PA (it ts c k).2 2 ≠ PA (it ts c k).2 3 := Io hp (by omega) (by omega) (by omega)
      have hf23 : f = PA (it ts c k).2 2 ∨ f = PA (it ts c k).2 3 := by omega
      rcases hf23 with hf2 | hf3
      · obtain ⟨fl', hn'⟩ := (O0 hv hP hI hc k).2.1
        rw [hf2, hn'] at hn
        injection hn with hn
        injection hn with hn _
        obtain ⟨k', a1, a2⟩ := nxt k hk
        exact ⟨k', a1, by rw [← hn]; exact a2⟩
      · obtain ⟨k', a1, a2⟩ : ∃ k', k' < m ∧ it ts c (k' + 1) = it ts c k := by
          by_cases e : k = 0
          · exact ⟨m - 1, by omega, by rw [show m - 1 + 1 = m by omega, hmc, e]; rfl⟩
          · exact ⟨k - 1, by omega, by rw [show k - 1 + 1 = k by omega]⟩
        obtain ⟨fl', hn'⟩ := (O0 hv hP hI hc k').2.2
        rw [a2, ← hf3, hn] at hn'
        injection hn' with hn'
        injection hn' with hn' _
        exact ⟨k', a1, hn'⟩
    have hQ : ∀ p, p ∈ JE ts → ((∃ k, k < m ∧ p.1 = eo (it ts c k)) ↔ (∃ k, k < m ∧ p.2 = eo (it ts c k))) := fun p hp => by
      obtain ⟨x, y⟩ := p
      obtain ⟨hx, f, fl, hf, hn⟩ := bN hv hp
      refine ⟨one x y f fl hf hn, fun h => ?_⟩
      obtain ⟨f', fl', hf', hn'⟩ := Wt hv hx hf hn
      exact one y x f' fl' hf' hn' h
    have e0 : s.getD (eo (it ts c 0)) 0 = s.getD j 0 := (Ni _ s).inj (lt 0) hj (hc.at_.trans hcl.symm)
    exact (hP.min (fun x => ∃ k, k < m ∧ x = eo (it ts c k)) hQ _ _ (lt 0) hj e0).1 ⟨0, by omega, rfl⟩
  · rintro ⟨k, hk, rfl⟩
    exact (Jv hv hP hI hc k).at_
end
def MP (f t : List Nat) : Nat := PX (t.getD (f.idxOf 0) 0) (t.getD (f.idxOf 1) 0) (t.getD (f.idxOf 2) 0) (t.getD (f.idxOf 3) 0)
def I4 (m : List (Gd × Dn)) (x : Ap) : List (Gd × Dn) := Na m ⟨x.tet, x.Bv⟩ ⟨x.to, x.perm⟩
def Iq : List Ab := [⟨-1, 0⟩, ⟨-1, 0⟩, ⟨-1, 0⟩, ⟨-1, 0⟩]
def o23 (o b : Int) (A q i : Nat) : List Ap :=
  [⟨o, ((OT [A]).getD i 0 : Nat), (i : Nat), (MP [A, (OT [A]).getD ((i + 1) % 3) 0, (OT [A]).getD ((i + 2) % 3) 0, (OT [A]).getD i 0] [0, 2, 3, 1] : Nat)⟩,
   ⟨b, (PA q ((OT [A]).getD i 0) : Nat), (i : Nat), (MP [PA q A, PA q ((OT [A]).getD ((i + 1) % 3) 0), PA q ((OT [A]).getD ((i + 2) % 3) 0), PA q ((OT [A]).getD i 0)] [1, 2, 3, 0] : Nat)⟩]
def O23 (o b : Int) (A q : Nat) : List Ap := o23 o b A q 0 ++ (o23 o b A q 1 ++ o23 o b A q 2)
def qA : List Fg := [⟨0, 2, 1, 1⟩, ⟨1, 2, 2, 1⟩, ⟨2, 2, 0, 1⟩]
def Wv : List (List Ab) := [[⟨-1, 0⟩, ⟨-1, 0⟩, ⟨1, 1⟩, ⟨2, 1⟩], [⟨-1, 0⟩, ⟨-1, 0⟩, ⟨2, 1⟩, ⟨0, 1⟩], [⟨-1, 0⟩, ⟨-1, 0⟩, ⟨0, 1⟩, ⟨1, 1⟩]]
theorem gH : (fun (K : Nat) (o b : Int) => (List.range 96).map fun i : Nat => Bq.l1 (K + 100) (K + 100) o ((i / 24 : Nat) : Int) ⟨b, ((i % 24 : Nat) : Int)⟩ [o, b] 3 (PA (i % 24) 0 : Int) (PA (i % 24) 1 : Int) (PA (i % 24) 2 : Int) (PA (i % 24) 3 : Int) (ints (OT [i / 24])) [] [] 0) = fun K o b => (List.range 96).map fun i : Nat => some (some ([o, b], (O23 o b (i / 24) (i % 24)).foldl I4 [], 3, qA)) := by kernel_rfl
theorem jQ : (fun (K : Nat) (o b : Int) => (List.range 96).map fun i : Nat => Cy.l1 (K + 100) (K + 100) o ((i / 24 : Nat) : Int) ⟨b, ((i % 24 : Nat) : Int)⟩ [] 0) = fun K o b => (List.range 96).map fun i : Nat => some ([o, b], Wv, O23 o b (i / 24) (i % 24), true) := by kernel_rfl
section
variable {ts : List (List Ab)} (hv : Val ts)
include hv
theorem kZ {a f : Nat} (ha : a < ts.length) (hf : f < 4) :
    (Ac (fun K => Bq.f K ts (a : Int) (f : Int)) none ∧ Ac (fun K => Cy.f K ts (a : Int) (f : Int)) ([], [], [], false)) ∨
    (∃ b q : Nat, b < ts.length ∧ q < 24 ∧ Bv ts a f = ⟨b, q⟩ ∧ b ≠ a ∧ Ac (fun K => Bq.f K ts (a : Int) (f : Int)) (some ([(a : Int), (b : Int)], (O23 a b f q).foldl I4 [], 3, qA)) ∧ Ac (fun K => Cy.f K ts (a : Int) (f : Int)) ([(a : Int), (b : Int)], Wv, O23 a b f q, true)) := by
  have hr := hv.four a ha
  have I : ∀ r, Ac (fun K => if decide ((Bv ts a f).Tet < 0) = true then some none else (if (Bv ts a f).Tet = (a : Int) then (some none) else (Go.Proofs.YtbjfinndngafoaaGreat.Eb (Fh.f 3 ([(a : Int), (Bv ts a f).Tet] : List Int)) (fun t23 t24 t25 t26 => (Go.Proofs.YtbjfinndngafoaaGreat.Eb (Ct.f K (Bv ts a f).Perm) (fun t36 t37 t38 t39 => ((Eo.f K ([(f : Int)] : List Int)).bind fun t45 => (Bq.l1 K K (a : Int) (f : Int) (Bv ts a f) t23 t25 t36 t37 t38 t39 t45 t24 t26 0)))))))) r → Ac (fun K => Bq.f K ts (a : Int) (f : Int)) r := fun r h => by
    refine Ac.pos (by omega) ?_
    simp only [Int.toNat_natCast]
    exact Ac.pos (by omega) h
  have S : ∀ r, Ac (fun K => if (Bv ts a f).Tet < 0 then (some (([] : List Int), ([] : List (List Ab)), ([] : List Ap), false)) else (if (Bv ts a f).Tet = (a : Int) then (some (([] : List Int), ([] : List (List Ab)), ([] : List Ap), false)) else (Cy.l1 K K (a : Int) (f : Int) (Bv ts a f) ([] : List Int) 0))) r → Ac (fun K => Cy.f K ts (a : Int) (f : Int)) r := fun r h => by
    refine Ac.pos (by omega) ?_
    simp only [Int.toNat_natCast]
    exact Ac.pos (by omega) h
  rcases Ea hv ha hf with ⟨g1, _⟩ | ⟨g1, b, q, hb, hq, g2, g3⟩
  · exact .inl ⟨I _ (Ac.pos (decide_eq_true g1) (Ac.const _)), S _ (Ac.pos g1 (Ac.const _))⟩
  · rw [g2] at I S
    have n0 : ¬ ((b : Int) < 0) := by omega
    by_cases e : b = a
    · exact .inl ⟨I _ (Ac.neg (by rw [decide_eq_true_eq]; exact n0) (Ac.pos (by show (b : Int) = a; omega) (Ac.const _))), S _ (Ac.neg n0 (Ac.pos (by show (b : Int) = a; omega) (Ac.const _)))⟩
    · refine .inr ⟨b, q, hb, hq, g2, e, I _ (Ac.neg (by rw [decide_eq_true_eq]; exact n0) (Ac.neg (by show ¬ (b : Int) = a; omega) ?_)), S _ (Ac.neg n0 (Ac.neg (by show ¬ (b : Int) = a; omega) ?_))⟩
      · refine Ac.Eb (a := [(a : Int), (b : Int)]) (b := []) (c := 3) (d := []) (Ac.const _) (Ac.Eb (J9 hq) (Ac.bind (Ll hf) ?_))
        exact Yd (F := fun K f q => Bq.l1 K K (a : Int) (f : Int) ⟨(b : Int), (q : Int)⟩ [(a : Int), (b : Int)] 3 (PA q 0 : Int) (PA q 1 : Int) (PA q 2 : Int) (PA q 3 : Int) (ints (OT [f])) [] [] 0) (g := fun f q => some ([(a : Int), (b : Int)], (O23 a b f q).foldl I4 [], 3, qA)) (a := 4) (b := 24) (m := 100) (funext fun K => congrFun (congrFun (congrFun gH K) (a : Int)) (b : Int)) hf hq
      · exact Yd (F := fun K f q => Cy.l1 K K (a : Int) (f : Int) ⟨(b : Int), (q : Int)⟩ [] 0) (g := fun f q => ([(a : Int), (b : Int)], Wv, O23 a b f q, true)) (a := 4) (b := 24) (m := 100) (funext fun K => congrFun (congrFun (congrFun jQ K) (a : Int)) (b : Int)) hf hq
end
def EXC (i j : Nat) : Nat := PX ((([0, 1, 2, 3].set i j).set j i).getD 0 0) ((([0, 1, 2, 3].set i j).set j i).getD 1 0) ((([0, 1, 2, 3].set i j).set j i).getD 2 0) ((([0, 1, 2, 3].set i j).set j i).getD 3 0)
def O14 (t : Int) : List Ap := [⟨t, 0, 0, 0⟩, ⟨t, 1, 1, 0⟩, ⟨t, 2, 2, 0⟩, ⟨t, 3, 3, 0⟩]
def uI : List Fg := [⟨1, 0, 0, 6⟩, ⟨2, 0, 0, 14⟩, ⟨2, 1, 1, 2⟩, ⟨3, 0, 0, 21⟩, ⟨3, 1, 1, 5⟩, ⟨3, 2, 2, 1⟩]
def X4 : List (List Ab) := [[⟨-1, 0⟩, ⟨1, 6⟩, ⟨2, 14⟩, ⟨3, 21⟩], [⟨0, 6⟩, ⟨-1, 0⟩, ⟨2, 2⟩, ⟨3, 5⟩], [⟨0, 14⟩, ⟨1, 2⟩, ⟨-1, 0⟩, ⟨3, 1⟩], [⟨0, 21⟩, ⟨1, 5⟩, ⟨2, 1⟩, ⟨-1, 0⟩]]
theorem fQ : (fun (K : Nat) (t : Int) => Dt.f (K + 100) t) = fun K t => some ([t], (O14 t).foldl I4 [], 4, uI) := by kernel_rfl
theorem jU : (fun (K : Nat) (t : Int) => Dg.f (K + 100) t) = fun K t => some ([t], X4, O14 t) := by kernel_rfl
theorem lJ (t : Int) : Ac (fun K => Dt.f K t) ([t], (O14 t).foldl I4 [], 4, uI) := ⟨100, fun K hK => by
  have := congrFun (congrFun fQ (K - 100)) t
  rw [show K = K - 100 + 100 by omega]; exact this⟩
theorem kD (t : Int) : Ac (fun K => Dg.f K t) ([t], X4, O14 t) := ⟨100, fun K hK => by
  have := congrFun (congrFun jU (K - 100)) t
  rw [show K = K - 100 + 100 by omega]; exact this⟩
def X32 (i p : Nat) : Nat := MP [PA p 0, PA p 2, PA p 3, PA p 1] [0, 1 + i, 1 + (i + 1) % 3, 1 + (i + 2) % 3]
def Y32 (i p : Nat) : Nat := MP [PA p 1, PA p 2, PA p 3, PA p 0] [0, 1 + i, 1 + (i + 1) % 3, 1 + (i + 2) % 3]
def oX (i : Nat) (c : Nat × Nat) : Ap := ⟨(c.1 : Int), (PA c.2 1 : Nat), 0, (X32 i c.2 : Nat)⟩
def oY (i : Nat) (c : Nat × Nat) : Ap := ⟨(c.1 : Int), (PA c.2 0 : Nat), 1, (Y32 i c.2 : Nat)⟩
def O32 (c0 c1 c2 : Nat × Nat) : List Ap := [oX 0 c0, oY 0 c0, oX 1 c1, oY 1 c1, oX 2 c2, oY 2 c2]
def Vm : List (List Ab) := [[⟨1, 0⟩, ⟨-1, 0⟩, ⟨-1, 0⟩, ⟨-1, 0⟩], [⟨0, 0⟩, ⟨-1, 0⟩, ⟨-1, 0⟩, ⟨-1, 0⟩]]
def nM : List Fg := [⟨0, 0, 1, 0⟩]
theorem iO : (fun (K : Nat) => (List.range 72).map fun j : Nat => Ec.f (K + 60) [(PA (j % 24) 0 : Int), (PA (j % 24) 2 : Int), (PA (j % 24) 3 : Int), (PA (j % 24) 1 : Int)] [0, w64 (1 + ((j / 24 : Nat) : Int)), w64 (1 + ((w64 (((j / 24 : Nat) : Int) + 1)).tmod 3)), w64 (1 + ((w64 (((j / 24 : Nat) : Int) + 2)).tmod 3))]) = fun K => (List.range 72).map fun j : Nat => some ((X32 (j / 24) (j % 24) : Nat) : Int) := by kernel_rfl
theorem gI : (fun (K : Nat) => (List.range 72).map fun j : Nat => Ec.f (K + 60) [(PA (j % 24) 1 : Int), (PA (j % 24) 2 : Int), (PA (j % 24) 3 : Int), (PA (j % 24) 0 : Int)] [0, w64 (1 + ((j / 24 : Nat) : Int)), w64 (1 + ((w64 (((j / 24 : Nat) : Int) + 1)).tmod 3)), w64 (1 + ((w64 (((j / 24 : Nat) : Int) + 2)).tmod 3))]) = fun K => (List.range 72).map fun j : Nat => some ((Y32 (j / 24) (j % 24) : Nat) : Int) := by kernel_rfl
def ixX (K i p : Nat) : Option Int := Cf.f K (se 0 (PA p 3 : Int) (w64 (1 + ((w64 ((i : Int) + 1)).tmod 3))) (se 0 (PA p 2 : Int) (w64 (1 + (i : Int))) (se 0 (PA p 1 : Int) (w64 (1 + ((w64 ((i : Int) + 2)).tmod 3))) (se 0 (PA p 0 : Int) 0 0)))) (se 1 (PA p 3 : Int) (w64 (1 + ((w64 ((i : Int) + 1)).tmod 3))) (se 1 (PA p 2 : Int) (w64 (1 + (i : Int))) (se 1 (PA p 1 : Int) (w64 (1 + ((w64 ((i : Int) + 2)).tmod 3))) (se 1 (PA p 0 : Int) 0 0)))) (se 2 (PA p 3 : Int) (w64 (1 + ((w64 ((i : Int) + 1)).tmod 3))) (se 2 (PA p 2 : Int) (w64 (1 + (i : Int))) (se 2 (PA p 1 : Int) (w64 (1 + ((w64 ((i : Int) + 2)).tmod 3))) (se 2 (PA p 0 : Int) 0 0)))) (se 3 (PA p 3 : Int) (w64 (1 + ((w64 ((i : Int) + 1)).tmod 3))) (se 3 (PA p 2 : Int) (w64 (1 + (i : Int))) (se 3 (PA p 1 : Int) (w64 (1 + ((w64 ((i : Int) + 2)).tmod 3))) (se 3 (PA p 0 : Int) 0 0))))
def ixY (K i p : Nat) : Option Int := Cf.f K (se 0 (PA p 3 : Int) (w64 (1 + ((w64 ((i : Int) + 1)).tmod 3))) (se 0 (PA p 2 : Int) (w64 (1 + (i : Int))) (se 0 (PA p 1 : Int) 0 (se 0 (PA p 0 : Int) (w64 (1 + ((w64 ((i : Int) + 2)).tmod 3))) 0)))) (se 1 (PA p 3 : Int) (w64 (1 + ((w64 ((i : Int) + 1)).tmod 3))) (se 1 (PA p 2 : Int) (w64 (1 + (i : Int))) (se 1 (PA p 1 : Int) 0 (se 1 (PA p 0 : Int) (w64 (1 + ((w64 ((i : Int) + 2)).tmod 3))) 0)))) (se 2 (PA p 3 : Int) (w64 (1 + ((w64 ((i : Int) + 1)).tmod 3))) (se 2 (PA p 2 : Int) (w64 (1 + (i : Int))) (se 2 (PA p 1 : Int) 0 (se 2 (PA p 0 : Int) (w64 (1 + ((w64 ((i : Int) + 2)).tmod 3))) 0)))) (se 3 (PA p 3 : Int) (w64 (1 + ((w64 ((i : Int) + 1)).tmod 3))) (se 3 (PA p 2 : Int) (w64 (1 + (i : Int))) (se 3 (PA p 1 : Int) 0 (se 3 (PA p 0 : Int) (w64 (1 + ((w64 ((i : Int) + 2)).tmod 3))) 0))))
theorem gL : (fun (K : Nat) => (List.range (3 * 24)).map fun j : Nat => ixX (K + 60) (j / 24) (j % 24)) = fun K => (List.range (3 * 24)).map fun j : Nat => some ((X32 (j / 24) (j % 24) : Nat) : Int) := by kernel_rfl
theorem iP : (fun (K : Nat) => (List.range (3 * 24)).map fun j : Nat => ixY (K + 60) (j / 24) (j % 24)) = fun K => (List.range (3 * 24)).map fun j : Nat => some ((Y32 (j / 24) (j % 24) : Nat) : Int) := by kernel_rfl
section
variable {i p : Nat} (hi : i < 3) (hp : p < 24)
include hi hp
theorem iR : Ac (fun K => Ec.f K [(PA p 0 : Int), (PA p 2 : Int), (PA p 3 : Int), (PA p 1 : Int)] [0, w64 (1 + (i : Int)), w64 (1 + ((w64 ((i : Int) + 1)).tmod 3)), w64 (1 + ((w64 ((i : Int) + 2)).tmod 3))]) ((X32 i p : Nat) : Int) :=
  Yd (F := fun K i p => Ec.f K [(PA p 0 : Int), (PA p 2 : Int), (PA p 3 : Int), (PA p 1 : Int)] [0, w64 (1 + (i : Int)), w64 (1 + ((w64 ((i : Int) + 1)).tmod 3)), w64 (1 + ((w64 ((i : Int) + 2)).tmod 3))]) (g := fun i p => ((X32 i p : Nat) : Int)) (a := 3) (b := 24) (m := 60) iO hi hp
theorem jA : Ac (fun K => Ec.f K [(PA p 1 : Int), (PA p 2 : Int), (PA p 3 : Int), (PA p 0 : Int)] [0, w64 (1 + (i : Int)), w64 (1 + ((w64 ((i : Int) + 1)).tmod 3)), w64 (1 + ((w64 ((i : Int) + 2)).tmod 3))]) ((Y32 i p : Nat) : Int) :=
  Yd (F := fun K i p => Ec.f K [(PA p 1 : Int), (PA p 2 : Int), (PA p 3 : Int), (PA p 0 : Int)] [0, w64 (1 + (i : Int)), w64 (1 + ((w64 ((i : Int) + 1)).tmod 3)), w64 (1 + ((w64 ((i : Int) + 2)).tmod 3))]) (g := fun i p => ((Y32 i p : Nat) : Int)) (a := 3) (b := 24) (m := 60) gI hi hp
theorem rM : Ac (fun K => ixX K i p) ((X32 i p : Nat) : Int) := Yd (F := ixX) (g := fun i p => ((X32 i p : Nat) : Int)) (a := 3) (b := 24) (m := 60) gL hi hp
theorem rR : Ac (fun K => ixY K i p) ((Y32 i p : Nat) : Int) := Yd (F := ixY) (g := fun i p => ((Y32 i p : Nat) : Int)) (a := 3) (b := 24) (m := 60) iP hi hp
end
section
variable {ring : List Ab} (hl : ring.length = 3) {i : Nat} (hi : i < 3) {c : Nat × Nat} (hp : c.2 < 24) (hr : ring.getD i Bb = crn c)
include hl hi hp hr
theorem Rn {old : List Int} {inner : List Fg} {m : List (Gd × Dn)} {R : Option (List Int × List (Gd × Dn) × Int × List Fg)}
    (h : Aa (fun K k => Bc.l1 K k ring old 2 inner (I4 (I4 m (oX i c)) (oY i c)) ((i + 1 : Nat) : Int)) R) : Aa (fun K k => Bc.l1 K k ring old 2 inner m (i : Int)) R := by
  have h0 : PA c.2 0 < 4 := D6 hp (by omega)
  have h1 : PA c.2 1 < 4 := D6 hp (by omega)
  have h2 : PA c.2 2 < 4 := D6 hp (by omega)
  have h3 : PA c.2 3 < 4 := D6 hp (by omega)
  refine Aa.succ ?_
  simp only [Bc.l1]
  rw [Int.toNat_natCast, hr]
  refine Aa.pos (by omega) (Aa.pos (by omega) ?_)
  simp only [Fv, crn]
  refine Aa.Eb (J9 hp).two ?_
  refine Aa.pos (by omega) (Aa.pos (by omega) (Aa.pos (by omega) (Aa.pos (by omega) ?_)))
  refine Aa.bind (a := I4 m (oX i c)) ?_ ?_
  rotate_left
  refine Aa.bind (a := I4 (I4 m (oX i c)) (oY i c)) ?_ ?_
  rotate_left
  · rw [Ba (by omega)]; exact h
  · have := (rM hi hp).two
    exact Aa.bind this (Aa.const _)
  · have := (rR hi hp).two
    exact Aa.bind this (Aa.const _)
theorem Re {u v : List Ab} {old : List Int} {m : List Ap} {R : List Int × List (List Ab) × List Ap × Bool} (ho : old.length ≤ 10) (hm : m.length ≤ 20)
    (h : Aa (fun K k => Bi.l6 K k ring u v (old ++ [(c.1 : Int)]) ((m ++ [oX i c]) ++ [oY i c]) ((i + 1 : Nat) : Int)) R) : Aa (fun K k => Bi.l6 K k ring u v old m (i : Int)) R := by
  have h0 : PA c.2 0 < 4 := D6 hp (by omega)
  refine Aa.succ ?_
  simp only [Bi.l6]
  rw [Int.toNat_natCast, hr]
  refine Aa.pos (by omega) (Aa.pos (by omega) ?_)
  simp only [Fv, crn]
  refine Aa.pos (by omega) ?_
  refine Aa.bind (K6 hp (show 0 < 4 by omega)).two ?_
  refine Aa.bind (K6 hp (show 1 < 4 by omega)).two ?_
  refine Aa.bind (K6 hp (show 2 < 4 by omega)).two ?_
  refine Aa.bind (K6 hp (show 3 < 4 by omega)).two ?_
  refine Aa.bind (iR hi hp).two ?_
  refine Aa.pos (by omega) ?_
  refine Aa.bind (jA hi hp).two ?_
  refine Aa.pos (by simp only [List.length_append, List.length_singleton]; omega) ?_
  rw [Ba (by omega)]
  exact h
end
section
variable {c0 c1 c2 : Nat × Nat} (h0 : c0.2 < 24) (h1 : c1.2 < 24) (h2 : c2.2 < 24)
include h0 h1 h2
theorem iI (old : List Int) (inner : List Fg) : Ac (fun K => Bc.l1 K K [crn c0, crn c1, crn c2] old 2 inner [] 0) (some (old, (O32 c0 c1 c2).foldl I4 [], 2, nM)) := by
  refine Aa.G8 (F := fun K k => Bc.l1 K k [crn c0, crn c1, crn c2] old 2 inner [] ((0 : Nat) : Int)) ?_
  refine Rn rfl (by omega) h0 rfl (Rn rfl (by omega) h1 rfl (Rn rfl (by omega) h2 rfl ?_))
  exact Aa.of fun K k => by rw [Bc.l1, if_neg (by show ¬ ((3 : Nat) : Int) < 3; omega)]; rfl
theorem iV : Aa (fun K k => Bi.l6 K k [crn c0, crn c1, crn c2] Iq Iq [] [] 0) ([(c0.1 : Int), (c1.1 : Int), (c2.1 : Int)], Vm, O32 c0 c1 c2, true) := by
  refine Re (i := 0) rfl (by omega) h0 rfl (by simp) (by simp) (Re rfl (by omega) h1 rfl (by simp) (by simp) (Re rfl (by omega) h2 rfl (by simp) (by simp) ?_))
  exact Aa.of fun K k => by rw [Bi.l6, if_neg (by decide)]; rfl
end
def cnt (C : List Int) (v : Int) : Nat → Nat
  | 0 => 0
  | j + 1 => cnt C v j + if C.getD j 0 = v then 1 else 0
theorem bB (C : List Int) (v : Int) : ∀ j, cnt C v j ≤ j
  | 0 => Nat.le_refl _
  | j + 1 => by have := bB C v j; rw [cnt]; split <;> omega
theorem Z9 {C : List Int} {v : Int} {N x y z : Nat} (hxy : x ≠ y) (hyz : y ≠ z) (hxz : x ≠ z) (hx : x < N) (hy : y < N) (hz : z < N) (h : ∀ j, j < N → (C.getD j 0 = v ↔ j = x ∨ j = y ∨ j = z)) : cnt C v N = 3 := by
  have : ∀ j, j ≤ N → cnt C v j = (if x < j then 1 else 0) + (if y < j then 1 else 0) + (if z < j then 1 else 0) := by
    intro j
    induction j with
    | zero => intro _; rfl
    | succ j ih =>
      intro hj
      rw [cnt, ih (by omega)]
      have hh := h j (by omega)
      by_cases e : C.getD j 0 = v
      · rw [if_pos e]
        rcases hh.1 e with e | e | e <;> subst e <;> (repeat' split) <;> omega
      · rw [if_neg e]
        have hn : ¬ (j = x ∨ j = y ∨ j = z) := fun q => e (hh.2 q)
        (repeat' split) <;> omega
  rw [this N (Nat.le_refl _), if_pos hx, if_pos hy, if_pos hz]
section
variable {ts : List (List Ab)} (hv : Val ts) {C : List Int} {a e : Nat} (ha : a < ts.length) (he : e < 6)
include hv ha he
theorem bZ {a' : Nat} (ha' : a' < ts.length) {R : List Int × List (List Ab) × List Ap × Bool}
    (h : Aa (fun K k => Bi.l1 K k ts (a : Int) (e : Int) (rowsOf C 6 ts.length) (cnt C (C.getD (6 * a + e) 0) (6 * (a' + 1)) : Int) ((a' + 1 : Nat) : Int)) R) :
    ∀ (d e' : Nat), 6 - e' = d → e' ≤ 6 → Aa (fun K k => Bi.l5 K k ts (a : Int) (e : Int) (rowsOf C 6 ts.length) (a' : Int) (cnt C (C.getD (6 * a + e) 0) (6 * a' + e') : Int) (e' : Int)) R
  | 0, e', hd, hle => by
    have h8 := hv.le
    obtain rfl : e' = 6 := by omega
    refine Aa.step (fun K k => ?_) h
    rw [Bi.l5, if_neg (by omega), Ba (by omega)]; rfl
  | d + 1, e', hd, hle => by
    have h8 := hv.le
    have ih := bZ ha' h d (e' + 1) (by omega) (by omega)
    have hcl := bB C (C.getD (6 * a + e) 0) (6 * a' + e')
    refine Aa.succ ?_
    simp only [Bi.l5]
    refine Aa.pos (by omega) (Aa.pos (by rw [Gn]; omega) ?_)
    simp only [Int.toNat_natCast, Ia ha', Ia ha, Jd (show e' < 6 by omega), Jd he]
    refine Aa.pos (by rw [Jk]; omega) ?_
    rw [Ba (by omega), Ba (by omega)]
    rw [show 6 * a' + (e' + 1) = 6 * a' + e' + 1 by omega, cnt] at ih
    by_cases hc : C.getD (6 * a' + e') 0 = C.getD (6 * a + e) 0
    · rw [if_pos hc] at ih
      exact Aa.pos hc ih
    · rw [if_neg hc] at ih
      exact Aa.neg hc ih
theorem dZ {R : List Int × List (List Ab) × List Ap × Bool}
    (h : Aa (fun K k => Bi.l1 K k ts (a : Int) (e : Int) (rowsOf C 6 ts.length) (cnt C (C.getD (6 * a + e) 0) (6 * ts.length) : Int) (ts.length : Int)) R) :
    ∀ (d a' : Nat), ts.length - a' = d → a' ≤ ts.length → Aa (fun K k => Bi.l1 K k ts (a : Int) (e : Int) (rowsOf C 6 ts.length) (cnt C (C.getD (6 * a + e) 0) (6 * a') : Int) (a' : Int)) R
  | 0, a', hd, hle => by
    obtain rfl : a' = ts.length := by omega
    exact h
  | d + 1, a', hd, hle => by
    have := bZ hv ha he (show a' < ts.length by omega) (dZ h d (a' + 1) (by omega) (by omega)) 6 0 rfl (by omega)
    refine Aa.step (fun K k => ?_) this
    rw [Bi.l1, if_pos (by rw [Gn]; omega)]; rfl
section
variable {V E F : List Int} (hB : Ac (fun K => Av.f K ts) (V, E, F)) (hE : E.length ≤ 100) {Sg : List Int} (hS : Ac (fun K => Ak.f K ts) (rowsOf Sg 6 ts.length))
include hB hE hS
theorem iK {x : Nat} {R : List Int × List (List Ab) × List Ap × Bool} (h3 : x ≠ 3 → R = ([], [], [], false)) (h0 : x = 3 → Sg.getD (6 * a + e) 0 = 0 → R = ([], [], [], false)) (hb : x = 3 → Sg.getD (6 * a + e) 0 ≠ 0 → C.getD (6 * a + e) 0 ∈ E → R = ([], [], [], false))
    (hr : x = 3 → Sg.getD (6 * a + e) 0 ≠ 0 → ¬ C.getD (6 * a + e) 0 ∈ E → ∃ ring, Ac (fun K => E9.f K ts (C.getD (6 * a + e) 0)) ring ∧ (ring.length ≠ 3 → R = ([], [], [], false)) ∧
      (ring.length = 3 → ((ring.getD 0 Bb).Tet = (ring.getD 1 Bb).Tet ∨ (ring.getD 1 Bb).Tet = (ring.getD 2 Bb).Tet ∨ (ring.getD 0 Bb).Tet = (ring.getD 2 Bb).Tet) → R = ([], [], [], false)) ∧
      (ring.length = 3 → (ring.getD 0 Bb).Tet ≠ (ring.getD 1 Bb).Tet → (ring.getD 1 Bb).Tet ≠ (ring.getD 2 Bb).Tet → (ring.getD 0 Bb).Tet ≠ (ring.getD 2 Bb).Tet → Aa (fun K k => Bi.l6 K k ring Iq Iq [] [] 0) R)) :
    Aa (fun K k => Bi.l1 K k ts (a : Int) (e : Int) (rowsOf C 6 ts.length) (x : Int) (ts.length : Int)) R := by
  have h8 := hv.le
  refine Aa.succ ?_
  simp only [Bi.l1]
  refine Aa.neg (by rw [Gn]; omega) ?_
  by_cases hx : x = 3
  rotate_left
  · rw [h3 hx]
    exact Aa.neg (by omega) (Aa.const _)
  refine Aa.pos (by omega) ?_
  refine Aa.Ik hB.two ?_
  refine Aa.bind hS.two ?_
  refine Aa.pos (by rw [Gn]; omega) ?_
  simp only [Int.toNat_natCast, Ia ha, Jd he]
  refine Aa.pos (by rw [Jk]; omega) ?_
  by_cases hs : Sg.getD (6 * a + e) 0 = 0
  · rw [h0 hx hs]; exact Aa.pos hs (Aa.const _)
  refine Aa.neg hs ?_
  refine Aa.bind (lK (by omega)).two ?_
  by_cases hm : C.getD (6 * a + e) 0 ∈ E
  · rw [hb hx hs hm]; exact Aa.pos (decide_eq_true hm) (Aa.const _)
  refine Aa.neg (by rw [decide_eq_true_eq]; exact hm) ?_
  obtain ⟨ring, g1, g2, g3, g4⟩ := hr hx hs hm
  refine Aa.bind g1.two ?_
  by_cases hl : ring.length = 3
  rotate_left
  · rw [g2 hl]; exact Aa.neg (by omega) (Aa.const _)
  refine Aa.pos (by omega) (Aa.pos (by omega) ?_)
  simp only [Fv]
  refine Aa.pos (by omega) ?_
  by_cases e1 : (ring.getD 0 Bb).Tet = (ring.getD 1 Bb).Tet
  · rw [g3 hl (.inl e1)]; exact Aa.pos e1 (Aa.const _)
  refine Aa.neg e1 (Aa.pos (by omega) ?_)
  by_cases e2 : (ring.getD 1 Bb).Tet = (ring.getD 2 Bb).Tet
  · rw [g3 hl (.inr (.inl e2))]; exact Aa.pos e2 (Aa.const _)
  refine Aa.neg e2 ?_
  by_cases e3 : (ring.getD 0 Bb).Tet = (ring.getD 2 Bb).Tet
  · rw [g3 hl (.inr (.inr e3))]; exact Aa.pos e3 (Aa.const _)
  refine Aa.neg e3 ?_
  refine Aa.bind (a := Iq) (Aa.const _) ?_
  refine Aa.bind (a := Iq) (Aa.const _) ?_
  refine Aa.pos (by decide) (Aa.pos (by decide) (Aa.pos (by decide) (Aa.pos (by decide) ?_)))
  exact g4 hl e1 e2 e3
end
end
theorem Sm {P : Nat → Prop} : ∀ n, P n → ∃ m, m ≤ n ∧ P m ∧ ∀ j, j < m → ¬ P j := by
  intro n
  induction n using Nat.strongRecOn with
  | _ n ih =>
    intro hn
    by_cases h : ∃ j, j < n ∧ P j
    · obtain ⟨j, h1, h2⟩ := h
      obtain ⟨m, a, b⟩ := ih j h1 h2
      exact ⟨m, by omega, b⟩
    · exact ⟨n, Nat.le_refl _, hn, fun j h1 h2 => h ⟨j, h1, h2⟩⟩
def Mg (K : Nat) (t41 : List Ab) : Option (Option (List Int × List (Gd × Dn) × Int × List Fg)) := (if (t41.length : Int) = 3 then (if 0 ≤ (0 : Int) ∧ (0 : Int) < (t41.length : Int) then (bnd (t41.getD 0 Bb) (fun e62 => if 0 ≤ (1 : Int) ∧ (1 : Int) < (t41.length : Int) then (bnd (t41.getD 1 Bb) (fun e66 => if e62.Tet = e66.Tet then (some none) else (if 0 ≤ (2 : Int) ∧ (2 : Int) < (t41.length : Int) then (bnd (t41.getD 2 Bb) (fun e70 => if e66.Tet = e70.Tet then (some none) else (if e70.Tet = e62.Tet then (some none) else (Go.Proofs.YtbjfinndngafoaaGreat.Eb (Fh.f 2 ([e62.Tet, e66.Tet, e70.Tet] : List Int)) (fun t79 t80 t81 t82 => (Bc.l1 K K t41 t79 t81 t82 t80 0)))))) else none))) else none)) else none) else (some none))
theorem mY {ring : List Ab} (h : ring.length ≠ 3 ∨ (ring.length = 3 ∧ ((ring.getD 0 Bb).Tet = (ring.getD 1 Bb).Tet ∨ (ring.getD 1 Bb).Tet = (ring.getD 2 Bb).Tet ∨ (ring.getD 0 Bb).Tet = (ring.getD 2 Bb).Tet))) : Ac (fun K => Mg K ring) none := by
  unfold Mg
  by_cases hl : ring.length = 3
  rotate_left
  · exact Ac.neg (by omega) (Ac.const _)
  refine Ac.pos (by omega) (Ac.pos (by omega) ?_)
  simp only [Fv]
  refine Ac.pos (by omega) ?_
  by_cases e1 : (ring.getD 0 Bb).Tet = (ring.getD 1 Bb).Tet
  · exact Ac.pos e1 (Ac.const _)
  refine Ac.neg e1 (Ac.pos (by omega) ?_)
  by_cases e2 : (ring.getD 1 Bb).Tet = (ring.getD 2 Bb).Tet
  · exact Ac.pos e2 (Ac.const _)
  refine Ac.neg e2 ?_
  by_cases e3 : (ring.getD 2 Bb).Tet = (ring.getD 0 Bb).Tet
  · exact Ac.pos e3 (Ac.const _)
  · rcases h with h | ⟨_, h | h | h⟩
    · exact absurd hl h
    · exact absurd h e1
    · exact absurd h e2
    · exact absurd h.symm e3
theorem fF {c0 c1 c2 : Nat × Nat} (h0 : c0.2 < 24) (h1 : c1.2 < 24) (h2 : c2.2 < 24) (e1 : c0.1 ≠ c1.1) (e2 : c1.1 ≠ c2.1) (e3 : c0.1 ≠ c2.1) : Ac (fun K => Mg K [crn c0, crn c1, crn c2]) (some ([(c0.1 : Int), (c1.1 : Int), (c2.1 : Int)], (O32 c0 c1 c2).foldl I4 [], 2, nM)) := by
  unfold Mg
  refine Ac.pos (by show ((3 : Nat) : Int) = 3; omega) (Ac.pos (by show 0 ≤ (0 : Int) ∧ (0 : Int) < ((3 : Nat) : Int); omega) ?_)
  simp only [Fv]
  refine Ac.pos (by show 0 ≤ (1 : Int) ∧ (1 : Int) < ((3 : Nat) : Int); omega) ?_
  refine Ac.neg (by show ¬ ((c0.1 : Int) = (c1.1 : Int)); omega) ?_
  refine Ac.pos (by show 0 ≤ (2 : Int) ∧ (2 : Int) < ((3 : Nat) : Int); omega) ?_
  refine Ac.neg (by show ¬ ((c1.1 : Int) = (c2.1 : Int)); omega) ?_
  refine Ac.neg (by show ¬ ((c2.1 : Int) = (c0.1 : Int)); omega) ?_
  exact Ac.Eb (a := [(c0.1 : Int), (c1.1 : Int), (c2.1 : Int)]) (b := []) (c := 2) (d := []) (Ac.const _) (iI h0 h1 h2 _ _)
section
variable {ts : List (List Ab)} (hv : Val ts) (hT : Ac (fun K => Ah.f K ts) true)
include hv hT
theorem kG {a e : Nat} (ha : a < ts.length) (he : e < 6) :
    (Ac (fun K => Bc.f K ts (a : Int) (e : Int)) none ∧ Ac (fun K => Bi.f K ts (a : Int) (e : Int)) ([], [], [], false)) ∨
    (∃ c0 c1 c2 : Nat × Nat, (c0.1 < ts.length ∧ c0.2 < 24) ∧ (c1.1 < ts.length ∧ c1.2 < 24) ∧ (c2.1 < ts.length ∧ c2.2 < 24) ∧ nx ts c0 = some c1 ∧ nx ts c1 = some c2 ∧ nx ts c2 = some c0 ∧ c0.1 ≠ c1.1 ∧ c1.1 ≠ c2.1 ∧ c0.1 ≠ c2.1 ∧
      Ac (fun K => Bc.f K ts (a : Int) (e : Int)) (some ([(c0.1 : Int), (c1.1 : Int), (c2.1 : Int)], (O32 c0 c1 c2).foldl I4 [], 2, nM)) ∧
      Ac (fun K => Bi.f K ts (a : Int) (e : Int)) ([(c0.1 : Int), (c1.1 : Int), (c2.1 : Int)], Vm, O32 c0 c1 c2, true)) := by
  have h8 := hv.le
  obtain ⟨vs, ys, fs, h1, hPL, h3, hcnt⟩ := gX hv
  have hP := hPL.1
  obtain ⟨s', hP', hc'⟩ := Sy hv
  have hc : Ac (fun K => Bj.f K ts) (CN (6 * ts.length) ys) := by rw [gF (hP.same hP')]; exact hc'
  obtain ⟨Sg, hS, hz, hs, hss⟩ := iF hv hP
  obtain ⟨o1, r1, r2, r3⟩ := Ya hv hP hc hS hz (hs hc)
  obtain ⟨o2, b1, b2, b3⟩ := Xw hv hP hc
  obtain ⟨V, E, F, g1, g2, g3⟩ := uV hv hT hcnt
  have hj : 6 * a + e < 6 * ts.length := mul_lt ha he
  obtain ⟨cr1, cr2, cr3⟩ := I9 (s := ys) (N := 6 * ts.length) (by omega) hj
  obtain ⟨c, hcj⟩ : ∃ c : Nat, (CN (6 * ts.length) ys).getD (6 * a + e) 0 = (c : Int) := ⟨((CN (6 * ts.length) ys).getD (6 * a + e) 0).toNat, by omega⟩
  have r3 := r3 _ hj
  have g3 := g3 _ hj
  have front := fun {R} => dZ (C := CN (6 * ts.length) ys) hv ha he (R := R)
  rw [hcj] at r3 g3 cr2 front
  rw [Int.toNat_natCast] at r3
  have w : w64 ((w64 (6 * (a : Int))) + (e : Int)) = ((6 * a + e : Nat) : Int) := w6 (c := 6) (by omega) (by omega) (by omega)
  have I : ∀ r, Ac (fun K => if (o1.getD c false) = true then (some none) else ((Al.f K ts).bind fun t33 => (if 0 ≤ (c : Int) ∧ (c : Int) < (t33.length : Int) then (if (t33.getD c false) = true then (some none) else ((Cc.f K ts (c : Int)).bind fun t41 => Mg K t41)) else none))) r → Ac (fun K => Bc.f K ts (a : Int) (e : Int)) r := fun r h => by
    refine Ac.bind hc ?_
    simp only [w, Int.toNat_natCast, hcj]
    refine Ac.pos (by rw [K4]; omega) ?_
    refine Ac.bind r1 (Ac.pos (by omega) h)
  have S : ∀ R, Aa (fun K k => Bi.l1 K k ts (a : Int) (e : Int) (rowsOf (CN (6 * ts.length) ys) 6 ts.length) (cnt (CN (6 * ts.length) ys) (c : Int) (6 * ts.length) : Int) (ts.length : Int)) R → Ac (fun K => Bi.f K ts (a : Int) (e : Int)) R := fun R h => by
    refine Ac.Eb hcnt ?_
    refine Ac.pos (by rw [Gn]; omega) ?_
    simp only [Int.toNat_natCast, Ia ha]
    refine Ac.pos (by rw [Jk]; omega) ?_
    exact (front h ts.length 0 rfl (by omega)).G8
  have En := fun {x : Nat} {R} => iK (C := CN (6 * ts.length) ys) hv ha he g1 g2 hss (x := x) (R := R)
  rw [hcj] at En
  by_cases hsg : Sg.getD (6 * a + e) 0 = 0
  · refine .inl ⟨I _ (Ac.pos (by rw [r3]; exact decide_eq_true hsg) (Ac.const _)), S _ (En (fun _ => rfl) (fun _ _ => rfl) (fun _ _ _ => rfl) (fun _ h => absurd hsg h))⟩
  have I1 : ∀ r, Ac (fun K => if (o2.getD c false) = true then (some none) else ((Cc.f K ts (c : Int)).bind fun t41 => Mg K t41)) r → Ac (fun K => Bc.f K ts (a : Int) (e : Int)) r := fun r h => I r (Ac.neg (by rw [r3, decide_eq_true_eq]; exact hsg) (Ac.bind b1 (Ac.pos (by omega) h)))
  by_cases hbd : o2.getD c false = true
  · have hE : (c : Int) ∈ E := g3.2 ((b3 c).1 hbd)
    exact .inl ⟨I1 _ (Ac.pos hbd (Ac.const _)), S _ (En (fun _ => rfl) (fun _ _ => rfl) (fun _ _ _ => rfl) (fun _ _ h => absurd hE h))⟩
  have hbf : o2.getD c false = false := Bool.eq_false_iff.2 hbd
  have hE : ¬ (c : Int) ∈ E := fun h => hbd ((b3 c).2 (g3.1 h))
  obtain ⟨j0, j1, j2, j3⟩ := Sm (P := fun j => (CN (6 * ts.length) ys).getD j 0 = (c : Int)) _ hcj
  have hj0 : j0 < 6 * ts.length := by omega
  obtain ⟨hI, st1, st2⟩ := Yf hv hP hc hcnt b1 b2 b3 hj0 j2 j3 hbf
  obtain ⟨s1, s2, s3, s4⟩ := qD (show j0 % 6 < 6 by omega)
  have hC : Cor ts (CN (6 * ts.length) ys) (c : Int) (j0 / 6, ST (j0 % 6)) := ⟨by show j0 / 6 < ts.length; omega, s1, by
    show (CN (6 * ts.length) ys).getD (6 * (j0 / 6) + EE (PA (ST (j0 % 6)) 0) (PA (ST (j0 % 6)) 1)) 0 = _
    rw [s4, show 6 * (j0 / 6) + j0 % 6 = j0 by omega]; exact j2⟩
  obtain ⟨m, m1, m2, m3, m4⟩ := qZ hv hP hI hC
  have R1 : Ac (fun K => Cc.f K ts (c : Int)) (Jn ts (j0 / 6, ST (j0 % 6)) m) := Ac.Eg st1 (dL hv hP hI hC m2 m3 m4 _ 0 rfl (by omega)).G8
  have R2 : Ac (fun K => E9.f K ts (c : Int)) (Jn ts (j0 / 6, ST (j0 % 6)) m) := Ac.Eg st2 (aV hv hP hI hC m2 m3 m4 _ 0 rfl (by omega)).G8
  have I2 : ∀ r, Ac (fun K => Mg K (Jn ts (j0 / 6, ST (j0 % 6)) m)) r → Ac (fun K => Bc.f K ts (a : Int) (e : Int)) r := fun r h => I1 r (Ac.neg (by rw [hbf]; decide) (Ac.bind R1 h))
  by_cases hno : (Jn ts (j0 / 6, ST (j0 % 6)) m).length ≠ 3 ∨ ((Jn ts (j0 / 6, ST (j0 % 6)) m).length = 3 ∧ (((Jn ts (j0 / 6, ST (j0 % 6)) m).getD 0 Bb).Tet = ((Jn ts (j0 / 6, ST (j0 % 6)) m).getD 1 Bb).Tet ∨ ((Jn ts (j0 / 6, ST (j0 % 6)) m).getD 1 Bb).Tet = ((Jn ts (j0 / 6, ST (j0 % 6)) m).getD 2 Bb).Tet ∨ ((Jn ts (j0 / 6, ST (j0 % 6)) m).getD 0 Bb).Tet = ((Jn ts (j0 / 6, ST (j0 % 6)) m).getD 2 Bb).Tet))
  · refine .inl ⟨I2 _ (mY hno), S _ (En (fun _ => rfl) (fun _ _ => rfl) (fun _ _ _ => rfl) (fun _ _ _ => ⟨_, R2, fun _ => rfl, fun _ _ => rfl, fun q1 q2 q3 q4 => ?_⟩))⟩
    rcases hno with h | ⟨_, h | h | h⟩
    · exact absurd q1 h
    · exact absurd h q2
    · exact absurd h q3
    · exact absurd h q4
  · have hm : m = 3 := by
      have : ¬ (Jn ts (j0 / 6, ST (j0 % 6)) m).length ≠ 3 := fun h => hno (.inl h)
      rw [Lp] at this; omega
    subst hm
    have hl3 : Jn ts (j0 / 6, ST (j0 % 6)) 3 = [crn (it ts (j0 / 6, ST (j0 % 6)) 0), crn (it ts (j0 / 6, ST (j0 % 6)) 1), crn (it ts (j0 / 6, ST (j0 % 6)) 2)] := rfl
    have k0 := Jv hv hP hI hC 0
    have k1 := Jv hv hP hI hC 1
    have k2 := Jv hv hP hI hC 2
    have n0 := (O0 hv hP hI hC 0).1
    have n1 := (O0 hv hP hI hC 1).1
    have n2 := (O0 hv hP hI hC 2).1
    have all : ∀ j, j < 6 * ts.length → ((CN (6 * ts.length) ys).getD j 0 = (c : Int) ↔ j = eo (it ts (j0 / 6, ST (j0 % 6)) 0) ∨ j = eo (it ts (j0 / 6, ST (j0 % 6)) 1) ∨ j = eo (it ts (j0 / 6, ST (j0 % 6)) 2)) := fun j hj => by
      rw [aW hv hP hI hC m1 m3 hj]
      constructor
      · rintro ⟨k, hk, e⟩
        rcases (by omega : k = 0 ∨ k = 1 ∨ k = 2) with rfl | rfl | rfl
        · exact .inl e
        · exact .inr (.inl e)
        · exact .inr (.inr e)
      · rintro (e | e | e)
        · exact ⟨0, by omega, e⟩
        · exact ⟨1, by omega, e⟩
        · exact ⟨2, by omega, e⟩
    have hlen : (Jn ts (j0 / 6, ST (j0 % 6)) 3).length = 3 := Lp _ _ _
    rw [hl3] at hno I2 R2 hlen
    have n2 : nx ts (it ts (j0 / 6, ST (j0 % 6)) 2) = some (it ts (j0 / 6, ST (j0 % 6)) 0) := n2.trans (congrArg some m3)
    generalize it ts (j0 / 6, ST (j0 % 6)) 0 = c0 at *
    generalize it ts (j0 / 6, ST (j0 % 6)) 1 = c1 at *
    generalize it ts (j0 / 6, ST (j0 % 6)) 2 = c2 at *
    have d1 : c0.1 ≠ c1.1 := fun h => hno (.inr ⟨hlen, .inl (by show (c0.1 : Int) = (c1.1 : Int); omega)⟩)
    have d2 : c1.1 ≠ c2.1 := fun h => hno (.inr ⟨hlen, .inr (.inl (by show (c1.1 : Int) = (c2.1 : Int); omega))⟩)
    have d3 : c0.1 ≠ c2.1 := fun h => hno (.inr ⟨hlen, .inr (.inr (by show (c0.1 : Int) = (c2.1 : Int); omega))⟩)
    refine .inr ⟨c0, c1, c2, ⟨k0.tet, k0.perm⟩, ⟨k1.tet, k1.perm⟩, ⟨k2.tet, k2.perm⟩, n0, n1, n2, d1, d2, d3, I2 _ (fF k0.perm k1.perm k2.perm d1 d2 d3), S _ ?_⟩
    have f0 := Sc k0.perm
    have f1 := Sc k1.perm
    have f2 := Sc k2.perm
    have lt : ∀ {x : Nat × Nat}, Cor ts (CN (6 * ts.length) ys) (c : Int) x → eo x < 6 * ts.length := fun h => mul_lt h.tet (Sc h.perm).2.2.2.1
    have h3 : cnt (CN (6 * ts.length) ys) (c : Int) (6 * ts.length) = 3 := Z9 (by omega) (by omega) (by omega) (lt k0) (lt k1) (lt k2) all
    refine En (fun h => absurd h3 h) (fun _ h => absurd h hsg) (fun _ _ h => absurd h hE) (fun _ _ _ => ⟨_, R2, fun h => absurd rfl h, fun _ q => ?_, fun _ _ _ _ => iV k0.perm k1.perm k2.perm⟩)
    exact (hno (.inr ⟨rfl, q⟩)).elim
end
theorem Oz {α : Type} {l : Nat → Nat → Nat → Option α} {n : Nat} {P : Nat → Bool} {r : α} (go : ∀ i, i < n → P i = true → ∀ v, Aa (fun K k => l K k (i + 1)) v → Aa (fun K k => l K k i) v) (h : Jp n P = true) (fin : Aa (fun K k => l K k n) r) : Aa (fun K k => l K k 0) r := by
  have main : ∀ m i, n - i = m → i ≤ n → Aa (fun K k => l K k i) r := by
    intro m
    induction m with
    | zero =>
      intro i h1 h2
      obtain rfl : i = n := by omega
      exact fin
    | succ m ih => intro i h1 h2; exact go i (by omega) (Nh h (by omega)) _ (ih (i + 1) (by omega) (by omega))
  exact main n 0 rfl (Nat.zero_le _)
theorem kP {a b : Nat} (ha : a < 4) (hb : b < 4) (hab : a ≠ b) : Ac (fun K => Fy.f K (a : Int) (b : Int)) (EXC a b : Int) :=
  fB (F := fun K a b => Fy.f K (a : Int) (b : Int)) (g := fun a b => (EXC a b : Int)) (m := 60) (by kernel_rfl) ha hb hab
theorem kQ {a b : Nat} (ha : a < 4) (hb : b < 4) (hab : a ≠ b) : Ac (fun K => Ff.f K (a : Int) (b : Int)) (EXC a b : Int) :=
  fB (F := fun K a b => Ff.f K (a : Int) (b : Int)) (g := fun a b => (EXC a b : Int)) (m := 60) (by kernel_rfl) ha hb hab
theorem Ye {a b : Nat} (ha : a < 4) (hb : b < 4) : a ≠ b → EXC a b < 24 := by
  have : ∀ a, a < 4 → ∀ b, b < 4 → a ≠ b → EXC a b < 24 := by decide +kernel
  exact this a ha b hb
section
variable {ts : List (List Ab)} (hv : Val ts) {a A : Nat} (ha : a < ts.length) (hA : A < 4)
include hv ha hA
theorem Jb {t11 : List Int} (hl : t11.length = 3) {i y : Nat} (hi : i < 3) (hy : y < 4) (ht : t11.getD i 0 = (y : Int)) (hb : (Bv ts a y).Tet < 0) {o1 o2 o3 o4 o5 o6 o7 o8 : Int} :
    Aa (fun K k => Ag.l1 K k ts (a : Int) (A : Int) t11 o1 o2 o3 o4 o5 o6 o7 o8 (i : Int)) (o1, o2, o3, o4, o5, o6, o7, o8, false) := by
  have h8 := hv.le
  have hr := hv.four a ha
  refine Aa.succ ?_
  simp only [Ag.l1, Int.toNat_natCast, ht, Fv]
  refine Aa.pos (by omega) (Aa.pos (by omega) (Aa.pos (by omega) (Aa.pos (by omega) ?_)))
  show Aa (fun K k => if decide ((Bv ts a y).Tet < 0) = true then _ else _) _
  exact Aa.pos (decide_eq_true hb) (Aa.const _)
theorem H5 {t11 : List Int} (hl : t11.length = 3) {i y : Nat} (hi : i < 3) (hy : y < 4) (hyA : A ≠ y) (ht : t11.getD i 0 = (y : Int)) {b q : Nat} (hb : Bv ts a y = ⟨b, q⟩) (hq : q < 24) {o1 o2 o3 o4 o5 o6 o7 o8 : Int} {R : Int × Int × Int × Int × Int × Int × Int × Int × Bool}
    (h : Aa (fun K k => Ag.l1 K k ts (a : Int) (A : Int) t11 (se 0 (y : Int) (b : Int) o1) (se 0 (y : Int) (PM (PI q) (EXC A y) : Int) o2) (se 1 (y : Int) (b : Int) o3) (se 1 (y : Int) (PM (PI q) (EXC A y) : Int) o4) (se 2 (y : Int) (b : Int) o5) (se 2 (y : Int) (PM (PI q) (EXC A y) : Int) o6) (se 3 (y : Int) (b : Int) o7) (se 3 (y : Int) (PM (PI q) (EXC A y) : Int) o8) ((i + 1 : Nat) : Int)) R) :
    Aa (fun K k => Ag.l1 K k ts (a : Int) (A : Int) t11 o1 o2 o3 o4 o5 o6 o7 o8 (i : Int)) R := by
  have h8 := hv.le
  have hr := hv.four a ha
  have hb' : (ts.getD a []).getD y Bb = ⟨b, q⟩ := hb
  refine Aa.succ ?_
  simp only [Ag.l1, Int.toNat_natCast, ht, Fv, hb']
  refine Aa.pos (by omega) (Aa.pos (by omega) (Aa.pos (by omega) (Aa.pos (by omega) ?_)))
  refine Aa.bind (a := decide ((b : Int) < 0)) (Aa.const _) ?_
  refine Aa.neg (by rw [decide_eq_true_eq]; omega) ?_
  refine Aa.bind (K3 hq).two ?_
  refine Aa.bind (kP hA hy hyA).two ?_
  refine Aa.bind (Md (G9 hq) (Ye hA hy hyA)).two ?_
  refine Aa.pos (by omega) ?_
  rw [Ba (by omega)]
  exact h
theorem Jq {T P : List Int} {R : List Int × List (List Ab) × List Ap × Bool} (h : Aa (fun K k => Am.l1 K k ts (a : Int) (A : Int) T P ((A + 1 : Nat) : Int)) R) : Aa (fun K k => Am.l1 K k ts (a : Int) (A : Int) T P (A : Int)) R := by
  refine Aa.step (fun K k => ?_) h
  rw [Am.l1, if_pos (by omega), if_pos rfl, Ba (by omega)]
theorem Ja {T P : List Int} {y : Nat} (hy : y < 4) (hyA : A ≠ y) (hb : (Bv ts a y).Tet < 0) : Aa (fun K k => Am.l1 K k ts (a : Int) (A : Int) T P (y : Int)) ([], [], [], false) := by
  have h8 := hv.le
  have hr := hv.four a ha
  refine Aa.succ ?_
  simp only [Am.l1, Int.toNat_natCast, Fv]
  refine Aa.pos (by omega) (Aa.neg (by omega) (Aa.pos (by omega) (Aa.pos (by omega) ?_)))
  exact Aa.pos hb (Aa.const _)
theorem Hz {T P : List Int} (hT : T.length = 4) (hP : P.length = 4) {y : Nat} (hy : y < 4) (hyA : A ≠ y) {b q : Nat} (hb : Bv ts a y = ⟨b, q⟩) (hq : q < 24) {R : List Int × List (List Ab) × List Ap × Bool}
    (h : Aa (fun K k => Am.l1 K k ts (a : Int) (A : Int) (T.set y (b : Int)) (P.set y (PM (PI q) (EXC A y) : Int)) ((y + 1 : Nat) : Int)) R) : Aa (fun K k => Am.l1 K k ts (a : Int) (A : Int) T P (y : Int)) R := by
  have h8 := hv.le
  have hr := hv.four a ha
  have hb' : (ts.getD a []).getD y Bb = ⟨b, q⟩ := hb
  refine Aa.succ ?_
  simp only [Am.l1, Int.toNat_natCast, Fv, hb']
  refine Aa.pos (by omega) (Aa.neg (by omega) (Aa.pos (by omega) (Aa.pos (by omega) ?_)))
  refine Aa.neg (by omega) (Aa.pos (by omega) ?_)
  refine Aa.bind (Oh hq).two ?_
  refine Aa.bind (kQ hA hy hyA).two ?_
  refine Aa.bind (R7 (G9 hq) (Ye hA hy hyA)).two ?_
  refine Aa.pos (by omega) ?_
  rw [Ba (by omega)]
  exact h
end
end Go.Proofs.YtbjfinndngafoaaGreat
