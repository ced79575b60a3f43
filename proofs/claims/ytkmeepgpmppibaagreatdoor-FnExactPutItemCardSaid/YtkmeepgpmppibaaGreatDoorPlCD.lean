/-
  PutItem: the law.
-/
import Derived.Test.YtkmeepgpmppibaaGreatDoorPlCC
import Derived.Test.YtkmeepgpmppibaaGreatDoorPlBT
import Derived.Test.YtkmeepgpmppibaaGreatDoorPlBMA
import Derived.Test.YtkmeepgpmppibaaGreatDoorAl4R
set_option linter.unusedVariables false
set_option linter.unusedSimpArgs false
namespace Go.Proofs.YtkmeepgpmppibaaGreatDoor
open Go.RowKit
theorem Ab.Yx {α0 α1 α2 α3 α4 α5 α6 ε : Type} {a0 : α0} {a1 : α1} {a2 : α2} {a3 : α3} {a4 : α4} {a5 : α5} {a6 : α6} {r : ε} {F : Nat → Option (α0 × α1 × α2 × α3 × α4 × α5 × α6)} {G : Nat → α0 → α1 → α2 → α3 → α4 → α5 → α6 → Option ε} (h : Ab F (a0, a1, a2, a3, a4, a5, a6)) (g : Ab (fun K => G K a0 a1 a2 a3 a4 a5 a6) r) : Ab (fun K => Go.Proofs.YtkmeepgpmppibaaGreatDoor.Yx (F K) (G K)) r := by
  obtain ⟨n, hn⟩ := h
  obtain ⟨m, hm⟩ := g
  exact ⟨n + m, fun K hK => by show Go.Proofs.YtkmeepgpmppibaaGreatDoor.Yx (F K) (G K) = some r; rw [hn K (by omega)]; exact hm K (by omega)⟩
theorem jL {I : List Am} {U R : List (List Am)} (hI : I.length ≤ 9223372036854775807) (hIs : ∀ i, i < I.length → Fits (I.getD i Br))
    (hU : U.length ≤ 9223372036854775807) (hUs : ∀ i, i < U.length → (U.getD i []).length ≤ 9223372036854775807 ∧ ∀ j, j < (U.getD i []).length → Fits ((U.getD i []).getD j Br))
    (hR : R.length ≤ 9223372036854775807) (hRs : ∀ i, i < R.length → (R.getD i []).length ≤ 9223372036854775807 ∧ ∀ j, j < (R.getD i []).length → Fits ((R.getD i []).getD j Br)) :
    ∃ r, Ab (fun K => Ku.f K I U R 1048576) r ∧ (r < 0 ∨ (0 ≤ r ∧ r ≤ 1048576 ∧ Kk I + Hu U + Hu R ≤ 10000000 ∧ (I.length ≤ 2000000 ∧ ∀ i, i < I.length → Small (I.getD i Br)) ∧ Jb U ∧ Jb R)) := by
  unfold Ku.f
  refine Oh (aF hI hIs (by omega) (by omega)) fun l0 ⟨a0, a1, a2, a3⟩ _ => ?_
  refine Oh (X4 hU hUs a0 (by omega)) fun l1 ⟨b0, b1, b2⟩ _ => ?_
  refine Oh (X4 hR hRs b0 (by omega)) fun l2 ⟨c0, c1, c2⟩ _ => ?_
  exact ⟨l2, Ab.const _, .inr ⟨by omega, by omega, by omega, ⟨a2, a3⟩, b2, c2⟩⟩
theorem Vr {I : List Am} {U R : List (List Am)} (hI : I.length ≤ 2000000) (hIs : ∀ i, i < I.length → Small (I.getD i Br)) (hU : Jb U) (hR : Jb R) (hc : Kk I + Hu U + Hu R ≤ 900000000) : ∃ (I' : List Am) (U' R' : List (List Am)),
    I'.length = I.length ∧ U'.length = U.length ∧ R'.length = R.length ∧ Ab (fun K => Jc.f K I U R 1) (1 + (Kk I : Int) + (Hu U : Int) + (Hu R : Int), I', U', R') ∧ Ab (fun K => I7.f K I' U' R' 1) (1 + (Kk I : Int) + (Hu U : Int) + (Hu R : Int)) := by
  have hM : Wh = 1000000000000 := rfl
  obtain ⟨I', a1, a2, a3⟩ := Ya hI hIs 1 (by omega) (by omega)
  obtain ⟨U', b1, b2, b3⟩ := Wq hU (1 + (Kk I : Int)) (by omega) (by omega)
  obtain ⟨R', c1, c2, c3⟩ := Wq hR (1 + (Kk I : Int) + (Hu U : Int)) (by omega) (by omega)
  exact ⟨I', U', R', a1, b1, c1, Ab.Ed a2 (Ab.pos a1 (Ab.Ed b2 (Ab.pos b1 (Ab.Ed c2 (Ab.pos c1 (Ab.const _)))))), Ab.bind a3 (Ab.neg (by omega) (Ab.bind b3 (Ab.neg (by omega) (Ab.bind c3 (Ab.neg (by omega) (Ab.const _))))))⟩
theorem iP {x : Am} (h : Small x) {k : Int} (h0 : 0 ≤ k) (hc : k + Lu x ≤ 900000000) : ∃ (q : Int) (ts : List (List Bt)) (cr : List Al) (wd : List Int) (mv : List Ci) (tt pp : List Int), 0 ≤ q ∧ ts.length = x.Ad.length ∧ cr.length = x.Ae.length ∧ wd.length = x.Av.length ∧ mv.length = x.Af.length ∧ tt.length = x.Ai.length ∧ pp.length = x.Ag.length ∧
    Ab (fun K => J3.f K x.Name x.Kind x.Ad x.Ae x.Aj x.Ao x.Av x.Ak x.Ah x.Af x.Ai x.Ag k) (q, ts, cr, wd, mv, tt, pp) := by
  obtain ⟨_, ⟨h2, h2r⟩, h3, h4, h5, h6, h7⟩ := h
  unfold Lu at hc
  have hM : Wh = 1000000000000 := rfl
  obtain ⟨ts, b1, b2, _⟩ := V9 h2 h2r k h0 (by omega)
  generalize e1 : k + (cF x.Ad : Int) = k1 at b2
  obtain ⟨cr, c1, c2, _⟩ := Sb h3 k1 (by omega) (by omega)
  generalize e2 : k1 + ((5 * x.Ae.length : Nat) : Int) = k2 at c2
  obtain ⟨wd, d1, d2, _⟩ := Og h4 k2 (by omega) (by omega)
  generalize e3 : k2 + (x.Av.length : Int) = k3 at d2
  obtain ⟨mv, f1, f2, _⟩ := Yy h5 k3 (by omega) (by omega)
  generalize e4 : k3 + ((3 * x.Af.length : Nat) : Int) = k4 at f2
  obtain ⟨tt, g1, g2, _⟩ := Og h6 k4 (by omega) (by omega)
  generalize e5 : k4 + (x.Ai.length : Int) = k5 at g2
  obtain ⟨pp, p1, p2, _⟩ := Og h7 k5 (by omega) (by omega)
  generalize e6 : k5 + (x.Ag.length : Int) = k6 at p2
  refine ⟨k6, ts, cr, wd, mv, tt, pp, by omega, b1, c1, d1, f1, g1, p1, ?_⟩
  have mt : Ab (fun K => Gp.f K x.Ad k) (k1, ts) := Ab.Ed b2 (Ab.pos b1 (Ab.const _))
  have md : Ab (fun K => Jj.f K x.Ae x.Aj k1) (k2, cr) := Ab.Ed c2 (Ab.pos c1 (Ab.const _))
  have mb : Ab (fun K => J8.f K x.Ao x.Av k2) (k3, wd) := Ab.Ed d2 (Ab.pos d1 (Ab.const _))
  have mc : Ab (fun K => Ho.f K x.Ak x.Ah x.Af x.Ai x.Ag k3) (k6, mv, tt, pp) := Ab.Ed f2 (Ab.pos f1 (Ab.Ed g2 (Ab.pos g1 (Ab.Ed p2 (Ab.pos p1 (Ab.const _))))))
  unfold J3.f
  exact Ab.Ed mt (Ab.pos b1 (Ab.Ed md (Ab.pos c1 (Ab.Ed mb (Ab.pos d1 (Ab.M9 mc (Ab.pos f1 (Ab.pos g1 (Ab.pos p1 (Ab.const _))))))))))
theorem Qq : Rows.FnExactPutItemSaid := Ti fun x y h hy => by
  obtain ⟨⟨i1, i2⟩, ⟨u1, u2⟩, r1, r2⟩ := h
  obtain ⟨s, t, c⟩ := jL (I := x.Items) (U := x.R8) (R := x.Sc) i1 (fun i hi => fits (i2 _ (Oo Br hi)))
    u1 (fun i hi => ⟨(u2 _ (Oo [] hi)).1, fun j hj => fits ((u2 _ (Oo [] hi)).2 _ (Oo Br hj))⟩)
    r1 (fun i hi => ⟨(r2 _ (Oo [] hi)).1, fun j hj => fits ((r2 _ (Oo [] hi)).2 _ (Oo Br hj))⟩)
  unfold H6.f
  refine Ab.get (Ab.bind t ?_)
  by_cases hs : s < 0
  · exact Ab.pos hs (Ab.const _)
  · obtain ⟨l0, l1, hc, ⟨m1, m2⟩, mU, mR⟩ := c.resolve_left hs
    obtain ⟨s', t', c'⟩ := fB (fits hy) l0 l1
    refine Ab.neg hs (Ab.bind t' ?_)
    by_cases hs' : s' < 0
    · exact Ab.pos hs' (Ab.const _)
    · obtain ⟨l0', l1', sy⟩ := c'.resolve_left hs'
      have hT := qK m1 m2 mU mR
      have hE := eY m1 m2 mU mR
      have sy' := sy
      obtain ⟨s1, ⟨s2, s2r⟩, s3, s4, s5, s6, s7⟩ := sy'
      have hTi := kI y.Name y.Kind y.Ad y.Ae y.Aj y.Ao y.Av y.Ak y.Ah y.Af y.Ai y.Ag s2 s2r s3 s4 s5 s6 s7
      have hEi := nC y.Name y.Kind y.Ad y.Ae y.Aj y.Ao y.Av y.Ak y.Ah y.Af y.Ai y.Ag s2 s2r s3 s4 s5 s6 s7
      obtain ⟨A, B, C, cd, t1, t2, a1, a2, sB, sC, hl⟩ := iZ (by have := dO x.Items; omega) m2 mU mR sy
      have hG := eY a1 a2 sB sC
      obtain ⟨I', U', R', e1, e2, e3, k1, _⟩ := Vr m1 m2 mU mR (by omega)
      obtain ⟨q, ts, cr, wd, mv, tt, pp, q0, g1, g2, g3, g4, g5, g6, k4⟩ := iP sy (k := 1 + (Kk x.Items : Int) + (Hu x.R8 : Int) + (Hu x.Sc : Int)) (by omega) (by omega)
      obtain ⟨A', B', C', f1, f2, f3, k2, k3⟩ := Vr a1 a2 sB sC (by omega)
      refine Ab.neg hs' (Ab.M8 hT (Ab.Hf hTi (Ab.M9 t1 (Ab.M8 hT (Ab.Hf hTi (Ab.M9 t2 (Ab.bind hG (Ab.pos rfl (Ab.pos rfl (Ab.M8 hT (Ab.bind hE (Ab.pos rfl (Ab.Hf hTi (Ab.bind hEi (Ab.pos rfl (Ab.M9 k1 (Ab.pos e1 (Ab.pos e2 (Ab.pos e3 (Ab.Yx k4 (Ab.pos g1 (Ab.pos g2 (Ab.pos g3 (Ab.pos g4 (Ab.pos g5 (Ab.pos g6 (Ab.neg (by omega) (Ab.bind hG (Ab.pos rfl (Ab.M9 k2 (Ab.pos f1 (Ab.pos f2 (Ab.pos f3 (Ab.bind k3 (Ab.neg (by omega) (Ab.pos rfl ?_))))))))))))))))))))))))))))))))))))
      exact Ab.M8 hT (Ab.Hf hTi (Ab.M9 t2 (Ab.bind hG (Ab.pos rfl (Ab.pos rfl (Ab.bind k3 (Ab.neg (by omega) (Ab.pos rfl (Ab.const _)))))))))
end Go.Proofs.YtkmeepgpmppibaaGreatDoor
