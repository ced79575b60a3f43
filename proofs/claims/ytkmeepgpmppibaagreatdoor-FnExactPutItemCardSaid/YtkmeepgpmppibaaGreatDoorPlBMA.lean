/-
  Marks of lists of items and of benches.
-/
import Derived.Test.YtkmeepgpmppibaaGreatDoorPlBM
set_option linter.unusedVariables false
set_option linter.unusedSimpArgs false
namespace Go.Proofs.YtkmeepgpmppibaaGreatDoor
open Go.RowKit
theorem Zu {x : Am} (h : Small x) {kk : Int} (h0 : 0 ≤ kk) (hb : kk + (Lu x : Int) ≤ Wh) : ∃ y : Am,
    (∀ (ys : List Am) (i : Nat) r, i < 4000000 → i < ys.length → ys.getD i Br = x → Ac (fun K k => Dl.l1 K k (ys.set i y) (kk + (Lu x : Int)) ((i + 1 : Nat) : Int)) r → Ac (fun K k => Dl.l1 K k ys kk (i : Int)) r) ∧
    (∀ (ys : List Am) (i : Nat) r, i < 4000000 → i < ys.length → ys.getD i Br = y → Ac (fun K k => Dm.l1 K k ys (kk + (Lu x : Int)) ((i + 1 : Nat) : Int)) r → Ac (fun K k => Dm.l1 K k ys kk (i : Int)) r) := by
  obtain ⟨_, ⟨h2, h2r⟩, h3, h4, h5, h6, h7⟩ := h
  unfold Lu at hb ⊢
  obtain ⟨nm, a0⟩ := oP h0 (by omega)
  obtain ⟨ts, b1, b2, b3⟩ := V9 h2 h2r (kk + 2) (by omega) (by omega)
  obtain ⟨cr, c1, c2, c3⟩ := Sb h3 (kk + 2 + (cF x.Ad : Int)) (by omega) (by omega)
  generalize e1 : kk + 2 + (cF x.Ad : Int) = k1 at b2 b3 c2 c3
  generalize e2 : k1 + ((5 * x.Ae.length : Nat) : Int) = k2 at c2 c3
  obtain ⟨wd, d1, d2, d3⟩ := Og h4 (k2 + 2) (by omega) (by omega)
  generalize e3 : k2 + 2 + (x.Av.length : Int) = k3 at d2 d3
  obtain ⟨mv, f1, f2, f3⟩ := Yy h5 (k3 + 2) (by omega) (by omega)
  generalize e4 : k3 + 2 + ((3 * x.Af.length : Nat) : Int) = k4 at f2 f3
  obtain ⟨tt, g1, g2, g3⟩ := Og h6 k4 (by omega) (by omega)
  generalize e5 : k4 + (x.Ai.length : Int) = k5 at g2 g3
  obtain ⟨pp, p1, p2, p3⟩ := Og h7 k5 (by omega) (by omega)
  have hE : k5 + (x.Ag.length : Int) = kk + ((6 + cF x.Ad + 5 * x.Ae.length + x.Av.length + 3 * x.Af.length + x.Ai.length + x.Ag.length : Nat) : Int) := by omega
  rw [hE] at p2 p3
  have w1a : w64 (kk + 1) = kk + 1 := w1 h0 (by omega)
  have w1b : w64 (kk + 1 + 1) = kk + 2 := (w1 (by omega) (by omega)).trans (by omega)
  have w2a : w64 (k2 + 1) = k2 + 1 := w1 (by omega) (by omega)
  have w2b : w64 (k2 + 1 + 1) = k2 + 2 := (w1 (by omega) (by omega)).trans (by omega)
  have w3a : w64 (k3 + 1) = k3 + 1 := w1 (by omega) (by omega)
  have w3b : w64 (k3 + 1 + 1) = k3 + 2 := (w1 (by omega) (by omega)).trans (by omega)
  refine ⟨⟨nm, kk + 1, ts, cr, k2, k2 + 1, wd, k3, k3 + 1, mv, tt, pp⟩, fun ys i r hi hy hg h => ?_, fun ys i r hi hy hg h => ?_⟩
  · have hc : 0 ≤ (i : Int) ∧ (i : Int) < (ys.length : Int) := by omega
    refine Ac.succ ?_
    simp only [Dl.l1, if_pos hc.2, Int.toNat_natCast, Fe, List.length_set, if_pos hc, Qr hy, List.set_set, hg, Cc (show i < 4611686018427387904 by omega)]
    refine Ac.bind a0.two ?_
    simp only [w1a, w1b]
    refine Ac.Ed b2.two (Ac.pos b1 (Ac.Ed c2.two (Ac.pos c1 ?_)))
    simp only [w2a, w2b]
    refine Ac.Ed d2.two (Ac.pos d1 ?_)
    simp only [w3a, w3b]
    exact Ac.Ed f2.two (Ac.pos f1 (Ac.Ed g2.two (Ac.pos g1 (Ac.Ed p2.two (Ac.pos p1 h)))))
  · have hc : 0 ≤ (i : Int) ∧ (i : Int) < (ys.length : Int) := by omega
    refine Ac.succ ?_
    simp only [Dm.l1, if_pos hc.2, Int.toNat_natCast, Fe, if_pos hc, hg, Cc (show i < 4611686018427387904 by omega)]
    refine Ac.bind a0.two (Ac.pos (bJ nm) ?_)
    simp only [w1a, w1b]
    refine Ac.pos trivial (Ac.bind b3.two (Ac.neg (by omega) (Ac.bind c3.two (Ac.neg (by omega) (Ac.pos rfl ?_)))))
    simp only [w2a, w2b]
    refine Ac.pos trivial (Ac.bind d3.two (Ac.neg (by omega) (Ac.pos rfl ?_)))
    simp only [w3a, w3b]
    exact Ac.pos trivial (Ac.bind f3.two (Ac.neg (by omega) (Ac.bind g3.two (Ac.neg (by omega) (Ac.bind p3.two (Ac.neg (by omega) h))))))
theorem Ya {xs : List Am} (hn : xs.length ≤ 2000000) (h : ∀ i, i < xs.length → Small (xs.getD i Br)) : Nw Dl.f Dm.f xs (Kk xs) :=
  Nw.of (z := Br) (l := Dl.l1) (l' := Dm.l1) (fun _ _ _ => rfl) (fun _ _ _ => rfl)
    (fun K k ys kk hy => by rw [Dl.l1, if_neg (by omega)]) (fun K k ys kk hy => by rw [Dm.l1, if_neg (by omega)]) fun i hi kk h0 hb => by
    obtain ⟨y, a, b⟩ := Zu (h i hi) h0 hb
    exact ⟨y, fun ys r hy hg h => a ys i r (by omega) (by omega) hg h, fun ys r hy hg h => b ys i r (by omega) (by omega) hg h⟩
theorem Wq {xs : List (List Am)} (h : Jb xs) : Nw Er.f Et.f xs (Hu xs) :=
  Nw.rows (mark := Dl.f) (held := Dm.f) (l := Er.l1) (l' := Et.l1) h.1 (fun _ _ _ => rfl) (fun _ _ _ => rfl) (fun _ _ _ _ _ => rfl) (fun _ _ _ _ _ => rfl) (fun i hi => Ya (h.2 i hi).1 (h.2 i hi).2)
end Go.Proofs.YtkmeepgpmppibaaGreatDoor
