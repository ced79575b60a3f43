/-
  Marks of lists of items and of benches.
-/
import Derived.Test.YtkmeepgpmppibaaGreatDoorPlBM
set_option linter.unusedVariables false
set_option linter.unusedSimpArgs false
namespace Go.Proofs.YtkmeepgpmppibaaGreatDoor
open Go.RowKit
theorem markItem_one {x : GItem} (h : Small x) {kk : Int} (h0 : 0 ≤ kk) (hb : kk + (cItem x : Int) ≤ MaxK) : ∃ y : GItem,
    (∀ (ys : List GItem) (i : Nat) r, i < 4000000 → i < ys.length → ys.getD i z_GItem = x → Tends2 (fun K k => laws_markItemS.l1 K k (ys.set i y) (kk + (cItem x : Int)) ((i + 1 : Nat) : Int)) r → Tends2 (fun K k => laws_markItemS.l1 K k ys kk (i : Int)) r) ∧
    (∀ (ys : List GItem) (i : Nat) r, i < 4000000 → i < ys.length → ys.getD i z_GItem = y → Tends2 (fun K k => laws_heldItemS.l1 K k ys (kk + (cItem x : Int)) ((i + 1 : Nat) : Int)) r → Tends2 (fun K k => laws_heldItemS.l1 K k ys kk (i : Int)) r) := by
  obtain ⟨_, ⟨h2, h2r⟩, h3, h4, h5, h6, h7⟩ := h
  unfold cItem at hb ⊢
  obtain ⟨nm, a0⟩ := markText h0 (by omega)
  obtain ⟨ts, b1, b2, b3⟩ := markFaceSS h2 h2r (kk + 2) (by omega) (by omega)
  obtain ⟨cr, c1, c2, c3⟩ := markCrossingS h3 (kk + 2 + (cF x.Triangulation_Tets : Int)) (by omega) (by omega)
  generalize e1 : kk + 2 + (cF x.Triangulation_Tets : Int) = k1 at b2 b3 c2 c3
  generalize e2 : k1 + ((5 * x.Diagram_Crossings.length : Nat) : Int) = k2 at c2 c3
  obtain ⟨wd, d1, d2, d3⟩ := markInt64S h4 (k2 + 2) (by omega) (by omega)
  generalize e3 : k2 + 2 + (x.Braid_Word.length : Int) = k3 at d2 d3
  obtain ⟨mv, f1, f2, f3⟩ := markMoveS h5 (k3 + 2) (by omega) (by omega)
  generalize e4 : k3 + 2 + ((3 * x.Certificate_Moves.length : Nat) : Int) = k4 at f2 f3
  obtain ⟨tt, g1, g2, g3⟩ := markInt64S h6 k4 (by omega) (by omega)
  generalize e5 : k4 + (x.Certificate_Tets.length : Int) = k5 at g2 g3
  obtain ⟨pp, p1, p2, p3⟩ := markInt64S h7 k5 (by omega) (by omega)
  have hE : k5 + (x.Certificate_Perms.length : Int) = kk + ((6 + cF x.Triangulation_Tets + 5 * x.Diagram_Crossings.length + x.Braid_Word.length + 3 * x.Certificate_Moves.length + x.Certificate_Tets.length + x.Certificate_Perms.length : Nat) : Int) := by omega
  rw [hE] at p2 p3
  have w1a : w64 (kk + 1) = kk + 1 := w1 h0 (by omega)
  have w1b : w64 (kk + 1 + 1) = kk + 2 := (w1 (by omega) (by omega)).trans (by omega)
  have w2a : w64 (k2 + 1) = k2 + 1 := w1 (by omega) (by omega)
  have w2b : w64 (k2 + 1 + 1) = k2 + 2 := (w1 (by omega) (by omega)).trans (by omega)
  have w3a : w64 (k3 + 1) = k3 + 1 := w1 (by omega) (by omega)
  have w3b : w64 (k3 + 1 + 1) = k3 + 2 := (w1 (by omega) (by omega)).trans (by omega)
  refine ⟨⟨nm, kk + 1, ts, cr, k2, k2 + 1, wd, k3, k3 + 1, mv, tt, pp⟩, fun ys i r hi hy hg h => ?_, fun ys i r hi hy hg h => ?_⟩
  · have hc : 0 ≤ (i : Int) ∧ (i : Int) < (ys.length : Int) := by omega
    refine Tends2.succ ?_
    simp only [laws_markItemS.l1, if_pos hc.2, Int.toNat_natCast, bnd_eq, List.length_set, if_pos hc, gds_self hy, List.set_set, hg, w64_succ (show i < 4611686018427387904 by omega)]
    refine Tends2.bind a0.two ?_
    simp only [w1a, w1b]
    refine Tends2.bind2 b2.two (Tends2.pos b1 (Tends2.bind2 c2.two (Tends2.pos c1 ?_)))
    simp only [w2a, w2b]
    refine Tends2.bind2 d2.two (Tends2.pos d1 ?_)
    simp only [w3a, w3b]
    exact Tends2.bind2 f2.two (Tends2.pos f1 (Tends2.bind2 g2.two (Tends2.pos g1 (Tends2.bind2 p2.two (Tends2.pos p1 h)))))
  · have hc : 0 ≤ (i : Int) ∧ (i : Int) < (ys.length : Int) := by omega
    refine Tends2.succ ?_
    simp only [laws_heldItemS.l1, if_pos hc.2, Int.toNat_natCast, bnd_eq, if_pos hc, hg, w64_succ (show i < 4611686018427387904 by omega)]
    refine Tends2.bind a0.two (Tends2.pos (seq_self nm) ?_)
    simp only [w1a, w1b]
    refine Tends2.pos trivial (Tends2.bind b3.two (Tends2.neg (by omega) (Tends2.bind c3.two (Tends2.neg (by omega) (Tends2.pos rfl ?_)))))
    simp only [w2a, w2b]
    refine Tends2.pos trivial (Tends2.bind d3.two (Tends2.neg (by omega) (Tends2.pos rfl ?_)))
    simp only [w3a, w3b]
    exact Tends2.pos trivial (Tends2.bind f3.two (Tends2.neg (by omega) (Tends2.bind g3.two (Tends2.neg (by omega) (Tends2.bind p3.two (Tends2.neg (by omega) h))))))
theorem markItemS {xs : List GItem} (hn : xs.length ≤ 2000000) (h : ∀ i, i < xs.length → Small (xs.getD i z_GItem)) : MarkL laws_markItemS.f laws_heldItemS.f xs (cItemS xs) :=
  MarkL.of (z := z_GItem) (l := laws_markItemS.l1) (l' := laws_heldItemS.l1) (fun _ _ _ => rfl) (fun _ _ _ => rfl)
    (fun K k ys kk hy => by rw [laws_markItemS.l1, if_neg (by omega)]) (fun K k ys kk hy => by rw [laws_heldItemS.l1, if_neg (by omega)]) fun i hi kk h0 hb => by
    obtain ⟨y, a, b⟩ := markItem_one (h i hi) h0 hb
    exact ⟨y, fun ys r hy hg h => a ys i r (by omega) (by omega) hg h, fun ys r hy hg h => b ys i r (by omega) (by omega) hg h⟩
theorem markItemSS {xs : List (List GItem)} (h : StackS xs) : MarkL laws_markItemSS.f laws_heldItemSS.f xs (cItemSS xs) :=
  MarkL.rows (mark := laws_markItemS.f) (held := laws_heldItemS.f) (l := laws_markItemSS.l1) (l' := laws_heldItemSS.l1) h.1 (fun _ _ _ => rfl) (fun _ _ _ => rfl) (fun _ _ _ _ _ => rfl) (fun _ _ _ _ _ => rfl) (fun i hi => markItemS (h.2 i hi).1 (h.2 i hi).2)
theorem markBench {I : List GItem} {U R : List (List GItem)} (hI : I.length ≤ 2000000) (hIs : ∀ i, i < I.length → Small (I.getD i z_GItem)) (hU : StackS U) (hR : StackS R) (hc : cItemS I + cItemSS U + cItemSS R ≤ 900000000) : ∃ (q : Int) (I' : List GItem) (U' R' : List (List GItem)),
    0 ≤ q ∧ I'.length = I.length ∧ U'.length = U.length ∧ R'.length = R.length ∧ Tends (fun K => laws_markBench.f K I U R 1) (q, I', U', R') ∧ Tends (fun K => laws_heldBench.f K I' U' R' 1) q := by
  obtain ⟨I', a1, a2, a3⟩ := markItemS hI hIs 1 (by omega) (by unfold MaxK; omega)
  obtain ⟨U', b1, b2, b3⟩ := markItemSS hU (1 + (cItemS I : Int)) (by omega) (by unfold MaxK; omega)
  obtain ⟨R', c1, c2, c3⟩ := markItemSS hR (1 + (cItemS I : Int) + (cItemSS U : Int)) (by omega) (by unfold MaxK; omega)
  refine ⟨_, I', U', R', ?_, a1, b1, c1, Tends.bind2 a2 (Tends.pos a1 (Tends.bind2 b2 (Tends.pos b1 (Tends.bind2 c2 (Tends.pos c1 (Tends.const _)))))), Tends.bind a3 (Tends.neg (by omega) (Tends.bind b3 (Tends.neg (by omega) (Tends.bind c3 (Tends.neg (by omega) (Tends.const _))))))⟩
  omega
end Go.Proofs.YtkmeepgpmppibaaGreatDoor
