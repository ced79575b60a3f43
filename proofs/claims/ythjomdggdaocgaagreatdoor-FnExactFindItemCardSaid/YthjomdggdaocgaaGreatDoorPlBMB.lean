/-
  Marking of lists of items and of benches alone.
-/
import Derived.Test.YthjomdggdaocgaaGreatDoorPlBM
set_option linter.unusedVariables false
set_option linter.unusedSimpArgs false
namespace Go.Proofs.YthjomdggdaocgaaGreatDoor
open Go.RowKit
def trv (cnt : Nat → Nat) (n : Nat) : Nat → Int → Nat → Option Int
  | 0, _, _ => none
  | k + 1, kk, i => if i < n then trv cnt n k (kk + (cnt i : Int)) (i + 1) else some kk
def MarkO {β : Type} (mark : Nat → List β → Int → Option (Int × List β)) (xs : List β) (c : Nat) : Prop :=
  ∀ kk : Int, 0 ≤ kk → kk + (c : Int) ≤ MaxK → ∃ ys, ys.length = xs.length ∧ Tends (fun K => mark K xs kk) (kk + (c : Int), ys)
theorem MarkO.of {α : Type} {xs : List α} {z : α} {mark : Nat → List α → Int → Option (Int × List α)} {l : Nat → Nat → List α → Int → Int → Option (Int × List α)} {cnt : Nat → Nat}
    (hm : ∀ K xs kk, mark K xs kk = l K K xs kk 0) (he : ∀ K k ys kk, ys.length = xs.length → l K (k + 1) ys kk (xs.length : Int) = some (kk, ys))
    (h1 : ∀ i, i < xs.length → ∀ kk : Int, 0 ≤ kk → kk + (cnt i : Int) ≤ MaxK → ∃ y,
      (∀ ys r, ys.length = xs.length → ys.getD i z = xs.getD i z → Tends2 (fun K k => l K k (ys.set i y) (kk + (cnt i : Int)) ((i + 1 : Nat) : Int)) r → Tends2 (fun K k => l K k ys kk (i : Int)) r)) : MarkO mark xs (sumF cnt 0 xs.length) := fun kk h0 hb => by
  obtain ⟨zs, z1, _, z3, _⟩ := mark_loop (l := fun K k ys kk i => l K k ys kk (i : Int)) (l' := fun K k ys kk i => trv cnt xs.length k kk i) (cnt := cnt) he (fun K k ys kk hy => by rw [trv, if_neg (Nat.lt_irrefl _)])
    (fun i hi kk h0 hb => by
      obtain ⟨y, a⟩ := h1 i hi kk h0 hb
      exact ⟨y, a, fun ys r hy hg h => Tends2.step (fun K k => by rw [trv, if_pos hi]) h⟩) xs.length 0 xs kk (by omega) (by omega) rfl (fun _ _ _ => rfl) h0 hb
  exact ⟨zs, z1, Tends.congr (fun K => hm K xs kk) z3.diag⟩
theorem MarkO.rows {β : Type} {xs : List (List β)} {mark : Nat → List β → Int → Option (Int × List β)} {markS : Nat → List (List β) → Int → Option (Int × List (List β))}
    {l : Nat → Nat → List (List β) → Int → Int → Option (Int × List (List β))} {cnt : Nat → Nat} (hn : xs.length ≤ 2000000)
    (hm : ∀ K xs kk, markS K xs kk = l K K xs kk 0)
    (hl : ∀ K k ys kk i, l K (k + 1) ys kk i = if i < (ys.length : Int) then (if 0 ≤ i ∧ i < (ys.length : Int) then bind2 (mark K (ys.getD i.toNat []) kk) (fun a b => if b.length = (ys.getD i.toNat []).length then l K k (ys.set i.toNat b) a (w64 (i + 1)) else none) else none) else some (kk, ys))
    (h1 : ∀ i, i < xs.length → MarkO mark (xs.getD i []) (cnt i)) : MarkO markS xs (sumF cnt 0 xs.length) :=
  MarkO.of (z := []) hm (fun K k ys kk hy => by rw [hl, if_neg (by omega)]) fun i hi kk h0 hb => by
    obtain ⟨y, y1, y2⟩ := h1 i hi kk h0 hb
    refine ⟨y, fun ys r hy hg h => ?_⟩
    refine Tends2.step (fun K k => ?_) (Tends2.bind2 (G := fun K k a b => if b.length = (xs.getD i []).length then l K k (ys.set i b) a ((i + 1 : Nat) : Int) else none) y2.two (Tends2.pos y1 h))
    rw [hl, if_pos (by omega), if_pos (by omega), Int.toNat_natCast, hg, w64_succ (by omega)]
theorem markItem_only {x : GItem} (h : Small x) {kk : Int} (h0 : 0 ≤ kk) (hb : kk + (cItem x : Int) ≤ MaxK) : ∃ y : GItem,
    (∀ (ys : List GItem) (i : Nat) r, i < 4000000 → i < ys.length → ys.getD i z_GItem = x → Tends2 (fun K k => laws_markItemS.l1 K k (ys.set i y) (kk + (cItem x : Int)) ((i + 1 : Nat) : Int)) r → Tends2 (fun K k => laws_markItemS.l1 K k ys kk (i : Int)) r) := by
  obtain ⟨_, ⟨h2, h2r⟩, h3, h4, h5, h6, h7⟩ := h
  unfold cItem at hb ⊢
  obtain ⟨nm, a0⟩ := markText h0 (by omega)
  obtain ⟨ts, b1, b2, b3⟩ := markFaceSS h2 h2r (kk + 2) (by omega) (by omega)
  obtain ⟨cr, c1, c2, c3⟩ := markCrossingS h3 (kk + 2 + (cF x.Triangulation_Tets : Int)) (by omega) (by omega)
  generalize e1 : kk + 2 + (cF x.Triangulation_Tets : Int) = k1 at b2 b3 c2 c3
  generalize e2 : k1 + ((5 * x.Diagram_Crossings.length : Nat) : Int) = k2 at c2 c3
  obtain ⟨wd, d1, d2, d3⟩ := markInt64S h4 (k2 + 2) (by omega) (by omega)
  generalize e3 : k2 + 2 + (x.Braid_Word.length : Int) = k3 at d2 d3
  obtain ⟨mv, f1, f2, f3⟩ := markMoveS h5 (k3 + 2) (by omega) (by omega)
  generalize e4 : k3 + 2 + ((3 * x.Certificate_Moves.length : Nat) : Int) = k4 at f2 f3
  obtain ⟨tt, g1, g2, g3⟩ := markInt64S h6 k4 (by omega) (by omega)
  generalize e5 : k4 + (x.Certificate_Tets.length : Int) = k5 at g2 g3
  obtain ⟨pp, p1, p2, p3⟩ := markInt64S h7 k5 (by omega) (by omega)
  have hE : k5 + (x.Certificate_Perms.length : Int) = kk + ((6 + cF x.Triangulation_Tets + 5 * x.Diagram_Crossings.length + x.Braid_Word.length + 3 * x.Certificate_Moves.length + x.Certificate_Tets.length + x.Certificate_Perms.length : Nat) : Int) := by omega
  rw [hE] at p2 p3
  have w1a : w64 (kk + 1) = kk + 1 := w1 h0 (by omega)
  have w1b : w64 (kk + 1 + 1) = kk + 2 := (w1 (by omega) (by omega)).trans (by omega)
  have w2a : w64 (k2 + 1) = k2 + 1 := w1 (by omega) (by omega)
  have w2b : w64 (k2 + 1 + 1) = k2 + 2 := (w1 (by omega) (by omega)).trans (by omega)
  have w3a : w64 (k3 + 1) = k3 + 1 := w1 (by omega) (by omega)
  have w3b : w64 (k3 + 1 + 1) = k3 + 2 := (w1 (by omega) (by omega)).trans (by omega)
  refine ⟨⟨nm, kk + 1, ts, cr, k2, k2 + 1, wd, k3, k3 + 1, mv, tt, pp⟩, fun ys i r hi hy hg h => ?_⟩
  · have hc : 0 ≤ (i : Int) ∧ (i : Int) < (ys.length : Int) := by omega
    refine Tends2.succ ?_
    simp only [laws_markItemS.l1, if_pos hc.2, Int.toNat_natCast, bnd_eq, List.length_set, if_pos hc, gds_self hy, List.set_set, hg, w64_succ (show i < 4611686018427387904 by omega)]
    refine Tends2.bind a0.two ?_
    simp only [w1a, w1b]
    refine Tends2.bind2 b2.two (Tends2.pos b1 (Tends2.bind2 c2.two (Tends2.pos c1 ?_)))
    simp only [w2a, w2b]
    refine Tends2.bind2 d2.two (Tends2.pos d1 ?_)
    simp only [w3a, w3b]
    exact Tends2.bind2 f2.two (Tends2.pos f1 (Tends2.bind2 g2.two (Tends2.pos g1 (Tends2.bind2 p2.two (Tends2.pos p1 h)))))
theorem markItemSO {xs : List GItem} (hn : xs.length ≤ 2000000) (h : ∀ i, i < xs.length → Small (xs.getD i z_GItem)) : MarkO laws_markItemS.f xs (cItemS xs) :=
  MarkO.of (z := z_GItem) (l := laws_markItemS.l1) (fun _ _ _ => rfl) (fun K k ys kk hy => by rw [laws_markItemS.l1, if_neg (by omega)]) fun i hi kk h0 hb => by
    obtain ⟨y, a⟩ := markItem_only (h i hi) h0 hb
    exact ⟨y, fun ys r hy hg h => a ys i r (by omega) (by omega) hg h⟩
theorem markItemSSO {xs : List (List GItem)} (h : StackS xs) : MarkO laws_markItemSS.f xs (cItemSS xs) :=
  MarkO.rows (mark := laws_markItemS.f) (l := laws_markItemSS.l1) h.1 (fun _ _ _ => rfl) (fun _ _ _ _ _ => rfl) (fun i hi => markItemSO (h.2 i hi).1 (h.2 i hi).2)
theorem markBenchO {I : List GItem} {U R : List (List GItem)} (hI : I.length ≤ 2000000) (hIs : ∀ i, i < I.length → Small (I.getD i z_GItem)) (hU : StackS U) (hR : StackS R) (hc : cItemS I + cItemSS U + cItemSS R ≤ 900000000) : ∃ (q : Int) (I' : List GItem) (U' R' : List (List GItem)),
    0 ≤ q ∧ I'.length = I.length ∧ U'.length = U.length ∧ R'.length = R.length ∧ Tends (fun K => laws_markBench.f K I U R 1) (q, I', U', R') := by
  have hM : MaxK = 1000000000000 := rfl
  obtain ⟨I', a1, a2⟩ := markItemSO hI hIs 1 (by omega) (by omega)
  obtain ⟨U', b1, b2⟩ := markItemSSO hU (1 + (cItemS I : Int)) (by omega) (by omega)
  obtain ⟨R', c1, c2⟩ := markItemSSO hR (1 + (cItemS I : Int) + (cItemSS U : Int)) (by omega) (by omega)
  exact ⟨_, I', U', R', by omega, a1, b1, c1, Tends.bind2 a2 (Tends.pos a1 (Tends.bind2 b2 (Tends.pos b1 (Tends.bind2 c2 (Tends.pos c1 (Tends.const _))))))⟩
end Go.Proofs.YthjomdggdaocgaaGreatDoor
