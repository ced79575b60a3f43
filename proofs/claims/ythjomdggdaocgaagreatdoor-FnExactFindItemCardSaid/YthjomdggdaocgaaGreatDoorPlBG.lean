/-
  FindItem: both find alike; marks of one item.
-/
import Derived.Test.YthjomdggdaocgaaGreatDoorPlBF
set_option linter.unusedVariables false
set_option linter.unusedSimpArgs false
namespace Go.Proofs.YthjomdggdaocgaaGreatDoor
open Go.RowKit
section
variable {α0 α1 α2 α3 α4 α5 α6 α7 α8 α9 α10 α11 α12 ε : Type} {a0 : α0} {a1 : α1} {a2 : α2} {a3 : α3} {a4 : α4} {a5 : α5} {a6 : α6} {a7 : α7} {a8 : α8} {a9 : α9} {a10 : α10} {a11 : α11} {a12 : α12} {r : ε}
theorem Tends.bind13 {F : Nat → Option (α0 × α1 × α2 × α3 × α4 × α5 × α6 × α7 × α8 × α9 × α10 × α11 × α12)} {G : Nat → α0 → α1 → α2 → α3 → α4 → α5 → α6 → α7 → α8 → α9 → α10 → α11 → α12 → Option ε} (h : Tends F (a0, a1, a2, a3, a4, a5, a6, a7, a8, a9, a10, a11, a12)) (g : Tends (fun K => G K a0 a1 a2 a3 a4 a5 a6 a7 a8 a9 a10 a11 a12) r) : Tends (fun K => Go.Proofs.YthjomdggdaocgaaGreatDoor.bind13 (F K) (G K)) r := by
  obtain ⟨n, hn⟩ := h
  obtain ⟨m, hm⟩ := g
  exact ⟨n + m, fun K hK => by show Go.Proofs.YthjomdggdaocgaaGreatDoor.bind13 (F K) (G K) = some r; rw [hn K (by omega)]; exact hm K (by omega)⟩
theorem Tends.bind7 {F : Nat → Option (α0 × α1 × α2 × α3 × α4 × α5 × α6)} {G : Nat → α0 → α1 → α2 → α3 → α4 → α5 → α6 → Option ε} (h : Tends F (a0, a1, a2, a3, a4, a5, a6)) (g : Tends (fun K => G K a0 a1 a2 a3 a4 a5 a6) r) : Tends (fun K => Go.Proofs.YthjomdggdaocgaaGreatDoor.bind7 (F K) (G K)) r := by
  obtain ⟨n, hn⟩ := h
  obtain ⟨m, hm⟩ := g
  exact ⟨n + m, fun K hK => by show Go.Proofs.YthjomdggdaocgaaGreatDoor.bind7 (F K) (G K) = some r; rw [hn K (by omega)]; exact hm K (by omega)⟩
end
theorem Small_z : Small z_GItem := ⟨by decide, ⟨by decide, fun j hj => absurd hj (Nat.not_lt_zero j)⟩, by decide, by decide, by decide, by decide, by decide⟩
theorem item_both_find {I : List GItem} {U R : List (List GItem)} (hI : I.length ≤ 2000000) (hIs : ∀ i, i < I.length → Small (I.getD i z_GItem)) (hU : StackS U) (hR : StackS R) (t : ByteArray) : ∃ (x : GItem) (q : Bool), Small x ∧ cItem x ≤ cItemS I + 6 ∧
    Tends (fun K => spec_FindItem.f K I U R t) (x.Name, x.Kind, x.Triangulation_Tets, x.Diagram_Crossings, x.Diagram_Circles, x.Braid_Strands, x.Braid_Word, x.Certificate_Name, x.Certificate_Trait, x.Certificate_Moves, x.Certificate_Tets, x.Certificate_Perms, q) ∧
    Tends (fun K => impl_FindItem.f K I U R t) (x.Name, x.Kind, x.Triangulation_Tets, x.Diagram_Crossings, x.Diagram_Circles, x.Braid_Strands, x.Braid_Word, x.Certificate_Name, x.Certificate_Trait, x.Certificate_Moves, x.Certificate_Tets, x.Certificate_Perms, q) := by
  obtain ⟨b, b1, b2, _, b3⟩ := bench_both hI hIs hU hR
  have hz : cItem z_GItem ≤ cItemS I + 6 := by have : cItem z_GItem = 6 := rfl; omega
  unfold spec_FindItem.f impl_FindItem.f
  cases b with
  | false =>
    obtain ⟨v, tv, _⟩ := find_at (t := t) hI
    obtain ⟨p, _, _, _, tp⟩ := itemAt_at (t := t) hI
    exact ⟨z_GItem, false, Small_z, hz, Tends.bind tv (Tends.bind b1 (Tends.neg (by decide) (Tends.const _))), Tends.bind2 tp (Tends.bind b2 (Tends.neg (by decide) (Tends.const _)))⟩
  | true =>
    obtain ⟨v, p, q, tv, tp, c⟩ := find_both (t := t) hI (b3 rfl).2
    rcases c with ⟨c1, rfl⟩ | ⟨rfl, rfl, c2, c3⟩
    · exact ⟨z_GItem, false, Small_z, hz, Tends.bind tv (Tends.bind b1 (Tends.pos rfl (Tends.pos c1 (Tends.const _)))), Tends.bind2 tp (Tends.bind b2 (Tends.pos rfl (Tends.neg (by decide) (Tends.const _))))⟩
    · obtain ⟨j, rfl⟩ : ∃ j : Nat, v = (j : Int) := ⟨v.toNat, by omega⟩
      have hj : j < I.length := by omega
      have hs := hIs j hj
      refine ⟨I.getD j z_GItem, true, hs, ?_, Tends.bind tv (Tends.bind b1 (Tends.pos rfl (Tends.neg (by omega) (Tends.pos (by omega) ?_)))), Tends.bind2 tp (Tends.bind b2 (Tends.pos rfl (Tends.pos rfl (Tends.pos (by omega) ?_))))⟩
      · have h1 : cItemS I = (I.map cItem).sum := sumF_map cItem z_GItem I 0 _ (fun j _ => by rw [Nat.zero_add])
        have hx : I = I.take j ++ (I[j] :: I.drop (j + 1)) := by rw [← List.drop_eq_getElem_cons hj, List.take_append_drop]
        have h2 : (I.map cItem).sum = ((I.take j ++ (I[j] :: I.drop (j + 1))).map cItem).sum := congrArg (fun l => (l.map cItem).sum) hx
        rw [List.map_append, List.sum_append, List.map_cons, List.sum_cons] at h2
        have hg : I.getD j z_GItem = I[j] := by rw [List.getD_eq_getElem?_getD, List.getElem?_eq_getElem hj]; rfl
        rw [hg]; omega
      · simp only [Int.toNat_natCast, bnd_eq]
        exact Tends.bind12 (ownItem hs) (Tends.const _)
      · simp only [Int.toNat_natCast, bnd_eq]
        exact Tends.bind12 (copyItem hs) (Tends.const _)
theorem markItem {x : GItem} (h : Small x) (hc : cItem x ≤ 900000000) : ∃ (q : Int) (ts : List (List GFace)) (cr : List GCrossing) (wd : List Int) (mv : List GMove) (tt pp : List Int), 0 ≤ q ∧ ts.length = x.Triangulation_Tets.length ∧ cr.length = x.Diagram_Crossings.length ∧ wd.length = x.Braid_Word.length ∧ mv.length = x.Certificate_Moves.length ∧ tt.length = x.Certificate_Tets.length ∧ pp.length = x.Certificate_Perms.length ∧
    Tends (fun K => laws_markItem.f K x.Name x.Kind x.Triangulation_Tets x.Diagram_Crossings x.Diagram_Circles x.Braid_Strands x.Braid_Word x.Certificate_Name x.Certificate_Trait x.Certificate_Moves x.Certificate_Tets x.Certificate_Perms 1) (q, ts, cr, wd, mv, tt, pp) ∧
    Tends (fun K => laws_heldItem.f K x.Name x.Kind ts cr x.Diagram_Circles x.Braid_Strands wd x.Certificate_Name x.Certificate_Trait mv tt pp 1) q := by
  obtain ⟨_, ⟨h2, h2r⟩, h3, h4, h5, h6, h7⟩ := h
  unfold cItem at hc
  have hM : MaxK = 1000000000000 := rfl
  obtain ⟨ts, b1, b2, b3⟩ := markFaceSS h2 h2r 1 (by omega) (by omega)
  generalize e1 : 1 + (cF x.Triangulation_Tets : Int) = k1 at b2 b3
  obtain ⟨cr, c1, c2, c3⟩ := markCrossingS h3 k1 (by omega) (by omega)
  generalize e2 : k1 + ((5 * x.Diagram_Crossings.length : Nat) : Int) = k2 at c2 c3
  obtain ⟨wd, d1, d2, d3⟩ := markInt64S h4 k2 (by omega) (by omega)
  generalize e3 : k2 + (x.Braid_Word.length : Int) = k3 at d2 d3
  obtain ⟨mv, f1, f2, f3⟩ := markMoveS h5 k3 (by omega) (by omega)
  generalize e4 : k3 + ((3 * x.Certificate_Moves.length : Nat) : Int) = k4 at f2 f3
  obtain ⟨tt, g1, g2, g3⟩ := markInt64S h6 k4 (by omega) (by omega)
  generalize e5 : k4 + (x.Certificate_Tets.length : Int) = k5 at g2 g3
  obtain ⟨pp, p1, p2, p3⟩ := markInt64S h7 k5 (by omega) (by omega)
  generalize e6 : k5 + (x.Certificate_Perms.length : Int) = k6 at p2 p3
  refine ⟨k6, ts, cr, wd, mv, tt, pp, by omega, b1, c1, d1, f1, g1, p1, ?_, ?_⟩
  · have mt : Tends (fun K => laws_markTriangulation.f K x.Triangulation_Tets 1) (k1, ts) := Tends.bind2 b2 (Tends.pos b1 (Tends.const _))
    have md : Tends (fun K => laws_markDiagram.f K x.Diagram_Crossings x.Diagram_Circles k1) (k2, cr) := Tends.bind2 c2 (Tends.pos c1 (Tends.const _))
    have mb : Tends (fun K => laws_markBraid.f K x.Braid_Strands x.Braid_Word k2) (k3, wd) := Tends.bind2 d2 (Tends.pos d1 (Tends.const _))
    have mc : Tends (fun K => laws_markCertificate.f K x.Certificate_Name x.Certificate_Trait x.Certificate_Moves x.Certificate_Tets x.Certificate_Perms k3) (k6, mv, tt, pp) := Tends.bind2 f2 (Tends.pos f1 (Tends.bind2 g2 (Tends.pos g1 (Tends.bind2 p2 (Tends.pos p1 (Tends.const _))))))
    unfold laws_markItem.f
    exact Tends.bind2 mt (Tends.pos b1 (Tends.bind2 md (Tends.pos c1 (Tends.bind2 mb (Tends.pos d1 (Tends.bind4 mc (Tends.pos f1 (Tends.pos g1 (Tends.pos p1 (Tends.const _))))))))))
  · have mt : Tends (fun K => laws_heldTriangulation.f K ts 1) k1 := Tends.bind b3 (Tends.neg (by omega) (Tends.const _))
    have md : Tends (fun K => laws_heldDiagram.f K cr x.Diagram_Circles k1) k2 := Tends.bind c3 (Tends.neg (by omega) (Tends.const _))
    have mb : Tends (fun K => laws_heldBraid.f K x.Braid_Strands wd k2) k3 := Tends.bind d3 (Tends.neg (by omega) (Tends.const _))
    have mc : Tends (fun K => laws_heldCertificate.f K x.Certificate_Name x.Certificate_Trait mv tt pp k3) k6 := Tends.bind f3 (Tends.neg (by omega) (Tends.bind g3 (Tends.neg (by omega) (Tends.bind p3 (Tends.neg (by omega) (Tends.const _))))))
    unfold laws_heldItem.f
    exact Tends.bind mt (Tends.neg (by omega) (Tends.bind md (Tends.neg (by omega) (Tends.bind mb (Tends.neg (by omega) (Tends.bind mc (Tends.neg (by omega) (Tends.const _))))))))
end Go.Proofs.YthjomdggdaocgaaGreatDoor
