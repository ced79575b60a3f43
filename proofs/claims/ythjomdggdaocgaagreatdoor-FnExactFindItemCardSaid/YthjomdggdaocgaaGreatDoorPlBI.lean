/-
  FindItem: the law.
-/
import Derived.Test.YthjomdggdaocgaaGreatDoorPlBG
import Derived.Test.YthjomdggdaocgaaGreatDoorPlBT
import Derived.Test.YthjomdggdaocgaaGreatDoorPlBMB
import Derived.Test.YthjomdggdaocgaaGreatDoorAl4R
set_option linter.unusedVariables false
set_option linter.unusedSimpArgs false
namespace Go.Proofs.YthjomdggdaocgaaGreatDoor
open Go.RowKit
theorem fnExactFindItem_holds : Rows.FnExactFindItemSaid := fnExactFindItem_of fun x nmx h hnm => by
  obtain ⟨⟨i1, i2⟩, ⟨u1, u2⟩, r1, r2⟩ := h
  obtain ⟨s, t, c⟩ := szBenchW (I := x.Items) (U := x.Undos) (R := x.Redos) i1 (fun i hi => fits (i2 _ (getD_of z_GItem hi)))
    u1 (fun i hi => ⟨(u2 _ (getD_of [] hi)).1, fun j hj => fits ((u2 _ (getD_of [] hi)).2 _ (getD_of z_GItem hj))⟩)
    r1 (fun i hi => ⟨(r2 _ (getD_of [] hi)).1, fun j hj => fits ((r2 _ (getD_of [] hi)).2 _ (getD_of z_GItem hj))⟩)
  unfold laws_FnExactFindItem.f
  by_cases hl : 1048576 < (nmx.size : Int)
  · exact Tends.get (Tends.pos hl (Tends.const _))
  refine Tends.get (Tends.neg hl (Tends.bind t ?_))
  by_cases hs : s < 0
  · exact Tends.pos hs (Tends.const _)
  · obtain ⟨hc, ⟨m1, m2⟩, mU, mR⟩ := c.resolve_left hs
    have hT := toBench m1 m2 mU mR
    have hE := eqBench m1 m2 mU mR
    obtain ⟨y, b, sy, cy, t1, t2⟩ := item_both_find m1 m2 mU mR nmx
    have hG : Tends (fun K => laws_eqItem.f K y.Name y.Kind y.Triangulation_Tets y.Diagram_Crossings y.Diagram_Circles y.Braid_Strands y.Braid_Word y.Certificate_Name y.Certificate_Trait y.Certificate_Moves y.Certificate_Tets y.Certificate_Perms y.Name y.Kind y.Triangulation_Tets y.Diagram_Crossings y.Diagram_Circles y.Braid_Strands y.Braid_Word y.Certificate_Name y.Certificate_Trait y.Certificate_Moves y.Certificate_Tets y.Certificate_Perms) true := by
      obtain ⟨h1, ⟨h2, h2r⟩, h3, h4, h5, h6, h7⟩ := sy
      exact eqItem _ _ _ _ _ _ _ _ _ _ _ _ h2 h2r h3 h4 h5 h6 h7
    obtain ⟨q, I', U', R', q0, e1, e2, e3, k1⟩ := markBenchO m1 m2 mU mR (by omega)
    obtain ⟨p, ts, cr, wd, mv, tt, pp, p0, f1, f2, f3, f4, f5, f6, k2, k3⟩ := markItem sy (by omega)
    refine Tends.neg hs (Tends.bind3 hT (Tends.bind13 t1 (Tends.bind3 hT (Tends.bind13 t2 (Tends.bind hG (Tends.pos rfl (Tends.pos (beq_self_eq_true b) (Tends.bind3 hT (Tends.bind hE (Tends.pos rfl (Tends.bind4 k1 (Tends.pos e1 (Tends.pos e2 (Tends.pos e3 (Tends.neg (by omega) (Tends.bind hG (Tends.pos rfl (Tends.bind7 k2 (Tends.pos f1 (Tends.pos f2 (Tends.pos f3 (Tends.pos f4 (Tends.pos f5 (Tends.pos f6 (Tends.bind k3 (Tends.neg (by omega) (Tends.pos rfl ?_)))))))))))))))))))))))))))
    exact Tends.bind3 hT (Tends.bind13 t2 (Tends.bind hG (Tends.pos rfl (Tends.pos (beq_self_eq_true b) (Tends.bind k3 (Tends.neg (by omega) (Tends.pos rfl (Tends.const _))))))))
end Go.Proofs.YthjomdggdaocgaaGreatDoor
