/-
  DropItem: the law.
-/
import Derived.Test.YtkmeepgpmppibaaGreatDoorPlBY
import Derived.Test.YtkmeepgpmppibaaGreatDoorPlBT
import Derived.Test.YtkmeepgpmppibaaGreatDoorPlBMA
import Derived.Test.YtkmeepgpmppibaaGreatDoorAl3R
set_option linter.unusedVariables false
set_option linter.unusedSimpArgs false
namespace Go.Proofs.YtkmeepgpmppibaaGreatDoor
open Go.RowKit
theorem fnExactDropItem_holds : Rows.FnExactDropItemSaid := fnExactDropItem_of fun x nmx h hnm => by
  obtain ⟨⟨i1, i2⟩, ⟨u1, u2⟩, r1, r2⟩ := h
  obtain ⟨s, t, c⟩ := szBenchW (I := x.Items) (U := x.Undos) (R := x.Redos) i1 (fun i hi => fits (i2 _ (getD_of z_GItem hi)))
    u1 (fun i hi => ⟨(u2 _ (getD_of [] hi)).1, fun j hj => fits ((u2 _ (getD_of [] hi)).2 _ (getD_of z_GItem hj))⟩)
    r1 (fun i hi => ⟨(r2 _ (getD_of [] hi)).1, fun j hj => fits ((r2 _ (getD_of [] hi)).2 _ (getD_of z_GItem hj))⟩)
  unfold laws_FnExactDropItem.f
  by_cases hl' : 1048576 < (nmx.size : Int)
  · exact Tends.get (Tends.pos hl' (Tends.const _))
  refine Tends.get (Tends.neg hl' (Tends.bind t ?_))
  by_cases hs : s < 0
  · exact Tends.pos hs (Tends.const _)
  · obtain ⟨hc, ⟨m1, m2⟩, mU, mR⟩ := c.resolve_left hs
    have hT := toBench m1 m2 mU mR
    have hE := eqBench m1 m2 mU mR
    obtain ⟨A, B, C, cd, t1, t2, a1, a2, sB, sC, hl⟩ := drop_both m1 m2 mU mR nmx
    have hG := eqBench a1 a2 sB sC
    obtain ⟨q, I', U', R', q0, e1, e2, e3, k1, _⟩ := markBench m1 m2 mU mR (by omega)
    obtain ⟨p, A', B', C', p0, f1, f2, f3, k2, k3⟩ := markBench a1 a2 sB sC (by omega)
    refine Tends.neg hs (Tends.bind3 hT (Tends.bind4 t1 (Tends.bind3 hT (Tends.bind4 t2 (Tends.bind hG (Tends.pos rfl (Tends.pos rfl (Tends.bind3 hT (Tends.bind hE (Tends.pos rfl (Tends.bind4 k1 (Tends.pos e1 (Tends.pos e2 (Tends.pos e3 (Tends.neg (by omega) (Tends.bind hG (Tends.pos rfl (Tends.bind4 k2 (Tends.pos f1 (Tends.pos f2 (Tends.pos f3 (Tends.bind k3 (Tends.neg (by omega) (Tends.pos rfl ?_))))))))))))))))))))))))
    exact Tends.bind3 hT (Tends.bind4 t2 (Tends.bind hG (Tends.pos rfl (Tends.pos rfl (Tends.bind k3 (Tends.neg (by omega) (Tends.pos rfl (Tends.const _))))))))
end Go.Proofs.YtkmeepgpmppibaaGreatDoor
