/-
  HomologyAt: the law.
-/
import Derived.Test.YtgkgmhkgahalgaaGreatPlHQ
import Derived.Test.YtgkgmhkgahalgaaGreatPlT9
import Derived.Test.YtgkgmhkgahalgaaGreatAl3R
set_option linter.unusedVariables false
set_option linter.unusedSimpArgs false
namespace Go.Proofs.YtgkgmhkgahalgaaGreat
open Go.RowKit
theorem fnExactHomologyAt_holds:Rows.FnExactHomologyAtSaid:=O8 fun x k h _=>by
  obtain ⟨n2,n2r⟩:=h
  have nrow:∀ i,i<x.P9.length→(x.P9.getD i []).length≤9223372036854775807:=fun i hi=>by
    rw [List.getD_eq_getElem?_getD,List.getElem?_eq_getElem hi]
    exact (n2r _ (List.getElem_mem hi)).1
  obtain ⟨s,t,c⟩:=iH n2 nrow (left:=1048576) (by decide) (by decide)
  unfold Gw.f
  refine Ab.get (Ab.bind t ?_)
  by_cases hs:s<0
  · exact Ab.pos hs (Ab.const _)
  obtain ⟨_,_,m1,m2⟩:=c.resolve_left hs
  have hT:Ab (fun K=>Ep.f K x.P9) x.P9:=Ab.bind (jC m1 m2) (Ab.const _)
  have hE:Ab (fun K=>He.f K x.P9 x.P9) true:=Ab.bind (kD m1 m2) (Ab.pos rfl (Ab.const _))
  obtain ⟨q,ys,⟨q1,q1'⟩,q2,q3⟩:=mH m1 m2
  have n1:¬ q<0:=by omega
  obtain ⟨g,u,d,hu,c1,c2⟩:=S9 x.P9 m1 k
  have hq:=wC (g:=g) (t:=u) (by omega)
  obtain ⟨r,zs,r1,r2,r3,r4⟩:=nM g (xs:=u) (by omega)
  exact Ab.neg hs (Ab.bind hT (Ab.Ey c2 (Ab.bind hT (Ab.Ey c1 (Ab.bind hq (Ab.pos rfl (Ab.pos rfl (Ab.bind hT (Ab.bind hE (Ab.pos rfl (Ab.Dw q3 (Ab.pos q2 (Ab.neg n1 (Ab.bind hq (Ab.pos rfl (Ab.Dw r3 (Ab.pos r2 (Ab.bind r4 (Ab.neg r1 (Ab.pos rfl (Ab.bind hT (Ab.Ey c1 (Ab.bind hq (Ab.pos rfl (Ab.pos rfl (Ab.bind r4 (Ab.neg r1 (Ab.pos rfl (Ab.const _)))))))))))))))))))))))))))))
end Go.Proofs.YtgkgmhkgahalgaaGreat
