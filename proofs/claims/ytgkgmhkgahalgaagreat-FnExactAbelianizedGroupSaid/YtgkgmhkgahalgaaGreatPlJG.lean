import Derived.Test.YtgkgmhkgahalgaaGreatPlT16
import Derived.Test.YtgkgmhkgahalgaaGreatPlJF
import Derived.Test.YtgkgmhkgahalgaaGreatPlT9
import Derived.Test.YtgkgmhkgahalgaaGreatAl7R
set_option linter.unusedVariables false
set_option linter.unusedSimpArgs false
namespace Go.Proofs.YtgkgmhkgahalgaaGreat
open Go.RowKit
theorem fnExactAbelianizedGroup_holds:Rows.FnExactAbelianizedGroupSaid:=Nk fun x h=>by
 obtain ⟨n2,n2r⟩:=h
 have nrow:∀ i,i<x.Qr.length→(x.Qr.getD i []).length≤9223372036854775807:=fun i hi=>by
  rw [List.getD_eq_getElem?_getD,List.getElem?_eq_getElem hi]
  exact (n2r _ (List.getElem_mem hi)).1
 obtain ⟨s,t,c⟩:=iL n2 nrow (left:=1048576) (by decide) (by decide)
 unfold Ff.f
 refine Ab.get (Ab.bind t ?_)
 by_cases hs:s<0
 ·exact Ab.pos hs (Ab.const _)
 obtain ⟨_,_,m1,m2⟩:=c.resolve_left hs
 have hT:Ab (fun K=>Ep.f K x.Qr) x.Qr:=Ab.bind (jI m1 m2) (Ab.const _)
 have hE:Ab (fun K=>Ig.f K x.Qr x.Qr) true:=Ab.bind (kX m1 m2) (Ab.pos rfl (Ab.const _))
 obtain ⟨q,ys,⟨q1,q1'⟩,q2,q3⟩:=nH m1 m2
 have n1:¬ q<0:=by omega
 obtain ⟨g,u,d,hu,c1,c2⟩:=fD x.Qr m1
 have hq:=xJ (g:=g) (t:=u) (by omega)
 obtain ⟨r,zs,r1,r2,r3,r4⟩:=oG g (xs:=u) (by omega)
 exact Ab.neg hs (Ab.bind hT (Ab.Gy c2 (Ab.bind hT (Ab.Gy c1 (Ab.bind hq (Ab.pos rfl (Ab.pos rfl (Ab.bind hT (Ab.bind hE (Ab.pos rfl (Ab.Dw q3 (Ab.pos q2 (Ab.neg n1 (Ab.bind hq (Ab.pos rfl (Ab.Dw r3 (Ab.pos r2 (Ab.bind r4 (Ab.neg r1 (Ab.pos rfl (Ab.bind hT (Ab.Gy c1 (Ab.bind hq (Ab.pos rfl (Ab.pos rfl (Ab.bind r4 (Ab.neg r1 (Ab.pos rfl (Ab.const _)))))))))))))))))))))))))))))
end Go.Proofs.YtgkgmhkgahalgaaGreat
