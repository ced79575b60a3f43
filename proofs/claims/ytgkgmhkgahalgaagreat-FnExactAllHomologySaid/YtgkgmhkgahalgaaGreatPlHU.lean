/-
  AllHomology: the law.
-/
import Derived.Test.YtgkgmhkgahalgaaGreatPlHQ
import Derived.Test.YtgkgmhkgahalgaaGreatPlT9
import Derived.Test.YtgkgmhkgahalgaaGreatAl6R
set_option linter.unusedVariables false
set_option linter.unusedSimpArgs false
namespace Go.Proofs.YtgkgmhkgahalgaaGreat
open Go.RowKit
theorem fnExactAllHomology_holds:Rows.FnExactAllHomologySaid:=O6 fun x h=>by
  obtain ⟨n2,n2r⟩:=h
  have nrow:∀ i,i<x.Qn.length→(x.Qn.getD i []).length≤9223372036854775807:=fun i hi=>by
    rw [List.getD_eq_getElem?_getD,List.getElem?_eq_getElem hi]
    exact (n2r _ (List.getElem_mem hi)).1
  obtain ⟨s,t,c⟩:=jA n2 nrow (left:=1048576) (by decide) (by decide)
  unfold Gu.f
  refine Ab.get (Ab.bind t ?_)
  by_cases hs:s<0
  · exact Ab.pos hs (Ab.const _)
  obtain ⟨_,_,m1,m2⟩:=c.resolve_left hs
  have hT:Ab (fun K=>Ev.f K x.Qn) x.Qn:=Ab.bind (jS m1 m2) (Ab.const _)
  have hE:Ab (fun K=>Hr.f K x.Qn x.Qn) true:=Ab.bind (kU m1 m2) (Ab.pos rfl (Ab.const _))
  obtain ⟨q,ys,⟨q1,q1'⟩,q2,q3⟩:=nD m1 m2
  have n1:¬ q<0:=by omega
  obtain ⟨u,d,hu,c1,c2⟩:=aC x.Qn m1
  have hq:=vM hu.2.2.1 hu.2.2.2
  obtain ⟨r,zs,r1,r2,r3,r4⟩:=jV hu.2.2.1 hu.2.2.2
  exact Ab.neg hs (Ab.bind hT (Ab.Dz c2 (Ab.bind hT (Ab.Dz c1 (Ab.bind hq (Ab.pos rfl (Ab.pos rfl (Ab.bind hT (Ab.bind hE (Ab.pos rfl (Ab.Dz q3 (Ab.pos q2 (Ab.neg n1 (Ab.bind hq (Ab.pos rfl (Ab.Dz r3 (Ab.pos r2 (Ab.bind r4 (Ab.neg r1 (Ab.pos rfl (Ab.bind hT (Ab.Dz c1 (Ab.bind hq (Ab.pos rfl (Ab.pos rfl (Ab.bind r4 (Ab.neg r1 (Ab.pos rfl (Ab.const _)))))))))))))))))))))))))))))
end Go.Proofs.YtgkgmhkgahalgaaGreat
