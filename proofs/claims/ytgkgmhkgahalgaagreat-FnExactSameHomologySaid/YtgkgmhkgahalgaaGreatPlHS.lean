/-
  SameHomology: the law.
-/
import Derived.Test.YtgkgmhkgahalgaaGreatPlHQ
import Derived.Test.YtgkgmhkgahalgaaGreatPlT9
import Derived.Test.YtgkgmhkgahalgaaGreatAl4R
set_option linter.unusedVariables false
set_option linter.unusedSimpArgs false
namespace Go.Proofs.YtgkgmhkgahalgaaGreat
open Go.RowKit
theorem fnExactSameHomology_holds:Rows.FnExactSameHomologySaid:=Om fun x y h h'=>by
  obtain ⟨n2,n2r⟩:=h
  have nrow:∀ i,i<x.Me.length→(x.Me.getD i []).length≤9223372036854775807:=fun i hi=>by
    rw [List.getD_eq_getElem?_getD,List.getElem?_eq_getElem hi]
    exact (n2r _ (List.getElem_mem hi)).1
  obtain ⟨p2,p2r⟩:=h'
  have prow:∀ i,i<y.Me.length→(y.Me.getD i []).length≤9223372036854775807:=fun i hi=>by
    rw [List.getD_eq_getElem?_getD,List.getElem?_eq_getElem hi]
    exact (p2r _ (List.getElem_mem hi)).1
  obtain ⟨s,t,c⟩:=Y0 n2 nrow (left:=1048576) (by decide) (by decide)
  unfold Gn.f
  refine Ab.get (Ab.bind t ?_)
  by_cases hs:s<0
  · exact Ab.pos hs (Ab.const _)
  obtain ⟨s1,s2,m1,m2⟩:=c.resolve_left hs
  obtain ⟨s',t',c'⟩:=Y0 p2 prow (left:=s) (by omega) (by omega)
  refine Ab.neg hs (Ab.bind t' ?_)
  by_cases hs':s'<0
  · exact Ab.pos hs' (Ab.const _)
  obtain ⟨_,_,u1,u2⟩:=c'.resolve_left hs'
  have hT:Ab (fun K=>Dw.f K x.Me) x.Me:=Ab.bind (Y9 m1 m2) (Ab.const _)
  have hE:Ab (fun K=>F7.f K x.Me x.Me) true:=Ab.bind (Zn m1 m2) (Ab.pos rfl (Ab.const _))
  have hU:Ab (fun K=>Dw.f K y.Me) y.Me:=Ab.bind (Y9 u1 u2) (Ab.const _)
  have hF:Ab (fun K=>F7.f K y.Me y.Me) true:=Ab.bind (Zn u1 u2) (Ab.pos rfl (Ab.const _))
  obtain ⟨r,c1,c2⟩:=fU x.Me y.Me m1 u1
  exact Ab.neg hs' (Ab.bind hT (Ab.bind hU (Ab.bind c2 (Ab.bind hT (Ab.bind hU (Ab.bind c1 (Ab.pos (beq_self_eq_true r) (Ab.bind hT (Ab.bind hE (Ab.pos rfl (Ab.bind hU (Ab.bind hF (Ab.pos rfl (Ab.const _))))))))))))))
end Go.Proofs.YtgkgmhkgahalgaaGreat
