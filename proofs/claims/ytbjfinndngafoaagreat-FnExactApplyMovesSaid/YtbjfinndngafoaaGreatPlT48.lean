/-
  ApplyMoves: the law.
-/
import Derived.Test.YtbjfinndngafoaaGreatPlT47
import Derived.Test.YtbjfinndngafoaaGreatPlT32
import Derived.Test.YtbjfinndngafoaaGreatAl7R
set_option linter.unusedVariables false
set_option linter.unusedSimpArgs false
namespace Go.Proofs.YtbjfinndngafoaaGreat
open Go.RowKit
theorem fnExactApplyMoves_holds:Rows.FnExactApplyMovesSaid:=Nq fun x l h hl=>by
  obtain ⟨n2,n2r⟩:=h
  have hrow:∀ i,i<x.Oz.length→(x.Oz.getD i []).length≤9223372036854775807:=fun i hi=>by
    rw [List.getD_eq_getElem?_getD,List.getElem?_eq_getElem hi]
    exact (n2r _ (List.getElem_mem hi)).1
  obtain ⟨s,t,c⟩:=bX n2 hrow (left:=1048576) (by decide) (by decide)
  unfold F6.f
  refine Ac.get (Ac.bind t ?_)
  by_cases hs:s<0
  · exact Ac.pos hs (Ac.const _)
  obtain ⟨s0,s1,m1,m2⟩:=c.resolve_left hs
  obtain ⟨s',t',c'⟩:=wG (xs:=l) hl.1 s0 s1
  refine Ac.neg hs (Ac.bind t' ?_)
  by_cases hs':s'<0
  · exact Ac.pos hs' (Ac.const _)
  obtain ⟨_,m3⟩:=c'.resolve_left hs'
  have hT:Ac (fun K=>Du.f K x.Oz) x.Oz:=Ac.bind (dN m1 m2) (Ac.const _)
  have hE:Ac (fun K=>Cq.f K x.Oz x.Oz) true:=Ac.bind (Xo m1 m2) (Ac.pos rfl (Ac.const _))
  have hM:=iH m3
  have hQ:=kU m3
  obtain ⟨L,code,at_,⟨mm,hm,hsh⟩,c1,c2⟩:=Q6 x.Oz m1 l
  have l1:L.length≤2000000:=by have:=hsh.len; omega
  have l2:∀ i,i<L.length→(L.getD i []).length≤2000000:=fun i hi=>by have h1:=hsh.len; have:=hsh.row i (by omega); omega
  have hL:Ac (fun K=>Cq.f K L L) true:=Ac.bind (Xo l1 l2) (Ac.pos rfl (Ac.const _))
  obtain ⟨q,ys,⟨q1,q1'⟩,q2,q3,_⟩:=Za m1 m2
  obtain ⟨p,ws,p1,p2,p3⟩:=gG m3 q1 q1'
  obtain ⟨r,zs,⟨r1,_⟩,r2,r3,r4⟩:=Za l1 l2
  have n1:¬ p<0:=by omega
  have n2:¬ r<0:=by omega
  have hH:Ac (fun K=>E8.f K zs 1) r:=Ac.bind r4 (Ac.neg n2 (Ac.const _))
  exact Ac.neg hs' (Ac.bind hT (Ac.bind hM (Ac.Im c1 (Ac.bind hT (Ac.bind hM (Ac.Im c2 (Ac.bind hL (Ac.pos rfl (Ac.pos rfl (Ac.pos rfl (Ac.bind hT (Ac.bind hE (Ac.pos rfl (Ac.bind hM (Ac.bind hQ (Ac.pos rfl (Ac.El q3 (Ac.pos q2 (Ac.El p3 (Ac.pos p2 (Ac.neg n1 (Ac.bind hL (Ac.pos rfl (Ac.El r3 (Ac.pos r2 (Ac.bind hH (Ac.neg n2 (Ac.pos rfl (Ac.bind hT (Ac.bind hM (Ac.Im c2 (Ac.bind hL (Ac.pos rfl (Ac.pos rfl (Ac.pos rfl (Ac.bind hH (Ac.neg n2 (Ac.pos rfl (Ac.const _)))))))))))))))))))))))))))))))))))))))
end Go.Proofs.YtbjfinndngafoaaGreat
