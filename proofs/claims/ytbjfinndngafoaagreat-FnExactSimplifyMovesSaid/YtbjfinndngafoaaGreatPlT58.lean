/-
  SimplifyMoves: the law.
-/
import Derived.Test.YtbjfinndngafoaaGreatPlT32
import Derived.Test.YtbjfinndngafoaaGreatAl8R
set_option linter.unusedVariables false
set_option linter.unusedSimpArgs false
namespace Go.Proofs.YtbjfinndngafoaaGreat
open Go.RowKit
theorem fnExactSimplifyMoves_holds:Rows.FnExactSimplifyMovesSaid:=Np fun x h=>by
  obtain ⟨n2,n2r⟩:=h
  have hrow:∀ i,i<x.Px.length→(x.Px.getD i []).length≤9223372036854775807:=fun i hi=>by
    rw [List.getD_eq_getElem?_getD,List.getElem?_eq_getElem hi]
    exact (n2r _ (List.getElem_mem hi)).1
  obtain ⟨s,t,c⟩:=eY n2 hrow (left:=1048576) (by decide) (by decide)
  unfold F8.f
  refine Ac.get (Ac.bind t ?_)
  by_cases hs:s<0
  · exact Ac.pos hs (Ac.const _)
  obtain ⟨_,_,m1,m2⟩:=c.resolve_left hs
  have hT:Ac (fun K=>Eh.f K x.Px) x.Px:=Ac.bind (gD m1 m2) (Ac.const _)
  have hE:Ac (fun K=>Da.f K x.Px x.Px) true:=Ac.bind (Yq m1 m2) (Ac.pos rfl (Ac.const _))
  obtain ⟨L,M,code,hv,hM,c1,c2⟩:=Ur x.Px m1
  have l1:L.length≤2000000:=by have:=hv.le; omega
  have l2:∀ i,i<L.length→(L.getD i []).length≤2000000:=fun i hi=>by have:=hv.four i hi; omega
  have hL:Ac (fun K=>Da.f K L L) true:=Ac.bind (Yq l1 l2) (Ac.pos rfl (Ac.const _))
  have hQ:=nH (xs:=M) (by omega)
  obtain ⟨q,ys,⟨q1,q1'⟩,q2,q3,_⟩:=aL m1 m2
  obtain ⟨r,zs,⟨r1,r1'⟩,r2,r3,r4⟩:=aL l1 l2
  obtain ⟨us,u1,u2,u3⟩:=dV (xs:=M) (by omega) r r1 (by unfold Yu; omega)
  have n1:¬ q<0:=by omega
  have n2:¬ r<0:=by omega
  have n3:¬ r+((3 * M.length:Nat):Int)<0:=by omega
  have hH:Ac (fun K=>F4.f K zs 1) r:=Ac.bind r4 (Ac.neg n2 (Ac.const _))
  exact Ac.neg hs (Ac.bind hT (Ac.Jk c1 (Ac.bind hT (Ac.Jk c2 (Ac.bind hL (Ac.pos rfl (Ac.bind hQ (Ac.pos rfl (Ac.pos rfl (Ac.bind hT (Ac.bind hE (Ac.pos rfl (Ac.Ew q3 (Ac.pos q2 (Ac.neg n1 (Ac.bind hL (Ac.pos rfl (Ac.bind hQ (Ac.pos rfl (Ac.Ew r3 (Ac.pos r2 (Ac.Ew u2 (Ac.pos u1 (Ac.bind hH (Ac.neg n2 (Ac.bind u3 (Ac.neg n3 (Ac.pos rfl (Ac.bind hT (Ac.Jk c2 (Ac.bind hL (Ac.pos rfl (Ac.bind hQ (Ac.pos rfl (Ac.pos rfl (Ac.bind hH (Ac.neg n2 (Ac.bind u3 (Ac.neg n3 (Ac.pos rfl (Ac.const _)))))))))))))))))))))))))))))))))))))))))
end Go.Proofs.YtbjfinndngafoaaGreat
