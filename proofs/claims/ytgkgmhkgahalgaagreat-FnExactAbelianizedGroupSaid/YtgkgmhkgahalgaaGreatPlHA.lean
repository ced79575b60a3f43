import Derived.Test.YtgkgmhkgahalgaaGreatPlT9
set_option linter.unusedVariables false
set_option linter.unusedSimpArgs false
set_option linter.unusedSectionVars false
namespace Go.Proofs.YtgkgmhkgahalgaaGreat
open Go.RowKit
def nbr (ts:List (List Am)) (i f:Nat):Option (Nat × Bool) :=
 if EA (i%6)=f∨EB (i%6)=f then none else if (Fg ts (i/6) f).Tet<0 then none else
  some (6*(Fg ts (i/6) f).Tet.toNat+EE (PA (Fg ts (i/6) f).Perm.toNat (EA (i%6))) (PA (Fg ts (i/6) f).Perm.toNat (EB (i%6))),decide (PA (Fg ts (i/6) f).Perm.toNat (EB (i%6))<PA (Fg ts (i/6) f).Perm.toNat (EA (i%6))))
theorem de6 {a e:Nat} (he:e<6):(6*a+e)/6=a∧(6*a+e)%6=e:=by omega
section
variable {ts:List (List Am)} (hv:Val ts)
include hv
theorem Oj {a e f b p:Nat} (he:e<6) (h1:EA e≠f) (h2:EB e≠f) (hx:Fg ts a f=⟨b,p⟩):nbr ts (6*a+e) f=some (6*b+EE (PA p (EA e)) (PA p (EB e)),decide (PA p (EB e)<PA p (EA e))):=by
 unfold nbr
 rw [(de6 he).1,(de6 he).2,hx,if_neg (by rintro (h | h)<;>contradiction),if_neg (by show ¬ (b:Int)<0; omega)]
 rfl
theorem Zg {i f j:Nat} {fl:Bool} (hi:i<6*ts.length) (hf:f<4) (h:nbr ts i f=some (j,fl)):∃ b p:Nat,b<ts.length∧p<24∧Fg ts (i/6) f=⟨b,p⟩∧O5 ts (i/6) f b p∧EA (i%6)≠f∧EB (i%6)≠f∧j=6*b+EE (PA p (EA (i%6))) (PA p (EB (i%6)))∧fl=decide (PA p (EB (i%6))<PA p (EA (i%6)))∧j<6*ts.length:=by
 have ha:i/6<ts.length:=by omega
 have he:i%6<6:=by omega
 unfold nbr at h
 by_cases h1:EA (i%6)=f∨EB (i%6)=f
 ·rw [if_pos h1] at h; cases h
 ·rw [if_neg h1] at h
  rcases Jm hv ha hf with ⟨g1,_⟩|⟨g1,b,p,hb,hp,g2,g3⟩
  ·rw [if_pos g1] at h; cases h
  ·rw [if_neg g1,g2] at h
   injection h with h
   injection h with h2 h3
   have hbb:((b:Int)).toNat=b:=Int.toNat_natCast b
   refine ⟨b,p,hb,hp,g2,g3,fun e=>h1 (.inl e),fun e=>h1 (.inr e),h2.symm,h3.symm,?_⟩
   rw [← h2]
   exact mul_lt (c:=6) hb (N8 hp he).2.2.2
theorem wF {i f j:Nat} {fl:Bool} (hi:i<6*ts.length) (hf:f<4) (h:nbr ts i f=some (j,fl)):(i,j)∈JE ts:=by
 obtain ⟨b,p,hb,hp,hx,_,h1,h2,hj,_,_⟩:=Zg hv hi hf h
 unfold JE
 refine Lr.2 ⟨i/6,by omega,Lr.2 ⟨f,hf,?_⟩⟩
 unfold JEf
 rw [hx,if_neg (by show ¬ (b:Int)<0; omega)]
 refine Lr.2 ⟨i%6,by omega,?_⟩
 unfold je
 rw [if_neg (by rintro (h | h)<;>contradiction)]
 refine List.mem_singleton.2 ?_
 rw [hj,show 6*(i/6)+i%6=i by omega]
 rfl
theorem uE {i j:Nat} (h:(i,j)∈JE ts):i<6*ts.length∧∃ f fl,f<4∧nbr ts i f=some (j,fl):=by
 unfold JE at h
 obtain ⟨a,ha,h⟩:=Lr.1 h
 obtain ⟨f,hf,h⟩:=Lr.1 h
 unfold JEf at h
 rcases Jm hv ha hf with ⟨g1,_⟩|⟨g1,b,p,hb,hp,g2,g3⟩
 ·rw [if_pos g1] at h; exact (List.not_mem_nil h).elim
 ·rw [if_neg g1,g2] at h
  obtain ⟨e,he,h⟩:=Lr.1 h
  unfold je at h
  by_cases hc:EA e=f∨EB e=f
  ·rw [if_pos hc] at h; exact (List.not_mem_nil h).elim
  ·rw [if_neg hc] at h
   have h:=List.mem_singleton.1 h
   injection h with h1 h2
   have h5:=Oj hv he (fun e=>hc (.inl e)) (fun e=>hc (.inr e)) g2
   rw [h1,h2]
   exact ⟨mul_lt (c:=6) ha he,f,_,hf,h5⟩
theorem lN {i f j:Nat} {fl:Bool} (hi:i<6*ts.length) (hf:f<4) (h:nbr ts i f=some (j,fl)):∃ f' fl',f'<4∧nbr ts j f'=some (i,fl'):=by
 obtain ⟨b,p,hb,hp,hx,hg,h1,h2,hj,_,_⟩:=Zg hv hi hf h
 have he:i%6<6:=by omega
 obtain ⟨q1,q2,q3⟩:=EAB he
 obtain ⟨g1,g2,g3,g4⟩:=N8 hp he
 obtain ⟨_,e1,e2⟩:=Wn g1 g2 g3
 have hp':=qP hp
 have n1:PA p (EA (i%6))≠PA p f:=fun e=>h1 (U6 hp (by omega) hf e)
 have n2:PA p (EB (i%6))≠PA p f:=fun e=>h2 (U6 hp q2 hf e)
 have h5:=Oj hv g4 (by rw [e1]; omega) (by rw [e2]; omega) hg.2.2.2.1
 rw [← hj,e1,e2] at h5
 have k1:=Va hp (show EA (i%6)<4 by omega)
 have k2:=Va hp q2
 have:EE (PA (PI p) (min (PA p (EA (i%6))) (PA p (EB (i%6))))) (PA (PI p) (max (PA p (EA (i%6))) (PA p (EB (i%6)))))=i%6:=by
  rcases Nat.lt_or_gt_of_ne g3 with hlt | hlt
  ·rw [Nat.min_eq_left (by omega),Nat.max_eq_right (by omega),k1,k2,q3]
  ·rw [Nat.min_eq_right (by omega),Nat.max_eq_left (by omega),k1,k2,dC q2 (by omega),q3]
 rw [this,show 6*(i/6)+i%6=i by omega] at h5
 exact ⟨PA p f,_,H9 hp hf,h5⟩
end
abbrev O1:=List Int × List Nat × Bool
def stp (i:Nat) (st:O1) (t:Nat × Bool):O1 :=
 let want:Int:=bif t.2 then - st.1.getD i 0 else st.1.getD i 0
 if st.1.getD t.1 0=0 then (st.1.set t.1 want,st.2.1++[t.1],st.2.2) else (st.1,st.2.1,st.2.2 || !decide (st.1.getD t.1 0=want))
def Lx (ts:List (List Am)) (i f:Nat) (st:O1):O1:=match nbr ts i f with
 |none=>st
 |some t=>stp i st t
def M7 (ts:List (List Am)) (i:Nat) (st:O1):Nat→O1
 |0=>st
 |f+1=>Lx ts i f (M7 ts i st f)
theorem Y9 {ts:List (List Am)} {i f:Nat} {st:O1} (h:EA (i%6)=f∨EB (i%6)=f):Lx ts i f st=st:=by
 unfold Lx nbr
 rw [if_pos h]
theorem bL {e:Nat} (he:e<6):∃ f g,OT [EA e,EB e]=[f,g]∧f<4∧g<4∧EA e≠f∧EB e≠f∧EA e≠g∧EB e≠g:=by
 have:e=0∨e=1∨e=2∨e=3∨e=4∨e=5:=by omega
 rcases this with rfl | rfl | rfl | rfl | rfl | rfl<;>exact ⟨_,_,rfl,by decide,by decide,by decide,by decide,by decide,by decide⟩
theorem jF (ts:List (List Am)) (i:Nat) (st:O1) {f g:Nat} (h:OT [EA (i%6),EB (i%6)]=[f,g]):M7 ts i st 4=Lx ts i g (Lx ts i f st):=by
 have hf:=fun f st=>@Y9 ts i f st
 have:i%6=0∨i%6=1∨i%6=2∨i%6=3∨i%6=4∨i%6=5:=by omega
 simp only [M7]
 rcases this with e | e | e | e | e | e<;>rw [e] at h hf<;>(injection h with h1 h2; injection h2 with h2 _; subst h1; subst h2)
 ·rw [hf 0 _ (by decide),hf 1 _ (by decide)]
 ·rw [hf 0 _ (by decide),hf 2 _ (by decide)]
 ·rw [hf 0 _ (by decide),hf 3 _ (by decide)]
 ·rw [hf 1 _ (by decide),hf 2 _ (by decide)]
 ·rw [hf 1 _ (by decide),hf 3 _ (by decide)]
 ·rw [hf 2 _ (by decide),hf 3 _ (by decide)]
structure Sr (ts:List (List Am)) (N:Nat) (C sg0:List Int) (i0:Nat) (st:O1):Prop where
 len:st.1.length=N
 head:st.2.1.getD 0 0=i0∧0<st.2.1.length
 inn:∀ j,j∈st.2.1→j<N∧C.getD j 0=C.getD i0 0
 nodup:st.2.1.Nodup
 sgn:∀ j,j<N→(st.1.getD j 0≠0↔(j∈st.2.1∨sg0.getD j 0≠0))
 val:∀ j,j<N→st.1.getD j 0=0∨st.1.getD j 0=1∨st.1.getD j 0 = -1
theorem Z4 {l:List Int} {i j:Nat} {v:Int} (hi:i<l.length):(l.set i v).getD j 0=if i=j then v else l.getD j 0:=by
 rw [List.getD_eq_getElem?_getD]
 by_cases h:i=j
 ·subst h; rw [List.getElem?_set_self hi,if_pos rfl]; rfl
 ·rw [List.getElem?_set_ne h,if_neg h,List.getD_eq_getElem?_getD]
theorem Sr.stp {ts:List (List Am)} {N:Nat} {C sg0:List Int} {i0:Nat} {st:O1} (h:Sr ts N C sg0 i0 st) {i:Nat} (hi:i∈st.2.1) {t:Nat × Bool} (ht:t.1<N) (hC:C.getD t.1 0=C.getD i 0) :
  Sr ts N C sg0 i0 (stp i st t)∧(∀ j,j<N→st.1.getD j 0≠0→(Go.Proofs.YtgkgmhkgahalgaaGreat.stp i st t).1.getD j 0≠0)∧(Go.Proofs.YtgkgmhkgahalgaaGreat.stp i st t).1.getD t.1 0≠0∧∃ r,(Go.Proofs.YtgkgmhkgahalgaaGreat.stp i st t).2.1=st.2.1++r:=by
 have hiN:=(h.inn i hi).1
 have hsi:st.1.getD i 0≠0:=(h.sgn i hiN).2 (.inl hi)
 unfold Go.Proofs.YtgkgmhkgahalgaaGreat.stp
 by_cases h0:st.1.getD t.1 0=0
 ·rw [if_pos h0]
  have hnq:t.1 ∉ st.2.1:=fun e=>(h.sgn t.1 ht).2 (.inl e) h0
  have hw:(bif t.2 then - st.1.getD i 0 else st.1.getD i 0)≠0:=by cases t.2<;>simp only [cond_true,cond_false]<;>omega
  have hl:=h.len
  refine ⟨⟨by rw [List.length_set]; exact hl,⟨?_,by simp⟩,fun j hj=>?_,?_,fun j hj=>?_,fun j hj=>?_⟩,fun j hj hn=>?_,?_,⟨_,rfl⟩⟩
  ·have:=h.head
   show (st.2.1++[t.1]).getD 0 0=i0
   rw [List.getD_eq_getElem?_getD,List.getElem?_append_left this.2,← List.getD_eq_getElem?_getD]
   exact this.1
  ·rcases List.mem_append.1 hj with hj | hj
   ·exact h.inn j hj
   ·rw [List.mem_singleton.1 hj]; exact ⟨ht,hC.trans (h.inn i hi).2⟩
  ·exact List.nodup_append.2 ⟨h.nodup,by simp,fun a ha b hb=>by rw [List.mem_singleton.1 hb]; exact fun e=>hnq (e ▸ ha)⟩
  ·show (st.1.set t.1 _).getD j 0≠0↔_
   rw [Z4 (by omega)]
   by_cases e:t.1=j
   ·rw [if_pos e]
    exact ⟨fun _=>.inl (List.mem_append_right _ (List.mem_singleton.2 e.symm)),fun _=>hw⟩
   ·rw [if_neg e,h.sgn j hj]
    constructor
    ·rintro (h1 | h1)
     ·exact .inl (List.mem_append_left _ h1)
     ·exact .inr h1
    ·rintro (h1 | h1)
     ·rcases List.mem_append.1 h1 with h1 | h1
      ·exact .inl h1
      ·exact absurd (List.mem_singleton.1 h1).symm e
     ·exact .inr h1
  ·show (st.1.set t.1 _).getD j 0=0∨_
   rw [Z4 (by omega)]
   have hvi:=h.val i hiN
   have hvj:=h.val j hj
   by_cases e:t.1=j
   ·rw [if_pos e]; cases t.2<;>simp only [cond_true,cond_false]<;>omega
   ·rw [if_neg e]; exact hvj
  ·show (st.1.set t.1 _).getD j 0≠0
   rw [Z4 (by omega)]
   by_cases e:t.1=j
   ·rw [if_pos e]; exact hw
   ·rw [if_neg e]; exact hn
  ·show (st.1.set t.1 _).getD t.1 0≠0
   rw [Z4 (by omega),if_pos rfl]; exact hw
 ·rw [if_neg h0]
  exact ⟨⟨h.len,h.head,h.inn,h.nodup,h.sgn,h.val⟩,fun j _ hn=>hn,h0,⟨[],by simp⟩⟩
theorem K8:∀ {N:Nat} {q:List Nat},q.Nodup→(∀ j,j∈q→j<N)→q.length≤N
 |0,[],_,_=>Nat.le_refl _
 |0,a::q,_,h=>absurd (h a (List.mem_cons_self ..)) (Nat.not_lt_zero _)
 |N+1,q,hn,h=>by
  by_cases hm:N∈q
  ·have:=K8 (N:=N) (q:=q.erase N) (hn.erase N) (fun j hj=>by
    have h1:=(List.Nodup.mem_erase_iff hn).1 hj
    have:=h j h1.2
    have:=h1.1
    omega)
   rw [List.length_erase_of_mem hm] at this
   omega
  ·have:=K8 (N:=N) (q:=q) hn (fun j hj=>by
    have:=h j hj
    have:j≠N:=fun e=>hm (e ▸ hj)
    omega)
   omega
theorem Rx {κ ν:Type} [DecidableEq κ] (k:κ) (v:ν) (k':κ):∀ m:List (κ × ν),Mi (Qs m k v) k'=if k'=k then some v else Mi m k'
 |[]=>by unfold Qs Mi Mi; rfl
 |p::r=>by
  unfold Qs
  by_cases h:k=p.1
  ·rw [if_pos h]
   unfold Mi
   by_cases h2:k'=k
   ·rw [if_pos h2,if_pos h2]
   ·rw [if_neg h2,if_neg h2,if_neg (by rw [← h]; exact h2)]
  ·rw [if_neg h]
   unfold Mi
   by_cases h2:k'=p.1
   ·rw [if_pos h2,if_pos h2,if_neg (by rw [h2]; exact fun e=>h e.symm)]
   ·rw [if_neg h2,if_neg h2,Rx k v k' r]
theorem Il (l:List Nat):(ints l).length=l.length:=by simp [ints]
theorem K3 {l:List Nat} {i:Nat} (h:i<l.length):(ints l).getD i 0=((l.getD i 0:Nat):Int):=by
 unfold ints
 rw [List.getD_eq_getElem?_getD,List.getElem?_map,getD_some (d:=0) h]; rfl
theorem Pi (l:List Nat) (x:Nat):ints (l++[x])=ints l++[(x:Int)]:=by simp [ints]
theorem Sr.bZ {ts:List (List Am)} {N:Nat} {C sg0:List Int} {i0:Nat} {st:O1} (h:Sr ts N C sg0 i0 st):st.2.1.length≤N:=K8 h.nodup fun j hj=>(h.inn j hj).1
def Xf (rev0 rev:List (Int × Bool)) (c:Int) (bad:Bool):Prop:=(∀ c',c'≠c→Mi rev c'=Mi rev0 c')∧Mi rev c=if bad=true then some true else none
theorem Aa0 (b p:Nat):Bo.f (⟨(b:Int),(p:Int)⟩:Am).Tet (⟨(b:Int),(p:Int)⟩:Am).Perm=some false:=congrArg some (decide_eq_false (by show ¬ (b:Int)<0; omega))
theorem mO (i:Nat):(i:Int).tmod 6=((i%6:Nat):Int):=by
 rw [Int.tmod_eq_emod_of_nonneg (by omega)]; omega
theorem iH (i:Nat):(i:Int).tdiv 6=((i/6:Nat):Int):=by
 rw [Int.tdiv_eq_ediv_of_nonneg (by omega)]; omega
section
variable {ts:List (List Am)} (hv:Val ts) {C:List Int} (hCl:C.length=6*ts.length) (hC:∀ i f j fl,i<6*ts.length→f<4→nbr ts i f=some (j,fl)→j<6*ts.length∧C.getD j 0=C.getD i 0)
include hv hCl hC
theorem Sr.Lx {sg0:List Int} {i0:Nat} {st:O1} (h:Sr ts (6*ts.length) C sg0 i0 st) {i f:Nat} (hi:i∈st.2.1) (hf:f<4) :
  Sr ts (6*ts.length) C sg0 i0 (Lx ts i f st)∧(∀ j,j<6*ts.length→st.1.getD j 0≠0→(Go.Proofs.YtgkgmhkgahalgaaGreat.Lx ts i f st).1.getD j 0≠0)∧(∀ j fl,nbr ts i f=some (j,fl)→(Go.Proofs.YtgkgmhkgahalgaaGreat.Lx ts i f st).1.getD j 0≠0)∧∃ r,(Go.Proofs.YtgkgmhkgahalgaaGreat.Lx ts i f st).2.1=st.2.1++r:=by
 unfold Go.Proofs.YtgkgmhkgahalgaaGreat.Lx
 cases hn:nbr ts i f with
 |none=>exact ⟨h,fun j _ hj=>hj,fun j fl e=>(by cases e),[],by simp⟩
 |some t =>
  obtain ⟨g1,g2⟩:=hC i f t.1 t.2 (h.inn i hi).1 hf hn
  obtain ⟨h1,h2,h3,h4⟩:=h.stp hi g1 g2
  refine ⟨h1,h2,fun j fl e=>?_,h4⟩
  injection e with e
  subst e
  exact h3
theorem xX {sg0:List Int} {i0:Nat} {st:O1} (h:Sr ts (6*ts.length) C sg0 i0 st) {qi:Nat} (hq:qi<st.2.1.length) {j:Nat} {fl:Bool} (hj:j<6*ts.length) (hjC:C.getD j 0=C.getD i0 0) {rev0 rev:List (Int × Bool)} (hr:Xf rev0 rev (C.getD i0 0) st.2.2) :
  ∃ rev',Da.f (j:Int) (bif fl then -1 else 1) st.1 (ints st.2.1) (qi:Int) rev C=some ((stp (st.2.1.getD qi 0) st (j,fl)).1,ints (stp (st.2.1.getD qi 0) st (j,fl)).2.1,rev')∧Xf rev0 rev' (C.getD i0 0) (stp (st.2.1.getD qi 0) st (j,fl)).2.2∧(stp (st.2.1.getD qi 0) st (j,fl)).1.length=st.1.length:=by
 have h8:=hv.le
 have hl:=h.len
 have hql:=h.bZ
 have him:st.2.1.getD qi 0∈st.2.1:=by rw [List.getD_eq_getElem?_getD,List.getElem?_eq_getElem hq]; exact List.getElem_mem hq
 obtain ⟨i,hi⟩:∃ i,i=st.2.1.getD qi 0:=⟨_,rfl⟩
 rw [← hi] at him ⊢
 have hiN:=(h.inn i him).1
 have hvi:=h.val i hiN
 have hvj:=h.val j hj
 have hsi:st.1.getD i 0≠0:=(h.sgn i hiN).2 (.inl him)
 have hqi:(ints st.2.1).getD qi 0=(i:Int):=by rw [K3 hq,hi]
 have hwant:w64 (st.1.getD i 0*(bif fl then -1 else 1))=bif fl then - st.1.getD i 0 else st.1.getD i 0:=by
  cases fl<;>simp only [cond_true,cond_false]<;>rw [E9 (by omega) (by omega)]<;>omega
 unfold Da.f
 rw [if_pos (by rw [Il]; omega),Int.toNat_natCast,hqi,if_pos (by omega),if_pos (by omega),Int.toNat_natCast,Int.toNat_natCast,hwant]
 unfold stp
 by_cases h0:st.1.getD j 0=0
 ·rw [if_pos h0,if_pos h0,if_pos (by rw [Il]; omega)]
  exact ⟨rev,by rw [Pi],hr,by rw [List.length_set]⟩
 ·rw [if_neg h0,if_neg h0]
  generalize hw:(bif fl then - st.1.getD i 0 else st.1.getD i 0)=wt
  have hwv:wt=1∨wt = -1:=by rw [← hw]; cases fl<;>simp only [cond_true,cond_false]<;>omega
  have hneg:w64 (0 - wt) = - wt:=by rw [E9 (by omega) (by omega)]; omega
  rw [hneg]
  by_cases h1:st.1.getD j 0 = - wt
  ·rw [if_pos h1,if_pos (by omega)]
   refine ⟨Qs rev (C.getD j 0) true,rfl,⟨fun c' hc'=>?_,?_⟩,rfl⟩
   ·rw [Rx,if_neg (by rw [hjC]; exact hc')]; exact hr.1 c' hc'
   ·rw [Rx,hjC,if_pos rfl]
    show _=if (st.2.2 || !decide (st.1.getD j 0=wt))=true then _ else _
    rw [decide_eq_false (by omega)]; simp
  ·rw [if_neg h1]
   refine ⟨rev,rfl,?_,rfl⟩
   show Xf rev0 rev _ (st.2.2 || !decide (st.1.getD j 0=wt))
   rw [decide_eq_true (by omega)]
   simpa using hr
theorem dI {sg0:List Int} {i0:Nat} {st:O1} (h:Sr ts (6*ts.length) C sg0 i0 st) {qi:Nat} (hq:qi<st.2.1.length) {i:Nat} (hi:st.2.1.getD qi 0=i) {l:List Nat} {x f:Nat} (hx:x<l.length) (hl:l.length≤4) (hfx:l.getD x 0=f) (hf:f<4) (h1:EA (i%6)≠f) (h2:EB (i%6)≠f) {rev0 rev:List (Int × Bool)} (hr:Xf rev0 rev (C.getD i0 0) st.2.2) :
  ∃ rev',Xf rev0 rev' (C.getD i0 0) (Lx ts i f st).2.2∧∀ R,Aa (fun K k=>Ag.l1 K k ts (i:Int) (qi:Int) C (EA (i%6):Int) (EB (i%6):Int) (ints l) (Lx ts i f st).1 (ints (Lx ts i f st).2.1) rev' ((x+1:Nat):Int)) R →
   Aa (fun K k=>Ag.l1 K k ts (i:Int) (qi:Int) C (EA (i%6):Int) (EB (i%6):Int) (ints l) st.1 (ints st.2.1) rev (x:Int)) R:=by
 have h8:=hv.le
 have him:i∈st.2.1:=by rw [← hi,List.getD_eq_getElem?_getD,List.getElem?_eq_getElem hq]; exact List.getElem_mem hq
 obtain ⟨hiN,hic⟩:=h.inn i him
 have ha:i/6<ts.length:=by omega
 have he:i%6<6:=by omega
 have h4:=hv.four (i/6) ha
 have hfl:(ints l).getD x 0=(f:Int):=by rw [K3 hx,hfx]
 have hw:w64 ((i:Int).tdiv 6)=((i/6:Nat):Int):=by rw [iH,E9 (by omega) (by omega)]
 rcases Jm hv ha hf with ⟨g1,g2⟩|⟨g1,b,p,hb,hp,g2,g3⟩
 ·have hn:nbr ts i f=none:=by unfold nbr; rw [if_neg (by rintro (e | e)<;>contradiction),if_pos g1]
  have hs:Lx ts i f st=st:=by unfold Go.Proofs.YtgkgmhkgahalgaaGreat.Lx; rw [hn]
  rw [hs]
  refine ⟨rev,hr,fun R hR=>Aa.step (fun K k=>?_) hR⟩
  rw [Ag.l1,if_pos (by rw [Il]; omega),if_pos (by rw [Il]; omega),hw,Int.toNat_natCast,if_pos (by omega),hfl,Int.toNat_natCast,if_pos (by omega),Int.toNat_natCast,Ho,Aj (by omega)]
  show (Bo.f (Fg ts (i/6) f).Tet (Fg ts (i/6) f).Perm).bind _=_
  rw [isB hv,Option.bind_some,decide_eq_true g1,if_pos rfl]
 ·obtain ⟨q1,q2,q3⟩:=EAB he
  obtain ⟨p1,p2,p3,p4⟩:=N8 hp he
  have hn:nbr ts i f=some (6*b+EE (PA p (EA (i%6))) (PA p (EB (i%6))),decide (PA p (EB (i%6))<PA p (EA (i%6)))):=by
   have:=Oj hv (a:=i/6) he h1 h2 g2
   rwa [show 6*(i/6)+i%6=i by omega] at this
  have hs:Lx ts i f st=stp i st (6*b+EE (PA p (EA (i%6))) (PA p (EB (i%6))),decide (PA p (EB (i%6))<PA p (EA (i%6)))):=by unfold Go.Proofs.YtgkgmhkgahalgaaGreat.Lx; rw [hn]
  obtain ⟨k1,k2⟩:=hC i f _ _ hiN hf hn
  obtain ⟨rev',e1,e2,e3⟩:=xX hv hCl hC h hq (fl:=decide (PA p (EB (i%6))<PA p (EA (i%6)))) k1 (k2.trans hic) hr
  rw [hi] at e1 e2 e3
  rw [hs]
  have hfx2:(ts.getD (i/6) []).getD f Eo=⟨b,p⟩:=g2
  refine ⟨rev',e2,fun R hR=>Aa.step (G:=fun K k=>Hm (Ej.f K (p:Int)) (fun t122 t123 t124 t125=>(if 0≤(EA (i%6):Int)∧(EA (i%6):Int)<4 then (if 0≤(EB (i%6):Int)∧(EB (i%6):Int)<4 then ((Ih.f K (([t122,t123,t124,t125]:List Int).getD (EA (i%6):Int).toNat 0) (([t122,t123,t124,t125]:List Int).getD (EB (i%6):Int).toNat 0)).bind fun t134=>((J6.f (w64 ((([t122,t123,t124,t125]:List Int).getD (EB (i%6):Int).toNat 0) - (([t122,t123,t124,t125]:List Int).getD (EA (i%6):Int).toNat 0)))).bind fun t138=>(Gy (Da.f (w64 ((w64 (6*(b:Int)))+t134)) t138 st.1 (ints st.2.1) (qi:Int) rev C) (fun t142 t143 t144=>(if t142.length=st.1.length then (Ag.l1 K k ts (i:Int) (qi:Int) C (EA (i%6):Int) (EB (i%6):Int) (ints l) t142 t143 t144 ((x+1:Nat):Int)) else none))))) else none) else none))) (fun K k=>?_) (Aa.Hm (Pt hp).two (Aa.pos (by omega) (Aa.pos (by omega) (Aa.bind (a:=((EE (PA p (EA (i%6))) (PA p (EB (i%6))):Nat):Int)) ?_ ?_))))⟩
  ·rw [Ag.l1,if_pos (by rw [Il]; omega),if_pos (by rw [Il]; omega),hw,Int.toNat_natCast,if_pos (by omega),hfl,Int.toNat_natCast,if_pos (by omega),Int.toNat_natCast,Ho,Aj (by omega),hfx2,Aa0 b p,Option.bind_some,if_neg (by decide)]
  ·refine Aa.congr (fun K k=>?_) (iI p1 p2 p3).two
   rw [Uu (k:=EA (i%6)) (by omega),Uu (k:=EB (i%6)) q2]
  ·have hsg:J6.f (w64 ((([(PA p 0:Int),(PA p 1:Int),(PA p 2:Int),(PA p 3:Int)]:List Int).getD (EB (i%6):Int).toNat 0) - (([(PA p 0:Int),(PA p 1:Int),(PA p 2:Int),(PA p 3:Int)]:List Int).getD (EA (i%6):Int).toNat 0)))=some (bif decide (PA p (EB (i%6))<PA p (EA (i%6))) then -1 else 1):=by
    rw [Uu (k:=EA (i%6)) (by omega),Uu (k:=EB (i%6)) q2,E9 (by omega) (by omega)]
    unfold J6.f
    by_cases hlt:PA p (EB (i%6))<PA p (EA (i%6))
    ·rw [if_pos (by omega),decide_eq_true hlt]; rfl
    ·rw [if_neg (by omega),decide_eq_false hlt]; rfl
   have e6:=w6 (c:=6) (a:=b) (e:=EE (PA p (EA (i%6))) (PA p (EB (i%6)))) (by decide) (by omega) (by omega)
   refine Aa.Kl hsg ?_
   refine Aa.congr (fun K k=>?_) hR
   show Gy (Da.f (w64 ((w64 (((6:Nat):Int)*(b:Int)))+_)) _ _ _ _ _ _) _=_
   rw [e6,e1]
   show (if _ then _ else _)=_
   rw [if_pos e3]
theorem Aax {sg0:List Int} {i0:Nat} {st:O1} (h:Sr ts (6*ts.length) C sg0 i0 st) {qi:Nat} (hq:qi<st.2.1.length) {i:Nat} (hi:st.2.1.getD qi 0=i) {rev0 rev:List (Int × Bool)} (hr:Xf rev0 rev (C.getD i0 0) st.2.2) :
  ∃ rev',Xf rev0 rev' (C.getD i0 0) (M7 ts i st 4).2.2∧Ab (fun K=>Ag.f K ts (i:Int) st.1 (ints st.2.1) (qi:Int) rev C) ((M7 ts i st 4).1,ints (M7 ts i st 4).2.1,rev'):=by
 have him:i∈st.2.1:=by rw [← hi,List.getD_eq_getElem?_getD,List.getElem?_eq_getElem hq]; exact List.getElem_mem hq
 have he:i%6<6:=by omega
 obtain ⟨q1,q2,q3⟩:=EAB he
 obtain ⟨f,g,ho,hf,hg,a1,a2,b1,b2⟩:=bL he
 obtain ⟨s1,_,_,r,e⟩:=h.Lx hv hCl hC him hf
 have hq':qi<(Lx ts i f st).2.1.length:=by rw [e,List.length_append]; omega
 have hi':(Lx ts i f st).2.1.getD qi 0=i:=by rw [e,List.getD_eq_getElem?_getD,List.getElem?_append_left hq,← List.getD_eq_getElem?_getD]; exact hi
 obtain ⟨rev1,g1,c1⟩:=dI hv hCl hC h hq hi (l:=[f,g]) (x:=0) (f:=f) (by simp) (by simp) rfl hf a1 a2 hr
 obtain ⟨rev2,g2,c2⟩:=dI hv hCl hC s1 hq' hi' (l:=[f,g]) (x:=1) (f:=g) (by simp) (by simp) rfl hg b1 b2 g1
 rw [jF ts i st ho]
 refine ⟨rev2,g2,Ab.Dw (a:=(EA (i%6):Int)) (b:=(EB (i%6):Int)) ?_ (Ab.bind (a:=ints (OT [EA (i%6),EB (i%6)])) (Wl (by omega) q2 (by omega)) ?_)⟩
 ·rw [mO]; exact Xk he
 ·rw [ho]
  refine (c1 _ (c2 _ (Aa.of fun K k=>?_))).Gz
  rw [Ag.l1,if_neg (by simp [ints])]
end
section
variable {ts:List (List Am)} (hv:Val ts) {C:List Int} (hCl:C.length=6*ts.length) (hC:∀ i f j fl,i<6*ts.length→f<4→nbr ts i f=some (j,fl)→j<6*ts.length∧C.getD j 0=C.getD i 0)
include hv hCl hC
theorem Sr.M7 {sg0:List Int} {i0:Nat} {st:O1} (h:Sr ts (6*ts.length) C sg0 i0 st) {i:Nat} (hi:i∈st.2.1):∀ {m:Nat},m≤4 →
  Sr ts (6*ts.length) C sg0 i0 (M7 ts i st m)∧(∀ j,j<6*ts.length→st.1.getD j 0≠0→(Go.Proofs.YtgkgmhkgahalgaaGreat.M7 ts i st m).1.getD j 0≠0)∧(∀ f,f<m→∀ j fl,nbr ts i f=some (j,fl)→(Go.Proofs.YtgkgmhkgahalgaaGreat.M7 ts i st m).1.getD j 0≠0)∧∃ r,(Go.Proofs.YtgkgmhkgahalgaaGreat.M7 ts i st m).2.1=st.2.1++r
 |0,_=>⟨h,fun j _ hj=>hj,fun f hf=>by omega,[],by simp [Go.Proofs.YtgkgmhkgahalgaaGreat.M7]⟩
 |m+1,hm=>by
  obtain ⟨h1,h2,h3,r,h4⟩:=Sr.M7 h hi (m:=m) (by omega)
  obtain ⟨g1,g2,g3,r',g4⟩:=h1.Lx hv hCl hC (i:=i) (f:=m) (by rw [h4]; exact List.mem_append_left _ hi) (by omega)
  refine ⟨g1,fun j hj hn=>g2 j hj (h2 j hj hn),fun f hf j fl hn=>?_,r++r',by rw [Go.Proofs.YtgkgmhkgahalgaaGreat.M7,g4,h4,List.append_assoc]⟩
  by_cases e:f=m
  ·subst e; exact g3 j fl hn
  ·have hiN:=(h.inn i hi).1
   exact g2 j (hC i f j fl hiN (by omega) hn).1 (h3 f (by omega) j fl hn)
theorem nX {sg0:List Int} {i0:Nat} {st:O1} (h:Sr ts (6*ts.length) C sg0 i0 st) {rv:List Bool} {q1:List Nat} {qi:Nat} (hq:qi<q1.length) {i:Nat} (hi:q1.getD qi 0=i) {r:List Nat} (hr:st.2.1=q1++r) {f:Nat} (hf:f<4):∀ R,
  Aa (fun K k=>Ai.l74 K k ts (ts.length:Int) rv (i0:Int) (ints q1) (qi:Int) (EA (i%6):Int) (EB (i%6):Int) (Lx ts i f st).1 (ints (Lx ts i f st).2.1) (Lx ts i f st).2.2 ((f+1:Nat):Int)) R →
  Aa (fun K k=>Ai.l74 K k ts (ts.length:Int) rv (i0:Int) (ints q1) (qi:Int) (EA (i%6):Int) (EB (i%6):Int) st.1 (ints st.2.1) st.2.2 (f:Int)) R:=by
 intro R hR
 have h8:=hv.le
 have hql:=h.bZ
 have hq':qi<st.2.1.length:=by rw [hr,List.length_append]; omega
 have hi':st.2.1.getD qi 0=i:=by rw [hr,List.getD_eq_getElem?_getD,List.getElem?_append_left hq,← List.getD_eq_getElem?_getD]; exact hi
 have him:i∈st.2.1:=by rw [← hi',List.getD_eq_getElem?_getD,List.getElem?_eq_getElem hq']; exact List.getElem_mem hq'
 obtain ⟨hiN,hic⟩:=h.inn i him
 have hl:=h.len
 have ha:i/6<ts.length:=by omega
 have he:i%6<6:=by omega
 have h4:=hv.four (i/6) ha
 obtain ⟨q1',q2,q3⟩:=EAB he
 have hqv:(ints q1).getD qi 0=(i:Int):=by rw [K3 hq,hi]
 have hqv':(ints st.2.1).getD qi 0=(i:Int):=by rw [K3 hq',hi']
 have hw:w64 ((i:Int).tdiv 6)=((i/6:Nat):Int):=by rw [iH,E9 (by omega) (by omega)]
 rcases Jm hv ha hf with ⟨g1,g2⟩|⟨g1,b,p,hb,hp,g2,g3⟩
 ·have hs:Lx ts i f st=st:=by
   unfold Go.Proofs.YtgkgmhkgahalgaaGreat.Lx nbr
   by_cases hc:EA (i%6)=f∨EB (i%6)=f
   ·rw [if_pos hc]
   ·rw [if_neg hc,if_pos g1]
  rw [hs] at hR
  have hfx2:(ts.getD (i/6) []).getD f Eo=⟨-1,0⟩:=g2
  refine Aa.step (fun K k=>?_) hR
  rw [Ai.l74,if_pos (by omega),Int.toNat_natCast,hqv,hw,Int.toNat_natCast,if_pos (by omega),Int.toNat_natCast,if_pos (by omega),Ho,hfx2,if_pos (by decide),Aj (by omega)]
 ·have hfx2:(ts.getD (i/6) []).getD f Eo=⟨b,p⟩:=g2
  by_cases hc:EA (i%6)=f∨EB (i%6)=f
  ·have hs:Lx ts i f st=st:=Y9 hc
   rw [hs] at hR
   refine Aa.step (fun K k=>?_) hR
   rw [Ai.l74,if_pos (by omega),Int.toNat_natCast,hqv,hw,Int.toNat_natCast,if_pos (by omega),Int.toNat_natCast,if_pos (by omega),Ho,hfx2,if_neg (by show ¬ (b:Int)<0; omega),Aj (by omega)]
   by_cases e1:EA (i%6)=f
   ·rw [if_pos (by omega)]
   ·rw [if_neg (by omega),if_pos (by omega)]
  ·have c1:EA (i%6)≠f:=fun e=>hc (.inl e)
   have c2:EB (i%6)≠f:=fun e=>hc (.inr e)
   obtain ⟨p1,p2,p3,p4⟩:=N8 hp he
   have hn:nbr ts i f=some (6*b+EE (PA p (EA (i%6))) (PA p (EB (i%6))),decide (PA p (EB (i%6))<PA p (EA (i%6)))):=by
    have:=Oj hv (a:=i/6) he c1 c2 g2
    rwa [show 6*(i/6)+i%6=i by omega] at this
   have hs:Lx ts i f st=stp i st (6*b+EE (PA p (EA (i%6))) (PA p (EB (i%6))),decide (PA p (EB (i%6))<PA p (EA (i%6)))):=by unfold Go.Proofs.YtgkgmhkgahalgaaGreat.Lx; rw [hn]
   obtain ⟨k1,k2⟩:=hC i f _ _ hiN hf hn
   rw [hs] at hR
   have hvi:=h.val i hiN
   obtain ⟨j,hj⟩:∃ j,j=6*b+EE (PA p (EA (i%6))) (PA p (EB (i%6))):=⟨_,rfl⟩
   obtain ⟨fl,hfl⟩:∃ fl,fl=decide (PA p (EB (i%6))<PA p (EA (i%6))):=⟨_,rfl⟩
   obtain ⟨wt,hwt⟩:∃ wt,wt=bif fl then - st.1.getD i 0 else st.1.getD i 0:=⟨_,rfl⟩
   rw [← hj] at k1
   rw [← hj,← hfl] at hR
   have e6:w64 ((w64 (6*(b:Int)))+((EE (PA p (EA (i%6))) (PA p (EB (i%6))):Nat):Int))=(j:Int):=by
    have:=w6 (c:=6) (a:=b) (e:=EE (PA p (EA (i%6))) (PA p (EB (i%6)))) (by decide) (by omega) (by omega)
    rw [hj]; exact this
   have hwant:(if ((PA p (EB (i%6)):Nat):Int)<((PA p (EA (i%6)):Nat):Int) then w64 (0 - (st.1.getD i 0)) else st.1.getD i 0)=wt:=by
    rw [hwt,hfl]
    by_cases hlt:PA p (EB (i%6))<PA p (EA (i%6))
    ·rw [if_pos (by omega),decide_eq_true hlt,E9 (by omega) (by omega)]; show _ = - st.1.getD i 0; omega
    ·rw [if_neg (by omega),decide_eq_false hlt]; rfl
   have j80:∀ (sg':List Int) (q':List Int) (bad':Bool),sg'.length=6*ts.length→(bif st.2.2 then true else !decide (sg'.getD j 0=wt))=bad'→Aa (fun K k=>Ai.l74 K k ts (ts.length:Int) rv (i0:Int) (ints q1) (qi:Int) (EA (i%6):Int) (EB (i%6):Int) sg' q' bad' ((f+1:Nat):Int)) R →
     Aa (fun K k=>Ai.j80 K k ts (ts.length:Int) rv (i0:Int) (ints q1) (qi:Int) (EA (i%6):Int) (EB (i%6):Int) st.2.2 (f:Int) ⟨b,p⟩ ((EE (PA p (EA (i%6))) (PA p (EB (i%6))):Nat):Int) wt sg' q') R:=fun sg' q' bad' hl' hb' ht=>by
    refine Aa.step (fun K k=>?_) ht
    rw [Ai.j80,e6,Int.toNat_natCast,Aj (by omega),← hb']
    cases st.2.2 with
    |true=>rw [if_pos rfl]; rfl
    |false=>rw [if_neg (by decide),if_pos (by omega)]; rfl
   have j79:Aa (fun K k=>Ai.j79 K k ts (ts.length:Int) rv (i0:Int) (ints q1) (qi:Int) (EA (i%6):Int) (EB (i%6):Int) st.1 (ints st.2.1) st.2.2 (f:Int) ⟨b,p⟩ ((EE (PA p (EA (i%6))) (PA p (EB (i%6))):Nat):Int) wt) R:=by
    by_cases h0:st.1.getD j 0=0
    ·have hst:stp i st (j,fl)=(st.1.set j wt,st.2.1++[j],st.2.2):=by unfold stp; simp only []; rw [if_pos h0,hwt]
     rw [hst] at hR
     refine Aa.step (fun K k=>?_) (j80 (st.1.set j wt) (ints st.2.1++[(j:Int)]) st.2.2 (by rw [List.length_set]; exact hl) (by rw [Z4 (by omega),if_pos rfl,decide_eq_true rfl]; cases st.2.2<;>rfl) (by rw [← Pi]; exact hR))
     rw [Ai.j79,e6,if_pos (by omega),Int.toNat_natCast,if_pos h0,if_pos (by rw [Il]; omega)]
    ·have hst:stp i st (j,fl)=(st.1,st.2.1,st.2.2 || !decide (st.1.getD j 0=wt)):=by unfold stp; simp only []; rw [if_neg h0,hwt]
     rw [hst] at hR
     refine Aa.step (fun K k=>?_) (j80 st.1 (ints st.2.1) (st.2.2 || !decide (st.1.getD j 0=wt)) hl (by cases st.2.2<;>rfl) hR)
     rw [Ai.j79,e6,if_pos (by omega),Int.toNat_natCast,if_neg h0]
   refine Aa.step (G:=fun K k=>(Ct.f K (p:Int) (EA (i%6):Int)).bind fun t1847=>(Ct.f K (p:Int) (EB (i%6):Int)).bind fun t1851=>(E8.f K t1847 t1851).bind fun t1855=>if t1851<t1847 then Ai.j79 K k ts (ts.length:Int) rv (i0:Int) (ints q1) (qi:Int) (EA (i%6):Int) (EB (i%6):Int) st.1 (ints st.2.1) st.2.2 (f:Int) ⟨b,p⟩ t1855 (w64 (0 - (st.1.getD i 0))) else Ai.j79 K k ts (ts.length:Int) rv (i0:Int) (ints q1) (qi:Int) (EA (i%6):Int) (EB (i%6):Int) st.1 (ints st.2.1) st.2.2 (f:Int) ⟨b,p⟩ t1855 (st.1.getD i 0)) (fun K k=>?_) (Aa.bind (Py hp (by omega)).two (Aa.bind (Py hp q2).two (Aa.bind (X3 p1 p2 p3).two ?_)))
   ·rw [Ai.l74,if_pos (by omega),Int.toNat_natCast,hqv,hw,Int.toNat_natCast,if_pos (by omega),Int.toNat_natCast,if_pos (by omega),Ho,hfx2,if_neg (by show ¬ (b:Int)<0; omega),if_neg (by omega),if_neg (by omega),hqv',Int.toNat_natCast]
    simp only [Il,hl,show (0≤(qi:Int)∧(qi:Int)<(st.2.1.length:Int)) from ⟨by omega,by omega⟩,show (0≤(i:Int)∧(i:Int)<((6*ts.length:Nat):Int)) from ⟨by omega,by omega⟩,and_self,if_true]
   ·by_cases hlt:((PA p (EB (i%6)):Nat):Int)<((PA p (EA (i%6)):Nat):Int)
    ·rw [if_pos hlt] at hwant
     exact Aa.pos hlt (by rw [hwant]; exact j79)
    ·rw [if_neg hlt] at hwant
     exact Aa.neg hlt (by rw [hwant]; exact j79)
theorem oL {sg0:List Int} {i0:Nat} {st:O1} (h:Sr ts (6*ts.length) C sg0 i0 st) {rv:List Bool} {qi:Nat} (hq:qi<st.2.1.length) {i:Nat} (hi:st.2.1.getD qi 0=i):∀ R,
  Aa (fun K k=>Ai.l57 K k ts (ts.length:Int) rv (i0:Int) (M7 ts i st 4).1 (ints (M7 ts i st 4).2.1) (M7 ts i st 4).2.2 ((qi+1:Nat):Int)) R →
  Aa (fun K k=>Ai.l74 K k ts (ts.length:Int) rv (i0:Int) (ints st.2.1) (qi:Int) (EA (i%6):Int) (EB (i%6):Int) st.1 (ints st.2.1) st.2.2 0) R:=by
 intro R hR
 have hql:=h.bZ
 have h8:=hv.le
 have him:i∈st.2.1:=by rw [← hi,List.getD_eq_getElem?_getD,List.getElem?_eq_getElem hq]; exact List.getElem_mem hq
 have key:∀ m,m≤4→Aa (fun K k=>Ai.l74 K k ts (ts.length:Int) rv (i0:Int) (ints st.2.1) (qi:Int) (EA (i%6):Int) (EB (i%6):Int) (M7 ts i st m).1 (ints (M7 ts i st m).2.1) (M7 ts i st m).2.2 (m:Int)) R→Aa (fun K k=>Ai.l74 K k ts (ts.length:Int) rv (i0:Int) (ints st.2.1) (qi:Int) (EA (i%6):Int) (EB (i%6):Int) st.1 (ints st.2.1) st.2.2 0) R:=by
  intro m
  induction m with
  |zero=>intro _ ht; exact ht
  |succ m ih =>
   intro hm ht
   obtain ⟨h1,_,_,r,h4⟩:=h.M7 hv hCl hC him (m:=m) (by omega)
   exact ih (by omega) (nX hv hCl hC h1 hq hi h4 (f:=m) (by omega) R ht)
 refine key 4 (by omega) (Aa.step (fun K k=>?_) hR)
 rw [Ai.l74,if_neg (by decide),Aj (by omega)]
theorem bfs {sg0:List Int} {i0:Nat} {rv:List Bool} {rev0:List (Int × Bool)} (hi0:i0<6*ts.length):∀ (d qi:Nat) (st:O1) (rev:List (Int × Bool)),6*ts.length - qi=d→Sr ts (6*ts.length) C sg0 i0 st→qi≤st.2.1.length→(∀ t,t<qi→∀ f,f<4→∀ j fl,nbr ts (st.2.1.getD t 0) f=some (j,fl)→st.1.getD j 0≠0)→Xf rev0 rev (C.getD i0 0) st.2.2 →
  ∃ st' rev',Sr ts (6*ts.length) C sg0 i0 st'∧(∀ t,t<st'.2.1.length→∀ f,f<4→∀ j fl,nbr ts (st'.2.1.getD t 0) f=some (j,fl)→st'.1.getD j 0≠0)∧Xf rev0 rev' (C.getD i0 0) st'.2.2 ∧
   (∀ R,Aa (fun K k=>Ai.l81 K k ts (ts.length:Int) (i0:Int) st'.1 (ints st'.2.1) st'.2.2 rv 0) R→Aa (fun K k=>Ai.l57 K k ts (ts.length:Int) rv (i0:Int) st.1 (ints st.2.1) st.2.2 (qi:Int)) R) ∧
   (∀ R,Aa (fun K k=>Ah.l1 K k ts (ts.length:Int) C st'.1 rev' ((i0+1:Nat):Int)) R→Aa (fun K k=>Ah.l6 K k ts (ts.length:Int) C (i0:Int) st.1 rev (ints st.2.1) (qi:Int)) R):=by
 intro d
 have h8:=hv.le
 induction d with
 |zero =>
  intro qi st rev hd h hq hp hr
  have hql:=h.bZ
  have:qi=st.2.1.length:=by omega
  refine ⟨st,rev,h,by rw [← this]; exact hp,hr,fun R hR=>Aa.step (fun K k=>?_) hR,fun R hR=>Aa.step (fun K k=>?_) hR⟩
  ·rw [Ai.l57,if_neg (by rw [Il]; omega)]
  ·rw [Ah.l6,if_neg (by rw [Il]; omega),Aj (by omega)]
 |succ d ih =>
  intro qi st rev hd h hq hp hr
  have hql:=h.bZ
  by_cases hlt:qi<st.2.1.length
  ·obtain ⟨i,hi⟩:∃ i,st.2.1.getD qi 0=i:=⟨_,rfl⟩
   have him:i∈st.2.1:=by rw [← hi,List.getD_eq_getElem?_getD,List.getElem?_eq_getElem hlt]; exact List.getElem_mem hlt
   obtain ⟨h1,h2,h3,r,h4⟩:=h.M7 hv hCl hC him (m:=4) (Nat.le_refl _)
   obtain ⟨rev1,g1,t1⟩:=Aax hv hCl hC h hlt hi hr
   have hg:∀ t,t<st.2.1.length→(M7 ts i st 4).2.1.getD t 0=st.2.1.getD t 0:=fun t ht=>by rw [h4,List.getD_eq_getElem?_getD,List.getElem?_append_left ht,← List.getD_eq_getElem?_getD]
   obtain ⟨st',rev',k1,k2,k3,k4,k5⟩:=ih (qi+1) (M7 ts i st 4) rev1 (by omega) h1 (by rw [h4,List.length_append]; omega) (fun t ht f hf j fl hn=>by
    rw [hg t (by omega)] at hn
    by_cases e:t=qi
    ·rw [e,hi] at hn; exact h3 f hf j fl hn
    ·have hm:st.2.1.getD t 0∈st.2.1:=by rw [List.getD_eq_getElem?_getD,List.getElem?_eq_getElem (by omega:t<st.2.1.length)]; exact List.getElem_mem _
     exact h2 j (hC _ f j fl (h.inn _ hm).1 hf hn).1 (hp t (by omega) f hf j fl hn)) g1
   refine ⟨st',rev',k1,k2,k3,fun R hR=>?_,fun R hR=>?_⟩
   ·refine Aa.step (fun K k=>?_) (oL hv hCl hC h hlt hi R (k4 R hR))
    rw [Ai.l57,if_pos (by rw [Il]; omega),if_pos (by rw [Il]; omega),Int.toNat_natCast,K3 hlt,hi,mO,P7 (by omega)]
    rfl
   ·refine Aa.step (fun K k=>?_) (Aa.Gy (F:=fun K _=>Ag.f K ts (i:Int) st.1 (ints st.2.1) (qi:Int) rev C) (G:=fun K k t259 t260 t261=>if t259.length=st.1.length then Ah.l6 K k ts (ts.length:Int) C (i0:Int) t259 t261 t260 ((qi+1:Nat):Int) else none) t1.two (Aa.pos (by rw [h1.len,h.len]) (k5 R hR)))
    rw [Ah.l6,if_pos (by rw [Il]; omega),if_pos (by rw [Il]; omega),Int.toNat_natCast,K3 hlt,hi,Aj (by omega)]
  ·have:qi=st.2.1.length:=by omega
   refine ⟨st,rev,h,by rw [← this]; exact hp,hr,fun R hR=>Aa.step (fun K k=>?_) hR,fun R hR=>Aa.step (fun K k=>?_) hR⟩
   ·rw [Ai.l57,if_neg (by rw [Il]; omega)]
   ·rw [Ah.l6,if_neg (by rw [Il]; omega),Aj (by omega)]
end
theorem R7 {l:List Bool} {i j:Nat} {v:Bool} (hi:i<l.length):(l.set i v).getD j false=if i=j then v else l.getD j false:=by
 rw [List.getD_eq_getElem?_getD]
 by_cases h:i=j
 ·subst h; rw [List.getElem?_set_self hi,if_pos rfl]; rfl
 ·rw [List.getElem?_set_ne h,if_neg h,List.getD_eq_getElem?_getD]
theorem Ng {l l':List Int} {n:Nat} (h:l.length=n) (h':l'.length=n) (e:∀ i,i<n→l.getD i 0=l'.getD i 0):l=l':=by
 apply List.ext_getElem?
 intro i
 by_cases hi:i<n
 ·rw [getD_some (d:=0) (by omega:i<l.length),getD_some (d:=0) (by omega:i<l'.length),e i hi]
 ·rw [List.getElem?_eq_none (by omega),List.getElem?_eq_none (by omega)]
structure Out (N:Nat) (C sg:List Int) (rv:List Bool) (rev:List (Int × Bool)):Prop where
 len:sg.length=N
 uQ:rv.length=N
 sat:∀ i j,i<N→j<N→C.getD i 0=C.getD j 0→sg.getD i 0≠0→sg.getD j 0≠0
 val:∀ j,j<N→sg.getD j 0=0∨sg.getD j 0=1∨sg.getD j 0 = -1
 yes:∀ j,j<N→sg.getD j 0≠0→rv.getD j false=(Mi rev (C.getD j 0)).getD false
 no:∀ j,j<N→sg.getD j 0=0→Mi rev (C.getD j 0)=none
section
variable {ts:List (List Am)} (hv:Val ts) {s:List Int} (hP:Hq (6*ts.length) (JE ts) s)
include hv hP
theorem iM:∀ i f j fl,i<6*ts.length→f<4→nbr ts i f=some (j,fl)→j<6*ts.length∧(CN (6*ts.length) s).getD j 0=(CN (6*ts.length) s).getD i 0:=fun i f j fl hi hf h=>by
 have hm:=wF hv hi hf h
 have hj:=(hP.inn _ hm).2
 exact ⟨hj,((L9 _ s).same j i hj hi (hP.one _ hm).symm)⟩
theorem iV {sg:List Int} {bad:Bool} {i0:Nat} {R:List (List Int)} {q:List Nat} (hq:∀ j,j∈q→j<6*ts.length) (hql:q.length≤100) (hi0:i0<6*ts.length) {rv0:List Bool}:∀ (d t:Nat) (rv:List Bool),q.length - t=d→t≤q.length→rv.length=6*ts.length→(∀ j,rv.getD j false=if j∈q.take t then bad else rv0.getD j false) →
  ∃ rv',rv'.length=6*ts.length∧(∀ j,rv'.getD j false=if j∈q then bad else rv0.getD j false)∧(Aa (fun K k=>Ai.l1 K k ts (ts.length:Int) sg rv' ((i0+1:Nat):Int)) R→Aa (fun K k=>Ai.l81 K k ts (ts.length:Int) (i0:Int) sg (ints q) bad rv (t:Int)) R)
 |0,t,rv,hd,ht,hl,hr=>by
  have h8:=hv.le
  obtain rfl:t=q.length:=by omega
  refine ⟨rv,hl,by rw [List.take_length] at hr; exact hr,fun hR=>Aa.step (fun K k=>?_) hR⟩
  rw [Ai.l81,if_neg (by rw [Il]; omega),Aj (by omega)]
 |d+1,t,rv,hd,ht,hl,hr=>by
  have hlt:t<q.length:=by omega
  have hm:q.getD t 0∈q:=by rw [List.getD_eq_getElem?_getD,List.getElem?_eq_getElem hlt]; exact List.getElem_mem hlt
  have hb:=hq _ hm
  obtain ⟨rv',h1,h2,h3⟩:=iV hq hql hi0 (rv0:=rv0) d (t+1) (rv.set (q.getD t 0) bad) (by omega) (by omega) (by rw [List.length_set]; exact hl) (fun j=>by
   rw [R7 (by omega),hr j,List.take_add_one,List.getElem?_eq_getElem hlt]
   simp only [Option.toList_some,List.mem_append,List.mem_singleton]
   have e:q[t]=q.getD t 0:=by rw [List.getD_eq_getElem?_getD,List.getElem?_eq_getElem hlt]; rfl
   rw [e]
   by_cases h4:q.getD t 0=j
   ·rw [if_pos h4,if_pos (.inr h4.symm)]
   ·rw [if_neg h4]
    by_cases h5:j∈q.take t
    ·rw [if_pos h5,if_pos (.inl h5)]
    ·rw [if_neg h5,if_neg (by rintro (h6 | h6); exact h5 h6; exact h4 h6.symm)])
  refine ⟨rv',h1,h2,fun hR=>Aa.step (fun K k=>?_) (h3 hR)⟩
  rw [Ai.l81,if_pos (by rw [Il]; omega),if_pos (by rw [Il]; omega),Int.toNat_natCast,K3 hlt,Int.toNat_natCast,if_pos (by omega),Aj (by omega)]
theorem outer:∀ (d x:Nat) (sg:List Int) (rv:List Bool) (rev:List (Int × Bool)),6*ts.length - x=d→x≤6*ts.length→Out (6*ts.length) (CN (6*ts.length) s) sg rv rev→(∀ j,j<x→sg.getD j 0≠0) →
  ∃ sg' rv' rev',Out (6*ts.length) (CN (6*ts.length) s) sg' rv' rev'∧(∀ j,j<6*ts.length→sg'.getD j 0≠0) ∧
   (∀ R,Aa (fun K k=>Ai.l82 K k (ts.length:Int) sg' rv' [] 0) R→Aa (fun K k=>Ai.l1 K k ts (ts.length:Int) sg rv (x:Int)) R) ∧
   (∀ R,Aa (fun K k=>Ah.l7 K k (CN (6*ts.length) s) sg' rev' sg' 0) R→Aa (fun K k=>Ah.l1 K k ts (ts.length:Int) (CN (6*ts.length) s) sg rev (x:Int)) R)
 |0,x,sg,rv,rev,hd,hx,h,hs=>by
  have h8:=hv.le
  obtain rfl:x=6*ts.length:=by omega
  have e6:w64 (6*(ts.length:Int))=((6*ts.length:Nat):Int):=w6' (c:=6) (by decide) (by omega)
  refine ⟨sg,rv,rev,h,hs,fun R hR=>Aa.step (fun K k=>?_) hR,fun R hR=>Aa.step (fun K k=>?_) hR⟩
  ·rw [Ai.l1,e6,if_neg (by omega)]
  ·rw [Ah.l1,e6,if_neg (by omega)]
 |d+1,x,sg,rv,rev,hd,hx,h,hs=>by
  have h8:=hv.le
  have hlt:x<6*ts.length:=by omega
  have e6:w64 (6*(ts.length:Int))=((6*ts.length:Nat):Int):=w6' (c:=6) (by decide) (by omega)
  have hl:=h.len
  by_cases h0:sg.getD x 0=0
  ·have hC:=iM hv hP
   have hCl:=Nl (6*ts.length) s
   have hsr:Sr ts (6*ts.length) (CN (6*ts.length) s) sg x (sg.set x 1,[x],false):=by
    refine ⟨by rw [List.length_set]; exact hl,⟨rfl,by show 0<1; decide⟩,fun j hj=>?_,by simp,fun j hj=>?_,fun j hj=>?_⟩
    ·rw [List.mem_singleton.1 hj]; exact ⟨hlt,rfl⟩
    ·show (sg.set x 1).getD j 0≠0↔(j∈[x]∨_)
     rw [Z4 (by omega),List.mem_singleton]
     by_cases e:x=j
     ·rw [if_pos e]; exact ⟨fun _=>.inl e.symm,fun _=>by decide⟩
     ·rw [if_neg e]; exact ⟨fun h=>.inr h,fun h=>h.elim (fun e'=>absurd e'.symm e) id⟩
    ·show (sg.set x 1).getD j 0=0∨_
     rw [Z4 (by omega)]
     by_cases e:x=j
     ·rw [if_pos e]; exact .inr (.inl rfl)
     ·rw [if_neg e]; exact h.val j hj
   obtain ⟨st',rev',k1,k2,k3,k4,k5⟩:=bfs hv hCl hC (rv:=rv) (rev0:=rev) hlt (6*ts.length) 0 (sg.set x 1,[x],false) rev (by omega) hsr (by show 0≤1; decide) (fun t ht=>by omega) ⟨fun c' _=>rfl,h.no x hlt h0⟩
   have hxq:x∈st'.2.1:=by
    have:=k1.head
    rw [← this.1,List.getD_eq_getElem?_getD,List.getElem?_eq_getElem this.2]; exact List.getElem_mem _
   -- the whole class is found
   have clos:∀ i k f fl,f<4→i∈st'.2.1→nbr ts i f=some (k,fl)→k∈st'.2.1:=fun i k f fl hf hi hn=>by
    obtain ⟨t,ht,he⟩:=List.getElem_of_mem hi
    have hg:st'.2.1.getD t 0=i:=by rw [List.getD_eq_getElem?_getD,List.getElem?_eq_getElem ht,he]; rfl
    obtain ⟨hk,hkc⟩:=hC i f k fl (k1.inn i hi).1 hf hn
    rcases (k1.sgn k hk).1 (k2 t ht f hf k fl (by rw [hg]; exact hn)) with h5 | h5
    ·exact h5
    ·exact absurd h0 (h.sat k x hk hlt (hkc.trans (k1.inn i hi).2) h5)
   have hQ:∀ p,p∈JE ts→(p.1∈st'.2.1↔p.2∈st'.2.1):=fun p hp=>by
    obtain ⟨hi,f,fl,hf,hn⟩:=uE hv (i:=p.1) (j:=p.2) hp
    constructor
    ·exact fun h6=>clos p.1 p.2 f fl hf h6 hn
    ·intro h6
     obtain ⟨f',fl',hf',hn'⟩:=lN hv hi hf hn
     exact clos p.2 p.1 f' fl' hf' h6 hn'
   have full:∀ j,j<6*ts.length→(CN (6*ts.length) s).getD j 0=(CN (6*ts.length) s).getD x 0→j∈st'.2.1:=fun j hj he =>
    (hP.min (fun m=>m∈st'.2.1) hQ j x hj hlt ((L9 _ s).inj hj hlt he)).2 hxq
   obtain ⟨rv',r1,r2,r3⟩:=iV hv hP (sg:=st'.1) (bad:=st'.2.2) (i0:=x) (R:=[]) (q:=st'.2.1) (fun j hj=>(k1.inn j hj).1) (by have:=k1.bZ; omega) hlt (rv0:=rv) st'.2.1.length 0 rv (by omega) (by omega) h.uQ (fun j=>by simp)
   have ho:Out (6*ts.length) (CN (6*ts.length) s) st'.1 rv' rev':=by
    refine ⟨k1.len,r1,fun i j hi hj he hn=>?_,k1.val,fun j hj hn=>?_,fun j hj hz=>?_⟩
    ·rcases (k1.sgn i hi).1 hn with h5 | h5
     ·exact (k1.sgn j hj).2 (.inl (full j hj (he.symm.trans (k1.inn i h5).2)))
     ·exact (k1.sgn j hj).2 (.inr (h.sat i j hi hj he h5))
    ·rw [r2 j]
     by_cases h5:j∈st'.2.1
     ·rw [if_pos h5,(k1.inn j h5).2,k3.2]
      cases st'.2.2<;>rfl
     ·rw [if_neg h5]
      have h6:sg.getD j 0≠0:=((k1.sgn j hj).1 hn).resolve_left h5
      rw [h.yes j hj h6,k3.1 _ (fun e=>h5 (full j hj e))]
    ·have h5:j ∉ st'.2.1:=fun e=>(k1.sgn j hj).2 (.inl e) hz
     have h6:sg.getD j 0=0:=Classical.byContradiction fun e=>(k1.sgn j hj).2 (.inr e) hz
     rw [k3.1 _ (fun e=>h5 (full j hj e))]
     exact h.no j hj h6
   obtain ⟨sg',rv'',rev'',o1,o2,o3,o4⟩:=outer d (x+1) st'.1 rv' rev' (by omega) (by omega) ho (fun j hj=>by
    by_cases e:j=x
    ·subst e; exact (k1.sgn j hlt).2 (.inl hxq)
    ·exact (k1.sgn j (by omega)).2 (.inr (hs j (by omega))))
   refine ⟨sg',rv'',rev'',o1,o2,fun R hR=>?_,fun R hR=>?_⟩
   ·obtain ⟨rv3,u1,u2,u3⟩:=iV hv hP (sg:=st'.1) (bad:=st'.2.2) (i0:=x) (R:=R) (q:=st'.2.1) (fun j hj=>(k1.inn j hj).1) (by have:=k1.bZ; omega) hlt (rv0:=rv) st'.2.1.length 0 rv (by omega) (by omega) h.uQ (fun j=>by simp)
    have e3:rv3=rv':=by
     apply List.ext_getElem?
     intro j
     by_cases hj:j<6*ts.length
     ·rw [getD_some (d:=false) (by omega:j<rv3.length),getD_some (d:=false) (by omega:j<rv'.length),u2 j,r2 j]
     ·rw [List.getElem?_eq_none (by omega),List.getElem?_eq_none (by omega)]
    rw [e3] at u3
    refine Aa.step (fun K k=>?_) (k4 R (u3 (o3 R hR)))
    rw [Ai.l1,e6,if_pos (by omega),if_pos (by omega),Int.toNat_natCast,if_pos h0]
    rfl
   ·refine Aa.step (fun K k=>?_) (k5 R (o4 R hR))
    rw [Ah.l1,e6,if_pos (by omega),if_pos (by omega),Int.toNat_natCast,if_pos h0]
    rfl
  ·obtain ⟨sg',rv'',rev'',o1,o2,o3,o4⟩:=outer d (x+1) sg rv rev (by omega) (by omega) h (fun j hj=>by
    by_cases e:j=x
    ·subst e; exact h0
    ·exact hs j (by omega))
   refine ⟨sg',rv'',rev'',o1,o2,fun R hR=>Aa.step (fun K k=>?_) (o3 R hR),fun R hR=>Aa.step (fun K k=>?_) (o4 R hR)⟩
   ·rw [Ai.l1,e6,if_pos (by omega),if_pos (by omega),Int.toNat_natCast,if_neg h0,Aj (by omega)]
   ·rw [Ah.l1,e6,if_pos (by omega),if_pos (by omega),Int.toNat_natCast,if_neg h0,Aj (by omega)]
def sgF (C sg:List Int) (rev:List (Int × Bool)) (i:Nat):Int:=if (Mi rev (C.getD i 0)).getD false=true then 0 else sg.getD i 0
theorem tO {C sg:List Int} {rev:List (Int × Bool)} {N:Nat} (hN:N≤100) (hl:sg.length=N) (hCl:C.length=N):∀ (d x:Nat) (o:List Int),N - x=d→x≤N→o.length=N→(∀ j,j<N→o.getD j 0=if j<x then sgF C sg rev j else sg.getD j 0) →
  Aa (fun K k=>Ah.l7 K k C sg rev o (x:Int)) ((List.range N).map (sgF C sg rev))
 |0,x,o,hd,hx,ho,h=>by
  obtain rfl:x=N:=by omega
  have:o=(List.range x).map (sgF C sg rev):=Ng ho (by simp) (fun i hi=>by
   rw [h i hi,if_pos hi,List.getD_eq_getElem?_getD,List.getElem?_map,List.getElem?_range hi]; rfl)
  rw [← this]
  refine Aa.of fun K k=>?_
  rw [Ah.l7,if_neg (by omega)]
 |d+1,x,o,hd,hx,ho,h=>by
  by_cases hc:(Mi rev (C.getD x 0)).getD false=true
  ·refine Aa.step (fun K k=>?_) (tO hN hl hCl d (x+1) (o.set x 0) (by omega) (by omega) (by rw [List.length_set]; exact ho) (fun j hj=>?_))
   ·rw [Ah.l7,if_pos (by omega),if_pos (by omega),Int.toNat_natCast,if_pos hc,if_pos (by omega),Aj (by omega)]
   ·rw [Z4 (by omega),h j hj]
    by_cases e:x=j
    ·subst e; rw [if_pos rfl,if_pos (by omega),sgF,if_pos hc]
    ·rw [if_neg e]
     by_cases h2:j<x
     ·rw [if_pos h2,if_pos (by omega)]
     ·rw [if_neg h2,if_neg (by omega)]
  ·refine Aa.step (fun K k=>?_) (tO hN hl hCl d (x+1) o (by omega) (by omega) ho (fun j hj=>?_))
   ·rw [Ah.l7,if_pos (by omega),if_pos (by omega),Int.toNat_natCast,if_neg hc,Aj (by omega)]
   ·rw [h j hj]
    by_cases e:j=x
    ·subst e; rw [if_neg (by omega),if_pos (by omega),sgF,if_neg hc]
    ·by_cases h2:j<x
     ·rw [if_pos h2,if_pos (by omega)]
     ·rw [if_neg h2,if_neg (by omega)]
theorem qX {C sg:List Int} {rv:List Bool} {rev:List (Int × Bool)} (hl:sg.length=6*ts.length) (hrl:rv.length=6*ts.length) (hy:∀ j,j<6*ts.length→rv.getD j false=(Mi rev (C.getD j 0)).getD false) {out:List (List Int)} (ho:out.length≤100) {a:Nat} (ha:a<ts.length) {R:List (List Int)}
  (hR:Aa (fun K k=>Ai.l82 K k (ts.length:Int) sg rv (out++[rowAt ((List.range (6*ts.length)).map (sgF C sg rev)) 6 a]) ((6*(a+1):Nat):Int)) R):∀ (d e:Nat),6 - e=d→e≤6 →
  Aa (fun K k=>Ai.l85 K k (ts.length:Int) sg rv out ((6*a:Nat):Int) ((List.range e).map fun e=>((List.range (6*ts.length)).map (sgF C sg rev)).getD (6*a+e) 0) ((6*a+e:Nat):Int)) R
 |0,e,hd,he=>by
  have h8:=hv.le
  obtain rfl:e=6:=by omega
  have h1:w64 (((6*a:Nat):Int)+6)=((6*(a+1):Nat):Int):=by rw [E9 (by omega) (by omega)]; omega
  refine Aa.step (fun K k=>?_) hR
  rw [Ai.l85,h1,if_neg (by omega),if_pos (by omega)]
  rfl
 |d+1,e,hd,he=>by
  have h8:=hv.le
  have hin:6*a+e<6*ts.length:=mul_lt ha (by omega)
  have h1:w64 (((6*a:Nat):Int)+6)=((6*(a+1):Nat):Int):=by rw [E9 (by omega) (by omega)]; omega
  refine Aa.step (fun K k=>?_) (qX hl hrl hy ho ha hR d (e+1) (by omega) (by omega))
  rw [Ai.l85,h1,if_pos (by omega),if_pos (by omega),Int.toNat_natCast,hy _ hin,Aj (by omega),List.range_succ,List.map_append,List.map_singleton]
  have hg:((List.range (6*ts.length)).map (sgF C sg rev)).getD (6*a+e) 0=sgF C sg rev (6*a+e):=by rw [List.getD_eq_getElem?_getD,List.getElem?_map,List.getElem?_range hin]; rfl
  rw [hg]
  unfold sgF
  by_cases hc:(Mi rev (C.getD (6*a+e) 0)).getD false=true
  ·rw [if_pos hc,if_pos hc,if_pos (by rw [List.length_map,List.length_range]; omega)]; rfl
  ·rw [if_neg hc,if_neg hc,if_pos (by omega),if_pos (by rw [List.length_map,List.length_range]; omega)]; rfl
theorem rP {C sg:List Int} {rv:List Bool} {rev:List (Int × Bool)} (hl:sg.length=6*ts.length) (hrl:rv.length=6*ts.length) (hy:∀ j,j<6*ts.length→rv.getD j false=(Mi rev (C.getD j 0)).getD false):∀ (d a:Nat),ts.length - a=d→a≤ts.length →
  Aa (fun K k=>Ai.l82 K k (ts.length:Int) sg rv (rowsOf ((List.range (6*ts.length)).map (sgF C sg rev)) 6 a) ((6*a:Nat):Int)) (rowsOf ((List.range (6*ts.length)).map (sgF C sg rev)) 6 ts.length)
 |0,a,hd,ha=>by
  have h8:=hv.le
  obtain rfl:a=ts.length:=by omega
  have e6:w64 (6*(ts.length:Int))=((6*ts.length:Nat):Int):=w6' (c:=6) (by decide) (by omega)
  refine Aa.of fun K k=>?_
  rw [Ai.l82,e6,if_neg (by omega)]
 |d+1,a,hd,ha=>by
  have h8:=hv.le
  have hlt:a<ts.length:=by omega
  have e6:w64 (6*(ts.length:Int))=((6*ts.length:Nat):Int):=w6' (c:=6) (by decide) (by omega)
  have ih:=rP hl hrl hy d (a+1) (by omega) (by omega)
  have e:rowsOf ((List.range (6*ts.length)).map (sgF C sg rev)) 6 (a+1)=rowsOf ((List.range (6*ts.length)).map (sgF C sg rev)) 6 a++[rowAt ((List.range (6*ts.length)).map (sgF C sg rev)) 6 a]:=by unfold rowsOf; rw [List.range_succ,List.map_append]; rfl
  rw [e] at ih
  have h10:=qX hv hP hl hrl hy (by rw [Gr]; omega) hlt ih 6 0 (by omega) (by omega)
  refine Aa.step (fun K k=>?_) h10
  rw [Ai.l82,e6,if_pos (by omega)]
  rfl
end
theorem iR {x:List Int} (hl:x.length≤100) (hb:∀ i,i<x.length→0≤x.getD i 0∧x.getD i 0<1000):∀ (d i:Nat) (m:Int),x.length - i=d→i≤x.length→0<i→(∃ j,j<i∧x.getD j 0=m)→(∀ j,j<i→x.getD j 0≤m) →
  ∃ m',Aa (fun K k=>Dh.l2 K k x m (i:Int)) m'∧(∃ j,j<x.length∧x.getD j 0=m')∧∀ j,j<x.length→x.getD j 0≤m'
 |0,i,m,hd,hi,h0,h1,h2=>by
  obtain rfl:i=x.length:=by omega
  exact ⟨m,Aa.of fun K k=>by rw [Dh.l2,if_neg (by omega)],h1,h2⟩
 |d+1,i,m,hd,hi,h0,⟨j,hj,he⟩,h2=>by
  have hlt:i<x.length:=by omega
  obtain ⟨m',t,g1,g2⟩:=iR hl hb d (i+1) (if x.getD i 0 > m then x.getD i 0 else m) (by omega) (by omega) (by omega) (by
   by_cases hc:x.getD i 0 > m
   ·rw [if_pos hc]; exact ⟨i,by omega,rfl⟩
   ·rw [if_neg hc]; exact ⟨j,by omega,he⟩) (fun k hk=>by
   by_cases e:k=i
   ·subst e; split<;>omega
   ·have:=h2 k (by omega); split<;>omega)
  refine ⟨m',Aa.step (fun K k=>?_) t,g1,g2⟩
  rw [Dh.l2,if_pos (by omega),if_pos (by omega),Int.toNat_natCast,Aj (by omega)]
section
variable {ts:List (List Am)} (hv:Val ts) {s:List Int} {N:Nat} (hN:N≤100)
include hN
theorem K9 {i:Nat} (hi:i<N):0≤(CN N s).getD i 0∧(CN N s).getD i 0<(Ce s N:Int)∧Ce s N≤N:=⟨((L9 N s).range hi).1,((L9 N s).range hi).2,Jh s N⟩
theorem Tp:Ab (fun K=>Gd.f K (CN N s)) (Ce s N:Int):=by
 have hl:=Nl N s
 have hle:=Jh s N
 by_cases h0:N=0
 ·subst h0
  refine Ab.pos (by rw [hl]; rfl) ?_
  exact Ab.const _
 ·refine Ab.neg (by omega) ?_
  obtain ⟨m',t,⟨j,hj,he⟩,h2⟩:=iR (x:=CN N s) (by omega) (fun i hi=>by have:=K9 (s:=s) hN (i:=i) (by omega); omega) (N - 1) 1 ((CN N s).getD 0 0) (by omega) (by omega) (by omega) ⟨0,by omega,rfl⟩ (fun j hj=>by
   have e:j=0:=by omega
   rw [e]; exact Int.le_refl _)
  have hpos:0<Ce s N:=by
   have:=K9 (s:=s) hN (i:=0) (by omega); omega
  obtain ⟨i,hi,_,hc⟩:=(L9 N s).onto (Nat.le_refl N) (show Ce s N - 1<Ce s N by omega)
  have h3:=h2 i (by omega)
  have h4:=K9 (s:=s) hN (i:=j) (by omega)
  have hm:m'=(Ce s N:Int) - 1:=by omega
  refine Ab.bind (a:=m') (Ab.congr (fun K=>?_) t.Gz) ?_
  ·show Dh.f K (CN N s)=_
   rw [Dh.f,if_neg (by omega),if_pos (by omega)]
   rfl
  ·rw [hm,E9 (by omega) (by omega),show (Ce s N:Int) - 1+1=(Ce s N:Int) by omega]
   exact Ab.const _
theorem jB {Sg:List Int} (hS:Sg.length=N):∀ (d i:Nat) (o:List Bool),N - i=d→i≤N→o.length=Ce s N→(∀ c:Nat,o.getD c false=true→∃ j,j<i∧(CN N s).getD j 0=(c:Int))→(∀ (c:Nat) j,j<i→(CN N s).getD j 0=(c:Int)→∃ j',j'<i∧(CN N s).getD j' 0=(c:Int)∧o.getD c false=decide (Sg.getD j' 0=0)) →
  ∃ o',Aa (fun K k=>Cb.l1 K k (CN N s) Sg o (i:Int)) o'∧o'.length=Ce s N∧∀ j,j<N→∃ j',j'<N∧(CN N s).getD j' 0=(CN N s).getD j 0∧o'.getD ((CN N s).getD j 0).toNat false=decide (Sg.getD j' 0=0)
 |0,i,o,hd,hi,hl,h1,h2=>by
  obtain rfl:i=N:=by omega
  refine ⟨o,Aa.of fun K k=>by rw [Cb.l1,if_neg (by omega)],hl,fun j hj=>?_⟩
  have:=K9 (s:=s) hN hj
  have e:(CN i s).getD j 0=(((CN i s).getD j 0).toNat:Int):=by omega
  obtain ⟨j',a,b,c⟩:=h2 _ j hj e
  exact ⟨j',a,b.trans e.symm,c⟩
 |d+1,i,o,hd,hi,hl,h1,h2=>by
  have hlt:i<N:=by omega
  have hCl:=Nl N s
  have hr:=K9 (s:=s) hN hlt
  obtain ⟨c,hc⟩:∃ c:Nat,(CN N s).getD i 0=(c:Int):=⟨((CN N s).getD i 0).toNat,by omega⟩
  obtain ⟨o',t,g1,g2⟩:=jB hS d (i+1) (o.set c (decide (Sg.getD i 0=0))) (by omega) (by omega) (by rw [List.length_set]; exact hl) (fun c' hc'=>by
   rw [R7 (by omega)] at hc'
   by_cases e:c=c'
   ·exact ⟨i,by omega,by rw [← e]; exact hc⟩
   ·rw [if_neg e] at hc'
    obtain ⟨j,a,b⟩:=h1 c' hc'
    exact ⟨j,by omega,b⟩) (fun c' j hj he=>by
   rw [R7 (by omega)]
   by_cases e:c=c'
   ·exact ⟨i,by omega,by rw [← e]; exact hc,by rw [if_pos e]⟩
   ·rw [if_neg e]
    have hji:j≠i:=fun e2=>e (by rw [e2,hc] at he; omega)
    obtain ⟨j',a,b,c⟩:=h2 c' j (by omega) he
    exact ⟨j',by omega,b,c⟩)
  refine ⟨o',Aa.step (fun K k=>?_) t,g1,g2⟩
  rw [Cb.l1,if_pos (by omega),if_pos (by omega),if_pos (by omega),Int.toNat_natCast,hc,if_pos (by omega),Int.toNat_natCast,Aj (by omega)]
end
def bdE (ts:List (List Am)) (i f:Nat):Prop:=f<4∧EA (i%6)≠f∧EB (i%6)≠f∧(Fg ts (i/6) f).Tet<0
section
variable {ts:List (List Am)} (hv:Val ts) {s:List Int} (hP:Hq (6*ts.length) (JE ts) s) (hc:Ab (fun K=>Co.f K ts) (CN (6*ts.length) s))
include hv hP hc
theorem bE {Sg:List Int} (hS:Sg.length=6*ts.length) (hz:∀ i j,i<6*ts.length→j<6*ts.length→(CN (6*ts.length) s).getD i 0=(CN (6*ts.length) s).getD j 0→(Sg.getD i 0=0↔Sg.getD j 0=0)) (hs:Ab (fun K=>Ah.f K ts) Sg) :
  ∃ o:List Bool,Ab (fun K=>Cb.f K ts) o∧o.length=Ce s (6*ts.length)∧∀ j,j<6*ts.length→o.getD ((CN (6*ts.length) s).getD j 0).toNat false=decide (Sg.getD j 0=0):=by
 have h8:=hv.le
 have hle:=Jh s (6*ts.length)
 have hrep:∀ (m j:Nat),(List.replicate m false).getD j false=false:=fun m j=>by rw [List.getD_eq_getElem?_getD,List.getElem?_replicate]; split<;>rfl
 obtain ⟨o,t,l,h⟩:=jB (s:=s) (N:=6*ts.length) (by omega) hS (6*ts.length) 0 (List.replicate (Ce s (6*ts.length)) false) (by omega) (by omega) (by simp) (fun c hc'=>by rw [hrep] at hc'; cases hc') (fun c j hj=>by omega)
 refine ⟨o,Ab.bind hc (Ab.bind (Tp (by omega)) (Ab.pos (by omega) (Ab.pos (by omega) (Ab.bind hs ?_)))),l,fun j hj=>?_⟩
 ·rw [Int.toNat_natCast]; exact t.Gz
 ·obtain ⟨j',a,b,c⟩:=h j hj
  rw [c]
  exact decide_eq_decide.2 (hz j' j a hj b)
theorem yU {i:Nat} (hi:i<6*ts.length) {f g:Nat} (ho:OT [EA (i%6),EB (i%6)]=[f,g]) {c:Nat} (hci:(CN (6*ts.length) s).getD i 0=(c:Int)) (hcl:c<Ce s (6*ts.length)) {o:List Bool} (hl:o.length=Ce s (6*ts.length)) :
  ∃ o',o'.length=Ce s (6*ts.length)∧(∀ c',c'≠c→o'.getD c' false=o.getD c' false)∧(o'.getD c false=true↔o.getD c false=true∨∃ f,bdE ts i f) ∧
   ∀ R,Aa (fun K k=>Al.l1 K k ts (CN (6*ts.length) s) o' ((i+1:Nat):Int)) R→Aa (fun K k=>Al.l4 K k ts (CN (6*ts.length) s) (i:Int) (ints (OT [EA (i%6),EB (i%6)])) o 0) R:=by
 have h8:=hv.le
 have hle:=Jh s (6*ts.length)
 have he:i%6<6:=by omega
 have hw:w64 ((i:Int).tdiv 6)=((i/6:Nat):Int):=by rw [iH,E9 (by omega) (by omega)]
 have h4:=hv.four (i/6) (by omega)
 obtain ⟨f',g',ho',hf,hg,a1,a2,b1,b2⟩:=bL he
 rw [ho] at ho'
 injection ho' with e1 e2
 injection e2 with e2 _
 subst e1; subst e2
 -- one Fg
 have one:∀ (x y:Nat) (o:List Bool),x<2→[f,g].getD x 0=y→y<4→o.length=Ce s (6*ts.length)→∃ o',o'.length=Ce s (6*ts.length)∧(∀ c',c'≠c→o'.getD c' false=o.getD c' false)∧(o'.getD c false=true↔o.getD c false=true∨(Fg ts (i/6) y).Tet<0) ∧
   ∀ R,Aa (fun K k=>Al.l4 K k ts (CN (6*ts.length) s) (i:Int) (ints [f,g]) o' ((x+1:Nat):Int)) R→Aa (fun K k=>Al.l4 K k ts (CN (6*ts.length) s) (i:Int) (ints [f,g]) o (x:Int)) R:=by
  intro x y o hx hy hy4 hl
  have hxy:(ints [f,g]).getD x 0=(y:Int):=by rw [K3 (by simpa using hx),hy]
  have hlen:(ints [f,g]).length=2:=rfl
  by_cases hc1:o.getD c false=true
  ·refine ⟨o.set c true,by rw [List.length_set]; exact hl,fun c' hc'=>by rw [R7 (by omega),if_neg (fun e=>hc' e.symm)],by rw [R7 (by omega),if_pos rfl]; exact ⟨fun _=>.inl hc1,fun _=>rfl⟩,fun R hR=>Aa.step (fun K k=>?_) hR⟩
   rw [Al.l4,if_pos (by omega),if_pos (by omega),Int.toNat_natCast,hci,if_pos (by omega),Int.toNat_natCast,if_pos hc1,Aj (by omega)]
  ·refine ⟨o.set c (decide ((Fg ts (i/6) y).Tet<0)),by rw [List.length_set]; exact hl,fun c' hc'=>by rw [R7 (by omega),if_neg (fun e=>hc' e.symm)],by rw [R7 (by omega),if_pos rfl,decide_eq_true_eq]; exact ⟨fun h=>.inr h,fun h=>h.resolve_left hc1⟩,fun R hR=>Aa.step (fun K k=>?_) hR⟩
   rw [Al.l4,if_pos (by omega),if_pos (by omega),Int.toNat_natCast,hci,if_pos (by omega),Int.toNat_natCast,if_neg hc1,hw,Int.toNat_natCast,if_pos (by omega),Int.toNat_natCast,hxy,Int.toNat_natCast,if_pos (by omega),Ho,Aj (by omega)]
   rfl
 obtain ⟨o1,l1,p1,q1,t1⟩:=one 0 f o (by decide) rfl hf hl
 obtain ⟨o2,l2,p2,q2,t2⟩:=one 1 g o1 (by decide) rfl hg l1
 refine ⟨o2,l2,fun c' hc'=>(p2 c' hc').trans (p1 c' hc'),?_,fun R hR=>?_⟩
 ·rw [q2,q1]
  constructor
  ·rintro ((h | h) | h)
   ·exact .inl h
   ·exact .inr ⟨f,hf,a1,a2,h⟩
   ·exact .inr ⟨g,hg,b1,b2,h⟩
  ·rintro (h | ⟨x,hx,n1,n2,h⟩)
   ·exact .inl (.inl h)
   ·have hmem:x∈OT [EA (i%6),EB (i%6)]:=by
     unfold OT
     refine List.mem_filter.2 ⟨?_,?_⟩
     ·have:x=0∨x=1∨x=2∨x=3:=by omega
      rcases this with rfl | rfl | rfl | rfl<;>decide
     ·simp [n1.symm,n2.symm]
    rw [ho] at hmem
    rcases List.mem_cons.1 hmem with e | hmem
    ·subst e; exact .inl (.inr h)
    ·rw [List.mem_singleton.1 hmem] at h; exact .inr h
 ·rw [ho]
  refine t1 R (t2 R (Aa.step (fun K k=>?_) hR))
  have hlen:(ints [f,g]).length=2:=rfl
  rw [Al.l4,if_neg (by rw [hlen]; decide),Aj (by omega)]
theorem qK:∀ (d i:Nat) (o:List Bool),6*ts.length - i=d→i≤6*ts.length→o.length=Ce s (6*ts.length)→(∀ c:Nat,o.getD c false=true↔∃ j,j<i∧(CN (6*ts.length) s).getD j 0=(c:Int)∧∃ f,bdE ts j f) →
  ∃ o',Aa (fun K k=>Al.l1 K k ts (CN (6*ts.length) s) o (i:Int)) o'∧o'.length=Ce s (6*ts.length)∧∀ c:Nat,o'.getD c false=true↔∃ j,j<6*ts.length∧(CN (6*ts.length) s).getD j 0=(c:Int)∧∃ f,bdE ts j f
 |0,i,o,hd,hi,hl,h=>by
  obtain rfl:i=6*ts.length:=by omega
  have hCl:=Nl (6*ts.length) s
  exact ⟨o,Aa.of fun K k=>by rw [Al.l1,if_neg (by omega)],hl,h⟩
 |d+1,i,o,hd,hi,hl,h=>by
  have h8:=hv.le
  have hlt:i<6*ts.length:=by omega
  have hCl:=Nl (6*ts.length) s
  have hr:=K9 (s:=s) (N:=6*ts.length) (by omega) hlt
  obtain ⟨c,hcc⟩:∃ c:Nat,(CN (6*ts.length) s).getD i 0=(c:Int):=⟨((CN (6*ts.length) s).getD i 0).toNat,by omega⟩
  have he:i%6<6:=by omega
  obtain ⟨q1,q2,q3⟩:=EAB he
  obtain ⟨f,g,ho,_⟩:=bL he
  obtain ⟨o1,l1,p1,p2,t1⟩:=yU hv hP hc hlt ho hcc (by omega) hl
  obtain ⟨o',t,g1,g2⟩:=qK d (i+1) o1 (by omega) (by omega) l1 (fun c'=>by
   by_cases e:c'=c
   ·subst e
    rw [p2,h]
    constructor
    ·rintro (⟨j,a,b⟩ | b)
     ·exact ⟨j,by omega,b⟩
     ·exact ⟨i,by omega,hcc,b⟩
    ·rintro ⟨j,a,b,b'⟩
     by_cases e2:j=i
     ·subst e2; exact .inr b'
     ·exact .inl ⟨j,by omega,b,b'⟩
   ·rw [p1 c' e,h]
    constructor
    ·rintro ⟨j,a,b⟩; exact ⟨j,by omega,b⟩
    ·rintro ⟨j,a,b,b'⟩
     have:j≠i:=fun e2=>e (by rw [e2,hcc] at b; omega)
     exact ⟨j,by omega,b,b'⟩)
  have ha4:EA (i%6)<4:=by omega
  have hne:EA (i%6)≠EB (i%6):=by omega
  refine ⟨o',Aa.step (fun K k=>?_) (Aa.Dw (F:=fun K _=>Gw.f K ((i%6:Nat):Int)) (G:=fun K k t139 t140=>(Ic.f K ([t139,t140]:List Int)).bind fun t146=>Al.l4 K k ts (CN (6*ts.length) s) (i:Int) t146 o 0) (Xk he).two (Aa.bind (Wl ha4 q2 hne).two (t1 _ t))),g1,g2⟩
  rw [Al.l1,if_pos (by omega),if_pos (by omega),mO]
theorem bS:∃ o:List Bool,Ab (fun K=>Al.f K ts) o∧o.length=Ce s (6*ts.length)∧∀ c:Nat,o.getD c false=true↔∃ j,j<6*ts.length∧(CN (6*ts.length) s).getD j 0=(c:Int)∧∃ f,bdE ts j f:=by
 have h8:=hv.le
 have hle:=Jh s (6*ts.length)
 have hrep:∀ (m j:Nat),(List.replicate m false).getD j false=false:=fun m j=>by rw [List.getD_eq_getElem?_getD,List.getElem?_replicate]; split<;>rfl
 obtain ⟨o,t,l,h⟩:=qK hv hP hc (6*ts.length) 0 (List.replicate (Ce s (6*ts.length)) false) (by omega) (by omega) (by simp) (fun c=>by rw [hrep]; exact ⟨fun h=>(by cases h),fun ⟨j,hj,_⟩=>by omega⟩)
 refine ⟨o,Ab.bind hc (Ab.bind (Tp (by omega)) (Ab.pos (by omega) (Ab.pos (by omega) ?_))),l,h⟩
 rw [Int.toNat_natCast]; exact t.Gz
end
section
variable {n:Nat} (hn:n≤8) {a f b p:Nat} (ha:a<n) (hf:f<4) (hb:b<n) (hp:p<24) {J:List (Nat × Nat)}
include hn ha hf hb hp
theorem Aa4 {s:List Int} (hs:Hq (4*n) J s):∃ s',Ab (fun K=>Df.f K (a:Int) (f:Int) (b:Int) (p:Int) (PA p 0:Int) (PA p 1:Int) (PA p 2:Int) (PA p 3:Int) s) s'∧s'.length=s.length∧Hq (4*n) (J++jf ⟨b,p⟩ a f) s':=by
 have h:=H9 hp hf
 obtain ⟨s1,t1,l1,h1⟩:=aL (by omega) hs (i:=4*a+f) (k:=4*b+PA p f) (mul_lt ha hf) (mul_lt hb h)
 refine ⟨s1,Ab.pos (by omega) (Ab.bind (a:=s1) ?_ (Ab.pos l1 (Ab.const _))),l1,h1⟩
 refine Ab.congr (fun K=>?_) t1
 have e1:=w6 (c:=4) (a:=a) (e:=f) (by decide) (by omega) (by omega)
 have e2:=w6 (c:=4) (a:=b) (e:=PA p f) (by decide) (by omega) (by omega)
 rw [Uu hf,← e1,← e2]
 rfl
end
section
variable {ts:List (List Am)} (hv:Val ts)
include hv
theorem bV {a:Nat} (ha:a<ts.length) {J:List (Nat × Nat)}:∀ (d f:Nat) (s:List Int),4 - f=d→f≤4→Hq (4*ts.length) (J++LJ (JFf ts a) f) s →
  ∃ s',s'.length=s.length∧Hq (4*ts.length) (J++LJ (JFf ts a) 4) s'∧∀ R,Aa (fun K k=>Ad.l1 K k ts s' ((a+1:Nat):Int)) R→Aa (fun K k=>Ad.l4 K k ts (a:Int) s (f:Int)) R
 |0,f,s,hd,hf,hs=>by
  obtain rfl:f=4:=by omega
  refine ⟨s,rfl,hs,fun R hR=>Aa.step (fun K k=>?_) hR⟩
  have:=hv.four a ha
  have:=hv.le
  rw [Ad.l4,Int.toNat_natCast,if_neg (by omega),Aj (by omega)]
 |d+1,f,s,hd,hf,hs=>by
  have h4:=hv.four a ha
  have h8:=hv.le
  rcases Jm hv ha (show f<4 by omega) with ⟨h1,h2⟩|⟨h1,b,p,hb,hp,h2,_⟩
  ·obtain ⟨s',l,h,c⟩:=bV ha d (f+1) s (by omega) (by omega) (by rw [LJ,JFf,if_pos h1,List.append_nil]; exact hs)
   refine ⟨s',l,h,fun R hR=>Aa.step (fun K k=>?_) (c R hR)⟩
   rw [Ad.l4,Int.toNat_natCast,if_pos (by omega),if_pos (by omega),Int.toNat_natCast,Ho,Aj (by omega)]
   show (Bo.f (Fg ts a f).Tet (Fg ts a f).Perm).bind _=_
   rw [isB hv,Option.bind_some,decide_eq_true h1,if_pos rfl]
  ·obtain ⟨s1,t1,l1,g1⟩:=Aa4 hv.le ha (show f<4 by omega) hb hp hs
   obtain ⟨s',l,h,c⟩:=bV ha d (f+1) s1 (by omega) (by omega) (by rw [LJ,JFf,if_neg h1,h2,← List.append_assoc]; exact g1)
   refine ⟨s',l.trans l1,h,fun R hR=>Aa.step (fun K k=>?_) (Aa.Hm (F:=fun K _=>Ej.f K (p:Int)) (G:=fun K k i0 i1 i2 i3=>(Df.f K (a:Int) (f:Int) (b:Int) (p:Int) i0 i1 i2 i3 s).bind fun t228=>if t228.length=s.length then Ad.l4 K k ts (a:Int) t228 ((f+1:Nat):Int) else none) (Pt hp).two (Aa.bind t1.two (Aa.pos l1 (c R hR))))⟩
   rw [Ad.l4,Int.toNat_natCast,if_pos (by omega),if_pos (by omega),Int.toNat_natCast,Ho,Aj (by omega)]
   show (Bo.f (Fg ts a f).Tet (Fg ts a f).Perm).bind _=_
   rw [isB hv,Option.bind_some,decide_eq_false h1,if_neg (by decide)]
   show Hm (Ej.f K (Fg ts a f).Perm) (fun t221 t222 t223 t224=>(Df.f K (a:Int) (f:Int) (Fg ts a f).Tet (Fg ts a f).Perm t221 t222 t223 t224 s).bind _)=_
   rw [h2]
theorem kU:∀ (d a:Nat) (s:List Int),ts.length - a=d→a≤ts.length→Hq (4*ts.length) (LJ (fun a=>LJ (JFf ts a) 4) a) s →
  ∃ s',Aa (fun K k=>Ad.l1 K k ts s (a:Int)) s'∧s'.length=s.length∧Hq (4*ts.length) (JF ts) s'
 |0,a,s,hd,ha,hs=>by
  obtain rfl:a=ts.length:=by omega
  exact ⟨s,Aa.of fun K k=>by rw [Ad.l1,if_neg (by omega)],rfl,hs⟩
 |d+1,a,s,hd,ha,hs=>by
  have hlt:a<ts.length:=by omega
  obtain ⟨s1,l1,g1,c⟩:=bV hv hlt 4 0 s (by omega) (by omega) (by rw [LJ,List.append_nil]; exact hs)
  obtain ⟨s',t,l,h⟩:=kU d (a+1) s1 (by omega) (by omega) (by rw [LJ]; exact g1)
  refine ⟨s',Aa.step (fun K k=>?_) (c s' t),l.trans l1,h⟩
  rw [Ad.l1,if_pos (by omega),if_pos (by omega)]
  rfl
theorem Vv:∃ s,Hq (4*ts.length) (JF ts) s∧Ab (fun K=>Ef.f K ts) (CN (4*ts.length) s):=by
 have h8:=hv.le
 obtain ⟨s',t,l,h⟩:=kU hv ts.length 0 (upto (4*ts.length)) (by omega) (by omega) (Nq _)
 refine ⟨s',h,Ab.Kl (x:=(ts.length:Int)) rfl (Ab.bind (a:=upto (4*ts.length)) ?_ (Ab.bind t.Gz (Ab.pos l (Ab.bind (a:=CN (4*ts.length) s') ?_ (Ab.const _)))))⟩
 ·refine Ab.congr (fun K=>?_) (Ns hv (N:=4*ts.length) (by omega) _ 0 rfl (Nat.zero_le _)).Gz
  have e1:=w6' (c:=4) (a:=ts.length) (by decide) (by omega)
  rw [← e1]
  rfl
 ·have:=numbered (s:=s') (by rw [h.len]; omega)
  rw [h.len] at this
  exact this
end
def Bd (xs:List Int):Prop:=∀ p,-1000000000000≤xs.getD p 0∧xs.getD p 0≤1000000000000
theorem Np {α:Type} {xs:List α} {i j:Nat} {v d:α}:(xs.set i v).getD j d=if i=j∧i<xs.length then v else xs.getD j d:=by
 rw [List.getD_eq_getElem?_getD,List.getD_eq_getElem?_getD,List.getElem?_set]
 by_cases h:i=j
 ·subst h
  by_cases h2:i<xs.length
  ·simp [h2]
  ·simp [h2,List.getElem?_eq_none (Nat.le_of_not_lt h2)]
 ·simp [h]
theorem Bd.set {xs:List Int} (h:Bd xs) {i:Nat} {v:Int} (h1 : -1000000000000≤v) (h2:v≤1000000000000):Bd (xs.set i v):=fun p=>by
 rw [Np]; split
 ·exact ⟨h1,h2⟩
 ·exact h p
theorem Jy {m n i j:Nat} (hi:i<m) (hj:j<n):i*n+j<m*n:=by
 have h1:(i+1)*n≤m*n:=Nat.mul_le_mul_right n hi
 rw [Nat.succ_mul] at h1
 omega
theorem Kj {n i j i' j':Nat} (hj:j<n) (hj':j'<n) (h:i*n+j=i' * n+j'):i=i'∧j=j':=by
 have h0:0<n:=by omega
 have h1:(i*n+j)/n=i:=by rw [Nat.add_comm,Nat.mul_comm,Nat.add_mul_div_left _ _ h0,Nat.div_eq_of_lt hj,Nat.zero_add]
 have h2:(i' * n+j')/n=i':=by rw [Nat.add_comm,Nat.mul_comm,Nat.add_mul_div_left _ _ h0,Nat.div_eq_of_lt hj',Nat.zero_add]
 have h3:i=i':=by rw [← h1,← h2,h]
 subst h3
 exact ⟨rfl,by omega⟩
theorem Kr {a b:Nat} (ha:a≤1000) (hb:b≤1000):a*b≤1000000:=Nat.le_trans (Nat.mul_le_mul ha hb) (by decide)
theorem Tf {i j n:Nat} (hi:i≤1000) (hj:j≤1000) (hn:n≤1000):w64 ((w64 ((i:Int)*(n:Int)))+(j:Int))=((i*n+j:Nat):Int):=by
 have h:=Kr hi hn
 have e:(i:Int)*(n:Int)=((i*n:Nat):Int):=(Int.natCast_mul i n).symm
 rw [e,E9 (x:=((i*n:Nat):Int)) (by omega) (by omega),E9 (by omega) (by omega)]
 omega
section
variable {m n:Nat} {xs:List Int}
theorem Aay {c:Int} {i j:Nat} (hl:xs.length=m*n) (hi:i<m) (hj:j<n) (hm:m≤1000) (hn:n≤1000):Bp.f c (n:Int) xs (i:Int) (j:Int)=some ((i*n+j:Nat):Int):=by
 unfold Bp.f
 have h:=Jy hi hj
 rw [Tf (by omega) (by omega) hn,if_pos ⟨by omega,by omega⟩]
theorem Me {β:Type} {c:Int} {i j N:Nat} {g:Int→Option β} (hl:xs.length=m*n) (hN:N=m*n) (hi:i<m) (hj:j<n) (hm:m≤1000) (hn:n≤1000) :
  (Bp.f c (n:Int) xs (i:Int) (j:Int)).bind (fun t=>if 0≤t∧t<(N:Int) then g t else none)=g ((i*n+j:Nat):Int):=by
 have h:=Jy hi hj
 rw [Aay hl hi hj hm hn,Option.bind_some,if_pos ⟨by omega,by omega⟩]
theorem Lt {c:Int} {i j:Nat} (hl:xs.length=m*n) (hi:i<m) (hj:j<n) (hm:m≤1000) (hn:n≤1000):Cy.f c (n:Int) xs (i:Int) (j:Int)=some (xs.getD (i*n+j) 0):=by
 unfold Cy.f
 have h:=Jy hi hj
 rw [Tf (by omega) (by omega) hn,if_pos ⟨by omega,by omega⟩,Int.toNat_natCast]
end
def okS (a q x:Int):Bool:=decide (-2000000000000≤q*x∧q*x≤2000000000000∧-1000000000000≤a - q*x∧a - q*x≤1000000000000)
theorem Wx {x:Int} (h : -1000000000000000000≤x∧x≤1000000000000000000):Jg.f x=some (x.natAbs:Int):=by
 unfold Jg.f
 by_cases h0:x<0
 ·rw [if_pos h0,E9 (by omega) (by omega)]; congr 1; omega
 ·rw [if_neg h0]; congr 1; omega
theorem Yt {x:Int} (h : -1000000000000000000≤x∧x≤1000000000000000000):Ie.f x=some (x.natAbs:Int):=by
 unfold Ie.f
 rw [E9 (x:=0 - x) (by omega) (by omega)]
 congr 1
 split<;>omega
theorem Zb {a b L:Nat} (ha:0<a):L/a<b↔L<b*a:=by rw [Nat.div_lt_iff_lt_mul ha]
theorem vW {a b:Int} {L:Nat} (hL:L≤2000000000000) (ha : -1000000000000≤a∧a≤1000000000000) (hb : -1000000000000≤b∧b≤1000000000000):J8.f a b (L:Int)=if -(L:Int)≤a*b∧a*b≤L then some (a*b,true) else some (0,false):=by
 unfold J8.f
 by_cases h0:a=0
 ·subst h0
  rw [if_pos rfl,if_pos ⟨by simp,by simp⟩,Int.zero_mul]; rfl
 ·rw [if_neg h0,Wx (by omega),Option.bind_some,Wx (by omega),Option.bind_some,if_neg (by omega)]
  have e:(L:Int).tdiv (a.natAbs:Int)=((L/a.natAbs:Nat):Int):=by rw [Int.tdiv_eq_ediv_of_nonneg (by omega)]; exact (Int.natCast_ediv L a.natAbs).symm
  have hle:L/a.natAbs≤L:=Nat.div_le_self _ _
  have hge:0≤((L/a.natAbs:Nat):Int):=Int.natCast_nonneg _
  rw [e,E9 (by omega) (by omega)]
  have hp:=Zb (a:=a.natAbs) (b:=b.natAbs) (L:=L) (by omega)
  have hm:(a*b).natAbs=b.natAbs*a.natAbs:=by rw [Int.natAbs_mul,Nat.mul_comm]
  by_cases h1 : -(L:Int)≤a*b∧a*b≤L
  ·rw [if_pos h1,if_neg (by omega),E9 (by omega) (by omega)]
  ·rw [if_neg h1,if_pos (by omega)]
theorem sJ {a b:Int} {L:Nat} (hL:L≤2000000000000) (ha : -1000000000000≤a∧a≤1000000000000) (hb : -1000000000000≤b∧b≤1000000000000):Jq.f a b (L:Int)=if -(L:Int)≤a*b∧a*b≤L then some (a*b,true) else some (0,false):=by
 unfold Jq.f
 by_cases h0:a=0
 ·subst h0
  rw [if_pos rfl,if_pos ⟨by simp,by simp⟩,Int.zero_mul]; rfl
 ·rw [if_neg h0,Yt (by omega),Option.bind_some,Yt (by omega),Option.bind_some,if_neg (by omega)]
  have e:(L:Int).tdiv (a.natAbs:Int)=((L/a.natAbs:Nat):Int):=by rw [Int.tdiv_eq_ediv_of_nonneg (by omega)]; exact (Int.natCast_ediv L a.natAbs).symm
  have hle:L/a.natAbs≤L:=Nat.div_le_self _ _
  have hge:0≤((L/a.natAbs:Nat):Int):=Int.natCast_nonneg _
  rw [e,E9 (by omega) (by omega)]
  have hp:=Zb (a:=a.natAbs) (b:=b.natAbs) (L:=L) (by omega)
  have hm:(a*b).natAbs=b.natAbs*a.natAbs:=by rw [Int.natAbs_mul,Nat.mul_comm]
  by_cases h1 : -(L:Int)≤a*b∧a*b≤L
  ·rw [if_pos h1,if_neg (by omega),E9 (by omega) (by omega)]
  ·rw [if_neg h1,if_pos (by omega)]
theorem sM {b:Bool} {xs:List Int} {p:Nat} {x q:Int} (hp:p<xs.length) (hb:Bd xs) (hx : -1000000000000≤x∧x≤1000000000000) (hq : -1000000000000≤q∧q≤1000000000000) :
  G8.f b xs (p:Int) x (-q)=if okS (xs.getD p 0) q x=true then some (b,xs.set p (xs.getD p 0 - q*x)) else some (true,xs.set p 0):=by
 unfold G8.f
 have h2:=vW (a:=x) (b:=-q) (L:=2000000000000) (by decide) hx (by omega)
 have e:x * -q = -(q*x):=by rw [Int.mul_neg,Int.mul_comm]
 rw [show ((2000000000000:Nat):Int)=2000000000000 from rfl] at h2
 have hbp:=hb p
 have hlen:∀ v,((xs.set p v).length:Int)=(xs.length:Int):=fun v=>by rw [List.length_set]
 have hin:(0:Int)≤(p:Int)∧(p:Int)<(xs.length:Int):=⟨by omega,by omega⟩
 have hg:∀ v,(xs.set p v).getD p 0=v:=fun v=>by rw [Np,if_pos ⟨rfl,hp⟩]
 rw [h2]
 by_cases h1 : -2000000000000≤x * -q∧x * -q≤2000000000000
 ·rw [if_pos h1]
  show (if (0:Int)≤(p:Int)∧(p:Int)<(xs.length:Int) then _ else none)=_
  rw [if_pos hin,if_pos rfl,Int.toNat_natCast,hlen,if_pos hin,hg,E9 (by omega) (by omega),Wx (by omega),Option.bind_some,List.set_set]
  by_cases h3:okS (xs.getD p 0) q x=true
  ·rw [if_pos h3]
   unfold okS at h3
   rw [decide_eq_true_eq] at h3
   rw [if_neg (by omega)]
   congr 3
   omega
  ·rw [if_neg h3]
   unfold okS at h3
   rw [decide_eq_true_eq] at h3
   rw [if_pos (by omega)]
 ·rw [if_neg h1]
  show (if (0:Int)≤(p:Int)∧(p:Int)<(xs.length:Int) then _ else none)=_
  have h3:¬ okS (xs.getD p 0) q x=true:=by unfold okS; rw [decide_eq_true_eq]; omega
  rw [if_pos hin,if_neg (by decide),Int.toNat_natCast,hlen,if_pos hin,if_neg h3,List.set_set]
theorem nE {a q x:Int} (ha : -1000000000000≤a∧a≤1000000000000) (hx : -1000000000000≤x∧x≤1000000000000) (hq : -1000000000000≤q∧q≤1000000000000):Jw.f a q x=some (if -2000000000000≤q*x∧q*x≤2000000000000 then a - q*x else 3000000000000):=by
 unfold Jw.f
 have h2:=sJ (a:=q) (b:=x) (L:=2000000000000) (by decide) hq hx
 rw [show ((2000000000000:Nat):Int)=2000000000000 from rfl] at h2
 rw [h2]
 by_cases h1 : -2000000000000≤q*x∧q*x≤2000000000000
 ·rw [if_pos h1,if_pos h1]
  show (if true=true then some (w64 (a - q*x)) else some 3000000000000)=_
  rw [if_pos rfl,E9 (by omega) (by omega)]
 ·rw [if_neg h1,if_neg h1]; rfl
theorem put_eq {b:Bool} {c:Int} {m n:Nat} {xs:List Int} {i j:Nat} {a q x:Int} (hl:xs.length=m*n) (hi:i<m) (hj:j<n) (hm:m≤1000) (hn:n≤1000) (ha : -1000000000000≤a∧a≤1000000000000) :
  J3.f b c (n:Int) xs (i:Int) (j:Int) (if -2000000000000≤q*x∧q*x≤2000000000000 then a - q*x else 3000000000000)=if okS a q x=true then some (b,xs.set (i*n+j) (a - q*x)) else some (true,xs):=by
 unfold J3.f
 have h:=Jy hi hj
 by_cases h1 : -2000000000000≤q*x∧q*x≤2000000000000
 ·rw [if_pos h1,Yt (by omega),Option.bind_some]
  by_cases h3:okS a q x=true
  ·rw [if_pos h3]
   unfold okS at h3
   rw [decide_eq_true_eq] at h3
   rw [if_neg (by omega),Tf (by omega) (by omega) hn,if_pos ⟨by omega,by omega⟩,Int.toNat_natCast]
  ·rw [if_neg h3]
   unfold okS at h3
   rw [decide_eq_true_eq] at h3
   rw [if_pos (by omega)]
 ·have h3:¬ okS a q x=true:=by unfold okS; rw [decide_eq_true_eq]; omega
  rw [if_neg h1,if_neg h3]
  rfl
def gT (a b:Nat→Nat) (q:Int):Nat→Nat→List Int→Option (List Int)
 |0,_,xs=>some xs
 |c+1,j,xs=>if okS (xs.getD (a j) 0) q (xs.getD (b j) 0)=true then gT a b q c (j+1) (xs.set (a j) (xs.getD (a j) 0 - q*xs.getD (b j) 0)) else none
theorem Qk {a b:Nat→Nat} {q:Int}:∀ {c j:Nat} {xs ys:List Int},gT a b q c j xs=some ys→ys.length=xs.length
 |0,_,_,_,h=>by cases h; rfl
 |c+1,j,xs,ys,h=>by
  unfold gT at h
  split at h
  ·rw [Qk h,List.length_set]
  ·cases h
theorem Ux {a b:Nat→Nat} {q:Int}:∀ {c j:Nat} {xs ys:List Int},Bd xs→gT a b q c j xs=some ys→Bd ys
 |0,_,_,_,hb,h=>by cases h; exact hb
 |c+1,j,xs,ys,hb,h=>by
  unfold gT at h
  split at h
  ·next h1 =>
   unfold okS at h1
   rw [decide_eq_true_eq] at h1
   exact Ux (hb.set h1.2.2.1 h1.2.2.2) h
  ·cases h
theorem Zk {l:Nat→Nat→Bool→List Int→Nat→Option (Bool × List Int)} {a b:Nat→Nat} {n N:Nat} {q:Int} (hq : -1000000000000≤q∧q≤1000000000000) (hA:∀ j,j<n→a j<N)
  (go:∀ K k (z:Bool) xs j,j<n→xs.length=N→l K (k+1) z xs j=Dw (G8.f z xs (a j:Int) (xs.getD (b j) 0) (-q)) (fun z' ys=>if ys.length=xs.length then l K k z' ys (j+1) else none))
  (fin:∀ K k (z:Bool) xs,l K (k+1) z xs n=some (z,xs)):∀ (c j:Nat) (z:Bool) (xs:List Int),j+c=n→xs.length=N→Bd xs →
  ∃ ys,Aa (fun K k=>l K k z xs j) (z || (gT a b q c j xs).isNone,ys)∧ys.length=N∧Bd ys∧∀ zs,gT a b q c j xs=some zs→ys=zs:=by
 intro c
 induction c with
 |zero =>
  intro j z xs hj hl hb
  obtain rfl:j=n:=by omega
  exact ⟨xs,Aa.of fun K k=>by rw [fin]; simp [gT],hl,hb,fun zs h=>by cases h; rfl⟩
 |succ c ih =>
  intro j z xs hj hl hb
  have hjn:j<n:=by omega
  have ha:=hA j hjn
  have e:=sM (b:=z) (p:=a j) (x:=xs.getD (b j) 0) (q:=q) (by omega) hb (hb _) hq
  by_cases h1:okS (xs.getD (a j) 0) q (xs.getD (b j) 0)=true
  ·have h2:=h1
   unfold okS at h2
   rw [decide_eq_true_eq] at h2
   obtain ⟨ys,h3,h4,h5,h6⟩:=ih (j+1) z (xs.set (a j) (xs.getD (a j) 0 - q*xs.getD (b j) 0)) (by omega) (by rw [List.length_set]; exact hl) (hb.set h2.2.2.1 h2.2.2.2)
   refine ⟨ys,Aa.step (G:=fun K k=>l K k z (xs.set (a j) (xs.getD (a j) 0 - q*xs.getD (b j) 0)) (j+1)) (fun K k=>?_) ?_,h4,h5,fun zs h=>h6 zs (by unfold gT at h; rw [if_pos h1] at h; exact h)⟩
   ·rw [go K k z xs j hjn hl,e,if_pos h1]
    show (if _ then _ else none)=_
    rw [if_pos (by rw [List.length_set])]
   ·unfold gT; rw [if_pos h1]; exact h3
  ·obtain ⟨ys,h3,h4,h5,h6⟩:=ih (j+1) true (xs.set (a j) 0) (by omega) (by rw [List.length_set]; exact hl) (hb.set (by omega) (by omega))
   refine ⟨ys,Aa.step (G:=fun K k=>l K k true (xs.set (a j) 0) (j+1)) (fun K k=>?_) ?_,h4,h5,fun zs h=>by unfold gT at h; rw [if_neg h1] at h; cases h⟩
   ·rw [go K k z xs j hjn hl,e,if_neg h1]
    show (if _ then _ else none)=_
    rw [if_pos (by rw [List.length_set])]
   ·unfold gT; rw [if_neg h1]
    simpa using h3
theorem Z0 {l:Nat→Nat→Bool→List Int→Nat→Option (Bool × List Int)} {a b:Nat→Nat} {n N:Nat} {q:Int} (hA:∀ j,j<n→a j<N)
  (go:∀ K k xs j,j<n→xs.length=N→Bd xs→l K (k+1) false xs j=if okS (xs.getD (a j) 0) q (xs.getD (b j) 0)=true then l K k false (xs.set (a j) (xs.getD (a j) 0 - q*xs.getD (b j) 0)) (j+1) else l K k true xs (j+1))
  (bad:∀ K k xs j,j≤n→l K (k+1) true xs j=some (true,xs)) (fin:∀ K k xs,l K (k+1) false xs n=some (false,xs)):∀ (c j:Nat) (xs:List Int),j+c=n→xs.length=N→Bd xs →
  ∃ ys,Aa (fun K k=>l K k false xs j) ((gT a b q c j xs).isNone,ys)∧ys.length=N∧Bd ys∧∀ zs,gT a b q c j xs=some zs→ys=zs:=by
 intro c
 induction c with
 |zero =>
  intro j xs hj hl hb
  obtain rfl:j=n:=by omega
  exact ⟨xs,Aa.of fun K k=>by rw [fin]; simp [gT],hl,hb,fun zs h=>by cases h; rfl⟩
 |succ c ih =>
  intro j xs hj hl hb
  have hjn:j<n:=by omega
  by_cases h1:okS (xs.getD (a j) 0) q (xs.getD (b j) 0)=true
  ·have h2:=h1
   unfold okS at h2
   rw [decide_eq_true_eq] at h2
   obtain ⟨ys,h3,h4,h5,h6⟩:=ih (j+1) (xs.set (a j) (xs.getD (a j) 0 - q*xs.getD (b j) 0)) (by omega) (by rw [List.length_set]; exact hl) (hb.set h2.2.2.1 h2.2.2.2)
   refine ⟨ys,Aa.step (G:=fun K k=>l K k false (xs.set (a j) (xs.getD (a j) 0 - q*xs.getD (b j) 0)) (j+1)) (fun K k=>?_) ?_,h4,h5,fun zs h=>h6 zs (by unfold gT at h; rw [if_pos h1] at h; exact h)⟩
   ·rw [go K k xs j hjn hl hb,if_pos h1]
   ·unfold gT; rw [if_pos h1]; exact h3
  ·refine ⟨xs,Aa.step (G:=fun K k=>l K k true xs (j+1)) (fun K k=>?_) ?_,hl,hb,fun zs h=>by unfold gT at h; rw [if_neg h1] at h; cases h⟩
   ·rw [go K k xs j hjn hl hb,if_neg h1]
   ·unfold gT; rw [if_neg h1]
    exact Aa.of fun K k=>bad K k xs (j+1) (by omega)
section
variable {m n:Nat} {xs:List Int} {c:Int}
def rwx (n i:Nat):Nat→Nat:=fun j=>i*n+j
def clx (n j:Nat):Nat→Nat:=fun i=>i*n+j
theorem Vd {i k:Nat} {q:Int} {z:Bool} (hm:m≤1000) (hn:n≤1000) (hi:i<m) (hk:k<m) (hq : -1000000000000≤q∧q≤1000000000000) (hl:xs.length=m*n) (hb:Bd xs) :
  ∃ ys,Ab (fun K=>Cz.f K z c (n:Int) xs (i:Int) (k:Int) (-q)) (z || (gT (rwx n i) (rwx n k) q n 0 xs).isNone,ys)∧ys.length=m*n∧Bd ys∧∀ zs,gT (rwx n i) (rwx n k) q n 0 xs=some zs→ys=zs:=by
 obtain ⟨ys,h1,h2⟩:=Zk (l:=fun K k' z xs j=>Cz.l1 K k' c (n:Int) (i:Int) (k:Int) (-q) z xs (j:Int)) (a:=rwx n i) (b:=rwx n k) (n:=n) (N:=m*n) hq (fun j hj=>Jy hi hj) (fun K k' z xs j hj hl=>by
  show Cz.l1 K (k'+1) c (n:Int) (i:Int) (k:Int) (-q) z xs (j:Int)=_
  simp only [Cz.l1]
  rw [if_pos (by omega),Me hl hl hi hj hm hn,Me hl hl hk hj hm hn,Aj (by omega),Int.toNat_natCast]
  rfl) (fun K k' z xs=>by
  show Cz.l1 K (k'+1) c (n:Int) (i:Int) (k:Int) (-q) z xs (n:Int)=_
  simp only [Cz.l1]
  rw [if_neg (by omega)]) n 0 z xs (by omega) hl hb
 exact ⟨ys,h1.Gz,h2⟩
theorem Pf {i k:Nat} {q:Int} {z:Bool} (hm:m≤1000) (hn:n≤1000) (hi:i<n) (hk:k<n) (hq : -1000000000000≤q∧q≤1000000000000) (hl:xs.length=m*n) (hb:Bd xs) :
  ∃ ys,Ab (fun K=>Cq.f K z (m:Int) (n:Int) xs (i:Int) (k:Int) (-q)) (z || (gT (clx n i) (clx n k) q m 0 xs).isNone,ys)∧ys.length=m*n∧Bd ys∧∀ zs,gT (clx n i) (clx n k) q m 0 xs=some zs→ys=zs:=by
 obtain ⟨ys,h1,h2⟩:=Zk (l:=fun K k' z xs j=>Cq.l1 K k' (m:Int) (n:Int) (i:Int) (k:Int) (-q) z xs (j:Int)) (a:=clx n i) (b:=clx n k) (n:=m) (N:=m*n) hq (fun j hj=>Jy hj hi) (fun K k' z xs j hj hl=>by
  show Cq.l1 K (k'+1) (m:Int) (n:Int) (i:Int) (k:Int) (-q) z xs (j:Int)=_
  simp only [Cq.l1]
  rw [if_pos (by omega),Me hl hl hj hi hm hn,Me hl hl hj hk hm hn,Aj (by omega),Int.toNat_natCast]
  rfl) (fun K k' z xs=>by
  show Cq.l1 K (k'+1) (m:Int) (n:Int) (i:Int) (k:Int) (-q) z xs (m:Int)=_
  simp only [Cq.l1]
  rw [if_neg (by omega)]) m 0 z xs (by omega) hl hb
 exact ⟨ys,h1.Gz,h2⟩
theorem nM {i k:Nat} {q:Int} (hm:m≤1000) (hn:n≤1000) (hi:i<m) (hk:k<m) (hq : -1000000000000≤q∧q≤1000000000000) (hl:xs.length=m*n) (hb:Bd xs) :
  ∃ ys,Ab (fun K=>Ea.f K false c (n:Int) xs (i:Int) (k:Int) q) ((gT (rwx n i) (rwx n k) q n 0 xs).isNone,ys)∧ys.length=m*n∧Bd ys∧∀ zs,gT (rwx n i) (rwx n k) q n 0 xs=some zs→ys=zs:=by
 obtain ⟨ys,h1,h2⟩:=Z0 (l:=fun K k' z xs j=>Ea.l1 K k' c (n:Int) (i:Int) (k:Int) q z xs (j:Int)) (a:=rwx n i) (b:=rwx n k) (n:=n) (N:=m*n) (q:=q) (fun j hj=>Jy hi hj) (fun K k' xs j hj hl hb=>by
  show Ea.l1 K (k'+1) c (n:Int) (i:Int) (k:Int) q false xs (j:Int)=_
  simp only [Ea.l1]
  rw [if_pos (by omega),if_neg (by decide),Lt hl hi hj hm hn,Option.bind_some,Lt hl hk hj hm hn,Option.bind_some,nE (hb _) (hb _) hq,Option.bind_some,put_eq hl hi hj hm hn (hb _),Aj (by omega)]
  by_cases h:okS (xs.getD (i*n+j) 0) q (xs.getD (k*n+j) 0)=true
  ·rw [if_pos h,if_pos (by exact h)]
   show (if _ then _ else none)=_
   rw [if_pos (by rw [List.length_set])]; rfl
  ·rw [if_neg h,if_neg (by exact h)]
   show (if _ then _ else none)=_
   rw [if_pos rfl]) (fun K k' xs j hj=>by
  show Ea.l1 K (k'+1) c (n:Int) (i:Int) (k:Int) q true xs (j:Int)=_
  simp only [Ea.l1]
  split<;>simp) (fun K k' xs=>by
  show Ea.l1 K (k'+1) c (n:Int) (i:Int) (k:Int) q false xs (n:Int)=_
  simp only [Ea.l1]
  rw [if_neg (by omega)]) n 0 xs (by omega) hl hb
 exact ⟨ys,h1.Gz,h2⟩
theorem pW {i k:Nat} {q:Int} (hm:m≤1000) (hn:n≤1000) (hi:i<n) (hk:k<n) (hq : -1000000000000≤q∧q≤1000000000000) (hl:xs.length=m*n) (hb:Bd xs) :
  ∃ ys,Ab (fun K=>Dg.f K false (m:Int) (n:Int) xs (i:Int) (k:Int) q) ((gT (clx n i) (clx n k) q m 0 xs).isNone,ys)∧ys.length=m*n∧Bd ys∧∀ zs,gT (clx n i) (clx n k) q m 0 xs=some zs→ys=zs:=by
 obtain ⟨ys,h1,h2⟩:=Z0 (l:=fun K k' z xs j=>Dg.l1 K k' (m:Int) (n:Int) (i:Int) (k:Int) q z xs (j:Int)) (a:=clx n i) (b:=clx n k) (n:=m) (N:=m*n) (q:=q) (fun j hj=>Jy hj hi) (fun K k' xs j hj hl hb=>by
  show Dg.l1 K (k'+1) (m:Int) (n:Int) (i:Int) (k:Int) q false xs (j:Int)=_
  simp only [Dg.l1]
  rw [if_pos (by omega),if_neg (by decide),Lt hl hj hi hm hn,Option.bind_some,Lt hl hj hk hm hn,Option.bind_some,nE (hb _) (hb _) hq,Option.bind_some,put_eq hl hj hi hm hn (hb _),Aj (by omega)]
  by_cases h:okS (xs.getD (j*n+i) 0) q (xs.getD (j*n+k) 0)=true
  ·rw [if_pos h,if_pos (by exact h)]
   show (if _ then _ else none)=_
   rw [if_pos (by rw [List.length_set])]; rfl
  ·rw [if_neg h,if_neg (by exact h)]
   show (if _ then _ else none)=_
   rw [if_pos rfl]) (fun K k' xs j hj=>by
  show Dg.l1 K (k'+1) (m:Int) (n:Int) (i:Int) (k:Int) q true xs (j:Int)=_
  simp only [Dg.l1]
  split<;>simp) (fun K k' xs=>by
  show Dg.l1 K (k'+1) (m:Int) (n:Int) (i:Int) (k:Int) q false xs (m:Int)=_
  simp only [Dg.l1]
  rw [if_neg (by omega)]) m 0 xs (by omega) hl hb
 exact ⟨ys,h1.Gz,h2⟩
theorem jX {a b q:Int}:Ab (fun K=>Ea.f K true c (n:Int) xs a b q) (true,xs):=Aa.Gz (F:=fun K k=>Ea.l1 K k c (n:Int) a b q true xs 0) (Aa.of fun K k=>by
 simp only [Ea.l1]
 split<;>simp)
theorem Z9 {a b q:Int}:Ab (fun K=>Dg.f K true (m:Int) c xs a b q) (true,xs):=Aa.Gz (F:=fun K k=>Dg.l1 K k (m:Int) c a b q true xs 0) (Aa.of fun K k=>by
 simp only [Dg.l1]
 split<;>simp)
end
end Go.Proofs.YtgkgmhkgahalgaaGreat
