/-
  An edge's neighbours; one step of the search through a class.
  The search through a class, on both sides.
  The search through a class, whole; what it leaves.
  The signs of edges: both sides leave the same.
  How many classes; which are reversed; which lie on the boundary.
  The reference's boundary classes.
  The reference's boundary classes, whole.
  Triangulations: the corner behind a corner around its edge.
-/
import Derived.Test.YtbjfinndngafoaaGreatPlT9
set_option linter.unusedVariables false
set_option linter.unusedSimpArgs false
set_option linter.unusedSectionVars false
namespace Go.Proofs.YtbjfinndngafoaaGreat
open Go.RowKit
def nbr (ts:List (List Ab)) (i f:Nat):Option (Nat × Bool) :=
  if EA (i % 6)=f∨EB (i % 6)=f then none else if (Cg ts (i / 6) f).Tet<0 then none else
    some (6 * (Cg ts (i / 6) f).Tet.toNat+EE (PA (Cg ts (i / 6) f).Perm.toNat (EA (i % 6))) (PA (Cg ts (i / 6) f).Perm.toNat (EB (i % 6))),decide (PA (Cg ts (i / 6) f).Perm.toNat (EB (i % 6))<PA (Cg ts (i / 6) f).Perm.toNat (EA (i % 6))))
theorem de6 {a e:Nat} (he:e<6):(6 * a+e) / 6=a∧(6 * a+e) % 6=e:=by omega
section
variable {ts:List (List Ab)} (hv:Val ts)
include hv
theorem Nt {a e f b p:Nat} (he:e<6) (h1:EA e≠f) (h2:EB e≠f) (hx:Cg ts a f=⟨b,p⟩):nbr ts (6 * a+e) f=some (6 * b+EE (PA p (EA e)) (PA p (EB e)),decide (PA p (EB e)<PA p (EA e))):=by
  unfold nbr
  rw [(de6 he).1,(de6 he).2,hx,if_neg (by rintro (h | h) <;> contradiction),if_neg (by show ¬ (b:Int)<0; omega)]
  rfl
theorem Tf {i f j:Nat} {fl:Bool} (hi:i<6 * ts.length) (hf:f<4) (h:nbr ts i f=some (j,fl)):∃ b p:Nat,b<ts.length∧p<24∧Cg ts (i / 6) f=⟨b,p⟩∧Kt ts (i / 6) f b p∧EA (i % 6)≠f∧EB (i % 6)≠f∧j=6 * b+EE (PA p (EA (i % 6))) (PA p (EB (i % 6)))∧fl=decide (PA p (EB (i % 6))<PA p (EA (i % 6)))∧j<6 * ts.length:=by
  have ha:i / 6<ts.length:=by omega
  have he:i % 6<6:=by omega
  unfold nbr at h
  by_cases h1:EA (i % 6)=f∨EB (i % 6)=f
  · rw [if_pos h1] at h; cases h
  · rw [if_neg h1] at h
    rcases Ep hv ha hf with ⟨g1,_⟩ | ⟨g1,b,p,hb,hp,g2,g3⟩
    · rw [if_pos g1] at h; cases h
    · rw [if_neg g1,g2] at h
      injection h with h
      injection h with h2 h3
      have hbb:((b:Int)).toNat=b:=Int.toNat_natCast b
      refine ⟨b,p,hb,hp,g2,g3,fun e=>h1 (.inl e),fun e=>h1 (.inr e),h2.symm,h3.symm,?_⟩
      rw [← h2]
      exact mul_lt (c:=6) hb (Na hp he).2.2.2
theorem tZ {i f j:Nat} {fl:Bool} (hi:i<6 * ts.length) (hf:f<4) (h:nbr ts i f=some (j,fl)):(i,j) ∈ JE ts:=by
  obtain ⟨b,p,hb,hp,hx,_,h1,h2,hj,_,_⟩:=Tf hv hi hf h
  unfold JE
  refine Ps.2 ⟨i / 6,by omega,Ps.2 ⟨f,hf,?_⟩⟩
  unfold JEf
  rw [hx,if_neg (by show ¬ (b:Int)<0; omega)]
  refine Ps.2 ⟨i % 6,by omega,?_⟩
  unfold je
  rw [if_neg (by rintro (h | h) <;> contradiction)]
  refine List.mem_singleton.2 ?_
  rw [hj,show 6 * (i / 6)+i % 6=i by omega]
  rfl
theorem fZ {i j:Nat} (h:(i,j) ∈ JE ts):i<6 * ts.length∧∃ f fl,f<4∧nbr ts i f=some (j,fl):=by
  unfold JE at h
  obtain ⟨a,ha,h⟩:=Ps.1 h
  obtain ⟨f,hf,h⟩:=Ps.1 h
  unfold JEf at h
  rcases Ep hv ha hf with ⟨g1,_⟩ | ⟨g1,b,p,hb,hp,g2,g3⟩
  · rw [if_pos g1] at h; exact (List.not_mem_nil h).elim
  · rw [if_neg g1,g2] at h
    obtain ⟨e,he,h⟩:=Ps.1 h
    unfold je at h
    by_cases hc:EA e=f∨EB e=f
    · rw [if_pos hc] at h; exact (List.not_mem_nil h).elim
    · rw [if_neg hc] at h
      have h:=List.mem_singleton.1 h
      injection h with h1 h2
      have h5:=Nt hv he (fun e=>hc (.inl e)) (fun e=>hc (.inr e)) g2
      rw [h1,h2]
      exact ⟨mul_lt (c:=6) ha he,f,_,hf,h5⟩
theorem Yw {i f j:Nat} {fl:Bool} (hi:i<6 * ts.length) (hf:f<4) (h:nbr ts i f=some (j,fl)):∃ f' fl',f'<4∧nbr ts j f'=some (i,fl'):=by
  obtain ⟨b,p,hb,hp,hx,hg,h1,h2,hj,_,_⟩:=Tf hv hi hf h
  have he:i % 6<6:=by omega
  obtain ⟨q1,q2,q3⟩:=EAB he
  obtain ⟨g1,g2,g3,g4⟩:=Na hp he
  obtain ⟨_,e1,e2⟩:=Tw g1 g2 g3
  have hp':=Im hp
  have n1:PA p (EA (i % 6))≠PA p f:=fun e=>h1 (Tu hp (by omega) hf e)
  have n2:PA p (EB (i % 6))≠PA p f:=fun e=>h2 (Tu hp q2 hf e)
  have h5:=Nt hv g4 (by rw [e1]; omega) (by rw [e2]; omega) hg.2.2.2.1
  rw [← hj,e1,e2] at h5
  have k1:=K8 hp (show EA (i % 6)<4 by omega)
  have k2:=K8 hp q2
  have:EE (PA (PI p) (min (PA p (EA (i % 6))) (PA p (EB (i % 6))))) (PA (PI p) (max (PA p (EA (i % 6))) (PA p (EB (i % 6)))))=i % 6:=by
    rcases Nat.lt_or_gt_of_ne g3 with hlt | hlt
    · rw [Nat.min_eq_left (by omega),Nat.max_eq_right (by omega),k1,k2,q3]
    · rw [Nat.min_eq_right (by omega),Nat.max_eq_left (by omega),k1,k2,aO q2 (by omega),q3]
  rw [this,show 6 * (i / 6)+i % 6=i by omega] at h5
  exact ⟨PA p f,_,Ei hp hf,h5⟩
end
abbrev Oa:=List Int × List Nat × Bool
def stp (i:Nat) (st:Oa) (t:Nat × Bool):Oa :=
  let want:Int:=bif t.2 then - st.1.getD i 0 else st.1.getD i 0
  if st.1.getD t.1 0=0 then (st.1.set t.1 want,st.2.1++[t.1],st.2.2) else (st.1,st.2.1,st.2.2 || !decide (st.1.getD t.1 0=want))
def K5 (ts:List (List Ab)) (i f:Nat) (st:Oa):Oa:=match nbr ts i f with
  | none=>st
  | some t=>stp i st t
def L8 (ts:List (List Ab)) (i:Nat) (st:Oa):Nat→Oa
  | 0=>st
  | f+1=>K5 ts i f (L8 ts i st f)
theorem X7 {ts:List (List Ab)} {i f:Nat} {st:Oa} (h:EA (i % 6)=f∨EB (i % 6)=f):K5 ts i f st=st:=by
  unfold K5 nbr
  rw [if_pos h]
theorem Zv {e:Nat} (he:e<6):∃ f g,OT [EA e,EB e]=[f,g]∧f<4∧g<4∧EA e≠f∧EB e≠f∧EA e≠g∧EB e≠g:=by
  have:e=0∨e=1∨e=2∨e=3∨e=4∨e=5:=by omega
  rcases this with rfl | rfl | rfl | rfl | rfl | rfl <;> exact ⟨_,_,rfl,by decide,by decide,by decide,by decide,by decide,by decide⟩
theorem fT (ts:List (List Ab)) (i:Nat) (st:Oa) {f g:Nat} (h:OT [EA (i % 6),EB (i % 6)]=[f,g]):L8 ts i st 4=K5 ts i g (K5 ts i f st):=by
  have hf:=fun f st=>@X7 ts i f st
  have:i % 6=0∨i % 6=1∨i % 6=2∨i % 6=3∨i % 6=4∨i % 6=5:=by omega
  simp only [L8]
  rcases this with e | e | e | e | e | e <;> rw [e] at h hf <;> (injection h with h1 h2; injection h2 with h2 _; subst h1; subst h2)
  · rw [hf 0 _ (by decide),hf 1 _ (by decide)]
  · rw [hf 0 _ (by decide),hf 2 _ (by decide)]
  · rw [hf 0 _ (by decide),hf 3 _ (by decide)]
  · rw [hf 1 _ (by decide),hf 2 _ (by decide)]
  · rw [hf 1 _ (by decide),hf 3 _ (by decide)]
  · rw [hf 2 _ (by decide),hf 3 _ (by decide)]
structure Sr (ts:List (List Ab)) (N:Nat) (C sg0:List Int) (i0:Nat) (st:Oa):Prop where
  len:st.1.length=N
  head:st.2.1.getD 0 0=i0∧0<st.2.1.length
  inn:∀ j,j ∈ st.2.1→j<N∧C.getD j 0=C.getD i0 0
  nodup:st.2.1.Nodup
  sgn:∀ j,j<N→(st.1.getD j 0≠0↔(j ∈ st.2.1∨sg0.getD j 0≠0))
  val:∀ j,j<N→st.1.getD j 0=0∨st.1.getD j 0=1∨st.1.getD j 0 = -1
theorem Xk {l:List Int} {i j:Nat} {v:Int} (hi:i<l.length):(l.set i v).getD j 0=if i=j then v else l.getD j 0:=by
  rw [List.getD_eq_getElem?_getD]
  by_cases h:i=j
  · subst h; rw [List.getElem?_set_self hi,if_pos rfl]; rfl
  · rw [List.getElem?_set_ne h,if_neg h,List.getD_eq_getElem?_getD]
theorem Sr.stp {ts:List (List Ab)} {N:Nat} {C sg0:List Int} {i0:Nat} {st:Oa} (h:Sr ts N C sg0 i0 st) {i:Nat} (hi:i ∈ st.2.1) {t:Nat × Bool} (ht:t.1<N) (hC:C.getD t.1 0=C.getD i 0) :
    Sr ts N C sg0 i0 (stp i st t)∧(∀ j,j<N→st.1.getD j 0≠0→(Go.Proofs.YtbjfinndngafoaaGreat.stp i st t).1.getD j 0≠0)∧(Go.Proofs.YtbjfinndngafoaaGreat.stp i st t).1.getD t.1 0≠0∧∃ r,(Go.Proofs.YtbjfinndngafoaaGreat.stp i st t).2.1=st.2.1++r:=by
  have hiN:=(h.inn i hi).1
  have hsi:st.1.getD i 0≠0:=(h.sgn i hiN).2 (.inl hi)
  unfold Go.Proofs.YtbjfinndngafoaaGreat.stp
  by_cases h0:st.1.getD t.1 0=0
  · rw [if_pos h0]
    have hnq:t.1 ∉ st.2.1:=fun e=>(h.sgn t.1 ht).2 (.inl e) h0
    have hw:(bif t.2 then - st.1.getD i 0 else st.1.getD i 0)≠0:=by cases t.2 <;> simp only [cond_true,cond_false] <;> omega
    have hl:=h.len
    refine ⟨⟨by rw [List.length_set]; exact hl,⟨?_,by simp⟩,fun j hj=>?_,?_,fun j hj=>?_,fun j hj=>?_⟩,fun j hj hn=>?_,?_,⟨_,rfl⟩⟩
    · have:=h.head
      show (st.2.1++[t.1]).getD 0 0=i0
      rw [List.getD_eq_getElem?_getD,List.getElem?_append_left this.2,← List.getD_eq_getElem?_getD]
      exact this.1
    · rcases List.mem_append.1 hj with hj | hj
      · exact h.inn j hj
      · rw [List.mem_singleton.1 hj]; exact ⟨ht,hC.trans (h.inn i hi).2⟩
    · exact List.nodup_append.2 ⟨h.nodup,by simp,fun a ha b hb=>by rw [List.mem_singleton.1 hb]; exact fun e=>hnq (e ▸ ha)⟩
    · show (st.1.set t.1 _).getD j 0≠0↔_
      rw [Xk (by omega)]
      by_cases e:t.1=j
      · rw [if_pos e]
        exact ⟨fun _=>.inl (List.mem_append_right _ (List.mem_singleton.2 e.symm)),fun _=>hw⟩
      · rw [if_neg e,h.sgn j hj]
        constructor
        · rintro (h1 | h1)
          · exact .inl (List.mem_append_left _ h1)
          · exact .inr h1
        · rintro (h1 | h1)
          · rcases List.mem_append.1 h1 with h1 | h1
            · exact .inl h1
            · exact absurd (List.mem_singleton.1 h1).symm e
          · exact .inr h1
    · show (st.1.set t.1 _).getD j 0=0∨_
      rw [Xk (by omega)]
      have hvi:=h.val i hiN
      have hvj:=h.val j hj
      by_cases e:t.1=j
      · rw [if_pos e]; cases t.2 <;> simp only [cond_true,cond_false] <;> omega
      · rw [if_neg e]; exact hvj
    · show (st.1.set t.1 _).getD j 0≠0
      rw [Xk (by omega)]
      by_cases e:t.1=j
      · rw [if_pos e]; exact hw
      · rw [if_neg e]; exact hn
    · show (st.1.set t.1 _).getD t.1 0≠0
      rw [Xk (by omega),if_pos rfl]; exact hw
  · rw [if_neg h0]
    exact ⟨⟨h.len,h.head,h.inn,h.nodup,h.sgn,h.val⟩,fun j _ hn=>hn,h0,⟨[],by simp⟩⟩
theorem Sk:∀ {N:Nat} {q:List Nat},q.Nodup→(∀ j,j ∈ q→j<N)→q.length≤N
  | 0,[],_,_=>Nat.le_refl _
  | 0,a::q,_,h=>absurd (h a (List.mem_cons_self ..)) (Nat.not_lt_zero _)
  | N+1,q,hn,h=>by
    by_cases hm:N ∈ q
    · have:=Sk (N:=N) (q:=q.erase N) (hn.erase N) (fun j hj=>by
        have h1:=(List.Nodup.mem_erase_iff hn).1 hj
        have:=h j h1.2
        have:=h1.1
        omega)
      rw [List.length_erase_of_mem hm] at this
      omega
    · have:=Sk (N:=N) (q:=q) hn (fun j hj=>by
        have:=h j hj
        have:j≠N:=fun e=>hm (e ▸ hj)
        omega)
      omega
theorem Mh {κ ν:Type} [DecidableEq κ] (k:κ) (v:ν) (k':κ):∀ m:List (κ × ν),Jn (Ns m k v) k'=if k'=k then some v else Jn m k'
  | []=>by unfold Ns Jn Jn; rfl
  | p::r=>by
    unfold Ns
    by_cases h:k=p.1
    · rw [if_pos h]
      unfold Jn
      by_cases h2:k'=k
      · rw [if_pos h2,if_pos h2]
      · rw [if_neg h2,if_neg h2,if_neg (by rw [← h]; exact h2)]
    · rw [if_neg h]
      unfold Jn
      by_cases h2:k'=p.1
      · rw [if_pos h2,if_pos h2,if_neg (by rw [h2]; exact fun e=>h e.symm)]
      · rw [if_neg h2,if_neg h2,Mh k v k' r]
theorem H5 (l:List Nat):(ints l).length=l.length:=by simp [ints]
theorem Ku {l:List Nat} {i:Nat} (h:i<l.length):(ints l).getD i 0=((l.getD i 0:Nat):Int):=by
  unfold ints
  rw [List.getD_eq_getElem?_getD,List.getElem?_map,getD_some (d:=0) h]; rfl
theorem Yd (l:List Nat) (x:Nat):ints (l++[x])=ints l++[(x:Int)]:=by simp [ints]
theorem Sr.aB {ts:List (List Ab)} {N:Nat} {C sg0:List Int} {i0:Nat} {st:Oa} (h:Sr ts N C sg0 i0 st):st.2.1.length≤N:=Sk h.nodup fun j hj=>(h.inn j hj).1
def Vs (rev0 rev:List (Int × Bool)) (c:Int) (bad:Bool):Prop:=(∀ c',c'≠c→Jn rev c'=Jn rev0 c')∧Jn rev c=if bad=true then some true else none
theorem yE (b p:Nat):Bi.f (⟨(b:Int),(p:Int)⟩:Ab).Tet (⟨(b:Int),(p:Int)⟩:Ab).Perm=some false:=congrArg some (decide_eq_false (by show ¬ (b:Int)<0; omega))
theorem jL (i:Nat):(i:Int).tmod 6=((i % 6:Nat):Int):=by
  rw [Int.tmod_eq_emod_of_nonneg (by omega)]; omega
theorem eQ (i:Nat):(i:Int).tdiv 6=((i / 6:Nat):Int):=by
  rw [Int.tdiv_eq_ediv_of_nonneg (by omega)]; omega
section
variable {ts:List (List Ab)} (hv:Val ts) {C:List Int} (hCl:C.length=6 * ts.length) (hC:∀ i f j fl,i<6 * ts.length→f<4→nbr ts i f=some (j,fl)→j<6 * ts.length∧C.getD j 0=C.getD i 0)
include hv hCl hC
theorem Sr.K5 {sg0:List Int} {i0:Nat} {st:Oa} (h:Sr ts (6 * ts.length) C sg0 i0 st) {i f:Nat} (hi:i ∈ st.2.1) (hf:f<4) :
    Sr ts (6 * ts.length) C sg0 i0 (K5 ts i f st)∧(∀ j,j<6 * ts.length→st.1.getD j 0≠0→(Go.Proofs.YtbjfinndngafoaaGreat.K5 ts i f st).1.getD j 0≠0)∧(∀ j fl,nbr ts i f=some (j,fl)→(Go.Proofs.YtbjfinndngafoaaGreat.K5 ts i f st).1.getD j 0≠0)∧∃ r,(Go.Proofs.YtbjfinndngafoaaGreat.K5 ts i f st).2.1=st.2.1++r:=by
  unfold Go.Proofs.YtbjfinndngafoaaGreat.K5
  cases hn:nbr ts i f with
  | none=>exact ⟨h,fun j _ hj=>hj,fun j fl e=>(by cases e),[],by simp⟩
  | some t =>
    obtain ⟨g1,g2⟩:=hC i f t.1 t.2 (h.inn i hi).1 hf hn
    obtain ⟨h1,h2,h3,h4⟩:=h.stp hi g1 g2
    refine ⟨h1,h2,fun j fl e=>?_,h4⟩
    injection e with e
    subst e
    exact h3
theorem vN {sg0:List Int} {i0:Nat} {st:Oa} (h:Sr ts (6 * ts.length) C sg0 i0 st) {qi:Nat} (hq:qi<st.2.1.length) {j:Nat} {fl:Bool} (hj:j<6 * ts.length) (hjC:C.getD j 0=C.getD i0 0) {rev0 rev:List (Int × Bool)} (hr:Vs rev0 rev (C.getD i0 0) st.2.2) :
    ∃ rev',Cv.f (j:Int) (bif fl then -1 else 1) st.1 (ints st.2.1) (qi:Int) rev C=some ((stp (st.2.1.getD qi 0) st (j,fl)).1,ints (stp (st.2.1.getD qi 0) st (j,fl)).2.1,rev')∧Vs rev0 rev' (C.getD i0 0) (stp (st.2.1.getD qi 0) st (j,fl)).2.2∧(stp (st.2.1.getD qi 0) st (j,fl)).1.length=st.1.length:=by
  have h8:=hv.le
  have hl:=h.len
  have hql:=h.aB
  have him:st.2.1.getD qi 0 ∈ st.2.1:=by rw [List.getD_eq_getElem?_getD,List.getElem?_eq_getElem hq]; exact List.getElem_mem hq
  obtain ⟨i,hi⟩:∃ i,i=st.2.1.getD qi 0:=⟨_,rfl⟩
  rw [← hi] at him ⊢
  have hiN:=(h.inn i him).1
  have hvi:=h.val i hiN
  have hvj:=h.val j hj
  have hsi:st.1.getD i 0≠0:=(h.sgn i hiN).2 (.inl him)
  have hqi:(ints st.2.1).getD qi 0=(i:Int):=by rw [Ku hq,hi]
  have hwant:w64 (st.1.getD i 0 * (bif fl then -1 else 1))=bif fl then - st.1.getD i 0 else st.1.getD i 0:=by
    cases fl <;> simp only [cond_true,cond_false] <;> rw [He (by omega) (by omega)] <;> omega
  unfold Cv.f
  rw [if_pos (by rw [H5]; omega),Int.toNat_natCast,hqi,if_pos (by omega),if_pos (by omega),Int.toNat_natCast,Int.toNat_natCast,hwant]
  unfold stp
  by_cases h0:st.1.getD j 0=0
  · rw [if_pos h0,if_pos h0,if_pos (by rw [H5]; omega)]
    exact ⟨rev,by rw [Yd],hr,by rw [List.length_set]⟩
  · rw [if_neg h0,if_neg h0]
    generalize hw:(bif fl then - st.1.getD i 0 else st.1.getD i 0)=wt
    have hwv:wt=1∨wt = -1:=by rw [← hw]; cases fl <;> simp only [cond_true,cond_false] <;> omega
    have hneg:w64 (0 - wt) = - wt:=by rw [He (by omega) (by omega)]; omega
    rw [hneg]
    by_cases h1:st.1.getD j 0 = - wt
    · rw [if_pos h1,if_pos (by omega)]
      refine ⟨Ns rev (C.getD j 0) true,rfl,⟨fun c' hc'=>?_,?_⟩,rfl⟩
      · rw [Mh,if_neg (by rw [hjC]; exact hc')]; exact hr.1 c' hc'
      · rw [Mh,hjC,if_pos rfl]
        show _=if (st.2.2 || !decide (st.1.getD j 0=wt))=true then _ else _
        rw [decide_eq_false (by omega)]; simp
    · rw [if_neg h1]
      refine ⟨rev,rfl,?_,rfl⟩
      show Vs rev0 rev _ (st.2.2 || !decide (st.1.getD j 0=wt))
      rw [decide_eq_true (by omega)]
      simpa using hr
theorem aU {sg0:List Int} {i0:Nat} {st:Oa} (h:Sr ts (6 * ts.length) C sg0 i0 st) {qi:Nat} (hq:qi<st.2.1.length) {i:Nat} (hi:st.2.1.getD qi 0=i) {l:List Nat} {x f:Nat} (hx:x<l.length) (hl:l.length≤4) (hfx:l.getD x 0=f) (hf:f<4) (h1:EA (i % 6)≠f) (h2:EB (i % 6)≠f) {rev0 rev:List (Int × Bool)} (hr:Vs rev0 rev (C.getD i0 0) st.2.2) :
    ∃ rev',Vs rev0 rev' (C.getD i0 0) (K5 ts i f st).2.2∧∀ R,Aa (fun K k=>Al.l1 K k ts (i:Int) (qi:Int) C (EA (i % 6):Int) (EB (i % 6):Int) (ints l) (K5 ts i f st).1 (ints (K5 ts i f st).2.1) rev' ((x+1:Nat):Int)) R →
      Aa (fun K k=>Al.l1 K k ts (i:Int) (qi:Int) C (EA (i % 6):Int) (EB (i % 6):Int) (ints l) st.1 (ints st.2.1) rev (x:Int)) R:=by
  have h8:=hv.le
  have him:i ∈ st.2.1:=by rw [← hi,List.getD_eq_getElem?_getD,List.getElem?_eq_getElem hq]; exact List.getElem_mem hq
  obtain ⟨hiN,hic⟩:=h.inn i him
  have ha:i / 6<ts.length:=by omega
  have he:i % 6<6:=by omega
  have h4:=hv.four (i / 6) ha
  have hfl:(ints l).getD x 0=(f:Int):=by rw [Ku hx,hfx]
  have hw:w64 ((i:Int).tdiv 6)=((i / 6:Nat):Int):=by rw [eQ,He (by omega) (by omega)]
  rcases Ep hv ha hf with ⟨g1,g2⟩ | ⟨g1,b,p,hb,hp,g2,g3⟩
  · have hn:nbr ts i f=none:=by unfold nbr; rw [if_neg (by rintro (e | e) <;> contradiction),if_pos g1]
    have hs:K5 ts i f st=st:=by unfold Go.Proofs.YtbjfinndngafoaaGreat.K5; rw [hn]
    rw [hs]
    refine ⟨rev,hr,fun R hR=>Aa.step (fun K k=>?_) hR⟩
    rw [Al.l1,if_pos (by rw [H5]; omega),if_pos (by rw [H5]; omega),hw,Int.toNat_natCast,if_pos (by omega),hfl,Int.toNat_natCast,if_pos (by omega),Int.toNat_natCast,Fs,Be (by omega)]
    show (Bi.f (Cg ts (i / 6) f).Tet (Cg ts (i / 6) f).Perm).bind _=_
    rw [isB hv,Option.bind_some,decide_eq_true g1,if_pos rfl]
  · obtain ⟨q1,q2,q3⟩:=EAB he
    obtain ⟨p1,p2,p3,p4⟩:=Na hp he
    have hn:nbr ts i f=some (6 * b+EE (PA p (EA (i % 6))) (PA p (EB (i % 6))),decide (PA p (EB (i % 6))<PA p (EA (i % 6)))):=by
      have:=Nt hv (a:=i / 6) he h1 h2 g2
      rwa [show 6 * (i / 6)+i % 6=i by omega] at this
    have hs:K5 ts i f st=stp i st (6 * b+EE (PA p (EA (i % 6))) (PA p (EB (i % 6))),decide (PA p (EB (i % 6))<PA p (EA (i % 6)))):=by unfold Go.Proofs.YtbjfinndngafoaaGreat.K5; rw [hn]
    obtain ⟨k1,k2⟩:=hC i f _ _ hiN hf hn
    obtain ⟨rev',e1,e2,e3⟩:=vN hv hCl hC h hq (fl:=decide (PA p (EB (i % 6))<PA p (EA (i % 6)))) k1 (k2.trans hic) hr
    rw [hi] at e1 e2 e3
    rw [hs]
    have hfx2:(ts.getD (i / 6) []).getD f Bj=⟨b,p⟩:=g2
    refine ⟨rev',e2,fun R hR=>Aa.step (G:=fun K k=>D7 (Ct.f K (p:Int)) (fun t122 t123 t124 t125=>(if 0≤(EA (i % 6):Int)∧(EA (i % 6):Int)<4 then (if 0≤(EB (i % 6):Int)∧(EB (i % 6):Int)<4 then ((Ha.f K (([t122,t123,t124,t125]:List Int).getD (EA (i % 6):Int).toNat 0) (([t122,t123,t124,t125]:List Int).getD (EB (i % 6):Int).toNat 0)).bind fun t134=>((Ka.f (w64 ((([t122,t123,t124,t125]:List Int).getD (EB (i % 6):Int).toNat 0) - (([t122,t123,t124,t125]:List Int).getD (EA (i % 6):Int).toNat 0)))).bind fun t138=>(Jk (Cv.f (w64 ((w64 (6 * (b:Int)))+t134)) t138 st.1 (ints st.2.1) (qi:Int) rev C) (fun t142 t143 t144=>(if t142.length=st.1.length then (Al.l1 K k ts (i:Int) (qi:Int) C (EA (i % 6):Int) (EB (i % 6):Int) (ints l) t142 t143 t144 ((x+1:Nat):Int)) else none))))) else none) else none))) (fun K k=>?_) (Aa.D7 (Kz hp).two (Aa.pos (by omega) (Aa.pos (by omega) (Aa.bind (a:=((EE (PA p (EA (i % 6))) (PA p (EB (i % 6))):Nat):Int)) ?_ ?_))))⟩
    · rw [Al.l1,if_pos (by rw [H5]; omega),if_pos (by rw [H5]; omega),hw,Int.toNat_natCast,if_pos (by omega),hfl,Int.toNat_natCast,if_pos (by omega),Int.toNat_natCast,Fs,Be (by omega),hfx2,yE b p,Option.bind_some,if_neg (by decide)]
    · refine Aa.congr (fun K k=>?_) (eT p1 p2 p3).two
      rw [Qy (k:=EA (i % 6)) (by omega),Qy (k:=EB (i % 6)) q2]
    · have hsg:Ka.f (w64 ((([(PA p 0:Int),(PA p 1:Int),(PA p 2:Int),(PA p 3:Int)]:List Int).getD (EB (i % 6):Int).toNat 0) - (([(PA p 0:Int),(PA p 1:Int),(PA p 2:Int),(PA p 3:Int)]:List Int).getD (EA (i % 6):Int).toNat 0)))=some (bif decide (PA p (EB (i % 6))<PA p (EA (i % 6))) then -1 else 1):=by
        rw [Qy (k:=EA (i % 6)) (by omega),Qy (k:=EB (i % 6)) q2,He (by omega) (by omega)]
        unfold Ka.f
        by_cases hlt:PA p (EB (i % 6))<PA p (EA (i % 6))
        · rw [if_pos (by omega),decide_eq_true hlt]; rfl
        · rw [if_neg (by omega),decide_eq_false hlt]; rfl
      have e6:=w6 (c:=6) (a:=b) (e:=EE (PA p (EA (i % 6))) (PA p (EB (i % 6)))) (by decide) (by omega) (by omega)
      refine Aa.Nz hsg ?_
      refine Aa.congr (fun K k=>?_) hR
      show Jk (Cv.f (w64 ((w64 (((6:Nat):Int) * (b:Int)))+_)) _ _ _ _ _ _) _=_
      rw [e6,e1]
      show (if _ then _ else _)=_
      rw [if_pos e3]
theorem yD {sg0:List Int} {i0:Nat} {st:Oa} (h:Sr ts (6 * ts.length) C sg0 i0 st) {qi:Nat} (hq:qi<st.2.1.length) {i:Nat} (hi:st.2.1.getD qi 0=i) {rev0 rev:List (Int × Bool)} (hr:Vs rev0 rev (C.getD i0 0) st.2.2) :
    ∃ rev',Vs rev0 rev' (C.getD i0 0) (L8 ts i st 4).2.2∧Ac (fun K=>Al.f K ts (i:Int) st.1 (ints st.2.1) (qi:Int) rev C) ((L8 ts i st 4).1,ints (L8 ts i st 4).2.1,rev'):=by
  have him:i ∈ st.2.1:=by rw [← hi,List.getD_eq_getElem?_getD,List.getElem?_eq_getElem hq]; exact List.getElem_mem hq
  have he:i % 6<6:=by omega
  obtain ⟨q1,q2,q3⟩:=EAB he
  obtain ⟨f,g,ho,hf,hg,a1,a2,b1,b2⟩:=Zv he
  obtain ⟨s1,_,_,r,e⟩:=h.K5 hv hCl hC him hf
  have hq':qi<(K5 ts i f st).2.1.length:=by rw [e,List.length_append]; omega
  have hi':(K5 ts i f st).2.1.getD qi 0=i:=by rw [e,List.getD_eq_getElem?_getD,List.getElem?_append_left hq,← List.getD_eq_getElem?_getD]; exact hi
  obtain ⟨rev1,g1,c1⟩:=aU hv hCl hC h hq hi (l:=[f,g]) (x:=0) (f:=f) (by simp) (by simp) rfl hf a1 a2 hr
  obtain ⟨rev2,g2,c2⟩:=aU hv hCl hC s1 hq' hi' (l:=[f,g]) (x:=1) (f:=g) (by simp) (by simp) rfl hg b1 b2 g1
  rw [fT ts i st ho]
  refine ⟨rev2,g2,Ac.Ew (a:=(EA (i % 6):Int)) (b:=(EB (i % 6):Int)) ?_ (Ac.bind (a:=ints (OT [EA (i % 6),EB (i % 6)])) (Vb (by omega) q2 (by omega)) ?_)⟩
  · rw [jL]; exact Vy he
  · rw [ho]
    refine (c1 _ (c2 _ (Aa.of fun K k=>?_))).Hg
    rw [Al.l1,if_neg (by simp [ints])]
end
section
variable {ts:List (List Ab)} (hv:Val ts) {C:List Int} (hCl:C.length=6 * ts.length) (hC:∀ i f j fl,i<6 * ts.length→f<4→nbr ts i f=some (j,fl)→j<6 * ts.length∧C.getD j 0=C.getD i 0)
include hv hCl hC
theorem Sr.L8 {sg0:List Int} {i0:Nat} {st:Oa} (h:Sr ts (6 * ts.length) C sg0 i0 st) {i:Nat} (hi:i ∈ st.2.1):∀ {m:Nat},m≤4 →
    Sr ts (6 * ts.length) C sg0 i0 (L8 ts i st m)∧(∀ j,j<6 * ts.length→st.1.getD j 0≠0→(Go.Proofs.YtbjfinndngafoaaGreat.L8 ts i st m).1.getD j 0≠0)∧(∀ f,f<m→∀ j fl,nbr ts i f=some (j,fl)→(Go.Proofs.YtbjfinndngafoaaGreat.L8 ts i st m).1.getD j 0≠0)∧∃ r,(Go.Proofs.YtbjfinndngafoaaGreat.L8 ts i st m).2.1=st.2.1++r
  | 0,_=>⟨h,fun j _ hj=>hj,fun f hf=>by omega,[],by simp [Go.Proofs.YtbjfinndngafoaaGreat.L8]⟩
  | m+1,hm=>by
    obtain ⟨h1,h2,h3,r,h4⟩:=Sr.L8 h hi (m:=m) (by omega)
    obtain ⟨g1,g2,g3,r',g4⟩:=h1.K5 hv hCl hC (i:=i) (f:=m) (by rw [h4]; exact List.mem_append_left _ hi) (by omega)
    refine ⟨g1,fun j hj hn=>g2 j hj (h2 j hj hn),fun f hf j fl hn=>?_,r++r',by rw [Go.Proofs.YtbjfinndngafoaaGreat.L8,g4,h4,List.append_assoc]⟩
    by_cases e:f=m
    · subst e; exact g3 j fl hn
    · have hiN:=(h.inn i hi).1
      exact g2 j (hC i f j fl hiN (by omega) hn).1 (h3 f (by omega) j fl hn)
theorem kU {sg0:List Int} {i0:Nat} {st:Oa} (h:Sr ts (6 * ts.length) C sg0 i0 st) {rv:List Bool} {q1:List Nat} {qi:Nat} (hq:qi<q1.length) {i:Nat} (hi:q1.getD qi 0=i) {r:List Nat} (hr:st.2.1=q1++r) {f:Nat} (hf:f<4):∀ R,
    Aa (fun K k=>Ao.l74 K k ts (ts.length:Int) rv (i0:Int) (ints q1) (qi:Int) (EA (i % 6):Int) (EB (i % 6):Int) (K5 ts i f st).1 (ints (K5 ts i f st).2.1) (K5 ts i f st).2.2 ((f+1:Nat):Int)) R →
    Aa (fun K k=>Ao.l74 K k ts (ts.length:Int) rv (i0:Int) (ints q1) (qi:Int) (EA (i % 6):Int) (EB (i % 6):Int) st.1 (ints st.2.1) st.2.2 (f:Int)) R:=by
  intro R hR
  have h8:=hv.le
  have hql:=h.aB
  have hq':qi<st.2.1.length:=by rw [hr,List.length_append]; omega
  have hi':st.2.1.getD qi 0=i:=by rw [hr,List.getD_eq_getElem?_getD,List.getElem?_append_left hq,← List.getD_eq_getElem?_getD]; exact hi
  have him:i ∈ st.2.1:=by rw [← hi',List.getD_eq_getElem?_getD,List.getElem?_eq_getElem hq']; exact List.getElem_mem hq'
  obtain ⟨hiN,hic⟩:=h.inn i him
  have hl:=h.len
  have ha:i / 6<ts.length:=by omega
  have he:i % 6<6:=by omega
  have h4:=hv.four (i / 6) ha
  obtain ⟨q1',q2,q3⟩:=EAB he
  have hqv:(ints q1).getD qi 0=(i:Int):=by rw [Ku hq,hi]
  have hqv':(ints st.2.1).getD qi 0=(i:Int):=by rw [Ku hq',hi']
  have hw:w64 ((i:Int).tdiv 6)=((i / 6:Nat):Int):=by rw [eQ,He (by omega) (by omega)]
  rcases Ep hv ha hf with ⟨g1,g2⟩ | ⟨g1,b,p,hb,hp,g2,g3⟩
  · have hs:K5 ts i f st=st:=by
      unfold Go.Proofs.YtbjfinndngafoaaGreat.K5 nbr
      by_cases hc:EA (i % 6)=f∨EB (i % 6)=f
      · rw [if_pos hc]
      · rw [if_neg hc,if_pos g1]
    rw [hs] at hR
    have hfx2:(ts.getD (i / 6) []).getD f Bj=⟨-1,0⟩:=g2
    refine Aa.step (fun K k=>?_) hR
    rw [Ao.l74,if_pos (by omega),Int.toNat_natCast,hqv,hw,Int.toNat_natCast,if_pos (by omega),Int.toNat_natCast,if_pos (by omega),Fs,hfx2,if_pos (by decide),Be (by omega)]
  · have hfx2:(ts.getD (i / 6) []).getD f Bj=⟨b,p⟩:=g2
    by_cases hc:EA (i % 6)=f∨EB (i % 6)=f
    · have hs:K5 ts i f st=st:=X7 hc
      rw [hs] at hR
      refine Aa.step (fun K k=>?_) hR
      rw [Ao.l74,if_pos (by omega),Int.toNat_natCast,hqv,hw,Int.toNat_natCast,if_pos (by omega),Int.toNat_natCast,if_pos (by omega),Fs,hfx2,if_neg (by show ¬ (b:Int)<0; omega),Be (by omega)]
      by_cases e1:EA (i % 6)=f
      · rw [if_pos (by omega)]
      · rw [if_neg (by omega),if_pos (by omega)]
    · have c1:EA (i % 6)≠f:=fun e=>hc (.inl e)
      have c2:EB (i % 6)≠f:=fun e=>hc (.inr e)
      obtain ⟨p1,p2,p3,p4⟩:=Na hp he
      have hn:nbr ts i f=some (6 * b+EE (PA p (EA (i % 6))) (PA p (EB (i % 6))),decide (PA p (EB (i % 6))<PA p (EA (i % 6)))):=by
        have:=Nt hv (a:=i / 6) he c1 c2 g2
        rwa [show 6 * (i / 6)+i % 6=i by omega] at this
      have hs:K5 ts i f st=stp i st (6 * b+EE (PA p (EA (i % 6))) (PA p (EB (i % 6))),decide (PA p (EB (i % 6))<PA p (EA (i % 6)))):=by unfold Go.Proofs.YtbjfinndngafoaaGreat.K5; rw [hn]
      obtain ⟨k1,k2⟩:=hC i f _ _ hiN hf hn
      rw [hs] at hR
      have hvi:=h.val i hiN
      obtain ⟨j,hj⟩:∃ j,j=6 * b+EE (PA p (EA (i % 6))) (PA p (EB (i % 6))):=⟨_,rfl⟩
      obtain ⟨fl,hfl⟩:∃ fl,fl=decide (PA p (EB (i % 6))<PA p (EA (i % 6))):=⟨_,rfl⟩
      obtain ⟨wt,hwt⟩:∃ wt,wt=bif fl then - st.1.getD i 0 else st.1.getD i 0:=⟨_,rfl⟩
      rw [← hj] at k1
      rw [← hj,← hfl] at hR
      have e6:w64 ((w64 (6 * (b:Int)))+((EE (PA p (EA (i % 6))) (PA p (EB (i % 6))):Nat):Int))=(j:Int):=by
        have:=w6 (c:=6) (a:=b) (e:=EE (PA p (EA (i % 6))) (PA p (EB (i % 6)))) (by decide) (by omega) (by omega)
        rw [hj]; exact this
      have hwant:(if ((PA p (EB (i % 6)):Nat):Int)<((PA p (EA (i % 6)):Nat):Int) then w64 (0 - (st.1.getD i 0)) else st.1.getD i 0)=wt:=by
        rw [hwt,hfl]
        by_cases hlt:PA p (EB (i % 6))<PA p (EA (i % 6))
        · rw [if_pos (by omega),decide_eq_true hlt,He (by omega) (by omega)]; show _ = - st.1.getD i 0; omega
        · rw [if_neg (by omega),decide_eq_false hlt]; rfl
      have j80:∀ (sg':List Int) (q':List Int) (bad':Bool),sg'.length=6 * ts.length→(bif st.2.2 then true else !decide (sg'.getD j 0=wt))=bad'→Aa (fun K k=>Ao.l74 K k ts (ts.length:Int) rv (i0:Int) (ints q1) (qi:Int) (EA (i % 6):Int) (EB (i % 6):Int) sg' q' bad' ((f+1:Nat):Int)) R →
          Aa (fun K k=>Ao.j80 K k ts (ts.length:Int) rv (i0:Int) (ints q1) (qi:Int) (EA (i % 6):Int) (EB (i % 6):Int) st.2.2 (f:Int) ⟨b,p⟩ ((EE (PA p (EA (i % 6))) (PA p (EB (i % 6))):Nat):Int) wt sg' q') R:=fun sg' q' bad' hl' hb' ht=>by
        refine Aa.step (fun K k=>?_) ht
        rw [Ao.j80,e6,Int.toNat_natCast,Be (by omega),← hb']
        cases st.2.2 with
        | true=>rw [if_pos rfl]; rfl
        | false=>rw [if_neg (by decide),if_pos (by omega)]; rfl
      have j79:Aa (fun K k=>Ao.j79 K k ts (ts.length:Int) rv (i0:Int) (ints q1) (qi:Int) (EA (i % 6):Int) (EB (i % 6):Int) st.1 (ints st.2.1) st.2.2 (f:Int) ⟨b,p⟩ ((EE (PA p (EA (i % 6))) (PA p (EB (i % 6))):Nat):Int) wt) R:=by
        by_cases h0:st.1.getD j 0=0
        · have hst:stp i st (j,fl)=(st.1.set j wt,st.2.1++[j],st.2.2):=by unfold stp; simp only []; rw [if_pos h0,hwt]
          rw [hst] at hR
          refine Aa.step (fun K k=>?_) (j80 (st.1.set j wt) (ints st.2.1++[(j:Int)]) st.2.2 (by rw [List.length_set]; exact hl) (by rw [Xk (by omega),if_pos rfl,decide_eq_true rfl]; cases st.2.2 <;> rfl) (by rw [← Yd]; exact hR))
          rw [Ao.j79,e6,if_pos (by omega),Int.toNat_natCast,if_pos h0,if_pos (by rw [H5]; omega)]
        · have hst:stp i st (j,fl)=(st.1,st.2.1,st.2.2 || !decide (st.1.getD j 0=wt)):=by unfold stp; simp only []; rw [if_neg h0,hwt]
          rw [hst] at hR
          refine Aa.step (fun K k=>?_) (j80 st.1 (ints st.2.1) (st.2.2 || !decide (st.1.getD j 0=wt)) hl (by cases st.2.2 <;> rfl) hR)
          rw [Ao.j79,e6,if_pos (by omega),Int.toNat_natCast,if_neg h0]
      refine Aa.step (G:=fun K k=>(Bq.f K (p:Int) (EA (i % 6):Int)).bind fun t1847=>(Bq.f K (p:Int) (EB (i % 6):Int)).bind fun t1851=>(E8.f K t1847 t1851).bind fun t1855=>if t1851<t1847 then Ao.j79 K k ts (ts.length:Int) rv (i0:Int) (ints q1) (qi:Int) (EA (i % 6):Int) (EB (i % 6):Int) st.1 (ints st.2.1) st.2.2 (f:Int) ⟨b,p⟩ t1855 (w64 (0 - (st.1.getD i 0))) else Ao.j79 K k ts (ts.length:Int) rv (i0:Int) (ints q1) (qi:Int) (EA (i % 6):Int) (EB (i % 6):Int) st.1 (ints st.2.1) st.2.2 (f:Int) ⟨b,p⟩ t1855 (st.1.getD i 0)) (fun K k=>?_) (Aa.bind (Mr hp (by omega)).two (Aa.bind (Mr hp q2).two (Aa.bind (Wm p1 p2 p3).two ?_)))
      · rw [Ao.l74,if_pos (by omega),Int.toNat_natCast,hqv,hw,Int.toNat_natCast,if_pos (by omega),Int.toNat_natCast,if_pos (by omega),Fs,hfx2,if_neg (by show ¬ (b:Int)<0; omega),if_neg (by omega),if_neg (by omega),hqv',Int.toNat_natCast]
        simp only [H5,hl,show (0≤(qi:Int)∧(qi:Int)<(st.2.1.length:Int)) from ⟨by omega,by omega⟩,show (0≤(i:Int)∧(i:Int)<((6 * ts.length:Nat):Int)) from ⟨by omega,by omega⟩,and_self,if_true]
      · by_cases hlt:((PA p (EB (i % 6)):Nat):Int)<((PA p (EA (i % 6)):Nat):Int)
        · rw [if_pos hlt] at hwant
          exact Aa.pos hlt (by rw [hwant]; exact j79)
        · rw [if_neg hlt] at hwant
          exact Aa.neg hlt (by rw [hwant]; exact j79)
theorem lI {sg0:List Int} {i0:Nat} {st:Oa} (h:Sr ts (6 * ts.length) C sg0 i0 st) {rv:List Bool} {qi:Nat} (hq:qi<st.2.1.length) {i:Nat} (hi:st.2.1.getD qi 0=i):∀ R,
    Aa (fun K k=>Ao.l57 K k ts (ts.length:Int) rv (i0:Int) (L8 ts i st 4).1 (ints (L8 ts i st 4).2.1) (L8 ts i st 4).2.2 ((qi+1:Nat):Int)) R →
    Aa (fun K k=>Ao.l74 K k ts (ts.length:Int) rv (i0:Int) (ints st.2.1) (qi:Int) (EA (i % 6):Int) (EB (i % 6):Int) st.1 (ints st.2.1) st.2.2 0) R:=by
  intro R hR
  have hql:=h.aB
  have h8:=hv.le
  have him:i ∈ st.2.1:=by rw [← hi,List.getD_eq_getElem?_getD,List.getElem?_eq_getElem hq]; exact List.getElem_mem hq
  have key:∀ m,m≤4→Aa (fun K k=>Ao.l74 K k ts (ts.length:Int) rv (i0:Int) (ints st.2.1) (qi:Int) (EA (i % 6):Int) (EB (i % 6):Int) (L8 ts i st m).1 (ints (L8 ts i st m).2.1) (L8 ts i st m).2.2 (m:Int)) R→Aa (fun K k=>Ao.l74 K k ts (ts.length:Int) rv (i0:Int) (ints st.2.1) (qi:Int) (EA (i % 6):Int) (EB (i % 6):Int) st.1 (ints st.2.1) st.2.2 0) R:=by
    intro m
    induction m with
    | zero=>intro _ ht; exact ht
    | succ m ih =>
      intro hm ht
      obtain ⟨h1,_,_,r,h4⟩:=h.L8 hv hCl hC him (m:=m) (by omega)
      exact ih (by omega) (kU hv hCl hC h1 hq hi h4 (f:=m) (by omega) R ht)
  refine key 4 (by omega) (Aa.step (fun K k=>?_) hR)
  rw [Ao.l74,if_neg (by decide),Be (by omega)]
theorem bfs {sg0:List Int} {i0:Nat} {rv:List Bool} {rev0:List (Int × Bool)} (hi0:i0<6 * ts.length):∀ (d qi:Nat) (st:Oa) (rev:List (Int × Bool)),6 * ts.length - qi=d→Sr ts (6 * ts.length) C sg0 i0 st→qi≤st.2.1.length→(∀ t,t<qi→∀ f,f<4→∀ j fl,nbr ts (st.2.1.getD t 0) f=some (j,fl)→st.1.getD j 0≠0)→Vs rev0 rev (C.getD i0 0) st.2.2 →
    ∃ st' rev',Sr ts (6 * ts.length) C sg0 i0 st'∧(∀ t,t<st'.2.1.length→∀ f,f<4→∀ j fl,nbr ts (st'.2.1.getD t 0) f=some (j,fl)→st'.1.getD j 0≠0)∧Vs rev0 rev' (C.getD i0 0) st'.2.2 ∧
      (∀ R,Aa (fun K k=>Ao.l81 K k ts (ts.length:Int) (i0:Int) st'.1 (ints st'.2.1) st'.2.2 rv 0) R→Aa (fun K k=>Ao.l57 K k ts (ts.length:Int) rv (i0:Int) st.1 (ints st.2.1) st.2.2 (qi:Int)) R) ∧
      (∀ R,Aa (fun K k=>Am.l1 K k ts (ts.length:Int) C st'.1 rev' ((i0+1:Nat):Int)) R→Aa (fun K k=>Am.l6 K k ts (ts.length:Int) C (i0:Int) st.1 rev (ints st.2.1) (qi:Int)) R):=by
  intro d
  have h8:=hv.le
  induction d with
  | zero =>
    intro qi st rev hd h hq hp hr
    have hql:=h.aB
    have:qi=st.2.1.length:=by omega
    refine ⟨st,rev,h,by rw [← this]; exact hp,hr,fun R hR=>Aa.step (fun K k=>?_) hR,fun R hR=>Aa.step (fun K k=>?_) hR⟩
    · rw [Ao.l57,if_neg (by rw [H5]; omega)]
    · rw [Am.l6,if_neg (by rw [H5]; omega),Be (by omega)]
  | succ d ih =>
    intro qi st rev hd h hq hp hr
    have hql:=h.aB
    by_cases hlt:qi<st.2.1.length
    · obtain ⟨i,hi⟩:∃ i,st.2.1.getD qi 0=i:=⟨_,rfl⟩
      have him:i ∈ st.2.1:=by rw [← hi,List.getD_eq_getElem?_getD,List.getElem?_eq_getElem hlt]; exact List.getElem_mem hlt
      obtain ⟨h1,h2,h3,r,h4⟩:=h.L8 hv hCl hC him (m:=4) (Nat.le_refl _)
      obtain ⟨rev1,g1,t1⟩:=yD hv hCl hC h hlt hi hr
      have hg:∀ t,t<st.2.1.length→(L8 ts i st 4).2.1.getD t 0=st.2.1.getD t 0:=fun t ht=>by rw [h4,List.getD_eq_getElem?_getD,List.getElem?_append_left ht,← List.getD_eq_getElem?_getD]
      obtain ⟨st',rev',k1,k2,k3,k4,k5⟩:=ih (qi+1) (L8 ts i st 4) rev1 (by omega) h1 (by rw [h4,List.length_append]; omega) (fun t ht f hf j fl hn=>by
        rw [hg t (by omega)] at hn
        by_cases e:t=qi
        · rw [e,hi] at hn; exact h3 f hf j fl hn
        · have hm:st.2.1.getD t 0 ∈ st.2.1:=by rw [List.getD_eq_getElem?_getD,List.getElem?_eq_getElem (by omega:t<st.2.1.length)]; exact List.getElem_mem _
          exact h2 j (hC _ f j fl (h.inn _ hm).1 hf hn).1 (hp t (by omega) f hf j fl hn)) g1
      refine ⟨st',rev',k1,k2,k3,fun R hR=>?_,fun R hR=>?_⟩
      · refine Aa.step (fun K k=>?_) (lI hv hCl hC h hlt hi R (k4 R hR))
        rw [Ao.l57,if_pos (by rw [H5]; omega),if_pos (by rw [H5]; omega),Int.toNat_natCast,Ku hlt,hi,jL,O5 (by omega)]
        rfl
      · refine Aa.step (fun K k=>?_) (Aa.Jk (F:=fun K _=>Al.f K ts (i:Int) st.1 (ints st.2.1) (qi:Int) rev C) (G:=fun K k t259 t260 t261=>if t259.length=st.1.length then Am.l6 K k ts (ts.length:Int) C (i0:Int) t259 t261 t260 ((qi+1:Nat):Int) else none) t1.two (Aa.pos (by rw [h1.len,h.len]) (k5 R hR)))
        rw [Am.l6,if_pos (by rw [H5]; omega),if_pos (by rw [H5]; omega),Int.toNat_natCast,Ku hlt,hi,Be (by omega)]
    · have:qi=st.2.1.length:=by omega
      refine ⟨st,rev,h,by rw [← this]; exact hp,hr,fun R hR=>Aa.step (fun K k=>?_) hR,fun R hR=>Aa.step (fun K k=>?_) hR⟩
      · rw [Ao.l57,if_neg (by rw [H5]; omega)]
      · rw [Am.l6,if_neg (by rw [H5]; omega),Be (by omega)]
end
theorem Yt {l:List Bool} {i j:Nat} {v:Bool} (hi:i<l.length):(l.set i v).getD j false=if i=j then v else l.getD j false:=by
  rw [List.getD_eq_getElem?_getD]
  by_cases h:i=j
  · subst h; rw [List.getElem?_set_self hi,if_pos rfl]; rfl
  · rw [List.getElem?_set_ne h,if_neg h,List.getD_eq_getElem?_getD]
theorem O8 {l l':List Int} {n:Nat} (h:l.length=n) (h':l'.length=n) (e:∀ i,i<n→l.getD i 0=l'.getD i 0):l=l':=by
  apply List.ext_getElem?
  intro i
  by_cases hi:i<n
  · rw [getD_some (d:=0) (by omega:i<l.length),getD_some (d:=0) (by omega:i<l'.length),e i hi]
  · rw [List.getElem?_eq_none (by omega),List.getElem?_eq_none (by omega)]
structure Out (N:Nat) (C sg:List Int) (rv:List Bool) (rev:List (Int × Bool)):Prop where
  len:sg.length=N
  rR:rv.length=N
  sat:∀ i j,i<N→j<N→C.getD i 0=C.getD j 0→sg.getD i 0≠0→sg.getD j 0≠0
  val:∀ j,j<N→sg.getD j 0=0∨sg.getD j 0=1∨sg.getD j 0 = -1
  yes:∀ j,j<N→sg.getD j 0≠0→rv.getD j false=(Jn rev (C.getD j 0)).getD false
  no:∀ j,j<N→sg.getD j 0=0→Jn rev (C.getD j 0)=none
section
variable {ts:List (List Ab)} (hv:Val ts) {s:List Int} (hP:G7 (6 * ts.length) (JE ts) s)
include hv hP
theorem fA:∀ i f j fl,i<6 * ts.length→f<4→nbr ts i f=some (j,fl)→j<6 * ts.length∧(CN (6 * ts.length) s).getD j 0=(CN (6 * ts.length) s).getD i 0:=fun i f j fl hi hf h=>by
  have hm:=tZ hv hi hf h
  have hj:=(hP.inn _ hm).2
  exact ⟨hj,((O4 _ s).same j i hj hi (hP.one _ hm).symm)⟩
theorem fH {sg:List Int} {bad:Bool} {i0:Nat} {R:List (List Int)} {q:List Nat} (hq:∀ j,j ∈ q→j<6 * ts.length) (hql:q.length≤100) (hi0:i0<6 * ts.length) {rv0:List Bool}:∀ (d t:Nat) (rv:List Bool),q.length - t=d→t≤q.length→rv.length=6 * ts.length→(∀ j,rv.getD j false=if j ∈ q.take t then bad else rv0.getD j false) →
    ∃ rv',rv'.length=6 * ts.length∧(∀ j,rv'.getD j false=if j ∈ q then bad else rv0.getD j false)∧(Aa (fun K k=>Ao.l1 K k ts (ts.length:Int) sg rv' ((i0+1:Nat):Int)) R→Aa (fun K k=>Ao.l81 K k ts (ts.length:Int) (i0:Int) sg (ints q) bad rv (t:Int)) R)
  | 0,t,rv,hd,ht,hl,hr=>by
    have h8:=hv.le
    obtain rfl:t=q.length:=by omega
    refine ⟨rv,hl,by rw [List.take_length] at hr; exact hr,fun hR=>Aa.step (fun K k=>?_) hR⟩
    rw [Ao.l81,if_neg (by rw [H5]; omega),Be (by omega)]
  | d+1,t,rv,hd,ht,hl,hr=>by
    have hlt:t<q.length:=by omega
    have hm:q.getD t 0 ∈ q:=by rw [List.getD_eq_getElem?_getD,List.getElem?_eq_getElem hlt]; exact List.getElem_mem hlt
    have hb:=hq _ hm
    obtain ⟨rv',h1,h2,h3⟩:=fH hq hql hi0 (rv0:=rv0) d (t+1) (rv.set (q.getD t 0) bad) (by omega) (by omega) (by rw [List.length_set]; exact hl) (fun j=>by
      rw [Yt (by omega),hr j,List.take_add_one,List.getElem?_eq_getElem hlt]
      simp only [Option.toList_some,List.mem_append,List.mem_singleton]
      have e:q[t]=q.getD t 0:=by rw [List.getD_eq_getElem?_getD,List.getElem?_eq_getElem hlt]; rfl
      rw [e]
      by_cases h4:q.getD t 0=j
      · rw [if_pos h4,if_pos (.inr h4.symm)]
      · rw [if_neg h4]
        by_cases h5:j ∈ q.take t
        · rw [if_pos h5,if_pos (.inl h5)]
        · rw [if_neg h5,if_neg (by rintro (h6 | h6); exact h5 h6; exact h4 h6.symm)])
    refine ⟨rv',h1,h2,fun hR=>Aa.step (fun K k=>?_) (h3 hR)⟩
    rw [Ao.l81,if_pos (by rw [H5]; omega),if_pos (by rw [H5]; omega),Int.toNat_natCast,Ku hlt,Int.toNat_natCast,if_pos (by omega),Be (by omega)]
theorem outer:∀ (d x:Nat) (sg:List Int) (rv:List Bool) (rev:List (Int × Bool)),6 * ts.length - x=d→x≤6 * ts.length→Out (6 * ts.length) (CN (6 * ts.length) s) sg rv rev→(∀ j,j<x→sg.getD j 0≠0) →
    ∃ sg' rv' rev',Out (6 * ts.length) (CN (6 * ts.length) s) sg' rv' rev'∧(∀ j,j<6 * ts.length→sg'.getD j 0≠0) ∧
      (∀ R,Aa (fun K k=>Ao.l82 K k (ts.length:Int) sg' rv' [] 0) R→Aa (fun K k=>Ao.l1 K k ts (ts.length:Int) sg rv (x:Int)) R) ∧
      (∀ R,Aa (fun K k=>Am.l7 K k (CN (6 * ts.length) s) sg' rev' sg' 0) R→Aa (fun K k=>Am.l1 K k ts (ts.length:Int) (CN (6 * ts.length) s) sg rev (x:Int)) R)
  | 0,x,sg,rv,rev,hd,hx,h,hs=>by
    have h8:=hv.le
    obtain rfl:x=6 * ts.length:=by omega
    have e6:w64 (6 * (ts.length:Int))=((6 * ts.length:Nat):Int):=w6' (c:=6) (by decide) (by omega)
    refine ⟨sg,rv,rev,h,hs,fun R hR=>Aa.step (fun K k=>?_) hR,fun R hR=>Aa.step (fun K k=>?_) hR⟩
    · rw [Ao.l1,e6,if_neg (by omega)]
    · rw [Am.l1,e6,if_neg (by omega)]
  | d+1,x,sg,rv,rev,hd,hx,h,hs=>by
    have h8:=hv.le
    have hlt:x<6 * ts.length:=by omega
    have e6:w64 (6 * (ts.length:Int))=((6 * ts.length:Nat):Int):=w6' (c:=6) (by decide) (by omega)
    have hl:=h.len
    by_cases h0:sg.getD x 0=0
    · have hC:=fA hv hP
      have hCl:=La (6 * ts.length) s
      have hsr:Sr ts (6 * ts.length) (CN (6 * ts.length) s) sg x (sg.set x 1,[x],false):=by
        refine ⟨by rw [List.length_set]; exact hl,⟨rfl,by show 0<1; decide⟩,fun j hj=>?_,by simp,fun j hj=>?_,fun j hj=>?_⟩
        · rw [List.mem_singleton.1 hj]; exact ⟨hlt,rfl⟩
        · show (sg.set x 1).getD j 0≠0↔(j ∈ [x]∨_)
          rw [Xk (by omega),List.mem_singleton]
          by_cases e:x=j
          · rw [if_pos e]; exact ⟨fun _=>.inl e.symm,fun _=>by decide⟩
          · rw [if_neg e]; exact ⟨fun h=>.inr h,fun h=>h.elim (fun e'=>absurd e'.symm e) id⟩
        · show (sg.set x 1).getD j 0=0∨_
          rw [Xk (by omega)]
          by_cases e:x=j
          · rw [if_pos e]; exact .inr (.inl rfl)
          · rw [if_neg e]; exact h.val j hj
      obtain ⟨st',rev',k1,k2,k3,k4,k5⟩:=bfs hv hCl hC (rv:=rv) (rev0:=rev) hlt (6 * ts.length) 0 (sg.set x 1,[x],false) rev (by omega) hsr (by show 0≤1; decide) (fun t ht=>by omega) ⟨fun c' _=>rfl,h.no x hlt h0⟩
      have hxq:x ∈ st'.2.1:=by
        have:=k1.head
        rw [← this.1,List.getD_eq_getElem?_getD,List.getElem?_eq_getElem this.2]; exact List.getElem_mem _
      -- the whole class is found
      have clos:∀ i k f fl,f<4→i ∈ st'.2.1→nbr ts i f=some (k,fl)→k ∈ st'.2.1:=fun i k f fl hf hi hn=>by
        obtain ⟨t,ht,he⟩:=List.getElem_of_mem hi
        have hg:st'.2.1.getD t 0=i:=by rw [List.getD_eq_getElem?_getD,List.getElem?_eq_getElem ht,he]; rfl
        obtain ⟨hk,hkc⟩:=hC i f k fl (k1.inn i hi).1 hf hn
        rcases (k1.sgn k hk).1 (k2 t ht f hf k fl (by rw [hg]; exact hn)) with h5 | h5
        · exact h5
        · exact absurd h0 (h.sat k x hk hlt (hkc.trans (k1.inn i hi).2) h5)
      have hQ:∀ p,p ∈ JE ts→(p.1 ∈ st'.2.1↔p.2 ∈ st'.2.1):=fun p hp=>by
        obtain ⟨hi,f,fl,hf,hn⟩:=fZ hv (i:=p.1) (j:=p.2) hp
        constructor
        · exact fun h6=>clos p.1 p.2 f fl hf h6 hn
        · intro h6
          obtain ⟨f',fl',hf',hn'⟩:=Yw hv hi hf hn
          exact clos p.2 p.1 f' fl' hf' h6 hn'
      have full:∀ j,j<6 * ts.length→(CN (6 * ts.length) s).getD j 0=(CN (6 * ts.length) s).getD x 0→j ∈ st'.2.1:=fun j hj he =>
        (hP.min (fun m=>m ∈ st'.2.1) hQ j x hj hlt ((O4 _ s).inj hj hlt he)).2 hxq
      obtain ⟨rv',r1,r2,r3⟩:=fH hv hP (sg:=st'.1) (bad:=st'.2.2) (i0:=x) (R:=[]) (q:=st'.2.1) (fun j hj=>(k1.inn j hj).1) (by have:=k1.aB; omega) hlt (rv0:=rv) st'.2.1.length 0 rv (by omega) (by omega) h.rR (fun j=>by simp)
      have ho:Out (6 * ts.length) (CN (6 * ts.length) s) st'.1 rv' rev':=by
        refine ⟨k1.len,r1,fun i j hi hj he hn=>?_,k1.val,fun j hj hn=>?_,fun j hj hz=>?_⟩
        · rcases (k1.sgn i hi).1 hn with h5 | h5
          · exact (k1.sgn j hj).2 (.inl (full j hj (he.symm.trans (k1.inn i h5).2)))
          · exact (k1.sgn j hj).2 (.inr (h.sat i j hi hj he h5))
        · rw [r2 j]
          by_cases h5:j ∈ st'.2.1
          · rw [if_pos h5,(k1.inn j h5).2,k3.2]
            cases st'.2.2 <;> rfl
          · rw [if_neg h5]
            have h6:sg.getD j 0≠0:=((k1.sgn j hj).1 hn).resolve_left h5
            rw [h.yes j hj h6,k3.1 _ (fun e=>h5 (full j hj e))]
        · have h5:j ∉ st'.2.1:=fun e=>(k1.sgn j hj).2 (.inl e) hz
          have h6:sg.getD j 0=0:=Classical.byContradiction fun e=>(k1.sgn j hj).2 (.inr e) hz
          rw [k3.1 _ (fun e=>h5 (full j hj e))]
          exact h.no j hj h6
      obtain ⟨sg',rv'',rev'',o1,o2,o3,o4⟩:=outer d (x+1) st'.1 rv' rev' (by omega) (by omega) ho (fun j hj=>by
        by_cases e:j=x
        · subst e; exact (k1.sgn j hlt).2 (.inl hxq)
        · exact (k1.sgn j (by omega)).2 (.inr (hs j (by omega))))
      refine ⟨sg',rv'',rev'',o1,o2,fun R hR=>?_,fun R hR=>?_⟩
      · obtain ⟨rv3,u1,u2,u3⟩:=fH hv hP (sg:=st'.1) (bad:=st'.2.2) (i0:=x) (R:=R) (q:=st'.2.1) (fun j hj=>(k1.inn j hj).1) (by have:=k1.aB; omega) hlt (rv0:=rv) st'.2.1.length 0 rv (by omega) (by omega) h.rR (fun j=>by simp)
        have e3:rv3=rv':=by
          apply List.ext_getElem?
          intro j
          by_cases hj:j<6 * ts.length
          · rw [getD_some (d:=false) (by omega:j<rv3.length),getD_some (d:=false) (by omega:j<rv'.length),u2 j,r2 j]
          · rw [List.getElem?_eq_none (by omega),List.getElem?_eq_none (by omega)]
        rw [e3] at u3
        refine Aa.step (fun K k=>?_) (k4 R (u3 (o3 R hR)))
        rw [Ao.l1,e6,if_pos (by omega),if_pos (by omega),Int.toNat_natCast,if_pos h0]
        rfl
      · refine Aa.step (fun K k=>?_) (k5 R (o4 R hR))
        rw [Am.l1,e6,if_pos (by omega),if_pos (by omega),Int.toNat_natCast,if_pos h0]
        rfl
    · obtain ⟨sg',rv'',rev'',o1,o2,o3,o4⟩:=outer d (x+1) sg rv rev (by omega) (by omega) h (fun j hj=>by
        by_cases e:j=x
        · subst e; exact h0
        · exact hs j (by omega))
      refine ⟨sg',rv'',rev'',o1,o2,fun R hR=>Aa.step (fun K k=>?_) (o3 R hR),fun R hR=>Aa.step (fun K k=>?_) (o4 R hR)⟩
      · rw [Ao.l1,e6,if_pos (by omega),if_pos (by omega),Int.toNat_natCast,if_neg h0,Be (by omega)]
      · rw [Am.l1,e6,if_pos (by omega),if_pos (by omega),Int.toNat_natCast,if_neg h0,Be (by omega)]
def sgF (C sg:List Int) (rev:List (Int × Bool)) (i:Nat):Int:=if (Jn rev (C.getD i 0)).getD false=true then 0 else sg.getD i 0
theorem qR {C sg:List Int} {rev:List (Int × Bool)} {N:Nat} (hN:N≤100) (hl:sg.length=N) (hCl:C.length=N):∀ (d x:Nat) (o:List Int),N - x=d→x≤N→o.length=N→(∀ j,j<N→o.getD j 0=if j<x then sgF C sg rev j else sg.getD j 0) →
    Aa (fun K k=>Am.l7 K k C sg rev o (x:Int)) ((List.range N).map (sgF C sg rev))
  | 0,x,o,hd,hx,ho,h=>by
    obtain rfl:x=N:=by omega
    have:o=(List.range x).map (sgF C sg rev):=O8 ho (by simp) (fun i hi=>by
      rw [h i hi,if_pos hi,List.getD_eq_getElem?_getD,List.getElem?_map,List.getElem?_range hi]; rfl)
    rw [← this]
    refine Aa.of fun K k=>?_
    rw [Am.l7,if_neg (by omega)]
  | d+1,x,o,hd,hx,ho,h=>by
    by_cases hc:(Jn rev (C.getD x 0)).getD false=true
    · refine Aa.step (fun K k=>?_) (qR hN hl hCl d (x+1) (o.set x 0) (by omega) (by omega) (by rw [List.length_set]; exact ho) (fun j hj=>?_))
      · rw [Am.l7,if_pos (by omega),if_pos (by omega),Int.toNat_natCast,if_pos hc,if_pos (by omega),Be (by omega)]
      · rw [Xk (by omega),h j hj]
        by_cases e:x=j
        · subst e; rw [if_pos rfl,if_pos (by omega),sgF,if_pos hc]
        · rw [if_neg e]
          by_cases h2:j<x
          · rw [if_pos h2,if_pos (by omega)]
          · rw [if_neg h2,if_neg (by omega)]
    · refine Aa.step (fun K k=>?_) (qR hN hl hCl d (x+1) o (by omega) (by omega) ho (fun j hj=>?_))
      · rw [Am.l7,if_pos (by omega),if_pos (by omega),Int.toNat_natCast,if_neg hc,Be (by omega)]
      · rw [h j hj]
        by_cases e:j=x
        · subst e; rw [if_neg (by omega),if_pos (by omega),sgF,if_neg hc]
        · by_cases h2:j<x
          · rw [if_pos h2,if_pos (by omega)]
          · rw [if_neg h2,if_neg (by omega)]
theorem oU {C sg:List Int} {rv:List Bool} {rev:List (Int × Bool)} (hl:sg.length=6 * ts.length) (hrl:rv.length=6 * ts.length) (hy:∀ j,j<6 * ts.length→rv.getD j false=(Jn rev (C.getD j 0)).getD false) {out:List (List Int)} (ho:out.length≤100) {a:Nat} (ha:a<ts.length) {R:List (List Int)}
    (hR:Aa (fun K k=>Ao.l82 K k (ts.length:Int) sg rv (out++[rowAt ((List.range (6 * ts.length)).map (sgF C sg rev)) 6 a]) ((6 * (a+1):Nat):Int)) R):∀ (d e:Nat),6 - e=d→e≤6 →
    Aa (fun K k=>Ao.l85 K k (ts.length:Int) sg rv out ((6 * a:Nat):Int) ((List.range e).map fun e=>((List.range (6 * ts.length)).map (sgF C sg rev)).getD (6 * a+e) 0) ((6 * a+e:Nat):Int)) R
  | 0,e,hd,he=>by
    have h8:=hv.le
    obtain rfl:e=6:=by omega
    have h1:w64 (((6 * a:Nat):Int)+6)=((6 * (a+1):Nat):Int):=by rw [He (by omega) (by omega)]; omega
    refine Aa.step (fun K k=>?_) hR
    rw [Ao.l85,h1,if_neg (by omega),if_pos (by omega)]
    rfl
  | d+1,e,hd,he=>by
    have h8:=hv.le
    have hin:6 * a+e<6 * ts.length:=mul_lt ha (by omega)
    have h1:w64 (((6 * a:Nat):Int)+6)=((6 * (a+1):Nat):Int):=by rw [He (by omega) (by omega)]; omega
    refine Aa.step (fun K k=>?_) (oU hl hrl hy ho ha hR d (e+1) (by omega) (by omega))
    rw [Ao.l85,h1,if_pos (by omega),if_pos (by omega),Int.toNat_natCast,hy _ hin,Be (by omega),List.range_succ,List.map_append,List.map_singleton]
    have hg:((List.range (6 * ts.length)).map (sgF C sg rev)).getD (6 * a+e) 0=sgF C sg rev (6 * a+e):=by rw [List.getD_eq_getElem?_getD,List.getElem?_map,List.getElem?_range hin]; rfl
    rw [hg]
    unfold sgF
    by_cases hc:(Jn rev (C.getD (6 * a+e) 0)).getD false=true
    · rw [if_pos hc,if_pos hc,if_pos (by rw [List.length_map,List.length_range]; omega)]; rfl
    · rw [if_neg hc,if_neg hc,if_pos (by omega),if_pos (by rw [List.length_map,List.length_range]; omega)]; rfl
theorem pV {C sg:List Int} {rv:List Bool} {rev:List (Int × Bool)} (hl:sg.length=6 * ts.length) (hrl:rv.length=6 * ts.length) (hy:∀ j,j<6 * ts.length→rv.getD j false=(Jn rev (C.getD j 0)).getD false):∀ (d a:Nat),ts.length - a=d→a≤ts.length →
    Aa (fun K k=>Ao.l82 K k (ts.length:Int) sg rv (rowsOf ((List.range (6 * ts.length)).map (sgF C sg rev)) 6 a) ((6 * a:Nat):Int)) (rowsOf ((List.range (6 * ts.length)).map (sgF C sg rev)) 6 ts.length)
  | 0,a,hd,ha=>by
    have h8:=hv.le
    obtain rfl:a=ts.length:=by omega
    have e6:w64 (6 * (ts.length:Int))=((6 * ts.length:Nat):Int):=w6' (c:=6) (by decide) (by omega)
    refine Aa.of fun K k=>?_
    rw [Ao.l82,e6,if_neg (by omega)]
  | d+1,a,hd,ha=>by
    have h8:=hv.le
    have hlt:a<ts.length:=by omega
    have e6:w64 (6 * (ts.length:Int))=((6 * ts.length:Nat):Int):=w6' (c:=6) (by decide) (by omega)
    have ih:=pV hl hrl hy d (a+1) (by omega) (by omega)
    have e:rowsOf ((List.range (6 * ts.length)).map (sgF C sg rev)) 6 (a+1)=rowsOf ((List.range (6 * ts.length)).map (sgF C sg rev)) 6 a++[rowAt ((List.range (6 * ts.length)).map (sgF C sg rev)) 6 a]:=by unfold rowsOf; rw [List.range_succ,List.map_append]; rfl
    rw [e] at ih
    have h10:=oU hv hP hl hrl hy (by rw [Hd]; omega) hlt ih 6 0 (by omega) (by omega)
    refine Aa.step (fun K k=>?_) h10
    rw [Ao.l82,e6,if_pos (by omega)]
    rfl
theorem lG:∃ Sg:List Int,Sg.length=6 * ts.length∧(∀ i j,i<6 * ts.length→j<6 * ts.length→(CN (6 * ts.length) s).getD i 0=(CN (6 * ts.length) s).getD j 0→(Sg.getD i 0=0↔Sg.getD j 0=0)) ∧
    (Ac (fun K=>Bl.f K ts) (CN (6 * ts.length) s)→Ac (fun K=>Am.f K ts) Sg)∧Ac (fun K=>Ao.f K ts) (rowsOf Sg 6 ts.length):=by
  have h8:=hv.le
  have e6:w64 (6 * (ts.length:Int))=((6 * ts.length:Nat):Int):=w6' (c:=6) (by decide) (by omega)
  have hrep:∀ j,(List.replicate (6 * ts.length) (0:Int)).getD j 0=0:=fun j=>by rw [List.getD_eq_getElem?_getD,List.getElem?_replicate]; split <;> rfl
  obtain ⟨sg,rv,rev,o1,o2,o3,o4⟩:=outer hv hP (6 * ts.length) 0 (List.replicate (6 * ts.length) 0) (List.replicate (6 * ts.length) false) [] (by omega) (by omega) ⟨by simp,by simp,fun i j _ _ _ h=>absurd (hrep i) h,fun j _=>.inl (hrep j),fun j _ h=>absurd (hrep j) h,fun j _ _=>rfl⟩ (fun j hj=>by omega)
  have hg:∀ i,i<6 * ts.length→((List.range (6 * ts.length)).map (sgF (CN (6 * ts.length) s) sg rev)).getD i 0=sgF (CN (6 * ts.length) s) sg rev i:=fun i hi=>by rw [List.getD_eq_getElem?_getD,List.getElem?_map,List.getElem?_range hi]; rfl
  refine ⟨(List.range (6 * ts.length)).map (sgF (CN (6 * ts.length) s) sg rev),by simp,fun i j hi hj he=>?_,fun hc=>?_,?_⟩
  · rw [hg i hi,hg j hj]
    unfold sgF
    rw [he]
    have:=o2 i hi
    have:=o2 j hj
    split
    · exact Iff.rfl
    · exact ⟨fun e=>absurd e (o2 i hi),fun e=>absurd e (o2 j hj)⟩
  · have t:=o4 _ (qR hv hP (by omega) o1.len (La _ s) (6 * ts.length) 0 sg (by omega) (by omega) o1.len (fun j hj=>by rw [if_neg (by omega)]))
    refine Ac.Nz (x:=(ts.length:Int)) rfl (Ac.pos (by omega) (Ac.pos (by rw [e6]; omega) (Ac.bind hc ?_)))
    rw [e6,Int.toNat_natCast]
    exact t.Hg
  · have t:=o3 _ (pV hv hP o1.len o1.rR (fun j hj=>o1.yes j hj (o2 j hj)) ts.length 0 (by omega) (by omega))
    refine Ac.Nz (x:=(ts.length:Int)) rfl (Ac.pos (by omega) (Ac.pos (by rw [e6]; omega) (Ac.pos (by rw [e6]; omega) ?_)))
    rw [e6,Int.toNat_natCast]
    exact t.Hg
end
theorem fF {x:List Int} (hl:x.length≤100) (hb:∀ i,i<x.length→0≤x.getD i 0∧x.getD i 0<1000):∀ (d i:Nat) (m:Int),x.length - i=d→i≤x.length→0<i→(∃ j,j<i∧x.getD j 0=m)→(∀ j,j<i→x.getD j 0≤m) →
    ∃ m',Aa (fun K k=>Cz.l2 K k x m (i:Int)) m'∧(∃ j,j<x.length∧x.getD j 0=m')∧∀ j,j<x.length→x.getD j 0≤m'
  | 0,i,m,hd,hi,h0,h1,h2=>by
    obtain rfl:i=x.length:=by omega
    exact ⟨m,Aa.of fun K k=>by rw [Cz.l2,if_neg (by omega)],h1,h2⟩
  | d+1,i,m,hd,hi,h0,⟨j,hj,he⟩,h2=>by
    have hlt:i<x.length:=by omega
    obtain ⟨m',t,g1,g2⟩:=fF hl hb d (i+1) (if x.getD i 0 > m then x.getD i 0 else m) (by omega) (by omega) (by omega) (by
        by_cases hc:x.getD i 0 > m
        · rw [if_pos hc]; exact ⟨i,by omega,rfl⟩
        · rw [if_neg hc]; exact ⟨j,by omega,he⟩) (fun k hk=>by
        by_cases e:k=i
        · subst e; split <;> omega
        · have:=h2 k (by omega); split <;> omega)
    refine ⟨m',Aa.step (fun K k=>?_) t,g1,g2⟩
    rw [Cz.l2,if_pos (by omega),if_pos (by omega),Int.toNat_natCast,Be (by omega)]
section
variable {ts:List (List Ab)} (hv:Val ts) {s:List Int} {N:Nat} (hN:N≤100)
include hN
theorem J8 {i:Nat} (hi:i<N):0≤(CN N s).getD i 0∧(CN N s).getD i 0<(Dn s N:Int)∧Dn s N≤N:=⟨((O4 N s).range hi).1,((O4 N s).range hi).2,I6 s N⟩
theorem bV:Ac (fun K=>Ho.f K (CN N s)) (Dn s N:Int):=by
  have hl:=La N s
  have hle:=I6 s N
  by_cases h0:N=0
  · subst h0
    refine Ac.pos (by rw [hl]; rfl) ?_
    exact Ac.const _
  · refine Ac.neg (by omega) ?_
    obtain ⟨m',t,⟨j,hj,he⟩,h2⟩:=fF (x:=CN N s) (by omega) (fun i hi=>by have:=J8 (s:=s) hN (i:=i) (by omega); omega) (N - 1) 1 ((CN N s).getD 0 0) (by omega) (by omega) (by omega) ⟨0,by omega,rfl⟩ (fun j hj=>by
      have e:j=0:=by omega
      rw [e]; exact Int.le_refl _)
    have hpos:0<Dn s N:=by
      have:=J8 (s:=s) hN (i:=0) (by omega); omega
    obtain ⟨i,hi,_,hc⟩:=(O4 N s).onto (Nat.le_refl N) (show Dn s N - 1<Dn s N by omega)
    have h3:=h2 i (by omega)
    have h4:=J8 (s:=s) hN (i:=j) (by omega)
    have hm:m'=(Dn s N:Int) - 1:=by omega
    refine Ac.bind (a:=m') (Ac.congr (fun K=>?_) t.Hg) ?_
    · show Cz.f K (CN N s)=_
      rw [Cz.f,if_neg (by omega),if_pos (by omega)]
      rfl
    · rw [hm,He (by omega) (by omega),show (Dn s N:Int) - 1+1=(Dn s N:Int) by omega]
      exact Ac.const _
theorem fP {Sg:List Int} (hS:Sg.length=N):∀ (d i:Nat) (o:List Bool),N - i=d→i≤N→o.length=Dn s N→(∀ c:Nat,o.getD c false=true→∃ j,j<i∧(CN N s).getD j 0=(c:Int))→(∀ (c:Nat) j,j<i→(CN N s).getD j 0=(c:Int)→∃ j',j'<i∧(CN N s).getD j' 0=(c:Int)∧o.getD c false=decide (Sg.getD j' 0=0)) →
    ∃ o',Aa (fun K k=>Bu.l1 K k (CN N s) Sg o (i:Int)) o'∧o'.length=Dn s N∧∀ j,j<N→∃ j',j'<N∧(CN N s).getD j' 0=(CN N s).getD j 0∧o'.getD ((CN N s).getD j 0).toNat false=decide (Sg.getD j' 0=0)
  | 0,i,o,hd,hi,hl,h1,h2=>by
    obtain rfl:i=N:=by omega
    refine ⟨o,Aa.of fun K k=>by rw [Bu.l1,if_neg (by omega)],hl,fun j hj=>?_⟩
    have:=J8 (s:=s) hN hj
    have e:(CN i s).getD j 0=(((CN i s).getD j 0).toNat:Int):=by omega
    obtain ⟨j',a,b,c⟩:=h2 _ j hj e
    exact ⟨j',a,b.trans e.symm,c⟩
  | d+1,i,o,hd,hi,hl,h1,h2=>by
    have hlt:i<N:=by omega
    have hCl:=La N s
    have hr:=J8 (s:=s) hN hlt
    obtain ⟨c,hc⟩:∃ c:Nat,(CN N s).getD i 0=(c:Int):=⟨((CN N s).getD i 0).toNat,by omega⟩
    obtain ⟨o',t,g1,g2⟩:=fP hS d (i+1) (o.set c (decide (Sg.getD i 0=0))) (by omega) (by omega) (by rw [List.length_set]; exact hl) (fun c' hc'=>by
        rw [Yt (by omega)] at hc'
        by_cases e:c=c'
        · exact ⟨i,by omega,by rw [← e]; exact hc⟩
        · rw [if_neg e] at hc'
          obtain ⟨j,a,b⟩:=h1 c' hc'
          exact ⟨j,by omega,b⟩) (fun c' j hj he=>by
        rw [Yt (by omega)]
        by_cases e:c=c'
        · exact ⟨i,by omega,by rw [← e]; exact hc,by rw [if_pos e]⟩
        · rw [if_neg e]
          have hji:j≠i:=fun e2=>e (by rw [e2,hc] at he; omega)
          obtain ⟨j',a,b,c⟩:=h2 c' j (by omega) he
          exact ⟨j',by omega,b,c⟩)
    refine ⟨o',Aa.step (fun K k=>?_) t,g1,g2⟩
    rw [Bu.l1,if_pos (by omega),if_pos (by omega),if_pos (by omega),Int.toNat_natCast,hc,if_pos (by omega),Int.toNat_natCast,Be (by omega)]
end
def bdE (ts:List (List Ab)) (i f:Nat):Prop:=f<4∧EA (i % 6)≠f∧EB (i % 6)≠f∧(Cg ts (i / 6) f).Tet<0
section
variable {ts:List (List Ab)} (hv:Val ts) {s:List Int} (hP:G7 (6 * ts.length) (JE ts) s) (hc:Ac (fun K=>Bl.f K ts) (CN (6 * ts.length) s))
include hv hP hc
theorem Zq {Sg:List Int} (hS:Sg.length=6 * ts.length) (hz:∀ i j,i<6 * ts.length→j<6 * ts.length→(CN (6 * ts.length) s).getD i 0=(CN (6 * ts.length) s).getD j 0→(Sg.getD i 0=0↔Sg.getD j 0=0)) (hs:Ac (fun K=>Am.f K ts) Sg) :
    ∃ o:List Bool,Ac (fun K=>Bu.f K ts) o∧o.length=Dn s (6 * ts.length)∧∀ j,j<6 * ts.length→o.getD ((CN (6 * ts.length) s).getD j 0).toNat false=decide (Sg.getD j 0=0):=by
  have h8:=hv.le
  have hle:=I6 s (6 * ts.length)
  have hrep:∀ (m j:Nat),(List.replicate m false).getD j false=false:=fun m j=>by rw [List.getD_eq_getElem?_getD,List.getElem?_replicate]; split <;> rfl
  obtain ⟨o,t,l,h⟩:=fP (s:=s) (N:=6 * ts.length) (by omega) hS (6 * ts.length) 0 (List.replicate (Dn s (6 * ts.length)) false) (by omega) (by omega) (by simp) (fun c hc'=>by rw [hrep] at hc'; cases hc') (fun c j hj=>by omega)
  refine ⟨o,Ac.bind hc (Ac.bind (bV (by omega)) (Ac.pos (by omega) (Ac.pos (by omega) (Ac.bind hs ?_)))),l,fun j hj=>?_⟩
  · rw [Int.toNat_natCast]; exact t.Hg
  · obtain ⟨j',a,b,c⟩:=h j hj
    rw [c]
    exact decide_eq_decide.2 (hz j' j a hj b)
theorem wB {i:Nat} (hi:i<6 * ts.length) {f g:Nat} (ho:OT [EA (i % 6),EB (i % 6)]=[f,g]) {c:Nat} (hci:(CN (6 * ts.length) s).getD i 0=(c:Int)) (hcl:c<Dn s (6 * ts.length)) {o:List Bool} (hl:o.length=Dn s (6 * ts.length)) :
    ∃ o',o'.length=Dn s (6 * ts.length)∧(∀ c',c'≠c→o'.getD c' false=o.getD c' false)∧(o'.getD c false=true↔o.getD c false=true∨∃ f,bdE ts i f) ∧
      ∀ R,Aa (fun K k=>Ap.l1 K k ts (CN (6 * ts.length) s) o' ((i+1:Nat):Int)) R→Aa (fun K k=>Ap.l4 K k ts (CN (6 * ts.length) s) (i:Int) (ints (OT [EA (i % 6),EB (i % 6)])) o 0) R:=by
  have h8:=hv.le
  have hle:=I6 s (6 * ts.length)
  have he:i % 6<6:=by omega
  have hw:w64 ((i:Int).tdiv 6)=((i / 6:Nat):Int):=by rw [eQ,He (by omega) (by omega)]
  have h4:=hv.four (i / 6) (by omega)
  obtain ⟨f',g',ho',hf,hg,a1,a2,b1,b2⟩:=Zv he
  rw [ho] at ho'
  injection ho' with e1 e2
  injection e2 with e2 _
  subst e1; subst e2
  -- one Cg
  have one:∀ (x y:Nat) (o:List Bool),x<2→[f,g].getD x 0=y→y<4→o.length=Dn s (6 * ts.length)→∃ o',o'.length=Dn s (6 * ts.length)∧(∀ c',c'≠c→o'.getD c' false=o.getD c' false)∧(o'.getD c false=true↔o.getD c false=true∨(Cg ts (i / 6) y).Tet<0) ∧
      ∀ R,Aa (fun K k=>Ap.l4 K k ts (CN (6 * ts.length) s) (i:Int) (ints [f,g]) o' ((x+1:Nat):Int)) R→Aa (fun K k=>Ap.l4 K k ts (CN (6 * ts.length) s) (i:Int) (ints [f,g]) o (x:Int)) R:=by
    intro x y o hx hy hy4 hl
    have hxy:(ints [f,g]).getD x 0=(y:Int):=by rw [Ku (by simpa using hx),hy]
    have hlen:(ints [f,g]).length=2:=rfl
    by_cases hc1:o.getD c false=true
    · refine ⟨o.set c true,by rw [List.length_set]; exact hl,fun c' hc'=>by rw [Yt (by omega),if_neg (fun e=>hc' e.symm)],by rw [Yt (by omega),if_pos rfl]; exact ⟨fun _=>.inl hc1,fun _=>rfl⟩,fun R hR=>Aa.step (fun K k=>?_) hR⟩
      rw [Ap.l4,if_pos (by omega),if_pos (by omega),Int.toNat_natCast,hci,if_pos (by omega),Int.toNat_natCast,if_pos hc1,Be (by omega)]
    · refine ⟨o.set c (decide ((Cg ts (i / 6) y).Tet<0)),by rw [List.length_set]; exact hl,fun c' hc'=>by rw [Yt (by omega),if_neg (fun e=>hc' e.symm)],by rw [Yt (by omega),if_pos rfl,decide_eq_true_eq]; exact ⟨fun h=>.inr h,fun h=>h.resolve_left hc1⟩,fun R hR=>Aa.step (fun K k=>?_) hR⟩
      rw [Ap.l4,if_pos (by omega),if_pos (by omega),Int.toNat_natCast,hci,if_pos (by omega),Int.toNat_natCast,if_neg hc1,hw,Int.toNat_natCast,if_pos (by omega),Int.toNat_natCast,hxy,Int.toNat_natCast,if_pos (by omega),Fs,Be (by omega)]
      rfl
  obtain ⟨o1,l1,p1,q1,t1⟩:=one 0 f o (by decide) rfl hf hl
  obtain ⟨o2,l2,p2,q2,t2⟩:=one 1 g o1 (by decide) rfl hg l1
  refine ⟨o2,l2,fun c' hc'=>(p2 c' hc').trans (p1 c' hc'),?_,fun R hR=>?_⟩
  · rw [q2,q1]
    constructor
    · rintro ((h | h) | h)
      · exact .inl h
      · exact .inr ⟨f,hf,a1,a2,h⟩
      · exact .inr ⟨g,hg,b1,b2,h⟩
    · rintro (h | ⟨x,hx,n1,n2,h⟩)
      · exact .inl (.inl h)
      · have hmem:x ∈ OT [EA (i % 6),EB (i % 6)]:=by
          unfold OT
          refine List.mem_filter.2 ⟨?_,?_⟩
          · have:x=0∨x=1∨x=2∨x=3:=by omega
            rcases this with rfl | rfl | rfl | rfl <;> decide
          · simp [n1.symm,n2.symm]
        rw [ho] at hmem
        rcases List.mem_cons.1 hmem with e | hmem
        · subst e; exact .inl (.inr h)
        · rw [List.mem_singleton.1 hmem] at h; exact .inr h
  · rw [ho]
    refine t1 R (t2 R (Aa.step (fun K k=>?_) hR))
    have hlen:(ints [f,g]).length=2:=rfl
    rw [Ap.l4,if_neg (by rw [hlen]; decide),Be (by omega)]
theorem oG:∀ (d i:Nat) (o:List Bool),6 * ts.length - i=d→i≤6 * ts.length→o.length=Dn s (6 * ts.length)→(∀ c:Nat,o.getD c false=true↔∃ j,j<i∧(CN (6 * ts.length) s).getD j 0=(c:Int)∧∃ f,bdE ts j f) →
    ∃ o',Aa (fun K k=>Ap.l1 K k ts (CN (6 * ts.length) s) o (i:Int)) o'∧o'.length=Dn s (6 * ts.length)∧∀ c:Nat,o'.getD c false=true↔∃ j,j<6 * ts.length∧(CN (6 * ts.length) s).getD j 0=(c:Int)∧∃ f,bdE ts j f
  | 0,i,o,hd,hi,hl,h=>by
    obtain rfl:i=6 * ts.length:=by omega
    have hCl:=La (6 * ts.length) s
    exact ⟨o,Aa.of fun K k=>by rw [Ap.l1,if_neg (by omega)],hl,h⟩
  | d+1,i,o,hd,hi,hl,h=>by
    have h8:=hv.le
    have hlt:i<6 * ts.length:=by omega
    have hCl:=La (6 * ts.length) s
    have hr:=J8 (s:=s) (N:=6 * ts.length) (by omega) hlt
    obtain ⟨c,hcc⟩:∃ c:Nat,(CN (6 * ts.length) s).getD i 0=(c:Int):=⟨((CN (6 * ts.length) s).getD i 0).toNat,by omega⟩
    have he:i % 6<6:=by omega
    obtain ⟨q1,q2,q3⟩:=EAB he
    obtain ⟨f,g,ho,_⟩:=Zv he
    obtain ⟨o1,l1,p1,p2,t1⟩:=wB hv hP hc hlt ho hcc (by omega) hl
    obtain ⟨o',t,g1,g2⟩:=oG d (i+1) o1 (by omega) (by omega) l1 (fun c'=>by
      by_cases e:c'=c
      · subst e
        rw [p2,h]
        constructor
        · rintro (⟨j,a,b⟩ | b)
          · exact ⟨j,by omega,b⟩
          · exact ⟨i,by omega,hcc,b⟩
        · rintro ⟨j,a,b,b'⟩
          by_cases e2:j=i
          · subst e2; exact .inr b'
          · exact .inl ⟨j,by omega,b,b'⟩
      · rw [p1 c' e,h]
        constructor
        · rintro ⟨j,a,b⟩; exact ⟨j,by omega,b⟩
        · rintro ⟨j,a,b,b'⟩
          have:j≠i:=fun e2=>e (by rw [e2,hcc] at b; omega)
          exact ⟨j,by omega,b,b'⟩)
    have ha4:EA (i % 6)<4:=by omega
    have hne:EA (i % 6)≠EB (i % 6):=by omega
    refine ⟨o',Aa.step (fun K k=>?_) (Aa.Ew (F:=fun K _=>Gm.f K ((i % 6:Nat):Int)) (G:=fun K k t139 t140=>(Fb.f K ([t139,t140]:List Int)).bind fun t146=>Ap.l4 K k ts (CN (6 * ts.length) s) (i:Int) t146 o 0) (Vy he).two (Aa.bind (Vb ha4 q2 hne).two (t1 _ t))),g1,g2⟩
    rw [Ap.l1,if_pos (by omega),if_pos (by omega),jL]
theorem Z5:∃ o:List Bool,Ac (fun K=>Ap.f K ts) o∧o.length=Dn s (6 * ts.length)∧∀ c:Nat,o.getD c false=true↔∃ j,j<6 * ts.length∧(CN (6 * ts.length) s).getD j 0=(c:Int)∧∃ f,bdE ts j f:=by
  have h8:=hv.le
  have hle:=I6 s (6 * ts.length)
  have hrep:∀ (m j:Nat),(List.replicate m false).getD j false=false:=fun m j=>by rw [List.getD_eq_getElem?_getD,List.getElem?_replicate]; split <;> rfl
  obtain ⟨o,t,l,h⟩:=oG hv hP hc (6 * ts.length) 0 (List.replicate (Dn s (6 * ts.length)) false) (by omega) (by omega) (by simp) (fun c=>by rw [hrep]; exact ⟨fun h=>(by cases h),fun ⟨j,hj,_⟩=>by omega⟩)
  refine ⟨o,Ac.bind hc (Ac.bind (bV (by omega)) (Ac.pos (by omega) (Ac.pos (by omega) ?_))),l,h⟩
  rw [Int.toNat_natCast]; exact t.Hg
end
theorem jD {l:List Int} {v:Int} (hl:l.length≤1000):∀ (d i:Nat),l.length - i=d→i≤l.length→(∀ j,j<i→l.getD j 0≠v)→Aa (fun K k=>Eb.l1 K k l v (i:Int)) (decide (v ∈ l))
  | 0,i,hd,hi,h=>by
    obtain rfl:i=l.length:=by omega
    have:¬ v ∈ l:=fun hm=>by
      obtain ⟨j,hj,he⟩:=List.getElem_of_mem hm
      exact h j hj (by rw [List.getD_eq_getElem?_getD,List.getElem?_eq_getElem hj,he]; rfl)
    rw [decide_eq_false this]
    refine Aa.of fun K k=>?_
    rw [Eb.l1,if_neg (by omega)]
  | d+1,i,hd,hi,h=>by
    have hlt:i<l.length:=by omega
    by_cases hc:l.getD i 0=v
    · have:v ∈ l:=by rw [← hc,List.getD_eq_getElem?_getD,List.getElem?_eq_getElem hlt]; exact List.getElem_mem hlt
      rw [decide_eq_true this]
      refine Aa.of fun K k=>?_
      rw [Eb.l1,if_pos (by omega),if_pos (by omega),Int.toNat_natCast,if_pos hc]
    · refine Aa.step (fun K k=>?_) (jD hl d (i+1) (by omega) (by omega) (fun j hj=>by
        by_cases e:j=i
        · subst e; exact hc
        · exact h j (by omega)))
      rw [Eb.l1,if_pos (by omega),if_pos (by omega),Int.toNat_natCast,if_neg hc,Be (by omega)]
theorem aX {l:List Int} {v:Int} (hl:l.length≤1000):Ac (fun K=>Eb.f K l v) (decide (v ∈ l)):=(jD hl l.length 0 (by omega) (by omega) (fun j hj=>by omega)).Hg
theorem Rb {fl:List Bool} (hl:fl.length≤100):∀ (d i:Nat) (o:List Int),fl.length - i=d→i≤fl.length→o.length≤i→(∀ v:Int,v ∈ o↔∃ c:Nat,v=(c:Int)∧c<i∧fl.getD c false=true) →
    ∃ o',Aa (fun K k=>Df.l1 K k fl o (i:Int)) o'∧o'.length≤fl.length∧∀ v:Int,v ∈ o'↔∃ c:Nat,v=(c:Int)∧c<fl.length∧fl.getD c false=true
  | 0,i,o,hd,hi,ho,h=>by
    obtain rfl:i=fl.length:=by omega
    exact ⟨o,Aa.of fun K k=>by rw [Df.l1,if_neg (by omega)],ho,h⟩
  | d+1,i,o,hd,hi,ho,h=>by
    by_cases hc:fl.getD i false=true
    · obtain ⟨o',t,g1,g2⟩:=Rb hl d (i+1) (o++[(i:Int)]) (by omega) (by omega) (by rw [List.length_append]; simp; omega) (fun v=>by
        rw [List.mem_append,h,List.mem_singleton]
        constructor
        · rintro (⟨c,a,b,e⟩ | e)
          · exact ⟨c,a,by omega,e⟩
          · exact ⟨i,e,by omega,hc⟩
        · rintro ⟨c,a,b,e⟩
          by_cases e2:c=i
          · subst e2; exact .inr a
          · exact .inl ⟨c,a,by omega,e⟩)
      refine ⟨o',Aa.step (fun K k=>?_) t,g1,g2⟩
      rw [Df.l1,if_pos (by omega),if_pos (by omega),Int.toNat_natCast,if_pos hc,if_pos (by omega),Be (by omega)]
    · obtain ⟨o',t,g1,g2⟩:=Rb hl d (i+1) o (by omega) (by omega) (by omega) (fun v=>by
        rw [h]
        constructor
        · rintro ⟨c,a,b,e⟩; exact ⟨c,a,by omega,e⟩
        · rintro ⟨c,a,b,e⟩
          have:c≠i:=fun e2=>hc (e2 ▸ e)
          exact ⟨c,a,by omega,e⟩)
      refine ⟨o',Aa.step (fun K k=>?_) t,g1,g2⟩
      rw [Df.l1,if_pos (by omega),if_pos (by omega),Int.toNat_natCast,if_neg hc,Be (by omega)]
theorem Sv {fl:List Bool} (hl:fl.length≤100):∃ o,Ac (fun K=>Df.f K fl) o∧o.length≤fl.length∧∀ v:Int,v ∈ o↔∃ c:Nat,v=(c:Int)∧c<fl.length∧fl.getD c false=true:=by
  obtain ⟨o,t,h1,h2⟩:=Rb hl fl.length 0 [] (by omega) (by omega) (by simp) (fun v=>⟨fun h=>(List.not_mem_nil h).elim,fun ⟨c,_,h,_⟩=>by omega⟩)
  exact ⟨o,t.Hg,h1,h2⟩
section
variable {ts:List (List Ab)} (hv:Val ts)
include hv
def BdL (ts:List (List Ab)) (L:List (List Int)) (D:Nat→Nat→Prop):Prop :=
  (∀ t,t<L.length→∃ a f:Nat,a<ts.length∧f<4∧L.getD t []=[(a:Int),(f:Int)]∧(Cg ts a f).Tet<0)∧∀ a f:Nat,D a f→(Cg ts a f).Tet<0→∃ t,t<L.length∧L.getD t []=[(a:Int),(f:Int)]
theorem eB {a:Nat} (ha:a<ts.length):∀ (d f:Nat) (L:List (List Int)),4 - f=d→f≤4→L.length≤4 * a+f→BdL ts L (fun a' f'=>a'<a∧f'<4∨a'=a∧f'<f) →
    ∃ L',L'.length≤4 * (a+1)∧BdL ts L' (fun a' f'=>a'<a+1∧f'<4)∧∀ R,Aa (fun K k=>Cm.l1 K k ts L' ((a+1:Nat):Int)) R→Aa (fun K k=>Cm.l4 K k ts (a:Int) L (f:Int)) R
  | 0,f,L,hd,hf,hl,h=>by
    obtain rfl:f=4:=by omega
    have h8:=hv.le
    refine ⟨L,by omega,⟨h.1,fun a' f' hh=>h.2 a' f' (by by_cases e:a'=a; exact .inr ⟨e,hh.2⟩; exact .inl ⟨by omega,hh.2⟩)⟩,fun R hR=>Aa.step (fun K k=>?_) hR⟩
    rw [Cm.l4,if_neg (by decide),Be (by omega)]
  | d+1,f,L,hd,hf,hl,h=>by
    have h8:=hv.le
    have h4:=hv.four a ha
    by_cases hc:(Cg ts a f).Tet<0
    · obtain ⟨L',g1,g2,g3⟩:=eB ha d (f+1) (L++[[(a:Int),(f:Int)]]) (by omega) (by omega) (by rw [List.length_append]; simp; omega) ⟨fun t ht=>by
          rw [List.length_append] at ht
          by_cases e:t<L.length
          · rw [List.getD_eq_getElem?_getD,List.getElem?_append_left e,← List.getD_eq_getElem?_getD]; exact h.1 t e
          · have:t=L.length:=by simp at ht; omega
            refine ⟨a,f,ha,by omega,?_,hc⟩
            rw [this,List.getD_eq_getElem?_getD,List.getElem?_append_right (Nat.le_refl _),Nat.sub_self]; rfl,fun a' f' hh hb=>by
          by_cases e:a'=a∧f'=f
          · refine ⟨L.length,by rw [List.length_append]; simp,?_⟩
            rw [List.getD_eq_getElem?_getD,List.getElem?_append_right (Nat.le_refl _),Nat.sub_self,e.1,e.2]; rfl
          · obtain ⟨t,ht,he⟩:=h.2 a' f' (by rcases hh with hh | hh; exact .inl hh; exact .inr ⟨hh.1,by have:=fun e2=>e ⟨hh.1,e2⟩; omega⟩) hb
            exact ⟨t,by rw [List.length_append]; omega,by rw [List.getD_eq_getElem?_getD,List.getElem?_append_left ht,← List.getD_eq_getElem?_getD]; exact he⟩⟩
      refine ⟨L',g1,g2,fun R hR=>Aa.step (fun K k=>?_) (g3 R hR)⟩
      rw [Cm.l4,if_pos (by omega),if_pos (by omega),Int.toNat_natCast,if_pos (by omega),Int.toNat_natCast,Fs]
      show (if (Cg ts a f).Tet<0 then _ else _)=_
      rw [if_pos hc,if_pos (by omega),Be (by omega)]
    · obtain ⟨L',g1,g2,g3⟩:=eB ha d (f+1) L (by omega) (by omega) (by omega) ⟨h.1,fun a' f' hh hb=>h.2 a' f' (by
          rcases hh with hh | hh
          · exact .inl hh
          · refine .inr ⟨hh.1,?_⟩
            have:f'≠f:=fun e=>hc (by rw [← e,← hh.1]; exact hb)
            omega) hb⟩
      refine ⟨L',g1,g2,fun R hR=>Aa.step (fun K k=>?_) (g3 R hR)⟩
      rw [Cm.l4,if_pos (by omega),if_pos (by omega),Int.toNat_natCast,if_pos (by omega),Int.toNat_natCast,Fs]
      show (if (Cg ts a f).Tet<0 then _ else _)=_
      rw [if_neg hc,Be (by omega)]
theorem oP:∀ (d a:Nat) (L:List (List Int)),ts.length - a=d→a≤ts.length→L.length≤4 * a→BdL ts L (fun a' f'=>a'<a∧f'<4) →
    ∃ L',Aa (fun K k=>Cm.l1 K k ts L (a:Int)) L'∧L'.length≤4 * ts.length∧BdL ts L' (fun a' f'=>a'<ts.length∧f'<4)
  | 0,a,L,hd,ha,hl,h=>by
    obtain rfl:a=ts.length:=by omega
    exact ⟨L,Aa.of fun K k=>by rw [Cm.l1,if_neg (by omega)],hl,h⟩
  | d+1,a,L,hd,ha,hl,h=>by
    have h8:=hv.le
    obtain ⟨L1,g1,g2,g3⟩:=eB hv (a:=a) (by omega) 4 0 L (by omega) (by omega) (by omega) ⟨h.1,fun a' f' hh hb=>h.2 a' f' (by rcases hh with hh | hh; exact hh; omega) hb⟩
    obtain ⟨L',t,k1,k2⟩:=oP d (a+1) L1 (by omega) (by omega) g1 g2
    refine ⟨L',Aa.step (fun K k=>?_) (g3 _ t),k1,k2⟩
    rw [Cm.l1,if_pos (by omega)]
    rfl
theorem xV:∃ L,Ac (fun K=>Cm.f K ts) L∧L.length≤4 * ts.length∧BdL ts L (fun a' f'=>a'<ts.length∧f'<4):=by
  obtain ⟨L,t,h1,h2⟩:=oP hv ts.length 0 [] (by omega) (by omega) (by simp) ⟨fun t ht=>by simp at ht,fun a' f' hh=>by omega⟩
  exact ⟨L,t.Hg,h1,h2⟩
section
variable {vs ys fs:List Int} {L:List (List Int)} (hL:L.length≤4 * ts.length)
include hL
theorem Zm {a f t:Nat} (ha:a<ts.length) (hf:f<4) (ht:t<L.length) (hLt:L.getD t []=[(a:Int),(f:Int)]) {fb vb:List Bool}:∀ (d e:Nat) (eb:List Bool),6 - e=d→e≤6→eb.length=Dn ys (6 * ts.length) →
    ∃ eb',eb'.length=Dn ys (6 * ts.length)∧(∀ c:Nat,eb'.getD c false=true↔eb.getD c false=true∨∃ e',e≤e'∧e'<6∧EA e'≠f∧EB e'≠f∧(CN (6 * ts.length) ys).getD (6 * a+e') 0=(c:Int)) ∧
      ∀ R,Aa (fun K k=>Bb.l1 K k (rowsOf (CN (4 * ts.length) vs) 4 ts.length) (rowsOf (CN (6 * ts.length) ys) 6 ts.length) (rowsOf (CN (4 * ts.length) fs) 4 ts.length) L vb eb' (fb.set ((CN (4 * ts.length) fs).getD (4 * a+f) 0).toNat true) ((t+1:Nat):Int)) R →
        Aa (fun K k=>Bb.l10 K k (rowsOf (CN (4 * ts.length) vs) 4 ts.length) (rowsOf (CN (6 * ts.length) ys) 6 ts.length) (rowsOf (CN (4 * ts.length) fs) 4 ts.length) L fb (t:Int) vb eb (e:Int)) R
  | 0,e,eb,hd,he,hl=>by
    obtain rfl:e=6:=by omega
    have h8:=hv.le
    refine ⟨eb,hl,fun c=>⟨fun h=>.inl h,fun h=>h.elim id (fun ⟨e',a1,a2,_⟩=>by omega)⟩,fun R hR=>Aa.step (fun K k=>?_) hR⟩
    rw [Bb.l10,if_neg (by decide),Int.toNat_natCast,hLt]
    show Bb.l1 K k _ _ _ L vb eb (fb.set (((rowsOf (CN (4 * ts.length) fs) 4 ts.length).getD (a:Int).toNat []).getD (f:Int).toNat 0).toNat true) (w64 ((t:Int)+1))=_
    rw [Int.toNat_natCast,Int.toNat_natCast,Ij ha,Jf hf,Be (by omega)]
  | d+1,e,eb,hd,he,hl=>by
    have h8:=hv.le
    have he6:e<6:=by omega
    have hin:6 * a+e<6 * ts.length:=mul_lt ha he6
    have hr:=J8 (s:=ys) (N:=6 * ts.length) (by omega) hin
    obtain ⟨c0,hc0⟩:∃ c:Nat,(CN (6 * ts.length) ys).getD (6 * a+e) 0=(c:Int):=⟨((CN (6 * ts.length) ys).getD (6 * a+e) 0).toNat,by omega⟩
    have hleE:=I6 ys (6 * ts.length)
    by_cases hc:EA e=f∨EB e=f
    · obtain ⟨eb',g1,g2,g3⟩:=Zm ha hf ht hLt (fb:=fb) (vb:=vb) d (e+1) eb (by omega) (by omega) hl
      refine ⟨eb',g1,fun c=>?_,fun R hR=>Aa.step (fun K k=>?_) (g3 R hR)⟩
      · rw [g2 c]
        constructor
        · rintro (h | ⟨e',a1,a2⟩)
          · exact .inl h
          · exact .inr ⟨e',by omega,a2⟩
        · rintro (h | ⟨e',a1,a2,a3,a4,a5⟩)
          · exact .inl h
          · have:e'≠e:=fun e2=>by subst e2; rcases hc with hc | hc <;> contradiction
            exact .inr ⟨e',by omega,a2,a3,a4,a5⟩
      · rw [Bb.l10,if_pos (by omega),O5 he6,Int.toNat_natCast,hLt,Be (by omega)]
        show (if ((EA e:Nat):Int)=(f:Int) then _ else if ((EB e:Nat):Int)=(f:Int) then _ else _)=_
        by_cases h1:EA e=f
        · rw [if_pos (by omega)]
        · rw [if_neg (by omega),if_pos (by omega)]
    · obtain ⟨eb',g1,g2,g3⟩:=Zm ha hf ht hLt (fb:=fb) (vb:=vb) d (e+1) (eb.set c0 true) (by omega) (by omega) (by rw [List.length_set]; exact hl)
      refine ⟨eb',g1,fun c=>?_,fun R hR=>Aa.step (fun K k=>?_) (g3 R hR)⟩
      · rw [g2 c,Yt (by omega)]
        by_cases e2:c0=c
        · rw [if_pos e2]
          exact ⟨fun _=>.inr ⟨e,Nat.le_refl _,he6,fun h=>hc (.inl h),fun h=>hc (.inr h),by rw [hc0,e2]⟩,fun _=>.inl rfl⟩
        · rw [if_neg e2]
          constructor
          · rintro (h | ⟨e',a1,a2⟩)
            · exact .inl h
            · exact .inr ⟨e',by omega,a2⟩
          · rintro (h | ⟨e',a1,a2,a3,a4,a5⟩)
            · exact .inl h
            · have:e'≠e:=fun e3=>e2 (by subst e3; rw [hc0] at a5; omega)
              exact .inr ⟨e',by omega,a2,a3,a4,a5⟩
      · rw [Bb.l10,if_pos (by omega),O5 he6,Int.toNat_natCast,hLt,Be (by omega)]
        show (if ((EA e:Nat):Int)=(f:Int) then _ else if ((EB e:Nat):Int)=(f:Int) then _ else (if 0≤(a:Int)∧(a:Int)<_ then (if 0≤(e:Int)∧(e:Int)<(((rowsOf (CN (6 * ts.length) ys) 6 ts.length).getD (a:Int).toNat []).length:Int) then (if 0≤((rowsOf (CN (6 * ts.length) ys) 6 ts.length).getD (a:Int).toNat []).getD (e:Int).toNat 0∧((rowsOf (CN (6 * ts.length) ys) 6 ts.length).getD (a:Int).toNat []).getD (e:Int).toNat 0<_ then Bb.l10 K k _ _ _ L fb (t:Int) vb (eb.set (((rowsOf (CN (6 * ts.length) ys) 6 ts.length).getD (a:Int).toNat []).getD (e:Int).toNat 0).toNat true) _ else none) else none) else none))=_
        rw [if_neg (by omega),if_neg (by omega),if_pos (by rw [Hd]; omega),Int.toNat_natCast,Ij ha,if_pos (by rw [Jl]; omega),Int.toNat_natCast,Jf he6,hc0,if_pos (by omega),Int.toNat_natCast]
end
end
section
variable {ts:List (List Ab)} (hv:Val ts)
include hv
section
variable {vs ys fs:List Int} {L:List (List Int)} (hL:L.length≤4 * ts.length)
include hL
theorem iP {a f t:Nat} (ha:a<ts.length) (hf:f<4) (ht:t<L.length) (hLt:L.getD t []=[(a:Int),(f:Int)]) {fb eb:List Bool}:∀ (d v:Nat) (vb:List Bool),4 - v=d→v≤4→vb.length=Dn vs (4 * ts.length) →
    ∃ vb',vb'.length=Dn vs (4 * ts.length)∧∀ R,Aa (fun K k=>Bb.l10 K k (rowsOf (CN (4 * ts.length) vs) 4 ts.length) (rowsOf (CN (6 * ts.length) ys) 6 ts.length) (rowsOf (CN (4 * ts.length) fs) 4 ts.length) L fb (t:Int) vb' eb 0) R →
        Aa (fun K k=>Bb.l8 K k (rowsOf (CN (4 * ts.length) vs) 4 ts.length) (rowsOf (CN (6 * ts.length) ys) 6 ts.length) (rowsOf (CN (4 * ts.length) fs) 4 ts.length) L eb fb (t:Int) vb (v:Int)) R
  | 0,v,vb,hd,he,hl=>by
    obtain rfl:v=4:=by omega
    refine ⟨vb,hl,fun R hR=>Aa.step (fun K k=>?_) hR⟩
    rw [Bb.l8,if_neg (by decide)]
  | d+1,v,vb,hd,he,hl=>by
    have h8:=hv.le
    have hv4:v<4:=by omega
    have hin:4 * a+v<4 * ts.length:=mul_lt ha hv4
    have hr:=J8 (s:=vs) (N:=4 * ts.length) (by omega) hin
    obtain ⟨c0,hc0⟩:∃ c:Nat,(CN (4 * ts.length) vs).getD (4 * a+v) 0=(c:Int):=⟨((CN (4 * ts.length) vs).getD (4 * a+v) 0).toNat,by omega⟩
    by_cases hc:v=f
    · obtain ⟨vb',g1,g3⟩:=iP ha hf ht hLt (fb:=fb) (eb:=eb) d (v+1) vb (by omega) (by omega) hl
      refine ⟨vb',g1,fun R hR=>Aa.step (fun K k=>?_) (g3 R hR)⟩
      rw [Bb.l8,if_pos (by omega),Int.toNat_natCast,hLt,Be (by omega)]
      show (if (v:Int)=(f:Int) then _ else _)=_
      rw [if_pos (by omega)]
    · obtain ⟨vb',g1,g3⟩:=iP ha hf ht hLt (fb:=fb) (eb:=eb) d (v+1) (vb.set c0 true) (by omega) (by omega) (by rw [List.length_set]; exact hl)
      refine ⟨vb',g1,fun R hR=>Aa.step (fun K k=>?_) (g3 R hR)⟩
      rw [Bb.l8,if_pos (by omega),Int.toNat_natCast,hLt,Be (by omega)]
      show (if (v:Int)=(f:Int) then _ else (if 0≤(a:Int)∧(a:Int)<_ then (if 0≤(v:Int)∧(v:Int)<(((rowsOf (CN (4 * ts.length) vs) 4 ts.length).getD (a:Int).toNat []).length:Int) then (if 0≤((rowsOf (CN (4 * ts.length) vs) 4 ts.length).getD (a:Int).toNat []).getD (v:Int).toNat 0∧((rowsOf (CN (4 * ts.length) vs) 4 ts.length).getD (a:Int).toNat []).getD (v:Int).toNat 0<_ then Bb.l8 K k _ _ _ L eb fb (t:Int) (vb.set (((rowsOf (CN (4 * ts.length) vs) 4 ts.length).getD (a:Int).toNat []).getD (v:Int).toNat 0).toNat true) _ else none) else none) else none))=_
      rw [if_neg (by omega),if_pos (by rw [Hd]; omega),Int.toNat_natCast,Ij ha,if_pos (by rw [Jl]; omega),Int.toNat_natCast,Jf hv4,hc0,if_pos (by omega),Int.toNat_natCast]
theorem pK (hB:BdL ts L (fun a' f'=>a'<ts.length∧f'<4)):∀ (d t:Nat) (vb eb fb:List Bool),L.length - t=d→t≤L.length→vb.length=Dn vs (4 * ts.length)→eb.length=Dn ys (6 * ts.length)→fb.length=Dn fs (4 * ts.length) →
      (∀ c:Nat,eb.getD c false=true↔∃ t',t'<t∧∃ a f e:Nat,a<ts.length∧f<4∧e<6∧L.getD t' []=[(a:Int),(f:Int)]∧(Cg ts a f).Tet<0∧EA e≠f∧EB e≠f∧(CN (6 * ts.length) ys).getD (6 * a+e) 0=(c:Int)) →
    ∃ V E F,Aa (fun K k=>Bb.l1 K k (rowsOf (CN (4 * ts.length) vs) 4 ts.length) (rowsOf (CN (6 * ts.length) ys) 6 ts.length) (rowsOf (CN (4 * ts.length) fs) 4 ts.length) L vb eb fb (t:Int)) (V,E,F)∧E.length≤100 ∧
      ∀ v:Int,v ∈ E↔∃ c:Nat,v=(c:Int)∧c<Dn ys (6 * ts.length)∧∃ t',t'<L.length∧∃ a f e:Nat,a<ts.length∧f<4∧e<6∧L.getD t' []=[(a:Int),(f:Int)]∧(Cg ts a f).Tet<0∧EA e≠f∧EB e≠f∧(CN (6 * ts.length) ys).getD (6 * a+e) 0=(c:Int)
  | 0,t,vb,eb,fb,hd,ht,l1,l2,l3,h=>by
    obtain rfl:t=L.length:=by omega
    have h8:=hv.le
    have u1:=I6 vs (4 * ts.length)
    have u2:=I6 ys (6 * ts.length)
    have u3:=I6 fs (4 * ts.length)
    obtain ⟨V,tV,_,_⟩:=Sv (fl:=vb) (by omega)
    obtain ⟨E,tE,g1,g2⟩:=Sv (fl:=eb) (by omega)
    obtain ⟨F,tF,_,_⟩:=Sv (fl:=fb) (by omega)
    refine ⟨V,E,F,Aa.step (G:=fun K k=>(Df.f K vb).bind fun t412=>(Df.f K eb).bind fun t418=>(Df.f K fb).bind fun t424=>some (t412,t418,t424)) (fun K k=>by rw [Bb.l1,if_neg (by omega)]) (Aa.bind (G:=fun K k t412=>(Df.f K eb).bind fun t418=>(Df.f K fb).bind fun t424=>some (t412,t418,t424)) tV.two (Aa.bind (G:=fun K k t418=>(Df.f K fb).bind fun t424=>some (V,t418,t424)) tE.two (Aa.bind (G:=fun K k t424=>some (V,E,t424)) tF.two (Aa.const _)))),by omega,fun v=>?_⟩
    rw [g2]
    constructor
    · rintro ⟨c,a,b,e⟩; exact ⟨c,a,by omega,(h c).1 e⟩
    · rintro ⟨c,a,b,e⟩; exact ⟨c,a,by omega,(h c).2 e⟩
  | d+1,t,vb,eb,fb,hd,ht,l1,l2,l3,h=>by
    have h8:=hv.le
    have hlt:t<L.length:=by omega
    obtain ⟨a,f,ha,hf,hLt,hbd⟩:=hB.1 t hlt
    have hin:4 * a+f<4 * ts.length:=mul_lt ha hf
    have hr:=J8 (s:=fs) (N:=4 * ts.length) (by omega) hin
    obtain ⟨vb',k1,k2⟩:=iP hv hL (ys:=ys) (fs:=fs) ha hf hlt hLt (fb:=fb) (eb:=eb) 4 0 vb (by omega) (by omega) l1
    obtain ⟨eb',k3,k4,k5⟩:=Zm hv hL (vs:=vs) (fs:=fs) ha hf hlt hLt (fb:=fb) (vb:=vb') 6 0 eb (by omega) (by omega) l2
    obtain ⟨V,E,F,tt,g1,g2⟩:=pK hB d (t+1) vb' eb' (fb.set ((CN (4 * ts.length) fs).getD (4 * a+f) 0).toNat true) (by omega) (by omega) k1 k3 (by rw [List.length_set]; exact l3) (fun c=>by
      rw [k4 c,h c]
      constructor
      · rintro (⟨t',b1,b2⟩ | ⟨e',b1,b2,b3,b4,b5⟩)
        · exact ⟨t',by omega,b2⟩
        · exact ⟨t,by omega,a,f,e',ha,hf,b2,hLt,hbd,b3,b4,b5⟩
      · rintro ⟨t',b1,a',f',e',b2,b3,b4,b5,b6,b7⟩
        by_cases e2:t'=t
        · subst e2
          rw [hLt] at b5
          injection b5 with c1 c2
          injection c2 with c2 _
          obtain rfl:a=a':=by omega
          obtain rfl:f=f':=by omega
          exact .inr ⟨e',by omega,b4,b7⟩
        · exact .inl ⟨t',by omega,a',f',e',b2,b3,b4,b5,b6,b7⟩)
    refine ⟨V,E,F,Aa.step (fun K k=>?_) (k2 _ (k5 _ tt)),g1,g2⟩
    rw [Bb.l1,if_pos (by omega),if_pos (by omega),Int.toNat_natCast,hLt]
    show (if 0≤(0:Int)∧(0:Int)<2 then (if 0≤(1:Int)∧(1:Int)<2 then (if 0≤(a:Int)∧(a:Int)<_ then (if 0≤(f:Int)∧(f:Int)<(((rowsOf (CN (4 * ts.length) fs) 4 ts.length).getD (a:Int).toNat []).length:Int) then (if 0≤((rowsOf (CN (4 * ts.length) fs) 4 ts.length).getD (a:Int).toNat []).getD (f:Int).toNat 0∧((rowsOf (CN (4 * ts.length) fs) 4 ts.length).getD (a:Int).toNat []).getD (f:Int).toNat 0<_ then _ else none) else none) else none) else none) else none)=_
    rw [if_pos (by decide),if_pos (by decide),if_pos (by rw [Hd]; omega),Int.toNat_natCast,Ij ha,if_pos (by rw [Jl]; omega),Int.toNat_natCast,Jf hf,if_pos (by omega)]
    rfl
end
theorem yA (hT:Ac (fun K=>Aj.f K ts) true) {vs ys fs:List Int} (hc:Ac (fun K=>Bf.f K ts) (rowsOf (CN (4 * ts.length) vs) 4 ts.length,rowsOf (CN (6 * ts.length) ys) 6 ts.length,rowsOf (CN (4 * ts.length) fs) 4 ts.length,[(Dn vs (4 * ts.length):Int),(Dn ys (6 * ts.length):Int),(Dn fs (4 * ts.length):Int),(ts.length:Int)])) :
    ∃ V E F,Ac (fun K=>Bb.f K ts) (V,E,F)∧E.length≤100∧∀ j,j<6 * ts.length→((CN (6 * ts.length) ys).getD j 0 ∈ E↔∃ j',j'<6 * ts.length∧(CN (6 * ts.length) ys).getD j' 0=(CN (6 * ts.length) ys).getD j 0∧∃ f,bdE ts j' f):=by
  have h8:=hv.le
  have u1:=I6 vs (4 * ts.length)
  have u2:=I6 ys (6 * ts.length)
  have u3:=I6 fs (4 * ts.length)
  obtain ⟨L,tL,hL,hB⟩:=xV hv
  have hrep:∀ (m j:Nat),(List.replicate m false).getD j false=false:=fun m j=>by rw [List.getD_eq_getElem?_getD,List.getElem?_replicate]; split <;> rfl
  obtain ⟨V,E,F,t,g1,g2⟩:=pK hv hL (vs:=vs) (ys:=ys) (fs:=fs) hB L.length 0 (List.replicate (Dn vs (4 * ts.length)) false) (List.replicate (Dn ys (6 * ts.length)) false) (List.replicate (Dn fs (4 * ts.length)) false) (by omega) (by omega) (by simp) (by simp) (by simp) (fun c=>by rw [hrep]; exact ⟨fun h=>(by cases h),fun ⟨t',h,_⟩=>by omega⟩)
  refine ⟨V,E,F,Ac.bind hT (Ac.pos rfl (Ac.D7 hc (Ac.pos (by simp) (Ac.pos ?_ (Ac.pos ?_ (Ac.pos (by simp) (Ac.pos ?_ (Ac.pos ?_ (Ac.pos (by simp) (Ac.pos ?_ (Ac.pos ?_ (Ac.bind tL ?_)))))))))))),g1,fun j hj=>?_⟩
  · show 0≤(Dn vs (4 * ts.length):Int); omega
  · show (Dn vs (4 * ts.length):Int).toNat * 1≤_; omega
  · show 0≤(Dn ys (6 * ts.length):Int); omega
  · show (Dn ys (6 * ts.length):Int).toNat * 1≤_; omega
  · show 0≤(Dn fs (4 * ts.length):Int); omega
  · show (Dn fs (4 * ts.length):Int).toNat * 1≤_; omega
  · exact t.Hg
  · rw [g2]
    have hr:=J8 (s:=ys) (N:=6 * ts.length) (by omega) hj
    constructor
    · rintro ⟨c,e1,e2,t',b1,a,f,e,b2,b3,b4,b5,b6,b7,b8,b9⟩
      refine ⟨6 * a+e,mul_lt b2 b4,by rw [b9,e1],f,b3,?_⟩
      rw [(de6 b4).1,(de6 b4).2]
      exact ⟨b7,b8,b6⟩
    · rintro ⟨j',a1,a2,f,b1,b2,b3,b4⟩
      obtain ⟨t',c1,c2⟩:=hB.2 (j' / 6) f ⟨by omega,b1⟩ b4
      refine ⟨((CN (6 * ts.length) ys).getD j 0).toNat,by omega,by omega,t',c1,j' / 6,f,j' % 6,by omega,b1,by omega,c2,b4,b2,b3,?_⟩
      rw [show 6 * (j' / 6)+j' % 6=j' by omega,a2]; omega
end
theorem Zj {a b c d:Nat} (ha:a<4) (hb:b<4) (hc:c<4) (hd:d<4) (h:a≠b∧a≠c∧a≠d∧b≠c∧b≠d∧c≠d):Ac (fun K=>Cu.f K (a:Int) (b:Int) (c:Int) (d:Int)) (PX a b c d:Int):=by
  obtain ⟨h1,h2,h3,h4,h5⟩:=jU ha hb hc hd h
  have:=Qq h1
  rw [h2,h3,h4,h5] at this
  exact this
theorem gG {a b c d:Nat} (ha:a<4) (hb:b<4) (hc:c<4) (hd:d<4) (h:a≠b∧a≠c∧a≠d∧b≠c∧b≠d∧c≠d):Ac (fun K=>C8.f K [(a:Int),(b:Int),(c:Int),(d:Int)]) (PX a b c d:Int):=by
  obtain ⟨h1,h2,h3,h4,h5⟩:=jU ha hb hc hd h
  have:=bG h1
  rw [h2,h3,h4,h5] at this
  exact this
def NP (q p:Nat):Nat:=PX (PA q (PA p 0)) (PA q (PA p 1)) (PA q (PA p 3)) (PA q (PA p 2))
theorem Ju {p j k:Nat} (hp:p<24) (hj:j<4) (hk:k<4) (h:j≠k):PA p j≠PA p k:=fun e=>h (Tu hp hj hk e)
theorem Le {p q j k:Nat} (hp:p<24) (hq:q<24) (hj:j<4) (hk:k<4) (h:j≠k):PA q (PA p j)≠PA q (PA p k):=Ju hq (Ei hp hj) (Ei hp hk) (Ju hp hj hk h)
theorem bS {p q:Nat} (hp:p<24) (hq:q<24):NP q p<24∧PA (NP q p) 0=PA q (PA p 0)∧PA (NP q p) 1=PA q (PA p 1)∧PA (NP q p) 2=PA q (PA p 3)∧PA (NP q p) 3=PA q (PA p 2) :=
  jU (Ei hq (Ei hp (by omega))) (Ei hq (Ei hp (by omega))) (Ei hq (Ei hp (by omega))) (Ei hq (Ei hp (by omega)))
    ⟨Le hp hq (by omega) (by omega) (by omega),Le hp hq (by omega) (by omega) (by omega),Le hp hq (by omega) (by omega) (by omega),Le hp hq (by omega) (by omega) (by omega),Le hp hq (by omega) (by omega) (by omega),Le hp hq (by omega) (by omega) (by omega)⟩
def nx (ts:List (List Ab)) (c:Nat × Nat):Option (Nat × Nat) :=
  if (Cg ts c.1 (PA c.2 2)).Tet<0 then none else some ((Cg ts c.1 (PA c.2 2)).Tet.toNat,NP (Cg ts c.1 (PA c.2 2)).Perm.toNat c.2)
def aft:Option (Nat × Nat)→Int × Int × Bool
  | none=>(0,0,false)
  | some c=>((c.1:Int),(c.2:Int),true)
section
variable {ts:List (List Ab)} (hv:Val ts)
include hv
theorem Nq {a p:Nat} (ha:a<ts.length) (hp:p<24):((Cg ts a (PA p 2)).Tet<0∧nx ts (a,p)=none)∨(¬ (Cg ts a (PA p 2)).Tet<0∧∃ b q:Nat,b<ts.length∧q<24∧Cg ts a (PA p 2)=⟨b,q⟩∧Kt ts a (PA p 2) b q∧nx ts (a,p)=some (b,NP q p)):=by
  unfold nx
  rcases Ep hv ha (Ei hp (show 2<4 by omega)) with ⟨g1,g2⟩ | ⟨g1,b,q,hb,hq,g2,g3⟩
  · exact .inl ⟨g1,by rw [if_pos g1]⟩
  · refine .inr ⟨g1,b,q,hb,hq,g2,g3,?_⟩
    rw [if_neg g1,g2]; rfl
theorem lQ {a p:Nat} (ha:a<ts.length) (hp:p<24):Ac (fun K=>F3.f K ts (a:Int) (p:Int)) (aft (nx ts (a,p))):=by
  have h2:PA p 2<4:=Ei hp (by omega)
  have h0:PA p 0<4:=Ei hp (by omega)
  have h1:PA p 1<4:=Ei hp (by omega)
  have h3:PA p 3<4:=Ei hp (by omega)
  have hr:=hv.four a ha
  refine Ac.D7 (Kz hp) ?_
  refine Ac.pos (by omega) ?_
  rw [Int.toNat_natCast]
  refine Ac.pos (by omega) ?_
  rw [Int.toNat_natCast]
  show Ac (fun K=>if decide ((Cg ts a (PA p 2)).Tet<0)=true then _ else _) _
  rcases Nq hv ha hp with ⟨g1,g2⟩ | ⟨g1,b,q,hb,hq,g2,g3,g4⟩
  · rw [g2]; exact Ac.pos (decide_eq_true g1) (Ac.const _)
  · rw [g4]
    refine Ac.neg (by rw [decide_eq_true_eq]; exact g1) ?_
    show Ac (fun K=>Go.Proofs.YtbjfinndngafoaaGreat.D7 (Ct.f K (Cg ts a (PA p 2)).Perm) _) _
    rw [g2]
    refine Ac.D7 (Kz hq) (Ac.pos (by omega) (Ac.pos (by omega) (Ac.pos (by omega) (Ac.pos (by omega) ?_))))
    have e2:=Qy (p:=q) h2
    rw [Int.toNat_natCast] at e2
    rw [Qy h0,Qy h1,e2,Qy h3]
    refine Ac.bind (Zj (Ei hq h0) (Ei hq h1) (Ei hq h3) (Ei hq h2) ⟨Le hp hq (by omega) (by omega) (by omega),Le hp hq (by omega) (by omega) (by omega),Le hp hq (by omega) (by omega) (by omega),Le hp hq (by omega) (by omega) (by omega),Le hp hq (by omega) (by omega) (by omega),Le hp hq (by omega) (by omega) (by omega)⟩) ?_
    show Ac (fun K=>some ((Cg ts a (PA p 2)).Tet,_,true)) _
    rw [g2]
    exact Ac.const _
omit hv in
theorem N7 {p q:Nat} (hp:p<24) (hq:q<24) {t:Int} {im:List Int} {k s:Nat} {R:Int × Int × Bool} (hk:k<4) (hs:s<4) (hks:([0,1,3,2]:List Int).getD k 0=(s:Int)) (hl:im.length≤10)
    (h:Aa (fun K k'=>Ed.l1 K k' (p:Int) ⟨t,(q:Int)⟩ (im++[(PA q (PA p s):Int)]) ((k+1:Nat):Int)) R):Aa (fun K k'=>Ed.l1 K k' (p:Int) ⟨t,(q:Int)⟩ im (k:Int)) R:=by
  refine Aa.step (G:=fun K k'=>(Bq.f K (p:Int) (s:Int)).bind fun t69=>((Bq.f K (q:Int) t69).bind fun t73=>(if (im.length+1) * 8≤140737488355328 then (Ed.l1 K k' (p:Int) ⟨t,(q:Int)⟩ (im++[t73]) ((k+1:Nat):Int)) else none))) (fun K k'=>?_) ?_
  · rw [Ed.l1,if_pos (by omega),if_pos (by show 0≤(k:Int)∧(k:Int)<4; omega),Int.toNat_natCast,hks,Be (by omega)]
  · exact Aa.bind (G:=fun K k' t69=>(Bq.f K (q:Int) t69).bind fun t73=>(if (im.length+1) * 8≤140737488355328 then (Ed.l1 K k' (p:Int) ⟨t,(q:Int)⟩ (im++[t73]) ((k+1:Nat):Int)) else none)) (Mr hp hs).two (Aa.bind (G:=fun K k' t73=>if (im.length+1) * 8≤140737488355328 then (Ed.l1 K k' (p:Int) ⟨t,(q:Int)⟩ (im++[t73]) ((k+1:Nat):Int)) else none) (Mr hq (Ei hp hs)).two (Aa.pos (by omega) h))
theorem mK {a p:Nat} (ha:a<ts.length) (hp:p<24):Ac (fun K=>Ed.f K ts (a:Int) (p:Int)) (aft (nx ts (a,p))):=by
  have h2:PA p 2<4:=Ei hp (by omega)
  have h0:PA p 0<4:=Ei hp (by omega)
  have h1:PA p 1<4:=Ei hp (by omega)
  have h3:PA p 3<4:=Ei hp (by omega)
  have hr:=hv.four a ha
  refine Ac.pos (by omega) (Ac.bind (Mr hp (show 2<4 by omega)) ?_)
  simp only [Int.toNat_natCast]
  refine Ac.pos (by omega) ?_
  show Ac (fun K=>if (Cg ts a (PA p 2)).Tet<0 then _ else Ed.l1 K K (p:Int) (Cg ts a (PA p 2)) _ _) _
  rcases Nq hv ha hp with ⟨g1,g2⟩ | ⟨g1,b,q,hb,hq,g2,g3,g4⟩
  · rw [g2]; exact Ac.pos g1 (Ac.const _)
  · rw [g4]
    refine Ac.neg g1 ?_
    rw [g2]
    refine Aa.Hg (F:=fun K k=>Ed.l1 K k (p:Int) ⟨(b:Int),(q:Int)⟩ [] ((0:Nat):Int)) ?_
    refine N7 hp hq (s:=0) (by omega) (by omega) rfl (by simp) ?_
    refine N7 hp hq (s:=1) (by omega) (by omega) rfl (by simp) ?_
    refine N7 hp hq (s:=3) (by omega) (by omega) rfl (by simp) ?_
    refine N7 hp hq (s:=2) (by omega) (by omega) rfl (by simp) ?_
    refine Aa.step (G:=fun K k'=>(C8.f K [(PA q (PA p 0):Int),(PA q (PA p 1):Int),(PA q (PA p 3):Int),(PA q (PA p 2):Int)]).bind fun t83=>some ((b:Int),t83,true)) (fun K k'=>by rw [Ed.l1,if_neg (by decide)]; rfl) ?_
    exact Aa.bind (G:=fun K k' t83=>some ((b:Int),t83,true)) (gG (Ei hq h0) (Ei hq h1) (Ei hq h3) (Ei hq h2) ⟨Le hp hq (by omega) (by omega) (by omega),Le hp hq (by omega) (by omega) (by omega),Le hp hq (by omega) (by omega) (by omega),Le hp hq (by omega) (by omega) (by omega),Le hp hq (by omega) (by omega) (by omega),Le hp hq (by omega) (by omega) (by omega)⟩).two (Aa.const _)
theorem rM {a p a' p':Nat} {c:Nat × Nat} (ha:a<ts.length) (hp:p<24) (ha':a'<ts.length) (hp':p'<24) (h:nx ts (a,p)=some c) (h':nx ts (a',p')=some c):a=a'∧p=p':=by
  rcases Nq hv ha hp with ⟨g1,g2⟩ | ⟨g1,b,q,hb,hq,g2,g3,g4⟩
  · rw [g2] at h; cases h
  rcases Nq hv ha' hp' with ⟨k1,k2⟩ | ⟨k1,b',q',hb',hq',k2,k3,k4⟩
  · rw [k2] at h'; cases h'
  rw [g4] at h
  rw [k4] at h'
  injection h with h
  injection h' with h'
  rw [← h'] at h
  injection h with e1 e2
  subst e1
  obtain ⟨n0,n1,n2,n3,n4⟩:=bS hp hq
  obtain ⟨m0,m1,m2,m3,m4⟩:=bS hp' hq'
  rw [← e2] at m1 m2 m3 m4
  have f1:=g3.2.2.2.1
  have f2:=k3.2.2.2.1
  have e3:PA q (PA p 2)=PA q' (PA p' 2):=by omega
  rw [e3,f2] at f1
  injection f1 with f1 f3
  have e4:a=a':=by omega
  have e5:PI q=PI q':=by omega
  have e6:q=q':=by rw [← Vl hq,e5,Vl hq']
  subst e6
  refine ⟨e4,fQ hp hp' fun k hk=>?_⟩
  have up:∀ j,j<4→PA q (PA p j)=PA q (PA p' j)→PA p j=PA p' j:=fun j hj e=>Tu hq (Ei hp hj) (Ei hp' hj) e
  rcases (by omega:k=0∨k=1∨k=2∨k=3) with rfl | rfl | rfl | rfl
  · exact up 0 (by omega) (by omega)
  · exact up 1 (by omega) (by omega)
  · exact up 2 (by omega) (by omega)
  · exact up 3 (by omega) (by omega)
end
end Go.Proofs.YtbjfinndngafoaaGreat
