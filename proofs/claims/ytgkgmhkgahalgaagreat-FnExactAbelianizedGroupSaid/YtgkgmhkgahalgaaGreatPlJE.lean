import Derived.Test.YtgkgmhkgahalgaaGreatPlT16
set_option linter.unusedVariables false
set_option linter.unusedSimpArgs false
set_option linter.unusedSectionVars false
namespace Go.Proofs.YtgkgmhkgahalgaaGreat
open Go.RowKit
theorem aU {a b c d:Nat} (ha:a<4) (hb:b<4) (hc:c<4) (hd:d<4) (h:a≠b∧a≠c∧a≠d∧b≠c∧b≠d∧c≠d):Ab (fun K=>Dz.f K (a:Int) (b:Int) (c:Int) (d:Int)) (PX a b c d:Int):=by
 obtain ⟨h1,h2,h3,h4,h5⟩:=nC ha hb hc hd h
 have:=fC h1
 rw [h2,h3,h4,h5] at this
 exact this
theorem jJ {a b c d:Nat} (ha:a<4) (hb:b<4) (hc:c<4) (hd:d<4) (h:a≠b∧a≠c∧a≠d∧b≠c∧b≠d∧c≠d):Ab (fun K=>D7.f K [(a:Int),(b:Int),(c:Int),(d:Int)]) (PX a b c d:Int):=by
 obtain ⟨h1,h2,h3,h4,h5⟩:=nC ha hb hc hd h
 have:=oK h1
 rw [h2,h3,h4,h5] at this
 exact this
def NP (q p:Nat):Nat:=PX (PA q (PA p 0)) (PA q (PA p 1)) (PA q (PA p 3)) (PA q (PA p 2))
theorem P5 {p j k:Nat} (hp:p<24) (hj:j<4) (hk:k<4) (h:j≠k):PA p j≠PA p k:=fun e=>h (U6 hp hj hk e)
theorem Md {p q j k:Nat} (hp:p<24) (hq:q<24) (hj:j<4) (hk:k<4) (h:j≠k):PA q (PA p j)≠PA q (PA p k):=P5 hq (H9 hp hj) (H9 hp hk) (P5 hp hj hk h)
theorem kQ {p q:Nat} (hp:p<24) (hq:q<24):NP q p<24∧PA (NP q p) 0=PA q (PA p 0)∧PA (NP q p) 1=PA q (PA p 1)∧PA (NP q p) 2=PA q (PA p 3)∧PA (NP q p) 3=PA q (PA p 2) :=
 nC (H9 hq (H9 hp (by omega))) (H9 hq (H9 hp (by omega))) (H9 hq (H9 hp (by omega))) (H9 hq (H9 hp (by omega)))
  ⟨Md hp hq (by omega) (by omega) (by omega),Md hp hq (by omega) (by omega) (by omega),Md hp hq (by omega) (by omega) (by omega),Md hp hq (by omega) (by omega) (by omega),Md hp hq (by omega) (by omega) (by omega),Md hp hq (by omega) (by omega) (by omega)⟩
def nx (ts:List (List Am)) (c:Nat × Nat):Option (Nat × Nat) :=
 if (Fg ts c.1 (PA c.2 2)).Tet<0 then none else some ((Fg ts c.1 (PA c.2 2)).Tet.toNat,NP (Fg ts c.1 (PA c.2 2)).Perm.toNat c.2)
def aft:Option (Nat × Nat)→Int × Int × Bool
 |none=>(0,0,false)
 |some c=>((c.1:Int),(c.2:Int),true)
section
variable {ts:List (List Am)} (hv:Val ts)
include hv
theorem Ps {a p:Nat} (ha:a<ts.length) (hp:p<24):((Fg ts a (PA p 2)).Tet<0∧nx ts (a,p)=none)∨(¬ (Fg ts a (PA p 2)).Tet<0∧∃ b q:Nat,b<ts.length∧q<24∧Fg ts a (PA p 2)=⟨b,q⟩∧O5 ts a (PA p 2) b q∧nx ts (a,p)=some (b,NP q p)):=by
 unfold nx
 rcases Jm hv ha (H9 hp (show 2<4 by omega)) with ⟨g1,g2⟩|⟨g1,b,q,hb,hq,g2,g3⟩
 ·exact .inl ⟨g1,by rw [if_pos g1]⟩
 ·refine .inr ⟨g1,b,q,hb,hq,g2,g3,?_⟩
  rw [if_neg g1,g2]; rfl
theorem oP {a p:Nat} (ha:a<ts.length) (hp:p<24):Ab (fun K=>F5.f K ts (a:Int) (p:Int)) (aft (nx ts (a,p))):=by
 have h2:PA p 2<4:=H9 hp (by omega)
 have h0:PA p 0<4:=H9 hp (by omega)
 have h1:PA p 1<4:=H9 hp (by omega)
 have h3:PA p 3<4:=H9 hp (by omega)
 have hr:=hv.four a ha
 refine Ab.Hm (Pt hp) ?_
 refine Ab.pos (by omega) ?_
 rw [Int.toNat_natCast]
 refine Ab.pos (by omega) ?_
 rw [Int.toNat_natCast]
 show Ab (fun K=>if decide ((Fg ts a (PA p 2)).Tet<0)=true then _ else _) _
 rcases Ps hv ha hp with ⟨g1,g2⟩|⟨g1,b,q,hb,hq,g2,g3,g4⟩
 ·rw [g2]; exact Ab.pos (decide_eq_true g1) (Ab.const _)
 ·rw [g4]
  refine Ab.neg (by rw [decide_eq_true_eq]; exact g1) ?_
  show Ab (fun K=>Go.Proofs.YtgkgmhkgahalgaaGreat.Hm (Ej.f K (Fg ts a (PA p 2)).Perm) _) _
  rw [g2]
  refine Ab.Hm (Pt hq) (Ab.pos (by omega) (Ab.pos (by omega) (Ab.pos (by omega) (Ab.pos (by omega) ?_))))
  have e2:=Uu (p:=q) h2
  rw [Int.toNat_natCast] at e2
  rw [Uu h0,Uu h1,e2,Uu h3]
  refine Ab.bind (aU (H9 hq h0) (H9 hq h1) (H9 hq h3) (H9 hq h2) ⟨Md hp hq (by omega) (by omega) (by omega),Md hp hq (by omega) (by omega) (by omega),Md hp hq (by omega) (by omega) (by omega),Md hp hq (by omega) (by omega) (by omega),Md hp hq (by omega) (by omega) (by omega),Md hp hq (by omega) (by omega) (by omega)⟩) ?_
  show Ab (fun K=>some ((Fg ts a (PA p 2)).Tet,_,true)) _
  rw [g2]
  exact Ab.const _
omit hv in
theorem Ow {p q:Nat} (hp:p<24) (hq:q<24) {t:Int} {im:List Int} {k s:Nat} {R:Int × Int × Bool} (hk:k<4) (hs:s<4) (hks:([0,1,3,2]:List Int).getD k 0=(s:Int)) (hl:im.length≤10)
  (h:Aa (fun K k'=>Ee.l1 K k' (p:Int) ⟨t,(q:Int)⟩ (im++[(PA q (PA p s):Int)]) ((k+1:Nat):Int)) R):Aa (fun K k'=>Ee.l1 K k' (p:Int) ⟨t,(q:Int)⟩ im (k:Int)) R:=by
 refine Aa.step (G:=fun K k'=>(Ct.f K (p:Int) (s:Int)).bind fun t69=>((Ct.f K (q:Int) t69).bind fun t73=>(if (im.length+1)*8≤140737488355328 then (Ee.l1 K k' (p:Int) ⟨t,(q:Int)⟩ (im++[t73]) ((k+1:Nat):Int)) else none))) (fun K k'=>?_) ?_
 ·rw [Ee.l1,if_pos (by omega),if_pos (by show 0≤(k:Int)∧(k:Int)<4; omega),Int.toNat_natCast,hks,Aj (by omega)]
 ·exact Aa.bind (G:=fun K k' t69=>(Ct.f K (q:Int) t69).bind fun t73=>(if (im.length+1)*8≤140737488355328 then (Ee.l1 K k' (p:Int) ⟨t,(q:Int)⟩ (im++[t73]) ((k+1:Nat):Int)) else none)) (Py hp hs).two (Aa.bind (G:=fun K k' t73=>if (im.length+1)*8≤140737488355328 then (Ee.l1 K k' (p:Int) ⟨t,(q:Int)⟩ (im++[t73]) ((k+1:Nat):Int)) else none) (Py hq (H9 hp hs)).two (Aa.pos (by omega) h))
theorem pF {a p:Nat} (ha:a<ts.length) (hp:p<24):Ab (fun K=>Ee.f K ts (a:Int) (p:Int)) (aft (nx ts (a,p))):=by
 have h2:PA p 2<4:=H9 hp (by omega)
 have h0:PA p 0<4:=H9 hp (by omega)
 have h1:PA p 1<4:=H9 hp (by omega)
 have h3:PA p 3<4:=H9 hp (by omega)
 have hr:=hv.four a ha
 refine Ab.pos (by omega) (Ab.bind (Py hp (show 2<4 by omega)) ?_)
 simp only [Int.toNat_natCast]
 refine Ab.pos (by omega) ?_
 show Ab (fun K=>if (Fg ts a (PA p 2)).Tet<0 then _ else Ee.l1 K K (p:Int) (Fg ts a (PA p 2)) _ _) _
 rcases Ps hv ha hp with ⟨g1,g2⟩|⟨g1,b,q,hb,hq,g2,g3,g4⟩
 ·rw [g2]; exact Ab.pos g1 (Ab.const _)
 ·rw [g4]
  refine Ab.neg g1 ?_
  rw [g2]
  refine Aa.Gz (F:=fun K k=>Ee.l1 K k (p:Int) ⟨(b:Int),(q:Int)⟩ [] ((0:Nat):Int)) ?_
  refine Ow hp hq (s:=0) (by omega) (by omega) rfl (by simp) ?_
  refine Ow hp hq (s:=1) (by omega) (by omega) rfl (by simp) ?_
  refine Ow hp hq (s:=3) (by omega) (by omega) rfl (by simp) ?_
  refine Ow hp hq (s:=2) (by omega) (by omega) rfl (by simp) ?_
  refine Aa.step (G:=fun K k'=>(D7.f K [(PA q (PA p 0):Int),(PA q (PA p 1):Int),(PA q (PA p 3):Int),(PA q (PA p 2):Int)]).bind fun t83=>some ((b:Int),t83,true)) (fun K k'=>by rw [Ee.l1,if_neg (by decide)]; rfl) ?_
  exact Aa.bind (G:=fun K k' t83=>some ((b:Int),t83,true)) (jJ (H9 hq h0) (H9 hq h1) (H9 hq h3) (H9 hq h2) ⟨Md hp hq (by omega) (by omega) (by omega),Md hp hq (by omega) (by omega) (by omega),Md hp hq (by omega) (by omega) (by omega),Md hp hq (by omega) (by omega) (by omega),Md hp hq (by omega) (by omega) (by omega),Md hp hq (by omega) (by omega) (by omega)⟩).two (Aa.const _)
theorem uD {a p a' p':Nat} {c:Nat × Nat} (ha:a<ts.length) (hp:p<24) (ha':a'<ts.length) (hp':p'<24) (h:nx ts (a,p)=some c) (h':nx ts (a',p')=some c):a=a'∧p=p':=by
 rcases Ps hv ha hp with ⟨g1,g2⟩|⟨g1,b,q,hb,hq,g2,g3,g4⟩
 ·rw [g2] at h; cases h
 rcases Ps hv ha' hp' with ⟨k1,k2⟩|⟨k1,b',q',hb',hq',k2,k3,k4⟩
 ·rw [k2] at h'; cases h'
 rw [g4] at h
 rw [k4] at h'
 injection h with h
 injection h' with h'
 rw [← h'] at h
 injection h with e1 e2
 subst e1
 obtain ⟨n0,n1,n2,n3,n4⟩:=kQ hp hq
 obtain ⟨m0,m1,m2,m3,m4⟩:=kQ hp' hq'
 rw [← e2] at m1 m2 m3 m4
 have f1:=g3.2.2.2.1
 have f2:=k3.2.2.2.1
 have e3:PA q (PA p 2)=PA q' (PA p' 2):=by omega
 rw [e3,f2] at f1
 injection f1 with f1 f3
 have e4:a=a':=by omega
 have e5:PI q=PI q':=by omega
 have e6:q=q':=by rw [← mJ hq,e5,mJ hq']
 subst e6
 refine ⟨e4,uC hp hp' fun k hk=>?_⟩
 have up:∀ j,j<4→PA q (PA p j)=PA q (PA p' j)→PA p j=PA p' j:=fun j hj e=>U6 hq (H9 hp hj) (H9 hp' hj) e
 rcases (by omega:k=0∨k=1∨k=2∨k=3) with rfl | rfl | rfl | rfl
 ·exact up 0 (by omega) (by omega)
 ·exact up 1 (by omega) (by omega)
 ·exact up 2 (by omega) (by omega)
 ·exact up 3 (by omega) (by omega)
end
def ST (e:Nat):Nat:=[0,2,4,8,10,16].getD e 0
theorem xM {e:Nat} (he:e<6):ST e<24∧PA (ST e) 0=EA e∧PA (ST e) 1=EB e∧EE (PA (ST e) 0) (PA (ST e) 1)=e:=by
 have:∀ e,e<6→ST e<24∧PA (ST e) 0=EA e∧PA (ST e) 1=EB e∧EE (PA (ST e) 0) (PA (ST e) 1)=e:=by decide +kernel
 exact this e he
theorem fV:(fun (K:Nat) (r:Int)=>(List.range 6).map fun e:Nat=>Go.Proofs.YtgkgmhkgahalgaaGreat.Dw (Gw.f (K+150) (e:Int)) (fun t412 t413=>((Ic.f (K+150) ([t412,t413]:List Int)).bind fun t419=>(if 0≤(0:Int)∧(0:Int)<(t419.length:Int) then (if 0≤(1:Int)∧(1:Int)<(t419.length:Int) then ((Dz.f (K+150) t412 t413 (t419.getD 0 0) (t419.getD 1 0)).bind fun t429=>(some (r,t429))) else none) else none))))=fun K r=>(List.range 6).map fun e:Nat=>some (r,(ST e:Int)):=by kernel_rfl
theorem oW {e:Nat} (he:e<6) (r:Int):Ab (fun K=>Go.Proofs.YtgkgmhkgahalgaaGreat.Dw (Gw.f K (e:Int)) (fun t412 t413=>((Ic.f K ([t412,t413]:List Int)).bind fun t419=>(if 0≤(0:Int)∧(0:Int)<(t419.length:Int) then (if 0≤(1:Int)∧(1:Int)<(t419.length:Int) then ((Dz.f K t412 t413 (t419.getD 0 0) (t419.getD 1 0)).bind fun t429=>(some (r,t429))) else none) else none)))) (r,(ST e:Int)) :=
 tab (F:=fun K e=>Go.Proofs.YtgkgmhkgahalgaaGreat.Dw (Gw.f K (e:Int)) (fun t412 t413=>((Ic.f K ([t412,t413]:List Int)).bind fun t419=>(if 0≤(0:Int)∧(0:Int)<(t419.length:Int) then (if 0≤(1:Int)∧(1:Int)<(t419.length:Int) then ((Dz.f K t412 t413 (t419.getD 0 0) (t419.getD 1 0)).bind fun t429=>(some (r,t429))) else none) else none)))) (g:=fun e=>(r,(ST e:Int))) (m:=150) (n:=6) (funext fun K=>congrFun (congrFun fV K) r) he
theorem zA {e:Nat} (he:e<6):Ab (fun K=>Cu.f K [0,1] [(EA e:Int),(EB e:Int)]) ((ST e:Int),true) :=
 tab (F:=fun K e=>Cu.f K [0,1] [(EA e:Int),(EB e:Int)]) (g:=fun e=>((ST e:Int),true)) (m:=120) (n:=6) (by kernel_rfl) he
theorem Zz {l:List Int} (hl:l.length≤1000) {v:Int} {j0:Nat} (hj:j0<l.length) (h0:l.getD j0 0=v) (h1:∀ j,j<j0→l.getD j 0≠v):∀ (d j:Nat),j0 - j=d→j≤j0→Aa (fun K k=>Ca.l1 K k l v (j:Int)) (j0:Int)
 |0,j,hd,hle=>by
  obtain rfl:j=j0:=by omega
  refine Aa.of fun K k=>?_
  rw [Ca.l1,if_pos (by omega),if_pos (by omega),Int.toNat_natCast,if_pos h0.symm]
 |d+1,j,hd,hle=>by
  refine Aa.step (fun K k=>?_) (Zz hl hj h0 h1 d (j+1) (by omega) (by omega))
  rw [Ca.l1,if_pos (by omega),if_pos (by omega),Int.toNat_natCast,if_neg (fun e=>h1 j (by omega) e.symm),Aj (by omega)]
theorem jG {a b:Nat} (ha:a<4) (hb:b<4) (h:a≠b) {f:Nat} (hfa:f≠a) (hfb:f≠b):EA (EE a b)≠f∧EB (EE a b)≠f:=by
 obtain ⟨_,h1,h2⟩:=Wn ha hb h
 rw [h1,h2]; omega
structure dH (ts:List (List Am)) (C:List Int) (cl:Int):Prop where
 no:∀ j,j<6*ts.length→C.getD j 0=cl→∀ f,¬ bdE ts j f
section
variable {ts:List (List Am)} (hv:Val ts) {C:List Int} {cl:Int} (hI:dH ts C cl)
include hv hI
theorem Yv {a:Nat} (ha:a<ts.length) {R:Int × Int} (hR:Aa (fun K k=>Dr.l1 K k ts cl (rowsOf C 6 ts.length) ((a+1:Nat):Int)) R):∀ (d p:Nat),24 - p=d→p≤24→Aa (fun K k=>Dr.l4 K k ts cl (rowsOf C 6 ts.length) (a:Int) (p:Int)) R
 |0,p,hd,hp=>by
  have h8:=hv.le
  refine Aa.step (fun K k=>?_) hR
  rw [Dr.l4,if_neg (by omega),Aj (by omega)]
 |d+1,p,hd,hp=>by
  have h8:=hv.le
  have hp:p<24:=by omega
  have h0:PA p 0<4:=H9 hp (by omega)
  have h1:PA p 1<4:=H9 hp (by omega)
  have h3:PA p 3<4:=H9 hp (by omega)
  have hne:PA p 0≠PA p 1:=P5 hp (by omega) (by omega) (by omega)
  have he:=(Wn h0 h1 hne).1
  have ih:=Yv ha hR d (p+1) (by omega) (by omega)
  have hr:=hv.four a ha
  refine Aa.step (G:=fun K k=>(Ct.f K (p:Int) ((0:Nat):Int)).bind fun t387=>((Ct.f K (p:Int) ((1:Nat):Int)).bind fun t391=>((E8.f K t387 t391).bind fun t395=>(if 0≤(a:Int)∧(a:Int)<((rowsOf C 6 ts.length).length:Int) then (if 0≤t395∧t395<(((rowsOf C 6 ts.length).getD a []).length:Int) then (if ((rowsOf C 6 ts.length).getD a []).getD t395.toNat 0=cl then (if 0≤(a:Int)∧(a:Int)<(ts.length:Int) then ((Ct.f K (p:Int) ((3:Nat):Int)).bind fun t415=>(if 0≤t415∧t415<((ts.getD a []).length:Int) then (if ((ts.getD a []).getD t415.toNat Eo).Tet<0 then (some ((a:Int),(p:Int))) else (Dr.l4 K k ts cl (rowsOf C 6 ts.length) (a:Int) ((p+1:Nat):Int))) else none)) else none) else (Dr.l4 K k ts cl (rowsOf C 6 ts.length) (a:Int) ((p+1:Nat):Int))) else none) else none)))) (fun K k=>?_) ?_
  ·rw [Dr.l4,if_pos (by omega),Aj (by omega)]; rfl
  ·refine Aa.bind (Py hp (by omega)).two ?_
   refine Aa.bind (Py hp (by omega)).two ?_
   refine Aa.bind (X3 h0 h1 hne).two ?_
   refine Aa.pos (by rw [Gr]; omega) ?_
   rw [Ij ha]
   refine Aa.pos (by rw [Iq]; omega) ?_
   rw [Int.toNat_natCast,I7 he]
   by_cases hcl:C.getD (6*a+EE (PA p 0) (PA p 1)) 0=cl
   ·refine Aa.pos hcl (Aa.pos (by omega) ?_)
    refine Aa.bind (Py hp (by omega)).two (Aa.pos (by omega) ?_)
    rw [Int.toNat_natCast]
    refine Aa.neg (fun hlt=>?_) ih
    refine hI.no _ (mul_lt ha he) hcl (PA p 3) ?_
    unfold bdE
    rw [(de6 he).1,(de6 he).2]
    obtain ⟨n1,n2⟩:=jG h0 h1 hne (f:=PA p 3) (P5 hp (by omega) (by omega) (by omega)) (P5 hp (by omega) (by omega) (by omega))
    exact ⟨h3,n1,n2,hlt⟩
   ·exact Aa.neg hcl ih
theorem Zc {R:Int × Int} (hR:Ab (fun K=>Go.Proofs.YtgkgmhkgahalgaaGreat.Dw (Dx.f K ts cl) (fun t424 t425=>(Go.Proofs.YtgkgmhkgahalgaaGreat.Dw (Ha.f t425) (fun t429 t430=>(Go.Proofs.YtgkgmhkgahalgaaGreat.Dw (Cu.f K ([0,1]:List Int) ([t429,t430]:List Int)) (fun t438 t439=>(some (t424,t438)))))))) R):∀ (d a:Nat),ts.length - a=d→a≤ts.length→Aa (fun K k=>Dr.l1 K k ts cl (rowsOf C 6 ts.length) (a:Int)) R
 |0,a,hd,ha=>by
  have h8:=hv.le
  refine Aa.step (fun K k=>?_) hR.two
  rw [Dr.l1,Dn.f,Option.bind_some,if_neg (by omega)]
 |d+1,a,hd,ha=>by
  have h8:=hv.le
  refine Aa.step (fun K k=>?_) (Yv hv hI (show a<ts.length by omega) (Zc hR d (a+1) (by omega) (by omega)) 24 0 (by omega) (by omega))
  rw [Dr.l1,Dn.f,Option.bind_some,if_pos (by omega)]
  rfl
end
section
variable {ts:List (List Am)} (hv:Val ts) {C:List Int} {cl:Int} {j0:Nat} (hj:j0<6*ts.length) (h0:C.getD j0 0=cl) (h1:∀ j,j<j0→C.getD j 0≠cl)
include hv hj h0 h1
theorem Ue:∀ (d a e:Nat),7*(j0/6)+j0%6 - (7*a+e)=d→a≤j0/6→e≤6→6*a+e≤j0→Aa (fun K k=>Dx.l4 K k cl (rowsOf C 6 ts.length) (a:Int) (e:Int)) (((j0/6:Nat):Int),((j0%6:Nat):Int))
 |0,a,e,hd,ha,he,hle=>by
  have h8:=hv.le
  have ha':a=j0/6:=by omega
  have he':e=j0%6:=by omega
  have hlt:a<ts.length:=by omega
  refine Aa.of fun K k=>?_
  rw [Dx.l4,if_pos (by omega),if_pos (by rw [Gr]; omega),Int.toNat_natCast,Ij hlt,if_pos (by rw [Iq]; omega),Int.toNat_natCast,I7 (by omega),if_pos (by rw [show 6*a+e=j0 by omega]; exact h0),ha',he']
 |d+1,a,e,hd,ha,he,hle=>by
  have h8:=hv.le
  have hlt:a<ts.length:=by omega
  by_cases h6:e=6
  ·refine Aa.step (G:=fun K k=>Dx.l1 K k cl (rowsOf C 6 ts.length) ((a+1:Nat):Int)) (fun K k=>?_) (Aa.step (fun K k=>?_) (Ue d (a+1) 0 (by omega) (by omega) (by omega) (by omega)))
   ·rw [Dx.l4,if_neg (by omega),Aj (by omega)]
   ·rw [Dx.l1,if_pos (by rw [Gr]; omega)]; rfl
  ·refine Aa.step (fun K k=>?_) (Ue d a (e+1) (by omega) (by omega) (by omega) (by omega))
   rw [Dx.l4,if_pos (by omega),if_pos (by rw [Gr]; omega),Int.toNat_natCast,Ij hlt,if_pos (by rw [Iq]; omega),Int.toNat_natCast,I7 (by omega),if_neg (h1 _ (by omega)),Aj (by omega)]
theorem lQ:Aa (fun K k=>Dx.l1 K k cl (rowsOf C 6 ts.length) 0) (((j0/6:Nat):Int),((j0%6:Nat):Int)):=by
 refine Aa.step (fun K k=>?_) (Ue hv hj h0 h1 _ 0 0 rfl (by omega) (by omega) (by omega))
 rw [Dx.l1,if_pos (by rw [Gr]; omega)]; rfl
end
section
variable {ts:List (List Am)} (hv:Val ts) {s:List Int} (hP:Hq (6*ts.length) (JE ts) s) (hc:Ab (fun K=>Co.f K ts) (CN (6*ts.length) s))
 {vr fr:List (List Int)} {nn:List Int} (hcnt:Ab (fun K=>Bb.f K ts) (vr,rowsOf (CN (6*ts.length) s) 6 ts.length,fr,nn))
 {o:List Bool} (hbt:Ab (fun K=>Al.f K ts) o) (hbl:o.length=Ce s (6*ts.length)) (hbb:∀ c:Nat,o.getD c false=true↔∃ j,j<6*ts.length∧(CN (6*ts.length) s).getD j 0=(c:Int)∧∃ f,bdE ts j f)
include hv hP hc hcnt hbt hbl hbb
theorem cO {c j0:Nat} (hj:j0<6*ts.length) (h0:(CN (6*ts.length) s).getD j0 0=(c:Int)) (h1:∀ j,j<j0→(CN (6*ts.length) s).getD j 0≠(c:Int)) (hno:o.getD c false=false) :
  dH ts (CN (6*ts.length) s) (c:Int)∧Ab (fun K=>Bj.f K ts (c:Int)) (((j0/6:Nat):Int),(ST (j0%6):Int))∧Ab (fun K=>Dr.f K ts (c:Int)) (((j0/6:Nat):Int),(ST (j0%6):Int)):=by
 have h8:=hv.le
 have he:j0%6<6:=by omega
 have hI:dH ts (CN (6*ts.length) s) (c:Int):=⟨fun j hj' hcl f hbd=>by
  have:=(hbb c).2 ⟨j,hj',hcl,f,hbd⟩
  rw [hno] at this; cases this⟩
 have hr:=K9 (s:=s) (N:=6*ts.length) (by omega) hj
 refine ⟨hI,?_,?_⟩
 ·refine Ab.bind hc (Ab.bind hbt (Ab.pos (by omega) ?_))
  rw [Int.toNat_natCast]
  refine Ab.neg (by rw [hno]; decide) (Ab.bind (a:=(j0:Int)) (Zz (by rw [Nl]; omega) (by rw [Nl]; exact hj) h0 h1 _ 0 rfl (by omega)).Gz ?_)
  have e1:(j0:Int).tmod 6=((j0%6:Nat):Int):=by rw [Int.tmod_eq_emod_of_nonneg (by omega)]; omega
  have e2:w64 ((j0:Int).tdiv 6)=((j0/6:Nat):Int):=by rw [Int.tdiv_eq_ediv_of_nonneg (by omega),E9 (by omega) (by omega)]; omega
  rw [e1,e2]
  exact oW he _
 ·refine Ab.Hm hcnt ?_
  refine Aa.Gz (F:=fun K k=>Dr.l1 K k ts (c:Int) (rowsOf (CN (6*ts.length) s) 6 ts.length) ((0:Nat):Int)) ?_
  refine Zc hv hI ?_ _ 0 rfl (by omega)
  have hf:Ab (fun K=>Dx.f K ts (c:Int)) (((j0/6:Nat):Int),((j0%6:Nat):Int)):=Ab.Hm hcnt (lQ hv hj h0 h1).Gz
  refine Ab.Dw hf ?_
  refine Ab.Dw (a:=(EA (j0%6):Int)) (b:=(EB (j0%6):Int)) (Ab.congr (fun K=>P7 he) (Ab.const _)) ?_
  exact Ab.Dw (zA he) (Ab.const _)
end
theorem jV:∀ (N:Nat) (f:Nat→Nat),(∀ i,i≤N→f i<N)→∃ i j,i<j∧j≤N∧f i=f j
 |0,f,h=>by have:=h 0 (Nat.le_refl _); omega
 |N+1,f,h=>by
  by_cases hx:∃ i,i≤N∧f i=f (N+1)
  ·obtain ⟨i,hi,e⟩:=hx
   exact ⟨i,N+1,by omega,by omega,e⟩
  ·have hne:∀ i,i≤N→f i≠f (N+1):=fun i hi e=>hx ⟨i,hi,e⟩
   have hl:=h (N+1) (Nat.le_refl _)
   obtain ⟨i,j,h1,h2,h3⟩:=jV N (fun i=>if f i > f (N+1) then f i - 1 else f i) (fun i hi=>by
    have h1:=h i (by omega)
    have h2:=hne i hi
    show (if f i > f (N+1) then f i - 1 else f i)<N
    split<;>omega)
   refine ⟨i,j,h1,by omega,?_⟩
   have e1:=hne i (by omega)
   have e2:=hne j h2
   have h3:(if f i > f (N+1) then f i - 1 else f i)=(if f j > f (N+1) then f j - 1 else f j):=h3
   split at h3<;>split at h3<;>omega
def it (ts:List (List Am)) (c:Nat × Nat):Nat→Nat × Nat
 |0=>c
 |k+1=>(nx ts (it ts c k)).getD c
def eo (c:Nat × Nat):Nat:=6*c.1+EE (PA c.2 0) (PA c.2 1)
def crn (c:Nat × Nat):Am:=⟨c.1,c.2⟩
def Om (ts:List (List Am)) (c:Nat × Nat) (k:Nat):List Am:=(List.range k).map fun i=>crn (it ts c i)
theorem N9 (ts:List (List Am)) (c:Nat × Nat) (k:Nat):(Om ts c k).length=k:=by simp [Om]
theorem U3 {ts:List (List Am)} {c:Nat × Nat} {k i:Nat} (h:i<k):(Om ts c k).getD i Eo=crn (it ts c i):=by
 rw [Om,List.getD_eq_getElem?_getD,List.getElem?_map,List.getElem?_range h]; rfl
theorem Ww (ts:List (List Am)) (c:Nat × Nat) (k:Nat):Om ts c (k+1)=Om ts c k++[crn (it ts c k)]:=by unfold Om; rw [List.range_succ,List.map_append]; rfl
structure Cor (ts:List (List Am)) (C:List Int) (cl:Int) (c:Nat × Nat):Prop where
 tet:c.1<ts.length
 perm:c.2<24
 at_:C.getD (eo c) 0=cl
theorem xB {c:Nat × Nat} (hp:c.2<24):PA c.2 0<4∧PA c.2 1<4∧PA c.2 0≠PA c.2 1∧EE (PA c.2 0) (PA c.2 1)<6∧eo c/6=c.1∧eo c%6=EE (PA c.2 0) (PA c.2 1):=by
 have h0:PA c.2 0<4:=H9 hp (by omega)
 have h1:PA c.2 1<4:=H9 hp (by omega)
 have hne:PA c.2 0≠PA c.2 1:=P5 hp (by omega) (by omega) (by omega)
 have he:=(Wn h0 h1 hne).1
 exact ⟨h0,h1,hne,he,(de6 he).1,(de6 he).2⟩
section
variable {ts:List (List Am)} (hv:Val ts)
include hv
theorem Uf {a f b q u v:Nat} (hq:q<24) (hu:u<4) (hw:v<4) (huv:u≠v) (h1:f≠u) (h2:f≠v) (hx:Fg ts a f=⟨b,q⟩):∃ fl,nbr ts (6*a+EE u v) f=some (6*b+EE (PA q u) (PA q v),fl):=by
 obtain ⟨he,hm,hM⟩:=Wn hu hw huv
 obtain ⟨n1,n2⟩:=jG hu hw huv h1 h2
 have key:=Oj hv he n1 n2 hx
 rw [hm,hM] at key
 have hE:EE (PA q (min u v)) (PA q (max u v))=EE (PA q u) (PA q v):=by
  by_cases h:u≤v
  ·rw [Nat.min_eq_left h,Nat.max_eq_right h]
  ·rw [Nat.min_eq_right (by omega),Nat.max_eq_left (by omega)]
   exact dC (H9 hq hw) (H9 hq hu)
 rw [hE] at key
 exact ⟨_,key⟩
variable {s:List Int} (hP:Hq (6*ts.length) (JE ts) s) {cl:Int} (hI:dH ts (CN (6*ts.length) s) cl)
include hP hI
theorem jS {c:Nat × Nat} (hc:Cor ts (CN (6*ts.length) s) cl c):∃ c',nx ts c=some c'∧Cor ts (CN (6*ts.length) s) cl c'∧(∃ fl,nbr ts (eo c) (PA c.2 2)=some (eo c',fl))∧(∃ fl,nbr ts (eo c') (PA c'.2 3)=some (eo c,fl)):=by
 obtain ⟨a,p⟩:=c
 obtain ⟨ha,hp,hat⟩:=hc
 have ha:a<ts.length:=ha
 have hp:p<24:=hp
 obtain ⟨h0,h1,hne,he,d1,d2⟩:=xB (c:=(a,p)) hp
 have h0:PA p 0<4:=h0
 have h1:PA p 1<4:=h1
 have hne:PA p 0≠PA p 1:=hne
 have h20:PA p 2≠PA p 0:=P5 hp (by omega) (by omega) (by omega)
 have h21:PA p 2≠PA p 1:=P5 hp (by omega) (by omega) (by omega)
 have h2:PA p 2<4:=H9 hp (by omega)
 have hlt:eo (a,p)<6*ts.length:=mul_lt ha he
 rcases Ps hv ha hp with ⟨g1,g2⟩|⟨g1,b,q,hb,hq,g2,g3,g4⟩
 ·refine (hI.no _ hlt hat (PA p 2) ?_).elim
  unfold bdE
  rw [d1,d2]
  obtain ⟨n1,n2⟩:=jG h0 h1 hne h20 h21
  exact ⟨h2,n1,n2,g1⟩
 ·obtain ⟨m0,m1,m2,m3,m4⟩:=kQ hp hq
  have e1:eo (b,NP q p)=6*b+EE (PA q (PA p 0)) (PA q (PA p 1)):=by
   show 6*b+EE (PA (NP q p) 0) (PA (NP q p) 1)=_
   rw [m1,m2]
  obtain ⟨fl,hn⟩:=Uf hv hq h0 h1 hne h20 h21 g2
  have hn:nbr ts (eo (a,p)) (PA p 2)=some (eo (b,NP q p),fl):=by rw [e1]; exact hn
  obtain ⟨fl',hn'⟩:=Uf hv (qP hq) (H9 hq h0) (H9 hq h1) (P5 hq h0 h1 hne) (P5 hq h2 h0 h20) (P5 hq h2 h1 h21) g3.2.2.2.1
  rw [Va hq h0,Va hq h1] at hn'
  refine ⟨(b,NP q p),g4,⟨hb,m0,?_⟩,⟨fl,hn⟩,⟨fl',?_⟩⟩
  ·rw [(iM hv hP _ _ _ _ hlt h2 hn).2]; exact hat
  ·show nbr ts (eo (b,NP q p)) (PA (NP q p) 3)=_
   rw [m4,e1]; exact hn'
theorem Nw {c:Nat × Nat} (hc:Cor ts (CN (6*ts.length) s) cl c):∀ k,Cor ts (CN (6*ts.length) s) cl (it ts c k)
 |0=>hc
 |k+1=>by
  obtain ⟨c',h1,h2,_⟩:=jS hv hP hI (Nw hc k)
  rw [it,h1]; exact h2
theorem dE {c:Nat × Nat} (hc:Cor ts (CN (6*ts.length) s) cl c) (k:Nat):nx ts (it ts c k)=some (it ts c (k+1))∧(∃ fl,nbr ts (eo (it ts c k)) (PA (it ts c k).2 2)=some (eo (it ts c (k+1)),fl))∧(∃ fl,nbr ts (eo (it ts c (k+1))) (PA (it ts c (k+1)).2 3)=some (eo (it ts c k),fl)):=by
 obtain ⟨c',h1,h2,h3,h4⟩:=jS hv hP hI (Nw hv hP hI hc k)
 have e:it ts c (k+1)=c':=by rw [it,h1]; rfl
 rw [e]
 exact ⟨h1,h3,h4⟩
theorem dK {c:Nat × Nat} (hc:Cor ts (CN (6*ts.length) s) cl c):∀ i j,it ts c i=it ts c (i+j)→it ts c j=c
 |0,j,h=>by rw [Nat.zero_add] at h; exact h.symm
 |i+1,j,h=>by
  refine dK hc i j ?_
  have c1:=Nw hv hP hI hc i
  have c2:=Nw hv hP hI hc (i+j)
  have n1:=(dE hv hP hI hc i).1
  have n2:=(dE hv hP hI hc (i+j)).1
  rw [h,show i+1+j=i+j+1 by omega] at n1
  obtain ⟨e1,e2⟩:=uD hv c1.tet c1.perm c2.tet c2.perm n1 n2
  exact Prod.ext e1 e2
theorem xY {c:Nat × Nat} (hc:Cor ts (CN (6*ts.length) s) cl c):∃ m,1≤m∧m≤192∧it ts c m=c∧∀ j,0<j→j<m→it ts c j≠c:=by
 have h8:=hv.le
 obtain ⟨i,j,h1,h2,h3⟩:=jV 192 (fun k=>24*(it ts c k).1+(it ts c k).2) (fun i _=>by
  have c1:=Nw hv hP hI hc i
  have:=c1.tet
  have:=c1.perm
  show 24*(it ts c i).1+(it ts c i).2<192
  omega)
 have hex:∃ m,1≤m∧m≤192∧it ts c m=c:=by
  refine ⟨j - i,by omega,by omega,dK hv hP hI hc i (j - i) ?_⟩
  rw [show i+(j - i)=j by omega]
  have c1:=(Nw hv hP hI hc i).perm
  have c2:=(Nw hv hP hI hc j).perm
  have h3:24*(it ts c i).1+(it ts c i).2=24*(it ts c j).1+(it ts c j).2:=h3
  exact Prod.ext (by omega) (by omega)
 have least:∀ n m,m≤n→1≤m→m≤192→it ts c m=c→∃ m,1≤m∧m≤192∧it ts c m=c∧∀ j,0<j→j<m→it ts c j≠c:=by
  intro n
  induction n with
  |zero=>intro m h1 h2; omega
  |succ n ih =>
   intro m h1 h2 h3 h4
   by_cases hx:∃ j,0<j∧j<m∧it ts c j=c
   ·obtain ⟨j,k1,k2,k3⟩:=hx
    exact ih j (by omega) (by omega) (by omega) k3
   ·exact ⟨m,h2,h3,h4,fun j k1 k2 k3=>hx ⟨j,k1,k2,k3⟩⟩
 obtain ⟨m,h4,h5,h6⟩:=hex
 exact least m m (Nat.le_refl _) h4 h5 h6
theorem iY {c:Nat × Nat} (hc:Cor ts (CN (6*ts.length) s) cl c) {m:Nat} (hm:m≤192) (hmc:it ts c m=c) (hno:∀ j,0<j→j<m→it ts c j≠c):∀ (d k:Nat),m - (k+1)=d→k<m→Aa (fun K f=>Di.l1 K f ts (c.1:Int) (c.2:Int) (Om ts c (k+1))) (Om ts c m)
 |d,k,hd,hk=>by
  have hk1:=Nw hv hP hI hc k
  have hn:=(dE hv hP hI hc k).1
  have aft1:=oP hv hk1.tet hk1.perm
  rw [hn] at aft1
  have hw:w64 (((k+1:Nat):Int) - 1)=(k:Int):=by rw [E9 (by omega) (by omega)]; omega
  refine Aa.step (G:=fun K f=>Go.Proofs.YtgkgmhkgahalgaaGreat.Gy (F5.f K ts ((it ts c k).1:Int) ((it ts c k).2:Int)) (fun t64 t65 t66=>(if t66=true then (if (t64,t65)=((c.1:Int),(c.2:Int)) then (some (Om ts c (k+1))) else (if ((Om ts c (k+1)).length+1)*16≤140737488355328 then (Di.l1 K f ts (c.1:Int) (c.2:Int) ((Om ts c (k+1))++[(⟨t64,t65⟩:Am)])) else none)) else (some (Om ts c (k+1)))))) (fun K f=>?_) ?_
  ·rw [Di.l1,N9,hw,if_pos (by omega),Int.toNat_natCast,U3 (by omega)]; rfl
  ·refine Aa.Gy (a:=((it ts c (k+1)).1:Int)) (b:=((it ts c (k+1)).2:Int)) (c:=true) aft1.two (Aa.pos rfl ?_)
   by_cases e:k+1=m
   ·subst e
    refine Aa.pos ?_ (Aa.const _)
    rw [hmc]
   ·have h2:¬ (((it ts c (k+1)).1:Int),((it ts c (k+1)).2:Int))=((c.1:Int),(c.2:Int)):=fun h=>by
     injection h with h1 h2
     exact hno (k+1) (by omega) (by omega) (Prod.ext (by omega) (by omega))
    refine Aa.neg h2 (Aa.pos (by rw [N9]; omega) ?_)
    have:=iY hc hm hmc hno (d - 1) (k+1) (by omega) (by omega)
    rw [Ww ts c (k+1)] at this
    exact this
theorem kV {c:Nat × Nat} (hc:Cor ts (CN (6*ts.length) s) cl c) {m:Nat} (hm:m≤192) (hmc:it ts c m=c) (hno:∀ j,0<j→j<m→it ts c j≠c):∀ (d k:Nat),m - (k+1)=d→k<m→Aa (fun K f=>Gs.l1 K f ts (c.1:Int) (c.2:Int) (Om ts c (k+1))) (Om ts c m)
 |d,k,hd,hk=>by
  have hk1:=Nw hv hP hI hc k
  have hn:=(dE hv hP hI hc k).1
  have aft1:=pF hv hk1.tet hk1.perm
  rw [hn] at aft1
  have hw:w64 (((k+1:Nat):Int) - 1)=(k:Int):=by rw [E9 (by omega) (by omega)]; omega
  refine Aa.step (G:=fun K f=>Go.Proofs.YtgkgmhkgahalgaaGreat.Gy (Ee.f K ts ((it ts c k).1:Int) ((it ts c k).2:Int)) (fun t64 t65 t66=>(if t66=true then (if (t64,t65)=((c.1:Int),(c.2:Int)) then (some (Om ts c (k+1))) else (if ((Om ts c (k+1)).length+1)*16≤140737488355328 then (Gs.l1 K f ts (c.1:Int) (c.2:Int) ((Om ts c (k+1))++[(⟨t64,t65⟩:Am)])) else none)) else (some (Om ts c (k+1)))))) (fun K f=>?_) ?_
  ·rw [Gs.l1,N9,hw,if_pos (by omega),Int.toNat_natCast,U3 (by omega)]; rfl
  ·refine Aa.Gy (a:=((it ts c (k+1)).1:Int)) (b:=((it ts c (k+1)).2:Int)) (c:=true) aft1.two (Aa.pos rfl ?_)
   by_cases e:k+1=m
   ·subst e
    refine Aa.pos ?_ (Aa.const _)
    rw [hmc]
   ·have h2:¬ (((it ts c (k+1)).1:Int),((it ts c (k+1)).2:Int))=((c.1:Int),(c.2:Int)):=fun h=>by
     injection h with h1 h2
     exact hno (k+1) (by omega) (by omega) (Prod.ext (by omega) (by omega))
    refine Aa.neg h2 (Aa.pos (by rw [N9]; omega) ?_)
    have:=kV hc hm hmc hno (d - 1) (k+1) (by omega) (by omega)
    rw [Ww ts c (k+1)] at this
    exact this
end
theorem Xv {w:List Int} (hl:w.length≤1000) {P:Int→Prop} (hw:∀ i,i<w.length→P (w.getD i 0)):∃ r:List Int,r.length≤w.length∧(∀ i,i<r.length→P (r.getD i 0))∧Ab (fun K=>Fb.f K w) r∧Ab (fun K=>De.f K w) r:=by
 have main:∀ d i (a:List Int),w.length - i=d→i≤w.length→a.length≤i→(∀ j,j<a.length→P (a.getD j 0))→∃ r:List Int,r.length≤w.length∧(∀ i,i<r.length→P (r.getD i 0))∧Aa (fun K k=>Fb.l1 K k w a (i:Int)) r∧Aa (fun K k=>De.l1 K k w a (i:Int)) r:=by
  intro d
  induction d with
  |zero =>
   intro i a hd hi ha hP
   refine ⟨a,by omega,hP,Aa.of fun K k=>?_,Aa.of fun K k=>?_⟩
   ·rw [Fb.l1,if_neg (by omega)]
   ·rw [De.l1,if_neg (by omega)]
  |succ d ih =>
   intro i a hd hi ha hP
   have hpush:∃ r:List Int,r.length≤w.length∧(∀ i,i<r.length→P (r.getD i 0))∧Aa (fun K k=>Fb.l1 K k w (a++[w.getD i 0]) ((i+1:Nat):Int)) r∧Aa (fun K k=>De.j4 K k w a (i:Int) false) r:=by
    obtain ⟨r,h1,h2,h3,h4⟩:=ih (i+1) (a++[w.getD i 0]) (by omega) (by omega) (by rw [List.length_append]; simp only [List.length_cons,List.length_nil]; omega) (fun j hj=>by
     rw [List.length_append] at hj
     simp only [List.length_cons,List.length_nil] at hj
     rw [List.getD_eq_getElem?_getD,List.getElem?_append]
     split
     ·rw [← List.getD_eq_getElem?_getD]; exact hP j (by assumption)
     ·obtain rfl:j=a.length:=by omega
      simpa using hw i (by omega))
    refine ⟨r,h1,h2,h3,Aa.step (fun K k=>?_) h4⟩
    rw [De.j4,if_neg (by decide),if_pos (by omega),if_pos (by omega),Int.toNat_natCast,Aj (by omega)]
   by_cases h0:0<a.length
   ·have e1:w64 ((a.length:Int) - 1)=((a.length - 1:Nat):Int):=by rw [E9 (by omega) (by omega)]; omega
    by_cases hg:a.getD (a.length - 1) 0=w64 (0 - w.getD i 0)
    ·have ht:(a.take (a.length - 1)).length=a.length - 1:=by rw [List.length_take]; omega
     obtain ⟨r,h1,h2,h3,h4⟩:=ih (i+1) (a.take (a.length - 1)) (by omega) (by omega) (by omega) (fun j hj=>by
      rw [ht] at hj
      rw [List.getD_eq_getElem?_getD,List.getElem?_take,if_pos hj,← List.getD_eq_getElem?_getD]
      exact hP j (by omega))
     refine ⟨r,h1,h2,Aa.step (fun K k=>?_) h3,Aa.step (fun K k=>?_) (Aa.step (fun K k=>?_) h4:Aa (fun K k=>De.j4 K k w a (i:Int) true) r)⟩
     ·rw [Fb.l1,if_pos (by omega),if_pos (by omega),if_pos (by omega),e1,if_pos (by omega),Int.toNat_natCast,Int.toNat_natCast,if_pos hg,if_pos (by omega),List.drop_zero,Aj (by omega)]
     ·rw [De.l1,if_pos (by omega),if_pos (by omega),e1,if_pos (by omega),if_pos (by omega),Int.toNat_natCast,Int.toNat_natCast,decide_eq_true hg]
     ·rw [De.j4,if_pos rfl,e1,if_pos (by omega),Int.toNat_natCast,List.drop_zero,Aj (by omega)]
    ·obtain ⟨r,h1,h2,h3,h4⟩:=hpush
     refine ⟨r,h1,h2,Aa.step (fun K k=>?_) h3,Aa.step (fun K k=>?_) h4⟩
     ·rw [Fb.l1,if_pos (by omega),if_pos (by omega),if_pos (by omega),e1,if_pos (by omega),Int.toNat_natCast,Int.toNat_natCast,if_neg hg,if_pos (by omega),Aj (by omega)]
     ·rw [De.l1,if_pos (by omega),if_pos (by omega),e1,if_pos (by omega),if_pos (by omega),Int.toNat_natCast,Int.toNat_natCast,decide_eq_false hg]
   ·obtain ⟨r,h1,h2,h3,h4⟩:=hpush
    refine ⟨r,h1,h2,Aa.step (fun K k=>?_) h3,Aa.step (fun K k=>?_) h4⟩
    ·rw [Fb.l1,if_pos (by omega),if_pos (by omega),if_neg (by omega),if_pos (by omega),Int.toNat_natCast,Aj (by omega)]
    ·rw [De.l1,if_pos (by omega),if_neg (by omega)]
 obtain ⟨r,h1,h2,h3,h4⟩:=main _ 0 [] rfl (by omega) (by simp) (fun j hj=>absurd hj (Nat.not_lt_zero _))
 exact ⟨r,h1,h2,h3.Gz,h4.Gz⟩
theorem Vp {m n:Nat} {d:List Int} (hm:m≤1000) (hn:n≤1000) (hl:d.length=m*n) (hb:Bd d):∃ (g:Int) (t:List Int) (c:Int),t.length≤1000∧Ab (fun K=>Jb.f K (m:Int) (n:Int) d) (g,t,c)∧Ab (fun K=>Jd.f K (m:Int) (n:Int) d) (g,t,c):=by
 have i1:=wU hm hn hl hb
 have s1:=Aae hm hn hl hb
 unfold Jb.f Jd.f Hw.f Hr.f
 cases e1:isM m n with
 |false =>
  rw [e1] at i1 s1
  exact ⟨0,[],1,by simp,Ab.Dw (i1.bind (Ab.neg (by decide) (Ab.const _))) (Ab.neg (by decide) (Ab.const _)),Ab.Dw (s1.bind (Ab.neg (by decide) (Ab.const _))) (Ab.neg (by decide) (Ab.const _))⟩
 |true =>
  rw [e1] at i1 s1
  obtain ⟨b,L,L',h1,f1,f2⟩:=X8 hm hn hl hb
  cases b with
  |true =>
   exact ⟨0,[],3,by simp,Ab.Dw (i1.bind (Ab.pos rfl (Ab.Dw f1 (Ab.const _)))) (Ab.neg (by decide) (Ab.const _)),Ab.Dw (s1.bind (Ab.pos rfl (Ab.Dw f2 (Ab.neg (by decide) (Ab.const _))))) (Ab.neg (by decide) (Ab.const _))⟩
  |false =>
   obtain ⟨rfl,hp,hL⟩:=h1 rfl
   have hk:(kp L' L'.length).length≤1000:=Nat.le_trans (eG _) hL
   exact ⟨w64 ((m:Int) - (L'.length:Int)),kp L' L'.length,0,hk,Ab.Dw (i1.bind (Ab.pos rfl (Ab.Dw f1 (Ab.const _)))) (Ab.pos rfl (Ab.bind (a:=(L'.length:Int)) (Ab.const _) ((fH hL).bind (Ab.const _)))),Ab.Dw (s1.bind (Ab.pos rfl (Ab.Dw f2 (Ab.pos rfl (Ab.const _))))) (Ab.pos rfl ((fI hL hp).bind (Ab.const _)))⟩
def Ltr (n:Nat) (x:Int):Prop:=x≠0∧-(n:Int)≤x∧x≤n
theorem Vo {n:Nat} {rs:List (List Int)} (hn:n≤100) (hm:rs.length≤100) (hr:∀ k,k<rs.length→(rs.getD k []).length≤200) (hx:∀ k i,k<rs.length→i<(rs.getD k []).length→Ltr n ((rs.getD k []).getD i 0)) :
  ∃ (g:Int) (t:List Int) (c:Int),t.length≤1000∧Ab (fun K=>Bu.l1 K K rs (n:Int) (rs.length:Int) (List.replicate (n*rs.length) 0) 0) (g,t,c)∧Ab (fun K=>Bz.l1 K K rs (n:Int) (rs.length:Int) (List.replicate (n*rs.length) 0) 0) (g,t,c):=by
 have main:∀ d k (M:List Int),rs.length - k=d→k≤rs.length→M.length=n*rs.length→Bt (200*k) M→∃ (g:Int) (t:List Int) (c:Int),t.length≤1000∧Aa (fun K f=>Bu.l1 K f rs (n:Int) (rs.length:Int) M (k:Int)) (g,t,c)∧Aa (fun K f=>Bz.l1 K f rs (n:Int) (rs.length:Int) M (k:Int)) (g,t,c):=by
  intro d
  induction d with
  |zero =>
   intro k M hd hk hl hb
   obtain ⟨g,t,c,ht,h1,h2⟩:=Vp (m:=n) (n:=rs.length) (d:=M) (by omega) (by omega) hl (fun p=>by have:=hb p; omega)
   refine ⟨g,t,c,ht,Aa.succ ?_,Aa.succ ?_⟩
   ·simp only [Bu.l1]
    exact Aa.neg (by omega) (Aa.Gy h1.two (Aa.const _))
   ·simp only [Bz.l1]
    exact Aa.neg (by omega) (Aa.Gy h2.two (Aa.const _))
  |succ d ih =>
   intro k M hd hk hl hb
   have hk':k<rs.length:=by omega
   have hrk:=hr k hk'
   have inner:∀ d i (M:List Int),(rs.getD k []).length - i=d→i≤(rs.getD k []).length→M.length=n*rs.length→Bt (200*k+i) M→∃ (g:Int) (t:List Int) (c:Int),t.length≤1000∧Aa (fun K f=>Bu.l4 K f rs (n:Int) (rs.length:Int) (k:Int) M (i:Int)) (g,t,c)∧Aa (fun K f=>Bz.l4 K f rs (n:Int) (rs.length:Int) (k:Int) M (i:Int)) (g,t,c):=by
    intro d
    induction d with
    |zero =>
     intro i M hd hi hl hb
     obtain ⟨g,t,c,ht,h1,h2⟩:=ih (k+1) M (by omega) (by omega) hl (fun p=>by have:=hb p; omega)
     refine ⟨g,t,c,ht,Aa.step (fun K f=>?_) h1,Aa.step (fun K f=>?_) h2⟩
     ·rw [Bu.l4,Int.toNat_natCast,if_neg (by omega),Aj (by omega)]
     ·rw [Bz.l4,if_pos (by omega),Int.toNat_natCast,if_neg (by omega),Aj (by omega)]
    |succ d ihd =>
     intro i M hd hi hl hb
     have hi':i<(rs.getD k []).length:=by omega
     obtain ⟨x0,x1,x2⟩:=hx k i hk' hi'
     generalize hX:(rs.getD k []).getD i 0=X at x0 x1 x2
     obtain ⟨j,hj⟩:∃ j:Nat,X.natAbs=j+1:=⟨X.natAbs - 1,by omega⟩
     have hjn:j<n:=by omega
     obtain ⟨sg,hsg⟩:∃ sg:Int,sg=if 0<X then 1 else -1:=⟨_,rfl⟩
     have hs1 : -1≤sg∧sg≤1:=by rw [hsg]; split<;>omega
     obtain ⟨g,t,c,ht,h1,h2⟩:=ihd (i+1) (bY rs.length M (j,k,sg)) (by omega) (by omega) (by rw [Vf]; exact hl) (pY hb hs1.1 hs1.2)
     have eA:Jg.f X=some (X.natAbs:Int):=Wx (by omega)
     have eJ:w64 ((X.natAbs:Int) - 1)=(j:Int):=by rw [E9 (by omega) (by omega)]; omega
     have eS:J6.f X=some sg:=by
      unfold J6.f
      by_cases h:0<X
      ·rw [if_neg (by omega),hsg,if_pos h]
      ·rw [if_pos (by omega),hsg,if_neg h]
     refine ⟨g,t,c,ht,Aa.succ ?_,Aa.succ ?_⟩
     ·simp only [Bu.l4,Int.toNat_natCast,hX]
      refine Aa.pos (by omega) (Aa.pos (by omega) (Aa.Kl eA ?_))
      rw [eJ]
      refine Aa.congr (fun K f=>yS hl hl hjn hk' (by omega) (by omega)) (Aa.Kl eS ?_)
      rw [Int.toNat_natCast,rW hb (by omega) _ hs1.1 hs1.2,Aj (by omega)]
      exact h1
     ·simp only [Bz.l4,Int.toNat_natCast,hX]
      refine Aa.pos (by omega) (Aa.pos (by omega) (Aa.pos (by omega) ?_))
      by_cases h:0<X
      ·rw [if_pos h] at hsg
       subst hsg
       refine Aa.pos h ?_
       rw [show w64 (X - 1)=(j:Int) from by rw [E9 (by omega) (by omega)]; omega]
       refine Aa.Kl (iW hl hb (by omega) hjn hk' (by omega) (by omega) hs1.1 hs1.2) (Aa.pos Vf ?_)
       rw [Aj (by omega)]
       exact h2
      ·rw [if_neg h] at hsg
       subst hsg
       refine Aa.neg h ?_
       rw [show w64 (w64 (0 - X) - 1)=(j:Int) from by rw [E9 (x:=0 - X) (by omega) (by omega),E9 (by omega) (by omega)]; omega]
       refine Aa.Kl (iW hl hb (by omega) hjn hk' (by omega) (by omega) hs1.1 hs1.2) (Aa.pos Vf ?_)
       rw [Aj (by omega)]
       exact h2
   obtain ⟨g,t,c,ht,h1,h2⟩:=inner _ 0 M rfl (by omega) hl hb
   refine ⟨g,t,c,ht,Aa.step (fun K f=>?_) h1,Aa.step (fun K f=>?_) h2⟩
   ·rw [Bu.l1,if_pos (by omega),if_pos (by omega)]; rfl
   ·rw [Bz.l1,if_pos (by omega)]; rfl
 obtain ⟨g,t,c,ht,h1,h2⟩:=main _ 0 (List.replicate (n*rs.length) 0) rfl (by omega) List.length_replicate (pX _)
 exact ⟨g,t,c,ht,h1.Gz,h2.Gz⟩
theorem jY {l:List Nat} {b:Nat} (h:l.Nodup) (hb:b ∉ l):(l++[b]).Nodup:=by
 rw [List.nodup_append]
 exact ⟨h,by simp,fun a ha c hc=>by rw [List.mem_singleton.1 hc]; exact fun e=>hb (e ▸ ha)⟩
theorem Ph {α:Type} {l:List α} {x d:α} {i:Nat} (h:i<l.length):(l++[x]).getD i d=l.getD i d:=by
 rw [List.getD_eq_getElem?_getD,List.getElem?_append_left h,List.getD_eq_getElem?_getD]
section
variable {ts:List (List Am)} (hv:Val ts)
include hv
theorem Zh {G:Nat} (hG:G<4*ts.length):((Fg ts (G/4) (G%4)).Tet<0∧Ptn ts G=none)∨(¬ (Fg ts (G/4) (G%4)).Tet<0∧∃ b p:Nat,b<ts.length∧p<24∧Fg ts (G/4) (G%4)=⟨b,p⟩∧Ptn ts G=some (4*b+PA p (G%4))∧4*b+PA p (G%4)<4*ts.length∧Ptn ts (4*b+PA p (G%4))=some G∧4*b+PA p (G%4)≠G):=by
 have hf:G%4<4:=by omega
 have e4:4*(G/4)+G%4=G:=by omega
 rcases Jm hv (show G/4<ts.length by omega) hf with ⟨h1,h2⟩|⟨h1,b,p,hb,hp,h2,h3⟩
 ·exact .inl ⟨h1,by unfold Ptn; rw [if_pos h1]⟩
 ·obtain ⟨g1,g2,g3,_⟩:=gL hv (show G/4<ts.length by omega) hf hp h3
  rw [e4] at g2 g3
  refine .inr ⟨h1,b,p,hb,hp,h2,?_,g1,g2,fun e=>g3 e.symm⟩
  unfold Ptn
  rw [if_neg h1,h2]
  simp only [Int.toNat_natCast]
theorem Nb {G F:Nat} (hG:G<4*ts.length) (h:Ptn ts G=some F):F<4*ts.length∧Ptn ts F=some G∧F≠G:=by
 rcases Zh hv hG with ⟨_,h1⟩|⟨_,b,p,_,_,_,h1,h2,h3,h4⟩
 ·rw [h1] at h; cases h
 ·rw [h1] at h; cases h; exact ⟨h2,h3,h4⟩
structure TI (ts:List (List Am)) (q TT:List Nat) (R tr:List Bool):Prop where
 inn:∀ j,j∈q→j<ts.length
 nd:q.Nodup
 rl:R.length=ts.length
 rr:∀ j,j<ts.length→(R.getD j false=true↔j∈q)
 tl:tr.length=4*ts.length
 tt:∀ F,F<4*ts.length→(tr.getD F false=true↔∃ G,G∈TT∧(F=G∨Ptn ts G=some F))
 ti:∀ G,G∈TT→G<4*ts.length
 tn:TT.length+1=q.length
def Sc (TT:List Nat):List Qc:=TT.map fun G=>⟨((G/4:Nat):Int),((G%4:Nat):Int)⟩
theorem pG {a i:Nat} (ha:a<ts.length) {q0:List Nat} (h0:q0.getD i 0=a) (hi0:i<q0.length):∀ (d f:Nat) (q TT:List Nat) (R tr:List Bool),4 - f=d→f≤4→TI ts q TT R tr→q.getD i 0=a→i<q.length→∃ (q' TT':List Nat) (R' tr':List Bool),TI ts q' TT' R' tr'∧q.length≤q'.length ∧
  (∀ r,Aa (fun K k=>Bc.l1 K k ts R' (ints q') (Sc TT') ((i+1:Nat):Int)) r→Aa (fun K k=>Bc.l4 K k ts (ints q0) (i:Int) R (ints q) (Sc TT) (f:Int)) r) ∧
  (∀ r,Aa (fun K k=>Dm.l1 K k ts tr' R' (ints q') ((i+1:Nat):Int)) r→Aa (fun K k=>Dm.l4 K k ts (i:Int) tr R (ints q) (f:Int)) r):=by
 have h8:=hv.le
 have hfour:=hv.four a ha
 have ei0:(ints q0).getD i 0=(a:Int):=by rw [K3 hi0,h0]
 intro d
 induction d with
 |zero =>
  intro f q TT R tr hd hf hT hq hi
  obtain rfl:f=4:=by omega
  have hql:=K8 hT.nd hT.inn
  refine ⟨q,TT,R,tr,hT,Nat.le_refl _,fun r h=>Aa.step (fun K k=>?_) h,fun r h=>Aa.step (fun K k=>?_) h⟩
  ·rw [Bc.l4,Int.toNat_natCast,ei0,Int.toNat_natCast,if_neg (by omega),Aj (by omega)]
  ·rw [Dm.l4,if_neg (by omega),Aj (by omega)]
 |succ d ih =>
  intro f q TT R tr hd hf hT hq hi
  have hf4:f<4:=by omega
  have hql:=K8 hT.nd hT.inn
  have eq:(ints q).getD i 0=(a:Int):=by rw [K3 hi,hq]
  have eF:(ts.getD a []).getD f Eo=Fg ts a f:=rfl
  have hG:4*a+f<4*ts.length:=by omega
  have pc:=Zh hv hG
  rw [show (4*a+f)/4=a by omega,show (4*a+f)%4=f by omega] at pc
  have il:=Il q
  rcases pc with ⟨h1,_⟩|⟨h1,b,p,hb,hp,h2,h3,h4,h5,h6⟩
  ·obtain ⟨q',TT',R',tr',g1,g2,g3,g4⟩:=ih (f+1) q TT R tr (by omega) (by omega) hT hq hi
   refine ⟨q',TT',R',tr',g1,g2,fun r h=>Aa.step (fun K k=>?_) (g3 r h),fun r h=>Aa.step (fun K k=>?_) (g4 r h)⟩
   ·simp only [Bc.l4,Int.toNat_natCast,ei0,Ho,eF]
    rw [if_pos (by omega),if_pos (by omega),Bo.f,Option.bind_some,if_pos (decide_eq_true h1),Aj (by omega)]
   ·simp only [Dm.l4,Int.toNat_natCast,eq,Ho,eF]
    rw [if_pos (by omega),if_pos (by omega),if_pos (by omega),if_pos (by omega),if_pos h1,Aj (by omega)]
  ·have hbt:(Fg ts a f).Tet=(b:Int):=by rw [h2]
   have hbp:(Fg ts a f).Perm=(p:Int):=by rw [h2]
   by_cases hr:R.getD b false=true
   ·obtain ⟨q',TT',R',tr',g1,g2,g3,g4⟩:=ih (f+1) q TT R tr (by omega) (by omega) hT hq hi
    refine ⟨q',TT',R',tr',g1,g2,fun r h=>Aa.step (fun K k=>?_) (g3 r h),fun r h=>Aa.step (fun K k=>?_) (g4 r h)⟩
    ·simp only [Bc.l4,Int.toNat_natCast,ei0,Ho,eF,hbt]
     rw [if_pos (by omega),if_pos (by omega),Bo.f,Option.bind_some,if_neg (by rw [decide_eq_true_eq]; omega),if_pos (by rw [hT.rl]; omega),if_pos hr,Aj (by omega)]
    ·simp only [Dm.l4,Int.toNat_natCast,eq,Ho,eF,hbt]
     rw [if_pos (by omega),if_pos (by omega),if_pos (by omega),if_pos (by omega),if_neg (by omega),if_pos (by rw [hT.rl]; omega),if_pos hr,Aj (by omega)]
   ·have hbq:b ∉ q:=fun h=>hr ((hT.rr b hb).2 h)
    have hrl:=hT.rl
    have htl:=hT.tl
    have hP:=H9 hp hf4
    have hT2:TI ts (q++[b]) (TT++[4*a+f]) (R.set b true) ((tr.set (4*a+f) true).set (4*b+PA p f) true):=by
     refine ⟨fun j hj=>?_,jY hT.nd hbq,by rw [List.length_set]; exact hrl,fun j hj=>?_,by rw [List.length_set,List.length_set]; exact htl,fun F hF=>?_,fun G hG=>?_,by rw [List.length_append,List.length_append]; simp only [List.length_cons,List.length_nil]; have:=hT.tn; omega⟩
     ·rcases List.mem_append.1 hj with h | h
      ·exact hT.inn j h
      ·rw [List.mem_singleton.1 h]; exact hb
     ·rw [R7 (by omega),List.mem_append,List.mem_singleton]
      by_cases e:b=j
      ·rw [if_pos e]; exact iff_of_true rfl (.inr e.symm)
      ·rw [if_neg e,hT.rr j hj]; exact ⟨fun h=>.inl h,fun h=>h.resolve_right fun e'=>e e'.symm⟩
     ·rw [R7 (by rw [List.length_set]; omega),R7 (by omega)]
      constructor
      ·intro h
       by_cases e1:4*b+PA p f=F
       ·exact ⟨4*a+f,by simp,.inr (by rw [h3,e1])⟩
       ·rw [if_neg e1] at h
        by_cases e2:4*a+f=F
        ·exact ⟨4*a+f,by simp,.inl e2.symm⟩
        ·rw [if_neg e2] at h
         obtain ⟨G,g1,g2⟩:=(hT.tt F hF).1 h
         exact ⟨G,List.mem_append_left _ g1,g2⟩
      ·rintro ⟨G,g1,g2⟩
       by_cases e1:4*b+PA p f=F
       ·rw [if_pos e1]
       ·rw [if_neg e1]
        by_cases e2:4*a+f=F
        ·rw [if_pos e2]
        ·rw [if_neg e2]
         rcases List.mem_append.1 g1 with g1 | g1
         ·exact (hT.tt F hF).2 ⟨G,g1,g2⟩
         ·rw [List.mem_singleton.1 g1] at g2
          rcases g2 with g2 | g2
          ·exact absurd g2.symm e2
          ·rw [h3] at g2; exact absurd (Option.some.inj g2) e1
     ·rcases List.mem_append.1 hG with h | h
      ·exact hT.ti G h
      ·rw [List.mem_singleton.1 h]; omega
    have eq2:(q++[b]).getD i 0=a:=by rw [Ph hi]; exact hq
    obtain ⟨q',TT',R',tr',g1,g2,g3,g4⟩:=ih (f+1) (q++[b]) (TT++[4*a+f]) (R.set b true) ((tr.set (4*a+f) true).set (4*b+PA p f) true) (by omega) (by omega) hT2 eq2 (by rw [List.length_append]; omega)
    have hn:=hT.tn
    have eL:(ints q++[(b:Int)]).getD i 0=(a:Int):=by rw [Ph (by omega)]; exact eq
    have eW:w64 (w64 (4*(a:Int))+(f:Int))=((4*a+f:Nat):Int):=w6 (c:=4) (by decide) (by omega) (by omega)
    have eW2:w64 (w64 (4*(b:Int))+(PA p f:Int))=((4*b+PA p f:Nat):Int):=w6 (c:=4) (by decide) (by omega) (by omega)
    refine ⟨q',TT',R',tr',g1,by rw [List.length_append] at g2; omega,fun r h=>Aa.step (fun K k=>?_) (g3 r h),fun r h=>Aa.step (G:=fun K k=>(Ct.f K (p:Int) (f:Int)).bind fun t337=>(if 0≤w64 (w64 (4*(b:Int))+t337)∧w64 (w64 (4*(b:Int))+t337)<((tr.set (4*a+f) true).length:Int) then (Dm.l4 K k ts (i:Int) ((tr.set (4*a+f) true).set ((w64 (w64 (4*(b:Int))+t337)).toNat) true) (R.set b true) (ints q++[(b:Int)]) ((f+1:Nat):Int)) else none)) (fun K k=>?_) (Aa.bind (Py hp hf4).two ?_)⟩
    ·simp only [Bc.l4,Int.toNat_natCast,ei0,Ho,eF,hbt]
     rw [if_pos (by omega),if_pos (by omega),Bo.f,Option.bind_some,if_neg (by rw [decide_eq_true_eq]; omega),if_pos (by omega),if_neg hr,if_pos (by omega),if_pos (by rw [List.length_append]; omega),if_pos (by unfold Sc; rw [List.length_map]; omega),eL,Aj (by omega),Pi]
     congr 1
     unfold Sc
     rw [List.map_append,List.map_singleton,show (4*a+f)/4=a by omega,show (4*a+f)%4=f by omega]
    ·simp only [Dm.l4,Int.toNat_natCast,eq,Ho,eF,hbt,hbp,eL,eW]
     rw [if_pos (by omega),if_pos (by omega),if_pos (by omega),if_pos (by omega),if_neg (by omega),if_pos (by omega),if_neg hr,if_pos (by omega),if_pos (by rw [List.length_append]; omega),if_pos (by omega),Aj (by omega)]
    ·rw [eW2]
     refine Aa.pos (by rw [List.length_set]; omega) ?_
     rw [Int.toNat_natCast,← Pi]
     exact g4 r h
theorem fK (h0:0<ts.length):∃ (q TT:List Nat) (R tr:List Bool),TI ts q TT R tr∧Ab (fun K=>Bc.f K ts) (Sc TT)∧Ab (fun K=>Dm.f K ts) tr:=by
 have h8:=hv.le
 have main:∀ d i (q TT:List Nat) (R tr:List Bool),ts.length - i=d→i≤q.length→TI ts q TT R tr→∃ (q' TT':List Nat) (R' tr':List Bool),TI ts q' TT' R' tr'∧Aa (fun K k=>Bc.l1 K k ts R (ints q) (Sc TT) (i:Int)) (Sc TT')∧Aa (fun K k=>Dm.l1 K k ts tr R (ints q) (i:Int)) tr':=by
  intro d
  induction d with
  |zero =>
   intro i q TT R tr hd hi hT
   have hql:=K8 hT.nd hT.inn
   have il:=Il q
   refine ⟨q,TT,R,tr,hT,Aa.of fun K k=>?_,Aa.of fun K k=>?_⟩
   ·rw [Bc.l1,if_neg (by omega)]
   ·rw [Dm.l1,if_neg (by omega)]
  |succ d ih =>
   intro i q TT R tr hd hi hT
   have hql:=K8 hT.nd hT.inn
   have il:=Il q
   by_cases hlt:i<q.length
   ·have hm:q.getD i 0∈q:=by rw [List.getD_eq_getElem?_getD,List.getElem?_eq_getElem hlt]; exact List.getElem_mem hlt
    have ha:=hT.inn _ hm
    obtain ⟨q',TT',R',tr',g1,g2,g3,g4⟩:=pG hv ha (q0:=q) (i:=i) rfl hlt 4 0 q TT R tr rfl (by omega) hT rfl hlt
    obtain ⟨q2,TT2,R2,tr2,k1,k2,k3⟩:=ih (i+1) q' TT' R' tr' (by omega) (by omega) g1
    refine ⟨q2,TT2,R2,tr2,k1,Aa.step (fun K k=>?_) (g3 _ k2),Aa.step (fun K k=>?_) (g4 _ k3)⟩
    ·rw [Bc.l1,if_pos (by omega),if_pos (by omega),Int.toNat_natCast,K3 hlt,if_pos (by omega)]; rfl
    ·rw [Dm.l1,if_pos (by omega)]; rfl
   ·refine ⟨q,TT,R,tr,hT,Aa.of fun K k=>?_,Aa.of fun K k=>?_⟩
    ·rw [Bc.l1,if_neg (by omega)]
    ·rw [Dm.l1,if_neg (by omega)]
 have hrep:∀ (m j:Nat),(List.replicate m false).getD j false=false:=fun m j=>by rw [List.getD_eq_getElem?_getD,List.getElem?_replicate]; split<;>rfl
 have hT:TI ts [0] [] ((List.replicate ts.length false).set 0 true) (List.replicate (4*ts.length) false):=by
  refine ⟨fun j hj=>by rw [List.mem_singleton.1 hj]; exact h0,by simp,by simp,fun j hj=>?_,by simp,fun F hF=>?_,fun G h=>by simp at h,rfl⟩
  ·rw [R7 (by simpa using h0),hrep,List.mem_singleton]
   by_cases e:0=j
   ·rw [if_pos e]; exact iff_of_true rfl e.symm
   ·rw [if_neg e]; exact iff_of_false (by decide) fun e'=>e e'.symm
  ·rw [hrep]
   exact iff_of_false (by decide) fun ⟨G,h,_⟩=>by simp at h
 obtain ⟨q',TT',R',tr',g1,g2,g3⟩:=main _ 0 [0] [] _ _ rfl (by simp) hT
 have e4:w64 (4*(ts.length:Int))=((4*ts.length:Nat):Int):=w6' (c:=4) (by decide) (by omega)
 refine ⟨q',TT',R',tr',g1,?_,?_⟩
 ·unfold Bc.f
  rw [Int.toNat_natCast]
  exact Ab.pos (by omega) (Ab.pos (by omega) (Ab.pos (by rw [List.length_replicate]; omega) g2.Gz))
 ·unfold Dm.f
  refine Ab.Kl (x:=(ts.length:Int)) rfl ?_
  rw [e4,Int.toNat_natCast]
  refine Ab.pos (by omega) (Ab.pos (by omega) (Ab.Kl (x:=(ts.length:Int)) rfl ?_))
  rw [Int.toNat_natCast]
  exact Ab.pos (by omega) (Ab.pos (by omega) (Ab.pos (by rw [List.length_replicate]; omega) g3.Gz))
end
theorem Ry {α:Type} (d:α) {l l':List α} {n:Nat} (h:l.length=n) (h':l'.length=n) (e:∀ i,i<n→l.getD i d=l'.getD i d):l=l':=by
 apply List.ext_getElem?
 intro i
 by_cases hi:i<n
 ·rw [getD_some (d:=d) (by omega:i<l.length),getD_some (d:=d) (by omega:i<l'.length),e i hi]
 ·rw [List.getElem?_eq_none (by omega),List.getElem?_eq_none (by omega)]
theorem Ox {C:List Int} {w m a e:Nat} {v:Int} (hl:C.length=w*m) (ha:a<m) (he:e<w):(rowsOf C w m).set a ((rowAt C w a).set e v)=rowsOf (C.set (w*a+e) v) w m:=by
 have hlt:w*a+e<C.length:=by rw [hl]; exact mul_lt ha he
 refine Ry [] (n:=m) (by rw [List.length_set,Gr]) (Gr _ _ _) fun i hi=>?_
 rw [Np,Ij hi,Ij hi]
 by_cases h:a=i
 ·subst h
  rw [if_pos ⟨rfl,by rw [Gr]; exact ha⟩]
  refine Ng (n:=w) (by rw [List.length_set,Iq]) (Iq _ _ _) fun j hj=>?_
  rw [Np,Iq,I7 hj,I7 hj,Np]
  by_cases h2:e=j
  ·rw [if_pos ⟨h2,he⟩,if_pos ⟨by rw [h2],hlt⟩]
  ·rw [if_neg (fun h=>h2 h.1),if_neg (fun h=>h2 (by omega))]
 ·rw [if_neg (fun h'=>h h'.1)]
  refine Ng (n:=w) (Iq _ _ _) (Iq _ _ _) fun j hj=>?_
  rw [I7 hj,I7 hj,Np,if_neg]
  rintro ⟨h2,_⟩
  have h3:w*a+e=w*i+j:=h2
  have h4:(w*a+e)/w=(w*i+j)/w:=by rw [h3]
  rw [Nat.mul_add_div (by omega),Nat.mul_add_div (by omega),Nat.div_eq_of_lt he,Nat.div_eq_of_lt hj] at h4
  omega
def gnB (ts:List (List Am)) (tr:List Bool) (F:Nat):Bool:=(match Ptn ts F with | none=>false | some G=>decide (F<G)) && !tr.getD F false
def gl (ts:List (List Am)) (tr:List Bool) (x:Nat):List Nat:=(List.range x).filter (gnB ts tr)
def gnN (ts:List (List Am)) (tr:List Bool) (x:Nat):Nat:=(gl ts tr x).length
def LTc (ts:List (List Am)) (tr:List Bool) (c G:Nat):Int:=if gnB ts tr G=true∧gnN ts tr G<c then (gnN ts tr G:Int)+1 else match Ptn ts G with | none=>0 | some F=>if gnB ts tr F=true∧gnN ts tr F<c then -((gnN ts tr F:Int)+1) else 0
def LL (ts:List (List Am)) (tr:List Bool) (c:Nat):List Int:=(List.range (4*ts.length)).map (LTc ts tr c)
theorem Qt (ts:List (List Am)) (tr:List Bool) (c:Nat):(LL ts tr c).length=4*ts.length:=by simp [LL]
theorem Ut {ts:List (List Am)} {tr:List Bool} {c G:Nat} (h:G<4*ts.length):(LL ts tr c).getD G 0=LTc ts tr c G:=by
 unfold LL
 rw [List.getD_eq_getElem?_getD,List.getElem?_map,List.getElem?_range h]; rfl
section
variable {ts:List (List Am)} {tr:List Bool}
theorem Lc {F:Nat}:gnB ts tr F=true↔(∃ G,Ptn ts F=some G∧F<G)∧tr.getD F false=false:=by
 unfold gnB
 cases Ptn ts F with
 |none=>simp
 |some G=>simp
theorem P6 (x:Nat):gl ts tr (x+1)=gl ts tr x++if gnB ts tr x=true then [x] else []:=by
 unfold gl
 rw [List.range_succ,List.filter_append]
 congr 1
 by_cases h:gnB ts tr x=true
 ·rw [if_pos h,List.filter_cons_of_pos h,List.filter_nil]
 ·rw [if_neg h,List.filter_cons_of_neg h,List.filter_nil]
theorem Oh (x:Nat):gnN ts tr (x+1)=gnN ts tr x+if gnB ts tr x=true then 1 else 0:=by
 unfold gnN
 rw [P6,List.length_append]
 by_cases h:gnB ts tr x=true
 ·rw [if_pos h,if_pos h]; rfl
 ·rw [if_neg h,if_neg h]; rfl
theorem iF {x y:Nat} (h:x≤y):gnN ts tr x≤gnN ts tr y:=by
 induction y with
 |zero=>rw [Nat.le_zero.1 h]; exact Nat.le_refl _
 |succ y ih =>
  rcases Nat.lt_or_eq_of_le h with h | h
  ·rw [Oh]; have:=ih (by omega); omega
  ·rw [h]; exact Nat.le_refl _
theorem Yp {x y:Nat} (h:gnB ts tr x=true) (hy:x<y):gnN ts tr x<gnN ts tr y:=by
 have:=iF (ts:=ts) (tr:=tr) (show x+1≤y from hy)
 rw [Oh,if_pos h] at this
 omega
theorem Xl (x:Nat):gnN ts tr x≤x:=by
 induction x with
 |zero=>exact Nat.le_refl _
 |succ x ih=>rw [Oh]; split<;>omega
theorem Aak {x F:Nat} (h:gnB ts tr F=true) (hx:F<x):(gl ts tr x).getD (gnN ts tr F) 0=F:=by
 induction x with
 |zero=>omega
 |succ x ih =>
  rw [P6]
  by_cases e:F=x
  ·subst e
   rw [if_pos h]
   unfold gnN
   rw [List.getD_eq_getElem?_getD,List.getElem?_append_right (Nat.le_refl _)]
   simp
  ·have h1:=Yp h (show F<x by omega)
   rw [List.getD_eq_getElem?_getD,List.getElem?_append_left h1,← List.getD_eq_getElem?_getD]
   exact ih (by omega)
theorem dM {F G:Nat} (hF:gnB ts tr F=true) (hG:gnB ts tr G=true) (e:gnN ts tr F=gnN ts tr G):F=G:=by
 rcases Nat.lt_trichotomy F G with h | h | h
 ·have:=Yp hF h; omega
 ·exact h
 ·have:=Yp hG h; omega
theorem xW {x k:Nat} (hk:k<gnN ts tr x):∃ F,F<x∧gnB ts tr F=true∧gnN ts tr F=k∧(gl ts tr x).getD k 0=F:=by
 have:∃ F,F<x∧gnB ts tr F=true∧gnN ts tr F=k:=by
  induction x with
  |zero=>simp [gnN,gl] at hk
  |succ x ih =>
   rw [Oh] at hk
   by_cases h:k<gnN ts tr x
   ·obtain ⟨F,h1,h2⟩:=ih h; exact ⟨F,by omega,h2⟩
   ·by_cases hx:gnB ts tr x=true
    ·rw [if_pos hx] at hk; exact ⟨x,by omega,hx,by omega⟩
    ·rw [if_neg hx] at hk; omega
 obtain ⟨F,h1,h2,h3⟩:=this
 exact ⟨F,h1,h2,h3,by rw [← h3]; exact Aak h2 h1⟩
variable (hv:Val ts)
theorem dX:rowsOf (LL ts tr 0) 4 ts.length=List.replicate ts.length [0,0,0,0]:=by
 refine Ry [] (Gr _ _ _) List.length_replicate fun i hi=>?_
 rw [Ij hi,List.getD_eq_getElem?_getD,List.getElem?_replicate,if_pos hi]
 refine Ng (n:=4) (Iq _ _ _) rfl fun j hj=>?_
 rw [I7 hj,Ut (by omega),LTc,if_neg (fun h=>absurd h.2 (Nat.not_lt_zero _))]
 have e0:([0,0,0,0]:List Int).getD j 0=0:=by rcases (by omega:j=0∨j=1∨j=2∨j=3) with rfl | rfl | rfl | rfl<;>rfl
 show _=([0,0,0,0]:List Int).getD j 0
 rw [e0]
 cases Ptn ts (4*i+j) with
 |none=>rfl
 |some F=>exact if_neg (fun h=>absurd h.2 (Nat.not_lt_zero _))
include hv
theorem dQ {F P c:Nat} (hF:F<4*ts.length) (hg:gnB ts tr F=true) (hP:Ptn ts F=some P) (hc:gnN ts tr F=c):((LL ts tr c).set F ((c:Int)+1)).set P (-((c:Int)+1))=LL ts tr (c+1):=by
 obtain ⟨p1,p2,p3⟩:=Nb hv hF hP
 have hgP:¬ gnB ts tr P=true:=fun h=>by
  obtain ⟨⟨G,g1,g2⟩,_⟩:=Lc.1 h
  rw [p2] at g1
  obtain ⟨⟨G',g3,g4⟩,_⟩:=Lc.1 hg
  rw [hP] at g3
  cases g1; cases g3
  omega
 refine Ng (n:=4*ts.length) (by rw [List.length_set,List.length_set,Qt]) (Qt _ _ _) fun G hG=>?_
 rw [Np,Np,List.length_set,Qt,Ut hG,Ut hG]
 by_cases e1:P=G
 ·subst e1
  rw [if_pos ⟨rfl,p1⟩,LTc,if_neg (fun h=>hgP h.1),p2]
  show _=if gnB ts tr F=true∧gnN ts tr F<c+1 then _ else _
  rw [if_pos ⟨hg,by omega⟩,hc]
 ·rw [if_neg (fun h=>e1 h.1)]
  by_cases e2:F=G
  ·subst e2
   rw [if_pos ⟨rfl,hF⟩,LTc,if_pos ⟨hg,by omega⟩,hc]
  ·rw [if_neg (fun h=>e2 h.1),LTc,LTc]
   have a1:(gnB ts tr G=true∧gnN ts tr G<c)↔(gnB ts tr G=true∧gnN ts tr G<c+1):=by
    refine and_congr_right fun h=>⟨fun h=>by omega,fun h2=>?_⟩
    rcases Nat.lt_or_eq_of_le (Nat.le_of_lt_succ h2) with h3 | h3
    ·exact h3
    ·exact absurd (dM hg h (hc.trans h3.symm)) e2
   by_cases h:gnB ts tr G=true∧gnN ts tr G<c
   ·rw [if_pos h,if_pos (a1.1 h)]
   ·rw [if_neg h,if_neg (fun h'=>h (a1.2 h'))]
    cases hQ:Ptn ts G with
    |none=>rfl
    |some Q =>
     have a2:(gnB ts tr Q=true∧gnN ts tr Q<c)↔(gnB ts tr Q=true∧gnN ts tr Q<c+1):=by
      refine and_congr_right fun h=>⟨fun h=>by omega,fun h2=>?_⟩
      rcases Nat.lt_or_eq_of_le (Nat.le_of_lt_succ h2) with h3 | h3
      ·exact h3
      ·have h4:=dM hg h (hc.trans h3.symm)
       subst h4
       have h5:=(Nb hv hG hQ).2.1
       rw [hP] at h5
       exact absurd (Option.some.inj h5) e1
     show (if gnB ts tr Q=true∧gnN ts tr Q<c then _ else _)=if gnB ts tr Q=true∧gnN ts tr Q<c+1 then _ else _
     by_cases h:gnB ts tr Q=true∧gnN ts tr Q<c
     ·rw [if_pos h,if_pos (a2.1 h)]
     ·rw [if_neg h,if_neg (fun h'=>h (a2.2 h'))]
theorem oC {G:Nat} (hG:G<4*ts.length):LTc ts tr (gnN ts tr (4*ts.length)) G=0∨Ltr (gnN ts tr (4*ts.length)) (LTc ts tr (gnN ts tr (4*ts.length)) G):=by
 unfold LTc Ltr
 split
 ·right; omega
 ·cases Ptn ts G with
  |none=>exact .inl rfl
  |some F =>
   show (if gnB ts tr F=true∧gnN ts tr F<gnN ts tr (4*ts.length) then -((gnN ts tr F:Int)+1) else 0)=0∨_
   by_cases h:gnB ts tr F=true∧gnN ts tr F<gnN ts tr (4*ts.length)
   ·right
    show (if gnB ts tr F=true∧gnN ts tr F<gnN ts tr (4*ts.length) then -((gnN ts tr F:Int)+1) else 0)≠0∧_≤(if gnB ts tr F=true∧gnN ts tr F<gnN ts tr (4*ts.length) then -((gnN ts tr F:Int)+1) else 0)∧(if gnB ts tr F=true∧gnN ts tr F<gnN ts tr (4*ts.length) then -((gnN ts tr F:Int)+1) else 0)≤_
    rw [if_pos h]
    omega
   ·left; rw [if_neg h]
theorem fcl {s:List Int} (hP:Hq (4*ts.length) (JF ts) s) {F G:Nat} (hF:F<4*ts.length) (hG:G<4*ts.length):s.getD F 0=s.getD G 0↔(G=F∨Ptn ts F=some G):=by
 have mem:∀ {X Y:Nat},X<4*ts.length→Ptn ts X=some Y→(X,Y)∈JF ts:=fun {X Y} hX h=>by
  unfold JF
  refine Lr.2 ⟨X/4,by omega,Lr.2 ⟨X%4,by omega,?_⟩⟩
  unfold Ptn at h
  split at h
  ·cases h
  ·rename_i hn
   rw [JFf,if_neg hn,jf,List.mem_singleton]
   have h2:=Option.some.inj h
   rw [← h2,show 4*(X/4)+X%4=X by omega]
 have inv:∀ p,p∈JF ts→p.1<4*ts.length∧Ptn ts p.1=some p.2:=fun p hp=>by
  unfold JF at hp
  obtain ⟨a,ha,hp⟩:=Lr.1 hp
  obtain ⟨f,hf,hp⟩:=Lr.1 hp
  rw [JFf] at hp
  split at hp
  ·cases hp
  ·rename_i hn
   rw [jf,List.mem_singleton] at hp
   subst hp
   refine ⟨by show 4*a+f<_; omega,?_⟩
   show Ptn ts (4*a+f)=_
   unfold Ptn
   rw [show (4*a+f)/4=a by omega,show (4*a+f)%4=f by omega,if_neg hn]
 constructor
 ·intro h
  refine (hP.min (fun x=>x=F∨Ptn ts F=some x) (fun p hp=>?_) F G hF hG h).1 (.inl rfl)
  obtain ⟨p1,p2⟩:=inv p hp
  obtain ⟨q1,q2,_⟩:=Nb hv p1 p2
  constructor
  ·rintro (e | e)
   ·right; rw [← e]; exact p2
   ·left
    have:=(Nb hv hF e).2.1
    rw [p2] at this
    exact Option.some.inj this
  ·rintro (e | e)
   ·right; rw [← e]; exact q2
   ·left
    have:=(Nb hv hF e).2.1
    rw [q2] at this
    exact Option.some.inj this
 ·rintro (e | e)
  ·rw [e]
  ·exact hP.one _ (mem hF e)
theorem TI.sym {q TT:List Nat} {R:List Bool} (hT:TI ts q TT R tr) {X P:Nat} (hX:X<4*ts.length) (h:Ptn ts X=some P):tr.getD X false=tr.getD P false:=by
 obtain ⟨p1,p2,p3⟩:=Nb hv hX h
 rw [Bool.eq_iff_iff,hT.tt X hX,hT.tt P p1]
 constructor
 ·rintro ⟨G,g1,g2 | g2⟩
  ·exact ⟨G,g1,.inr (by rw [← g2]; exact h)⟩
  ·refine ⟨G,g1,.inl ?_⟩
   have:=(Nb hv (hT.ti G g1) g2).2.1
   rw [h] at this
   exact Option.some.inj this
 ·rintro ⟨G,g1,g2 | g2⟩
  ·exact ⟨G,g1,.inr (by rw [← g2]; exact p2)⟩
  ·refine ⟨G,g1,.inl ?_⟩
   have:=(Nb hv (hT.ti G g1) g2).2.1
   rw [p2] at this
   exact Option.some.inj this
end
def Qd (F:Nat):List Int:=[((F/4:Nat):Int),((F%4:Nat):Int)]
theorem Aaq {F:Nat} (h:F≤1000):w64 ((w64 (4*((F/4:Nat):Int)))+((F%4:Nat):Int))=(F:Int):=by
 rw [E9 (x:=4*((F/4:Nat):Int)) (by omega) (by omega),E9 (by omega) (by omega)]; omega
section
variable {ts:List (List Am)} {tr:List Bool} (hv:Val ts) {q TT:List Nat} {R:List Bool} (hT:TI ts q TT R tr)
include hv hT
theorem sU {fs:List Int} (hP:Hq (4*ts.length) (JF ts) fs) (hF:Ab (fun K=>Ef.f K ts) (CN (4*ts.length) fs)) (ht:Ab (fun K=>Bc.f K ts) (Sc TT)):Ab (fun K=>Ap.f K ts) ((gl ts tr (4*ts.length)).map Qd):=by
 have h8:=hv.le
 have lF:=Nl (4*ts.length) fs
 have hle:=Jh fs (4*ts.length)
 have hql:=K8 hT.nd hT.inn
 have htn:=hT.tn
 have lS:(Sc TT).length=TT.length:=by simp [Sc]
 -- the classes
 have l4:∀ {T:List Bool},T.length=Ce fs (4*ts.length)→(∀ c:Nat,c<Ce fs (4*ts.length)→(T.getD c false=true↔∃ G,G∈TT∧(CN (4*ts.length) fs).getD G 0=(c:Int)))→∀ d c x,Ce fs (4*ts.length) - c=d→c≤Ce fs (4*ts.length)→x≤4*ts.length→Ce fs x=c →
   Aa (fun K k=>Ap.l4 K k ts (CN (4*ts.length) fs) T ((gl ts tr x).map Qd) (c:Int)) ((gl ts tr (4*ts.length)).map Qd):=by
  intro T hTl hTs d
  have hnf:∀ j,j<4*ts.length→Gu fs j=false→gnB ts tr j=false:=fun j hj h=>by
   rw [← Bool.not_eq_true]
   intro hg
   obtain ⟨⟨P,p1,p2⟩,_⟩:=Lc.1 hg
   rw [← Bool.not_eq_true] at h
   refine h (Iz.2 fun i hi e=>?_)
   rcases (fcl hv hP (by omega) hj).1 e with e1 | e1
   ·omega
   ·have:=(Nb hv (by omega) e1).2.1
    rw [p1] at this
    have:=Option.some.inj this
    omega
  have skip:∀ x y,x≤y→y≤4*ts.length→(∀ j,x≤j→j<y→Gu fs j=false)→gl ts tr x=gl ts tr y:=fun x y hxy hy h=>by
   induction y with
   |zero=>rw [Nat.le_zero.1 hxy]
   |succ y ih =>
    rcases Nat.lt_or_eq_of_le hxy with h1 | h1
    ·rw [P6,hnf y (by omega) (h y (by omega) (by omega)),if_neg (by decide),List.append_nil]
     exact ih (by omega) (by omega) fun j a b=>h j a (by omega)
    ·rw [h1]
  induction d with
  |zero =>
   intro c x hd hc hx hcx
   rw [skip x (4*ts.length) hx (Nat.le_refl _) (fun j h1 h2=>by
    rw [← Bool.not_eq_true]
    intro hf
    have:=Mf hf h2
    have:=Mt fs h1
    omega)]
   refine Aa.of fun K k=>?_
   rw [Ap.l4,if_neg (by omega)]
  |succ d ih =>
   intro c x hd hc hx hcx
   obtain ⟨i,i1,i2,i3,i4,i5,i6,i7⟩:=aR hx hcx (by omega)
   rw [skip x i i1 (by omega) i7]
   have eI:=gX (l:=CN (4*ts.length) fs) (v:=(c:Int)) (j0:=i) (by omega) (by omega) (by rw [(Z8 i2).1,i5]) i6
   have nx:=ih (c+1) (i+1) (by omega) (by omega) (by omega) (by rw [Pn,i3,i4]; rfl)
   have hTi:T.getD c false=tr.getD i false:=by
    rw [Bool.eq_iff_iff,hTs c (by omega),hT.tt i i2]
    refine exists_congr fun G=>and_congr_right fun hG=>?_
    rw [show ((c:Nat):Int)=(CN (4*ts.length) fs).getD i 0 by rw [(Z8 i2).1,i5],(L9 _ fs).iff (hT.ti G hG) i2]
    exact fcl hv hP (hT.ti G hG) i2
   have gle:(gl ts tr i).length≤i:=Xl i
   have eD:w64 ((i:Int).tdiv 4)=((i/4:Nat):Int):=by rw [yL,E9 (by omega) (by omega)]
   refine Aa.succ ?_
   simp only [Ap.l4,Int.toNat_natCast]
   refine Aa.pos (by omega) (Aa.pos (by omega) (Aa.bind eI.two ?_))
   by_cases htr:tr.getD i false=true
   ·refine Aa.pos (hTi.trans htr) ?_
    have hg:¬ gnB ts tr i=true:=fun h=>by have:=(Lc.1 h).2; rw [htr] at this; cases this
    rw [P6,if_neg hg,List.append_nil] at nx
    rw [Aj (by omega)]
    exact nx
   ·refine Aa.neg (fun h=>htr (hTi.symm.trans h)) ?_
    rw [eD,yC]
    refine Aa.pos (by omega) ?_
    rw [Int.toNat_natCast,Int.toNat_natCast]
    refine Aa.pos (by rw [hv.four _ (by omega)]; omega) ?_
    simp only [Ho]
    refine Aa.Kl (x:=decide ((Fg ts (i/4) (i%4)).Tet<0)) rfl ?_
    rcases Zh hv i2 with ⟨h1,h2⟩|⟨h1,b,p,hb,hp,h2,h3,h4,h5,h6⟩
    ·refine Aa.pos (decide_eq_true h1) ?_
     have hg:¬ gnB ts tr i=true:=fun h=>by obtain ⟨⟨G,g1,_⟩,_⟩:=Lc.1 h; rw [h2] at g1; cases g1
     rw [P6,if_neg hg,List.append_nil] at nx
     rw [Aj (by omega)]
     exact nx
    ·refine Aa.neg (by rw [decide_eq_true_eq]; exact h1) (Aa.pos (by rw [List.length_map]; omega) ?_)
     have hg:gnB ts tr i=true:=Lc.2 ⟨⟨_,h3,by
      rcases Nat.lt_or_gt_of_ne h6 with h7 | h7
      ·exfalso
       refine Iz.1 i3 _ h7 ((fcl hv hP h4 i2).2 (.inr h5))
      ·exact h7⟩,by rw [← Bool.not_eq_true]; exact htr⟩
     rw [P6,if_pos hg,List.map_append,List.map_singleton] at nx
     rw [Aj (by omega)]
     exact nx
 -- the tree's classes
 have l1:∀ d i (T:List Bool),TT.length - i=d→i≤TT.length→T.length=Ce fs (4*ts.length)→(∀ c:Nat,c<Ce fs (4*ts.length)→(T.getD c false=true↔∃ G,G∈TT.take i∧(CN (4*ts.length) fs).getD G 0=(c:Int))) →
   Aa (fun K k=>Ap.l1 K k ts (CN (4*ts.length) fs) (Sc TT) T (i:Int)) ((gl ts tr (4*ts.length)).map Qd):=by
  intro d
  induction d with
  |zero =>
   intro i T hd hi hl hs
   obtain rfl:i=TT.length:=by omega
   rw [List.take_length] at hs
   refine Aa.step (fun K k=>?_) (l4 hl hs _ 0 0 rfl (by omega) (by omega) rfl)
   rw [Ap.l1,if_neg (by omega)]
   rfl
  |succ d ih =>
   intro i T hd hi hl hs
   have hi':i<TT.length:=by omega
   have hm:TT.getD i 0∈TT:=by rw [List.getD_eq_getElem?_getD,List.getElem?_eq_getElem hi']; exact List.getElem_mem hi'
   have hG:=hT.ti _ hm
   have eS:(Sc TT).getD i iU=⟨((TT.getD i 0/4:Nat):Int),((TT.getD i 0%4:Nat):Int)⟩:=by
    unfold Sc
    rw [List.getD_eq_getElem?_getD,List.getElem?_map,List.getD_eq_getElem?_getD,List.getElem?_eq_getElem hi']; rfl
   obtain ⟨gF,gF'⟩:=Z8 (s:=fs) hG
   refine Aa.step (fun K k=>?_) (ih (i+1) (T.set (Cn (CN (4*ts.length) fs) (TT.getD i 0)) true) (by omega) (by omega) (by rw [List.length_set]; exact hl) (fun c hc=>?_))
   ·simp only [Ap.l1,Int.toNat_natCast,Ho,eS]
    rw [if_pos (by omega),if_pos (by omega),Aaq (by omega),if_pos (by omega),Int.toNat_natCast,gF,if_pos (by omega),Int.toNat_natCast,Aj (by omega)]
   ·rw [R7 (by omega),List.take_add_one,List.getElem?_eq_getElem hi']
    simp only [Option.toList_some,List.mem_append,List.mem_singleton]
    have e:TT[i]=TT.getD i 0:=by rw [List.getD_eq_getElem?_getD,List.getElem?_eq_getElem hi']; rfl
    rw [e]
    by_cases h4:Cn (CN (4*ts.length) fs) (TT.getD i 0)=c
    ·rw [if_pos h4]; exact iff_of_true rfl ⟨_,.inr rfl,by rw [gF,h4]⟩
    ·rw [if_neg h4,hs c hc]
     constructor
     ·rintro ⟨G,g1,g2⟩; exact ⟨G,.inl g1,g2⟩
     ·rintro ⟨G,g1 | g1,g2⟩
      ·exact ⟨G,g1,g2⟩
      ·rw [g1,gF] at g2; exact absurd (by omega) h4
 have hrep:∀ (m j:Nat),(List.replicate m false).getD j false=false:=fun m j=>by rw [List.getD_eq_getElem?_getD,List.getElem?_replicate]; split<;>rfl
 unfold Ap.f
 refine hF.bind (Ab.bind (Tp (by omega)) (Ab.pos (by omega) (Ab.pos (by omega) (ht.bind ?_))))
 rw [Int.toNat_natCast]
 exact (l1 _ 0 _ rfl (by omega) (by simp) (fun c hc=>by rw [hrep]; exact iff_of_false (by decide) (fun ⟨G,h,_⟩=>by simp at h))).Gz
theorem gH (hg:Ab (fun K=>Ap.f K ts) ((gl ts tr (4*ts.length)).map Qd)):Ab (fun K=>Ay.f K ts) (rowsOf (LL ts tr (gnN ts tr (4*ts.length))) 4 ts.length):=by
 have h8:=hv.le
 have hgn:=Xl (ts:=ts) (tr:=tr) (4*ts.length)
 have lG:((gl ts tr (4*ts.length)).map Qd).length=gnN ts tr (4*ts.length):=by rw [List.length_map]; rfl
 have l4:∀ d k,gnN ts tr (4*ts.length) - k=d→k≤gnN ts tr (4*ts.length)→Aa (fun K f=>Ay.l4 K f ts ((gl ts tr (4*ts.length)).map Qd) (rowsOf (LL ts tr k) 4 ts.length) (k:Int)) (rowsOf (LL ts tr (gnN ts tr (4*ts.length))) 4 ts.length):=by
  intro d
  induction d with
  |zero =>
   intro k hd hk
   obtain rfl:k=gnN ts tr (4*ts.length):=by omega
   refine Aa.of fun K f=>?_
   rw [Ay.l4,if_neg (by omega)]
  |succ d ih =>
   intro k hd hk
   have nx:=ih (k+1) (by omega) (by omega)
   have c1:(k:Int)<(((gl ts tr (4*ts.length)).map Qd).length:Int):=by omega
   have c0:0≤(k:Int):=by omega
   have k24:k≤1000:=by omega
   obtain ⟨F,f1,f2,f3,f4⟩:=xW (show k<gnN ts tr (4*ts.length) by omega)
   have hk':k<(gl ts tr (4*ts.length)).length:=by show k<gnN ts tr (4*ts.length); omega
   have eR:((gl ts tr (4*ts.length)).map Qd).getD k []=Qd F:=by
    rw [List.getD_eq_getElem?_getD,List.getElem?_map]
    rw [List.getD_eq_getElem?_getD,List.getElem?_eq_getElem hk'] at f4
    rw [List.getElem?_eq_getElem hk']
    show Qd _=Qd F
    congr 1
   have e0:(Qd F).getD 0 0=((F/4:Nat):Int):=rfl
   have e1:(Qd F).getD 1 0=((F%4:Nat):Int):=rfl
   have el:(Qd F).length=2:=rfl
   have ha:F/4<ts.length:=by omega
   have hf:F%4<4:=by omega
   have e4:4*(F/4)+F%4=F:=by omega
   obtain ⟨⟨P,p1,p2⟩,_⟩:=Lc.1 f2
   rcases Zh hv f1 with ⟨_,h2⟩|⟨h1,b,p,hb,hp,h2,h3,h4,h5,h6⟩
   ·rw [h2] at p1; cases p1
   have hPA:=H9 hp hf
   have st:=dQ hv f1 f2 h3 f3
   have s1:(rowsOf (LL ts tr k) 4 ts.length).set (F/4) ((rowAt (LL ts tr k) 4 (F/4)).set (F%4) ((k:Int)+1))=rowsOf ((LL ts tr k).set F ((k:Int)+1)) 4 ts.length:=by
    rw [Ox (Qt _ _ _) ha hf,e4]
   have s2:(rowsOf ((LL ts tr k).set F ((k:Int)+1)) 4 ts.length).set b ((rowAt ((LL ts tr k).set F ((k:Int)+1)) 4 b).set (PA p (F%4)) (-((k:Int)+1)))=rowsOf (LL ts tr (k+1)) 4 ts.length:=by
    rw [Ox (by rw [List.length_set,Qt]) hb hPA,st]
   have ek:w64 ((k:Int)+1)=(k:Int)+1:=E9 (by omega) (by omega)
   have en:w64 (0 - ((k:Int)+1)) = -((k:Int)+1):=by rw [E9 (by omega) (by omega)]; omega
   have eF:(ts.getD (F/4) []).getD (F%4) Eo=⟨(b:Int),(p:Int)⟩:=h2
   refine Aa.succ ?_
   simp only [Ay.l4,Int.toNat_natCast,eR,e0,e1,el,Ho,eF,Ij ha,Iq,Gr,ek,s1,hv.four _ ha,List.length_set,Ij hb]
   clear e0 e1 el eF st s1
   refine Aa.pos c1 (Aa.pos ⟨c0,c1⟩ (Aa.pos (by omega) (Aa.pos (by omega) (Aa.pos (by omega) (Aa.pos (by omega) (Aa.pos (by omega) (Aa.pos (by omega) (Aa.pos (by omega) (Aa.bind (Zw (b:Int) hp hf).two ?_)))))))))
   refine Aa.pos (by omega) ?_
   rw [Int.toNat_natCast,en,s2]
   exact nx
 have l1:∀ d x (o:List (List Int)),ts.length - x=d→x≤ts.length→o.length=ts.length→(∀ i,i<x→o.getD i []=[0,0,0,0])→Aa (fun K f=>Ay.l1 K f ts o (x:Int)) (rowsOf (LL ts tr (gnN ts tr (4*ts.length))) 4 ts.length):=by
  intro d
  induction d with
  |zero =>
   intro x o hd hx hl ho
   obtain rfl:x=ts.length:=by omega
   have eo:o=rowsOf (LL ts tr 0) 4 ts.length:=by
    rw [dX]
    refine Ry [] hl List.length_replicate fun i hi=>?_
    rw [ho i hi,List.getD_eq_getElem?_getD,List.getElem?_replicate,if_pos hi]; rfl
   refine Aa.succ ?_
   simp only [Ay.l1]
   refine Aa.neg (by rw [List.length_replicate,Int.toNat_natCast]; omega) (hg.two.bind ?_)
   rw [eo]
   exact l4 _ 0 rfl (by omega)
  |succ d ih =>
   intro x o hd hx hl ho
   refine Aa.step (fun K f=>?_) (ih (x+1) (o.set x [0,0,0,0]) (by omega) (by omega) (by rw [List.length_set]; exact hl) (fun i hi=>by
    rw [Np]
    by_cases e:x=i
    ·rw [if_pos ⟨e,by omega⟩]
    ·rw [if_neg (fun h=>e h.1)]; exact ho i (by omega)))
   rw [Ay.l1,if_pos (by rw [List.length_replicate,Int.toNat_natCast]; omega),if_pos (by decide),if_pos (by omega),Int.toNat_natCast,Aj (by omega)]
   rfl
 unfold Ay.f
 exact Ab.pos (by omega) (Ab.pos (by omega) (l1 _ 0 _ rfl (by omega) (by simp) (fun i hi=>by omega)).Gz)
theorem gQ (ht:Ab (fun K=>Dm.f K ts) tr):Ab (fun K=>Bq.f K ts) (rowsOf (LL ts tr (gnN ts tr (4*ts.length))) 4 ts.length,(gnN ts tr (4*ts.length):Int)):=by
 have h8:=hv.le
 have e7:Dn.f ts=some (ts.length:Int):=rfl
 have htl:=hT.tl
 have l13:∀ a,a<ts.length→∀ (r:List (List Int) × Int),Aa (fun K k=>Bq.l10 K k ts tr (rowsOf (LL ts tr (gnN ts tr (4*(a+1)))) 4 ts.length) (gnN ts tr (4*(a+1)):Int) ((a+1:Nat):Int)) r→∀ d f,4 - f=d→f≤4 →
   Aa (fun K k=>Bq.l13 K k ts tr (a:Int) (rowsOf (LL ts tr (gnN ts tr (4*a+f))) 4 ts.length) (gnN ts tr (4*a+f):Int) (f:Int)) r:=by
  intro a ha r hr d
  induction d with
  |zero =>
   intro f hd hf
   obtain rfl:f=4:=by omega
   refine Aa.step (fun K k=>?_) hr
   rw [Bq.l13,if_neg (by omega),Aj (by omega)]
   rfl
  |succ d ih =>
   intro f hd hf
   have hf4:f<4:=by omega
   have hG:4*a+f<4*ts.length:=by omega
   have nx:=ih (f+1) (by omega) (by omega)
   rw [show 4*a+(f+1)=4*a+f+1 from rfl] at nx
   have pc:=Zh hv hG
   have d1:(4*a+f)/4=a:=by omega
   have d2:(4*a+f)%4=f:=by omega
   rw [d1,d2] at pc
   have eF:(ts.getD a []).getD f Eo=Fg ts a f:=rfl
   have eW:w64 (w64 (4*(a:Int))+(f:Int))=((4*a+f:Nat):Int):=w6 (c:=4) (by decide) (by omega) (by omega)
   have hgn:=Xl (ts:=ts) (tr:=tr) (4*a+f)
   have same:gnB ts tr (4*a+f)=false→Aa (fun K k=>Bq.l13 K k ts tr (a:Int) (rowsOf (LL ts tr (gnN ts tr (4*a+f))) 4 ts.length) (gnN ts tr (4*a+f):Int) ((f+1:Nat):Int)) r:=fun h=>by
    rw [Oh,if_neg (by rw [h]; decide),Nat.add_zero] at nx
    exact nx
   rcases pc with ⟨h1,h2⟩|⟨h1,b,p,hb,hp,h2,h3,h4,h5,h6⟩
   ·refine Aa.step (fun K k=>?_) (same (by
     rw [← Bool.not_eq_true]; intro h
     obtain ⟨⟨G,g1,_⟩,_⟩:=Lc.1 h; rw [h2] at g1; cases g1))
    simp only [Bq.l13,Int.toNat_natCast,Ho,eF]
    rw [if_pos (by omega),if_pos (by omega),if_pos (by rw [hv.four a ha]; omega),if_pos h1,Aj (by omega)]
   ·have hbt:(Fg ts a f).Tet=(b:Int):=by rw [h2]
    have hbp:(Fg ts a f).Perm=(p:Int):=by rw [h2]
    have hPA:=H9 hp hf4
    by_cases htr:tr.getD (4*a+f) false=true
    ·refine Aa.step (fun K k=>?_) (same (by
      rw [← Bool.not_eq_true]; intro h
      have:=(Lc.1 h).2; rw [htr] at this; cases this))
     simp only [Bq.l13,Int.toNat_natCast,Ho,eF,eW]
     rw [if_pos (by omega),if_pos (by omega),if_pos (by rw [hv.four a ha]; omega),if_neg h1,if_pos (by omega),if_pos htr,Aj (by omega)]
    ·have htf:tr.getD (4*a+f) false=false:=by rw [← Bool.not_eq_true]; exact htr
     have hgt:=Ut (ts:=ts) (tr:=tr) (c:=gnN ts tr (4*a+f)) hG
     refine Aa.succ ?_
     simp only [Bq.l13,Int.toNat_natCast,Ho,eF,eW,hbt,hbp,Ij ha,I7 hf4,Iq,Gr,List.length_set,hgt]
     refine Aa.pos (by omega) (Aa.pos (by omega) (Aa.pos (by rw [hv.four a ha]; omega) (Aa.neg (by omega) (Aa.pos (by omega) (Aa.neg htr (Aa.pos (by omega) (Aa.pos (by omega) ?_)))))))
     rcases Nat.lt_or_gt_of_ne h6 with h7 | h7
     ·-- the partner was met first
      have hg:¬ gnB ts tr (4*a+f)=true:=fun h=>by
       obtain ⟨⟨G,g1,g2⟩,_⟩:=Lc.1 h
       rw [h3] at g1; cases g1; omega
      have hgP:gnB ts tr (4*b+PA p f)=true:=Lc.2 ⟨⟨_,h5,h7⟩,by rw [← TI.sym hv hT hG h3]; exact htf⟩
      have hlt:=Yp hgP h7
      have hz:¬ LTc ts tr (gnN ts tr (4*a+f)) (4*a+f)=0:=by
       rw [LTc,if_neg (fun h=>hg h.1),h3]
       show ¬ (if gnB ts tr (4*b+PA p f)=true∧gnN ts tr (4*b+PA p f)<gnN ts tr (4*a+f) then _ else _)=0
       rw [if_pos ⟨hgP,hlt⟩]; omega
      refine Aa.neg hz ?_
      rw [Aj (by omega)]
      exact same (by rw [← Bool.not_eq_true]; exact hg)
     ·have hg:gnB ts tr (4*a+f)=true:=Lc.2 ⟨⟨_,h3,h7⟩,htf⟩
      have hz:LTc ts tr (gnN ts tr (4*a+f)) (4*a+f)=0:=by
       rw [LTc,if_neg (fun h=>absurd h.2 (Nat.lt_irrefl _)),h3]
       show (if gnB ts tr (4*b+PA p f)=true∧_ then _ else _)=0
       rw [if_neg]
       rintro ⟨h,_⟩
       obtain ⟨⟨G,g1,g2⟩,_⟩:=Lc.1 h
       rw [h5] at g1; cases g1; omega
      have st:=dQ hv hG hg h3 rfl
      have ek:w64 ((gnN ts tr (4*a+f):Int)+1)=(gnN ts tr (4*a+f):Int)+1:=E9 (by omega) (by omega)
      have en:w64 (0 - ((gnN ts tr (4*a+f):Int)+1)) = -((gnN ts tr (4*a+f):Int)+1):=by rw [E9 (by omega) (by omega)]; omega
      have s1:=Ox (v:=(gnN ts tr (4*a+f):Int)+1) (Qt ts tr (gnN ts tr (4*a+f))) ha hf4
      have s2:=Ox (C:=(LL ts tr (gnN ts tr (4*a+f))).set (4*a+f) ((gnN ts tr (4*a+f):Int)+1)) (v:=-((gnN ts tr (4*a+f):Int)+1)) (by rw [List.length_set]; exact Qt _ _ _) hb hPA
      rw [st] at s2
      rw [Oh,if_pos hg] at nx
      refine Aa.pos hz (Aa.pos (by omega) (Aa.bind (Py hp hf4).two ?_))
      rw [ek,s1,Ij hb]
      refine Aa.pos (by rw [Iq]; omega) ?_
      rw [Int.toNat_natCast,en,s2,Aj (by omega)]
      exact nx
 have l10:∀ d a,ts.length - a=d→a≤ts.length→Aa (fun K k=>Bq.l10 K k ts tr (rowsOf (LL ts tr (gnN ts tr (4*a))) 4 ts.length) (gnN ts tr (4*a):Int) (a:Int)) (rowsOf (LL ts tr (gnN ts tr (4*ts.length))) 4 ts.length,(gnN ts tr (4*ts.length):Int)):=by
  intro d
  induction d with
  |zero =>
   intro a hd ha
   obtain rfl:a=ts.length:=by omega
   refine Aa.of fun K k=>?_
   rw [Bq.l10,e7,Option.bind_some,if_neg (by omega)]
  |succ d ih =>
   intro a hd ha
   refine Aa.step (fun K k=>?_) (l13 a (by omega) _ (ih (a+1) (by omega) (by omega)) 4 0 rfl (by omega))
   rw [Bq.l10,e7,Option.bind_some,if_pos (by omega)]
   rfl
 have l1:∀ d x,ts.length - x=d→x≤ts.length→Aa (fun K k=>Bq.l1 K k ts tr (List.replicate x [0,0,0,0]) (x:Int)) (rowsOf (LL ts tr (gnN ts tr (4*ts.length))) 4 ts.length,(gnN ts tr (4*ts.length):Int)):=by
  intro d
  induction d with
  |zero =>
   intro x hd hx
   obtain rfl:x=ts.length:=by omega
   refine Aa.step (fun K k=>?_) (l10 _ 0 rfl (by omega))
   rw [Bq.l1,e7,Option.bind_some,if_neg (by omega),← dX (tr:=tr)]
   rfl
  |succ d ih =>
   intro x hd hx
   refine Aa.step (fun K k=>?_) (ih (x+1) (by omega) (by omega))
   rw [Bq.l1,e7,Option.bind_some,if_pos (by omega),if_pos (by rw [List.length_replicate]; omega),Aj (by omega),List.replicate_succ']
 unfold Bq.f
 exact ht.bind (l1 _ 0 rfl (by omega)).Gz
end
def JTf (ts:List (List Am)) (a f:Nat):List (Nat × Nat):=if (Fg ts a f).Tet<0 then [] else [(a,(Fg ts a f).Tet.toNat)]
def JT (ts:List (List Am)):List (Nat × Nat):=LJ (fun a=>LJ (JTf ts a) 4) ts.length
theorem U0 {s:List Int} {n:Nat} (h:∀ j,0<j→j<n→Gu s j=false) (hn:0<n):Ce s n=1:=by
 induction n with
 |zero=>omega
 |succ n ih =>
  rw [Pn]
  by_cases e:n=0
  ·subst e
   have:Gu s 0=true:=Iz.2 fun j hj=>by omega
   rw [if_pos this]; rfl
  ·rw [h n (by omega) (by omega),if_neg (by decide),ih (fun j a b=>h j a (by omega)) (by omega)]
structure PTB (ts:List (List Am)) (s L0:List Int) (p:Int) (x0:Nat) (q:List Nat) (L:List Int):Prop where
 inn:∀ j,j∈q→j<ts.length
 nd:q.Nodup
 len:L.length=ts.length
 val:∀ j,j<ts.length→L.getD j 0=if j∈q then p else L0.getD j 0
 con:∀ j,j∈q→s.getD j 0=s.getD x0 0
 old:∀ j,j∈q→L0.getD j 0<0
 hd:x0∈q
section
variable {ts:List (List Am)} (hv:Val ts)
include hv
theorem wP:∃ s,Hq ts.length (JT ts) s∧Ab (fun K=>Ar.f K ts) (CN ts.length s):=by
 have h8:=hv.le
 have l4:∀ a,a<ts.length→∀ (J:List (Nat × Nat)) (d f:Nat) (s:List Int),4 - f=d→f≤4→Hq ts.length (J++LJ (JTf ts a) f) s→∃ s',Hq ts.length (J++LJ (JTf ts a) 4) s'∧∀ r,Aa (fun K k=>Ar.l1 K k ts s' ((a+1:Nat):Int)) r→Aa (fun K k=>Ar.l4 K k ts (a:Int) s (f:Int)) r:=by
  intro a ha J d
  have hfour:=hv.four a ha
  induction d with
  |zero =>
   intro f s hd hf hs
   obtain rfl:f=4:=by omega
   refine ⟨s,hs,fun r h=>Aa.step (fun K k=>?_) h⟩
   rw [Ar.l4,Int.toNat_natCast,if_neg (by omega),Aj (by omega)]
  |succ d ih =>
   intro f s hd hf hs
   have hf4:f<4:=by omega
   have eF:(ts.getD a []).getD f Eo=Fg ts a f:=rfl
   rcases Jm hv ha hf4 with ⟨h1,h2⟩|⟨h1,b,p,hb,hp,h2,h3⟩
   ·obtain ⟨s',g1,g2⟩:=ih (f+1) s (by omega) (by omega) (by rw [LJ,JTf,if_pos h1,List.append_nil]; exact hs)
    refine ⟨s',g1,fun r h=>Aa.step (fun K k=>?_) (g2 r h)⟩
    simp only [Ar.l4,Int.toNat_natCast,Ho,eF]
    rw [if_pos (by omega),if_pos (by omega),Bo.f,Option.bind_some,if_pos (decide_eq_true h1),Aj (by omega)]
   ·have hbt:(Fg ts a f).Tet=(b:Int):=by rw [h2]
    obtain ⟨s1,t1,u1,u2⟩:=aL (by omega) hs ha hb
    obtain ⟨s',g1,g2⟩:=ih (f+1) s1 (by omega) (by omega) (by rw [LJ,JTf,if_neg h1,hbt,Int.toNat_natCast,← List.append_assoc]; exact u2)
    refine ⟨s',g1,fun r h=>Aa.succ ?_⟩
    simp only [Ar.l4,Int.toNat_natCast,Ho,eF,hbt]
    refine Aa.pos (by omega) (Aa.pos (by omega) (Aa.Kl (x:=decide ((b:Int)<0)) rfl (Aa.neg (by rw [decide_eq_true_eq]; omega) (Aa.bind t1.two (Aa.pos u1 ?_)))))
    rw [Aj (by omega)]
    exact g2 r h
 have l1:∀ (d a:Nat) (s:List Int),ts.length - a=d→a≤ts.length→Hq ts.length (LJ (fun a=>LJ (JTf ts a) 4) a) s→∃ s',Hq ts.length (JT ts) s'∧Aa (fun K k=>Ar.l1 K k ts s (a:Int)) (CN ts.length s'):=by
  intro d
  induction d with
  |zero =>
   intro a s hd ha hs
   obtain rfl:a=ts.length:=by omega
   have hl:=hs.len
   refine ⟨s,hs,Aa.succ ?_⟩
   simp only [Ar.l1]
   have hN:=numbered (s:=s) (by omega)
   rw [hl] at hN
   exact Aa.neg (by omega) (hN.two.bind (Aa.const _))
  |succ d ih =>
   intro a s hd ha hs
   obtain ⟨s1,g1,g2⟩:=l4 a (by omega) (LJ (fun a=>LJ (JTf ts a) 4) a) 4 0 s rfl (by omega) (by rw [LJ,List.append_nil]; exact hs)
   obtain ⟨s',k1,k2⟩:=ih (a+1) s1 (by omega) (by omega) g1
   refine ⟨s',k1,Aa.step (fun K k=>?_) (g2 _ k2)⟩
   rw [Ar.l1,if_pos (by omega),if_pos (by omega)]
   rfl
 obtain ⟨s',g1,g2⟩:=l1 _ 0 (upto ts.length) rfl (by omega) (Nq _)
 exact ⟨s',g1,Ab.Kl (x:=(ts.length:Int)) rfl (Ab.bind (Ns hv (N:=ts.length) (by omega) _ 0 rfl (Nat.zero_le _)).Gz g2.Gz)⟩
section
variable {s:List Int} (hP:Hq ts.length (JT ts) s) {L0:List Int} {p:Nat} (hp:p≤100) {x0:Nat}
include hP hp
theorem jO {a i:Nat} (ha:a<ts.length):∀ (d f:Nat) (q:List Nat) (L:List Int),4 - f=d→f≤4→PTB ts s L0 p x0 q L→q.getD i 0=a→i<q.length→∃ (q':List Nat) (L':List Int),PTB ts s L0 p x0 q' L'∧q.length≤q'.length∧(∀ t,t<q.length→q'.getD t 0=q.getD t 0)∧(∀ j,j<ts.length→0≤L.getD j 0→0≤L'.getD j 0) ∧
  (∀ f',f≤f'→f'<4→¬ (Fg ts a f').Tet<0→0≤L'.getD (Fg ts a f').Tet.toNat 0) ∧
  (∀ r,Aa (fun K k=>Bl.l37 K k ts (p:Int) (x0:Int) L' (ints q') ((i+1:Nat):Int)) r→Aa (fun K k=>Bl.l40 K k ts (p:Int) (x0:Int) (i:Int) L (ints q) (f:Int)) r):=by
 have h8:=hv.le
 have hfour:=hv.four a ha
 intro d
 induction d with
 |zero =>
  intro f q L hd hf hB hq hi
  obtain rfl:f=4:=by omega
  have hql:=K8 hB.nd hB.inn
  refine ⟨q,L,hB,Nat.le_refl _,fun _ _=>rfl,fun _ _ h=>h,fun f' h1 h2=>by omega,fun r h=>Aa.step (fun K k=>?_) h⟩
  rw [Bl.l40,if_neg (by omega),Aj (by omega)]
 |succ d ih =>
  intro f q L hd hf hB hq hi
  have hf4:f<4:=by omega
  have hql:=K8 hB.nd hB.inn
  have hl:=hB.len
  have il:=Il q
  have eq:(ints q).getD i 0=(a:Int):=by rw [K3 hi,hq]
  have eF:(ts.getD a []).getD f Eo=Fg ts a f:=rfl
  rcases Jm hv ha hf4 with ⟨h1,h2⟩|⟨h1,b,pp,hb,hpp,h2,h3⟩
  ·obtain ⟨q',L',g1,g2,g3,g4,g5,g6⟩:=ih (f+1) q L (by omega) (by omega) hB hq hi
   refine ⟨q',L',g1,g2,g3,g4,fun f' a1 a2 a3=>?_,fun r h=>Aa.step (fun K k=>?_) (g6 r h)⟩
   ·by_cases e:f'=f
    ·rw [e] at a3; exact absurd h1 a3
    ·exact g5 f' (by omega) a2 a3
   ·simp only [Bl.l40,Int.toNat_natCast,eq,Ho,eF]
    rw [if_pos (by omega),if_pos (by omega),if_pos (by omega),if_pos (by omega),if_neg (by omega),Aj (by omega)]
  ·have hbt:(Fg ts a f).Tet=(b:Int):=by rw [h2]
   by_cases hL:L.getD b 0<0
   ·have hbq:b ∉ q:=fun h=>by
     have:=hB.val b hb
     rw [if_pos h] at this
     omega
    have hmem:(a,b)∈JT ts:=by
     unfold JT
     refine Lr.2 ⟨a,ha,Lr.2 ⟨f,hf4,?_⟩⟩
     rw [JTf,if_neg h1,hbt,Int.toNat_natCast,List.mem_singleton]
    have haq:a∈q:=by rw [← hq,List.getD_eq_getElem?_getD,List.getElem?_eq_getElem hi]; exact List.getElem_mem hi
    have hB2:PTB ts s L0 p x0 (q++[b]) (L.set b (p:Int)):=by
     refine ⟨fun j hj=>?_,jY hB.nd hbq,by rw [List.length_set]; exact hl,fun j hj=>?_,fun j hj=>?_,fun j hj=>?_,List.mem_append_left _ hB.hd⟩
     ·rcases List.mem_append.1 hj with h | h
      ·exact hB.inn j h
      ·rw [List.mem_singleton.1 h]; exact hb
     ·rw [Np]
      by_cases e:b=j
      ·rw [if_pos ⟨e,by omega⟩,if_pos (by simp [e])]
      ·rw [if_neg (fun h=>e h.1),hB.val j hj]
       by_cases h:j∈q
       ·rw [if_pos h,if_pos (List.mem_append_left _ h)]
       ·rw [if_neg h,if_neg (by rw [List.mem_append,List.mem_singleton]; rintro (h' | h'); exact h h'; exact e h'.symm)]
     ·rcases List.mem_append.1 hj with h | h
      ·exact hB.con j h
      ·rw [List.mem_singleton.1 h,← hP.one _ hmem]; exact hB.con a haq
     ·rcases List.mem_append.1 hj with h | h
      ·exact hB.old j h
      ·rw [List.mem_singleton.1 h]
       have:=hB.val b hb
       rw [if_neg hbq] at this
       omega
    obtain ⟨q',L',g1,g2,g3,g4,g5,g6⟩:=ih (f+1) (q++[b]) (L.set b (p:Int)) (by omega) (by omega) hB2 (by rw [Ph hi]; exact hq) (by rw [List.length_append]; omega)
    rw [List.length_append] at g2 g3
    have hbp:0≤(L.set b (p:Int)).getD b 0:=by rw [Np,if_pos ⟨rfl,by omega⟩]; omega
    refine ⟨q',L',g1,by omega,fun t ht=>?_,fun j hj h=>g4 j hj ?_,fun f' a1 a2 a3=>?_,fun r h=>Aa.step (fun K k=>?_) (g6 r h)⟩
    ·rw [g3 t (by omega),Ph ht]
    ·rw [Np]; split
     ·omega
     ·exact h
    ·by_cases e:f'=f
     ·rw [e,hbt,Int.toNat_natCast]; exact g4 b hb hbp
     ·exact g5 f' (by omega) a2 a3
    ·simp only [Bl.l40,Int.toNat_natCast,eq,Ho,eF,hbt]
     rw [if_pos (by omega),if_pos (by omega),if_pos (by omega),if_pos (by omega),if_pos (by omega),if_pos (by omega),if_pos hL,if_pos (by omega),Aj (by omega),Pi]
   ·obtain ⟨q',L',g1,g2,g3,g4,g5,g6⟩:=ih (f+1) q L (by omega) (by omega) hB hq hi
    refine ⟨q',L',g1,g2,g3,g4,fun f' a1 a2 a3=>?_,fun r h=>Aa.step (fun K k=>?_) (g6 r h)⟩
    ·by_cases e:f'=f
     ·rw [e,hbt,Int.toNat_natCast]; exact g4 b hb (by omega)
     ·exact g5 f' (by omega) a2 a3
    ·simp only [Bl.l40,Int.toNat_natCast,eq,Ho,eF,hbt]
     rw [if_pos (by omega),if_pos (by omega),if_pos (by omega),if_pos (by omega),if_pos (by omega),if_pos (by omega),if_neg hL,Aj (by omega)]
theorem Yz (hx0:x0<ts.length):∀ (d i:Nat) (q:List Nat) (L:List Int),ts.length - i=d→i≤q.length→PTB ts s L0 p x0 q L→(∀ t f,t<i→f<4→¬ (Fg ts (q.getD t 0) f).Tet<0→0≤L.getD (Fg ts (q.getD t 0) f).Tet.toNat 0)→∃ (q':List Nat) (L':List Int),PTB ts s L0 p x0 q' L'∧(∀ t f,t<q'.length→f<4→¬ (Fg ts (q'.getD t 0) f).Tet<0→0≤L'.getD (Fg ts (q'.getD t 0) f).Tet.toNat 0) ∧
  (∀ r,Aa (fun K k=>Bl.l28 K k ts L' ((p+1:Nat):Int) ((x0+1:Nat):Int)) r→Aa (fun K k=>Bl.l37 K k ts (p:Int) (x0:Int) L (ints q) (i:Int)) r):=by
 have h8:=hv.le
 have fin:∀ (i:Nat) (q:List Nat) (L:List Int),i=q.length→PTB ts s L0 p x0 q L→∀ r,Aa (fun K k=>Bl.l28 K k ts L ((p+1:Nat):Int) ((x0+1:Nat):Int)) r→Aa (fun K k=>Bl.l37 K k ts (p:Int) (x0:Int) L (ints q) (i:Int)) r:=fun i q L hi hB r h=>by
  have il:=Il q
  refine Aa.step (fun K k=>?_) h
  rw [Bl.l37,if_neg (by omega),Aj (by omega),Aj (by omega)]
 intro d
 induction d with
 |zero =>
  intro i q L hd hi hB hcl
  have hql:=K8 hB.nd hB.inn
  obtain rfl:i=q.length:=by omega
  exact ⟨q,L,hB,hcl,fin _ q L rfl hB⟩
 |succ d ih =>
  intro i q L hd hi hB hcl
  by_cases hlt:i<q.length
  ·have il:=Il q
   have hm:q.getD i 0∈q:=by rw [List.getD_eq_getElem?_getD,List.getElem?_eq_getElem hlt]; exact List.getElem_mem hlt
   obtain ⟨q',L',g1,g2,g3,g4,g5,g6⟩:=jO hv hP hp (hB.inn _ hm) 4 0 q L rfl (by omega) hB rfl hlt
   obtain ⟨q2,L2,k1,k2,k3⟩:=ih (i+1) q' L' (by omega) (by omega) g1 (fun t f ht hf hb=>by
    by_cases e:t=i
    ·subst e
     rw [g3 t hlt] at hb ⊢
     exact g5 f (by omega) hf hb
    ·rw [g3 t (by omega)] at hb ⊢
     have htm:q.getD t 0∈q:=by rw [List.getD_eq_getElem?_getD,List.getElem?_eq_getElem (show t<q.length by omega)]; exact List.getElem_mem _
     rcases Jm hv (hB.inn _ htm) hf with ⟨h1,_⟩|⟨_,b,pp,hb',_,h2,_⟩
     ·exact absurd h1 hb
     ·have:=hcl t f (by omega) hf hb
      rw [h2] at this ⊢
      simp only [Int.toNat_natCast] at this ⊢
      exact g4 b hb' this)
   refine ⟨q2,L2,k1,k2,fun r h=>Aa.step (fun K k=>?_) (g6 _ (k3 r h))⟩
   rw [Bl.l37,if_pos (by omega)]
   rfl
  ·obtain rfl:i=q.length:=by omega
   exact ⟨q,L,hB,hcl,fin _ q L rfl hB⟩
end
theorem jU {s:List Int} (hP:Hq ts.length (JT ts) s) (h0:0<ts.length):Ab (fun K=>Et.f K ts) (decide (Ce s ts.length=1)):=by
 have h8:=hv.le
 have e7:Dn.f ts=some (ts.length:Int):=rfl
 have st1:∀ (L:List Int) (p x:Nat),x<ts.length→L.length=ts.length→L.getD x 0<0→PTB ts s L p x [x] (L.set x (p:Int)):=fun L p x hlt hl hneg=>by
  refine ⟨fun j hj=>by rw [List.mem_singleton.1 hj]; exact hlt,by simp,by rw [List.length_set]; exact hl,fun j hj=>?_,fun j hj=>by rw [List.mem_singleton.1 hj],fun j hj=>by rw [List.mem_singleton.1 hj]; exact hneg,List.mem_singleton.2 rfl⟩
  rw [Np]
  by_cases e:x=j
  ·rw [if_pos ⟨e,by omega⟩,if_pos (by rw [e]; exact List.mem_singleton.2 rfl)]
  ·rw [if_neg (fun h=>e h.1),if_neg (fun h=>e (List.mem_singleton.1 h).symm)]
 -- the later parts
 have l28:∀ (Q:List Nat) (d x p:Nat) (L:List Int),ts.length - x=d→x≤ts.length→1≤p→p≤x→L.length=ts.length→(∀ j,j<ts.length→(L.getD j 0=0↔j∈Q))→(∀ j,j<x→0≤L.getD j 0) →
   ∃ L':List Int,L'.length=ts.length∧(∀ j,j<ts.length→0≤L'.getD j 0∧(L'.getD j 0=0↔j∈Q))∧Aa (fun K k=>Bl.l28 K k ts L (p:Int) (x:Int)) L':=by
  intro Q d
  induction d using Nat.strongRecOn with
  |_ d ih =>
   intro x p L hd hx hp1 hpx hl hQ hlow
   by_cases hlt:x<ts.length
   ·by_cases hg:0≤L.getD x 0
    ·obtain ⟨L',g1,g2,g3⟩:=ih (ts.length - (x+1)) (by omega) (x+1) p L rfl (by omega) hp1 (by omega) hl hQ (fun j hj=>by
      by_cases e:j=x
      ·rw [e]; exact hg
      ·exact hlow j (by omega))
     refine ⟨L',g1,g2,Aa.step (fun K k=>?_) g3⟩
     rw [Bl.l28,e7,Option.bind_some,if_pos (by omega),if_pos (by omega),Int.toNat_natCast,if_pos hg,Aj (by omega)]
    ·have hxQ:x ∉ Q:=fun h=>by have:=(hQ x hlt).2 h; omega
     have hB:PTB ts s L p x [x] (L.set x (p:Int)):=st1 L p x hlt hl (by omega)
     obtain ⟨q,L1,k1,k2,k3⟩:=Yz hv hP (L0:=L) (p:=p) (by omega) hlt _ 0 [x] (L.set x (p:Int)) rfl (by omega) hB (fun t f ht=>by omega)
     obtain ⟨L',g1,g2,g3⟩:=ih (ts.length - (x+1)) (by omega) (x+1) (p+1) L1 rfl (by omega) (by omega) (by omega) k1.len (fun j hj=>by
      rw [k1.val j hj]
      by_cases h:j∈q
      ·rw [if_pos h]
       have:=k1.old j h
       exact iff_of_false (by omega) fun h'=>by have:=(hQ j hj).2 h'; omega
      ·rw [if_neg h]; exact hQ j hj) (fun j hj=>by
      rw [k1.val j (by omega)]
      by_cases h:j∈q
      ·rw [if_pos h]; omega
      ·rw [if_neg h]
       by_cases e:j=x
       ·rw [e] at h; exact absurd k1.hd h
       ·exact hlow j (by omega))
     refine ⟨L',g1,g2,Aa.step (fun K k=>?_) (k3 _ g3)⟩
     rw [Bl.l28,e7,Option.bind_some,if_pos (by omega),if_pos (by omega),Int.toNat_natCast,if_neg hg]
     rfl
   ·obtain rfl:x=ts.length:=by omega
    refine ⟨L,hl,fun j hj=>⟨hlow j hj,hQ j hj⟩,Aa.of fun K k=>?_⟩
    rw [Bl.l28,e7,Option.bind_some,if_neg (by omega)]
 -- the first part
 have hrep:∀ j,(List.replicate ts.length (-1:Int)).getD j 0=if j<ts.length then -1 else 0:=fun j=>by
  rw [List.getD_eq_getElem?_getD,List.getElem?_replicate]; split<;>rfl
 have hB:=st1 (List.replicate ts.length (-1)) 0 0 h0 List.length_replicate (by rw [hrep,if_pos h0]; decide)
 obtain ⟨q,L1,k1,k2,k3⟩:=Yz hv hP (L0:=List.replicate ts.length (-1)) (p:=0) (by omega) h0 _ 0 [0] _ rfl (by omega) hB (fun t f ht=>by omega)
 have v1:∀ j,j<ts.length→(L1.getD j 0=if j∈q then 0 else -1):=fun j hj=>by
  rw [k1.val j hj,hrep,if_pos hj]; rfl
 obtain ⟨L',g1,g2,g3⟩:=l28 q (ts.length - 1) 1 1 L1 rfl (by omega) (by omega) (by omega) k1.len (fun j hj=>by
  rw [v1 j hj]
  by_cases h:j∈q
  ·rw [if_pos h]; exact iff_of_true rfl h
  ·rw [if_neg h]; exact iff_of_false (by decide) h) (fun j hj=>by
  obtain rfl:j=0:=by omega
  rw [v1 0 h0,if_pos k1.hd]; decide)
 have hcl:∀ a f,a∈q→f<4→¬ (Fg ts a f).Tet<0→(Fg ts a f).Tet.toNat<ts.length→(Fg ts a f).Tet.toNat∈q:=fun a f ha hf hb hlt=>by
  obtain ⟨t,ht,he⟩:=List.getElem_of_mem ha
  have hg:q.getD t 0=a:=by rw [List.getD_eq_getElem?_getD,List.getElem?_eq_getElem ht,he]; rfl
  have:=k2 t f ht hf (by rw [hg]; exact hb)
  rw [hg,v1 _ hlt] at this
  by_cases h:(Fg ts a f).Tet.toNat∈q
  ·exact h
  ·rw [if_neg h] at this; omega
 have hQ:∀ p,p∈JT ts→(p.1∈q↔p.2∈q):=fun p hp=>by
  unfold JT at hp
  obtain ⟨a,ha,hp⟩:=Lr.1 hp
  obtain ⟨f,hf,hp⟩:=Lr.1 hp
  rw [JTf] at hp
  split at hp
  ·cases hp
  ·rename_i hn
   rw [List.mem_singleton] at hp
   subst hp
   rcases Jm hv ha hf with ⟨h1,_⟩|⟨_,b,pp,hb,hpp,h2,h3⟩
   ·exact absurd h1 hn
   ·have hbt:(Fg ts a f).Tet=(b:Int):=by rw [h2]
    show a∈q↔(Fg ts a f).Tet.toNat∈q
    constructor
    ·intro h; exact hcl a f h hf hn (by rw [hbt,Int.toNat_natCast]; exact hb)
    ·rw [hbt,Int.toNat_natCast]
     intro h
     have h4:=h3.2.2.2.1
     have hbt2:(Fg ts b (PA pp f)).Tet=(a:Int):=by rw [h4]
     have:=hcl b (PA pp f) h (H9 hpp hf) (by rw [hbt2]; omega) (by rw [hbt2,Int.toNat_natCast]; exact ha)
     rw [hbt2,Int.toNat_natCast] at this
     exact this
 have hiff:Ce s ts.length=1↔∀ j,j<ts.length→j∈q:=by
  constructor
  ·intro h j hj
   obtain ⟨i,i1,i2,i3⟩:=Rb s j
   have:i=0:=by
    rcases Nat.eq_zero_or_pos i with h5 | h5
    ·exact h5
    ·have a1:=Mt s (show 1≤i from h5)
     have a2:=Mf i2 (show i<ts.length by omega)
     have a3:Ce s 1=1:=U0 (fun j h1 h2=>by omega) (by omega)
     omega
   subst this
   exact (hP.min (fun x=>x∈q) hQ 0 j h0 hj i3).1 k1.hd
  ·intro h
   refine U0 (fun j j1 j2=>?_) h0
   rw [← Bool.not_eq_true]
   intro hf
   exact Iz.1 hf 0 j1 (k1.con j (h j j2)).symm
 -- no label above naught
 have sing:∀ d i,ts.length - i=d→i≤ts.length→(∀ j,j<i→j∈q)→Aa (fun K k=>Et.l1 K k L' (i:Int)) (decide (Ce s ts.length=1)):=by
  intro d
  induction d with
  |zero =>
   intro i hd hi h
   obtain rfl:i=ts.length:=by omega
   rw [decide_eq_true (hiff.2 h)]
   refine Aa.of fun K k=>?_
   rw [Et.l1,if_neg (by omega)]
  |succ d ih =>
   intro i hd hi h
   obtain ⟨a1,a2⟩:=g2 i (by omega)
   by_cases hiq:i∈q
   ·refine Aa.step (fun K k=>?_) (ih (i+1) (by omega) (by omega) fun j hj=>by
     by_cases e:j=i
     ·rw [e]; exact hiq
     ·exact h j (by omega))
    rw [Et.l1,if_pos (by omega),if_pos (by omega),Int.toNat_natCast,a2.2 hiq,if_neg (by omega),Aj (by omega)]
   ·rw [decide_eq_false (fun e=>hiq (hiff.1 e i (by omega)))]
    refine Aa.of fun K k=>?_
    have:L'.getD i 0≠0:=fun e=>hiq (a2.1 e)
    rw [Et.l1,if_pos (by omega),if_pos (by omega),Int.toNat_natCast,if_pos (by omega)]
 -- the start
 have l1:∀ d i (L:List Int),ts.length - i=d→i≤ts.length→L.length=ts.length→(∀ j,j<i→L.getD j 0 = -1)→Aa (fun K k=>Bl.l1 K k ts L (i:Int)) L':=by
  intro d
  induction d with
  |zero =>
   intro i L hd hi hl h
   obtain rfl:i=ts.length:=by omega
   have e:L=List.replicate ts.length (-1):=Ng hl List.length_replicate fun j hj=>by rw [h j hj,hrep,if_pos hj]
   subst e
   refine Aa.step (fun K k=>?_) (Aa.step (fun K k=>?_) (k3 _ g3):Aa (fun K k=>Bl.l28 K k ts (List.replicate ts.length (-1)) 0 0) L')
   ·rw [Bl.l1,if_neg (by omega)]
   ·have hm:(List.replicate ts.length (-1:Int)).getD (0:Int).toNat 0 = -1:=by show (List.replicate ts.length (-1:Int)).getD 0 0 = -1; rw [hrep,if_pos h0]
    rw [Bl.l28,e7,Option.bind_some,if_pos (by omega),if_pos (by omega),hm,if_neg (by decide)]
    rfl
  |succ d ih =>
   intro i L hd hi hl h
   refine Aa.step (fun K k=>?_) (ih (i+1) (L.set i (-1)) (by omega) (by omega) (by rw [List.length_set]; exact hl) fun j hj=>by
    rw [Np]
    by_cases e:i=j
    ·rw [if_pos ⟨e,by omega⟩]
    ·rw [if_neg (fun h=>e h.1)]; exact h j (by omega))
   rw [Bl.l1,if_pos (by omega),if_pos (by omega),Int.toNat_natCast,Aj (by omega)]
 unfold Et.f Bl.f
 rw [Int.toNat_natCast]
 exact Ab.bind (Ab.pos (by omega) (Ab.pos (by omega) (l1 _ 0 _ rfl (by omega) (by simp) (fun j hj=>by omega)).Gz)) (sing _ 0 rfl (by omega) (fun j hj=>by omega)).Gz
end
end Go.Proofs.YtgkgmhkgahalgaaGreat
