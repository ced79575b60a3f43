import Derived.Test.YtgkgmhkgahalgaaGreatPlJE
set_option linter.unusedVariables false
set_option linter.unusedSimpArgs false
set_option linter.unusedSectionVars false
namespace Go.Proofs.YtgkgmhkgahalgaaGreat
open Go.RowKit
theorem mQ {α:Type} {X W:List α} {w d:α}:(X++w::W).getD X.length d=w:=by
 rw [List.getD_eq_getElem?_getD,List.getElem?_append_right (Nat.le_refl _),Nat.sub_self]; rfl
section
variable {ts:List (List Am)} (hv:Val ts)
include hv
theorem bD (hT:Ab (fun K=>Af.f K ts) true) (hI:Ab (fun K=>Br.f K ts) true):∃ c:Int,(c=0→0<ts.length)∧Ab (fun K=>I8.f K ts) c∧Ab (fun K=>Jt.f K ts) c:=by
 have h8:=hv.le
 unfold I8.f Jt.f Fz.f
 by_cases h0:0<ts.length
 ·obtain ⟨s,hP,hc⟩:=wP hv
  have hs:=jU hv hP h0
  have hcc:=Tp (s:=s) (N:=ts.length) (by omega)
  by_cases h1:Ce s ts.length=1
  ·rw [decide_eq_true h1] at hs
   obtain ⟨ys,hY,tE⟩:=Qf hv
   obtain ⟨Sg,hS,_,hz,hs1,hs2⟩:=nP hv hY
   obtain ⟨o,t,hl,ho⟩:=bE hv hY tE hS hz (hs1 tE)
   have hle:=Jh ys (6*ts.length)
   have hiff:(∃ c,c<o.length∧o.getD c false=true)↔∃ j,j<6*ts.length∧Sg.getD j 0=0:=by
    constructor
    ·rintro ⟨c,h1,h2⟩
     obtain ⟨j,j1,j2,j3⟩:=(L9 (6*ts.length) ys).onto (Nat.le_refl _) (by omega:c<Ce ys (6*ts.length))
     have:=ho j j1
     rw [j3,Int.toNat_natCast,h2] at this
     exact ⟨j,j1,of_decide_eq_true this.symm⟩
    ·rintro ⟨j,h1,h2⟩
     have h3:=Z8 (s:=ys) h1
     refine ⟨Cn (CN (6*ts.length) ys) j,by omega,?_⟩
     have:=ho j h1
     rw [decide_eq_true h2] at this
     exact this
   have hd:∃ b:Bool,b=true↔∃ j,j<6*ts.length∧Sg.getD j 0=0:=by
    by_cases e:∃ j,j<6*ts.length∧Sg.getD j 0=0
    ·exact ⟨true,iff_of_true rfl e⟩
    ·exact ⟨false,iff_of_false (by decide) e⟩
   obtain ⟨b,hb⟩:=hd
   have r2:=yP (o:=o) (by omega) (hb.trans hiff.symm)
   have r3:=wT h8 hs2 hb
   cases b with
   |true=>exact ⟨5,fun h=>absurd h (by decide),hI.bind (Ab.pos rfl (Ab.bind (Ab.pos (by omega) (hc.bind (hcc.bind (Ab.pos (by omega) (t.bind (r2.bind (Ab.const _))))))) (Ab.neg (by decide) (Ab.const _)))),hT.bind (Ab.pos rfl (Ab.neg (by omega) (hs.bind (Ab.pos rfl (r3.bind (Ab.pos rfl (Ab.const _)))))))⟩
   |false=>exact ⟨0,fun _=>h0,hI.bind (Ab.pos rfl (Ab.bind (Ab.pos (by omega) (hc.bind (hcc.bind (Ab.pos (by omega) (t.bind (r2.bind (Ab.const _))))))) (Ab.pos rfl (Ab.const _)))),hT.bind (Ab.pos rfl (Ab.neg (by omega) (hs.bind (Ab.pos rfl (r3.bind (Ab.neg (by decide) (Ab.const _)))))))⟩
  ·rw [decide_eq_false h1] at hs
   exact ⟨5,fun h=>absurd h (by decide),hI.bind (Ab.pos rfl (Ab.bind (Ab.pos (by omega) (hc.bind (hcc.bind (Ab.neg (by omega) (Ab.const _))))) (Ab.neg (by decide) (Ab.const _)))),hT.bind (Ab.pos rfl (Ab.neg (by omega) (hs.bind (Ab.neg (by decide) (Ab.const _)))))⟩
 ·exact ⟨5,fun h=>absurd h (by decide),hI.bind (Ab.pos rfl (Ab.bind (Ab.neg (by omega) (Ab.const _)) (Ab.neg (by decide) (Ab.const _)))),hT.bind (Ab.pos rfl (Ab.pos (by omega) (Ab.const _)))⟩
theorem gI {tr:List Bool} {n:Nat} (hn:n=gnN ts tr (4*ts.length)) {Rg:List Am} (hl:Rg.length≤192) (hR:∀ i,i<Rg.length→∃ a p:Nat,a<ts.length∧p<24∧Rg.getD i Eo=⟨a,p⟩):∃ w:List Int,w.length≤192∧(∀ i,i<w.length→Ltr n (w.getD i 0)) ∧
  Ab (fun K=>Cg.l1 K K (rowsOf (LL ts tr n) 4 ts.length) Rg [] 0) w∧Ab (fun K=>Fv.l1 K K (rowsOf (LL ts tr n) 4 ts.length) Rg [] 0) w:=by
 have h8:=hv.le
 have main:∀ d i (w:List Int),Rg.length - i=d→i≤Rg.length→w.length≤i→(∀ i,i<w.length→Ltr n (w.getD i 0))→∃ w':List Int,w'.length≤192∧(∀ i,i<w'.length→Ltr n (w'.getD i 0)) ∧
   Aa (fun K k=>Cg.l1 K k (rowsOf (LL ts tr n) 4 ts.length) Rg w (i:Int)) w'∧Aa (fun K k=>Fv.l1 K k (rowsOf (LL ts tr n) 4 ts.length) Rg w (i:Int)) w':=by
  intro d
  induction d with
  |zero =>
   intro i w hd hi hw hL
   refine ⟨w,by omega,hL,Aa.of fun K k=>?_,Aa.of fun K k=>?_⟩
   ·rw [Cg.l1,if_neg (by omega)]
   ·rw [Fv.l1,if_neg (by omega)]
  |succ d ih =>
   intro i w hd hi hw hL
   obtain ⟨a,p,ha,hp,hg⟩:=hR i (by omega)
   have h2:PA p 2<4:=H9 hp (by omega)
   have hG:4*a+PA p 2<4*ts.length:=by omega
   have gx:=Ut (ts:=ts) (tr:=tr) (c:=n) hG
   have hlt:=oC hv (tr:=tr) hG
   rw [← hn] at hlt
   obtain ⟨x,hx⟩:∃ x,x=LTc ts tr n (4*a+PA p 2):=⟨_,rfl⟩
   rw [← hx] at gx hlt
   by_cases h0:x=0
   ·obtain ⟨w',g1,g2,g3,g4⟩:=ih (i+1) w (by omega) (by omega) (by omega) hL
    refine ⟨w',g1,g2,Aa.succ ?_,Aa.succ ?_⟩
    ·simp only [Cg.l1,Int.toNat_natCast,Ho,hg,Ij ha,Iq,Gr]
     refine Aa.pos (by omega) (Aa.pos (by omega) (Aa.pos (by omega) (Aa.Hm (Pt hp).two (Aa.pos (by omega) ?_))))
     rw [Int.toNat_natCast,I7 h2,gx,Aj (by omega)]
     exact Aa.pos h0 g3
    ·simp only [Fv.l1,Int.toNat_natCast,Ho,hg,Ij ha,Iq,Gr]
     refine Aa.pos (by omega) (Aa.pos (by omega) (Aa.pos (by omega) (Aa.bind (Py hp (by omega:2<4)).two (Aa.pos (by omega) ?_))))
     rw [Int.toNat_natCast,I7 h2,gx,Aj (by omega)]
     exact Aa.pos h0 g4
   ·obtain ⟨w',g1,g2,g3,g4⟩:=ih (i+1) (w++[x]) (by omega) (by omega) (by rw [List.length_append]; simp only [List.length_cons,List.length_nil]; omega) (fun j hj=>by
     rw [List.length_append] at hj
     simp only [List.length_cons,List.length_nil] at hj
     by_cases h:j<w.length
     ·rw [Ph h]; exact hL j h
     ·obtain rfl:j=w.length:=by omega
      rw [mQ]; exact hlt.resolve_left h0)
    refine ⟨w',g1,g2,Aa.succ ?_,Aa.succ ?_⟩
    ·simp only [Cg.l1,Int.toNat_natCast,Ho,hg,Ij ha,Iq,Gr]
     refine Aa.pos (by omega) (Aa.pos (by omega) (Aa.pos (by omega) (Aa.Hm (Pt hp).two (Aa.pos (by omega) ?_))))
     rw [Int.toNat_natCast,I7 h2,gx,Aj (by omega)]
     exact Aa.neg h0 (Aa.pos (by omega) g3)
    ·simp only [Fv.l1,Int.toNat_natCast,Ho,hg,Ij ha,Iq,Gr]
     refine Aa.pos (by omega) (Aa.pos (by omega) (Aa.pos (by omega) (Aa.bind (Py hp (by omega:2<4)).two (Aa.pos (by omega) ?_))))
     rw [Int.toNat_natCast,I7 h2,gx,Aj (by omega)]
     exact Aa.neg h0 (Aa.pos (by omega) g4)
 obtain ⟨w',g1,g2,g3,g4⟩:=main _ 0 [] rfl (by omega) (by simp) (fun i hi=>absurd hi (Nat.not_lt_zero _))
 exact ⟨w',g1,g2,g3.Gz,g4.Gz⟩
theorem dB (h0:0<ts.length) (hT:Ab (fun K=>Af.f K ts) true):∃ (n:Nat) (rs:List (List Int)),n≤32∧rs.length≤48∧(∀ r,r∈rs→r.length≤192∧∀ i,i<r.length→Ltr n (r.getD i 0)) ∧
  Ab (fun K=>Cm.f K ts) ((n:Int),rs)∧Ab (fun K=>Eh.f K ts) ((n:Int),rs):=by
 have h8:=hv.le
 obtain ⟨vs,ys,fs,c1,c2,c3,tc⟩:=nJ hv
 have hP:=c2.p
 obtain ⟨y',p2,t2⟩:=Qf hv
 obtain ⟨f',p3,t3⟩:=Vv hv
 rw [eB (p2.same hP)] at t2
 rw [eB (p3.same c3.p)] at t3
 obtain ⟨q,TT,R,tr,hTI,ti,tsp⟩:=fK hv h0
 have hgi:=sU hv hTI c3.p t3 ti
 have hli:=gH hv hTI hgi
 have hls:=gQ hv hTI tsp
 obtain ⟨n,hn⟩:∃ n,n=gnN ts tr (4*ts.length):=⟨_,rfl⟩
 have hn32:=Xl (ts:=ts) (tr:=tr) (4*ts.length)
 rw [← hn] at hli hls
 obtain ⟨o,b1,b2,b3⟩:=bS hv hP t2
 obtain ⟨V,E,F,g1,g2,g3⟩:=Aau hv hT tc
 have hle:=Jh ys (6*ts.length)
 -- one class
 have one:∀ c,c<Ce ys (6*ts.length)→(o.getD c false=decide ((c:Int)∈E))∧(o.getD c false=false→∃ Rg:List Am,Rg.length≤192∧(∀ i,i<Rg.length→∃ a p:Nat,a<ts.length∧p<24∧Rg.getD i Eo=⟨a,p⟩)∧Ab (fun K=>Di.f K ts (c:Int)) Rg∧Ab (fun K=>Gs.f K ts (c:Int)) Rg):=by
  intro c hc
  obtain ⟨j0,j1,j2,j3⟩:=(L9 (6*ts.length) ys).onto (Nat.le_refl _) hc
  have hlow:∀ j,j<j0→(CN (6*ts.length) ys).getD j 0≠(c:Int):=fun j hj e=>Iz.1 j2 j hj ((L9 (6*ts.length) ys).inj (by omega) j1 (e.trans j3.symm))
  refine ⟨?_,fun hno=>?_⟩
  ·rw [Bool.eq_iff_iff,decide_eq_true_eq,b3 c]
   have:=g3 j0 j1
   rw [j3] at this
   exact this.symm
  ·obtain ⟨hI,st1,st2⟩:=cO hv hP t2 tc b1 b2 b3 j1 j3 hlow hno
   obtain ⟨s1,s2,s3,s4⟩:=xM (show j0%6<6 by omega)
   have hC:Cor ts (CN (6*ts.length) ys) (c:Int) (j0/6,ST (j0%6)):=⟨by show j0/6<ts.length; omega,s1,by
    show (CN (6*ts.length) ys).getD (6*(j0/6)+EE (PA (ST (j0%6)) 0) (PA (ST (j0%6)) 1)) 0=_
    rw [s4,show 6*(j0/6)+j0%6=j0 by omega]; exact j3⟩
   obtain ⟨m,m1,m2,m3,m4⟩:=xY hv hP hI hC
   refine ⟨Om ts (j0/6,ST (j0%6)) m,by rw [N9]; exact m2,fun i hi=>?_,Ab.Dw st1 (iY hv hP hI hC m2 m3 m4 _ 0 rfl (by omega)).Gz,Ab.Dw st2 (kV hv hP hI hC m2 m3 m4 _ 0 rfl (by omega)).Gz⟩
   rw [N9] at hi
   have hcor:=Nw hv hP hI hC i
   exact ⟨_,_,hcor.tet,hcor.perm,by rw [U3 hi]; rfl⟩
 -- all classes,from one on
 have main:∀ d c,Ce ys (6*ts.length) - c=d→c≤Ce ys (6*ts.length)→∃ (Ws rs:List (List Int)),Ws.length≤d∧rs.length≤d∧(∀ r,r∈rs→r.length≤192∧∀ i,i<r.length→Ltr n (r.getD i 0)) ∧
   (∀ A:List (List Int),A.length≤c→Aa (fun K k=>Cc.l1 K k ts (rowsOf (LL ts tr n) 4 ts.length) o A (c:Int)) (A++Ws)) ∧
   (∀ B:List (List Int),B.length≤c→Aa (fun K k=>Eh.l1 K k ts (n:Int) [(Ce vs (4*ts.length):Int),(Ce ys (6*ts.length):Int),(Ce fs (4*ts.length):Int),(ts.length:Int)] E B (c:Int)) ((n:Int),B++rs)) ∧
   (∀ X B:List (List Int),X.length≤c→B.length≤X.length→Aa (fun K k=>Cm.l1 K k (n:Int) (X++Ws) B (X.length:Int)) ((n:Int),B++rs)):=by
  intro d
  induction d with
  |zero =>
   intro c hd hc
   obtain rfl:c=Ce ys (6*ts.length):=by omega
   refine ⟨[],[],Nat.le_refl _,Nat.le_refl _,fun r h=>by simp at h,fun A hA=>Aa.of fun K k=>?_,fun B hB=>Aa.of fun K k=>?_,fun X B hX hB=>Aa.of fun K k=>?_⟩
   ·rw [Cc.l1,if_neg (by omega),List.append_nil]
   ·rw [Eh.l1,if_pos ⟨by decide,by simp⟩]
    show (if ((Ce ys (6*ts.length):Nat):Int)<(Ce ys (6*ts.length):Int) then _ else _)=_
    rw [if_neg (by omega),List.append_nil]
   ·rw [Cm.l1,List.append_nil,if_neg (by omega),List.append_nil]
  |succ d ih =>
   intro c hd hc
   obtain ⟨Ws,rs,k1,k2,k3,k4,k5,k6⟩:=ih (c+1) (by omega) (by omega)
   obtain ⟨o1,o2⟩:=one c (by omega)
   have hs2:=xL (l:=E) (v:=(c:Int)) (by omega)
   have hpre:∀ (B:List (List Int)) (r:Int × List (List Int)),Aa (fun K k=>(Gx.f K E (c:Int)).bind fun t128=>(if t128=true then (Eh.l1 K k ts (n:Int) [(Ce vs (4*ts.length):Int),(Ce ys (6*ts.length):Int),(Ce fs (4*ts.length):Int),(ts.length:Int)] E B ((c+1:Nat):Int)) else ((Fv.f K ts (c:Int)).bind fun t133=>((De.f K t133).bind fun t139=>(if 0<(t139.length:Int) then (if (([]:List (List Int)).length+B.length)*24≤140737488355328 then (if (B.length+1)*24≤140737488355328 then (Eh.l1 K k ts (n:Int) [(Ce vs (4*ts.length):Int),(Ce ys (6*ts.length):Int),(Ce fs (4*ts.length):Int),(ts.length:Int)] E (B++[t139]) ((c+1:Nat):Int)) else none) else none) else (Eh.l1 K k ts (n:Int) [(Ce vs (4*ts.length):Int),(Ce ys (6*ts.length):Int),(Ce fs (4*ts.length):Int),(ts.length:Int)] E B ((c+1:Nat):Int))))))) r→Aa (fun K k=>Eh.l1 K k ts (n:Int) [(Ce vs (4*ts.length):Int),(Ce ys (6*ts.length):Int),(Ce fs (4*ts.length):Int),(ts.length:Int)] E B (c:Int)) r:=fun B r h=>Aa.step (fun K k=>by
     rw [Eh.l1,if_pos ⟨by decide,by simp⟩]
     show (if (c:Int)<(Ce ys (6*ts.length):Int) then _ else _)=_
     rw [if_pos (by omega),Aj (by omega)]) h
   by_cases hb:o.getD c false=true
   ·have hE:(c:Int)∈E:=of_decide_eq_true (o1.symm.trans hb)
    rw [decide_eq_true hE] at hs2
    refine ⟨Ws,rs,by omega,by omega,k3,fun A hA=>Aa.step (fun K k=>?_) (k4 A (by omega)),fun B hB=>hpre B _ (Aa.bind hs2.two (Aa.pos rfl (k5 B (by omega)))),fun X B hX hB=>k6 X B (by omega) hB⟩
    rw [Cc.l1,if_pos (by omega),if_pos (by omega),Int.toNat_natCast,if_pos hb,Aj (by omega)]
   ·have hbf:o.getD c false=false:=by rw [← Bool.not_eq_true]; exact hb
    have hE:¬ (c:Int)∈E:=of_decide_eq_false (o1.symm.trans hbf)
    rw [decide_eq_false hE] at hs2
    obtain ⟨Rg,r1,r2,r3,r4⟩:=o2 hbf
    obtain ⟨w,w1,w2,w3,w4⟩:=gI hv (tr:=tr) hn r1 r2
    obtain ⟨r,e1,e2,e3,e4⟩:=Xv (w:=w) (by omega) w2
    have iw:Ab (fun K=>Cg.f K ts (c:Int) (rowsOf (LL ts tr n) 4 ts.length)) w:=r3.bind w3
    have sw:Ab (fun K=>Fv.f K ts (c:Int)) w:=Ab.Dw hls (r4.bind w4)
    have inner:∀ (A:List (List Int)),A.length≤c→Aa (fun K k=>Cc.l1 K k ts (rowsOf (LL ts tr n) 4 ts.length) o A (c:Int)) (A++w::Ws):=fun A hA=>by
     have:=k4 (A++[w]) (by rw [List.length_append]; simp only [List.length_cons,List.length_nil]; omega)
     rw [List.append_assoc] at this
     refine Aa.succ ?_
     simp only [Cc.l1,Int.toNat_natCast]
     refine Aa.pos (by omega) (Aa.pos (by omega) (Aa.neg hb (Aa.bind iw.two (Aa.pos (by omega) ?_))))
     rw [Aj (by omega)]
     exact this
    have grp:∀ (X B:List (List Int)),X.length≤c→B.length≤X.length→∀ R,(∀ B',B'.length≤X.length+1→B'=(if 0<r.length then B++[r] else B)→Aa (fun K k=>Cm.l1 K k (n:Int) ((X++[w])++Ws) B' ((X.length+1:Nat):Int)) R)→Aa (fun K k=>Cm.l1 K k (n:Int) (X++w::Ws) B (X.length:Int)) R:=fun X B hX hB R h=>by
     rw [List.append_assoc] at h
     refine Aa.succ ?_
     simp only [Cm.l1,Int.toNat_natCast,mQ]
     refine Aa.pos (by rw [List.length_append,List.length_cons]; omega) (Aa.pos (by rw [List.length_append,List.length_cons]; omega) (Aa.bind e3.two ?_))
     rw [Aj (by omega)]
     by_cases hr:0<r.length
     ·exact Aa.pos (by omega) (Aa.pos (by omega) (h _ (by rw [List.length_append]; simp only [List.length_cons,List.length_nil]; omega) (by rw [if_pos hr])))
     ·exact Aa.neg (by omega) (h _ (by omega) (by rw [if_neg hr]))
    have eX:∀ X:List (List Int),(X++[w]).length=X.length+1:=fun X=>by rw [List.length_append]; rfl
    by_cases hr:0<r.length
    ·refine ⟨w::Ws,r::rs,by rw [List.length_cons]; omega,by rw [List.length_cons]; omega,fun x hx=>?_,inner,fun B hB=>hpre B _ (Aa.bind hs2.two (Aa.neg (by decide) (Aa.bind sw.two (Aa.bind e4.two (Aa.pos (by omega) (Aa.pos (by simp only [List.length_nil]; omega) (Aa.pos (by omega) ?_))))))),fun X B hX hB=>grp X B hX hB _ fun B' h1 h2=>?_⟩
     ·rcases List.mem_cons.1 hx with h | h
      ·rw [h]; exact ⟨by omega,e2⟩
      ·exact k3 x h
     ·have:=k5 (B++[r]) (by rw [List.length_append]; simp only [List.length_cons,List.length_nil]; omega)
      rw [List.append_assoc] at this
      exact this
     ·rw [if_pos hr] at h2
      subst h2
      have:=k6 (X++[w]) (B++[r]) (by rw [eX]; omega) (by rw [eX]; exact h1)
      rw [eX,List.append_assoc (as:=B)] at this
      exact this
    ·refine ⟨w::Ws,rs,by rw [List.length_cons]; omega,by omega,k3,inner,fun B hB=>hpre B _ (Aa.bind hs2.two (Aa.neg (by decide) (Aa.bind sw.two (Aa.bind e4.two (Aa.neg (by omega) (k5 B (by omega))))))),fun X B hX hB=>grp X B hX hB _ fun B' h1 h2=>?_⟩
     rw [if_neg hr] at h2
     subst h2
     have:=k6 (X++[w]) B' (by rw [eX]; omega) (by rw [eX]; exact h1)
     rw [eX] at this
     exact this
 obtain ⟨Ws,rs,k1,k2,k3,k4,k5,k6⟩:=main _ 0 rfl (Nat.zero_le _)
 refine ⟨n,rs,by omega,by omega,k3,?_,?_⟩
 ·have e:(((gl ts tr (4*ts.length)).map Qd).length:Int)=(n:Int):=by rw [List.length_map,hn]; rfl
  unfold Cm.f
  refine hgi.bind (Ab.Kl (x:=(n:Int)) (by unfold I1.f; rw [e]) (Ab.bind (a:=Ws) ?_ ?_))
  ·have:=(k4 [] (Nat.le_refl _)).Gz
   exact hli.bind (b1.bind this)
  ·exact (k6 [] [] (Nat.le_refl _) (Nat.le_refl _)).Gz
 ·have:=(k5 [] (Nat.le_refl _)).Gz
  exact Ab.Dw hls (Ab.Hm tc (Ab.Gy g1 this))
end
theorem fD (ts:List (List Am)) (hn:ts.length≤2000000):∃ (g:Int) (t:List Int) (c:Int),t.length≤1000∧Ab (fun K=>Bu.f K ts) (g,t,c)∧Ab (fun K=>Bz.f K ts) (g,t,c):=by
 obtain ⟨b,hb,s1,i1⟩:=mH ts hn
 unfold Bu.f Bz.f Hu.f
 cases b with
 |false =>
  have ic:Ab (fun K=>I8.f K ts) 1:=i1.bind (Ab.neg (by decide) (Ab.const _))
  have sc:Ab (fun K=>Jt.f K ts) 1:=s1.bind (Ab.neg (by decide) (Ab.const _))
  exact ⟨0,[],1,by simp,ic.bind (Ab.neg (by decide) (Ab.const _)),Ab.Gy (sc.bind (Ab.neg (by decide) (Ab.const _))) (Ab.neg (by decide) (Ab.const _))⟩
 |true =>
  have hv:=hb rfl
  obtain ⟨c,hc,ic,sc⟩:=bD hv s1 i1
  by_cases h:c=0
  ·obtain ⟨n,rs,r1,r2,r3,r4,r5⟩:=dB hv (hc h) s1
   have hmem:∀ k,k<rs.length→rs.getD k []∈rs:=fun k hk=>by rw [List.getD_eq_getElem?_getD,List.getElem?_eq_getElem hk]; exact List.getElem_mem hk
   obtain ⟨g,t,c',ht,u1,u2⟩:=Vo (n:=n) (rs:=rs) (by omega) (by omega) (fun k hk=>by have:=(r3 _ (hmem k hk)).1; omega) (fun k i hk hi=>(r3 _ (hmem k hk)).2 i hi)
   exact ⟨g,t,c',ht,ic.bind (Ab.pos h (Ab.Dw r4 (Ab.bind (a:=(rs.length:Int)) (Ab.const _) (Ab.Gy (Ab.congr (fun K=>bH (m:=n) (n:=rs.length) (by omega) (by omega)) (Ab.const _)) u1)))),Ab.Gy (sc.bind (Ab.pos h (Ab.Dw r5 (Ab.const _)))) (Ab.pos rfl (Ab.Gy (Ab.congr (fun K=>kD (m:=n) (n:=rs.length) (by omega) (by omega)) (Ab.const _)) u2))⟩
  ·exact ⟨0,[],c,by simp,ic.bind (Ab.neg h (Ab.const _)),Ab.Gy (sc.bind (Ab.neg h (Ab.const _))) (Ab.neg h (Ab.const _))⟩
end Go.Proofs.YtgkgmhkgahalgaaGreat
