/-
  ApplyChange: the law.
-/
import Derived.Test.YtjopfecenllmgaaGreatDoorPlCG
import Derived.Test.YtjopfecenllmgaaGreatDoorAl3R
set_option linter.unusedSimpArgs false
set_option linter.unusedVariables false
namespace Go.Proofs.YtjopfecenllmgaaGreatDoor
open Go.RowKit
theorem Ab.Qe {α0 α1 α2 α3 α4 α5 α6 α7 α8 α9 α10 α11 α12 α13 ε:Type} {a0:α0} {a1:α1} {a2:α2} {a3:α3} {a4:α4} {a5:α5} {a6:α6} {a7:α7} {a8:α8} {a9:α9} {a10:α10} {a11:α11} {a12:α12} {a13:α13} {r:ε} {F:Nat→Option (α0 × α1 × α2 × α3 × α4 × α5 × α6 × α7 × α8 × α9 × α10 × α11 × α12 × α13)} {G:Nat→α0→α1→α2→α3→α4→α5→α6→α7→α8→α9→α10→α11→α12→α13→Option ε}
    (h:Ab F (a0,a1,a2,a3,a4,a5,a6,a7,a8,a9,a10,a11,a12,a13)) (g:Ab (fun K=>G K a0 a1 a2 a3 a4 a5 a6 a7 a8 a9 a10 a11 a12 a13) r):Ab (fun K=>Go.Proofs.YtjopfecenllmgaaGreatDoor.Qe (F K) (G K)) r:=by
  obtain ⟨n,hn⟩:=h
  obtain ⟨m,hm⟩:=g
  exact ⟨n+m,fun K hK=>by show Go.Proofs.YtjopfecenllmgaaGreatDoor.Qe (F K) (G K)=some r; rw [hn K (by omega)]; exact hm K (by omega)⟩
theorem Rf:Rows.FnExactApplyChangeSaid:=Sa fun x y h hy=>by
  obtain ⟨⟨i1,i2⟩,⟨u1,u2⟩,r1,r2⟩:=h
  obtain ⟨_,hnm,hyi⟩:=hy
  obtain ⟨s,t,c⟩:=mM (I:=x.Items) (U:=x.Sj) (R:=x.S9) i1 (fun i hi=>fits (i2 _ (Pj Bj hi)))
    u1 (fun i hi=>⟨(u2 _ (Pj [] hi)).1,fun j hj=>fits ((u2 _ (Pj [] hi)).2 _ (Pj Bj hj))⟩)
    r1 (fun i hi=>⟨(r2 _ (Pj [] hi)).1,fun j hj=>fits ((r2 _ (Pj [] hi)).2 _ (Pj Bj hj))⟩)
  unfold Hf.f
  refine Ab.get (Ab.bind t ?_)
  by_cases hs:s<0
  · exact Ab.pos hs (Ab.const _)
  obtain ⟨l0,l1,hc,⟨m1,m2⟩,mU,mR⟩:=c.resolve_left hs
  let z:Af:=⟨y.Mi,y.Mj,y.Dc,y.Dj,y.Fb,y.F9,y.Gs,y.El,y.D8,y.Dl,y.Dv,y.Dh⟩
  have hw:w64 (s - (y.Name.size:Int))=s - (y.Name.size:Int):=Ip (by omega) (by omega)
  refine Ab.neg hs ?_
  by_cases hb:s - (y.Name.size:Int)<0
  · refine Ab.bind (a:=-1) (Ab.congr (fun K=>?_) (Ab.const _)) (Ab.pos (by decide) (Ab.const _))
    rw [Kn.f,hw,if_pos hb]
  obtain ⟨s',t',c'⟩:=gN (x:=z) (fits hyi) (left:=s - (y.Name.size:Int)) (by omega) (by omega)
  have tc:Ab (fun K=>Kn.f K y.Kind y.Name y.Mi y.Mj y.Dc y.Dj y.Fb y.F9 y.Gs y.El y.D8 y.Dl y.Dv y.Dh s) (if s'<0 then -1 else s'):=by
    unfold Kn.f
    rw [hw]
    refine Ab.neg hb (Ab.bind t' ?_)
    by_cases hs':s'<0
    · simp only [if_pos hs']; exact Ab.const _
    · simp only [if_neg hs']; exact Ab.const _
  refine Ab.bind tc ?_
  by_cases hs':s'<0
  · rw [if_pos hs']; exact Ab.pos (by decide) (Ab.const _)
  rw [if_neg hs']
  refine Ab.neg hs' ?_
  obtain ⟨l0',l1',sy⟩:=c'.resolve_left hs'
  have hn2:y.Name.size≤2000000:=by omega
  have hT:=rR m1 m2 mU mR
  have hE:=iT m1 m2 mU mR
  have sy':=sy
  obtain ⟨s1,⟨s2,s2r⟩,s3,s4,s5,s6,s7⟩:=sy'
  have hTi:=oH z.Name z.Kind z.Ad z.Ae z.Al z.Ao z.Ay z.Am z.Aj z.Ag z.Ak z.Ai s2 s2r s3 s4 s5 s6 s7
  have hEi:=oQ z.Name z.Kind z.Ad z.Ae z.Al z.Ao z.Ay z.Am z.Aj z.Ag z.Ak z.Ai s2 s2r s3 s4 s5 s6 s7
  have hTc:Ab (fun K=>H7.f K y.Kind y.Name y.Mi y.Mj y.Dc y.Dj y.Fb y.F9 y.Gs y.El y.D8 y.Dl y.Dv y.Dh) (y.Kind,y.Name,y.Mi,y.Mj,y.Dc,y.Dj,y.Fb,y.F9,y.Gs,y.El,y.D8,y.Dl,y.Dv,y.Dh):=by
    unfold H7.f
    exact Ab.Jm hTi (Ab.const _)
  have hEc:Ab (fun K=>K9.f K y.Kind y.Name y.Mi y.Mj y.Dc y.Dj y.Fb y.F9 y.Gs y.El y.D8 y.Dl y.Dv y.Dh y.Kind y.Name y.Mi y.Mj y.Dc y.Dj y.Fb y.F9 y.Gs y.El y.D8 y.Dl y.Dv y.Dh) true:=by
    unfold K9.f
    exact Ab.pos rfl (Ab.pos (Wv _) (Ab.bind hEi (Ab.pos rfl (Ab.const _))))
  obtain ⟨A,B,C,cd,t1,t2,a1,a2,sB,sC,hl⟩:=Ve (by have:=eQ x.Items; omega) m2 mU mR y.Kind hn2 sy
  have hG:=iT a1 a2 sB sC
  obtain ⟨I',U',R',e1,e2,e3,k1,_⟩:=Ya m1 m2 mU mR (by omega)
  obtain ⟨q,ts,cr,wd,mv,tt,pp,q0,g1,g2,g3,g4,g5,g6,k4⟩:=jU sy (k:=1+(Gy x.Items:Int)+(Dm x.Sj:Int)+(Dm x.S9:Int)) (by omega) (by omega)
  have k5:Ab (fun K=>J8.f K y.Kind y.Name y.Mi y.Mj y.Dc y.Dj y.Fb y.F9 y.Gs y.El y.D8 y.Dl y.Dv y.Dh (1+(Gy x.Items:Int)+(Dm x.Sj:Int)+(Dm x.S9:Int))) (q,ts,cr,wd,mv,tt,pp):=by
    unfold J8.f
    exact Ab.V9 k4 (Ab.pos g1 (Ab.pos g2 (Ab.pos g3 (Ab.pos g4 (Ab.pos g5 (Ab.pos g6 (Ab.const _)))))))
  obtain ⟨A',B',C',f1,f2,f3,k2,k3⟩:=Ya a1 a2 sB sC (by omega)
  refine Ab.M8 hT (Ab.Qe hTc (Ab.Jv t1 (Ab.M8 hT (Ab.Qe hTc (Ab.Jv t2 (Ab.bind hG (Ab.pos rfl (Ab.pos rfl (Ab.M8 hT (Ab.bind hE (Ab.pos rfl (Ab.Qe hTc (Ab.bind hEc (Ab.pos rfl (Ab.Jv k1 (Ab.pos e1 (Ab.pos e2 (Ab.pos e3 (Ab.V9 k5 (Ab.pos g1 (Ab.pos g2 (Ab.pos g3 (Ab.pos g4 (Ab.pos g5 (Ab.pos g6 (Ab.neg (by omega) (Ab.bind hG (Ab.pos rfl (Ab.Jv k2 (Ab.pos f1 (Ab.pos f2 (Ab.pos f3 (Ab.bind k3 (Ab.neg (by omega) (Ab.pos rfl ?_)))))))))))))))))))))))))))))))))))
  exact Ab.M8 hT (Ab.Qe hTc (Ab.Jv t2 (Ab.bind hG (Ab.pos rfl (Ab.pos rfl (Ab.bind k3 (Ab.neg (by omega) (Ab.pos rfl (Ab.const _)))))))))
end Go.Proofs.YtjopfecenllmgaaGreatDoor
