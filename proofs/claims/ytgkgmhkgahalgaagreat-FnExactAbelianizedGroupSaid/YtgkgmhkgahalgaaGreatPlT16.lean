import Derived.Test.YtgkgmhkgahalgaaGreatPlHF
import Derived.Test.YtgkgmhkgahalgaaGreatPlHA
set_option linter.unusedVariables false
set_option linter.unusedSimpArgs false
set_option linter.unusedSectionVars false
namespace Go.Proofs.YtgkgmhkgahalgaaGreat
open Go.RowKit
theorem Aa.M5 {α β γ δ ε ζ η:Type} {F:Nat→Nat→Option (α × β × γ × δ × ε × ζ)} {G:Nat→Nat→α→β→γ→δ→ε→ζ→Option η} {a:α} {b:β} {c:γ} {d:δ} {e:ε} {f:ζ} {r:η} (h:Aa F (a,b,c,d,e,f)) (g:Aa (fun K k=>G K k a b c d e f) r):Aa (fun K k=>Go.Proofs.YtgkgmhkgahalgaaGreat.M5 (F K k) (G K k)) r:=by
 obtain ⟨n,hn⟩:=h
 obtain ⟨m,hm⟩:=g
 exact ⟨n+m,fun K k hK hk=>by show Go.Proofs.YtgkgmhkgahalgaaGreat.M5 (F K k) (G K k)=some r; rw [hn K k (by omega) (by omega)]; exact hm K k (by omega) (by omega)⟩
theorem Ab.M5 {α β γ δ ε ζ η:Type} {F:Nat→Option (α × β × γ × δ × ε × ζ)} {G:Nat→α→β→γ→δ→ε→ζ→Option η} {a:α} {b:β} {c:γ} {d:δ} {e:ε} {f:ζ} {r:η} (h:Ab F (a,b,c,d,e,f)) (g:Ab (fun K=>G K a b c d e f) r):Ab (fun K=>Go.Proofs.YtgkgmhkgahalgaaGreat.M5 (F K) (G K)) r:=by
 obtain ⟨n,hn⟩:=h
 obtain ⟨m,hm⟩:=g
 exact ⟨n+m,fun K hK=>by show Go.Proofs.YtgkgmhkgahalgaaGreat.M5 (F K) (G K)=some r; rw [hn K (by omega)]; exact hm K (by omega)⟩
theorem Aa.Wi {α β γ δ ε ζ η θ ι:Type} {F:Nat→Nat→Option (α × β × γ × δ × ε × ζ × η × θ)} {G:Nat→Nat→α→β→γ→δ→ε→ζ→η→θ→Option ι} {a:α} {b:β} {c:γ} {d:δ} {e:ε} {f:ζ} {x:η} {y:θ} {r:ι} (h:Aa F (a,b,c,d,e,f,x,y)) (g:Aa (fun K k=>G K k a b c d e f x y) r):Aa (fun K k=>Go.Proofs.YtgkgmhkgahalgaaGreat.Wi (F K k) (G K k)) r:=by
 obtain ⟨n,hn⟩:=h
 obtain ⟨m,hm⟩:=g
 exact ⟨n+m,fun K k hK hk=>by show Go.Proofs.YtgkgmhkgahalgaaGreat.Wi (F K k) (G K k)=some r; rw [hn K k (by omega) (by omega)]; exact hm K k (by omega) (by omega)⟩
inductive Nx
 |stop
 |bad
 |go (next:Bool) (s:Sm)
def sx (m n k:Nat) (s:Sm):Nx:=match pvt m n k s with
 |none=>.stop
 |some s1=>match clr m n k s1 with
  |none=>.bad
  |some s2=>if Re m n k s2.d=true then (if Ro n k s2.d (m - (k+1)) (k+1)<0 then .go true s2 else match M6 m n k (Ro n k s2.d (m - (k+1)) (k+1)).toNat (-1) s2 with
    |none=>.bad
    |some s3=>.go false s3) else .go false s2
section
variable {m n k:Nat} {s:Sm}
theorem Oy {d:List Int}:∀ {c i:Nat},i+c=m→Ro n k d c i<0∨∃ j:Nat,Ro n k d c i=(j:Int)∧i≤j∧j<m∧Pw n k d j=false
 |0,_,_=>.inl (show (-1:Int)<0 by decide)
 |c+1,i,h=>by
  unfold Ro
  cases hd:Pw n k d i with
  |true =>
   rw [if_pos rfl]
   rcases Oy (c:=c) (i:=i+1) (by omega) with h1 | ⟨j,h1,h2,h3,h4⟩
   ·exact .inl h1
   ·exact .inr ⟨j,h1,by omega,h3,h4⟩
  |false=>rw [if_neg (by decide)]; exact .inr ⟨i,rfl,Nat.le_refl _,by omega,hd⟩
abbrev Ni (m n:Nat) (z:Bool) (s:Sm) (k:Int) (K x:Nat):=D6.l1 K x (m:Int) (m:Int) (m:Int) (m:Int) (m:Int) (n:Int) (n:Int) (n:Int) (n:Int) (n:Int) s.l s.li s.d s.r s.ri z k
theorem Z7 {k:Int}:Aa (fun K x=>Ni m n true s k K x) (Vg (true,s)):=Aa.of fun K x=>by
 simp only [Ni,D6.l1]
 rw [if_pos trivial]; rfl
theorem Aa2 (hm:m≤1000) (hn:n≤1000) (h:Ok m n s) (hk:k<m) (hkn:k<n) :
  (sx m n k s=.stop→Aa (fun K x=>Ni m n false s (k:Int) K x) (Vg (false,s)))∧(sx m n k s=.bad→∃ u,Ok m n u∧Aa (fun K x=>Ni m n false s (k:Int) K x) (Vg (true,u))) ∧
  ∀ b s',sx m n k s=.go b s'→∀ r,Aa (fun K x=>Ni m n false s' ((k+b.toNat:Nat):Int) K x) r→Aa (fun K x=>Ni m n false s (k:Int) K x) r:=by
 have hp:=pO (b:=false) hm hn h hk hkn
 have hmin:(k:Int)<(if (n:Int)<(m:Int) then (n:Int) else (m:Int)):=by split<;>omega
 -- behind the pivot
 have step1:∀ {r},Aa (fun K x=>if (pvt m n k s).isSome=true then Go.Proofs.YtgkgmhkgahalgaaGreat.M5 (Bf.f K (m:Int) (m:Int) ((pvt m n k s).getD s).l (m:Int) (m:Int) ((pvt m n k s).getD s).li (m:Int) (n:Int) ((pvt m n k s).getD s).d (n:Int) (n:Int) ((pvt m n k s).getD s).r (n:Int) (n:Int) ((pvt m n k s).getD s).ri false (k:Int)) (fun z l li d r ri=>if l.length=((pvt m n k s).getD s).l.length then (if li.length=((pvt m n k s).getD s).li.length then (if d.length=((pvt m n k s).getD s).d.length then (if r.length=((pvt m n k s).getD s).r.length then (if ri.length=((pvt m n k s).getD s).ri.length then (if z=true then Ni m n z ⟨d,l,li,r,ri⟩ (k:Int) K x else ((Db.f K (m:Int) (m:Int) l (m:Int) (m:Int) li (m:Int) (n:Int) d (n:Int) (n:Int) r (n:Int) (n:Int) ri z (k:Int)).bind fun c=>if c=true then ((Cr.f K (m:Int) (m:Int) l (m:Int) (m:Int) li (m:Int) (n:Int) d (n:Int) (n:Int) r (n:Int) (n:Int) ri z (k:Int)).bind fun o=>if 0≤o then Go.Proofs.YtgkgmhkgahalgaaGreat.Hm (En.f K (m:Int) (m:Int) l (m:Int) (m:Int) li (m:Int) (n:Int) d (n:Int) (n:Int) r (n:Int) (n:Int) ri z (k:Int) o 1) (fun z' l' li' d'=>if l'.length=l.length then (if li'.length=li.length then (if d'.length=d.length then Ni m n z' ⟨d',l',li',r,ri⟩ (k:Int) K x else none) else none) else none) else Ni m n z ⟨d,l,li,r,ri⟩ (w64 ((k:Int)+1)) K x) else Ni m n z ⟨d,l,li,r,ri⟩ (k:Int) K x)) else none) else none) else none) else none) else none) else some (false,((pvt m n k s).getD s).l,((pvt m n k s).getD s).li,((pvt m n k s).getD s).d,((pvt m n k s).getD s).r,((pvt m n k s).getD s).ri)) r→Aa (fun K x=>Ni m n false s (k:Int) K x) r:=fun {r} hr=>by
  have hok:Ok m n ((pvt m n k s).getD s):=by
   cases hv:pvt m n k s with
   |none=>exact h
   |some t=>exact Qn h hv
  refine Aa.succ ?_
  simp only [Ni,D6.l1]
  refine Aa.neg Bool.false_ne_true (Aa.pos hmin ?_)
  refine Aa.M5 hp.two ?_
  exact Aa.pos (hok.l.trans h.l.symm) (Aa.pos (hok.li.trans h.li.symm) (Aa.pos (hok.d.trans h.d.symm) (Aa.pos (hok.r.trans h.r.symm) (Aa.pos (hok.ri.trans h.ri.symm) hr))))
 unfold sx
 cases hv:pvt m n k s with
 |none =>
  rw [hv] at step1
  exact ⟨fun _=>step1 (Aa.neg (by decide) (Aa.const _)),fun e=>(by cases e),fun b s' e=>(by cases e)⟩
 |some s1 =>
  rw [hv] at step1
  have h1:=Qn h hv
  obtain ⟨p,q,_,_,_,_,hpos,_⟩:=U7 h hk hkn hv
  obtain ⟨⟨z,u⟩,f1,f2⟩:=oQ hm hn h1 hk hkn hpos
  have hu:Ok m n u:=f1.ok
  have step2:∀ {r},Aa (fun K x=>if z=true then Ni m n z u (k:Int) K x else ((Db.f K (m:Int) (m:Int) u.l (m:Int) (m:Int) u.li (m:Int) (n:Int) u.d (n:Int) (n:Int) u.r (n:Int) (n:Int) u.ri z (k:Int)).bind fun c=>if c=true then ((Cr.f K (m:Int) (m:Int) u.l (m:Int) (m:Int) u.li (m:Int) (n:Int) u.d (n:Int) (n:Int) u.r (n:Int) (n:Int) u.ri z (k:Int)).bind fun o=>if 0≤o then Go.Proofs.YtgkgmhkgahalgaaGreat.Hm (En.f K (m:Int) (m:Int) u.l (m:Int) (m:Int) u.li (m:Int) (n:Int) u.d (n:Int) (n:Int) u.r (n:Int) (n:Int) u.ri z (k:Int) o 1) (fun z' l' li' d'=>if l'.length=u.l.length then (if li'.length=u.li.length then (if d'.length=u.d.length then Ni m n z' ⟨d',l',li',u.r,u.ri⟩ (k:Int) K x else none) else none) else none) else Ni m n z u (w64 ((k:Int)+1)) K x) else Ni m n z u (k:Int) K x)) r→Aa (fun K x=>Ni m n false s (k:Int) K x) r:=fun {r} hr =>
   step1 (Aa.pos rfl (Aa.M5 f2.two (Aa.pos (hu.l.trans h1.l.symm) (Aa.pos (hu.li.trans h1.li.symm) (Aa.pos (hu.d.trans h1.d.symm) (Aa.pos (hu.r.trans h1.r.symm) (Aa.pos (hu.ri.trans h1.ri.symm) hr)))))))
  dsimp only
  cases hc:clr m n k s1 with
  |none =>
   have hz:z=true:=by have:=f1.b; rw [hc] at this; exact this
   subst hz
   exact ⟨fun e=>(by cases e),fun _=>⟨u,hu,step2 (Aa.pos rfl Z7)⟩,fun b s' e=>by cases e⟩
  |some s2 =>
   have e1:(z,u)=(false,s2):=by rw [hc] at f1; exact f1.isSome
   obtain ⟨rfl,rfl⟩:=Prod.mk.inj e1
   obtain ⟨_,ekk,_⟩:=Sb h1 hk hkn hpos hc
   have hkk:At n u.d k k≠0:=by rw [ekk]; omega
   have hcl:=fO (b:=false) hm hn hu hk hkn
   dsimp only
   cases hb:Re m n k u.d with
   |false =>
    rw [hb] at hcl
    rw [if_neg (by decide)]
    refine ⟨fun e=>(by cases e),fun e=>(by cases e),fun b s' e r hr=>?_⟩
    injection e with e2 e3
    subst e2; subst e3
    exact step2 (Aa.neg Bool.false_ne_true (Aa.bind hcl.two (Aa.neg Bool.false_ne_true hr)))
   |true =>
    rw [hb] at hcl
    rw [if_pos rfl]
    have hud:=Yy (b:=false) hm hn hu hk hkn hkk
    rcases Oy (n:=n) (k:=k) (d:=u.d) (show k+1+(m - (k+1))=m by omega) with h5 | ⟨j,h5,h6,h7,h8⟩
    ·rw [if_pos h5]
     refine ⟨fun e=>(by cases e),fun e=>(by cases e),fun b s' e r hr=>?_⟩
     injection e with e2 e3
     subst e2; subst e3
     refine step2 (Aa.neg Bool.false_ne_true (Aa.bind hcl.two (Aa.pos rfl (Aa.bind hud.two (Aa.neg (by omega) ?_)))))
     rw [Aj (by omega)]
     exact hr
    ·rw [h5] at hud
     rw [h5,if_neg (by omega),Int.toNat_natCast]
     obtain ⟨⟨z,w⟩,g1,g2,g3,g4⟩:=W9 (i:=k) (k:=j) (q:=-1) hm hn hu hk h7 (by decide)
     have hw:Ok m n w:=g1.ok
     dsimp only at g2 g3 g4
     have step3:∀ {r},Aa (fun K x=>Ni m n z w (k:Int) K x) r→Aa (fun K x=>Ni m n false s (k:Int) K x) r:=fun {r} hr=>by
      refine step2 (Aa.neg Bool.false_ne_true (Aa.bind hcl.two (Aa.pos rfl (Aa.bind hud.two (Aa.pos (by omega) (Aa.Hm g4.two (Aa.pos (hw.l.trans hu.l.symm) (Aa.pos (hw.li.trans hu.li.symm) (Aa.pos (hw.d.trans hu.d.symm) ?_)))))))))
      rw [← g2,← g3]
      exact hr
     cases ho:M6 m n k j (-1) u with
     |none =>
      have hz:z=true:=by have:=g1.b; rw [ho] at this; exact this
      subst hz
      exact ⟨fun e=>(by cases e),fun _=>⟨w,hw,step3 Z7⟩,fun b s' e=>by cases e⟩
     |some s3 =>
      have e2:(z,w)=(false,s3):=by rw [ho] at g1; exact g1.isSome
      obtain ⟨rfl,rfl⟩:=Prod.mk.inj e2
      refine ⟨fun e=>(by cases e),fun e=>(by cases e),fun b s' e r hr=>?_⟩
      injection e with e3 e4
      subst e3; subst e4
      exact step3 hr
def sxR:Nx→Bool × Bool × Bool
 |.stop=>(true,true,false)
 |.bad=>(false,false,true)
 |.go b _=>(b,false,false)
theorem Aaz (hm:m≤1000) (hn:n≤1000) (h:Ok m n s) (hk:k<m) (hkn:k<n) :
  ∃ u,Ok m n u∧(sx m n k s=.stop→u=s)∧(∀ b s',sx m n k s=.go b s'→u=s')∧Ab (fun K=>Ci.f K (m:Int) (n:Int) s.d (m:Int) (m:Int) s.l (m:Int) (m:Int) s.li (n:Int) (n:Int) s.r (n:Int) (n:Int) s.ri false (k:Int)) (Zu ((sxR (sx m n k s)).1,(sxR (sx m n k s)).2.1,(sxR (sx m n k s)).2.2,u)):=by
 have hp:=jW (b:=false) hm hn h hk hkn
 have hok:Ok m n ((pvt m n k s).getD s):=by
  cases hv:pvt m n k s with
  |none=>exact h
  |some t=>exact Qn h hv
 have step1:∀ {r},Aa (fun K x=>if (pvt m n k s).isSome=true then Qo m n k false ((pvt m n k s).getD s) ((k+1:Nat):Int) K x else some (true,true,false,((pvt m n k s).getD s).d,((pvt m n k s).getD s).l,((pvt m n k s).getD s).li,((pvt m n k s).getD s).r,((pvt m n k s).getD s).ri)) r→Ab (fun K=>Ci.f K (m:Int) (n:Int) s.d (m:Int) (m:Int) s.l (m:Int) (m:Int) s.li (n:Int) (n:Int) s.r (n:Int) (n:Int) s.ri false (k:Int)) r:=fun {r} hr=>by
  unfold Ci.f
  refine Ab.M5 hp ?_
  refine Ab.pos (hok.d.trans h.d.symm) (Ab.pos (hok.l.trans h.l.symm) (Ab.pos (hok.li.trans h.li.symm) (Ab.pos (hok.r.trans h.r.symm) (Ab.pos (hok.ri.trans h.ri.symm) ?_))))
  rw [Aj (by omega)]
  exact hr.Gz
 unfold sx
 cases hv:pvt m n k s with
 |none =>
  rw [hv] at step1
  exact ⟨s,h,fun _=>rfl,fun b s' e=>(by cases e),step1 (Aa.neg (by decide) (Aa.const _))⟩
 |some s1 =>
  rw [hv] at step1
  have h1:=Qn h hv
  obtain ⟨p,q,_,_,_,_,hpos,_⟩:=U7 h hk hkn hv
  obtain ⟨c1,c2⟩:=xQ hm hn h1 hk hkn (Nat.lt_succ_self k) (show k+1+(m - (k+1))=m by omega) hpos
  dsimp only
  cases hc:clr m n k s1 with
  |none =>
   obtain ⟨u,u1,u2⟩:=c1 hc
   exact ⟨u,u1,fun e=>(by cases e),fun b s' e=>(by cases e),step1 (Aa.pos rfl u2)⟩
  |some u =>
   obtain ⟨hu,ekk,_⟩:=Sb h1 hk hkn hpos hc
   have hkk:At n u.d k k≠0:=by rw [ekk]; omega
   have hcl:=oZ (b:=false) hm hn hu hk hkn
   have step2:∀ {r},Aa (fun K x=>(Dv.f K (m:Int) (n:Int) u.d (m:Int) (m:Int) u.l (m:Int) (m:Int) u.li (n:Int) (n:Int) u.r (n:Int) (n:Int) u.ri false (k:Int)).bind fun c=>if c=true then ((Dy.f K (m:Int) (n:Int) u.d (m:Int) (m:Int) u.l (m:Int) (m:Int) u.li (n:Int) (n:Int) u.r (n:Int) (n:Int) u.ri false (k:Int)).bind fun o=>if o<0 then some (true,false,false,u.d,u.l,u.li,u.r,u.ri) else Go.Proofs.YtgkgmhkgahalgaaGreat.Hm (I5.f K (m:Int) (n:Int) u.d (m:Int) (m:Int) u.l (m:Int) (m:Int) u.li (n:Int) (n:Int) u.r (n:Int) (n:Int) u.ri false (k:Int) o (-1)) (fun z d l li=>if d.length=u.d.length then (if l.length=u.l.length then (if li.length=u.li.length then some (false,false,z,d,l,li,u.r,u.ri) else none) else none) else none)) else some (false,false,false,u.d,u.l,u.li,u.r,u.ri)) r→Ab (fun K=>Ci.f K (m:Int) (n:Int) s.d (m:Int) (m:Int) s.l (m:Int) (m:Int) s.li (n:Int) (n:Int) s.r (n:Int) (n:Int) s.ri false (k:Int)) r:=fun {r} hr=>by
    refine step1 (Aa.pos rfl (c2 u r hc (Aa.step (fun K x=>?_) hr)))
    simp only [Qe,Ci.l7]
    rw [if_neg (by omega),if_neg Bool.false_ne_true]
   dsimp only
   cases hb:Re m n k u.d with
   |false =>
    rw [hb] at hcl
    rw [if_neg (by decide)]
    exact ⟨u,hu,fun e=>(by cases e),fun b s' e=>(by injection e),step2 (Aa.bind hcl.two (Aa.neg Bool.false_ne_true (Aa.const _)))⟩
   |true =>
    rw [hb] at hcl
    rw [if_pos rfl]
    have hud:=yF (b:=false) hm hn hu hk hkn hkk
    rcases Oy (n:=n) (k:=k) (d:=u.d) (show k+1+(m - (k+1))=m by omega) with h5 | ⟨j,h5,h6,h7,h8⟩
    ·rw [if_pos h5]
     exact ⟨u,hu,fun e=>(by cases e),fun b s' e=>(by injection e),step2 (Aa.bind hcl.two (Aa.pos rfl (Aa.bind hud.two (Aa.pos h5 (Aa.const _)))))⟩
    ·rw [h5] at hud
     rw [h5,if_neg (by omega),Int.toNat_natCast]
     obtain ⟨⟨z,w⟩,g1,g2,g3,g4⟩:=rA (i:=k) (k:=j) (q:=-1) hm hn hu hk h7 (by decide) (by decide)
     have hw:Ok m n w:=g1.ok
     dsimp only at g2 g3 g4
     have step3:Ab (fun K=>Ci.f K (m:Int) (n:Int) s.d (m:Int) (m:Int) s.l (m:Int) (m:Int) s.li (n:Int) (n:Int) s.r (n:Int) (n:Int) s.ri false (k:Int)) (Zu (false,false,z,w)):=by
      refine step2 (Aa.bind hcl.two (Aa.pos rfl (Aa.bind hud.two (Aa.neg (by omega) (Aa.Hm g4.two (Aa.pos (hw.d.trans hu.d.symm) (Aa.pos (hw.l.trans hu.l.symm) (Aa.pos (hw.li.trans hu.li.symm) ?_))))))))
      rw [← g2,← g3]
      exact Aa.const _
     cases ho:M6 m n k j (-1) u with
     |none =>
      have hz:z=true:=by have:=g1.b; rw [ho] at this; exact this
      subst hz
      exact ⟨w,hw,fun e=>(by cases e),fun b s' e=>(by cases e),step3⟩
     |some s3 =>
      have e2:(z,w)=(false,s3):=by rw [ho] at g1; exact g1.isSome
      obtain ⟨rfl,rfl⟩:=Prod.mk.inj e2
      exact ⟨w,hw,fun e=>(by cases e),fun b s' e=>(by injection e),step3⟩
end
theorem X0 {n:Nat} {P:Nat→Bool} (h:Mg n P=false):∃ j,j<n∧P j=false:=by
 unfold Mg at h
 rw [List.all_eq_false] at h
 obtain ⟨j,hj,hn⟩:=h
 exact ⟨j,List.mem_range.1 hj,Bool.eq_false_iff.2 hn⟩
section
variable {m n k:Nat} {s s':Sm}
def Rl (m n k:Nat) (s:Sm):Prop:=∀ t,t<k→t<m→t<n→0≤At n s.d t t
def InK (m n k i j:Nat):Prop:=k≤i∧i<m∧k≤j∧j<n
theorem V5 {d:List Int} (h:Re m n k d=true):(∀ i,k<i→i<m→At n d i k=0)∧∀ j,k<j→j<n→At n d k j=0:=by
 unfold Re at h
 rw [Bool.and_eq_true] at h
 refine ⟨fun i h1 h2=>?_,fun j h1 h2=>?_⟩
 ·have:=Ol h.1 (j:=i - (k+1)) (by omega)
  rw [show k+1+(i - (k+1))=i by omega] at this
  simpa using this
 ·have:=Ol h.2 (j:=j - (k+1)) (by omega)
  rw [show k+1+(j - (k+1))=j by omega] at this
  simpa using this
theorem aC {d:List Int} (h:Re m n k d=false):(∃ i,k<i∧i<m∧At n d i k≠0)∨∃ j,k<j∧j<n∧At n d k j≠0:=by
 unfold Re at h
 rw [Bool.and_eq_false_iff] at h
 rcases h with h | h
 ·obtain ⟨x,h1,h2⟩:=X0 h
  exact .inl ⟨k+1+x,by omega,by omega,by simpa using h2⟩
 ·obtain ⟨x,h1,h2⟩:=X0 h
  exact .inr ⟨k+1+x,by omega,by omega,by simpa using h2⟩
theorem Yq {s1:Sm} (h:Ok m n s) (hk:k<m) (hkn:k<n) (hd:Rl m n k s) (hv:pvt m n k s=some s1) (hc:clr m n k s1=some s'):Ok m n s'∧Rl m n k s':=by
 have h1:=Qn h hv
 obtain ⟨p,q,_,_,_,_,hpos,_,_,e1⟩:=U7 h hk hkn hv
 obtain ⟨h2,_,_,_,e2⟩:=Sb h1 hk hkn hpos hc
 exact ⟨h2,fun t a b c=>by rw [e2 t t a a,e1 t t a a]; exact hd t a b c⟩
theorem Ve (h:Ok m n s) (hk:k<m) (hkn:k<n) (hd:Rl m n k s) (e:sx m n k s=.go false s'):Ok m n s'∧Rl m n k s'∧∃ P:Nat,0<P∧(∀ i j,InK m n k i j→At n s.d i j≠0→P≤(At n s.d i j).natAbs) ∧
  ((∃ i j,InK m n k i j∧At n s'.d i j≠0∧(At n s'.d i j).natAbs<P)∨(At n s'.d k k=(P:Int)∧∃ j,k<j∧j<n∧At n s'.d k j%(P:Int)≠0)):=by
 unfold sx at e
 cases hv:pvt m n k s with
 |none=>rw [hv] at e; cases e
 |some s1 =>
  rw [hv] at e
  dsimp only at e
  have h1:=Qn h hv
  obtain ⟨p,q,a1,a2,a3,a4,hpos,hP,hmin,_⟩:=U7 h hk hkn hv
  cases hc:clr m n k s1 with
  |none=>rw [hc] at e; cases e
  |some s2 =>
   rw [hc] at e
   obtain ⟨h2,hd2⟩:=Yq h hk hkn hd hv hc
   obtain ⟨_,ekk,hcol,hrow,_⟩:=Sb h1 hk hkn hpos hc
   have hPP:At n s1.d k k=((At n s1.d k k).natAbs:Int):=by omega
   dsimp only at e
   cases hb:Re m n k s2.d with
   |false =>
    rw [hb,if_neg (by decide)] at e
    injection e with _ e
    subst e
    refine ⟨h2,hd2,(At n s1.d k k).natAbs,by omega,fun i j hij hn=>by rw [hP]; exact hmin i j hij.1 hij.2.1 hij.2.2.1 hij.2.2.2 hn,.inl ?_⟩
    rcases aC hb with ⟨i,b1,b2,b3⟩|⟨j,b1,b2,b3⟩
    ·have:=hcol i b1 b2
     exact ⟨i,k,⟨by omega,b2,Nat.le_refl _,hkn⟩,b3,by omega⟩
    ·have h5:=hrow j b1 b2
     have h6:=Int.emod_nonneg (At n s1.d k j) (b:=At n s1.d k k) (by omega)
     have h7:=Int.emod_lt_of_pos (At n s1.d k j) hpos
     exact ⟨k,j,⟨Nat.le_refl _,hk,by omega,b2⟩,b3,by omega⟩
   |true =>
    rw [hb,if_pos rfl] at e
    obtain ⟨z1,z2⟩:=V5 hb
    rcases Oy (n:=n) (k:=k) (d:=s2.d) (show k+1+(m - (k+1))=m by omega) with h5 | ⟨j,h5,h6,h7,h8⟩
    ·rw [if_pos h5] at e; cases e
    ·rw [h5,if_neg (by omega),Int.toNat_natCast] at e
     cases ho:M6 m n k j (-1) s2 with
     |none=>rw [ho] at e; dsimp only at e; cases e
     |some s3 =>
      rw [ho] at e
      dsimp only at e
      injection e with _ e
      subst e
      have hat:∀ i' j',j'<n→At n s3.d i' j'=if i'=k then At n s2.d k j' - (-1)*At n s2.d j j' else At n s2.d i' j':=fun i' j' hj'=>Q8 h2 hk h7 (by omega) ho hj'
      refine ⟨(Vl h2 ho).1,fun t b1 b2 b3=>by rw [hat t t b3,if_neg (by omega)]; exact hd2 t b1 b2 b3,(At n s1.d k k).natAbs,by omega,fun i j hij hn=>by rw [hP]; exact hmin i j hij.1 hij.2.1 hij.2.2.1 hij.2.2.2 hn,.inr ⟨?_,?_⟩⟩
      ·rw [hat k k hkn,if_pos rfl,ekk,z1 j (by omega) h7]; omega
      ·unfold Pw at h8
       obtain ⟨x,b1,b2⟩:=X0 h8
       refine ⟨k+1+x,by omega,by omega,?_⟩
       rw [hat k (k+1+x) (by omega),if_pos rfl,z2 (k+1+x) (by omega) (by omega),← hPP,← ekk]
       have b3:(At n s2.d j (k+1+x)).tmod (At n s2.d k k)≠0:=by simpa using b2
       intro b4
       apply b3
       rw [show (0:Int) - -1*At n s2.d j (k+1+x)=At n s2.d j (k+1+x) by omega] at b4
       exact Int.tmod_eq_zero_of_dvd (Int.dvd_of_emod_eq_zero b4)
theorem Xw (h:Ok m n s) (hk:k<m) (hkn:k<n) (hd:Rl m n k s) (e:sx m n k s=.go true s'):Ok m n s'∧Rl m n (k+1) s':=by
 unfold sx at e
 cases hv:pvt m n k s with
 |none=>rw [hv] at e; cases e
 |some s1 =>
  rw [hv] at e
  dsimp only at e
  have h1:=Qn h hv
  obtain ⟨p,q,a1,a2,a3,a4,hpos,hP,hmin,_⟩:=U7 h hk hkn hv
  cases hc:clr m n k s1 with
  |none=>rw [hc] at e; cases e
  |some s2 =>
   rw [hc] at e
   obtain ⟨h2,hd2⟩:=Yq h hk hkn hd hv hc
   obtain ⟨_,ekk,_⟩:=Sb h1 hk hkn hpos hc
   dsimp only at e
   have hs:s2=s':=by
    split at e
    ·split at e
     ·injection e
     ·split at e
      ·cases e
      ·cases e
    ·cases e
   subst hs
   refine ⟨h2,fun t b1 b2 b3=>?_⟩
   by_cases e:t=k
   ·subst e; rw [ekk]; omega
   ·exact hd2 t (by omega) b2 b3
theorem gV {P:Nat} (h:Ok m n s) (hk:k<m) (hkn:k<n) (hP:0<P) (hkk:At n s.d k k=(P:Int)) (hmin:∀ i j,InK m n k i j→At n s.d i j=0∨P≤(At n s.d i j).natAbs) {j:Nat} (hj:k<j) (hjn:j<n) (hr:At n s.d k j%(P:Int)≠0) :
  sx m n k s=.bad∨∃ t,sx m n k s=.go false t∧∃ i j,InK m n k i j∧At n t.d i j≠0∧(At n t.d i j).natAbs<P:=by
 have hv:=wL hk hkn (s:=s) (by omega) (fun i j b1 b2 b3 b4=>by
  rcases hmin i j ⟨b1,b2,b3,b4⟩ with h5 | h5
  ·exact .inl h5
  ·exact .inr (by omega))
 unfold sx
 rw [hv]
 dsimp only
 cases hc:clr m n k s with
 |none=>exact .inl rfl
 |some t =>
  obtain ⟨h2,ekk,hcol,hrow,_⟩:=Sb h hk hkn (by omega) hc
  have e1:At n t.d k j=At n s.d k j%(P:Int):=by rw [hrow j hj hjn,hkk]
  have hb:Re m n k t.d=false:=by
   cases hb:Re m n k t.d with
   |false=>rfl
   |true=>exact absurd ((V5 hb).2 j hj hjn) (by rw [e1]; exact hr)
  dsimp only
  rw [hb,if_neg (by decide)]
  have h6:=Int.emod_nonneg (At n s.d k j) (b:=(P:Int)) (by omega)
  have h7:=Int.emod_lt_of_pos (At n s.d k j) (b:=(P:Int)) (by omega)
  exact .inr ⟨t,rfl,k,j,⟨Nat.le_refl _,hk,by omega,hjn⟩,by rw [e1]; exact hr,by omega⟩
abbrev Sy (m n k:Nat) (s:Sm) (z d a:Bool) (K x:Nat):=Dj.l4 K x (m:Int) (n:Int) (m:Int) (m:Int) (m:Int) (m:Int) (n:Int) (n:Int) (n:Int) (n:Int) (k:Int) s.d s.l s.li s.r s.ri z d a
abbrev Zt (m n k:Nat) (s:Sm) (K x:Nat):=Dj.l1 K x (m:Int) (n:Int) (m:Int) (m:Int) (m:Int) (m:Int) (n:Int) (n:Int) (n:Int) (n:Int) s.d s.l s.li s.r s.ri false (k:Int)
def outT (m n:Nat) (v:Bool × Sm):Int × Int × List Int × Int × Int × List Int × Int × Int × List Int × Int × Int × List Int × Int × Int × List Int × Bool:=((m:Int),(n:Int),v.2.d,(m:Int),(m:Int),v.2.l,(m:Int),(m:Int),v.2.li,(n:Int),(n:Int),v.2.r,(n:Int),(n:Int),v.2.ri,v.1)
structure Res (m n:Nat) (F:Nat→Nat→Option (Bool × List Int × List Int × List Int × List Int × List Int)) (H:Nat→Nat→Option (Int × Int × List Int × Int × Int × List Int × Int × Int × List Int × Int × Int × List Int × Int × Int × List Int × Bool)) (b:Bool) (u v:Sm):Prop where
 ou:Ok m n u
 ov:Ok m n v
 eq:b=false→u=v∧Rl m n m u
 i:Aa F (Vg (b,u))
 s:Aa H (outT m n (b,v))
def R4 (m n k:Nat) (s:Sm):Prop:=∃ b u v,Res m n (fun K x=>Ni m n false s (k:Int) K x) (fun K x=>Sy m n k s false false false K x) b u v
def R1 (m n k:Nat) (s:Sm):Prop:=∃ b u v,Res m n (fun K x=>Ni m n false s (k:Int) K x) (fun K x=>Zt m n k s K x) b u v
theorem Qa {r:Int × Int × List Int × Int × Int × List Int × Int × Int × List Int × Int × Int × List Int × Int × Int × List Int × Bool} {u:Sm} {d a z:Bool} (h:Ok m n s) (hu:Ok m n u) (ht:Ab (fun K=>Ci.f K (m:Int) (n:Int) s.d (m:Int) (m:Int) s.l (m:Int) (m:Int) s.li (n:Int) (n:Int) s.r (n:Int) (n:Int) s.ri false (k:Int)) (Zu (d,a,z,u))) (hr:Aa (fun K x=>Sy m n k u z d a K x) r):Aa (fun K x=>Sy m n k s false false false K x) r:=by
 refine Aa.succ ?_
 simp only [Sy,Dj.l4]
 refine Aa.neg Bool.false_ne_true (Aa.neg Bool.false_ne_true ?_)
 exact Aa.Wi ht.two (Aa.pos (hu.d.trans h.d.symm) (Aa.pos (hu.l.trans h.l.symm) (Aa.pos (hu.li.trans h.li.symm) (Aa.pos (hu.r.trans h.r.symm) (Aa.pos (hu.ri.trans h.ri.symm) hr)))))
theorem jC (hm:m≤1000) (hn:n≤1000) (h:Ok m n s) (hk:k<m) (hkn:k<n) (hd:Rl m n k s) (hb:∀ s',sx m n k s=.go false s'→R4 m n k s') (ht:∀ s',sx m n k s=.go true s'→R1 m n (k+1) s'):R4 m n k s:=by
 obtain ⟨i1,i2,i3⟩:=Aa2 hm hn h hk hkn
 obtain ⟨u,hu,s1,s2,s3⟩:=Aaz hm hn h hk hkn
 cases hx:sx m n k s with
 |stop =>
  obtain rfl:=s1 hx
  rw [hx] at s3
  refine ⟨false,u,u,h,h,fun _=>⟨rfl,fun t a b c=>?_⟩,i1 hx,Qa h h s3 (Aa.of fun K x=>?_)⟩
  ·by_cases e:t<k
   ·exact hd t e b c
   ·have hv:pvt m n k u=none:=by
     unfold sx at hx
     cases hv:pvt m n k u with
     |none=>rfl
     |some s1 =>
      rw [hv] at hx
      dsimp only at hx
      split at hx
      ·cases hx
      ·split at hx
       ·split at hx
        ·cases hx
        ·split at hx<;>cases hx
       ·cases hx
    rw [iD hv t t (by omega) b (by omega) c]
    omega
  ·simp only [Sy,Dj.l4]
   rfl
 |bad =>
  obtain ⟨u',hu',i4⟩:=i2 hx
  rw [hx] at s3
  refine ⟨true,u',u,hu',hu,fun e=>(by cases e),i4,Qa h hu s3 (Aa.of fun K x=>?_)⟩
  simp only [Sy,Dj.l4]
  rfl
 |go b s' =>
  obtain rfl:=s2 b s' hx
  rw [hx] at s3
  cases b with
  |false =>
   obtain ⟨b,u',v,⟨o1,o2,o3,o4,o5⟩⟩:=hb u hx
   exact ⟨b,u',v,o1,o2,o3,i3 false u hx _ o4,Qa h hu s3 o5⟩
  |true =>
   obtain ⟨b,u',v,⟨o1,o2,o3,o4,o5⟩⟩:=ht u hx
   refine ⟨b,u',v,o1,o2,o3,i3 true u hx _ o4,Qa h hu s3 (Aa.step (fun K x=>?_) o5)⟩
   simp only [Sy,Zt,Dj.l4,sxR]
   rw [Aj (by omega)]
   rfl
theorem jE (hm:m≤1000) (hn:n≤1000) (hk:k<m) (hkn:k<n) (hnext:∀ s',Ok m n s'→Rl m n (k+1) s'→R1 m n (k+1) s'):∀ (a:Nat) (s:Sm),Ok m n s→Rl m n k s→(∃ i j,InK m n k i j∧At n s.d i j≠0∧(At n s.d i j).natAbs≤a)→R4 m n k s:=by
 intro a
 induction a using Nat.strongRecOn with
 |_ a ih =>
  intro s h hd ⟨i,j,hij,h0,hle⟩
  refine jC hm hn h hk hkn hd (fun s' e=>?_) (fun s' e=>by obtain ⟨h1,h2⟩:=Xw h hk hkn hd e; exact hnext s' h1 h2)
  obtain ⟨h1,hd1,P,hP,hmin,hc⟩:=Ve h hk hkn hd e
  have hPa:P≤a:=Nat.le_trans (hmin i j hij h0) hle
  have low:∀ t:Sm,Ok m n t→Rl m n k t→(∃ i j,InK m n k i j∧At n t.d i j≠0∧(At n t.d i j).natAbs<P)→R4 m n k t:=fun t ht hdt ⟨i,j,b1,b2,b3⟩=>ih (P - 1) (by omega) t ht hdt ⟨i,j,b1,b2,by omega⟩
  rcases hc with hc | ⟨hkk,j,b1,b2,b3⟩
  ·exact low s' h1 hd1 hc
  ·by_cases hex:∃ i j,InK m n k i j∧At n s'.d i j≠0∧(At n s'.d i j).natAbs<P
   ·exact low s' h1 hd1 hex
   ·have hmin':∀ i j,InK m n k i j→At n s'.d i j=0∨P≤(At n s'.d i j).natAbs:=fun i j hij=>by
     by_cases e0:At n s'.d i j=0
     ·exact .inl e0
     ·exact .inr (Nat.le_of_not_lt fun hlt=>hex ⟨i,j,hij,e0,hlt⟩)
    refine jC hm hn h1 hk hkn hd1 (fun t et=>?_) (fun t et=>by obtain ⟨h2,h3⟩:=Xw h1 hk hkn hd1 et; exact hnext t h2 h3)
    rcases gV h1 hk hkn hP hkk hmin' b1 b2 b3 with e1 | ⟨t',e1,hlow⟩
    ·rw [e1] at et; cases et
    ·rw [e1] at et
     injection et with _ et
     subst et
     obtain ⟨h2,hd2,_⟩:=Ve h1 hk hkn hd1 e1
     exact low t' h2 hd2 hlow
theorem vP (hm:m≤1000) (hn:n≤1000) (hk:k<m) (hkn:k<n) (hnext:∀ s',Ok m n s'→Rl m n (k+1) s'→R1 m n (k+1) s') (h:Ok m n s) (hd:Rl m n k s):R4 m n k s:=by
 refine jC hm hn h hk hkn hd (fun s' e=>?_) (fun s' e=>by obtain ⟨h2,h3⟩:=Xw h hk hkn hd e; exact hnext s' h2 h3)
 obtain ⟨h1,hd1,P,hP,hmin,hc⟩:=Ve h hk hkn hd e
 rcases hc with ⟨i,j,b1,b2,b3⟩|⟨hkk,j,b1,b2,b3⟩
 ·exact jE hm hn hk hkn hnext (At n s'.d i j).natAbs s' h1 hd1 ⟨i,j,b1,b2,Nat.le_refl _⟩
 ·exact jE hm hn hk hkn hnext P s' h1 hd1 ⟨k,k,⟨Nat.le_refl _,hk,Nat.le_refl _,hkn⟩,by omega,by omega⟩
theorem vH (hm:m≤1000) (hn:n≤1000):∀ (c k:Nat) (s:Sm),(m - k)+(n - k)≤c→Ok m n s→Rl m n k s→R1 m n k s:=by
 intro c
 induction c with
 |zero =>
  intro k s hc h hd
  refine ⟨false,s,s,h,h,fun _=>⟨rfl,fun t a b c=>hd t (by omega) b c⟩,Aa.of fun K x=>?_,Aa.of fun K x=>?_⟩
  ·simp only [Ni,D6.l1]
   rw [if_neg Bool.false_ne_true,if_neg (by split<;>omega)]; rfl
  ·simp only [Zt,Dj.l1]
   rw [if_neg (by split<;>omega)]; rfl
 |succ c ih =>
  intro k s hc h hd
  by_cases hk:k<m∧k<n
  ·obtain ⟨b,u,v,⟨o1,o2,o3,o4,o5⟩⟩:=vP hm hn hk.1 hk.2 (fun s' h' hd'=>ih (k+1) s' (by omega) h' hd') h hd
   refine ⟨b,u,v,o1,o2,o3,o4,Aa.step (fun K x=>?_) o5⟩
   simp only [Zt,Sy,Dj.l1]
   rw [if_pos (by split<;>omega)]
  ·refine ⟨false,s,s,h,h,fun _=>⟨rfl,fun t a b c=>hd t (by omega) b c⟩,Aa.of fun K x=>?_,Aa.of fun K x=>?_⟩
   ·simp only [Ni,D6.l1]
    rw [if_neg Bool.false_ne_true,if_neg (by split<;>omega)]; rfl
   ·simp only [Zt,Dj.l1]
    rw [if_neg (by split<;>omega)]; rfl
end
theorem Ab.M4 {α0 α1 α2 α3 α4 α5 α6 α7 α8 α9 α10 α11 α12 α13 α14 α15 β:Type} {F:Nat→Option (α0 × α1 × α2 × α3 × α4 × α5 × α6 × α7 × α8 × α9 × α10 × α11 × α12 × α13 × α14 × α15)} {G:Nat→α0→α1→α2→α3→α4→α5→α6→α7→α8→α9→α10→α11→α12→α13→α14→α15→Option β} {a0:α0} {a1:α1} {a2:α2} {a3:α3} {a4:α4} {a5:α5} {a6:α6} {a7:α7} {a8:α8} {a9:α9} {a10:α10} {a11:α11} {a12:α12} {a13:α13} {a14:α14} {a15:α15} {r:β}
  (h:Ab F (a0,a1,a2,a3,a4,a5,a6,a7,a8,a9,a10,a11,a12,a13,a14,a15)) (g:Ab (fun K=>G K a0 a1 a2 a3 a4 a5 a6 a7 a8 a9 a10 a11 a12 a13 a14 a15) r):Ab (fun K=>Go.Proofs.YtgkgmhkgahalgaaGreat.M4 (F K) (G K)) r:=by
 obtain ⟨n,hn⟩:=h
 obtain ⟨m,hm⟩:=g
 exact ⟨n+m,fun K hK=>by show Go.Proofs.YtgkgmhkgahalgaaGreat.M4 (F K) (G K)=some r; rw [hn K (by omega)]; exact hm K (by omega)⟩
theorem bH {m n:Nat} (hm:m≤1000) (hn:n≤1000):Ik.f (m:Int) (n:Int)=some ((m:Int),(n:Int),List.replicate (m*n) (0:Int)):=by
 unfold Ik.f
 have h:=Kr hm hn
 rw [← Int.natCast_mul,Ra (by omega),if_pos (by omega),Int.toNat_natCast,if_pos (by omega)]
theorem kD {m n:Nat} (hm:m≤1000) (hn:n≤1000):Jp.f (m:Int) (n:Int)=some ((m:Int),(n:Int),List.replicate (m*n) (0:Int)):=bH hm hn
theorem pK (N:Nat):Bd (List.replicate N (0:Int)):=fun p=>by
 rw [List.getD_eq_getElem?_getD,List.getElem?_replicate]; split<;>simp
def idM (n:Nat):List Int:=itF (fun j xs=>xs.set (j*n+j) 1) n 0 (List.replicate (n*n) 0)
theorem Nu (n:Nat):(idM n).length=n*n:=Ov (I:=fun xs:List Int=>xs.length=n*n) (fun j s h=>by rw [List.length_set]; exact h) (List.length_replicate)
theorem X5 (n:Nat):Bd (idM n):=Ov (I:=Bd) (fun j s h=>h.set (by omega) (by omega)) (pK _)
theorem nW {n:Nat} (hn:n≤1000):Ab (fun K=>Eb.f K (n:Int)) ((n:Int),(n:Int),idM n):=by
 unfold Eb.f
 refine Ab.Gy (Ab.congr (fun K=>bH hn hn) (Ab.const _)) (Aa.Gz (F:=fun K k=>Eb.l1 K k (n:Int) (n:Int) (n:Int) (List.replicate (n*n) 0) ((0:Nat):Int)) ?_)
 refine Li (f:=fun j xs=>xs.set (j*n+j) 1) (l:=fun K k xs j=>Eb.l1 K k (n:Int) (n:Int) (n:Int) xs (j:Int)) (I:=fun xs=>xs.length=n*n) (n:=n) (fun j s _ h=>by rw [List.length_set]; exact h) (fun K k' xs j hj hl=>?_) n 0 _ (by omega) (List.length_replicate) (fun _=>Aa.of fun K k'=>?_)
 ·show Eb.l1 K (k'+1) (n:Int) (n:Int) (n:Int) xs (j:Int)=_
  simp only [Eb.l1]
  rw [if_pos (by omega),Me hl hl hj hj hn hn,Aj (by omega),Int.toNat_natCast]
 ·simp only [Eb.l1]
  rw [if_neg (by omega)]; rfl
theorem pM {n:Nat} (hn:n≤1000):Ab (fun K=>E5.f K (n:Int)) ((n:Int),(n:Int),idM n):=by
 unfold E5.f
 refine Ab.Gy (Ab.congr (fun K=>kD hn hn) (Ab.const _)) (Aa.Gz (F:=fun K k=>E5.l1 K k (n:Int) (n:Int) (n:Int) (List.replicate (n*n) 0) ((0:Nat):Int)) ?_)
 refine Li (f:=fun j xs=>xs.set (j*n+j) 1) (l:=fun K k xs j=>E5.l1 K k (n:Int) (n:Int) (n:Int) xs (j:Int)) (I:=fun xs=>xs.length=n*n) (n:=n) (fun j s _ h=>by rw [List.length_set]; exact h) (fun K k' xs j hj hl=>?_) n 0 _ (by omega) (List.length_replicate) (fun _=>Aa.of fun K k'=>?_)
 ·show E5.l1 K (k'+1) (n:Int) (n:Int) (n:Int) xs (j:Int)=_
  have h:=Jy hj hj
  simp only [E5.l1]
  rw [if_pos (by omega),Tf (by omega) (by omega) hn,if_pos ⟨by omega,by omega⟩,Aj (by omega),Int.toNat_natCast]
 ·simp only [E5.l1]
  rw [if_neg (by omega)]; rfl
def Vs (n:Nat) (d:List Int):Nat→Nat→List Int→List Int
 |0,_,o=>o
 |c+1,i,o=>Vs n d c (i+1) (if At n d i i=0 then o else o++[At n d i i])
theorem Vh {n m:Nat} {d:List Int} (hd:∀ t,t<m→t<n→0≤At n d t t):∀ {c i:Nat} {o:List Int},i+c≤m→i+c≤n→(∀ x,x∈o→0<x)→(∀ x,x∈Vs n d c i o→0<x)∧(Vs n d c i o).length≤o.length+c
 |0,_,o,_,_,h=>⟨h,Nat.le_refl _⟩
 |c+1,i,o,h1,h2,h=>by
  have h3:=hd i (by omega) (by omega)
  unfold Vs
  by_cases e:At n d i i=0
  ·rw [if_pos e]
   obtain ⟨a,b⟩:=Vh hd (c:=c) (i:=i+1) (o:=o) (by omega) (by omega) h
   exact ⟨a,by omega⟩
  ·rw [if_neg e]
   obtain ⟨a,b⟩:=Vh hd (c:=c) (i:=i+1) (o:=o++[At n d i i]) (by omega) (by omega) (fun x hx=>by
    rcases List.mem_append.1 hx with hx | hx
    ·exact h x hx
    ·rw [List.mem_singleton.1 hx]; omega)
   rw [List.length_append,List.length_singleton] at b
   exact ⟨a,by omega⟩
section
variable {m n:Nat} {d:List Int}
def mn (m n:Nat):Nat:=if n<m then n else m
theorem Q3 (m n:Nat):(if (n:Int)<(m:Int) then (n:Int) else (m:Int))=((mn m n:Nat):Int):=by
 unfold mn; by_cases h:n<m
 ·rw [if_pos h,if_pos (by omega)]
 ·rw [if_neg h,if_neg (by omega)]
theorem Aai (m n:Nat):mn m n≤m∧mn m n≤n:=by unfold mn; split<;>omega
theorem X8 (hm:m≤1000) (hn:n≤1000) (hl:d.length=m*n) (hb:Bd d):∃ (b:Bool) (L L':List Int),(b=false→L'=L∧(∀ x,x∈L→0<x)∧L.length≤1000) ∧
  Ab (fun K=>Fs.f K (m:Int) (n:Int) d) (if b=true then ([],3) else (L,0))∧Ab (fun K=>D5.f K (m:Int) (n:Int) d) (L',!b):=by
 have hok:Ok m n ⟨d,idM m,idM m,idM n,idM n⟩:=⟨hl,Nu m,Nu m,Nu n,Nu n,hb,X5 m,X5 m,X5 n,X5 n⟩
 obtain ⟨b,u,v,⟨o1,o2,o3,o4,o5⟩⟩:=vH hm hn _ 0 _ (Nat.le_refl _) hok (fun t h=>absurd h (Nat.not_lt_zero _))
 have hmn:=Aai m n
 have sm:Ab (fun K=>Kz.f K (m:Int) (n:Int) d) (if b=true then (0,0,[],0,0,[],0,0,[],0,0,[],0,0,[],3) else ((m:Int),(m:Int),u.l,(m:Int),(m:Int),u.li,(m:Int),(n:Int),u.d,(n:Int),(n:Int),u.r,(n:Int),(n:Int),u.ri,0)):=by
  unfold Kz.f
  have hnr:Ab (fun K=>Ja.f K (m:Int) (n:Int) d) ((m:Int),(m:Int),idM m,(m:Int),(m:Int),idM m,(m:Int),(n:Int),d,(n:Int),(n:Int),idM n,(n:Int),(n:Int),idM n,false):=by
   unfold Ja.f
   have hcp:Jc.f (m:Int) (n:Int) d=some ((m:Int),(n:Int),d):=by
    unfold Jc.f Gn.f
    have:=Kr hm hn
    rw [if_pos (by rw [hl]; simp; omega)]; rfl
   exact (nW hm).Gy ((nW hm).Gy (Ab.Gy (Ab.congr (fun K=>hcp) (Ab.const _)) ((nW hn).Gy ((nW hn).Gy (Ab.const _)))))
  refine hnr.M4 (Ab.M5 (a:=b) (b:=u.l) (c:=u.li) (d:=u.d) (e:=u.r) (f:=u.ri) ?_ ?_)
  ·exact o4.Gz
  ·refine Ab.pos (o1.l.trans (Nu m).symm) (Ab.pos (o1.li.trans (Nu m).symm) (Ab.pos (o1.d.trans hl.symm) (Ab.pos (o1.r.trans (Nu n).symm) (Ab.pos (o1.ri.trans (Nu n).symm) ?_))))
   cases b with
   |true=>exact Ab.pos rfl (Ab.const _)
   |false=>exact Ab.neg (by decide) (Ab.const _)
 have sr:Ab (fun K=>Dj.f K (m:Int) (n:Int) d) (outT m n (b,v)):=by
  unfold Dj.f
  have:=Kr hm hn
  refine Ab.pos (by rw [hl]; simp; omega) ((pM hm).Gy ((pM hm).Gy ((pM hn).Gy ((pM hn).Gy ?_))))
  exact o5.Gz
 have fi:b=false→Ab (fun K=>Fs.l1 K K (m:Int) (n:Int) (m:Int) (n:Int) u.d [] 0) (Vs n u.d (mn m n) 0 [],0):=fun _=>by
  have main:∀ c i (o:List Int),i+c=mn m n→o.length≤i→Aa (fun K x=>Fs.l1 K x (m:Int) (n:Int) (m:Int) (n:Int) u.d o (i:Int)) (Vs n u.d c i o,0):=by
   intro c
   induction c with
   |zero =>
    intro i o hi _
    refine Aa.of fun K x=>?_
    simp only [Fs.l1]
    rw [Q3,if_neg (by omega)]; rfl
   |succ c ih =>
    intro i o hi ho
    refine Aa.step (fun K x=>?_) (ih (i+1) (if At n u.d i i=0 then o else o++[At n u.d i i]) (by omega) (by split; omega; rw [List.length_append]; simp; omega))
    simp only [Fs.l1]
    rw [Q3,if_pos (by omega),Me o1.d o1.d (by omega) (by omega) hm hn,Int.toNat_natCast,Aj (by omega)]
    by_cases e:At n u.d i i=0
    ·rw [if_pos e,if_pos e]
    ·rw [if_neg e,if_neg e,if_pos (by omega)]
  exact (main (mn m n) 0 [] (by omega) (by simp)).Gz
 have fs:b=false→Ab (fun K=>D5.l1 K K (m:Int) (n:Int) (m:Int) (n:Int) v.d false [] 0) (Vs n v.d (mn m n) 0 [],true):=fun _=>by
  have main:∀ c i (o:List Int),i+c=mn m n→o.length≤i→Aa (fun K x=>D5.l1 K x (m:Int) (n:Int) (m:Int) (n:Int) v.d false o (i:Int)) (Vs n v.d c i o,true):=by
   intro c
   induction c with
   |zero =>
    intro i o hi _
    refine Aa.of fun K x=>?_
    simp only [D5.l1]
    rw [Q3,if_neg (by omega)]; rfl
   |succ c ih =>
    intro i o hi ho
    refine Aa.step (fun K x=>?_) (ih (i+1) (if At n v.d i i=0 then o else o++[At n v.d i i]) (by omega) (by split; omega; rw [List.length_append]; simp; omega))
    simp only [D5.l1]
    rw [Q3,if_pos (by omega),if_neg Bool.false_ne_true,Lt o2.d (by omega) (by omega) hm hn,Option.bind_some,Aj (by omega)]
    by_cases e:At n v.d i i=0
    ·rw [if_pos e,if_pos e]
    ·rw [if_neg e,if_neg e,if_pos (by omega)]
  exact (main (mn m n) 0 [] (by omega) (by simp)).Gz
 cases b with
 |true =>
  refine ⟨true,[],[],fun e=>(by cases e),?_,?_⟩
  ·unfold Fs.f
   exact Ab.M4 sm (Ab.neg (by decide) (Ab.const _))
  ·unfold D5.f
   refine Ab.M4 sr (Aa.Gz (F:=fun K x=>D5.l1 K x (m:Int) (n:Int) (m:Int) (n:Int) v.d true [] 0) (Aa.of fun K x=>?_))
   simp only [D5.l1]
   rw [Q3]
   split
   ·rw [if_pos trivial]
   ·rfl
 |false =>
  obtain ⟨rfl,hd⟩:=o3 rfl
  have hp:=Vh (n:=n) (m:=m) (d:=u.d) (fun t a b=>hd t a a b) (c:=mn m n) (i:=0) (o:=[]) (by omega) (by omega) (by simp)
  refine ⟨false,Vs n u.d (mn m n) 0 [],Vs n u.d (mn m n) 0 [],fun _=>⟨rfl,hp.1,by have:=hp.2; simp at this; omega⟩,?_,?_⟩
  ·unfold Fs.f
   exact Ab.M4 sm (Ab.pos rfl (fi rfl))
  ·unfold D5.f
   exact Ab.M4 sr (fs rfl)
end
section
variable {s:List Int} (hs:s.length≤1000)
def kp (s:List Int) (j:Nat):List Int:=(s.take j).filter fun x=>!(decide (x=1))
theorem Tm {j:Nat} (hj:j<s.length):kp s (j+1)=kp s j++if s.getD j 0=1 then [] else [s.getD j 0]:=by
 unfold kp
 rw [List.take_add_one,List.filter_append,List.getElem?_eq_getElem hj,List.getD_eq_getElem?_getD,List.getElem?_eq_getElem hj]
 congr 1
 show List.filter _ [s[j]]=if s[j]=1 then [] else [s[j]]
 by_cases e:s[j]=1
 ·rw [if_pos e,List.filter_cons_of_neg (by simp [e])]; rfl
 ·rw [if_neg e,List.filter_cons_of_pos (by simp [e])]; rfl
theorem eG (j:Nat):(kp s j).length≤j:=Nat.le_trans (List.length_filter_le _ _) (List.length_take_le _ _)
include hs
theorem uG:∀ (c j:Nat) (x:List Int),j+c=s.length→x.length=s.length→x.take (kp s j).length=kp s j→(∀ t,j≤t→x[t]?=s[t]?) →
  Aa (fun K k=>Ba.l1 K k x ((kp s j).length:Int) (j:Int)) (kp s s.length):=by
 intro c
 induction c with
 |zero =>
  intro j x hj hl ht hm
  obtain rfl:j=s.length:=by omega
  have hk:=eG (s:=s) s.length
  refine Aa.of fun K k=>?_
  have htake:(over x (kp s s.length).length (List.replicate ((x.take x.length).drop (kp s s.length).length).length 0)).take (kp s s.length).length=kp s s.length:=by
   unfold over
   rw [List.append_assoc,List.take_append_of_le_length (by rw [List.length_take]; omega),List.take_take,Nat.min_self,ht]
  rw [Ba.l1,if_neg (by omega),if_pos (by omega),Int.toNat_natCast,if_pos,htake,List.drop_zero]
  rw [Lu (by rw [List.length_replicate,List.length_drop,List.length_take]; omega)]
  omega
 |succ c ih =>
  intro j x hj hl ht hm
  have hlt:j<s.length:=by omega
  have hk:=eG (s:=s) j
  have hget:x.getD j 0=s.getD j 0:=by rw [List.getD_eq_getElem?_getD,List.getD_eq_getElem?_getD,hm j (Nat.le_refl _)]
  have e:=Tm hlt
  by_cases h1:s.getD j 0=1
  ·rw [if_pos h1,List.append_nil] at e
   refine Aa.step (fun K k=>?_) (ih (j+1) x (by omega) hl (by rw [e]; exact ht) (fun t h=>hm t (by omega)))
   rw [Ba.l1,if_pos (by omega),if_pos (by omega),Int.toNat_natCast,hget,Aj (by omega)]
   unfold Hz.f
   rw [Option.bind_some,if_pos (by simpa using h1),e]
  ·rw [if_neg h1] at e
   have hsl:(kp s (j+1)).length=(kp s j).length+1:=by rw [e,List.length_append]; rfl
   refine Aa.step (fun K k=>?_) (ih (j+1) (x.set (kp s j).length (s.getD j 0)) (by omega) (by rw [List.length_set]; exact hl) (by
    rw [hsl,List.take_add_one,List.getElem?_set_self (by omega),List.take_set_of_le (Nat.le_refl _),ht,e]; rfl) (fun t h=>by rw [List.getElem?_set_ne (by omega)]; exact hm t (by omega)))
   rw [Ba.l1,if_pos (by omega),if_pos (by omega),Int.toNat_natCast,hget,Aj (by omega)]
   unfold Hz.f
   rw [Option.bind_some,if_neg (by simpa using h1),if_pos ⟨by omega,by omega⟩,Int.toNat_natCast,Aj (by omega),hsl]
theorem fH:Ab (fun K=>J9.f K s) (kp s s.length):=by
 have idx:∀ c i,i+c=s.length→kp s i=s.take i→∃ r:Int,Aa (fun K k=>Be.l1 K k s (i:Int)) r∧((r = -1∧kp s s.length=s)∨∃ n:Nat,r=(n:Int)∧n<s.length∧s.getD n 0=1∧kp s n=s.take n):=by
  intro c
  induction c with
  |zero =>
   intro i hi hk
   obtain rfl:i=s.length:=by omega
   refine ⟨-1,Aa.of fun K k=>?_,.inl ⟨rfl,by rw [hk,List.take_length]⟩⟩
   rw [Be.l1,if_neg (by omega)]
  |succ c ih =>
   intro i hi hk
   have hlt:i<s.length:=by omega
   have hstep:∀ K k,Be.l1 K (k+1) s (i:Int)=if decide (s.getD i 0=1)=true then some (i:Int) else Be.l1 K k s ((i+1:Nat):Int):=fun K k=>by
    rw [Be.l1,if_pos (by omega),if_pos (by omega),Int.toNat_natCast,Aj (by omega)]; rfl
   by_cases h1:s.getD i 0=1
   ·exact ⟨(i:Int),Aa.of fun K k=>by rw [hstep,if_pos (by simpa using h1)],.inr ⟨i,rfl,hlt,h1,hk⟩⟩
   ·obtain ⟨r,h2,h3⟩:=ih (i+1) (by omega) (by
     rw [Tm hlt,if_neg h1,hk,List.take_add_one,List.getElem?_eq_getElem hlt,List.getD_eq_getElem?_getD,List.getElem?_eq_getElem hlt]; rfl)
    exact ⟨r,Aa.step (fun K k=>by rw [hstep,if_neg (by simpa using h1)]) h2,h3⟩
 obtain ⟨r,h1,h2⟩:=idx s.length 0 (by omega) (by unfold kp; simp)
 unfold J9.f Ba.f
 refine Ab.bind (a:=kp s s.length) (Ab.bind (a:=r) (Ab.congr (fun K=>rfl) h1.Gz) ?_) (Ab.const _)
 rcases h2 with ⟨rfl,h2⟩|⟨n,rfl,hn,hf,hk⟩
 ·rw [h2]; exact Ab.pos rfl (Ab.const _)
 ·refine Ab.neg (by omega) ?_
  have e:=Tm hn
  rw [if_pos hf,List.append_nil] at e
  have hkl:(kp s (n+1)).length=n:=by rw [e,hk,List.length_take]; omega
  have h:=uG hs (s.length - (n+1)) (n+1) s (by omega) rfl (by rw [hkl,e,hk]) (fun t _=>rfl)
  rw [hkl] at h
  rw [Aj (by omega)]
  exact h.Gz
theorem fI (hp:∀ x,x∈s→0<x):Ab (fun K=>Ev.f K s) (kp s s.length):=by
 have main:∀ c j,j+c=s.length→Aa (fun K k=>Ev.l1 K k s (kp s j) (j:Int)) (kp s s.length):=by
  intro c
  induction c with
  |zero =>
   intro j hj
   obtain rfl:j=s.length:=by omega
   refine Aa.of fun K k=>?_
   rw [Ev.l1,if_neg (by omega)]
  |succ c ih =>
   intro j hj
   have hlt:j<s.length:=by omega
   have hk:=eG (s:=s) j
   have hpos:0<s.getD j 0:=hp _ (by rw [List.getD_eq_getElem?_getD,List.getElem?_eq_getElem hlt]; exact List.getElem_mem hlt)
   have e:=Tm hlt
   refine Aa.step (fun K k=>?_) (ih (j+1) (by omega))
   rw [Ev.l1,if_pos (by omega),if_pos ⟨by omega,by omega⟩,Int.toNat_natCast,Aj (by omega)]
   by_cases h1:s.getD j 0=1
   ·rw [if_pos h1,List.append_nil] at e
    rw [if_neg (by omega),e]
   ·rw [if_neg h1] at e
    rw [if_pos (by omega),if_pos (by omega),e]
 have h:=main s.length 0 (by omega)
 have e0:kp s 0=[]:=by unfold kp; simp
 rw [e0] at h
 exact h.Gz
end
theorem Xi (v lo hi:Int):I4.f v lo hi=some (decide (lo≤v∧v≤hi)):=by
 unfold I4.f
 by_cases h:lo≤v<;>simp [h]
def isM (m n:Nat):Bool:=decide (m≤48) && decide (n≤48)
section
variable {m n:Nat} {d:List Int}
theorem wU (hm:m≤1000) (hn:n≤1000) (hl:d.length=m*n) (hb:Bd d):Ab (fun K=>Ju.f K (m:Int) (n:Int) d) (isM m n):=by
 have hmn:=Kr hm hn
 have hc:Ab (fun K=>Dp.f K d) false:=by
  have:=O3 (l:=fun K x i=>Bh.l1 K x d i) (s:=d) (P:=fun x=>!decide (-1000000000000≤x∧x≤1000000000000)) (by omega) (fun K x i hi=>by
   simp only [Bh.l1,I6.f]
   rw [if_pos (by omega),if_pos ⟨by omega,by omega⟩,R3,Option.bind_some,Option.bind_some,Int.toNat_natCast]) (fun K x=>by
   simp only [Bh.l1]
   rw [if_neg (by omega)])
  rw [Nf (fun j hj=>by simp only [Bool.not_not]; exact decide_eq_true (hb j))] at this
  exact this
 unfold Ju.f isM
 refine Ab.Kl (R3 _ _ _) ?_
 by_cases h1:m≤48
 ·rw [decide_eq_true h1]
  refine Ab.pos (decide_eq_true (by omega)) (Ab.Kl (R3 _ _ _) ?_)
  by_cases h2:n≤48
  ·rw [decide_eq_true h2]
   refine Ab.pos (decide_eq_true (by omega)) (Ab.bind (a:=(d.length:Int)) (Ab.const _) (Ab.pos (by rw [hl,← Int.natCast_mul,Ra (by omega)]) ?_))
   exact hc.bind (Ab.const _)
  ·rw [decide_eq_false h2]
   exact Ab.neg (by rw [decide_eq_true_eq]; omega) (Ab.const _)
 ·rw [decide_eq_false h1]
  exact Ab.neg (by rw [decide_eq_true_eq]; omega) (Ab.const _)
theorem Aae (hm:m≤1000) (hn:n≤1000) (hl:d.length=m*n) (hb:Bd d):Ab (fun K=>Fh.f K (m:Int) (n:Int) d) (isM m n):=by
 have hmn:=Kr hm hn
 have hc:Ab (fun K=>Fh.l1 K K d 0) true:=by
  have:=Ml (l:=fun K x i=>Fh.l1 K x d (i:Int)) (n:=d.length) (P:=fun _=>true) (r:=true) (fun i hi _ v hv=>Aa.step (fun K x=>by
   simp only [Fh.l1]
   rw [if_pos (by omega),if_pos ⟨by omega,by omega⟩,Xi,Option.bind_some,Int.toNat_natCast,if_pos (decide_eq_true (hb i)),Aj (by omega)]) hv) (fun i hi h=>by cases h) (Aa.of fun K x=>by
   simp only [Fh.l1]
   rw [if_neg (by omega)])
  rw [Nf (fun j _=>rfl)] at this
  exact this.Gz
 unfold Fh.f isM
 refine Ab.Kl (Xi _ _ _) ?_
 by_cases h1:m≤48
 ·rw [decide_eq_true h1]
  refine Ab.pos (decide_eq_true (by omega)) (Ab.Kl (Xi _ _ _) ?_)
  by_cases h2:n≤48
  ·rw [decide_eq_true h2]
   exact Ab.pos (decide_eq_true (by omega)) (Ab.pos (by rw [hl,← Int.natCast_mul,Ra (by omega)]) hc)
  ·rw [decide_eq_false h2]
   exact Ab.neg (by rw [decide_eq_true_eq]; omega) (Ab.const _)
 ·rw [decide_eq_false h1]
  exact Ab.neg (by rw [decide_eq_true_eq]; omega) (Ab.const _)
end
section
variable {p q r:Nat} {xs ys:List Int}
end
def ov (f i:Nat):Nat:=(OT [f]).getD i 0
def Aar (x y z:Nat):Int:=(if z<y then -1 else 1)*((if z<x then -1 else 1)*(if y<x then -1 else 1))
def SG (p f:Nat):Int:=Aar (PA p (ov f 0)) (PA p (ov f 1)) (PA p (ov f 2))
def FSg (ts:List (List Am)) (G:Nat):Int:=if (Fg ts (G/4) (G%4)).Tet<0 then 1 else if 4*(Fg ts (G/4) (G%4)).Tet.toNat+PA (Fg ts (G/4) (G%4)).Perm.toNat (G%4)<G then SG (PI (Fg ts (G/4) (G%4)).Perm.toNat) (PA (Fg ts (G/4) (G%4)).Perm.toNat (G%4)) else 1
def Ptn (ts:List (List Am)) (G:Nat):Option Nat:=if (Fg ts (G/4) (G%4)).Tet<0 then none else some (4*(Fg ts (G/4) (G%4)).Tet.toNat+PA (Fg ts (G/4) (G%4)).Perm.toNat (G%4))
section
variable {ts:List (List Am)} (hv:Val ts)
include hv
theorem dm4 {a f:Nat} (hf:f<4):(4*a+f)/4=a∧(4*a+f)%4=f:=by omega
theorem gL {a f b p:Nat} (ha:a<ts.length) (hf:f<4) (hp:p<24) (h:O5 ts a f b p):4*b+PA p f<4*ts.length∧Ptn ts (4*b+PA p f)=some (4*a+f)∧4*a+f≠4*b+PA p f∧FSg ts (4*b+PA p f)=(if 4*a+f<4*b+PA p f then SG p f else 1)∧∀ G,G<4*ts.length→Ptn ts G=some (4*a+f)→G=4*b+PA p f:=by
 have h0:=H9 hp hf
 obtain ⟨d1,d2⟩:=dm4 hv (a:=b) h0
 have hb:=h.1
 refine ⟨by omega,?_,?_,?_,fun G hG e=>?_⟩
 ·unfold Ptn
  rw [d1,d2,h.2.2.2.1,if_neg (by show ¬ (a:Int)<0; omega)]
  simp only [Int.toNat_natCast]
  rw [Va hp hf]
 ·intro e
  exact h.2.2.2.2 (by omega)
 ·unfold FSg
  rw [d1,d2,h.2.2.2.1,if_neg (by show ¬ (a:Int)<0; omega)]
  simp only [Int.toNat_natCast]
  rw [Va hp hf,mJ hp]
 ·unfold Ptn at e
  rcases Jm hv (show G/4<ts.length by omega) (show G%4<4 by omega) with ⟨h1,h2⟩|⟨h1,c,q,hc,hq,h2,h3⟩
  ·rw [if_pos h1] at e; cases e
  ·rw [if_neg h1,h2] at e
   have h4:=H9 hq (show G%4<4 by omega)
   simp only [Int.toNat_natCast] at e
   injection e with e
   obtain ⟨rfl,hpf⟩:c=a∧PA q (G%4)=f:=by omega
   have h5:=h3.2.2.2.1
   rw [hpf,h.2.2.1] at h5
   injection h5 with h6 h7
   have h8:b=G/4:=by omega
   have h9:p=PI q:=by omega
   rw [h9,← hpf,Va hq (by omega),h8]
   omega
end
section
variable {ts:List (List Am)} (hv:Val ts)
include hv
end
def Bt (t:Nat) (M:List Int):Prop:=∀ p,-(t:Int)≤M.getD p 0∧M.getD p 0≤(t:Int)
def bY (n:Nat) (M:List Int) (o:Nat × Nat × Int):List Int:=M.set (o.1*n+o.2.1) (M.getD (o.1*n+o.2.1) 0+o.2.2)
def kI (n:Nat) (M:List Int) (l:List (Nat × Nat × Int)):List Int:=l.foldl (bY n) M
theorem pY {n t:Nat} {M:List Int} {o:Nat × Nat × Int} (h:Bt t M) (h1 : -1≤o.2.2) (h2:o.2.2≤1):Bt (t+1) (bY n M o):=fun p=>by
 unfold bY
 have a:=h (o.1*n+o.2.1)
 have b:=h p
 rw [Np]; split<;>omega
theorem pX (N:Nat):Bt 0 (List.replicate N (0:Int)):=fun p=>by
 rw [List.getD_eq_getElem?_getD,List.getElem?_replicate]; split<;>simp
def cat {α:Type} (F:Nat→List α):Nat→List α
 |0=>[]
 |m+1=>cat F m++F m
section
variable {m n t:Nat} {M:List Int}
theorem yS {β:Type} {c:Int} {i j:Nat} {N:Nat} {g:Int→Option β} (hl:M.length=m*n) (hN:N=m*n) (hi:i<m) (hj:j<n) (hm:m≤1000) (hn:n≤1000):(Bp.f c (n:Int) M (i:Int) (j:Int)).bind (fun t=>if 0≤t∧t<(N:Int) then g t else none)=g ((i*n+j:Nat):Int):=Me hl hN hi hj hm hn
theorem iW {c:Int} {i j:Nat} {v:Int} (hl:M.length=m*n) (hb:Bt t M) (ht:t≤1000000) (hi:i<m) (hj:j<n) (hm:m≤1000) (hn:n≤1000) (h1 : -1≤v) (h2:v≤1):J2.f c (n:Int) M (i:Int) (j:Int) v=some (bY n M (i,j,v)):=by
 unfold J2.f
 have h:=Jy hi hj
 have:=hb (i*n+j)
 rw [Tf (by omega) (by omega) hn,if_pos ⟨by omega,by omega⟩,Int.toNat_natCast,E9 (by omega) (by omega)]
 rfl
theorem rW {v:Int} (hb:Bt t M) (ht:t≤1000000) (p:Nat) (h1 : -1≤v) (h2:v≤1):w64 (M.getD p 0+v)=M.getD p 0+v:=by
 have:=hb p
 exact E9 (by omega) (by omega)
end
def Cn (C:List Int) (i:Nat):Nat:=(C.getD i 0).toNat
theorem Z8 {N i:Nat} {s:List Int} (h:i<N):(CN N s).getD i 0=(Cn (CN N s) i:Int)∧Cn (CN N s) i<Ce s N:=by
 have:=(L9 N s).range h
 unfold Cn
 omega
theorem Pn (s:List Int) (i:Nat):Ce s (i+1)=Ce s i+(if Gu s i=true then 1 else 0):=by
 rw [Ce]
theorem Y8 {N i:Nat} {s:List Int} (h:i<N) (hf:Gu s i=true):Cn (CN N s) i=Ce s i:=by
 have:=(L9 N s).first i h hf
 unfold Cn; omega
theorem uP {N i:Nat} {s:List Int} (h:i<N) (hf:Gu s i=false):Cn (CN N s) i<Ce s i:=by
 obtain ⟨j,h1,h2,h3,h4⟩:=(L9 N s).at_ h
 have hj:j<i:=by
  rcases Nat.lt_or_eq_of_le h1 with h5 | h5
  ·exact h5
  ·subst h5; rw [h2] at hf; cases hf
 have:=Mf h2 hj
 unfold Cn; omega
theorem aR {N c x:Nat} {s:List Int} (hx:x≤N) (hc:Ce s x=c) (hlt:c<Ce s N):∃ i,x≤i∧i<N∧Gu s i=true∧Ce s i=c∧Cn (CN N s) i=c∧(∀ j,j<i→(CN N s).getD j 0≠(c:Int))∧∀ j,x≤j→j<i→Gu s j=false:=by
  have main:∀ d x,N - x=d→x≤N→Ce s x=c→∃ i,x≤i∧i<N∧Gu s i=true∧Ce s i=c∧∀ j,x≤j→j<i→Gu s j=false:=by
    intro d
    induction d with
    | zero => intro x hd hx hc; have : x = N := by omega
              subst this; omega
    | succ d ih =>
      intro x hd hx hc
      cases hf:Gu s x with
      | true=>exact ⟨x,Nat.le_refl _,by omega,hf,hc,fun j h1 h2=>by omega⟩
      | false =>
        obtain ⟨i,h1,h2,h3,h4,h5⟩:=ih (x+1) (by omega) (by omega) (by rw [Pn,hf]; simp [hc])
        refine ⟨i,by omega,h2,h3,h4,fun j a b=>?_⟩
        by_cases e:j=x
        · subst e; exact hf
        · exact h5 j (by omega) b
  obtain ⟨i,h1,h2,h3,h4,h5⟩:=main _ x rfl hx hc
  have hci:Cn (CN N s) i=c:=by rw [Y8 h2 h3,h4]
  refine ⟨i,h1,h2,h3,h4,hci,fun j hj e=>?_,h5⟩
  have hjN:j<N:=by omega
  have e1:=(Z8 (s:=s) hjN).1
  have hm:=Mt s (show j≤i by omega)
  cases hf:Gu s j with
  | true =>
    have:=Y8 hjN hf
    have:=Mf hf hj
    omega
  | false =>
    have:=uP hjN hf
    omega
theorem gX {l:List Int} (hl:l.length≤1000) {v:Int} {j0:Nat} (hj:j0<l.length) (h0:l.getD j0 0=v) (h1:∀ j,j<j0→l.getD j 0≠v):Ab (fun K=>Ca.f K l v) (j0:Int):=by
 have main:∀ d i,j0 - i=d→i≤j0→Aa (fun K k=>Ca.l1 K k l v (i:Int)) (j0:Int):=by
  intro d
  induction d with
  |zero =>
   intro i hd hi
   obtain rfl:i=j0:=by omega
   refine Aa.of fun K k=>?_
   rw [Ca.l1,if_pos (by omega),if_pos ⟨by omega,by omega⟩,Int.toNat_natCast,if_pos h0.symm]
  |succ d ih =>
   intro i hd hi
   refine Aa.step (fun K k=>?_) (ih (i+1) (by omega) (by omega))
   rw [Ca.l1,if_pos (by omega),if_pos ⟨by omega,by omega⟩,Int.toNat_natCast,if_neg (fun e=>h1 i (by omega) e.symm),Aj (by omega)]
 exact (main j0 0 (by omega) (by omega)).Gz
theorem yC (i:Nat):(i:Int).tmod 4=((i%4:Nat):Int):=by
 rw [Int.tmod_eq_emod_of_nonneg (by omega)]; omega
theorem yL (i:Nat):(i:Int).tdiv 4=((i/4:Nat):Int):=by
 rw [Int.tdiv_eq_ediv_of_nonneg (by omega)]; omega
def ee (f j:Nat):Nat:=EE (ov f (if j=0 then 1 else 0)) (ov f (if j=2 then 1 else 2))
def pw (j:Nat):Int:=if j%2=1 then -1 else 1
structure Cls (ts:List (List Am)) (vs ys fs Sg:List Int):Prop where
 n8:ts.length≤8
 hS:Sg.length=6*ts.length
 vl:∀ j,j<6*ts.length→Sg.getD j 0=0∨Sg.getD j 0=1∨Sg.getD j 0 = -1
section
variable {ts:List (List Am)} (hv:Val ts) {vs ys fs Sg:List Int} (h:Cls ts vs ys fs Sg)
noncomputable def opE (ts:List (List Am)) (vs ys:List Int) (i:Nat):List (Nat × Nat × Int):=if Gu ys i=true then [(Cn (CN (4*ts.length) vs) (4*(i/6)+EB (i%6)),Cn (CN (6*ts.length) ys) i,1),(Cn (CN (4*ts.length) vs) (4*(i/6)+EA (i%6)),Cn (CN (6*ts.length) ys) i,-1)] else []
noncomputable def opF (ts:List (List Am)) (ys fs Sg:List Int) (i:Nat):List (Nat × Nat × Int):=if Gu fs i=true then [(Cn (CN (6*ts.length) ys) (6*(i/4)+ee (i%4) 0),Cn (CN (4*ts.length) fs) i,pw 0*Sg.getD (6*(i/4)+ee (i%4) 0) 0),(Cn (CN (6*ts.length) ys) (6*(i/4)+ee (i%4) 1),Cn (CN (4*ts.length) fs) i,pw 1*Sg.getD (6*(i/4)+ee (i%4) 1) 0),(Cn (CN (6*ts.length) ys) (6*(i/4)+ee (i%4) 2),Cn (CN (4*ts.length) fs) i,pw 2*Sg.getD (6*(i/4)+ee (i%4) 2) 0)] else []
noncomputable def opT (ts:List (List Am)) (fs:List Int) (i:Nat):List (Nat × Nat × Int):=[(Cn (CN (4*ts.length) fs) i,i/4,pw (i%4)*FSg ts i)]
noncomputable def matE (ts:List (List Am)) (vs ys:List Int) (x:Nat):List Int:=kI (Ce ys (6*ts.length)) (List.replicate (Ce vs (4*ts.length)*Ce ys (6*ts.length)) 0) (cat (opE ts vs ys) x)
noncomputable def matF (ts:List (List Am)) (ys fs Sg:List Int) (x:Nat):List Int:=kI (Ce fs (4*ts.length)) (List.replicate (Ce ys (6*ts.length)*Ce fs (4*ts.length)) 0) (cat (opF ts ys fs Sg) x)
noncomputable def matT (ts:List (List Am)) (fs:List Int) (x:Nat):List Int:=kI ts.length (List.replicate (Ce fs (4*ts.length)*ts.length) 0) (cat (opT ts fs) x)
include h
end
theorem Vf {n:Nat} {M:List Int} {o:Nat × Nat × Int}:(bY n M o).length=M.length:=by unfold bY; rw [List.length_set]
section
variable {ts:List (List Am)} {vs ys fs Sg:List Int} (h:Cls ts vs ys fs Sg)
include h
end
theorem yP {o:List Bool} (hl:o.length≤1000) {b:Bool} (hb:b=true↔∃ c,c<o.length∧o.getD c false=true):Ab (fun K=>Fw.f K o true) b:=by
 have main:∀ d i,o.length - i=d→i≤o.length→(∀ c,c<i→o.getD c false=false)→∃ z:Int,Aa (fun K k=>Dl.l1 K k o true (i:Int)) z∧decide (0≤z)=b:=by
  intro d
  induction d with
  |zero =>
   intro i hd hi h
   refine ⟨-1,Aa.of fun K k=>?_,?_⟩
   ·rw [Dl.l1,if_neg (by omega)]
   ·cases b with
    |false=>rfl
    |true=>obtain ⟨c,h1,h2⟩:=hb.1 rfl; rw [h c (by omega)] at h2; cases h2
  |succ d ih =>
   intro i hd hi h
   cases e:o.getD i false with
   |true =>
    refine ⟨(i:Int),Aa.of fun K k=>?_,?_⟩
    ·rw [Dl.l1,if_pos (by omega),if_pos ⟨by omega,by omega⟩,Int.toNat_natCast,e]; rfl
    ·rw [hb.2 ⟨i,by omega,e⟩]; exact decide_eq_true (by omega)
   |false =>
    obtain ⟨z,t,hz⟩:=ih (i+1) (by omega) (by omega) (fun c hc=>by
     by_cases e2:c=i
     ·subst e2; exact e
     ·exact h c (by omega))
    refine ⟨z,Aa.step (fun K k=>?_) t,hz⟩
    rw [Dl.l1,if_pos (by omega),if_pos ⟨by omega,by omega⟩,Int.toNat_natCast,e,Aj (by omega)]; rfl
 obtain ⟨z,t,hz⟩:=main _ 0 rfl (Nat.zero_le _) (fun c hc=>by omega)
 unfold Fw.f
 refine Ab.bind t.Gz ?_
 rw [hz]
 exact Ab.const _
theorem wT {ts:List (List Am)} {Sg:List Int} (h8:ts.length≤8) (hSig:Ab (fun K=>Ai.f K ts) (rowsOf Sg 6 ts.length)) {b:Bool} (hb:b=true↔∃ j,j<6*ts.length∧Sg.getD j 0=0):Ab (fun K=>C9.f K ts) b:=by
 have inner:∀ a,a<ts.length→((∀ j,j<6*(a+1)→Sg.getD j 0≠0)→Aa (fun K k=>C9.l1 K k (rowsOf Sg 6 ts.length) ((a+1:Nat):Int)) b)→∀ d e,6 - e=d→e≤6→(∀ j,j<6*a+e→Sg.getD j 0≠0)→Aa (fun K k=>C9.l4 K k (rowsOf Sg 6 ts.length) (a:Int) (e:Int)) b:=by
  intro a ha hR d
  induction d with
  |zero =>
   intro e hd he h
   obtain rfl:e=6:=by omega
   refine Aa.step (fun K k=>?_) (hR h)
   rw [C9.l4,if_neg (by omega),Aj (by omega)]
  |succ d ih =>
   intro e hd he h
   have he6:e<6:=by omega
   refine Aa.succ ?_
   simp only [C9.l4,Int.toNat_natCast,Ij ha,I7 he6,Iq,Gr]
   refine Aa.pos (by omega) (Aa.pos (by omega) (Aa.pos (by omega) ?_))
   by_cases h0:Sg.getD (6*a+e) 0=0
   ·rw [hb.2 ⟨_,by omega,h0⟩]
    exact Aa.pos h0 (Aa.const _)
   ·refine Aa.neg h0 ?_
    rw [Aj (by omega)]
    exact ih (e+1) (by omega) (by omega) fun j hj=>by
     by_cases e2:j=6*a+e
     ·subst e2; exact h0
     ·exact h j (by omega)
 have main:∀ d a,ts.length - a=d→a≤ts.length→(∀ j,j<6*a→Sg.getD j 0≠0)→Aa (fun K k=>C9.l1 K k (rowsOf Sg 6 ts.length) (a:Int)) b:=by
  intro d
  induction d with
  |zero =>
   intro a hd ha h
   obtain rfl:a=ts.length:=by omega
   refine Aa.of fun K k=>?_
   rw [C9.l1,if_neg (by rw [Gr]; omega)]
   cases b with
   |false=>rfl
   |true=>obtain ⟨j,h1,h2⟩:=hb.1 rfl; exact absurd h2 (h j h1)
  |succ d ih =>
   intro a hd ha h
   refine Aa.step (fun K k=>?_) (inner a (by omega) (ih (a+1) (by omega) (by omega)) 6 0 rfl (by omega) h)
   rw [C9.l1,if_pos (by rw [Gr]; omega)]
   rfl
 exact Ab.bind hSig (main _ 0 rfl (by omega) fun j hj=>by omega).Gz
section
variable {ts:List (List Am)} (hv:Val ts)
include hv
theorem nP {s:List Int} (hP:Hq (6*ts.length) (JE ts) s):∃ Sg:List Int,Sg.length=6*ts.length∧(∀ j,j<6*ts.length→Sg.getD j 0=0∨Sg.getD j 0=1∨Sg.getD j 0 = -1)∧(∀ i j,i<6*ts.length→j<6*ts.length→(CN (6*ts.length) s).getD i 0=(CN (6*ts.length) s).getD j 0→(Sg.getD i 0=0↔Sg.getD j 0=0)) ∧
  (Ab (fun K=>Co.f K ts) (CN (6*ts.length) s)→Ab (fun K=>Ah.f K ts) Sg)∧Ab (fun K=>Ai.f K ts) (rowsOf Sg 6 ts.length):=by
 have h8:=hv.le
 have e6:w64 (6*(ts.length:Int))=((6*ts.length:Nat):Int):=w6' (c:=6) (by decide) (by omega)
 have hrep:∀ j,(List.replicate (6*ts.length) (0:Int)).getD j 0=0:=fun j=>by rw [List.getD_eq_getElem?_getD,List.getElem?_replicate]; split<;>rfl
 obtain ⟨sg,rv,rev,o1,o2,o3,o4⟩:=outer hv hP (6*ts.length) 0 (List.replicate (6*ts.length) 0) (List.replicate (6*ts.length) false) [] (by omega) (by omega) ⟨by simp,by simp,fun i j _ _ _ h=>absurd (hrep i) h,fun j _=>.inl (hrep j),fun j _ h=>absurd (hrep j) h,fun j _ _=>rfl⟩ (fun j hj=>by omega)
 have hg:∀ i,i<6*ts.length→((List.range (6*ts.length)).map (sgF (CN (6*ts.length) s) sg rev)).getD i 0=sgF (CN (6*ts.length) s) sg rev i:=fun i hi=>by rw [List.getD_eq_getElem?_getD,List.getElem?_map,List.getElem?_range hi]; rfl
 refine ⟨(List.range (6*ts.length)).map (sgF (CN (6*ts.length) s) sg rev),by simp,fun j hj=>?_,fun i j hi hj he=>?_,fun hc=>?_,?_⟩
 ·rw [hg j hj]
  unfold sgF
  split
  ·exact .inl rfl
  ·exact o1.val j hj
 ·rw [hg i hi,hg j hj]
  unfold sgF
  rw [he]
  split
  ·exact Iff.rfl
  ·exact ⟨fun e=>absurd e (o2 i hi),fun e=>absurd e (o2 j hj)⟩
 ·have t:=o4 _ (tO hv hP (by omega) o1.len (Nl _ s) (6*ts.length) 0 sg (by omega) (by omega) o1.len (fun j hj=>by rw [if_neg (by omega)]))
  refine Ab.Kl (x:=(ts.length:Int)) rfl (Ab.pos (by omega) (Ab.pos (by rw [e6]; omega) (Ab.bind hc ?_)))
  rw [e6,Int.toNat_natCast]
  exact t.Gz
 ·have t:=o3 _ (rP hv hP o1.len o1.uQ (fun j hj=>o1.yes j hj (o2 j hj)) ts.length 0 (by omega) (by omega))
  refine Ab.Kl (x:=(ts.length:Int)) rfl (Ab.pos (by omega) (Ab.pos (by rw [e6]; omega) (Ab.pos (by rw [e6]; omega) ?_)))
  rw [e6,Int.toNat_natCast]
  exact t.Gz
end
def Nn (f:Nat→Nat):Nat→Nat→Nat
 |_,0=>0
 |i,m+1=>f i+Nn f (i+1) m
def Yb:Int:=1000000000000000
theorem Y3 {α:Type} {xs:List α} {i:Nat} {x z:α} (h:i<xs.length):(xs.set i x).getD i z=x:=by
 rw [List.getD_eq_getElem?_getD,List.getElem?_set_self h]; rfl
theorem gZ {α:Type} {xs:List α} {i j:Nat} {x z:α} (h:i≠j):(xs.set i x).getD j z=xs.getD j z:=by
 rw [List.getD_eq_getElem?_getD,List.getElem?_set_ne h,← List.getD_eq_getElem?_getD]
theorem We {α:Type} {xs:List α} {z:α} {l:Nat→Nat→List α→Int→Nat→Option (Int × List α)} {l':Nat→Nat→List α→Int→Nat→Option Int} {cnt:Nat→Nat}
  (he:∀ K k ys kk,ys.length=xs.length→l K (k+1) ys kk xs.length=some (kk,ys)) (he':∀ K k ys kk,ys.length=xs.length→l' K (k+1) ys kk xs.length=some kk)
  (h1:∀ i,i<xs.length→∀ kk:Int,0≤kk→kk+(cnt i:Int)≤Yb→∃ y,
   (∀ ys r,ys.length=xs.length→ys.getD i z=xs.getD i z→Aa (fun K k=>l K k (ys.set i y) (kk+(cnt i:Int)) (i+1)) r→Aa (fun K k=>l K k ys kk i) r) ∧
   (∀ ys r,ys.length=xs.length→ys.getD i z=y→Aa (fun K k=>l' K k ys (kk+(cnt i:Int)) (i+1)) r→Aa (fun K k=>l' K k ys kk i) r)) :
  ∀ (m i:Nat) (ys:List α) (kk:Int),xs.length - i=m→i≤xs.length→ys.length=xs.length→(∀ j,i≤j→j<xs.length→ys.getD j z=xs.getD j z)→0≤kk→kk+(Nn cnt i m:Int)≤Yb →
   ∃ zs,zs.length=xs.length∧(∀ j,j<i→zs.getD j z=ys.getD j z)∧Aa (fun K k=>l K k ys kk i) (kk+(Nn cnt i m:Int),zs)∧Aa (fun K k=>l' K k zs kk i) (kk+(Nn cnt i m:Int))
 |0,i,ys,kk,hm,hi,hy,hg,h0,hb=>by
  obtain rfl:i=xs.length:=by omega
  refine ⟨ys,hy,fun _ _=>rfl,Aa.of fun K k=>?_,Aa.of fun K k=>?_⟩
  ·rw [he K k ys kk hy]; simp [Nn]
  ·rw [he' K k ys kk hy]; simp [Nn]
 |m+1,i,ys,kk,hm,hi,hy,hg,h0,hb=>by
  have hlt:i<xs.length:=by omega
  have hs:(Nn cnt i (m+1):Int)=(cnt i:Int)+(Nn cnt (i+1) m:Int):=by rw [Nn]; omega
  obtain ⟨y,a,b⟩:=h1 i hlt kk h0 (by omega)
  obtain ⟨zs,z1,z2,z3,z4⟩:=We he he' h1 m (i+1) (ys.set i y) (kk+(cnt i:Int)) (by omega) (by omega) (by rw [List.length_set]; exact hy) (fun j hj hj'=>by rw [gZ (by omega)]; exact hg j (by omega) hj') (by omega) (by omega)
  have hk:kk+(Nn cnt i (m+1):Int)=kk+(cnt i:Int)+(Nn cnt (i+1) m:Int):=by omega
  rw [hk]
  refine ⟨zs,z1,fun j hj=>?_,a ys _ hy (hg i (Nat.le_refl _) hlt) z3,b zs _ z1 ?_ z4⟩
  ·rw [z2 j (by omega),gZ (by omega)]
  ·rw [z2 i (by omega),Y3 (by omega)]
def Vw {β:Type} (mark:Nat→List β→Int→Option (Int × List β)) (held:Nat→List β→Int→Option Int) (xs:List β) (c:Nat):Prop :=
 ∀ kk:Int,0≤kk→kk+(c:Int)≤Yb→∃ ys,ys.length=xs.length∧Ab (fun K=>mark K xs kk) (kk+(c:Int),ys)∧Ab (fun K=>held K ys kk) (kk+(c:Int))
theorem Vw.of {α:Type} {xs:List α} {z:α} {mark:Nat→List α→Int→Option (Int × List α)} {held:Nat→List α→Int→Option Int} {l:Nat→Nat→List α→Int→Int→Option (Int × List α)} {l':Nat→Nat→List α→Int→Int→Option Int} {cnt:Nat→Nat}
  (hm:∀ K xs kk,mark K xs kk=l K K xs kk 0) (hh:∀ K xs kk,held K xs kk=l' K K xs kk 0)
  (he:∀ K k ys kk,ys.length=xs.length→l K (k+1) ys kk (xs.length:Int)=some (kk,ys)) (he':∀ K k ys kk,ys.length=xs.length→l' K (k+1) ys kk (xs.length:Int)=some kk)
  (h1:∀ i,i<xs.length→∀ kk:Int,0≤kk→kk+(cnt i:Int)≤Yb→∃ y,
   (∀ ys r,ys.length=xs.length→ys.getD i z=xs.getD i z→Aa (fun K k=>l K k (ys.set i y) (kk+(cnt i:Int)) ((i+1:Nat):Int)) r→Aa (fun K k=>l K k ys kk (i:Int)) r) ∧
   (∀ ys r,ys.length=xs.length→ys.getD i z=y→Aa (fun K k=>l' K k ys (kk+(cnt i:Int)) ((i+1:Nat):Int)) r→Aa (fun K k=>l' K k ys kk (i:Int)) r)):Vw mark held xs (Nn cnt 0 xs.length):=fun kk h0 hb=>by
 obtain ⟨zs,z1,_,z3,z4⟩:=We (l:=fun K k ys kk i=>l K k ys kk (i:Int)) (l':=fun K k ys kk i=>l' K k ys kk (i:Int)) he he' h1 xs.length 0 xs kk (by omega) (by omega) rfl (fun _ _ _=>rfl) h0 hb
 exact ⟨zs,z1,Ab.congr (fun K=>hm K xs kk) z3.Gz,Ab.congr (fun K=>hh K zs kk) z4.Gz⟩
theorem Qq (c:Nat):∀ m i,Nn (fun _=>c) i m=c*m
 |0,_=>rfl
 |m+1,i=>by rw [Nn,Qq c m,Nat.mul_succ,Nat.add_comm]
section
variable {kk:Int}
theorem w1 (h0:0≤kk) (h1:kk≤Yb+10):w64 (kk+1)=kk+1:=by unfold Yb at h1; exact E9 (by omega) (by omega)
end
theorem dP {f:Nat→Nat} {B:Nat}:∀ (m i:Nat),(∀ j,i≤j→j<i+m→f j≤B)→Nn f i m≤B*m
 |0,_,_=>Nat.le_refl _
 |m+1,i,h=>by
  have h1:=h i (Nat.le_refl _) (by omega)
  have h2:=dP m (i+1) (fun j a b=>h j (by omega) (by omega))
  rw [Nn,Nat.mul_succ]; omega
def V4 {β:Type} (mark:Nat→List β→Int→Option (Int × List β)) (xs:List β) (c:Nat):Prop:=Vw mark (fun _ _ kk=>some (kk+(c:Int))) xs c
theorem V4.of {α:Type} {xs:List α} {z:α} {mark:Nat→List α→Int→Option (Int × List α)} {l:Nat→Nat→List α→Int→Int→Option (Int × List α)} {cnt:Nat→Nat}
  (hm:∀ K xs kk,mark K xs kk=l K K xs kk 0) (he:∀ K k ys kk,ys.length=xs.length→l K (k+1) ys kk (xs.length:Int)=some (kk,ys))
  (h1:∀ i,i<xs.length→∀ kk:Int,0≤kk→kk+(cnt i:Int)≤Yb→∃ y,
   (∀ ys r,ys.length=xs.length→ys.getD i z=xs.getD i z→Aa (fun K k=>l K k (ys.set i y) (kk+(cnt i:Int)) ((i+1:Nat):Int)) r→Aa (fun K k=>l K k ys kk (i:Int)) r)):V4 mark xs (Nn cnt 0 xs.length) :=
 Vw.of (z:=z) (l:=l) (l':=fun _ _ _ kk i=>some (kk+(Nn cnt i.toNat (xs.length - i.toNat):Int))) (cnt:=cnt) hm (fun _ _ _=>rfl) he (fun K k ys kk hy=>by simp [Nn]) fun i hi kk h0 hb=>by
  obtain ⟨y,hy⟩:=h1 i hi kk h0 hb
  refine ⟨y,hy,fun ys r _ _ h=>?_⟩
  have e:Nn cnt i (xs.length - i)=cnt i+Nn cnt (i+1) (xs.length - (i+1)):=by rw [show xs.length - i=(xs.length - (i+1))+1 by omega,Nn]
  simp only [Int.toNat_natCast] at h ⊢
  rw [e,Int.natCast_add,← Int.add_assoc]
  exact h
theorem gK {xs:List Am} (hn:xs.length≤2000000):V4 Fe.f xs (2*xs.length):=by
 have h:=V4.of (xs:=xs) (z:=Eo) (mark:=Fe.f) (l:=Fe.l1) (cnt:=fun _=>2) (fun _ _ _=>rfl)
  (fun K k ys kk hy=>by rw [Fe.l1,if_neg (by omega)]) (fun i hi kk h0 hb=>⟨⟨kk,kk+1⟩,fun ys r hy hg h=>Aa.step (fun K k=>?_) h⟩)
 ·rw [Qq] at h; exact h
 ·have e1:=w1 h0 (by omega)
  have e2:w64 (kk+1+1)=kk+2:=(w1 (by omega) (by omega)).trans (by omega)
  rw [Fe.l1,if_pos (by omega),if_pos (by omega),Int.toNat_natCast]
  simp only [Ho,List.length_set,if_pos (show 0≤(i:Int)∧(i:Int)<(ys.length:Int) by omega),Y3 (show i<ys.length by omega),List.set_set,e1,e2,Aj (show i<4611686018427387904 by omega)]
  rfl
def cF (xs:List (List Am)):Nat:=Nn (fun i=>2*(xs.getD i []).length) 0 xs.length
theorem aT {xs:List (List Am)} (hn:xs.length≤2000000) (h:∀ j,j<xs.length→(xs.getD j []).length≤2000000):V4 Ey.f xs (cF xs) :=
 V4.of (z:=[]) (l:=Ey.l1) (cnt:=fun i=>2*(xs.getD i []).length) (fun _ _ _=>rfl) (fun K k ys kk hy=>by rw [Ey.l1,if_neg (by omega)]) fun i hi kk h0 hb=>by
  obtain ⟨y,y1,y2,_⟩:=gK (h i hi) kk h0 hb
  refine ⟨y,fun ys r hy hg h=>?_⟩
  refine Aa.step (fun K k=>?_) (Aa.Dw (G:=fun K k a b=>if b.length=(xs.getD i []).length then Ey.l1 K k (ys.set i b) a ((i+1:Nat):Int) else none) y2.two (Aa.pos y1 h))
  rw [Ey.l1,if_pos (by omega),if_pos (by omega),Int.toNat_natCast,hg,Aj (by omega)]
theorem nH {xs:List (List Am)} (hn:xs.length≤2000000) (h:∀ j,j<xs.length→(xs.getD j []).length≤2000000):∃ (q:Int) (ys:List (List Am)),(0≤q∧q≤100000000000000)∧ys.length=xs.length∧Ab (fun K=>Hd.f K xs 1) (q,ys):=by
 have hc:cF xs≤4000000*xs.length:=by
  unfold cF
  exact dP xs.length 0 (fun j _ hj=>by have:=h j (by omega); show 2*(xs.getD j []).length≤4000000; omega)
 obtain ⟨ys,y1,y2,_⟩:=aT hn h 1 (by decide) (by unfold Yb; omega)
 exact ⟨1+(cF xs:Int),ys,⟨by omega,by omega⟩,y1,Ab.Dw y2 (Ab.pos y1 (Ab.const _))⟩
theorem V6 {xs:List Int} (hn:xs.length≤2000000):∀ (m i:Nat),xs.length - i=m→Aa (fun K k=>F9.l1 K k xs xs (i:Int)) true
 |0,i,hm=>Aa.of fun K k=>by rw [F9.l1,if_neg (by omega)]
 |m+1,i,hm=>by
  refine Aa.step (fun K k=>?_) (V6 hn m (i+1) (by omega))
  rw [F9.l1,if_pos (by omega),if_pos (by omega),if_pos (by omega),if_pos rfl,Aj (by omega)]
theorem wI {xs:List Int} (hn:xs.length≤2000000):Ab (fun K=>F9.f K xs xs) true:=Ab.pos rfl (V6 hn xs.length 0 rfl).Gz
theorem kT {xs:List Int} (hn:xs.length≤2000000):Vw Ei.f El.f xs xs.length:=by
 have h:=Vw.of (xs:=xs) (z:=0) (mark:=Ei.f) (held:=El.f) (l:=Ei.l1) (l':=El.l1) (cnt:=fun _=>1) (fun _ _ _=>rfl) (fun _ _ _=>rfl)
  (fun K k ys kk hy=>by rw [Ei.l1,if_neg (by omega)]) (fun K k ys kk hy=>by rw [El.l1,if_neg (by omega)]) (fun i hi kk h0 hb=>⟨kk,fun ys r hy hg h=>Aa.step (fun K k=>?_) h,fun ys r hy hg h=>Aa.step (fun K k=>?_) h⟩)
 ·rw [Qq,Nat.one_mul] at h; exact h
 ·rw [Ei.l1,if_pos (by omega),if_pos (by omega),Int.toNat_natCast,w1 h0 (by omega),Aj (by omega)]
  rfl
 ·rw [El.l1,if_pos (by omega),if_pos (by omega),Int.toNat_natCast,hg,if_pos rfl,w1 h0 (by omega),Aj (by omega)]
  rfl
theorem uA {xs:List Int} (hn:xs.length≤2000000):∃ (q:Int) (ys:List Int),¬ q<0∧ys.length=xs.length∧Ab (fun K=>Ei.f K xs 1) (q,ys)∧Ab (fun K=>El.f K ys 1) q:=by
 obtain ⟨ys,y1,y2,y3⟩:=kT hn 1 (by decide) (by unfold Yb; omega)
 exact ⟨1+(xs.length:Int),ys,by omega,y1,y2,y3⟩
theorem xJ {g:Int} {t:List Int} (hn:t.length≤2000000):Ab (fun K=>Em.f K g t g t) true:=Ab.pos rfl (Ab.bind (wI hn) (Ab.pos rfl (Ab.const _)))
theorem oG (g:Int) {xs:List Int} (hn:xs.length≤2000000):∃ (q:Int) (ys:List Int),¬ q<0∧ys.length=xs.length∧Ab (fun K=>Ht.f K g xs 1) (q,ys)∧Ab (fun K=>Ga.f K g ys 1) q:=by
 obtain ⟨q,ys,h1,h2,h3,h4⟩:=uA hn
 exact ⟨q,ys,h1,h2,Ab.Dw h3 (Ab.pos h2 (Ab.const _)),Ab.bind h4 (Ab.neg h1 (Ab.const _))⟩
theorem mD {l:List Int} {v:Int} (hl:l.length≤1000):∀ (d i:Nat),l.length - i=d→i≤l.length→(∀ j,j<i→l.getD j 0≠v)→Aa (fun K k=>Gx.l1 K k l v (i:Int)) (decide (v∈l))
 |0,i,hd,hi,h=>by
  obtain rfl:i=l.length:=by omega
  have:¬ v∈l:=fun hm=>by
   obtain ⟨j,hj,he⟩:=List.getElem_of_mem hm
   exact h j hj (by rw [List.getD_eq_getElem?_getD,List.getElem?_eq_getElem hj,he]; rfl)
  rw [decide_eq_false this]
  refine Aa.of fun K k=>?_
  rw [Gx.l1,if_neg (by omega)]
 |d+1,i,hd,hi,h=>by
  have hlt:i<l.length:=by omega
  by_cases hc:l.getD i 0=v
  ·have:v∈l:=by rw [← hc,List.getD_eq_getElem?_getD,List.getElem?_eq_getElem hlt]; exact List.getElem_mem hlt
   rw [decide_eq_true this]
   refine Aa.of fun K k=>?_
   rw [Gx.l1,if_pos (by omega),if_pos (by omega),Int.toNat_natCast,if_pos hc]
  ·refine Aa.step (fun K k=>?_) (mD hl d (i+1) (by omega) (by omega) (fun j hj=>by
    by_cases e:j=i
    ·subst e; exact hc
    ·exact h j (by omega)))
   rw [Gx.l1,if_pos (by omega),if_pos (by omega),Int.toNat_natCast,if_neg hc,Aj (by omega)]
theorem xL {l:List Int} {v:Int} (hl:l.length≤1000):Ab (fun K=>Gx.f K l v) (decide (v∈l)):=(mD hl l.length 0 (by omega) (by omega) (fun j hj=>by omega)).Gz
theorem Sa {fl:List Bool} (hl:fl.length≤100):∀ (d i:Nat) (o:List Int),fl.length - i=d→i≤fl.length→o.length≤i→(∀ v:Int,v∈o↔∃ c:Nat,v=(c:Int)∧c<i∧fl.getD c false=true) →
  ∃ o',Aa (fun K k=>Dt.l1 K k fl o (i:Int)) o'∧o'.length≤fl.length∧∀ v:Int,v∈o'↔∃ c:Nat,v=(c:Int)∧c<fl.length∧fl.getD c false=true
 |0,i,o,hd,hi,ho,h=>by
  obtain rfl:i=fl.length:=by omega
  exact ⟨o,Aa.of fun K k=>by rw [Dt.l1,if_neg (by omega)],ho,h⟩
 |d+1,i,o,hd,hi,ho,h=>by
  by_cases hc:fl.getD i false=true
  ·obtain ⟨o',t,g1,g2⟩:=Sa hl d (i+1) (o++[(i:Int)]) (by omega) (by omega) (by rw [List.length_append]; simp; omega) (fun v=>by
    rw [List.mem_append,h,List.mem_singleton]
    constructor
    ·rintro (⟨c,a,b,e⟩ | e)
     ·exact ⟨c,a,by omega,e⟩
     ·exact ⟨i,e,by omega,hc⟩
    ·rintro ⟨c,a,b,e⟩
     by_cases e2:c=i
     ·subst e2; exact .inr a
     ·exact .inl ⟨c,a,by omega,e⟩)
   refine ⟨o',Aa.step (fun K k=>?_) t,g1,g2⟩
   rw [Dt.l1,if_pos (by omega),if_pos (by omega),Int.toNat_natCast,if_pos hc,if_pos (by omega),Aj (by omega)]
  ·obtain ⟨o',t,g1,g2⟩:=Sa hl d (i+1) o (by omega) (by omega) (by omega) (fun v=>by
    rw [h]
    constructor
    ·rintro ⟨c,a,b,e⟩; exact ⟨c,a,by omega,e⟩
    ·rintro ⟨c,a,b,e⟩
     have:c≠i:=fun e2=>hc (e2 ▸ e)
     exact ⟨c,a,by omega,e⟩)
   refine ⟨o',Aa.step (fun K k=>?_) t,g1,g2⟩
   rw [Dt.l1,if_pos (by omega),if_pos (by omega),Int.toNat_natCast,if_neg hc,Aj (by omega)]
theorem Ui {fl:List Bool} (hl:fl.length≤100):∃ o,Ab (fun K=>Dt.f K fl) o∧o.length≤fl.length∧∀ v:Int,v∈o↔∃ c:Nat,v=(c:Int)∧c<fl.length∧fl.getD c false=true:=by
 obtain ⟨o,t,h1,h2⟩:=Sa hl fl.length 0 [] (by omega) (by omega) (by simp) (fun v=>⟨fun h=>(List.not_mem_nil h).elim,fun ⟨c,_,h,_⟩=>by omega⟩)
 exact ⟨o,t.Gz,h1,h2⟩
section
variable {ts:List (List Am)} (hv:Val ts)
include hv
def BdL (ts:List (List Am)) (L:List (List Int)) (D:Nat→Nat→Prop):Prop :=
 (∀ t,t<L.length→∃ a f:Nat,a<ts.length∧f<4∧L.getD t []=[(a:Int),(f:Int)]∧(Fg ts a f).Tet<0)∧∀ a f:Nat,D a f→(Fg ts a f).Tet<0→∃ t,t<L.length∧L.getD t []=[(a:Int),(f:Int)]
theorem gU {a:Nat} (ha:a<ts.length):∀ (d f:Nat) (L:List (List Int)),4 - f=d→f≤4→L.length≤4*a+f→BdL ts L (fun a' f'=>a'<a∧f'<4∨a'=a∧f'<f) →
  ∃ L',L'.length≤4*(a+1)∧BdL ts L' (fun a' f'=>a'<a+1∧f'<4)∧∀ R,Aa (fun K k=>Cw.l1 K k ts L' ((a+1:Nat):Int)) R→Aa (fun K k=>Cw.l4 K k ts (a:Int) L (f:Int)) R
 |0,f,L,hd,hf,hl,h=>by
  obtain rfl:f=4:=by omega
  have h8:=hv.le
  refine ⟨L,by omega,⟨h.1,fun a' f' hh=>h.2 a' f' (by by_cases e:a'=a; exact .inr ⟨e,hh.2⟩; exact .inl ⟨by omega,hh.2⟩)⟩,fun R hR=>Aa.step (fun K k=>?_) hR⟩
  rw [Cw.l4,if_neg (by decide),Aj (by omega)]
 |d+1,f,L,hd,hf,hl,h=>by
  have h8:=hv.le
  have h4:=hv.four a ha
  by_cases hc:(Fg ts a f).Tet<0
  ·obtain ⟨L',g1,g2,g3⟩:=gU ha d (f+1) (L++[[(a:Int),(f:Int)]]) (by omega) (by omega) (by rw [List.length_append]; simp; omega) ⟨fun t ht=>by
    rw [List.length_append] at ht
    by_cases e:t<L.length
    ·rw [List.getD_eq_getElem?_getD,List.getElem?_append_left e,← List.getD_eq_getElem?_getD]; exact h.1 t e
    ·have:t=L.length:=by simp at ht; omega
     refine ⟨a,f,ha,by omega,?_,hc⟩
     rw [this,List.getD_eq_getElem?_getD,List.getElem?_append_right (Nat.le_refl _),Nat.sub_self]; rfl,fun a' f' hh hb=>by
    by_cases e:a'=a∧f'=f
    ·refine ⟨L.length,by rw [List.length_append]; simp,?_⟩
     rw [List.getD_eq_getElem?_getD,List.getElem?_append_right (Nat.le_refl _),Nat.sub_self,e.1,e.2]; rfl
    ·obtain ⟨t,ht,he⟩:=h.2 a' f' (by rcases hh with hh | hh; exact .inl hh; exact .inr ⟨hh.1,by have:=fun e2=>e ⟨hh.1,e2⟩; omega⟩) hb
     exact ⟨t,by rw [List.length_append]; omega,by rw [List.getD_eq_getElem?_getD,List.getElem?_append_left ht,← List.getD_eq_getElem?_getD]; exact he⟩⟩
   refine ⟨L',g1,g2,fun R hR=>Aa.step (fun K k=>?_) (g3 R hR)⟩
   rw [Cw.l4,if_pos (by omega),if_pos (by omega),Int.toNat_natCast,if_pos (by omega),Int.toNat_natCast,Ho]
   show (if (Fg ts a f).Tet<0 then _ else _)=_
   rw [if_pos hc,if_pos (by omega),Aj (by omega)]
  ·obtain ⟨L',g1,g2,g3⟩:=gU ha d (f+1) L (by omega) (by omega) (by omega) ⟨h.1,fun a' f' hh hb=>h.2 a' f' (by
    rcases hh with hh | hh
    ·exact .inl hh
    ·refine .inr ⟨hh.1,?_⟩
     have:f'≠f:=fun e=>hc (by rw [← e,← hh.1]; exact hb)
     omega) hb⟩
   refine ⟨L',g1,g2,fun R hR=>Aa.step (fun K k=>?_) (g3 R hR)⟩
   rw [Cw.l4,if_pos (by omega),if_pos (by omega),Int.toNat_natCast,if_pos (by omega),Int.toNat_natCast,Ho]
   show (if (Fg ts a f).Tet<0 then _ else _)=_
   rw [if_neg hc,Aj (by omega)]
theorem qV:∀ (d a:Nat) (L:List (List Int)),ts.length - a=d→a≤ts.length→L.length≤4*a→BdL ts L (fun a' f'=>a'<a∧f'<4) →
  ∃ L',Aa (fun K k=>Cw.l1 K k ts L (a:Int)) L'∧L'.length≤4*ts.length∧BdL ts L' (fun a' f'=>a'<ts.length∧f'<4)
 |0,a,L,hd,ha,hl,h=>by
  obtain rfl:a=ts.length:=by omega
  exact ⟨L,Aa.of fun K k=>by rw [Cw.l1,if_neg (by omega)],hl,h⟩
 |d+1,a,L,hd,ha,hl,h=>by
  have h8:=hv.le
  obtain ⟨L1,g1,g2,g3⟩:=gU hv (a:=a) (by omega) 4 0 L (by omega) (by omega) (by omega) ⟨h.1,fun a' f' hh hb=>h.2 a' f' (by rcases hh with hh | hh; exact hh; omega) hb⟩
  obtain ⟨L',t,k1,k2⟩:=qV d (a+1) L1 (by omega) (by omega) g1 g2
  refine ⟨L',Aa.step (fun K k=>?_) (g3 _ t),k1,k2⟩
  rw [Cw.l1,if_pos (by omega)]
  rfl
theorem Aas:∃ L,Ab (fun K=>Cw.f K ts) L∧L.length≤4*ts.length∧BdL ts L (fun a' f'=>a'<ts.length∧f'<4):=by
 obtain ⟨L,t,h1,h2⟩:=qV hv ts.length 0 [] (by omega) (by omega) (by simp) ⟨fun t ht=>by simp at ht,fun a' f' hh=>by omega⟩
 exact ⟨L,t.Gz,h1,h2⟩
section
variable {vs ys fs:List Int} {L:List (List Int)} (hL:L.length≤4*ts.length)
include hL
theorem aW {a f t:Nat} (ha:a<ts.length) (hf:f<4) (ht:t<L.length) (hLt:L.getD t []=[(a:Int),(f:Int)]) {fb vb:List Bool}:∀ (d e:Nat) (eb:List Bool),6 - e=d→e≤6→eb.length=Ce ys (6*ts.length) →
  ∃ eb',eb'.length=Ce ys (6*ts.length)∧(∀ c:Nat,eb'.getD c false=true↔eb.getD c false=true∨∃ e',e≤e'∧e'<6∧EA e'≠f∧EB e'≠f∧(CN (6*ts.length) ys).getD (6*a+e') 0=(c:Int)) ∧
   ∀ R,Aa (fun K k=>Au.l1 K k (rowsOf (CN (4*ts.length) vs) 4 ts.length) (rowsOf (CN (6*ts.length) ys) 6 ts.length) (rowsOf (CN (4*ts.length) fs) 4 ts.length) L vb eb' (fb.set ((CN (4*ts.length) fs).getD (4*a+f) 0).toNat true) ((t+1:Nat):Int)) R →
    Aa (fun K k=>Au.l10 K k (rowsOf (CN (4*ts.length) vs) 4 ts.length) (rowsOf (CN (6*ts.length) ys) 6 ts.length) (rowsOf (CN (4*ts.length) fs) 4 ts.length) L fb (t:Int) vb eb (e:Int)) R
 |0,e,eb,hd,he,hl=>by
  obtain rfl:e=6:=by omega
  have h8:=hv.le
  refine ⟨eb,hl,fun c=>⟨fun h=>.inl h,fun h=>h.elim id (fun ⟨e',a1,a2,_⟩=>by omega)⟩,fun R hR=>Aa.step (fun K k=>?_) hR⟩
  rw [Au.l10,if_neg (by decide),Int.toNat_natCast,hLt]
  show Au.l1 K k _ _ _ L vb eb (fb.set (((rowsOf (CN (4*ts.length) fs) 4 ts.length).getD (a:Int).toNat []).getD (f:Int).toNat 0).toNat true) (w64 ((t:Int)+1))=_
  rw [Int.toNat_natCast,Int.toNat_natCast,Ij ha,I7 hf,Aj (by omega)]
 |d+1,e,eb,hd,he,hl=>by
  have h8:=hv.le
  have he6:e<6:=by omega
  have hin:6*a+e<6*ts.length:=mul_lt ha he6
  have hr:=K9 (s:=ys) (N:=6*ts.length) (by omega) hin
  obtain ⟨c0,hc0⟩:∃ c:Nat,(CN (6*ts.length) ys).getD (6*a+e) 0=(c:Int):=⟨((CN (6*ts.length) ys).getD (6*a+e) 0).toNat,by omega⟩
  have hleE:=Jh ys (6*ts.length)
  by_cases hc:EA e=f∨EB e=f
  ·obtain ⟨eb',g1,g2,g3⟩:=aW ha hf ht hLt (fb:=fb) (vb:=vb) d (e+1) eb (by omega) (by omega) hl
   refine ⟨eb',g1,fun c=>?_,fun R hR=>Aa.step (fun K k=>?_) (g3 R hR)⟩
   ·rw [g2 c]
    constructor
    ·rintro (h | ⟨e',a1,a2⟩)
     ·exact .inl h
     ·exact .inr ⟨e',by omega,a2⟩
    ·rintro (h | ⟨e',a1,a2,a3,a4,a5⟩)
     ·exact .inl h
     ·have:e'≠e:=fun e2=>by subst e2; rcases hc with hc | hc<;>contradiction
      exact .inr ⟨e',by omega,a2,a3,a4,a5⟩
   ·rw [Au.l10,if_pos (by omega),P7 he6,Int.toNat_natCast,hLt,Aj (by omega)]
    show (if ((EA e:Nat):Int)=(f:Int) then _ else if ((EB e:Nat):Int)=(f:Int) then _ else _)=_
    by_cases h1:EA e=f
    ·rw [if_pos (by omega)]
    ·rw [if_neg (by omega),if_pos (by omega)]
  ·obtain ⟨eb',g1,g2,g3⟩:=aW ha hf ht hLt (fb:=fb) (vb:=vb) d (e+1) (eb.set c0 true) (by omega) (by omega) (by rw [List.length_set]; exact hl)
   refine ⟨eb',g1,fun c=>?_,fun R hR=>Aa.step (fun K k=>?_) (g3 R hR)⟩
   ·rw [g2 c,R7 (by omega)]
    by_cases e2:c0=c
    ·rw [if_pos e2]
     exact ⟨fun _=>.inr ⟨e,Nat.le_refl _,he6,fun h=>hc (.inl h),fun h=>hc (.inr h),by rw [hc0,e2]⟩,fun _=>.inl rfl⟩
    ·rw [if_neg e2]
     constructor
     ·rintro (h | ⟨e',a1,a2⟩)
      ·exact .inl h
      ·exact .inr ⟨e',by omega,a2⟩
     ·rintro (h | ⟨e',a1,a2,a3,a4,a5⟩)
      ·exact .inl h
      ·have:e'≠e:=fun e3=>e2 (by subst e3; rw [hc0] at a5; omega)
       exact .inr ⟨e',by omega,a2,a3,a4,a5⟩
   ·rw [Au.l10,if_pos (by omega),P7 he6,Int.toNat_natCast,hLt,Aj (by omega)]
    show (if ((EA e:Nat):Int)=(f:Int) then _ else if ((EB e:Nat):Int)=(f:Int) then _ else (if 0≤(a:Int)∧(a:Int)<_ then (if 0≤(e:Int)∧(e:Int)<(((rowsOf (CN (6*ts.length) ys) 6 ts.length).getD (a:Int).toNat []).length:Int) then (if 0≤((rowsOf (CN (6*ts.length) ys) 6 ts.length).getD (a:Int).toNat []).getD (e:Int).toNat 0∧((rowsOf (CN (6*ts.length) ys) 6 ts.length).getD (a:Int).toNat []).getD (e:Int).toNat 0<_ then Au.l10 K k _ _ _ L fb (t:Int) vb (eb.set (((rowsOf (CN (6*ts.length) ys) 6 ts.length).getD (a:Int).toNat []).getD (e:Int).toNat 0).toNat true) _ else none) else none) else none))=_
    rw [if_neg (by omega),if_neg (by omega),if_pos (by rw [Gr]; omega),Int.toNat_natCast,Ij ha,if_pos (by rw [Iq]; omega),Int.toNat_natCast,I7 he6,hc0,if_pos (by omega),Int.toNat_natCast]
end
end
section
variable {ts:List (List Am)} (hv:Val ts)
include hv
section
variable {vs ys fs:List Int} {L:List (List Int)} (hL:L.length≤4*ts.length)
include hL
theorem lL {a f t:Nat} (ha:a<ts.length) (hf:f<4) (ht:t<L.length) (hLt:L.getD t []=[(a:Int),(f:Int)]) {fb eb:List Bool}:∀ (d v:Nat) (vb:List Bool),4 - v=d→v≤4→vb.length=Ce vs (4*ts.length) →
  ∃ vb',vb'.length=Ce vs (4*ts.length)∧∀ R,Aa (fun K k=>Au.l10 K k (rowsOf (CN (4*ts.length) vs) 4 ts.length) (rowsOf (CN (6*ts.length) ys) 6 ts.length) (rowsOf (CN (4*ts.length) fs) 4 ts.length) L fb (t:Int) vb' eb 0) R →
    Aa (fun K k=>Au.l8 K k (rowsOf (CN (4*ts.length) vs) 4 ts.length) (rowsOf (CN (6*ts.length) ys) 6 ts.length) (rowsOf (CN (4*ts.length) fs) 4 ts.length) L eb fb (t:Int) vb (v:Int)) R
 |0,v,vb,hd,he,hl=>by
  obtain rfl:v=4:=by omega
  refine ⟨vb,hl,fun R hR=>Aa.step (fun K k=>?_) hR⟩
  rw [Au.l8,if_neg (by decide)]
 |d+1,v,vb,hd,he,hl=>by
  have h8:=hv.le
  have hv4:v<4:=by omega
  have hin:4*a+v<4*ts.length:=mul_lt ha hv4
  have hr:=K9 (s:=vs) (N:=4*ts.length) (by omega) hin
  obtain ⟨c0,hc0⟩:∃ c:Nat,(CN (4*ts.length) vs).getD (4*a+v) 0=(c:Int):=⟨((CN (4*ts.length) vs).getD (4*a+v) 0).toNat,by omega⟩
  by_cases hc:v=f
  ·obtain ⟨vb',g1,g3⟩:=lL ha hf ht hLt (fb:=fb) (eb:=eb) d (v+1) vb (by omega) (by omega) hl
   refine ⟨vb',g1,fun R hR=>Aa.step (fun K k=>?_) (g3 R hR)⟩
   rw [Au.l8,if_pos (by omega),Int.toNat_natCast,hLt,Aj (by omega)]
   show (if (v:Int)=(f:Int) then _ else _)=_
   rw [if_pos (by omega)]
  ·obtain ⟨vb',g1,g3⟩:=lL ha hf ht hLt (fb:=fb) (eb:=eb) d (v+1) (vb.set c0 true) (by omega) (by omega) (by rw [List.length_set]; exact hl)
   refine ⟨vb',g1,fun R hR=>Aa.step (fun K k=>?_) (g3 R hR)⟩
   rw [Au.l8,if_pos (by omega),Int.toNat_natCast,hLt,Aj (by omega)]
   show (if (v:Int)=(f:Int) then _ else (if 0≤(a:Int)∧(a:Int)<_ then (if 0≤(v:Int)∧(v:Int)<(((rowsOf (CN (4*ts.length) vs) 4 ts.length).getD (a:Int).toNat []).length:Int) then (if 0≤((rowsOf (CN (4*ts.length) vs) 4 ts.length).getD (a:Int).toNat []).getD (v:Int).toNat 0∧((rowsOf (CN (4*ts.length) vs) 4 ts.length).getD (a:Int).toNat []).getD (v:Int).toNat 0<_ then Au.l8 K k _ _ _ L eb fb (t:Int) (vb.set (((rowsOf (CN (4*ts.length) vs) 4 ts.length).getD (a:Int).toNat []).getD (v:Int).toNat 0).toNat true) _ else none) else none) else none))=_
   rw [if_neg (by omega),if_pos (by rw [Gr]; omega),Int.toNat_natCast,Ij ha,if_pos (by rw [Iq]; omega),Int.toNat_natCast,I7 hv4,hc0,if_pos (by omega),Int.toNat_natCast]
theorem rJ (hB:BdL ts L (fun a' f'=>a'<ts.length∧f'<4)):∀ (d t:Nat) (vb eb fb:List Bool),L.length - t=d→t≤L.length→vb.length=Ce vs (4*ts.length)→eb.length=Ce ys (6*ts.length)→fb.length=Ce fs (4*ts.length) →
      (∀ c:Nat,eb.getD c false=true↔∃ t',t'<t∧∃ a f e:Nat,a<ts.length∧f<4∧e<6∧L.getD t' []=[(a:Int),(f:Int)]∧(Fg ts a f).Tet<0∧EA e≠f∧EB e≠f∧(CN (6*ts.length) ys).getD (6*a+e) 0=(c:Int)) →
    ∃ V E F,Aa (fun K k=>Au.l1 K k (rowsOf (CN (4*ts.length) vs) 4 ts.length) (rowsOf (CN (6*ts.length) ys) 6 ts.length) (rowsOf (CN (4*ts.length) fs) 4 ts.length) L vb eb fb (t:Int)) (V,E,F)∧E.length≤100 ∧
      ∀ v:Int,v∈E↔∃ c:Nat,v=(c:Int)∧c<Ce ys (6*ts.length)∧∃ t',t'<L.length∧∃ a f e:Nat,a<ts.length∧f<4∧e<6∧L.getD t' []=[(a:Int),(f:Int)]∧(Fg ts a f).Tet<0∧EA e≠f∧EB e≠f∧(CN (6*ts.length) ys).getD (6*a+e) 0=(c:Int)
  | 0,t,vb,eb,fb,hd,ht,l1,l2,l3,h=>by
    obtain rfl:t=L.length:=by omega
    have h8:=hv.le
    have u1:=Jh vs (4*ts.length)
    have u2:=Jh ys (6*ts.length)
    have u3:=Jh fs (4*ts.length)
    obtain ⟨V,tV,_,_⟩:=Ui (fl:=vb) (by omega)
    obtain ⟨E,tE,g1,g2⟩:=Ui (fl:=eb) (by omega)
    obtain ⟨F,tF,_,_⟩:=Ui (fl:=fb) (by omega)
    refine ⟨V,E,F,Aa.step (G:=fun K k=>(Dt.f K vb).bind fun t412=>(Dt.f K eb).bind fun t418=>(Dt.f K fb).bind fun t424=>some (t412,t418,t424)) (fun K k=>by rw [Au.l1,if_neg (by omega)]) (Aa.bind (G:=fun K k t412=>(Dt.f K eb).bind fun t418=>(Dt.f K fb).bind fun t424=>some (t412,t418,t424)) tV.two (Aa.bind (G:=fun K k t418=>(Dt.f K fb).bind fun t424=>some (V,t418,t424)) tE.two (Aa.bind (G:=fun K k t424=>some (V,E,t424)) tF.two (Aa.const _)))),by omega,fun v=>?_⟩
    rw [g2]
    constructor
    · rintro ⟨c,a,b,e⟩; exact ⟨c,a,by omega,(h c).1 e⟩
    · rintro ⟨c,a,b,e⟩; exact ⟨c,a,by omega,(h c).2 e⟩
  | d+1,t,vb,eb,fb,hd,ht,l1,l2,l3,h=>by
    have h8:=hv.le
    have hlt:t<L.length:=by omega
    obtain ⟨a,f,ha,hf,hLt,hbd⟩:=hB.1 t hlt
    have hin:4*a+f<4*ts.length:=mul_lt ha hf
    have hr:=K9 (s:=fs) (N:=4*ts.length) (by omega) hin
    obtain ⟨vb',k1,k2⟩:=lL hv hL (ys:=ys) (fs:=fs) ha hf hlt hLt (fb:=fb) (eb:=eb) 4 0 vb (by omega) (by omega) l1
    obtain ⟨eb',k3,k4,k5⟩:=aW hv hL (vs:=vs) (fs:=fs) ha hf hlt hLt (fb:=fb) (vb:=vb') 6 0 eb (by omega) (by omega) l2
    obtain ⟨V,E,F,tt,g1,g2⟩:=rJ hB d (t+1) vb' eb' (fb.set ((CN (4*ts.length) fs).getD (4*a+f) 0).toNat true) (by omega) (by omega) k1 k3 (by rw [List.length_set]; exact l3) (fun c=>by
      rw [k4 c,h c]
      constructor
      · rintro (⟨t',b1,b2⟩|⟨e',b1,b2,b3,b4,b5⟩)
        · exact ⟨t',by omega,b2⟩
        · exact ⟨t,by omega,a,f,e',ha,hf,b2,hLt,hbd,b3,b4,b5⟩
      · rintro ⟨t',b1,a',f',e',b2,b3,b4,b5,b6,b7⟩
        by_cases e2:t'=t
        · subst e2
          rw [hLt] at b5
          injection b5 with c1 c2
          injection c2 with c2 _
          obtain rfl:a=a':=by omega
          obtain rfl:f=f':=by omega
          exact .inr ⟨e',by omega,b4,b7⟩
        · exact .inl ⟨t',by omega,a',f',e',b2,b3,b4,b5,b6,b7⟩)
    refine ⟨V,E,F,Aa.step (fun K k=>?_) (k2 _ (k5 _ tt)),g1,g2⟩
    rw [Au.l1,if_pos (by omega),if_pos (by omega),Int.toNat_natCast,hLt]
    show (if 0≤(0:Int)∧(0:Int)<2 then (if 0≤(1:Int)∧(1:Int)<2 then (if 0≤(a:Int)∧(a:Int)<_ then (if 0≤(f:Int)∧(f:Int)<(((rowsOf (CN (4*ts.length) fs) 4 ts.length).getD (a:Int).toNat []).length:Int) then (if 0≤((rowsOf (CN (4*ts.length) fs) 4 ts.length).getD (a:Int).toNat []).getD (f:Int).toNat 0∧((rowsOf (CN (4*ts.length) fs) 4 ts.length).getD (a:Int).toNat []).getD (f:Int).toNat 0<_ then _ else none) else none) else none) else none) else none)=_
    rw [if_pos (by decide),if_pos (by decide),if_pos (by rw [Gr]; omega),Int.toNat_natCast,Ij ha,if_pos (by rw [Iq]; omega),Int.toNat_natCast,I7 hf,if_pos (by omega)]
    rfl
end
theorem Aau (hT:Ab (fun K=>Af.f K ts) true) {vs ys fs:List Int} (hc:Ab (fun K=>Bb.f K ts) (rowsOf (CN (4*ts.length) vs) 4 ts.length,rowsOf (CN (6*ts.length) ys) 6 ts.length,rowsOf (CN (4*ts.length) fs) 4 ts.length,[(Ce vs (4*ts.length):Int),(Ce ys (6*ts.length):Int),(Ce fs (4*ts.length):Int),(ts.length:Int)])) :
  ∃ V E F,Ab (fun K=>Au.f K ts) (V,E,F)∧E.length≤100∧∀ j,j<6*ts.length→((CN (6*ts.length) ys).getD j 0∈E↔∃ j',j'<6*ts.length∧(CN (6*ts.length) ys).getD j' 0=(CN (6*ts.length) ys).getD j 0∧∃ f,bdE ts j' f):=by
 have h8:=hv.le
 have u1:=Jh vs (4*ts.length)
 have u2:=Jh ys (6*ts.length)
 have u3:=Jh fs (4*ts.length)
 obtain ⟨L,tL,hL,hB⟩:=Aas hv
 have hrep:∀ (m j:Nat),(List.replicate m false).getD j false=false:=fun m j=>by rw [List.getD_eq_getElem?_getD,List.getElem?_replicate]; split<;>rfl
 obtain ⟨V,E,F,t,g1,g2⟩:=rJ hv hL (vs:=vs) (ys:=ys) (fs:=fs) hB L.length 0 (List.replicate (Ce vs (4*ts.length)) false) (List.replicate (Ce ys (6*ts.length)) false) (List.replicate (Ce fs (4*ts.length)) false) (by omega) (by omega) (by simp) (by simp) (by simp) (fun c=>by rw [hrep]; exact ⟨fun h=>(by cases h),fun ⟨t',h,_⟩=>by omega⟩)
 refine ⟨V,E,F,Ab.bind hT (Ab.pos rfl (Ab.Hm hc (Ab.pos (by simp) (Ab.pos ?_ (Ab.pos ?_ (Ab.pos (by simp) (Ab.pos ?_ (Ab.pos ?_ (Ab.pos (by simp) (Ab.pos ?_ (Ab.pos ?_ (Ab.bind tL ?_)))))))))))),g1,fun j hj=>?_⟩
 ·show 0≤(Ce vs (4*ts.length):Int); omega
 ·show (Ce vs (4*ts.length):Int).toNat*1≤_; omega
 ·show 0≤(Ce ys (6*ts.length):Int); omega
 ·show (Ce ys (6*ts.length):Int).toNat*1≤_; omega
 ·show 0≤(Ce fs (4*ts.length):Int); omega
 ·show (Ce fs (4*ts.length):Int).toNat*1≤_; omega
 ·exact t.Gz
 ·rw [g2]
  have hr:=K9 (s:=ys) (N:=6*ts.length) (by omega) hj
  constructor
  ·rintro ⟨c,e1,e2,t',b1,a,f,e,b2,b3,b4,b5,b6,b7,b8,b9⟩
   refine ⟨6*a+e,mul_lt b2 b4,by rw [b9,e1],f,b3,?_⟩
   rw [(de6 b4).1,(de6 b4).2]
   exact ⟨b7,b8,b6⟩
  ·rintro ⟨j',a1,a2,f,b1,b2,b3,b4⟩
   obtain ⟨t',c1,c2⟩:=hB.2 (j' / 6) f ⟨by omega,b1⟩ b4
   refine ⟨((CN (6*ts.length) ys).getD j 0).toNat,by omega,by omega,t',c1,j' / 6,f,j' % 6,by omega,b1,by omega,c2,b4,b2,b3,?_⟩
   rw [show 6*(j' / 6)+j' % 6=j' by omega,a2]; omega
end
end Go.Proofs.YtgkgmhkgahalgaaGreat
