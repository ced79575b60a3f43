/-
  The reductions of both packages end, and with the same diagonal.
  The reductions of both packages end, with the same outcome.
  Invariant factors, torsion, products: the homology of two matrices in both packages.
  Products, and the homology of two matrices, in both packages.
  The signs of faces in both packages.
  The signs of faces in the reference.
  Boundary matrices as numbers added to a matrix of zeros.
-/
import Derived.Test.YtgkgmhkgahalgaaGreatPlHF
import Derived.Test.YtgkgmhkgahalgaaGreatPlHA
set_option linter.unusedVariables false
set_option linter.unusedSimpArgs false
set_option linter.unusedSectionVars false
namespace Go.Proofs.YtgkgmhkgahalgaaGreat
open Go.RowKit
theorem Aa.Mj {α β γ δ ε ζ η:Type} {F:Nat→Nat→Option (α × β × γ × δ × ε × ζ)} {G:Nat→Nat→α→β→γ→δ→ε→ζ→Option η} {a:α} {b:β} {c:γ} {d:δ} {e:ε} {f:ζ} {r:η} (h:Aa F (a,b,c,d,e,f)) (g:Aa (fun K k=>G K k a b c d e f) r):Aa (fun K k=>Go.Proofs.YtgkgmhkgahalgaaGreat.Mj (F K k) (G K k)) r:=by
  obtain ⟨n,hn⟩:=h
  obtain ⟨m,hm⟩:=g
  exact ⟨n+m,fun K k hK hk=>by show Go.Proofs.YtgkgmhkgahalgaaGreat.Mj (F K k) (G K k)=some r; rw [hn K k (by omega) (by omega)]; exact hm K k (by omega) (by omega)⟩
theorem Ab.Mj {α β γ δ ε ζ η:Type} {F:Nat→Option (α × β × γ × δ × ε × ζ)} {G:Nat→α→β→γ→δ→ε→ζ→Option η} {a:α} {b:β} {c:γ} {d:δ} {e:ε} {f:ζ} {r:η} (h:Ab F (a,b,c,d,e,f)) (g:Ab (fun K=>G K a b c d e f) r):Ab (fun K=>Go.Proofs.YtgkgmhkgahalgaaGreat.Mj (F K) (G K)) r:=by
  obtain ⟨n,hn⟩:=h
  obtain ⟨m,hm⟩:=g
  exact ⟨n+m,fun K hK=>by show Go.Proofs.YtgkgmhkgahalgaaGreat.Mj (F K) (G K)=some r; rw [hn K (by omega)]; exact hm K (by omega)⟩
theorem Aa.Ww {α β γ δ ε ζ η θ ι:Type} {F:Nat→Nat→Option (α × β × γ × δ × ε × ζ × η × θ)} {G:Nat→Nat→α→β→γ→δ→ε→ζ→η→θ→Option ι} {a:α} {b:β} {c:γ} {d:δ} {e:ε} {f:ζ} {x:η} {y:θ} {r:ι} (h:Aa F (a,b,c,d,e,f,x,y)) (g:Aa (fun K k=>G K k a b c d e f x y) r):Aa (fun K k=>Go.Proofs.YtgkgmhkgahalgaaGreat.Ww (F K k) (G K k)) r:=by
  obtain ⟨n,hn⟩:=h
  obtain ⟨m,hm⟩:=g
  exact ⟨n+m,fun K k hK hk=>by show Go.Proofs.YtgkgmhkgahalgaaGreat.Ww (F K k) (G K k)=some r; rw [hn K k (by omega) (by omega)]; exact hm K k (by omega) (by omega)⟩
inductive Nx
  | stop
  | bad
  | go (next:Bool) (s:Sm)
def sx (m n k:Nat) (s:Sm):Nx:=match pvt m n k s with
  | none=>.stop
  | some s1=>match clr m n k s1 with
    | none=>.bad
    | some s2=>if Ra m n k s2.d=true then (if Rl n k s2.d (m - (k+1)) (k+1)<0 then .go true s2 else match Mk m n k (Rl n k s2.d (m - (k+1)) (k+1)).toNat (-1) s2 with
        | none=>.bad
        | some s3=>.go false s3) else .go false s2
section
variable {m n k:Nat} {s:Sm}
theorem Ov {d:List Int}:∀ {c i:Nat},i+c=m→Rl n k d c i<0∨∃ j:Nat,Rl n k d c i=(j:Int)∧i≤j∧j<m∧Pv n k d j=false
  | 0,_,_=>.inl (show (-1:Int)<0 by decide)
  | c+1,i,h=>by
    unfold Rl
    cases hd:Pv n k d i with
    | true =>
      rw [if_pos rfl]
      rcases Ov (c:=c) (i:=i+1) (by omega) with h1 | ⟨j,h1,h2,h3,h4⟩
      · exact .inl h1
      · exact .inr ⟨j,h1,by omega,h3,h4⟩
    | false=>rw [if_neg (by decide)]; exact .inr ⟨i,rfl,Nat.le_refl _,by omega,hd⟩
abbrev M3 (m n:Nat) (z:Bool) (s:Sm) (k:Int) (K x:Nat):=D6.l1 K x (m:Int) (m:Int) (m:Int) (m:Int) (m:Int) (n:Int) (n:Int) (n:Int) (n:Int) (n:Int) s.l s.li s.d s.r s.ri z k
theorem aK {k:Int}:Aa (fun K x=>M3 m n true s k K x) (Vp (true,s)):=Aa.of fun K x=>by
  simp only [M3,D6.l1]
  rw [if_pos trivial]; rfl
theorem Aah (hm:m≤1000) (hn:n≤1000) (h:Ok m n s) (hk:k<m) (hkn:k<n) :
    (sx m n k s=.stop→Aa (fun K x=>M3 m n false s (k:Int) K x) (Vp (false,s)))∧(sx m n k s=.bad→∃ u,Ok m n u∧Aa (fun K x=>M3 m n false s (k:Int) K x) (Vp (true,u))) ∧
    ∀ b s',sx m n k s=.go b s'→∀ r,Aa (fun K x=>M3 m n false s' ((k+b.toNat:Nat):Int) K x) r→Aa (fun K x=>M3 m n false s (k:Int) K x) r:=by
  have hp:=pI (b:=false) hm hn h hk hkn
  have hmin:(k:Int)<(if (n:Int)<(m:Int) then (n:Int) else (m:Int)):=by split <;> omega
  -- behind the pivot
  have step1:∀ {r},Aa (fun K x=>if (pvt m n k s).isSome=true then Go.Proofs.YtgkgmhkgahalgaaGreat.Mj (Bi.f K (m:Int) (m:Int) ((pvt m n k s).getD s).l (m:Int) (m:Int) ((pvt m n k s).getD s).li (m:Int) (n:Int) ((pvt m n k s).getD s).d (n:Int) (n:Int) ((pvt m n k s).getD s).r (n:Int) (n:Int) ((pvt m n k s).getD s).ri false (k:Int)) (fun z l li d r ri=>if l.length=((pvt m n k s).getD s).l.length then (if li.length=((pvt m n k s).getD s).li.length then (if d.length=((pvt m n k s).getD s).d.length then (if r.length=((pvt m n k s).getD s).r.length then (if ri.length=((pvt m n k s).getD s).ri.length then (if z=true then M3 m n z ⟨d,l,li,r,ri⟩ (k:Int) K x else ((Dg.f K (m:Int) (m:Int) l (m:Int) (m:Int) li (m:Int) (n:Int) d (n:Int) (n:Int) r (n:Int) (n:Int) ri z (k:Int)).bind fun c=>if c=true then ((Cq.f K (m:Int) (m:Int) l (m:Int) (m:Int) li (m:Int) (n:Int) d (n:Int) (n:Int) r (n:Int) (n:Int) ri z (k:Int)).bind fun o=>if 0≤o then Go.Proofs.YtgkgmhkgahalgaaGreat.Gs (Et.f K (m:Int) (m:Int) l (m:Int) (m:Int) li (m:Int) (n:Int) d (n:Int) (n:Int) r (n:Int) (n:Int) ri z (k:Int) o 1) (fun z' l' li' d'=>if l'.length=l.length then (if li'.length=li.length then (if d'.length=d.length then M3 m n z' ⟨d',l',li',r,ri⟩ (k:Int) K x else none) else none) else none) else M3 m n z ⟨d,l,li,r,ri⟩ (w64 ((k:Int)+1)) K x) else M3 m n z ⟨d,l,li,r,ri⟩ (k:Int) K x)) else none) else none) else none) else none) else none) else some (false,((pvt m n k s).getD s).l,((pvt m n k s).getD s).li,((pvt m n k s).getD s).d,((pvt m n k s).getD s).r,((pvt m n k s).getD s).ri)) r→Aa (fun K x=>M3 m n false s (k:Int) K x) r:=fun {r} hr=>by
    have hok:Ok m n ((pvt m n k s).getD s):=by
      cases hv:pvt m n k s with
      | none=>exact h
      | some t=>exact Qj h hv
    refine Aa.succ ?_
    simp only [M3,D6.l1]
    refine Aa.neg Bool.false_ne_true (Aa.pos hmin ?_)
    refine Aa.Mj hp.two ?_
    exact Aa.pos (hok.l.trans h.l.symm) (Aa.pos (hok.li.trans h.li.symm) (Aa.pos (hok.d.trans h.d.symm) (Aa.pos (hok.r.trans h.r.symm) (Aa.pos (hok.ri.trans h.ri.symm) hr))))
  unfold sx
  cases hv:pvt m n k s with
  | none =>
    rw [hv] at step1
    exact ⟨fun _=>step1 (Aa.neg (by decide) (Aa.const _)),fun e=>(by cases e),fun b s' e=>(by cases e)⟩
  | some s1 =>
    rw [hv] at step1
    have h1:=Qj h hv
    obtain ⟨p,q,_,_,_,_,hpos,_⟩:=Vl h hk hkn hv
    obtain ⟨⟨z,u⟩,f1,f2⟩:=oO hm hn h1 hk hkn hpos
    have hu:Ok m n u:=f1.ok
    have step2:∀ {r},Aa (fun K x=>if z=true then M3 m n z u (k:Int) K x else ((Dg.f K (m:Int) (m:Int) u.l (m:Int) (m:Int) u.li (m:Int) (n:Int) u.d (n:Int) (n:Int) u.r (n:Int) (n:Int) u.ri z (k:Int)).bind fun c=>if c=true then ((Cq.f K (m:Int) (m:Int) u.l (m:Int) (m:Int) u.li (m:Int) (n:Int) u.d (n:Int) (n:Int) u.r (n:Int) (n:Int) u.ri z (k:Int)).bind fun o=>if 0≤o then Go.Proofs.YtgkgmhkgahalgaaGreat.Gs (Et.f K (m:Int) (m:Int) u.l (m:Int) (m:Int) u.li (m:Int) (n:Int) u.d (n:Int) (n:Int) u.r (n:Int) (n:Int) u.ri z (k:Int) o 1) (fun z' l' li' d'=>if l'.length=u.l.length then (if li'.length=u.li.length then (if d'.length=u.d.length then M3 m n z' ⟨d',l',li',u.r,u.ri⟩ (k:Int) K x else none) else none) else none) else M3 m n z u (w64 ((k:Int)+1)) K x) else M3 m n z u (k:Int) K x)) r→Aa (fun K x=>M3 m n false s (k:Int) K x) r:=fun {r} hr =>
      step1 (Aa.pos rfl (Aa.Mj f2.two (Aa.pos (hu.l.trans h1.l.symm) (Aa.pos (hu.li.trans h1.li.symm) (Aa.pos (hu.d.trans h1.d.symm) (Aa.pos (hu.r.trans h1.r.symm) (Aa.pos (hu.ri.trans h1.ri.symm) hr)))))))
    dsimp only
    cases hc:clr m n k s1 with
    | none =>
      have hz:z=true:=by have:=f1.b; rw [hc] at this; exact this
      subst hz
      exact ⟨fun e=>(by cases e),fun _=>⟨u,hu,step2 (Aa.pos rfl aK)⟩,fun b s' e=>by cases e⟩
    | some s2 =>
      have e1:(z,u)=(false,s2):=by rw [hc] at f1; exact f1.isSome
      obtain ⟨rfl,rfl⟩:=Prod.mk.inj e1
      obtain ⟨_,ekk,_⟩:=Sb h1 hk hkn hpos hc
      have hkk:At n u.d k k≠0:=by rw [ekk]; omega
      have hcl:=gD (b:=false) hm hn hu hk hkn
      dsimp only
      cases hb:Ra m n k u.d with
      | false =>
        rw [hb] at hcl
        rw [if_neg (by decide)]
        refine ⟨fun e=>(by cases e),fun e=>(by cases e),fun b s' e r hr=>?_⟩
        injection e with e2 e3
        subst e2; subst e3
        exact step2 (Aa.neg Bool.false_ne_true (Aa.bind hcl.two (Aa.neg Bool.false_ne_true hr)))
      | true =>
        rw [hb] at hcl
        rw [if_pos rfl]
        have hud:=Zc (b:=false) hm hn hu hk hkn hkk
        rcases Ov (n:=n) (k:=k) (d:=u.d) (show k+1+(m - (k+1))=m by omega) with h5 | ⟨j,h5,h6,h7,h8⟩
        · rw [if_pos h5]
          refine ⟨fun e=>(by cases e),fun e=>(by cases e),fun b s' e r hr=>?_⟩
          injection e with e2 e3
          subst e2; subst e3
          refine step2 (Aa.neg Bool.false_ne_true (Aa.bind hcl.two (Aa.pos rfl (Aa.bind hud.two (Aa.neg (by omega) ?_)))))
          rw [Ap (by omega)]
          exact hr
        · rw [h5] at hud
          rw [h5,if_neg (by omega),Int.toNat_natCast]
          obtain ⟨⟨z,w⟩,g1,g2,g3,g4⟩:=Xi (i:=k) (k:=j) (q:=-1) hm hn hu hk h7 (by decide)
          have hw:Ok m n w:=g1.ok
          dsimp only at g2 g3 g4
          have step3:∀ {r},Aa (fun K x=>M3 m n z w (k:Int) K x) r→Aa (fun K x=>M3 m n false s (k:Int) K x) r:=fun {r} hr=>by
            refine step2 (Aa.neg Bool.false_ne_true (Aa.bind hcl.two (Aa.pos rfl (Aa.bind hud.two (Aa.pos (by omega) (Aa.Gs g4.two (Aa.pos (hw.l.trans hu.l.symm) (Aa.pos (hw.li.trans hu.li.symm) (Aa.pos (hw.d.trans hu.d.symm) ?_)))))))))
            rw [← g2,← g3]
            exact hr
          cases ho:Mk m n k j (-1) u with
          | none =>
            have hz:z=true:=by have:=g1.b; rw [ho] at this; exact this
            subst hz
            exact ⟨fun e=>(by cases e),fun _=>⟨w,hw,step3 aK⟩,fun b s' e=>by cases e⟩
          | some s3 =>
            have e2:(z,w)=(false,s3):=by rw [ho] at g1; exact g1.isSome
            obtain ⟨rfl,rfl⟩:=Prod.mk.inj e2
            refine ⟨fun e=>(by cases e),fun e=>(by cases e),fun b s' e r hr=>?_⟩
            injection e with e3 e4
            subst e3; subst e4
            exact step3 hr
def sxR:Nx→Bool × Bool × Bool
  | .stop=>(true,true,false)
  | .bad=>(false,false,true)
  | .go b _=>(b,false,false)
theorem Aae (hm:m≤1000) (hn:n≤1000) (h:Ok m n s) (hk:k<m) (hkn:k<n) :
    ∃ u,Ok m n u∧(sx m n k s=.stop→u=s)∧(∀ b s',sx m n k s=.go b s'→u=s')∧Ab (fun K=>Ci.f K (m:Int) (n:Int) s.d (m:Int) (m:Int) s.l (m:Int) (m:Int) s.li (n:Int) (n:Int) s.r (n:Int) (n:Int) s.ri false (k:Int)) (Z8 ((sxR (sx m n k s)).1,(sxR (sx m n k s)).2.1,(sxR (sx m n k s)).2.2,u)):=by
  have hp:=kD (b:=false) hm hn h hk hkn
  have hok:Ok m n ((pvt m n k s).getD s):=by
    cases hv:pvt m n k s with
    | none=>exact h
    | some t=>exact Qj h hv
  have step1:∀ {r},Aa (fun K x=>if (pvt m n k s).isSome=true then Qk m n k false ((pvt m n k s).getD s) ((k+1:Nat):Int) K x else some (true,true,false,((pvt m n k s).getD s).d,((pvt m n k s).getD s).l,((pvt m n k s).getD s).li,((pvt m n k s).getD s).r,((pvt m n k s).getD s).ri)) r→Ab (fun K=>Ci.f K (m:Int) (n:Int) s.d (m:Int) (m:Int) s.l (m:Int) (m:Int) s.li (n:Int) (n:Int) s.r (n:Int) (n:Int) s.ri false (k:Int)) r:=fun {r} hr=>by
    unfold Ci.f
    refine Ab.Mj hp ?_
    refine Ab.pos (hok.d.trans h.d.symm) (Ab.pos (hok.l.trans h.l.symm) (Ab.pos (hok.li.trans h.li.symm) (Ab.pos (hok.r.trans h.r.symm) (Ab.pos (hok.ri.trans h.ri.symm) ?_))))
    rw [Ap (by omega)]
    exact hr.G9
  unfold sx
  cases hv:pvt m n k s with
  | none =>
    rw [hv] at step1
    exact ⟨s,h,fun _=>rfl,fun b s' e=>(by cases e),step1 (Aa.neg (by decide) (Aa.const _))⟩
  | some s1 =>
    rw [hv] at step1
    have h1:=Qj h hv
    obtain ⟨p,q,_,_,_,_,hpos,_⟩:=Vl h hk hkn hv
    obtain ⟨c1,c2⟩:=wY hm hn h1 hk hkn (Nat.lt_succ_self k) (show k+1+(m - (k+1))=m by omega) hpos
    dsimp only
    cases hc:clr m n k s1 with
    | none =>
      obtain ⟨u,u1,u2⟩:=c1 hc
      exact ⟨u,u1,fun e=>(by cases e),fun b s' e=>(by cases e),step1 (Aa.pos rfl u2)⟩
    | some u =>
      obtain ⟨hu,ekk,_⟩:=Sb h1 hk hkn hpos hc
      have hkk:At n u.d k k≠0:=by rw [ekk]; omega
      have hcl:=oV (b:=false) hm hn hu hk hkn
      have step2:∀ {r},Aa (fun K x=>(Dw.f K (m:Int) (n:Int) u.d (m:Int) (m:Int) u.l (m:Int) (m:Int) u.li (n:Int) (n:Int) u.r (n:Int) (n:Int) u.ri false (k:Int)).bind fun c=>if c=true then ((Dy.f K (m:Int) (n:Int) u.d (m:Int) (m:Int) u.l (m:Int) (m:Int) u.li (n:Int) (n:Int) u.r (n:Int) (n:Int) u.ri false (k:Int)).bind fun o=>if o<0 then some (true,false,false,u.d,u.l,u.li,u.r,u.ri) else Go.Proofs.YtgkgmhkgahalgaaGreat.Gs (Im.f K (m:Int) (n:Int) u.d (m:Int) (m:Int) u.l (m:Int) (m:Int) u.li (n:Int) (n:Int) u.r (n:Int) (n:Int) u.ri false (k:Int) o (-1)) (fun z d l li=>if d.length=u.d.length then (if l.length=u.l.length then (if li.length=u.li.length then some (false,false,z,d,l,li,u.r,u.ri) else none) else none) else none)) else some (false,false,false,u.d,u.l,u.li,u.r,u.ri)) r→Ab (fun K=>Ci.f K (m:Int) (n:Int) s.d (m:Int) (m:Int) s.l (m:Int) (m:Int) s.li (n:Int) (n:Int) s.r (n:Int) (n:Int) s.ri false (k:Int)) r:=fun {r} hr=>by
        refine step1 (Aa.pos rfl (c2 u r hc (Aa.step (fun K x=>?_) hr)))
        simp only [Qc,Ci.l7]
        rw [if_neg (by omega),if_neg Bool.false_ne_true]
      dsimp only
      cases hb:Ra m n k u.d with
      | false =>
        rw [hb] at hcl
        rw [if_neg (by decide)]
        exact ⟨u,hu,fun e=>(by cases e),fun b s' e=>(by injection e),step2 (Aa.bind hcl.two (Aa.neg Bool.false_ne_true (Aa.const _)))⟩
      | true =>
        rw [hb] at hcl
        rw [if_pos rfl]
        have hud:=xI (b:=false) hm hn hu hk hkn hkk
        rcases Ov (n:=n) (k:=k) (d:=u.d) (show k+1+(m - (k+1))=m by omega) with h5 | ⟨j,h5,h6,h7,h8⟩
        · rw [if_pos h5]
          exact ⟨u,hu,fun e=>(by cases e),fun b s' e=>(by injection e),step2 (Aa.bind hcl.two (Aa.pos rfl (Aa.bind hud.two (Aa.pos h5 (Aa.const _)))))⟩
        · rw [h5] at hud
          rw [h5,if_neg (by omega),Int.toNat_natCast]
          obtain ⟨⟨z,w⟩,g1,g2,g3,g4⟩:=qR (i:=k) (k:=j) (q:=-1) hm hn hu hk h7 (by decide) (by decide)
          have hw:Ok m n w:=g1.ok
          dsimp only at g2 g3 g4
          have step3:Ab (fun K=>Ci.f K (m:Int) (n:Int) s.d (m:Int) (m:Int) s.l (m:Int) (m:Int) s.li (n:Int) (n:Int) s.r (n:Int) (n:Int) s.ri false (k:Int)) (Z8 (false,false,z,w)):=by
            refine step2 (Aa.bind hcl.two (Aa.pos rfl (Aa.bind hud.two (Aa.neg (by omega) (Aa.Gs g4.two (Aa.pos (hw.d.trans hu.d.symm) (Aa.pos (hw.l.trans hu.l.symm) (Aa.pos (hw.li.trans hu.li.symm) ?_))))))))
            rw [← g2,← g3]
            exact Aa.const _
          cases ho:Mk m n k j (-1) u with
          | none =>
            have hz:z=true:=by have:=g1.b; rw [ho] at this; exact this
            subst hz
            exact ⟨w,hw,fun e=>(by cases e),fun b s' e=>(by cases e),step3⟩
          | some s3 =>
            have e2:(z,w)=(false,s3):=by rw [ho] at g1; exact g1.isSome
            obtain ⟨rfl,rfl⟩:=Prod.mk.inj e2
            exact ⟨w,hw,fun e=>(by cases e),fun b s' e=>(by injection e),step3⟩
end
theorem Ye {n:Nat} {P:Nat→Bool} (h:Ls n P=false):∃ j,j<n∧P j=false:=by
  unfold Ls at h
  rw [List.all_eq_false] at h
  obtain ⟨j,hj,hn⟩:=h
  exact ⟨j,List.mem_range.1 hj,Bool.eq_false_iff.2 hn⟩
section
variable {m n k:Nat} {s s':Sm}
def Ri (m n k:Nat) (s:Sm):Prop:=∀ t,t<k→t<m→t<n→0≤At n s.d t t
def InK (m n k i j:Nat):Prop:=k≤i∧i<m∧k≤j∧j<n
theorem Wn {d:List Int} (h:Ra m n k d=true):(∀ i,k<i→i<m→At n d i k=0)∧∀ j,k<j→j<n→At n d k j=0:=by
  unfold Ra at h
  rw [Bool.and_eq_true] at h
  refine ⟨fun i h1 h2=>?_,fun j h1 h2=>?_⟩
  · have:=Oi h.1 (j:=i - (k+1)) (by omega)
    rw [show k+1+(i - (k+1))=i by omega] at this
    simpa using this
  · have:=Oi h.2 (j:=j - (k+1)) (by omega)
    rw [show k+1+(j - (k+1))=j by omega] at this
    simpa using this
theorem aP {d:List Int} (h:Ra m n k d=false):(∃ i,k<i∧i<m∧At n d i k≠0)∨∃ j,k<j∧j<n∧At n d k j≠0:=by
  unfold Ra at h
  rw [Bool.and_eq_false_iff] at h
  rcases h with h | h
  · obtain ⟨x,h1,h2⟩:=Ye h
    exact .inl ⟨k+1+x,by omega,by omega,by simpa using h2⟩
  · obtain ⟨x,h1,h2⟩:=Ye h
    exact .inr ⟨k+1+x,by omega,by omega,by simpa using h2⟩
theorem Y5 {s1:Sm} (h:Ok m n s) (hk:k<m) (hkn:k<n) (hd:Ri m n k s) (hv:pvt m n k s=some s1) (hc:clr m n k s1=some s'):Ok m n s'∧Ri m n k s':=by
  have h1:=Qj h hv
  obtain ⟨p,q,_,_,_,_,hpos,_,_,e1⟩:=Vl h hk hkn hv
  obtain ⟨h2,_,_,_,e2⟩:=Sb h1 hk hkn hpos hc
  exact ⟨h2,fun t a b c=>by rw [e2 t t a a,e1 t t a a]; exact hd t a b c⟩
theorem Vo (h:Ok m n s) (hk:k<m) (hkn:k<n) (hd:Ri m n k s) (e:sx m n k s=.go false s'):Ok m n s'∧Ri m n k s'∧∃ P:Nat,0<P∧(∀ i j,InK m n k i j→At n s.d i j≠0→P≤(At n s.d i j).natAbs) ∧
    ((∃ i j,InK m n k i j∧At n s'.d i j≠0∧(At n s'.d i j).natAbs<P)∨(At n s'.d k k=(P:Int)∧∃ j,k<j∧j<n∧At n s'.d k j % (P:Int)≠0)):=by
  unfold sx at e
  cases hv:pvt m n k s with
  | none=>rw [hv] at e; cases e
  | some s1 =>
    rw [hv] at e
    dsimp only at e
    have h1:=Qj h hv
    obtain ⟨p,q,a1,a2,a3,a4,hpos,hP,hmin,_⟩:=Vl h hk hkn hv
    cases hc:clr m n k s1 with
    | none=>rw [hc] at e; cases e
    | some s2 =>
      rw [hc] at e
      obtain ⟨h2,hd2⟩:=Y5 h hk hkn hd hv hc
      obtain ⟨_,ekk,hcol,hrow,_⟩:=Sb h1 hk hkn hpos hc
      have hPP:At n s1.d k k=((At n s1.d k k).natAbs:Int):=by omega
      dsimp only at e
      cases hb:Ra m n k s2.d with
      | false =>
        rw [hb,if_neg (by decide)] at e
        injection e with _ e
        subst e
        refine ⟨h2,hd2,(At n s1.d k k).natAbs,by omega,fun i j hij hn=>by rw [hP]; exact hmin i j hij.1 hij.2.1 hij.2.2.1 hij.2.2.2 hn,.inl ?_⟩
        rcases aP hb with ⟨i,b1,b2,b3⟩ | ⟨j,b1,b2,b3⟩
        · have:=hcol i b1 b2
          exact ⟨i,k,⟨by omega,b2,Nat.le_refl _,hkn⟩,b3,by omega⟩
        · have h5:=hrow j b1 b2
          have h6:=Int.emod_nonneg (At n s1.d k j) (b:=At n s1.d k k) (by omega)
          have h7:=Int.emod_lt_of_pos (At n s1.d k j) hpos
          exact ⟨k,j,⟨Nat.le_refl _,hk,by omega,b2⟩,b3,by omega⟩
      | true =>
        rw [hb,if_pos rfl] at e
        obtain ⟨z1,z2⟩:=Wn hb
        rcases Ov (n:=n) (k:=k) (d:=s2.d) (show k+1+(m - (k+1))=m by omega) with h5 | ⟨j,h5,h6,h7,h8⟩
        · rw [if_pos h5] at e; cases e
        · rw [h5,if_neg (by omega),Int.toNat_natCast] at e
          cases ho:Mk m n k j (-1) s2 with
          | none=>rw [ho] at e; dsimp only at e; cases e
          | some s3 =>
            rw [ho] at e
            dsimp only at e
            injection e with _ e
            subst e
            have hat:∀ i' j',j'<n→At n s3.d i' j'=if i'=k then At n s2.d k j' - (-1) * At n s2.d j j' else At n s2.d i' j':=fun i' j' hj'=>Q7 h2 hk h7 (by omega) ho hj'
            refine ⟨(Vu h2 ho).1,fun t b1 b2 b3=>by rw [hat t t b3,if_neg (by omega)]; exact hd2 t b1 b2 b3,(At n s1.d k k).natAbs,by omega,fun i j hij hn=>by rw [hP]; exact hmin i j hij.1 hij.2.1 hij.2.2.1 hij.2.2.2 hn,.inr ⟨?_,?_⟩⟩
            · rw [hat k k hkn,if_pos rfl,ekk,z1 j (by omega) h7]; omega
            · unfold Pv at h8
              obtain ⟨x,b1,b2⟩:=Ye h8
              refine ⟨k+1+x,by omega,by omega,?_⟩
              rw [hat k (k+1+x) (by omega),if_pos rfl,z2 (k+1+x) (by omega) (by omega),← hPP,← ekk]
              have b3:(At n s2.d j (k+1+x)).tmod (At n s2.d k k)≠0:=by simpa using b2
              intro b4
              apply b3
              rw [show (0:Int) - -1 * At n s2.d j (k+1+x)=At n s2.d j (k+1+x) by omega] at b4
              exact Int.tmod_eq_zero_of_dvd (Int.dvd_of_emod_eq_zero b4)
theorem Yc (h:Ok m n s) (hk:k<m) (hkn:k<n) (hd:Ri m n k s) (e:sx m n k s=.go true s'):Ok m n s'∧Ri m n (k+1) s':=by
  unfold sx at e
  cases hv:pvt m n k s with
  | none=>rw [hv] at e; cases e
  | some s1 =>
    rw [hv] at e
    dsimp only at e
    have h1:=Qj h hv
    obtain ⟨p,q,a1,a2,a3,a4,hpos,hP,hmin,_⟩:=Vl h hk hkn hv
    cases hc:clr m n k s1 with
    | none=>rw [hc] at e; cases e
    | some s2 =>
      rw [hc] at e
      obtain ⟨h2,hd2⟩:=Y5 h hk hkn hd hv hc
      obtain ⟨_,ekk,_⟩:=Sb h1 hk hkn hpos hc
      dsimp only at e
      have hs:s2=s':=by
        split at e
        · split at e
          · injection e
          · split at e
            · cases e
            · cases e
        · cases e
      subst hs
      refine ⟨h2,fun t b1 b2 b3=>?_⟩
      by_cases e:t=k
      · subst e; rw [ekk]; omega
      · exact hd2 t (by omega) b2 b3
theorem iI {P:Nat} (h:Ok m n s) (hk:k<m) (hkn:k<n) (hP:0<P) (hkk:At n s.d k k=(P:Int)) (hmin:∀ i j,InK m n k i j→At n s.d i j=0∨P≤(At n s.d i j).natAbs) {j:Nat} (hj:k<j) (hjn:j<n) (hr:At n s.d k j % (P:Int)≠0) :
    sx m n k s=.bad∨∃ t,sx m n k s=.go false t∧∃ i j,InK m n k i j∧At n t.d i j≠0∧(At n t.d i j).natAbs<P:=by
  have hv:=vV hk hkn (s:=s) (by omega) (fun i j b1 b2 b3 b4=>by
    rcases hmin i j ⟨b1,b2,b3,b4⟩ with h5 | h5
    · exact .inl h5
    · exact .inr (by omega))
  unfold sx
  rw [hv]
  dsimp only
  cases hc:clr m n k s with
  | none=>exact .inl rfl
  | some t =>
    obtain ⟨h2,ekk,hcol,hrow,_⟩:=Sb h hk hkn (by omega) hc
    have e1:At n t.d k j=At n s.d k j % (P:Int):=by rw [hrow j hj hjn,hkk]
    have hb:Ra m n k t.d=false:=by
      cases hb:Ra m n k t.d with
      | false=>rfl
      | true=>exact absurd ((Wn hb).2 j hj hjn) (by rw [e1]; exact hr)
    dsimp only
    rw [hb,if_neg (by decide)]
    have h6:=Int.emod_nonneg (At n s.d k j) (b:=(P:Int)) (by omega)
    have h7:=Int.emod_lt_of_pos (At n s.d k j) (b:=(P:Int)) (by omega)
    exact .inr ⟨t,rfl,k,j,⟨Nat.le_refl _,hk,by omega,hjn⟩,by rw [e1]; exact hr,by omega⟩
abbrev Sy (m n k:Nat) (s:Sm) (z d a:Bool) (K x:Nat):=Dl.l4 K x (m:Int) (n:Int) (m:Int) (m:Int) (m:Int) (m:Int) (n:Int) (n:Int) (n:Int) (n:Int) (k:Int) s.d s.l s.li s.r s.ri z d a
abbrev Z7 (m n k:Nat) (s:Sm) (K x:Nat):=Dl.l1 K x (m:Int) (n:Int) (m:Int) (m:Int) (m:Int) (m:Int) (n:Int) (n:Int) (n:Int) (n:Int) s.d s.l s.li s.r s.ri false (k:Int)
def outT (m n:Nat) (v:Bool × Sm):Int × Int × List Int × Int × Int × List Int × Int × Int × List Int × Int × Int × List Int × Int × Int × List Int × Bool:=((m:Int),(n:Int),v.2.d,(m:Int),(m:Int),v.2.l,(m:Int),(m:Int),v.2.li,(n:Int),(n:Int),v.2.r,(n:Int),(n:Int),v.2.ri,v.1)
structure Res (m n:Nat) (F:Nat→Nat→Option (Bool × List Int × List Int × List Int × List Int × List Int)) (H:Nat→Nat→Option (Int × Int × List Int × Int × Int × List Int × Int × Int × List Int × Int × Int × List Int × Int × Int × List Int × Bool)) (b:Bool) (u v:Sm):Prop where
  ou:Ok m n u
  ov:Ok m n v
  eq:b=false→u=v∧Ri m n m u
  i:Aa F (Vp (b,u))
  s:Aa H (outT m n (b,v))
def R4 (m n k:Nat) (s:Sm):Prop:=∃ b u v,Res m n (fun K x=>M3 m n false s (k:Int) K x) (fun K x=>Sy m n k s false false false K x) b u v
def R1 (m n k:Nat) (s:Sm):Prop:=∃ b u v,Res m n (fun K x=>M3 m n false s (k:Int) K x) (fun K x=>Z7 m n k s K x) b u v
theorem P8 {r:Int × Int × List Int × Int × Int × List Int × Int × Int × List Int × Int × Int × List Int × Int × Int × List Int × Bool} {u:Sm} {d a z:Bool} (h:Ok m n s) (hu:Ok m n u) (ht:Ab (fun K=>Ci.f K (m:Int) (n:Int) s.d (m:Int) (m:Int) s.l (m:Int) (m:Int) s.li (n:Int) (n:Int) s.r (n:Int) (n:Int) s.ri false (k:Int)) (Z8 (d,a,z,u))) (hr:Aa (fun K x=>Sy m n k u z d a K x) r):Aa (fun K x=>Sy m n k s false false false K x) r:=by
  refine Aa.succ ?_
  simp only [Sy,Dl.l4]
  refine Aa.neg Bool.false_ne_true (Aa.neg Bool.false_ne_true ?_)
  exact Aa.Ww ht.two (Aa.pos (hu.d.trans h.d.symm) (Aa.pos (hu.l.trans h.l.symm) (Aa.pos (hu.li.trans h.li.symm) (Aa.pos (hu.r.trans h.r.symm) (Aa.pos (hu.ri.trans h.ri.symm) hr)))))
theorem jK (hm:m≤1000) (hn:n≤1000) (h:Ok m n s) (hk:k<m) (hkn:k<n) (hd:Ri m n k s) (hb:∀ s',sx m n k s=.go false s'→R4 m n k s') (ht:∀ s',sx m n k s=.go true s'→R1 m n (k+1) s'):R4 m n k s:=by
  obtain ⟨i1,i2,i3⟩:=Aah hm hn h hk hkn
  obtain ⟨u,hu,s1,s2,s3⟩:=Aae hm hn h hk hkn
  cases hx:sx m n k s with
  | stop =>
    obtain rfl:=s1 hx
    rw [hx] at s3
    refine ⟨false,u,u,h,h,fun _=>⟨rfl,fun t a b c=>?_⟩,i1 hx,P8 h h s3 (Aa.of fun K x=>?_)⟩
    · by_cases e:t<k
      · exact hd t e b c
      · have hv:pvt m n k u=none:=by
          unfold sx at hx
          cases hv:pvt m n k u with
          | none=>rfl
          | some s1 =>
            rw [hv] at hx
            dsimp only at hx
            split at hx
            · cases hx
            · split at hx
              · split at hx
                · cases hx
                · split at hx <;> cases hx
              · cases hx
        rw [iM hv t t (by omega) b (by omega) c]
        omega
    · simp only [Sy,Dl.l4]
      rfl
  | bad =>
    obtain ⟨u',hu',i4⟩:=i2 hx
    rw [hx] at s3
    refine ⟨true,u',u,hu',hu,fun e=>(by cases e),i4,P8 h hu s3 (Aa.of fun K x=>?_)⟩
    simp only [Sy,Dl.l4]
    rfl
  | go b s' =>
    obtain rfl:=s2 b s' hx
    rw [hx] at s3
    cases b with
    | false =>
      obtain ⟨b,u',v,⟨o1,o2,o3,o4,o5⟩⟩:=hb u hx
      exact ⟨b,u',v,o1,o2,o3,i3 false u hx _ o4,P8 h hu s3 o5⟩
    | true =>
      obtain ⟨b,u',v,⟨o1,o2,o3,o4,o5⟩⟩:=ht u hx
      refine ⟨b,u',v,o1,o2,o3,i3 true u hx _ o4,P8 h hu s3 (Aa.step (fun K x=>?_) o5)⟩
      simp only [Sy,Z7,Dl.l4,sxR]
      rw [Ap (by omega)]
      rfl
theorem jM (hm:m≤1000) (hn:n≤1000) (hk:k<m) (hkn:k<n) (hnext:∀ s',Ok m n s'→Ri m n (k+1) s'→R1 m n (k+1) s'):∀ (a:Nat) (s:Sm),Ok m n s→Ri m n k s→(∃ i j,InK m n k i j∧At n s.d i j≠0∧(At n s.d i j).natAbs≤a)→R4 m n k s:=by
  intro a
  induction a using Nat.strongRecOn with
  | _ a ih =>
    intro s h hd ⟨i,j,hij,h0,hle⟩
    refine jK hm hn h hk hkn hd (fun s' e=>?_) (fun s' e=>by obtain ⟨h1,h2⟩:=Yc h hk hkn hd e; exact hnext s' h1 h2)
    obtain ⟨h1,hd1,P,hP,hmin,hc⟩:=Vo h hk hkn hd e
    have hPa:P≤a:=Nat.le_trans (hmin i j hij h0) hle
    have low:∀ t:Sm,Ok m n t→Ri m n k t→(∃ i j,InK m n k i j∧At n t.d i j≠0∧(At n t.d i j).natAbs<P)→R4 m n k t:=fun t ht hdt ⟨i,j,b1,b2,b3⟩=>ih (P - 1) (by omega) t ht hdt ⟨i,j,b1,b2,by omega⟩
    rcases hc with hc | ⟨hkk,j,b1,b2,b3⟩
    · exact low s' h1 hd1 hc
    · by_cases hex:∃ i j,InK m n k i j∧At n s'.d i j≠0∧(At n s'.d i j).natAbs<P
      · exact low s' h1 hd1 hex
      · have hmin':∀ i j,InK m n k i j→At n s'.d i j=0∨P≤(At n s'.d i j).natAbs:=fun i j hij=>by
          by_cases e0:At n s'.d i j=0
          · exact .inl e0
          · exact .inr (Nat.le_of_not_lt fun hlt=>hex ⟨i,j,hij,e0,hlt⟩)
        refine jK hm hn h1 hk hkn hd1 (fun t et=>?_) (fun t et=>by obtain ⟨h2,h3⟩:=Yc h1 hk hkn hd1 et; exact hnext t h2 h3)
        rcases iI h1 hk hkn hP hkk hmin' b1 b2 b3 with e1 | ⟨t',e1,hlow⟩
        · rw [e1] at et; cases et
        · rw [e1] at et
          injection et with _ et
          subst et
          obtain ⟨h2,hd2,_⟩:=Vo h1 hk hkn hd1 e1
          exact low t' h2 hd2 hlow
theorem uV (hm:m≤1000) (hn:n≤1000) (hk:k<m) (hkn:k<n) (hnext:∀ s',Ok m n s'→Ri m n (k+1) s'→R1 m n (k+1) s') (h:Ok m n s) (hd:Ri m n k s):R4 m n k s:=by
  refine jK hm hn h hk hkn hd (fun s' e=>?_) (fun s' e=>by obtain ⟨h2,h3⟩:=Yc h hk hkn hd e; exact hnext s' h2 h3)
  obtain ⟨h1,hd1,P,hP,hmin,hc⟩:=Vo h hk hkn hd e
  rcases hc with ⟨i,j,b1,b2,b3⟩ | ⟨hkk,j,b1,b2,b3⟩
  · exact jM hm hn hk hkn hnext (At n s'.d i j).natAbs s' h1 hd1 ⟨i,j,b1,b2,Nat.le_refl _⟩
  · exact jM hm hn hk hkn hnext P s' h1 hd1 ⟨k,k,⟨Nat.le_refl _,hk,Nat.le_refl _,hkn⟩,by omega,by omega⟩
theorem uM (hm:m≤1000) (hn:n≤1000):∀ (c k:Nat) (s:Sm),(m - k)+(n - k)≤c→Ok m n s→Ri m n k s→R1 m n k s:=by
  intro c
  induction c with
  | zero =>
    intro k s hc h hd
    refine ⟨false,s,s,h,h,fun _=>⟨rfl,fun t a b c=>hd t (by omega) b c⟩,Aa.of fun K x=>?_,Aa.of fun K x=>?_⟩
    · simp only [M3,D6.l1]
      rw [if_neg Bool.false_ne_true,if_neg (by split <;> omega)]; rfl
    · simp only [Z7,Dl.l1]
      rw [if_neg (by split <;> omega)]; rfl
  | succ c ih =>
    intro k s hc h hd
    by_cases hk:k<m∧k<n
    · obtain ⟨b,u,v,⟨o1,o2,o3,o4,o5⟩⟩:=uV hm hn hk.1 hk.2 (fun s' h' hd'=>ih (k+1) s' (by omega) h' hd') h hd
      refine ⟨b,u,v,o1,o2,o3,o4,Aa.step (fun K x=>?_) o5⟩
      simp only [Z7,Sy,Dl.l1]
      rw [if_pos (by split <;> omega)]
    · refine ⟨false,s,s,h,h,fun _=>⟨rfl,fun t a b c=>hd t (by omega) b c⟩,Aa.of fun K x=>?_,Aa.of fun K x=>?_⟩
      · simp only [M3,D6.l1]
        rw [if_neg Bool.false_ne_true,if_neg (by split <;> omega)]; rfl
      · simp only [Z7,Dl.l1]
        rw [if_neg (by split <;> omega)]; rfl
end
theorem Ab.Mh {α0 α1 α2 α3 α4 α5 α6 α7 α8 α9 α10 α11 α12 α13 α14 α15 β:Type} {F:Nat→Option (α0 × α1 × α2 × α3 × α4 × α5 × α6 × α7 × α8 × α9 × α10 × α11 × α12 × α13 × α14 × α15)} {G:Nat→α0→α1→α2→α3→α4→α5→α6→α7→α8→α9→α10→α11→α12→α13→α14→α15→Option β} {a0:α0} {a1:α1} {a2:α2} {a3:α3} {a4:α4} {a5:α5} {a6:α6} {a7:α7} {a8:α8} {a9:α9} {a10:α10} {a11:α11} {a12:α12} {a13:α13} {a14:α14} {a15:α15} {r:β}
    (h:Ab F (a0,a1,a2,a3,a4,a5,a6,a7,a8,a9,a10,a11,a12,a13,a14,a15)) (g:Ab (fun K=>G K a0 a1 a2 a3 a4 a5 a6 a7 a8 a9 a10 a11 a12 a13 a14 a15) r):Ab (fun K=>Go.Proofs.YtgkgmhkgahalgaaGreat.Mh (F K) (G K)) r:=by
  obtain ⟨n,hn⟩:=h
  obtain ⟨m,hm⟩:=g
  exact ⟨n+m,fun K hK=>by show Go.Proofs.YtgkgmhkgahalgaaGreat.Mh (F K) (G K)=some r; rw [hn K (by omega)]; exact hm K (by omega)⟩
theorem Po {m n:Nat} (hm:m≤1000) (hn:n≤1000):Ee.f (m:Int) (n:Int)=some ((m:Int),(n:Int),List.replicate (m * n) (0:Int)):=by
  unfold Ee.f
  have h:=Jv hm hn
  rw [← Int.natCast_mul,Q9 (by omega),if_pos (by omega),Int.toNat_natCast,if_pos (by omega)]
theorem Ot {m n:Nat} (hm:m≤1000) (hn:n≤1000):Hu.f (m:Int) (n:Int)=some ((m:Int),(n:Int),List.replicate (m * n) (0:Int)):=Po hm hn
theorem pF (N:Nat):Bd (List.replicate N (0:Int)):=fun p=>by
  rw [List.getD_eq_getElem?_getD,List.getElem?_replicate]; split <;> simp
def idM (n:Nat):List Int:=itF (fun j xs=>xs.set (j * n+j) 1) n 0 (List.replicate (n * n) 0)
theorem Nq (n:Nat):(idM n).length=n * n:=Oq (I:=fun xs:List Int=>xs.length=n * n) (fun j s h=>by rw [List.length_set]; exact h) (List.length_replicate)
theorem Yh (n:Nat):Bd (idM n):=Oq (I:=Bd) (fun j s h=>h.set (by omega) (by omega)) (pF _)
theorem nW {n:Nat} (hn:n≤1000):Ab (fun K=>Ec.f K (n:Int)) ((n:Int),(n:Int),idM n):=by
  unfold Ec.f
  refine Ab.Fe (Ab.congr (fun K=>Po hn hn) (Ab.const _)) (Aa.G9 (F:=fun K k=>Ec.l1 K k (n:Int) (n:Int) (n:Int) (List.replicate (n * n) 0) ((0:Nat):Int)) ?_)
  refine La (f:=fun j xs=>xs.set (j * n+j) 1) (l:=fun K k xs j=>Ec.l1 K k (n:Int) (n:Int) (n:Int) xs (j:Int)) (I:=fun xs=>xs.length=n * n) (n:=n) (fun j s _ h=>by rw [List.length_set]; exact h) (fun K k' xs j hj hl=>?_) n 0 _ (by omega) (List.length_replicate) (fun _=>Aa.of fun K k'=>?_)
  · show Ec.l1 K (k'+1) (n:Int) (n:Int) (n:Int) xs (j:Int)=_
    simp only [Ec.l1]
    rw [if_pos (by omega),Ll hl hl hj hj hn hn,Ap (by omega),Int.toNat_natCast]
  · simp only [Ec.l1]
    rw [if_neg (by omega)]; rfl
theorem pG {n:Nat} (hn:n≤1000):Ab (fun K=>Fq.f K (n:Int)) ((n:Int),(n:Int),idM n):=by
  unfold Fq.f
  refine Ab.Fe (Ab.congr (fun K=>Ot hn hn) (Ab.const _)) (Aa.G9 (F:=fun K k=>Fq.l1 K k (n:Int) (n:Int) (n:Int) (List.replicate (n * n) 0) ((0:Nat):Int)) ?_)
  refine La (f:=fun j xs=>xs.set (j * n+j) 1) (l:=fun K k xs j=>Fq.l1 K k (n:Int) (n:Int) (n:Int) xs (j:Int)) (I:=fun xs=>xs.length=n * n) (n:=n) (fun j s _ h=>by rw [List.length_set]; exact h) (fun K k' xs j hj hl=>?_) n 0 _ (by omega) (List.length_replicate) (fun _=>Aa.of fun K k'=>?_)
  · show Fq.l1 K (k'+1) (n:Int) (n:Int) (n:Int) xs (j:Int)=_
    have h:=Ji hj hj
    simp only [Fq.l1]
    rw [if_pos (by omega),R6 (by omega) (by omega) hn,if_pos ⟨by omega,by omega⟩,Ap (by omega),Int.toNat_natCast]
  · simp only [Fq.l1]
    rw [if_neg (by omega)]; rfl
def V7 (n:Nat) (d:List Int):Nat→Nat→List Int→List Int
  | 0,_,o=>o
  | c+1,i,o=>V7 n d c (i+1) (if At n d i i=0 then o else o++[At n d i i])
theorem Vr {n m:Nat} {d:List Int} (hd:∀ t,t<m→t<n→0≤At n d t t):∀ {c i:Nat} {o:List Int},i+c≤m→i+c≤n→(∀ x,x ∈ o→0<x)→(∀ x,x ∈ V7 n d c i o→0<x)∧(V7 n d c i o).length≤o.length+c
  | 0,_,o,_,_,h=>⟨h,Nat.le_refl _⟩
  | c+1,i,o,h1,h2,h=>by
    have h3:=hd i (by omega) (by omega)
    unfold V7
    by_cases e:At n d i i=0
    · rw [if_pos e]
      obtain ⟨a,b⟩:=Vr hd (c:=c) (i:=i+1) (o:=o) (by omega) (by omega) h
      exact ⟨a,by omega⟩
    · rw [if_neg e]
      obtain ⟨a,b⟩:=Vr hd (c:=c) (i:=i+1) (o:=o++[At n d i i]) (by omega) (by omega) (fun x hx=>by
        rcases List.mem_append.1 hx with hx | hx
        · exact h x hx
        · rw [List.mem_singleton.1 hx]; omega)
      rw [List.length_append,List.length_singleton] at b
      exact ⟨a,by omega⟩
section
variable {m n:Nat} {d:List Int}
def mn (m n:Nat):Nat:=if n<m then n else m
theorem Qz (m n:Nat):(if (n:Int)<(m:Int) then (n:Int) else (m:Int))=((mn m n:Nat):Int):=by
  unfold mn; by_cases h:n<m
  · rw [if_pos h,if_pos (by omega)]
  · rw [if_neg h,if_neg (by omega)]
theorem zL (m n:Nat):mn m n≤m∧mn m n≤n:=by unfold mn; split <;> omega
theorem Rb (hm:m≤1000) (hn:n≤1000) (hl:d.length=m * n) (hb:Bd d):∃ (b:Bool) (L L':List Int),(b=false→L'=L∧(∀ x,x ∈ L→0<x)∧L.length≤1000) ∧
    Ab (fun K=>Es.f K (m:Int) (n:Int) d) (if b=true then ([],3) else (L,0))∧Ab (fun K=>Dr.f K (m:Int) (n:Int) d) (L',!b):=by
  have hok:Ok m n ⟨d,idM m,idM m,idM n,idM n⟩:=⟨hl,Nq m,Nq m,Nq n,Nq n,hb,Yh m,Yh m,Yh n,Yh n⟩
  obtain ⟨b,u,v,⟨o1,o2,o3,o4,o5⟩⟩:=uM hm hn _ 0 _ (Nat.le_refl _) hok (fun t h=>absurd h (Nat.not_lt_zero _))
  have hmn:=zL m n
  have sm:Ab (fun K=>Km.f K (m:Int) (n:Int) d) (if b=true then (0,0,[],0,0,[],0,0,[],0,0,[],0,0,[],3) else ((m:Int),(m:Int),u.l,(m:Int),(m:Int),u.li,(m:Int),(n:Int),u.d,(n:Int),(n:Int),u.r,(n:Int),(n:Int),u.ri,0)):=by
    unfold Km.f
    have hnr:Ab (fun K=>Iy.f K (m:Int) (n:Int) d) ((m:Int),(m:Int),idM m,(m:Int),(m:Int),idM m,(m:Int),(n:Int),d,(n:Int),(n:Int),idM n,(n:Int),(n:Int),idM n,false):=by
      unfold Iy.f
      have hcp:I1.f (m:Int) (n:Int) d=some ((m:Int),(n:Int),d):=by
        unfold I1.f Gr.f
        have:=Jv hm hn
        rw [if_pos (by rw [hl]; simp; omega)]; rfl
      exact (nW hm).Fe ((nW hm).Fe (Ab.Fe (Ab.congr (fun K=>hcp) (Ab.const _)) ((nW hn).Fe ((nW hn).Fe (Ab.const _)))))
    refine hnr.Mh (Ab.Mj (a:=b) (b:=u.l) (c:=u.li) (d:=u.d) (e:=u.r) (f:=u.ri) ?_ ?_)
    · exact o4.G9
    · refine Ab.pos (o1.l.trans (Nq m).symm) (Ab.pos (o1.li.trans (Nq m).symm) (Ab.pos (o1.d.trans hl.symm) (Ab.pos (o1.r.trans (Nq n).symm) (Ab.pos (o1.ri.trans (Nq n).symm) ?_))))
      cases b with
      | true=>exact Ab.pos rfl (Ab.const _)
      | false=>exact Ab.neg (by decide) (Ab.const _)
  have sr:Ab (fun K=>Dl.f K (m:Int) (n:Int) d) (outT m n (b,v)):=by
    unfold Dl.f
    have:=Jv hm hn
    refine Ab.pos (by rw [hl]; simp; omega) ((pG hm).Fe ((pG hm).Fe ((pG hn).Fe ((pG hn).Fe ?_))))
    exact o5.G9
  have fi:b=false→Ab (fun K=>Es.l1 K K (m:Int) (n:Int) (m:Int) (n:Int) u.d [] 0) (V7 n u.d (mn m n) 0 [],0):=fun _=>by
    have main:∀ c i (o:List Int),i+c=mn m n→o.length≤i→Aa (fun K x=>Es.l1 K x (m:Int) (n:Int) (m:Int) (n:Int) u.d o (i:Int)) (V7 n u.d c i o,0):=by
      intro c
      induction c with
      | zero =>
        intro i o hi _
        refine Aa.of fun K x=>?_
        simp only [Es.l1]
        rw [Qz,if_neg (by omega)]; rfl
      | succ c ih =>
        intro i o hi ho
        refine Aa.step (fun K x=>?_) (ih (i+1) (if At n u.d i i=0 then o else o++[At n u.d i i]) (by omega) (by split; omega; rw [List.length_append]; simp; omega))
        simp only [Es.l1]
        rw [Qz,if_pos (by omega),Ll o1.d o1.d (by omega) (by omega) hm hn,Int.toNat_natCast,Ap (by omega)]
        by_cases e:At n u.d i i=0
        · rw [if_pos e,if_pos e]
        · rw [if_neg e,if_neg e,if_pos (by omega)]
    exact (main (mn m n) 0 [] (by omega) (by simp)).G9
  have fs:b=false→Ab (fun K=>Dr.l1 K K (m:Int) (n:Int) (m:Int) (n:Int) v.d false [] 0) (V7 n v.d (mn m n) 0 [],true):=fun _=>by
    have main:∀ c i (o:List Int),i+c=mn m n→o.length≤i→Aa (fun K x=>Dr.l1 K x (m:Int) (n:Int) (m:Int) (n:Int) v.d false o (i:Int)) (V7 n v.d c i o,true):=by
      intro c
      induction c with
      | zero =>
        intro i o hi _
        refine Aa.of fun K x=>?_
        simp only [Dr.l1]
        rw [Qz,if_neg (by omega)]; rfl
      | succ c ih =>
        intro i o hi ho
        refine Aa.step (fun K x=>?_) (ih (i+1) (if At n v.d i i=0 then o else o++[At n v.d i i]) (by omega) (by split; omega; rw [List.length_append]; simp; omega))
        simp only [Dr.l1]
        rw [Qz,if_pos (by omega),if_neg Bool.false_ne_true,K8 o2.d (by omega) (by omega) hm hn,Option.bind_some,Ap (by omega)]
        by_cases e:At n v.d i i=0
        · rw [if_pos e,if_pos e]
        · rw [if_neg e,if_neg e,if_pos (by omega)]
    exact (main (mn m n) 0 [] (by omega) (by simp)).G9
  cases b with
  | true =>
    refine ⟨true,[],[],fun e=>(by cases e),?_,?_⟩
    · unfold Es.f
      exact Ab.Mh sm (Ab.neg (by decide) (Ab.const _))
    · unfold Dr.f
      refine Ab.Mh sr (Aa.G9 (F:=fun K x=>Dr.l1 K x (m:Int) (n:Int) (m:Int) (n:Int) v.d true [] 0) (Aa.of fun K x=>?_))
      simp only [Dr.l1]
      rw [Qz]
      split
      · rw [if_pos trivial]
      · rfl
  | false =>
    obtain ⟨rfl,hd⟩:=o3 rfl
    have hp:=Vr (n:=n) (m:=m) (d:=u.d) (fun t a b=>hd t a a b) (c:=mn m n) (i:=0) (o:=[]) (by omega) (by omega) (by simp)
    refine ⟨false,V7 n u.d (mn m n) 0 [],V7 n u.d (mn m n) 0 [],fun _=>⟨rfl,hp.1,by have:=hp.2; simp at this; omega⟩,?_,?_⟩
    · unfold Es.f
      exact Ab.Mh sm (Ab.pos rfl (fi rfl))
    · unfold Dr.f
      exact Ab.Mh sr (fs rfl)
end
section
variable {s:List Int} (hs:s.length≤1000)
def kp (s:List Int) (j:Nat):List Int:=(s.take j).filter fun x=>!(decide (x=1))
theorem Ua {j:Nat} (hj:j<s.length):kp s (j+1)=kp s j++if s.getD j 0=1 then [] else [s.getD j 0]:=by
  unfold kp
  rw [List.take_add_one,List.filter_append,List.getElem?_eq_getElem hj,List.getD_eq_getElem?_getD,List.getElem?_eq_getElem hj]
  congr 1
  show List.filter _ [s[j]]=if s[j]=1 then [] else [s[j]]
  by_cases e:s[j]=1
  · rw [if_pos e,List.filter_cons_of_neg (by simp [e])]; rfl
  · rw [if_neg e,List.filter_cons_of_pos (by simp [e])]; rfl
theorem fA (j:Nat):(kp s j).length≤j:=Nat.le_trans (List.length_filter_le _ _) (List.length_take_le _ _)
include hs
theorem sZ:∀ (c j:Nat) (x:List Int),j+c=s.length→x.length=s.length→x.take (kp s j).length=kp s j→(∀ t,j≤t→x[t]?=s[t]?) →
    Aa (fun K k=>Bc.l1 K k x ((kp s j).length:Int) (j:Int)) (kp s s.length):=by
  intro c
  induction c with
  | zero =>
    intro j x hj hl ht hm
    obtain rfl:j=s.length:=by omega
    have hk:=fA (s:=s) s.length
    refine Aa.of fun K k=>?_
    have htake:(over x (kp s s.length).length (List.replicate ((x.take x.length).drop (kp s s.length).length).length 0)).take (kp s s.length).length=kp s s.length:=by
      unfold over
      rw [List.append_assoc,List.take_append_of_le_length (by rw [List.length_take]; omega),List.take_take,Nat.min_self,ht]
    rw [Bc.l1,if_neg (by omega),if_pos (by omega),Int.toNat_natCast,if_pos,htake,List.drop_zero]
    rw [Kw (by rw [List.length_replicate,List.length_drop,List.length_take]; omega)]
    omega
  | succ c ih =>
    intro j x hj hl ht hm
    have hlt:j<s.length:=by omega
    have hk:=fA (s:=s) j
    have hget:x.getD j 0=s.getD j 0:=by rw [List.getD_eq_getElem?_getD,List.getD_eq_getElem?_getD,hm j (Nat.le_refl _)]
    have e:=Ua hlt
    by_cases h1:s.getD j 0=1
    · rw [if_pos h1,List.append_nil] at e
      refine Aa.step (fun K k=>?_) (ih (j+1) x (by omega) hl (by rw [e]; exact ht) (fun t h=>hm t (by omega)))
      rw [Bc.l1,if_pos (by omega),if_pos (by omega),Int.toNat_natCast,hget,Ap (by omega)]
      unfold Hl.f
      rw [Option.bind_some,if_pos (by simpa using h1),e]
    · rw [if_neg h1] at e
      have hsl:(kp s (j+1)).length=(kp s j).length+1:=by rw [e,List.length_append]; rfl
      refine Aa.step (fun K k=>?_) (ih (j+1) (x.set (kp s j).length (s.getD j 0)) (by omega) (by rw [List.length_set]; exact hl) (by
        rw [hsl,List.take_add_one,List.getElem?_set_self (by omega),List.take_set_of_le (Nat.le_refl _),ht,e]; rfl) (fun t h=>by rw [List.getElem?_set_ne (by omega)]; exact hm t (by omega)))
      rw [Bc.l1,if_pos (by omega),if_pos (by omega),Int.toNat_natCast,hget,Ap (by omega)]
      unfold Hl.f
      rw [Option.bind_some,if_neg (by simpa using h1),if_pos ⟨by omega,by omega⟩,Int.toNat_natCast,Ap (by omega),hsl]
theorem fT:Ab (fun K=>Je.f K s) (kp s s.length):=by
  have idx:∀ c i,i+c=s.length→kp s i=s.take i→∃ r:Int,Aa (fun K k=>Bg.l1 K k s (i:Int)) r∧((r = -1∧kp s s.length=s)∨∃ n:Nat,r=(n:Int)∧n<s.length∧s.getD n 0=1∧kp s n=s.take n):=by
    intro c
    induction c with
    | zero =>
      intro i hi hk
      obtain rfl:i=s.length:=by omega
      refine ⟨-1,Aa.of fun K k=>?_,.inl ⟨rfl,by rw [hk,List.take_length]⟩⟩
      rw [Bg.l1,if_neg (by omega)]
    | succ c ih =>
      intro i hi hk
      have hlt:i<s.length:=by omega
      have hstep:∀ K k,Bg.l1 K (k+1) s (i:Int)=if decide (s.getD i 0=1)=true then some (i:Int) else Bg.l1 K k s ((i+1:Nat):Int):=fun K k=>by
        rw [Bg.l1,if_pos (by omega),if_pos (by omega),Int.toNat_natCast,Ap (by omega)]; rfl
      by_cases h1:s.getD i 0=1
      · exact ⟨(i:Int),Aa.of fun K k=>by rw [hstep,if_pos (by simpa using h1)],.inr ⟨i,rfl,hlt,h1,hk⟩⟩
      · obtain ⟨r,h2,h3⟩:=ih (i+1) (by omega) (by
          rw [Ua hlt,if_neg h1,hk,List.take_add_one,List.getElem?_eq_getElem hlt,List.getD_eq_getElem?_getD,List.getElem?_eq_getElem hlt]; rfl)
        exact ⟨r,Aa.step (fun K k=>by rw [hstep,if_neg (by simpa using h1)]) h2,h3⟩
  obtain ⟨r,h1,h2⟩:=idx s.length 0 (by omega) (by unfold kp; simp)
  unfold Je.f Bc.f
  refine Ab.bind (a:=kp s s.length) (Ab.bind (a:=r) (Ab.congr (fun K=>rfl) h1.G9) ?_) (Ab.const _)
  rcases h2 with ⟨rfl,h2⟩ | ⟨n,rfl,hn,hf,hk⟩
  · rw [h2]; exact Ab.pos rfl (Ab.const _)
  · refine Ab.neg (by omega) ?_
    have e:=Ua hn
    rw [if_pos hf,List.append_nil] at e
    have hkl:(kp s (n+1)).length=n:=by rw [e,hk,List.length_take]; omega
    have h:=sZ hs (s.length - (n+1)) (n+1) s (by omega) rfl (by rw [hkl,e,hk]) (fun t _=>rfl)
    rw [hkl] at h
    rw [Ap (by omega)]
    exact h.G9
theorem fU (hp:∀ x,x ∈ s→0<x):Ab (fun K=>Ei.f K s) (kp s s.length):=by
  have main:∀ c j,j+c=s.length→Aa (fun K k=>Ei.l1 K k s (kp s j) (j:Int)) (kp s s.length):=by
    intro c
    induction c with
    | zero =>
      intro j hj
      obtain rfl:j=s.length:=by omega
      refine Aa.of fun K k=>?_
      rw [Ei.l1,if_neg (by omega)]
    | succ c ih =>
      intro j hj
      have hlt:j<s.length:=by omega
      have hk:=fA (s:=s) j
      have hpos:0<s.getD j 0:=hp _ (by rw [List.getD_eq_getElem?_getD,List.getElem?_eq_getElem hlt]; exact List.getElem_mem hlt)
      have e:=Ua hlt
      refine Aa.step (fun K k=>?_) (ih (j+1) (by omega))
      rw [Ei.l1,if_pos (by omega),if_pos ⟨by omega,by omega⟩,Int.toNat_natCast,Ap (by omega)]
      by_cases h1:s.getD j 0=1
      · rw [if_pos h1,List.append_nil] at e
        rw [if_neg (by omega),e]
      · rw [if_neg h1] at e
        rw [if_pos (by omega),if_pos (by omega),e]
  have h:=main s.length 0 (by omega)
  have e0:kp s 0=[]:=by unfold kp; simp
  rw [e0] at h
  exact h.G9
end
theorem Xq (v lo hi:Int):Ik.f v lo hi=some (decide (lo≤v∧v≤hi)):=by
  unfold Ik.f
  by_cases h:lo≤v <;> simp [h]
def isM (m n:Nat):Bool:=decide (m≤48) && decide (n≤48)
section
variable {m n:Nat} {d:List Int}
theorem pW (hm:m≤1000) (hn:n≤1000) (hl:d.length=m * n) (hb:Bd d):Ab (fun K=>Hq.f K (m:Int) (n:Int) d) (isM m n):=by
  have hmn:=Jv hm hn
  have hc:Ab (fun K=>Dq.f K d) false:=by
    have:=Ms (l:=fun K x i=>Bn.l1 K x d i) (s:=d) (P:=fun x=>!decide (-1000000000000≤x∧x≤1000000000000)) (by omega) (fun K x i hi=>by
      simp only [Bn.l1,Io.f]
      rw [if_pos (by omega),if_pos ⟨by omega,by omega⟩,Ou,Option.bind_some,Option.bind_some,Int.toNat_natCast]) (fun K x=>by
      simp only [Bn.l1]
      rw [if_neg (by omega)])
    rw [Mw (fun j hj=>by simp only [Bool.not_not]; exact decide_eq_true (hb j))] at this
    exact this
  unfold Hq.f isM
  refine Ab.I7 (Ou _ _ _) ?_
  by_cases h1:m≤48
  · rw [decide_eq_true h1]
    refine Ab.pos (decide_eq_true (by omega)) (Ab.I7 (Ou _ _ _) ?_)
    by_cases h2:n≤48
    · rw [decide_eq_true h2]
      refine Ab.pos (decide_eq_true (by omega)) (Ab.bind (a:=(d.length:Int)) (Ab.const _) (Ab.pos (by rw [hl,← Int.natCast_mul,Q9 (by omega)]) ?_))
      exact hc.bind (Ab.const _)
    · rw [decide_eq_false h2]
      exact Ab.neg (by rw [decide_eq_true_eq]; omega) (Ab.const _)
  · rw [decide_eq_false h1]
    exact Ab.neg (by rw [decide_eq_true_eq]; omega) (Ab.const _)
theorem rA (hm:m≤1000) (hn:n≤1000) (hl:d.length=m * n) (hb:Bd d):Ab (fun K=>Eg.f K (m:Int) (n:Int) d) (isM m n):=by
  have hmn:=Jv hm hn
  have hc:Ab (fun K=>Eg.l1 K K d 0) true:=by
    have:=Li (l:=fun K x i=>Eg.l1 K x d (i:Int)) (n:=d.length) (P:=fun _=>true) (r:=true) (fun i hi _ v hv=>Aa.step (fun K x=>by
      simp only [Eg.l1]
      rw [if_pos (by omega),if_pos ⟨by omega,by omega⟩,Xq,Option.bind_some,Int.toNat_natCast,if_pos (decide_eq_true (hb i)),Ap (by omega)]) hv) (fun i hi h=>by cases h) (Aa.of fun K x=>by
      simp only [Eg.l1]
      rw [if_neg (by omega)])
    rw [Mw (fun j _=>rfl)] at this
    exact this.G9
  unfold Eg.f isM
  refine Ab.I7 (Xq _ _ _) ?_
  by_cases h1:m≤48
  · rw [decide_eq_true h1]
    refine Ab.pos (decide_eq_true (by omega)) (Ab.I7 (Xq _ _ _) ?_)
    by_cases h2:n≤48
    · rw [decide_eq_true h2]
      exact Ab.pos (decide_eq_true (by omega)) (Ab.pos (by rw [hl,← Int.natCast_mul,Q9 (by omega)]) hc)
    · rw [decide_eq_false h2]
      exact Ab.neg (by rw [decide_eq_true_eq]; omega) (Ab.const _)
  · rw [decide_eq_false h1]
    exact Ab.neg (by rw [decide_eq_true_eq]; omega) (Ab.const _)
end
def Tk (q r:Nat) (xs ys:List Int) (i j:Nat):Nat→Nat→Int→Int→Option Int
  | 0,_,sum,_=>some sum
  | c+1,k,sum,tot=>if (-1000000000000≤xs.getD (i * q+k) 0 * ys.getD (k * r+j) 0∧xs.getD (i * q+k) 0 * ys.getD (k * r+j) 0≤1000000000000)∧tot+((xs.getD (i * q+k) 0 * ys.getD (k * r+j) 0).natAbs:Int)≤1000000000000 then Tk q r xs ys i j c (k+1) (sum+xs.getD (i * q+k) 0 * ys.getD (k * r+j) 0) (tot+((xs.getD (i * q+k) 0 * ys.getD (k * r+j) 0).natAbs:Int)) else none
def Vy (q r:Nat) (xs ys:List Int) (i:Nat):Nat→Nat→List Int→Option (List Int)
  | 0,_,zs=>some zs
  | c+1,j,zs=>(Tk q r xs ys i j q 0 0 0).bind fun v=>Vy q r xs ys i c (j+1) (zs.set (i * r+j) v)
def N8 (q r:Nat) (xs ys:List Int):Nat→Nat→List Int→Option (List Int)
  | 0,_,zs=>some zs
  | c+1,i,zs=>(Vy q r xs ys i r 0 zs).bind (N8 q r xs ys c (i+1))
theorem Q0 {q r i:Nat} {xs ys:List Int}:∀ {c j:Nat} {zs ws:List Int},Vy q r xs ys i c j zs=some ws→ws.length=zs.length
  | 0,_,_,_,h=>by cases h; rfl
  | c+1,j,zs,ws,h=>by
    unfold Vy at h
    obtain ⟨v,_,h⟩:=Option.bind_eq_some_iff.1 h
    rw [Q0 h,List.length_set]
theorem Z9 {q r:Nat} {xs ys:List Int}:∀ {c i:Nat} {zs ws:List Int},N8 q r xs ys c i zs=some ws→ws.length=zs.length
  | 0,_,_,_,h=>by cases h; rfl
  | c+1,i,zs,ws,h=>by
    unfold N8 at h
    obtain ⟨v,h1,h⟩:=Option.bind_eq_some_iff.1 h
    rw [Z9 h,Q0 h1]
section
variable {p q r:Nat} {xs ys:List Int}
theorem zT (hp:p≤1000) (hq:q≤1000) (hr:r≤1000) (hx:xs.length=p * q) (hy:ys.length=q * r) (bx:Bd xs) (bY:Bd ys) {i j:Nat} (hi:i<p) (hj:j<r) :
    Ab (fun K=>Gt.f K (p:Int) (q:Int) xs (q:Int) (r:Int) ys (i:Int) (j:Int)) (match Tk q r xs ys i j q 0 0 0 with | none=>(0,false) | some v=>(v,true)):=by
  have main:∀ c k sum tot,k+c=q→0≤tot→tot≤1000000000000→-tot≤sum→sum≤tot→Aa (fun K x=>Gt.l1 K x (p:Int) (q:Int) xs (q:Int) (r:Int) ys (i:Int) (j:Int) sum tot (k:Int)) (match Tk q r xs ys i j c k sum tot with | none=>(0,false) | some v=>(v,true)):=by
    intro c
    induction c with
    | zero =>
      intro k sum tot hk _ _ _ _
      refine Aa.of fun K x=>?_
      simp only [Gt.l1,Tk]
      rw [if_neg (by omega)]
    | succ c ih =>
      intro k sum tot hk t1 t2 t3 t4
      have hkq:k<q:=by omega
      have hb1:=bx (i * q+k)
      have hb2:=bY (k * r+j)
      have hpr:=lN (L:=1000000000000) (by decide) hb1 hb2
      rw [show ((1000000000000:Nat):Int)=1000000000000 from rfl] at hpr
      unfold Tk
      refine Aa.succ ?_
      simp only [Gt.l1]
      refine Aa.pos (by omega) ?_
      simp only [Ll hx hx hi hkq hp hq,Ll hy hy hkq hj hq hr,Int.toNat_natCast,hpr]
      by_cases h1 : -1000000000000≤xs.getD (i * q+k) 0 * ys.getD (k * r+j) 0∧xs.getD (i * q+k) 0 * ys.getD (k * r+j) 0≤1000000000000
      · simp only [if_pos h1]
        refine Aa.Dz (Aa.const _) (Aa.I7 (Vq (by omega)) (Aa.pos rfl ?_))
        rw [F6 (x:=tot+_) (by omega) (by omega),F6 (x:=sum+_) (by omega) (by omega),Ap (by omega)]
        by_cases h2:tot+((xs.getD (i * q+k) 0 * ys.getD (k * r+j) 0).natAbs:Int)≤1000000000000
        · rw [if_pos ⟨h1,h2⟩]
          exact Aa.neg (by omega) (ih (k+1) _ _ (by omega) (by omega) h2 (by omega) (by omega))
        · rw [if_neg (fun h=>h2 h.2)]
          exact Aa.pos (by omega) (Aa.const _)
      · simp only [if_neg h1]
        rw [if_neg (fun h=>h1 h.1)]
        exact Aa.Dz (Aa.const _) (Aa.I7 (Vq (by omega)) (Aa.neg (by decide) (Aa.const _)))
  exact (main q 0 0 0 (by omega) (by omega) (by omega) (by omega) (by omega)).G9
theorem wM {res:Int × Int × List Int × Bool} (hp:p≤1000) (hq:q≤1000) (hr:r≤1000) (hx:xs.length=p * q) (hy:ys.length=q * r) (bx:Bd xs) (bY:Bd ys) {i j:Nat} (hi:i<p) (hj:j<r) {zs:List Int} (hz:zs.length=p * r)
    (h0:Tk q r xs ys i j q 0 0 0=none→res=(0,0,[],false)) (h1:∀ v,Tk q r xs ys i j q 0 0 0=some v→Aa (fun K x=>Bq.l10 K x (p:Int) (q:Int) xs (q:Int) (r:Int) ys (p:Int) (r:Int) (i:Int) (zs.set (i * r+j) v) ((j+1:Nat):Int)) res) :
    Aa (fun K x=>Bq.l13 K x (p:Int) (q:Int) xs (q:Int) (r:Int) ys (p:Int) (r:Int) (i:Int) zs (j:Int) 0 0 0) res:=by
  have main:∀ c k sum tot,k+c=q→0≤tot→tot≤1000000000000→-tot≤sum→sum≤tot→(Tk q r xs ys i j c k sum tot=none→res=(0,0,[],false))→(∀ v,Tk q r xs ys i j c k sum tot=some v→Aa (fun K x=>Bq.l10 K x (p:Int) (q:Int) xs (q:Int) (r:Int) ys (p:Int) (r:Int) (i:Int) (zs.set (i * r+j) v) ((j+1:Nat):Int)) res) →
      Aa (fun K x=>Bq.l13 K x (p:Int) (q:Int) xs (q:Int) (r:Int) ys (p:Int) (r:Int) (i:Int) zs (j:Int) sum tot (k:Int)) res:=by
    intro c
    induction c with
    | zero =>
      intro k sum tot hk _ _ _ _ _ h1
      have hz':=Ji hi hj
      refine Aa.step (fun K x=>?_) (h1 sum rfl)
      simp only [Bq.l13]
      rw [if_neg (by omega),R6 (by omega) (by omega) hr,if_pos ⟨by omega,by omega⟩,Int.toNat_natCast,Ap (by omega)]
    | succ c ih =>
      intro k sum tot hk t1 t2 t3 t4 h0 h1
      have hkq:k<q:=by omega
      have hb1:=bx (i * q+k)
      have hb2:=bY (k * r+j)
      have hpr:=iO (L:=1000000000000) (by decide) hb1 hb2
      rw [show ((1000000000000:Nat):Int)=1000000000000 from rfl] at hpr
      unfold Tk at h0 h1
      refine Aa.succ ?_
      simp only [Bq.l13]
      refine Aa.pos (by omega) (Aa.I7 (K8 hx hi hkq hp hq) (Aa.I7 (K8 hy hkq hj hq hr) ?_))
      simp only [hpr]
      by_cases h2 : -1000000000000≤xs.getD (i * q+k) 0 * ys.getD (k * r+j) 0∧xs.getD (i * q+k) 0 * ys.getD (k * r+j) 0≤1000000000000
      · simp only [if_pos h2]
        refine Aa.Dz (Aa.const _) (Aa.I7 (Uj (by omega)) (Aa.pos rfl ?_))
        rw [F6 (x:=tot+_) (by omega) (by omega),F6 (x:=sum+_) (by omega) (by omega),Ap (by omega)]
        by_cases h3:tot+((xs.getD (i * q+k) 0 * ys.getD (k * r+j) 0).natAbs:Int)≤1000000000000
        · rw [if_pos ⟨h2,h3⟩] at h0
          simp only [if_pos (show _∧_ from ⟨h2,h3⟩)] at h1
          exact Aa.neg (by omega) (ih (k+1) _ _ (by omega) (by omega) h3 (by omega) (by omega) h0 h1)
        · rw [if_neg (fun h=>h3 h.2)] at h0
          rw [h0 rfl]
          exact Aa.pos (by omega) (Aa.const _)
      · simp only [if_neg h2]
        rw [if_neg (fun h=>h2 h.1)] at h0
        rw [h0 rfl]
        exact Aa.Dz (Aa.const _) (Aa.I7 (Uj (by omega)) (Aa.neg (by decide) (Aa.const _)))
  exact main q 0 0 0 (by omega) (by omega) (by omega) (by omega) (by omega) h0 h1
def gL (p r:Nat):Option (List Int)→Int × Int × List Int × Int
  | none=>(0,0,[],3)
  | some zs=>((p:Int),(r:Int),zs,0)
def fZ (p r:Nat):Option (List Int)→Int × Int × List Int × Bool
  | none=>(0,0,[],false)
  | some zs=>((p:Int),(r:Int),zs,true)
theorem xV (hp:p≤1000) (hq:q≤1000) (hr:r≤1000) (hx:xs.length=p * q) (hy:ys.length=q * r) (bx:Bd xs) (bY:Bd ys) :
    Aa (fun K x=>Ca.l1 K x (p:Int) (q:Int) xs (q:Int) (r:Int) ys (p:Int) (r:Int) (List.replicate (p * r) 0) 0) (gL p r (N8 q r xs ys p 0 (List.replicate (p * r) 0))):=by
  have inner:∀ i,i<p→∀ c j (zs:List Int) res,j+c=r→zs.length=p * r→(Vy q r xs ys i c j zs=none→res=(0,0,[],3))→(∀ ws,Vy q r xs ys i c j zs=some ws→Aa (fun K x=>Ca.l1 K x (p:Int) (q:Int) xs (q:Int) (r:Int) ys (p:Int) (r:Int) ws ((i+1:Nat):Int)) res) →
      Aa (fun K x=>Ca.l4 K x (p:Int) (q:Int) xs (q:Int) (r:Int) ys (p:Int) (r:Int) (i:Int) zs (j:Int)) res:=by
    intro i hi c
    induction c with
    | zero =>
      intro j zs res hj hz _ h1
      refine Aa.step (fun K x=>?_) (h1 zs rfl)
      simp only [Ca.l4]
      rw [if_neg (by omega),Ap (by omega)]
    | succ c ih =>
      intro j zs res hj hz h0 h1
      have hjr:j<r:=by omega
      have he:=zT hp hq hr hx hy bx bY hi hjr
      unfold Vy at h0 h1
      refine Aa.succ ?_
      simp only [Ca.l4]
      refine Aa.pos (by omega) ?_
      cases hv:Tk q r xs ys i j q 0 0 0 with
      | none =>
        rw [hv] at he h0
        rw [h0 rfl]
        exact Aa.Dz he.two (Aa.neg (by decide) (Aa.const _))
      | some v =>
        rw [hv] at he h0
        simp only [hv,Option.bind_some] at h1
        refine Aa.Dz he.two (Aa.pos rfl (Aa.congr (fun K k=>Ll hz hz hi hjr hp hr) ?_))
        rw [Int.toNat_natCast,Ap (by omega)]
        exact ih (j+1) (zs.set (i * r+j) v) res (by omega) (by rw [List.length_set]; exact hz) h0 h1
  have main:∀ c i (zs:List Int),i+c=p→zs.length=p * r→Aa (fun K x=>Ca.l1 K x (p:Int) (q:Int) xs (q:Int) (r:Int) ys (p:Int) (r:Int) zs (i:Int)) (gL p r (N8 q r xs ys c i zs)):=by
    intro c
    induction c with
    | zero =>
      intro i zs hi hz
      refine Aa.of fun K x=>?_
      simp only [Ca.l1]
      rw [if_neg (by omega)]; rfl
    | succ c ih =>
      intro i zs hi hz
      refine Aa.step (fun K x=>?_) (inner i (by omega) r 0 zs _ (by omega) hz (fun h=>by unfold N8; rw [h]; rfl) (fun ws h=>by unfold N8; rw [h]; exact ih (i+1) ws (by omega) (by rw [Q0 h]; exact hz)))
      simp only [Ca.l1]
      rw [if_pos (by omega)]; rfl
  exact main p 0 _ (by omega) (List.length_replicate)
theorem yZ (hp:p≤1000) (hq:q≤1000) (hr:r≤1000) (hx:xs.length=p * q) (hy:ys.length=q * r) (bx:Bd xs) (bY:Bd ys) :
    Aa (fun K x=>Bq.l1 K x (p:Int) (q:Int) xs (q:Int) (r:Int) ys (p:Int) (r:Int) (List.replicate (p * r) 0) 0) (fZ p r (N8 q r xs ys p 0 (List.replicate (p * r) 0))):=by
  have inner:∀ i,i<p→∀ c j (zs:List Int) res,j+c=r→zs.length=p * r→(Vy q r xs ys i c j zs=none→res=(0,0,[],false))→(∀ ws,Vy q r xs ys i c j zs=some ws→Aa (fun K x=>Bq.l1 K x (p:Int) (q:Int) xs (q:Int) (r:Int) ys (p:Int) (r:Int) ws ((i+1:Nat):Int)) res) →
      Aa (fun K x=>Bq.l10 K x (p:Int) (q:Int) xs (q:Int) (r:Int) ys (p:Int) (r:Int) (i:Int) zs (j:Int)) res:=by
    intro i hi c
    induction c with
    | zero =>
      intro j zs res hj hz _ h1
      refine Aa.step (fun K x=>?_) (h1 zs rfl)
      simp only [Bq.l10]
      rw [if_neg (by omega),Ap (by omega)]
    | succ c ih =>
      intro j zs res hj hz h0 h1
      have hjr:j<r:=by omega
      unfold Vy at h0 h1
      refine Aa.step (fun K x=>?_) (wM hp hq hr hx hy bx bY hi hjr hz (fun hv=>h0 (by rw [hv]; rfl)) (fun v hv=>?_))
      · simp only [Bq.l10]
        rw [if_pos (by omega)]
      · simp only [hv,Option.bind_some] at h0 h1
        exact ih (j+1) (zs.set (i * r+j) v) res (by omega) (by rw [List.length_set]; exact hz) h0 h1
  have main:∀ c i (zs:List Int),i+c=p→zs.length=p * r→Aa (fun K x=>Bq.l1 K x (p:Int) (q:Int) xs (q:Int) (r:Int) ys (p:Int) (r:Int) zs (i:Int)) (fZ p r (N8 q r xs ys c i zs)):=by
    intro c
    induction c with
    | zero =>
      intro i zs hi hz
      refine Aa.of fun K x=>?_
      simp only [Bq.l1]
      rw [if_neg (by omega)]; rfl
    | succ c ih =>
      intro i zs hi hz
      refine Aa.step (fun K x=>?_) (inner i (by omega) r 0 zs _ (by omega) hz (fun h=>by unfold N8; rw [h]; rfl) (fun ws h=>by unfold N8; rw [h]; exact ih (i+1) ws (by omega) (by rw [Q0 h]; exact hz)))
      simp only [Bq.l1]
      rw [if_pos (by omega)]; rfl
  exact main p 0 _ (by omega) (List.length_replicate)
end
def sM (zs:List Int):Bool:=Ls zs.length fun i=>decide (zs.getD i 0=0)
theorem Aak {zs:List Int} (h:zs.length≤2000000):Ab (fun K=>C8.f K zs) (!sM zs):=by
  have:=Ms (l:=fun K x i=>Bh.l1 K x zs i) (s:=zs) (P:=fun x=>!decide (x=0)) h (fun K x i hi=>by
    simp only [Bh.l1,H6.f]
    rw [if_pos (by omega),if_pos ⟨by omega,by omega⟩,Option.bind_some,Int.toNat_natCast]) (fun K x=>by
    simp only [Bh.l1]
    rw [if_neg (by omega)])
  simp only [Bool.not_not] at this
  exact this
theorem Aaq {zs:List Int} {p r:Nat} (hp:p≤1000) (hr:r≤1000) (h:zs.length=p * r):Ab (fun K=>F5.f K (p:Int) (r:Int) zs (p:Int) (r:Int) (List.replicate (p * r) 0)) (sM zs):=by
  unfold F5.f
  have hb:=Jv hp hr
  refine Ab.pos rfl (Ab.pos rfl (Ab.pos (by rw [h,List.length_replicate]) ?_))
  have:=Li (l:=fun K x i=>F5.l1 K x zs (List.replicate (p * r) 0) (i:Int)) (n:=zs.length) (P:=fun i=>decide (zs.getD i 0=0)) (r:=true) (fun i hi hp v hv=>Aa.step (fun K x=>by
      simp only [F5.l1]
      rw [if_pos (by omega),if_pos ⟨by omega,by omega⟩,if_pos ⟨by omega,by rw [List.length_replicate]; omega⟩,Int.toNat_natCast,if_pos (by
        rw [of_decide_eq_true hp,List.getD_eq_getElem?_getD,List.getElem?_replicate]; split <;> rfl),Ap (by omega)]) hv) (fun i hi hp=>Aa.of fun K x=>by
      simp only [F5.l1]
      rw [if_pos (by omega),if_pos ⟨by omega,by omega⟩,if_pos ⟨by omega,by rw [List.length_replicate]; omega⟩,Int.toNat_natCast,if_neg (by
        have h1:(List.replicate (p * r) (0:Int)).getD i 0=0:=by rw [List.getD_eq_getElem?_getD,List.getElem?_replicate]; split <;> rfl
        rw [h1]; exact of_decide_eq_false hp)]) (Aa.of fun K x=>by
      simp only [F5.l1]
      rw [if_neg (by omega)])
  rw [Bool.and_true] at this
  exact this.G9
theorem Tu {p q q' r:Nat} {xs ys:List Int} (hp:p≤1000) (hq:q≤1000) (hq':q'≤1000) (hr:r≤1000) (hx:xs.length=p * q) (hy:ys.length=q' * r) (bx:Bd xs) (bY:Bd ys) :
    ∃ (g:Int) (t:List Int) (c:Int),t.length≤1000∧Ab (fun K=>Iu.f K (q':Int) (r:Int) ys (p:Int) (q:Int) xs) (g,t,c)∧Ab (fun K=>I4.f K (q':Int) (r:Int) ys (p:Int) (q:Int) xs) (g,t,c):=by
  have i1:=pW hp hq hx bx
  have i2:=pW hq' hr hy bY
  have s1:=rA hp hq hx bx
  have s2:=rA hq' hr hy bY
  unfold Iu.f Ca.f I4.f
  cases e1:isM p q with
  | false =>
    rw [e1] at i1 s1
    refine ⟨0,[],1,by simp,Ab.Gs (i1.bind (Ab.neg (by decide) (Ab.const _))) (Ab.neg (by decide) (Ab.const _)),?_⟩
    cases e2:isM q' r with
    | false=>rw [e2] at s2; exact s2.bind (Ab.neg (by decide) (Ab.const _))
    | true=>rw [e2] at s2; exact s2.bind (Ab.pos rfl (s1.bind (Ab.neg (by decide) (Ab.const _))))
  | true =>
    rw [e1] at i1 s1
    cases e2:isM q' r with
    | false =>
      rw [e2] at i2 s2
      exact ⟨0,[],1,by simp,Ab.Gs (i1.bind (Ab.pos rfl (i2.bind (Ab.neg (by decide) (Ab.const _))))) (Ab.neg (by decide) (Ab.const _)),s2.bind (Ab.neg (by decide) (Ab.const _))⟩
    | true =>
      rw [e2] at i2 s2
      by_cases e3:q=q'
      · subst e3
        have hpr:=Jv hp hr
        have mi:=(xV hp hq hr hx hy bx bY).G9
        have ms:=(yZ hp hq hr hx hy bx bY).G9
        have i3:∀ {G:Nat→Int→Int→List Int→Int→Option (Int × List Int × Int)} {res},Ab (fun K=>G K (gL p r (N8 q r xs ys p 0 (List.replicate (p * r) 0))).1 (gL p r (N8 q r xs ys p 0 (List.replicate (p * r) 0))).2.1 (gL p r (N8 q r xs ys p 0 (List.replicate (p * r) 0))).2.2.1 (gL p r (N8 q r xs ys p 0 (List.replicate (p * r) 0))).2.2.2) res→Ab (fun K=>Go.Proofs.YtgkgmhkgahalgaaGreat.Gs ((Hq.f K (p:Int) (q:Int) xs).bind fun t16=>(if t16=true then ((Hq.f K (q:Int) (r:Int) ys).bind fun t21=>(if t21=true then (if (q:Int)=(q:Int) then (Go.Proofs.YtgkgmhkgahalgaaGreat.Fe (Ee.f (p:Int) (r:Int)) (fun t27 t28 t29=>(Ca.l1 K K (p:Int) (q:Int) xs (q:Int) (r:Int) ys t27 t28 t29 0))) else (some (0,0,([]:List Int),2))) else (some (0,0,([]:List Int),1)))) else (some (0,0,([]:List Int),1)))) (G K)) res:=fun {G res} hG =>
          Ab.Gs (i1.bind (Ab.pos rfl (i2.bind (Ab.pos rfl (Ab.pos rfl (Ab.Fe (Ab.congr (fun K=>Po hp hr) (Ab.const _)) mi)))))) hG
        have s3:∀ {G:Nat→Int→Int→List Int→Bool→Option (Int × List Int × Int)} {res},Ab (fun K=>G K (fZ p r (N8 q r xs ys p 0 (List.replicate (p * r) 0))).1 (fZ p r (N8 q r xs ys p 0 (List.replicate (p * r) 0))).2.1 (fZ p r (N8 q r xs ys p 0 (List.replicate (p * r) 0))).2.2.1 (fZ p r (N8 q r xs ys p 0 (List.replicate (p * r) 0))).2.2.2) res→Ab (fun K=>Go.Proofs.YtgkgmhkgahalgaaGreat.Gs (Bq.f K (p:Int) (q:Int) xs (q:Int) (r:Int) ys) (G K)) res:=fun {G res} hG =>
          Ab.Gs (by unfold Bq.f; exact Ab.Fe (Ab.congr (fun K=>Ot hp hr) (Ab.const _)) ms) hG
        cases ez:N8 q r xs ys p 0 (List.replicate (p * r) 0) with
        | none =>
          rw [ez] at i3 s3
          exact ⟨0,[],3,by simp,i3 (Ab.neg (show ¬ (3:Int)=0 by decide) (Ab.const _)),s2.bind (Ab.pos rfl (s1.bind (Ab.pos rfl (Ab.pos rfl (s3 (Ab.neg Bool.false_ne_true (Ab.const _)))))))⟩
        | some zs =>
          rw [ez] at i3 s3
          have hz:zs.length=p * r:=by rw [Z9 ez,List.length_replicate]
          have n1:=Aak (zs:=zs) (by omega)
          have n2:=Aaq hp hr hz
          cases ea:sM zs with
          | false =>
            rw [ea] at n1 n2
            exact ⟨0,[],5,by simp,i3 (Ab.pos rfl (n1.bind (Ab.pos rfl (Ab.const _)))),s2.bind (Ab.pos rfl (s1.bind (Ab.pos rfl (Ab.pos rfl (s3 (Ab.pos rfl (Ab.Fe (Ab.congr (fun K=>Ot hp hr) (Ab.const _)) (n2.bind (Ab.neg (by decide) (Ab.const _))))))))))⟩
          | true =>
            rw [ea] at n1 n2
            obtain ⟨b1,L1,L1',f1,f2,f3⟩:=Rb hq hr hy bY
            obtain ⟨b2,L2,L2',g1,g2,g3⟩:=Rb hp hq hx bx
            have i4:∀ {res},Ab (fun K=>if (if b1=true then (([]:List Int),(3:Int)) else (L1,0)).2=0 then (if (if b2=true then (([]:List Int),(3:Int)) else (L2,0)).2=0 then ((Er.f (if b1=true then (([]:List Int),(3:Int)) else (L1,0)).1).bind fun t43=>((Er.f (if b2=true then (([]:List Int),(3:Int)) else (L2,0)).1).bind fun t47=>((Je.f K (if b1=true then (([]:List Int),(3:Int)) else (L1,0)).1).bind fun t51=>(some (w64 ((w64 ((q:Int) - t43)) - t47),t51,(0:Int)))))) else (some (0,([]:List Int),3))) else (some (0,([]:List Int),3))) res→_:=fun {res} h=>i3 (G:=fun K t7 t8 t9 t10=>(if t10=0 then ((C8.f K t9).bind fun t20=>(if t20=true then (some (0,([]:List Int),5)) else (Go.Proofs.YtgkgmhkgahalgaaGreat.Dz (Es.f K (q:Int) (r:Int) ys) (fun t26 t27=>(Go.Proofs.YtgkgmhkgahalgaaGreat.Dz (Es.f K (p:Int) (q:Int) xs) (fun t33 t34=>(if t27=0 then (if t34=0 then ((Er.f t26).bind fun t43=>((Er.f t33).bind fun t47=>((Je.f K t26).bind fun t51=>(some (w64 ((w64 ((q:Int) - t43)) - t47),t51,0))))) else (some (0,([]:List Int),3))) else (some (0,([]:List Int),3))))))))) else (some (0,([]:List Int),t10)))) (res:=res) (Ab.pos rfl (n1.bind (Ab.neg (by decide) (Ab.Dz f2 (Ab.Dz g2 h)))))
            have s4:∀ {res},Ab (fun K=>if (!b1)=true then (if (!b2)=true then ((Ei.f K L1').bind fun t70=>(some (w64 ((w64 ((q:Int) - (L1'.length:Int))) - (L2'.length:Int)),t70,(0:Int)))) else (some (0,([]:List Int),3))) else (some (0,([]:List Int),3))) res→Ab (fun K=>(Eg.f K (q:Int) (r:Int) ys).bind fun t16=>(if t16=true then ((Eg.f K (p:Int) (q:Int) xs).bind fun t21=>(if t21=true then (if (q:Int)=(q:Int) then (Go.Proofs.YtgkgmhkgahalgaaGreat.Gs (Bq.f K (p:Int) (q:Int) xs (q:Int) (r:Int) ys) (fun t27 t28 t29 t30=>(if t30=true then (Go.Proofs.YtgkgmhkgahalgaaGreat.Fe (Hu.f (p:Int) (r:Int)) (fun t40 t41 t42=>((F5.f K t27 t28 t29 t40 t41 t42).bind fun t48=>(if t48=true then (Go.Proofs.YtgkgmhkgahalgaaGreat.Dz (Dr.f K (q:Int) (r:Int) ys) (fun t53 t54=>(Go.Proofs.YtgkgmhkgahalgaaGreat.Dz (Dr.f K (p:Int) (q:Int) xs) (fun t60 t61=>(if t54=true then (if t61=true then ((Ei.f K t53).bind fun t70=>(some (w64 ((w64 ((q:Int) - (t53.length:Int))) - (t60.length:Int)),t70,0))) else (some (0,([]:List Int),3))) else (some (0,([]:List Int),3))))))) else (some (0,([]:List Int),5)))))) else (some (0,([]:List Int),3))))) else (some (0,([]:List Int),2))) else (some (0,([]:List Int),1)))) else (some (0,([]:List Int),1)))) res:=fun {res} h =>
              s2.bind (Ab.pos rfl (s1.bind (Ab.pos rfl (Ab.pos rfl (s3 (Ab.pos rfl (Ab.Fe (Ab.congr (fun K=>Ot hp hr) (Ab.const _)) (n2.bind (Ab.pos rfl (Ab.Dz f3 (Ab.Dz g3 h)))))))))))
            cases b1 with
            | true=>exact ⟨0,[],3,by simp,i4 (Ab.neg (show ¬ (3:Int)=0 by decide) (Ab.const _)),s4 (Ab.neg (by decide) (Ab.const _))⟩
            | false =>
              cases b2 with
              | true=>exact ⟨0,[],3,by simp,i4 (Ab.pos rfl (Ab.neg (show ¬ (3:Int)=0 by decide) (Ab.const _))),s4 (Ab.pos rfl (Ab.neg (by decide) (Ab.const _)))⟩
              | false =>
                obtain ⟨rfl,hpos,hlen⟩:=f1 rfl
                obtain ⟨rfl,_,_⟩:=g1 rfl
                exact ⟨_,kp L1' L1'.length,0,Nat.le_trans (fA _) hlen,i4 (Ab.pos rfl (Ab.pos rfl (Ab.bind (a:=(L1'.length:Int)) (Ab.const _) (Ab.bind (a:=(L2'.length:Int)) (Ab.const _) ((fT hlen).bind (Ab.const _)))))),s4 (Ab.pos rfl (Ab.pos rfl ((fU hlen hpos).bind (Ab.const _))))⟩
      · exact ⟨0,[],2,by simp,Ab.Gs (i1.bind (Ab.pos rfl (i2.bind (Ab.pos rfl (Ab.neg (by omega) (Ab.const _)))))) (Ab.neg (by decide) (Ab.const _)),s2.bind (Ab.pos rfl (s1.bind (Ab.pos rfl (Ab.neg (by omega) (Ab.const _)))))⟩
def ov (f i:Nat):Nat:=(OT [f]).getD i 0
def nS (x y z:Nat):Int:=(if z<y then -1 else 1) * ((if z<x then -1 else 1) * (if y<x then -1 else 1))
def SG (p f:Nat):Int:=nS (PA p (ov f 0)) (PA p (ov f 1)) (PA p (ov f 2))
theorem uK (p f:Nat):SG p f=1∨SG p f = -1:=by
  unfold SG nS
  split <;> split <;> split <;> simp
theorem Vk {f i:Nat} (hf:f<4) (hi:i<3):ov f i<4:=by
  rcases (by omega:f=0∨f=1∨f=2∨f=3) with rfl | rfl | rfl | rfl <;> rcases (by omega:i=0∨i=1∨i=2) with rfl | rfl | rfl <;> decide
theorem pY {f:Nat} (hf:f<4):ints (OT [f])=[(ov f 0:Int),(ov f 1:Int),(ov f 2:Int)]:=by
  rcases (by omega:f=0∨f=1∨f=2∨f=3) with rfl | rfl | rfl | rfl <;> rfl
def fsC (K p f:Nat):Option Int:=(Fu.f K [(PA p (ov f 0):Int),(PA p (ov f 1):Int),(PA p (ov f 2):Int)]).bind fun t94=>if (t94.length+1) * 8≤140737488355328 then (if 4≤(t94++[3]).length then ((Fa.f K ((t94++[3]).getD 0 0) ((t94++[3]).getD 1 0) ((t94++[3]).getD 2 0) ((t94++[3]).getD 3 0)).bind fun t107=>Gb.f K t107) else none) else none
theorem oW:(fun K:Nat=>(List.range (24 * 4)).map fun i=>fsC (K+60) (i / 4) (i % 4))=fun _=>(List.range (24 * 4)).map fun i=>some (SG (i / 4) (i % 4)):=by kernel_rfl
theorem yY {p f:Nat} (hp:p<24) (hf:f<4):Ab (fun K=>fsC K p f) (SG p f):=wE (F:=fsC) (g:=SG) (m:=60) oW hp hf
section
variable {n:Nat} (hn:n≤8) {a f b p:Nat} (ha:a<n) (hf:f<4) (hb:b<n) (hp:p<24)
include hn ha hf hb hp
theorem wU {o:List Int} (hl:o.length=4 * n):Ab (fun K=>Az.f K (a:Int) (f:Int) (b:Int) (p:Int) (PA p 0:Int) (PA p 1:Int) (PA p 2:Int) (PA p 3:Int) o) (if 4 * a+f<4 * b+PA p f then o.set (4 * b+PA p f) (SG p f) else o):=by
  have h:=Nj hp hf
  have hi:=mul_lt hb h
  have e1:w64 (w64 (4 * (a:Int))+(f:Int))=((4 * a+f:Nat):Int):=w6 (c:=4) (by decide) (by omega) (by omega)
  have e2:w64 (w64 (4 * (b:Int))+(PA p f:Int))=((4 * b+PA p f:Nat):Int):=w6 (c:=4) (by decide) (by omega) (by omega)
  unfold Az.f
  rw [U9 hf,e1,e2]
  refine Ab.pos ⟨by omega,by omega⟩ ?_
  by_cases hlt:4 * a+f<4 * b+PA p f
  · rw [if_pos hlt]
    refine Ab.pos (by omega) (Ab.bind (Rz hf) ?_)
    rw [pY hf]
    have st:∀ (j:Nat) (g:List Int),j<3→g.length=j→∀ {R},Aa (fun K k=>Az.l1 K k (f:Int) (b:Int) (PA p 0:Int) (PA p 1:Int) (PA p 2:Int) (PA p 3:Int) o [(ov f 0:Int),(ov f 1:Int),(ov f 2:Int)] (g++[(PA p (ov f j):Int)]) ((j+1:Nat):Int)) R→Aa (fun K k=>Az.l1 K k (f:Int) (b:Int) (PA p 0:Int) (PA p 1:Int) (PA p 2:Int) (PA p 3:Int) o [(ov f 0:Int),(ov f 1:Int),(ov f 2:Int)] g (j:Int)) R:=fun j g hj hg R hR=>by
      refine Aa.step (fun K k=>?_) hR
      have ho:=Vk hf hj
      have hd:([(ov f 0:Int),(ov f 1:Int),(ov f 2:Int)]:List Int).getD j 0=(ov f j:Int):=by rcases (by omega:j=0∨j=1∨j=2) with rfl | rfl | rfl <;> rfl
      have hlen:(([(ov f 0:Int),(ov f 1:Int),(ov f 2:Int)]:List Int).length:Int)=3:=rfl
      rw [Az.l1,hlen,if_pos (by omega),if_pos ⟨by omega,by omega⟩,Int.toNat_natCast,hd,if_pos ⟨by omega,by omega⟩,if_pos (by omega),U9 ho,Ap (by omega)]
    refine Aa.G9 (F:=fun K k=>Az.l1 K k (f:Int) (b:Int) (PA p 0:Int) (PA p 1:Int) (PA p 2:Int) (PA p 3:Int) o [(ov f 0:Int),(ov f 1:Int),(ov f 2:Int)] [] ((0:Nat):Int)) ?_
    refine st 0 [] (by omega) rfl (st 1 _ (by omega) rfl (st 2 _ (by omega) rfl ?_))
    refine Aa.step (G:=fun K k=>(fsC K p f).bind fun t111=>if 0≤((4 * b+PA p f:Nat):Int)∧((4 * b+PA p f:Nat):Int)<(o.length:Int) then some (o.set ((4 * b+PA p f:Nat):Int).toNat t111) else none) (fun K k=>?_) (Aa.bind (yY hp hf).two (Aa.pos ⟨by omega,by omega⟩ (by rw [Int.toNat_natCast]; exact Aa.const _)))
    have hlen:(([(ov f 0:Int),(ov f 1:Int),(ov f 2:Int)]:List Int).length:Int)=3:=rfl
    rw [Az.l1,hlen,if_neg (by omega),U9 hf,e2]
    unfold fsC
    rw [Option.bind_assoc]
    show (Fu.f K [(PA p (ov f 0):Int),(PA p (ov f 1):Int),(PA p (ov f 2):Int)]).bind _=_
    congr 1
    funext t
    split
    · split
      · rw [Option.bind_assoc]
      · rfl
    · rfl
  · rw [if_neg hlt]
    exact Ab.neg (by omega) (Ab.const _)
end
def FSg (ts:List (List Aw)) (G:Nat):Int:=if (Gx ts (G / 4) (G % 4)).Tet<0 then 1 else if 4 * (Gx ts (G / 4) (G % 4)).Tet.toNat+PA (Gx ts (G / 4) (G % 4)).Perm.toNat (G % 4)<G then SG (PI (Gx ts (G / 4) (G % 4)).Perm.toNat) (PA (Gx ts (G / 4) (G % 4)).Perm.toNat (G % 4)) else 1
def FL (ts:List (List Aw)):List Int:=(List.range (4 * ts.length)).map (FSg ts)
theorem Yt (ts:List (List Aw)) (G:Nat):FSg ts G=1∨FSg ts G = -1:=by
  unfold FSg
  split
  · exact .inl rfl
  · split
    · exact uK _ _
    · exact .inl rfl
theorem bO (ts:List (List Aw)):(FL ts).length=4 * ts.length:=by simp [FL]
theorem X6 {ts:List (List Aw)} {G:Nat} (h:G<4 * ts.length):(FL ts).getD G 0=FSg ts G:=by
  unfold FL
  rw [List.getD_eq_getElem?_getD,List.getElem?_map,List.getElem?_range h]; rfl
def Ptn (ts:List (List Aw)) (G:Nat):Option Nat:=if (Gx ts (G / 4) (G % 4)).Tet<0 then none else some (4 * (Gx ts (G / 4) (G % 4)).Tet.toNat+PA (Gx ts (G / 4) (G % 4)).Perm.toNat (G % 4))
section
variable {ts:List (List Aw)} (hv:Val ts)
include hv
theorem dm4 {a f:Nat} (hf:f<4):(4 * a+f) / 4=a∧(4 * a+f) % 4=f:=by omega
theorem lQ {a f:Nat} (ha:a<ts.length) (hf:f<4) (h:(Gx ts a f).Tet<0) {G:Nat} (hG:G<4 * ts.length):Ptn ts G≠some (4 * a+f):=by
  intro e
  unfold Ptn at e
  rcases Jj hv (show G / 4<ts.length by omega) (show G % 4<4 by omega) with ⟨h1,h2⟩ | ⟨h1,b,p,hb,hp,h2,h3⟩
  · rw [if_pos h1] at e; cases e
  · rw [if_neg h1,h2] at e
    have h4:=Nj hp (show G % 4<4 by omega)
    simp only [Int.toNat_natCast] at e
    injection e with e
    obtain ⟨rfl,rfl⟩:b=a∧PA p (G % 4)=f:=by omega
    rw [h3.2.2.2.1] at h
    simp at h
    omega
theorem gZ {a f b p:Nat} (ha:a<ts.length) (hf:f<4) (hp:p<24) (h:O8 ts a f b p):4 * b+PA p f<4 * ts.length∧Ptn ts (4 * b+PA p f)=some (4 * a+f)∧4 * a+f≠4 * b+PA p f∧FSg ts (4 * b+PA p f)=(if 4 * a+f<4 * b+PA p f then SG p f else 1)∧∀ G,G<4 * ts.length→Ptn ts G=some (4 * a+f)→G=4 * b+PA p f:=by
  have h0:=Nj hp hf
  obtain ⟨d1,d2⟩:=dm4 hv (a:=b) h0
  have hb:=h.1
  refine ⟨by omega,?_,?_,?_,fun G hG e=>?_⟩
  · unfold Ptn
    rw [d1,d2,h.2.2.2.1,if_neg (by show ¬ (a:Int)<0; omega)]
    simp only [Int.toNat_natCast]
    rw [aA hp hf]
  · intro e
    exact h.2.2.2.2 (by omega)
  · unfold FSg
    rw [d1,d2,h.2.2.2.1,if_neg (by show ¬ (a:Int)<0; omega)]
    simp only [Int.toNat_natCast]
    rw [aA hp hf,zK hp]
  · unfold Ptn at e
    rcases Jj hv (show G / 4<ts.length by omega) (show G % 4<4 by omega) with ⟨h1,h2⟩ | ⟨h1,c,q,hc,hq,h2,h3⟩
    · rw [if_pos h1] at e; cases e
    · rw [if_neg h1,h2] at e
      have h4:=Nj hq (show G % 4<4 by omega)
      simp only [Int.toNat_natCast] at e
      injection e with e
      obtain ⟨rfl,hpf⟩:c=a∧PA q (G % 4)=f:=by omega
      have h5:=h3.2.2.2.1
      rw [hpf,h.2.2.1] at h5
      injection h5 with h6 h7
      have h8:b=G / 4:=by omega
      have h9:p=PI q:=by omega
      rw [h9,← hpf,aA hq (by omega),h8]
      omega
def bD (ts:List (List Aw)) (x:Nat) (o:List Int):Prop:=o.length=4 * ts.length∧∀ G,G<4 * ts.length→o.getD G 0=if (∃ F,Ptn ts G=some F∧F<x) then FSg ts G else 1
omit hv in
theorem bD.next {x:Nat} {o:List Int} (h:bD ts x o) (hn:∀ G,G<4 * ts.length→Ptn ts G=some x→o.getD G 0=FSg ts G):bD ts (x+1) o:=by
  refine ⟨h.1,fun G hG=>?_⟩
  by_cases e:Ptn ts G=some x
  · rw [if_pos ⟨x,e,by omega⟩]; exact hn G hG e
  · rw [h.2 G hG]
    by_cases e2:∃ F,Ptn ts G=some F∧F<x
    · rw [if_pos e2,if_pos (by obtain ⟨F,a,b⟩:=e2; exact ⟨F,a,by omega⟩)]
    · rw [if_neg e2,if_neg (by
        rintro ⟨F,a,b⟩
        by_cases e3:F=x
        · exact e (e3 ▸ a)
        · exact e2 ⟨F,a,by omega⟩)]
theorem dC {a:Nat} (ha:a<ts.length):∀ (d f:Nat) (o:List Int),4 - f=d→f≤4→bD ts (4 * a+f) o →
    ∃ o',bD ts (4 * (a+1)) o'∧∀ R,Aa (fun K k=>Ah.l1 K k ts o' ((a+1:Nat):Int)) R→Aa (fun K k=>Ah.l4 K k ts (a:Int) o (f:Int)) R
  | 0,f,o,hd,hf,hs=>by
    obtain rfl:f=4:=by omega
    refine ⟨o,hs,fun R hR=>Aa.step (fun K k=>?_) hR⟩
    have:=hv.four a ha
    have:=hv.le
    rw [Ah.l4,Int.toNat_natCast,if_neg (by omega),Ap (by omega)]
  | d+1,f,o,hd,hf,hs=>by
    have h4:=hv.four a ha
    have h8:=hv.le
    have hf4:f<4:=by omega
    rcases Jj hv ha hf4 with ⟨h1,h2⟩ | ⟨h1,b,p,hb,hp,h2,hg⟩
    · obtain ⟨o',h,c⟩:=dC ha d (f+1) o (by omega) (by omega) (hs.next fun G hG e=>absurd e (lQ hv ha hf4 h1 hG))
      refine ⟨o',h,fun R hR=>Aa.step (fun K k=>?_) (c R hR)⟩
      rw [Ah.l4,Int.toNat_natCast,if_pos (by omega),if_pos (by omega),Int.toNat_natCast,Jk,Ap (by omega)]
      show (Ct.f (Gx ts a f).Tet (Gx ts a f).Perm).bind _=_
      rw [isB hv,Option.bind_some,decide_eq_true h1,if_pos rfl]
    · obtain ⟨g1,g2,g3,g4,g5⟩:=gZ hv ha hf4 hp hg
      have t1:=wU h8 ha hf4 hb hp hs.1
      have l1:(if 4 * a+f<4 * b+PA p f then o.set (4 * b+PA p f) (SG p f) else o).length=o.length:=by split; exact List.length_set ..; rfl
      have inv:bD ts (4 * a+(f+1)) (if 4 * a+f<4 * b+PA p f then o.set (4 * b+PA p f) (SG p f) else o):=by
        by_cases hlt:4 * a+f<4 * b+PA p f
        · rw [if_pos hlt]
          rw [if_pos hlt] at g4
          refine ⟨by rw [List.length_set]; exact hs.1,fun G hG=>?_⟩
          rw [Qq]
          by_cases e:4 * b+PA p f=G
          · subst e
            rw [if_pos ⟨rfl,by rw [hs.1]; exact g1⟩,if_pos ⟨_,g2,by omega⟩,g4]
          · rw [if_neg (fun e'=>e e'.1),hs.2 G hG]
            by_cases e2:∃ F,Ptn ts G=some F∧F<4 * a+f
            · rw [if_pos e2,if_pos (by obtain ⟨F,a',b'⟩:=e2; exact ⟨F,a',by omega⟩)]
            · rw [if_neg e2,if_neg (by
                rintro ⟨F,a',b'⟩
                by_cases e3:F=4 * a+f
                · exact e (g5 G hG (e3 ▸ a')).symm
                · exact e2 ⟨F,a',by omega⟩)]
        · rw [if_neg hlt]
          rw [if_neg hlt] at g4
          refine hs.next fun G hG e=>?_
          obtain rfl:=g5 G hG e
          rw [hs.2 _ hG,g4]
          split <;> rfl
      obtain ⟨o',h,c⟩:=dC ha d (f+1) _ (by omega) (by omega) inv
      refine ⟨o',h,fun R hR=>Aa.step (fun K k=>?_) (Aa.Gs (F:=fun K _=>Em.f K (p:Int)) (G:=fun K k i0 i1 i2 i3=>(Az.f K (a:Int) (f:Int) (b:Int) (p:Int) i0 i1 i2 i3 o).bind fun t228=>if t228.length=o.length then Ah.l4 K k ts (a:Int) t228 ((f+1:Nat):Int) else none) (Sa hp).two (Aa.bind t1.two (Aa.pos l1 (c R hR))))⟩
      rw [Ah.l4,Int.toNat_natCast,if_pos (by omega),if_pos (by omega),Int.toNat_natCast,Jk,Ap (by omega)]
      show (Ct.f (Gx ts a f).Tet (Gx ts a f).Perm).bind _=_
      rw [isB hv,Option.bind_some,decide_eq_false h1,if_neg (by decide)]
      show Gs (Em.f K (Gx ts a f).Perm) (fun t221 t222 t223 t224=>(Az.f K (a:Int) (f:Int) (Gx ts a f).Tet (Gx ts a f).Perm t221 t222 t223 t224 o).bind _)=_
      rw [h2]
theorem lX:∀ (d a:Nat) (o:List Int),ts.length - a=d→a≤ts.length→bD ts (4 * a) o→Aa (fun K k=>Ah.l1 K k ts o (a:Int)) (FL ts)
  | 0,a,o,hd,ha,hs=>by
    obtain rfl:a=ts.length:=by omega
    have e:o=FL ts:=by
      refine Mx hs.1 (bO ts) fun G hG=>?_
      rw [hs.2 G hG,X6 hG]
      split
      · rfl
      · next h =>
        unfold FSg
        rcases Jj hv (show G / 4<ts.length by omega) (show G % 4<4 by omega) with ⟨h1,h2⟩ | ⟨h1,b,p,hb,hp,h2,h3⟩
        · rw [if_pos h1]
        · exfalso
          have h4:=Nj hp (show G % 4<4 by omega)
          exact h ⟨_,by unfold Ptn; rw [if_neg h1,h2],by simp only [Int.toNat_natCast]; omega⟩
    exact Aa.of fun K k=>by rw [Ah.l1,if_neg (by omega),e]
  | d+1,a,o,hd,ha,hs=>by
    have hlt:a<ts.length:=by omega
    obtain ⟨o1,h1,c⟩:=dC hv hlt 4 0 o (by omega) (by omega) hs
    refine Aa.step (fun K k=>?_) (c _ (lX d (a+1) o1 (by omega) (by omega) h1))
    rw [Ah.l1,if_pos (by omega),if_pos (by omega)]
    rfl
theorem aL (hr:Ab (fun K=>Cc.f K [1] ((4 * ts.length:Nat):Int)) (List.replicate (4 * ts.length) 1)):Ab (fun K=>D9.f K ts) (FL ts):=by
  have h8:=hv.le
  have e1:=w6' (c:=4) (a:=ts.length) (by decide) (by omega)
  unfold D9.f
  have t:=(lX hv ts.length 0 (List.replicate (4 * ts.length) 1) (by omega) (by omega) ⟨by simp,fun G hG=>by
    rw [List.getD_eq_getElem?_getD,List.getElem?_replicate,if_pos hG,if_neg (by rintro ⟨F,_,h⟩; omega)]; rfl⟩).G9
  refine Ab.bind (a:=List.replicate (4 * ts.length) 1) ?_ (Ab.bind t (Ab.pos (by rw [bO,List.length_replicate]) (Ab.const _)))
  rw [show (4:Int) * (ts.length:Int)=((4:Nat):Int) * (ts.length:Int) from rfl,e1]
  exact hr
end
theorem eT {f:Nat} (hf:f<4):Ab (fun K=>Fh.f K (f:Int)) [(ov f 0:Int),(ov f 1:Int),(ov f 2:Int)] :=
  tab (F:=fun K f=>Fh.f K (f:Int)) (g:=fun f=>[(ov f 0:Int),(ov f 1:Int),(ov f 2:Int)]) (m:=40) (n:=4) (by kernel_rfl) hf
section
variable {ts:List (List Aw)} (hv:Val ts)
include hv
def M8 (ts:List (List Aw)) (a f:Nat):List Int:=(List.range 4).map fun g=>if g<f then FSg ts (4 * a+g) else 1
omit hv in
theorem M6 (a f:Nat):(M8 ts a f).length=4:=by simp [M8]
omit hv in
theorem Ps {a f g:Nat} (h:g<4):(M8 ts a f).getD g 0=if g<f then FSg ts (4 * a+g) else 1:=by
  unfold M8
  rw [List.getD_eq_getElem?_getD,List.getElem?_map,List.getElem?_range h]; rfl
omit hv in
theorem Ws {a f:Nat} (hf:f<4):(M8 ts a f).set f (FSg ts (4 * a+f))=M8 ts a (f+1):=by
  refine Mx (n:=4) (by rw [List.length_set]; exact M6 a f) (M6 _ _) fun g hg=>?_
  rw [Qq,Ps hg,Ps hg,M6]
  by_cases e:f=g
  · subst e; rw [if_pos ⟨rfl,hf⟩,if_pos (by omega)]
  · rw [if_neg (fun e'=>e e'.1)]
    by_cases h:g<f
    · rw [if_pos h,if_pos (by omega)]
    · rw [if_neg h,if_neg (by omega)]
omit hv in
theorem Zb {a f:Nat} (hf:f<4) (h:FSg ts (4 * a+f)=1):M8 ts a f=M8 ts a (f+1):=by
  rw [← Ws hf,h]
  refine Mx (n:=4) (M6 a f) (by rw [List.length_set]; exact M6 a f) fun g hg=>?_
  rw [Qq]
  split
  · next e=>rw [← e.1,Ps hf,if_neg (by omega)]
  · rfl
theorem nN {a f:Nat} {O:List (List Int)} {x y z:Nat} {e:List Int} (hf:f<4) (he:e.length=4) (h1:e.getD f 0=1) {R:List (List Int)}
    (h:Aa (fun K k=>Aj.l76 K k ts O (a:Int) (e.set f (nS x y z)) ((f+1:Nat):Int)) R) :
    Aa (fun K k=>Aj.Vz K k ts O (a:Int) (f:Int) [(x:Int),(y:Int),(z:Int)] 0 e) R:=by
  have h0:e=e.set f 1:=by
    refine Mx (n:=4) he (by rw [List.length_set]; exact he) fun g hg=>?_
    rw [Qq]; split
    · next e'=>rw [← e'.1,h1]
    · rfl
  have hlen:(([(x:Int),(y:Int),(z:Int)]:List Int).length:Int)=3:=rfl
  have s112:∀ (i j:Nat) (u w:Nat) (v:Int),i<j→j<3→([(x:Int),(y:Int),(z:Int)]:List Int).getD i 0=(u:Int)→([(x:Int),(y:Int),(z:Int)]:List Int).getD j 0=(w:Int)→(v=1∨v = -1)→Aa (fun K k=>Aj.Tn K k ts O (a:Int) (f:Int) [(x:Int),(y:Int),(z:Int)] (j:Int) (e.set f ((if w<u then -1 else 1) * v)) ((i+1:Nat):Int)) R→Aa (fun K k=>Aj.Tn K k ts O (a:Int) (f:Int) [(x:Int),(y:Int),(z:Int)] (j:Int) (e.set f v) (i:Int)) R:=fun i j u w v hi hj hu hw hv' hR=>by
    refine Aa.step (fun K k=>?_) hR
    have hg:(e.set f v).getD f 0=v:=by rw [Qq,if_pos ⟨rfl,by omega⟩]
    rw [Aj.Tn,if_pos (by omega),hlen,if_pos ⟨by omega,by omega⟩,if_pos ⟨by omega,by omega⟩,Int.toNat_natCast,Int.toNat_natCast,hu,hw,Ap (by omega),List.length_set,he]
    by_cases hc:w<u
    · rw [if_pos (by omega),if_pos ⟨by omega,by omega⟩,Int.toNat_natCast,hg,List.set_set,if_pos hc,show w64 (0 - v) = -1 * v by rcases hv' with rfl | rfl <;> rfl]
    · rw [if_neg (by omega),if_neg hc,Int.one_mul]
  have e112:∀ (j:Nat) (E:List Int),j<3→Aa (fun K k=>Aj.Vz K k ts O (a:Int) (f:Int) [(x:Int),(y:Int),(z:Int)] ((j+1:Nat):Int) E) R→Aa (fun K k=>Aj.Tn K k ts O (a:Int) (f:Int) [(x:Int),(y:Int),(z:Int)] (j:Int) E (j:Int)) R:=fun j E hj hR=>Aa.step (fun K k=>by
    rw [Aj.Tn,if_neg (by omega),Ap (by omega)]) hR
  have s108:∀ (j:Nat) (E:List Int),j<3→Aa (fun K k=>Aj.Tn K k ts O (a:Int) (f:Int) [(x:Int),(y:Int),(z:Int)] (j:Int) E ((0:Nat):Int)) R→Aa (fun K k=>Aj.Vz K k ts O (a:Int) (f:Int) [(x:Int),(y:Int),(z:Int)] (j:Int) E) R:=fun j E hj hR=>Aa.step (fun K k=>by
    rw [Aj.Vz,if_pos (by omega)]; rfl) hR
  have pm:∀ (c:Prop) [Decidable c] (v:Int),(v=1∨v = -1)→((if c then -1 else 1) * v=1∨(if c then -1 else 1) * v=(-1:Int)):=fun c _ v hv'=>by rcases hv' with rfl | rfl <;> split <;> simp
  rw [h0]
  refine s108 0 _ (by omega) (e112 0 _ (by omega) (s108 1 _ (by omega) (s112 0 1 x y 1 (by omega) (by omega) rfl rfl (.inl rfl) (e112 1 _ (by omega) (s108 2 _ (by omega) (s112 0 2 x z _ (by omega) (by omega) rfl rfl (pm _ _ (.inl rfl)) (s112 1 2 y z _ (by omega) (by omega) rfl rfl (pm _ _ (pm _ _ (.inl rfl))) (e112 2 _ (by omega) ?_))))))))
  refine Aa.step (fun K k=>?_) h
  rw [Aj.Vz,if_neg (by omega),Ap (by omega),Int.mul_one]
  rfl
theorem mW {a:Nat} (ha:a<ts.length) {O:List (List Int)} (hO:O.length=a) {R:List (List Int)} (hR:Aa (fun K k=>Aj.l1 K k ts (O++[M8 ts a 4]) ((a+1:Nat):Int)) R):∀ (d f:Nat),4 - f=d→f≤4 →
    Aa (fun K k=>Aj.l76 K k ts O (a:Int) (M8 ts a f) (f:Int)) R
  | 0,f,hd,hf=>by
    obtain rfl:f=4:=by omega
    have h8:=hv.le
    refine Aa.step (fun K k=>?_) hR
    rw [Aj.l76,if_neg (by decide),if_pos (by omega),Ap (by omega)]
  | d+1,f,hd,hf=>by
    have h4:=hv.four a ha
    have h8:=hv.le
    have hf4:f<4:=by omega
    have ih:=mW ha hO hR d (f+1) (by omega) (by omega)
    obtain ⟨d1,d2⟩:=dm4 hv (a:=a) hf4
    have start:∀ K k,Aj.l76 K (k+1) ts O (a:Int) (M8 ts a f) (f:Int)=(if (Gx ts a f).Tet<0 then Aj.l76 K k ts O (a:Int) (M8 ts a f) ((f+1:Nat):Int) else ((Ef.f K (Gx ts a f).Perm (f:Int)).bind fun t2070=>(if (a:Int)<(Gx ts a f).Tet then (Aj.Rt K k ts O (a:Int) (M8 ts a f) (f:Int) (Gx ts a f) t2070 true) else (if (Gx ts a f).Tet=(a:Int) then (Aj.Rt K k ts O (a:Int) (M8 ts a f) (f:Int) (Gx ts a f) t2070 (decide ((f:Int)<t2070))) else (Aj.Rt K k ts O (a:Int) (M8 ts a f) (f:Int) (Gx ts a f) t2070 false))))):=fun K k=>by
      rw [Aj.l76,if_pos (by omega),if_pos (by omega),Int.toNat_natCast,if_pos (by omega),Int.toNat_natCast,Jk,Ap (by omega)]
      rfl
    rcases Jj hv ha hf4 with ⟨h1,h2⟩ | ⟨h1,b,p,hb,hp,h2,hg⟩
    · have e1:FSg ts (4 * a+f)=1:=by unfold FSg; rw [d1,d2,if_pos h1]
      refine Aa.step (fun K k=>?_) ih
      rw [start,if_pos h1,Zb hf4 e1]
    · have hpf:=Nj hp hf4
      have e1:FSg ts (4 * a+f)=if 4 * b+PA p f<4 * a+f then SG (PI p) (PA p f) else 1:=by
        unfold FSg
        rw [d1,d2,if_neg h1,h2]
        simp only [Int.toNat_natCast]
      have hne:=hg.2.2.2.2
      have j1:(FSg ts (4 * a+f)=1)→Aa (fun K k=>Aj.Rt K k ts O (a:Int) (M8 ts a f) (f:Int) (Gx ts a f) (PA p f:Int) true) R:=fun e2=>Aa.step (fun K k=>by
        rw [Aj.Rt,if_pos rfl,Ap (by omega),Zb hf4 e2]) ih
      have j0:4 * b+PA p f<4 * a+f→Aa (fun K k=>Aj.Rt K k ts O (a:Int) (M8 ts a f) (f:Int) (Gx ts a f) (PA p f:Int) false) R:=fun hlt=>by
        rw [if_pos hlt] at e1
        have hq:=qK hp
        refine Aa.step (G:=fun K k=>(Fh.f K (PA p f:Int)).bind fun t2082=>Aj.V4 K k ts O (a:Int) (M8 ts a f) (f:Int) ⟨b,p⟩ t2082 [] 0) (fun K k=>by rw [Aj.Rt,if_neg (by decide),h2]) (Aa.bind (eT hpf).two ?_)
        have st:∀ (i:Nat) (im:List Int),i<3→im.length=i→Aa (fun K k=>Aj.V4 K k ts O (a:Int) (M8 ts a f) (f:Int) ⟨b,p⟩ [(ov (PA p f) 0:Int),(ov (PA p f) 1:Int),(ov (PA p f) 2:Int)] (im++[(PA (PI p) (ov (PA p f) i):Int)]) ((i+1:Nat):Int)) R→Aa (fun K k=>Aj.V4 K k ts O (a:Int) (M8 ts a f) (f:Int) ⟨b,p⟩ [(ov (PA p f) 0:Int),(ov (PA p f) 1:Int),(ov (PA p f) 2:Int)] im (i:Int)) R:=fun i im hi him hR'=>by
          have hd':([(ov (PA p f) 0:Int),(ov (PA p f) 1:Int),(ov (PA p f) 2:Int)]:List Int).getD i 0=(ov (PA p f) i:Int):=by rcases (by omega:i=0∨i=1∨i=2) with rfl | rfl | rfl <;> rfl
          have hlen:(([(ov (PA p f) 0:Int),(ov (PA p f) 1:Int),(ov (PA p f) 2:Int)]:List Int).length:Int)=3:=rfl
          refine Aa.succ ?_
          simp only [Aj.V4]
          refine Aa.pos (by omega) (Aa.bind (kY hp).two (Aa.pos (by rw [hlen]; omega) ?_))
          rw [Int.toNat_natCast,hd',Ap (by omega)]
          exact Aa.bind (Y2 hq (Vk hpf hi)).two (Aa.pos (by omega) hR')
        refine st 0 [] (by omega) rfl (st 1 _ (by omega) rfl (st 2 _ (by omega) rfl ?_))
        refine Aa.step (fun K k=>by rw [Aj.V4,if_neg (by decide)]; rfl) (nN hv (a:=a) (O:=O) (x:=PA (PI p) (ov (PA p f) 0)) (y:=PA (PI p) (ov (PA p f) 1)) (z:=PA (PI p) (ov (PA p f) 2)) (e:=M8 ts a f) hf4 (M6 a f) (by rw [Ps hf4,if_neg (by omega)]) ?_)
        rw [show nS (PA (PI p) (ov (PA p f) 0)) (PA (PI p) (ov (PA p f) 1)) (PA (PI p) (ov (PA p f) 2))=FSg ts (4 * a+f) from e1.symm,Ws hf4]
        exact ih
      refine Aa.succ (Aa.congr start (Aa.neg h1 ?_))
      have hat:Ab (fun K=>Ef.f K (Gx ts a f).Perm (f:Int)) (PA p f:Int):=by rw [h2]; exact Y2 hp hf4
      refine Aa.bind hat.two ?_
      have hT:(Gx ts a f).Tet=(b:Int):=by rw [h2]
      by_cases c1:a<b
      · exact Aa.pos (by omega) (j1 (by rw [e1,if_neg (by omega)]))
      · refine Aa.neg (by omega) ?_
        by_cases c2:b=a
        · refine Aa.pos (by omega) ?_
          by_cases c3:f<PA p f
          · rw [decide_eq_true (by omega)]
            exact j1 (by rw [e1,if_neg (by omega)])
          · have c4:PA p f≠f:=fun e=>hne ⟨c2,e⟩
            rw [decide_eq_false (by omega)]
            exact j0 (by omega)
        · exact Aa.neg (by omega) (j0 (by omega))
theorem Z5:Ab (fun K=>Aj.f K ts) (rowsOf (FL ts) 4 ts.length):=by
  have h8:=hv.le
  have hrow:∀ a,a<ts.length→M8 ts a 4=rowAt (FL ts) 4 a:=fun a ha=>by
    refine Mx (n:=4) (M6 a 4) (Lj _ _ _) fun g hg=>?_
    rw [Ps hg,if_pos hg,J9 hg,X6 (by omega)]
  have main:∀ d a,ts.length - a=d→a≤ts.length→Aa (fun K k=>Aj.l1 K k ts (rowsOf (FL ts) 4 a) (a:Int)) (rowsOf (FL ts) 4 ts.length):=by
    intro d
    induction d with
    | zero =>
      intro a hd ha
      obtain rfl:a=ts.length:=by omega
      refine Aa.of fun K k=>?_
      rw [Aj.l1]
      unfold D7.f
      rw [Option.bind_some,if_neg (by omega)]
    | succ d ih =>
      intro a hd ha
      have hlt:a<ts.length:=by omega
      have e:rowsOf (FL ts) 4 a++[M8 ts a 4]=rowsOf (FL ts) 4 (a+1):=by
        unfold rowsOf
        rw [List.range_succ,List.map_append,hrow a hlt]; rfl
      refine Aa.step (fun K k=>?_) (mW hv hlt (Jz _ _ _) (by rw [e]; exact ih (a+1) (by omega) (by omega)) 4 0 (by omega) (by omega))
      rw [Aj.l1]
      unfold D7.f
      rw [Option.bind_some,if_pos (by omega)]
      rfl
  exact (main ts.length 0 (by omega) (by omega)).G9
end
theorem bL:(fun K:Nat=>(List.range 9).map fun n=>Cc.f (K+60) [1] ((4 * n:Nat):Int))=fun _=>(List.range 9).map fun n=>some (List.replicate (4 * n) (1:Int)):=by kernel_rfl
theorem jW {n:Nat} (hn:n≤8):Ab (fun K=>Cc.f K [1] ((4 * n:Nat):Int)) (List.replicate (4 * n) 1):=tab (F:=fun K n=>Cc.f K [1] ((4 * n:Nat):Int)) (g:=fun n=>List.replicate (4 * n) (1:Int)) (m:=60) (n:=9) bL (by omega)
def Bt (t:Nat) (M:List Int):Prop:=∀ p,-(t:Int)≤M.getD p 0∧M.getD p 0≤(t:Int)
def Oz (n:Nat) (M:List Int) (o:Nat × Nat × Int):List Int:=M.set (o.1 * n+o.2.1) (M.getD (o.1 * n+o.2.1) 0+o.2.2)
def Nk (n:Nat) (M:List Int) (l:List (Nat × Nat × Int)):List Int:=l.foldl (Oz n) M
theorem Lh (n:Nat) (M:List Int) (l l':List (Nat × Nat × Int)):Nk n M (l++l')=Nk n (Nk n M l) l':=by unfold Nk; rw [List.foldl_append]
def WO (m n:Nat) (l:List (Nat × Nat × Int)):Prop:=∀ o,o ∈ l→o.1<m∧o.2.1<n∧-1≤o.2.2∧o.2.2≤1
theorem Ro {n t:Nat} {M:List Int} {o:Nat × Nat × Int} (h:Bt t M) (h1 : -1≤o.2.2) (h2:o.2.2≤1):Bt (t+1) (Oz n M o):=fun p=>by
  unfold Oz
  have a:=h (o.1 * n+o.2.1)
  have b:=h p
  rw [Qq]; split <;> omega
theorem Rn {m n:Nat}:∀ {l:List (Nat × Nat × Int)} {t:Nat} {M:List Int},Bt t M→WO m n l→Bt (t+l.length) (Nk n M l)
  | [],_,_,h,_=>h
  | o::l,t,M,h,hw=>by
    have ho:=hw o (List.mem_cons_self ..)
    have:=Rn (l:=l) (t:=t+1) (M:=Oz n M o) (Ro h ho.2.2.1 ho.2.2.2) (fun o' h'=>hw o' (List.mem_cons_of_mem _ h'))
    rw [List.length_cons,show t+(l.length+1)=t+1+l.length by omega]
    exact this
theorem P5 {n:Nat}:∀ {l:List (Nat × Nat × Int)} {M:List Int},(Nk n M l).length=M.length
  | [],_=>rfl
  | o::l,M=>by
    show (Nk n (Oz n M o) l).length=_
    rw [P5]; unfold Oz; rw [List.length_set]
theorem Ug (N:Nat):Bt 0 (List.replicate N (0:Int)):=fun p=>by
  rw [List.getD_eq_getElem?_getD,List.getElem?_replicate]; split <;> simp
def cat {α:Type} (F:Nat→List α):Nat→List α
  | 0=>[]
  | m+1=>cat F m++F m
theorem Ud {α:Type} {F:Nat→List α} {c:Nat} (h:∀ i,(F i).length≤c):∀ m,(cat F m).length≤c * m
  | 0=>Nat.le_refl _
  | m+1=>by
    have:=Ud h m
    have:=h m
    rw [cat,List.length_append,Nat.mul_succ]; omega
theorem Yx {F:Nat→List (Nat × Nat × Int)} {m n N:Nat} (h:∀ i,i<N→WO m n (F i)):∀ x,x≤N→WO m n (cat F x)
  | 0,_=>fun o ho=>by cases ho
  | x+1,hx=>fun o ho=>by
    rcases List.mem_append.1 ho with ho | ho
    · exact Yx h x (by omega) o ho
    · exact h x (by omega) o ho
section
variable {m n t:Nat} {M:List Int}
theorem eU {β:Type} {c:Int} {i j:Nat} {N:Nat} {g:Int→Option β} (hl:M.length=m * n) (hN:N=m * n) (hi:i<m) (hj:j<n) (hm:m≤1000) (hn:n≤1000):(Be.f c (n:Int) M (i:Int) (j:Int)).bind (fun t=>if 0≤t∧t<(N:Int) then g t else none)=g ((i * n+j:Nat):Int):=Ll hl hN hi hj hm hn
theorem Xw {c:Int} {i j:Nat} {v:Int} (hl:M.length=m * n) (hb:Bt t M) (ht:t≤1000000) (hi:i<m) (hj:j<n) (hm:m≤1000) (hn:n≤1000) (h1 : -1≤v) (h2:v≤1):Ga.f c (n:Int) M (i:Int) (j:Int) v=some (Oz n M (i,j,v)):=by
  unfold Ga.f
  have h:=Ji hi hj
  have:=hb (i * n+j)
  rw [R6 (by omega) (by omega) hn,if_pos ⟨by omega,by omega⟩,Int.toNat_natCast,F6 (by omega) (by omega)]
  rfl
theorem Xk {v:Int} (hb:Bt t M) (ht:t≤1000000) (p:Nat) (h1 : -1≤v) (h2:v≤1):w64 (M.getD p 0+v)=M.getD p 0+v:=by
  have:=hb p
  exact F6 (by omega) (by omega)
end
def Cn (C:List Int) (i:Nat):Nat:=(C.getD i 0).toNat
theorem K7 {N i:Nat} {s:List Int} (h:i<N):(CN N s).getD i 0=(Cn (CN N s) i:Int)∧Cn (CN N s) i<Bf s N:=by
  have:=(Na N s).range h
  unfold Cn
  omega
theorem Kv (s:List Int) (i:Nat):Bf s (i+1)=Bf s i+(if Gj s i=true then 1 else 0):=by
  rw [Bf]
theorem Q5 {N i:Nat} {s:List Int} (h:i<N) (hf:Gj s i=true):Cn (CN N s) i=Bf s i:=by
  have:=(Na N s).first i h hf
  unfold Cn; omega
theorem bS {N i:Nat} {s:List Int} (h:i<N) (hf:Gj s i=false):Cn (CN N s) i<Bf s i:=by
  obtain ⟨j,h1,h2,h3,h4⟩:=(Na N s).at_ h
  have hj:j<i:=by
    rcases Nat.lt_or_eq_of_le h1 with h5 | h5
    · exact h5
    · subst h5; rw [h2] at hf; cases hf
  have:=Lu h2 hj
  unfold Cn; omega
theorem U0 {N c x:Nat} {s:List Int} (hx:x≤N) (hc:Bf s x=c) (hlt:c<Bf s N):∃ i,x≤i∧i<N∧Gj s i=true∧Bf s i=c∧Cn (CN N s) i=c∧(∀ j,j<i→(CN N s).getD j 0≠(c:Int))∧∀ j,x≤j→j<i→Gj s j=false:=by
  have main:∀ d x,N - x=d→x≤N→Bf s x=c→∃ i,x≤i∧i<N∧Gj s i=true∧Bf s i=c∧∀ j,x≤j→j<i→Gj s j=false:=by
    intro d
    induction d with
    | zero => intro x hd hx hc; have : x = N := by omega
              subst this; omega
    | succ d ih =>
      intro x hd hx hc
      cases hf:Gj s x with
      | true=>exact ⟨x,Nat.le_refl _,by omega,hf,hc,fun j h1 h2=>by omega⟩
      | false =>
        obtain ⟨i,h1,h2,h3,h4,h5⟩:=ih (x+1) (by omega) (by omega) (by rw [Kv,hf]; simp [hc])
        refine ⟨i,by omega,h2,h3,h4,fun j a b=>?_⟩
        by_cases e:j=x
        · subst e; exact hf
        · exact h5 j (by omega) b
  obtain ⟨i,h1,h2,h3,h4,h5⟩:=main _ x rfl hx hc
  have hci:Cn (CN N s) i=c:=by rw [Q5 h2 h3,h4]
  refine ⟨i,h1,h2,h3,h4,hci,fun j hj e=>?_,h5⟩
  have hjN:j<N:=by omega
  have e1:=(K7 (s:=s) hjN).1
  have hm:=Kz s (show j≤i by omega)
  cases hf:Gj s j with
  | true =>
    have:=Q5 hjN hf
    have:=Lu hf hj
    omega
  | false =>
    have:=bS hjN hf
    omega
theorem Rc {α:Type} {F:Nat→List α} {x y:Nat} (hxy:x≤y) (h:∀ j,x≤j→j<y→F j=[]):cat F x=cat F y:=by
  induction y with
  | zero => obtain rfl : x = 0 := by omega
            rfl
  | succ y ih =>
    by_cases e:x=y+1
    · rw [e]
    · rw [cat,h y (by omega) (by omega),List.append_nil]
      exact ih (by omega) fun j a b=>h j a (by omega)
theorem Y6 {l:List Int} (hl:l.length≤1000) {v:Int} {j0:Nat} (hj:j0<l.length) (h0:l.getD j0 0=v) (h1:∀ j,j<j0→l.getD j 0≠v):Ab (fun K=>Cm.f K l v) (j0:Int):=by
  have main:∀ d i,j0 - i=d→i≤j0→Aa (fun K k=>Cm.l1 K k l v (i:Int)) (j0:Int):=by
    intro d
    induction d with
    | zero =>
      intro i hd hi
      obtain rfl:i=j0:=by omega
      refine Aa.of fun K k=>?_
      rw [Cm.l1,if_pos (by omega),if_pos ⟨by omega,by omega⟩,Int.toNat_natCast,if_pos h0.symm]
    | succ d ih =>
      intro i hd hi
      refine Aa.step (fun K k=>?_) (ih (i+1) (by omega) (by omega))
      rw [Cm.l1,if_pos (by omega),if_pos ⟨by omega,by omega⟩,Int.toNat_natCast,if_neg (fun e=>h1 i (by omega) e.symm),Ap (by omega)]
  exact (main j0 0 (by omega) (by omega)).G9
theorem qC {c:Nat} (hc:c≤1000) (v:Nat):Ab (fun K=>Fx.f K (upto c) (v:Int)) (decide (v<c)):=by
  have hl:=Kt c
  by_cases h:v<c
  · rw [decide_eq_true h]
    have main:∀ d i,v - i=d→i≤v→Aa (fun K k=>Fx.l1 K k (upto c) (v:Int) (i:Int)) true:=by
      intro d
      induction d with
      | zero =>
        intro i hd hi
        obtain rfl:i=v:=by omega
        refine Aa.of fun K k=>?_
        rw [Fx.l1,if_pos (by omega),if_pos ⟨by omega,by omega⟩,Int.toNat_natCast,if_pos (Mc h)]
      | succ d ih =>
        intro i hd hi
        refine Aa.step (fun K k=>?_) (ih (i+1) (by omega) (by omega))
        rw [Fx.l1,if_pos (by omega),if_pos ⟨by omega,by omega⟩,Int.toNat_natCast,Mc (by omega),if_neg (by omega),Ap (by omega)]
    exact (main v 0 (by omega) (by omega)).G9
  · rw [decide_eq_false h]
    have main:∀ d i,c - i=d→i≤c→Aa (fun K k=>Fx.l1 K k (upto c) (v:Int) (i:Int)) false:=by
      intro d
      induction d with
      | zero =>
        intro i hd hi
        obtain rfl:i=c:=by omega
        refine Aa.of fun K k=>?_
        rw [Fx.l1,if_neg (by omega)]
      | succ d ih =>
        intro i hd hi
        refine Aa.step (fun K k=>?_) (ih (i+1) (by omega) (by omega))
        rw [Fx.l1,if_pos (by omega),if_pos ⟨by omega,by omega⟩,Int.toNat_natCast,Mc (by omega),if_neg (by omega),Ap (by omega)]
    exact (main c 0 (by omega) (by omega)).G9
end Go.Proofs.YtgkgmhkgahalgaaGreat
