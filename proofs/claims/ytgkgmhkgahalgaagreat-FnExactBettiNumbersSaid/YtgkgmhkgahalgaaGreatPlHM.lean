/-
  The reductions of both packages end, and with the same diagonal.
  The reductions of both packages end, with the same outcome.
  Invariant factors, torsion, products: the homology of two matrices in both packages.
  Products, and the homology of two matrices, in both packages.
  The signs of faces in both packages.
  The signs of faces in the reference.
  Boundary matrices as numbers added to a matrix of zeros.
-/
import Derived.Test.YtgkgmhkgahalgaaGreatPlHF
import Derived.Test.YtgkgmhkgahalgaaGreatPlHA
set_option linter.unusedVariables false
set_option linter.unusedSimpArgs false
set_option linter.unusedSectionVars false
namespace Go.Proofs.YtgkgmhkgahalgaaGreat
open Go.RowKit
theorem Aa.Mg {α β γ δ ε ζ η:Type} {F:Nat→Nat→Option (α × β × γ × δ × ε × ζ)} {G:Nat→Nat→α→β→γ→δ→ε→ζ→Option η} {a:α} {b:β} {c:γ} {d:δ} {e:ε} {f:ζ} {r:η} (h:Aa F (a,b,c,d,e,f)) (g:Aa (fun K k=>G K k a b c d e f) r):Aa (fun K k=>Go.Proofs.YtgkgmhkgahalgaaGreat.Mg (F K k) (G K k)) r:=by
  obtain ⟨n,hn⟩:=h
  obtain ⟨m,hm⟩:=g
  exact ⟨n+m,fun K k hK hk=>by show Go.Proofs.YtgkgmhkgahalgaaGreat.Mg (F K k) (G K k)=some r; rw [hn K k (by omega) (by omega)]; exact hm K k (by omega) (by omega)⟩
theorem Ab.Mg {α β γ δ ε ζ η:Type} {F:Nat→Option (α × β × γ × δ × ε × ζ)} {G:Nat→α→β→γ→δ→ε→ζ→Option η} {a:α} {b:β} {c:γ} {d:δ} {e:ε} {f:ζ} {r:η} (h:Ab F (a,b,c,d,e,f)) (g:Ab (fun K=>G K a b c d e f) r):Ab (fun K=>Go.Proofs.YtgkgmhkgahalgaaGreat.Mg (F K) (G K)) r:=by
  obtain ⟨n,hn⟩:=h
  obtain ⟨m,hm⟩:=g
  exact ⟨n+m,fun K hK=>by show Go.Proofs.YtgkgmhkgahalgaaGreat.Mg (F K) (G K)=some r; rw [hn K (by omega)]; exact hm K (by omega)⟩
theorem Aa.Wm {α β γ δ ε ζ η θ ι:Type} {F:Nat→Nat→Option (α × β × γ × δ × ε × ζ × η × θ)} {G:Nat→Nat→α→β→γ→δ→ε→ζ→η→θ→Option ι} {a:α} {b:β} {c:γ} {d:δ} {e:ε} {f:ζ} {x:η} {y:θ} {r:ι} (h:Aa F (a,b,c,d,e,f,x,y)) (g:Aa (fun K k=>G K k a b c d e f x y) r):Aa (fun K k=>Go.Proofs.YtgkgmhkgahalgaaGreat.Wm (F K k) (G K k)) r:=by
  obtain ⟨n,hn⟩:=h
  obtain ⟨m,hm⟩:=g
  exact ⟨n+m,fun K k hK hk=>by show Go.Proofs.YtgkgmhkgahalgaaGreat.Wm (F K k) (G K k)=some r; rw [hn K k (by omega) (by omega)]; exact hm K k (by omega) (by omega)⟩
inductive Nx
  | stop
  | bad
  | go (next:Bool) (s:Sm)
def sx (m n k:Nat) (s:Sm):Nx:=match pvt m n k s with
  | none=>.stop
  | some s1=>match clr m n k s1 with
    | none=>.bad
    | some s2=>if Q0 m n k s2.d=true then (if Rc n k s2.d (m - (k+1)) (k+1)<0 then .go true s2 else match Mh m n k (Rc n k s2.d (m - (k+1)) (k+1)).toNat (-1) s2 with
        | none=>.bad
        | some s3=>.go false s3) else .go false s2
section
variable {m n k:Nat} {s:Sm}
theorem Oo {d:List Int}:∀ {c i:Nat},i+c=m→Rc n k d c i<0∨∃ j:Nat,Rc n k d c i=(j:Int)∧i≤j∧j<m∧Po n k d j=false
  | 0,_,_=>.inl (show (-1:Int)<0 by decide)
  | c+1,i,h=>by
    unfold Rc
    cases hd:Po n k d i with
    | true =>
      rw [if_pos rfl]
      rcases Oo (c:=c) (i:=i+1) (by omega) with h1 | ⟨j,h1,h2,h3,h4⟩
      · exact .inl h1
      · exact .inr ⟨j,h1,by omega,h3,h4⟩
    | false=>rw [if_neg (by decide)]; exact .inr ⟨i,rfl,Nat.le_refl _,by omega,hd⟩
abbrev Mv (m n:Nat) (z:Bool) (s:Sm) (k:Int) (K x:Nat):=Dw.l1 K x (m:Int) (m:Int) (m:Int) (m:Int) (m:Int) (n:Int) (n:Int) (n:Int) (n:Int) (n:Int) s.l s.li s.d s.r s.ri z k
theorem Z8 {k:Int}:Aa (fun K x=>Mv m n true s k K x) (Vg (true,s)):=Aa.of fun K x=>by
  simp only [Mv,Dw.l1]
  rw [if_pos trivial]; rfl
theorem zX (hm:m≤1000) (hn:n≤1000) (h:Ok m n s) (hk:k<m) (hkn:k<n) :
    (sx m n k s=.stop→Aa (fun K x=>Mv m n false s (k:Int) K x) (Vg (false,s)))∧(sx m n k s=.bad→∃ u,Ok m n u∧Aa (fun K x=>Mv m n false s (k:Int) K x) (Vg (true,u))) ∧
    ∀ b s',sx m n k s=.go b s'→∀ r,Aa (fun K x=>Mv m n false s' ((k+b.toNat:Nat):Int) K x) r→Aa (fun K x=>Mv m n false s (k:Int) K x) r:=by
  have hp:=oP (b:=false) hm hn h hk hkn
  have hmin:(k:Int)<(if (n:Int)<(m:Int) then (n:Int) else (m:Int)):=by split <;> omega
  -- behind the pivot
  have step1:∀ {r},Aa (fun K x=>if (pvt m n k s).isSome=true then Go.Proofs.YtgkgmhkgahalgaaGreat.Mg (Bi.f K (m:Int) (m:Int) ((pvt m n k s).getD s).l (m:Int) (m:Int) ((pvt m n k s).getD s).li (m:Int) (n:Int) ((pvt m n k s).getD s).d (n:Int) (n:Int) ((pvt m n k s).getD s).r (n:Int) (n:Int) ((pvt m n k s).getD s).ri false (k:Int)) (fun z l li d r ri=>if l.length=((pvt m n k s).getD s).l.length then (if li.length=((pvt m n k s).getD s).li.length then (if d.length=((pvt m n k s).getD s).d.length then (if r.length=((pvt m n k s).getD s).r.length then (if ri.length=((pvt m n k s).getD s).ri.length then (if z=true then Mv m n z ⟨d,l,li,r,ri⟩ (k:Int) K x else ((C9.f K (m:Int) (m:Int) l (m:Int) (m:Int) li (m:Int) (n:Int) d (n:Int) (n:Int) r (n:Int) (n:Int) ri z (k:Int)).bind fun c=>if c=true then ((Co.f K (m:Int) (m:Int) l (m:Int) (m:Int) li (m:Int) (n:Int) d (n:Int) (n:Int) r (n:Int) (n:Int) ri z (k:Int)).bind fun o=>if 0≤o then Go.Proofs.YtgkgmhkgahalgaaGreat.Gr (Eu.f K (m:Int) (m:Int) l (m:Int) (m:Int) li (m:Int) (n:Int) d (n:Int) (n:Int) r (n:Int) (n:Int) ri z (k:Int) o 1) (fun z' l' li' d'=>if l'.length=l.length then (if li'.length=li.length then (if d'.length=d.length then Mv m n z' ⟨d',l',li',r,ri⟩ (k:Int) K x else none) else none) else none) else Mv m n z ⟨d,l,li,r,ri⟩ (w64 ((k:Int)+1)) K x) else Mv m n z ⟨d,l,li,r,ri⟩ (k:Int) K x)) else none) else none) else none) else none) else none) else some (false,((pvt m n k s).getD s).l,((pvt m n k s).getD s).li,((pvt m n k s).getD s).d,((pvt m n k s).getD s).r,((pvt m n k s).getD s).ri)) r→Aa (fun K x=>Mv m n false s (k:Int) K x) r:=fun {r} hr=>by
    have hok:Ok m n ((pvt m n k s).getD s):=by
      cases hv:pvt m n k s with
      | none=>exact h
      | some t=>exact Qd h hv
    refine Aa.succ ?_
    simp only [Mv,Dw.l1]
    refine Aa.neg Bool.false_ne_true (Aa.pos hmin ?_)
    refine Aa.Mg hp.two ?_
    exact Aa.pos (hok.l.trans h.l.symm) (Aa.pos (hok.li.trans h.li.symm) (Aa.pos (hok.d.trans h.d.symm) (Aa.pos (hok.r.trans h.r.symm) (Aa.pos (hok.ri.trans h.ri.symm) hr))))
  unfold sx
  cases hv:pvt m n k s with
  | none =>
    rw [hv] at step1
    exact ⟨fun _=>step1 (Aa.neg (by decide) (Aa.const _)),fun e=>(by cases e),fun b s' e=>(by cases e)⟩
  | some s1 =>
    rw [hv] at step1
    have h1:=Qd h hv
    obtain ⟨p,q,_,_,_,_,hpos,_⟩:=Va h hk hkn hv
    obtain ⟨⟨z,u⟩,f1,f2⟩:=oC hm hn h1 hk hkn hpos
    have hu:Ok m n u:=f1.ok
    have step2:∀ {r},Aa (fun K x=>if z=true then Mv m n z u (k:Int) K x else ((C9.f K (m:Int) (m:Int) u.l (m:Int) (m:Int) u.li (m:Int) (n:Int) u.d (n:Int) (n:Int) u.r (n:Int) (n:Int) u.ri z (k:Int)).bind fun c=>if c=true then ((Co.f K (m:Int) (m:Int) u.l (m:Int) (m:Int) u.li (m:Int) (n:Int) u.d (n:Int) (n:Int) u.r (n:Int) (n:Int) u.ri z (k:Int)).bind fun o=>if 0≤o then Go.Proofs.YtgkgmhkgahalgaaGreat.Gr (Eu.f K (m:Int) (m:Int) u.l (m:Int) (m:Int) u.li (m:Int) (n:Int) u.d (n:Int) (n:Int) u.r (n:Int) (n:Int) u.ri z (k:Int) o 1) (fun z' l' li' d'=>if l'.length=u.l.length then (if li'.length=u.li.length then (if d'.length=u.d.length then Mv m n z' ⟨d',l',li',u.r,u.ri⟩ (k:Int) K x else none) else none) else none) else Mv m n z u (w64 ((k:Int)+1)) K x) else Mv m n z u (k:Int) K x)) r→Aa (fun K x=>Mv m n false s (k:Int) K x) r:=fun {r} hr =>
      step1 (Aa.pos rfl (Aa.Mg f2.two (Aa.pos (hu.l.trans h1.l.symm) (Aa.pos (hu.li.trans h1.li.symm) (Aa.pos (hu.d.trans h1.d.symm) (Aa.pos (hu.r.trans h1.r.symm) (Aa.pos (hu.ri.trans h1.ri.symm) hr)))))))
    dsimp only
    cases hc:clr m n k s1 with
    | none =>
      have hz:z=true:=by have:=f1.b; rw [hc] at this; exact this
      subst hz
      exact ⟨fun e=>(by cases e),fun _=>⟨u,hu,step2 (Aa.pos rfl Z8)⟩,fun b s' e=>by cases e⟩
    | some s2 =>
      have e1:(z,u)=(false,s2):=by rw [hc] at f1; exact f1.isSome
      obtain ⟨rfl,rfl⟩:=Prod.mk.inj e1
      obtain ⟨_,ekk,_⟩:=Rz h1 hk hkn hpos hc
      have hkk:At n u.d k k≠0:=by rw [ekk]; omega
      have hcl:=fO (b:=false) hm hn hu hk hkn
      dsimp only
      cases hb:Q0 m n k u.d with
      | false =>
        rw [hb] at hcl
        rw [if_neg (by decide)]
        refine ⟨fun e=>(by cases e),fun e=>(by cases e),fun b s' e r hr=>?_⟩
        injection e with e2 e3
        subst e2; subst e3
        exact step2 (Aa.neg Bool.false_ne_true (Aa.bind hcl.two (Aa.neg Bool.false_ne_true hr)))
      | true =>
        rw [hb] at hcl
        rw [if_pos rfl]
        have hud:=Y1 (b:=false) hm hn hu hk hkn hkk
        rcases Oo (n:=n) (k:=k) (d:=u.d) (show k+1+(m - (k+1))=m by omega) with h5 | ⟨j,h5,h6,h7,h8⟩
        · rw [if_pos h5]
          refine ⟨fun e=>(by cases e),fun e=>(by cases e),fun b s' e r hr=>?_⟩
          injection e with e2 e3
          subst e2; subst e3
          refine step2 (Aa.neg Bool.false_ne_true (Aa.bind hcl.two (Aa.pos rfl (Aa.bind hud.two (Aa.neg (by omega) ?_)))))
          rw [Ap (by omega)]
          exact hr
        · rw [h5] at hud
          rw [h5,if_neg (by omega),Int.toNat_natCast]
          obtain ⟨⟨z,w⟩,g1,g2,g3,g4⟩:=W9 (i:=k) (k:=j) (q:=-1) hm hn hu hk h7 (by decide)
          have hw:Ok m n w:=g1.ok
          dsimp only at g2 g3 g4
          have step3:∀ {r},Aa (fun K x=>Mv m n z w (k:Int) K x) r→Aa (fun K x=>Mv m n false s (k:Int) K x) r:=fun {r} hr=>by
            refine step2 (Aa.neg Bool.false_ne_true (Aa.bind hcl.two (Aa.pos rfl (Aa.bind hud.two (Aa.pos (by omega) (Aa.Gr g4.two (Aa.pos (hw.l.trans hu.l.symm) (Aa.pos (hw.li.trans hu.li.symm) (Aa.pos (hw.d.trans hu.d.symm) ?_)))))))))
            rw [← g2,← g3]
            exact hr
          cases ho:Mh m n k j (-1) u with
          | none =>
            have hz:z=true:=by have:=g1.b; rw [ho] at this; exact this
            subst hz
            exact ⟨fun e=>(by cases e),fun _=>⟨w,hw,step3 Z8⟩,fun b s' e=>by cases e⟩
          | some s3 =>
            have e2:(z,w)=(false,s3):=by rw [ho] at g1; exact g1.isSome
            obtain ⟨rfl,rfl⟩:=Prod.mk.inj e2
            refine ⟨fun e=>(by cases e),fun e=>(by cases e),fun b s' e r hr=>?_⟩
            injection e with e3 e4
            subst e3; subst e4
            exact step3 hr
def sxR:Nx→Bool × Bool × Bool
  | .stop=>(true,true,false)
  | .bad=>(false,false,true)
  | .go b _=>(b,false,false)
theorem zU (hm:m≤1000) (hn:n≤1000) (h:Ok m n s) (hk:k<m) (hkn:k<n) :
    ∃ u,Ok m n u∧(sx m n k s=.stop→u=s)∧(∀ b s',sx m n k s=.go b s'→u=s')∧Ab (fun K=>Ch.f K (m:Int) (n:Int) s.d (m:Int) (m:Int) s.l (m:Int) (m:Int) s.li (n:Int) (n:Int) s.r (n:Int) (n:Int) s.ri false (k:Int)) (Zu ((sxR (sx m n k s)).1,(sxR (sx m n k s)).2.1,(sxR (sx m n k s)).2.2,u)):=by
  have hp:=jS (b:=false) hm hn h hk hkn
  have hok:Ok m n ((pvt m n k s).getD s):=by
    cases hv:pvt m n k s with
    | none=>exact h
    | some t=>exact Qd h hv
  have step1:∀ {r},Aa (fun K x=>if (pvt m n k s).isSome=true then Qe m n k false ((pvt m n k s).getD s) ((k+1:Nat):Int) K x else some (true,true,false,((pvt m n k s).getD s).d,((pvt m n k s).getD s).l,((pvt m n k s).getD s).li,((pvt m n k s).getD s).r,((pvt m n k s).getD s).ri)) r→Ab (fun K=>Ch.f K (m:Int) (n:Int) s.d (m:Int) (m:Int) s.l (m:Int) (m:Int) s.li (n:Int) (n:Int) s.r (n:Int) (n:Int) s.ri false (k:Int)) r:=fun {r} hr=>by
    unfold Ch.f
    refine Ab.Mg hp ?_
    refine Ab.pos (hok.d.trans h.d.symm) (Ab.pos (hok.l.trans h.l.symm) (Ab.pos (hok.li.trans h.li.symm) (Ab.pos (hok.r.trans h.r.symm) (Ab.pos (hok.ri.trans h.ri.symm) ?_))))
    rw [Ap (by omega)]
    exact hr.G7
  unfold sx
  cases hv:pvt m n k s with
  | none =>
    rw [hv] at step1
    exact ⟨s,h,fun _=>rfl,fun b s' e=>(by cases e),step1 (Aa.neg (by decide) (Aa.const _))⟩
  | some s1 =>
    rw [hv] at step1
    have h1:=Qd h hv
    obtain ⟨p,q,_,_,_,_,hpos,_⟩:=Va h hk hkn hv
    obtain ⟨c1,c2⟩:=wN hm hn h1 hk hkn (Nat.lt_succ_self k) (show k+1+(m - (k+1))=m by omega) hpos
    dsimp only
    cases hc:clr m n k s1 with
    | none =>
      obtain ⟨u,u1,u2⟩:=c1 hc
      exact ⟨u,u1,fun e=>(by cases e),fun b s' e=>(by cases e),step1 (Aa.pos rfl u2)⟩
    | some u =>
      obtain ⟨hu,ekk,_⟩:=Rz h1 hk hkn hpos hc
      have hkk:At n u.d k k≠0:=by rw [ekk]; omega
      have hcl:=oI (b:=false) hm hn hu hk hkn
      have step2:∀ {r},Aa (fun K x=>(Dq.f K (m:Int) (n:Int) u.d (m:Int) (m:Int) u.l (m:Int) (m:Int) u.li (n:Int) (n:Int) u.r (n:Int) (n:Int) u.ri false (k:Int)).bind fun c=>if c=true then ((Du.f K (m:Int) (n:Int) u.d (m:Int) (m:Int) u.l (m:Int) (m:Int) u.li (n:Int) (n:Int) u.r (n:Int) (n:Int) u.ri false (k:Int)).bind fun o=>if o<0 then some (true,false,false,u.d,u.l,u.li,u.r,u.ri) else Go.Proofs.YtgkgmhkgahalgaaGreat.Gr (Ie.f K (m:Int) (n:Int) u.d (m:Int) (m:Int) u.l (m:Int) (m:Int) u.li (n:Int) (n:Int) u.r (n:Int) (n:Int) u.ri false (k:Int) o (-1)) (fun z d l li=>if d.length=u.d.length then (if l.length=u.l.length then (if li.length=u.li.length then some (false,false,z,d,l,li,u.r,u.ri) else none) else none) else none)) else some (false,false,false,u.d,u.l,u.li,u.r,u.ri)) r→Ab (fun K=>Ch.f K (m:Int) (n:Int) s.d (m:Int) (m:Int) s.l (m:Int) (m:Int) s.li (n:Int) (n:Int) s.r (n:Int) (n:Int) s.ri false (k:Int)) r:=fun {r} hr=>by
        refine step1 (Aa.pos rfl (c2 u r hc (Aa.step (fun K x=>?_) hr)))
        simp only [P6,Ch.l7]
        rw [if_neg (by omega),if_neg Bool.false_ne_true]
      dsimp only
      cases hb:Q0 m n k u.d with
      | false =>
        rw [hb] at hcl
        rw [if_neg (by decide)]
        exact ⟨u,hu,fun e=>(by cases e),fun b s' e=>(by injection e),step2 (Aa.bind hcl.two (Aa.neg Bool.false_ne_true (Aa.const _)))⟩
      | true =>
        rw [hb] at hcl
        rw [if_pos rfl]
        have hud:=wW (b:=false) hm hn hu hk hkn hkk
        rcases Oo (n:=n) (k:=k) (d:=u.d) (show k+1+(m - (k+1))=m by omega) with h5 | ⟨j,h5,h6,h7,h8⟩
        · rw [if_pos h5]
          exact ⟨u,hu,fun e=>(by cases e),fun b s' e=>(by injection e),step2 (Aa.bind hcl.two (Aa.pos rfl (Aa.bind hud.two (Aa.pos h5 (Aa.const _)))))⟩
        · rw [h5] at hud
          rw [h5,if_neg (by omega),Int.toNat_natCast]
          obtain ⟨⟨z,w⟩,g1,g2,g3,g4⟩:=qI (i:=k) (k:=j) (q:=-1) hm hn hu hk h7 (by decide) (by decide)
          have hw:Ok m n w:=g1.ok
          dsimp only at g2 g3 g4
          have step3:Ab (fun K=>Ch.f K (m:Int) (n:Int) s.d (m:Int) (m:Int) s.l (m:Int) (m:Int) s.li (n:Int) (n:Int) s.r (n:Int) (n:Int) s.ri false (k:Int)) (Zu (false,false,z,w)):=by
            refine step2 (Aa.bind hcl.two (Aa.pos rfl (Aa.bind hud.two (Aa.neg (by omega) (Aa.Gr g4.two (Aa.pos (hw.d.trans hu.d.symm) (Aa.pos (hw.l.trans hu.l.symm) (Aa.pos (hw.li.trans hu.li.symm) ?_))))))))
            rw [← g2,← g3]
            exact Aa.const _
          cases ho:Mh m n k j (-1) u with
          | none =>
            have hz:z=true:=by have:=g1.b; rw [ho] at this; exact this
            subst hz
            exact ⟨w,hw,fun e=>(by cases e),fun b s' e=>(by cases e),step3⟩
          | some s3 =>
            have e2:(z,w)=(false,s3):=by rw [ho] at g1; exact g1.isSome
            obtain ⟨rfl,rfl⟩:=Prod.mk.inj e2
            exact ⟨w,hw,fun e=>(by cases e),fun b s' e=>(by injection e),step3⟩
end
theorem X4 {n:Nat} {P:Nat→Bool} (h:Ll n P=false):∃ j,j<n∧P j=false:=by
  unfold Ll at h
  rw [List.all_eq_false] at h
  obtain ⟨j,hj,hn⟩:=h
  exact ⟨j,List.mem_range.1 hj,Bool.eq_false_iff.2 hn⟩
section
variable {m n k:Nat} {s s':Sm}
def Q9 (m n k:Nat) (s:Sm):Prop:=∀ t,t<k→t<m→t<n→0≤At n s.d t t
def InK (m n k i j:Nat):Prop:=k≤i∧i<m∧k≤j∧j<n
theorem V8 {d:List Int} (h:Q0 m n k d=true):(∀ i,k<i→i<m→At n d i k=0)∧∀ j,k<j→j<n→At n d k j=0:=by
  unfold Q0 at h
  rw [Bool.and_eq_true] at h
  refine ⟨fun i h1 h2=>?_,fun j h1 h2=>?_⟩
  · have:=Ob h.1 (j:=i - (k+1)) (by omega)
    rw [show k+1+(i - (k+1))=i by omega] at this
    simpa using this
  · have:=Ob h.2 (j:=j - (k+1)) (by omega)
    rw [show k+1+(j - (k+1))=j by omega] at this
    simpa using this
theorem aD {d:List Int} (h:Q0 m n k d=false):(∃ i,k<i∧i<m∧At n d i k≠0)∨∃ j,k<j∧j<n∧At n d k j≠0:=by
  unfold Q0 at h
  rw [Bool.and_eq_false_iff] at h
  rcases h with h | h
  · obtain ⟨x,h1,h2⟩:=X4 h
    exact .inl ⟨k+1+x,by omega,by omega,by simpa using h2⟩
  · obtain ⟨x,h1,h2⟩:=X4 h
    exact .inr ⟨k+1+x,by omega,by omega,by simpa using h2⟩
theorem Yu {s1:Sm} (h:Ok m n s) (hk:k<m) (hkn:k<n) (hd:Q9 m n k s) (hv:pvt m n k s=some s1) (hc:clr m n k s1=some s'):Ok m n s'∧Q9 m n k s':=by
  have h1:=Qd h hv
  obtain ⟨p,q,_,_,_,_,hpos,_,_,e1⟩:=Va h hk hkn hv
  obtain ⟨h2,_,_,_,e2⟩:=Rz h1 hk hkn hpos hc
  exact ⟨h2,fun t a b c=>by rw [e2 t t a a,e1 t t a a]; exact hd t a b c⟩
theorem Vf (h:Ok m n s) (hk:k<m) (hkn:k<n) (hd:Q9 m n k s) (e:sx m n k s=.go false s'):Ok m n s'∧Q9 m n k s'∧∃ P:Nat,0<P∧(∀ i j,InK m n k i j→At n s.d i j≠0→P≤(At n s.d i j).natAbs) ∧
    ((∃ i j,InK m n k i j∧At n s'.d i j≠0∧(At n s'.d i j).natAbs<P)∨(At n s'.d k k=(P:Int)∧∃ j,k<j∧j<n∧At n s'.d k j % (P:Int)≠0)):=by
  unfold sx at e
  cases hv:pvt m n k s with
  | none=>rw [hv] at e; cases e
  | some s1 =>
    rw [hv] at e
    dsimp only at e
    have h1:=Qd h hv
    obtain ⟨p,q,a1,a2,a3,a4,hpos,hP,hmin,_⟩:=Va h hk hkn hv
    cases hc:clr m n k s1 with
    | none=>rw [hc] at e; cases e
    | some s2 =>
      rw [hc] at e
      obtain ⟨h2,hd2⟩:=Yu h hk hkn hd hv hc
      obtain ⟨_,ekk,hcol,hrow,_⟩:=Rz h1 hk hkn hpos hc
      have hPP:At n s1.d k k=((At n s1.d k k).natAbs:Int):=by omega
      dsimp only at e
      cases hb:Q0 m n k s2.d with
      | false =>
        rw [hb,if_neg (by decide)] at e
        injection e with _ e
        subst e
        refine ⟨h2,hd2,(At n s1.d k k).natAbs,by omega,fun i j hij hn=>by rw [hP]; exact hmin i j hij.1 hij.2.1 hij.2.2.1 hij.2.2.2 hn,.inl ?_⟩
        rcases aD hb with ⟨i,b1,b2,b3⟩ | ⟨j,b1,b2,b3⟩
        · have:=hcol i b1 b2
          exact ⟨i,k,⟨by omega,b2,Nat.le_refl _,hkn⟩,b3,by omega⟩
        · have h5:=hrow j b1 b2
          have h6:=Int.emod_nonneg (At n s1.d k j) (b:=At n s1.d k k) (by omega)
          have h7:=Int.emod_lt_of_pos (At n s1.d k j) hpos
          exact ⟨k,j,⟨Nat.le_refl _,hk,by omega,b2⟩,b3,by omega⟩
      | true =>
        rw [hb,if_pos rfl] at e
        obtain ⟨z1,z2⟩:=V8 hb
        rcases Oo (n:=n) (k:=k) (d:=s2.d) (show k+1+(m - (k+1))=m by omega) with h5 | ⟨j,h5,h6,h7,h8⟩
        · rw [if_pos h5] at e; cases e
        · rw [h5,if_neg (by omega),Int.toNat_natCast] at e
          cases ho:Mh m n k j (-1) s2 with
          | none=>rw [ho] at e; dsimp only at e; cases e
          | some s3 =>
            rw [ho] at e
            dsimp only at e
            injection e with _ e
            subst e
            have hat:∀ i' j',j'<n→At n s3.d i' j'=if i'=k then At n s2.d k j' - (-1) * At n s2.d j j' else At n s2.d i' j':=fun i' j' hj'=>Qx h2 hk h7 (by omega) ho hj'
            refine ⟨(Vl h2 ho).1,fun t b1 b2 b3=>by rw [hat t t b3,if_neg (by omega)]; exact hd2 t b1 b2 b3,(At n s1.d k k).natAbs,by omega,fun i j hij hn=>by rw [hP]; exact hmin i j hij.1 hij.2.1 hij.2.2.1 hij.2.2.2 hn,.inr ⟨?_,?_⟩⟩
            · rw [hat k k hkn,if_pos rfl,ekk,z1 j (by omega) h7]; omega
            · unfold Po at h8
              obtain ⟨x,b1,b2⟩:=X4 h8
              refine ⟨k+1+x,by omega,by omega,?_⟩
              rw [hat k (k+1+x) (by omega),if_pos rfl,z2 (k+1+x) (by omega) (by omega),← hPP,← ekk]
              have b3:(At n s2.d j (k+1+x)).tmod (At n s2.d k k)≠0:=by simpa using b2
              intro b4
              apply b3
              rw [show (0:Int) - -1 * At n s2.d j (k+1+x)=At n s2.d j (k+1+x) by omega] at b4
              exact Int.tmod_eq_zero_of_dvd (Int.dvd_of_emod_eq_zero b4)
theorem X0 (h:Ok m n s) (hk:k<m) (hkn:k<n) (hd:Q9 m n k s) (e:sx m n k s=.go true s'):Ok m n s'∧Q9 m n (k+1) s':=by
  unfold sx at e
  cases hv:pvt m n k s with
  | none=>rw [hv] at e; cases e
  | some s1 =>
    rw [hv] at e
    dsimp only at e
    have h1:=Qd h hv
    obtain ⟨p,q,a1,a2,a3,a4,hpos,hP,hmin,_⟩:=Va h hk hkn hv
    cases hc:clr m n k s1 with
    | none=>rw [hc] at e; cases e
    | some s2 =>
      rw [hc] at e
      obtain ⟨h2,hd2⟩:=Yu h hk hkn hd hv hc
      obtain ⟨_,ekk,_⟩:=Rz h1 hk hkn hpos hc
      dsimp only at e
      have hs:s2=s':=by
        split at e
        · split at e
          · injection e
          · split at e
            · cases e
            · cases e
        · cases e
      subst hs
      refine ⟨h2,fun t b1 b2 b3=>?_⟩
      by_cases e:t=k
      · subst e; rw [ekk]; omega
      · exact hd2 t (by omega) b2 b3
theorem gV {P:Nat} (h:Ok m n s) (hk:k<m) (hkn:k<n) (hP:0<P) (hkk:At n s.d k k=(P:Int)) (hmin:∀ i j,InK m n k i j→At n s.d i j=0∨P≤(At n s.d i j).natAbs) {j:Nat} (hj:k<j) (hjn:j<n) (hr:At n s.d k j % (P:Int)≠0) :
    sx m n k s=.bad∨∃ t,sx m n k s=.go false t∧∃ i j,InK m n k i j∧At n t.d i j≠0∧(At n t.d i j).natAbs<P:=by
  have hv:=vN hk hkn (s:=s) (by omega) (fun i j b1 b2 b3 b4=>by
    rcases hmin i j ⟨b1,b2,b3,b4⟩ with h5 | h5
    · exact .inl h5
    · exact .inr (by omega))
  unfold sx
  rw [hv]
  dsimp only
  cases hc:clr m n k s with
  | none=>exact .inl rfl
  | some t =>
    obtain ⟨h2,ekk,hcol,hrow,_⟩:=Rz h hk hkn (by omega) hc
    have e1:At n t.d k j=At n s.d k j % (P:Int):=by rw [hrow j hj hjn,hkk]
    have hb:Q0 m n k t.d=false:=by
      cases hb:Q0 m n k t.d with
      | false=>rfl
      | true=>exact absurd ((V8 hb).2 j hj hjn) (by rw [e1]; exact hr)
    dsimp only
    rw [hb,if_neg (by decide)]
    have h6:=Int.emod_nonneg (At n s.d k j) (b:=(P:Int)) (by omega)
    have h7:=Int.emod_lt_of_pos (At n s.d k j) (b:=(P:Int)) (by omega)
    exact .inr ⟨t,rfl,k,j,⟨Nat.le_refl _,hk,by omega,hjn⟩,by rw [e1]; exact hr,by omega⟩
abbrev Si (m n k:Nat) (s:Sm) (z d a:Bool) (K x:Nat):=Dg.l4 K x (m:Int) (n:Int) (m:Int) (m:Int) (m:Int) (m:Int) (n:Int) (n:Int) (n:Int) (n:Int) (k:Int) s.d s.l s.li s.r s.ri z d a
abbrev Zt (m n k:Nat) (s:Sm) (K x:Nat):=Dg.l1 K x (m:Int) (n:Int) (m:Int) (m:Int) (m:Int) (m:Int) (n:Int) (n:Int) (n:Int) (n:Int) s.d s.l s.li s.r s.ri false (k:Int)
def outT (m n:Nat) (v:Bool × Sm):Int × Int × List Int × Int × Int × List Int × Int × Int × List Int × Int × Int × List Int × Int × Int × List Int × Bool:=((m:Int),(n:Int),v.2.d,(m:Int),(m:Int),v.2.l,(m:Int),(m:Int),v.2.li,(n:Int),(n:Int),v.2.r,(n:Int),(n:Int),v.2.ri,v.1)
structure Res (m n:Nat) (F:Nat→Nat→Option (Bool × List Int × List Int × List Int × List Int × List Int)) (H:Nat→Nat→Option (Int × Int × List Int × Int × Int × List Int × Int × Int × List Int × Int × Int × List Int × Int × Int × List Int × Bool)) (b:Bool) (u v:Sm):Prop where
  ou:Ok m n u
  ov:Ok m n v
  eq:b=false→u=v∧Q9 m n m u
  i:Aa F (Vg (b,u))
  s:Aa H (outT m n (b,v))
def R4 (m n k:Nat) (s:Sm):Prop:=∃ b u v,Res m n (fun K x=>Mv m n false s (k:Int) K x) (fun K x=>Si m n k s false false false K x) b u v
def R1 (m n k:Nat) (s:Sm):Prop:=∃ b u v,Res m n (fun K x=>Mv m n false s (k:Int) K x) (fun K x=>Zt m n k s K x) b u v
theorem Px {r:Int × Int × List Int × Int × Int × List Int × Int × Int × List Int × Int × Int × List Int × Int × Int × List Int × Bool} {u:Sm} {d a z:Bool} (h:Ok m n s) (hu:Ok m n u) (ht:Ab (fun K=>Ch.f K (m:Int) (n:Int) s.d (m:Int) (m:Int) s.l (m:Int) (m:Int) s.li (n:Int) (n:Int) s.r (n:Int) (n:Int) s.ri false (k:Int)) (Zu (d,a,z,u))) (hr:Aa (fun K x=>Si m n k u z d a K x) r):Aa (fun K x=>Si m n k s false false false K x) r:=by
  refine Aa.succ ?_
  simp only [Si,Dg.l4]
  refine Aa.neg Bool.false_ne_true (Aa.neg Bool.false_ne_true ?_)
  exact Aa.Wm ht.two (Aa.pos (hu.d.trans h.d.symm) (Aa.pos (hu.l.trans h.l.symm) (Aa.pos (hu.li.trans h.li.symm) (Aa.pos (hu.r.trans h.r.symm) (Aa.pos (hu.ri.trans h.ri.symm) hr)))))
theorem jB (hm:m≤1000) (hn:n≤1000) (h:Ok m n s) (hk:k<m) (hkn:k<n) (hd:Q9 m n k s) (hb:∀ s',sx m n k s=.go false s'→R4 m n k s') (ht:∀ s',sx m n k s=.go true s'→R1 m n (k+1) s'):R4 m n k s:=by
  obtain ⟨i1,i2,i3⟩:=zX hm hn h hk hkn
  obtain ⟨u,hu,s1,s2,s3⟩:=zU hm hn h hk hkn
  cases hx:sx m n k s with
  | stop =>
    obtain rfl:=s1 hx
    rw [hx] at s3
    refine ⟨false,u,u,h,h,fun _=>⟨rfl,fun t a b c=>?_⟩,i1 hx,Px h h s3 (Aa.of fun K x=>?_)⟩
    · by_cases e:t<k
      · exact hd t e b c
      · have hv:pvt m n k u=none:=by
          unfold sx at hx
          cases hv:pvt m n k u with
          | none=>rfl
          | some s1 =>
            rw [hv] at hx
            dsimp only at hx
            split at hx
            · cases hx
            · split at hx
              · split at hx
                · cases hx
                · split at hx <;> cases hx
              · cases hx
        rw [iC hv t t (by omega) b (by omega) c]
        omega
    · simp only [Si,Dg.l4]
      rfl
  | bad =>
    obtain ⟨u',hu',i4⟩:=i2 hx
    rw [hx] at s3
    refine ⟨true,u',u,hu',hu,fun e=>(by cases e),i4,Px h hu s3 (Aa.of fun K x=>?_)⟩
    simp only [Si,Dg.l4]
    rfl
  | go b s' =>
    obtain rfl:=s2 b s' hx
    rw [hx] at s3
    cases b with
    | false =>
      obtain ⟨b,u',v,⟨o1,o2,o3,o4,o5⟩⟩:=hb u hx
      exact ⟨b,u',v,o1,o2,o3,i3 false u hx _ o4,Px h hu s3 o5⟩
    | true =>
      obtain ⟨b,u',v,⟨o1,o2,o3,o4,o5⟩⟩:=ht u hx
      refine ⟨b,u',v,o1,o2,o3,i3 true u hx _ o4,Px h hu s3 (Aa.step (fun K x=>?_) o5)⟩
      simp only [Si,Zt,Dg.l4,sxR]
      rw [Ap (by omega)]
      rfl
theorem jD (hm:m≤1000) (hn:n≤1000) (hk:k<m) (hkn:k<n) (hnext:∀ s',Ok m n s'→Q9 m n (k+1) s'→R1 m n (k+1) s'):∀ (a:Nat) (s:Sm),Ok m n s→Q9 m n k s→(∃ i j,InK m n k i j∧At n s.d i j≠0∧(At n s.d i j).natAbs≤a)→R4 m n k s:=by
  intro a
  induction a using Nat.strongRecOn with
  | _ a ih =>
    intro s h hd ⟨i,j,hij,h0,hle⟩
    refine jB hm hn h hk hkn hd (fun s' e=>?_) (fun s' e=>by obtain ⟨h1,h2⟩:=X0 h hk hkn hd e; exact hnext s' h1 h2)
    obtain ⟨h1,hd1,P,hP,hmin,hc⟩:=Vf h hk hkn hd e
    have hPa:P≤a:=Nat.le_trans (hmin i j hij h0) hle
    have low:∀ t:Sm,Ok m n t→Q9 m n k t→(∃ i j,InK m n k i j∧At n t.d i j≠0∧(At n t.d i j).natAbs<P)→R4 m n k t:=fun t ht hdt ⟨i,j,b1,b2,b3⟩=>ih (P - 1) (by omega) t ht hdt ⟨i,j,b1,b2,by omega⟩
    rcases hc with hc | ⟨hkk,j,b1,b2,b3⟩
    · exact low s' h1 hd1 hc
    · by_cases hex:∃ i j,InK m n k i j∧At n s'.d i j≠0∧(At n s'.d i j).natAbs<P
      · exact low s' h1 hd1 hex
      · have hmin':∀ i j,InK m n k i j→At n s'.d i j=0∨P≤(At n s'.d i j).natAbs:=fun i j hij=>by
          by_cases e0:At n s'.d i j=0
          · exact .inl e0
          · exact .inr (Nat.le_of_not_lt fun hlt=>hex ⟨i,j,hij,e0,hlt⟩)
        refine jB hm hn h1 hk hkn hd1 (fun t et=>?_) (fun t et=>by obtain ⟨h2,h3⟩:=X0 h1 hk hkn hd1 et; exact hnext t h2 h3)
        rcases gV h1 hk hkn hP hkk hmin' b1 b2 b3 with e1 | ⟨t',e1,hlow⟩
        · rw [e1] at et; cases et
        · rw [e1] at et
          injection et with _ et
          subst et
          obtain ⟨h2,hd2,_⟩:=Vf h1 hk hkn hd1 e1
          exact low t' h2 hd2 hlow
theorem uO (hm:m≤1000) (hn:n≤1000) (hk:k<m) (hkn:k<n) (hnext:∀ s',Ok m n s'→Q9 m n (k+1) s'→R1 m n (k+1) s') (h:Ok m n s) (hd:Q9 m n k s):R4 m n k s:=by
  refine jB hm hn h hk hkn hd (fun s' e=>?_) (fun s' e=>by obtain ⟨h2,h3⟩:=X0 h hk hkn hd e; exact hnext s' h2 h3)
  obtain ⟨h1,hd1,P,hP,hmin,hc⟩:=Vf h hk hkn hd e
  rcases hc with ⟨i,j,b1,b2,b3⟩ | ⟨hkk,j,b1,b2,b3⟩
  · exact jD hm hn hk hkn hnext (At n s'.d i j).natAbs s' h1 hd1 ⟨i,j,b1,b2,Nat.le_refl _⟩
  · exact jD hm hn hk hkn hnext P s' h1 hd1 ⟨k,k,⟨Nat.le_refl _,hk,Nat.le_refl _,hkn⟩,by omega,by omega⟩
theorem uE (hm:m≤1000) (hn:n≤1000):∀ (c k:Nat) (s:Sm),(m - k)+(n - k)≤c→Ok m n s→Q9 m n k s→R1 m n k s:=by
  intro c
  induction c with
  | zero =>
    intro k s hc h hd
    refine ⟨false,s,s,h,h,fun _=>⟨rfl,fun t a b c=>hd t (by omega) b c⟩,Aa.of fun K x=>?_,Aa.of fun K x=>?_⟩
    · simp only [Mv,Dw.l1]
      rw [if_neg Bool.false_ne_true,if_neg (by split <;> omega)]; rfl
    · simp only [Zt,Dg.l1]
      rw [if_neg (by split <;> omega)]; rfl
  | succ c ih =>
    intro k s hc h hd
    by_cases hk:k<m∧k<n
    · obtain ⟨b,u,v,⟨o1,o2,o3,o4,o5⟩⟩:=uO hm hn hk.1 hk.2 (fun s' h' hd'=>ih (k+1) s' (by omega) h' hd') h hd
      refine ⟨b,u,v,o1,o2,o3,o4,Aa.step (fun K x=>?_) o5⟩
      simp only [Zt,Si,Dg.l1]
      rw [if_pos (by split <;> omega)]
    · refine ⟨false,s,s,h,h,fun _=>⟨rfl,fun t a b c=>hd t (by omega) b c⟩,Aa.of fun K x=>?_,Aa.of fun K x=>?_⟩
      · simp only [Mv,Dw.l1]
        rw [if_neg Bool.false_ne_true,if_neg (by split <;> omega)]; rfl
      · simp only [Zt,Dg.l1]
        rw [if_neg (by split <;> omega)]; rfl
end
theorem Ab.Me {α0 α1 α2 α3 α4 α5 α6 α7 α8 α9 α10 α11 α12 α13 α14 α15 β:Type} {F:Nat→Option (α0 × α1 × α2 × α3 × α4 × α5 × α6 × α7 × α8 × α9 × α10 × α11 × α12 × α13 × α14 × α15)} {G:Nat→α0→α1→α2→α3→α4→α5→α6→α7→α8→α9→α10→α11→α12→α13→α14→α15→Option β} {a0:α0} {a1:α1} {a2:α2} {a3:α3} {a4:α4} {a5:α5} {a6:α6} {a7:α7} {a8:α8} {a9:α9} {a10:α10} {a11:α11} {a12:α12} {a13:α13} {a14:α14} {a15:α15} {r:β}
    (h:Ab F (a0,a1,a2,a3,a4,a5,a6,a7,a8,a9,a10,a11,a12,a13,a14,a15)) (g:Ab (fun K=>G K a0 a1 a2 a3 a4 a5 a6 a7 a8 a9 a10 a11 a12 a13 a14 a15) r):Ab (fun K=>Go.Proofs.YtgkgmhkgahalgaaGreat.Me (F K) (G K)) r:=by
  obtain ⟨n,hn⟩:=h
  obtain ⟨m,hm⟩:=g
  exact ⟨n+m,fun K hK=>by show Go.Proofs.YtgkgmhkgahalgaaGreat.Me (F K) (G K)=some r; rw [hn K (by omega)]; exact hm K (by omega)⟩
theorem Ph {m n:Nat} (hm:m≤1000) (hn:n≤1000):D9.f (m:Int) (n:Int)=some ((m:Int),(n:Int),List.replicate (m * n) (0:Int)):=by
  unfold D9.f
  have h:=Jq hm hn
  rw [← Int.natCast_mul,Qz (by omega),if_pos (by omega),Int.toNat_natCast,if_pos (by omega)]
theorem Ol {m n:Nat} (hm:m≤1000) (hn:n≤1000):Ho.f (m:Int) (n:Int)=some ((m:Int),(n:Int),List.replicate (m * n) (0:Int)):=Ph hm hn
theorem oM (N:Nat):Bd (List.replicate N (0:Int)):=fun p=>by
  rw [List.getD_eq_getElem?_getD,List.getElem?_replicate]; split <;> simp
def idM (n:Nat):List Int:=itF (fun j xs=>xs.set (j * n+j) 1) n 0 (List.replicate (n * n) 0)
theorem Nh (n:Nat):(idM n).length=n * n:=Oj (I:=fun xs:List Int=>xs.length=n * n) (fun j s h=>by rw [List.length_set]; exact h) (List.length_replicate)
theorem X7 (n:Nat):Bd (idM n):=Oj (I:=Bd) (fun j s h=>h.set (by omega) (by omega)) (oM _)
theorem nM {n:Nat} (hn:n≤1000):Ab (fun K=>D6.f K (n:Int)) ((n:Int),(n:Int),idM n):=by
  unfold D6.f
  refine Ab.Fe (Ab.congr (fun K=>Ph hn hn) (Ab.const _)) (Aa.G7 (F:=fun K k=>D6.l1 K k (n:Int) (n:Int) (n:Int) (List.replicate (n * n) 0) ((0:Nat):Int)) ?_)
  refine K8 (f:=fun j xs=>xs.set (j * n+j) 1) (l:=fun K k xs j=>D6.l1 K k (n:Int) (n:Int) (n:Int) xs (j:Int)) (I:=fun xs=>xs.length=n * n) (n:=n) (fun j s _ h=>by rw [List.length_set]; exact h) (fun K k' xs j hj hl=>?_) n 0 _ (by omega) (List.length_replicate) (fun _=>Aa.of fun K k'=>?_)
  · show D6.l1 K (k'+1) (n:Int) (n:Int) (n:Int) xs (j:Int)=_
    simp only [D6.l1]
    rw [if_pos (by omega),Lg hl hl hj hj hn hn,Ap (by omega),Int.toNat_natCast]
  · simp only [D6.l1]
    rw [if_neg (by omega)]; rfl
theorem oO {n:Nat} (hn:n≤1000):Ab (fun K=>Fp.f K (n:Int)) ((n:Int),(n:Int),idM n):=by
  unfold Fp.f
  refine Ab.Fe (Ab.congr (fun K=>Ol hn hn) (Ab.const _)) (Aa.G7 (F:=fun K k=>Fp.l1 K k (n:Int) (n:Int) (n:Int) (List.replicate (n * n) 0) ((0:Nat):Int)) ?_)
  refine K8 (f:=fun j xs=>xs.set (j * n+j) 1) (l:=fun K k xs j=>Fp.l1 K k (n:Int) (n:Int) (n:Int) xs (j:Int)) (I:=fun xs=>xs.length=n * n) (n:=n) (fun j s _ h=>by rw [List.length_set]; exact h) (fun K k' xs j hj hl=>?_) n 0 _ (by omega) (List.length_replicate) (fun _=>Aa.of fun K k'=>?_)
  · show Fp.l1 K (k'+1) (n:Int) (n:Int) (n:Int) xs (j:Int)=_
    have h:=Jg hj hj
    simp only [Fp.l1]
    rw [if_pos (by omega),Ru (by omega) (by omega) hn,if_pos ⟨by omega,by omega⟩,Ap (by omega),Int.toNat_natCast]
  · simp only [Fp.l1]
    rw [if_neg (by omega)]; rfl
def Vv (n:Nat) (d:List Int):Nat→Nat→List Int→List Int
  | 0,_,o=>o
  | c+1,i,o=>Vv n d c (i+1) (if At n d i i=0 then o else o++[At n d i i])
theorem Vi {n m:Nat} {d:List Int} (hd:∀ t,t<m→t<n→0≤At n d t t):∀ {c i:Nat} {o:List Int},i+c≤m→i+c≤n→(∀ x,x ∈ o→0<x)→(∀ x,x ∈ Vv n d c i o→0<x)∧(Vv n d c i o).length≤o.length+c
  | 0,_,o,_,_,h=>⟨h,Nat.le_refl _⟩
  | c+1,i,o,h1,h2,h=>by
    have h3:=hd i (by omega) (by omega)
    unfold Vv
    by_cases e:At n d i i=0
    · rw [if_pos e]
      obtain ⟨a,b⟩:=Vi hd (c:=c) (i:=i+1) (o:=o) (by omega) (by omega) h
      exact ⟨a,by omega⟩
    · rw [if_neg e]
      obtain ⟨a,b⟩:=Vi hd (c:=c) (i:=i+1) (o:=o++[At n d i i]) (by omega) (by omega) (fun x hx=>by
        rcases List.mem_append.1 hx with hx | hx
        · exact h x hx
        · rw [List.mem_singleton.1 hx]; omega)
      rw [List.length_append,List.length_singleton] at b
      exact ⟨a,by omega⟩
section
variable {m n:Nat} {d:List Int}
def mn (m n:Nat):Nat:=if n<m then n else m
theorem Qr (m n:Nat):(if (n:Int)<(m:Int) then (n:Int) else (m:Int))=((mn m n:Nat):Int):=by
  unfold mn; by_cases h:n<m
  · rw [if_pos h,if_pos (by omega)]
  · rw [if_neg h,if_neg (by omega)]
theorem zA (m n:Nat):mn m n≤m∧mn m n≤n:=by unfold mn; split <;> omega
theorem Q4 (hm:m≤1000) (hn:n≤1000) (hl:d.length=m * n) (hb:Bd d):∃ (b:Bool) (L L':List Int),(b=false→L'=L∧(∀ x,x ∈ L→0<x)∧L.length≤1000) ∧
    Ab (fun K=>Et.f K (m:Int) (n:Int) d) (if b=true then ([],3) else (L,0))∧Ab (fun K=>Dl.f K (m:Int) (n:Int) d) (L',!b):=by
  have hok:Ok m n ⟨d,idM m,idM m,idM n,idM n⟩:=⟨hl,Nh m,Nh m,Nh n,Nh n,hb,X7 m,X7 m,X7 n,X7 n⟩
  obtain ⟨b,u,v,⟨o1,o2,o3,o4,o5⟩⟩:=uE hm hn _ 0 _ (Nat.le_refl _) hok (fun t h=>absurd h (Nat.not_lt_zero _))
  have hmn:=zA m n
  have sm:Ab (fun K=>Kj.f K (m:Int) (n:Int) d) (if b=true then (0,0,[],0,0,[],0,0,[],0,0,[],0,0,[],3) else ((m:Int),(m:Int),u.l,(m:Int),(m:Int),u.li,(m:Int),(n:Int),u.d,(n:Int),(n:Int),u.r,(n:Int),(n:Int),u.ri,0)):=by
    unfold Kj.f
    have hnr:Ab (fun K=>Io.f K (m:Int) (n:Int) d) ((m:Int),(m:Int),idM m,(m:Int),(m:Int),idM m,(m:Int),(n:Int),d,(n:Int),(n:Int),idM n,(n:Int),(n:Int),idM n,false):=by
      unfold Io.f
      have hcp:Ir.f (m:Int) (n:Int) d=some ((m:Int),(n:Int),d):=by
        unfold Ir.f Gp.f
        have:=Jq hm hn
        rw [if_pos (by rw [hl]; simp; omega)]; rfl
      exact (nM hm).Fe ((nM hm).Fe (Ab.Fe (Ab.congr (fun K=>hcp) (Ab.const _)) ((nM hn).Fe ((nM hn).Fe (Ab.const _)))))
    refine hnr.Me (Ab.Mg (a:=b) (b:=u.l) (c:=u.li) (d:=u.d) (e:=u.r) (f:=u.ri) ?_ ?_)
    · exact o4.G7
    · refine Ab.pos (o1.l.trans (Nh m).symm) (Ab.pos (o1.li.trans (Nh m).symm) (Ab.pos (o1.d.trans hl.symm) (Ab.pos (o1.r.trans (Nh n).symm) (Ab.pos (o1.ri.trans (Nh n).symm) ?_))))
      cases b with
      | true=>exact Ab.pos rfl (Ab.const _)
      | false=>exact Ab.neg (by decide) (Ab.const _)
  have sr:Ab (fun K=>Dg.f K (m:Int) (n:Int) d) (outT m n (b,v)):=by
    unfold Dg.f
    have:=Jq hm hn
    refine Ab.pos (by rw [hl]; simp; omega) ((oO hm).Fe ((oO hm).Fe ((oO hn).Fe ((oO hn).Fe ?_))))
    exact o5.G7
  have fi:b=false→Ab (fun K=>Et.l1 K K (m:Int) (n:Int) (m:Int) (n:Int) u.d [] 0) (Vv n u.d (mn m n) 0 [],0):=fun _=>by
    have main:∀ c i (o:List Int),i+c=mn m n→o.length≤i→Aa (fun K x=>Et.l1 K x (m:Int) (n:Int) (m:Int) (n:Int) u.d o (i:Int)) (Vv n u.d c i o,0):=by
      intro c
      induction c with
      | zero =>
        intro i o hi _
        refine Aa.of fun K x=>?_
        simp only [Et.l1]
        rw [Qr,if_neg (by omega)]; rfl
      | succ c ih =>
        intro i o hi ho
        refine Aa.step (fun K x=>?_) (ih (i+1) (if At n u.d i i=0 then o else o++[At n u.d i i]) (by omega) (by split; omega; rw [List.length_append]; simp; omega))
        simp only [Et.l1]
        rw [Qr,if_pos (by omega),Lg o1.d o1.d (by omega) (by omega) hm hn,Int.toNat_natCast,Ap (by omega)]
        by_cases e:At n u.d i i=0
        · rw [if_pos e,if_pos e]
        · rw [if_neg e,if_neg e,if_pos (by omega)]
    exact (main (mn m n) 0 [] (by omega) (by simp)).G7
  have fs:b=false→Ab (fun K=>Dl.l1 K K (m:Int) (n:Int) (m:Int) (n:Int) v.d false [] 0) (Vv n v.d (mn m n) 0 [],true):=fun _=>by
    have main:∀ c i (o:List Int),i+c=mn m n→o.length≤i→Aa (fun K x=>Dl.l1 K x (m:Int) (n:Int) (m:Int) (n:Int) v.d false o (i:Int)) (Vv n v.d c i o,true):=by
      intro c
      induction c with
      | zero =>
        intro i o hi _
        refine Aa.of fun K x=>?_
        simp only [Dl.l1]
        rw [Qr,if_neg (by omega)]; rfl
      | succ c ih =>
        intro i o hi ho
        refine Aa.step (fun K x=>?_) (ih (i+1) (if At n v.d i i=0 then o else o++[At n v.d i i]) (by omega) (by split; omega; rw [List.length_append]; simp; omega))
        simp only [Dl.l1]
        rw [Qr,if_pos (by omega),if_neg Bool.false_ne_true,K6 o2.d (by omega) (by omega) hm hn,Option.bind_some,Ap (by omega)]
        by_cases e:At n v.d i i=0
        · rw [if_pos e,if_pos e]
        · rw [if_neg e,if_neg e,if_pos (by omega)]
    exact (main (mn m n) 0 [] (by omega) (by simp)).G7
  cases b with
  | true =>
    refine ⟨true,[],[],fun e=>(by cases e),?_,?_⟩
    · unfold Et.f
      exact Ab.Me sm (Ab.neg (by decide) (Ab.const _))
    · unfold Dl.f
      refine Ab.Me sr (Aa.G7 (F:=fun K x=>Dl.l1 K x (m:Int) (n:Int) (m:Int) (n:Int) v.d true [] 0) (Aa.of fun K x=>?_))
      simp only [Dl.l1]
      rw [Qr]
      split
      · rw [if_pos trivial]
      · rfl
  | false =>
    obtain ⟨rfl,hd⟩:=o3 rfl
    have hp:=Vi (n:=n) (m:=m) (d:=u.d) (fun t a b=>hd t a a b) (c:=mn m n) (i:=0) (o:=[]) (by omega) (by omega) (by simp)
    refine ⟨false,Vv n u.d (mn m n) 0 [],Vv n u.d (mn m n) 0 [],fun _=>⟨rfl,hp.1,by have:=hp.2; simp at this; omega⟩,?_,?_⟩
    · unfold Et.f
      exact Ab.Me sm (Ab.pos rfl (fi rfl))
    · unfold Dl.f
      exact Ab.Me sr (fs rfl)
end
section
variable {s:List Int} (hs:s.length≤1000)
def kp (s:List Int) (j:Nat):List Int:=(s.take j).filter fun x=>!(decide (x=1))
theorem Tp {j:Nat} (hj:j<s.length):kp s (j+1)=kp s j++if s.getD j 0=1 then [] else [s.getD j 0]:=by
  unfold kp
  rw [List.take_add_one,List.filter_append,List.getElem?_eq_getElem hj,List.getD_eq_getElem?_getD,List.getElem?_eq_getElem hj]
  congr 1
  show List.filter _ [s[j]]=if s[j]=1 then [] else [s[j]]
  by_cases e:s[j]=1
  · rw [if_pos e,List.filter_cons_of_neg (by simp [e])]; rfl
  · rw [if_neg e,List.filter_cons_of_pos (by simp [e])]; rfl
theorem eP (j:Nat):(kp s j).length≤j:=Nat.le_trans (List.length_filter_le _ _) (List.length_take_le _ _)
include hs
theorem sJ:∀ (c j:Nat) (x:List Int),j+c=s.length→x.length=s.length→x.take (kp s j).length=kp s j→(∀ t,j≤t→x[t]?=s[t]?) →
    Aa (fun K k=>Bc.l1 K k x ((kp s j).length:Int) (j:Int)) (kp s s.length):=by
  intro c
  induction c with
  | zero =>
    intro j x hj hl ht hm
    obtain rfl:j=s.length:=by omega
    have hk:=eP (s:=s) s.length
    refine Aa.of fun K k=>?_
    have htake:(over x (kp s s.length).length (List.replicate ((x.take x.length).drop (kp s s.length).length).length 0)).take (kp s s.length).length=kp s s.length:=by
      unfold over
      rw [List.append_assoc,List.take_append_of_le_length (by rw [List.length_take]; omega),List.take_take,Nat.min_self,ht]
    rw [Bc.l1,if_neg (by omega),if_pos (by omega),Int.toNat_natCast,if_pos,htake,List.drop_zero]
    rw [Kt (by rw [List.length_replicate,List.length_drop,List.length_take]; omega)]
    omega
  | succ c ih =>
    intro j x hj hl ht hm
    have hlt:j<s.length:=by omega
    have hk:=eP (s:=s) j
    have hget:x.getD j 0=s.getD j 0:=by rw [List.getD_eq_getElem?_getD,List.getD_eq_getElem?_getD,hm j (Nat.le_refl _)]
    have e:=Tp hlt
    by_cases h1:s.getD j 0=1
    · rw [if_pos h1,List.append_nil] at e
      refine Aa.step (fun K k=>?_) (ih (j+1) x (by omega) hl (by rw [e]; exact ht) (fun t h=>hm t (by omega)))
      rw [Bc.l1,if_pos (by omega),if_pos (by omega),Int.toNat_natCast,hget,Ap (by omega)]
      unfold Hd.f
      rw [Option.bind_some,if_pos (by simpa using h1),e]
    · rw [if_neg h1] at e
      have hsl:(kp s (j+1)).length=(kp s j).length+1:=by rw [e,List.length_append]; rfl
      refine Aa.step (fun K k=>?_) (ih (j+1) (x.set (kp s j).length (s.getD j 0)) (by omega) (by rw [List.length_set]; exact hl) (by
        rw [hsl,List.take_add_one,List.getElem?_set_self (by omega),List.take_set_of_le (Nat.le_refl _),ht,e]; rfl) (fun t h=>by rw [List.getElem?_set_ne (by omega)]; exact hm t (by omega)))
      rw [Bc.l1,if_pos (by omega),if_pos (by omega),Int.toNat_natCast,hget,Ap (by omega)]
      unfold Hd.f
      rw [Option.bind_some,if_neg (by simpa using h1),if_pos ⟨by omega,by omega⟩,Int.toNat_natCast,Ap (by omega),hsl]
theorem fH:Ab (fun K=>I8.f K s) (kp s s.length):=by
  have idx:∀ c i,i+c=s.length→kp s i=s.take i→∃ r:Int,Aa (fun K k=>Bg.l1 K k s (i:Int)) r∧((r = -1∧kp s s.length=s)∨∃ n:Nat,r=(n:Int)∧n<s.length∧s.getD n 0=1∧kp s n=s.take n):=by
    intro c
    induction c with
    | zero =>
      intro i hi hk
      obtain rfl:i=s.length:=by omega
      refine ⟨-1,Aa.of fun K k=>?_,.inl ⟨rfl,by rw [hk,List.take_length]⟩⟩
      rw [Bg.l1,if_neg (by omega)]
    | succ c ih =>
      intro i hi hk
      have hlt:i<s.length:=by omega
      have hstep:∀ K k,Bg.l1 K (k+1) s (i:Int)=if decide (s.getD i 0=1)=true then some (i:Int) else Bg.l1 K k s ((i+1:Nat):Int):=fun K k=>by
        rw [Bg.l1,if_pos (by omega),if_pos (by omega),Int.toNat_natCast,Ap (by omega)]; rfl
      by_cases h1:s.getD i 0=1
      · exact ⟨(i:Int),Aa.of fun K k=>by rw [hstep,if_pos (by simpa using h1)],.inr ⟨i,rfl,hlt,h1,hk⟩⟩
      · obtain ⟨r,h2,h3⟩:=ih (i+1) (by omega) (by
          rw [Tp hlt,if_neg h1,hk,List.take_add_one,List.getElem?_eq_getElem hlt,List.getD_eq_getElem?_getD,List.getElem?_eq_getElem hlt]; rfl)
        exact ⟨r,Aa.step (fun K k=>by rw [hstep,if_neg (by simpa using h1)]) h2,h3⟩
  obtain ⟨r,h1,h2⟩:=idx s.length 0 (by omega) (by unfold kp; simp)
  unfold I8.f Bc.f
  refine Ab.bind (a:=kp s s.length) (Ab.bind (a:=r) (Ab.congr (fun K=>rfl) h1.G7) ?_) (Ab.const _)
  rcases h2 with ⟨rfl,h2⟩ | ⟨n,rfl,hn,hf,hk⟩
  · rw [h2]; exact Ab.pos rfl (Ab.const _)
  · refine Ab.neg (by omega) ?_
    have e:=Tp hn
    rw [if_pos hf,List.append_nil] at e
    have hkl:(kp s (n+1)).length=n:=by rw [e,hk,List.length_take]; omega
    have h:=sJ hs (s.length - (n+1)) (n+1) s (by omega) rfl (by rw [hkl,e,hk]) (fun t _=>rfl)
    rw [hkl] at h
    rw [Ap (by omega)]
    exact h.G7
theorem fI (hp:∀ x,x ∈ s→0<x):Ab (fun K=>Ef.f K s) (kp s s.length):=by
  have main:∀ c j,j+c=s.length→Aa (fun K k=>Ef.l1 K k s (kp s j) (j:Int)) (kp s s.length):=by
    intro c
    induction c with
    | zero =>
      intro j hj
      obtain rfl:j=s.length:=by omega
      refine Aa.of fun K k=>?_
      rw [Ef.l1,if_neg (by omega)]
    | succ c ih =>
      intro j hj
      have hlt:j<s.length:=by omega
      have hk:=eP (s:=s) j
      have hpos:0<s.getD j 0:=hp _ (by rw [List.getD_eq_getElem?_getD,List.getElem?_eq_getElem hlt]; exact List.getElem_mem hlt)
      have e:=Tp hlt
      refine Aa.step (fun K k=>?_) (ih (j+1) (by omega))
      rw [Ef.l1,if_pos (by omega),if_pos ⟨by omega,by omega⟩,Int.toNat_natCast,Ap (by omega)]
      by_cases h1:s.getD j 0=1
      · rw [if_pos h1,List.append_nil] at e
        rw [if_neg (by omega),e]
      · rw [if_neg h1] at e
        rw [if_pos (by omega),if_pos (by omega),e]
  have h:=main s.length 0 (by omega)
  have e0:kp s 0=[]:=by unfold kp; simp
  rw [e0] at h
  exact h.G7
end
theorem Xi (v lo hi:Int):Ib.f v lo hi=some (decide (lo≤v∧v≤hi)):=by
  unfold Ib.f
  by_cases h:lo≤v <;> simp [h]
def isM (m n:Nat):Bool:=decide (m≤48) && decide (n≤48)
section
variable {m n:Nat} {d:List Int}
theorem pI (hm:m≤1000) (hn:n≤1000) (hl:d.length=m * n) (hb:Bd d):Ab (fun K=>Hf.f K (m:Int) (n:Int) d) (isM m n):=by
  have hmn:=Jq hm hn
  have hc:Ab (fun K=>Dk.f K d) false:=by
    have:=Ml (l:=fun K x i=>Bn.l1 K x d i) (s:=d) (P:=fun x=>!decide (-1000000000000≤x∧x≤1000000000000)) (by omega) (fun K x i hi=>by
      simp only [Bn.l1,Ig.f]
      rw [if_pos (by omega),if_pos ⟨by omega,by omega⟩,Om,Option.bind_some,Option.bind_some,Int.toNat_natCast]) (fun K x=>by
      simp only [Bn.l1]
      rw [if_neg (by omega)])
    rw [Mq (fun j hj=>by simp only [Bool.not_not]; exact decide_eq_true (hb j))] at this
    exact this
  unfold Hf.f isM
  refine Ab.Iz (Om _ _ _) ?_
  by_cases h1:m≤48
  · rw [decide_eq_true h1]
    refine Ab.pos (decide_eq_true (by omega)) (Ab.Iz (Om _ _ _) ?_)
    by_cases h2:n≤48
    · rw [decide_eq_true h2]
      refine Ab.pos (decide_eq_true (by omega)) (Ab.bind (a:=(d.length:Int)) (Ab.const _) (Ab.pos (by rw [hl,← Int.natCast_mul,Qz (by omega)]) ?_))
      exact hc.bind (Ab.const _)
    · rw [decide_eq_false h2]
      exact Ab.neg (by rw [decide_eq_true_eq]; omega) (Ab.const _)
  · rw [decide_eq_false h1]
    exact Ab.neg (by rw [decide_eq_true_eq]; omega) (Ab.const _)
theorem qP (hm:m≤1000) (hn:n≤1000) (hl:d.length=m * n) (hb:Bd d):Ab (fun K=>Ec.f K (m:Int) (n:Int) d) (isM m n):=by
  have hmn:=Jq hm hn
  have hc:Ab (fun K=>Ec.l1 K K d 0) true:=by
    have:=Le (l:=fun K x i=>Ec.l1 K x d (i:Int)) (n:=d.length) (P:=fun _=>true) (r:=true) (fun i hi _ v hv=>Aa.step (fun K x=>by
      simp only [Ec.l1]
      rw [if_pos (by omega),if_pos ⟨by omega,by omega⟩,Xi,Option.bind_some,Int.toNat_natCast,if_pos (decide_eq_true (hb i)),Ap (by omega)]) hv) (fun i hi h=>by cases h) (Aa.of fun K x=>by
      simp only [Ec.l1]
      rw [if_neg (by omega)])
    rw [Mq (fun j _=>rfl)] at this
    exact this.G7
  unfold Ec.f isM
  refine Ab.Iz (Xi _ _ _) ?_
  by_cases h1:m≤48
  · rw [decide_eq_true h1]
    refine Ab.pos (decide_eq_true (by omega)) (Ab.Iz (Xi _ _ _) ?_)
    by_cases h2:n≤48
    · rw [decide_eq_true h2]
      exact Ab.pos (decide_eq_true (by omega)) (Ab.pos (by rw [hl,← Int.natCast_mul,Qz (by omega)]) hc)
    · rw [decide_eq_false h2]
      exact Ab.neg (by rw [decide_eq_true_eq]; omega) (Ab.const _)
  · rw [decide_eq_false h1]
    exact Ab.neg (by rw [decide_eq_true_eq]; omega) (Ab.const _)
end
def S9 (q r:Nat) (xs ys:List Int) (i j:Nat):Nat→Nat→Int→Int→Option Int
  | 0,_,sum,_=>some sum
  | c+1,k,sum,tot=>if (-1000000000000≤xs.getD (i * q+k) 0 * ys.getD (k * r+j) 0∧xs.getD (i * q+k) 0 * ys.getD (k * r+j) 0≤1000000000000)∧tot+((xs.getD (i * q+k) 0 * ys.getD (k * r+j) 0).natAbs:Int)≤1000000000000 then S9 q r xs ys i j c (k+1) (sum+xs.getD (i * q+k) 0 * ys.getD (k * r+j) 0) (tot+((xs.getD (i * q+k) 0 * ys.getD (k * r+j) 0).natAbs:Int)) else none
def Vp (q r:Nat) (xs ys:List Int) (i:Nat):Nat→Nat→List Int→Option (List Int)
  | 0,_,zs=>some zs
  | c+1,j,zs=>(S9 q r xs ys i j q 0 0 0).bind fun v=>Vp q r xs ys i c (j+1) (zs.set (i * r+j) v)
def Nu (q r:Nat) (xs ys:List Int):Nat→Nat→List Int→Option (List Int)
  | 0,_,zs=>some zs
  | c+1,i,zs=>(Vp q r xs ys i r 0 zs).bind (Nu q r xs ys c (i+1))
theorem Qs {q r i:Nat} {xs ys:List Int}:∀ {c j:Nat} {zs ws:List Int},Vp q r xs ys i c j zs=some ws→ws.length=zs.length
  | 0,_,_,_,h=>by cases h; rfl
  | c+1,j,zs,ws,h=>by
    unfold Vp at h
    obtain ⟨v,_,h⟩:=Option.bind_eq_some_iff.1 h
    rw [Qs h,List.length_set]
theorem Zv {q r:Nat} {xs ys:List Int}:∀ {c i:Nat} {zs ws:List Int},Nu q r xs ys c i zs=some ws→ws.length=zs.length
  | 0,_,_,_,h=>by cases h; rfl
  | c+1,i,zs,ws,h=>by
    unfold Nu at h
    obtain ⟨v,h1,h⟩:=Option.bind_eq_some_iff.1 h
    rw [Zv h,Qs h1]
section
variable {p q r:Nat} {xs ys:List Int}
theorem zJ (hp:p≤1000) (hq:q≤1000) (hr:r≤1000) (hx:xs.length=p * q) (hy:ys.length=q * r) (bx:Bd xs) (bY:Bd ys) {i j:Nat} (hi:i<p) (hj:j<r) :
    Ab (fun K=>Gs.f K (p:Int) (q:Int) xs (q:Int) (r:Int) ys (i:Int) (j:Int)) (match S9 q r xs ys i j q 0 0 0 with | none=>(0,false) | some v=>(v,true)):=by
  have main:∀ c k sum tot,k+c=q→0≤tot→tot≤1000000000000→-tot≤sum→sum≤tot→Aa (fun K x=>Gs.l1 K x (p:Int) (q:Int) xs (q:Int) (r:Int) ys (i:Int) (j:Int) sum tot (k:Int)) (match S9 q r xs ys i j c k sum tot with | none=>(0,false) | some v=>(v,true)):=by
    intro c
    induction c with
    | zero =>
      intro k sum tot hk _ _ _ _
      refine Aa.of fun K x=>?_
      simp only [Gs.l1,S9]
      rw [if_neg (by omega)]
    | succ c ih =>
      intro k sum tot hk t1 t2 t3 t4
      have hkq:k<q:=by omega
      have hb1:=bx (i * q+k)
      have hb2:=bY (k * r+j)
      have hpr:=kZ (L:=1000000000000) (by decide) hb1 hb2
      rw [show ((1000000000000:Nat):Int)=1000000000000 from rfl] at hpr
      unfold S9
      refine Aa.succ ?_
      simp only [Gs.l1]
      refine Aa.pos (by omega) ?_
      simp only [Lg hx hx hi hkq hp hq,Lg hy hy hkq hj hq hr,Int.toNat_natCast,hpr]
      by_cases h1 : -1000000000000≤xs.getD (i * q+k) 0 * ys.getD (k * r+j) 0∧xs.getD (i * q+k) 0 * ys.getD (k * r+j) 0≤1000000000000
      · simp only [if_pos h1]
        refine Aa.Dt (Aa.const _) (Aa.Iz (Vh (by omega)) (Aa.pos rfl ?_))
        rw [F5 (x:=tot+_) (by omega) (by omega),F5 (x:=sum+_) (by omega) (by omega),Ap (by omega)]
        by_cases h2:tot+((xs.getD (i * q+k) 0 * ys.getD (k * r+j) 0).natAbs:Int)≤1000000000000
        · rw [if_pos ⟨h1,h2⟩]
          exact Aa.neg (by omega) (ih (k+1) _ _ (by omega) (by omega) h2 (by omega) (by omega))
        · rw [if_neg (fun h=>h2 h.2)]
          exact Aa.pos (by omega) (Aa.const _)
      · simp only [if_neg h1]
        rw [if_neg (fun h=>h1 h.1)]
        exact Aa.Dt (Aa.const _) (Aa.Iz (Vh (by omega)) (Aa.neg (by decide) (Aa.const _)))
  exact (main q 0 0 0 (by omega) (by omega) (by omega) (by omega) (by omega)).G7
theorem wD {res:Int × Int × List Int × Bool} (hp:p≤1000) (hq:q≤1000) (hr:r≤1000) (hx:xs.length=p * q) (hy:ys.length=q * r) (bx:Bd xs) (bY:Bd ys) {i j:Nat} (hi:i<p) (hj:j<r) {zs:List Int} (hz:zs.length=p * r)
    (h0:S9 q r xs ys i j q 0 0 0=none→res=(0,0,[],false)) (h1:∀ v,S9 q r xs ys i j q 0 0 0=some v→Aa (fun K x=>Bq.l10 K x (p:Int) (q:Int) xs (q:Int) (r:Int) ys (p:Int) (r:Int) (i:Int) (zs.set (i * r+j) v) ((j+1:Nat):Int)) res) :
    Aa (fun K x=>Bq.l13 K x (p:Int) (q:Int) xs (q:Int) (r:Int) ys (p:Int) (r:Int) (i:Int) zs (j:Int) 0 0 0) res:=by
  have main:∀ c k sum tot,k+c=q→0≤tot→tot≤1000000000000→-tot≤sum→sum≤tot→(S9 q r xs ys i j c k sum tot=none→res=(0,0,[],false))→(∀ v,S9 q r xs ys i j c k sum tot=some v→Aa (fun K x=>Bq.l10 K x (p:Int) (q:Int) xs (q:Int) (r:Int) ys (p:Int) (r:Int) (i:Int) (zs.set (i * r+j) v) ((j+1:Nat):Int)) res) →
      Aa (fun K x=>Bq.l13 K x (p:Int) (q:Int) xs (q:Int) (r:Int) ys (p:Int) (r:Int) (i:Int) zs (j:Int) sum tot (k:Int)) res:=by
    intro c
    induction c with
    | zero =>
      intro k sum tot hk _ _ _ _ _ h1
      have hz':=Jg hi hj
      refine Aa.step (fun K x=>?_) (h1 sum rfl)
      simp only [Bq.l13]
      rw [if_neg (by omega),Ru (by omega) (by omega) hr,if_pos ⟨by omega,by omega⟩,Int.toNat_natCast,Ap (by omega)]
    | succ c ih =>
      intro k sum tot hk t1 t2 t3 t4 h0 h1
      have hkq:k<q:=by omega
      have hb1:=bx (i * q+k)
      have hb2:=bY (k * r+j)
      have hpr:=iD (L:=1000000000000) (by decide) hb1 hb2
      rw [show ((1000000000000:Nat):Int)=1000000000000 from rfl] at hpr
      unfold S9 at h0 h1
      refine Aa.succ ?_
      simp only [Bq.l13]
      refine Aa.pos (by omega) (Aa.Iz (K6 hx hi hkq hp hq) (Aa.Iz (K6 hy hkq hj hq hr) ?_))
      simp only [hpr]
      by_cases h2 : -1000000000000≤xs.getD (i * q+k) 0 * ys.getD (k * r+j) 0∧xs.getD (i * q+k) 0 * ys.getD (k * r+j) 0≤1000000000000
      · simp only [if_pos h2]
        refine Aa.Dt (Aa.const _) (Aa.Iz (Ub (by omega)) (Aa.pos rfl ?_))
        rw [F5 (x:=tot+_) (by omega) (by omega),F5 (x:=sum+_) (by omega) (by omega),Ap (by omega)]
        by_cases h3:tot+((xs.getD (i * q+k) 0 * ys.getD (k * r+j) 0).natAbs:Int)≤1000000000000
        · rw [if_pos ⟨h2,h3⟩] at h0
          simp only [if_pos (show _∧_ from ⟨h2,h3⟩)] at h1
          exact Aa.neg (by omega) (ih (k+1) _ _ (by omega) (by omega) h3 (by omega) (by omega) h0 h1)
        · rw [if_neg (fun h=>h3 h.2)] at h0
          rw [h0 rfl]
          exact Aa.pos (by omega) (Aa.const _)
      · simp only [if_neg h2]
        rw [if_neg (fun h=>h2 h.1)] at h0
        rw [h0 rfl]
        exact Aa.Dt (Aa.const _) (Aa.Iz (Ub (by omega)) (Aa.neg (by decide) (Aa.const _)))
  exact main q 0 0 0 (by omega) (by omega) (by omega) (by omega) (by omega) h0 h1
def fZ (p r:Nat):Option (List Int)→Int × Int × List Int × Int
  | none=>(0,0,[],3)
  | some zs=>((p:Int),(r:Int),zs,0)
def fM (p r:Nat):Option (List Int)→Int × Int × List Int × Bool
  | none=>(0,0,[],false)
  | some zs=>((p:Int),(r:Int),zs,true)
theorem xI (hp:p≤1000) (hq:q≤1000) (hr:r≤1000) (hx:xs.length=p * q) (hy:ys.length=q * r) (bx:Bd xs) (bY:Bd ys) :
    Aa (fun K x=>Ca.l1 K x (p:Int) (q:Int) xs (q:Int) (r:Int) ys (p:Int) (r:Int) (List.replicate (p * r) 0) 0) (fZ p r (Nu q r xs ys p 0 (List.replicate (p * r) 0))):=by
  have inner:∀ i,i<p→∀ c j (zs:List Int) res,j+c=r→zs.length=p * r→(Vp q r xs ys i c j zs=none→res=(0,0,[],3))→(∀ ws,Vp q r xs ys i c j zs=some ws→Aa (fun K x=>Ca.l1 K x (p:Int) (q:Int) xs (q:Int) (r:Int) ys (p:Int) (r:Int) ws ((i+1:Nat):Int)) res) →
      Aa (fun K x=>Ca.l4 K x (p:Int) (q:Int) xs (q:Int) (r:Int) ys (p:Int) (r:Int) (i:Int) zs (j:Int)) res:=by
    intro i hi c
    induction c with
    | zero =>
      intro j zs res hj hz _ h1
      refine Aa.step (fun K x=>?_) (h1 zs rfl)
      simp only [Ca.l4]
      rw [if_neg (by omega),Ap (by omega)]
    | succ c ih =>
      intro j zs res hj hz h0 h1
      have hjr:j<r:=by omega
      have he:=zJ hp hq hr hx hy bx bY hi hjr
      unfold Vp at h0 h1
      refine Aa.succ ?_
      simp only [Ca.l4]
      refine Aa.pos (by omega) ?_
      cases hv:S9 q r xs ys i j q 0 0 0 with
      | none =>
        rw [hv] at he h0
        rw [h0 rfl]
        exact Aa.Dt he.two (Aa.neg (by decide) (Aa.const _))
      | some v =>
        rw [hv] at he h0
        simp only [hv,Option.bind_some] at h1
        refine Aa.Dt he.two (Aa.pos rfl (Aa.congr (fun K k=>Lg hz hz hi hjr hp hr) ?_))
        rw [Int.toNat_natCast,Ap (by omega)]
        exact ih (j+1) (zs.set (i * r+j) v) res (by omega) (by rw [List.length_set]; exact hz) h0 h1
  have main:∀ c i (zs:List Int),i+c=p→zs.length=p * r→Aa (fun K x=>Ca.l1 K x (p:Int) (q:Int) xs (q:Int) (r:Int) ys (p:Int) (r:Int) zs (i:Int)) (fZ p r (Nu q r xs ys c i zs)):=by
    intro c
    induction c with
    | zero =>
      intro i zs hi hz
      refine Aa.of fun K x=>?_
      simp only [Ca.l1]
      rw [if_neg (by omega)]; rfl
    | succ c ih =>
      intro i zs hi hz
      refine Aa.step (fun K x=>?_) (inner i (by omega) r 0 zs _ (by omega) hz (fun h=>by unfold Nu; rw [h]; rfl) (fun ws h=>by unfold Nu; rw [h]; exact ih (i+1) ws (by omega) (by rw [Qs h]; exact hz)))
      simp only [Ca.l1]
      rw [if_pos (by omega)]; rfl
  exact main p 0 _ (by omega) (List.length_replicate)
theorem yN (hp:p≤1000) (hq:q≤1000) (hr:r≤1000) (hx:xs.length=p * q) (hy:ys.length=q * r) (bx:Bd xs) (bY:Bd ys) :
    Aa (fun K x=>Bq.l1 K x (p:Int) (q:Int) xs (q:Int) (r:Int) ys (p:Int) (r:Int) (List.replicate (p * r) 0) 0) (fM p r (Nu q r xs ys p 0 (List.replicate (p * r) 0))):=by
  have inner:∀ i,i<p→∀ c j (zs:List Int) res,j+c=r→zs.length=p * r→(Vp q r xs ys i c j zs=none→res=(0,0,[],false))→(∀ ws,Vp q r xs ys i c j zs=some ws→Aa (fun K x=>Bq.l1 K x (p:Int) (q:Int) xs (q:Int) (r:Int) ys (p:Int) (r:Int) ws ((i+1:Nat):Int)) res) →
      Aa (fun K x=>Bq.l10 K x (p:Int) (q:Int) xs (q:Int) (r:Int) ys (p:Int) (r:Int) (i:Int) zs (j:Int)) res:=by
    intro i hi c
    induction c with
    | zero =>
      intro j zs res hj hz _ h1
      refine Aa.step (fun K x=>?_) (h1 zs rfl)
      simp only [Bq.l10]
      rw [if_neg (by omega),Ap (by omega)]
    | succ c ih =>
      intro j zs res hj hz h0 h1
      have hjr:j<r:=by omega
      unfold Vp at h0 h1
      refine Aa.step (fun K x=>?_) (wD hp hq hr hx hy bx bY hi hjr hz (fun hv=>h0 (by rw [hv]; rfl)) (fun v hv=>?_))
      · simp only [Bq.l10]
        rw [if_pos (by omega)]
      · simp only [hv,Option.bind_some] at h0 h1
        exact ih (j+1) (zs.set (i * r+j) v) res (by omega) (by rw [List.length_set]; exact hz) h0 h1
  have main:∀ c i (zs:List Int),i+c=p→zs.length=p * r→Aa (fun K x=>Bq.l1 K x (p:Int) (q:Int) xs (q:Int) (r:Int) ys (p:Int) (r:Int) zs (i:Int)) (fM p r (Nu q r xs ys c i zs)):=by
    intro c
    induction c with
    | zero =>
      intro i zs hi hz
      refine Aa.of fun K x=>?_
      simp only [Bq.l1]
      rw [if_neg (by omega)]; rfl
    | succ c ih =>
      intro i zs hi hz
      refine Aa.step (fun K x=>?_) (inner i (by omega) r 0 zs _ (by omega) hz (fun h=>by unfold Nu; rw [h]; rfl) (fun ws h=>by unfold Nu; rw [h]; exact ih (i+1) ws (by omega) (by rw [Qs h]; exact hz)))
      simp only [Bq.l1]
      rw [if_pos (by omega)]; rfl
  exact main p 0 _ (by omega) (List.length_replicate)
end
def rX (zs:List Int):Bool:=Ll zs.length fun i=>decide (zs.getD i 0=0)
theorem Aaa {zs:List Int} (h:zs.length≤2000000):Ab (fun K=>Cv.f K zs) (!rX zs):=by
  have:=Ml (l:=fun K x i=>Bh.l1 K x zs i) (s:=zs) (P:=fun x=>!decide (x=0)) h (fun K x i hi=>by
    simp only [Bh.l1,Hy.f]
    rw [if_pos (by omega),if_pos ⟨by omega,by omega⟩,Option.bind_some,Int.toNat_natCast]) (fun K x=>by
    simp only [Bh.l1]
    rw [if_neg (by omega)])
  simp only [Bool.not_not] at this
  exact this
theorem Aag {zs:List Int} {p r:Nat} (hp:p≤1000) (hr:r≤1000) (h:zs.length=p * r):Ab (fun K=>F4.f K (p:Int) (r:Int) zs (p:Int) (r:Int) (List.replicate (p * r) 0)) (rX zs):=by
  unfold F4.f
  have hb:=Jq hp hr
  refine Ab.pos rfl (Ab.pos rfl (Ab.pos (by rw [h,List.length_replicate]) ?_))
  have:=Le (l:=fun K x i=>F4.l1 K x zs (List.replicate (p * r) 0) (i:Int)) (n:=zs.length) (P:=fun i=>decide (zs.getD i 0=0)) (r:=true) (fun i hi hp v hv=>Aa.step (fun K x=>by
      simp only [F4.l1]
      rw [if_pos (by omega),if_pos ⟨by omega,by omega⟩,if_pos ⟨by omega,by rw [List.length_replicate]; omega⟩,Int.toNat_natCast,if_pos (by
        rw [of_decide_eq_true hp,List.getD_eq_getElem?_getD,List.getElem?_replicate]; split <;> rfl),Ap (by omega)]) hv) (fun i hi hp=>Aa.of fun K x=>by
      simp only [F4.l1]
      rw [if_pos (by omega),if_pos ⟨by omega,by omega⟩,if_pos ⟨by omega,by rw [List.length_replicate]; omega⟩,Int.toNat_natCast,if_neg (by
        have h1:(List.replicate (p * r) (0:Int)).getD i 0=0:=by rw [List.getD_eq_getElem?_getD,List.getElem?_replicate]; split <;> rfl
        rw [h1]; exact of_decide_eq_false hp)]) (Aa.of fun K x=>by
      simp only [F4.l1]
      rw [if_neg (by omega)])
  rw [Bool.and_true] at this
  exact this.G7
theorem Tg {p q q' r:Nat} {xs ys:List Int} (hp:p≤1000) (hq:q≤1000) (hq':q'≤1000) (hr:r≤1000) (hx:xs.length=p * q) (hy:ys.length=q' * r) (bx:Bd xs) (bY:Bd ys) :
    ∃ (g:Int) (t:List Int) (c:Int),t.length≤1000∧Ab (fun K=>Il.f K (q':Int) (r:Int) ys (p:Int) (q:Int) xs) (g,t,c)∧Ab (fun K=>Iu.f K (q':Int) (r:Int) ys (p:Int) (q:Int) xs) (g,t,c):=by
  have i1:=pI hp hq hx bx
  have i2:=pI hq' hr hy bY
  have s1:=qP hp hq hx bx
  have s2:=qP hq' hr hy bY
  unfold Il.f Ca.f Iu.f
  cases e1:isM p q with
  | false =>
    rw [e1] at i1 s1
    refine ⟨0,[],1,by simp,Ab.Gr (i1.bind (Ab.neg (by decide) (Ab.const _))) (Ab.neg (by decide) (Ab.const _)),?_⟩
    cases e2:isM q' r with
    | false=>rw [e2] at s2; exact s2.bind (Ab.neg (by decide) (Ab.const _))
    | true=>rw [e2] at s2; exact s2.bind (Ab.pos rfl (s1.bind (Ab.neg (by decide) (Ab.const _))))
  | true =>
    rw [e1] at i1 s1
    cases e2:isM q' r with
    | false =>
      rw [e2] at i2 s2
      exact ⟨0,[],1,by simp,Ab.Gr (i1.bind (Ab.pos rfl (i2.bind (Ab.neg (by decide) (Ab.const _))))) (Ab.neg (by decide) (Ab.const _)),s2.bind (Ab.neg (by decide) (Ab.const _))⟩
    | true =>
      rw [e2] at i2 s2
      by_cases e3:q=q'
      · subst e3
        have hpr:=Jq hp hr
        have mi:=(xI hp hq hr hx hy bx bY).G7
        have ms:=(yN hp hq hr hx hy bx bY).G7
        have i3:∀ {G:Nat→Int→Int→List Int→Int→Option (Int × List Int × Int)} {res},Ab (fun K=>G K (fZ p r (Nu q r xs ys p 0 (List.replicate (p * r) 0))).1 (fZ p r (Nu q r xs ys p 0 (List.replicate (p * r) 0))).2.1 (fZ p r (Nu q r xs ys p 0 (List.replicate (p * r) 0))).2.2.1 (fZ p r (Nu q r xs ys p 0 (List.replicate (p * r) 0))).2.2.2) res→Ab (fun K=>Go.Proofs.YtgkgmhkgahalgaaGreat.Gr ((Hf.f K (p:Int) (q:Int) xs).bind fun t16=>(if t16=true then ((Hf.f K (q:Int) (r:Int) ys).bind fun t21=>(if t21=true then (if (q:Int)=(q:Int) then (Go.Proofs.YtgkgmhkgahalgaaGreat.Fe (D9.f (p:Int) (r:Int)) (fun t27 t28 t29=>(Ca.l1 K K (p:Int) (q:Int) xs (q:Int) (r:Int) ys t27 t28 t29 0))) else (some (0,0,([]:List Int),2))) else (some (0,0,([]:List Int),1)))) else (some (0,0,([]:List Int),1)))) (G K)) res:=fun {G res} hG =>
          Ab.Gr (i1.bind (Ab.pos rfl (i2.bind (Ab.pos rfl (Ab.pos rfl (Ab.Fe (Ab.congr (fun K=>Ph hp hr) (Ab.const _)) mi)))))) hG
        have s3:∀ {G:Nat→Int→Int→List Int→Bool→Option (Int × List Int × Int)} {res},Ab (fun K=>G K (fM p r (Nu q r xs ys p 0 (List.replicate (p * r) 0))).1 (fM p r (Nu q r xs ys p 0 (List.replicate (p * r) 0))).2.1 (fM p r (Nu q r xs ys p 0 (List.replicate (p * r) 0))).2.2.1 (fM p r (Nu q r xs ys p 0 (List.replicate (p * r) 0))).2.2.2) res→Ab (fun K=>Go.Proofs.YtgkgmhkgahalgaaGreat.Gr (Bq.f K (p:Int) (q:Int) xs (q:Int) (r:Int) ys) (G K)) res:=fun {G res} hG =>
          Ab.Gr (by unfold Bq.f; exact Ab.Fe (Ab.congr (fun K=>Ol hp hr) (Ab.const _)) ms) hG
        cases ez:Nu q r xs ys p 0 (List.replicate (p * r) 0) with
        | none =>
          rw [ez] at i3 s3
          exact ⟨0,[],3,by simp,i3 (Ab.neg (show ¬ (3:Int)=0 by decide) (Ab.const _)),s2.bind (Ab.pos rfl (s1.bind (Ab.pos rfl (Ab.pos rfl (s3 (Ab.neg Bool.false_ne_true (Ab.const _)))))))⟩
        | some zs =>
          rw [ez] at i3 s3
          have hz:zs.length=p * r:=by rw [Zv ez,List.length_replicate]
          have n1:=Aaa (zs:=zs) (by omega)
          have n2:=Aag hp hr hz
          cases ea:rX zs with
          | false =>
            rw [ea] at n1 n2
            exact ⟨0,[],5,by simp,i3 (Ab.pos rfl (n1.bind (Ab.pos rfl (Ab.const _)))),s2.bind (Ab.pos rfl (s1.bind (Ab.pos rfl (Ab.pos rfl (s3 (Ab.pos rfl (Ab.Fe (Ab.congr (fun K=>Ol hp hr) (Ab.const _)) (n2.bind (Ab.neg (by decide) (Ab.const _))))))))))⟩
          | true =>
            rw [ea] at n1 n2
            obtain ⟨b1,L1,L1',f1,f2,f3⟩:=Q4 hq hr hy bY
            obtain ⟨b2,L2,L2',g1,g2,g3⟩:=Q4 hp hq hx bx
            have i4:∀ {res},Ab (fun K=>if (if b1=true then (([]:List Int),(3:Int)) else (L1,0)).2=0 then (if (if b2=true then (([]:List Int),(3:Int)) else (L2,0)).2=0 then ((Es.f (if b1=true then (([]:List Int),(3:Int)) else (L1,0)).1).bind fun t43=>((Es.f (if b2=true then (([]:List Int),(3:Int)) else (L2,0)).1).bind fun t47=>((I8.f K (if b1=true then (([]:List Int),(3:Int)) else (L1,0)).1).bind fun t51=>(some (w64 ((w64 ((q:Int) - t43)) - t47),t51,(0:Int)))))) else (some (0,([]:List Int),3))) else (some (0,([]:List Int),3))) res→_:=fun {res} h=>i3 (G:=fun K t7 t8 t9 t10=>(if t10=0 then ((Cv.f K t9).bind fun t20=>(if t20=true then (some (0,([]:List Int),5)) else (Go.Proofs.YtgkgmhkgahalgaaGreat.Dt (Et.f K (q:Int) (r:Int) ys) (fun t26 t27=>(Go.Proofs.YtgkgmhkgahalgaaGreat.Dt (Et.f K (p:Int) (q:Int) xs) (fun t33 t34=>(if t27=0 then (if t34=0 then ((Es.f t26).bind fun t43=>((Es.f t33).bind fun t47=>((I8.f K t26).bind fun t51=>(some (w64 ((w64 ((q:Int) - t43)) - t47),t51,0))))) else (some (0,([]:List Int),3))) else (some (0,([]:List Int),3))))))))) else (some (0,([]:List Int),t10)))) (res:=res) (Ab.pos rfl (n1.bind (Ab.neg (by decide) (Ab.Dt f2 (Ab.Dt g2 h)))))
            have s4:∀ {res},Ab (fun K=>if (!b1)=true then (if (!b2)=true then ((Ef.f K L1').bind fun t70=>(some (w64 ((w64 ((q:Int) - (L1'.length:Int))) - (L2'.length:Int)),t70,(0:Int)))) else (some (0,([]:List Int),3))) else (some (0,([]:List Int),3))) res→Ab (fun K=>(Ec.f K (q:Int) (r:Int) ys).bind fun t16=>(if t16=true then ((Ec.f K (p:Int) (q:Int) xs).bind fun t21=>(if t21=true then (if (q:Int)=(q:Int) then (Go.Proofs.YtgkgmhkgahalgaaGreat.Gr (Bq.f K (p:Int) (q:Int) xs (q:Int) (r:Int) ys) (fun t27 t28 t29 t30=>(if t30=true then (Go.Proofs.YtgkgmhkgahalgaaGreat.Fe (Ho.f (p:Int) (r:Int)) (fun t40 t41 t42=>((F4.f K t27 t28 t29 t40 t41 t42).bind fun t48=>(if t48=true then (Go.Proofs.YtgkgmhkgahalgaaGreat.Dt (Dl.f K (q:Int) (r:Int) ys) (fun t53 t54=>(Go.Proofs.YtgkgmhkgahalgaaGreat.Dt (Dl.f K (p:Int) (q:Int) xs) (fun t60 t61=>(if t54=true then (if t61=true then ((Ef.f K t53).bind fun t70=>(some (w64 ((w64 ((q:Int) - (t53.length:Int))) - (t60.length:Int)),t70,0))) else (some (0,([]:List Int),3))) else (some (0,([]:List Int),3))))))) else (some (0,([]:List Int),5)))))) else (some (0,([]:List Int),3))))) else (some (0,([]:List Int),2))) else (some (0,([]:List Int),1)))) else (some (0,([]:List Int),1)))) res:=fun {res} h =>
              s2.bind (Ab.pos rfl (s1.bind (Ab.pos rfl (Ab.pos rfl (s3 (Ab.pos rfl (Ab.Fe (Ab.congr (fun K=>Ol hp hr) (Ab.const _)) (n2.bind (Ab.pos rfl (Ab.Dt f3 (Ab.Dt g3 h)))))))))))
            cases b1 with
            | true=>exact ⟨0,[],3,by simp,i4 (Ab.neg (show ¬ (3:Int)=0 by decide) (Ab.const _)),s4 (Ab.neg (by decide) (Ab.const _))⟩
            | false =>
              cases b2 with
              | true=>exact ⟨0,[],3,by simp,i4 (Ab.pos rfl (Ab.neg (show ¬ (3:Int)=0 by decide) (Ab.const _))),s4 (Ab.pos rfl (Ab.neg (by decide) (Ab.const _)))⟩
              | false =>
                obtain ⟨rfl,hpos,hlen⟩:=f1 rfl
                obtain ⟨rfl,_,_⟩:=g1 rfl
                exact ⟨_,kp L1' L1'.length,0,Nat.le_trans (eP _) hlen,i4 (Ab.pos rfl (Ab.pos rfl (Ab.bind (a:=(L1'.length:Int)) (Ab.const _) (Ab.bind (a:=(L2'.length:Int)) (Ab.const _) ((fH hlen).bind (Ab.const _)))))),s4 (Ab.pos rfl (Ab.pos rfl ((fI hlen hpos).bind (Ab.const _))))⟩
      · exact ⟨0,[],2,by simp,Ab.Gr (i1.bind (Ab.pos rfl (i2.bind (Ab.pos rfl (Ab.neg (by omega) (Ab.const _)))))) (Ab.neg (by decide) (Ab.const _)),s2.bind (Ab.pos rfl (s1.bind (Ab.pos rfl (Ab.neg (by omega) (Ab.const _)))))⟩
def ov (f i:Nat):Nat:=(OT [f]).getD i 0
def nI (x y z:Nat):Int:=(if z<y then -1 else 1) * ((if z<x then -1 else 1) * (if y<x then -1 else 1))
def SG (p f:Nat):Int:=nI (PA p (ov f 0)) (PA p (ov f 1)) (PA p (ov f 2))
theorem uC (p f:Nat):SG p f=1∨SG p f = -1:=by
  unfold SG nI
  split <;> split <;> split <;> simp
theorem U9 {f i:Nat} (hf:f<4) (hi:i<3):ov f i<4:=by
  rcases (by omega:f=0∨f=1∨f=2∨f=3) with rfl | rfl | rfl | rfl <;> rcases (by omega:i=0∨i=1∨i=2) with rfl | rfl | rfl <;> decide
theorem pK {f:Nat} (hf:f<4):ints (OT [f])=[(ov f 0:Int),(ov f 1:Int),(ov f 2:Int)]:=by
  rcases (by omega:f=0∨f=1∨f=2∨f=3) with rfl | rfl | rfl | rfl <;> rfl
def fsC (K p f:Nat):Option Int:=(Fs.f K [(PA p (ov f 0):Int),(PA p (ov f 1):Int),(PA p (ov f 2):Int)]).bind fun t94=>if (t94.length+1) * 8≤140737488355328 then (if 4≤(t94++[3]).length then ((Fb.f K ((t94++[3]).getD 0 0) ((t94++[3]).getD 1 0) ((t94++[3]).getD 2 0) ((t94++[3]).getD 3 0)).bind fun t107=>F9.f K t107) else none) else none
theorem oJ:(fun K:Nat=>(List.range (24 * 4)).map fun i=>fsC (K+60) (i / 4) (i % 4))=fun _=>(List.range (24 * 4)).map fun i=>some (SG (i / 4) (i % 4)):=by kernel_rfl
theorem yM {p f:Nat} (hp:p<24) (hf:f<4):Ab (fun K=>fsC K p f) (SG p f):=vV (F:=fsC) (g:=SG) (m:=60) oJ hp hf
section
variable {n:Nat} (hn:n≤8) {a f b p:Nat} (ha:a<n) (hf:f<4) (hb:b<n) (hp:p<24)
include hn ha hf hb hp
theorem wJ {o:List Int} (hl:o.length=4 * n):Ab (fun K=>Ba.f K (a:Int) (f:Int) (b:Int) (p:Int) (PA p 0:Int) (PA p 1:Int) (PA p 2:Int) (PA p 3:Int) o) (if 4 * a+f<4 * b+PA p f then o.set (4 * b+PA p f) (SG p f) else o):=by
  have h:=Nb hp hf
  have hi:=mul_lt hb h
  have e1:w64 (w64 (4 * (a:Int))+(f:Int))=((4 * a+f:Nat):Int):=w6 (c:=4) (by decide) (by omega) (by omega)
  have e2:w64 (w64 (4 * (b:Int))+(PA p f:Int))=((4 * b+PA p f:Nat):Int):=w6 (c:=4) (by decide) (by omega) (by omega)
  unfold Ba.f
  rw [Uv hf,e1,e2]
  refine Ab.pos ⟨by omega,by omega⟩ ?_
  by_cases hlt:4 * a+f<4 * b+PA p f
  · rw [if_pos hlt]
    refine Ab.pos (by omega) (Ab.bind (Rq hf) ?_)
    rw [pK hf]
    have st:∀ (j:Nat) (g:List Int),j<3→g.length=j→∀ {R},Aa (fun K k=>Ba.l1 K k (f:Int) (b:Int) (PA p 0:Int) (PA p 1:Int) (PA p 2:Int) (PA p 3:Int) o [(ov f 0:Int),(ov f 1:Int),(ov f 2:Int)] (g++[(PA p (ov f j):Int)]) ((j+1:Nat):Int)) R→Aa (fun K k=>Ba.l1 K k (f:Int) (b:Int) (PA p 0:Int) (PA p 1:Int) (PA p 2:Int) (PA p 3:Int) o [(ov f 0:Int),(ov f 1:Int),(ov f 2:Int)] g (j:Int)) R:=fun j g hj hg R hR=>by
      refine Aa.step (fun K k=>?_) hR
      have ho:=U9 hf hj
      have hd:([(ov f 0:Int),(ov f 1:Int),(ov f 2:Int)]:List Int).getD j 0=(ov f j:Int):=by rcases (by omega:j=0∨j=1∨j=2) with rfl | rfl | rfl <;> rfl
      have hlen:(([(ov f 0:Int),(ov f 1:Int),(ov f 2:Int)]:List Int).length:Int)=3:=rfl
      rw [Ba.l1,hlen,if_pos (by omega),if_pos ⟨by omega,by omega⟩,Int.toNat_natCast,hd,if_pos ⟨by omega,by omega⟩,if_pos (by omega),Uv ho,Ap (by omega)]
    refine Aa.G7 (F:=fun K k=>Ba.l1 K k (f:Int) (b:Int) (PA p 0:Int) (PA p 1:Int) (PA p 2:Int) (PA p 3:Int) o [(ov f 0:Int),(ov f 1:Int),(ov f 2:Int)] [] ((0:Nat):Int)) ?_
    refine st 0 [] (by omega) rfl (st 1 _ (by omega) rfl (st 2 _ (by omega) rfl ?_))
    refine Aa.step (G:=fun K k=>(fsC K p f).bind fun t111=>if 0≤((4 * b+PA p f:Nat):Int)∧((4 * b+PA p f:Nat):Int)<(o.length:Int) then some (o.set ((4 * b+PA p f:Nat):Int).toNat t111) else none) (fun K k=>?_) (Aa.bind (yM hp hf).two (Aa.pos ⟨by omega,by omega⟩ (by rw [Int.toNat_natCast]; exact Aa.const _)))
    have hlen:(([(ov f 0:Int),(ov f 1:Int),(ov f 2:Int)]:List Int).length:Int)=3:=rfl
    rw [Ba.l1,hlen,if_neg (by omega),Uv hf,e2]
    unfold fsC
    rw [Option.bind_assoc]
    show (Fs.f K [(PA p (ov f 0):Int),(PA p (ov f 1):Int),(PA p (ov f 2):Int)]).bind _=_
    congr 1
    funext t
    split
    · split
      · rw [Option.bind_assoc]
      · rfl
    · rfl
  · rw [if_neg hlt]
    exact Ab.neg (by omega) (Ab.const _)
end
def FSg (ts:List (List Av)) (G:Nat):Int:=if (Gv ts (G / 4) (G % 4)).Tet<0 then 1 else if 4 * (Gv ts (G / 4) (G % 4)).Tet.toNat+PA (Gv ts (G / 4) (G % 4)).Perm.toNat (G % 4)<G then SG (PI (Gv ts (G / 4) (G % 4)).Perm.toNat) (PA (Gv ts (G / 4) (G % 4)).Perm.toNat (G % 4)) else 1
def FL (ts:List (List Av)):List Int:=(List.range (4 * ts.length)).map (FSg ts)
theorem Yh (ts:List (List Av)) (G:Nat):FSg ts G=1∨FSg ts G = -1:=by
  unfold FSg
  split
  · exact .inl rfl
  · split
    · exact uC _ _
    · exact .inl rfl
theorem bC (ts:List (List Av)):(FL ts).length=4 * ts.length:=by simp [FL]
theorem Xv {ts:List (List Av)} {G:Nat} (h:G<4 * ts.length):(FL ts).getD G 0=FSg ts G:=by
  unfold FL
  rw [List.getD_eq_getElem?_getD,List.getElem?_map,List.getElem?_range h]; rfl
def Ptn (ts:List (List Av)) (G:Nat):Option Nat:=if (Gv ts (G / 4) (G % 4)).Tet<0 then none else some (4 * (Gv ts (G / 4) (G % 4)).Tet.toNat+PA (Gv ts (G / 4) (G % 4)).Perm.toNat (G % 4))
section
variable {ts:List (List Av)} (hv:Val ts)
include hv
theorem dm4 {a f:Nat} (hf:f<4):(4 * a+f) / 4=a∧(4 * a+f) % 4=f:=by omega
theorem lC {a f:Nat} (ha:a<ts.length) (hf:f<4) (h:(Gv ts a f).Tet<0) {G:Nat} (hG:G<4 * ts.length):Ptn ts G≠some (4 * a+f):=by
  intro e
  unfold Ptn at e
  rcases Jh hv (show G / 4<ts.length by omega) (show G % 4<4 by omega) with ⟨h1,h2⟩ | ⟨h1,b,p,hb,hp,h2,h3⟩
  · rw [if_pos h1] at e; cases e
  · rw [if_neg h1,h2] at e
    have h4:=Nb hp (show G % 4<4 by omega)
    simp only [Int.toNat_natCast] at e
    injection e with e
    obtain ⟨rfl,rfl⟩:b=a∧PA p (G % 4)=f:=by omega
    rw [h3.2.2.2.1] at h
    simp at h
    omega
theorem gL {a f b p:Nat} (ha:a<ts.length) (hf:f<4) (hp:p<24) (h:O3 ts a f b p):4 * b+PA p f<4 * ts.length∧Ptn ts (4 * b+PA p f)=some (4 * a+f)∧4 * a+f≠4 * b+PA p f∧FSg ts (4 * b+PA p f)=(if 4 * a+f<4 * b+PA p f then SG p f else 1)∧∀ G,G<4 * ts.length→Ptn ts G=some (4 * a+f)→G=4 * b+PA p f:=by
  have h0:=Nb hp hf
  obtain ⟨d1,d2⟩:=dm4 hv (a:=b) h0
  have hb:=h.1
  refine ⟨by omega,?_,?_,?_,fun G hG e=>?_⟩
  · unfold Ptn
    rw [d1,d2,h.2.2.2.1,if_neg (by show ¬ (a:Int)<0; omega)]
    simp only [Int.toNat_natCast]
    rw [Zw hp hf]
  · intro e
    exact h.2.2.2.2 (by omega)
  · unfold FSg
    rw [d1,d2,h.2.2.2.1,if_neg (by show ¬ (a:Int)<0; omega)]
    simp only [Int.toNat_natCast]
    rw [Zw hp hf,yZ hp]
  · unfold Ptn at e
    rcases Jh hv (show G / 4<ts.length by omega) (show G % 4<4 by omega) with ⟨h1,h2⟩ | ⟨h1,c,q,hc,hq,h2,h3⟩
    · rw [if_pos h1] at e; cases e
    · rw [if_neg h1,h2] at e
      have h4:=Nb hq (show G % 4<4 by omega)
      simp only [Int.toNat_natCast] at e
      injection e with e
      obtain ⟨rfl,hpf⟩:c=a∧PA q (G % 4)=f:=by omega
      have h5:=h3.2.2.2.1
      rw [hpf,h.2.2.1] at h5
      injection h5 with h6 h7
      have h8:b=G / 4:=by omega
      have h9:p=PI q:=by omega
      rw [h9,← hpf,Zw hq (by omega),h8]
      omega
def aQ (ts:List (List Av)) (x:Nat) (o:List Int):Prop:=o.length=4 * ts.length∧∀ G,G<4 * ts.length→o.getD G 0=if (∃ F,Ptn ts G=some F∧F<x) then FSg ts G else 1
omit hv in
theorem aQ.next {x:Nat} {o:List Int} (h:aQ ts x o) (hn:∀ G,G<4 * ts.length→Ptn ts G=some x→o.getD G 0=FSg ts G):aQ ts (x+1) o:=by
  refine ⟨h.1,fun G hG=>?_⟩
  by_cases e:Ptn ts G=some x
  · rw [if_pos ⟨x,e,by omega⟩]; exact hn G hG e
  · rw [h.2 G hG]
    by_cases e2:∃ F,Ptn ts G=some F∧F<x
    · rw [if_pos e2,if_pos (by obtain ⟨F,a,b⟩:=e2; exact ⟨F,a,by omega⟩)]
    · rw [if_neg e2,if_neg (by
        rintro ⟨F,a,b⟩
        by_cases e3:F=x
        · exact e (e3 ▸ a)
        · exact e2 ⟨F,a,by omega⟩)]
theorem bV {a:Nat} (ha:a<ts.length):∀ (d f:Nat) (o:List Int),4 - f=d→f≤4→aQ ts (4 * a+f) o →
    ∃ o',aQ ts (4 * (a+1)) o'∧∀ R,Aa (fun K k=>Ah.l1 K k ts o' ((a+1:Nat):Int)) R→Aa (fun K k=>Ah.l4 K k ts (a:Int) o (f:Int)) R
  | 0,f,o,hd,hf,hs=>by
    obtain rfl:f=4:=by omega
    refine ⟨o,hs,fun R hR=>Aa.step (fun K k=>?_) hR⟩
    have:=hv.four a ha
    have:=hv.le
    rw [Ah.l4,Int.toNat_natCast,if_neg (by omega),Ap (by omega)]
  | d+1,f,o,hd,hf,hs=>by
    have h4:=hv.four a ha
    have h8:=hv.le
    have hf4:f<4:=by omega
    rcases Jh hv ha hf4 with ⟨h1,h2⟩ | ⟨h1,b,p,hb,hp,h2,hg⟩
    · obtain ⟨o',h,c⟩:=bV ha d (f+1) o (by omega) (by omega) (hs.next fun G hG e=>absurd e (lC hv ha hf4 h1 hG))
      refine ⟨o',h,fun R hR=>Aa.step (fun K k=>?_) (c R hR)⟩
      rw [Ah.l4,Int.toNat_natCast,if_pos (by omega),if_pos (by omega),Int.toNat_natCast,Js,Ap (by omega)]
      show (Cs.f (Gv ts a f).Tet (Gv ts a f).Perm).bind _=_
      rw [isB hv,Option.bind_some,decide_eq_true h1,if_pos rfl]
    · obtain ⟨g1,g2,g3,g4,g5⟩:=gL hv ha hf4 hp hg
      have t1:=wJ h8 ha hf4 hb hp hs.1
      have l1:(if 4 * a+f<4 * b+PA p f then o.set (4 * b+PA p f) (SG p f) else o).length=o.length:=by split; exact List.length_set ..; rfl
      have inv:aQ ts (4 * a+(f+1)) (if 4 * a+f<4 * b+PA p f then o.set (4 * b+PA p f) (SG p f) else o):=by
        by_cases hlt:4 * a+f<4 * b+PA p f
        · rw [if_pos hlt]
          rw [if_pos hlt] at g4
          refine ⟨by rw [List.length_set]; exact hs.1,fun G hG=>?_⟩
          rw [Qj]
          by_cases e:4 * b+PA p f=G
          · subst e
            rw [if_pos ⟨rfl,by rw [hs.1]; exact g1⟩,if_pos ⟨_,g2,by omega⟩,g4]
          · rw [if_neg (fun e'=>e e'.1),hs.2 G hG]
            by_cases e2:∃ F,Ptn ts G=some F∧F<4 * a+f
            · rw [if_pos e2,if_pos (by obtain ⟨F,a',b'⟩:=e2; exact ⟨F,a',by omega⟩)]
            · rw [if_neg e2,if_neg (by
                rintro ⟨F,a',b'⟩
                by_cases e3:F=4 * a+f
                · exact e (g5 G hG (e3 ▸ a')).symm
                · exact e2 ⟨F,a',by omega⟩)]
        · rw [if_neg hlt]
          rw [if_neg hlt] at g4
          refine hs.next fun G hG e=>?_
          obtain rfl:=g5 G hG e
          rw [hs.2 _ hG,g4]
          split <;> rfl
      obtain ⟨o',h,c⟩:=bV ha d (f+1) _ (by omega) (by omega) inv
      refine ⟨o',h,fun R hR=>Aa.step (fun K k=>?_) (Aa.Gr (F:=fun K _=>El.f K (p:Int)) (G:=fun K k i0 i1 i2 i3=>(Ba.f K (a:Int) (f:Int) (b:Int) (p:Int) i0 i1 i2 i3 o).bind fun t228=>if t228.length=o.length then Ah.l4 K k ts (a:Int) t228 ((f+1:Nat):Int) else none) (Ry hp).two (Aa.bind t1.two (Aa.pos l1 (c R hR))))⟩
      rw [Ah.l4,Int.toNat_natCast,if_pos (by omega),if_pos (by omega),Int.toNat_natCast,Js,Ap (by omega)]
      show (Cs.f (Gv ts a f).Tet (Gv ts a f).Perm).bind _=_
      rw [isB hv,Option.bind_some,decide_eq_false h1,if_neg (by decide)]
      show Gr (El.f K (Gv ts a f).Perm) (fun t221 t222 t223 t224=>(Ba.f K (a:Int) (f:Int) (Gv ts a f).Tet (Gv ts a f).Perm t221 t222 t223 t224 o).bind _)=_
      rw [h2]
theorem lI:∀ (d a:Nat) (o:List Int),ts.length - a=d→a≤ts.length→aQ ts (4 * a) o→Aa (fun K k=>Ah.l1 K k ts o (a:Int)) (FL ts)
  | 0,a,o,hd,ha,hs=>by
    obtain rfl:a=ts.length:=by omega
    have e:o=FL ts:=by
      refine Mr hs.1 (bC ts) fun G hG=>?_
      rw [hs.2 G hG,Xv hG]
      split
      · rfl
      · next h =>
        unfold FSg
        rcases Jh hv (show G / 4<ts.length by omega) (show G % 4<4 by omega) with ⟨h1,h2⟩ | ⟨h1,b,p,hb,hp,h2,h3⟩
        · rw [if_pos h1]
        · exfalso
          have h4:=Nb hp (show G % 4<4 by omega)
          exact h ⟨_,by unfold Ptn; rw [if_neg h1,h2],by simp only [Int.toNat_natCast]; omega⟩
    exact Aa.of fun K k=>by rw [Ah.l1,if_neg (by omega),e]
  | d+1,a,o,hd,ha,hs=>by
    have hlt:a<ts.length:=by omega
    obtain ⟨o1,h1,c⟩:=bV hv hlt 4 0 o (by omega) (by omega) hs
    refine Aa.step (fun K k=>?_) (c _ (lI d (a+1) o1 (by omega) (by omega) h1))
    rw [Ah.l1,if_pos (by omega),if_pos (by omega)]
    rfl
theorem Z9 (hr:Ab (fun K=>Cc.f K [1] ((4 * ts.length:Nat):Int)) (List.replicate (4 * ts.length) 1)):Ab (fun K=>Dz.f K ts) (FL ts):=by
  have h8:=hv.le
  have e1:=w6' (c:=4) (a:=ts.length) (by decide) (by omega)
  unfold Dz.f
  have t:=(lI hv ts.length 0 (List.replicate (4 * ts.length) 1) (by omega) (by omega) ⟨by simp,fun G hG=>by
    rw [List.getD_eq_getElem?_getD,List.getElem?_replicate,if_pos hG,if_neg (by rintro ⟨F,_,h⟩; omega)]; rfl⟩).G7
  refine Ab.bind (a:=List.replicate (4 * ts.length) 1) ?_ (Ab.bind t (Ab.pos (by rw [bC,List.length_replicate]) (Ab.const _)))
  rw [show (4:Int) * (ts.length:Int)=((4:Nat):Int) * (ts.length:Int) from rfl,e1]
  exact hr
end
theorem eD {f:Nat} (hf:f<4):Ab (fun K=>Fh.f K (f:Int)) [(ov f 0:Int),(ov f 1:Int),(ov f 2:Int)] :=
  tab (F:=fun K f=>Fh.f K (f:Int)) (g:=fun f=>[(ov f 0:Int),(ov f 1:Int),(ov f 2:Int)]) (m:=40) (n:=4) (by kernel_rfl) hf
section
variable {ts:List (List Av)} (hv:Val ts)
include hv
def M5 (ts:List (List Av)) (a f:Nat):List Int:=(List.range 4).map fun g=>if g<f then FSg ts (4 * a+g) else 1
omit hv in
theorem M3 (a f:Nat):(M5 ts a f).length=4:=by simp [M5]
omit hv in
theorem Pk {a f g:Nat} (h:g<4):(M5 ts a f).getD g 0=if g<f then FSg ts (4 * a+g) else 1:=by
  unfold M5
  rw [List.getD_eq_getElem?_getD,List.getElem?_map,List.getElem?_range h]; rfl
omit hv in
theorem Wh {a f:Nat} (hf:f<4):(M5 ts a f).set f (FSg ts (4 * a+f))=M5 ts a (f+1):=by
  refine Mr (n:=4) (by rw [List.length_set]; exact M3 a f) (M3 _ _) fun g hg=>?_
  rw [Qj,Pk hg,Pk hg,M3]
  by_cases e:f=g
  · subst e; rw [if_pos ⟨rfl,hf⟩,if_pos (by omega)]
  · rw [if_neg (fun e'=>e e'.1)]
    by_cases h:g<f
    · rw [if_pos h,if_pos (by omega)]
    · rw [if_neg h,if_neg (by omega)]
omit hv in
theorem Y0 {a f:Nat} (hf:f<4) (h:FSg ts (4 * a+f)=1):M5 ts a f=M5 ts a (f+1):=by
  rw [← Wh hf,h]
  refine Mr (n:=4) (M3 a f) (by rw [List.length_set]; exact M3 a f) fun g hg=>?_
  rw [Qj]
  split
  · next e=>rw [← e.1,Pk hf,if_neg (by omega)]
  · rfl
theorem nC {a f:Nat} {O:List (List Int)} {x y z:Nat} {e:List Int} (hf:f<4) (he:e.length=4) (h1:e.getD f 0=1) {R:List (List Int)}
    (h:Aa (fun K k=>Aj.l76 K k ts O (a:Int) (e.set f (nI x y z)) ((f+1:Nat):Int)) R) :
    Aa (fun K k=>Aj.Vq K k ts O (a:Int) (f:Int) [(x:Int),(y:Int),(z:Int)] 0 e) R:=by
  have h0:e=e.set f 1:=by
    refine Mr (n:=4) he (by rw [List.length_set]; exact he) fun g hg=>?_
    rw [Qj]; split
    · next e'=>rw [← e'.1,h1]
    · rfl
  have hlen:(([(x:Int),(y:Int),(z:Int)]:List Int).length:Int)=3:=rfl
  have s112:∀ (i j:Nat) (u w:Nat) (v:Int),i<j→j<3→([(x:Int),(y:Int),(z:Int)]:List Int).getD i 0=(u:Int)→([(x:Int),(y:Int),(z:Int)]:List Int).getD j 0=(w:Int)→(v=1∨v = -1)→Aa (fun K k=>Aj.Tc K k ts O (a:Int) (f:Int) [(x:Int),(y:Int),(z:Int)] (j:Int) (e.set f ((if w<u then -1 else 1) * v)) ((i+1:Nat):Int)) R→Aa (fun K k=>Aj.Tc K k ts O (a:Int) (f:Int) [(x:Int),(y:Int),(z:Int)] (j:Int) (e.set f v) (i:Int)) R:=fun i j u w v hi hj hu hw hv' hR=>by
    refine Aa.step (fun K k=>?_) hR
    have hg:(e.set f v).getD f 0=v:=by rw [Qj,if_pos ⟨rfl,by omega⟩]
    rw [Aj.Tc,if_pos (by omega),hlen,if_pos ⟨by omega,by omega⟩,if_pos ⟨by omega,by omega⟩,Int.toNat_natCast,Int.toNat_natCast,hu,hw,Ap (by omega),List.length_set,he]
    by_cases hc:w<u
    · rw [if_pos (by omega),if_pos ⟨by omega,by omega⟩,Int.toNat_natCast,hg,List.set_set,if_pos hc,show w64 (0 - v) = -1 * v by rcases hv' with rfl | rfl <;> rfl]
    · rw [if_neg (by omega),if_neg hc,Int.one_mul]
  have e112:∀ (j:Nat) (E:List Int),j<3→Aa (fun K k=>Aj.Vq K k ts O (a:Int) (f:Int) [(x:Int),(y:Int),(z:Int)] ((j+1:Nat):Int) E) R→Aa (fun K k=>Aj.Tc K k ts O (a:Int) (f:Int) [(x:Int),(y:Int),(z:Int)] (j:Int) E (j:Int)) R:=fun j E hj hR=>Aa.step (fun K k=>by
    rw [Aj.Tc,if_neg (by omega),Ap (by omega)]) hR
  have s108:∀ (j:Nat) (E:List Int),j<3→Aa (fun K k=>Aj.Tc K k ts O (a:Int) (f:Int) [(x:Int),(y:Int),(z:Int)] (j:Int) E ((0:Nat):Int)) R→Aa (fun K k=>Aj.Vq K k ts O (a:Int) (f:Int) [(x:Int),(y:Int),(z:Int)] (j:Int) E) R:=fun j E hj hR=>Aa.step (fun K k=>by
    rw [Aj.Vq,if_pos (by omega)]; rfl) hR
  have pm:∀ (c:Prop) [Decidable c] (v:Int),(v=1∨v = -1)→((if c then -1 else 1) * v=1∨(if c then -1 else 1) * v=(-1:Int)):=fun c _ v hv'=>by rcases hv' with rfl | rfl <;> split <;> simp
  rw [h0]
  refine s108 0 _ (by omega) (e112 0 _ (by omega) (s108 1 _ (by omega) (s112 0 1 x y 1 (by omega) (by omega) rfl rfl (.inl rfl) (e112 1 _ (by omega) (s108 2 _ (by omega) (s112 0 2 x z _ (by omega) (by omega) rfl rfl (pm _ _ (.inl rfl)) (s112 1 2 y z _ (by omega) (by omega) rfl rfl (pm _ _ (pm _ _ (.inl rfl))) (e112 2 _ (by omega) ?_))))))))
  refine Aa.step (fun K k=>?_) h
  rw [Aj.Vq,if_neg (by omega),Ap (by omega),Int.mul_one]
  rfl
theorem mI {a:Nat} (ha:a<ts.length) {O:List (List Int)} (hO:O.length=a) {R:List (List Int)} (hR:Aa (fun K k=>Aj.l1 K k ts (O++[M5 ts a 4]) ((a+1:Nat):Int)) R):∀ (d f:Nat),4 - f=d→f≤4 →
    Aa (fun K k=>Aj.l76 K k ts O (a:Int) (M5 ts a f) (f:Int)) R
  | 0,f,hd,hf=>by
    obtain rfl:f=4:=by omega
    have h8:=hv.le
    refine Aa.step (fun K k=>?_) hR
    rw [Aj.l76,if_neg (by decide),if_pos (by omega),Ap (by omega)]
  | d+1,f,hd,hf=>by
    have h4:=hv.four a ha
    have h8:=hv.le
    have hf4:f<4:=by omega
    have ih:=mI ha hO hR d (f+1) (by omega) (by omega)
    obtain ⟨d1,d2⟩:=dm4 hv (a:=a) hf4
    have start:∀ K k,Aj.l76 K (k+1) ts O (a:Int) (M5 ts a f) (f:Int)=(if (Gv ts a f).Tet<0 then Aj.l76 K k ts O (a:Int) (M5 ts a f) ((f+1:Nat):Int) else ((Eb.f K (Gv ts a f).Perm (f:Int)).bind fun t2070=>(if (a:Int)<(Gv ts a f).Tet then (Aj.Rk K k ts O (a:Int) (M5 ts a f) (f:Int) (Gv ts a f) t2070 true) else (if (Gv ts a f).Tet=(a:Int) then (Aj.Rk K k ts O (a:Int) (M5 ts a f) (f:Int) (Gv ts a f) t2070 (decide ((f:Int)<t2070))) else (Aj.Rk K k ts O (a:Int) (M5 ts a f) (f:Int) (Gv ts a f) t2070 false))))):=fun K k=>by
      rw [Aj.l76,if_pos (by omega),if_pos (by omega),Int.toNat_natCast,if_pos (by omega),Int.toNat_natCast,Js,Ap (by omega)]
      rfl
    rcases Jh hv ha hf4 with ⟨h1,h2⟩ | ⟨h1,b,p,hb,hp,h2,hg⟩
    · have e1:FSg ts (4 * a+f)=1:=by unfold FSg; rw [d1,d2,if_pos h1]
      refine Aa.step (fun K k=>?_) ih
      rw [start,if_pos h1,Y0 hf4 e1]
    · have hpf:=Nb hp hf4
      have e1:FSg ts (4 * a+f)=if 4 * b+PA p f<4 * a+f then SG (PI p) (PA p f) else 1:=by
        unfold FSg
        rw [d1,d2,if_neg h1,h2]
        simp only [Int.toNat_natCast]
      have hne:=hg.2.2.2.2
      have j1:(FSg ts (4 * a+f)=1)→Aa (fun K k=>Aj.Rk K k ts O (a:Int) (M5 ts a f) (f:Int) (Gv ts a f) (PA p f:Int) true) R:=fun e2=>Aa.step (fun K k=>by
        rw [Aj.Rk,if_pos rfl,Ap (by omega),Y0 hf4 e2]) ih
      have j0:4 * b+PA p f<4 * a+f→Aa (fun K k=>Aj.Rk K k ts O (a:Int) (M5 ts a f) (f:Int) (Gv ts a f) (PA p f:Int) false) R:=fun hlt=>by
        rw [if_pos hlt] at e1
        have hq:=qC hp
        refine Aa.step (G:=fun K k=>(Fh.f K (PA p f:Int)).bind fun t2082=>Aj.Vs K k ts O (a:Int) (M5 ts a f) (f:Int) ⟨b,p⟩ t2082 [] 0) (fun K k=>by rw [Aj.Rk,if_neg (by decide),h2]) (Aa.bind (eD hpf).two ?_)
        have st:∀ (i:Nat) (im:List Int),i<3→im.length=i→Aa (fun K k=>Aj.Vs K k ts O (a:Int) (M5 ts a f) (f:Int) ⟨b,p⟩ [(ov (PA p f) 0:Int),(ov (PA p f) 1:Int),(ov (PA p f) 2:Int)] (im++[(PA (PI p) (ov (PA p f) i):Int)]) ((i+1:Nat):Int)) R→Aa (fun K k=>Aj.Vs K k ts O (a:Int) (M5 ts a f) (f:Int) ⟨b,p⟩ [(ov (PA p f) 0:Int),(ov (PA p f) 1:Int),(ov (PA p f) 2:Int)] im (i:Int)) R:=fun i im hi him hR'=>by
          have hd':([(ov (PA p f) 0:Int),(ov (PA p f) 1:Int),(ov (PA p f) 2:Int)]:List Int).getD i 0=(ov (PA p f) i:Int):=by rcases (by omega:i=0∨i=1∨i=2) with rfl | rfl | rfl <;> rfl
          have hlen:(([(ov (PA p f) 0:Int),(ov (PA p f) 1:Int),(ov (PA p f) 2:Int)]:List Int).length:Int)=3:=rfl
          refine Aa.succ ?_
          simp only [Aj.Vs]
          refine Aa.pos (by omega) (Aa.bind (kQ hp).two (Aa.pos (by rw [hlen]; omega) ?_))
          rw [Int.toNat_natCast,hd',Ap (by omega)]
          exact Aa.bind (Yq hq (U9 hpf hi)).two (Aa.pos (by omega) hR')
        refine st 0 [] (by omega) rfl (st 1 _ (by omega) rfl (st 2 _ (by omega) rfl ?_))
        refine Aa.step (fun K k=>by rw [Aj.Vs,if_neg (by decide)]; rfl) (nC hv (a:=a) (O:=O) (x:=PA (PI p) (ov (PA p f) 0)) (y:=PA (PI p) (ov (PA p f) 1)) (z:=PA (PI p) (ov (PA p f) 2)) (e:=M5 ts a f) hf4 (M3 a f) (by rw [Pk hf4,if_neg (by omega)]) ?_)
        rw [show nI (PA (PI p) (ov (PA p f) 0)) (PA (PI p) (ov (PA p f) 1)) (PA (PI p) (ov (PA p f) 2))=FSg ts (4 * a+f) from e1.symm,Wh hf4]
        exact ih
      refine Aa.succ (Aa.congr start (Aa.neg h1 ?_))
      have hat:Ab (fun K=>Eb.f K (Gv ts a f).Perm (f:Int)) (PA p f:Int):=by rw [h2]; exact Yq hp hf4
      refine Aa.bind hat.two ?_
      have hT:(Gv ts a f).Tet=(b:Int):=by rw [h2]
      by_cases c1:a<b
      · exact Aa.pos (by omega) (j1 (by rw [e1,if_neg (by omega)]))
      · refine Aa.neg (by omega) ?_
        by_cases c2:b=a
        · refine Aa.pos (by omega) ?_
          by_cases c3:f<PA p f
          · rw [decide_eq_true (by omega)]
            exact j1 (by rw [e1,if_neg (by omega)])
          · have c4:PA p f≠f:=fun e=>hne ⟨c2,e⟩
            rw [decide_eq_false (by omega)]
            exact j0 (by omega)
        · exact Aa.neg (by omega) (j0 (by omega))
theorem Zq:Ab (fun K=>Aj.f K ts) (rowsOf (FL ts) 4 ts.length):=by
  have h8:=hv.le
  have hrow:∀ a,a<ts.length→M5 ts a 4=rowAt (FL ts) 4 a:=fun a ha=>by
    refine Mr (n:=4) (M3 a 4) (Lf _ _ _) fun g hg=>?_
    rw [Pk hg,if_pos hg,J6 hg,Xv (by omega)]
  have main:∀ d a,ts.length - a=d→a≤ts.length→Aa (fun K k=>Aj.l1 K k ts (rowsOf (FL ts) 4 a) (a:Int)) (rowsOf (FL ts) 4 ts.length):=by
    intro d
    induction d with
    | zero =>
      intro a hd ha
      obtain rfl:a=ts.length:=by omega
      refine Aa.of fun K k=>?_
      rw [Aj.l1]
      unfold Dx.f
      rw [Option.bind_some,if_neg (by omega)]
    | succ d ih =>
      intro a hd ha
      have hlt:a<ts.length:=by omega
      have e:rowsOf (FL ts) 4 a++[M5 ts a 4]=rowsOf (FL ts) 4 (a+1):=by
        unfold rowsOf
        rw [List.range_succ,List.map_append,hrow a hlt]; rfl
      refine Aa.step (fun K k=>?_) (mI hv hlt (Ju _ _ _) (by rw [e]; exact ih (a+1) (by omega) (by omega)) 4 0 (by omega) (by omega))
      rw [Aj.l1]
      unfold Dx.f
      rw [Option.bind_some,if_pos (by omega)]
      rfl
  exact (main ts.length 0 (by omega) (by omega)).G7
end
theorem aX:(fun K:Nat=>(List.range 9).map fun n=>Cc.f (K+60) [1] ((4 * n:Nat):Int))=fun _=>(List.range 9).map fun n=>some (List.replicate (4 * n) (1:Int)):=by kernel_rfl
theorem jN {n:Nat} (hn:n≤8):Ab (fun K=>Cc.f K [1] ((4 * n:Nat):Int)) (List.replicate (4 * n) 1):=tab (F:=fun K n=>Cc.f K [1] ((4 * n:Nat):Int)) (g:=fun n=>List.replicate (4 * n) (1:Int)) (m:=60) (n:=9) aX (by omega)
def Bt (t:Nat) (M:List Int):Prop:=∀ p,-(t:Int)≤M.getD p 0∧M.getD p 0≤(t:Int)
def Ov (n:Nat) (M:List Int) (o:Nat × Nat × Int):List Int:=M.set (o.1 * n+o.2.1) (M.getD (o.1 * n+o.2.1) 0+o.2.2)
def Nc (n:Nat) (M:List Int) (l:List (Nat × Nat × Int)):List Int:=l.foldl (Ov n) M
theorem Ld (n:Nat) (M:List Int) (l l':List (Nat × Nat × Int)):Nc n M (l++l')=Nc n (Nc n M l) l':=by unfold Nc; rw [List.foldl_append]
def WO (m n:Nat) (l:List (Nat × Nat × Int)):Prop:=∀ o,o ∈ l→o.1<m∧o.2.1<n∧-1≤o.2.2∧o.2.2≤1
theorem Rf {n t:Nat} {M:List Int} {o:Nat × Nat × Int} (h:Bt t M) (h1 : -1≤o.2.2) (h2:o.2.2≤1):Bt (t+1) (Ov n M o):=fun p=>by
  unfold Ov
  have a:=h (o.1 * n+o.2.1)
  have b:=h p
  rw [Qj]; split <;> omega
theorem Re {m n:Nat}:∀ {l:List (Nat × Nat × Int)} {t:Nat} {M:List Int},Bt t M→WO m n l→Bt (t+l.length) (Nc n M l)
  | [],_,_,h,_=>h
  | o::l,t,M,h,hw=>by
    have ho:=hw o (List.mem_cons_self ..)
    have:=Re (l:=l) (t:=t+1) (M:=Ov n M o) (Rf h ho.2.2.1 ho.2.2.2) (fun o' h'=>hw o' (List.mem_cons_of_mem _ h'))
    rw [List.length_cons,show t+(l.length+1)=t+1+l.length by omega]
    exact this
theorem Pv {n:Nat}:∀ {l:List (Nat × Nat × Int)} {M:List Int},(Nc n M l).length=M.length
  | [],_=>rfl
  | o::l,M=>by
    show (Nc n (Ov n M o) l).length=_
    rw [Pv]; unfold Ov; rw [List.length_set]
theorem Tz (N:Nat):Bt 0 (List.replicate N (0:Int)):=fun p=>by
  rw [List.getD_eq_getElem?_getD,List.getElem?_replicate]; split <;> simp
def cat {α:Type} (F:Nat→List α):Nat→List α
  | 0=>[]
  | m+1=>cat F m++F m
theorem Tu {α:Type} {F:Nat→List α} {c:Nat} (h:∀ i,(F i).length≤c):∀ m,(cat F m).length≤c * m
  | 0=>Nat.le_refl _
  | m+1=>by
    have:=Tu h m
    have:=h m
    rw [cat,List.length_append,Nat.mul_succ]; omega
theorem Yl {F:Nat→List (Nat × Nat × Int)} {m n N:Nat} (h:∀ i,i<N→WO m n (F i)):∀ x,x≤N→WO m n (cat F x)
  | 0,_=>fun o ho=>by cases ho
  | x+1,hx=>fun o ho=>by
    rcases List.mem_append.1 ho with ho | ho
    · exact Yl h x (by omega) o ho
    · exact h x (by omega) o ho
section
variable {m n t:Nat} {M:List Int}
theorem eF {β:Type} {c:Int} {i j:Nat} {N:Nat} {g:Int→Option β} (hl:M.length=m * n) (hN:N=m * n) (hi:i<m) (hj:j<n) (hm:m≤1000) (hn:n≤1000):(Be.f c (n:Int) M (i:Int) (j:Int)).bind (fun t=>if 0≤t∧t<(N:Int) then g t else none)=g ((i * n+j:Nat):Int):=Lg hl hN hi hj hm hn
theorem Xn {c:Int} {i j:Nat} {v:Int} (hl:M.length=m * n) (hb:Bt t M) (ht:t≤1000000) (hi:i<m) (hj:j<n) (hm:m≤1000) (hn:n≤1000) (h1 : -1≤v) (h2:v≤1):F8.f c (n:Int) M (i:Int) (j:Int) v=some (Ov n M (i,j,v)):=by
  unfold F8.f
  have h:=Jg hi hj
  have:=hb (i * n+j)
  rw [Ru (by omega) (by omega) hn,if_pos ⟨by omega,by omega⟩,Int.toNat_natCast,F5 (by omega) (by omega)]
  rfl
theorem Xc {v:Int} (hb:Bt t M) (ht:t≤1000000) (p:Nat) (h1 : -1≤v) (h2:v≤1):w64 (M.getD p 0+v)=M.getD p 0+v:=by
  have:=hb p
  exact F5 (by omega) (by omega)
end
def Cn (C:List Int) (i:Nat):Nat:=(C.getD i 0).toNat
theorem K4 {N i:Nat} {s:List Int} (h:i<N):(CN N s).getD i 0=(Cn (CN N s) i:Int)∧Cn (CN N s) i<Bf s N:=by
  have:=(M6 N s).range h
  unfold Cn
  omega
theorem Kr (s:List Int) (i:Nat):Bf s (i+1)=Bf s i+(if Gh s i=true then 1 else 0):=by
  rw [Bf]
theorem Qv {N i:Nat} {s:List Int} (h:i<N) (hf:Gh s i=true):Cn (CN N s) i=Bf s i:=by
  have:=(M6 N s).first i h hf
  unfold Cn; omega
theorem bG {N i:Nat} {s:List Int} (h:i<N) (hf:Gh s i=false):Cn (CN N s) i<Bf s i:=by
  obtain ⟨j,h1,h2,h3,h4⟩:=(M6 N s).at_ h
  have hj:j<i:=by
    rcases Nat.lt_or_eq_of_le h1 with h5 | h5
    · exact h5
    · subst h5; rw [h2] at hf; cases hf
  have:=Lp h2 hj
  unfold Cn; omega
theorem Uq {N c x:Nat} {s:List Int} (hx:x≤N) (hc:Bf s x=c) (hlt:c<Bf s N):∃ i,x≤i∧i<N∧Gh s i=true∧Bf s i=c∧Cn (CN N s) i=c∧(∀ j,j<i→(CN N s).getD j 0≠(c:Int))∧∀ j,x≤j→j<i→Gh s j=false:=by
  have main:∀ d x,N - x=d→x≤N→Bf s x=c→∃ i,x≤i∧i<N∧Gh s i=true∧Bf s i=c∧∀ j,x≤j→j<i→Gh s j=false:=by
    intro d
    induction d with
    | zero => intro x hd hx hc; have : x = N := by omega
              subst this; omega
    | succ d ih =>
      intro x hd hx hc
      cases hf:Gh s x with
      | true=>exact ⟨x,Nat.le_refl _,by omega,hf,hc,fun j h1 h2=>by omega⟩
      | false =>
        obtain ⟨i,h1,h2,h3,h4,h5⟩:=ih (x+1) (by omega) (by omega) (by rw [Kr,hf]; simp [hc])
        refine ⟨i,by omega,h2,h3,h4,fun j a b=>?_⟩
        by_cases e:j=x
        · subst e; exact hf
        · exact h5 j (by omega) b
  obtain ⟨i,h1,h2,h3,h4,h5⟩:=main _ x rfl hx hc
  have hci:Cn (CN N s) i=c:=by rw [Qv h2 h3,h4]
  refine ⟨i,h1,h2,h3,h4,hci,fun j hj e=>?_,h5⟩
  have hjN:j<N:=by omega
  have e1:=(K4 (s:=s) hjN).1
  have hm:=Kv s (show j≤i by omega)
  cases hf:Gh s j with
  | true =>
    have:=Qv hjN hf
    have:=Lp hf hj
    omega
  | false =>
    have:=bG hjN hf
    omega
theorem Q5 {α:Type} {F:Nat→List α} {x y:Nat} (hxy:x≤y) (h:∀ j,x≤j→j<y→F j=[]):cat F x=cat F y:=by
  induction y with
  | zero => obtain rfl : x = 0 := by omega
            rfl
  | succ y ih =>
    by_cases e:x=y+1
    · rw [e]
    · rw [cat,h y (by omega) (by omega),List.append_nil]
      exact ih (by omega) fun j a b=>h j a (by omega)
theorem Yv {l:List Int} (hl:l.length≤1000) {v:Int} {j0:Nat} (hj:j0<l.length) (h0:l.getD j0 0=v) (h1:∀ j,j<j0→l.getD j 0≠v):Ab (fun K=>Ck.f K l v) (j0:Int):=by
  have main:∀ d i,j0 - i=d→i≤j0→Aa (fun K k=>Ck.l1 K k l v (i:Int)) (j0:Int):=by
    intro d
    induction d with
    | zero =>
      intro i hd hi
      obtain rfl:i=j0:=by omega
      refine Aa.of fun K k=>?_
      rw [Ck.l1,if_pos (by omega),if_pos ⟨by omega,by omega⟩,Int.toNat_natCast,if_pos h0.symm]
    | succ d ih =>
      intro i hd hi
      refine Aa.step (fun K k=>?_) (ih (i+1) (by omega) (by omega))
      rw [Ck.l1,if_pos (by omega),if_pos ⟨by omega,by omega⟩,Int.toNat_natCast,if_neg (fun e=>h1 i (by omega) e.symm),Ap (by omega)]
  exact (main j0 0 (by omega) (by omega)).G7
theorem pR {c:Nat} (hc:c≤1000) (v:Nat):Ab (fun K=>Fw.f K (upto c) (v:Int)) (decide (v<c)):=by
  have hl:=Ko c
  by_cases h:v<c
  · rw [decide_eq_true h]
    have main:∀ d i,v - i=d→i≤v→Aa (fun K k=>Fw.l1 K k (upto c) (v:Int) (i:Int)) true:=by
      intro d
      induction d with
      | zero =>
        intro i hd hi
        obtain rfl:i=v:=by omega
        refine Aa.of fun K k=>?_
        rw [Fw.l1,if_pos (by omega),if_pos ⟨by omega,by omega⟩,Int.toNat_natCast,if_pos (L6 h)]
      | succ d ih =>
        intro i hd hi
        refine Aa.step (fun K k=>?_) (ih (i+1) (by omega) (by omega))
        rw [Fw.l1,if_pos (by omega),if_pos ⟨by omega,by omega⟩,Int.toNat_natCast,L6 (by omega),if_neg (by omega),Ap (by omega)]
    exact (main v 0 (by omega) (by omega)).G7
  · rw [decide_eq_false h]
    have main:∀ d i,c - i=d→i≤c→Aa (fun K k=>Fw.l1 K k (upto c) (v:Int) (i:Int)) false:=by
      intro d
      induction d with
      | zero =>
        intro i hd hi
        obtain rfl:i=c:=by omega
        refine Aa.of fun K k=>?_
        rw [Fw.l1,if_neg (by omega)]
      | succ d ih =>
        intro i hd hi
        refine Aa.step (fun K k=>?_) (ih (i+1) (by omega) (by omega))
        rw [Fw.l1,if_pos (by omega),if_pos ⟨by omega,by omega⟩,Int.toNat_natCast,L6 (by omega),if_neg (by omega),Ap (by omega)]
    exact (main c 0 (by omega) (by omega)).G7
end Go.Proofs.YtgkgmhkgahalgaaGreat
