/-
  Marks of lists, in general: what marking leaves is found again.
  Marks of moves; moves are equal to themselves.
  Moves are handed over whole.
  Marks of triangulations: what marking leaves is found again.
-/
import Derived.Test.YtbjfinndngafoaaGreatPlT27
set_option linter.unusedVariables false
set_option linter.unusedSimpArgs false
set_option linter.unusedSectionVars false
namespace Go.Proofs.YtbjfinndngafoaaGreat
open Go.RowKit
def Nl (f:Nat→Nat):Nat→Nat→Nat
  | _,0=>0
  | i,m+1=>f i+Nl f (i+1) m
def Xr:Int:=1000000000000000
theorem Rx {α:Type} {xs:List α} {i:Nat} {x z:α} (h:i<xs.length):(xs.set i x).getD i z=x:=by
  rw [List.getD_eq_getElem?_getD,List.getElem?_set_self h]; rfl
theorem bQ {α:Type} {xs:List α} {i j:Nat} {x z:α} (h:i≠j):(xs.set i x).getD j z=xs.getD j z:=by
  rw [List.getD_eq_getElem?_getD,List.getElem?_set_ne h,← List.getD_eq_getElem?_getD]
theorem Ue {α:Type} {xs:List α} {z:α} {l:Nat→Nat→List α→Int→Nat→Option (Int × List α)} {l':Nat→Nat→List α→Int→Nat→Option Int} {cnt:Nat→Nat}
    (he:∀ K k ys kk,ys.length=xs.length→l K (k+1) ys kk xs.length=some (kk,ys)) (he':∀ K k ys kk,ys.length=xs.length→l' K (k+1) ys kk xs.length=some kk)
    (h1:∀ i,i<xs.length→∀ kk:Int,0≤kk→kk+(cnt i:Int)≤Xr→∃ y,
      (∀ ys r,ys.length=xs.length→ys.getD i z=xs.getD i z→Aa (fun K k=>l K k (ys.set i y) (kk+(cnt i:Int)) (i+1)) r→Aa (fun K k=>l K k ys kk i) r) ∧
      (∀ ys r,ys.length=xs.length→ys.getD i z=y→Aa (fun K k=>l' K k ys (kk+(cnt i:Int)) (i+1)) r→Aa (fun K k=>l' K k ys kk i) r)) :
    ∀ (m i:Nat) (ys:List α) (kk:Int),xs.length - i=m→i≤xs.length→ys.length=xs.length→(∀ j,i≤j→j<xs.length→ys.getD j z=xs.getD j z)→0≤kk→kk+(Nl cnt i m:Int)≤Xr →
      ∃ zs,zs.length=xs.length∧(∀ j,j<i→zs.getD j z=ys.getD j z)∧Aa (fun K k=>l K k ys kk i) (kk+(Nl cnt i m:Int),zs)∧Aa (fun K k=>l' K k zs kk i) (kk+(Nl cnt i m:Int))
  | 0,i,ys,kk,hm,hi,hy,hg,h0,hb=>by
    obtain rfl:i=xs.length:=by omega
    refine ⟨ys,hy,fun _ _=>rfl,Aa.of fun K k=>?_,Aa.of fun K k=>?_⟩
    · rw [he K k ys kk hy]; simp [Nl]
    · rw [he' K k ys kk hy]; simp [Nl]
  | m+1,i,ys,kk,hm,hi,hy,hg,h0,hb=>by
    have hlt:i<xs.length:=by omega
    have hs:(Nl cnt i (m+1):Int)=(cnt i:Int)+(Nl cnt (i+1) m:Int):=by rw [Nl]; omega
    obtain ⟨y,a,b⟩:=h1 i hlt kk h0 (by omega)
    obtain ⟨zs,z1,z2,z3,z4⟩:=Ue he he' h1 m (i+1) (ys.set i y) (kk+(cnt i:Int)) (by omega) (by omega) (by rw [List.length_set]; exact hy) (fun j hj hj'=>by rw [bQ (by omega)]; exact hg j (by omega) hj') (by omega) (by omega)
    have hk:kk+(Nl cnt i (m+1):Int)=kk+(cnt i:Int)+(Nl cnt (i+1) m:Int):=by omega
    rw [hk]
    refine ⟨zs,z1,fun j hj=>?_,a ys _ hy (hg i (Nat.le_refl _) hlt) z3,b zs _ z1 ?_ z4⟩
    · rw [z2 j (by omega),bQ (by omega)]
    · rw [z2 i (by omega),Rx (by omega)]
def Nf {β:Type} (mark:Nat→List β→Int→Option (Int × List β)) (held:Nat→List β→Int→Option Int) (xs:List β) (c:Nat):Prop :=
  ∀ kk:Int,0≤kk→kk+(c:Int)≤Xr→∃ ys,ys.length=xs.length∧Ac (fun K=>mark K xs kk) (kk+(c:Int),ys)∧Ac (fun K=>held K ys kk) (kk+(c:Int))
theorem Nf.of {α:Type} {xs:List α} {z:α} {mark:Nat→List α→Int→Option (Int × List α)} {held:Nat→List α→Int→Option Int} {l:Nat→Nat→List α→Int→Int→Option (Int × List α)} {l':Nat→Nat→List α→Int→Int→Option Int} {cnt:Nat→Nat}
    (hm:∀ K xs kk,mark K xs kk=l K K xs kk 0) (hh:∀ K xs kk,held K xs kk=l' K K xs kk 0)
    (he:∀ K k ys kk,ys.length=xs.length→l K (k+1) ys kk (xs.length:Int)=some (kk,ys)) (he':∀ K k ys kk,ys.length=xs.length→l' K (k+1) ys kk (xs.length:Int)=some kk)
    (h1:∀ i,i<xs.length→∀ kk:Int,0≤kk→kk+(cnt i:Int)≤Xr→∃ y,
      (∀ ys r,ys.length=xs.length→ys.getD i z=xs.getD i z→Aa (fun K k=>l K k (ys.set i y) (kk+(cnt i:Int)) ((i+1:Nat):Int)) r→Aa (fun K k=>l K k ys kk (i:Int)) r) ∧
      (∀ ys r,ys.length=xs.length→ys.getD i z=y→Aa (fun K k=>l' K k ys (kk+(cnt i:Int)) ((i+1:Nat):Int)) r→Aa (fun K k=>l' K k ys kk (i:Int)) r)):Nf mark held xs (Nl cnt 0 xs.length):=fun kk h0 hb=>by
  obtain ⟨zs,z1,_,z3,z4⟩:=Ue (l:=fun K k ys kk i=>l K k ys kk (i:Int)) (l':=fun K k ys kk i=>l' K k ys kk (i:Int)) he he' h1 xs.length 0 xs kk (by omega) (by omega) rfl (fun _ _ _=>rfl) h0 hb
  exact ⟨zs,z1,Ac.congr (fun K=>hm K xs kk) z3.G8,Ac.congr (fun K=>hh K zs kk) z4.G8⟩
theorem Oy (c:Nat):∀ m i,Nl (fun _=>c) i m=c * m
  | 0,_=>rfl
  | m+1,i=>by rw [Nl,Oy c m,Nat.mul_succ,Nat.add_comm]
section
variable {kk:Int}
theorem w1 (h0:0≤kk) (h1:kk≤Xr+10):w64 (kk+1)=kk+1:=by unfold Xr at h1; exact Gs (by omega) (by omega)
end
theorem Nf.rows {β:Type} {xs:List (List β)} {mark:Nat→List β→Int→Option (Int × List β)} {held:Nat→List β→Int→Option Int} {markS:Nat→List (List β)→Int→Option (Int × List (List β))} {heldS:Nat→List (List β)→Int→Option Int}
    {l:Nat→Nat→List (List β)→Int→Int→Option (Int × List (List β))} {l':Nat→Nat→List (List β)→Int→Int→Option Int} {cnt:Nat→Nat} (hn:xs.length≤2000000)
    (hm:∀ K xs kk,markS K xs kk=l K K xs kk 0) (hh:∀ K xs kk,heldS K xs kk=l' K K xs kk 0)
    (hl:∀ K k ys kk i,l K (k+1) ys kk i=if i<(ys.length:Int) then (if 0≤i∧i<(ys.length:Int) then El (mark K (ys.getD i.toNat []) kk) (fun a b=>if b.length=(ys.getD i.toNat []).length then l K k (ys.set i.toNat b) a (w64 (i+1)) else none) else none) else some (kk,ys))
    (hl':∀ K k ys kk i,l' K (k+1) ys kk i=if i<(ys.length:Int) then (if 0≤i∧i<(ys.length:Int) then (held K (ys.getD i.toNat []) kk).bind (fun t=>if t<0 then some (-1) else l' K k ys t (w64 (i+1))) else none) else some kk)
    (h1:∀ i,i<xs.length→Nf mark held (xs.getD i []) (cnt i)):Nf markS heldS xs (Nl cnt 0 xs.length) :=
  Nf.of (z:=[]) hm hh (fun K k ys kk hy=>by rw [hl,if_neg (by omega)]) (fun K k ys kk hy=>by rw [hl',if_neg (by omega)]) fun i hi kk h0 hb=>by
    obtain ⟨y,y1,y2,y3⟩:=h1 i hi kk h0 hb
    refine ⟨y,fun ys r hy hg h=>?_,fun ys r hy hg h=>?_⟩
    · refine Aa.step (fun K k=>?_) (Aa.El (G:=fun K k a b=>if b.length=(xs.getD i []).length then l K k (ys.set i b) a ((i+1:Nat):Int) else none) y2.two (Aa.pos y1 h))
      rw [hl,if_pos (by omega),if_pos (by omega),Int.toNat_natCast,hg,Az (by omega)]
    · refine Aa.step (fun K k=>?_) (Aa.bind (G:=fun K k t=>if t<0 then some (-1) else l' K k ys t ((i+1:Nat):Int)) y3.two (Aa.neg (by omega) h))
      rw [hl',if_pos (by omega),if_pos (by omega),Int.toNat_natCast,hg,Az (by omega)]
theorem Zl {f:Nat→Nat} {B:Nat}:∀ (m i:Nat),(∀ j,i≤j→j<i+m→f j≤B)→Nl f i m≤B * m
  | 0,_,_=>Nat.le_refl _
  | m+1,i,h=>by
    have h1:=h i (Nat.le_refl _) (by omega)
    have h2:=Zl m (i+1) (fun j a b=>h j (by omega) (by omega))
    rw [Nl,Nat.mul_succ]; omega
theorem bG {xs:List Gh} (hn:xs.length≤2000000):Nf Eb.f Hz.f xs (3 * xs.length):=by
  have h:=Nf.of (xs:=xs) (z:=Iw) (mark:=Eb.f) (held:=Hz.f) (l:=Eb.l1) (l':=Hz.l1) (cnt:=fun _=>3) (fun _ _ _=>rfl) (fun _ _ _=>rfl)
    (fun K k ys kk hy=>by rw [Eb.l1,if_neg (by omega)]) (fun K k ys kk hy=>by rw [Hz.l1,if_neg (by omega)]) (fun i hi kk h0 hb=>⟨⟨kk,kk+1,kk+2⟩,fun ys r hy hg h=>Aa.step (fun K k=>?_) h,fun ys r hy hg h=>Aa.step (fun K k=>?_) h⟩)
  · rw [Oy] at h; exact h
  all_goals
    have e1:=w1 h0 (by omega)
    have e2:w64 (kk+1+1)=kk+2:=(w1 (by omega) (by omega)).trans (by omega)
    have e3:w64 (kk+2+1)=kk+3:=(w1 (by omega) (by omega)).trans (by omega)
  · rw [Eb.l1,if_pos (by omega),if_pos (by omega),Int.toNat_natCast]
    simp only [Fa,List.length_set,if_pos (show 0≤(i:Int)∧(i:Int)<(ys.length:Int) by omega),Rx (show i<ys.length by omega),List.set_set,e1,e2,e3,Az (show i<4611686018427387904 by omega)]
    rfl
  · rw [Hz.l1,if_pos (by omega),if_pos (by omega),Int.toNat_natCast,hg,Fa,if_pos rfl,e1,if_pos rfl,e2,if_pos rfl,e3,Az (by omega)]; rfl
theorem Tc {xs:List Gh} (hn:xs.length≤2000000):∀ (m i:Nat),xs.length - i=m→Aa (fun K k=>Fv.l1 K k xs xs (i:Int)) true
  | 0,i,hm=>Aa.of fun K k=>by rw [Fv.l1,if_neg (by omega)]
  | m+1,i,hm=>by
    refine Aa.step (fun K k=>?_) (Tc hn m (i+1) (by omega))
    rw [Fv.l1,if_pos (by omega),if_pos (by omega),Fa,if_pos (by omega),Fa,Az (by omega)]
    unfold Jd.f
    rw [if_pos rfl,if_pos rfl,if_pos rfl,Option.bind_some,if_pos rfl]
theorem kU {xs:List Gh} (hn:xs.length≤2000000):Ac (fun K=>Fv.f K xs xs) true:=Ac.pos rfl (Tc hn xs.length 0 rfl).G8
theorem Rk {xs:List Gh} (hn:xs.length≤2000000):∀ (m i:Nat) (out:List Gh),xs.length - i=m→i≤xs.length→out.length=xs.length→(∀ j,j<i→out[j]?=xs[j]?) →
    Aa (fun K k=>D5.l1 K k xs out (i:Int)) xs
  | 0,i,out,hm,hi,hl,ho=>by
    have he:out=xs:=by
      apply List.ext_getElem?
      intro j
      by_cases hj:j<i
      · exact ho j hj
      · rw [List.getElem?_eq_none (by omega),List.getElem?_eq_none (by omega)]
    refine Aa.succ (Aa.congr (G:=fun _ _=>some xs) (fun K k=>?_) (Aa.const _))
    rw [D5.l1,if_neg (by omega),he]
  | m+1,i,out,hm,hi,hl,ho=>by
    have hlt:i<xs.length:=by omega
    have ih:=Rk hn m (i+1) (out.set i xs[i]) (by omega) (by omega) (by rw [List.length_set]; exact hl) (fun j hj=>by
      by_cases hij:i=j
      · subst hij; rw [List.getElem?_set_self (by omega),List.getElem?_eq_getElem hlt]
      · rw [List.getElem?_set_ne hij]; exact ho j (by omega))
    refine Aa.succ (Aa.congr (fun K k=>?_) ih)
    rw [D5.l1,if_pos (by omega),if_pos (by omega)]
    try simp only [Jf.f,Im,Option.bind_some,Fa]
    rw [if_pos (by omega),Int.toNat_natCast,Az (by omega),List.getD_eq_getElem?_getD,List.getElem?_eq_getElem hlt]
    rfl
theorem iH {xs:List Gh} (hn:xs.length≤2000000):Ac (fun K=>D5.f K xs) xs:=by
  refine Ac.congr (fun K=>?_) (Rk hn xs.length 0 (List.replicate xs.length Iw) (by omega) (by omega) (by simp) (fun j hj=>by omega)).G8
  rw [D5.f,if_pos (by omega),if_pos (by omega),Int.toNat_natCast]
  rfl
theorem wG {xs:List Gh} (hn:xs.length≤9223372036854775807) {left:Int} (h0:0≤left) (h1:left≤1048576):∃ r,Ac (fun _=>Iu.f xs left) r∧(r<0∨(0≤r∧xs.length≤2000000)):=by
  obtain ⟨r,a,b⟩:=Zn (n:=xs.length) h0 h1 hn
  exact ⟨r,Ac.congr (fun _=>a) (Ac.const _),b.imp id fun h=>⟨h.1,by omega⟩⟩
theorem gG {xs:List Gh} (hn:xs.length≤2000000) {k:Int} (h0:0≤k) (h1:k≤100000000000000):∃ (q:Int) (ys:List Gh),0≤q∧ys.length=xs.length∧Ac (fun K=>Eb.f K xs k) (q,ys):=by
  obtain ⟨ys,y1,y2,y3⟩:=bG hn k h0 (by unfold Xr; omega)
  exact ⟨k+((3 * xs.length:Nat):Int),ys,by omega,y1,y2⟩
theorem bH {xs:List Ab} (hn:xs.length≤2000000):Nf D9.f D8.f xs (2 * xs.length):=by
  have h:=Nf.of (xs:=xs) (z:=Bb) (mark:=D9.f) (held:=D8.f) (l:=D9.l1) (l':=D8.l1) (cnt:=fun _=>2) (fun _ _ _=>rfl) (fun _ _ _=>rfl)
    (fun K k ys kk hy=>by rw [D9.l1,if_neg (by omega)]) (fun K k ys kk hy=>by rw [D8.l1,if_neg (by omega)]) (fun i hi kk h0 hb=>⟨⟨kk,kk+1⟩,fun ys r hy hg h=>Aa.step (fun K k=>?_) h,fun ys r hy hg h=>Aa.step (fun K k=>?_) h⟩)
  · rw [Oy] at h; exact h
  · have e1:=w1 h0 (by omega)
    have e2:w64 (kk+1+1)=kk+2:=(w1 (by omega) (by omega)).trans (by omega)
    rw [D9.l1,if_pos (by omega),if_pos (by omega),Int.toNat_natCast]
    simp only [Fa,List.length_set,if_pos (show 0≤(i:Int)∧(i:Int)<(ys.length:Int) by omega),Rx (show i<ys.length by omega),List.set_set,e1,e2,Az (show i<4611686018427387904 by omega)]
    rfl
  · have e1:=w1 h0 (by omega)
    have e2:w64 (kk+1+1)=kk+2:=(w1 (by omega) (by omega)).trans (by omega)
    rw [D8.l1,if_pos (by omega),if_pos (by omega),Int.toNat_natCast,hg,Fa,if_pos rfl,e1,if_pos rfl,e2,Az (by omega)]; rfl
def cF (xs:List (List Ab)):Nat:=Nl (fun i=>2 * (xs.getD i []).length) 0 xs.length
theorem Yi {xs:List (List Ab)} (hn:xs.length≤2000000) (h:∀ j,j<xs.length→(xs.getD j []).length≤2000000):Nf Ev.f Eo.f xs (cF xs) :=
  Nf.rows (mark:=D9.f) (held:=D8.f) (l:=Ev.l1) (l':=Eo.l1) hn (fun _ _ _=>rfl) (fun _ _ _=>rfl) (fun _ _ _ _ _=>rfl) (fun _ _ _ _ _=>rfl) (fun i hi=>bH (h i hi))
theorem Za {xs:List (List Ab)} (hn:xs.length≤2000000) (h:∀ j,j<xs.length→(xs.getD j []).length≤2000000):∃ (q:Int) (ys:List (List Ab)),(0≤q∧q≤100000000000000)∧ys.length=xs.length∧Ac (fun K=>Ez.f K xs 1) (q,ys)∧Ac (fun K=>Eo.f K ys 1) q:=by
  have hc:cF xs≤4000000 * xs.length:=by
    unfold cF
    exact Zl xs.length 0 (fun j _ hj=>by have:=h j (by omega); show 2 * (xs.getD j []).length≤4000000; omega)
  obtain ⟨ys,y1,y2,y3⟩:=Yi hn h 1 (by decide) (by unfold Xr; omega)
  exact ⟨1+(cF xs:Int),ys,⟨by omega,by omega⟩,y1,Ac.El y2 (Ac.pos y1 (Ac.const _)),y3⟩
end Go.Proofs.YtbjfinndngafoaaGreat
