import Derived.Test.YtgkgmhkgahalgaaGreatAlM
import Derived.KernelRfl
set_option linter.unusedVariables false
set_option linter.unusedSimpArgs false
set_option linter.unusedSectionVars false
namespace Go.Proofs.YtgkgmhkgahalgaaGreat
open Go.RowKit
def Ab {α:Type} (F:Nat→Option α) (r:α):Prop:=∃ n,∀ K,n≤K→F K=some r
def Aa {α:Type} (F:Nat→Nat→Option α) (r:α):Prop:=∃ n,∀ K k,n≤K→n≤k→F K k=some r
section
variable {α β γ δ ε ζ:Type}
theorem Ab.const (r:α):Ab (fun _=>some r) r:=⟨0,fun _ _=>rfl⟩
theorem Aa.const (r:α):Aa (fun _ _=>some r) r:=⟨0,fun _ _ _ _=>rfl⟩
theorem Ab.congr {F G:Nat→Option α} {r:α} (h:∀ K,F K=G K) (hg:Ab G r):Ab F r:=by
 obtain ⟨n,hn⟩:=hg
 exact ⟨n,fun K hK=>(h K).trans (hn K hK)⟩
theorem Aa.congr {F G:Nat→Nat→Option α} {r:α} (h:∀ K k,F K k=G K k) (hg:Aa G r):Aa F r:=by
 obtain ⟨n,hn⟩:=hg
 exact ⟨n,fun K k hK hk=>(h K k).trans (hn K k hK hk)⟩
theorem Aa.succ {F:Nat→Nat→Option α} {r:α} (h:Aa (fun K k=>F K (k+1)) r):Aa F r:=by
 obtain ⟨n,hn⟩:=h
 refine ⟨n+1,fun K k hK hk=>?_⟩
 obtain ⟨k',rfl⟩:∃ k',k=k'+1:=⟨k - 1,by omega⟩
 exact hn K k' (by omega) (by omega)
theorem Aa.Gz {F:Nat→Nat→Option α} {r:α} (h:Aa F r):Ab (fun K=>F K K) r:=by
 obtain ⟨n,hn⟩:=h
 exact ⟨n,fun K hK=>hn K K hK hK⟩
theorem Ab.two {F:Nat→Option α} {r:α} (h:Ab F r):Aa (fun K _=>F K) r:=by
 obtain ⟨n,hn⟩:=h
 exact ⟨n,fun K k hK hk=>hn K hK⟩
theorem Ab.bind {F:Nat→Option α} {G:Nat→α→Option β} {a:α} {r:β} (h:Ab F a) (g:Ab (fun K=>G K a) r):Ab (fun K=>(F K).bind (G K)) r:=by
 obtain ⟨n,hn⟩:=h
 obtain ⟨m,hm⟩:=g
 exact ⟨n+m,fun K hK=>by show (F K).bind (G K)=some r; rw [hn K (by omega)]; exact hm K (by omega)⟩
theorem Ab.Dw {F:Nat→Option (α × β)} {G:Nat→α→β→Option γ} {a:α} {b:β} {r:γ} (h:Ab F (a,b)) (g:Ab (fun K=>G K a b) r):Ab (fun K=>Go.Proofs.YtgkgmhkgahalgaaGreat.Dw (F K) (G K)) r:=by
 obtain ⟨n,hn⟩:=h
 obtain ⟨m,hm⟩:=g
 exact ⟨n+m,fun K hK=>by show Go.Proofs.YtgkgmhkgahalgaaGreat.Dw (F K) (G K)=some r; rw [hn K (by omega)]; exact hm K (by omega)⟩
theorem Ab.Gy {F:Nat→Option (α × β × γ)} {G:Nat→α→β→γ→Option δ} {a:α} {b:β} {c:γ} {r:δ} (h:Ab F (a,b,c)) (g:Ab (fun K=>G K a b c) r):Ab (fun K=>Go.Proofs.YtgkgmhkgahalgaaGreat.Gy (F K) (G K)) r:=by
 obtain ⟨n,hn⟩:=h
 obtain ⟨m,hm⟩:=g
 exact ⟨n+m,fun K hK=>by show Go.Proofs.YtgkgmhkgahalgaaGreat.Gy (F K) (G K)=some r; rw [hn K (by omega)]; exact hm K (by omega)⟩
theorem Aa.bind {F:Nat→Nat→Option α} {G:Nat→Nat→α→Option β} {a:α} {r:β} (h:Aa F a) (g:Aa (fun K k=>G K k a) r):Aa (fun K k=>(F K k).bind (G K k)) r:=by
 obtain ⟨n,hn⟩:=h
 obtain ⟨m,hm⟩:=g
 exact ⟨n+m,fun K k hK hk=>by show (F K k).bind (G K k)=some r; rw [hn K k (by omega) (by omega)]; exact hm K k (by omega) (by omega)⟩
theorem Aa.Dw {F:Nat→Nat→Option (α × β)} {G:Nat→Nat→α→β→Option γ} {a:α} {b:β} {r:γ} (h:Aa F (a,b)) (g:Aa (fun K k=>G K k a b) r):Aa (fun K k=>Go.Proofs.YtgkgmhkgahalgaaGreat.Dw (F K k) (G K k)) r:=by
 obtain ⟨n,hn⟩:=h
 obtain ⟨m,hm⟩:=g
 exact ⟨n+m,fun K k hK hk=>by show Go.Proofs.YtgkgmhkgahalgaaGreat.Dw (F K k) (G K k)=some r; rw [hn K k (by omega) (by omega)]; exact hm K k (by omega) (by omega)⟩
theorem Ab.get {F:Nat→Option α} {r:α} (h:Ab F r):∃ K,F K=some r:=by
 obtain ⟨n,hn⟩:=h
 exact ⟨n,hn n (Nat.le_refl _)⟩
end
theorem Aj {j:Nat} (h:j<4611686018427387904):w64 ((j:Int)+1)=((j+1:Nat):Int):=by rw [E9 (by omega) (by omega)]; omega
theorem Ra {j:Nat} (h:j<4611686018427387904):w64 (j:Int)=(j:Int):=E9 (by omega) (by omega)
theorem Ho {α β:Type} (x:β) (f:β→Option α):bnd x f=f x:=rfl
theorem Ab.pos {α:Type} {p:Prop} [Decidable p] {F G:Nat→Option α} {r:α} (hp:p) (h:Ab F r):Ab (fun K=>if p then F K else G K) r:=Ab.congr (fun K=>if_pos hp) h
theorem Ab.neg {α:Type} {p:Prop} [Decidable p] {F G:Nat→Option α} {r:α} (hp:¬ p) (h:Ab G r):Ab (fun K=>if p then F K else G K) r:=Ab.congr (fun K=>if_neg hp) h
theorem Aa.pos {α:Type} {p:Prop} [Decidable p] {F G:Nat→Nat→Option α} {r:α} (hp:p) (h:Aa F r):Aa (fun K k=>if p then F K k else G K k) r:=Aa.congr (fun K k=>if_pos hp) h
theorem Aa.neg {α:Type} {p:Prop} [Decidable p] {F G:Nat→Nat→Option α} {r:α} (hp:¬ p) (h:Aa G r):Aa (fun K k=>if p then F K k else G K k) r:=Aa.congr (fun K k=>if_neg hp) h
def Mg (n:Nat) (P:Nat→Bool):Bool:=(List.range n).all P
theorem Nf {n:Nat} {P:Nat→Bool} (h:∀ j,j<n→P j=true):Mg n P=true:=by
 unfold Mg; rw [List.all_eq_true]; intro x hx; exact h x (List.mem_range.1 hx)
theorem Ua {n:Nat} {P:Nat→Bool} (h:∃ j,j<n∧P j=false):Mg n P=false:=by
 obtain ⟨j,h1,h2⟩:=h
 unfold Mg; rw [List.all_eq_false]; exact ⟨j,List.mem_range.2 h1,by rw [h2]; decide⟩
theorem Ol {n:Nat} {P:Nat→Bool} (h:Mg n P=true) {j:Nat} (hj:j<n):P j=true:=by
 unfold Mg at h; exact List.all_eq_true.1 h j (List.mem_range.2 hj)
theorem Ur {n:Nat} {P Q:Nat→Bool} (h:∀ j,j<n→P j=Q j):Mg n P=Mg n Q:=by
 cases hq:Mg n Q with
 |true=>exact Nf fun j hj=>(h j hj).trans (Ol hq hj)
 |false =>
  unfold Mg at hq; rw [List.all_eq_false] at hq
  obtain ⟨j,hj,hn⟩:=hq
  exact Ua ⟨j,List.mem_range.1 hj,by rw [h j (List.mem_range.1 hj)]; exact Bool.eq_false_iff.2 hn⟩
section
variable {α:Type} {l:Nat→Nat→Nat→Option α} {n:Nat} {P:Nat→Bool} {r:α} {N:α→Prop}
theorem Wv (go:∀ i,i<n→P i=true→∀ v,Aa (fun K k=>l K k (i+1)) v→Aa (fun K k=>l K k i) v)
  (stop:∀ i,i<n→P i=false→∃ v,N v∧Aa (fun K k=>l K k i) v) (fin:Aa (fun K k=>l K k n) r) :
  ∀ m i,n - i=m→i≤n→((∀ j,i≤j→j<n→P j=true)∧Aa (fun K k=>l K k i) r)∨((∃ j,j<n∧P j=false)∧∃ v,N v∧Aa (fun K k=>l K k i) v)
 |0,i,hm,hi=>by
  obtain rfl:i=n:=by omega
  exact .inl ⟨fun j h1 h2=>by omega,fin⟩
 |m+1,i,hm,hi=>by
  cases hp:P i with
  |false=>exact .inr ⟨⟨i,by omega,hp⟩,stop i (by omega) hp⟩
  |true =>
   rcases Wv go stop fin m (i+1) (by omega) (by omega) with ⟨h1,h2⟩|⟨h1,v,h2,h3⟩
   ·refine .inl ⟨fun j hj hlt=>?_,go i (by omega) hp _ h2⟩
    by_cases e:j=i
    ·subst e; exact hp
    ·exact h1 j (by omega) hlt
   ·exact .inr ⟨h1,v,h2,go i (by omega) hp _ h3⟩
theorem qQ (go:∀ i,i<n→P i=true→∀ v,Aa (fun K k=>l K k (i+1)) v→Aa (fun K k=>l K k i) v)
  (stop:∀ i,i<n→P i=false→∃ v,N v∧Aa (fun K k=>l K k i) v) (fin:Aa (fun K k=>l K k n) r) :
  (Mg n P=true∧Aa (fun K k=>l K k 0) r)∨(Mg n P=false∧∃ v,N v∧Aa (fun K k=>l K k 0) v):=by
 rcases Wv go stop fin n 0 (by omega) (by omega) with ⟨h1,h2⟩|⟨h1,h2⟩
 ·exact .inl ⟨Nf fun j hj=>h1 j (Nat.zero_le _) hj,h2⟩
 ·exact .inr ⟨Ua h1,h2⟩
end
theorem Ml {l:Nat→Nat→Nat→Option Bool} {n:Nat} {P:Nat→Bool} {r:Bool} (go:∀ i,i<n→P i=true→∀ v,Aa (fun K k=>l K k (i+1)) v→Aa (fun K k=>l K k i) v)
  (stop:∀ i,i<n→P i=false→Aa (fun K k=>l K k i) false) (fin:Aa (fun K k=>l K k n) r):Aa (fun K k=>l K k 0) (Mg n P && r):=by
 rcases qQ (N:=fun v=>v=false) go (fun i h1 h2=>⟨false,rfl,stop i h1 h2⟩) fin with ⟨h1,h2⟩|⟨h1,v,rfl,h2⟩
 ·rw [h1]; exact h2
 ·rw [h1]; exact h2
theorem Z5 {l:Nat→Nat→Nat→Option Int} {n:Nat} {P:Nat→Bool} (go:∀ i,i<n→P i=true→∀ v,Aa (fun K k=>l K k (i+1)) v→Aa (fun K k=>l K k i) v)
  (stop:∀ i,i<n→P i=false→Aa (fun K k=>l K k i) (i:Int)) (fin:Aa (fun K k=>l K k n) (-1)):∃ v:Int,Aa (fun K k=>l K k 0) v∧decide (0≤v)=!Mg n P:=by
 rcases qQ (N:=fun v=>0≤v) go (fun i h1 h2=>⟨(i:Int),Int.natCast_nonneg i,stop i h1 h2⟩) fin with ⟨h1,h2⟩|⟨h1,v,h3,h2⟩
 ·exact ⟨-1,h2,by rw [h1]; rfl⟩
 ·exact ⟨v,h2,by rw [h1,decide_eq_true h3]; rfl⟩
theorem Aa.of {α:Type} {F:Nat→Nat→Option α} {r:α} (h:∀ K k,F K (k+1)=some r):Aa F r:=Aa.succ (Aa.congr (G:=fun _ _=>some r) h (Aa.const _))
theorem Aa.step {α:Type} {F G:Nat→Nat→Option α} {r:α} (h:∀ K k,F K (k+1)=G K k) (g:Aa G r):Aa F r:=Aa.succ (Aa.congr h g)
theorem kS (v lo hi:Int):Kq.f v lo hi=some (decide (lo≤v∧v≤hi)):=by
 unfold Kq.f
 by_cases h:lo≤v<;>simp [h]
theorem R3 (v lo hi:Int):Fu.f v lo hi=some (decide (lo≤v∧v≤hi)):=by
 unfold Fu.f
 by_cases h:lo≤v<;>simp [h]
theorem Xb {α:Type} {l:Nat→Nat→Nat→Option α} {n:Nat} {P:Nat→Bool} {no:α} (go:∀ i,i<n→P i=true→∀ v,Aa (fun K k=>l K k (i+1)) v→Aa (fun K k=>l K k i) v)
  (stop:∀ i,i<n→P i=false→Aa (fun K k=>l K k i) no) (h:Mg n P=false):Aa (fun K k=>l K k 0) no:=by
 have main:∀ m i,n - i=m→(∃ j,i≤j∧j<n∧P j=false)→Aa (fun K k=>l K k i) no:=by
  intro m
  induction m with
  |zero=>intro i hm ⟨j,h1,h2,_⟩; omega
  |succ m ih =>
   intro i hm ⟨j,h1,h2,h3⟩
   cases hp:P i with
   |false=>exact stop i (by omega) hp
   |true=>exact go i (by omega) hp _ (ih (i+1) (by omega) ⟨j,by
     by_cases e:j=i
     ·subst e; rw [hp] at h3; cases h3
     ·omega,h2,h3⟩)
 unfold Mg at h
 rw [List.all_eq_false] at h
 obtain ⟨j,hj,hn⟩:=h
 exact main n 0 (by omega) ⟨j,Nat.zero_le _,List.mem_range.1 hj,Bool.eq_false_iff.2 hn⟩
theorem Ab.Hm {α β γ δ ε:Type} {F:Nat→Option (α × β × γ × δ)} {G:Nat→α→β→γ→δ→Option ε} {a:α} {b:β} {c:γ} {d:δ} {r:ε} (h:Ab F (a,b,c,d)) (g:Ab (fun K=>G K a b c d) r):Ab (fun K=>Go.Proofs.YtgkgmhkgahalgaaGreat.Hm (F K) (G K)) r:=by
 obtain ⟨n,hn⟩:=h
 obtain ⟨m,hm⟩:=g
 exact ⟨n+m,fun K hK=>by show Go.Proofs.YtgkgmhkgahalgaaGreat.Hm (F K) (G K)=some r; rw [hn K (by omega)]; exact hm K (by omega)⟩
theorem Aa.Hm {α β γ δ ε:Type} {F:Nat→Nat→Option (α × β × γ × δ)} {G:Nat→Nat→α→β→γ→δ→Option ε} {a:α} {b:β} {c:γ} {d:δ} {r:ε} (h:Aa F (a,b,c,d)) (g:Aa (fun K k=>G K k a b c d) r):Aa (fun K k=>Go.Proofs.YtgkgmhkgahalgaaGreat.Hm (F K k) (G K k)) r:=by
 obtain ⟨n,hn⟩:=h
 obtain ⟨m,hm⟩:=g
 exact ⟨n+m,fun K k hK hk=>by show Go.Proofs.YtgkgmhkgahalgaaGreat.Hm (F K k) (G K k)=some r; rw [hn K k (by omega) (by omega)]; exact hm K k (by omega) (by omega)⟩
theorem Ab.Kl {α β:Type} {y:Option α} {x:α} (h:y=some x) {G:Nat→α→Option β} {r:β} (g:Ab (fun K=>G K x) r):Ab (fun K=>y.bind (G K)) r:=by subst h; exact g
theorem Aa.Kl {α β:Type} {y:Option α} {x:α} (h:y=some x) {G:Nat→Nat→α→Option β} {r:β} (g:Aa (fun K k=>G K k x) r):Aa (fun K k=>y.bind (G K k)) r:=by subst h; exact g
theorem Aa.Gy {α β γ δ:Type} {F:Nat→Nat→Option (α × β × γ)} {G:Nat→Nat→α→β→γ→Option δ} {a:α} {b:β} {c:γ} {r:δ} (h:Aa F (a,b,c)) (g:Aa (fun K k=>G K k a b c) r):Aa (fun K k=>Go.Proofs.YtgkgmhkgahalgaaGreat.Gy (F K k) (G K k)) r:=by
 obtain ⟨n,hn⟩:=h
 obtain ⟨m,hm⟩:=g
 exact ⟨n+m,fun K k hK hk=>by show Go.Proofs.YtgkgmhkgahalgaaGreat.Gy (F K k) (G K k)=some r; rw [hn K k (by omega) (by omega)]; exact hm K k (by omega) (by omega)⟩
def Gu (l:List Int) (i:Nat):Bool:=(List.range i).all fun j=>l.getD j 0 != l.getD i 0
theorem Iz {l:List Int} {i:Nat}:Gu l i=true↔∀ j,j<i→l.getD j 0≠l.getD i 0:=by
 unfold Gu
 rw [List.all_eq_true]
 constructor
 ·intro h j hj
  simpa using h j (List.mem_range.2 hj)
 ·intro h j hj
  simpa using h j (List.mem_range.1 hj)
def Ce (l:List Int):Nat→Nat
 |0=>0
 |i+1=>Ce l i+(if Gu l i=true then 1 else 0)
theorem Jh (l:List Int):∀ i,Ce l i≤i
 |0=>Nat.le_refl _
 |i+1=>by
  have:=Jh l i
  rw [Ce]
  split<;>omega
def Oe (n:Nat) (s o:List Int):Prop:=∀ i j,i<n→j<n→(s.getD i 0=s.getD j 0↔o.getD i 0=o.getD j 0)
theorem Tc {n:Nat} {s o:List Int} (h:Oe n s o):∀ i,i≤n→Ce s i=Ce o i
 |0,_=>rfl
 |i+1,hi=>by
  rw [Ce,Ce,Tc h i (by omega)]
  have:Gu s i=Gu o i:=by
   rw [Bool.eq_iff_iff,Iz,Iz]
   constructor
   ·intro h1 j hj e
    exact h1 j hj ((h j i (by omega) (by omega)).2 e)
   ·intro h1 j hj e
    exact h1 j hj ((h j i (by omega) (by omega)).1 e)
  rw [this]
structure O4 (n:Nat) (o:List Int):Prop where
 len:o.length=n
 low:∀ i,i<n→0≤o.getD i 0∧o.getD i 0≤(i:Int)
 root:∀ i,i<n→o.getD (o.getD i 0).toNat 0=o.getD i 0
def Mx (p q v:Int):Int:=if v=p then q else v
theorem getD_map {f:Int→Int} {l:List Int} {i:Nat} (h:i<l.length):(l.map f).getD i 0=f (l.getD i 0):=by
 rw [List.getD_eq_getElem?_getD,List.getElem?_map,getD_some (d:=0) h]; rfl
theorem eY {p q u v:Int}:Mx p q u=Mx p q v↔(u=v∨((u=p∨u=q)∧(v=p∨v=q))):=by
 unfold Mx
 grind
theorem O4.join {n:Nat} {o:List Int} (h:O4 n o) {c e:Nat} (hc:c<n) (he:e<n) {p q:Int} (hpq:(p=o.getD c 0∧q=o.getD e 0)∨(p=o.getD e 0∧q=o.getD c 0)) (hle:q≤p):O4 n (o.map (Mx p q)):=by
 have hq:∃ d,d<n∧q=o.getD d 0:=by rcases hpq with ⟨_,h⟩|⟨_,h⟩<;>exact ⟨_,by assumption,h⟩
 obtain ⟨d,hd,hqd⟩:=hq
 have hqr:o.getD q.toNat 0=q:=by rw [hqd]; exact h.root d hd
 have hql:=h.low d hd
 have hfl:∀ i,i<n→(o.map (Mx p q)).getD i 0=Mx p q (o.getD i 0):=fun i hi=>getD_map (by rw [h.len]; exact hi)
 refine ⟨by rw [List.length_map]; exact h.len,fun i hi=>?_,fun i hi=>?_⟩
 ·have hl:=h.low i hi
  rw [hfl i hi]
  unfold Mx
  split<;>omega
 ·have hl:=h.low i hi
  have hr:=h.root i hi
  have hv:(o.getD i 0).toNat<n:=by omega
  rw [hfl i hi]
  by_cases hp:o.getD i 0=p
  ·have e1:Mx p q (o.getD i 0)=q:=by unfold Mx; rw [if_pos hp]
   rw [e1,hfl _ (by omega),hqr]
   unfold Mx
   split<;>rfl
  ·have e1:Mx p q (o.getD i 0)=o.getD i 0:=by unfold Mx; rw [if_neg hp]
   rw [e1,hfl _ hv,hr,e1]
def upto (n:Nat):List Int:=(List.range n).map fun i:Nat=>(i:Int)
theorem Nr (n:Nat):(upto n).length=n:=by simp [upto]
theorem Pq {n i:Nat} (h:i<n):(upto n).getD i 0=(i:Int):=by
 unfold upto
 rw [List.getD_eq_getElem?_getD,List.getElem?_map,List.getElem?_range h]; rfl
theorem Wy (n:Nat):upto (n+1)=upto n++[(n:Int)]:=by unfold upto; rw [List.range_succ,List.map_append]; rfl
theorem aY (n:Nat):O4 n (upto n):=⟨Nr n,fun i hi=>by rw [Pq hi]; omega,fun i hi=>by rw [Pq hi,Int.toNat_natCast,Pq hi]⟩
theorem V7 {l l':List Int} {f:Int→Int} {j:Nat} (hl:l'.length=l.length) (h1:∀ i,i<j→l'[i]?=(l.map f)[i]?) (hj:l.length≤j):l'=l.map f:=by
 apply List.ext_getElem?
 intro i
 by_cases hi:i<j
 ·exact h1 i hi
 ·rw [List.getElem?_eq_none (by omega),List.getElem?_eq_none (by rw [List.length_map]; omega)]
theorem V9 {l l':List Int} {p q:Int} {j:Nat} (hl:l'.length=l.length) (hj:j<l.length) (h1:∀ i,i<j→l'[i]?=(l.map (Mx p q))[i]?) (h2:∀ i,j≤i→l'[i]?=l[i]?) (d:Bool) (hd:d=decide (l'.getD j 0=p)) :
  ((bif d then l'.set j q else l').length=l.length)∧(∀ i,i<j+1→(bif d then l'.set j q else l')[i]?=(l.map (Mx p q))[i]?)∧(∀ i,j+1≤i→(bif d then l'.set j q else l')[i]?=l[i]?):=by
 have hg:l'.getD j 0=l.getD j 0:=by rw [List.getD_eq_getElem?_getD,h2 j (Nat.le_refl _),← List.getD_eq_getElem?_getD]
 have hs:=getD_some (d:=0) hj
 cases d with
 |true =>
  have hp:l.getD j 0=p:=by rw [← hg]; exact of_decide_eq_true hd.symm
  refine ⟨by show (l'.set j q).length=_; rw [List.length_set]; exact hl,fun i hi=>?_,fun i hi=>?_⟩
  ·show (l'.set j q)[i]?=_
   by_cases he:j=i
   ·subst he
    rw [List.getElem?_set_self (by omega),List.getElem?_map,hs,hp]
    show _=some (Mx p q p)
    unfold Mx
    rw [if_pos rfl]
   ·rw [List.getElem?_set_ne he]; exact h1 i (by omega)
  ·show (l'.set j q)[i]?=_
   rw [List.getElem?_set_ne (by omega)]; exact h2 i (by omega)
 |false =>
  have hp:l.getD j 0≠p:=by rw [← hg]; exact of_decide_eq_false hd.symm
  refine ⟨hl,fun i hi=>?_,fun i hi=>h2 i (by omega)⟩
  show l'[i]?=_
  by_cases he:j=i
  ·subst he
   rw [h2 j (Nat.le_refl _),List.getElem?_map,hs]
   show _=some (Mx p q _)
   unfold Mx
   rw [if_neg hp]
  ·exact h1 i (by omega)
structure Hq (n:Nat) (J:List (Nat × Nat)) (s:List Int):Prop where
 len:s.length=n
 inn:∀ p,p∈J→p.1<n∧p.2<n
 one:∀ p,p∈J→s.getD p.1 0=s.getD p.2 0
 min:∀ Q:Nat→Prop,(∀ p,p∈J→(Q p.1↔Q p.2))→∀ i j,i<n→j<n→s.getD i 0=s.getD j 0→(Q i↔Q j)
theorem Nq (n:Nat):Hq n [] (upto n):=by
 refine ⟨Nr n,fun p h=>(List.not_mem_nil h).elim,fun p h=>(List.not_mem_nil h).elim,fun Q _ i j hi hj h=>?_⟩
 rw [Pq hi,Pq hj] at h
 have:i=j:=by omega
 rw [this]
structure Ms (n:Nat) (s c:List Int):Prop where
 len:c.length=n
 first:∀ i,i<n→Gu s i=true→c.getD i 0=(Ce s i:Int)
 same:∀ i j,i<n→j<n→s.getD i 0=s.getD j 0→c.getD i 0=c.getD j 0
theorem Rb (s:List Int):∀ i:Nat,∃ j,j≤i∧Gu s j=true∧s.getD j 0=s.getD i 0:=by
 intro i
 induction i using Nat.strongRecOn with
 |_ i ih =>
  cases hf:Gu s i with
  |true=>exact ⟨i,Nat.le_refl _,hf,rfl⟩
  |false =>
   have:¬ ∀ j,j<i→s.getD j 0≠s.getD i 0:=fun h=>by rw [Iz.2 h] at hf; cases hf
   obtain ⟨j,hj⟩:=Classical.not_forall.1 this
   obtain ⟨hj1,hj2⟩:=Classical.not_imp.1 hj
   obtain ⟨k,h1,h2,h3⟩:=ih j hj1
   exact ⟨k,by omega,h2,h3.trans (Classical.not_not.1 hj2)⟩
theorem Mt (s:List Int):∀ {i j:Nat},i≤j→Ce s i≤Ce s j
 |i,0,h=>by rw [Nat.le_zero.1 h]; exact Nat.le_refl _
 |i,j+1,h=>by
  rcases Nat.lt_or_eq_of_le h with h | h
  ·have:=Mt s (Nat.le_of_lt_succ h)
   rw [Ce]; omega
  ·rw [h]; exact Nat.le_refl _
theorem Mf {s:List Int} {i j:Nat} (hf:Gu s i=true) (h:i<j):Ce s i<Ce s j:=by
 have h1:=Mt s (show i+1≤j from h)
 rw [Ce,if_pos hf] at h1
 omega
theorem aQ {s:List Int} {i j:Nat} (hi:Gu s i=true) (hj:Gu s j=true) (h:Ce s i=Ce s j):i=j:=by
 rcases Nat.lt_trichotomy i j with h1 | h1 | h1
 ·have:=Mf hi h1; omega
 ·exact h1
 ·have:=Mf hj h1; omega
theorem Ms.at_ {n:Nat} {s c:List Int} (h:Ms n s c) {i:Nat} (hi:i<n):∃ j,j≤i∧Gu s j=true∧s.getD j 0=s.getD i 0∧c.getD i 0=(Ce s j:Int):=by
 obtain ⟨j,h1,h2,h3⟩:=Rb s i
 exact ⟨j,h1,h2,h3,by rw [← h.first j (by omega) h2]; exact h.same i j hi (by omega) h3.symm⟩
theorem Ms.uniq {n:Nat} {s c c':List Int} (h:Ms n s c) (h':Ms n s c'):c=c':=by
 apply List.ext_getElem?
 intro i
 by_cases hi:i<n
 ·rw [getD_some (d:=0) (by rw [h.len]; exact hi),getD_some (d:=0) (by rw [h'.len]; exact hi)]
  obtain ⟨j,h1,h2,h3,h4⟩:=h.at_ hi
  rw [h4,← h'.first j (by omega) h2,h'.same j i (by omega) hi h3]
 ·rw [List.getElem?_eq_none (by rw [h.len]; omega),List.getElem?_eq_none (by rw [h'.len]; omega)]
theorem Ms.range {n:Nat} {s c:List Int} (h:Ms n s c) {i:Nat} (hi:i<n):0≤c.getD i 0∧c.getD i 0<(Ce s n:Int):=by
 obtain ⟨j,h1,h2,h3,h4⟩:=h.at_ hi
 have:=Mf h2 (show j<n by omega)
 omega
theorem Ms.inj {n:Nat} {s c:List Int} (h:Ms n s c) {i j:Nat} (hi:i<n) (hj:j<n) (e:c.getD i 0=c.getD j 0):s.getD i 0=s.getD j 0:=by
 obtain ⟨a,h1,h2,h3,h4⟩:=h.at_ hi
 obtain ⟨b,g1,g2,g3,g4⟩:=h.at_ hj
 have:a=b:=aQ h2 g2 (by omega)
 rw [← h3,← g3,this]
theorem Ms.iff {n:Nat} {s c:List Int} (h:Ms n s c) {i j:Nat} (hi:i<n) (hj:j<n):c.getD i 0=c.getD j 0↔s.getD i 0=s.getD j 0:=⟨h.inj hi hj,h.same i j hi hj⟩
theorem Ms.onto {n:Nat} {s c:List Int} (h:Ms n s c):∀ {m:Nat},m≤n→∀ {v:Nat},v<Ce s m→∃ i,i<m∧Gu s i=true∧c.getD i 0=(v:Int)
 |0,_,v,hv=>by cases hv
 |m+1,hm,v,hv=>by
  rw [Ce] at hv
  by_cases h1:v<Ce s m
  ·obtain ⟨i,g1,g2⟩:=h.onto (Nat.le_of_succ_le hm) h1
   exact ⟨i,by omega,g2⟩
  ·by_cases hf:Gu s m=true
   ·rw [if_pos hf] at hv
    exact ⟨m,Nat.lt_succ_self _,hf,by rw [h.first m hm hf]; omega⟩
   ·rw [if_neg hf] at hv; omega
theorem Xn {n:Nat} {s o:List Int} (h:Oe n s o) {i:Nat} (hi:i<n):Gu s i=Gu o i:=by
 rw [Bool.eq_iff_iff,Iz,Iz]
 constructor
 ·intro h1 j hj e; exact h1 j hj ((h j i (by omega) hi).2 e)
 ·intro h1 j hj e; exact h1 j hj ((h j i (by omega) hi).1 e)
theorem Ms.congr {n:Nat} {s o c:List Int} (h:Ms n s c) (hs:Oe n s o):Ms n o c :=
 ⟨h.len,fun i hi hf=>by rw [← Tc hs i (by omega)]; exact h.first i hi (by rw [Xn hs hi]; exact hf),fun i j hi hj e=>h.same i j hi hj ((hs i j hi hj).2 e)⟩
theorem Hq.same {n:Nat} {J:List (Nat × Nat)} {s o:List Int} (h:Hq n J s) (g:Hq n J o):Oe n s o:=fun i j hi hj=>by
 constructor
 ·intro e
  exact ((h.min (fun x=>o.getD x 0=o.getD j 0) (fun p hp=>by rw [g.one p hp]) i j hi hj e).2 rfl)
 ·intro e
  exact ((g.min (fun x=>s.getD x 0=s.getD j 0) (fun p hp=>by rw [h.one p hp]) i j hi hj e).2 rfl)
end Go.Proofs.YtgkgmhkgahalgaaGreat
set_option maxRecDepth 100000
set_option maxHeartbeats 40000000
namespace Go.Proofs.YtgkgmhkgahalgaaGreat
open Go.RowKit
def X7:List (List Nat):=[[0,1,2,3],[0,1,3,2],[0,2,1,3],[0,2,3,1],[0,3,1,2],[0,3,2,1],[1,0,2,3],[1,0,3,2],[1,2,0,3],[1,2,3,0],[1,3,0,2],[1,3,2,0],[2,0,1,3],[2,0,3,1],[2,1,0,3],[2,1,3,0],[2,3,0,1],[2,3,1,0],[3,0,1,2],[3,0,2,1],[3,1,0,2],[3,1,2,0],[3,2,0,1],[3,2,1,0]]
def PA (p k:Nat):Nat:=(X7.getD p []).getD k 0
def PX (a b c d:Nat):Nat:=X7.idxOf [a,b,c,d]
def PB (p k:Nat):Nat:=(X7.getD p []).idxOf k
def PI (p:Nat):Nat:=PX (PB p 0) (PB p 1) (PB p 2) (PB p 3)
def EA (e:Nat):Nat:=[0,0,0,1,1,2].getD e 0
def EB (e:Nat):Nat:=[1,2,3,2,3,3].getD e 0
def EE (a b:Nat):Nat:=[[9,0,1,2],[0,9,3,4],[1,3,9,5],[2,4,5,9]].getD a [] |>.getD b 0
def OT (l:List Nat):List Nat:=[0,1,2,3].filter fun k=>!l.contains k
def ints (l:List Nat):List Int:=l.map fun n:Nat=>(n:Int)
theorem tab {α:Type} {F:Nat→Nat→Option α} {g:Nat→α} {n m:Nat} (h:(fun K=>(List.range n).map (F (K+m)))=fun _=>(List.range n).map fun i=>some (g i)) {i:Nat} (hi:i<n):Ab (fun K=>F K i) (g i):=⟨m,fun K hK=>by
 obtain ⟨k,rfl⟩:∃ k,K=k+m:=⟨K - m,by omega⟩
 have h1:=congrArg (fun l=>l[i]?) (congrFun h k)
 simp only [List.getElem?_map,List.getElem?_range hi,Option.map_some,Option.some.injEq] at h1
 exact h1⟩
theorem Aao {α:Type} {F:Nat→Nat→Nat→Option α} {g:Nat→Nat→α} {a b m:Nat} (h:(fun K=>(List.range (a*b)).map fun i=>F (K+m) (i/b) (i%b))=fun _=>(List.range (a*b)).map fun i=>some (g (i/b) (i%b))) {i j:Nat} (hi:i<a) (hj:j<b):Ab (fun K=>F K i j) (g i j):=by
 have hb:0<b:=by omega
 have h1:(i*b+j)/b=i:=by rw [Nat.add_comm,Nat.add_mul_div_right _ _ hb,Nat.div_eq_of_lt hj,Nat.zero_add]
 have h2:(i*b+j)%b=j:=by rw [Nat.add_comm,Nat.add_mul_mod_self_right,Nat.mod_eq_of_lt hj]
 have h3:i*b+j<a*b:=by
  have:(i+1)*b≤a*b:=Nat.mul_le_mul_right _ hi
  rw [Nat.succ_mul] at this
  omega
 have:=tab (F:=fun K i=>F K (i/b) (i%b)) (g:=fun i=>g (i/b) (i%b)) h h3
 simp only [h1,h2] at this
 exact this
theorem H9 {p k:Nat} (hp:p<24) (hk:k<4):PA p k<4:=by
 have:∀ p,p<24→∀ k,k<4→PA p k<4:=by decide +kernel
 exact this p hp k hk
theorem U6 {p j k:Nat} (hp:p<24) (hj:j<4) (hk:k<4) (h:PA p j=PA p k):j=k:=by
 have:∀ p,p<24→∀ j,j<4→∀ k,k<4→PA p j=PA p k→j=k:=by decide +kernel
 exact this p hp j hj k hk h
theorem qP {p:Nat} (hp:p<24):PI p<24:=by
 have:∀ p,p<24→PI p<24:=by decide +kernel
 exact this p hp
theorem Va {p k:Nat} (hp:p<24) (hk:k<4):PA (PI p) (PA p k)=k:=by
 have:∀ p,p<24→∀ k,k<4→PA (PI p) (PA p k)=k:=by decide +kernel
 exact this p hp k hk
theorem mJ {p:Nat} (hp:p<24):PI (PI p)=p:=by
 have:∀ p,p<24→PI (PI p)=p:=by decide +kernel
 exact this p hp
theorem uC {p q:Nat} (hp:p<24) (hq:q<24) (h:∀ k,k<4→PA p k=PA q k):p=q:=by
 have:∀ p,p<24→∀ q,q<24→(∀ k,k<4→PA p k=PA q k)→p=q:=by decide +kernel
 exact this p hp q hq h
theorem nC {a b c d:Nat} (ha:a<4) (hb:b<4) (hc:c<4) (hd:d<4) (h:a≠b∧a≠c∧a≠d∧b≠c∧b≠d∧c≠d):PX a b c d<24∧PA (PX a b c d) 0=a∧PA (PX a b c d) 1=b∧PA (PX a b c d) 2=c∧PA (PX a b c d) 3=d:=by
 have key:∀ i,i<256→(i/64≠i/16%4∧i/64≠i/4%4∧i/64≠i%4∧i/16%4≠i/4%4∧i/16%4≠i%4∧i/4%4≠i%4) →
  PX (i/64) (i/16%4) (i/4%4) (i%4)<24∧PA (PX (i/64) (i/16%4) (i/4%4) (i%4)) 0=i/64∧PA (PX (i/64) (i/16%4) (i/4%4) (i%4)) 1=i/16%4∧PA (PX (i/64) (i/16%4) (i/4%4) (i%4)) 2=i/4%4∧PA (PX (i/64) (i/16%4) (i/4%4) (i%4)) 3=i%4:=by decide +kernel
 have e1:(a*64+b*16+c*4+d)/64=a:=by omega
 have e2:(a*64+b*16+c*4+d)/16%4=b:=by omega
 have e3:(a*64+b*16+c*4+d)/4%4=c:=by omega
 have e4:(a*64+b*16+c*4+d)%4=d:=by omega
 have:=key (a*64+b*16+c*4+d) (by omega)
 rw [e1,e2,e3,e4] at this
 exact this h
theorem EAB {e:Nat} (he:e<6):EA e<EB e∧EB e<4∧EE (EA e) (EB e)=e:=by
 have:∀ e,e<6→EA e<EB e∧EB e<4∧EE (EA e) (EB e)=e:=by decide +kernel
 exact this e he
theorem Wn {a b:Nat} (ha:a<4) (hb:b<4) (h:a≠b):EE a b<6∧EA (EE a b)=min a b∧EB (EE a b)=max a b:=by
 have:∀ a,a<4→∀ b,b<4→a≠b→EE a b<6∧EA (EE a b)=min a b∧EB (EE a b)=max a b:=by decide +kernel
 exact this a ha b hb h
theorem dC {a b:Nat} (ha:a<4) (hb:b<4):EE a b=EE b a:=by
 have:∀ a,a<4→∀ b,b<4→EE a b=EE b a:=by decide +kernel
 exact this a ha b hb
theorem Pt {p:Nat} (hp:p<24):Ab (fun K=>Ej.f K (p:Int)) ((PA p 0:Int),(PA p 1:Int),(PA p 2:Int),(PA p 3:Int)) :=
 tab (F:=fun K p=>Ej.f K (p:Int)) (g:=fun p=>((PA p 0:Int),(PA p 1:Int),(PA p 2:Int),(PA p 3:Int))) (m:=40) (n:=24) (by kernel_rfl) hp
theorem Py {p k:Nat} (hp:p<24) (hk:k<4):Ab (fun K=>Ct.f K (p:Int) (k:Int)) (PA p k:Int) :=
 Aao (F:=fun K p k=>Ct.f K (p:Int) (k:Int)) (g:=fun p k=>(PA p k:Int)) (m:=40) (a:=24) (b:=4) (by kernel_rfl) hp hk
theorem Zw {p k:Nat} (t:Int) (hp:p<24) (hk:k<4):Ab (fun K=>G7.f K t (p:Int) (k:Int)) (PA p k:Int):=by
 refine Ab.Hm (Pt hp) (Ab.pos (by omega) ?_)
 have:([(PA p 0:Int),(PA p 1:Int),(PA p 2:Int),(PA p 3:Int)]:List Int).getD (k:Int).toNat 0=(PA p k:Int):=by
  rw [Int.toNat_natCast]
  have:k=0∨k=1∨k=2∨k=3:=by omega
  rcases this with rfl | rfl | rfl | rfl<;>rfl
 rw [this]
 exact Ab.const _
theorem vJ {p:Nat} (hp:p<24):Ab (fun K=>Gv.f K (p:Int)) (PI p:Int) :=
 tab (F:=fun K p=>Gv.f K (p:Int)) (g:=fun p=>(PI p:Int)) (m:=40) (n:=24) (by kernel_rfl) hp
theorem iC {p:Nat} (hp:p<24):Ab (fun K=>Io.f K (p:Int)) (PI p:Int) :=
 tab (F:=fun K p=>Io.f K (p:Int)) (g:=fun p=>(PI p:Int)) (m:=40) (n:=24) (by kernel_rfl) hp
theorem fC {p:Nat} (hp:p<24):Ab (fun K=>Dz.f K (PA p 0:Int) (PA p 1:Int) (PA p 2:Int) (PA p 3:Int)) (p:Int) :=
 tab (F:=fun K p=>Dz.f K (PA p 0:Int) (PA p 1:Int) (PA p 2:Int) (PA p 3:Int)) (g:=fun p=>(p:Int)) (m:=40) (n:=24) (by kernel_rfl) hp
theorem oK {p:Nat} (hp:p<24):Ab (fun K=>D7.f K [(PA p 0:Int),(PA p 1:Int),(PA p 2:Int),(PA p 3:Int)]) (p:Int) :=
 tab (F:=fun K p=>D7.f K [(PA p 0:Int),(PA p 1:Int),(PA p 2:Int),(PA p 3:Int)]) (g:=fun p=>(p:Int)) (m:=40) (n:=24) (by kernel_rfl) hp
theorem yI {a b c d:Int} {k:Nat} {f:Nat→Nat} (h0:a=(f 0:Int)) (h1:b=(f 1:Int)) (h2:c=(f 2:Int)) (h3:d=(f 3:Int)) (hk:k<4):([a,b,c,d]:List Int).getD k 0=(f k:Int):=by
 have:k=0∨k=1∨k=2∨k=3:=by omega
 rcases this with rfl | rfl | rfl | rfl
 ·exact h0
 ·exact h1
 ·exact h2
 ·exact h3
theorem Xk {e:Nat} (he:e<6):Ab (fun K=>Gw.f K (e:Int)) ((EA e:Int),(EB e:Int)) :=
 tab (F:=fun K e=>Gw.f K (e:Int)) (g:=fun e=>((EA e:Int),(EB e:Int))) (m:=20) (n:=6) (by kernel_rfl) he
theorem P7 {e:Nat} (he:e<6):Ha.f (e:Int)=some ((EA e:Int),(EB e:Int)):=by
 have:e=0∨e=1∨e=2∨e=3∨e=4∨e=5:=by omega
 rcases this with rfl | rfl | rfl | rfl | rfl | rfl<;>rfl
def Mo:List (Nat × Nat):=[(0,1),(0,2),(0,3),(1,0),(1,2),(1,3),(2,0),(2,1),(2,3),(3,0),(3,1),(3,2)]
theorem Yu {a b:Nat} (ha:a<4) (hb:b<4) (h:a≠b):∃ i,i<12∧Mo.getD i (0,0)=(a,b):=by
 have:∀ a,a<4→∀ b,b<4→a≠b→∃ i,i<12∧Mo.getD i (0,0)=(a,b):=by decide +kernel
 exact this a ha b hb h
theorem uM {α:Type} {F:Nat→Nat→Nat→Option α} {g:Nat→Nat→α} {m:Nat} (h:(fun K=>(List.range 12).map fun i=>F (K+m) (Mo.getD i (0,0)).1 (Mo.getD i (0,0)).2)=fun _=>(List.range 12).map fun i=>some (g (Mo.getD i (0,0)).1 (Mo.getD i (0,0)).2)) {a b:Nat} (ha:a<4) (hb:b<4) (hab:a≠b):Ab (fun K=>F K a b) (g a b):=by
 obtain ⟨i,hi,he⟩:=Yu ha hb hab
 have:=tab (F:=fun K i=>F K (Mo.getD i (0,0)).1 (Mo.getD i (0,0)).2) (g:=fun i=>g (Mo.getD i (0,0)).1 (Mo.getD i (0,0)).2) h hi
 simp only [he] at this
 exact this
theorem iI {a b:Nat} (ha:a<4) (hb:b<4) (hab:a≠b):Ab (fun K=>Ih.f K (a:Int) (b:Int)) (EE a b:Int) :=
 uM (F:=fun K a b=>Ih.f K (a:Int) (b:Int)) (g:=fun a b=>(EE a b:Int)) (m:=20) (by kernel_rfl) ha hb hab
theorem X3 {a b:Nat} (ha:a<4) (hb:b<4) (hab:a≠b):Ab (fun K=>E8.f K (a:Int) (b:Int)) (EE a b:Int) :=
 uM (F:=fun K a b=>E8.f K (a:Int) (b:Int)) (g:=fun a b=>(EE a b:Int)) (m:=20) (by kernel_rfl) ha hb hab
theorem Wl {a b:Nat} (ha:a<4) (hb:b<4) (hab:a≠b):Ab (fun K=>Ic.f K [(a:Int),(b:Int)]) (ints (OT [a,b])) :=
 uM (F:=fun K a b=>Ic.f K [(a:Int),(b:Int)]) (g:=fun a b=>ints (OT [a,b])) (m:=30) (by kernel_rfl) ha hb hab
def Fg (ts:List (List Am)) (a f:Nat):Am:=(ts.getD a []).getD f Eo
def O5 (ts:List (List Am)) (a f b p:Nat):Prop:=b<ts.length∧p<24∧Fg ts a f=⟨b,p⟩∧Fg ts b (PA p f)=⟨a,PI p⟩∧¬ (b=a∧PA p f=f)
def Xo (ts:List (List Am)) (a f:Nat):Prop:=Fg ts a f=⟨-1,0⟩
structure Val (ts:List (List Am)):Prop where
 le:ts.length≤8
 four:∀ a,a<ts.length→(ts.getD a []).length=4
 ok:∀ a f,a<ts.length→f<4→Xo ts a f∨∃ b p,O5 ts a f b p
theorem valid_eq (p:Int):Jv.f p=some (decide (0≤p∧p≤23)):=by
 unfold Jv.f
 by_cases h:0≤p
 ·rw [if_pos h]; congr 1; apply decide_eq_decide.2; omega
 ·rw [if_neg h,decide_eq_false (by omega)]
section
variable {ts:List (List Am)} (h8:ts.length≤8) (h4:∀ i,i<ts.length→(ts.getD i []).length=4)
include h8 h4
theorem Xq (v:Int):Ez.f ts v=some (decide (0≤v∧v≤(ts.length:Int) - 1)):=by
 unfold Ez.f Dq.f
 rw [Option.bind_some,R3,Option.bind_some,E9 (by omega) (by omega)]
theorem Wz {a f:Nat} (ha:a<ts.length) (hf:f<4):∃ b,(b=true→Xo ts a f∨∃ b p,O5 ts a f b p)∧Ab (fun K=>Eg.f K ts (a:Int) (f:Int)) b ∧
    (b=true→∀ v,Aa (fun K k=>Af.l37 K k ts (a:Int) ((f+1:Nat):Int)) v→Aa (fun K k=>Af.l37 K k ts (a:Int) (f:Int)) v) ∧
    (b=false→Aa (fun K k=>Af.l37 K k ts (a:Int) (f:Int)) false)∧((Xo ts a f∨∃ b p,O5 ts a f b p)→b=true):=by
  have hr:=h4 a ha
  generalize hx:(ts.getD a []).getD f Eo=x
  have enter:∀ (c:Bool) (v:Bool),(x.Tet = -1→c=decide (x.Perm=0))→(x.Tet≠-1→c=false)→Aa (fun K k=>Af.j40 K k ts (a:Int) (f:Int) x c) v→Aa (fun K k=>Af.l37 K k ts (a:Int) (f:Int)) v:=fun c v c1 c2 h=>by
    refine Aa.step (fun K k=>?_) h
    rw [Af.l37,if_pos (by omega),if_pos (by omega),Int.toNat_natCast,if_pos (by omega),Int.toNat_natCast,hx,Ho]
    by_cases ht:x.Tet = -1
    · rw [if_pos ht,← c1 ht]
    · rw [if_neg ht,c2 ht]
  have no:∀ c:Bool,(c=true→False)→(0≤x.Tet∧x.Tet≤(ts.length:Int) - 1→0≤x.Perm∧x.Perm≤23→False)→Aa (fun K k=>Af.j40 K k ts (a:Int) (f:Int) x c) false:=fun c hc h=>by
    refine Aa.of fun K k=>?_
    rw [Af.j40,if_neg (fun e=>hc e),Dn.f,Option.bind_some,kS,Option.bind_some,E9 (by omega) (by omega)]
    by_cases h1:0≤x.Tet∧x.Tet≤(ts.length:Int) - 1
    · rw [decide_eq_true h1,if_pos rfl,valid_eq,Option.bind_some,if_neg (by rw [decide_eq_true_eq]; exact h h1)]
    · rw [decide_eq_false h1,if_neg (by decide)]
  have impl0:∀ b:Bool,Ab (fun K=>if x.Tet=(-1) then (some (decide (x.Perm=0))) else ((Ez.f ts x.Tet).bind fun t20=>(if t20=true then ((Kb.f x.Perm).bind fun t25=>(if t25=true then ((G7.f K x.Tet x.Perm f).bind fun t30=>(if 0≤x.Tet∧x.Tet<(ts.length:Int) then (if 0≤t30∧t30<((ts.getD x.Tet.toNat []).length:Int) then (bnd ((ts.getD x.Tet.toNat []).getD t30.toNat Eo) (fun e36=>Dw (Hf.f K x.Tet x.Perm a) (fun t38 t39=>(if (e36.Tet,e36.Perm)=(t38,t39) then (if x.Tet=(a:Int) then (some (!(decide (t30=f)))) else (some true)) else (some false))))) else none) else none)) else (some false))) else (some false)))) b→Ab (fun K=>Eg.f K ts (a:Int) (f:Int)) b:=fun b h=>by
    refine Ab.congr (fun K=>?_) h
    rw [Eg.f,if_pos (by omega),Int.toNat_natCast,if_pos (by omega),Int.toNat_natCast,hx,Ho]
  have conv:∀ b:Bool,(x=⟨-1,0⟩→b=true)→(∀ u q:Nat,u<ts.length→q<24→x=⟨u,q⟩→Fg ts u (PA q f)=⟨a,PI q⟩→¬ (u=a∧PA q f=f)→b=true)→(Xo ts a f∨∃ b p,O5 ts a f b p)→b=true:=fun b q1 q2 h=>by
    rcases h with h | ⟨u,q,g1,g2,g3,g4,g5⟩
    · exact q1 (hx.symm.trans h)
    · exact q2 u q g1 g2 (hx.symm.trans g3) g4 g5
  by_cases ht:x.Tet = -1
  · refine ⟨decide (x.Perm=0),fun hb=>.inl (by unfold Xo Fg; rw [hx]; cases x; simp only at ht; simp only [decide_eq_true_eq] at hb; rw [ht,hb]),impl0 _ (Ab.pos ht (Ab.const _)),fun hb v hv=>?_,fun hb=>?_,conv _ (fun e=>by rw [e]; rfl) (fun u q _ _ e=>by rw [e] at ht; have ht:(u:Int) = -1:=ht; omega)⟩
    · refine enter true v (fun _=>hb.symm) (fun h=>absurd ht h) (Aa.step (fun K k=>?_) hv)
      rw [Af.j40,if_pos rfl,Aj (by omega)]
    · exact enter false false (fun _=>hb.symm) (fun h=>absurd ht h) (no false (by decide) (fun h=>by omega))
  · by_cases h1:0≤x.Tet∧x.Tet≤(ts.length:Int) - 1
    rotate_left
    · refine ⟨false,(fun h=>by cases h),impl0 _ (Ab.neg ht ?_),(fun h=>by cases h),fun _=>enter false false (fun h=>absurd h ht) (fun _=>rfl) (no false (by decide) (fun h=>absurd h h1)),conv _ (fun e=>absurd (by rw [e]) ht) (fun u q hu _ e=>absurd (by rw [e]; show 0≤(u:Int)∧(u:Int)≤(ts.length:Int) - 1; omega) h1)⟩
      rw [Xq h8 h4,decide_eq_false h1]; exact Ab.const _
    by_cases h2:0≤x.Perm∧x.Perm≤23
    rotate_left
    · refine ⟨false,(fun h=>by cases h),impl0 _ (Ab.neg ht ?_),(fun h=>by cases h),fun _=>enter false false (fun h=>absurd h ht) (fun _=>rfl) (no false (by decide) (fun _ h=>absurd h h2)),conv _ (fun e=>absurd (by rw [e]) ht) (fun u q _ hq e=>absurd (by rw [e]; show 0≤(q:Int)∧(q:Int)≤23; omega) h2)⟩
      rw [Xq h8 h4,decide_eq_true h1]
      refine Ab.bind (Ab.const true) (Ab.pos rfl ?_)
      unfold Kb.f
      rw [R3,decide_eq_false h2]; exact Ab.const _
    obtain ⟨u,hu⟩:∃ u:Nat,x.Tet=u:=⟨x.Tet.toNat,by omega⟩
    obtain ⟨q,hq⟩:∃ q:Nat,x.Perm=q:=⟨x.Perm.toNat,by omega⟩
    have hq24:q<24:=by omega
    have hs:=H9 hq24 hf
    have h4u:=h4 u (by omega)
    have tA:Ab (fun K=>Ct.f K x.Perm (f:Int)) ((PA q f:Int)):=by rw [hq]; exact Py hq24 hf
    have tB:Ab (fun K=>Gv.f K x.Perm) ((PI q:Int)):=by rw [hq]; exact vJ hq24
    have iA:Ab (fun K=>G7.f K x.Tet x.Perm (f:Int)) ((PA q f:Int)):=by rw [hq]; exact Zw _ hq24 hf
    have iB:Ab (fun K=>Hf.f K x.Tet x.Perm (a:Int)) ((a:Int),(PI q:Int)):=by
      rw [hq]; exact Ab.bind (iC hq24) (Ab.const _)
    generalize hy:(ts.getD x.Tet.toNat []).getD (((PA q f:Nat):Int)).toNat Eo=y
    have hut:(ts.getD x.Tet.toNat []).length=4:=by rw [hu,Int.toNat_natCast]; exact h4u
    let c:Bool:=decide ((y.Tet,y.Perm)=((a:Int),(PI q:Int))) && !(decide (x.Tet=(a:Int)) && decide ((PA q f:Int)=(f:Int)))
    have hspec:∀ v r:Bool,(c=true→Aa (fun K k=>Af.l37 K k ts (a:Int) ((f+1:Nat):Int)) v∧r=v)→(c=false→r=false)→Aa (fun K k=>Af.j40 K k ts (a:Int) (f:Int) x false) r:=fun v r g1 g2=>by
      refine Aa.step (G:=fun K k=>(Ct.f K x.Perm (f:Int)).bind fun t1613=>(Gv.f K x.Perm).bind fun t1617=>(if 0≤x.Tet∧x.Tet<(ts.length:Int) then (if 0≤t1613∧t1613<((ts.getD x.Tet.toNat []).length:Int) then (bnd ((ts.getD x.Tet.toNat []).getD t1613.toNat Eo) (fun e1626=>if (e1626.Tet,e1626.Perm)=((a:Int),t1617) then (if x.Tet=(a:Int) then (if t1613=(f:Int) then (some false) else (Af.l37 K k ts (a:Int) (w64 ((f:Int)+1)))) else (Af.l37 K k ts (a:Int) (w64 ((f:Int)+1)))) else (some false))) else none) else none)) (fun K k=>?_) ?_
      · rw [Af.j40,if_neg (by decide),Dn.f,Option.bind_some,kS,Option.bind_some,E9 (by omega) (by omega),decide_eq_true h1,if_pos rfl,valid_eq,Option.bind_some,decide_eq_true h2,if_pos rfl]
      · refine Aa.bind tA.two (Aa.bind tB.two (Aa.pos (by omega) (Aa.pos (by rw [hut]; omega) ?_)))
        rw [hy]
        simp only [Ho,Aj (show f<4611686018427387904 by omega)]
        by_cases e1:(y.Tet,y.Perm)=((a:Int),(PI q:Int))
        · refine Aa.pos e1 ?_
          by_cases e2:x.Tet=(a:Int)
          · by_cases e3:(PA q f:Int)=(f:Int)
            · have:c=false:=by show (_ && _)=false; rw [decide_eq_true e1,decide_eq_true e2,decide_eq_true e3]; rfl
              rw [g2 this]; exact Aa.pos e2 (Aa.pos e3 (Aa.const _))
            · have:c=true:=by show (_ && _)=true; rw [decide_eq_true e1,decide_eq_true e2,decide_eq_false e3]; rfl
              rw [(g1 this).2]; exact Aa.pos e2 (Aa.neg e3 (g1 this).1)
          · have:c=true:=by show (_ && _)=true; rw [decide_eq_true e1,decide_eq_false e2]; rfl
            rw [(g1 this).2]; exact Aa.neg e2 (g1 this).1
        · have:c=false:=by show (_ && _)=false; rw [decide_eq_false e1]; rfl
          rw [g2 this]; exact Aa.neg e1 (Aa.const _)
    have hgood:c=true→Xo ts a f∨∃ b p,O5 ts a f b p:=fun hc=>by
      have hc':=hc
      simp only [c,Bool.and_eq_true,Bool.not_eq_true',Bool.and_eq_false_iff,decide_eq_true_eq,decide_eq_false_iff_not] at hc'
      obtain ⟨h5,h6⟩:=hc'
      refine .inr ⟨u,q,by omega,hq24,?_,?_,?_⟩
      · unfold Fg; rw [hx,← hu,← hq]
      · unfold Fg; rw [hu,Int.toNat_natCast,Int.toNat_natCast] at hy; rw [hy]; cases y; simp only [Prod.mk.injEq] at h5; rw [h5.1,h5.2]
      · rintro ⟨h7,h8⟩; rcases h6 with h6 | h6<;>omega
    refine ⟨c,hgood,impl0 _ (Ab.neg ht ?_),fun hb v hv=>enter false v (fun h=>absurd h ht) (fun _=>rfl) (hspec v v (fun _=>⟨hv,rfl⟩) (fun h=>by rw [hb] at h; cases h)),fun hb=>enter false false (fun h=>absurd h ht) (fun _=>rfl) (hspec false false (fun h=>by rw [hb] at h; cases h) (fun _=>rfl)),conv _ (fun e=>absurd (by rw [e]) ht) fun u' q' _ _ e g4 g5=>?_⟩
    rotate_left
    · have e1 : u = u' := by have : x.Tet = (u' : Int) := by rw [e]
                             omega
      have e2 : q = q' := by have : x.Perm = (q' : Int) := by rw [e]
                             omega
      subst e1; subst e2
      have g4':y=⟨a,PI q⟩:=by rw [← hy,hu]; exact g4
      show (decide _ && !(decide _ && decide _))=true
      rw [g4',decide_eq_true rfl,Bool.true_and]
      by_cases k1:x.Tet=(a:Int)
      · rw [decide_eq_true k1,decide_eq_false (fun k2=>g5 ⟨by omega,by omega⟩)]; rfl
      · rw [decide_eq_false k1]; rfl
    rw [Xq h8 h4,decide_eq_true h1]
    refine Ab.bind (Ab.const true) (Ab.pos rfl ?_)
    unfold Kb.f
    rw [R3,decide_eq_true h2]
    refine Ab.bind (a:=true) (Ab.const _) (Ab.pos rfl <| Ab.bind iA (Ab.pos (by omega) (Ab.pos (by rw [hut]; omega) ?_)))
    rw [hy]
    simp only [Ho]
    refine Ab.Dw iB ?_
    by_cases e1:(y.Tet,y.Perm)=((a:Int),(PI q:Int))
    · refine Ab.pos e1 ?_
      by_cases e2:x.Tet=(a:Int)
      · refine Ab.pos e2 ?_
        have:c=!decide ((PA q f:Int)=(f:Int)):=by show (_ && _)=_; rw [decide_eq_true e1,decide_eq_true e2]; simp
        rw [this]; exact Ab.const _
      · have:c=true:=by show (_ && _)=true; rw [decide_eq_true e1,decide_eq_false e2]; rfl
        rw [this]; exact Ab.neg e2 (Ab.const _)
    · have:c=false:=by show (_ && _)=false; rw [decide_eq_false e1]; rfl
      rw [this]; exact Ab.neg e1 (Ab.const _)
theorem Uq:∀ m a,ts.length - a=m→a≤ts.length→∃ b,(b=true↔∀ a',a≤a'→a'<ts.length→∀ f,f<4→Xo ts a' f∨∃ b p,O5 ts a' f b p)∧Aa (fun K k=>Af.l28 K k ts (a:Int)) b∧Aa (fun K k=>Br.l1 K k ts (ts.length:Int) (a:Int)) b
 |0,a,hm,hi=>⟨true,⟨fun _ a' h1 h2=>by omega,fun _=>rfl⟩,Aa.of fun K k=>by rw [Af.l28,Dn.f,Option.bind_some,if_neg (by omega)],Aa.of fun K k=>by rw [Br.l1,if_neg (by omega)]⟩
 |m+1,a,hm,hi=>by
  obtain ⟨b',hb',t1,t2⟩:=Uq m (a+1) (by omega) (by omega)
  have ha:a<ts.length:=by omega
  obtain ⟨G,hG⟩:∃ G:Nat→Bool,∀ f:Nat,f<4→(G f=true→Xo ts a f∨∃ b p,O5 ts a f b p)∧Ab (fun K=>Eg.f K ts (a:Int) (f:Int)) (G f) ∧
    (G f=true→∀ v,Aa (fun K k=>Af.l37 K k ts (a:Int) ((f+1:Nat):Int)) v→Aa (fun K k=>Af.l37 K k ts (a:Int) (f:Int)) v) ∧
    (G f=false→Aa (fun K k=>Af.l37 K k ts (a:Int) (f:Int)) false)∧((Xo ts a f∨∃ b p,O5 ts a f b p)→G f=true) :=
   ⟨fun f=>if h:f<4 then Classical.choose (Wz h8 h4 ha h) else false,fun f h=>by simp only [dif_pos h]; exact Classical.choose_spec (Wz h8 h4 ha h)⟩
  have s:=Ml (l:=fun K k i=>Af.l37 K k ts (a:Int) (i:Int)) (n:=4) (P:=G) (r:=b') (fun i hi hp v hv=>(hG i hi).2.2.1 hp v hv) (fun i hi hp=>(hG i hi).2.2.2.1 hp)
   (Aa.step (fun K k=>by rw [Af.l37,if_neg (by decide),Aj (by omega)]) t1)
  have i:=Ml (l:=fun K k i=>Br.l4 K k ts (ts.length:Int) (a:Int) (i:Int)) (n:=4) (P:=G) (r:=b') (fun i hi hp v hv=>by
    refine Aa.step (fun K k=>?_) (Aa.bind (G:=fun K k t=>if t=true then Br.l4 K k ts (ts.length:Int) (a:Int) (w64 ((i:Int)+1)) else some false) (hG i hi).2.1.two (Aa.pos hp (by rw [Aj (by omega)]; exact hv)))
    rw [Br.l4,if_pos (by omega)])
   (fun i hi hp=>by
    refine Aa.step (fun K k=>?_) (Aa.bind (G:=fun K k t=>if t=true then Br.l4 K k ts (ts.length:Int) (a:Int) (w64 ((i:Int)+1)) else some false) (hG i hi).2.1.two (Aa.neg (by rw [hp]; decide) (Aa.const _)))
    rw [Br.l4,if_pos (by omega)])
   (Aa.step (fun K k=>by rw [Br.l4,if_neg (by decide),Aj (by omega)]) t2)
  refine ⟨_,⟨fun hb a' h1 h2 f hf=>?_,fun h=>?_⟩,Aa.step (fun K k=>by rw [Af.l28,Dn.f,Option.bind_some,if_pos (by omega)]; rfl) s,Aa.step (fun K k=>by rw [Br.l1,if_pos (by omega)]; rfl) i⟩
  ·rw [Bool.and_eq_true] at hb
   by_cases e:a'=a
   ·subst e; exact (hG f hf).1 (Ol hb.1 hf)
   ·exact hb'.1 hb.2 a' (by omega) h2 f hf
  ·rw [Bool.and_eq_true]
   exact ⟨Nf fun f hf=>(hG f hf).2.2.2.2 (h a (Nat.le_refl _) ha f hf),hb'.2 fun a' h1 h2=>h a' (by omega) h2⟩
end
theorem nV (ts:List (List Am)) (hn:ts.length≤2000000):∃ b,(b=true↔Val ts)∧Ab (fun K=>Af.f K ts) b∧Ab (fun K=>Br.f K ts) b:=by
 unfold Af.f Br.f Dq.f Dn.f
 simp only [Option.bind_some]
 by_cases h8:8<ts.length
 ·exact ⟨false,⟨(fun h=>by cases h),fun h=>by have:=h.le; omega⟩,Ab.pos (by omega) (Ab.const _),Ab.pos (by omega) (Ab.const _)⟩
 let P:Nat→Bool:=fun i=>decide (((ts.getD i []).length:Int)=4)
 obtain ⟨v,t,e⟩:=Z5 (l:=fun K k i=>Aq.l1 K k ts (i:Int)) (n:=ts.length) (P:=P) (fun i hi hp v hv=>Aa.step (fun K k=>by
   rw [Aq.l1,if_pos (by omega),if_pos (by omega),Int.toNat_natCast,F4.f,Option.bind_some,if_neg (by show ¬ (!P i)=true; rw [hp]; decide),Aj (by omega)]) hv)
  (fun i hi hp=>Aa.of fun K k=>by rw [Aq.l1,if_pos (by omega),if_pos (by omega),Int.toNat_natCast,F4.f,Option.bind_some,if_pos (by show (!P i)=true; rw [hp]; rfl)])
  (Aa.of fun K k=>by rw [Aq.l1,if_neg (by omega)])
 have tc:Ab (fun K=>Cj.f K ts) (!Mg ts.length P):=by
  rw [← e]; exact Ab.bind (F:=fun K=>Aq.f K ts) t.Gz (Ab.const _)
 cases hA:Mg ts.length P with
 |false =>
  rw [hA] at tc
  refine ⟨false,⟨(fun h=>by cases h),fun h=>by rw [← hA]; exact Nf fun i hi=>decide_eq_true (by rw [h.four i hi]; rfl)⟩,Ab.neg (by omega) (Xb (l:=fun K k i=>Af.l1 K k ts (i:Int)) (n:=ts.length) (P:=P) (fun i hi hp v hv=>Aa.step (fun K k=>by
    rw [Af.l1,if_pos (by omega),if_pos (by omega),Int.toNat_natCast,if_pos (of_decide_eq_true hp),Aj (by omega)]) hv)
   (fun i hi hp=>Aa.of fun K k=>by rw [Af.l1,if_pos (by omega),if_pos (by omega),Int.toNat_natCast,if_neg (of_decide_eq_false hp)]) hA).Gz,Ab.neg (by omega) (Ab.bind tc (Ab.pos rfl (Ab.const _)))⟩
 |true =>
  rw [hA] at tc
  have h4:∀ i,i<ts.length→(ts.getD i []).length=4:=fun i hi=>by
   have:=of_decide_eq_true (Ol hA hi)
   omega
  obtain ⟨b,hv,t1,t2⟩:=Uq (by omega) h4 ts.length 0 (by omega) (by omega)
  have hs:=Ml (l:=fun K k i=>Af.l1 K k ts (i:Int)) (n:=ts.length) (P:=P) (r:=b) (fun i hi hp v hv=>Aa.step (fun K k=>by
    rw [Af.l1,if_pos (by omega),if_pos (by omega),Int.toNat_natCast,if_pos (of_decide_eq_true hp),Aj (by omega)]) hv)
   (fun i hi hp=>Aa.of fun K k=>by rw [Af.l1,if_pos (by omega),if_pos (by omega),Int.toNat_natCast,if_neg (of_decide_eq_false hp)])
   (Aa.step (fun K k=>by rw [Af.l1,if_neg (by omega)]; rfl) t1)
  rw [hA,Bool.true_and] at hs
  exact ⟨b,⟨fun hb=>⟨by omega,h4,fun a f ha hf=>hv.1 hb a (Nat.zero_le _) ha f hf⟩,fun h=>hv.2 fun a' _ h2 f hf=>h.ok a' f h2 hf⟩,Ab.neg (by omega) hs.Gz,Ab.neg (by omega) (Ab.bind tc (Ab.neg (by decide) t2.Gz))⟩
theorem mH (ts:List (List Am)) (hn:ts.length≤2000000):∃ b,(b=true→Val ts)∧Ab (fun K=>Af.f K ts) b∧Ab (fun K=>Br.f K ts) b:=by
 obtain ⟨b,h1,h2⟩:=nV ts hn
 exact ⟨b,h1.1,h2⟩
theorem Ul {xs:List Am} (hn:xs.length≤2000000):∀ (m i:Nat) (out:List Am),xs.length - i=m→i≤xs.length→out.length=xs.length→(∀ j,j<i→out[j]?=xs[j]?) →
  Aa (fun K k=>Gj.l1 K k xs out (i:Int)) xs
 |0,i,out,hm,hi,hl,ho=>by
  have he:out=xs:=by
   apply List.ext_getElem?
   intro j
   by_cases hj:j<i
   ·exact ho j hj
   ·rw [List.getElem?_eq_none (by omega),List.getElem?_eq_none (by omega)]
  refine Aa.succ (Aa.congr (G:=fun _ _=>some xs) (fun K k=>?_) (Aa.const _))
  rw [Gj.l1,if_neg (by omega),he]
 |m+1,i,out,hm,hi,hl,ho=>by
  have hlt:i<xs.length:=by omega
  have ih:=Ul hn m (i+1) (out.set i xs[i]) (by omega) (by omega) (by rw [List.length_set]; exact hl) (fun j hj=>by
   by_cases hij:i=j
   ·subst hij; rw [List.getElem?_set_self (by omega),List.getElem?_eq_getElem hlt]
   ·rw [List.getElem?_set_ne hij]; exact ho j (by omega))
  refine Aa.succ (Aa.congr (fun K k=>?_) ih)
  rw [Gj.l1,if_pos (by omega),if_pos (by omega)]
  try simp only [Kv.f,Dw,Option.bind_some,Ho]
  rw [if_pos (by omega),Int.toNat_natCast,Aj (by omega),List.getD_eq_getElem?_getD,List.getElem?_eq_getElem hlt]
  rfl
theorem nO {xs:List Am} (hn:xs.length≤2000000):Ab (fun K=>Gj.f K xs) xs:=by
 refine Ab.congr (fun K=>?_) (Ul hn xs.length 0 (List.replicate xs.length Eo) (by omega) (by omega) (by simp) (fun j hj=>by omega)).Gz
 rw [Gj.f,if_pos (by omega),if_pos (by omega),Int.toNat_natCast]
 rfl
theorem Vk {xs:List Am} (hn:xs.length≤2000000):∀ (m i:Nat),xs.length - i=m→Aa (fun K k=>Gi.l1 K k xs xs (i:Int)) true
 |0,i,hm=>by
  refine Aa.succ (Aa.congr (G:=fun _ _=>some true) (fun K k=>?_) (Aa.const _))
  rw [Gi.l1,if_neg (by omega)]
 |m+1,i,hm=>by
  refine Aa.succ (Aa.congr (fun K k=>?_) (Vk hn m (i+1) (by omega)))
  rw [Gi.l1,if_pos (by omega),if_pos (by omega),Ho,if_pos (by omega),Ho]
  simp only [Ku.f,if_true,Option.bind_some]
  rw [Aj (by omega)]
theorem pI {xs:List Am} (hn:xs.length≤2000000):Ab (fun K=>Gi.f K xs xs) true:=by
 refine Ab.congr (fun K=>?_) (Vk hn xs.length 0 (by omega)).Gz
 rw [Gi.f,if_pos rfl]
 rfl
theorem Sz {xs:List (List Am)} (hn:xs.length≤2000000) (hr:∀ i,i<xs.length→(xs.getD i []).length≤2000000):∀ (m i:Nat) (out:List (List Am)),xs.length - i=m→i≤xs.length→out.length=xs.length→(∀ j,j<i→out[j]?=xs[j]?) →
  Aa (fun K k=>Fj.l1 K k xs out (i:Int)) xs
 |0,i,out,hm,hi,hl,ho=>by
  have he:out=xs:=by
   apply List.ext_getElem?
   intro j
   by_cases hj:j<i
   ·exact ho j hj
   ·rw [List.getElem?_eq_none (by omega),List.getElem?_eq_none (by omega)]
  refine Aa.succ (Aa.congr (G:=fun _ _=>some xs) (fun K k=>?_) (Aa.const _))
  rw [Fj.l1,if_neg (by omega),he]
 |m+1,i,out,hm,hi,hl,ho=>by
  have hlt:i<xs.length:=by omega
  have hg:xs.getD i []=xs[i]:=by rw [List.getD_eq_getElem?_getD,List.getElem?_eq_getElem hlt]; rfl
  have ih:=Sz hn hr m (i+1) (out.set i xs[i]) (by omega) (by omega) (by rw [List.length_set]; exact hl) (fun j hj=>by
   by_cases hij:i=j
   ·subst hij; rw [List.getElem?_set_self (by omega),List.getElem?_eq_getElem hlt]
   ·rw [List.getElem?_set_ne hij]; exact ho j (by omega))
  have hb:=Aa.bind (G:=fun K k t=>if 0≤(i:Int)∧(i:Int)<(out.length:Int) then Fj.l1 K k xs (out.set i t) (w64 ((i:Int)+1)) else none) (nO (hr i hlt)).two (r:=xs) (Aa.pos (by omega) (by rw [hg,Aj (by omega)]; exact ih))
  refine Aa.succ (Aa.congr (fun K k=>?_) hb)
  rw [Fj.l1,if_pos (by omega),if_pos (by omega),Int.toNat_natCast]
theorem jI {xs:List (List Am)} (hn:xs.length≤2000000) (hr:∀ i,i<xs.length→(xs.getD i []).length≤2000000):Ab (fun K=>Fj.f K xs) xs:=by
 refine Ab.congr (fun K=>?_) (Sz hn hr xs.length 0 (List.replicate xs.length []) (by omega) (by omega) (by simp) (fun j hj=>by omega)).Gz
 rw [Fj.f,if_pos (by omega),if_pos (by omega),Int.toNat_natCast]
 rfl
theorem Td {xs:List (List Am)} (hn:xs.length≤2000000) (hr:∀ i,i<xs.length→(xs.getD i []).length≤2000000):∀ (m i:Nat),xs.length - i=m→Aa (fun K k=>Fp.l1 K k xs xs (i:Int)) true
 |0,i,hm=>by
  refine Aa.succ (Aa.congr (G:=fun _ _=>some true) (fun K k=>?_) (Aa.const _))
  rw [Fp.l1,if_neg (by omega)]
 |m+1,i,hm=>by
  have hb:=Aa.bind (G:=fun K k t=>if t=true then Fp.l1 K k xs xs (w64 ((i:Int)+1)) else some false) (pI (hr i (by omega))).two (r:=true) (Aa.pos rfl (by rw [Aj (by omega)]; exact Td hn hr m (i+1) (by omega)))
  refine Aa.succ (Aa.congr (fun K k=>?_) hb)
  rw [Fp.l1,if_pos (by omega),if_pos (by omega),if_pos (by omega),Int.toNat_natCast]
theorem kX {xs:List (List Am)} (hn:xs.length≤2000000) (hr:∀ i,i<xs.length→(xs.getD i []).length≤2000000):Ab (fun K=>Fp.f K xs xs) true:=by
 refine Ab.congr (fun K=>?_) (Td hn hr xs.length 0 (by omega)).Gz
 rw [Fp.f,if_pos rfl]
 rfl
def Left (n:Nat) (r left:Int):Prop:=r<0∨(0≤r∧r≤left∧(n:Int)≤left)
theorem nY {n:Nat} {left:Int} (h0:0≤left) (h1:left≤1048576) (hn:n≤9223372036854775807):∃ r,(if w64 (left - (n:Int))<0 then some (-1:Int) else some (w64 (left - (n:Int))))=some r∧Left n r left:=by
 rw [E9 (by omega) (by omega)]
 by_cases h:left - (n:Int)<0
 ·exact ⟨-1,if_pos h,.inl (by omega)⟩
 ·exact ⟨left - n,if_neg h,.inr (by omega)⟩
theorem Sw {xs:List (List Am)} (hn:xs.length≤2000000) (hr:∀ i,i<xs.length→(xs.getD i []).length≤9223372036854775807):∀ (m i:Nat) (left:Int),xs.length - i=m→0≤left→left≤1048576 →
  ∃ r,Aa (fun K k=>Fa.l1 K k xs left (i:Int)) r∧(r<0∨(0≤r∧r≤left∧∀ j,i≤j→j<xs.length→(xs.getD j []).length≤2000000))
 |0,i,left,hm,h0,h1=>by
  refine ⟨left,Aa.succ (Aa.congr (G:=fun _ _=>some left) (fun K k=>?_) (Aa.const _)),.inr ⟨h0,Int.le_refl _,fun j hj hlt=>by omega⟩⟩
  rw [Fa.l1,if_neg (by omega)]
 |m+1,i,left,hm,h0,h1=>by
  obtain ⟨r,hr1,hr2⟩:=nY h0 h1 (hr i (by omega))
  have hs:Ko.f (xs.getD i []) left=some r:=hr1
  rcases hr2 with hneg | ⟨g0,g1,g2⟩
  ·refine ⟨-1,Aa.succ (Aa.congr (G:=fun _ _=>some (-1)) (fun K k=>?_) (Aa.const _)),.inl (by omega)⟩
   rw [Fa.l1,if_pos (by omega),if_pos (by omega),Int.toNat_natCast,hs,Option.bind_some,if_pos hneg]
  ·obtain ⟨r',t,c⟩:=Sw hn hr m (i+1) r (by omega) g0 (by omega)
   refine ⟨r',Aa.succ (Aa.congr (fun K k=>?_) t),?_⟩
   ·rw [Fa.l1,if_pos (by omega),if_pos (by omega),Int.toNat_natCast,hs,Option.bind_some,if_neg (by omega),Aj (by omega)]
   ·rcases c with c | ⟨c0,c1,c2⟩
    ·exact .inl c
    ·refine .inr ⟨c0,by omega,fun j hj hlt=>?_⟩
     by_cases e:j=i
     ·subst e; omega
     ·exact c2 j (by omega) hlt
theorem iL {xs:List (List Am)} (hn:xs.length≤9223372036854775807) (hr:∀ i,i<xs.length→(xs.getD i []).length≤9223372036854775807) {left:Int} (h0:0≤left) (h1:left≤1048576) :
  ∃ r,Ab (fun K=>G9.f K xs left) r∧(r<0∨(0≤r∧r≤left∧xs.length≤2000000∧∀ j,j<xs.length→(xs.getD j []).length≤2000000)):=by
 by_cases h:left - (xs.length:Int)<0
 ·refine ⟨-1,Ab.congr (G:=fun _=>some (-1)) (fun K=>?_) (Ab.const _),.inl (by omega)⟩
  unfold G9.f Fa.f
  rw [E9 (by omega) (by omega),if_pos h,Option.bind_some,if_pos (by omega)]
 ·obtain ⟨r,t,c⟩:=Sw (by omega) hr xs.length 0 (left - xs.length) (by omega) (by omega) (by omega)
  have t':Ab (fun K=>Fa.f K xs left) r:=Ab.congr (fun K=>by unfold Fa.f; rw [E9 (by omega) (by omega),if_neg h]; rfl) t.Gz
  rcases c with c | ⟨c0,c1,c2⟩
  ·exact ⟨-1,Ab.bind t' (Ab.pos c (Ab.const _)),.inl (by omega)⟩
  ·exact ⟨r,Ab.bind t' (Ab.neg (by omega) (Ab.const _)),.inr ⟨c0,by omega,by omega,fun j hj=>c2 j (Nat.zero_le _) hj⟩⟩
theorem Hq.jA {n:Nat} {J:List (Nat × Nat)} {s:List Int} (h:Hq n J s) {i k:Nat} (hi:i<n) (hk:k<n) {p q:Int} (hpq:(p=s.getD i 0∧q=s.getD k 0)∨(p=s.getD k 0∧q=s.getD i 0)):Hq n (J++[(i,k)]) (s.map (Mx p q)):=by
 have hg:∀ x,x<n→(s.map (Mx p q)).getD x 0=Mx p q (s.getD x 0):=fun x hx=>getD_map (by rw [h.len]; exact hx)
 refine ⟨by rw [List.length_map]; exact h.len,fun x hx=>?_,fun x hx=>?_,fun Q hQ a b ha hb hab=>?_⟩
 ·rcases List.mem_append.1 hx with hx | hx
  ·exact h.inn x hx
  ·rw [List.mem_singleton.1 hx]; exact ⟨hi,hk⟩
 ·rcases List.mem_append.1 hx with hx | hx
  ·have:=h.inn x hx
   rw [hg _ this.1,hg _ this.2,h.one x hx]
  ·rw [List.mem_singleton.1 hx,hg _ hi,hg _ hk,eY]
   rcases hpq with ⟨rfl,rfl⟩|⟨rfl,rfl⟩
   ·exact .inr ⟨.inl rfl,.inr rfl⟩
   ·exact .inr ⟨.inr rfl,.inl rfl⟩
 ·have hm:=h.min Q (fun x hx=>hQ x (List.mem_append_left _ hx))
  have hik:Q i↔Q k:=hQ (i,k) (List.mem_append_right _ (List.mem_singleton.2 rfl))
  rw [hg _ ha,hg _ hb,eY] at hab
  rcases hab with hab | ⟨h1,h2⟩
  ·exact hm a b ha hb hab
  ·have key:∀ x,x<n→(s.getD x 0=p∨s.getD x 0=q)→(Q x↔Q i):=fun x hx hxx=>by
    have:s.getD x 0=s.getD i 0∨s.getD x 0=s.getD k 0:=by
     rcases hpq with ⟨rfl,rfl⟩|⟨rfl,rfl⟩
     ·exact hxx
     ·exact hxx.symm
    rcases this with e | e
    ·exact hm x i hx hi e
    ·exact (hm x k hx hk e).trans hik.symm
   exact (key a ha h1).trans (key b hb h2).symm
theorem Yw {s:List Int} (hn:s.length≤100) {i k:Int}:∀ (d j:Nat) (s':List Int),s.length - j=d→s'.length=s.length→(∀ i',i'<j→s'[i']?=(s.map (Mx (s.getD k.toNat 0) (s.getD i.toNat 0)))[i']?)→(∀ i',j≤i'→s'[i']?=s[i']?) →
  Aa (fun K k'=>Gl.l1 K k' s i k s' (j:Int)) (s.map (Mx (s.getD k.toNat 0) (s.getD i.toNat 0)))
 |0,j,s',hd,hl,h1,h2=>by
  refine Aa.succ (Aa.congr (fun K k'=>?_) (Aa.const _))
  rw [Gl.l1,if_neg (by omega),V7 hl h1 (by omega)]
 |d+1,j,s',hd,hl,h1,h2=>by
  obtain ⟨g1,g2,g3⟩:=V9 hl (show j<s.length by omega) h1 h2 _ rfl
  have ih:=Yw hn d (j+1) _ (by omega) g1 g2 g3
  refine Aa.succ (Aa.congr (fun K k'=>?_) ih)
  rw [Gl.l1,if_pos (by omega),if_pos (by omega),Int.toNat_natCast,Aj (by omega)]
  by_cases hc:s'.getD j 0=s.getD k.toNat 0
  ·rw [if_pos hc,decide_eq_true hc]; rfl
  ·rw [if_neg hc,decide_eq_false hc]; rfl
theorem aL {n:Nat} {J:List (Nat × Nat)} {s:List Int} (hn:n≤100) (h:Hq n J s) {i k:Nat} (hi:i<n) (hk:k<n):∃ s',Ab (fun K=>Gl.f K s (i:Int) (k:Int)) s'∧s'.length=s.length∧Hq n (J++[(i,k)]) s':=by
 have hl:=h.len
 refine ⟨_,Ab.congr (fun K=>?_) (Yw (by omega) (i:=(i:Int)) (k:=(k:Int)) s.length 0 s rfl rfl (fun i' h=>by omega) (fun _ _=>rfl)).Gz,by rw [List.length_map],?_⟩
 ·rw [Gl.f,if_pos (by omega),if_pos (by omega)]; rfl
 ·rw [Int.toNat_natCast,Int.toNat_natCast]
  exact h.jA hi hk (.inr ⟨rfl,rfl⟩)
theorem eT {s:List Int} (hn:s.length≤100) {i k:Nat} {p q:Int} (hp:p=if s.getD k 0 > s.getD i 0 then s.getD k 0 else s.getD i 0) (hq:q=if s.getD k 0<s.getD i 0 then s.getD k 0 else s.getD i 0):∀ (d j:Nat) (s':List Int),s.length - j=d→s'.length=s.length→(∀ i',i'<j→s'[i']?=(s.map (Mx p q))[i']?)→(∀ i',j≤i'→s'[i']?=s[i']?) →
  Aa (fun K k'=>Ec.l1 K k' s (i:Int) (k:Int) s' (j:Int)) (s.map (Mx p q))
 |0,j,s',hd,hl,h1,h2=>by
  refine Aa.succ (Aa.congr (fun K k'=>?_) (Aa.const _))
  rw [Ec.l1,if_neg (by omega),V7 hl h1 (by omega)]
 |d+1,j,s',hd,hl,h1,h2=>by
  obtain ⟨g1,g2,g3⟩:=V9 hl (show j<s.length by omega) h1 h2 _ rfl
  have ih:=eT hn hp hq d (j+1) _ (by omega) g1 g2 g3
  refine Aa.succ (Aa.congr (fun K k'=>?_) ih)
  rw [Ec.l1,if_pos (by omega),if_pos (by omega),Int.toNat_natCast,Int.toNat_natCast,Int.toNat_natCast,Aj (by omega),← hp,← hq]
  by_cases hc:s'.getD j 0=p
  ·rw [if_pos hc,decide_eq_true hc]; rfl
  ·rw [if_neg hc,decide_eq_false hc]; rfl
theorem yR {n:Nat} {J:List (Nat × Nat)} {s:List Int} (hn:n≤100) (h:Hq n J s) (hL:O4 n s) {i k:Nat} (hi:i<n) (hk:k<n):∃ s',Ab (fun K=>Ec.f K s (i:Int) (k:Int)) s'∧s'.length=s.length∧Hq n (J++[(i,k)]) s'∧O4 n s':=by
 have hl:=h.len
 obtain ⟨p,hp⟩:∃ p,p=if s.getD k 0 > s.getD i 0 then s.getD k 0 else s.getD i 0:=⟨_,rfl⟩
 obtain ⟨q,hq⟩:∃ q,q=if s.getD k 0<s.getD i 0 then s.getD k 0 else s.getD i 0:=⟨_,rfl⟩
 have hpq:(p=s.getD i 0∧q=s.getD k 0)∨(p=s.getD k 0∧q=s.getD i 0):=by
  by_cases h3:s.getD k 0 > s.getD i 0
  ·rw [if_pos h3] at hp; rw [if_neg (by omega)] at hq; exact .inr ⟨hp,hq⟩
  ·rw [if_neg h3] at hp
   by_cases h4:s.getD k 0<s.getD i 0
   ·rw [if_pos h4] at hq; exact .inl ⟨hp,hq⟩
   ·rw [if_neg h4] at hq; exact .inl ⟨hp,by omega⟩
 have hle:q≤p:=by rw [hp,hq]; split<;>split<;>omega
 refine ⟨_,Ab.congr (fun K=>?_) (eT (by omega) hp hq s.length 0 s rfl rfl (fun i' h=>by omega) (fun _ _=>rfl)).Gz,by rw [List.length_map],h.jA hi hk hpq,?_⟩
 ·rw [Ec.f,if_pos (by omega),if_pos (by omega)]; rfl
 ·rcases hpq with ⟨h1,h2⟩|⟨h1,h2⟩
  ·exact hL.join hi hk (.inl ⟨h1,h2⟩) hle
  ·exact hL.join hi hk (.inr ⟨h1,h2⟩) hle
noncomputable def fo (s:List Int) (i:Nat):Nat:=Classical.choose (Rb s i)
theorem Tk (s:List Int) (i:Nat):fo s i≤i∧Gu s (fo s i)=true∧s.getD (fo s i) 0=s.getD i 0:=Classical.choose_spec (Rb s i)
theorem Tw {s:List Int} {i j:Nat} (hf:Gu s j=true) (he:s.getD j 0=s.getD i 0):fo s i=j:=by
 obtain ⟨h1,h2,h3⟩:=Tk s i
 rcases Nat.lt_trichotomy (fo s i) j with h | h | h
 ·exact absurd (h3.trans he.symm) (Iz.1 hf _ h)
 ·exact h
 ·exact absurd (he.trans h3.symm) (Iz.1 h2 _ h)
noncomputable def cn (s:List Int) (i:Nat):Int:=(Ce s (fo s i):Int)
noncomputable def CN (n:Nat) (s:List Int):List Int:=(List.range n).map (cn s)
theorem Nl (n:Nat) (s:List Int):(CN n s).length=n:=by simp [CN]
theorem Yo {n:Nat} {s:List Int} {i:Nat} (hi:i<n):(CN n s).getD i 0=cn s i:=by
 unfold CN
 rw [List.getD_eq_getElem?_getD,List.getElem?_map,List.getElem?_range hi]; rfl
theorem L9 (n:Nat) (s:List Int):Ms n s (CN n s):=⟨Nl n s,fun i hi hf=>by rw [Yo hi,cn,Tw hf rfl],fun i j hi hj he=>by
 rw [Yo hi,Yo hj,cn,cn,Tw (Tk s j).2.1 ((Tk s j).2.2.trans he.symm)]⟩
theorem eB {n:Nat} {s o:List Int} (h:Oe n s o):CN n s=CN n o:=((L9 n s).congr h).uniq (L9 n o)
theorem P8 (k v k':Int):∀ m:List (Int × Int),K5 (Lp m k v) k'=if k'=k then some v else K5 m k'
 |[]=>by unfold Lp K5 K5; rfl
 |p::r=>by
  unfold Lp
  by_cases h:k=p.1
  ·rw [if_pos h]
   unfold K5
   by_cases h2:k'=k
   ·rw [if_pos h2,if_pos h2]
   ·rw [if_neg h2,if_neg h2,if_neg (by rw [← h]; exact h2)]
  ·rw [if_neg h]
   unfold K5
   by_cases h2:k'=p.1
   ·rw [if_pos h2,if_pos h2,if_neg (by rw [h2]; exact fun e=>h e.symm)]
   ·rw [if_neg h2,if_neg h2,P8 k v k' r]
theorem Zr {k v:Int}:∀ {m:List (Int × Int)},K5 m k=none→(Lp m k v).length=m.length+1
 |[],_=>rfl
 |p::r,h=>by
  unfold K5 at h
  by_cases hk:k=p.1
  ·rw [if_pos hk] at h; cases h
  ·rw [if_neg hk] at h
   unfold Lp
   rw [if_neg hk,List.length_cons,List.length_cons,Zr h]
theorem eU (s:List Int) (x:Nat):CN (x+1) s=CN x s++[cn s x]:=by unfold CN; rw [List.range_succ,List.map_append]; rfl
theorem Pp {s:List Int} (hn:s.length≤100):∀ (d x:Nat) (m:List (Int × Int)),s.length - x=d→x≤s.length→(∀ j,j<x→Gu s j=true→K5 m (s.getD j 0)=some (Ce s j:Int))→(∀ v,(∀ j,j<x→s.getD j 0≠v)→K5 m v=none)→m.length=Ce s x →
  Aa (fun K k=>Dk.l1 K k s m (CN x s) (x:Int)) (CN s.length s)
 |0,x,m,hd,hx,h1,h2,h3=>by
  obtain rfl:x=s.length:=by omega
  refine Aa.of fun K k=>?_
  rw [Dk.l1,if_neg (by omega)]
 |d+1,x,m,hd,hx,h1,h2,h3=>by
  have hxl:x<s.length:=by omega
  have hlen:=Nl x s
  cases hf:Gu s x with
  |true =>
   have hno:K5 m (s.getD x 0)=none:=h2 _ (fun j hj=>Iz.1 hf j hj)
   have hcn:cn s x=(Ce s x:Int):=by rw [cn,Tw hf rfl]
   have ih:=Pp hn d (x+1) (Lp m (s.getD x 0) (m.length:Int)) (by omega) (by omega) (fun j hj hfj=>by
     rw [P8]
     by_cases e:j=x
     ·subst e; rw [if_pos rfl,h3]
     ·rw [if_neg (Iz.1 hf j (by omega)),h1 j (by omega) hfj]) (fun v hv=>by
     rw [P8,if_neg (fun e=>hv x (by omega) e.symm)]
     exact h2 v (fun j hj=>hv j (by omega))) (by rw [Zr hno,h3,Ce,if_pos hf])
   refine Aa.step (G:=fun K k=>Dk.j4 K k s (CN x s) (x:Int) (Lp m (s.getD x 0) (m.length:Int))) (fun K k=>?_) (Aa.step (fun K k=>?_) ih)
   ·rw [Dk.l1,if_pos (by omega),if_pos (by omega),Int.toNat_natCast,hno,if_neg (by decide)]
   ·rw [Dk.j4,if_pos (by omega),Int.toNat_natCast,P8,if_pos rfl,Aj (by omega),eU,hcn,h3]
    rfl
  |false =>
   obtain ⟨g1,g2,g3⟩:=Tk s x
   have hlt:fo s x<x:=by
    rcases Nat.lt_or_eq_of_le g1 with h | h
    ·exact h
    ·rw [h,hf] at g2; cases g2
   have hyes:K5 m (s.getD x 0)=some (Ce s (fo s x):Int):=by rw [← g3]; exact h1 _ hlt g2
   have ih:=Pp hn d (x+1) m (by omega) (by omega) (fun j hj hfj=>by
     by_cases e:j=x
     ·subst e; rw [hf] at hfj; cases hfj
     ·exact h1 j (by omega) hfj) (fun v hv=>h2 v (fun j hj=>hv j (by omega))) (by rw [Ce,if_neg (by rw [hf]; decide),h3]; rfl)
   refine Aa.step (G:=fun K k=>Dk.j4 K k s (CN x s) (x:Int) m) (fun K k=>?_) (Aa.step (fun K k=>?_) ih)
   ·rw [Dk.l1,if_pos (by omega),if_pos (by omega),Int.toNat_natCast,hyes,if_pos (by rfl)]
   ·rw [Dk.j4,if_pos (by omega),Int.toNat_natCast,hyes,Aj (by omega),eU,cn]
    rfl
theorem numbered {s:List Int} (hn:s.length≤100):Ab (fun K=>Dk.f K s) (CN s.length s) :=
 (Pp hn s.length 0 [] (by omega) (by omega) (fun j hj=>by omega) (fun v _=>rfl) rfl).Gz
theorem O4.Si {n:Nat} {o:List Int} (h:O4 n o) {i:Nat} (hi:i<n):Gu o i=true↔o.getD i 0=(i:Int):=by
 have h1:=h.low i hi
 have h2:=h.root i hi
 rw [Iz]
 constructor
 ·intro hf
  rcases Int.lt_or_eq_of_le h1.2 with hlt | he
  ·exact absurd h2 (hf _ (by omega))
  ·exact he
 ·intro he j hj e
  have:=(h.low j (by omega)).2
  rw [e,he] at this
  omega
theorem O4.cn {n:Nat} {o:List Int} (h:O4 n o) {i:Nat} (hi:i<n):(o.getD i 0).toNat<n∧fo o i=(o.getD i 0).toNat:=by
 have h1:=h.low i hi
 have h2:=h.root i hi
 have hl:(o.getD i 0).toNat<n:=by omega
 exact ⟨hl,Tw ((h.Si hl).2 (by rw [h2]; omega)) h2⟩
def rowAt (C:List Int) (w a:Nat):List Int:=(List.range w).map fun e=>C.getD (w*a+e) 0
def rowsOf (C:List Int) (w m:Nat):List (List Int):=(List.range m).map (rowAt C w)
theorem Iq (C:List Int) (w a:Nat):(rowAt C w a).length=w:=by simp [rowAt]
theorem Gr (C:List Int) (w m:Nat):(rowsOf C w m).length=m:=by simp [rowsOf]
theorem Ij {C:List Int} {w m a:Nat} (h:a<m):(rowsOf C w m).getD a []=rowAt C w a:=by
 unfold rowsOf
 rw [List.getD_eq_getElem?_getD,List.getElem?_map,List.getElem?_range h]; rfl
theorem I7 {C:List Int} {w a e:Nat} (h:e<w):(rowAt C w a).getD e 0=C.getD (w*a+e) 0:=by
 unfold rowAt
 rw [List.getD_eq_getElem?_getD,List.getElem?_map,List.getElem?_range h]; rfl
section
variable {o:List Int} {w m:Nat} (hw:o.length=w*m) (hn:w*m≤100) (hw0:0<w) (hw1:w≤100) (hL:O4 (w*m) o)
include hw hn hw0 hw1 hL
theorem Y0 {num:List Int} {c:Int} (hnl:num.length=w*m) (hnum:∀ j,j<w*m→o.getD j 0=(j:Int)→num.getD j 0=(Ce o j:Int)) {out:List (List Int)} (ho:out.length≤100) {a:Nat} (ha:a<m) {R:List (List Int) × Int}
  (hR:Aa (fun K k=>Ch.l7 K k o (w:Int) num c (out++[rowAt (CN (w*m) o) w a]) ((w*(a+1):Nat):Int)) R):∀ (d e:Nat),w - e=d→e≤w →
  Aa (fun K k=>Ch.l10 K k o (w:Int) num c out ((w*a:Nat):Int) ((List.range e).map fun e=>(CN (w*m) o).getD (w*a+e) 0) ((w*a+e:Nat):Int)) R
 |0,e,hd,he=>by
  obtain rfl:e=w:=by omega
  refine Aa.step (fun K k=>?_) hR
  have h1:w64 (((e*a:Nat):Int)+(e:Int))=((e*(a+1):Nat):Int):=by
   have h2:e*(a+1)=e*a+e:=Nat.mul_succ e a
   have:e*(a+1)≤e*m:=Nat.mul_le_mul_left e ha
   rw [E9 (by omega) (by omega)]; omega
  rw [Ch.l10,h1,if_neg (by rw [Nat.mul_succ]; omega),if_pos (by omega)]
  rfl
 |d+1,e,hd,he=>by
  have hlt:e<w:=by omega
  have h2:w*(a+1)≤w*m:=Nat.mul_le_mul_left w ha
  rw [Nat.mul_succ] at h2
  have hin:w*a+e<w*m:=by omega
  obtain ⟨g1,g2⟩:=hL.cn hin
  have g3:=hL.low _ hin
  have g4:=hL.root _ hin
  refine Aa.step (fun K k=>?_) (Y0 hnl hnum ho ha hR d (e+1) (by omega) (by omega))
  rw [Ch.l10,E9 (by omega) (by omega),if_pos (by omega),if_pos (by omega),Int.toNat_natCast,if_pos (by omega),if_pos (by rw [List.length_map,List.length_range]; omega),Aj (by omega),List.range_succ,List.map_append]
  have h5:num.getD (o.getD (w*a+e) 0).toNat 0=(CN (w*m) o).getD (w*a+e) 0:=by
   rw [Yo hin,cn,g2,hnum _ g1 (by rw [g4]; omega)]
  rw [h5]
  rfl
theorem eO {num:List Int} {c:Int} (hnl:num.length=w*m) (hnum:∀ j,j<w*m→o.getD j 0=(j:Int)→num.getD j 0=(Ce o j:Int)):∀ (d a:Nat),m - a=d→a≤m →
  Aa (fun K k=>Ch.l7 K k o (w:Int) num c (rowsOf (CN (w*m) o) w a) ((w*a:Nat):Int)) (rowsOf (CN (w*m) o) w m,c)
 |0,a,hd,ha=>by
  obtain rfl:a=m:=by omega
  refine Aa.of fun K k=>?_
  rw [Ch.l7,if_neg (by omega)]
 |d+1,a,hd,ha=>by
  have hlt:a<m:=by omega
  have h2:w*(a+1)≤w*m:=Nat.mul_le_mul_left w hlt
  rw [Nat.mul_succ] at h2
  have hma:a<100:=by
   have:1*(a+1)≤w*(a+1):=Nat.mul_le_mul_right _ hw0
   rw [Nat.mul_succ w] at this; omega
  have ih:=eO (c:=c) hnl hnum d (a+1) (by omega) (by omega)
  have e:rowsOf (CN (w*m) o) w (a+1)=rowsOf (CN (w*m) o) w a++[rowAt (CN (w*m) o) w a]:=by unfold rowsOf; rw [List.range_succ,List.map_append]; rfl
  rw [e] at ih
  have h10:=Y0 hw hn hw0 hw1 hL hnl hnum (by rw [Gr]; omega) hlt ih w 0 (by omega) (by omega)
  refine Aa.step (fun K k=>?_) h10
  rw [Ch.l7,if_pos (by omega)]
  rfl
theorem Xm:∀ (d i:Nat) (num:List Int),w*m - i=d→i≤w*m→num.length=w*m→(∀ j,j<i→o.getD j 0=(j:Int)→num.getD j 0=(Ce o j:Int)) →
  Aa (fun K k=>Ch.l1 K k o (w:Int) num (Ce o i:Int) (i:Int)) (rowsOf (CN (w*m) o) w m,(Ce o (w*m):Int))
 |0,i,num,hd,hi,hl,h=>by
  obtain rfl:i=w*m:=by omega
  refine Aa.step (fun K k=>?_) (eO hw hn hw0 hw1 hL hl h m 0 (by omega) (by omega))
  rw [Ch.l1,if_neg (by omega)]
  rfl
 |d+1,i,num,hd,hi,hl,h=>by
  have hlt:i<w*m:=by omega
  have hle:=Jh o i
  by_cases hc:o.getD i 0=(i:Int)
  ·have hf:=(hL.Si hlt).2 hc
   have ih:=Xm d (i+1) (num.set i (Ce o i:Int)) (by omega) (by omega) (by rw [List.length_set]; exact hl) (fun j hj he=>by
    by_cases e:i=j
    ·subst e; rw [List.getD_eq_getElem?_getD,List.getElem?_set_self (by omega)]; rfl
    ·rw [List.getD_eq_getElem?_getD,List.getElem?_set_ne e,← List.getD_eq_getElem?_getD]; exact h j (by omega) he)
   refine Aa.step (fun K k=>?_) ih
   rw [Ch.l1,if_pos (by omega),if_pos (by omega),Int.toNat_natCast,if_pos hc,if_pos (by omega),Aj (by omega),Aj (by omega),Ce,if_pos hf]
  ·have hf:¬ Gu o i=true:=fun e=>hc ((hL.Si hlt).1 e)
   have ih:=Xm d (i+1) num (by omega) (by omega) hl (fun j hj he=>by
    by_cases e:j=i
    ·subst e; exact absurd he hc
    ·exact h j (by omega) he)
   refine Aa.step (fun K k=>?_) ih
   rw [Ch.l1,if_pos (by omega),if_pos (by omega),Int.toNat_natCast,if_neg hc,Aj (by omega),Ce,if_neg hf]
   rfl
theorem aB:Ab (fun K=>Ch.f K o (w:Int)) (rowsOf (CN (w*m) o) w m,(Ce o (w*m):Int)):=by
 refine Ab.congr (fun K=>?_) (Xm hw hn hw0 hw1 hL (w*m) 0 (List.replicate o.length 0) (by omega) (by omega) (by rw [List.length_replicate]; exact hw) (fun j hj=>by omega)).Gz
 rw [Ch.f,if_pos (by omega),if_pos (by omega),Int.toNat_natCast]
 rfl
end
def LJ (F:Nat→List (Nat × Nat)):Nat→List (Nat × Nat)
 |0=>[]
 |i+1=>LJ F i++F i
theorem Lr {F:Nat→List (Nat × Nat)} {p:Nat × Nat}:∀ {m:Nat},p∈LJ F m↔∃ i,i<m∧p∈F i
 |0=>⟨fun h=>(List.not_mem_nil h).elim,fun ⟨i,h,_⟩=>by omega⟩
 |m+1=>by
  rw [LJ,List.mem_append,Lr]
  constructor
  ·rintro (⟨i,h1,h2⟩ | h)
   ·exact ⟨i,by omega,h2⟩
   ·exact ⟨m,by omega,h⟩
  ·rintro ⟨i,h1,h2⟩
   by_cases e:i=m
   ·subst e; exact .inr h2
   ·exact .inl ⟨i,by omega,h2⟩
def je (x:Am) (a f e:Nat):List (Nat × Nat):=if EA e=f∨EB e=f then [] else [(6*a+e,6*x.Tet.toNat+EE (PA x.Perm.toNat (EA e)) (PA x.Perm.toNat (EB e)))]
def jv (x:Am) (a f v:Nat):List (Nat × Nat):=if v=f then [] else [(4*a+v,4*x.Tet.toNat+PA x.Perm.toNat v)]
def jf (x:Am) (a f:Nat):List (Nat × Nat):=[(4*a+f,4*x.Tet.toNat+PA x.Perm.toNat f)]
def JEf (ts:List (List Am)) (a f:Nat):List (Nat × Nat):=if (Fg ts a f).Tet<0 then [] else LJ (je (Fg ts a f) a f) 6
def JVf (ts:List (List Am)) (a f:Nat):List (Nat × Nat):=if (Fg ts a f).Tet<0 then [] else LJ (jv (Fg ts a f) a f) 4
def JFf (ts:List (List Am)) (a f:Nat):List (Nat × Nat):=if (Fg ts a f).Tet<0 then [] else jf (Fg ts a f) a f
def JE (ts:List (List Am)):List (Nat × Nat):=LJ (fun a=>LJ (JEf ts a) 4) ts.length
def JV (ts:List (List Am)):List (Nat × Nat):=LJ (fun a=>LJ (JVf ts a) 4) ts.length
def JF (ts:List (List Am)):List (Nat × Nat):=LJ (fun a=>LJ (JFf ts a) 4) ts.length
theorem w6 {c a e:Nat} (hc:c≤6) (ha:a≤8) (he:e≤6):w64 ((w64 ((c:Int)*(a:Int)))+(e:Int))=((c*a+e:Nat):Int):=by
 have:c*a≤6*8:=Nat.mul_le_mul hc ha
 have h2:(c:Int)*(a:Int)=((c*a:Nat):Int):=by simp
 rw [h2,E9 (x:=((c*a:Nat):Int)) (by omega) (by omega),E9 (by omega) (by omega)]
 omega
theorem w6' {c a:Nat} (hc:c≤6) (ha:a≤8):w64 ((c:Int)*(a:Int))=((c*a:Nat):Int):=by
 have:c*a≤6*8:=Nat.mul_le_mul hc ha
 have h2:(c:Int)*(a:Int)=((c*a:Nat):Int):=by simp
 rw [h2,E9 (by omega) (by omega)]
theorem mul_lt {c a e n:Nat} (ha:a<n) (he:e<c):c*a+e<c*n:=by
 have:c*(a+1)≤c*n:=Nat.mul_le_mul_left c ha
 rw [Nat.mul_succ] at this; omega
theorem Uu {p k:Nat} (hk:k<4):([(PA p 0:Int),(PA p 1:Int),(PA p 2:Int),(PA p 3:Int)]:List Int).getD (k:Int).toNat 0=(PA p k:Int):=by
 rw [Int.toNat_natCast]
 exact yI (f:=PA p) rfl rfl rfl rfl hk
theorem N8 {p e:Nat} (hp:p<24) (he:e<6):PA p (EA e)<4∧PA p (EB e)<4∧PA p (EA e)≠PA p (EB e)∧EE (PA p (EA e)) (PA p (EB e))<6:=by
 obtain ⟨h1,h2,h3⟩:=EAB he
 have g1:=H9 hp (show EA e<4 by omega)
 have g2:=H9 hp h2
 have g3:PA p (EA e)≠PA p (EB e):=fun h=>by have:=U6 hp (by omega) h2 h; omega
 exact ⟨g1,g2,g3,(Wn g1 g2 g3).1⟩
section
variable {n:Nat} (hn:n≤8) {a f b p:Nat} (ha:a<n) (hf:f<4) (hb:b<n) (hp:p<24) {J:List (Nat × Nat)}
include hn ha hf hb hp
theorem iG:∀ (d e:Nat) (s:List Int),6 - e=d→e≤6→Hq (6*n) (J++LJ (je ⟨b,p⟩ a f) e) s →
  ∃ s',Aa (fun K k=>Aw.l1 K k (a:Int) (f:Int) (b:Int) (PA p 0:Int) (PA p 1:Int) (PA p 2:Int) (PA p 3:Int) s (e:Int)) s'∧s'.length=s.length∧Hq (6*n) (J++LJ (je ⟨b,p⟩ a f) 6) s'
 |0,e,s,hd,he,hs=>by
  obtain rfl:e=6:=by omega
  exact ⟨s,Aa.of fun K k=>by rw [Aw.l1,if_neg (by decide)],rfl,hs⟩
 |d+1,e,s,hd,he,hs=>by
  have he6:e<6:=by omega
  obtain ⟨q1,q2,q3⟩:=EAB he6
  obtain ⟨g1,g2,g3,g4⟩:=N8 hp he6
  by_cases hc:EA e=f∨EB e=f
  ·have hs':Hq (6*n) (J++LJ (je ⟨b,p⟩ a f) (e+1)) s:=by rw [LJ,je,if_pos hc,List.append_nil]; exact hs
   obtain ⟨s',t,l,h⟩:=iG d (e+1) s (by omega) (by omega) hs'
   refine ⟨s',Aa.step (fun K k=>by rw [Aw.l1,if_pos (by omega),Aj (by omega)]) (Aa.Dw (Xk he6).two ?_),l,h⟩
   by_cases h1:EA e=f
   ·exact Aa.pos (by omega) t
   ·exact Aa.neg (by omega) (Aa.pos (by omega) t)
  ·obtain ⟨s1,t1,l1,h1⟩:=aL (by omega) hs (i:=6*a+e) (k:=6*b+EE (PA p (EA e)) (PA p (EB e))) (mul_lt ha he6) (mul_lt hb g4)
   have hs':Hq (6*n) (J++LJ (je ⟨b,p⟩ a f) (e+1)) s1:=by
    rw [LJ,je,if_neg hc,← List.append_assoc]
    exact h1
   obtain ⟨s',t,l,h⟩:=iG d (e+1) s1 (by omega) (by omega) hs'
   refine ⟨s',Aa.step (fun K k=>by rw [Aw.l1,if_pos (by omega),Aj (by omega)]) (Aa.Dw (Xk he6).two ?_),l.trans l1,h⟩
   refine Aa.neg (by omega) (Aa.neg (by omega) (Aa.pos (by omega) (Aa.pos (by omega) (Aa.bind (a:=((EE (PA p (EA e)) (PA p (EB e)):Nat):Int)) ?_ (Aa.bind (a:=s1) ?_ (Aa.pos l1 t))))))
   ·refine Aa.congr (fun K k=>?_) (iI g1 g2 g3).two
    rw [Uu (by omega),Uu q2]
   ·refine Aa.congr (fun K k=>?_) t1.two
    have e1:=w6 (c:=6) (a:=a) (e:=e) (by decide) (by omega) (by omega)
    have e2:=w6 (c:=6) (a:=b) (e:=EE (PA p (EA e)) (PA p (EB e))) (by decide) (by omega) (by omega)
    rw [← e1,← e2]
    rfl
end
section
variable {ts:List (List Am)} (hv:Val ts)
include hv
theorem isB (a f:Nat):Bo.f (Fg ts a f).Tet (Fg ts a f).Perm=some (decide ((Fg ts a f).Tet<0)):=rfl
theorem Jm {a f:Nat} (ha:a<ts.length) (hf:f<4):((Fg ts a f).Tet<0∧Fg ts a f=⟨-1,0⟩)∨(¬ (Fg ts a f).Tet<0∧∃ b p:Nat,b<ts.length∧p<24∧Fg ts a f=⟨b,p⟩∧O5 ts a f b p):=by
 rcases hv.ok a f ha hf with h | ⟨b,p,h⟩
 ·left; rw [show Fg ts a f=⟨-1,0⟩ from h]; exact ⟨by decide,rfl⟩
 ·right
  have h2:=h.2.2.1
  rw [h2]
  exact ⟨by show ¬ (b:Int)<0; omega,b,p,h.1,h.2.1,rfl,h⟩
theorem jQ {a:Nat} (ha:a<ts.length) {J:List (Nat × Nat)}:∀ (d f:Nat) (s:List Int),4 - f=d→f≤4→Hq (6*ts.length) (J++LJ (JEf ts a) f) s →
  ∃ s',s'.length=s.length∧Hq (6*ts.length) (J++LJ (JEf ts a) 4) s'∧∀ R,Aa (fun K k=>Ae.l1 K k ts s' ((a+1:Nat):Int)) R→Aa (fun K k=>Ae.l4 K k ts (a:Int) s (f:Int)) R
 |0,f,s,hd,hf,hs=>by
  obtain rfl:f=4:=by omega
  refine ⟨s,rfl,hs,fun R hR=>Aa.step (fun K k=>?_) hR⟩
  have:=hv.four a ha
  have:=hv.le
  rw [Ae.l4,Int.toNat_natCast,if_neg (by omega),Aj (by omega)]
 |d+1,f,s,hd,hf,hs=>by
  have h4:=hv.four a ha
  have h8:=hv.le
  rcases Jm hv ha (show f<4 by omega) with ⟨h1,h2⟩|⟨h1,b,p,hb,hp,h2,_⟩
  ·obtain ⟨s',l,h,c⟩:=jQ ha d (f+1) s (by omega) (by omega) (by rw [LJ,JEf,if_pos h1,List.append_nil]; exact hs)
   refine ⟨s',l,h,fun R hR=>Aa.step (fun K k=>?_) (c R hR)⟩
   rw [Ae.l4,Int.toNat_natCast,if_pos (by omega),if_pos (by omega),Int.toNat_natCast,Ho,Aj (by omega)]
   show (Bo.f (Fg ts a f).Tet (Fg ts a f).Perm).bind _=_
   rw [isB hv,Option.bind_some,decide_eq_true h1,if_pos rfl]
  ·obtain ⟨s1,t1,l1,g1⟩:=iG hv.le ha (show f<4 by omega) hb hp 6 0 s (by omega) (by omega) (by rw [LJ,List.append_nil]; exact hs)
   obtain ⟨s',l,h,c⟩:=jQ ha d (f+1) s1 (by omega) (by omega) (by rw [LJ,JEf,if_neg h1,h2,← List.append_assoc]; exact g1)
   refine ⟨s',l.trans l1,h,fun R hR=>Aa.step (fun K k=>?_) (Aa.Hm (F:=fun K _=>Ej.f K (p:Int)) (G:=fun K k i0 i1 i2 i3=>(Aw.f K (a:Int) (f:Int) (b:Int) (p:Int) i0 i1 i2 i3 s).bind fun t228=>if t228.length=s.length then Ae.l4 K k ts (a:Int) t228 ((f+1:Nat):Int) else none) (Pt hp).two (Aa.bind t1.Gz.two (Aa.pos l1 (c R hR))))⟩
   rw [Ae.l4,Int.toNat_natCast,if_pos (by omega),if_pos (by omega),Int.toNat_natCast,Ho,Aj (by omega)]
   show (Bo.f (Fg ts a f).Tet (Fg ts a f).Perm).bind _=_
   rw [isB hv,Option.bind_some,decide_eq_false h1,if_neg (by decide)]
   show Hm (Ej.f K (Fg ts a f).Perm) (fun t221 t222 t223 t224=>(Aw.f K (a:Int) (f:Int) (Fg ts a f).Tet (Fg ts a f).Perm t221 t222 t223 t224 s).bind _)=_
   rw [h2]
theorem qE:∀ (d a:Nat) (s:List Int),ts.length - a=d→a≤ts.length→Hq (6*ts.length) (LJ (fun a=>LJ (JEf ts a) 4) a) s →
  ∃ s',Aa (fun K k=>Ae.l1 K k ts s (a:Int)) s'∧s'.length=s.length∧Hq (6*ts.length) (JE ts) s'
 |0,a,s,hd,ha,hs=>by
  obtain rfl:a=ts.length:=by omega
  exact ⟨s,Aa.of fun K k=>by rw [Ae.l1,if_neg (by omega)],rfl,hs⟩
 |d+1,a,s,hd,ha,hs=>by
  have hlt:a<ts.length:=by omega
  obtain ⟨s1,l1,g1,c⟩:=jQ hv hlt 4 0 s (by omega) (by omega) (by rw [LJ,List.append_nil]; exact hs)
  obtain ⟨s',t,l,h⟩:=qE d (a+1) s1 (by omega) (by omega) (by rw [LJ]; exact g1)
  refine ⟨s',Aa.step (fun K k=>?_) (c s' t),l.trans l1,h⟩
  rw [Ae.l1,if_pos (by omega),if_pos (by omega)]
  rfl
theorem Ns {N:Nat} (hN:N≤100):∀ (d c:Nat),N - c=d→c≤N→Aa (fun K k=>Es.l1 K k (N:Int) (upto c) (c:Int)) (upto N)
 |0,c,hd,hc=>by
  obtain rfl:c=N:=by omega
  refine Aa.of fun K k=>?_
  rw [Es.l1,if_neg (by omega)]
 |d+1,c,hd,hc=>by
  refine Aa.step (fun K k=>?_) (Ns hN d (c+1) (by omega) (by omega))
  rw [Es.l1,if_pos (by omega),if_pos (by rw [Nr]; omega),Aj (by omega),Wy]
theorem Uz {N:Nat} (hN:N≤100):∀ (d c:Nat),N - c=d→c≤N→Aa (fun K k=>Er.l1 K k (N:Int) (upto c) (c:Int)) (upto N)
 |0,c,hd,hc=>by
  obtain rfl:c=N:=by omega
  refine Aa.of fun K k=>?_
  rw [Er.l1,if_neg (by omega)]
 |d+1,c,hd,hc=>by
  refine Aa.step (fun K k=>?_) (Uz hN d (c+1) (by omega) (by omega))
  rw [Er.l1,if_pos (by omega),if_pos (by rw [Nr]; omega),Aj (by omega),Wy]
theorem Qf:∃ s,Hq (6*ts.length) (JE ts) s∧Ab (fun K=>Co.f K ts) (CN (6*ts.length) s):=by
 have h8:=hv.le
 obtain ⟨s',t,l,h⟩:=qE hv ts.length 0 (upto (6*ts.length)) (by omega) (by omega) (Nq _)
 refine ⟨s',h,Ab.Kl (x:=(ts.length:Int)) rfl (Ab.bind (a:=upto (6*ts.length)) ?_ (Ab.bind t.Gz (Ab.pos l (Ab.bind (a:=CN (6*ts.length) s') ?_ (Ab.const _)))))⟩
 ·refine Ab.congr (fun K=>?_) (Ns hv (N:=6*ts.length) (by omega) _ 0 rfl (Nat.zero_le _)).Gz
  have e1:=w6' (c:=6) (a:=ts.length) (by decide) (by omega)
  rw [← e1]
  rfl
 ·have:=numbered (s:=s') (by rw [h.len]; omega)
  rw [h.len] at this
  exact this
end
structure PL (n:Nat) (J:List (Nat × Nat)) (s:List Int):Prop where
 p:Hq n J s
 l:O4 n s
theorem PL.join {n:Nat} {J:List (Nat × Nat)} {s:List Int} (hn:n≤100) (h:PL n J s) {i k:Nat} (hi:i<n) (hk:k<n):∃ s',Ab (fun K=>Ec.f K s (i:Int) (k:Int)) s'∧s'.length=s.length∧PL n (J++[(i,k)]) s':=by
 obtain ⟨s',t,l,h1,h2⟩:=yR hn h.p h.l hi hk
 exact ⟨s',t,l,h1,h2⟩
theorem PL.upto (n:Nat):PL n [] (upto n):=⟨Nq n,aY n⟩
section
variable {ts:List (List Am)} {n:Nat} (hn:n≤8) {a f b p:Nat} (ha:a<n) (hf:f<4) (hb:b<n) (hp:p<24) {J:List (Nat × Nat)}
include hn ha hf hb hp
theorem aJ {fs vs:List Int}:∀ (d e:Nat) (s:List Int),6 - e=d→e≤6→PL (6*n) (J++LJ (je ⟨b,p⟩ a f) e) s →
  ∃ s',PL (6*n) (J++LJ (je ⟨b,p⟩ a f) 6) s'∧∀ R,Aa (fun K k=>Bb.l24 K k ts (n:Int) (a:Int) vs s' fs ((f+1:Nat):Int)) R→Aa (fun K k=>Bb.l34 K k ts (n:Int) (a:Int) (f:Int) ⟨b,p⟩ fs vs s (e:Int)) R
 |0,e,s,hd,he,hs=>by
  obtain rfl:e=6:=by omega
  exact ⟨s,hs,fun R hR=>Aa.step (fun K k=>by rw [Bb.l34,if_neg (by decide),Aj (by omega)]) hR⟩
 |d+1,e,s,hd,he,hs=>by
  have he6:e<6:=by omega
  obtain ⟨q1,q2,q3⟩:=EAB he6
  obtain ⟨g1,g2,g3,g4⟩:=N8 hp he6
  by_cases hc:EA e=f∨EB e=f
  ·have hs':PL (6*n) (J++LJ (je ⟨b,p⟩ a f) (e+1)) s:=by rw [LJ,je,if_pos hc,List.append_nil]; exact hs
   obtain ⟨s',h,c⟩:=aJ d (e+1) s (by omega) (by omega) hs'
   refine ⟨s',h,fun R hR=>Aa.step (fun K k=>?_) (c R hR)⟩
   rw [Bb.l34,if_pos (by omega),P7 he6,Aj (by omega)]
   show (if _ then _ else if _ then _ else _)=_
   by_cases h1:EA e=f
   ·rw [if_pos (by omega)]
   ·rw [if_neg (by omega),if_pos (by omega)]
  ·obtain ⟨s1,t1,l1,h1⟩:=hs.join (by omega) (i:=6*a+e) (k:=6*b+EE (PA p (EA e)) (PA p (EB e))) (mul_lt ha he6) (mul_lt hb g4)
   have hs':PL (6*n) (J++LJ (je ⟨b,p⟩ a f) (e+1)) s1:=by
    rw [LJ,je,if_neg hc,← List.append_assoc]
    exact h1
   obtain ⟨s',h,c⟩:=aJ d (e+1) s1 (by omega) (by omega) hs'
   refine ⟨s',h,fun R hR=>Aa.step (G:=fun K k=>(Ct.f K (p:Int) (EA e:Int)).bind fun t2234=>(Ct.f K (p:Int) (EB e:Int)).bind fun t2238=>(E8.f K t2234 t2238).bind fun t2242=>(Ec.f K s (w64 ((w64 (6*(a:Int)))+(e:Int))) (w64 ((w64 (6*(b:Int)))+t2242))).bind fun t2246=>if t2246.length=s.length then Bb.l34 K k ts (n:Int) (a:Int) (f:Int) ⟨b,p⟩ fs vs t2246 ((e+1:Nat):Int) else none) (fun K k=>?_) (Aa.bind (Py hp (by omega)).two (Aa.bind (Py hp q2).two (Aa.bind (X3 g1 g2 g3).two (Aa.bind (a:=s1) ?_ (Aa.pos l1 (c R hR))))))⟩
   ·rw [Bb.l34,if_pos (by omega),P7 he6,Aj (by omega)]
    show (if _ then _ else if _ then _ else _)=_
    rw [if_neg (by omega),if_neg (by omega)]
   ·refine Aa.congr (fun K k=>?_) t1.two
    have e1:=w6 (c:=6) (a:=a) (e:=e) (by decide) (by omega) (by omega)
    have e2:=w6 (c:=6) (a:=b) (e:=EE (PA p (EA e)) (PA p (EB e))) (by decide) (by omega) (by omega)
    rw [← e1,← e2]
    rfl
theorem bO {fs:List Int} {ys:List Int}:∀ (d v:Nat) (s:List Int),4 - v=d→v≤4→PL (4*n) (J++LJ (jv ⟨b,p⟩ a f) v) s →
  ∃ s',PL (4*n) (J++LJ (jv ⟨b,p⟩ a f) 4) s'∧∀ R,Aa (fun K k=>Bb.l34 K k ts (n:Int) (a:Int) (f:Int) ⟨b,p⟩ fs s' ys 0) R→Aa (fun K k=>Bb.l32 K k ts (n:Int) (a:Int) ys (f:Int) ⟨b,p⟩ fs s (v:Int)) R
 |0,v,s,hd,he,hs=>by
  obtain rfl:v=4:=by omega
  exact ⟨s,hs,fun R hR=>Aa.step (fun K k=>by rw [Bb.l32,if_neg (by decide)]) hR⟩
 |d+1,v,s,hd,he,hs=>by
  have hv4:v<4:=by omega
  have g1:=H9 hp hv4
  by_cases hc:v=f
  ·obtain ⟨s',h,c⟩:=bO d (v+1) s (by omega) (by omega) (by rw [LJ,jv,if_pos hc,List.append_nil]; exact hs)
   refine ⟨s',h,fun R hR=>Aa.step (fun K k=>?_) (c R hR)⟩
   rw [Bb.l32,if_pos (by omega),if_pos (by omega),Aj (by omega)]
  ·obtain ⟨s1,t1,l1,h1⟩:=hs.join (by omega) (i:=4*a+v) (k:=4*b+PA p v) (mul_lt ha hv4) (mul_lt hb g1)
   obtain ⟨s',h,c⟩:=bO d (v+1) s1 (by omega) (by omega) (by rw [LJ,jv,if_neg hc,← List.append_assoc]; exact h1)
   refine ⟨s',h,fun R hR=>Aa.step (G:=fun K k=>(Ct.f K (p:Int) (v:Int)).bind fun t2163=>(Ec.f K s (w64 ((w64 (4*(a:Int)))+(v:Int))) (w64 ((w64 (4*(b:Int)))+t2163))).bind fun t2167=>if t2167.length=s.length then Bb.l32 K k ts (n:Int) (a:Int) ys (f:Int) ⟨b,p⟩ fs t2167 ((v+1:Nat):Int) else none) (fun K k=>?_) (Aa.bind (Py hp hv4).two (Aa.bind (a:=s1) ?_ (Aa.pos l1 (c R hR))))⟩
   ·rw [Bb.l32,if_pos (by omega),if_neg (by omega),Aj (by omega)]
   ·refine Aa.congr (fun K k=>?_) t1.two
    have e1:=w6 (c:=4) (a:=a) (e:=v) (by decide) (by omega) (by omega)
    have e2:=w6 (c:=4) (a:=b) (e:=PA p v) (by decide) (by omega) (by omega)
    rw [← e1,← e2]
    rfl
end
section
variable {ts:List (List Am)} (hv:Val ts)
include hv
theorem bU {a:Nat} (ha:a<ts.length) {JV0 JE0 JF0:List (Nat × Nat)}:∀ (d f:Nat) (vs ys fs:List Int),4 - f=d→f≤4→PL (4*ts.length) (JV0++LJ (JVf ts a) f) vs→PL (6*ts.length) (JE0++LJ (JEf ts a) f) ys→PL (4*ts.length) (JF0++LJ (JFf ts a) f) fs →
  ∃ vs' ys' fs',PL (4*ts.length) (JV0++LJ (JVf ts a) 4) vs'∧PL (6*ts.length) (JE0++LJ (JEf ts a) 4) ys'∧PL (4*ts.length) (JF0++LJ (JFf ts a) 4) fs' ∧
   ∀ R,Aa (fun K k=>Bb.l1 K k ts (ts.length:Int) vs' ys' fs' ((a+1:Nat):Int)) R→Aa (fun K k=>Bb.l24 K k ts (ts.length:Int) (a:Int) vs ys fs (f:Int)) R
 |0,f,vs,ys,fs,hd,hf,h1,h2,h3=>by
  obtain rfl:f=4:=by omega
  have:=hv.le
  exact ⟨vs,ys,fs,h1,h2,h3,fun R hR=>Aa.step (fun K k=>by rw [Bb.l24,if_neg (by decide),Aj (by omega)]) hR⟩
 |d+1,f,vs,ys,fs,hd,hf,h1,h2,h3=>by
  have h4:=hv.four a ha
  have h8:=hv.le
  have hf4:f<4:=by omega
  have start:∀ K k,Bb.l24 K (k+1) ts (ts.length:Int) (a:Int) vs ys fs (f:Int)=(if (Fg ts a f).Tet<0 then Bb.l24 K k ts (ts.length:Int) (a:Int) vs ys fs ((f+1:Nat):Int) else
    (Ct.f K (Fg ts a f).Perm (f:Int)).bind fun t2050=>(Ec.f K fs (w64 ((w64 (4*(a:Int)))+(f:Int))) (w64 ((w64 (4*(Fg ts a f).Tet))+t2050))).bind fun t2054=>if t2054.length=fs.length then Bb.l32 K k ts (ts.length:Int) (a:Int) ys (f:Int) (Fg ts a f) t2054 vs 0 else none):=fun K k=>by
   rw [Bb.l24,if_pos (by omega),if_pos (by omega),Int.toNat_natCast,if_pos (by omega),Int.toNat_natCast,Ho,Aj (by omega)]
   rfl
  rcases Jm hv ha hf4 with ⟨g1,g2⟩|⟨g1,b,p,hb,hp,g2,_⟩
  ·obtain ⟨vs',ys',fs',k1,k2,k3,c⟩:=bU ha d (f+1) vs ys fs (by omega) (by omega) (by rw [LJ,JVf,if_pos g1,List.append_nil]; exact h1) (by rw [LJ,JEf,if_pos g1,List.append_nil]; exact h2) (by rw [LJ,JFf,if_pos g1,List.append_nil]; exact h3)
   refine ⟨vs',ys',fs',k1,k2,k3,fun R hR=>Aa.step (fun K k=>?_) (c R hR)⟩
   rw [start,if_pos g1]
  ·have g3:=H9 hp hf4
   obtain ⟨fs1,t1,l1,i1⟩:=h3.join (by omega) (i:=4*a+f) (k:=4*b+PA p f) (mul_lt ha hf4) (mul_lt hb g3)
   obtain ⟨vs1,i2,c2⟩:=bO (ts:=ts) hv.le ha hf4 hb hp (fs:=fs1) (ys:=ys) 4 0 vs (by omega) (by omega) (by rw [LJ,List.append_nil]; exact h1)
   obtain ⟨ys1,i3,c3⟩:=aJ (ts:=ts) hv.le ha hf4 hb hp (fs:=fs1) (vs:=vs1) 6 0 ys (by omega) (by omega) (by rw [LJ,List.append_nil]; exact h2)
   obtain ⟨vs',ys',fs',k1,k2,k3,c⟩:=bU ha d (f+1) vs1 ys1 fs1 (by omega) (by omega) (by rw [LJ,JVf,if_neg g1,g2,← List.append_assoc]; exact i2) (by rw [LJ,JEf,if_neg g1,g2,← List.append_assoc]; exact i3) (by rw [LJ,JFf,if_neg g1,g2,← List.append_assoc]; exact i1)
   refine ⟨vs',ys',fs',k1,k2,k3,fun R hR=>Aa.step (fun K k=>?_) (Aa.bind (F:=fun K _=>Ct.f K (p:Int) (f:Int)) (G:=fun K k t2050=>(Ec.f K fs (w64 ((w64 (4*(a:Int)))+(f:Int))) (w64 ((w64 (4*(b:Int)))+t2050))).bind fun t2054=>if t2054.length=fs.length then Bb.l32 K k ts (ts.length:Int) (a:Int) ys (f:Int) ⟨b,p⟩ t2054 vs 0 else none) (Py hp hf4).two (Aa.bind (a:=fs1) ?_ (Aa.pos l1 (c2 R (c3 R (c R hR))))))⟩
   ·rw [start,if_neg g1,g2]
   ·refine Aa.congr (fun K k=>?_) t1.two
    have e1:=w6 (c:=4) (a:=a) (e:=f) (by decide) (by omega) (by omega)
    have e2:=w6 (c:=4) (a:=b) (e:=PA p f) (by decide) (by omega) (by omega)
    rw [← e1,← e2]
    rfl
theorem qW:∀ (d a:Nat) (vs ys fs:List Int),ts.length - a=d→a≤ts.length→PL (4*ts.length) (LJ (fun a=>LJ (JVf ts a) 4) a) vs→PL (6*ts.length) (LJ (fun a=>LJ (JEf ts a) 4) a) ys→PL (4*ts.length) (LJ (fun a=>LJ (JFf ts a) 4) a) fs →
  ∃ vs' ys' fs',PL (4*ts.length) (JV ts) vs'∧PL (6*ts.length) (JE ts) ys'∧PL (4*ts.length) (JF ts) fs' ∧
   Aa (fun K k=>Bb.l1 K k ts (ts.length:Int) vs ys fs (a:Int)) (rowsOf (CN (4*ts.length) vs') 4 ts.length,rowsOf (CN (6*ts.length) ys') 6 ts.length,rowsOf (CN (4*ts.length) fs') 4 ts.length,[(Ce vs' (4*ts.length):Int),(Ce ys' (6*ts.length):Int),(Ce fs' (4*ts.length):Int),(ts.length:Int)])
 |0,a,vs,ys,fs,hd,ha,h1,h2,h3=>by
  obtain rfl:a=ts.length:=by omega
  have h8:=hv.le
  have r4:Ab (fun K=>Ch.f K vs 4) _:=aB (w:=4) h1.p.len (by omega) (by decide) (by decide) h1.l
  have r6:Ab (fun K=>Ch.f K ys 6) _:=aB (w:=6) h2.p.len (by omega) (by decide) (by decide) h2.l
  have r7:Ab (fun K=>Ch.f K fs 4) _:=aB (w:=4) h3.p.len (by omega) (by decide) (by decide) h3.l
  refine ⟨vs,ys,fs,h1,h2,h3,Aa.step (G:=fun K k=>Dw (Ch.f K vs 4) (fun t2256 t2257=>if 0≤(0:Int)∧(0:Int)<(([0,0,0,(ts.length:Int)]:List Int).length:Int) then (Dw (Ch.f K ys 6) (fun t2267 t2268=>if 0≤(1:Int)∧(1:Int)<((([0,0,0,(ts.length:Int)]:List Int).set 0 t2257).length:Int) then (Dw (Ch.f K fs 4) (fun t2278 t2279=>if 0≤(2:Int)∧(2:Int)<(((([0,0,0,(ts.length:Int)]:List Int).set 0 t2257).set 1 t2268).length:Int) then (some (t2256,t2267,t2278,(((([0,0,0,(ts.length:Int)]:List Int).set 0 t2257).set 1 t2268).set 2 t2279))) else none)) else none)) else none)) (fun K k=>by rw [Bb.l1,if_neg (by omega)]) (Aa.Dw r4.two (Aa.pos (by simp) (Aa.Dw r6.two (Aa.pos (by simp) (Aa.Dw r7.two (Aa.pos (by simp) (Aa.const _)))))))⟩
 |d+1,a,vs,ys,fs,hd,ha,h1,h2,h3=>by
  have hlt:a<ts.length:=by omega
  obtain ⟨vs1,ys1,fs1,k1,k2,k3,c⟩:=bU hv hlt 4 0 vs ys fs (by omega) (by omega) (by rw [LJ,List.append_nil]; exact h1) (by rw [LJ,List.append_nil]; exact h2) (by rw [LJ,List.append_nil]; exact h3)
  obtain ⟨vs',ys',fs',i1,i2,i3,t⟩:=qW d (a+1) vs1 ys1 fs1 (by omega) (by omega) (by rw [LJ]; exact k1) (by rw [LJ]; exact k2) (by rw [LJ]; exact k3)
  refine ⟨vs',ys',fs',i1,i2,i3,Aa.step (fun K k=>?_) (c _ t)⟩
  rw [Bb.l1,if_pos (by omega)]
  rfl
theorem nJ:∃ vs ys fs,PL (4*ts.length) (JV ts) vs∧PL (6*ts.length) (JE ts) ys∧PL (4*ts.length) (JF ts) fs ∧
      Ab (fun K=>Bb.f K ts) (rowsOf (CN (4*ts.length) vs) 4 ts.length,rowsOf (CN (6*ts.length) ys) 6 ts.length,rowsOf (CN (4*ts.length) fs) 4 ts.length,[(Ce vs (4*ts.length):Int),(Ce ys (6*ts.length):Int),(Ce fs (4*ts.length):Int),(ts.length:Int)]):=by
  have h8:=hv.le
  obtain ⟨vs,ys,fs,h1,h2,h3,t⟩:=qW hv ts.length 0 (upto (4*ts.length)) (upto (6*ts.length)) (upto (4*ts.length)) (by omega) (by omega) (PL.upto _) (PL.upto _) (PL.upto _)
  have f4:Ab (fun K=>Er.f K (w64 (4*(ts.length:Int)))) (upto (4*ts.length)):=by
    refine Ab.congr (fun K=>?_) (Uz hv (N:=4*ts.length) (by omega) _ 0 rfl (Nat.zero_le _)).Gz
    have e1:=w6' (c:=4) (a:=ts.length) (by decide) (by omega)
    rw [← e1]
    rfl
  have f6:Ab (fun K=>Er.f K (w64 (6*(ts.length:Int)))) (upto (6*ts.length)):=by
    refine Ab.congr (fun K=>?_) (Uz hv (N:=6*ts.length) (by omega) _ 0 rfl (Nat.zero_le _)).Gz
    have e1:=w6' (c:=6) (a:=ts.length) (by decide) (by omega)
    rw [← e1]
    rfl
  exact ⟨vs,ys,fs,h1,h2,h3,Ab.Kl (x:=(ts.length:Int)) rfl (Ab.bind f4 (Ab.bind f6 (Ab.bind f4 t.Gz)))⟩
end
end Go.Proofs.YtgkgmhkgahalgaaGreat
