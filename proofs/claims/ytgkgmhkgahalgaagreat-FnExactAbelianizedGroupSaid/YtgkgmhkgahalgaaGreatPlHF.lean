import Derived.Test.YtgkgmhkgahalgaaGreatPlHA
set_option linter.unusedVariables false
set_option linter.unusedSimpArgs false
set_option linter.unusedSectionVars false
namespace Go.Proofs.YtgkgmhkgahalgaaGreat
open Go.RowKit
def itF {σ:Type} (f:Nat→σ→σ):Nat→Nat→σ→σ
 |0,_,s=>s
 |c+1,j,s=>itF f c (j+1) (f j s)
theorem Ov {σ:Type} {f:Nat→σ→σ} {I:σ→Prop} (hI:∀ j s,I s→I (f j s)):∀ {c j:Nat} {s:σ},I s→I (itF f c j s)
 |0,_,_,h=>h
 |c+1,j,s,h=>Ov (c:=c) (j:=j+1) hI (hI j s h)
theorem Li {σ β:Type} {l:Nat→Nat→σ→Nat→Option β} {I:σ→Prop} {n:Nat} {f:Nat→σ→σ} {r:β} (hI:∀ j s,j<n→I s→I (f j s)) (go:∀ K k s j,j<n→I s→l K (k+1) s j=l K k (f j s) (j+1)) :
    ∀ (c j:Nat) (s:σ),j+c=n→I s→(I (itF f c j s)→Aa (fun K k=>l K k (itF f c j s) n) r)→Aa (fun K k=>l K k s j) r:=by
  intro c
  induction c with
  | zero => intro j s hj hs h; obtain rfl : j = n := by omega
            exact h hs
  | succ c ih =>
    intro j s hj hs h
    exact Aa.step (fun K k=>go K k s j (by omega) hs) (ih (j+1) (f j s) (by omega) (hI j s (by omega) hs) h)
structure Sm where
 d:List Int
 l:List Int
 li:List Int
 r:List Int
 ri:List Int
structure Ok (m n:Nat) (s:Sm):Prop where
 d:s.d.length=m*n
 l:s.l.length=m*m
 li:s.li.length=m*m
 r:s.r.length=n*n
 ri:s.ri.length=n*n
 bd:Bd s.d
 bl:Bd s.l
 bli:Bd s.li
 br:Bd s.r
 bri:Bd s.ri
def swF (a b:Nat→Nat) (j:Nat) (xs:List Int):List Int:=(xs.set (a j) (xs.getD (b j) 0)).set (b j) (xs.getD (a j) 0)
theorem Js {a b:Nat→Nat} {N c j:Nat} {xs:List Int} (h:xs.length=N):(itF (swF a b) c j xs).length=N:=Ov (I:=fun xs:List Int=>xs.length=N) (fun j s h=>by unfold swF; rw [List.length_set,List.length_set]; exact h) h
theorem Rq {a b:Nat→Nat} {c j:Nat} {xs:List Int} (h:Bd xs):Bd (itF (swF a b) c j xs):=Ov (I:=Bd) (fun j s h=>(h.set (h _).1 (h _).2).set (h _).1 (h _).2) h
section
variable {m n:Nat} {xs:List Int} {c:Int}
theorem Qm {p k:Nat} (hm:m≤1000) (hn:n≤1000) (hp:p<m) (hk:k<m) (hl:xs.length=m*n) :
  Ab (fun K=>Ed.f K c (n:Int) xs (p:Int) (k:Int)) (itF (swF (rwx n p) (rwx n k)) n 0 xs) :=
 Aa.Gz (F:=fun K j=>Ed.l1 K j c (n:Int) (p:Int) (k:Int) xs ((0:Nat):Int)) (Li (f:=swF (rwx n p) (rwx n k)) (l:=fun K j xs x=>Ed.l1 K j c (n:Int) (p:Int) (k:Int) xs (x:Int)) (I:=fun xs=>xs.length=m*n) (n:=n) (fun j s _ h=>by unfold swF; rw [List.length_set,List.length_set]; exact h)
  (fun K k' xs j hj hl=>by
   show Ed.l1 K (k'+1) c (n:Int) (p:Int) (k:Int) xs (j:Int)=_
   have h1:=Jy hk hj
   simp only [Ed.l1]
   rw [if_pos (by omega),Me hl hl hp hj hm hn,Me hl hl hk hj hm hn,List.length_set,if_pos ⟨by omega,by omega⟩,Aj (by omega),Int.toNat_natCast,Int.toNat_natCast]
   rfl) n 0 xs (by omega) hl (fun _=>Aa.of fun K k'=>by
   show Ed.l1 K (k'+1) c (n:Int) (p:Int) (k:Int) _ (n:Int)=_
   simp only [Ed.l1]
   rw [if_neg (by omega)]))
theorem N7 {p k:Nat} (hm:m≤1000) (hn:n≤1000) (hp:p<n) (hk:k<n) (hl:xs.length=m*n) :
  Ab (fun K=>Du.f K (m:Int) (n:Int) xs (p:Int) (k:Int)) (itF (swF (clx n p) (clx n k)) m 0 xs) :=
 Aa.Gz (F:=fun K j=>Du.l1 K j (m:Int) (n:Int) (p:Int) (k:Int) xs ((0:Nat):Int)) (Li (f:=swF (clx n p) (clx n k)) (l:=fun K j xs x=>Du.l1 K j (m:Int) (n:Int) (p:Int) (k:Int) xs (x:Int)) (I:=fun xs=>xs.length=m*n) (n:=m) (fun j s _ h=>by unfold swF; rw [List.length_set,List.length_set]; exact h)
  (fun K k' xs j hj hl=>by
   show Du.l1 K (k'+1) (m:Int) (n:Int) (p:Int) (k:Int) xs (j:Int)=_
   have h1:=Jy hj hk
   simp only [Du.l1]
   rw [if_pos (by omega),Me hl hl hj hp hm hn,Me hl hl hj hk hm hn,List.length_set,if_pos ⟨by omega,by omega⟩,Aj (by omega),Int.toNat_natCast,Int.toNat_natCast]
   rfl) m 0 xs (by omega) hl (fun _=>Aa.of fun K k'=>by
   show Du.l1 K (k'+1) (m:Int) (n:Int) (p:Int) (k:Int) _ (m:Int)=_
   simp only [Du.l1]
   rw [if_neg (by omega)]))
theorem aI {p k:Nat} (hm:m≤1000) (hn:n≤1000) (hp:p<m) (hk:k<m) (hl:xs.length=m*n) :
  Ab (fun K=>Ex.f K c (n:Int) xs (p:Int) (k:Int)) (itF (swF (rwx n p) (rwx n k)) n 0 xs) :=
 Aa.Gz (F:=fun K j=>Ex.l1 K j c (n:Int) (p:Int) (k:Int) xs ((0:Nat):Int)) (Li (f:=swF (rwx n p) (rwx n k)) (l:=fun K j xs x=>Ex.l1 K j c (n:Int) (p:Int) (k:Int) xs (x:Int)) (I:=fun xs=>xs.length=m*n) (n:=n) (fun j s _ h=>by unfold swF; rw [List.length_set,List.length_set]; exact h)
  (fun K k' xs j hj hl=>by
   show Ex.l1 K (k'+1) c (n:Int) (p:Int) (k:Int) xs (j:Int)=_
   have h1:=Jy hk hj
   have h2:=Jy hp hj
   simp only [Ex.l1]
   rw [if_pos (by omega),Lt hl hp hj hm hn,Option.bind_some,Lt hl hk hj hm hn,Option.bind_some,Tf (by omega) (by omega) hn,Tf (by omega) (by omega) hn,List.length_set,if_pos ⟨by omega,by omega⟩,if_pos ⟨by omega,by omega⟩,Aj (by omega),Int.toNat_natCast,Int.toNat_natCast]
   rfl) n 0 xs (by omega) hl (fun _=>Aa.of fun K k'=>by
   show Ex.l1 K (k'+1) c (n:Int) (p:Int) (k:Int) _ (n:Int)=_
   simp only [Ex.l1]
   rw [if_neg (by omega)]))
theorem U5 {p k:Nat} (hm:m≤1000) (hn:n≤1000) (hp:p<n) (hk:k<n) (hl:xs.length=m*n) :
  Ab (fun K=>D9.f K (m:Int) (n:Int) xs (p:Int) (k:Int)) (itF (swF (clx n p) (clx n k)) m 0 xs) :=
 Aa.Gz (F:=fun K j=>D9.l1 K j (m:Int) (n:Int) (p:Int) (k:Int) xs ((0:Nat):Int)) (Li (f:=swF (clx n p) (clx n k)) (l:=fun K j xs x=>D9.l1 K j (m:Int) (n:Int) (p:Int) (k:Int) xs (x:Int)) (I:=fun xs=>xs.length=m*n) (n:=m) (fun j s _ h=>by unfold swF; rw [List.length_set,List.length_set]; exact h)
  (fun K k' xs j hj hl=>by
   show D9.l1 K (k'+1) (m:Int) (n:Int) (p:Int) (k:Int) xs (j:Int)=_
   have h1:=Jy hj hk
   have h2:=Jy hj hp
   simp only [D9.l1]
   rw [if_pos (by omega),Lt hl hj hp hm hn,Option.bind_some,Lt hl hj hk hm hn,Option.bind_some,Tf (by omega) (by omega) hn,Tf (by omega) (by omega) hn,List.length_set,if_pos ⟨by omega,by omega⟩,if_pos ⟨by omega,by omega⟩,Aj (by omega),Int.toNat_natCast,Int.toNat_natCast]
   rfl) m 0 xs (by omega) hl (fun _=>Aa.of fun K k'=>by
   show D9.l1 K (k'+1) (m:Int) (n:Int) (p:Int) (k:Int) _ (m:Int)=_
   simp only [D9.l1]
   rw [if_neg (by omega)]))
end
def Nj (n:Nat) (d:List Int) (i j:Nat) (s:Option (Nat × Nat)):Option (Nat × Nat) :=
 if (d.getD (i*n+j) 0).natAbs=0 then s else match s with
  |none=>some (i,j)
  |some (p,q)=>if (d.getD (i*n+j) 0).natAbs<(d.getD (p*n+q) 0).natAbs then some (i,j) else some (p,q)
def Oi (n k:Nat) (d:List Int) (i:Nat) (s:Option (Nat × Nat)):Option (Nat × Nat):=itF (Nj n d i) (n - k) k s
def sel (m n k:Nat) (d:List Int):Option (Nat × Nat):=itF (Oi n k d) (m - k) k none
def InR (m n k:Nat) (s:Option (Nat × Nat)):Prop:=∀ p q,s=some (p,q)→k≤p∧p<m∧k≤q∧q<n
theorem Xp {m n k i j:Nat} {d:List Int} {s:Option (Nat × Nat)} (hk:k≤i) (hi:i<m) (hk':k≤j) (hj:j<n) (h:InR m n k s):InR m n k (Nj n d i j s):=by
 unfold Nj
 split
 ·exact h
 ·cases s with
  |none=>intro p q e; cases e; exact ⟨hk,hi,hk',hj⟩
  |some v =>
   obtain ⟨p0,q0⟩:=v
   dsimp only
   split
   ·intro p q e; cases e; exact ⟨hk,hi,hk',hj⟩
   ·exact h
theorem Xt {m n k i:Nat} {d:List Int} {s:Option (Nat × Nat)} (hn:k≤n) (hk:k≤i) (hi:i<m) (h:InR m n k s):InR m n k (Oi n k d i s):=by
 have:∀ c j s,k≤j→j+c=n→InR m n k s→InR m n k (itF (Nj n d i) c j s):=by
  intro c
  induction c with
  |zero=>intro j s _ _ h; exact h
  |succ c ih=>intro j s hj hc h; exact ih (j+1) _ (by omega) (by omega) (Xp hk hi hj (by omega) h)
 exact this (n - k) k s (Nat.le_refl _) (by omega) h
def encI:Option (Nat × Nat)→Int × Int × Bool
 |none=>(0,0,false)
 |some (p,q)=>((p:Int),(q:Int),true)
def encS:Option (Nat × Nat)→Int × Int
 |none=>(-1,-1)
 |some (p,q)=>((p:Int),(q:Int))
section
variable {m n k:Nat} {d:List Int}
theorem Zy {r:Int × Int × Bool} (hm:m≤1000) (hn:n≤1000) (hl:d.length=m*n) (hb:Bd d) (hk:k<n) {i:Nat} (hki:k≤i) (hi:i<m) {s:Option (Nat × Nat)} (hs:InR m n k s)
  (h:InR m n k (Oi n k d i s)→Aa (fun K x=>Bi.l1 K x (m:Int) (n:Int) d (k:Int) (encI (Oi n k d i s)).1 (encI (Oi n k d i s)).2.1 (encI (Oi n k d i s)).2.2 ((i+1:Nat):Int)) r) :
  Aa (fun K x=>Bi.l4 K x (m:Int) (n:Int) d (k:Int) (i:Int) (encI s).1 (encI s).2.1 (encI s).2.2 (k:Int)) r:=by
 have main:∀ (c j:Nat) (s:Option (Nat × Nat)),j+c=n→k≤j→InR m n k s→(InR m n k (itF (Nj n d i) c j s)→Aa (fun K x=>Bi.l1 K x (m:Int) (n:Int) d (k:Int) (encI (itF (Nj n d i) c j s)).1 (encI (itF (Nj n d i) c j s)).2.1 (encI (itF (Nj n d i) c j s)).2.2 ((i+1:Nat):Int)) r) →
   Aa (fun K x=>Bi.l4 K x (m:Int) (n:Int) d (k:Int) (i:Int) (encI s).1 (encI s).2.1 (encI s).2.2 (j:Int)) r:=by
  intro c
  induction c with
  |zero =>
   intro j s hj hkj hs h
   obtain rfl:j=n:=by omega
   refine Aa.step (fun K x=>?_) (h hs)
   simp only [Bi.l4]
   rw [if_neg (by omega),Aj (by omega)]; rfl
  |succ c ih =>
   intro j s hj hkj hs h
   have hjn:j<n:=by omega
   refine Aa.step (fun K x=>?_) (ih (j+1) (Nj n d i j s) (by omega) (by omega) (Xp hki hi hkj hjn hs) h)
   have hbd:=hb (i*n+j)
   simp only [Bi.l4]
   rw [if_pos (by omega),Me hl hl hi hjn hm hn,Int.toNat_natCast,Wx (by omega),Option.bind_some,Aj (by omega)]
   unfold Nj
   by_cases h0:(d.getD (i*n+j) 0).natAbs=0
   ·rw [if_pos (by omega),if_pos h0]
   ·rw [if_neg (by omega),if_neg h0]
    cases s with
    |none=>exact if_neg Bool.false_ne_true
    |some v =>
     obtain ⟨p,q⟩:=v
     obtain ⟨_,h1,_,h2⟩:=hs p q rfl
     have hbp:=hb (p*n+q)
     refine (if_pos rfl).trans ((Me (m:=m) hl hl h1 h2 hm hn).trans ?_)
     rw [Int.toNat_natCast,Wx (by omega),Option.bind_some]
     by_cases h3:(d.getD (i*n+j) 0).natAbs<(d.getD (p*n+q) 0).natAbs
     ·rw [if_pos (by omega)]; dsimp only; rw [if_pos h3]; rfl
     ·rw [if_neg (by omega)]; dsimp only; rw [if_neg h3]
 exact main (n - k) k s (by omega) (Nat.le_refl _) hs h
theorem Ub (hm:m≤1000) (hn:n≤1000) (hl:d.length=m*n) (hb:Bd d) (hk:k<n) (hkm:k<m) :
  InR m n k (sel m n k d)∧Aa (fun K x=>Bi.l1 K x (m:Int) (n:Int) d (k:Int) 0 0 false (k:Int)) (encI (sel m n k d)):=by
 have main:∀ (c i:Nat) (s:Option (Nat × Nat)),i+c=m→k≤i→InR m n k s→InR m n k (itF (Oi n k d) c i s)∧Aa (fun K x=>Bi.l1 K x (m:Int) (n:Int) d (k:Int) (encI s).1 (encI s).2.1 (encI s).2.2 (i:Int)) (encI (itF (Oi n k d) c i s)):=by
  intro c
  induction c with
  |zero =>
   intro i s hi hki hs
   obtain rfl:i=m:=by omega
   refine ⟨hs,Aa.of fun K x=>?_⟩
   simp only [Bi.l1]
   rw [if_neg (by omega)]; rfl
  |succ c ih =>
   intro i s hi hki hs
   obtain ⟨h1,h2⟩:=ih (i+1) (Oi n k d i s) (by omega) (by omega) (Xt (by omega) hki (by omega) hs)
   refine ⟨h1,Aa.step (fun K x=>?_) (Zy hm hn hl hb hk hki (by omega) hs (fun _=>h2))⟩
   simp only [Bi.l1]
   rw [if_pos (by omega)]
 exact main (m - k) k none (by omega) (Nat.le_refl _) (fun p q e=>by cases e)
end
def ngF (a:Nat→Nat) (j:Nat) (xs:List Int):List Int:=xs.set (a j) (-(xs.getD (a j) 0))
theorem Yk {a:Nat→Nat} {N c j:Nat} {xs:List Int} (h:xs.length=N):(itF (ngF a) c j xs).length=N:=Ov (I:=fun xs:List Int=>xs.length=N) (fun j s h=>by unfold ngF; rw [List.length_set]; exact h) h
theorem bJ {a:Nat→Nat} {c j:Nat} {xs:List Int} (h:Bd xs):Bd (itF (ngF a) c j xs):=Ov (I:=Bd) (fun j s h=>by
 have:=h (a j)
 exact h.set (by omega) (by omega)) h
def swp (m n k p q:Nat) (s:Sm):Sm where
 d:=itF (swF (clx n q) (clx n k)) m 0 (itF (swF (rwx n p) (rwx n k)) n 0 s.d)
 l:=itF (swF (rwx m p) (rwx m k)) m 0 s.l
 li:=itF (swF (clx m p) (clx m k)) m 0 s.li
 r:=itF (swF (clx n q) (clx n k)) n 0 s.r
 ri:=itF (swF (rwx n q) (rwx n k)) n 0 s.ri
def ngk (m n k:Nat) (s:Sm):Sm:={ s with d:=itF (ngF (rwx n k)) n 0 s.d,l:=itF (ngF (rwx m k)) m 0 s.l,li:=itF (ngF (clx m k)) m 0 s.li }
def pvt (m n k:Nat) (s:Sm):Option Sm:=(sel m n k s.d).map fun v=>if (swp m n k v.1 v.2 s).d.getD (k*n+k) 0<0 then ngk m n k (swp m n k v.1 v.2 s) else swp m n k v.1 v.2 s
theorem Vm {m n k p q:Nat} {s:Sm} (h:Ok m n s):Ok m n (swp m n k p q s):=⟨Js (Js h.d),Js h.l,Js h.li,Js h.r,Js h.ri,Rq (Rq h.bd),Rq h.bl,Rq h.bli,Rq h.br,Rq h.bri⟩
theorem uI {m n k:Nat} {s:Sm} (h:Ok m n s):Ok m n (ngk m n k s):=⟨Yk h.d,Yk h.l,Yk h.li,h.r,h.ri,bJ h.bd,bJ h.bl,bJ h.bli,h.br,h.bri⟩
theorem Qn {m n k:Nat} {s t:Sm} (h:Ok m n s) (hp:pvt m n k s=some t):Ok m n t:=by
 unfold pvt at hp
 rw [Option.map_eq_some_iff] at hp
 obtain ⟨v,_,rfl⟩:=hp
 split
 ·exact uI (Vm h)
 ·exact Vm h
theorem Tt {xs:List Int} {a b j:Nat} (h:b≤xs.length) (hj:a+j<b):((xs.take b).drop a).getD j 0=xs.getD (a+j) 0:=by
 rw [List.getD_eq_getElem?_getD,List.getElem?_drop,List.getElem?_take_of_lt hj,← List.getD_eq_getElem?_getD]
theorem dS {m n:Nat} {c:Int} {xs:List Int} {i:Nat} (hm:m≤1000) (hn:n≤1000) (hi:i<m) (hl:xs.length=m*n):Gf.f c (n:Int) xs (i:Int)=some (((i*n:Nat):Int),(((i+1)*n:Nat):Int)):=by
 unfold Gf.f
 have h1:=Kr (a:=i) (b:=n) (by omega) hn
 have h2:=Kr (a:=i+1) (b:=n) (by omega) hn
 have h3:(i+1)*n≤m*n:=Nat.mul_le_mul_right n hi
 have h4:i*n≤(i+1)*n:=Nat.mul_le_mul_right n (Nat.le_succ i)
 rw [Aj (by omega),← Int.natCast_mul,← Int.natCast_mul,Ra (by omega),Ra (by omega),if_pos ⟨by omega,by omega⟩,if_pos ⟨by omega,by omega⟩]
section
variable {m n k:Nat} {s:Sm}
theorem Rp {xs:List Int} {N:Nat} (hl:xs.length=N) {p:Nat} (hb:Bd xs):w64 (0 - xs.getD p 0) = -(xs.getD p 0):=by
 have:=hb p
 rw [E9 (by omega) (by omega)]; omega
theorem fU {d l r ri:List Int} {c:Int} {x:List Int} (hm:m≤1000) (hk:k<m) (hl:x.length=m*m) (hb:Bd x) :
  Aa (fun K j=>Bg.l13 K j (m:Int) (m:Int) (k:Int) r ri d l x 0) (true,l,itF (ngF (clx m k)) m 0 x,d,r,ri) :=
 Li (f:=ngF (clx m k)) (l:=fun K j x i=>Bg.l13 K j (m:Int) (m:Int) (k:Int) r ri d l x (i:Int)) (I:=fun x=>x.length=m*m∧Bd x) (n:=m) (fun j x _ h=>⟨by unfold ngF; rw [List.length_set]; exact h.1,by have:=h.2 (clx m k j); exact h.2.set (by omega) (by omega)⟩)
  (fun K k' x j hj h=>by
   show Bg.l13 K (k'+1) (m:Int) (m:Int) (k:Int) r ri d l x (j:Int)=_
   simp only [Bg.l13]
   rw [if_pos (by omega),Me h.1 h.1 hj hk hm hm,Me h.1 h.1 hj hk hm hm,Int.toNat_natCast,Aj (by omega),Rp h.1 h.2]
   rfl) m 0 x (by omega) ⟨hl,hb⟩ (fun _=>Aa.of fun K k'=>by
   simp only [Bg.l13]
   rw [if_neg (by omega)])
theorem gN {d r ri li y:List Int} {c:Int} {x:List Int} (hm:m≤1000) (hk:k<m) (hl:x.length=m*m) (hb:Bd x) (hy:y.length=m*m) (hli:li.length=m*m) (hbi:Bd li) :
  Aa (fun K j=>Bg.l10 K j (m:Int) (m:Int) (k:Int) y li r ri ((k*m:Nat):Int) (((k+1)*m:Nat):Int) d x 0) (true,itF (ngF (rwx m k)) m 0 x,itF (ngF (clx m k)) m 0 li,d,r,ri):=by
 have h3:(k+1)*m≤m*m:=Nat.mul_le_mul_right m hk
 have h4:(k+1)*m=k*m+m:=Nat.succ_mul k m
 have h5:=Kr hm hm
 have hd:∀ z:List Int,z.length=m*m→((z.take ((k+1)*m)).drop (k*m)).length=m:=fun z hz=>by rw [List.length_drop,List.length_take]; omega
 refine Li (f:=ngF (rwx m k)) (l:=fun K j x i=>Bg.l10 K j (m:Int) (m:Int) (k:Int) y li r ri ((k*m:Nat):Int) (((k+1)*m:Nat):Int) d x (i:Int)) (I:=fun x=>x.length=m*m∧Bd x) (n:=m) (fun j x _ h=>⟨by unfold ngF; rw [List.length_set]; exact h.1,by have:=h.2 (rwx m k j); exact h.2.set (by omega) (by omega)⟩)
  (fun K k' x j hj h=>?_) m 0 x (by omega) ⟨hl,hb⟩ (fun h=>Aa.step (fun K k'=>?_) (fU (c:=c) hm hk hli hbi))
 ·show Bg.l10 K (k'+1) (m:Int) (m:Int) (k:Int) y li r ri ((k*m:Nat):Int) (((k+1)*m:Nat):Int) d x (j:Int)=_
  simp only [Bg.l10,Int.toNat_natCast]
  have hx:=h.1
  rw [if_pos (by omega),hd y hy,if_pos (by omega),hd x h.1,if_pos ⟨by omega,by omega⟩,List.length_set,if_pos (by omega),Tt (by omega) (by omega),Aj (by omega),Rp h.1 h.2]
  rfl
 ·simp only [Bg.l10,Int.toNat_natCast]
  have hx:=h.1
  rw [if_pos (by omega),hd y hy,if_neg (by omega)]
theorem lH {l r ri li y:List Int} {x:List Int} (hm:m≤1000) (hn:n≤1000) (hk:k<m) (hl:x.length=m*n) (hb:Bd x) (hy:y.length=m*n) (hll:l.length=m*m) (hbl:Bd l) (hli:li.length=m*m) (hbi:Bd li) :
  Aa (fun K j=>Bg.l1 K j (m:Int) (m:Int) (k:Int) l li y r ri ((k*n:Nat):Int) (((k+1)*n:Nat):Int) ((k*m:Nat):Int) (((k+1)*m:Nat):Int) x 0) (true,itF (ngF (rwx m k)) m 0 l,itF (ngF (clx m k)) m 0 li,itF (ngF (rwx n k)) n 0 x,r,ri):=by
 have h3:(k+1)*n≤m*n:=Nat.mul_le_mul_right n hk
 have h4:(k+1)*n=k*n+n:=Nat.succ_mul k n
 have h6:(k+1)*m≤m*m:=Nat.mul_le_mul_right m hk
 have h5:=Kr hm hn
 have hd:∀ z:List Int,z.length=m*n→((z.take ((k+1)*n)).drop (k*n)).length=n:=fun z hz=>by rw [List.length_drop,List.length_take]; omega
 refine Li (f:=ngF (rwx n k)) (l:=fun K j x i=>Bg.l1 K j (m:Int) (m:Int) (k:Int) l li y r ri ((k*n:Nat):Int) (((k+1)*n:Nat):Int) ((k*m:Nat):Int) (((k+1)*m:Nat):Int) x (i:Int)) (I:=fun x=>x.length=m*n∧Bd x) (n:=n) (fun j x _ h=>⟨by unfold ngF; rw [List.length_set]; exact h.1,by have:=h.2 (rwx n k j); exact h.2.set (by omega) (by omega)⟩)
  (fun K k' x j hj h=>?_) n 0 x (by omega) ⟨hl,hb⟩ (fun h=>Aa.step (fun K k'=>?_) (gN (c:=0) hm hk hll hbl hll hli hbi))
 ·show Bg.l1 K (k'+1) (m:Int) (m:Int) (k:Int) l li y r ri ((k*n:Nat):Int) (((k+1)*n:Nat):Int) ((k*m:Nat):Int) (((k+1)*m:Nat):Int) x (j:Int)=_
  simp only [Bg.l1,Int.toNat_natCast]
  have hx:=h.1
  rw [if_pos (by omega),hd y hy,if_pos (by omega),hd x h.1,if_pos ⟨by omega,by omega⟩,List.length_set,if_pos (by omega),Tt (by omega) (by omega),Aj (by omega),Rp h.1 h.2]
  rfl
 ·simp only [Bg.l1,Int.toNat_natCast]
  have hx:=h.1
  rw [if_pos (by omega),hd y hy,if_neg (by omega),if_pos (by omega)]
def Vg:Bool × Sm→Bool × List Int × List Int × List Int × List Int × List Int:=fun v=>(v.1,v.2.l,v.2.li,v.2.d,v.2.r,v.2.ri)
def vY:Bool × Sm→Bool × List Int × List Int × List Int × List Int × List Int:=fun v=>(v.1,v.2.d,v.2.l,v.2.li,v.2.r,v.2.ri)
theorem pO {b:Bool} (hm:m≤1000) (hn:n≤1000) (h:Ok m n s) (hk:k<m) (hkn:k<n) :
  Ab (fun K=>Bg.f K (m:Int) (m:Int) s.l (m:Int) (m:Int) s.li (m:Int) (n:Int) s.d (n:Int) (n:Int) s.r (n:Int) (n:Int) s.ri b (k:Int)) (Vg ((pvt m n k s).isSome,(pvt m n k s).getD s)):=by
 obtain ⟨hr,hs⟩:=Ub hm hn h.d h.bd hkn hk
 unfold Bg.f
 refine Ab.Gy (a:=(encI (sel m n k s.d)).1) (b:=(encI (sel m n k s.d)).2.1) (c:=(encI (sel m n k s.d)).2.2) (by unfold Bi.f; exact hs.Gz) ?_
 unfold pvt
 cases hv:sel m n k s.d with
 |none=>exact Ab.neg (by simp [encI]) (Ab.const _)
 |some v =>
  obtain ⟨p,q⟩:=v
  rw [hv] at hr
  obtain ⟨_,hp,_,hq⟩:=hr p q rfl
  refine Ab.pos (by simp [encI]) ?_
  simp only [encI]
  have hl:=Vm (k:=k) (p:=p) (q:=q) h
  refine (Qm hm hn hp hk h.d).bind (Ab.pos (by rw [h.d]; exact Js h.d) ?_)
  refine (Qm hm hm hp hk h.l).bind (Ab.pos (by rw [h.l]; exact Js h.l) ?_)
  refine (N7 hm hm hp hk h.li).bind (Ab.pos (by rw [h.li]; exact Js h.li) ?_)
  refine (N7 hm hn hq hkn (Js h.d)).bind (Ab.pos (by rw [Js h.d]; exact hl.d) ?_)
  refine (N7 hn hn hq hkn h.r).bind (Ab.pos (by rw [h.r]; exact Js h.r) ?_)
  refine (Qm hn hn hq hkn h.ri).bind (Ab.pos (by rw [h.ri]; exact Js h.ri) ?_)
  refine Ab.congr (fun K=>Me (m:=m) hl.d hl.d hk hkn hm hn) ?_
  rw [Int.toNat_natCast]
  have h3:(k+1)*n≤m*n:=Nat.mul_le_mul_right n hk
  have h6:(k+1)*m≤m*m:=Nat.mul_le_mul_right m hk
  have h7:k*n≤(k+1)*n:=Nat.mul_le_mul_right n (Nat.le_succ k)
  have h8:k*m≤(k+1)*m:=Nat.mul_le_mul_right m (Nat.le_succ k)
  have hd:=hl.d
  have hll:=hl.l
  by_cases hg:(swp m n k p q s).d.getD (k*n+k) 0<0
  ·refine Ab.pos hg ?_
   refine Ab.Dw (Ab.congr (fun K=>dS hm hn hk hl.d) (Ab.const _)) ?_
   refine Ab.pos ⟨by omega,by omega⟩ (Ab.pos ⟨by omega,by show (((k+1)*n:Nat):Int)≤((swp m n k p q s).d.length:Int); omega⟩ ?_)
   refine Ab.Dw (Ab.congr (fun K=>dS hm hm hk hl.l) (Ab.const _)) ?_
   refine Ab.pos ⟨by omega,by omega⟩ (Ab.pos ⟨by omega,by show (((k+1)*m:Nat):Int)≤((swp m n k p q s).l.length:Int); omega⟩ ?_)
   have h9:=(lH (r:=(swp m n k p q s).r) (ri:=(swp m n k p q s).ri) hm hn hk hl.d hl.bd hl.d hl.l hl.bl hl.li hl.bli).Gz
   simp only [Option.map_some,if_pos hg]
   exact h9
  ·refine Ab.neg hg ?_
   simp only [Option.map_some,if_neg hg]
   exact Ab.const _
end
section
variable {m n k:Nat} {s:Sm}
abbrev dF (m n k:Nat) (s:Sm) (i:Int) (p q:Int) (j:Int) (K x:Nat):=Bn.l8 K x (m:Int) (n:Int) s.d (m:Int) (m:Int) s.l (m:Int) (m:Int) s.li (n:Int) (n:Int) s.r (n:Int) (n:Int) s.ri (k:Int) i p q j
abbrev Wp (m n k:Nat) (s:Sm) (p q:Int) (i:Int) (K x:Nat):=Bn.l1 K x (m:Int) (n:Int) s.d (m:Int) (m:Int) s.l (m:Int) (m:Int) s.li (n:Int) (n:Int) s.r (n:Int) (n:Int) s.ri (k:Int) p q i
theorem gD {r:Bool × List Int × List Int × List Int × List Int × List Int} (hm:m≤1000) (hn:n≤1000) (hl:s.d.length=m*n) (hb:Bd s.d) (hk:k<n) {i:Nat} (hki:k≤i) (hi:i<m) {z:Option (Nat × Nat)} (hs:InR m n k z)
  (h:Aa (fun K x=>Wp m n k s (encS (Oi n k s.d i z)).1 (encS (Oi n k s.d i z)).2 ((i+1:Nat):Int) K x) r) :
  Aa (fun K x=>dF m n k s (i:Int) (encS z).1 (encS z).2 (k:Int) K x) r:=by
 have main:∀ (c j:Nat) (z:Option (Nat × Nat)),j+c=n→k≤j→InR m n k z→Aa (fun K x=>Wp m n k s (encS (itF (Nj n s.d i) c j z)).1 (encS (itF (Nj n s.d i) c j z)).2 ((i+1:Nat):Int) K x) r →
   Aa (fun K x=>dF m n k s (i:Int) (encS z).1 (encS z).2 (j:Int) K x) r:=by
  intro c
  induction c with
  |zero =>
   intro j z hj hkj hs h
   obtain rfl:j=n:=by omega
   refine Aa.step (fun K x=>?_) h
   simp only [dF,Bn.l8]
   rw [if_neg (by omega),Aj (by omega)]; rfl
  |succ c ih =>
   intro j z hj hkj hs h
   have hjn:j<n:=by omega
   refine Aa.step (fun K x=>?_) (ih (j+1) (Nj n s.d i j z) (by omega) (by omega) (Xp hki hi hkj hjn hs) h)
   have hbd:=hb (i*n+j)
   simp only [dF,Bn.l8]
   rw [if_pos (by omega),Lt hl hi hjn hm hn,Option.bind_some,Yt (by omega),Option.bind_some,Aj (by omega)]
   unfold Nj
   by_cases h0:(s.d.getD (i*n+j) 0).natAbs=0
   ·rw [if_neg (by omega),if_pos h0]
   ·rw [if_pos (by omega),if_neg h0]
    cases z with
    |none=>exact if_pos (by decide)
    |some v =>
     obtain ⟨p,q⟩:=v
     obtain ⟨_,h1,_,h2⟩:=hs p q rfl
     have hbp:=hb (p*n+q)
     refine (if_neg (show ¬ (p:Int)<0 by omega)).trans ((congrArg (fun y=>Option.bind y _) (Lt hl h1 h2 hm hn)).trans ?_)
     rw [Option.bind_some,Yt (by omega),Option.bind_some]
     by_cases h3:(s.d.getD (i*n+j) 0).natAbs<(s.d.getD (p*n+q) 0).natAbs
     ·rw [if_pos (by omega)]; dsimp only; rw [if_pos h3]; rfl
     ·rw [if_neg (by omega)]; dsimp only; rw [if_neg h3]
 exact main (n - k) k z (by omega) (Nat.le_refl _) hs h
theorem aH {d l r ri li:List Int} {a b:Int} (hm:m≤1000) (hk:k<m) (hll:l.length=m*m) (hbl:Bd l) (hli:li.length=m*m) (hbi:Bd li) :
  Aa (fun K j=>Bn.l12 K j (m:Int) (m:Int) (m:Int) (m:Int) (k:Int) r ri d l li 0) (true,d,itF (ngF (rwx m k)) m 0 l,itF (ngF (clx m k)) m 0 li,r,ri):=by
 have main:∀ (c j:Nat) (l li:List Int),j+c=m→l.length=m*m→Bd l→li.length=m*m→Bd li→Aa (fun K x=>Bn.l12 K x (m:Int) (m:Int) (m:Int) (m:Int) (k:Int) r ri d l li (j:Int)) (true,d,itF (ngF (rwx m k)) c j l,itF (ngF (clx m k)) c j li,r,ri):=by
  intro c
  induction c with
  |zero =>
   intro j l li hj _ _ _ _
   obtain rfl:j=m:=by omega
   refine Aa.of fun K x=>?_
   simp only [Bn.l12]
   rw [if_neg (by omega)]; rfl
  |succ c ih =>
   intro j l li hj h1 h2 h3 h4
   have hj':j<m:=by omega
   have e1:=Jy hk hj'
   have e2:=Jy hj' hk
   have b1:=h2 (k*m+j)
   have b2:=h4 (j*m+k)
   refine Aa.step (fun K x=>?_) (ih (j+1) (ngF (rwx m k) j l) (ngF (clx m k) j li) (by omega) (by unfold ngF; rw [List.length_set]; exact h1) (h2.set (v:=-(l.getD (k*m+j) 0)) (by omega) (by omega)) (by unfold ngF; rw [List.length_set]; exact h3) (h4.set (v:=-(li.getD (j*m+k) 0)) (by omega) (by omega)))
   simp only [Bn.l12]
   rw [if_pos (by omega),Lt h1 hk hj' hm hm,Option.bind_some,Tf (by omega) (by omega) hm,if_pos ⟨by omega,by omega⟩,Lt h3 hj' hk hm hm,Option.bind_some,Tf (by omega) (by omega) hm,if_pos ⟨by omega,by omega⟩,Int.toNat_natCast,Int.toNat_natCast,Aj (by omega),Rp h1 h2,Rp h3 h4]
   rfl
 exact main m 0 l li (by omega) hll hbl hli hbi
theorem fF {l r ri li x:List Int} (hm:m≤1000) (hn:n≤1000) (hk:k<m) (hl:x.length=m*n) (hb:Bd x) (hll:l.length=m*m) (hbl:Bd l) (hli:li.length=m*m) (hbi:Bd li) :
  Aa (fun K j=>Bn.l9 K j (m:Int) (n:Int) (m:Int) (m:Int) (m:Int) (m:Int) (k:Int) l li r ri x 0) (true,itF (ngF (rwx n k)) n 0 x,itF (ngF (rwx m k)) m 0 l,itF (ngF (clx m k)) m 0 li,r,ri) :=
 Li (f:=ngF (rwx n k)) (l:=fun K j x i=>Bn.l9 K j (m:Int) (n:Int) (m:Int) (m:Int) (m:Int) (m:Int) (k:Int) l li r ri x (i:Int)) (I:=fun x=>x.length=m*n∧Bd x) (n:=n) (fun j x _ h=>⟨by unfold ngF; rw [List.length_set]; exact h.1,by have:=h.2 (rwx n k j); exact h.2.set (by omega) (by omega)⟩)
  (fun K k' x j hj h=>by
   show Bn.l9 K (k'+1) (m:Int) (n:Int) (m:Int) (m:Int) (m:Int) (m:Int) (k:Int) l li r ri x (j:Int)=_
   have e1:=Jy hk hj
   have hx:=h.1
   simp only [Bn.l9]
   rw [if_pos (by omega),Lt h.1 hk hj hm hn,Option.bind_some,Tf (by omega) (by omega) hn,if_pos ⟨by omega,by omega⟩,Int.toNat_natCast,Aj (by omega),Rp h.1 h.2]
   rfl) n 0 x (by omega) ⟨hl,hb⟩ (fun h=>Aa.step (fun K k'=>by
   simp only [Bn.l9]
   rw [if_neg (by omega)]) (aH (a:=0) (b:=0) hm hk hll hbl hli hbi))
theorem jW {b:Bool} (hm:m≤1000) (hn:n≤1000) (h:Ok m n s) (hk:k<m) (hkn:k<n) :
  Ab (fun K=>Bn.f K (m:Int) (n:Int) s.d (m:Int) (m:Int) s.l (m:Int) (m:Int) s.li (n:Int) (n:Int) s.r (n:Int) (n:Int) s.ri b (k:Int)) (vY ((pvt m n k s).isSome,(pvt m n k s).getD s)):=by
 obtain ⟨hr,_⟩:=Ub hm hn h.d h.bd hkn hk
 have fin:Aa (fun K x=>Wp m n k s (encS (sel m n k s.d)).1 (encS (sel m n k s.d)).2 (m:Int) K x) (vY ((pvt m n k s).isSome,(pvt m n k s).getD s)):=by
  unfold pvt
  refine Aa.succ ?_
  simp only [Wp,Bn.l1]
  refine Aa.neg (by omega) ?_
  cases hv:sel m n k s.d with
  |none=>exact Aa.pos (by simp [encS]) (Aa.const _)
  |some v =>
   obtain ⟨p,q⟩:=v
   rw [hv] at hr
   obtain ⟨_,hp,_,hq⟩:=hr p q rfl
   refine Aa.neg (by simp only [encS]; omega) ?_
   have hl:=Vm (k:=k) (p:=p) (q:=q) h
   refine (aI hm hn hp hk h.d).two.bind (Aa.pos (by rw [h.d]; exact Js h.d) ?_)
   refine (aI hm hm hp hk h.l).two.bind (Aa.pos (by rw [h.l]; exact Js h.l) ?_)
   refine (U5 hm hm hp hk h.li).two.bind (Aa.pos (by rw [h.li]; exact Js h.li) ?_)
   refine (U5 hm hn hq hkn (Js h.d)).two.bind (Aa.pos (by rw [Js h.d]; exact hl.d) ?_)
   refine (U5 hn hn hq hkn h.r).two.bind (Aa.pos (by rw [h.r]; exact Js h.r) ?_)
   refine (aI hn hn hq hkn h.ri).two.bind (Aa.pos (by rw [h.ri]; exact Js h.ri) ?_)
   refine Aa.Kl (Lt (m:=m) hl.d hk hkn hm hn) ?_
   by_cases hg:(swp m n k p q s).d.getD (k*n+k) 0<0
   ·refine Aa.pos hg ?_
    simp only [Option.map_some,if_pos hg]
    exact fF (r:=(swp m n k p q s).r) (ri:=(swp m n k p q s).ri) hm hn hk hl.d hl.bd hl.l hl.bl hl.li hl.bli
   ·refine Aa.neg hg ?_
    simp only [Option.map_some,if_neg hg]
    exact Aa.const _
 have main:∀ (c i:Nat) (z:Option (Nat × Nat)),i+c=m→k≤i→InR m n k z→itF (Oi n k s.d) c i z=sel m n k s.d→Aa (fun K x=>Wp m n k s (encS z).1 (encS z).2 (i:Int) K x) (vY ((pvt m n k s).isSome,(pvt m n k s).getD s)):=by
  intro c
  induction c with
  |zero =>
   intro i z hi hki hs e
   obtain rfl:i=m:=by omega
   have e':z=sel i n k s.d:=e
   rw [e']; exact fin
  |succ c ih =>
   intro i z hi hki hs e
   refine Aa.step (fun K x=>?_) (gD hm hn h.d h.bd hkn hki (by omega) hs (ih (i+1) (Oi n k s.d i z) (by omega) (by omega) (Xt (by omega) hki (by omega) hs) e))
   simp only [Wp,Bn.l1]
   rw [if_pos (by omega)]
 exact (main (m - k) k none (by omega) (Nat.le_refl _) (fun p q e=>by cases e) rfl).Gz
end
abbrev At (n:Nat) (d:List Int) (i j:Nat):Int:=d.getD (i*n+j) 0
theorem dA {a b:Nat→Nat} {q:Int} {N:Nat} (ha:∀ x y,x<N→y<N→a x=a y→x=y) (hab:∀ x y,x<N→y<N→a x≠b y):∀ {c j:Nat} {xs ys:List Int},(∀ x,x<N→a x<xs.length)→j+c≤N→gT a b q c j xs=some ys →
  (∀ x,j≤x→x<j+c→ys.getD (a x) 0=xs.getD (a x) 0 - q*xs.getD (b x) 0)∧∀ p,(∀ x,j≤x→x<j+c→p≠a x)→ys.getD p 0=xs.getD p 0
 |0,j,xs,ys,_,_,h=>by
  cases h
  exact ⟨fun x h1 h2=>by omega,fun p _=>rfl⟩
 |c+1,j,xs,ys,hl,hj,h=>by
  unfold gT at h
  split at h
  ·obtain ⟨h1,h2⟩:=dA ha hab (c:=c) (j:=j+1) (fun x hx=>by rw [List.length_set]; exact hl x hx) (by omega) h
   refine ⟨fun x hx1 hx2=>?_,fun p hp=>?_⟩
   ·by_cases e:x=j
    ·subst e
     rw [h2 (a x) (fun y hy1 hy2 e=>by have:=ha x y (by omega) (by omega) e; omega),Np,if_pos ⟨rfl,hl x (by omega)⟩]
    ·rw [h1 x (by omega) (by omega),Np,Np,if_neg (fun e'=>e (ha x j (by omega) (by omega) e'.1.symm)),if_neg (fun e'=>hab j x (by omega) (by omega) e'.1)]
   ·rw [h2 p (fun x hx1 hx2=>hp x (by omega) (by omega)),Np,if_neg (fun e=>hp j (Nat.le_refl _) (by omega) e.1.symm)]
  ·cases h
section
variable {m n:Nat} {xs ys:List Int} {q:Int}
theorem tK {i k:Nat} (hi:i<m) (hk:k<m) (hik:i≠k) (hl:xs.length=m*n) (h:gT (rwx n i) (rwx n k) q n 0 xs=some ys) {i' j':Nat} (hj':j'<n):At n ys i' j'=if i'=i then At n xs i j' - q*At n xs k j' else At n xs i' j':=by
 obtain ⟨h1,h2⟩:=dA (N:=n) (a:=rwx n i) (b:=rwx n k) (fun x y hx hy e=>(Kj hx hy e).2) (fun x y hx hy e=>hik (Kj hx hy e).1) (fun x hx=>by rw [hl]; exact Jy hi hx) (by omega) h
 by_cases e:i'=i
 ·subst e; rw [if_pos rfl]; exact h1 j' (by omega) (by omega)
 ·rw [if_neg e]; exact h2 _ (fun x _ hx e'=>e (Kj hj' (by omega) e').1)
theorem tX {i k:Nat} (hi:i<n) (hk:k<n) (hik:i≠k) (hl:xs.length=m*n) (h:gT (clx n i) (clx n k) q m 0 xs=some ys) {i' j':Nat} (hi':i'<m) (hj':j'<n):At n ys i' j'=if j'=i then At n xs i' i - q*At n xs i' k else At n xs i' j':=by
 obtain ⟨h1,h2⟩:=dA (N:=m) (a:=clx n i) (b:=clx n k) (fun x y hx hy e=>(Kj hi hi e).1) (fun x y hx hy e=>hik (Kj hi hk e).2) (fun x hx=>by rw [hl]; exact Jy hx hi) (by omega) h
 by_cases e:j'=i
 ·subst e; rw [if_pos rfl]; exact h1 i' (by omega) (by omega)
 ·rw [if_neg e]; exact h2 _ (fun x _ hx e'=>e (Kj hj' hi e').2)
end
def M6 (m n i k:Nat) (q:Int) (s:Sm):Option Sm:=(gT (rwx n i) (rwx n k) q n 0 s.d).bind fun d=>(gT (rwx m i) (rwx m k) q m 0 s.l).bind fun l=>(gT (clx m k) (clx m i) (-q) m 0 s.li).bind fun li=>some { s with d:=d,l:=l,li:=li }
def O6 (m n j k:Nat) (q:Int) (s:Sm):Option Sm:=(gT (clx n j) (clx n k) q m 0 s.d).bind fun d=>(gT (clx n j) (clx n k) q n 0 s.r).bind fun r=>(gT (rwx n k) (rwx n j) (-q) n 0 s.ri).bind fun ri=>some { s with d:=d,r:=r,ri:=ri }
theorem Vl {m n i k:Nat} {q:Int} {s t:Sm} (h:Ok m n s) (ho:M6 m n i k q s=some t):Ok m n t∧gT (rwx n i) (rwx n k) q n 0 s.d=some t.d:=by
 unfold M6 at ho
 obtain ⟨d,h1,ho⟩:=Option.bind_eq_some_iff.1 ho
 obtain ⟨l,h2,ho⟩:=Option.bind_eq_some_iff.1 ho
 obtain ⟨li,h3,ho⟩:=Option.bind_eq_some_iff.1 ho
 cases ho
 exact ⟨⟨(Qk h1).trans h.d,(Qk h2).trans h.l,(Qk h3).trans h.li,h.r,h.ri,Ux h.bd h1,Ux h.bl h2,Ux h.bli h3,h.br,h.bri⟩,h1⟩
theorem Ze {m n i k:Nat} {q:Int} {s t:Sm} (h:Ok m n s) (ho:O6 m n i k q s=some t):Ok m n t∧gT (clx n i) (clx n k) q m 0 s.d=some t.d:=by
 unfold O6 at ho
 obtain ⟨d,h1,ho⟩:=Option.bind_eq_some_iff.1 ho
 obtain ⟨l,h2,ho⟩:=Option.bind_eq_some_iff.1 ho
 obtain ⟨li,h3,ho⟩:=Option.bind_eq_some_iff.1 ho
 cases ho
 exact ⟨⟨(Qk h1).trans h.d,h.l,h.li,(Qk h2).trans h.r,(Qk h3).trans h.ri,Ux h.bd h1,h.bl,h.bli,Ux h.br h2,Ux h.bri h3⟩,h1⟩
structure Fit (m n:Nat) (o:Option Sm) (v:Bool × Sm):Prop where
 b:v.1=o.isNone
 ok:Ok m n v.2
 eq:∀ t,o=some t→v.2=t
section
variable {m n k:Nat} {s:Sm} {q:Int}
theorem W9 {i:Nat} (hm:m≤1000) (hn:n≤1000) (h:Ok m n s) (hi:i<m) (hk:k<m) (hq : -1000000000000≤q∧q≤1000000000000) :
  ∃ v,Fit m n (M6 m n i k q s) v∧v.2.r=s.r∧v.2.ri=s.ri∧Ab (fun K=>En.f K (m:Int) (m:Int) s.l (m:Int) (m:Int) s.li (m:Int) (n:Int) s.d (n:Int) (n:Int) s.r (n:Int) (n:Int) s.ri false (i:Int) (k:Int) (-q)) (v.1,v.2.l,v.2.li,v.2.d):=by
 obtain ⟨d,t1,l1,b1,e1⟩:=Vd (m:=m) (n:=n) (c:=(m:Int)) (i:=i) (k:=k) (q:=q) (z:=false) hm hn hi hk hq h.d h.bd
 obtain ⟨l,t2,l2,b2,e2⟩:=Vd (m:=m) (n:=m) (c:=(m:Int)) (i:=i) (k:=k) (q:=q) (z:=(false || (gT (rwx n i) (rwx n k) q n 0 s.d).isNone)) hm hm hi hk hq h.l h.bl
 obtain ⟨li,t3,l3,b3,e3⟩:=Pf (m:=m) (n:=m) (i:=k) (k:=i) (q:=-q) (z:=((false || (gT (rwx n i) (rwx n k) q n 0 s.d).isNone) || (gT (rwx m i) (rwx m k) q m 0 s.l).isNone)) hm hm hk hi (by omega) h.li h.bli
 refine ⟨((((false || (gT (rwx n i) (rwx n k) q n 0 s.d).isNone) || (gT (rwx m i) (rwx m k) q m 0 s.l).isNone) || (gT (clx m k) (clx m i) (-q) m 0 s.li).isNone),⟨d,l,li,s.r,s.ri⟩),⟨?_,⟨l1,l2,l3,h.r,h.ri,b1,b2,b3,h.br,h.bri⟩,fun t ht=>?_⟩,rfl,rfl,?_⟩
 ·unfold M6
  cases gT (rwx n i) (rwx n k) q n 0 s.d<;>cases gT (rwx m i) (rwx m k) q m 0 s.l<;>cases gT (clx m k) (clx m i) (-q) m 0 s.li<;>rfl
 ·unfold M6 at ht
  obtain ⟨d',h1,ht⟩:=Option.bind_eq_some_iff.1 ht
  obtain ⟨l',h2,ht⟩:=Option.bind_eq_some_iff.1 ht
  obtain ⟨li',h3,ht⟩:=Option.bind_eq_some_iff.1 ht
  cases ht
  rw [e1 _ h1,e2 _ h2,e3 _ h3]
 ·unfold En.f
  refine t1.Dw (Ab.pos (l1.trans h.d.symm) (t2.Dw (Ab.pos (l2.trans h.l.symm) ?_)))
  rw [show w64 (0 - -q) = - -q by rw [E9 (by omega) (by omega)]; omega]
  exact t3.Dw (Ab.pos (l3.trans h.li.symm) (Ab.const _))
theorem Xh {i:Nat} (hm:m≤1000) (hn:n≤1000) (h:Ok m n s) (hi:i<n) (hk:k<n) (hq : -1000000000000≤q∧q≤1000000000000) :
  ∃ v,Fit m n (O6 m n i k q s) v∧v.2.l=s.l∧v.2.li=s.li∧Ab (fun K=>Fq.f K (m:Int) (m:Int) s.l (m:Int) (m:Int) s.li (m:Int) (n:Int) s.d (n:Int) (n:Int) s.r (n:Int) (n:Int) s.ri false (i:Int) (k:Int) (-q)) (v.1,v.2.d,v.2.r,v.2.ri):=by
 obtain ⟨d,t1,l1,b1,e1⟩:=Pf (m:=m) (n:=n) (i:=i) (k:=k) (q:=q) (z:=false) hm hn hi hk hq h.d h.bd
 obtain ⟨l,t2,l2,b2,e2⟩:=Pf (m:=n) (n:=n) (i:=i) (k:=k) (q:=q) (z:=(false || (gT (clx n i) (clx n k) q m 0 s.d).isNone)) hn hn hi hk hq h.r h.br
 obtain ⟨li,t3,l3,b3,e3⟩:=Vd (m:=n) (n:=n) (c:=(n:Int)) (i:=k) (k:=i) (q:=-q) (z:=((false || (gT (clx n i) (clx n k) q m 0 s.d).isNone) || (gT (clx n i) (clx n k) q n 0 s.r).isNone)) hn hn hk hi (by omega) h.ri h.bri
 refine ⟨((((false || (gT (clx n i) (clx n k) q m 0 s.d).isNone) || (gT (clx n i) (clx n k) q n 0 s.r).isNone) || (gT (rwx n k) (rwx n i) (-q) n 0 s.ri).isNone),⟨d,s.l,s.li,l,li⟩),⟨?_,⟨l1,h.l,h.li,l2,l3,b1,h.bl,h.bli,b2,b3⟩,fun t ht=>?_⟩,rfl,rfl,?_⟩
 ·unfold O6
  cases gT (clx n i) (clx n k) q m 0 s.d<;>cases gT (clx n i) (clx n k) q n 0 s.r<;>cases gT (rwx n k) (rwx n i) (-q) n 0 s.ri<;>rfl
 ·unfold O6 at ht
  obtain ⟨d',h1,ht⟩:=Option.bind_eq_some_iff.1 ht
  obtain ⟨l',h2,ht⟩:=Option.bind_eq_some_iff.1 ht
  obtain ⟨li',h3,ht⟩:=Option.bind_eq_some_iff.1 ht
  cases ht
  rw [e1 _ h1,e2 _ h2,e3 _ h3]
 ·unfold Fq.f
  refine t1.Dw (Ab.pos (l1.trans h.d.symm) (t2.Dw (Ab.pos (l2.trans h.r.symm) ?_)))
  rw [show w64 (0 - -q) = - -q by rw [E9 (by omega) (by omega)]; omega]
  exact t3.Dw (Ab.pos (l3.trans h.ri.symm) (Ab.const _))
theorem aZ {a b c:Int} {i k:Nat} {xs:List Int} {m n:Nat} {z:Bool} (hm:m≤1000) (hn:n≤1000) (hi:i<m) (hk:k<m) (hq : -1000000000000≤q∧q≤1000000000000) (hl:xs.length=m*n) (hb:Bd xs) :
  ∃ ys,Ab (fun K=>Ea.f K z c (n:Int) xs (i:Int) (k:Int) q) (z || (gT (rwx n i) (rwx n k) q n 0 xs).isNone,ys)∧ys.length=m*n∧Bd ys∧(z=false→∀ zs,gT (rwx n i) (rwx n k) q n 0 xs=some zs→ys=zs):=by
 cases z with
 |true=>exact ⟨xs,jX,hl,hb,fun h=>by cases h⟩
 |false =>
  obtain ⟨ys,h1,h2,h3,h4⟩:=nM (c:=c) hm hn hi hk hq hl hb
  exact ⟨ys,h1,h2,h3,fun _=>h4⟩
theorem Ru {i k:Nat} {xs:List Int} {m n:Nat} {z:Bool} (hm:m≤1000) (hn:n≤1000) (hi:i<n) (hk:k<n) (hq : -1000000000000≤q∧q≤1000000000000) (hl:xs.length=m*n) (hb:Bd xs) :
  ∃ ys,Ab (fun K=>Dg.f K z (m:Int) (n:Int) xs (i:Int) (k:Int) q) (z || (gT (clx n i) (clx n k) q m 0 xs).isNone,ys)∧ys.length=m*n∧Bd ys∧(z=false→∀ zs,gT (clx n i) (clx n k) q m 0 xs=some zs→ys=zs):=by
 cases z with
 |true=>exact ⟨xs,Z9,hl,hb,fun h=>by cases h⟩
 |false =>
  obtain ⟨ys,h1,h2,h3,h4⟩:=pW hm hn hi hk hq hl hb
  exact ⟨ys,h1,h2,h3,fun _=>h4⟩
theorem rA {i:Nat} (hm:m≤1000) (hn:n≤1000) (h:Ok m n s) (hi:i<m) (hk:k<m) (hq : -1000000000000≤q∧q≤1000000000000) (h0:q≠0) :
  ∃ v,Fit m n (M6 m n i k q s) v∧v.2.r=s.r∧v.2.ri=s.ri∧Ab (fun K=>I5.f K (m:Int) (n:Int) s.d (m:Int) (m:Int) s.l (m:Int) (m:Int) s.li (n:Int) (n:Int) s.r (n:Int) (n:Int) s.ri false (i:Int) (k:Int) q) (v.1,v.2.d,v.2.l,v.2.li):=by
 obtain ⟨d,t1,l1,b1,e1⟩:=aZ (a:=0) (b:=0) (m:=m) (n:=n) (c:=(m:Int)) (i:=i) (k:=k) (q:=q) (z:=false) hm hn hi hk hq h.d h.bd
 obtain ⟨l,t2,l2,b2,e2⟩:=aZ (a:=0) (b:=0) (m:=m) (n:=m) (c:=(m:Int)) (i:=i) (k:=k) (q:=q) (z:=(false || (gT (rwx n i) (rwx n k) q n 0 s.d).isNone)) hm hm hi hk hq h.l h.bl
 obtain ⟨li,t3,l3,b3,e3⟩:=Ru (m:=m) (n:=m) (i:=k) (k:=i) (q:=-q) (z:=((false || (gT (rwx n i) (rwx n k) q n 0 s.d).isNone) || (gT (rwx m i) (rwx m k) q m 0 s.l).isNone)) hm hm hk hi (by omega) h.li h.bli
 refine ⟨((((false || (gT (rwx n i) (rwx n k) q n 0 s.d).isNone) || (gT (rwx m i) (rwx m k) q m 0 s.l).isNone) || (gT (clx m k) (clx m i) (-q) m 0 s.li).isNone),⟨d,l,li,s.r,s.ri⟩),⟨?_,⟨l1,l2,l3,h.r,h.ri,b1,b2,b3,h.br,h.bri⟩,fun t ht=>?_⟩,rfl,rfl,?_⟩
 ·unfold M6
  cases gT (rwx n i) (rwx n k) q n 0 s.d<;>cases gT (rwx m i) (rwx m k) q m 0 s.l<;>cases gT (clx m k) (clx m i) (-q) m 0 s.li<;>rfl
 ·unfold M6 at ht
  obtain ⟨d',h1,ht⟩:=Option.bind_eq_some_iff.1 ht
  obtain ⟨l',h2,ht⟩:=Option.bind_eq_some_iff.1 ht
  obtain ⟨li',h3,ht⟩:=Option.bind_eq_some_iff.1 ht
  cases ht
  rw [e1 rfl _ h1,e2 (by rw [h1]; rfl) _ h2,e3 (by rw [h1,h2]; rfl) _ h3]
 ·unfold I5.f
  refine Ab.neg h0 (t1.Dw (Ab.pos (l1.trans h.d.symm) (t2.Dw (Ab.pos (l2.trans h.l.symm) ?_))))
  rw [show w64 (0 - q) = -q by rw [E9 (by omega) (by omega)]; omega]
  exact t3.Dw (Ab.pos (l3.trans h.li.symm) (Ab.const _))
theorem jD {i:Nat} (hm:m≤1000) (hn:n≤1000) (h:Ok m n s) (hi:i<n) (hk:k<n) (hq : -1000000000000≤q∧q≤1000000000000) (h0:q≠0) :
  ∃ v,Fit m n (O6 m n i k q s) v∧v.2.l=s.l∧v.2.li=s.li∧Ab (fun K=>Iu.f K (m:Int) (n:Int) s.d (m:Int) (m:Int) s.l (m:Int) (m:Int) s.li (n:Int) (n:Int) s.r (n:Int) (n:Int) s.ri false (i:Int) (k:Int) q) (v.1,v.2.d,v.2.r,v.2.ri):=by
 obtain ⟨d,t1,l1,b1,e1⟩:=Ru (m:=m) (n:=n) (i:=i) (k:=k) (q:=q) (z:=false) hm hn hi hk hq h.d h.bd
 obtain ⟨l,t2,l2,b2,e2⟩:=Ru (m:=n) (n:=n) (i:=i) (k:=k) (q:=q) (z:=(false || (gT (clx n i) (clx n k) q m 0 s.d).isNone)) hn hn hi hk hq h.r h.br
 obtain ⟨li,t3,l3,b3,e3⟩:=aZ (a:=0) (b:=0) (m:=n) (n:=n) (c:=(n:Int)) (i:=k) (k:=i) (q:=-q) (z:=((false || (gT (clx n i) (clx n k) q m 0 s.d).isNone) || (gT (clx n i) (clx n k) q n 0 s.r).isNone)) hn hn hk hi (by omega) h.ri h.bri
 refine ⟨((((false || (gT (clx n i) (clx n k) q m 0 s.d).isNone) || (gT (clx n i) (clx n k) q n 0 s.r).isNone) || (gT (rwx n k) (rwx n i) (-q) n 0 s.ri).isNone),⟨d,s.l,s.li,l,li⟩),⟨?_,⟨l1,h.l,h.li,l2,l3,b1,h.bl,h.bli,b2,b3⟩,fun t ht=>?_⟩,rfl,rfl,?_⟩
 ·unfold O6
  cases gT (clx n i) (clx n k) q m 0 s.d<;>cases gT (clx n i) (clx n k) q n 0 s.r<;>cases gT (rwx n k) (rwx n i) (-q) n 0 s.ri<;>rfl
 ·unfold O6 at ht
  obtain ⟨d',h1,ht⟩:=Option.bind_eq_some_iff.1 ht
  obtain ⟨l',h2,ht⟩:=Option.bind_eq_some_iff.1 ht
  obtain ⟨li',h3,ht⟩:=Option.bind_eq_some_iff.1 ht
  cases ht
  rw [e1 rfl _ h1,e2 (by rw [h1]; rfl) _ h2,e3 (by rw [h1,h2]; rfl) _ h3]
 ·unfold Iu.f
  refine Ab.neg h0 (t1.Dw (Ab.pos (l1.trans h.d.symm) (t2.Dw (Ab.pos (l2.trans h.r.symm) ?_))))
  rw [show w64 (0 - q) = -q by rw [E9 (by omega) (by omega)]; omega]
  exact t3.Dw (Ab.pos (l3.trans h.ri.symm) (Ab.const _))
end
theorem jZ {a b:Int} (hb:0<b):(if a.tmod b<0 then a.tdiv b - 1 else a.tdiv b)=a/b:=by
  have h1:=Int.tdiv_eq_ediv (a:=a) (b:=b)
  have h2:=Int.tmod_eq_emod (a:=a) (b:=b)
  have h3:a.tmod b<0↔¬ (0≤a∨b ∣ a):=by
    rw [h2]
    have h4:=Int.emod_nonneg a (b:=b) (by omega)
    have h5:=Int.emod_lt_of_pos a hb
    split
    · next h => constructor
                · intro h6; omega
                · intro h6; exact absurd h h6
    · next h => constructor
                · intro _; exact h
                · intro _; omega
  by_cases h:a.tmod b<0
  · rw [if_pos h,h1,if_neg (h3.1 h),Int.sign_eq_one_of_pos hb]; omega
  · rw [if_neg h,h1]
    have h6:0≤a∨b ∣ a:=Decidable.byContradiction fun h'=>h (h3.2 h')
    rw [if_pos h6]; omega
theorem Ri {a b:Int} (hb:0<b) (ha : -1000000000000≤a∧a≤1000000000000) : -1000000000000≤a/b∧a/b≤1000000000000:=by
 refine ⟨(Int.le_ediv_iff_mul_le hb).2 ?_,?_⟩
 ·have:(-1000000000000:Int)*b≤-1000000000000*1:=Int.mul_le_mul_of_nonpos_left (by omega) (by omega)
  omega
 ·have h1:(1000000000000:Int)/b≤1000000000000:=Int.ediv_le_self b (by omega)
  have h2:a/b≤1000000000000/b:=Int.ediv_le_ediv hb ha.2
  omega
theorem Q5 {a b:Int} (hb:0<b) (ha : -1000000000000≤a∧a≤1000000000000) (hb':b≤1000000000000):Hy.f a b=some (a/b):=by
 unfold Hy.f
 have h:=jZ (a:=a) hb
 have h2:=Ri hb ha
 rw [if_neg (by omega)]
 by_cases h1:a.tmod b<0
 ·rw [if_pos h1] at h
  rw [if_pos h1,E9 (x:=a.tdiv b) (by omega) (by omega),E9 (by omega) (by omega),h]
 ·rw [if_neg h1] at h
  rw [if_neg h1,E9 (by omega) (by omega),h]
theorem Tn {a b:Int} (hb:0<b) (ha : -1000000000000≤a∧a≤1000000000000) (hb':b≤1000000000000):Jl.f a b=some (a/b):=Q5 hb ha hb'
def Vr (m n k:Nat):Nat→Nat→Sm→Option Sm
 |0,_,s=>some s
 |c+1,i,s=>if At n s.d i k/At n s.d k k=0 then Vr m n k c (i+1) s else (M6 m n i k (At n s.d i k/At n s.d k k) s).bind (Vr m n k c (i+1))
def Rt (m n k:Nat):Nat→Nat→Sm→Option Sm
 |0,_,s=>some s
 |c+1,j,s=>if At n s.d k j/At n s.d k k=0 then Rt m n k c (j+1) s else (O6 m n j k (At n s.d k j/At n s.d k k) s).bind (Rt m n k c (j+1))
def clr (m n k:Nat) (s:Sm):Option Sm:=(Vr m n k (m - (k+1)) (k+1) s).bind (Rt m n k (n - (k+1)) (k+1))
theorem Fit.isSome {m n:Nat} {s:Sm} {v:Bool × Sm} (h:Fit m n (some s) v):v=(false,s):=by
 obtain ⟨a,b⟩:=v
 have h1:=h.b
 have h2:=h.eq s rfl
 simp at h1 h2
 rw [h1,h2]
theorem Fit.mk' {m n:Nat} {s:Sm} (h:Ok m n s):Fit m n (some s) (false,s):=⟨rfl,h,fun t e=>by cases e; rfl⟩
section
variable {m n k:Nat}
theorem Q8 {i:Nat} {q:Int} {s t:Sm} (h:Ok m n s) (hi:i<m) (hk:k<m) (hik:i≠k) (ho:M6 m n i k q s=some t) {i' j':Nat} (hj:j'<n):At n t.d i' j'=if i'=i then At n s.d i j' - q*At n s.d k j' else At n s.d i' j' :=
 tK hi hk hik h.d (Vl h ho).2 hj
theorem Tx {i:Nat} {q:Int} {s t:Sm} (h:Ok m n s) (hi:i<n) (hk:k<n) (hik:i≠k) (ho:O6 m n i k q s=some t) {i' j':Nat} (hi':i'<m) (hj:j'<n):At n t.d i' j'=if j'=i then At n s.d i' i - q*At n s.d i' k else At n s.d i' j' :=
 tX hi hk hik h.d (Ze h ho).2 hi' hj
theorem P9 (a b:Int):a - a/b*b=a%b:=by have:=Int.emod_add_mul_ediv a b; rw [Int.mul_comm] at this; omega
theorem nK {c i:Nat} {s t:Sm} (h:Ok m n s) (hk:k<m) (hkn:k<n) (hi:k<i) (hc:i+c=m) (hp:0<At n s.d k k) (ho:Vr m n k c i s=some t) :
  Ok m n t∧(∀ i' j',i'<i→j'<n→At n t.d i' j'=At n s.d i' j')∧∀ i',i≤i'→i'<m→0≤At n t.d i' k∧At n t.d i' k<At n s.d k k:=by
 induction c generalizing i s with
 |zero=>cases ho; exact ⟨h,fun _ _ _ _=>rfl,fun i' h1 h2=>by omega⟩
 |succ c ih =>
  unfold Vr at ho
  split at ho
  ·next h0 =>
   obtain ⟨h1,h2,h3⟩:=ih (i:=i+1) h (by omega) (by omega) hp ho
   refine ⟨h1,fun i' j' a b=>h2 i' j' (by omega) b,fun i' a b=>?_⟩
   by_cases e:i'=i
   ·subst e
    rw [h2 i' k (by omega) hkn]
    have e1:=P9 (At n s.d i' k) (At n s.d k k)
    rw [h0,Int.zero_mul] at e1
    have e2:=Int.emod_nonneg (At n s.d i' k) (b:=At n s.d k k) (by omega)
    have e3:=Int.emod_lt_of_pos (At n s.d i' k) hp
    omega
   ·exact h3 i' (by omega) b
  ·obtain ⟨u,h4,ho⟩:=Option.bind_eq_some_iff.1 ho
   have hu:=(Vl h h4).1
   have e0:∀ i' j',j'<n→At n u.d i' j'=if i'=i then At n s.d i j' - At n s.d i k/At n s.d k k*At n s.d k j' else At n s.d i' j':=fun i' j' hj=>Q8 h (by omega) hk (by omega) h4 hj
   have ekk:At n u.d k k=At n s.d k k:=by rw [e0 k k hkn,if_neg (by omega)]
   obtain ⟨h1,h2,h3⟩:=ih (i:=i+1) hu (by omega) (by omega) (by rw [ekk]; exact hp) ho
   refine ⟨h1,fun i' j' a b=>by rw [h2 i' j' (by omega) b,e0 i' j' b,if_neg (by omega)],fun i' a b=>?_⟩
   by_cases e:i'=i
   ·subst e
    rw [h2 i' k (by omega) hkn,e0 i' k hkn,if_pos rfl,P9]
    exact ⟨Int.emod_nonneg _ (by omega),Int.emod_lt_of_pos _ hp⟩
   ·rw [← ekk]; exact h3 i' (by omega) b
theorem nS {c j:Nat} {s t:Sm} (h:Ok m n s) (hk:k<m) (hkn:k<n) (hj:k<j) (hc:j+c=n) (hp:0<At n s.d k k) (ho:Rt m n k c j s=some t) :
  Ok m n t∧(∀ i' j',i'<m→j'<j→At n t.d i' j'=At n s.d i' j')∧∀ j',j≤j'→j'<n→At n t.d k j'=At n s.d k j' % At n s.d k k:=by
 induction c generalizing j s with
 |zero=>cases ho; exact ⟨h,fun _ _ _ _=>rfl,fun i' h1 h2=>by omega⟩
 |succ c ih =>
  unfold Rt at ho
  split at ho
  ·next h0 =>
   obtain ⟨h1,h2,h3⟩:=ih (j:=j+1) h (by omega) (by omega) hp ho
   refine ⟨h1,fun i' j' a b=>h2 i' j' a (by omega),fun j' a b=>?_⟩
   by_cases e:j'=j
   ·subst e
    rw [h2 k j' hk (by omega),← P9,h0,Int.zero_mul]
    omega
   ·exact h3 j' (by omega) b
  ·obtain ⟨u,h4,ho⟩:=Option.bind_eq_some_iff.1 ho
   have hu:=(Ze h h4).1
   have e0:∀ i' j',i'<m→j'<n→At n u.d i' j'=if j'=j then At n s.d i' j - At n s.d k j/At n s.d k k*At n s.d i' k else At n s.d i' j':=fun i' j' hi' hj'=>Tx h (by omega) hkn (by omega) h4 hi' hj'
   have ekk:At n u.d k k=At n s.d k k:=by rw [e0 k k hk hkn,if_neg (by omega)]
   obtain ⟨h1,h2,h3⟩:=ih (j:=j+1) hu (by omega) (by omega) (by rw [ekk]; exact hp) ho
   refine ⟨h1,fun i' j' a b=>by rw [h2 i' j' a (by omega),e0 i' j' a (by omega),if_neg (by omega)],fun j' a b=>?_⟩
   by_cases e:j'=j
   ·subst e
    rw [h2 k j' hk (by omega),e0 k j' hk b,if_pos rfl,P9]
   ·rw [h3 j' (by omega) b,ekk,e0 k j' hk b,if_neg e]
theorem Sb {s t:Sm} (h:Ok m n s) (hk:k<m) (hkn:k<n) (hp:0<At n s.d k k) (ho:clr m n k s=some t) :
  Ok m n t∧At n t.d k k=At n s.d k k∧(∀ i',k<i'→i'<m→0≤At n t.d i' k∧At n t.d i' k<At n s.d k k)∧(∀ j',k<j'→j'<n→At n t.d k j'=At n s.d k j' % At n s.d k k)∧∀ i' j',i'<k→j'<k→At n t.d i' j'=At n s.d i' j':=by
 unfold clr at ho
 obtain ⟨u,h1,h2⟩:=Option.bind_eq_some_iff.1 ho
 obtain ⟨hu,u1,u2⟩:=nK h hk hkn (Nat.lt_succ_self k) (by omega) hp h1
 have ekk:At n u.d k k=At n s.d k k:=u1 k k (by omega) hkn
 obtain ⟨ht,t1,t2⟩:=nS hu hk hkn (Nat.lt_succ_self k) (by omega) (by rw [ekk]; exact hp) h2
 refine ⟨ht,(t1 k k hk (by omega)).trans ekk,fun i' a b=>?_,fun j' a b=>?_,fun i' j' a b=>?_⟩
 ·rw [t1 i' k b (by omega)]; exact u2 i' (by omega) b
 ·rw [t2 j' (by omega) b,ekk,u1 k j' (by omega) b]
 ·rw [t1 i' j' (by omega) (by omega),u1 i' j' (by omega) (by omega)]
abbrev Vt (m n k:Nat) (z:Bool) (s:Sm) (j:Int) (K x:Nat):=Bf.l7 K x (m:Int) (m:Int) (m:Int) (m:Int) (m:Int) (n:Int) (n:Int) (n:Int) (n:Int) (n:Int) (k:Int) s.l s.li s.d s.r s.ri z j
abbrev Vu (m n k:Nat) (z:Bool) (s:Sm) (i:Int) (K x:Nat):=Bf.l1 K x (m:Int) (m:Int) (m:Int) (m:Int) (m:Int) (n:Int) (n:Int) (n:Int) s.r (n:Int) (n:Int) s.ri (k:Int) s.l s.li s.d z i
theorem eZ {s:Sm} {j:Int}:Aa (fun K x=>Vt m n k true s j K x) (Vg (true,s)):=Aa.of fun K x=>by
 simp only [Vt,Bf.l7]
 split<;>simp [Vg]
theorem pV {s:Sm} {i:Int}:Aa (fun K x=>Vu m n k true s i K x) (Vg (true,s)):=by
 by_cases h:i<(m:Int)
 ·refine Aa.step (fun K x=>?_) (G:=fun K x=>Bf.l6 K x (n:Int) s.r s.ri (k:Int) s.l s.li s.d true) (Aa.of fun K x=>?_)
  ·simp only [Vu,Bf.l1]
   rw [if_pos h,if_pos trivial]
  ·simp only [Bf.l6]
   split<;>rfl
 ·refine Aa.step (fun K x=>?_) (eZ (m:=m) (n:=n) (k:=k) (j:=w64 ((k:Int)+1)))
  simp only [Vu,Bf.l1]
  rw [if_neg h]
theorem zI {s:Sm} {j c:Nat} (hm:m≤1000) (hn:n≤1000) (h:Ok m n s) (hk:k<m) (hkn:k<n) (hj:k<j) (hc:j+c=n) (hp:0<At n s.d k k):∃ v,Fit m n (Rt m n k c j s) v∧Aa (fun K x=>Vt m n k false s (j:Int) K x) (Vg v):=by
 induction c generalizing j s with
 |zero =>
  refine ⟨(false,s),Fit.mk' h,Aa.of fun K x=>?_⟩
  simp only [Vt,Bf.l7]
  rw [if_neg (by omega)]; rfl
 |succ c ih =>
  have hjn:j<n:=by omega
  have hb1:=h.bd (k*n+j)
  have hb2:=h.bd (k*n+k)
  unfold Rt
  by_cases h0:At n s.d k j/At n s.d k k=0
  ·rw [if_pos h0]
   obtain ⟨v,h1,h2⟩:=ih (j:=j+1) h (by omega) (by omega) hp
   refine ⟨v,h1,Aa.step (fun K x=>?_) h2⟩
   simp only [Vt,Bf.l7]
   rw [if_pos (by omega),if_neg Bool.false_ne_true,Me h.d h.d hk hjn hm hn,Me h.d h.d hk hkn hm hn,Int.toNat_natCast,Int.toNat_natCast,Q5 hp hb1 hb2.2,Option.bind_some,if_pos h0,Aj (by omega)]
  ·rw [if_neg h0]
   have hq : -1000000000000≤At n s.d k j/At n s.d k k∧At n s.d k j/At n s.d k k≤1000000000000:=Ri hp hb1
   obtain ⟨⟨z,⟨d,l,li,rr,ri⟩⟩,f1,f2,f3,f4⟩:=Xh (i:=j) (k:=k) hm hn h hjn hkn hq
   have hv:=f1.ok
   dsimp only at f2 f3 f4 hv
   subst f2; subst f3
   have step:∀ {r},Aa (fun K x=>Vt m n k z ⟨d,s.l,s.li,rr,ri⟩ ((j+1:Nat):Int) K x) r→Aa (fun K x=>Vt m n k false s (j:Int) K x) r:=fun {r} hr=>by
    refine Aa.step (G:=fun K x=>Go.Proofs.YtgkgmhkgahalgaaGreat.Hm (Fq.f K (m:Int) (m:Int) s.l (m:Int) (m:Int) s.li (m:Int) (n:Int) s.d (n:Int) (n:Int) s.r (n:Int) (n:Int) s.ri false (j:Int) (k:Int) (-(At n s.d k j/At n s.d k k))) (fun z d rr ri=>if d.length=s.d.length then (if rr.length=s.r.length then (if ri.length=s.ri.length then Vt m n k z ⟨d,s.l,s.li,rr,ri⟩ ((j+1:Nat):Int) K x else none) else none) else none)) (fun K x=>?_) (Aa.Hm f4.two (Aa.pos (hv.d.trans h.d.symm) (Aa.pos (hv.r.trans h.r.symm) (Aa.pos (hv.ri.trans h.ri.symm) hr))))
    simp only [Vt,Bf.l7]
    rw [if_pos (by omega),if_neg Bool.false_ne_true,Me h.d h.d hk hjn hm hn,Me h.d h.d hk hkn hm hn,Int.toNat_natCast,Int.toNat_natCast,Q5 hp hb1 hb2.2,Option.bind_some,if_neg h0,Aj (by omega),show w64 (0 - At n s.d k j/At n s.d k k) = -(At n s.d k j/At n s.d k k) by rw [E9 (by omega) (by omega)]; omega]
   cases ho:O6 m n j k (At n s.d k j/At n s.d k k) s with
   |none =>
    have hb:z=true:=by have:=f1.b; rw [ho] at this; exact this
    refine ⟨(true,⟨d,s.l,s.li,rr,ri⟩),⟨rfl,hv,fun t e=>by cases e⟩,step ?_⟩
    rw [hb]; exact eZ
   |some t =>
    have e1:(z,(⟨d,s.l,s.li,rr,ri⟩:Sm))=(false,t):=by rw [ho] at f1; exact f1.isSome
    obtain ⟨rfl,rfl⟩:=Prod.mk.inj e1
    have ekk:At n d k k=At n s.d k k:=by rw [Tx h hjn hkn (by omega) ho hk hkn,if_neg (by omega)]
    obtain ⟨w,w1,w2⟩:=ih (j:=j+1) hv (by omega) (by omega) (by rw [ekk]; exact hp)
    exact ⟨w,w1,step w2⟩
theorem zN {s:Sm} {i c:Nat} (hm:m≤1000) (hn:n≤1000) (h:Ok m n s) (hk:k<m) (hkn:k<n) (hi:k<i) (hc:i+c=m) (hp:0<At n s.d k k):∃ v,Fit m n ((Vr m n k c i s).bind (Rt m n k (n - (k+1)) (k+1))) v∧Aa (fun K x=>Vu m n k false s (i:Int) K x) (Vg v):=by
 induction c generalizing i s with
 |zero =>
  obtain ⟨v,h1,h2⟩:=zI (c:=n - (k+1)) hm hn h hk hkn (Nat.lt_succ_self k) (by omega) hp
  refine ⟨v,h1,Aa.step (fun K x=>?_) h2⟩
  simp only [Vu,Vt,Bf.l1]
  rw [if_neg (by omega),Aj (by omega)]
 |succ c ih =>
  have him:i<m:=by omega
  have hb1:=h.bd (i*n+k)
  have hb2:=h.bd (k*n+k)
  unfold Vr
  by_cases h0:At n s.d i k/At n s.d k k=0
  ·rw [if_pos h0]
   obtain ⟨v,h1,h2⟩:=ih (i:=i+1) h (by omega) (by omega) hp
   refine ⟨v,h1,Aa.step (fun K x=>?_) h2⟩
   simp only [Vu,Bf.l1]
   rw [if_pos (by omega),if_neg Bool.false_ne_true,Me h.d h.d him hkn hm hn,Me h.d h.d hk hkn hm hn,Int.toNat_natCast,Int.toNat_natCast,Q5 hp hb1 hb2.2,Option.bind_some,if_pos h0,Aj (by omega)]
  ·rw [if_neg h0]
   have hq : -1000000000000≤At n s.d i k/At n s.d k k∧At n s.d i k/At n s.d k k≤1000000000000:=Ri hp hb1
   obtain ⟨⟨z,⟨d,l,li,rr,ri⟩⟩,f1,f2,f3,f4⟩:=W9 (i:=i) (k:=k) hm hn h him hk hq
   have hv:=f1.ok
   dsimp only at f2 f3 f4 hv
   subst f2; subst f3
   have step:∀ {r},Aa (fun K x=>Vu m n k z ⟨d,l,li,s.r,s.ri⟩ ((i+1:Nat):Int) K x) r→Aa (fun K x=>Vu m n k false s (i:Int) K x) r:=fun {r} hr=>by
    refine Aa.step (G:=fun K x=>Go.Proofs.YtgkgmhkgahalgaaGreat.Hm (En.f K (m:Int) (m:Int) s.l (m:Int) (m:Int) s.li (m:Int) (n:Int) s.d (n:Int) (n:Int) s.r (n:Int) (n:Int) s.ri false (i:Int) (k:Int) (-(At n s.d i k/At n s.d k k))) (fun z l li d=>if l.length=s.l.length then (if li.length=s.li.length then (if d.length=s.d.length then Vu m n k z ⟨d,l,li,s.r,s.ri⟩ ((i+1:Nat):Int) K x else none) else none) else none)) (fun K x=>?_) (Aa.Hm f4.two (Aa.pos (hv.l.trans h.l.symm) (Aa.pos (hv.li.trans h.li.symm) (Aa.pos (hv.d.trans h.d.symm) hr))))
    simp only [Vu,Bf.l1]
    rw [if_pos (by omega),if_neg Bool.false_ne_true,Me h.d h.d him hkn hm hn,Me h.d h.d hk hkn hm hn,Int.toNat_natCast,Int.toNat_natCast,Q5 hp hb1 hb2.2,Option.bind_some,if_neg h0,Aj (by omega),show w64 (0 - At n s.d i k/At n s.d k k) = -(At n s.d i k/At n s.d k k) by rw [E9 (by omega) (by omega)]; omega]
   cases ho:M6 m n i k (At n s.d i k/At n s.d k k) s with
   |none =>
    have hb:z=true:=by have:=f1.b; rw [ho] at this; exact this
    refine ⟨(true,⟨d,l,li,s.r,s.ri⟩),⟨rfl,hv,fun t e=>by cases e⟩,step ?_⟩
    rw [hb]; exact pV
   |some t =>
    have e1:(z,(⟨d,l,li,s.r,s.ri⟩:Sm))=(false,t):=by rw [ho] at f1; exact f1.isSome
    obtain ⟨rfl,rfl⟩:=Prod.mk.inj e1
    have ekk:At n d k k=At n s.d k k:=by rw [Q8 h him hk (by omega) ho hkn,if_neg (by omega)]
    obtain ⟨w,w1,w2⟩:=ih (i:=i+1) hv (by omega) (by omega) (by rw [ekk]; exact hp)
    exact ⟨w,w1,step w2⟩
theorem oQ {s:Sm} (hm:m≤1000) (hn:n≤1000) (h:Ok m n s) (hk:k<m) (hkn:k<n) (hp:0<At n s.d k k):∃ v,Fit m n (clr m n k s) v∧Ab (fun K=>Bf.f K (m:Int) (m:Int) s.l (m:Int) (m:Int) s.li (m:Int) (n:Int) s.d (n:Int) (n:Int) s.r (n:Int) (n:Int) s.ri false (k:Int)) (Vg v):=by
 obtain ⟨v,h1,h2⟩:=zN hm hn h hk hkn (Nat.lt_succ_self k) (show k+1+(m - (k+1))=m by omega) hp
 refine ⟨v,h1,Ab.congr (fun K=>?_) h2.Gz⟩
 unfold Bf.f
 rw [Aj (by omega)]
abbrev Qe (m n k:Nat) (z:Bool) (s:Sm) (j:Int) (K x:Nat):=Ci.l7 K x (m:Int) (n:Int) (m:Int) (m:Int) (m:Int) (m:Int) (n:Int) (n:Int) (n:Int) (n:Int) (k:Int) s.l s.li s.d s.r s.ri z j
abbrev Qo (m n k:Nat) (z:Bool) (s:Sm) (i:Int) (K x:Nat):=Ci.l1 K x (m:Int) (n:Int) (m:Int) (m:Int) (m:Int) (m:Int) (n:Int) (n:Int) (n:Int) (n:Int) (k:Int) s.r s.ri s.d s.l s.li z i
def Zu:Bool × Bool × Bool × Sm→Bool × Bool × Bool × List Int × List Int × List Int × List Int × List Int:=fun v=>(v.1,v.2.1,v.2.2.1,v.2.2.2.d,v.2.2.2.l,v.2.2.2.li,v.2.2.2.r,v.2.2.2.ri)
theorem dD {s:Sm} {j:Int}:Aa (fun K x=>Qe m n k true s j K x) (Zu (false,false,true,s)):=Aa.of fun K x=>by
 simp only [Qe,Ci.l7]
 split<;>simp [Zu]
theorem oM {s:Sm} {i:Int}:Aa (fun K x=>Qo m n k true s i K x) (Zu (false,false,true,s)):=by
 by_cases h:i<(m:Int)
 ·refine Aa.step (fun K x=>?_) (G:=fun K x=>Ci.l6 K x (n:Int) (k:Int) s.r s.ri s.d s.l s.li true) (Aa.of fun K x=>?_)
  ·simp only [Qo,Ci.l1]
   rw [if_pos h,if_pos trivial]
  ·simp only [Ci.l6]
   split<;>rfl
 ·refine Aa.step (fun K x=>?_) (dD (m:=m) (n:=n) (k:=k) (j:=w64 ((k:Int)+1)))
  simp only [Qo,Ci.l1]
  rw [if_neg h]
theorem yV {s:Sm} {j c:Nat} (hm:m≤1000) (hn:n≤1000) (h:Ok m n s) (hk:k<m) (hkn:k<n) (hj:k<j) (hc:j+c=n) (hp:0<At n s.d k k) :
  (Rt m n k c j s=none→∃ u,Ok m n u∧Aa (fun K x=>Qe m n k false s (j:Int) K x) (Zu (false,false,true,u)))∧∀ t r,Rt m n k c j s=some t→Aa (fun K x=>Qe m n k false t (n:Int) K x) r→Aa (fun K x=>Qe m n k false s (j:Int) K x) r:=by
 induction c generalizing j s with
 |zero =>
  obtain rfl:j=n:=by omega
  exact ⟨fun e=>(by cases e),fun t r e hr=>by cases e; exact hr⟩
 |succ c ih =>
  have hjn:j<n:=by omega
  have hb1:=h.bd (k*n+j)
  have hb2:=h.bd (k*n+k)
  unfold Rt
  by_cases h0:At n s.d k j/At n s.d k k=0
  ·rw [if_pos h0]
   have step:∀ {r},Aa (fun K x=>Qe m n k false s ((j+1:Nat):Int) K x) r→Aa (fun K x=>Qe m n k false s (j:Int) K x) r:=fun {r} hr=>by
    refine Aa.step (fun K x=>?_) hr
    simp only [Qe,Ci.l7,Iu.f]
    rw [if_pos (by omega),if_neg Bool.false_ne_true,Lt h.d hk hjn hm hn,Option.bind_some,Lt h.d hk hkn hm hn,Option.bind_some,Tn hp hb1 hb2.2,Option.bind_some,if_pos h0,Aj (by omega)]
    simp only [Go.Proofs.YtgkgmhkgahalgaaGreat.Hm,Option.bind_some,if_true]
   obtain ⟨i1,i2⟩:=ih (j:=j+1) h (by omega) (by omega) hp
   exact ⟨fun e=>by obtain ⟨u,u1,u2⟩:=i1 e; exact ⟨u,u1,step u2⟩,fun t r e hr=>step (i2 t r e hr)⟩
  ·rw [if_neg h0]
   have hq : -1000000000000≤At n s.d k j/At n s.d k k∧At n s.d k j/At n s.d k k≤1000000000000:=Ri hp hb1
   obtain ⟨⟨z,⟨d,l,li,rr,ri⟩⟩,f1,f2,f3,f4⟩:=jD (i:=j) (k:=k) hm hn h hjn hkn hq h0
   have hv:=f1.ok
   dsimp only at f2 f3 f4 hv
   subst f2; subst f3
   have step:∀ {r},Aa (fun K x=>Qe m n k z ⟨d,s.l,s.li,rr,ri⟩ ((j+1:Nat):Int) K x) r→Aa (fun K x=>Qe m n k false s (j:Int) K x) r:=fun {r} hr=>by
    refine Aa.step (G:=fun K x=>Go.Proofs.YtgkgmhkgahalgaaGreat.Hm (Iu.f K (m:Int) (n:Int) s.d (m:Int) (m:Int) s.l (m:Int) (m:Int) s.li (n:Int) (n:Int) s.r (n:Int) (n:Int) s.ri false (j:Int) (k:Int) (At n s.d k j/At n s.d k k)) (fun z d rr ri=>if d.length=s.d.length then (if rr.length=s.r.length then (if ri.length=s.ri.length then Qe m n k z ⟨d,s.l,s.li,rr,ri⟩ ((j+1:Nat):Int) K x else none) else none) else none)) (fun K x=>?_) (Aa.Hm f4.two (Aa.pos (hv.d.trans h.d.symm) (Aa.pos (hv.r.trans h.r.symm) (Aa.pos (hv.ri.trans h.ri.symm) hr))))
    simp only [Qe,Ci.l7]
    rw [if_pos (by omega),if_neg Bool.false_ne_true,Lt h.d hk hjn hm hn,Option.bind_some,Lt h.d hk hkn hm hn,Option.bind_some,Tn hp hb1 hb2.2,Option.bind_some,Aj (by omega)]
   cases ho:O6 m n j k (At n s.d k j/At n s.d k k) s with
   |none =>
    have hb:z=true:=by have:=f1.b; rw [ho] at this; exact this
    refine ⟨fun _=>⟨⟨d,s.l,s.li,rr,ri⟩,hv,step ?_⟩,fun t r e=>by cases e⟩
    rw [hb]; exact dD
   |some t =>
    have e1:(z,(⟨d,s.l,s.li,rr,ri⟩:Sm))=(false,t):=by rw [ho] at f1; exact f1.isSome
    obtain ⟨rfl,rfl⟩:=Prod.mk.inj e1
    have ekk:At n d k k=At n s.d k k:=by rw [Tx h hjn hkn (by omega) ho hk hkn,if_neg (by omega)]
    obtain ⟨i1,i2⟩:=ih (j:=j+1) hv (by omega) (by omega) (by rw [ekk]; exact hp)
    exact ⟨fun e=>by obtain ⟨u,u1,u2⟩:=i1 e; exact ⟨u,u1,step u2⟩,fun t' r e hr=>step (i2 t' r e hr)⟩
theorem xQ {s:Sm} {i c:Nat} (hm:m≤1000) (hn:n≤1000) (h:Ok m n s) (hk:k<m) (hkn:k<n) (hi:k<i) (hc:i+c=m) (hp:0<At n s.d k k) :
  ((Vr m n k c i s).bind (Rt m n k (n - (k+1)) (k+1))=none→∃ u,Ok m n u∧Aa (fun K x=>Qo m n k false s (i:Int) K x) (Zu (false,false,true,u)))∧∀ t r,(Vr m n k c i s).bind (Rt m n k (n - (k+1)) (k+1))=some t→Aa (fun K x=>Qe m n k false t (n:Int) K x) r→Aa (fun K x=>Qo m n k false s (i:Int) K x) r:=by
 induction c generalizing i s with
 |zero =>
  have step:∀ {r},Aa (fun K x=>Qe m n k false s ((k+1:Nat):Int) K x) r→Aa (fun K x=>Qo m n k false s (i:Int) K x) r:=fun {r} hr=>by
   refine Aa.step (fun K x=>?_) hr
   simp only [Qo,Qe,Ci.l1]
   rw [if_neg (by omega),Aj (by omega)]
  obtain ⟨i1,i2⟩:=yV (s:=s) hm hn h hk hkn (Nat.lt_succ_self k) (show k+1+(n - (k+1))=n by omega) hp
  exact ⟨fun e=>by obtain ⟨u,u1,u2⟩:=i1 e; exact ⟨u,u1,step u2⟩,fun t r e hr=>step (i2 t r e hr)⟩
 |succ c ih =>
  have him:i<m:=by omega
  have hb1:=h.bd (i*n+k)
  have hb2:=h.bd (k*n+k)
  unfold Vr
  by_cases h0:At n s.d i k/At n s.d k k=0
  ·rw [if_pos h0]
   have step:∀ {r},Aa (fun K x=>Qo m n k false s ((i+1:Nat):Int) K x) r→Aa (fun K x=>Qo m n k false s (i:Int) K x) r:=fun {r} hr=>by
    refine Aa.step (fun K x=>?_) hr
    simp only [Qo,Ci.l1,I5.f]
    rw [if_pos (by omega),if_neg Bool.false_ne_true,Lt h.d him hkn hm hn,Option.bind_some,Lt h.d hk hkn hm hn,Option.bind_some,Tn hp hb1 hb2.2,Option.bind_some,if_pos h0,Aj (by omega)]
    simp only [Go.Proofs.YtgkgmhkgahalgaaGreat.Hm,Option.bind_some,if_true]
   obtain ⟨i1,i2⟩:=ih (i:=i+1) h (by omega) (by omega) hp
   exact ⟨fun e=>by obtain ⟨u,u1,u2⟩:=i1 e; exact ⟨u,u1,step u2⟩,fun t r e hr=>step (i2 t r e hr)⟩
  ·rw [if_neg h0]
   have hq : -1000000000000≤At n s.d i k/At n s.d k k∧At n s.d i k/At n s.d k k≤1000000000000:=Ri hp hb1
   obtain ⟨⟨z,⟨d,l,li,rr,ri⟩⟩,f1,f2,f3,f4⟩:=rA (i:=i) (k:=k) hm hn h him hk hq h0
   have hv:=f1.ok
   dsimp only at f2 f3 f4 hv
   subst f2; subst f3
   have step:∀ {r},Aa (fun K x=>Qo m n k z ⟨d,l,li,s.r,s.ri⟩ ((i+1:Nat):Int) K x) r→Aa (fun K x=>Qo m n k false s (i:Int) K x) r:=fun {r} hr=>by
    refine Aa.step (G:=fun K x=>Go.Proofs.YtgkgmhkgahalgaaGreat.Hm (I5.f K (m:Int) (n:Int) s.d (m:Int) (m:Int) s.l (m:Int) (m:Int) s.li (n:Int) (n:Int) s.r (n:Int) (n:Int) s.ri false (i:Int) (k:Int) (At n s.d i k/At n s.d k k)) (fun z d l li=>if d.length=s.d.length then (if l.length=s.l.length then (if li.length=s.li.length then Qo m n k z ⟨d,l,li,s.r,s.ri⟩ ((i+1:Nat):Int) K x else none) else none) else none)) (fun K x=>?_) (Aa.Hm f4.two (Aa.pos (hv.d.trans h.d.symm) (Aa.pos (hv.l.trans h.l.symm) (Aa.pos (hv.li.trans h.li.symm) hr))))
    simp only [Qo,Ci.l1]
    rw [if_pos (by omega),if_neg Bool.false_ne_true,Lt h.d him hkn hm hn,Option.bind_some,Lt h.d hk hkn hm hn,Option.bind_some,Tn hp hb1 hb2.2,Option.bind_some,Aj (by omega)]
   cases ho:M6 m n i k (At n s.d i k/At n s.d k k) s with
   |none =>
    have hb:z=true:=by have:=f1.b; rw [ho] at this; exact this
    refine ⟨fun _=>⟨⟨d,l,li,s.r,s.ri⟩,hv,step ?_⟩,fun t r e=>by cases e⟩
    rw [hb]; exact oM
   |some t =>
    have e1:(z,(⟨d,l,li,s.r,s.ri⟩:Sm))=(false,t):=by rw [ho] at f1; exact f1.isSome
    obtain ⟨rfl,rfl⟩:=Prod.mk.inj e1
    have ekk:At n d k k=At n s.d k k:=by rw [Q8 h him hk (by omega) ho hkn,if_neg (by omega)]
    obtain ⟨i1,i2⟩:=ih (i:=i+1) hv (by omega) (by omega) (by rw [ekk]; exact hp)
    exact ⟨fun e=>by obtain ⟨u,u1,u2⟩:=i1 e; exact ⟨u,u1,step u2⟩,fun t' r e hr=>step (i2 t' r e hr)⟩
end
def SI (n:Nat) (d:List Int) (S:Nat→Nat→Prop):Option (Nat × Nat)→Prop
 |none=>∀ i j,S i j→At n d i j=0
 |some (p,q)=>At n d p q≠0∧∀ i j,S i j→At n d i j≠0→(At n d p q).natAbs≤(At n d i j).natAbs
theorem SI.mono {n:Nat} {d:List Int} {S S':Nat→Nat→Prop} (h:∀ i j,S' i j→S i j):∀ {s:Option (Nat × Nat)},SI n d S s→SI n d S' s
 |none,hs=>fun i j hij=>hs i j (h i j hij)
 |some (p,q),hs=>⟨hs.1,fun i j hij=>hs.2 i j (h i j hij)⟩
theorem nG {n i j:Nat} {d:List Int} {S:Nat→Nat→Prop} {s:Option (Nat × Nat)} (h:SI n d S s):SI n d (fun a b=>S a b∨a=i∧b=j) (Nj n d i j s):=by
  unfold Nj
  by_cases h0:(d.getD (i*n+j) 0).natAbs=0
  · rw [if_pos h0]
    have h1:At n d i j=0:=Int.natAbs_eq_zero.1 h0
    cases s with
    | none => intro a b hab; rcases hab with hab | ⟨rfl, rfl⟩
              · exact h a b hab
              · exact h1
    | some v =>
      refine ⟨h.1,fun a b hab hn=>?_⟩
      rcases hab with hab | ⟨rfl,rfl⟩
      · exact h.2 a b hab hn
      · exact absurd h1 hn
  · rw [if_neg h0]
    have h1:At n d i j≠0:=fun e=>h0 (Int.natAbs_eq_zero.2 e)
    cases s with
    | none =>
      refine ⟨h1,fun a b hab hn=>?_⟩
      rcases hab with hab | ⟨rfl,rfl⟩
      · exact absurd (h a b hab) hn
      · exact Nat.le_refl _
    | some v =>
      obtain ⟨p,q⟩:=v
      obtain ⟨h2,h3⟩:=h
      dsimp only
      by_cases h4:(d.getD (i*n+j) 0).natAbs<(d.getD (p*n+q) 0).natAbs
      · rw [if_pos h4]
        refine ⟨h1,fun a b hab hn=>?_⟩
        rcases hab with hab | ⟨rfl,rfl⟩
        · exact Nat.le_trans (Nat.le_of_lt h4) (h3 a b hab hn)
        · exact Nat.le_refl _
      · rw [if_neg h4]
        refine ⟨h2,fun a b hab hn=>?_⟩
        rcases hab with hab | ⟨rfl,rfl⟩
        · exact h3 a b hab hn
        · exact Nat.le_of_not_lt h4
theorem eQ {n i:Nat} {d:List Int}:∀ {c j:Nat} {S:Nat→Nat→Prop} {s:Option (Nat × Nat)},SI n d S s→SI n d (fun a b=>S a b∨a=i∧j≤b∧b<j+c) (itF (Nj n d i) c j s)
 |0,j,S,s,h=>h.mono fun a b hab=>by rcases hab with hab | ⟨_,h1,h2⟩; exact hab; omega
 |c+1,j,S,s,h=>(eQ (c:=c) (j:=j+1) (nG (i:=i) (j:=j) h)).mono fun a b hab=>by
  rcases hab with hab | ⟨h0,h1,h2⟩
  ·exact .inl (.inl hab)
  ·by_cases e:b=j
   ·exact .inl (.inr ⟨h0,e⟩)
   ·exact .inr ⟨h0,by omega,by omega⟩
theorem Zl {n k:Nat} {d:List Int}:∀ {c i:Nat} {S:Nat→Nat→Prop} {s:Option (Nat × Nat)},SI n d S s→SI n d (fun a b=>S a b∨i≤a∧a<i+c∧k≤b∧b<k+(n - k)) (itF (Oi n k d) c i s)
 |0,i,S,s,h=>h.mono fun a b hab=>by rcases hab with hab | ⟨h1,h2,_⟩; exact hab; omega
 |c+1,i,S,s,h=>(Zl (c:=c) (i:=i+1) (eQ (i:=i) (c:=n - k) (j:=k) h)).mono fun a b hab=>by
  rcases hab with hab | ⟨h1,h2,h3,h4⟩
  ·exact .inl (.inl hab)
  ·by_cases e:a=i
   ·exact .inl (.inr ⟨e,h3,h4⟩)
   ·exact .inr ⟨by omega,by omega,h3,h4⟩
theorem lI (m n k:Nat) (d:List Int):SI n d (fun a b=>k≤a∧a<m∧k≤b∧b<n) (sel m n k d) :=
 (Zl (k:=k) (c:=m - k) (i:=k) (S:=fun _ _=>False) (s:=none) (d:=d) (n:=n) (fun _ _ h=>h.elim)).mono fun a b h=>.inr ⟨h.1,by omega,h.2.2.1,by omega⟩
theorem Vz {n i j p q:Nat} {d:List Int} (h:At n d i j=0∨(At n d p q).natAbs≤(At n d i j).natAbs):Nj n d i j (some (p,q))=some (p,q):=by
 unfold Nj
 split
 ·rfl
 ·dsimp only
  rw [if_neg]
  rcases h with h | h
  ·have:(d.getD (i*n+j) 0).natAbs=0:=Int.natAbs_eq_zero.2 h
   omega
  ·exact Nat.not_lt.2 h
theorem Pm {σ:Type} {f:Nat→σ→σ} {s:σ}:∀ {c j:Nat},(∀ x,j≤x→x<j+c→f x s=s)→itF f c j s=s
 |0,_,_=>rfl
 |c+1,j,h=>by
  show itF f c (j+1) (f j s)=s
  rw [h j (Nat.le_refl _) (by omega)]
  exact Pm fun x h1 h2=>h x (by omega) (by omega)
theorem fQ {m n k:Nat} {d:List Int} (hk:k<m) (hkn:k<n) (h0:At n d k k≠0) (h:∀ i j,k≤i→i<m→k≤j→j<n→At n d i j=0∨(At n d k k).natAbs≤(At n d i j).natAbs):sel m n k d=some (k,k):=by
 unfold sel
 obtain ⟨c,hc⟩:∃ c,m - k=c+1:=⟨m - k - 1,by omega⟩
 obtain ⟨e,he⟩:∃ e,n - k=e+1:=⟨n - k - 1,by omega⟩
 have hrow:∀ i,k≤i→i<m→Oi n k d i (some (k,k))=some (k,k):=fun i h1 h2=>Pm fun x h3 h4=>Vz (h i x h1 h2 h3 (by omega))
 rw [hc]
 show itF (Oi n k d) c (k+1) (Oi n k d k none)=_
 have h1:Oi n k d k none=some (k,k):=by
  unfold Oi
  rw [he]
  show itF (Nj n d k) e (k+1) (Nj n d k k none)=_
  have h2:Nj n d k k none=some (k,k):=by
   unfold Nj
   rw [if_neg (fun e=>h0 (Int.natAbs_eq_zero.1 e))]
  rw [h2]
  exact Pm fun x h3 h4=>Vz (h k x (Nat.le_refl _) hk (by omega) (by omega))
 rw [h1]
 exact Pm fun i h1 h2=>hrow i (by omega) (by omega)
theorem Xg {a b:Nat→Nat} {N:Nat} (ha:∀ x y,x<N→y<N→a x=a y→x=y) (hb:∀ x y,x<N→y<N→b x=b y→x=y) (hab:∀ x y,x<N→y<N→a x≠b y):∀ {c j:Nat} {xs:List Int},(∀ x,x<N→a x<xs.length∧b x<xs.length)→j+c≤N →
  (∀ x,j≤x→x<j+c→(itF (swF a b) c j xs).getD (a x) 0=xs.getD (b x) 0∧(itF (swF a b) c j xs).getD (b x) 0=xs.getD (a x) 0)∧∀ p,(∀ x,j≤x→x<j+c→p≠a x∧p≠b x)→(itF (swF a b) c j xs).getD p 0=xs.getD p 0
 |0,j,xs,_,_=>⟨fun x h1 h2=>by omega,fun p _=>rfl⟩
 |c+1,j,xs,hl,hj=>by
  have hj':j<N:=by omega
  obtain ⟨h1,h2⟩:=Xg ha hb hab (c:=c) (j:=j+1) (xs:=swF a b j xs) (fun x hx=>by unfold swF; rw [List.length_set,List.length_set]; exact hl x hx) (by omega)
  have hs:∀ p,(swF a b j xs).getD p 0=if b j=p then xs.getD (a j) 0 else if a j=p then xs.getD (b j) 0 else xs.getD p 0:=fun p=>by
   unfold swF
   rw [Np,Np,List.length_set]
   simp only [(hl j hj').1,(hl j hj').2,and_true]
  show (∀ x,j≤x→x<j+(c+1)→(itF (swF a b) c (j+1) (swF a b j xs)).getD (a x) 0=_∧(itF (swF a b) c (j+1) (swF a b j xs)).getD (b x) 0=_)∧∀ p,_→(itF (swF a b) c (j+1) (swF a b j xs)).getD p 0=_
  refine ⟨fun x hx1 hx2=>?_,fun p hp=>?_⟩
  ·by_cases e:x=j
   ·subst e
    rw [h2 (a x) (fun y hy1 hy2=>⟨fun e=>by have:=ha x y (by omega) (by omega) e; omega,hab x y (by omega) (by omega)⟩),h2 (b x) (fun y hy1 hy2=>⟨fun e=>hab y x (by omega) (by omega) e.symm,fun e=>by have:=hb x y (by omega) (by omega) e; omega⟩),hs,hs,if_neg (fun e=>hab x x hj' hj' e.symm),if_pos rfl,if_pos rfl]
    exact ⟨rfl,rfl⟩
   ·obtain ⟨h3,h4⟩:=h1 x (by omega) (by omega)
    rw [h3,h4,hs,hs,if_neg (fun e'=>e (hb j x hj' (by omega) e').symm),if_neg (fun e'=>hab j x hj' (by omega) e'),if_neg (fun e'=>hab x j (by omega) hj' e'.symm),if_neg (fun e'=>e (ha j x hj' (by omega) e').symm)]
    exact ⟨rfl,rfl⟩
  ·rw [h2 p (fun x hx1 hx2=>hp x (by omega) (by omega)),hs,if_neg (fun e=>(hp j (Nat.le_refl _) (by omega)).2 e.symm),if_neg (fun e=>(hp j (Nat.le_refl _) (by omega)).1 e.symm)]
theorem Uh {a:Nat→Nat} {c j:Nat} {xs:List Int}:itF (swF a a) c j xs=xs:=Pm fun x _ _=>by
 unfold swF
 rw [List.set_set]
 apply List.ext_getElem?
 intro p
 rw [List.getElem?_set]
 by_cases e:a x=p
 ·subst e
  by_cases h:a x<xs.length
  ·simp [h]
  ·simp [h,List.getElem?_eq_none (Nat.le_of_not_lt h)]
 ·simp [e]
section
variable {m n:Nat} {xs:List Int}
theorem uR {p k i j:Nat} (hp:p<m) (hk:k<m) (hl:xs.length=m*n) (hj:j<n):At n (itF (swF (rwx n p) (rwx n k)) n 0 xs) i j=if i=k then At n xs p j else if i=p then At n xs k j else At n xs i j:=by
 by_cases e:p=k
 ·subst e; rw [Uh]; split<;>simp_all
 ·obtain ⟨h1,h2⟩:=Xg (a:=rwx n p) (b:=rwx n k) (N:=n) (c:=n) (j:=0) (xs:=xs) (fun x y hx hy e=>(Kj hx hy e).2) (fun x y hx hy e=>(Kj hx hy e).2) (fun x y hx hy e'=>e (Kj hx hy e').1) (fun x hx=>by rw [hl]; exact ⟨Jy hp hx,Jy hk hx⟩) (by omega)
  by_cases e1:i=k
  ·subst e1; rw [if_pos rfl]; exact (h1 j (by omega) (by omega)).2
  ·rw [if_neg e1]
   by_cases e2:i=p
   ·subst e2; rw [if_pos rfl]; exact (h1 j (by omega) (by omega)).1
   ·rw [if_neg e2]; exact h2 _ fun x _ hx=>⟨fun e'=>e2 (Kj hj (by omega) e').1,fun e'=>e1 (Kj hj (by omega) e').1⟩
theorem tN {p k i j:Nat} (hp:p<n) (hk:k<n) (hl:xs.length=m*n) (hi:i<m) (hj:j<n):At n (itF (swF (clx n p) (clx n k)) m 0 xs) i j=if j=k then At n xs i p else if j=p then At n xs i k else At n xs i j:=by
 by_cases e:p=k
 ·subst e; rw [Uh]; split<;>simp_all
 ·obtain ⟨h1,h2⟩:=Xg (a:=clx n p) (b:=clx n k) (N:=m) (c:=m) (j:=0) (xs:=xs) (fun x y hx hy e=>(Kj hp hp e).1) (fun x y hx hy e=>(Kj hk hk e).1) (fun x y hx hy e'=>e (Kj hp hk e').2) (fun x hx=>by rw [hl]; exact ⟨Jy hx hp,Jy hx hk⟩) (by omega)
  by_cases e1:j=k
  ·subst e1; rw [if_pos rfl]; exact (h1 i (by omega) (by omega)).2
  ·rw [if_neg e1]
   by_cases e2:j=p
   ·subst e2; rw [if_pos rfl]; exact (h1 i (by omega) (by omega)).1
   ·rw [if_neg e2]; exact h2 _ fun x _ hx=>⟨fun e'=>e2 (Kj hj hp e').2,fun e'=>e1 (Kj hj hk e').2⟩
theorem dZ {a:Nat→Nat} {N:Nat} (ha:∀ x y,x<N→y<N→a x=a y→x=y):∀ {c j:Nat} {xs:List Int},(∀ x,x<N→a x<xs.length)→j+c≤N →
  (∀ x,j≤x→x<j+c→(itF (ngF a) c j xs).getD (a x) 0 = -(xs.getD (a x) 0))∧∀ p,(∀ x,j≤x→x<j+c→p≠a x)→(itF (ngF a) c j xs).getD p 0=xs.getD p 0
 |0,j,xs,_,_=>⟨fun x h1 h2=>by omega,fun p _=>rfl⟩
 |c+1,j,xs,hl,hj=>by
  have hj':j<N:=by omega
  obtain ⟨h1,h2⟩:=dZ ha (c:=c) (j:=j+1) (xs:=ngF a j xs) (fun x hx=>by unfold ngF; rw [List.length_set]; exact hl x hx) (by omega)
  have hs:∀ p,(ngF a j xs).getD p 0=if a j=p then -(xs.getD (a j) 0) else xs.getD p 0:=fun p=>by
   unfold ngF
   rw [Np]
   simp only [hl j hj',and_true]
  show (∀ x,j≤x→x<j+(c+1)→(itF (ngF a) c (j+1) (ngF a j xs)).getD (a x) 0=_)∧∀ p,_→(itF (ngF a) c (j+1) (ngF a j xs)).getD p 0=_
  refine ⟨fun x hx1 hx2=>?_,fun p hp=>?_⟩
  ·by_cases e:x=j
   ·subst e
    rw [h2 (a x) (fun y hy1 hy2 e=>by have:=ha x y (by omega) (by omega) e; omega),hs,if_pos rfl]
   ·rw [h1 x (by omega) (by omega),hs,if_neg (fun e'=>e (ha j x hj' (by omega) e').symm)]
  ·rw [h2 p (fun x hx1 hx2=>hp x (by omega) (by omega)),hs,if_neg (fun e=>hp j (Nat.le_refl _) (by omega) e.symm)]
end
section
variable {m n k:Nat} {s t:Sm}
theorem rY {xs:List Int} {i j:Nat} (hk:k<m) (hl:xs.length=m*n) (hj:j<n):At n (itF (ngF (rwx n k)) n 0 xs) i j=if i=k then -(At n xs k j) else At n xs i j:=by
 obtain ⟨h1,h2⟩:=dZ (a:=rwx n k) (N:=n) (c:=n) (j:=0) (xs:=xs) (fun x y hx hy e=>(Kj hx hy e).2) (fun x hx=>by rw [hl]; exact Jy hk hx) (by omega)
 by_cases e:i=k
 ·subst e; rw [if_pos rfl]; exact h1 j (by omega) (by omega)
 ·rw [if_neg e]; exact h2 _ fun x _ hx e'=>e (Kj hj (by omega) e').1
theorem mK {p q i j:Nat} (h:Ok m n s) (hk:k<m) (hkn:k<n) (hp:p<m) (hq:q<n) (hi:i<m) (hj:j<n):At n (swp m n k p q s).d i j=At n s.d (if i=k then p else if i=p then k else i) (if j=k then q else if j=q then k else j):=by
 show At n (itF (swF (clx n q) (clx n k)) m 0 _) i j=_
 rw [tN hq hkn (Js h.d) hi hj]
 have hr:∀ j',j'<n→At n (itF (swF (rwx n p) (rwx n k)) n 0 s.d) i j'=At n s.d (if i=k then p else if i=p then k else i) j':=fun j' hj'=>by
  rw [uR hp hk h.d hj']; split
  ·rfl
  ·split<;>rfl
 split
 ·rw [hr q hq]
 ·split
  ·rw [hr k hkn]
  ·rw [hr j hj]
theorem U7 (h:Ok m n s) (hk:k<m) (hkn:k<n) (ht:pvt m n k s=some t):∃ p q,k≤p∧p<m∧k≤q∧q<n∧0<At n t.d k k∧(At n t.d k k).natAbs=(At n s.d p q).natAbs∧(∀ i j,k≤i→i<m→k≤j→j<n→At n s.d i j≠0→(At n s.d p q).natAbs≤(At n s.d i j).natAbs)∧∀ i j,i<k→j<k→At n t.d i j=At n s.d i j:=by
 unfold pvt at ht
 rw [Option.map_eq_some_iff] at ht
 obtain ⟨⟨p,q⟩,hv,ht⟩:=ht
 have hsi:=lI m n k s.d
 rw [hv] at hsi
 obtain ⟨h1,h2⟩:=hsi
 have hr:InR m n k (sel m n k s.d):=by
  unfold sel
  have:∀ c i (z:Option (Nat × Nat)),k≤i→i+c=m→InR m n k z→InR m n k (itF (Oi n k s.d) c i z):=by
   intro c
   induction c with
   |zero=>intro i z _ _ hz; exact hz
   |succ c ih=>intro i z hi hc hz; exact ih (i+1) _ (by omega) (by omega) (Xt (by omega) hi (by omega) hz)
  exact this (m - k) k none (Nat.le_refl _) (by omega) (fun p q e=>by cases e)
 rw [hv] at hr
 obtain ⟨a1,a2,a3,a4⟩:=hr p q rfl
 have e0:At n (swp m n k p q s).d k k=At n s.d p q:=by rw [mK h hk hkn a2 a4 hk hkn,if_pos rfl,if_pos rfl]
 have e1:∀ i j,i<k→j<k→At n (swp m n k p q s).d i j=At n s.d i j:=fun i j hi hj=>by rw [mK h hk hkn a2 a4 (by omega) (by omega),if_neg (by omega),if_neg (by omega),if_neg (by omega),if_neg (by omega)]
 refine ⟨p,q,a1,a2,a3,a4,?_⟩
 dsimp only at ht
 split at ht
 ·next hg =>
  subst ht
  have hg':At n s.d p q<0:=by rw [← e0]; exact hg
  have e2:∀ i j,j<n→At n (ngk m n k (swp m n k p q s)).d i j=if i=k then -(At n (swp m n k p q s).d k j) else At n (swp m n k p q s).d i j:=fun i j hj=>rY hk (Vm h).d hj
  rw [e2 k k hkn,if_pos rfl,e0]
  exact ⟨by omega,by omega,fun i j b1 b2 b3 b4 hn=>h2 i j ⟨b1,b2,b3,b4⟩ hn,fun i j b1 b2=>by rw [e2 i j (by omega),if_neg (by omega),e1 i j b1 b2]⟩
 ·next hg =>
  subst ht
  have hg':¬ At n s.d p q<0:=by rw [← e0]; exact hg
  rw [e0]
  exact ⟨by omega,rfl,fun i j b1 b2 b3 b4 hn=>h2 i j ⟨b1,b2,b3,b4⟩ hn,e1⟩
theorem iD (hn:pvt m n k s=none):∀ i j,k≤i→i<m→k≤j→j<n→At n s.d i j=0:=by
 unfold pvt at hn
 rw [Option.map_eq_none_iff] at hn
 have hsi:=lI m n k s.d
 rw [hn] at hsi
 exact fun i j a b c d=>hsi i j ⟨a,b,c,d⟩
theorem wL (hk:k<m) (hkn:k<n) (h0:0<At n s.d k k) (h:∀ i j,k≤i→i<m→k≤j→j<n→At n s.d i j=0∨(At n s.d k k).natAbs≤(At n s.d i j).natAbs):pvt m n k s=some s:=by
 have hs:swp m n k k k s=s:=by
  unfold swp
  simp only [Uh]
 unfold pvt
 rw [fQ hk hkn (by omega) h,Option.map_some,hs,if_neg (by show ¬ At n s.d k k<0; omega)]
end
theorem O3 {l:Nat→Nat→Int→Option Int} {s:List Int} {P:Int→Bool} (hs:s.length≤2000000) (go:∀ K k (i:Nat),i<s.length→l K (k+1) (i:Int)=if P (s.getD i 0)=true then some (i:Int) else l K k (w64 ((i:Int)+1))) (fin:∀ K k,l K (k+1) (s.length:Int)=some (-1)) :
  Ab (fun K=>(l K K 0).bind fun t=>some (decide (0≤t))) (!Mg s.length fun i=>!P (s.getD i 0)):=by
 obtain ⟨v,h1,h2⟩:=Z5 (l:=fun K k i=>l K k (i:Int)) (n:=s.length) (P:=fun i=>!P (s.getD i 0)) (fun i hi hp v hv=>Aa.step (fun K k=>by
  rw [go K k i hi,if_neg (by simpa using hp),Aj (by omega)]) hv) (fun i hi hp=>Aa.of fun K k=>by rw [go K k i hi,if_pos (by simpa using hp)]) (Aa.of fun K k=>fin K k)
 refine (h1.Gz).bind ?_
 rw [h2]
 exact Ab.const _
section
variable {m n k:Nat} {d:List Int}
def Re (m n k:Nat) (d:List Int):Bool:=Mg (m - (k+1)) (fun x=>At n d (k+1+x) k == 0) && Mg (n - (k+1)) (fun x=>At n d k (k+1+x) == 0)
def Pw (n k:Nat) (d:List Int) (i:Nat):Bool:=Mg (n - (k+1)) fun x=>(At n d i (k+1+x)).tmod (At n d k k) == 0
def Ro (n k:Nat) (d:List Int):Nat→Nat→Int
 |0,_=>-1
 |c+1,i=>if Pw n k d i=true then Ro n k d c (i+1) else (i:Int)
theorem Us {i:Nat} (hi:i<m) (hkn:k<n) (hl:d.length=m*n):((((d.take ((i+1)*n)).drop (i*n)).take (((d.take ((i+1)*n)).drop (i*n)).length)).drop (k+1)).length=n - (k+1)∧((d.take ((i+1)*n)).drop (i*n)).length=n:=by
 have h3:(i+1)*n≤m*n:=Nat.mul_le_mul_right n hi
 have h4:(i+1)*n=i*n+n:=Nat.succ_mul i n
 have h5:((d.take ((i+1)*n)).drop (i*n)).length=n:=by rw [List.length_drop,List.length_take]; omega
 refine ⟨?_,h5⟩
 rw [List.length_drop,List.length_take,h5]; omega
theorem Zm {i j:Nat} (hi:i<m) (hl:d.length=m*n) (hj:k+1+j<n):((((d.take ((i+1)*n)).drop (i*n)).take (((d.take ((i+1)*n)).drop (i*n)).length)).drop (k+1)).getD j 0=At n d i (k+1+j):=by
 have h3:(i+1)*n≤m*n:=Nat.mul_le_mul_right n hi
 have h4:(i+1)*n=i*n+n:=Nat.succ_mul i n
 have h5:=(Us (k:=k) hi (by omega) hl).2
 rw [Tt (Nat.le_refl _) (by omega),Tt (by omega) (by omega)]
theorem fO {s:Sm} {b:Bool} (hm:m≤1000) (hn:n≤1000) (h:Ok m n s) (hk:k<m) (hkn:k<n):Ab (fun K=>Db.f K (m:Int) (m:Int) s.l (m:Int) (m:Int) s.li (m:Int) (n:Int) s.d (n:Int) (n:Int) s.r (n:Int) (n:Int) s.ri b (k:Int)) (Re m n k s.d):=by
 have hl:=h.d
 have h3:(k+1)*n≤m*n:=Nat.mul_le_mul_right n hk
 have h7:k*n≤(k+1)*n:=Nat.mul_le_mul_right n (Nat.le_succ k)
 obtain ⟨t1,t2⟩:=Us (k:=k) hk hkn hl
 have hc:Ab (fun K=>Cs.f K ((((s.d.take ((k+1)*n)).drop (k*n)).take (((s.d.take ((k+1)*n)).drop (k*n)).length)).drop (k+1))) (!Mg (n - (k+1)) fun x=>At n s.d k (k+1+x) == 0):=by
  have:=O3 (l:=fun K x i=>Az.l1 K x ((((s.d.take ((k+1)*n)).drop (k*n)).take (((s.d.take ((k+1)*n)).drop (k*n)).length)).drop (k+1)) i) (P:=fun x=>!(decide (x=0))) (by rw [t1]; omega) (fun K x i hi=>by
   simp only [Az.l1,Gm.f]
   rw [if_pos (by omega),if_pos ⟨by omega,by omega⟩,Option.bind_some,Int.toNat_natCast]) (fun K x=>by
   simp only [Az.l1]
   rw [if_neg (by omega)])
  rw [t1] at this
  rw [Ur (Q:=fun i=>!!(decide ((((((s.d.take ((k+1)*n)).drop (k*n)).take (((s.d.take ((k+1)*n)).drop (k*n)).length)).drop (k+1)).getD i 0)=0))) (fun j hj=>by rw [Zm hk hl (by omega)]; simp; rfl)]
  exact this
 unfold Re
 have:=Ml (l:=fun K x i=>Db.l1 K x (m:Int) (n:Int) s.d (k:Int) ((k+1+i:Nat):Int)) (n:=m - (k+1)) (P:=fun x=>At n s.d (k+1+x) k == 0) (r:=Mg (n - (k+1)) fun x=>At n s.d k (k+1+x) == 0) (fun i hi hp v hv=>Aa.step (fun K x=>by
   simp only [Db.l1]
   rw [if_pos (by omega),Me hl hl (by omega) hkn hm hn,Int.toNat_natCast,if_pos (by simpa using hp),Aj (by omega)]; rfl) hv) (fun i hi hp=>Aa.of fun K x=>by
   simp only [Db.l1]
   rw [if_pos (by omega),Me hl hl (by omega) hkn hm hn,Int.toNat_natCast,if_neg (by simpa using hp)]) (by
   refine Aa.step (G:=fun K x=>(Cs.f K ((((s.d.take ((k+1)*n)).drop (k*n)).take (((s.d.take ((k+1)*n)).drop (k*n)).length)).drop (k+1))).bind fun t=>some (!t)) (fun K x=>?_) (Aa.bind hc.two (Aa.of fun K x=>by rw [Bool.not_not]))
   simp only [Db.l1]
   rw [if_neg (by omega),dS hm hn hk hl,Aj (by omega)]
   show (if _ then _ else none)=_
   rw [if_pos ⟨by omega,by omega⟩,if_pos ⟨by omega,by omega⟩,Int.toNat_natCast,Int.toNat_natCast,t2,if_pos ⟨by omega,by omega⟩,Int.toNat_natCast,← t2])
 refine Ab.congr (fun K=>?_) this.Gz
 unfold Db.f
 rw [Aj (by omega)]
theorem oZ {s:Sm} {b:Bool} (hm:m≤1000) (hn:n≤1000) (h:Ok m n s) (hk:k<m) (hkn:k<n):Ab (fun K=>Dv.f K (m:Int) (n:Int) s.d (m:Int) (m:Int) s.l (m:Int) (m:Int) s.li (n:Int) (n:Int) s.r (n:Int) (n:Int) s.ri b (k:Int)) (Re m n k s.d):=by
 have hl:=h.d
 unfold Re
 have h4:=Ml (l:=fun K x i=>Dv.l4 K x (m:Int) (n:Int) s.d (k:Int) ((k+1+i:Nat):Int)) (n:=n - (k+1)) (P:=fun x=>At n s.d k (k+1+x) == 0) (r:=true) (fun i hi hp v hv=>Aa.step (fun K x=>by
  simp only [Dv.l4]
  rw [if_pos (by omega),Lt hl hk (by omega) hm hn,Option.bind_some,if_pos (by simpa using hp),Aj (by omega)]; rfl) hv) (fun i hi hp=>Aa.of fun K x=>by
  simp only [Dv.l4]
  rw [if_pos (by omega),Lt hl hk (by omega) hm hn,Option.bind_some,if_neg (by simpa using hp)]) (Aa.of fun K x=>by
  simp only [Dv.l4]
  rw [if_neg (by omega)])
 rw [Bool.and_true] at h4
 have:=Ml (l:=fun K x i=>Dv.l1 K x (m:Int) (n:Int) s.d (k:Int) ((k+1+i:Nat):Int)) (n:=m - (k+1)) (P:=fun x=>At n s.d (k+1+x) k == 0) (r:=Mg (n - (k+1)) fun x=>At n s.d k (k+1+x) == 0) (fun i hi hp v hv=>Aa.step (fun K x=>by
  simp only [Dv.l1]
  rw [if_pos (by omega),Lt hl (by omega) hkn hm hn,Option.bind_some,if_pos (by simpa using hp),Aj (by omega)]; rfl) hv) (fun i hi hp=>Aa.of fun K x=>by
  simp only [Dv.l1]
  rw [if_pos (by omega),Lt hl (by omega) hkn hm hn,Option.bind_some,if_neg (by simpa using hp)]) (by
  refine Aa.step (fun K x=>?_) h4
  simp only [Dv.l1]
  rw [if_neg (by omega),Aj (by omega)])
 refine Ab.congr (fun K=>?_) this.Gz
 unfold Dv.f
 rw [Aj (by omega)]
theorem Yy {s:Sm} {b:Bool} (hm:m≤1000) (hn:n≤1000) (h:Ok m n s) (hk:k<m) (hkn:k<n) (hp:At n s.d k k≠0):Ab (fun K=>Cr.f K (m:Int) (m:Int) s.l (m:Int) (m:Int) s.li (m:Int) (n:Int) s.d (n:Int) (n:Int) s.r (n:Int) (n:Int) s.ri b (k:Int)) (Ro n k s.d (m - (k+1)) (k+1)):=by
 have hl:=h.d
 have main:∀ (c i:Nat),i+c=m→Aa (fun K x=>Cr.l1 K x (m:Int) (n:Int) s.d (k:Int) (i:Int)) (Ro n k s.d c i):=by
  intro c
  induction c with
  |zero =>
   intro i hi
   obtain rfl:i=m:=by omega
   refine Aa.of fun K x=>?_
   simp only [Cr.l1]
   rw [if_neg (by omega)]; rfl
  |succ c ih =>
   intro i hi
   have him:i<m:=by omega
   have h3:(i+1)*n≤m*n:=Nat.mul_le_mul_right n him
   have h7:i*n≤(i+1)*n:=Nat.mul_le_mul_right n (Nat.le_succ i)
   obtain ⟨t1,t2⟩:=Us (k:=k) him hkn hl
   have hc:Ab (fun K=>Ck.f K ((((s.d.take ((i+1)*n)).drop (i*n)).take (((s.d.take ((i+1)*n)).drop (i*n)).length)).drop (k+1)) (m:Int) (n:Int) s.d (k:Int)) (!Pw n k s.d i):=by
    have:=O3 (l:=fun K x y=>Av.l1 K x ((((s.d.take ((i+1)*n)).drop (i*n)).take (((s.d.take ((i+1)*n)).drop (i*n)).length)).drop (k+1)) (m:Int) (n:Int) s.d (k:Int) y) (P:=fun x=>!(decide (x.tmod (At n s.d k k)=0))) (by rw [t1]; omega) (fun K x i hi=>by
     simp only [Av.l1,Eu.f]
     rw [if_pos (by omega),if_pos ⟨by omega,by omega⟩,Me hl hl hk hkn hm hn,Int.toNat_natCast,Int.toNat_natCast,if_neg hp,Option.bind_some]) (fun K x=>by
     simp only [Av.l1]
     rw [if_neg (by omega)])
    rw [t1] at this
    unfold Pw
    rw [Ur (Q:=fun j=>!!(decide (((((((s.d.take ((i+1)*n)).drop (i*n)).take (((s.d.take ((i+1)*n)).drop (i*n)).length)).drop (k+1)).getD j 0)).tmod (At n s.d k k)=0))) (fun j hj=>by rw [Zm him hl (by omega)]; simp; rfl)]
    exact this
   have step:∀ {r},Aa (fun K x=>if (!Pw n k s.d i)=true then some (i:Int) else Cr.l1 K x (m:Int) (n:Int) s.d (k:Int) ((i+1:Nat):Int)) r→Aa (fun K x=>Cr.l1 K x (m:Int) (n:Int) s.d (k:Int) (i:Int)) r:=fun {r} hr=>by
    refine Aa.step (G:=fun K x=>(Ck.f K ((((s.d.take ((i+1)*n)).drop (i*n)).take (((s.d.take ((i+1)*n)).drop (i*n)).length)).drop (k+1)) (m:Int) (n:Int) s.d (k:Int)).bind fun t=>if t=true then some (i:Int) else Cr.l1 K x (m:Int) (n:Int) s.d (k:Int) ((i+1:Nat):Int)) (fun K x=>?_) (Aa.bind hc.two hr)
    simp only [Cr.l1]
    rw [if_pos (by omega),dS hm hn him hl,Aj (by omega),Aj (by omega)]
    show (if _ then _ else none)=_
    rw [if_pos ⟨by omega,by omega⟩,if_pos ⟨by omega,by omega⟩,Int.toNat_natCast,Int.toNat_natCast,t2,if_pos ⟨by omega,by omega⟩,Int.toNat_natCast,← t2]
   unfold Ro
   cases hd:Pw n k s.d i with
   |true =>
    rw [if_pos rfl]
    refine step ?_
    rw [hd]
    exact Aa.neg (by decide) (ih (i+1) (by omega))
   |false =>
    rw [if_neg (by decide)]
    refine step ?_
    rw [hd]
    exact Aa.pos (by decide) (Aa.const _)
 refine Ab.congr (fun K=>?_) (main (m - (k+1)) (k+1) (by omega)).Gz
 unfold Cr.f
 rw [Aj (by omega)]
theorem yF {s:Sm} {b:Bool} (hm:m≤1000) (hn:n≤1000) (h:Ok m n s) (hk:k<m) (hkn:k<n) (hp:At n s.d k k≠0):Ab (fun K=>Dy.f K (m:Int) (n:Int) s.d (m:Int) (m:Int) s.l (m:Int) (m:Int) s.li (n:Int) (n:Int) s.r (n:Int) (n:Int) s.ri b (k:Int)) (Ro n k s.d (m - (k+1)) (k+1)):=by
 have hl:=h.d
 have inner:∀ i,i<m→∀ r,(Pw n k s.d i=true→Aa (fun K x=>Dy.l1 K x (m:Int) (n:Int) s.d (k:Int) ((i+1:Nat):Int)) r)→(Pw n k s.d i=false→r=(i:Int))→Aa (fun K x=>Dy.l4 K x (m:Int) (n:Int) s.d (k:Int) (i:Int) ((k+1:Nat):Int)) r:=by
  intro i him r ht hf
  have go:∀ j,j<n - (k+1)→((At n s.d i (k+1+j)).tmod (At n s.d k k) == 0)=true→∀ v,Aa (fun K x=>Dy.l4 K x (m:Int) (n:Int) s.d (k:Int) (i:Int) ((k+1+(j+1):Nat):Int)) v→Aa (fun K x=>Dy.l4 K x (m:Int) (n:Int) s.d (k:Int) (i:Int) ((k+1+j:Nat):Int)) v:=fun j hj hp' v hv=>Aa.step (fun K x=>by
   simp only [Dy.l4]
   rw [if_pos (by omega),Lt hl him (by omega) hm hn,Option.bind_some,Lt hl hk hkn hm hn,Option.bind_some,if_neg hp,if_pos (by simpa using hp'),Aj (by omega)]; rfl) hv
  have stop:∀ j,j<n - (k+1)→((At n s.d i (k+1+j)).tmod (At n s.d k k) == 0)=false→Aa (fun K x=>Dy.l4 K x (m:Int) (n:Int) s.d (k:Int) (i:Int) ((k+1+j:Nat):Int)) (i:Int):=fun j hj hp'=>Aa.of fun K x=>by
   simp only [Dy.l4]
   rw [if_pos (by omega),Lt hl him (by omega) hm hn,Option.bind_some,Lt hl hk hkn hm hn,Option.bind_some,if_neg hp,if_neg (by simpa using hp')]
  cases hd:Pw n k s.d i with
  |false =>
   rw [hf hd]
   exact Xb (l:=fun K x j=>Dy.l4 K x (m:Int) (n:Int) s.d (k:Int) (i:Int) ((k+1+j:Nat):Int)) go stop hd
  |true =>
   have main:∀ c j,j+c=n - (k+1)→Aa (fun K x=>Dy.l4 K x (m:Int) (n:Int) s.d (k:Int) (i:Int) ((k+1+j:Nat):Int)) r:=by
    intro c
    induction c with
    |zero =>
     intro j hj
     refine Aa.step (fun K x=>?_) (ht hd)
     simp only [Dy.l4]
     rw [if_neg (by omega),Aj (by omega)]
    |succ c ih=>intro j hj; exact go j (by omega) (Ol hd (by omega)) r (ih (j+1) (by omega))
   exact main (n - (k+1)) 0 (by omega)
 have main:∀ (c i:Nat),i+c=m→Aa (fun K x=>Dy.l1 K x (m:Int) (n:Int) s.d (k:Int) (i:Int)) (Ro n k s.d c i):=by
  intro c
  induction c with
  |zero =>
   intro i hi
   obtain rfl:i=m:=by omega
   refine Aa.of fun K x=>?_
   simp only [Dy.l1]
   rw [if_neg (by omega)]; rfl
  |succ c ih =>
   intro i hi
   have him:i<m:=by omega
   refine Aa.step (fun K x=>?_) (inner i him (Ro n k s.d (c+1) i) (fun hd=>by unfold Ro; rw [if_pos hd]; exact ih (i+1) (by omega)) (fun hd=>by unfold Ro; rw [if_neg (by rw [hd]; decide)]))
   simp only [Dy.l1]
   rw [if_pos (by omega),Aj (by omega)]
 refine Ab.congr (fun K=>?_) (main (m - (k+1)) (k+1) (by omega)).Gz
 unfold Dy.f
 rw [Aj (by omega)]
end
end Go.Proofs.YtgkgmhkgahalgaaGreat
