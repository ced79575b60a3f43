/-
  Triangulations: where the ring around an edge's class begins.
  Triangulations: the ring around an edge's class that touches no boundary.
  Triangulations: what the moves 2-3 and 1-4 plan.
  Triangulations: what the move 3-2 plans.
  Triangulations: the move 3-2, whole.
  Triangulations: the move 3-2 in both.
  Triangulations: the tetrahedra around a vertex that is to go.
  Triangulations: the star of a vertex.
  Triangulations: the move 4-1 in both.
  Triangulations: the code of a move in both.
-/
import Derived.Test.YtbjfinndngafoaaGreatPlT17
set_option linter.unusedVariables false
set_option linter.unusedSimpArgs false
set_option linter.unusedSectionVars false
namespace Go.Proofs.YtbjfinndngafoaaGreat
open Go.RowKit
def ST (e:Nat):Nat:=[0,2,4,8,10,16].getD e 0
theorem vG {e:Nat} (he:e<6):ST e<24∧PA (ST e) 0=EA e∧PA (ST e) 1=EB e∧EE (PA (ST e) 0) (PA (ST e) 1)=e:=by
  have:∀ e,e<6→ST e<24∧PA (ST e) 0=EA e∧PA (ST e) 1=EB e∧EE (PA (ST e) 0) (PA (ST e) 1)=e:=by decide +kernel
  exact this e he
theorem dR:(fun (K:Nat) (r:Int)=>(List.range 6).map fun e:Nat=>Go.Proofs.YtbjfinndngafoaaGreat.Ew (Gm.f (K+150) (e:Int)) (fun t412 t413=>((Fb.f (K+150) ([t412,t413]:List Int)).bind fun t419=>(if 0≤(0:Int)∧(0:Int)<(t419.length:Int) then (if 0≤(1:Int)∧(1:Int)<(t419.length:Int) then ((Cu.f (K+150) t412 t413 (t419.getD 0 0) (t419.getD 1 0)).bind fun t429=>(some (r,t429))) else none) else none))))=fun K r=>(List.range 6).map fun e:Nat=>some (r,(ST e:Int)):=by kernel_rfl
theorem mE {e:Nat} (he:e<6) (r:Int):Ac (fun K=>Go.Proofs.YtbjfinndngafoaaGreat.Ew (Gm.f K (e:Int)) (fun t412 t413=>((Fb.f K ([t412,t413]:List Int)).bind fun t419=>(if 0≤(0:Int)∧(0:Int)<(t419.length:Int) then (if 0≤(1:Int)∧(1:Int)<(t419.length:Int) then ((Cu.f K t412 t413 (t419.getD 0 0) (t419.getD 1 0)).bind fun t429=>(some (r,t429))) else none) else none)))) (r,(ST e:Int)) :=
  tab (F:=fun K e=>Go.Proofs.YtbjfinndngafoaaGreat.Ew (Gm.f K (e:Int)) (fun t412 t413=>((Fb.f K ([t412,t413]:List Int)).bind fun t419=>(if 0≤(0:Int)∧(0:Int)<(t419.length:Int) then (if 0≤(1:Int)∧(1:Int)<(t419.length:Int) then ((Cu.f K t412 t413 (t419.getD 0 0) (t419.getD 1 0)).bind fun t429=>(some (r,t429))) else none) else none)))) (g:=fun e=>(r,(ST e:Int))) (m:=150) (n:=6) (funext fun K=>congrFun (congrFun dR K) r) he
theorem wH {e:Nat} (he:e<6):Ac (fun K=>Ck.f K [0,1] [(EA e:Int),(EB e:Int)]) ((ST e:Int),true) :=
  tab (F:=fun K e=>Ck.f K [0,1] [(EA e:Int),(EB e:Int)]) (g:=fun e=>((ST e:Int),true)) (m:=120) (n:=6) (by kernel_rfl) he
theorem Ud {l:List Int} (hl:l.length≤1000) {v:Int} {j0:Nat} (hj:j0<l.length) (h0:l.getD j0 0=v) (h1:∀ j,j<j0→l.getD j 0≠v):∀ (d j:Nat),j0 - j=d→j≤j0→Aa (fun K k=>Ch.l1 K k l v (j:Int)) (j0:Int)
  | 0,j,hd,hle=>by
    obtain rfl:j=j0:=by omega
    refine Aa.of fun K k=>?_
    rw [Ch.l1,if_pos (by omega),if_pos (by omega),Int.toNat_natCast,if_pos h0.symm]
  | d+1,j,hd,hle=>by
    refine Aa.step (fun K k=>?_) (Ud hl hj h0 h1 d (j+1) (by omega) (by omega))
    rw [Ch.l1,if_pos (by omega),if_pos (by omega),Int.toNat_natCast,if_neg (fun e=>h1 j (by omega) e.symm),Be (by omega)]
theorem fU {a b:Nat} (ha:a<4) (hb:b<4) (h:a≠b) {f:Nat} (hfa:f≠a) (hfb:f≠b):EA (EE a b)≠f∧EB (EE a b)≠f:=by
  obtain ⟨_,h1,h2⟩:=Tw ha hb h
  rw [h1,h2]; omega
structure aT (ts:List (List Ab)) (C:List Int) (cl:Int):Prop where
  no:∀ j,j<6 * ts.length→C.getD j 0=cl→∀ f,¬ bdE ts j f
section
variable {ts:List (List Ab)} (hv:Val ts) {C:List Int} {cl:Int} (hI:aT ts C cl)
include hv hI
theorem Xu {a:Nat} (ha:a<ts.length) {R:Int × Int} (hR:Aa (fun K k=>De.l1 K k ts cl (rowsOf C 6 ts.length) ((a+1:Nat):Int)) R):∀ (d p:Nat),24 - p=d→p≤24→Aa (fun K k=>De.l4 K k ts cl (rowsOf C 6 ts.length) (a:Int) (p:Int)) R
  | 0,p,hd,hp=>by
    have h8:=hv.le
    refine Aa.step (fun K k=>?_) hR
    rw [De.l4,if_neg (by omega),Be (by omega)]
  | d+1,p,hd,hp=>by
    have h8:=hv.le
    have hp:p<24:=by omega
    have h0:PA p 0<4:=Ei hp (by omega)
    have h1:PA p 1<4:=Ei hp (by omega)
    have h3:PA p 3<4:=Ei hp (by omega)
    have hne:PA p 0≠PA p 1:=Ju hp (by omega) (by omega) (by omega)
    have he:=(Tw h0 h1 hne).1
    have ih:=Xu ha hR d (p+1) (by omega) (by omega)
    have hr:=hv.four a ha
    refine Aa.step (G:=fun K k=>(Bq.f K (p:Int) ((0:Nat):Int)).bind fun t387=>((Bq.f K (p:Int) ((1:Nat):Int)).bind fun t391=>((E8.f K t387 t391).bind fun t395=>(if 0≤(a:Int)∧(a:Int)<((rowsOf C 6 ts.length).length:Int) then (if 0≤t395∧t395<(((rowsOf C 6 ts.length).getD a []).length:Int) then (if ((rowsOf C 6 ts.length).getD a []).getD t395.toNat 0=cl then (if 0≤(a:Int)∧(a:Int)<(ts.length:Int) then ((Bq.f K (p:Int) ((3:Nat):Int)).bind fun t415=>(if 0≤t415∧t415<((ts.getD a []).length:Int) then (if ((ts.getD a []).getD t415.toNat Bj).Tet<0 then (some ((a:Int),(p:Int))) else (De.l4 K k ts cl (rowsOf C 6 ts.length) (a:Int) ((p+1:Nat):Int))) else none)) else none) else (De.l4 K k ts cl (rowsOf C 6 ts.length) (a:Int) ((p+1:Nat):Int))) else none) else none)))) (fun K k=>?_) ?_
    · rw [De.l4,if_pos (by omega),Be (by omega)]; rfl
    · refine Aa.bind (Mr hp (by omega)).two ?_
      refine Aa.bind (Mr hp (by omega)).two ?_
      refine Aa.bind (Wm h0 h1 hne).two ?_
      refine Aa.pos (by rw [Hd]; omega) ?_
      rw [Ij ha]
      refine Aa.pos (by rw [Jl]; omega) ?_
      rw [Int.toNat_natCast,Jf he]
      by_cases hcl:C.getD (6 * a+EE (PA p 0) (PA p 1)) 0=cl
      · refine Aa.pos hcl (Aa.pos (by omega) ?_)
        refine Aa.bind (Mr hp (by omega)).two (Aa.pos (by omega) ?_)
        rw [Int.toNat_natCast]
        refine Aa.neg (fun hlt=>?_) ih
        refine hI.no _ (mul_lt ha he) hcl (PA p 3) ?_
        unfold bdE
        rw [(de6 he).1,(de6 he).2]
        obtain ⟨n1,n2⟩:=fU h0 h1 hne (f:=PA p 3) (Ju hp (by omega) (by omega) (by omega)) (Ju hp (by omega) (by omega) (by omega))
        exact ⟨h3,n1,n2,hlt⟩
      · exact Aa.neg hcl ih
theorem Ya {R:Int × Int} (hR:Ac (fun K=>Go.Proofs.YtbjfinndngafoaaGreat.Ew (Dj.f K ts cl) (fun t424 t425=>(Go.Proofs.YtbjfinndngafoaaGreat.Ew (Gs.f t425) (fun t429 t430=>(Go.Proofs.YtbjfinndngafoaaGreat.Ew (Ck.f K ([0,1]:List Int) ([t429,t430]:List Int)) (fun t438 t439=>(some (t424,t438)))))))) R):∀ (d a:Nat),ts.length - a=d→a≤ts.length→Aa (fun K k=>De.l1 K k ts cl (rowsOf C 6 ts.length) (a:Int)) R
  | 0,a,hd,ha=>by
    have h8:=hv.le
    refine Aa.step (fun K k=>?_) hR.two
    rw [De.l1,Cs.f,Option.bind_some,if_neg (by omega)]
  | d+1,a,hd,ha=>by
    have h8:=hv.le
    refine Aa.step (fun K k=>?_) (Xu hv hI (show a<ts.length by omega) (Ya hR d (a+1) (by omega) (by omega)) 24 0 (by omega) (by omega))
    rw [De.l1,Cs.f,Option.bind_some,if_pos (by omega)]
    rfl
end
section
variable {ts:List (List Ab)} (hv:Val ts) {C:List Int} {cl:Int} {j0:Nat} (hj:j0<6 * ts.length) (h0:C.getD j0 0=cl) (h1:∀ j,j<j0→C.getD j 0≠cl)
include hv hj h0 h1
theorem Sn:∀ (d a e:Nat),7 * (j0 / 6)+j0 % 6 - (7 * a+e)=d→a≤j0 / 6→e≤6→6 * a+e≤j0→Aa (fun K k=>Dj.l4 K k cl (rowsOf C 6 ts.length) (a:Int) (e:Int)) (((j0 / 6:Nat):Int),((j0 % 6:Nat):Int))
  | 0,a,e,hd,ha,he,hle=>by
    have h8:=hv.le
    have ha':a=j0 / 6:=by omega
    have he':e=j0 % 6:=by omega
    have hlt:a<ts.length:=by omega
    refine Aa.of fun K k=>?_
    rw [Dj.l4,if_pos (by omega),if_pos (by rw [Hd]; omega),Int.toNat_natCast,Ij hlt,if_pos (by rw [Jl]; omega),Int.toNat_natCast,Jf (by omega),if_pos (by rw [show 6 * a+e=j0 by omega]; exact h0),ha',he']
  | d+1,a,e,hd,ha,he,hle=>by
    have h8:=hv.le
    have hlt:a<ts.length:=by omega
    by_cases h6:e=6
    · refine Aa.step (G:=fun K k=>Dj.l1 K k cl (rowsOf C 6 ts.length) ((a+1:Nat):Int)) (fun K k=>?_) (Aa.step (fun K k=>?_) (Sn d (a+1) 0 (by omega) (by omega) (by omega) (by omega)))
      · rw [Dj.l4,if_neg (by omega),Be (by omega)]
      · rw [Dj.l1,if_pos (by rw [Hd]; omega)]; rfl
    · refine Aa.step (fun K k=>?_) (Sn d a (e+1) (by omega) (by omega) (by omega) (by omega))
      rw [Dj.l4,if_pos (by omega),if_pos (by rw [Hd]; omega),Int.toNat_natCast,Ij hlt,if_pos (by rw [Jl]; omega),Int.toNat_natCast,Jf (by omega),if_neg (h1 _ (by omega)),Be (by omega)]
theorem iT:Aa (fun K k=>Dj.l1 K k cl (rowsOf C 6 ts.length) 0) (((j0 / 6:Nat):Int),((j0 % 6:Nat):Int)):=by
  refine Aa.step (fun K k=>?_) (Sn hv hj h0 h1 _ 0 0 rfl (by omega) (by omega) (by omega))
  rw [Dj.l1,if_pos (by rw [Hd]; omega)]; rfl
end
section
variable {ts:List (List Ab)} (hv:Val ts) {s:List Int} (hP:G7 (6 * ts.length) (JE ts) s) (hc:Ac (fun K=>Bl.f K ts) (CN (6 * ts.length) s))
  {vr fr:List (List Int)} {nn:List Int} (hcnt:Ac (fun K=>Bf.f K ts) (vr,rowsOf (CN (6 * ts.length) s) 6 ts.length,fr,nn))
  {o:List Bool} (hbt:Ac (fun K=>Ap.f K ts) o) (hbl:o.length=Dn s (6 * ts.length)) (hbb:∀ c:Nat,o.getD c false=true↔∃ j,j<6 * ts.length∧(CN (6 * ts.length) s).getD j 0=(c:Int)∧∃ f,bdE ts j f)
include hv hP hc hcnt hbt hbl hbb
theorem aG {c j0:Nat} (hj:j0<6 * ts.length) (h0:(CN (6 * ts.length) s).getD j0 0=(c:Int)) (h1:∀ j,j<j0→(CN (6 * ts.length) s).getD j 0≠(c:Int)) (hno:o.getD c false=false) :
    aT ts (CN (6 * ts.length) s) (c:Int)∧Ac (fun K=>Bo.f K ts (c:Int)) (((j0 / 6:Nat):Int),(ST (j0 % 6):Int))∧Ac (fun K=>De.f K ts (c:Int)) (((j0 / 6:Nat):Int),(ST (j0 % 6):Int)):=by
  have h8:=hv.le
  have he:j0 % 6<6:=by omega
  have hI:aT ts (CN (6 * ts.length) s) (c:Int):=⟨fun j hj' hcl f hbd=>by
    have:=(hbb c).2 ⟨j,hj',hcl,f,hbd⟩
    rw [hno] at this; cases this⟩
  have hr:=J8 (s:=s) (N:=6 * ts.length) (by omega) hj
  refine ⟨hI,?_,?_⟩
  · refine Ac.bind hc (Ac.bind hbt (Ac.pos (by omega) ?_))
    rw [Int.toNat_natCast]
    refine Ac.neg (by rw [hno]; decide) (Ac.bind (a:=(j0:Int)) (Ud (by rw [La]; omega) (by rw [La]; exact hj) h0 h1 _ 0 rfl (by omega)).Hg ?_)
    have e1:(j0:Int).tmod 6=((j0 % 6:Nat):Int):=by rw [Int.tmod_eq_emod_of_nonneg (by omega)]; omega
    have e2:w64 ((j0:Int).tdiv 6)=((j0 / 6:Nat):Int):=by rw [Int.tdiv_eq_ediv_of_nonneg (by omega),He (by omega) (by omega)]; omega
    rw [e1,e2]
    exact mE he _
  · refine Ac.D7 hcnt ?_
    refine Aa.Hg (F:=fun K k=>De.l1 K k ts (c:Int) (rowsOf (CN (6 * ts.length) s) 6 ts.length) ((0:Nat):Int)) ?_
    refine Ya hv hI ?_ _ 0 rfl (by omega)
    have hf:Ac (fun K=>Dj.f K ts (c:Int)) (((j0 / 6:Nat):Int),((j0 % 6:Nat):Int)):=Ac.D7 hcnt (iT hv hj h0 h1).Hg
    refine Ac.Ew hf ?_
    refine Ac.Ew (a:=(EA (j0 % 6):Int)) (b:=(EB (j0 % 6):Int)) (Ac.congr (fun K=>O5 he) (Ac.const _)) ?_
    exact Ac.Ew (wH he) (Ac.const _)
end
theorem gQ:∀ (N:Nat) (f:Nat→Nat),(∀ i,i≤N→f i<N)→∃ i j,i<j∧j≤N∧f i=f j
  | 0,f,h=>by have:=h 0 (Nat.le_refl _); omega
  | N+1,f,h=>by
    by_cases hx:∃ i,i≤N∧f i=f (N+1)
    · obtain ⟨i,hi,e⟩:=hx
      exact ⟨i,N+1,by omega,by omega,e⟩
    · have hne:∀ i,i≤N→f i≠f (N+1):=fun i hi e=>hx ⟨i,hi,e⟩
      have hl:=h (N+1) (Nat.le_refl _)
      obtain ⟨i,j,h1,h2,h3⟩:=gQ N (fun i=>if f i > f (N+1) then f i - 1 else f i) (fun i hi=>by
        have h1:=h i (by omega)
        have h2:=hne i hi
        show (if f i > f (N+1) then f i - 1 else f i)<N
        split <;> omega)
      refine ⟨i,j,h1,by omega,?_⟩
      have e1:=hne i (by omega)
      have e2:=hne j h2
      have h3:(if f i > f (N+1) then f i - 1 else f i)=(if f j > f (N+1) then f j - 1 else f j):=h3
      split at h3 <;> split at h3 <;> omega
def it (ts:List (List Ab)) (c:Nat × Nat):Nat→Nat × Nat
  | 0=>c
  | k+1=>(nx ts (it ts c k)).getD c
def eo (c:Nat × Nat):Nat:=6 * c.1+EE (PA c.2 0) (PA c.2 1)
def crn (c:Nat × Nat):Ab:=⟨c.1,c.2⟩
def Kr (ts:List (List Ab)) (c:Nat × Nat) (k:Nat):List Ab:=(List.range k).map fun i=>crn (it ts c i)
theorem Nb (ts:List (List Ab)) (c:Nat × Nat) (k:Nat):(Kr ts c k).length=k:=by simp [Kr]
theorem Yh {ts:List (List Ab)} {c:Nat × Nat} {k i:Nat} (h:i<k):(Kr ts c k).getD i Bj=crn (it ts c i):=by
  rw [Kr,List.getD_eq_getElem?_getD,List.getElem?_map,List.getElem?_range h]; rfl
theorem Vj (ts:List (List Ab)) (c:Nat × Nat) (k:Nat):Kr ts c (k+1)=Kr ts c k++[crn (it ts c k)]:=by unfold Kr; rw [List.range_succ,List.map_append]; rfl
structure Cor (ts:List (List Ab)) (C:List Int) (cl:Int) (c:Nat × Nat):Prop where
  tet:c.1<ts.length
  perm:c.2<24
  at_:C.getD (eo c) 0=cl
theorem Su {c:Nat × Nat} (hp:c.2<24):PA c.2 0<4∧PA c.2 1<4∧PA c.2 0≠PA c.2 1∧EE (PA c.2 0) (PA c.2 1)<6∧eo c / 6=c.1∧eo c % 6=EE (PA c.2 0) (PA c.2 1):=by
  have h0:PA c.2 0<4:=Ei hp (by omega)
  have h1:PA c.2 1<4:=Ei hp (by omega)
  have hne:PA c.2 0≠PA c.2 1:=Ju hp (by omega) (by omega) (by omega)
  have he:=(Tw h0 h1 hne).1
  exact ⟨h0,h1,hne,he,(de6 he).1,(de6 he).2⟩
section
variable {ts:List (List Ab)} (hv:Val ts)
include hv
theorem Sq {a f b q u v:Nat} (hq:q<24) (hu:u<4) (hw:v<4) (huv:u≠v) (h1:f≠u) (h2:f≠v) (hx:Cg ts a f=⟨b,q⟩):∃ fl,nbr ts (6 * a+EE u v) f=some (6 * b+EE (PA q u) (PA q v),fl):=by
  obtain ⟨he,hm,hM⟩:=Tw hu hw huv
  obtain ⟨n1,n2⟩:=fU hu hw huv h1 h2
  have key:=Nt hv he n1 n2 hx
  rw [hm,hM] at key
  have hE:EE (PA q (min u v)) (PA q (max u v))=EE (PA q u) (PA q v):=by
    by_cases h:u≤v
    · rw [Nat.min_eq_left h,Nat.max_eq_right h]
    · rw [Nat.min_eq_right (by omega),Nat.max_eq_left (by omega)]
      exact aO (Ei hq hw) (Ei hq hu)
  rw [hE] at key
  exact ⟨_,key⟩
variable {s:List Int} (hP:G7 (6 * ts.length) (JE ts) s) {cl:Int} (hI:aT ts (CN (6 * ts.length) s) cl)
include hP hI
theorem gN {c:Nat × Nat} (hc:Cor ts (CN (6 * ts.length) s) cl c):∃ c',nx ts c=some c'∧Cor ts (CN (6 * ts.length) s) cl c'∧(∃ fl,nbr ts (eo c) (PA c.2 2)=some (eo c',fl))∧(∃ fl,nbr ts (eo c') (PA c'.2 3)=some (eo c,fl)):=by
  obtain ⟨a,p⟩:=c
  obtain ⟨ha,hp,hat⟩:=hc
  have ha:a<ts.length:=ha
  have hp:p<24:=hp
  obtain ⟨h0,h1,hne,he,d1,d2⟩:=Su (c:=(a,p)) hp
  have h0:PA p 0<4:=h0
  have h1:PA p 1<4:=h1
  have hne:PA p 0≠PA p 1:=hne
  have h20:PA p 2≠PA p 0:=Ju hp (by omega) (by omega) (by omega)
  have h21:PA p 2≠PA p 1:=Ju hp (by omega) (by omega) (by omega)
  have h2:PA p 2<4:=Ei hp (by omega)
  have hlt:eo (a,p)<6 * ts.length:=mul_lt ha he
  rcases Nq hv ha hp with ⟨g1,g2⟩ | ⟨g1,b,q,hb,hq,g2,g3,g4⟩
  · refine (hI.no _ hlt hat (PA p 2) ?_).elim
    unfold bdE
    rw [d1,d2]
    obtain ⟨n1,n2⟩:=fU h0 h1 hne h20 h21
    exact ⟨h2,n1,n2,g1⟩
  · obtain ⟨m0,m1,m2,m3,m4⟩:=bS hp hq
    have e1:eo (b,NP q p)=6 * b+EE (PA q (PA p 0)) (PA q (PA p 1)):=by
      show 6 * b+EE (PA (NP q p) 0) (PA (NP q p) 1)=_
      rw [m1,m2]
    obtain ⟨fl,hn⟩:=Sq hv hq h0 h1 hne h20 h21 g2
    have hn:nbr ts (eo (a,p)) (PA p 2)=some (eo (b,NP q p),fl):=by rw [e1]; exact hn
    obtain ⟨fl',hn'⟩:=Sq hv (Im hq) (Ei hq h0) (Ei hq h1) (Ju hq h0 h1 hne) (Ju hq h2 h0 h20) (Ju hq h2 h1 h21) g3.2.2.2.1
    rw [K8 hq h0,K8 hq h1] at hn'
    refine ⟨(b,NP q p),g4,⟨hb,m0,?_⟩,⟨fl,hn⟩,⟨fl',?_⟩⟩
    · rw [(fA hv hP _ _ _ _ hlt h2 hn).2]; exact hat
    · show nbr ts (eo (b,NP q p)) (PA (NP q p) 3)=_
      rw [m4,e1]; exact hn'
theorem Ky {c:Nat × Nat} (hc:Cor ts (CN (6 * ts.length) s) cl c):∀ k,Cor ts (CN (6 * ts.length) s) cl (it ts c k)
  | 0=>hc
  | k+1=>by
    obtain ⟨c',h1,h2,_⟩:=gN hv hP hI (Ky hc k)
    rw [it,h1]; exact h2
theorem P9 {c:Nat × Nat} (hc:Cor ts (CN (6 * ts.length) s) cl c) (k:Nat):nx ts (it ts c k)=some (it ts c (k+1))∧(∃ fl,nbr ts (eo (it ts c k)) (PA (it ts c k).2 2)=some (eo (it ts c (k+1)),fl))∧(∃ fl,nbr ts (eo (it ts c (k+1))) (PA (it ts c (k+1)).2 3)=some (eo (it ts c k),fl)):=by
  obtain ⟨c',h1,h2,h3,h4⟩:=gN hv hP hI (Ky hv hP hI hc k)
  have e:it ts c (k+1)=c':=by rw [it,h1]; rfl
  rw [e]
  exact ⟨h1,h3,h4⟩
theorem aY {c:Nat × Nat} (hc:Cor ts (CN (6 * ts.length) s) cl c):∀ i j,it ts c i=it ts c (i+j)→it ts c j=c
  | 0,j,h=>by rw [Nat.zero_add] at h; exact h.symm
  | i+1,j,h=>by
    refine aY hc i j ?_
    have c1:=Ky hv hP hI hc i
    have c2:=Ky hv hP hI hc (i+j)
    have n1:=(P9 hv hP hI hc i).1
    have n2:=(P9 hv hP hI hc (i+j)).1
    rw [h,show i+1+j=i+j+1 by omega] at n1
    obtain ⟨e1,e2⟩:=rM hv c1.tet c1.perm c2.tet c2.perm n1 n2
    exact Prod.ext e1 e2
theorem vO {c:Nat × Nat} (hc:Cor ts (CN (6 * ts.length) s) cl c):∃ m,1≤m∧m≤192∧it ts c m=c∧∀ j,0<j→j<m→it ts c j≠c:=by
  have h8:=hv.le
  obtain ⟨i,j,h1,h2,h3⟩:=gQ 192 (fun k=>24 * (it ts c k).1+(it ts c k).2) (fun i _=>by
    have c1:=Ky hv hP hI hc i
    have:=c1.tet
    have:=c1.perm
    show 24 * (it ts c i).1+(it ts c i).2<192
    omega)
  have hex:∃ m,1≤m∧m≤192∧it ts c m=c:=by
    refine ⟨j - i,by omega,by omega,aY hv hP hI hc i (j - i) ?_⟩
    rw [show i+(j - i)=j by omega]
    have c1:=(Ky hv hP hI hc i).perm
    have c2:=(Ky hv hP hI hc j).perm
    have h3:24 * (it ts c i).1+(it ts c i).2=24 * (it ts c j).1+(it ts c j).2:=h3
    exact Prod.ext (by omega) (by omega)
  have least:∀ n m,m≤n→1≤m→m≤192→it ts c m=c→∃ m,1≤m∧m≤192∧it ts c m=c∧∀ j,0<j→j<m→it ts c j≠c:=by
    intro n
    induction n with
    | zero=>intro m h1 h2; omega
    | succ n ih =>
      intro m h1 h2 h3 h4
      by_cases hx:∃ j,0<j∧j<m∧it ts c j=c
      · obtain ⟨j,k1,k2,k3⟩:=hx
        exact ih j (by omega) (by omega) (by omega) k3
      · exact ⟨m,h2,h3,h4,fun j k1 k2 k3=>hx ⟨j,k1,k2,k3⟩⟩
  obtain ⟨m,h4,h5,h6⟩:=hex
  exact least m m (Nat.le_refl _) h4 h5 h6
theorem fK {c:Nat × Nat} (hc:Cor ts (CN (6 * ts.length) s) cl c) {m:Nat} (hm:m≤192) (hmc:it ts c m=c) (hno:∀ j,0<j→j<m→it ts c j≠c):∀ (d k:Nat),m - (k+1)=d→k<m→Aa (fun K f=>Co.l1 K f ts (c.1:Int) (c.2:Int) (Kr ts c (k+1))) (Kr ts c m)
  | d,k,hd,hk=>by
    have hk1:=Ky hv hP hI hc k
    have hn:=(P9 hv hP hI hc k).1
    have aft1:=lQ hv hk1.tet hk1.perm
    rw [hn] at aft1
    have hw:w64 (((k+1:Nat):Int) - 1)=(k:Int):=by rw [He (by omega) (by omega)]; omega
    refine Aa.step (G:=fun K f=>Go.Proofs.YtbjfinndngafoaaGreat.Jk (F3.f K ts ((it ts c k).1:Int) ((it ts c k).2:Int)) (fun t64 t65 t66=>(if t66=true then (if (t64,t65)=((c.1:Int),(c.2:Int)) then (some (Kr ts c (k+1))) else (if ((Kr ts c (k+1)).length+1) * 16≤140737488355328 then (Co.l1 K f ts (c.1:Int) (c.2:Int) ((Kr ts c (k+1))++[(⟨t64,t65⟩:Ab)])) else none)) else (some (Kr ts c (k+1)))))) (fun K f=>?_) ?_
    · rw [Co.l1,Nb,hw,if_pos (by omega),Int.toNat_natCast,Yh (by omega)]; rfl
    · refine Aa.Jk (a:=((it ts c (k+1)).1:Int)) (b:=((it ts c (k+1)).2:Int)) (c:=true) aft1.two (Aa.pos rfl ?_)
      by_cases e:k+1=m
      · subst e
        refine Aa.pos ?_ (Aa.const _)
        rw [hmc]
      · have h2:¬ (((it ts c (k+1)).1:Int),((it ts c (k+1)).2:Int))=((c.1:Int),(c.2:Int)):=fun h=>by
          injection h with h1 h2
          exact hno (k+1) (by omega) (by omega) (Prod.ext (by omega) (by omega))
        refine Aa.neg h2 (Aa.pos (by rw [Nb]; omega) ?_)
        have:=fK hc hm hmc hno (d - 1) (k+1) (by omega) (by omega)
        rw [Vj ts c (k+1)] at this
        exact this
theorem iF {c:Nat × Nat} (hc:Cor ts (CN (6 * ts.length) s) cl c) {m:Nat} (hm:m≤192) (hmc:it ts c m=c) (hno:∀ j,0<j→j<m→it ts c j≠c):∀ (d k:Nat),m - (k+1)=d→k<m→Aa (fun K f=>F9.l1 K f ts (c.1:Int) (c.2:Int) (Kr ts c (k+1))) (Kr ts c m)
  | d,k,hd,hk=>by
    have hk1:=Ky hv hP hI hc k
    have hn:=(P9 hv hP hI hc k).1
    have aft1:=mK hv hk1.tet hk1.perm
    rw [hn] at aft1
    have hw:w64 (((k+1:Nat):Int) - 1)=(k:Int):=by rw [He (by omega) (by omega)]; omega
    refine Aa.step (G:=fun K f=>Go.Proofs.YtbjfinndngafoaaGreat.Jk (Ed.f K ts ((it ts c k).1:Int) ((it ts c k).2:Int)) (fun t64 t65 t66=>(if t66=true then (if (t64,t65)=((c.1:Int),(c.2:Int)) then (some (Kr ts c (k+1))) else (if ((Kr ts c (k+1)).length+1) * 16≤140737488355328 then (F9.l1 K f ts (c.1:Int) (c.2:Int) ((Kr ts c (k+1))++[(⟨t64,t65⟩:Ab)])) else none)) else (some (Kr ts c (k+1)))))) (fun K f=>?_) ?_
    · rw [F9.l1,Nb,hw,if_pos (by omega),Int.toNat_natCast,Yh (by omega)]; rfl
    · refine Aa.Jk (a:=((it ts c (k+1)).1:Int)) (b:=((it ts c (k+1)).2:Int)) (c:=true) aft1.two (Aa.pos rfl ?_)
      by_cases e:k+1=m
      · subst e
        refine Aa.pos ?_ (Aa.const _)
        rw [hmc]
      · have h2:¬ (((it ts c (k+1)).1:Int),((it ts c (k+1)).2:Int))=((c.1:Int),(c.2:Int)):=fun h=>by
          injection h with h1 h2
          exact hno (k+1) (by omega) (by omega) (Prod.ext (by omega) (by omega))
        refine Aa.neg h2 (Aa.pos (by rw [Nb]; omega) ?_)
        have:=iF hc hm hmc hno (d - 1) (k+1) (by omega) (by omega)
        rw [Vj ts c (k+1)] at this
        exact this
theorem iI {c:Nat × Nat} (hc:Cor ts (CN (6 * ts.length) s) cl c) {m:Nat} (hm:1≤m) (hmc:it ts c m=c) {j:Nat} (hj:j<6 * ts.length):(CN (6 * ts.length) s).getD j 0=cl↔∃ k,k<m∧j=eo (it ts c k):=by
  have lt:∀ k,eo (it ts c k)<6 * ts.length:=fun k=>by
    have h:=Ky hv hP hI hc k
    exact mul_lt h.tet (Su h.perm).2.2.2.1
  constructor
  · intro hcl
    have nxt:∀ k,k<m→∃ k',k'<m∧eo (it ts c (k+1))=eo (it ts c k'):=fun k hk=>by
      by_cases e:k+1=m
      · exact ⟨0,by omega,by rw [e,hmc]; rfl⟩
      · exact ⟨k+1,by omega,rfl⟩
    have one:∀ x y f fl,f<4→nbr ts x f=some (y,fl)→(∃ k,k<m∧x=eo (it ts c k))→∃ k,k<m∧y=eo (it ts c k):=fun x y f fl hf hn ⟨k,hk,hx⟩=>by
      have hck:=Ky hv hP hI hc k
      have hp:=hck.perm
      obtain ⟨h0,h1,hne,he,d1,d2⟩:=Su (c:=it ts c k) hp
      rw [hx] at hn
      obtain ⟨b,q,_,_,_,_,n1,n2,_⟩:=Tf hv (lt k) hf hn
      rw [d2] at n1 n2
      obtain ⟨_,e1,e2⟩:=Tw h0 h1 hne
      rw [e1] at n1
      rw [e2] at n2
      have h2:PA (it ts c k).2 2<4:=Ei hp (by omega)
      have h3:PA (it ts c k).2 3<4:=Ei hp (by omega)
      have h02:PA (it ts c k).2 0≠PA (it ts c k).2 2:=Ju hp (by omega) (by omega) (by omega)
      have h03:PA (it ts c k).2 0≠PA (it ts c k).2 3:=Ju hp (by omega) (by omega) (by omega)
      have h12:PA (it ts c k).2 1≠PA (it ts c k).2 2:=Ju hp (by omega) (by omega) (by omega)
      have h13:PA (it ts c k).2 1≠PA (it ts c k).2 3:=Ju hp (by omega) (by omega) (by omega)
      have h23:PA (it ts c k).2 2≠PA (it ts c k).2 3:=Ju hp (by omega) (by omega) (by omega)
      have hf23:f=PA (it ts c k).2 2∨f=PA (it ts c k).2 3:=by omega
      rcases hf23 with hf2 | hf3
      · obtain ⟨fl',hn'⟩:=(P9 hv hP hI hc k).2.1
        rw [hf2,hn'] at hn
        injection hn with hn
        injection hn with hn _
        obtain ⟨k',a1,a2⟩:=nxt k hk
        exact ⟨k',a1,by rw [← hn]; exact a2⟩
      · obtain ⟨k',a1,a2⟩:∃ k',k'<m∧it ts c (k'+1)=it ts c k:=by
          by_cases e:k=0
          · exact ⟨m - 1,by omega,by rw [show m - 1+1=m by omega,hmc,e]; rfl⟩
          · exact ⟨k - 1,by omega,by rw [show k - 1+1=k by omega]⟩
        obtain ⟨fl',hn'⟩:=(P9 hv hP hI hc k').2.2
        rw [a2,← hf3,hn] at hn'
        injection hn' with hn'
        injection hn' with hn' _
        exact ⟨k',a1,hn'⟩
    have hQ:∀ p,p ∈ JE ts→((∃ k,k<m∧p.1=eo (it ts c k))↔(∃ k,k<m∧p.2=eo (it ts c k))):=fun p hp=>by
      obtain ⟨x,y⟩:=p
      obtain ⟨hx,f,fl,hf,hn⟩:=fZ hv hp
      refine ⟨one x y f fl hf hn,fun h=>?_⟩
      obtain ⟨f',fl',hf',hn'⟩:=Yw hv hx hf hn
      exact one y x f' fl' hf' hn' h
    have e0:s.getD (eo (it ts c 0)) 0=s.getD j 0:=(O4 _ s).inj (lt 0) hj (hc.at_.trans hcl.symm)
    exact (hP.min (fun x=>∃ k,k<m∧x=eo (it ts c k)) hQ _ _ (lt 0) hj e0).1 ⟨0,by omega,rfl⟩
  · rintro ⟨k,hk,rfl⟩
    exact (Ky hv hP hI hc k).at_
end
def MP (f t:List Nat):Nat:=PX (t.getD (f.idxOf 0) 0) (t.getD (f.idxOf 1) 0) (t.getD (f.idxOf 2) 0) (t.getD (f.idxOf 3) 0)
def J4 (m:List (Gq × Eg)) (x:Av):List (Gq × Eg):=Ns m ⟨x.tet,x.Cg⟩ ⟨x.to,x.perm⟩
def Js:List Ab:=[⟨-1,0⟩,⟨-1,0⟩,⟨-1,0⟩,⟨-1,0⟩]
def o23 (o b:Int) (A q i:Nat):List Av :=
  [⟨o,((OT [A]).getD i 0:Nat),(i:Nat),(MP [A,(OT [A]).getD ((i+1) % 3) 0,(OT [A]).getD ((i+2) % 3) 0,(OT [A]).getD i 0] [0,2,3,1]:Nat)⟩,
   ⟨b,(PA q ((OT [A]).getD i 0):Nat),(i:Nat),(MP [PA q A,PA q ((OT [A]).getD ((i+1) % 3) 0),PA q ((OT [A]).getD ((i+2) % 3) 0),PA q ((OT [A]).getD i 0)] [1,2,3,0]:Nat)⟩]
def O23 (o b:Int) (A q:Nat):List Av:=o23 o b A q 0++(o23 o b A q 1++o23 o b A q 2)
def uD:List Gi:=[⟨0,2,1,1⟩,⟨1,2,2,1⟩,⟨2,2,0,1⟩]
def Y6:List (List Ab):=[[⟨-1,0⟩,⟨-1,0⟩,⟨1,1⟩,⟨2,1⟩],[⟨-1,0⟩,⟨-1,0⟩,⟨2,1⟩,⟨0,1⟩],[⟨-1,0⟩,⟨-1,0⟩,⟨0,1⟩,⟨1,1⟩]]
theorem nN:(fun (K:Nat) (o b:Int)=>(List.range 96).map fun i:Nat=>Cc.l1 (K+100) (K+100) o ((i / 24:Nat):Int) ⟨b,((i % 24:Nat):Int)⟩ [o,b] 3 (PA (i % 24) 0:Int) (PA (i % 24) 1:Int) (PA (i % 24) 2:Int) (PA (i % 24) 3:Int) (ints (OT [i / 24])) [] [] 0)=fun K o b=>(List.range 96).map fun i:Nat=>some (some ([o,b],(O23 o b (i / 24) (i % 24)).foldl J4 [],3,uD)):=by kernel_rfl
theorem nC:(fun (K:Nat) (o b:Int)=>(List.range 96).map fun i:Nat=>Dl.l1 (K+100) (K+100) o ((i / 24:Nat):Int) ⟨b,((i % 24:Nat):Int)⟩ [] 0)=fun K o b=>(List.range 96).map fun i:Nat=>some ([o,b],Y6,O23 o b (i / 24) (i % 24),true):=by kernel_rfl
section
variable {ts:List (List Ab)} (hv:Val ts)
include hv
theorem oZ {a f:Nat} (ha:a<ts.length) (hf:f<4) :
    (Ac (fun K=>Cc.f K ts (a:Int) (f:Int)) none∧Ac (fun K=>Dl.f K ts (a:Int) (f:Int)) ([],[],[],false)) ∨
    (∃ b q:Nat,b<ts.length∧q<24∧Cg ts a f=⟨b,q⟩∧b≠a∧Ac (fun K=>Cc.f K ts (a:Int) (f:Int)) (some ([(a:Int),(b:Int)],(O23 a b f q).foldl J4 [],3,uD))∧Ac (fun K=>Dl.f K ts (a:Int) (f:Int)) ([(a:Int),(b:Int)],Y6,O23 a b f q,true)):=by
  have hr:=hv.four a ha
  have I:∀ r,Ac (fun K=>if decide ((Cg ts a f).Tet<0)=true then some none else (if (Cg ts a f).Tet=(a:Int) then (some none) else (Go.Proofs.YtbjfinndngafoaaGreat.D7 (Gj.f 3 ([(a:Int),(Cg ts a f).Tet]:List Int)) (fun t23 t24 t25 t26=>(Go.Proofs.YtbjfinndngafoaaGreat.D7 (Ct.f K (Cg ts a f).Perm) (fun t36 t37 t38 t39=>((Fb.f K ([(f:Int)]:List Int)).bind fun t45=>(Cc.l1 K K (a:Int) (f:Int) (Cg ts a f) t23 t25 t36 t37 t38 t39 t45 t24 t26 0)))))))) r→Ac (fun K=>Cc.f K ts (a:Int) (f:Int)) r:=fun r h=>by
    refine Ac.pos (by omega) ?_
    simp only [Int.toNat_natCast]
    exact Ac.pos (by omega) h
  have S:∀ r,Ac (fun K=>if (Cg ts a f).Tet<0 then (some (([]:List Int),([]:List (List Ab)),([]:List Av),false)) else (if (Cg ts a f).Tet=(a:Int) then (some (([]:List Int),([]:List (List Ab)),([]:List Av),false)) else (Dl.l1 K K (a:Int) (f:Int) (Cg ts a f) ([]:List Int) 0))) r→Ac (fun K=>Dl.f K ts (a:Int) (f:Int)) r:=fun r h=>by
    refine Ac.pos (by omega) ?_
    simp only [Int.toNat_natCast]
    exact Ac.pos (by omega) h
  rcases Ep hv ha hf with ⟨g1,_⟩ | ⟨g1,b,q,hb,hq,g2,g3⟩
  · exact .inl ⟨I _ (Ac.pos (decide_eq_true g1) (Ac.const _)),S _ (Ac.pos g1 (Ac.const _))⟩
  · rw [g2] at I S
    have n0:¬ ((b:Int)<0):=by omega
    by_cases e:b=a
    · exact .inl ⟨I _ (Ac.neg (by rw [decide_eq_true_eq]; exact n0) (Ac.pos (by show (b:Int)=a; omega) (Ac.const _))),S _ (Ac.neg n0 (Ac.pos (by show (b:Int)=a; omega) (Ac.const _)))⟩
    · refine .inr ⟨b,q,hb,hq,g2,e,I _ (Ac.neg (by rw [decide_eq_true_eq]; exact n0) (Ac.neg (by show ¬ (b:Int)=a; omega) ?_)),S _ (Ac.neg n0 (Ac.neg (by show ¬ (b:Int)=a; omega) ?_))⟩
      · refine Ac.D7 (a:=[(a:Int),(b:Int)]) (b:=[]) (c:=3) (d:=[]) (Ac.const _) (Ac.D7 (Kz hq) (Ac.bind (Mg hf) ?_))
        exact Y9 (F:=fun K f q=>Cc.l1 K K (a:Int) (f:Int) ⟨(b:Int),(q:Int)⟩ [(a:Int),(b:Int)] 3 (PA q 0:Int) (PA q 1:Int) (PA q 2:Int) (PA q 3:Int) (ints (OT [f])) [] [] 0) (g:=fun f q=>some ([(a:Int),(b:Int)],(O23 a b f q).foldl J4 [],3,uD)) (a:=4) (b:=24) (m:=100) (funext fun K=>congrFun (congrFun (congrFun nN K) (a:Int)) (b:Int)) hf hq
      · exact Y9 (F:=fun K f q=>Dl.l1 K K (a:Int) (f:Int) ⟨(b:Int),(q:Int)⟩ [] 0) (g:=fun f q=>([(a:Int),(b:Int)],Y6,O23 a b f q,true)) (a:=4) (b:=24) (m:=100) (funext fun K=>congrFun (congrFun (congrFun nC K) (a:Int)) (b:Int)) hf hq
end
def EXC (i j:Nat):Nat:=PX ((([0,1,2,3].set i j).set j i).getD 0 0) ((([0,1,2,3].set i j).set j i).getD 1 0) ((([0,1,2,3].set i j).set j i).getD 2 0) ((([0,1,2,3].set i j).set j i).getD 3 0)
def O14 (t:Int):List Av:=[⟨t,0,0,0⟩,⟨t,1,1,0⟩,⟨t,2,2,0⟩,⟨t,3,3,0⟩]
def xP:List Gi:=[⟨1,0,0,6⟩,⟨2,0,0,14⟩,⟨2,1,1,2⟩,⟨3,0,0,21⟩,⟨3,1,1,5⟩,⟨3,2,2,1⟩]
def aI:List (List Ab):=[[⟨-1,0⟩,⟨1,6⟩,⟨2,14⟩,⟨3,21⟩],[⟨0,6⟩,⟨-1,0⟩,⟨2,2⟩,⟨3,5⟩],[⟨0,14⟩,⟨1,2⟩,⟨-1,0⟩,⟨3,1⟩],[⟨0,21⟩,⟨1,5⟩,⟨2,1⟩,⟨-1,0⟩]]
theorem nE:(fun (K:Nat) (t:Int)=>Er.f (K+100) t)=fun K t=>some ([t],(O14 t).foldl J4 [],4,xP):=by kernel_rfl
theorem jY:(fun (K:Nat) (t:Int)=>Dz.f (K+100) t)=fun K t=>some ([t],aI,O14 t):=by kernel_rfl
theorem qB (t:Int):Ac (fun K=>Er.f K t) ([t],(O14 t).foldl J4 [],4,xP):=⟨100,fun K hK=>by
  have:=congrFun (congrFun nE (K - 100)) t
  rw [show K=K - 100+100 by omega]; exact this⟩
theorem oC (t:Int):Ac (fun K=>Dz.f K t) ([t],aI,O14 t):=⟨100,fun K hK=>by
  have:=congrFun (congrFun jY (K - 100)) t
  rw [show K=K - 100+100 by omega]; exact this⟩
def X32 (i p:Nat):Nat:=MP [PA p 0,PA p 2,PA p 3,PA p 1] [0,1+i,1+(i+1) % 3,1+(i+2) % 3]
def Y32 (i p:Nat):Nat:=MP [PA p 1,PA p 2,PA p 3,PA p 0] [0,1+i,1+(i+1) % 3,1+(i+2) % 3]
def oX (i:Nat) (c:Nat × Nat):Av:=⟨(c.1:Int),(PA c.2 1:Nat),0,(X32 i c.2:Nat)⟩
def oY (i:Nat) (c:Nat × Nat):Av:=⟨(c.1:Int),(PA c.2 0:Nat),1,(Y32 i c.2:Nat)⟩
def O32 (c0 c1 c2:Nat × Nat):List Av:=[oX 0 c0,oY 0 c0,oX 1 c1,oY 1 c1,oX 2 c2,oY 2 c2]
def Wd:List (List Ab):=[[⟨1,0⟩,⟨-1,0⟩,⟨-1,0⟩,⟨-1,0⟩],[⟨0,0⟩,⟨-1,0⟩,⟨-1,0⟩,⟨-1,0⟩]]
def uH:List Gi:=[⟨0,0,1,0⟩]
theorem mO:(fun (K:Nat)=>(List.range 72).map fun j:Nat=>Fe.f (K+60) [(PA (j % 24) 0:Int),(PA (j % 24) 2:Int),(PA (j % 24) 3:Int),(PA (j % 24) 1:Int)] [0,w64 (1+((j / 24:Nat):Int)),w64 (1+((w64 (((j / 24:Nat):Int)+1)).tmod 3)),w64 (1+((w64 (((j / 24:Nat):Int)+2)).tmod 3))])=fun K=>(List.range 72).map fun j:Nat=>some ((X32 (j / 24) (j % 24):Nat):Int):=by kernel_rfl
theorem nQ:(fun (K:Nat)=>(List.range 72).map fun j:Nat=>Fe.f (K+60) [(PA (j % 24) 1:Int),(PA (j % 24) 2:Int),(PA (j % 24) 3:Int),(PA (j % 24) 0:Int)] [0,w64 (1+((j / 24:Nat):Int)),w64 (1+((w64 (((j / 24:Nat):Int)+1)).tmod 3)),w64 (1+((w64 (((j / 24:Nat):Int)+2)).tmod 3))])=fun K=>(List.range 72).map fun j:Nat=>some ((Y32 (j / 24) (j % 24):Nat):Int):=by kernel_rfl
def ixX (K i p:Nat):Option Int:=Cu.f K (se 0 (PA p 3:Int) (w64 (1+((w64 ((i:Int)+1)).tmod 3))) (se 0 (PA p 2:Int) (w64 (1+(i:Int))) (se 0 (PA p 1:Int) (w64 (1+((w64 ((i:Int)+2)).tmod 3))) (se 0 (PA p 0:Int) 0 0)))) (se 1 (PA p 3:Int) (w64 (1+((w64 ((i:Int)+1)).tmod 3))) (se 1 (PA p 2:Int) (w64 (1+(i:Int))) (se 1 (PA p 1:Int) (w64 (1+((w64 ((i:Int)+2)).tmod 3))) (se 1 (PA p 0:Int) 0 0)))) (se 2 (PA p 3:Int) (w64 (1+((w64 ((i:Int)+1)).tmod 3))) (se 2 (PA p 2:Int) (w64 (1+(i:Int))) (se 2 (PA p 1:Int) (w64 (1+((w64 ((i:Int)+2)).tmod 3))) (se 2 (PA p 0:Int) 0 0)))) (se 3 (PA p 3:Int) (w64 (1+((w64 ((i:Int)+1)).tmod 3))) (se 3 (PA p 2:Int) (w64 (1+(i:Int))) (se 3 (PA p 1:Int) (w64 (1+((w64 ((i:Int)+2)).tmod 3))) (se 3 (PA p 0:Int) 0 0))))
def ixY (K i p:Nat):Option Int:=Cu.f K (se 0 (PA p 3:Int) (w64 (1+((w64 ((i:Int)+1)).tmod 3))) (se 0 (PA p 2:Int) (w64 (1+(i:Int))) (se 0 (PA p 1:Int) 0 (se 0 (PA p 0:Int) (w64 (1+((w64 ((i:Int)+2)).tmod 3))) 0)))) (se 1 (PA p 3:Int) (w64 (1+((w64 ((i:Int)+1)).tmod 3))) (se 1 (PA p 2:Int) (w64 (1+(i:Int))) (se 1 (PA p 1:Int) 0 (se 1 (PA p 0:Int) (w64 (1+((w64 ((i:Int)+2)).tmod 3))) 0)))) (se 2 (PA p 3:Int) (w64 (1+((w64 ((i:Int)+1)).tmod 3))) (se 2 (PA p 2:Int) (w64 (1+(i:Int))) (se 2 (PA p 1:Int) 0 (se 2 (PA p 0:Int) (w64 (1+((w64 ((i:Int)+2)).tmod 3))) 0)))) (se 3 (PA p 3:Int) (w64 (1+((w64 ((i:Int)+1)).tmod 3))) (se 3 (PA p 2:Int) (w64 (1+(i:Int))) (se 3 (PA p 1:Int) 0 (se 3 (PA p 0:Int) (w64 (1+((w64 ((i:Int)+2)).tmod 3))) 0))))
theorem nR:(fun (K:Nat)=>(List.range (3 * 24)).map fun j:Nat=>ixX (K+60) (j / 24) (j % 24))=fun K=>(List.range (3 * 24)).map fun j:Nat=>some ((X32 (j / 24) (j % 24):Nat):Int):=by kernel_rfl
theorem mX:(fun (K:Nat)=>(List.range (3 * 24)).map fun j:Nat=>ixY (K+60) (j / 24) (j % 24))=fun K=>(List.range (3 * 24)).map fun j:Nat=>some ((Y32 (j / 24) (j % 24):Nat):Int):=by kernel_rfl
section
variable {i p:Nat} (hi:i<3) (hp:p<24)
include hi hp
theorem kF:Ac (fun K=>Fe.f K [(PA p 0:Int),(PA p 2:Int),(PA p 3:Int),(PA p 1:Int)] [0,w64 (1+(i:Int)),w64 (1+((w64 ((i:Int)+1)).tmod 3)),w64 (1+((w64 ((i:Int)+2)).tmod 3))]) ((X32 i p:Nat):Int) :=
  Y9 (F:=fun K i p=>Fe.f K [(PA p 0:Int),(PA p 2:Int),(PA p 3:Int),(PA p 1:Int)] [0,w64 (1+(i:Int)),w64 (1+((w64 ((i:Int)+1)).tmod 3)),w64 (1+((w64 ((i:Int)+2)).tmod 3))]) (g:=fun i p=>((X32 i p:Nat):Int)) (a:=3) (b:=24) (m:=60) mO hi hp
theorem kM:Ac (fun K=>Fe.f K [(PA p 1:Int),(PA p 2:Int),(PA p 3:Int),(PA p 0:Int)] [0,w64 (1+(i:Int)),w64 (1+((w64 ((i:Int)+1)).tmod 3)),w64 (1+((w64 ((i:Int)+2)).tmod 3))]) ((Y32 i p:Nat):Int) :=
  Y9 (F:=fun K i p=>Fe.f K [(PA p 1:Int),(PA p 2:Int),(PA p 3:Int),(PA p 0:Int)] [0,w64 (1+(i:Int)),w64 (1+((w64 ((i:Int)+1)).tmod 3)),w64 (1+((w64 ((i:Int)+2)).tmod 3))]) (g:=fun i p=>((Y32 i p:Nat):Int)) (a:=3) (b:=24) (m:=60) nQ hi hp
theorem vZ:Ac (fun K=>ixX K i p) ((X32 i p:Nat):Int):=Y9 (F:=ixX) (g:=fun i p=>((X32 i p:Nat):Int)) (a:=3) (b:=24) (m:=60) nR hi hp
theorem vQ:Ac (fun K=>ixY K i p) ((Y32 i p:Nat):Int):=Y9 (F:=ixY) (g:=fun i p=>((Y32 i p:Nat):Int)) (a:=3) (b:=24) (m:=60) mX hi hp
end
section
variable {ring:List Ab} (hl:ring.length=3) {i:Nat} (hi:i<3) {c:Nat × Nat} (hp:c.2<24) (hr:ring.getD i Bj=crn c)
include hl hi hp hr
theorem Uf {old:List Int} {inner:List Gi} {m:List (Gq × Eg)} {R:Option (List Int × List (Gq × Eg) × Int × List Gi)}
    (h:Aa (fun K k=>Bn.l1 K k ring old 2 inner (J4 (J4 m (oX i c)) (oY i c)) ((i+1:Nat):Int)) R):Aa (fun K k=>Bn.l1 K k ring old 2 inner m (i:Int)) R:=by
  have h0:PA c.2 0<4:=Ei hp (by omega)
  have h1:PA c.2 1<4:=Ei hp (by omega)
  have h2:PA c.2 2<4:=Ei hp (by omega)
  have h3:PA c.2 3<4:=Ei hp (by omega)
  refine Aa.succ ?_
  simp only [Bn.l1]
  rw [Int.toNat_natCast,hr]
  refine Aa.pos (by omega) (Aa.pos (by omega) ?_)
  simp only [Fs,crn]
  refine Aa.D7 (Kz hp).two ?_
  refine Aa.pos (by omega) (Aa.pos (by omega) (Aa.pos (by omega) (Aa.pos (by omega) ?_)))
  refine Aa.bind (a:=J4 m (oX i c)) ?_ ?_
  rotate_left
  refine Aa.bind (a:=J4 (J4 m (oX i c)) (oY i c)) ?_ ?_
  rotate_left
  · rw [Be (by omega)]; exact h
  · have:=(vZ hi hp).two
    exact Aa.bind this (Aa.const _)
  · have:=(vQ hi hp).two
    exact Aa.bind this (Aa.const _)
theorem Tv {u v:List Ab} {old:List Int} {m:List Av} {R:List Int × List (List Ab) × List Av × Bool} (ho:old.length≤10) (hm:m.length≤20)
    (h:Aa (fun K k=>Bv.l6 K k ring u v (old++[(c.1:Int)]) ((m++[oX i c])++[oY i c]) ((i+1:Nat):Int)) R):Aa (fun K k=>Bv.l6 K k ring u v old m (i:Int)) R:=by
  have h0:PA c.2 0<4:=Ei hp (by omega)
  refine Aa.succ ?_
  simp only [Bv.l6]
  rw [Int.toNat_natCast,hr]
  refine Aa.pos (by omega) (Aa.pos (by omega) ?_)
  simp only [Fs,crn]
  refine Aa.pos (by omega) ?_
  refine Aa.bind (Mr hp (show 0<4 by omega)).two ?_
  refine Aa.bind (Mr hp (show 1<4 by omega)).two ?_
  refine Aa.bind (Mr hp (show 2<4 by omega)).two ?_
  refine Aa.bind (Mr hp (show 3<4 by omega)).two ?_
  refine Aa.bind (kF hi hp).two ?_
  refine Aa.pos (by omega) ?_
  refine Aa.bind (kM hi hp).two ?_
  refine Aa.pos (by simp only [List.length_append,List.length_singleton]; omega) ?_
  rw [Be (by omega)]
  exact h
end
section
variable {c0 c1 c2:Nat × Nat} (h0:c0.2<24) (h1:c1.2<24) (h2:c2.2<24)
include h0 h1 h2
theorem lJ (old:List Int) (inner:List Gi):Ac (fun K=>Bn.l1 K K [crn c0,crn c1,crn c2] old 2 inner [] 0) (some (old,(O32 c0 c1 c2).foldl J4 [],2,uH)):=by
  refine Aa.Hg (F:=fun K k=>Bn.l1 K k [crn c0,crn c1,crn c2] old 2 inner [] ((0:Nat):Int)) ?_
  refine Uf rfl (by omega) h0 rfl (Uf rfl (by omega) h1 rfl (Uf rfl (by omega) h2 rfl ?_))
  exact Aa.of fun K k=>by rw [Bn.l1,if_neg (by show ¬ ((3:Nat):Int)<3; omega)]; rfl
theorem mY:Aa (fun K k=>Bv.l6 K k [crn c0,crn c1,crn c2] Js Js [] [] 0) ([(c0.1:Int),(c1.1:Int),(c2.1:Int)],Wd,O32 c0 c1 c2,true):=by
  refine Tv (i:=0) rfl (by omega) h0 rfl (by simp) (by simp) (Tv rfl (by omega) h1 rfl (by simp) (by simp) (Tv rfl (by omega) h2 rfl (by simp) (by simp) ?_))
  exact Aa.of fun K k=>by rw [Bv.l6,if_neg (by decide)]; rfl
end
def cnt (C:List Int) (v:Int):Nat→Nat
  | 0=>0
  | j+1=>cnt C v j+if C.getD j 0=v then 1 else 0
theorem iO (C:List Int) (v:Int):∀ j,cnt C v j≤j
  | 0=>Nat.le_refl _
  | j+1=>by have:=iO C v j; rw [cnt]; split <;> omega
theorem dI {C:List Int} {v:Int} {N x y z:Nat} (hxy:x≠y) (hyz:y≠z) (hxz:x≠z) (hx:x<N) (hy:y<N) (hz:z<N) (h:∀ j,j<N→(C.getD j 0=v↔j=x∨j=y∨j=z)):cnt C v N=3:=by
  have:∀ j,j≤N→cnt C v j=(if x<j then 1 else 0)+(if y<j then 1 else 0)+(if z<j then 1 else 0):=by
    intro j
    induction j with
    | zero=>intro _; rfl
    | succ j ih =>
      intro hj
      rw [cnt,ih (by omega)]
      have hh:=h j (by omega)
      by_cases e:C.getD j 0=v
      · rw [if_pos e]
        rcases hh.1 e with e | e | e <;> subst e <;> (repeat' split) <;> omega
      · rw [if_neg e]
        have hn:¬ (j=x∨j=y∨j=z):=fun q=>e (hh.2 q)
        (repeat' split) <;> omega
  rw [this N (Nat.le_refl _),if_pos hx,if_pos hy,if_pos hz]
section
variable {ts:List (List Ab)} (hv:Val ts) {C:List Int} {a e:Nat} (ha:a<ts.length) (he:e<6)
include hv ha he
theorem gY {a':Nat} (ha':a'<ts.length) {R:List Int × List (List Ab) × List Av × Bool}
    (h:Aa (fun K k=>Bv.l1 K k ts (a:Int) (e:Int) (rowsOf C 6 ts.length) (cnt C (C.getD (6 * a+e) 0) (6 * (a'+1)):Int) ((a'+1:Nat):Int)) R) :
    ∀ (d e':Nat),6 - e'=d→e'≤6→Aa (fun K k=>Bv.l5 K k ts (a:Int) (e:Int) (rowsOf C 6 ts.length) (a':Int) (cnt C (C.getD (6 * a+e) 0) (6 * a'+e'):Int) (e':Int)) R
  | 0,e',hd,hle=>by
    have h8:=hv.le
    obtain rfl:e'=6:=by omega
    refine Aa.step (fun K k=>?_) h
    rw [Bv.l5,if_neg (by omega),Be (by omega)]; rfl
  | d+1,e',hd,hle=>by
    have h8:=hv.le
    have ih:=gY ha' h d (e'+1) (by omega) (by omega)
    have hcl:=iO C (C.getD (6 * a+e) 0) (6 * a'+e')
    refine Aa.succ ?_
    simp only [Bv.l5]
    refine Aa.pos (by omega) (Aa.pos (by rw [Hd]; omega) ?_)
    simp only [Int.toNat_natCast,Ij ha',Ij ha,Jf (show e'<6 by omega),Jf he]
    refine Aa.pos (by rw [Jl]; omega) ?_
    rw [Be (by omega),Be (by omega)]
    rw [show 6 * a'+(e'+1)=6 * a'+e'+1 by omega,cnt] at ih
    by_cases hc:C.getD (6 * a'+e') 0=C.getD (6 * a+e) 0
    · rw [if_pos hc] at ih
      exact Aa.pos hc ih
    · rw [if_neg hc] at ih
      exact Aa.neg hc ih
theorem gF {R:List Int × List (List Ab) × List Av × Bool}
    (h:Aa (fun K k=>Bv.l1 K k ts (a:Int) (e:Int) (rowsOf C 6 ts.length) (cnt C (C.getD (6 * a+e) 0) (6 * ts.length):Int) (ts.length:Int)) R) :
    ∀ (d a':Nat),ts.length - a'=d→a'≤ts.length→Aa (fun K k=>Bv.l1 K k ts (a:Int) (e:Int) (rowsOf C 6 ts.length) (cnt C (C.getD (6 * a+e) 0) (6 * a'):Int) (a':Int)) R
  | 0,a',hd,hle=>by
    obtain rfl:a'=ts.length:=by omega
    exact h
  | d+1,a',hd,hle=>by
    have:=gY hv ha he (show a'<ts.length by omega) (gF h d (a'+1) (by omega) (by omega)) 6 0 rfl (by omega)
    refine Aa.step (fun K k=>?_) this
    rw [Bv.l1,if_pos (by rw [Hd]; omega)]; rfl
section
variable {V E F:List Int} (hB:Ac (fun K=>Bb.f K ts) (V,E,F)) (hE:E.length≤100) {Sg:List Int} (hS:Ac (fun K=>Ao.f K ts) (rowsOf Sg 6 ts.length))
include hB hE hS
theorem kR {x:Nat} {R:List Int × List (List Ab) × List Av × Bool} (h3:x≠3→R=([],[],[],false)) (h0:x=3→Sg.getD (6 * a+e) 0=0→R=([],[],[],false)) (hb:x=3→Sg.getD (6 * a+e) 0≠0→C.getD (6 * a+e) 0 ∈ E→R=([],[],[],false))
    (hr:x=3→Sg.getD (6 * a+e) 0≠0→¬ C.getD (6 * a+e) 0 ∈ E→∃ ring,Ac (fun K=>F9.f K ts (C.getD (6 * a+e) 0)) ring∧(ring.length≠3→R=([],[],[],false)) ∧
      (ring.length=3→((ring.getD 0 Bj).Tet=(ring.getD 1 Bj).Tet∨(ring.getD 1 Bj).Tet=(ring.getD 2 Bj).Tet∨(ring.getD 0 Bj).Tet=(ring.getD 2 Bj).Tet)→R=([],[],[],false)) ∧
      (ring.length=3→(ring.getD 0 Bj).Tet≠(ring.getD 1 Bj).Tet→(ring.getD 1 Bj).Tet≠(ring.getD 2 Bj).Tet→(ring.getD 0 Bj).Tet≠(ring.getD 2 Bj).Tet→Aa (fun K k=>Bv.l6 K k ring Js Js [] [] 0) R)) :
    Aa (fun K k=>Bv.l1 K k ts (a:Int) (e:Int) (rowsOf C 6 ts.length) (x:Int) (ts.length:Int)) R:=by
  have h8:=hv.le
  refine Aa.succ ?_
  simp only [Bv.l1]
  refine Aa.neg (by rw [Hd]; omega) ?_
  by_cases hx:x=3
  rotate_left
  · rw [h3 hx]
    exact Aa.neg (by omega) (Aa.const _)
  refine Aa.pos (by omega) ?_
  refine Aa.Jk hB.two ?_
  refine Aa.bind hS.two ?_
  refine Aa.pos (by rw [Hd]; omega) ?_
  simp only [Int.toNat_natCast,Ij ha,Jf he]
  refine Aa.pos (by rw [Jl]; omega) ?_
  by_cases hs:Sg.getD (6 * a+e) 0=0
  · rw [h0 hx hs]; exact Aa.pos hs (Aa.const _)
  refine Aa.neg hs ?_
  refine Aa.bind (aX (by omega)).two ?_
  by_cases hm:C.getD (6 * a+e) 0 ∈ E
  · rw [hb hx hs hm]; exact Aa.pos (decide_eq_true hm) (Aa.const _)
  refine Aa.neg (by rw [decide_eq_true_eq]; exact hm) ?_
  obtain ⟨ring,g1,g2,g3,g4⟩:=hr hx hs hm
  refine Aa.bind g1.two ?_
  by_cases hl:ring.length=3
  rotate_left
  · rw [g2 hl]; exact Aa.neg (by omega) (Aa.const _)
  refine Aa.pos (by omega) (Aa.pos (by omega) ?_)
  simp only [Fs]
  refine Aa.pos (by omega) ?_
  by_cases e1:(ring.getD 0 Bj).Tet=(ring.getD 1 Bj).Tet
  · rw [g3 hl (.inl e1)]; exact Aa.pos e1 (Aa.const _)
  refine Aa.neg e1 (Aa.pos (by omega) ?_)
  by_cases e2:(ring.getD 1 Bj).Tet=(ring.getD 2 Bj).Tet
  · rw [g3 hl (.inr (.inl e2))]; exact Aa.pos e2 (Aa.const _)
  refine Aa.neg e2 ?_
  by_cases e3:(ring.getD 0 Bj).Tet=(ring.getD 2 Bj).Tet
  · rw [g3 hl (.inr (.inr e3))]; exact Aa.pos e3 (Aa.const _)
  refine Aa.neg e3 ?_
  refine Aa.bind (a:=Js) (Aa.const _) ?_
  refine Aa.bind (a:=Js) (Aa.const _) ?_
  refine Aa.pos (by decide) (Aa.pos (by decide) (Aa.pos (by decide) (Aa.pos (by decide) ?_)))
  exact g4 hl e1 e2 e3
end
end
theorem Uk {P:Nat→Prop}:∀ n,P n→∃ m,m≤n∧P m∧∀ j,j<m→¬ P j:=by
  intro n
  induction n using Nat.strongRecOn with
  | _ n ih =>
    intro hn
    by_cases h:∃ j,j<n∧P j
    · obtain ⟨j,h1,h2⟩:=h
      obtain ⟨m,a,b⟩:=ih j h1 h2
      exact ⟨m,by omega,b⟩
    · exact ⟨n,Nat.le_refl _,hn,fun j h1 h2=>h ⟨j,h1,h2⟩⟩
def Ob (K:Nat) (t41:List Ab):Option (Option (List Int × List (Gq × Eg) × Int × List Gi)):=(if (t41.length:Int)=3 then (if 0≤(0:Int)∧(0:Int)<(t41.length:Int) then (bnd (t41.getD 0 Bj) (fun e62=>if 0≤(1:Int)∧(1:Int)<(t41.length:Int) then (bnd (t41.getD 1 Bj) (fun e66=>if e62.Tet=e66.Tet then (some none) else (if 0≤(2:Int)∧(2:Int)<(t41.length:Int) then (bnd (t41.getD 2 Bj) (fun e70=>if e66.Tet=e70.Tet then (some none) else (if e70.Tet=e62.Tet then (some none) else (Go.Proofs.YtbjfinndngafoaaGreat.D7 (Gj.f 2 ([e62.Tet,e66.Tet,e70.Tet]:List Int)) (fun t79 t80 t81 t82=>(Bn.l1 K K t41 t79 t81 t82 t80 0)))))) else none))) else none)) else none) else (some none))
theorem rY {ring:List Ab} (h:ring.length≠3∨(ring.length=3∧((ring.getD 0 Bj).Tet=(ring.getD 1 Bj).Tet∨(ring.getD 1 Bj).Tet=(ring.getD 2 Bj).Tet∨(ring.getD 0 Bj).Tet=(ring.getD 2 Bj).Tet))):Ac (fun K=>Ob K ring) none:=by
  unfold Ob
  by_cases hl:ring.length=3
  rotate_left
  · exact Ac.neg (by omega) (Ac.const _)
  refine Ac.pos (by omega) (Ac.pos (by omega) ?_)
  simp only [Fs]
  refine Ac.pos (by omega) ?_
  by_cases e1:(ring.getD 0 Bj).Tet=(ring.getD 1 Bj).Tet
  · exact Ac.pos e1 (Ac.const _)
  refine Ac.neg e1 (Ac.pos (by omega) ?_)
  by_cases e2:(ring.getD 1 Bj).Tet=(ring.getD 2 Bj).Tet
  · exact Ac.pos e2 (Ac.const _)
  refine Ac.neg e2 ?_
  by_cases e3:(ring.getD 2 Bj).Tet=(ring.getD 0 Bj).Tet
  · exact Ac.pos e3 (Ac.const _)
  · rcases h with h | ⟨_,h | h | h⟩
    · exact absurd hl h
    · exact absurd h e1
    · exact absurd h e2
    · exact absurd h.symm e3
theorem lY {c0 c1 c2:Nat × Nat} (h0:c0.2<24) (h1:c1.2<24) (h2:c2.2<24) (e1:c0.1≠c1.1) (e2:c1.1≠c2.1) (e3:c0.1≠c2.1):Ac (fun K=>Ob K [crn c0,crn c1,crn c2]) (some ([(c0.1:Int),(c1.1:Int),(c2.1:Int)],(O32 c0 c1 c2).foldl J4 [],2,uH)):=by
  unfold Ob
  refine Ac.pos (by show ((3:Nat):Int)=3; omega) (Ac.pos (by show 0≤(0:Int)∧(0:Int)<((3:Nat):Int); omega) ?_)
  simp only [Fs]
  refine Ac.pos (by show 0≤(1:Int)∧(1:Int)<((3:Nat):Int); omega) ?_
  refine Ac.neg (by show ¬ ((c0.1:Int)=(c1.1:Int)); omega) ?_
  refine Ac.pos (by show 0≤(2:Int)∧(2:Int)<((3:Nat):Int); omega) ?_
  refine Ac.neg (by show ¬ ((c1.1:Int)=(c2.1:Int)); omega) ?_
  refine Ac.neg (by show ¬ ((c2.1:Int)=(c0.1:Int)); omega) ?_
  exact Ac.D7 (a:=[(c0.1:Int),(c1.1:Int),(c2.1:Int)]) (b:=[]) (c:=2) (d:=[]) (Ac.const _) (lJ h0 h1 h2 _ _)
section
variable {ts:List (List Ab)} (hv:Val ts) (hT:Ac (fun K=>Aj.f K ts) true)
include hv hT
theorem pQ {a e:Nat} (ha:a<ts.length) (he:e<6) :
    (Ac (fun K=>Bn.f K ts (a:Int) (e:Int)) none∧Ac (fun K=>Bv.f K ts (a:Int) (e:Int)) ([],[],[],false)) ∨
    (∃ c0 c1 c2:Nat × Nat,(c0.1<ts.length∧c0.2<24)∧(c1.1<ts.length∧c1.2<24)∧(c2.1<ts.length∧c2.2<24)∧nx ts c0=some c1∧nx ts c1=some c2∧nx ts c2=some c0∧c0.1≠c1.1∧c1.1≠c2.1∧c0.1≠c2.1 ∧
      Ac (fun K=>Bn.f K ts (a:Int) (e:Int)) (some ([(c0.1:Int),(c1.1:Int),(c2.1:Int)],(O32 c0 c1 c2).foldl J4 [],2,uH)) ∧
      Ac (fun K=>Bv.f K ts (a:Int) (e:Int)) ([(c0.1:Int),(c1.1:Int),(c2.1:Int)],Wd,O32 c0 c1 c2,true)):=by
  have h8:=hv.le
  obtain ⟨vs,ys,fs,h1,hPL,h3,hcnt⟩:=aM hv
  have hP:=hPL.1
  obtain ⟨s',hP',hc'⟩:=Pj hv
  have hc:Ac (fun K=>Bl.f K ts) (CN (6 * ts.length) ys):=by rw [R8 (hP.same hP')]; exact hc'
  obtain ⟨Sg,hS,hz,hs,hss⟩:=lG hv hP
  obtain ⟨o1,r1,r2,r3⟩:=Zq hv hP hc hS hz (hs hc)
  obtain ⟨o2,b1,b2,b3⟩:=Z5 hv hP hc
  obtain ⟨V,E,F,g1,g2,g3⟩:=yA hv hT hcnt
  have hj:6 * a+e<6 * ts.length:=mul_lt ha he
  obtain ⟨cr1,cr2,cr3⟩:=J8 (s:=ys) (N:=6 * ts.length) (by omega) hj
  obtain ⟨c,hcj⟩:∃ c:Nat,(CN (6 * ts.length) ys).getD (6 * a+e) 0=(c:Int):=⟨((CN (6 * ts.length) ys).getD (6 * a+e) 0).toNat,by omega⟩
  have r3:=r3 _ hj
  have g3:=g3 _ hj
  have front:=fun {R}=>gF (C:=CN (6 * ts.length) ys) hv ha he (R:=R)
  rw [hcj] at r3 g3 cr2 front
  rw [Int.toNat_natCast] at r3
  have w:w64 ((w64 (6 * (a:Int)))+(e:Int))=((6 * a+e:Nat):Int):=w6 (c:=6) (by omega) (by omega) (by omega)
  have I:∀ r,Ac (fun K=>if (o1.getD c false)=true then (some none) else ((Ap.f K ts).bind fun t33=>(if 0≤(c:Int)∧(c:Int)<(t33.length:Int) then (if (t33.getD c false)=true then (some none) else ((Co.f K ts (c:Int)).bind fun t41=>Ob K t41)) else none))) r→Ac (fun K=>Bn.f K ts (a:Int) (e:Int)) r:=fun r h=>by
    refine Ac.bind hc ?_
    simp only [w,Int.toNat_natCast,hcj]
    refine Ac.pos (by rw [La]; omega) ?_
    refine Ac.bind r1 (Ac.pos (by omega) h)
  have S:∀ R,Aa (fun K k=>Bv.l1 K k ts (a:Int) (e:Int) (rowsOf (CN (6 * ts.length) ys) 6 ts.length) (cnt (CN (6 * ts.length) ys) (c:Int) (6 * ts.length):Int) (ts.length:Int)) R→Ac (fun K=>Bv.f K ts (a:Int) (e:Int)) R:=fun R h=>by
    refine Ac.D7 hcnt ?_
    refine Ac.pos (by rw [Hd]; omega) ?_
    simp only [Int.toNat_natCast,Ij ha]
    refine Ac.pos (by rw [Jl]; omega) ?_
    exact (front h ts.length 0 rfl (by omega)).Hg
  have En:=fun {x:Nat} {R}=>kR (C:=CN (6 * ts.length) ys) hv ha he g1 g2 hss (x:=x) (R:=R)
  rw [hcj] at En
  by_cases hsg:Sg.getD (6 * a+e) 0=0
  · refine .inl ⟨I _ (Ac.pos (by rw [r3]; exact decide_eq_true hsg) (Ac.const _)),S _ (En (fun _=>rfl) (fun _ _=>rfl) (fun _ _ _=>rfl) (fun _ h=>absurd hsg h))⟩
  have I1:∀ r,Ac (fun K=>if (o2.getD c false)=true then (some none) else ((Co.f K ts (c:Int)).bind fun t41=>Ob K t41)) r→Ac (fun K=>Bn.f K ts (a:Int) (e:Int)) r:=fun r h=>I r (Ac.neg (by rw [r3,decide_eq_true_eq]; exact hsg) (Ac.bind b1 (Ac.pos (by omega) h)))
  by_cases hbd:o2.getD c false=true
  · have hE:(c:Int) ∈ E:=g3.2 ((b3 c).1 hbd)
    exact .inl ⟨I1 _ (Ac.pos hbd (Ac.const _)),S _ (En (fun _=>rfl) (fun _ _=>rfl) (fun _ _ _=>rfl) (fun _ _ h=>absurd hE h))⟩
  have hbf:o2.getD c false=false:=Bool.eq_false_iff.2 hbd
  have hE:¬ (c:Int) ∈ E:=fun h=>hbd ((b3 c).2 (g3.1 h))
  obtain ⟨j0,j1,j2,j3⟩:=Uk (P:=fun j=>(CN (6 * ts.length) ys).getD j 0=(c:Int)) _ hcj
  have hj0:j0<6 * ts.length:=by omega
  obtain ⟨hI,st1,st2⟩:=aG hv hP hc hcnt b1 b2 b3 hj0 j2 j3 hbf
  obtain ⟨s1,s2,s3,s4⟩:=vG (show j0 % 6<6 by omega)
  have hC:Cor ts (CN (6 * ts.length) ys) (c:Int) (j0 / 6,ST (j0 % 6)):=⟨by show j0 / 6<ts.length; omega,s1,by
    show (CN (6 * ts.length) ys).getD (6 * (j0 / 6)+EE (PA (ST (j0 % 6)) 0) (PA (ST (j0 % 6)) 1)) 0=_
    rw [s4,show 6 * (j0 / 6)+j0 % 6=j0 by omega]; exact j2⟩
  obtain ⟨m,m1,m2,m3,m4⟩:=vO hv hP hI hC
  have R1:Ac (fun K=>Co.f K ts (c:Int)) (Kr ts (j0 / 6,ST (j0 % 6)) m):=Ac.Ew st1 (fK hv hP hI hC m2 m3 m4 _ 0 rfl (by omega)).Hg
  have R2:Ac (fun K=>F9.f K ts (c:Int)) (Kr ts (j0 / 6,ST (j0 % 6)) m):=Ac.Ew st2 (iF hv hP hI hC m2 m3 m4 _ 0 rfl (by omega)).Hg
  have I2:∀ r,Ac (fun K=>Ob K (Kr ts (j0 / 6,ST (j0 % 6)) m)) r→Ac (fun K=>Bn.f K ts (a:Int) (e:Int)) r:=fun r h=>I1 r (Ac.neg (by rw [hbf]; decide) (Ac.bind R1 h))
  by_cases hno:(Kr ts (j0 / 6,ST (j0 % 6)) m).length≠3∨((Kr ts (j0 / 6,ST (j0 % 6)) m).length=3∧(((Kr ts (j0 / 6,ST (j0 % 6)) m).getD 0 Bj).Tet=((Kr ts (j0 / 6,ST (j0 % 6)) m).getD 1 Bj).Tet∨((Kr ts (j0 / 6,ST (j0 % 6)) m).getD 1 Bj).Tet=((Kr ts (j0 / 6,ST (j0 % 6)) m).getD 2 Bj).Tet∨((Kr ts (j0 / 6,ST (j0 % 6)) m).getD 0 Bj).Tet=((Kr ts (j0 / 6,ST (j0 % 6)) m).getD 2 Bj).Tet))
  · refine .inl ⟨I2 _ (rY hno),S _ (En (fun _=>rfl) (fun _ _=>rfl) (fun _ _ _=>rfl) (fun _ _ _=>⟨_,R2,fun _=>rfl,fun _ _=>rfl,fun q1 q2 q3 q4=>?_⟩))⟩
    rcases hno with h | ⟨_,h | h | h⟩
    · exact absurd q1 h
    · exact absurd h q2
    · exact absurd h q3
    · exact absurd h q4
  · have hm:m=3:=by
      have:¬ (Kr ts (j0 / 6,ST (j0 % 6)) m).length≠3:=fun h=>hno (.inl h)
      rw [Nb] at this; omega
    subst hm
    have hl3:Kr ts (j0 / 6,ST (j0 % 6)) 3=[crn (it ts (j0 / 6,ST (j0 % 6)) 0),crn (it ts (j0 / 6,ST (j0 % 6)) 1),crn (it ts (j0 / 6,ST (j0 % 6)) 2)]:=rfl
    have k0:=Ky hv hP hI hC 0
    have k1:=Ky hv hP hI hC 1
    have k2:=Ky hv hP hI hC 2
    have n0:=(P9 hv hP hI hC 0).1
    have n1:=(P9 hv hP hI hC 1).1
    have n2:=(P9 hv hP hI hC 2).1
    have all:∀ j,j<6 * ts.length→((CN (6 * ts.length) ys).getD j 0=(c:Int)↔j=eo (it ts (j0 / 6,ST (j0 % 6)) 0)∨j=eo (it ts (j0 / 6,ST (j0 % 6)) 1)∨j=eo (it ts (j0 / 6,ST (j0 % 6)) 2)):=fun j hj=>by
      rw [iI hv hP hI hC m1 m3 hj]
      constructor
      · rintro ⟨k,hk,e⟩
        rcases (by omega:k=0∨k=1∨k=2) with rfl | rfl | rfl
        · exact .inl e
        · exact .inr (.inl e)
        · exact .inr (.inr e)
      · rintro (e | e | e)
        · exact ⟨0,by omega,e⟩
        · exact ⟨1,by omega,e⟩
        · exact ⟨2,by omega,e⟩
    have hlen:(Kr ts (j0 / 6,ST (j0 % 6)) 3).length=3:=Nb _ _ _
    rw [hl3] at hno I2 R2 hlen
    have n2:nx ts (it ts (j0 / 6,ST (j0 % 6)) 2)=some (it ts (j0 / 6,ST (j0 % 6)) 0):=n2.trans (congrArg some m3)
    generalize it ts (j0 / 6,ST (j0 % 6)) 0=c0 at *
    generalize it ts (j0 / 6,ST (j0 % 6)) 1=c1 at *
    generalize it ts (j0 / 6,ST (j0 % 6)) 2=c2 at *
    have d1:c0.1≠c1.1:=fun h=>hno (.inr ⟨hlen,.inl (by show (c0.1:Int)=(c1.1:Int); omega)⟩)
    have d2:c1.1≠c2.1:=fun h=>hno (.inr ⟨hlen,.inr (.inl (by show (c1.1:Int)=(c2.1:Int); omega))⟩)
    have d3:c0.1≠c2.1:=fun h=>hno (.inr ⟨hlen,.inr (.inr (by show (c0.1:Int)=(c2.1:Int); omega))⟩)
    refine .inr ⟨c0,c1,c2,⟨k0.tet,k0.perm⟩,⟨k1.tet,k1.perm⟩,⟨k2.tet,k2.perm⟩,n0,n1,n2,d1,d2,d3,I2 _ (lY k0.perm k1.perm k2.perm d1 d2 d3),S _ ?_⟩
    have f0:=Su k0.perm
    have f1:=Su k1.perm
    have f2:=Su k2.perm
    have lt:∀ {x:Nat × Nat},Cor ts (CN (6 * ts.length) ys) (c:Int) x→eo x<6 * ts.length:=fun h=>mul_lt h.tet (Su h.perm).2.2.2.1
    have h3:cnt (CN (6 * ts.length) ys) (c:Int) (6 * ts.length)=3:=dI (by omega) (by omega) (by omega) (lt k0) (lt k1) (lt k2) all
    refine En (fun h=>absurd h3 h) (fun _ h=>absurd h hsg) (fun _ _ h=>absurd h hE) (fun _ _ _=>⟨_,R2,fun h=>absurd rfl h,fun _ q=>?_,fun _ _ _ _=>mY k0.perm k1.perm k2.perm⟩)
    exact (hno (.inr ⟨rfl,q⟩)).elim
end
theorem Qi {α:Type} {l:Nat→Nat→Nat→Option α} {n:Nat} {P:Nat→Bool} {r:α} (go:∀ i,i<n→P i=true→∀ v,Aa (fun K k=>l K k (i+1)) v→Aa (fun K k=>l K k i) v) (h:Kq n P=true) (fin:Aa (fun K k=>l K k n) r):Aa (fun K k=>l K k 0) r:=by
  have main:∀ m i,n - i=m→i≤n→Aa (fun K k=>l K k i) r:=by
    intro m
    induction m with
    | zero =>
      intro i h1 h2
      obtain rfl:i=n:=by omega
      exact fin
    | succ m ih=>intro i h1 h2; exact go i (by omega) (O1 h (by omega)) _ (ih (i+1) (by omega) (by omega))
  exact main n 0 rfl (Nat.zero_le _)
theorem pX {a b:Nat} (ha:a<4) (hb:b<4) (hab:a≠b):Ac (fun K=>Gv.f K (a:Int) (b:Int)) (EXC a b:Int) :=
  gI (F:=fun K a b=>Gv.f K (a:Int) (b:Int)) (g:=fun a b=>(EXC a b:Int)) (m:=60) (by kernel_rfl) ha hb hab
theorem pM {a b:Nat} (ha:a<4) (hb:b<4) (hab:a≠b):Ac (fun K=>Gg.f K (a:Int) (b:Int)) (EXC a b:Int) :=
  gI (F:=fun K a b=>Gg.f K (a:Int) (b:Int)) (g:=fun a b=>(EXC a b:Int)) (m:=60) (by kernel_rfl) ha hb hab
theorem aH {a b:Nat} (ha:a<4) (hb:b<4):a≠b→EXC a b<24:=by
  have:∀ a,a<4→∀ b,b<4→a≠b→EXC a b<24:=by decide +kernel
  exact this a ha b hb
section
variable {ts:List (List Ab)} (hv:Val ts) {a A:Nat} (ha:a<ts.length) (hA:A<4)
include hv ha hA
theorem J7 {t11:List Int} (hl:t11.length=3) {i y:Nat} (hi:i<3) (hy:y<4) (ht:t11.getD i 0=(y:Int)) (hb:(Cg ts a y).Tet<0) {o1 o2 o3 o4 o5 o6 o7 o8:Int} :
    Aa (fun K k=>Ai.l1 K k ts (a:Int) (A:Int) t11 o1 o2 o3 o4 o5 o6 o7 o8 (i:Int)) (o1,o2,o3,o4,o5,o6,o7,o8,false):=by
  have h8:=hv.le
  have hr:=hv.four a ha
  refine Aa.succ ?_
  simp only [Ai.l1,Int.toNat_natCast,ht,Fs]
  refine Aa.pos (by omega) (Aa.pos (by omega) (Aa.pos (by omega) (Aa.pos (by omega) ?_)))
  show Aa (fun K k=>if decide ((Cg ts a y).Tet<0)=true then _ else _) _
  exact Aa.pos (decide_eq_true hb) (Aa.const _)
theorem I9 {t11:List Int} (hl:t11.length=3) {i y:Nat} (hi:i<3) (hy:y<4) (hyA:A≠y) (ht:t11.getD i 0=(y:Int)) {b q:Nat} (hb:Cg ts a y=⟨b,q⟩) (hq:q<24) {o1 o2 o3 o4 o5 o6 o7 o8:Int} {R:Int × Int × Int × Int × Int × Int × Int × Int × Bool}
    (h:Aa (fun K k=>Ai.l1 K k ts (a:Int) (A:Int) t11 (se 0 (y:Int) (b:Int) o1) (se 0 (y:Int) (PM (PI q) (EXC A y):Int) o2) (se 1 (y:Int) (b:Int) o3) (se 1 (y:Int) (PM (PI q) (EXC A y):Int) o4) (se 2 (y:Int) (b:Int) o5) (se 2 (y:Int) (PM (PI q) (EXC A y):Int) o6) (se 3 (y:Int) (b:Int) o7) (se 3 (y:Int) (PM (PI q) (EXC A y):Int) o8) ((i+1:Nat):Int)) R) :
    Aa (fun K k=>Ai.l1 K k ts (a:Int) (A:Int) t11 o1 o2 o3 o4 o5 o6 o7 o8 (i:Int)) R:=by
  have h8:=hv.le
  have hr:=hv.four a ha
  have hb':(ts.getD a []).getD y Bj=⟨b,q⟩:=hb
  refine Aa.succ ?_
  simp only [Ai.l1,Int.toNat_natCast,ht,Fs,hb']
  refine Aa.pos (by omega) (Aa.pos (by omega) (Aa.pos (by omega) (Aa.pos (by omega) ?_)))
  refine Aa.bind (a:=decide ((b:Int)<0)) (Aa.const _) ?_
  refine Aa.neg (by rw [decide_eq_true_eq]; omega) ?_
  refine Aa.bind (Mj hq).two ?_
  refine Aa.bind (pX hA hy hyA).two ?_
  refine Aa.bind (Nf (Im hq) (aH hA hy hyA)).two ?_
  refine Aa.pos (by omega) ?_
  rw [Be (by omega)]
  exact h
theorem Kv {T P:List Int} {R:List Int × List (List Ab) × List Av × Bool} (h:Aa (fun K k=>Aq.l1 K k ts (a:Int) (A:Int) T P ((A+1:Nat):Int)) R):Aa (fun K k=>Aq.l1 K k ts (a:Int) (A:Int) T P (A:Int)) R:=by
  refine Aa.step (fun K k=>?_) h
  rw [Aq.l1,if_pos (by omega),if_pos rfl,Be (by omega)]
theorem J9 {T P:List Int} {y:Nat} (hy:y<4) (hyA:A≠y) (hb:(Cg ts a y).Tet<0):Aa (fun K k=>Aq.l1 K k ts (a:Int) (A:Int) T P (y:Int)) ([],[],[],false):=by
  have h8:=hv.le
  have hr:=hv.four a ha
  refine Aa.succ ?_
  simp only [Aq.l1,Int.toNat_natCast,Fs]
  refine Aa.pos (by omega) (Aa.neg (by omega) (Aa.pos (by omega) (Aa.pos (by omega) ?_)))
  exact Aa.pos hb (Aa.const _)
theorem Jb {T P:List Int} (hT:T.length=4) (hP:P.length=4) {y:Nat} (hy:y<4) (hyA:A≠y) {b q:Nat} (hb:Cg ts a y=⟨b,q⟩) (hq:q<24) {R:List Int × List (List Ab) × List Av × Bool}
    (h:Aa (fun K k=>Aq.l1 K k ts (a:Int) (A:Int) (T.set y (b:Int)) (P.set y (PM (PI q) (EXC A y):Int)) ((y+1:Nat):Int)) R):Aa (fun K k=>Aq.l1 K k ts (a:Int) (A:Int) T P (y:Int)) R:=by
  have h8:=hv.le
  have hr:=hv.four a ha
  have hb':(ts.getD a []).getD y Bj=⟨b,q⟩:=hb
  refine Aa.succ ?_
  simp only [Aq.l1,Int.toNat_natCast,Fs,hb']
  refine Aa.pos (by omega) (Aa.neg (by omega) (Aa.pos (by omega) (Aa.pos (by omega) ?_)))
  refine Aa.neg (by omega) (Aa.pos (by omega) ?_)
  refine Aa.bind (Py hq).two ?_
  refine Aa.bind (pM hA hy hyA).two ?_
  refine Aa.bind (Td (Im hq) (aH hA hy hyA)).two ?_
  refine Aa.pos (by omega) ?_
  rw [Be (by omega)]
  exact h
end
def stT (ts:List (List Ab)) (a A x:Nat):Nat:=if x=A then a else (Cg ts a x).Tet.toNat
def stP (ts:List (List Ab)) (a A x:Nat):Nat:=if x=A then 0 else PM (PI (Cg ts a x).Perm.toNat) (EXC A x)
def l4 (f:Nat→Nat):List Int:=[(f 0:Int),(f 1:Int),(f 2:Int),(f 3:Int)]
def Jv (ts:List (List Ab)) (a A:Nat):Prop:=∀ x,x<4→x≠A→∃ b q:Nat,b<ts.length∧q<24∧Cg ts a x=⟨b,q⟩
theorem K6 {ts:List (List Ab)} {a A x b q:Nat} (h:x≠A) (hf:Cg ts a x=⟨b,q⟩):stT ts a A x=b∧stP ts a A x=PM (PI q) (EXC A x):=by
  unfold stT stP
  rw [if_neg h,if_neg h,hf]; exact ⟨rfl,rfl⟩
theorem Qw (ts:List (List Ab)) (a A:Nat):stT ts a A A=a∧stP ts a A A=0:=by
  unfold stT stP
  rw [if_pos rfl,if_pos rfl]; exact ⟨rfl,rfl⟩
section
variable {ts:List (List Ab)} (hv:Val ts)
include hv
theorem Jv.no {a A x:Nat} (hx:x<4) (hxA:x≠A) (hb:(Cg ts a x).Tet<0):¬ Jv ts a A:=fun h=>by
  obtain ⟨b,q,_,_,h1⟩:=h x hx hxA
  rw [h1] at hb
  have hb:(b:Int)<0:=hb
  omega
theorem jZ {a:Nat} (ha:a<ts.length):(¬ Jv ts a 0∧(∃ o1 o2 o3 o4 o5 o6 o7 o8,Ac (fun K=>Ai.f K ts (a:Int) ((0:Nat):Int)) (o1,o2,o3,o4,o5,o6,o7,o8,false))∧Ac (fun K=>Aq.f K ts (a:Int) ((0:Nat):Int)) ([],[],[],false)) ∨
    (Jv ts a 0∧(∀ R,Aa (fun K k=>Ai.l10 K k ts (stT ts a 0 0:Int) (stP ts a 0 0:Int) (stT ts a 0 1:Int) (stP ts a 0 1:Int) (stT ts a 0 2:Int) (stP ts a 0 2:Int) (stT ts a 0 3:Int) (stP ts a 0 3:Int) 0) R→Ac (fun K=>Ai.f K ts (a:Int) ((0:Nat):Int)) R) ∧
      (∀ R,Aa (fun K k=>Aq.l8 K k ts (l4 (stT ts a 0)) (l4 (stP ts a 0)) 0) R→Ac (fun K=>Aq.f K ts (a:Int) ((0:Nat):Int)) R)):=by
  have hA:0<4:=by omega
  have I:∀ R,Aa (fun K k=>Ai.l1 K k ts (a:Int) ((0:Nat):Int) (ints (OT [0])) (se 0 ((0:Nat):Int) (a:Int) 0) (se 0 ((0:Nat):Int) 0 0) (se 1 ((0:Nat):Int) (a:Int) 0) (se 1 ((0:Nat):Int) 0 0) (se 2 ((0:Nat):Int) (a:Int) 0) (se 2 ((0:Nat):Int) 0 0) (se 3 ((0:Nat):Int) (a:Int) 0) (se 3 ((0:Nat):Int) 0 0) ((0:Nat):Int)) R→Ac (fun K=>Ai.f K ts (a:Int) ((0:Nat):Int)) R:=fun R h=>by
    refine Ac.pos (by omega) (Ac.bind (Mg hA) ?_)
    exact h.Hg
  have S:∀ R,Aa (fun K k=>Aq.l1 K k ts (a:Int) ((0:Nat):Int) ([0,0,0,0].set 0 (a:Int)) [0,0,0,0] ((0:Nat):Int)) R→Ac (fun K=>Aq.f K ts (a:Int) ((0:Nat):Int)) R:=fun R h=>by
    refine Ac.pos (by decide) ?_
    exact h.Hg
  have e:=Qw ts a 0
  rcases Ep hv ha (show 1<4 by omega) with ⟨g1,_⟩ | ⟨_,b1,q1,hb1,hq1,f1,_⟩
  · refine .inl ⟨Jv.no hv (show 1<4 by omega) (by omega) g1,?_,S _ ?_⟩
    · exact ⟨_,_,_,_,_,_,_,_,I _ (J7 hv ha hA rfl (i:=0) (y:=1) (by omega) (by omega) rfl g1)⟩
    · skip
      refine Kv hv ha hA ?_
      exact J9 hv ha hA (y:=1) (by omega) (by omega) g1
  rcases Ep hv ha (show 2<4 by omega) with ⟨g2,_⟩ | ⟨_,b2,q2,hb2,hq2,f2,_⟩
  · refine .inl ⟨Jv.no hv (show 2<4 by omega) (by omega) g2,?_,S _ ?_⟩
    · exact ⟨_,_,_,_,_,_,_,_,I _ (I9 hv ha hA rfl (i:=0) (y:=1) (by omega) (by omega) (by omega) rfl f1 hq1 (J7 hv ha hA rfl (i:=1) (y:=2) (by omega) (by omega) rfl g2))⟩
    · skip
      refine Kv hv ha hA ?_
      refine Jb hv ha hA (by simp) (by simp) (y:=1) (by omega) (by omega) f1 hq1 ?_
      exact J9 hv ha hA (y:=2) (by omega) (by omega) g2
  rcases Ep hv ha (show 3<4 by omega) with ⟨g3,_⟩ | ⟨_,b3,q3,hb3,hq3,f3,_⟩
  · refine .inl ⟨Jv.no hv (show 3<4 by omega) (by omega) g3,?_,S _ ?_⟩
    · exact ⟨_,_,_,_,_,_,_,_,I _ (I9 hv ha hA rfl (i:=0) (y:=1) (by omega) (by omega) (by omega) rfl f1 hq1 (I9 hv ha hA rfl (i:=1) (y:=2) (by omega) (by omega) (by omega) rfl f2 hq2 (J7 hv ha hA rfl (i:=2) (y:=3) (by omega) (by omega) rfl g3)))⟩
    · skip
      refine Kv hv ha hA ?_
      refine Jb hv ha hA (by simp) (by simp) (y:=1) (by omega) (by omega) f1 hq1 ?_
      refine Jb hv ha hA (by simp) (by simp) (y:=2) (by omega) (by omega) f2 hq2 ?_
      exact J9 hv ha hA (y:=3) (by omega) (by omega) g3
  obtain ⟨t1,p1⟩:=K6 (A:=0) (by omega) f1
  obtain ⟨t2,p2⟩:=K6 (A:=0) (by omega) f2
  obtain ⟨t3,p3⟩:=K6 (A:=0) (by omega) f3
  refine .inr ⟨fun x hx hxA=>?_,fun R h=>I _ ?_,fun R h=>S _ ?_⟩
  · rcases (by omega:x=1∨x=2∨x=3) with rfl | rfl | rfl
    · exact ⟨b1,q1,hb1,hq1,f1⟩
    · exact ⟨b2,q2,hb2,hq2,f2⟩
    · exact ⟨b3,q3,hb3,hq3,f3⟩
  · skip
    refine I9 hv ha hA rfl (i:=0) (y:=1) (by omega) (by omega) (by omega) rfl f1 hq1 ?_
    refine I9 hv ha hA rfl (i:=1) (y:=2) (by omega) (by omega) (by omega) rfl f2 hq2 ?_
    refine I9 hv ha hA rfl (i:=2) (y:=3) (by omega) (by omega) (by omega) rfl f3 hq3 ?_
    rw [e.1,e.2,t1,p1,t2,p2,t3,p3] at h
    refine Aa.step (fun K k=>?_) h
    rw [Ai.l1,if_neg (by decide)]; rfl
  · skip
    refine Kv hv ha hA ?_
    refine Jb hv ha hA (by simp) (by simp) (y:=1) (by omega) (by omega) f1 hq1 ?_
    refine Jb hv ha hA (by simp) (by simp) (y:=2) (by omega) (by omega) f2 hq2 ?_
    refine Jb hv ha hA (by simp) (by simp) (y:=3) (by omega) (by omega) f3 hq3 ?_
    unfold l4 at h
    rw [e.1,e.2,t1,p1,t2,p2,t3,p3] at h
    refine Aa.step (fun K k=>?_) h
    rw [Aq.l1,if_neg (by decide)]; rfl
theorem mP {a:Nat} (ha:a<ts.length):(¬ Jv ts a 1∧(∃ o1 o2 o3 o4 o5 o6 o7 o8,Ac (fun K=>Ai.f K ts (a:Int) ((1:Nat):Int)) (o1,o2,o3,o4,o5,o6,o7,o8,false))∧Ac (fun K=>Aq.f K ts (a:Int) ((1:Nat):Int)) ([],[],[],false)) ∨
    (Jv ts a 1∧(∀ R,Aa (fun K k=>Ai.l10 K k ts (stT ts a 1 0:Int) (stP ts a 1 0:Int) (stT ts a 1 1:Int) (stP ts a 1 1:Int) (stT ts a 1 2:Int) (stP ts a 1 2:Int) (stT ts a 1 3:Int) (stP ts a 1 3:Int) 0) R→Ac (fun K=>Ai.f K ts (a:Int) ((1:Nat):Int)) R) ∧
      (∀ R,Aa (fun K k=>Aq.l8 K k ts (l4 (stT ts a 1)) (l4 (stP ts a 1)) 0) R→Ac (fun K=>Aq.f K ts (a:Int) ((1:Nat):Int)) R)):=by
  have hA:1<4:=by omega
  have I:∀ R,Aa (fun K k=>Ai.l1 K k ts (a:Int) ((1:Nat):Int) (ints (OT [1])) (se 0 ((1:Nat):Int) (a:Int) 0) (se 0 ((1:Nat):Int) 0 0) (se 1 ((1:Nat):Int) (a:Int) 0) (se 1 ((1:Nat):Int) 0 0) (se 2 ((1:Nat):Int) (a:Int) 0) (se 2 ((1:Nat):Int) 0 0) (se 3 ((1:Nat):Int) (a:Int) 0) (se 3 ((1:Nat):Int) 0 0) ((0:Nat):Int)) R→Ac (fun K=>Ai.f K ts (a:Int) ((1:Nat):Int)) R:=fun R h=>by
    refine Ac.pos (by omega) (Ac.bind (Mg hA) ?_)
    exact h.Hg
  have S:∀ R,Aa (fun K k=>Aq.l1 K k ts (a:Int) ((1:Nat):Int) ([0,0,0,0].set 1 (a:Int)) [0,0,0,0] ((0:Nat):Int)) R→Ac (fun K=>Aq.f K ts (a:Int) ((1:Nat):Int)) R:=fun R h=>by
    refine Ac.pos (by decide) ?_
    exact h.Hg
  have e:=Qw ts a 1
  rcases Ep hv ha (show 0<4 by omega) with ⟨g0,_⟩ | ⟨_,b0,q0,hb0,hq0,f0,_⟩
  · refine .inl ⟨Jv.no hv (show 0<4 by omega) (by omega) g0,?_,S _ ?_⟩
    · exact ⟨_,_,_,_,_,_,_,_,I _ (J7 hv ha hA rfl (i:=0) (y:=0) (by omega) (by omega) rfl g0)⟩
    · skip
      exact J9 hv ha hA (y:=0) (by omega) (by omega) g0
  rcases Ep hv ha (show 2<4 by omega) with ⟨g2,_⟩ | ⟨_,b2,q2,hb2,hq2,f2,_⟩
  · refine .inl ⟨Jv.no hv (show 2<4 by omega) (by omega) g2,?_,S _ ?_⟩
    · exact ⟨_,_,_,_,_,_,_,_,I _ (I9 hv ha hA rfl (i:=0) (y:=0) (by omega) (by omega) (by omega) rfl f0 hq0 (J7 hv ha hA rfl (i:=1) (y:=2) (by omega) (by omega) rfl g2))⟩
    · skip
      refine Jb hv ha hA (by simp) (by simp) (y:=0) (by omega) (by omega) f0 hq0 ?_
      refine Kv hv ha hA ?_
      exact J9 hv ha hA (y:=2) (by omega) (by omega) g2
  rcases Ep hv ha (show 3<4 by omega) with ⟨g3,_⟩ | ⟨_,b3,q3,hb3,hq3,f3,_⟩
  · refine .inl ⟨Jv.no hv (show 3<4 by omega) (by omega) g3,?_,S _ ?_⟩
    · exact ⟨_,_,_,_,_,_,_,_,I _ (I9 hv ha hA rfl (i:=0) (y:=0) (by omega) (by omega) (by omega) rfl f0 hq0 (I9 hv ha hA rfl (i:=1) (y:=2) (by omega) (by omega) (by omega) rfl f2 hq2 (J7 hv ha hA rfl (i:=2) (y:=3) (by omega) (by omega) rfl g3)))⟩
    · skip
      refine Jb hv ha hA (by simp) (by simp) (y:=0) (by omega) (by omega) f0 hq0 ?_
      refine Kv hv ha hA ?_
      refine Jb hv ha hA (by simp) (by simp) (y:=2) (by omega) (by omega) f2 hq2 ?_
      exact J9 hv ha hA (y:=3) (by omega) (by omega) g3
  obtain ⟨t0,p0⟩:=K6 (A:=1) (by omega) f0
  obtain ⟨t2,p2⟩:=K6 (A:=1) (by omega) f2
  obtain ⟨t3,p3⟩:=K6 (A:=1) (by omega) f3
  refine .inr ⟨fun x hx hxA=>?_,fun R h=>I _ ?_,fun R h=>S _ ?_⟩
  · rcases (by omega:x=0∨x=2∨x=3) with rfl | rfl | rfl
    · exact ⟨b0,q0,hb0,hq0,f0⟩
    · exact ⟨b2,q2,hb2,hq2,f2⟩
    · exact ⟨b3,q3,hb3,hq3,f3⟩
  · skip
    refine I9 hv ha hA rfl (i:=0) (y:=0) (by omega) (by omega) (by omega) rfl f0 hq0 ?_
    refine I9 hv ha hA rfl (i:=1) (y:=2) (by omega) (by omega) (by omega) rfl f2 hq2 ?_
    refine I9 hv ha hA rfl (i:=2) (y:=3) (by omega) (by omega) (by omega) rfl f3 hq3 ?_
    rw [e.1,e.2,t0,p0,t2,p2,t3,p3] at h
    refine Aa.step (fun K k=>?_) h
    rw [Ai.l1,if_neg (by decide)]; rfl
  · skip
    refine Jb hv ha hA (by simp) (by simp) (y:=0) (by omega) (by omega) f0 hq0 ?_
    refine Kv hv ha hA ?_
    refine Jb hv ha hA (by simp) (by simp) (y:=2) (by omega) (by omega) f2 hq2 ?_
    refine Jb hv ha hA (by simp) (by simp) (y:=3) (by omega) (by omega) f3 hq3 ?_
    unfold l4 at h
    rw [e.1,e.2,t0,p0,t2,p2,t3,p3] at h
    refine Aa.step (fun K k=>?_) h
    rw [Aq.l1,if_neg (by decide)]; rfl
theorem lN {a:Nat} (ha:a<ts.length):(¬ Jv ts a 2∧(∃ o1 o2 o3 o4 o5 o6 o7 o8,Ac (fun K=>Ai.f K ts (a:Int) ((2:Nat):Int)) (o1,o2,o3,o4,o5,o6,o7,o8,false))∧Ac (fun K=>Aq.f K ts (a:Int) ((2:Nat):Int)) ([],[],[],false)) ∨
    (Jv ts a 2∧(∀ R,Aa (fun K k=>Ai.l10 K k ts (stT ts a 2 0:Int) (stP ts a 2 0:Int) (stT ts a 2 1:Int) (stP ts a 2 1:Int) (stT ts a 2 2:Int) (stP ts a 2 2:Int) (stT ts a 2 3:Int) (stP ts a 2 3:Int) 0) R→Ac (fun K=>Ai.f K ts (a:Int) ((2:Nat):Int)) R) ∧
      (∀ R,Aa (fun K k=>Aq.l8 K k ts (l4 (stT ts a 2)) (l4 (stP ts a 2)) 0) R→Ac (fun K=>Aq.f K ts (a:Int) ((2:Nat):Int)) R)):=by
  have hA:2<4:=by omega
  have I:∀ R,Aa (fun K k=>Ai.l1 K k ts (a:Int) ((2:Nat):Int) (ints (OT [2])) (se 0 ((2:Nat):Int) (a:Int) 0) (se 0 ((2:Nat):Int) 0 0) (se 1 ((2:Nat):Int) (a:Int) 0) (se 1 ((2:Nat):Int) 0 0) (se 2 ((2:Nat):Int) (a:Int) 0) (se 2 ((2:Nat):Int) 0 0) (se 3 ((2:Nat):Int) (a:Int) 0) (se 3 ((2:Nat):Int) 0 0) ((0:Nat):Int)) R→Ac (fun K=>Ai.f K ts (a:Int) ((2:Nat):Int)) R:=fun R h=>by
    refine Ac.pos (by omega) (Ac.bind (Mg hA) ?_)
    exact h.Hg
  have S:∀ R,Aa (fun K k=>Aq.l1 K k ts (a:Int) ((2:Nat):Int) ([0,0,0,0].set 2 (a:Int)) [0,0,0,0] ((0:Nat):Int)) R→Ac (fun K=>Aq.f K ts (a:Int) ((2:Nat):Int)) R:=fun R h=>by
    refine Ac.pos (by decide) ?_
    exact h.Hg
  have e:=Qw ts a 2
  rcases Ep hv ha (show 0<4 by omega) with ⟨g0,_⟩ | ⟨_,b0,q0,hb0,hq0,f0,_⟩
  · refine .inl ⟨Jv.no hv (show 0<4 by omega) (by omega) g0,?_,S _ ?_⟩
    · exact ⟨_,_,_,_,_,_,_,_,I _ (J7 hv ha hA rfl (i:=0) (y:=0) (by omega) (by omega) rfl g0)⟩
    · skip
      exact J9 hv ha hA (y:=0) (by omega) (by omega) g0
  rcases Ep hv ha (show 1<4 by omega) with ⟨g1,_⟩ | ⟨_,b1,q1,hb1,hq1,f1,_⟩
  · refine .inl ⟨Jv.no hv (show 1<4 by omega) (by omega) g1,?_,S _ ?_⟩
    · exact ⟨_,_,_,_,_,_,_,_,I _ (I9 hv ha hA rfl (i:=0) (y:=0) (by omega) (by omega) (by omega) rfl f0 hq0 (J7 hv ha hA rfl (i:=1) (y:=1) (by omega) (by omega) rfl g1))⟩
    · skip
      refine Jb hv ha hA (by simp) (by simp) (y:=0) (by omega) (by omega) f0 hq0 ?_
      exact J9 hv ha hA (y:=1) (by omega) (by omega) g1
  rcases Ep hv ha (show 3<4 by omega) with ⟨g3,_⟩ | ⟨_,b3,q3,hb3,hq3,f3,_⟩
  · refine .inl ⟨Jv.no hv (show 3<4 by omega) (by omega) g3,?_,S _ ?_⟩
    · exact ⟨_,_,_,_,_,_,_,_,I _ (I9 hv ha hA rfl (i:=0) (y:=0) (by omega) (by omega) (by omega) rfl f0 hq0 (I9 hv ha hA rfl (i:=1) (y:=1) (by omega) (by omega) (by omega) rfl f1 hq1 (J7 hv ha hA rfl (i:=2) (y:=3) (by omega) (by omega) rfl g3)))⟩
    · skip
      refine Jb hv ha hA (by simp) (by simp) (y:=0) (by omega) (by omega) f0 hq0 ?_
      refine Jb hv ha hA (by simp) (by simp) (y:=1) (by omega) (by omega) f1 hq1 ?_
      refine Kv hv ha hA ?_
      exact J9 hv ha hA (y:=3) (by omega) (by omega) g3
  obtain ⟨t0,p0⟩:=K6 (A:=2) (by omega) f0
  obtain ⟨t1,p1⟩:=K6 (A:=2) (by omega) f1
  obtain ⟨t3,p3⟩:=K6 (A:=2) (by omega) f3
  refine .inr ⟨fun x hx hxA=>?_,fun R h=>I _ ?_,fun R h=>S _ ?_⟩
  · rcases (by omega:x=0∨x=1∨x=3) with rfl | rfl | rfl
    · exact ⟨b0,q0,hb0,hq0,f0⟩
    · exact ⟨b1,q1,hb1,hq1,f1⟩
    · exact ⟨b3,q3,hb3,hq3,f3⟩
  · skip
    refine I9 hv ha hA rfl (i:=0) (y:=0) (by omega) (by omega) (by omega) rfl f0 hq0 ?_
    refine I9 hv ha hA rfl (i:=1) (y:=1) (by omega) (by omega) (by omega) rfl f1 hq1 ?_
    refine I9 hv ha hA rfl (i:=2) (y:=3) (by omega) (by omega) (by omega) rfl f3 hq3 ?_
    rw [e.1,e.2,t0,p0,t1,p1,t3,p3] at h
    refine Aa.step (fun K k=>?_) h
    rw [Ai.l1,if_neg (by decide)]; rfl
  · skip
    refine Jb hv ha hA (by simp) (by simp) (y:=0) (by omega) (by omega) f0 hq0 ?_
    refine Jb hv ha hA (by simp) (by simp) (y:=1) (by omega) (by omega) f1 hq1 ?_
    refine Kv hv ha hA ?_
    refine Jb hv ha hA (by simp) (by simp) (y:=3) (by omega) (by omega) f3 hq3 ?_
    unfold l4 at h
    rw [e.1,e.2,t0,p0,t1,p1,t3,p3] at h
    refine Aa.step (fun K k=>?_) h
    rw [Aq.l1,if_neg (by decide)]; rfl
theorem lM {a:Nat} (ha:a<ts.length):(¬ Jv ts a 3∧(∃ o1 o2 o3 o4 o5 o6 o7 o8,Ac (fun K=>Ai.f K ts (a:Int) ((3:Nat):Int)) (o1,o2,o3,o4,o5,o6,o7,o8,false))∧Ac (fun K=>Aq.f K ts (a:Int) ((3:Nat):Int)) ([],[],[],false)) ∨
    (Jv ts a 3∧(∀ R,Aa (fun K k=>Ai.l10 K k ts (stT ts a 3 0:Int) (stP ts a 3 0:Int) (stT ts a 3 1:Int) (stP ts a 3 1:Int) (stT ts a 3 2:Int) (stP ts a 3 2:Int) (stT ts a 3 3:Int) (stP ts a 3 3:Int) 0) R→Ac (fun K=>Ai.f K ts (a:Int) ((3:Nat):Int)) R) ∧
      (∀ R,Aa (fun K k=>Aq.l8 K k ts (l4 (stT ts a 3)) (l4 (stP ts a 3)) 0) R→Ac (fun K=>Aq.f K ts (a:Int) ((3:Nat):Int)) R)):=by
  have hA:3<4:=by omega
  have I:∀ R,Aa (fun K k=>Ai.l1 K k ts (a:Int) ((3:Nat):Int) (ints (OT [3])) (se 0 ((3:Nat):Int) (a:Int) 0) (se 0 ((3:Nat):Int) 0 0) (se 1 ((3:Nat):Int) (a:Int) 0) (se 1 ((3:Nat):Int) 0 0) (se 2 ((3:Nat):Int) (a:Int) 0) (se 2 ((3:Nat):Int) 0 0) (se 3 ((3:Nat):Int) (a:Int) 0) (se 3 ((3:Nat):Int) 0 0) ((0:Nat):Int)) R→Ac (fun K=>Ai.f K ts (a:Int) ((3:Nat):Int)) R:=fun R h=>by
    refine Ac.pos (by omega) (Ac.bind (Mg hA) ?_)
    exact h.Hg
  have S:∀ R,Aa (fun K k=>Aq.l1 K k ts (a:Int) ((3:Nat):Int) ([0,0,0,0].set 3 (a:Int)) [0,0,0,0] ((0:Nat):Int)) R→Ac (fun K=>Aq.f K ts (a:Int) ((3:Nat):Int)) R:=fun R h=>by
    refine Ac.pos (by decide) ?_
    exact h.Hg
  have e:=Qw ts a 3
  rcases Ep hv ha (show 0<4 by omega) with ⟨g0,_⟩ | ⟨_,b0,q0,hb0,hq0,f0,_⟩
  · refine .inl ⟨Jv.no hv (show 0<4 by omega) (by omega) g0,?_,S _ ?_⟩
    · exact ⟨_,_,_,_,_,_,_,_,I _ (J7 hv ha hA rfl (i:=0) (y:=0) (by omega) (by omega) rfl g0)⟩
    · skip
      exact J9 hv ha hA (y:=0) (by omega) (by omega) g0
  rcases Ep hv ha (show 1<4 by omega) with ⟨g1,_⟩ | ⟨_,b1,q1,hb1,hq1,f1,_⟩
  · refine .inl ⟨Jv.no hv (show 1<4 by omega) (by omega) g1,?_,S _ ?_⟩
    · exact ⟨_,_,_,_,_,_,_,_,I _ (I9 hv ha hA rfl (i:=0) (y:=0) (by omega) (by omega) (by omega) rfl f0 hq0 (J7 hv ha hA rfl (i:=1) (y:=1) (by omega) (by omega) rfl g1))⟩
    · skip
      refine Jb hv ha hA (by simp) (by simp) (y:=0) (by omega) (by omega) f0 hq0 ?_
      exact J9 hv ha hA (y:=1) (by omega) (by omega) g1
  rcases Ep hv ha (show 2<4 by omega) with ⟨g2,_⟩ | ⟨_,b2,q2,hb2,hq2,f2,_⟩
  · refine .inl ⟨Jv.no hv (show 2<4 by omega) (by omega) g2,?_,S _ ?_⟩
    · exact ⟨_,_,_,_,_,_,_,_,I _ (I9 hv ha hA rfl (i:=0) (y:=0) (by omega) (by omega) (by omega) rfl f0 hq0 (I9 hv ha hA rfl (i:=1) (y:=1) (by omega) (by omega) (by omega) rfl f1 hq1 (J7 hv ha hA rfl (i:=2) (y:=2) (by omega) (by omega) rfl g2)))⟩
    · skip
      refine Jb hv ha hA (by simp) (by simp) (y:=0) (by omega) (by omega) f0 hq0 ?_
      refine Jb hv ha hA (by simp) (by simp) (y:=1) (by omega) (by omega) f1 hq1 ?_
      exact J9 hv ha hA (y:=2) (by omega) (by omega) g2
  obtain ⟨t0,p0⟩:=K6 (A:=3) (by omega) f0
  obtain ⟨t1,p1⟩:=K6 (A:=3) (by omega) f1
  obtain ⟨t2,p2⟩:=K6 (A:=3) (by omega) f2
  refine .inr ⟨fun x hx hxA=>?_,fun R h=>I _ ?_,fun R h=>S _ ?_⟩
  · rcases (by omega:x=0∨x=1∨x=2) with rfl | rfl | rfl
    · exact ⟨b0,q0,hb0,hq0,f0⟩
    · exact ⟨b1,q1,hb1,hq1,f1⟩
    · exact ⟨b2,q2,hb2,hq2,f2⟩
  · skip
    refine I9 hv ha hA rfl (i:=0) (y:=0) (by omega) (by omega) (by omega) rfl f0 hq0 ?_
    refine I9 hv ha hA rfl (i:=1) (y:=1) (by omega) (by omega) (by omega) rfl f1 hq1 ?_
    refine I9 hv ha hA rfl (i:=2) (y:=2) (by omega) (by omega) (by omega) rfl f2 hq2 ?_
    rw [e.1,e.2,t0,p0,t1,p1,t2,p2] at h
    refine Aa.step (fun K k=>?_) h
    rw [Ai.l1,if_neg (by decide)]; rfl
  · skip
    refine Jb hv ha hA (by simp) (by simp) (y:=0) (by omega) (by omega) f0 hq0 ?_
    refine Jb hv ha hA (by simp) (by simp) (y:=1) (by omega) (by omega) f1 hq1 ?_
    refine Jb hv ha hA (by simp) (by simp) (y:=2) (by omega) (by omega) f2 hq2 ?_
    refine Kv hv ha hA ?_
    unfold l4 at h
    rw [e.1,e.2,t0,p0,t1,p1,t2,p2] at h
    refine Aa.step (fun K k=>?_) h
    rw [Aq.l1,if_neg (by decide)]; rfl
end
theorem M6 {f:Nat→Nat} {k:Nat} (hk:k<4):([(f 0:Int),(f 1:Int),(f 2:Int),(f 3:Int)]:List Int).getD k 0=(f k:Int):=bJ (f:=f) rfl rfl rfl rfl hk
def okB (ts:List (List Ab)) (T P:Nat→Nat) (x y:Nat):Bool:=decide (x=y∨((Cg ts (T x) (PA (PI (P x)) y)).Tet=(T y:Int)∧T x≠T y∧PM (PM (PI (P x)) (Cg ts (T x) (PA (PI (P x)) y)).Perm.toNat) (P y)=EXC x y))
section
variable {ts:List (List Ab)} (hv:Val ts) {T P:Nat→Nat} (hT:∀ x,x<4→T x<ts.length) (hP:∀ x,x<4→P x<24)
include hv hT hP
theorem Uh {x y:Nat} (hx:x<4) (hy:y<4) {R:Int × Int × Int × Int × Int × Int × Int × Int × Bool}
    (hgo:okB ts T P x y=true→Aa (fun K k=>Ai.l13 K k ts (T 0:Int) (P 0:Int) (T 1:Int) (P 1:Int) (T 2:Int) (P 2:Int) (T 3:Int) (P 3:Int) (x:Int) ((y+1:Nat):Int)) R)
    (hno:okB ts T P x y=false→R=((T 0:Int),(P 0:Int),(T 1:Int),(P 1:Int),(T 2:Int),(P 2:Int),(T 3:Int),(P 3:Int),false)) :
    Aa (fun K k=>Ai.l13 K k ts (T 0:Int) (P 0:Int) (T 1:Int) (P 1:Int) (T 2:Int) (P 2:Int) (T 3:Int) (P 3:Int) (x:Int) (y:Int)) R:=by
  have h8:=hv.le
  have hPx:=hP x hx
  have hPy:=hP y hy
  have hTx:=hT x hx
  have hTy:=hT y hy
  have hf:PA (PI (P x)) y<4:=Ei (Im hPx) hy
  have hr:=hv.four _ hTx
  have gT:=fun k (h:k<4)=>M6 (f:=T) h
  have gP:=fun k (h:k<4)=>M6 (f:=P) h
  have gA:=M6 (f:=PA (PI (P x))) hy
  refine Aa.succ ?_
  simp only [Ai.l13,Int.toNat_natCast,Fs,gT x hx,gT y hy,gP x hx,gP y hy]
  refine Aa.pos (by omega) ?_
  by_cases hxy:x=y
  · refine Aa.pos (by omega) ?_
    rw [Be (by omega)]
    exact hgo (decide_eq_true (.inl hxy))
  refine Aa.neg (by omega) (Aa.pos (by omega) ?_)
  refine Aa.bind (Mj hPx).two ?_
  refine Aa.D7 (Kz (Im hPx)).two ?_
  simp only [gA,Int.toNat_natCast]
  refine Aa.pos (by omega) (Aa.pos (by omega) (Aa.pos (by omega) ?_))
  show Aa (fun K k=>if (Cg ts (T x) (PA (PI (P x)) y)).Tet=(T y:Int) then _ else _) _
  by_cases h1:(Cg ts (T x) (PA (PI (P x)) y)).Tet=(T y:Int)
  rotate_left
  · rw [hno (decide_eq_false (fun q=>q.elim (fun h=>hxy h) (fun h=>h1 h.1)))]
    exact Aa.neg h1 (Aa.const _)
  refine Aa.pos h1 ?_
  by_cases h2:T x=T y
  · rw [hno (decide_eq_false (fun q=>q.elim (fun h=>hxy h) (fun h=>h.2.1 h2)))]
    exact Aa.pos (by omega) (Aa.const _)
  refine Aa.neg (by omega) ?_
  rcases Ep hv hTx hf with ⟨c1,_⟩ | ⟨_,b,q,hb,hq,c2,_⟩
  · omega
  have e0:(Cg ts (T x) (PA (PI (P x)) y)).Perm=(q:Int):=by rw [c2]
  have e0':((ts.getD (T x) []).getD (PA (PI (P x)) y) Bj).Perm=(q:Int):=e0
  refine Aa.bind (Mj hPx).two ?_
  simp only [e0']
  refine Aa.bind (Nf (Im hPx) hq).two ?_
  refine Aa.bind (Nf (Mv (Im hPx) hq) hPy).two ?_
  refine Aa.bind (pX hx hy hxy).two ?_
  by_cases h3:PM (PM (PI (P x)) q) (P y)=EXC x y
  · refine Aa.pos (by omega) ?_
    rw [Be (by omega)]
    exact hgo (decide_eq_true (.inr ⟨h1,h2,by rw [e0,Int.toNat_natCast]; exact h3⟩))
  · rw [hno (decide_eq_false (fun q=>q.elim (fun h=>hxy h) (fun h=>h3 (by have:=h.2.2; rw [e0,Int.toNat_natCast] at this; exact this))))]
    exact Aa.neg (by omega) (Aa.const _)
theorem Ug {x y:Nat} (hx:x<4) (hy:y<4) {R:List Int × List (List Ab) × List Av × Bool}
    (hgo:okB ts T P x y=true→Aa (fun K k=>Aq.l12 K k ts (l4 T) (l4 P) (x:Int) ((y+1:Nat):Int)) R)
    (hno:okB ts T P x y=false→R=([],[],[],false)) :
    Aa (fun K k=>Aq.l12 K k ts (l4 T) (l4 P) (x:Int) (y:Int)) R:=by
  have h8:=hv.le
  have hPx:=hP x hx
  have hPy:=hP y hy
  have hTx:=hT x hx
  have hTy:=hT y hy
  have hf:PA (PI (P x)) y<4:=Ei (Im hPx) hy
  have hr:=hv.four _ hTx
  have lT:(l4 T).length=4:=rfl
  have lP:(l4 P).length=4:=rfl
  have gT:∀ k,k<4→(l4 T).getD k 0=(T k:Int):=fun k (h:k<4)=>M6 (f:=T) h
  have gP:∀ k,k<4→(l4 P).getD k 0=(P k:Int):=fun k (h:k<4)=>M6 (f:=P) h
  refine Aa.succ ?_
  simp only [Aq.l12,Int.toNat_natCast,Fs,gT x hx,gT y hy,gP x hx,gP y hy]
  refine Aa.pos (by omega) ?_
  by_cases hxy:x=y
  · refine Aa.pos (by omega) ?_
    rw [Be (by omega)]
    exact hgo (decide_eq_true (.inl hxy))
  refine Aa.neg (by omega) (Aa.pos (by omega) (Aa.pos (by omega) (Aa.pos (by omega) ?_)))
  refine Aa.bind (Py hPx).two ?_
  refine Aa.bind (Mr (Im hPx) hy).two ?_
  simp only [Int.toNat_natCast]
  refine Aa.pos (by omega) (Aa.pos (by omega) ?_)
  by_cases h2:T x=T y
  · rw [hno (decide_eq_false (fun q=>q.elim (fun h=>hxy h) (fun h=>h.2.1 h2)))]
    exact Aa.pos (by omega) (Aa.const _)
  refine Aa.neg (by omega) ?_
  show Aa (fun K k=>if (Cg ts (T x) (PA (PI (P x)) y)).Tet=(T y:Int) then _ else _) _
  by_cases h1:(Cg ts (T x) (PA (PI (P x)) y)).Tet=(T y:Int)
  rotate_left
  · rw [hno (decide_eq_false (fun q=>q.elim (fun h=>hxy h) (fun h=>h1 h.1)))]
    exact Aa.neg h1 (Aa.const _)
  refine Aa.pos h1 ?_
  rcases Ep hv hTx hf with ⟨c1,_⟩ | ⟨_,b,q,hb,hq,c2,_⟩
  · omega
  have e0:(Cg ts (T x) (PA (PI (P x)) y)).Perm=(q:Int):=by rw [c2]
  have e0':((ts.getD (T x) []).getD (PA (PI (P x)) y) Bj).Perm=(q:Int):=e0
  refine Aa.bind (Py hPx).two ?_
  simp only [e0']
  refine Aa.bind (Td (Im hPx) hq).two ?_
  refine Aa.pos (by omega) ?_
  refine Aa.bind (Td (Mv (Im hPx) hq) hPy).two ?_
  refine Aa.bind (pM hx hy hxy).two ?_
  by_cases h3:PM (PM (PI (P x)) q) (P y)=EXC x y
  · refine Aa.pos (by omega) ?_
    rw [Be (by omega)]
    exact hgo (decide_eq_true (.inr ⟨h1,h2,by rw [e0,Int.toNat_natCast]; exact h3⟩))
  · rw [hno (decide_eq_false (fun q=>q.elim (fun h=>hxy h) (fun h=>h3 (by have:=h.2.2; rw [e0,Int.toNat_natCast] at this; exact this))))]
    exact Aa.neg (by omega) (Aa.const _)
theorem kC:Aa (fun K k=>Ai.l10 K k ts (T 0:Int) (P 0:Int) (T 1:Int) (P 1:Int) (T 2:Int) (P 2:Int) (T 3:Int) (P 3:Int) 0) ((T 0:Int),(P 0:Int),(T 1:Int),(P 1:Int),(T 2:Int),(P 2:Int),(T 3:Int),(P 3:Int),Kq 4 fun x=>Kq 4 (okB ts T P x)):=by
  have enter:∀ x:Nat,x<4→∀ R,Aa (fun K k=>Ai.l13 K k ts (T 0:Int) (P 0:Int) (T 1:Int) (P 1:Int) (T 2:Int) (P 2:Int) (T 3:Int) (P 3:Int) (x:Int) ((0:Nat):Int)) R→Aa (fun K k=>Ai.l10 K k ts (T 0:Int) (P 0:Int) (T 1:Int) (P 1:Int) (T 2:Int) (P 2:Int) (T 3:Int) (P 3:Int) (x:Int)) R:=fun x hx R h=>by
    refine Aa.step (fun K k=>?_) h
    rw [Ai.l10,if_pos (by omega)]; rfl
  have go:∀ x:Nat,x<4→Kq 4 (okB ts T P x)=true→∀ v,Aa (fun K k=>Ai.l10 K k ts (T 0:Int) (P 0:Int) (T 1:Int) (P 1:Int) (T 2:Int) (P 2:Int) (T 3:Int) (P 3:Int) ((x+1:Nat):Int)) v→Aa (fun K k=>Ai.l10 K k ts (T 0:Int) (P 0:Int) (T 1:Int) (P 1:Int) (T 2:Int) (P 2:Int) (T 3:Int) (P 3:Int) (x:Int)) v:=fun x hx hok v h=>by
    refine enter x hx v (Qi (l:=fun K k y=>Ai.l13 K k ts (T 0:Int) (P 0:Int) (T 1:Int) (P 1:Int) (T 2:Int) (P 2:Int) (T 3:Int) (P 3:Int) (x:Int) (y:Int)) (n:=4) (fun y hy hp w hw=>Uh hv hT hP hx hy (fun _=>hw) (fun e=>by rw [hp] at e; cases e)) hok ?_)
    refine Aa.step (fun K k=>?_) h
    rw [Ai.l13,if_neg (by omega),Be (by omega)]
  cases hall:Kq 4 fun x=>Kq 4 (okB ts T P x) with
  | true =>
    refine Qi (l:=fun K k x=>Ai.l10 K k ts (T 0:Int) (P 0:Int) (T 1:Int) (P 1:Int) (T 2:Int) (P 2:Int) (T 3:Int) (P 3:Int) (x:Int)) (n:=4) go hall ?_
    exact Aa.of fun K k=>by rw [Ai.l10,if_neg (by omega)]
  | false =>
    refine Nu (l:=fun K k x=>Ai.l10 K k ts (T 0:Int) (P 0:Int) (T 1:Int) (P 1:Int) (T 2:Int) (P 2:Int) (T 3:Int) (P 3:Int) (x:Int)) (n:=4) go (fun x hx hno=>?_) hall
    exact enter x hx _ (Nu (l:=fun K k y=>Ai.l13 K k ts (T 0:Int) (P 0:Int) (T 1:Int) (P 1:Int) (T 2:Int) (P 2:Int) (T 3:Int) (P 3:Int) (x:Int) (y:Int)) (n:=4) (fun y hy hp w hw=>Uh hv hT hP hx hy (fun _=>hw) (fun e=>by rw [hp] at e; cases e)) (fun y hy hn=>Uh hv hT hP hx hy (fun e=>by rw [hn] at e; cases e) (fun _=>rfl)) hno)
theorem bH {R:List Int × List (List Ab) × List Av × Bool} (hyes:(Kq 4 fun x=>Kq 4 (okB ts T P x))=true→Aa (fun K k=>Aq.l13 K k (l4 T) (l4 P) Js [] 0) R) (hno:(Kq 4 fun x=>Kq 4 (okB ts T P x))=false→R=([],[],[],false)):Aa (fun K k=>Aq.l8 K k ts (l4 T) (l4 P) 0) R:=by
  have enter:∀ x:Nat,x<4→∀ R,Aa (fun K k=>Aq.l12 K k ts (l4 T) (l4 P) (x:Int) ((0:Nat):Int)) R→Aa (fun K k=>Aq.l8 K k ts (l4 T) (l4 P) (x:Int)) R:=fun x hx R h=>by
    refine Aa.step (fun K k=>?_) h
    rw [Aq.l8,if_pos (by omega)]; rfl
  have go:∀ x:Nat,x<4→Kq 4 (okB ts T P x)=true→∀ v,Aa (fun K k=>Aq.l8 K k ts (l4 T) (l4 P) ((x+1:Nat):Int)) v→Aa (fun K k=>Aq.l8 K k ts (l4 T) (l4 P) (x:Int)) v:=fun x hx hok v h=>by
    refine enter x hx v (Qi (l:=fun K k y=>Aq.l12 K k ts (l4 T) (l4 P) (x:Int) (y:Int)) (n:=4) (fun y hy hp w hw=>Ug hv hT hP hx hy (fun _=>hw) (fun e=>by rw [hp] at e; cases e)) hok ?_)
    refine Aa.step (fun K k=>?_) h
    rw [Aq.l12,if_neg (by omega),Be (by omega)]
  cases hall:Kq 4 fun x=>Kq 4 (okB ts T P x) with
  | true =>
    refine Qi (l:=fun K k x=>Aq.l8 K k ts (l4 T) (l4 P) (x:Int)) (n:=4) go hall ?_
    refine Aa.step (fun K k=>?_) (hyes hall)
    rw [Aq.l8,if_neg (by omega)]; rfl
  | false =>
    rw [hno hall]
    refine Nu (l:=fun K k x=>Aq.l8 K k ts (l4 T) (l4 P) (x:Int)) (n:=4) go (fun x hx hn=>?_) hall
    exact enter x hx _ (Nu (l:=fun K k y=>Aq.l12 K k ts (l4 T) (l4 P) (x:Int) (y:Int)) (n:=4) (fun y hy hp w hw=>Ug hv hT hP hx hy (fun _=>hw) (fun e=>by rw [hp] at e; cases e)) (fun y hy hn=>Ug hv hT hP hx hy (fun e=>by rw [hn] at e; cases e) (fun _=>rfl)) hn)
def o41 (T P:Nat→Nat) (x:Nat):Av:=⟨(T x:Int),(PA (PI (P x)) x:Nat),0,(P x:Int)⟩
def O41 (T P:Nat→Nat):List Av:=[o41 T P 0,o41 T P 1,o41 T P 2,o41 T P 3]
omit hv hT in
theorem Ry {x:Nat} (hx:x<4) {old:List Int} (ho:old.length≤10) {m:List (Gq × Eg)} {R:Option (List Int × List (Gq × Eg) × Int × List Gi)}
    (h:Aa (fun K k=>Bz.l1 K k (T 0:Int) (P 0:Int) (T 1:Int) (P 1:Int) (T 2:Int) (P 2:Int) (T 3:Int) (P 3:Int) 1 [] (old++[(T x:Int)]) (J4 m (o41 T P x)) ((x+1:Nat):Int)) R):Aa (fun K k=>Bz.l1 K k (T 0:Int) (P 0:Int) (T 1:Int) (P 1:Int) (T 2:Int) (P 2:Int) (T 3:Int) (P 3:Int) 1 [] old m (x:Int)) R:=by
  have hPx:=hP x hx
  have gT:=fun k (h:k<4)=>M6 (f:=T) h
  have gP:=fun k (h:k<4)=>M6 (f:=P) h
  have gA:=M6 (f:=PA (PI (P x))) hx
  refine Aa.succ ?_
  simp only [Bz.l1,Int.toNat_natCast,gT x hx,gP x hx]
  refine Aa.pos (by omega) (Aa.pos (by omega) (Aa.pos (by omega) ?_))
  refine Aa.bind (Mj hPx).two ?_
  refine Aa.D7 (Kz (Im hPx)).two ?_
  refine Aa.D7 (Kz hPx).two ?_
  simp only [gA]
  refine Aa.bind (a:=J4 m (o41 T P x)) ?_ ?_
  · have:=(Qq hPx).two
    exact Aa.bind this (Aa.const _)
  · rw [Be (by omega)]; exact h
omit hv hT in
theorem Sb {x:Nat} (hx:x<4) {m:List Av} (hm:m.length≤10) {R:List Int × List (List Ab) × List Av × Bool}
    (h:Aa (fun K k=>Aq.l13 K k (l4 T) (l4 P) Js (m++[o41 T P x]) ((x+1:Nat):Int)) R):Aa (fun K k=>Aq.l13 K k (l4 T) (l4 P) Js m (x:Int)) R:=by
  have hPx:=hP x hx
  have lT:(l4 T).length=4:=rfl
  have lP:(l4 P).length=4:=rfl
  have gT:∀ k,k<4→(l4 T).getD k 0=(T k:Int):=fun k (h:k<4)=>M6 (f:=T) h
  have gP:∀ k,k<4→(l4 P).getD k 0=(P k:Int):=fun k (h:k<4)=>M6 (f:=P) h
  refine Aa.succ ?_
  simp only [Aq.l13,Int.toNat_natCast,gT x hx,gP x hx]
  refine Aa.pos (by omega) (Aa.pos (by omega) (Aa.pos (by omega) ?_))
  refine Aa.bind (Py hPx).two ?_
  refine Aa.bind (Mr (Im hPx) hx).two ?_
  refine Aa.pos (by omega) ?_
  rw [Be (by omega)]; exact h
omit hv hT in
theorem eD:Ac (fun K=>Bz.l1 K K (T 0:Int) (P 0:Int) (T 1:Int) (P 1:Int) (T 2:Int) (P 2:Int) (T 3:Int) (P 3:Int) 1 [] [] [] 0) (some (l4 T,(O41 T P).foldl J4 [],1,[])):=by
  refine Aa.Hg (F:=fun K k=>Bz.l1 K k (T 0:Int) (P 0:Int) (T 1:Int) (P 1:Int) (T 2:Int) (P 2:Int) (T 3:Int) (P 3:Int) 1 [] [] [] ((0:Nat):Int)) ?_
  refine Ry hP (by omega) (by simp) (Ry hP (by omega) (by simp) (Ry hP (by omega) (by simp) (Ry hP (by omega) (by simp) ?_)))
  exact Aa.of fun K k=>by rw [Bz.l1,if_neg (by decide)]; rfl
omit hv hT in
theorem iW:Aa (fun K k=>Aq.l13 K k (l4 T) (l4 P) Js [] 0) (l4 T,[Js],O41 T P,true):=by
  refine Sb (x:=0) hP (by omega) (by simp) (Sb hP (by omega) (by simp) (Sb hP (by omega) (by simp) (Sb hP (by omega) (by simp) ?_)))
  exact Aa.of fun K k=>by rw [Aq.l13,if_neg (by decide)]; rfl
end
theorem Ac.Ru {α1 α2 α3 α4 α5 α6 α7 α8 α9 β:Type} {F:Nat→Option (α1 × α2 × α3 × α4 × α5 × α6 × α7 × α8 × α9)} {G:Nat→α1→α2→α3→α4→α5→α6→α7→α8→α9→Option β} {a1:α1} {a2:α2} {a3:α3} {a4:α4} {a5:α5} {a6:α6} {a7:α7} {a8:α8} {a9:α9} {r:β} (h:Ac F (a1,a2,a3,a4,a5,a6,a7,a8,a9)) (g:Ac (fun K=>G K a1 a2 a3 a4 a5 a6 a7 a8 a9) r):Ac (fun K=>Go.Proofs.YtbjfinndngafoaaGreat.Ru (F K) (G K)) r:=by
  obtain ⟨n,hn⟩:=h
  obtain ⟨m,hm⟩:=g
  exact ⟨n+m,fun K hK=>by show Go.Proofs.YtbjfinndngafoaaGreat.Ru (F K) (G K)=some r; rw [hn K (by omega)]; exact hm K (by omega)⟩
section
variable {ts:List (List Ab)} (hv:Val ts)
include hv
theorem wU {a A:Nat} (ha:a<ts.length) (hA:A<4):(¬ Jv ts a A∧(∃ o1 o2 o3 o4 o5 o6 o7 o8,Ac (fun K=>Ai.f K ts (a:Int) (A:Int)) (o1,o2,o3,o4,o5,o6,o7,o8,false))∧Ac (fun K=>Aq.f K ts (a:Int) (A:Int)) ([],[],[],false)) ∨
    (Jv ts a A∧(∀ R,Aa (fun K k=>Ai.l10 K k ts (stT ts a A 0:Int) (stP ts a A 0:Int) (stT ts a A 1:Int) (stP ts a A 1:Int) (stT ts a A 2:Int) (stP ts a A 2:Int) (stT ts a A 3:Int) (stP ts a A 3:Int) 0) R→Ac (fun K=>Ai.f K ts (a:Int) (A:Int)) R) ∧
      (∀ R,Aa (fun K k=>Aq.l8 K k ts (l4 (stT ts a A)) (l4 (stP ts a A)) 0) R→Ac (fun K=>Aq.f K ts (a:Int) (A:Int)) R)):=by
  rcases (by omega:A=0∨A=1∨A=2∨A=3) with rfl | rfl | rfl | rfl
  · exact jZ hv ha
  · exact mP hv ha
  · exact lN hv ha
  · exact lM hv ha
theorem Xw {a A:Nat} (ha:a<ts.length) (hA:A<4) (hR:Jv ts a A):(∀ x,x<4→stT ts a A x<ts.length)∧∀ x,x<4→stP ts a A x<24:=by
  constructor
  · intro x hx
    by_cases h:x=A
    · rw [h,(Qw ts a A).1]; exact ha
    · obtain ⟨b,q,hb,hq,hf⟩:=hR x hx h
      rw [(K6 h hf).1]; exact hb
  · intro x hx
    by_cases h:x=A
    · rw [h,(Qw ts a A).2]; omega
    · obtain ⟨b,q,hb,hq,hf⟩:=hR x hx h
      rw [(K6 h hf).2]; exact Mv (Im hq) (aH hA hx (fun e=>h e.symm))
theorem oL {a A:Nat} (ha:a<ts.length) (hA:A<4) :
    (Ac (fun K=>Bz.f K ts (a:Int) (A:Int)) none∧Ac (fun K=>Aq.f K ts (a:Int) (A:Int)) ([],[],[],false)) ∨
    (Jv ts a A∧(Kq 4 fun x=>Kq 4 (okB ts (stT ts a A) (stP ts a A) x))=true∧Ac (fun K=>Bz.f K ts (a:Int) (A:Int)) (some (l4 (stT ts a A),(O41 (stT ts a A) (stP ts a A)).foldl J4 [],1,[])) ∧
      Ac (fun K=>Aq.f K ts (a:Int) (A:Int)) (l4 (stT ts a A),[Js],O41 (stT ts a A) (stP ts a A),true)):=by
  rcases wU hv ha hA with ⟨_,⟨o1,o2,o3,o4,o5,o6,o7,o8,h1⟩,h2⟩ | ⟨hR,h1,h2⟩
  · exact .inl ⟨Ac.Ru h1 (Ac.neg (by decide) (Ac.const _)),h2⟩
  · obtain ⟨hT,hP⟩:=Xw hv ha hA hR
    have hi:=h1 _ (kC hv hT hP)
    cases hall:Kq 4 fun x=>Kq 4 (okB ts (stT ts a A) (stP ts a A) x) with
    | false =>
      rw [hall] at hi
      exact .inl ⟨Ac.Ru hi (Ac.neg (by decide) (Ac.const _)),h2 _ (bH hv hT hP (fun h=>by rw [hall] at h; cases h) (fun _=>rfl))⟩
    | true =>
      rw [hall] at hi
      refine .inr ⟨hR,rfl,Ac.Ru hi (Ac.pos rfl (Ac.D7 (a:=[]) (b:=[]) (c:=1) (d:=[]) (Ac.const _) (eD hP))),h2 _ (bH hv hT hP (fun _=>iW hP) (fun h=>by rw [hall] at h; cases h))⟩
end
def Fits (r:Option (List Int × List (Gq × Eg) × Int × List Gi)) (pl:List Int × List (List Ab) × List Av × Bool):Prop :=
  (r=none∧pl=([],[],[],false))∨∃ old news fresh outer inner,r=some (old,outer.foldl J4 [],news,inner)∧pl=(old,fresh,outer,true)∧news=(fresh.length:Int)∧old.length≤4∧fresh.length≤4
def most (kind:Int):Int:=if kind=1∨kind=4 then 4 else if kind=2 then 6 else if kind=3 then 1 else 0
theorem Uu (kind:Int):Ac (fun K=>F6.f K kind) (most kind):=by
  unfold most
  have j:∀ b:Bool,Ac (fun K=>F6.j1 K K kind b) (if b=true then 4 else if kind=2 then 6 else if kind=3 then 1 else 0):=fun b=>by
    refine Aa.Hg (F:=fun K k=>F6.j1 K k kind b) (Aa.of fun K k=>?_)
    rw [F6.j1]
    (repeat' split) <;> rfl
  by_cases h1:kind=1
  · rw [if_pos (.inl h1)]
    exact Ac.pos h1 (by have:=j (decide (kind=1)); rw [decide_eq_true h1] at this ⊢; exact this)
  · refine Ac.neg h1 ?_
    by_cases h4:kind=4
    · rw [if_pos (.inr h4)]
      have:=j (decide (kind=4)); rw [decide_eq_true h4] at this ⊢; exact this
    · rw [if_neg (fun h=>h.elim h1 h4)]
      have:=j (decide (kind=4)); rw [decide_eq_false h4] at this ⊢; exact this
theorem Ui (kind:Int):Ac (fun K=>E9.f K kind) (most kind - 1):=by
  unfold most
  have j:∀ b:Bool,Ac (fun K=>E9.j1 K K kind b) ((if b=true then 4 else if kind=2 then 6 else if kind=3 then 1 else 0) - 1):=fun b=>by
    refine Aa.Hg (F:=fun K k=>E9.j1 K k kind b) (Aa.of fun K k=>?_)
    rw [E9.j1]
    (repeat' split) <;> rfl
  by_cases h1:kind=1
  · rw [if_pos (.inl h1)]
    exact Ac.pos h1 (by have:=j (decide (kind=1)); rw [decide_eq_true h1] at this ⊢; exact this)
  · refine Ac.neg h1 ?_
    by_cases h4:kind=4
    · rw [if_pos (.inr h4)]
      have:=j (decide (kind=4)); rw [decide_eq_true h4] at this ⊢; exact this
    · rw [if_neg (fun h=>h.elim h1 h4)]
      have:=j (decide (kind=4)); rw [decide_eq_false h4] at this ⊢; exact this
section
variable {ts:List (List Ab)} (hv:Val ts) (hT:Ac (fun K=>Aj.f K ts) true)
include hv hT
theorem iR {kind:Int} {a A:Nat} (ha:a<ts.length) (hA:(A:Int)<most kind):∃ r pl,Fits r pl∧Ac (fun K=>Ee.f K ts kind (a:Int) (A:Int)) r∧Ac (fun K=>Ig.f K ts kind (a:Int) (A:Int)) pl:=by
  unfold most at hA
  by_cases h1:kind=1
  · rw [if_pos (.inl h1)] at hA
    rcases oZ hv ha (show A<4 by omega) with ⟨c1,c2⟩ | ⟨b,q,_,_,_,_,c1,c2⟩
    · exact ⟨_,_,.inl ⟨rfl,rfl⟩,Ac.pos h1 (Ac.bind c1 (Ac.const _)),Ac.pos h1 (Ac.D7 c2 (Ac.const _))⟩
    · exact ⟨_,_,.inr ⟨_,_,_,_,_,rfl,rfl,rfl,by simp,by decide⟩,Ac.pos h1 (Ac.bind c1 (Ac.const _)),Ac.pos h1 (Ac.D7 c2 (Ac.const _))⟩
  by_cases h4:kind=4
  · rw [if_pos (.inr h4)] at hA
    have h2:¬ kind=2:=by omega
    have h3:¬ kind=3:=by omega
    rcases oL hv ha (show A<4 by omega) with ⟨c1,c2⟩ | ⟨_,_,c1,c2⟩
    · exact ⟨_,_,.inl ⟨rfl,rfl⟩,Ac.neg h1 (Ac.neg h2 (Ac.neg h3 (Ac.bind c1 (Ac.const _)))),Ac.neg h1 (Ac.neg h2 (Ac.neg h3 (Ac.D7 c2 (Ac.const _))))⟩
    · exact ⟨_,_,.inr ⟨_,_,_,_,_,rfl,rfl,rfl,by simp [l4],by decide⟩,Ac.neg h1 (Ac.neg h2 (Ac.neg h3 (Ac.bind c1 (Ac.const _)))),Ac.neg h1 (Ac.neg h2 (Ac.neg h3 (Ac.D7 c2 (Ac.const _))))⟩
  rw [if_neg (fun h=>h.elim h1 h4)] at hA
  by_cases h2:kind=2
  · rw [if_pos h2] at hA
    rcases pQ hv hT ha (show A<6 by omega) with ⟨c1,c2⟩ | ⟨_,_,_,_,_,_,_,_,_,_,_,_,c1,c2⟩
    · exact ⟨_,_,.inl ⟨rfl,rfl⟩,Ac.neg h1 (Ac.pos h2 (Ac.bind c1 (Ac.const _))),Ac.neg h1 (Ac.pos h2 (Ac.D7 c2 (Ac.const _)))⟩
    · exact ⟨_,_,.inr ⟨_,_,_,_,_,rfl,rfl,rfl,by simp,by decide⟩,Ac.neg h1 (Ac.pos h2 (Ac.bind c1 (Ac.const _))),Ac.neg h1 (Ac.pos h2 (Ac.D7 c2 (Ac.const _)))⟩
  rw [if_neg h2] at hA
  by_cases h3:kind=3
  · exact ⟨_,_,.inr ⟨_,_,_,_,_,rfl,rfl,rfl,by simp,by decide⟩,Ac.neg h1 (Ac.neg h2 (Ac.pos h3 (Ac.D7 (qB (a:Int)) (Ac.const _)))),Ac.neg h1 (Ac.neg h2 (Ac.pos h3 (Ac.Jk (oC (a:Int)) (Ac.const _))))⟩
  · rw [if_neg h3] at hA; omega
end
theorem jF {ts:List (List Ab)} (hv:Val ts) (hT:Ac (fun K=>Aj.f K ts) true) (kind tet ix:Int):∃ (r:Option (List Int × List (Gq × Eg) × Int × List Gi)) (code:Int) (pl:List Int × List (List Ab) × List Av × Bool),
    Ac (fun K=>D5.f K ts kind tet ix) (r,code)∧Ac (fun K=>H6.f K ts kind tet ix) (pl.1,pl.2.1,pl.2.2.1,code) ∧
      (code=0→∃ c,r=some c∧Fits r (pl.1,pl.2.1,pl.2.2.1,true)∧∃ a A:Nat,tet=(a:Int)∧ix=(A:Int)∧a<ts.length∧(A:Int)<most kind∧Ac (fun K=>Ee.f K ts kind tet ix) r∧Ac (fun K=>Ig.f K ts kind tet ix) (pl.1,pl.2.1,pl.2.2.1,true)∧¬ 8<w64 ((w64 ((ts.length:Int) - (pl.1.length:Int)))+(pl.2.1.length:Int))):=by
  have h8:=hv.le
  have hm:0≤most kind∧most kind≤6:=by unfold most; (repeat' split) <;> omega
  have hw1:w64 ((ts.length:Int) - 1)=(ts.length:Int) - 1:=He (by omega) (by omega)
  have I:∀ r,Ac (fun K=>if decide (0≤tet∧tet≤(ts.length:Int) - 1)=true then (if decide (0≤ix∧ix≤most kind - 1)=true then ((Ee.f K ts kind tet ix).bind fun t32=>(gV t32 (some (none,5)) (fun x43=>if 8<w64 ((w64 ((ts.length:Int) - (x43.1.length:Int)))+x43.2.2.1) then (some (none,3)) else (some (some (x43.1,x43.2.1,x43.2.2.1,x43.2.2.2),0))))) else (some (none,2))) else (some (none,2))) r→Ac (fun K=>D5.f K ts kind tet ix) r:=fun r h=>by
    refine Ac.bind (Ac.congr (fun K=>R6 h8 hv.four tet) (Ac.const _)) ?_
    by_cases h1:0≤tet∧tet≤(ts.length:Int) - 1
    · rw [decide_eq_true h1] at h ⊢
      refine Ac.pos rfl (Ac.bind (Uu kind) ?_)
      rw [Wq,He (by omega) (by omega)]
      exact Ac.bind (Ac.const _) h
    · rw [decide_eq_false h1] at h ⊢
      exact Ac.neg (by decide) h
  have S:∀ r,Ac (fun K=>if most kind - 1<0 then (some (([]:List Int),([]:List (List Ab)),([]:List Av),(2:Int))) else (if decide (0≤tet∧tet≤(ts.length:Int) - 1)=true then (if decide (0≤ix∧ix≤most kind - 1)=true then (Go.Proofs.YtbjfinndngafoaaGreat.D7 (Ig.f K ts kind tet ix) (fun t58 t59 t60 t61=>(if t61=true then (if 8<w64 ((w64 ((ts.length:Int) - (t58.length:Int)))+(t59.length:Int)) then (some (([]:List Int),([]:List (List Ab)),([]:List Av),3)) else (some (t58,t59,t60,0))) else (some (([]:List Int),([]:List (List Ab)),([]:List Av),5))))) else (some (([]:List Int),([]:List (List Ab)),([]:List Av),2))) else (some (([]:List Int),([]:List (List Ab)),([]:List Av),2)))) r→Ac (fun K=>H6.f K ts kind tet ix) r:=fun r h=>by
    refine Ac.bind hT (Ac.pos rfl (Ac.bind (Ui kind) ?_))
    by_cases h0:most kind - 1<0
    · exact Ac.pos h0 (Ac.congr (fun K=>(if_pos h0).symm) h)
    · have h':=Ac.congr (fun K=>(if_neg h0).symm) h
      refine Ac.neg h0 (Ac.Nz (x:=(ts.length:Int)) rfl ?_)
      rw [Wu,hw1]
      refine Ac.bind (Ac.const _) ?_
      by_cases h1:0≤tet∧tet≤(ts.length:Int) - 1
      · rw [decide_eq_true h1] at h' ⊢
        refine Ac.pos rfl (Ac.bind (Ui kind) ?_)
        rw [Wu]
        exact Ac.bind (Ac.const _) h'
      · rw [decide_eq_false h1] at h' ⊢
        exact Ac.neg (by decide) h'
  by_cases h1:0≤tet∧tet≤(ts.length:Int) - 1
  rotate_left
  · refine ⟨none,2,([],[],[],false),I _ (Ac.neg (by rw [decide_eq_true_eq]; exact h1) (Ac.const _)),S _ ?_,fun h=>by omega⟩
    by_cases h0:most kind - 1<0
    · exact Ac.pos h0 (Ac.const _)
    · exact Ac.neg h0 (Ac.neg (by rw [decide_eq_true_eq]; exact h1) (Ac.const _))
  by_cases h2:0≤ix∧ix≤most kind - 1
  rotate_left
  · refine ⟨none,2,([],[],[],false),I _ (Ac.pos (decide_eq_true h1) (Ac.neg (by rw [decide_eq_true_eq]; exact h2) (Ac.const _))),S _ ?_,fun h=>by omega⟩
    by_cases h0:most kind - 1<0
    · exact Ac.pos h0 (Ac.const _)
    · exact Ac.neg h0 (Ac.pos (decide_eq_true h1) (Ac.neg (by rw [decide_eq_true_eq]; exact h2) (Ac.const _)))
  have h0:¬ most kind - 1<0:=by omega
  obtain ⟨a,rfl⟩:∃ a:Nat,tet=(a:Int):=⟨tet.toNat,by omega⟩
  obtain ⟨A,rfl⟩:∃ A:Nat,ix=(A:Int):=⟨ix.toNat,by omega⟩
  obtain ⟨r,pl,hF,ti,tsp⟩:=iR hv hT (kind:=kind) (show a<ts.length by omega) (show (A:Int)<most kind by omega)
  have I2:=fun {r'} h=>I r' (Ac.pos (decide_eq_true h1) (Ac.pos (decide_eq_true h2) (Ac.bind ti h)))
  rcases hF with ⟨rfl,rfl⟩ | ⟨old,news,fresh,outer,inner,rfl,rfl,rfl,l1,l2⟩
  · exact ⟨none,5,([],[],[],false),I2 (Ac.const _),S _ (Ac.neg h0 (Ac.pos (decide_eq_true h1) (Ac.pos (decide_eq_true h2) (Ac.D7 tsp (Ac.neg (by decide) (Ac.const _)))))),fun h=>by omega⟩
  · by_cases hb:8<w64 ((w64 ((ts.length:Int) - (old.length:Int)))+(fresh.length:Int))
    · exact ⟨none,3,([],[],[],false),I2 (Ac.pos hb (Ac.const _)),S _ (Ac.neg h0 (Ac.pos (decide_eq_true h1) (Ac.pos (decide_eq_true h2) (Ac.D7 tsp (Ac.pos rfl (Ac.pos hb (Ac.const _))))))),fun h=>by omega⟩
    · refine ⟨some (old,outer.foldl J4 [],(fresh.length:Int),inner),0,(old,fresh,outer,true),I2 (Ac.neg hb (Ac.const _)),S _ (Ac.neg h0 (Ac.pos (decide_eq_true h1) (Ac.pos (decide_eq_true h2) (Ac.D7 tsp (Ac.pos rfl (Ac.neg hb (Ac.const _))))))),fun _=>⟨_,rfl,.inr ⟨_,_,_,_,_,rfl,rfl,rfl,l1,l2⟩,a,A,rfl,rfl,by omega,by omega,ti,tsp,hb⟩⟩
end Go.Proofs.YtbjfinndngafoaaGreat
