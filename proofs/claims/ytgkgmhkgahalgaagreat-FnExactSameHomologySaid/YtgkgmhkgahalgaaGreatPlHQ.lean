/-
  The boundary matrices of edges, faces and tetrahedra in both packages.
  The boundary matrices of the reference.
  Homology at one dimension, in both packages.
  Marks of lists, in general: what marking leaves is found again.
  Marks of triangulations that nobody looks at again.
  Numbers are copied, equal to themselves and marked.
  All homology, sameness, Betti numbers; groups equal, marked, held.
-/
import Derived.Test.YtgkgmhkgahalgaaGreatPlHM
import Derived.Test.YtgkgmhkgahalgaaGreatPlHA
set_option linter.unusedVariables false
set_option linter.unusedSimpArgs false
set_option linter.unusedSectionVars false
namespace Go.Proofs.YtgkgmhkgahalgaaGreat
open Go.RowKit
theorem iW (i:Nat):(i:Int).tmod 4=((i % 4:Nat):Int):=by
  rw [Int.tmod_eq_emod_of_nonneg (by omega)]; omega
theorem oZ (i:Nat):(i:Int).tdiv 4=((i / 4:Nat):Int):=by
  rw [Int.tdiv_eq_ediv_of_nonneg (by omega)]; omega
def ee (f j:Nat):Nat:=EE (ov f (if j=0 then 1 else 0)) (ov f (if j=2 then 1 else 2))
def pw (j:Nat):Int:=if j % 2=1 then -1 else 1
theorem Oz (j:Nat):pw j=1∨pw j = -1:=by unfold pw; split <;> simp
theorem Pq {f j:Nat} (hf:f<4) (hj:j<3):ints (OT [f,ov f j])=[(ov f (if j=0 then 1 else 0):Int),(ov f (if j=2 then 1 else 2):Int)]∧ov f (if j=0 then 1 else 0)≠ov f (if j=2 then 1 else 2)∧ee f j<6∧f≠ov f j∧EE (ov f ((j+1) % 3)) (ov f ((j+2) % 3))=ee f j∧ov f ((j+1) % 3)≠ov f ((j+2) % 3):=by
  rcases (by omega:f=0∨f=1∨f=2∨f=3) with rfl | rfl | rfl | rfl <;> rcases (by omega:j=0∨j=1∨j=2) with rfl | rfl | rfl <;> decide
theorem oU {j:Nat} (hj:j<4):Ka.f (j:Int)=some (pw j):=by
  rcases (by omega:j=0∨j=1∨j=2∨j=3) with rfl | rfl | rfl | rfl <;> rfl
structure Cls (ts:List (List Bc)) (vs ys fs Sg:List Int):Prop where
  n8:ts.length≤8
  hS:Sg.length=6 * ts.length
  vl:∀ j,j<6 * ts.length→Sg.getD j 0=0∨Sg.getD j 0=1∨Sg.getD j 0 = -1
section
variable {ts:List (List Bc)} (hv:Val ts) {vs ys fs Sg:List Int} (h:Cls ts vs ys fs Sg)
noncomputable def opE (ts:List (List Bc)) (vs ys:List Int) (i:Nat):List (Nat × Nat × Int):=if Gh ys i=true then [(Cn (CN (4 * ts.length) vs) (4 * (i / 6)+EB (i % 6)),Cn (CN (6 * ts.length) ys) i,1),(Cn (CN (4 * ts.length) vs) (4 * (i / 6)+EA (i % 6)),Cn (CN (6 * ts.length) ys) i,-1)] else []
noncomputable def opF (ts:List (List Bc)) (ys fs Sg:List Int) (i:Nat):List (Nat × Nat × Int):=if Gh fs i=true then [(Cn (CN (6 * ts.length) ys) (6 * (i / 4)+ee (i % 4) 0),Cn (CN (4 * ts.length) fs) i,pw 0 * Sg.getD (6 * (i / 4)+ee (i % 4) 0) 0),(Cn (CN (6 * ts.length) ys) (6 * (i / 4)+ee (i % 4) 1),Cn (CN (4 * ts.length) fs) i,pw 1 * Sg.getD (6 * (i / 4)+ee (i % 4) 1) 0),(Cn (CN (6 * ts.length) ys) (6 * (i / 4)+ee (i % 4) 2),Cn (CN (4 * ts.length) fs) i,pw 2 * Sg.getD (6 * (i / 4)+ee (i % 4) 2) 0)] else []
noncomputable def opT (ts:List (List Bc)) (fs:List Int) (i:Nat):List (Nat × Nat × Int):=[(Cn (CN (4 * ts.length) fs) i,i / 4,pw (i % 4) * FSg ts i)]
noncomputable def matE (ts:List (List Bc)) (vs ys:List Int) (x:Nat):List Int:=M9 (Bg ys (6 * ts.length)) (List.replicate (Bg vs (4 * ts.length) * Bg ys (6 * ts.length)) 0) (cat (opE ts vs ys) x)
noncomputable def matF (ts:List (List Bc)) (ys fs Sg:List Int) (x:Nat):List Int:=M9 (Bg fs (4 * ts.length)) (List.replicate (Bg ys (6 * ts.length) * Bg fs (4 * ts.length)) 0) (cat (opF ts ys fs Sg) x)
noncomputable def matT (ts:List (List Bc)) (fs:List Int) (x:Nat):List Int:=M9 ts.length (List.replicate (Bg fs (4 * ts.length) * ts.length) 0) (cat (opT ts fs) x)
theorem O6 {a b:Int} (ha:a=1∨a = -1) (hb:b=0∨b=1∨b = -1) : -1≤a * b∧a * b≤1∧w64 (a * b)=a * b:=by
  rcases ha with rfl | rfl <;> rcases hb with rfl | rfl | rfl <;> decide
include h
theorem uO {i:Nat} (hi:i<6 * ts.length):WO (Bg vs (4 * ts.length)) (Bg ys (6 * ts.length)) (opE ts vs ys i):=fun o ho=>by
  unfold opE at ho
  have hE:=EAB (show i % 6<6 by omega)
  split at ho
  · simp only [List.mem_cons,List.not_mem_nil,or_false] at ho
    have h3:=(K5 (s:=ys) hi).2
    rcases ho with rfl | rfl
    · exact ⟨(K5 (by omega)).2,h3,(by decide:(-1:Int)≤1),(by decide:(1:Int)≤1)⟩
    · exact ⟨(K5 (by omega)).2,h3,(by decide:(-1:Int)≤-1),(by decide:(-1:Int)≤1)⟩
  · cases ho
theorem uH {i:Nat} (hi:i<4 * ts.length):WO (Bg ys (6 * ts.length)) (Bg fs (4 * ts.length)) (opF ts ys fs Sg i):=fun o ho=>by
  unfold opF at ho
  have hf:i % 4<4:=by omega
  have e0:=(Pq hf (show 0<3 by omega)).2.2.1
  have e1:=(Pq hf (show 1<3 by omega)).2.2.1
  have e2:=(Pq hf (show 2<3 by omega)).2.2.1
  split at ho
  · simp only [List.mem_cons,List.not_mem_nil,or_false] at ho
    have h3:=(K5 (s:=fs) hi).2
    rcases ho with rfl | rfl | rfl
    · have:=O6 (Oz 0) (h.vl (6 * (i / 4)+ee (i % 4) 0) (by omega))
      exact ⟨(K5 (by omega)).2,h3,this.1,this.2.1⟩
    · have:=O6 (Oz 1) (h.vl (6 * (i / 4)+ee (i % 4) 1) (by omega))
      exact ⟨(K5 (by omega)).2,h3,this.1,this.2.1⟩
    · have:=O6 (Oz 2) (h.vl (6 * (i / 4)+ee (i % 4) 2) (by omega))
      exact ⟨(K5 (by omega)).2,h3,this.1,this.2.1⟩
  · cases ho
theorem rY {i:Nat} (hi:i<4 * ts.length):WO (Bg fs (4 * ts.length)) ts.length (opT ts fs i):=fun o ho=>by
  unfold opT at ho
  rw [List.mem_singleton] at ho
  subst ho
  have:=O6 (Oz (i % 4)) (.inr (Yc ts i))
  exact ⟨(K5 hi).2,by show i / 4<ts.length; omega,this.1,this.2.1⟩
theorem Y6:Bg vs (4 * ts.length)≤32∧Bg ys (6 * ts.length)≤48∧Bg fs (4 * ts.length)≤32:=by
  have:=h.n8
  have:=K4 vs (4 * ts.length)
  have:=K4 ys (6 * ts.length)
  have:=K4 fs (4 * ts.length)
  omega
theorem Tp {x:Nat} (hx:x≤6 * ts.length):(matE ts vs ys x).length=Bg vs (4 * ts.length) * Bg ys (6 * ts.length)∧Bt 1000 (matE ts vs ys x):=by
  refine ⟨by unfold matE; rw [Pt,List.length_replicate],fun p=>?_⟩
  have:=Q9 (Tw (Bg vs (4 * ts.length) * Bg ys (6 * ts.length))) (Yg (F:=opE ts vs ys) (fun i hi=>uO h hi) x hx) p
  have hl:=Tq (F:=opE ts vs ys) (c:=2) (fun i=>by unfold opE; split <;> simp) x
  have:=h.n8
  unfold matE
  omega
theorem Tg {x:Nat} (hx:x≤4 * ts.length):(matF ts ys fs Sg x).length=Bg ys (6 * ts.length) * Bg fs (4 * ts.length)∧Bt 1000 (matF ts ys fs Sg x):=by
  refine ⟨by unfold matF; rw [Pt,List.length_replicate],fun p=>?_⟩
  have:=Q9 (Tw (Bg ys (6 * ts.length) * Bg fs (4 * ts.length))) (Yg (F:=opF ts ys fs Sg) (fun i hi=>uH h hi) x hx) p
  have hl:=Tq (F:=opF ts ys fs Sg) (c:=3) (fun i=>by unfold opF; split <;> simp) x
  have:=h.n8
  unfold matF
  omega
theorem Tj {x:Nat} (hx:x≤4 * ts.length):(matT ts fs x).length=Bg fs (4 * ts.length) * ts.length∧Bt 1000 (matT ts fs x):=by
  refine ⟨by unfold matT; rw [Pt,List.length_replicate],fun p=>?_⟩
  have:=Q9 (Tw (Bg fs (4 * ts.length) * ts.length)) (Yg (F:=opT ts fs) (fun i hi=>rY h hi) x hx) p
  have hl:=Tq (F:=opT ts fs) (c:=1) (fun i=>by unfold opT; simp) x
  have:=h.n8
  unfold matT
  omega
theorem nK (hV:Ab (fun K=>Dj.f K ts) (CN (4 * ts.length) vs)) (hE:Ab (fun K=>Bw.f K ts) (CN (6 * ts.length) ys)) :
    Ab (fun K=>Bu.f K ts) ((Bg vs (4 * ts.length):Int),(Bg ys (6 * ts.length):Int),matE ts vs ys (6 * ts.length)):=by
  have h8:=h.n8
  obtain ⟨b0,b1,b2⟩:=Y6 h
  have lV:=Lu (4 * ts.length) vs
  have lE:=Lu (6 * ts.length) ys
  have main:∀ d c x,Bg ys (6 * ts.length) - c=d→c≤Bg ys (6 * ts.length)→x≤6 * ts.length→Bg ys x=c→Aa (fun K k=>Bu.l1 K k (CN (4 * ts.length) vs) (CN (6 * ts.length) ys) (Bg vs (4 * ts.length):Int) (Bg ys (6 * ts.length):Int) (matE ts vs ys x) (c:Int)) ((Bg vs (4 * ts.length):Int),(Bg ys (6 * ts.length):Int),matE ts vs ys (6 * ts.length)):=by
    intro d
    induction d with
    | zero =>
      intro c x hd hc hx hcx
      have e:matE ts vs ys x=matE ts vs ys (6 * ts.length):=by
        unfold matE
        rw [Qz hx (fun j h1 h2=>by
          unfold opE
          rw [if_neg]
          intro hf
          have:=Lr hf h2
          have:=Kw ys h1
          omega)]
      refine Aa.of fun K k=>?_
      rw [Bu.l1,if_neg (by omega),e]
    | succ d ih =>
      intro c x hd hc hx hcx
      obtain ⟨i,i1,i2,i3,i4,i5,i6,i7⟩:=Un hx hcx (by omega)
      have eM:matE ts vs ys x=matE ts vs ys i:=by
        unfold matE
        rw [Qz i1 (fun j h1 h2=>by unfold opE; rw [i7 j h1 h2,if_neg (by decide)])]
      rw [eM]
      obtain ⟨l1,l2⟩:=Tp h (x:=i) (by omega)
      obtain ⟨q1,q2,q3⟩:=EAB (show i % 6<6 by omega)
      have hw:w64 ((i:Int).tdiv 6)=((i / 6:Nat):Int):=by rw [gV,F3 (by omega) (by omega)]
      have hB:w64 (w64 (4 * w64 ((i:Int).tdiv 6))+(EB (i % 6):Int))=((4 * (i / 6)+EB (i % 6):Nat):Int):=by rw [hw]; exact w6 (c:=4) (by decide) (by omega) (by omega)
      have hA:w64 (w64 (4 * w64 ((i:Int).tdiv 6))+(EA (i % 6):Int))=((4 * (i / 6)+EA (i % 6):Nat):Int):=by rw [hw]; exact w6 (c:=4) (by decide) (by omega) (by omega)
      obtain ⟨gB,gB'⟩:=K5 (s:=vs) (show 4 * (i / 6)+EB (i % 6)<4 * ts.length by omega)
      obtain ⟨gA,gA'⟩:=K5 (s:=vs) (show 4 * (i / 6)+EA (i % 6)<4 * ts.length by omega)
      have eo:matE ts vs ys (i+1)=Ot (Bg ys (6 * ts.length)) (Ot (Bg ys (6 * ts.length)) (matE ts vs ys i) (Cn (CN (4 * ts.length) vs) (4 * (i / 6)+EB (i % 6)),c,1)) (Cn (CN (4 * ts.length) vs) (4 * (i / 6)+EA (i % 6)),c,-1):=by
        unfold matE
        rw [cat,Le]
        conv=>lhs; rw [opE,if_pos i3,i5]
        rfl
      have nx:=ih (c+1) (i+1) (by omega) (by omega) (by omega) (by rw [Kt,i3,i4]; rfl)
      rw [eo] at nx
      have l3:=Ra (n:=Bg ys (6 * ts.length)) (o:=(Cn (CN (4 * ts.length) vs) (4 * (i / 6)+EB (i % 6)),c,1)) l2 (by show (-1:Int)≤1; decide) (by show (1:Int)≤1; decide)
      unfold Ot at l3
      refine Aa.succ ?_
      simp only [Bu.l1]
      refine Aa.pos (by omega) (Aa.bind (Yp (j0:=i) (by omega) (by omega) (by rw [(K5 i2).1,i5]) i6).two ?_)
      refine Aa.Dy (a:=(EA (i % 6):Int)) (b:=(EB (i % 6):Int)) (by rw [kW]; exact (Xg (by omega)).two) ?_
      rw [hB,hA]
      refine Aa.pos (by omega) ?_
      rw [Int.toNat_natCast,gB]
      refine Aa.congr (fun K k=>dV l1 l1 gB' (show c<Bg ys (6 * ts.length) by omega) (by omega) (by omega)) (Aa.pos (by omega) ?_)
      rw [Int.toNat_natCast,Int.toNat_natCast,gA,Wx l2 (by omega) _ (by omega) (by omega)]
      refine Aa.congr (fun K k=>dV (M:=(matE ts vs ys i).set _ _) (by rw [List.length_set]; exact l1) (by rw [List.length_set]; exact l1) gA' (show c<Bg ys (6 * ts.length) by omega) (by omega) (by omega)) ?_
      rw [Int.toNat_natCast,Ar (by omega),show ∀ z:Int,z - 1=z + -1 from fun _=>rfl,Wx l3 (by omega) _ (by omega) (by omega)]
      exact nx
  have hz:=Pg (m:=Bg vs (4 * ts.length)) (n:=Bg ys (6 * ts.length)) (by omega) (by omega)
  unfold Bu.f
  refine hV.bind (hE.bind (Ab.bind (Ml (by omega)) (Ab.bind (Ml (by omega)) (Ab.E9 (Ab.congr (fun K=>hz) (Ab.const _)) ?_))))
  exact (main _ 0 0 rfl (by omega) (by omega) rfl).Gz
theorem mQ (hE:Ab (fun K=>Bw.f K ts) (CN (6 * ts.length) ys)) (hF:Ab (fun K=>Cv.f K ts) (CN (4 * ts.length) fs)) (hG:Ab (fun K=>Aj.f K ts) Sg) :
    Ab (fun K=>Aq.f K ts) ((Bg ys (6 * ts.length):Int),(Bg fs (4 * ts.length):Int),matF ts ys fs Sg (4 * ts.length)):=by
  have h8:=h.n8
  obtain ⟨b0,b1,b2⟩:=Y6 h
  have lF:=Lu (4 * ts.length) fs
  have lE:=Lu (6 * ts.length) ys
  have hS:=h.hS
  have inner:∀ (i c:Nat) (R:Int × Int × List Int),i<4 * ts.length→c<Bg fs (4 * ts.length)→∀ (d j:Nat) (M:List Int),3 - j=d→j≤3→M.length=Bg ys (6 * ts.length) * Bg fs (4 * ts.length)→Bt (1000+j) M →
      Aa (fun K k=>Aq.l1 K k (CN (6 * ts.length) ys) (CN (4 * ts.length) fs) Sg (Bg ys (6 * ts.length):Int) (Bg fs (4 * ts.length):Int) (M9 (Bg fs (4 * ts.length)) M (([0,1,2].drop j).map fun j=>(Cn (CN (6 * ts.length) ys) (6 * (i / 4)+ee (i % 4) j),c,pw j * Sg.getD (6 * (i / 4)+ee (i % 4) j) 0))) ((c+1:Nat):Int)) R →
      Aa (fun K k=>Aq.l4 K k (CN (6 * ts.length) ys) (CN (4 * ts.length) fs) Sg (Bg ys (6 * ts.length):Int) (Bg fs (4 * ts.length):Int) (c:Int) (i:Int) [(ov (i % 4) 0:Int),(ov (i % 4) 1:Int),(ov (i % 4) 2:Int)] M (j:Int)) R:=by
    intro i c R hi hc d
    have hf:i % 4<4:=by omega
    have hlen:(([(ov (i % 4) 0:Int),(ov (i % 4) 1:Int),(ov (i % 4) 2:Int)]:List Int).length:Int)=3:=rfl
    have hw:w64 ((i:Int).tdiv 4)=((i / 4:Nat):Int):=by rw [oZ,F3 (by omega) (by omega)]
    induction d with
    | zero =>
      intro j M hd hj hl hb hR
      obtain rfl:j=3:=by omega
      refine Aa.step (fun K k=>?_) hR
      rw [Aq.l4,hlen,if_neg (by omega),Ar (by omega)]
      rfl
    | succ d ih =>
      intro j M hd hj hl hb hR
      have hj3:j<3:=by omega
      obtain ⟨f1,f2,f3,f4,_,_⟩:=Pq hf hj3
      have ho:=U6 hf hj3
      have o1:ov (i % 4) (if j=0 then 1 else 0)<4:=U6 hf (by split <;> omega)
      have o2:ov (i % 4) (if j=2 then 1 else 2)<4:=U6 hf (by split <;> omega)
      have hd':([(ov (i % 4) 0:Int),(ov (i % 4) 1:Int),(ov (i % 4) 2:Int)]:List Int).getD j 0=(ov (i % 4) j:Int):=by rcases (by omega:j=0∨j=1∨j=2) with rfl | rfl | rfl <;> rfl
      have hi6:w64 (w64 (6 * w64 ((i:Int).tdiv 4))+(ee (i % 4) j:Int))=((6 * (i / 4)+ee (i % 4) j:Nat):Int):=by rw [hw]; exact w6 (c:=6) (by decide) (by omega) (by omega)
      obtain ⟨gB,gB'⟩:=K5 (s:=ys) (show 6 * (i / 4)+ee (i % 4) j<6 * ts.length by omega)
      obtain ⟨p1,p2,p3⟩:=O6 (Oz j) (h.vl (6 * (i / 4)+ee (i % 4) j) (by omega))
      have edr:([0,1,2].drop j:List Nat)=j::[0,1,2].drop (j+1):=by rcases (by omega:j=0∨j=1∨j=2) with rfl | rfl | rfl <;> rfl
      rw [edr] at hR
      have nx:=ih (j+1) (Ot (Bg fs (4 * ts.length)) M (Cn (CN (6 * ts.length) ys) (6 * (i / 4)+ee (i % 4) j),c,pw j * Sg.getD (6 * (i / 4)+ee (i % 4) j) 0)) (by omega) (by omega) (by unfold Ot; rw [List.length_set]; exact hl) (Ra hb p1 p2) hR
      have hothers:Ab (fun K=>Gm.f K [((i:Int).tmod 4),(ov (i % 4) j:Int)]) [(ov (i % 4) (if j=0 then 1 else 0):Int),(ov (i % 4) (if j=2 then 1 else 2):Int)]:=by
        rw [iW,← f1]; exact Wi hf ho f4
      have hedge:Ab (fun K=>Hf.f K (ov (i % 4) (if j=0 then 1 else 0):Int) (ov (i % 4) (if j=2 then 1 else 2):Int)) (ee (i % 4) j:Int):=aM o1 o2 f2
      refine Aa.succ ?_
      simp only [Aq.l4,hlen]
      refine Aa.pos (by omega) (Aa.pos ⟨by omega,by omega⟩ ?_)
      rw [Int.toNat_natCast,hd']
      refine Aa.bind hothers.two (Aa.pos (by simp only [List.length_cons,List.length_nil]; omega) (Aa.pos (by simp only [List.length_cons,List.length_nil]; omega) (Aa.bind hedge.two ?_)))
      rw [hi6]
      refine Aa.pos (by omega) ?_
      rw [Int.toNat_natCast,gB]
      refine Aa.congr (fun K k=>dV hl hl gB' hc (by omega) (by omega)) (Aa.Iq (oU (by omega)) (Aa.pos (by omega) ?_))
      rw [Int.toNat_natCast,p3,Wx hb (by omega) _ p1 p2,Ar (by omega)]
      exact nx
  have main:∀ d c x,Bg fs (4 * ts.length) - c=d→c≤Bg fs (4 * ts.length)→x≤4 * ts.length→Bg fs x=c→Aa (fun K k=>Aq.l1 K k (CN (6 * ts.length) ys) (CN (4 * ts.length) fs) Sg (Bg ys (6 * ts.length):Int) (Bg fs (4 * ts.length):Int) (matF ts ys fs Sg x) (c:Int)) ((Bg ys (6 * ts.length):Int),(Bg fs (4 * ts.length):Int),matF ts ys fs Sg (4 * ts.length)):=by
    intro d
    induction d with
    | zero =>
      intro c x hd hc hx hcx
      have e:matF ts ys fs Sg x=matF ts ys fs Sg (4 * ts.length):=by
        unfold matF
        rw [Qz hx (fun j h1 h2=>by
          unfold opF
          rw [if_neg]
          intro hf
          have:=Lr hf h2
          have:=Kw fs h1
          omega)]
      refine Aa.of fun K k=>?_
      rw [Aq.l1,if_neg (by omega),e]
    | succ d ih =>
      intro c x hd hc hx hcx
      obtain ⟨i,i1,i2,i3,i4,i5,i6,i7⟩:=Un hx hcx (by omega)
      have eM:matF ts ys fs Sg x=matF ts ys fs Sg i:=by
        unfold matF
        rw [Qz i1 (fun j h1 h2=>by unfold opF; rw [i7 j h1 h2,if_neg (by decide)])]
      rw [eM]
      obtain ⟨l1,l2⟩:=Tg h (x:=i) (by omega)
      have eo:matF ts ys fs Sg (i+1)=M9 (Bg fs (4 * ts.length)) (matF ts ys fs Sg i) (([0,1,2].drop 0).map fun j=>(Cn (CN (6 * ts.length) ys) (6 * (i / 4)+ee (i % 4) j),c,pw j * Sg.getD (6 * (i / 4)+ee (i % 4) j) 0)):=by
        unfold matF
        rw [cat,Le]
        conv=>lhs; rw [opF,if_pos i3,i5]
        rfl
      have nx:=ih (c+1) (i+1) (by omega) (by omega) (by omega) (by rw [Kt,i3,i4]; rfl)
      rw [eo] at nx
      have hothers:Ab (fun K=>Gm.f K [((i:Int).tmod 4)]) [(ov (i % 4) 0:Int),(ov (i % 4) 1:Int),(ov (i % 4) 2:Int)]:=by
        rw [iW,← oJ (by omega)]; exact Rn (by omega)
      refine Aa.succ ?_
      simp only [Aq.l1]
      refine Aa.pos (by omega) (Aa.bind (Yp (j0:=i) (by omega) (by omega) (by rw [(K5 i2).1,i5]) i6).two (Aa.bind hothers.two ?_))
      exact inner i c _ i2 (by omega) 3 0 _ (by omega) (by omega) l1 l2 nx
  have hz:=Pg (m:=Bg ys (6 * ts.length)) (n:=Bg fs (4 * ts.length)) (by omega) (by omega)
  unfold Aq.f
  refine hE.bind (hF.bind (hG.bind (Ab.bind (Ml (by omega)) (Ab.bind (Ml (by omega)) (Ab.E9 (Ab.congr (fun K=>hz) (Ab.const _)) ?_)))))
  exact (main _ 0 0 rfl (by omega) (by omega) rfl).Gz
theorem qJ (hF:Ab (fun K=>Cv.f K ts) (CN (4 * ts.length) fs)) (hG:Ab (fun K=>D9.f K ts) (FL ts)) :
    Ab (fun K=>Bv.f K ts) ((Bg fs (4 * ts.length):Int),(ts.length:Int),matT ts fs (4 * ts.length)):=by
  have h8:=h.n8
  obtain ⟨b0,b1,b2⟩:=Y6 h
  have lF:=Lu (4 * ts.length) fs
  have lG:=aY ts
  have main:∀ d x,4 * ts.length - x=d→x≤4 * ts.length→Aa (fun K k=>Bv.l1 K k (CN (4 * ts.length) fs) (FL ts) (Bg fs (4 * ts.length):Int) (ts.length:Int) (matT ts fs x) (x:Int)) ((Bg fs (4 * ts.length):Int),(ts.length:Int),matT ts fs (4 * ts.length)):=by
    intro d
    induction d with
    | zero =>
      intro x hd hx
      obtain rfl:x=4 * ts.length:=by omega
      refine Aa.of fun K k=>?_
      rw [Bv.l1,if_neg (by omega)]
    | succ d ih =>
      intro x hd hx
      have hx4:x<4 * ts.length:=by omega
      obtain ⟨l1,l2⟩:=Tj h (x:=x) hx
      obtain ⟨gB,gB'⟩:=K5 (s:=fs) hx4
      have hw:w64 ((x:Int).tdiv 4)=((x / 4:Nat):Int):=by rw [oZ,F3 (by omega) (by omega)]
      obtain ⟨p1,p2,p3⟩:=O6 (Oz (x % 4)) (.inr (Yc ts x))
      have eo:matT ts fs (x+1)=Ot ts.length (matT ts fs x) (Cn (CN (4 * ts.length) fs) x,x / 4,pw (x % 4) * FSg ts x):=by
        unfold matT
        rw [cat,Le]
        rfl
      have nx:=ih (x+1) (by omega) (by omega)
      rw [eo] at nx
      refine Aa.succ ?_
      simp only [Bv.l1]
      refine Aa.pos (by omega) (Aa.pos (by omega) ?_)
      rw [Int.toNat_natCast,gB,hw]
      refine Aa.congr (fun K k=>dV l1 l1 gB' (show x / 4<ts.length by omega) (by omega) (by omega)) ?_
      rw [iW]
      refine Aa.Iq (oU (by omega)) (Aa.pos (by omega) ?_)
      rw [Int.toNat_natCast,Xp hx4,p3,Wx l2 (by omega) _ p1 p2,Ar (by omega)]
      exact nx
  have hz:=Pg (m:=Bg fs (4 * ts.length)) (n:=ts.length) (by omega) (by omega)
  unfold Bv.f
  refine hF.bind (hG.bind (Ab.bind (Ml (by omega)) (Ab.bind (a:=(ts.length:Int)) (Ab.const _) (Ab.E9 (Ab.congr (fun K=>hz) (Ab.const _)) ?_))))
  exact (main _ 0 rfl (by omega)).Gz
end
theorem N7 {n:Nat} {M:List Int} {o:Nat × Nat × Int}:(Ot n M o).length=M.length:=by unfold Ot; rw [List.length_set]
theorem wD {f j:Nat} (hf:f<4) (hj:j<3):([(ov f 0:Int),(ov f 1:Int),(ov f 2:Int)]:List Int).getD j 0=(ov f j:Int):=by
  rcases (by omega:j=0∨j=1∨j=2) with rfl | rfl | rfl <;> rfl
theorem tm3 {j c:Nat} (hj:j<3) (hc:c≤3):(w64 ((j:Int)+(c:Int))).tmod 3=(((j+c) % 3:Nat):Int):=by
  rw [F3 (by omega) (by omega),Int.tmod_eq_emod_of_nonneg (by omega)]; omega
section
variable {ts:List (List Bc)} {vs ys fs Sg:List Int} (h:Cls ts vs ys fs Sg)
include h
theorem bL {i:Nat} (hi:i<6 * ts.length) (hf:Gh ys i=true):matE ts vs ys (i+1)=Ot (Bg ys (6 * ts.length)) (Ot (Bg ys (6 * ts.length)) (matE ts vs ys i) (Cn (CN (4 * ts.length) vs) (4 * (i / 6)+EB (i % 6)),Cn (CN (6 * ts.length) ys) i,1)) (Cn (CN (4 * ts.length) vs) (4 * (i / 6)+EA (i % 6)),Cn (CN (6 * ts.length) ys) i,-1):=by
  unfold matE
  rw [cat,Le]
  conv=>lhs; rw [opE,if_pos hf]
  rfl
theorem lC {i:Nat} (hf:Gh ys i=false):matE ts vs ys (i+1)=matE ts vs ys i:=by
  unfold matE
  rw [cat,Le]
  conv=>lhs; rw [opE,if_neg (by rw [hf]; decide)]
  rfl
theorem iT {i:Nat} (hf:Gh fs i=false):matF ts ys fs Sg (i+1)=matF ts ys fs Sg i:=by
  unfold matF
  rw [cat,Le]
  conv=>lhs; rw [opF,if_neg (by rw [hf]; decide)]
  rfl
theorem aF {i:Nat} (hf:Gh fs i=true):matF ts ys fs Sg (i+1)=M9 (Bg fs (4 * ts.length)) (matF ts ys fs Sg i) (([0,1,2].drop 0).map fun j=>(Cn (CN (6 * ts.length) ys) (6 * (i / 4)+ee (i % 4) j),Cn (CN (4 * ts.length) fs) i,pw j * Sg.getD (6 * (i / 4)+ee (i % 4) j) 0)):=by
  unfold matF
  rw [cat,Le]
  conv=>lhs; rw [opF,if_pos hf]
  rfl
theorem gH {i:Nat}:matT ts fs (i+1)=Ot ts.length (matT ts fs i) (Cn (CN (4 * ts.length) fs) i,i / 4,pw (i % 4) * FSg ts i):=by
  unfold matT
  rw [cat,Le]
  rfl
theorem Y3 {o:Int} (o1:o≠1) (o2:o≠2) (o3:o≠3) {r c:Int} {M:List Int}:∀ d a,ts.length - a=d→a≤ts.length→Aa (fun K k=>Ac.l1 K k ts o (rowsOf (CN (4 * ts.length) vs) 4 ts.length) (rowsOf (CN (6 * ts.length) ys) 6 ts.length) (rowsOf (CN (4 * ts.length) fs) 4 ts.length) r c (rowsOf Sg 6 ts.length) (rowsOf (FL ts) 4 ts.length) M [] [] (a:Int)) (r,c,M):=by
  have h8:=h.n8
  have e7:D6.f ts=some (ts.length:Int):=rfl
  intro d
  induction d with
  | zero =>
    intro a hd ha
    refine Aa.of fun K k=>?_
    rw [Ac.l1,e7,Option.bind_some,if_neg (by omega)]
  | succ d ih =>
    intro a hd ha
    refine Aa.step (fun K k=>by rw [Ac.l1,e7,Option.bind_some,if_pos (by omega)]) ?_
    refine Aa.step (fun K k=>by rw [Ac.Sz,if_pos (by omega),if_neg o1]) ?_
    refine Aa.step (fun K k=>by rw [Ac.Sw,if_pos (by omega),if_neg o2]) ?_
    refine Aa.step (fun K k=>by rw [Ac.Xa,if_pos (by omega),if_neg o3,Ar (by omega)]) ?_
    exact ih (a+1) (by omega) (by omega)
theorem rQ {o:Int} (ho:o=1) {a:Nat} (ha:a<ts.length) {R:Int × Int × List Int} (hR:Aa (fun K k=>Ac.l1 K k ts o (rowsOf (CN (4 * ts.length) vs) 4 ts.length) (rowsOf (CN (6 * ts.length) ys) 6 ts.length) (rowsOf (CN (4 * ts.length) fs) 4 ts.length) (Bg vs (4 * ts.length):Int) (Bg ys (6 * ts.length):Int) (rowsOf Sg 6 ts.length) (rowsOf (FL ts) 4 ts.length) (matE ts vs ys (6 * (a+1))) (upto (Bg ys (6 * (a+1)))) [] ((a+1:Nat):Int)) R) :
    ∀ (d e:Nat),6 - e=d→e≤6→Aa (fun K k=>Ac.Sz K k ts o (rowsOf (CN (4 * ts.length) vs) 4 ts.length) (rowsOf (CN (6 * ts.length) ys) 6 ts.length) (rowsOf (CN (4 * ts.length) fs) 4 ts.length) (Bg vs (4 * ts.length):Int) (Bg ys (6 * ts.length):Int) (rowsOf Sg 6 ts.length) (rowsOf (FL ts) 4 ts.length) [] (a:Int) (matE ts vs ys (6 * a+e)) (upto (Bg ys (6 * a+e))) (e:Int)) R:=by
  have h8:=h.n8
  obtain ⟨b0,b1,b2⟩:=Y6 h
  have lV:=Lu (4 * ts.length) vs
  have lE:=Lu (6 * ts.length) ys
  intro d
  induction d with
  | zero =>
    intro e hd he
    obtain rfl:e=6:=by omega
    refine Aa.step (fun K k=>by rw [Ac.Sz,if_neg (by omega)]) ?_
    refine Aa.step (fun K k=>by rw [Ac.bT,if_pos (by omega),if_neg (by omega)]) ?_
    refine Aa.step (fun K k=>by rw [Ac.fH,if_pos (by omega),if_neg (by omega),Ar (by omega)]) ?_
    exact hR
  | succ d ih =>
    intro e hd he
    have he6:e<6:=by omega
    have e1:(6 * a+e) / 6=a:=by omega
    have e2:(6 * a+e) % 6=e:=by omega
    have hi:6 * a+e<6 * ts.length:=by omega
    have nx:=ih (e+1) (by omega) (by omega)
    rw [show 6 * a+(e+1)=6 * a+e+1 from rfl] at nx
    obtain ⟨q1,q2,q3⟩:=EAB he6
    have q1:EA e<4:=by omega
    obtain ⟨gE,gE'⟩:=K5 (s:=ys) hi
    obtain ⟨gB,gB'⟩:=K5 (s:=vs) (show 4 * a+EB e<4 * ts.length by omega)
    obtain ⟨gA,gA'⟩:=K5 (s:=vs) (show 4 * a+EA e<4 * ts.length by omega)
    have hm:=Kw ys (show 6 * a+e≤6 * ts.length by omega)
    obtain ⟨l1,l2⟩:=Tp h (x:=6 * a+e) (by omega)
    refine Aa.succ ?_
    simp only [Ac.Sz,Int.toNat_natCast,Kv ha,J6 he6,Lg,Js,gE]
    refine Aa.pos (by omega) (Aa.pos ho (Aa.pos (by omega) (Aa.pos (by omega) (Aa.bind (oP (by omega) _).two ?_))))
    cases hf:Gh ys (6 * a+e) with
    | true =>
      have hc:=Qr hi hf
      have eM:=bL h hi hf
      rw [e1,e2] at eM
      rw [eM,Kt,hf,if_pos rfl,Pz] at nx
      refine Aa.neg (by rw [hc,decide_eq_false (by omega)]; decide) (Aa.pos (by rw [Kr]; omega) ?_)
      refine Aa.Dy (a:=(EA e:Int)) (b:=(EB e:Int)) (Aa.congr (fun K k=>Ti he6) (Aa.const _)) ?_
      simp only [Int.toNat_natCast,J6 q1,J6 q2,gA,gB]
      refine Aa.pos (by omega) (Aa.pos (by omega) (Aa.Iq (Xh l1 l2 (by omega) gB' gE' (by omega) (by omega) (by decide) (by decide)) (Aa.pos N7 (Aa.pos (by omega) ?_))))
      refine Aa.Iq (Xh (by rw [N7]; exact l1) (Ra l2 (by show (-1:Int)≤1; decide) (by show (1:Int)≤1; decide)) (by omega) gA' gE' (by omega) (by omega) (by decide) (by decide)) (Aa.pos N7 ?_)
      rw [Ar (by omega)]
      rw [hc] at nx ⊢
      exact nx
    | false =>
      have hc:=bD hi hf
      rw [lC h hf,Kt,hf,if_neg (by decide),Nat.add_zero] at nx
      refine Aa.pos (by rw [decide_eq_true hc]) ?_
      rw [Ar (by omega)]
      exact nx
theorem yQ {o:Int} (ho:o=1):∀ (d a:Nat),ts.length - a=d→a≤ts.length→Aa (fun K k=>Ac.l1 K k ts o (rowsOf (CN (4 * ts.length) vs) 4 ts.length) (rowsOf (CN (6 * ts.length) ys) 6 ts.length) (rowsOf (CN (4 * ts.length) fs) 4 ts.length) (Bg vs (4 * ts.length):Int) (Bg ys (6 * ts.length):Int) (rowsOf Sg 6 ts.length) (rowsOf (FL ts) 4 ts.length) (matE ts vs ys (6 * a)) (upto (Bg ys (6 * a))) [] (a:Int)) ((Bg vs (4 * ts.length):Int),(Bg ys (6 * ts.length):Int),matE ts vs ys (6 * ts.length)):=by
  have e7:D6.f ts=some (ts.length:Int):=rfl
  intro d
  induction d with
  | zero =>
    intro a hd ha
    obtain rfl:a=ts.length:=by omega
    refine Aa.of fun K k=>?_
    rw [Ac.l1,e7,Option.bind_some,if_neg (by omega)]
  | succ d ih =>
    intro a hd ha
    refine Aa.step (fun K k=>by rw [Ac.l1,e7,Option.bind_some,if_pos (by omega)]) ?_
    exact rQ h ho (by omega) (ih (a+1) (by omega) (by omega)) 6 0 rfl (by omega)
theorem qY {o:Int} {a f c:Nat} (ha:a<ts.length) (hf:f<4) {q:List Int} (hc:c<Bg fs (4 * ts.length)) (hgc:(CN (4 * ts.length) fs).getD (4 * a+f) 0=(c:Int)) {R:Int × Int × List Int}:∀ (d j:Nat) (M:List Int),3 - j=d→j≤3→M.length=Bg ys (6 * ts.length) * Bg fs (4 * ts.length)→Bt (1000+j) M →
    Aa (fun K k=>Ac.Sw K k ts o (rowsOf (CN (4 * ts.length) vs) 4 ts.length) (rowsOf (CN (6 * ts.length) ys) 6 ts.length) (rowsOf (CN (4 * ts.length) fs) 4 ts.length) (Bg ys (6 * ts.length):Int) (Bg fs (4 * ts.length):Int) (rowsOf Sg 6 ts.length) (rowsOf (FL ts) 4 ts.length) (a:Int) [] (M9 (Bg fs (4 * ts.length)) M (([0,1,2].drop j).map fun j=>(Cn (CN (6 * ts.length) ys) (6 * a+ee f j),c,pw j * Sg.getD (6 * a+ee f j) 0))) (q++[(c:Int)]) ((f+1:Nat):Int)) R →
    Aa (fun K k=>Ac.Zf K k ts o (rowsOf (CN (4 * ts.length) vs) 4 ts.length) (rowsOf (CN (6 * ts.length) ys) 6 ts.length) (rowsOf (CN (4 * ts.length) fs) 4 ts.length) (Bg ys (6 * ts.length):Int) (Bg fs (4 * ts.length):Int) (rowsOf Sg 6 ts.length) (rowsOf (FL ts) 4 ts.length) (a:Int) [] q (f:Int) [(ov f 0:Int),(ov f 1:Int),(ov f 2:Int)] M (j:Int)) R:=by
  have h8:=h.n8
  obtain ⟨b0,b1,b2⟩:=Y6 h
  intro d
  induction d with
  | zero =>
    intro j M hd hj hl hb hR
    obtain rfl:j=3:=by omega
    refine Aa.step (fun K k=>?_) hR
    rw [Ac.Zf,if_neg (by omega),Ar (by omega)]
    simp only [Int.toNat_natCast,Kv ha,J6 hf,hgc]
    rfl
  | succ d ih =>
    intro j M hd hj hl hb hR
    have hj3:j<3:=by omega
    obtain ⟨f1,f2,f3,f4,f5,f6⟩:=Pq hf hj3
    obtain ⟨gB,gB'⟩:=K5 (s:=ys) (show 6 * a+ee f j<6 * ts.length by omega)
    obtain ⟨p1,p2,p3⟩:=O6 (Oz j) (h.vl (6 * a+ee f j) (by omega))
    have edr:([0,1,2].drop j:List Nat)=j::[0,1,2].drop (j+1):=by rcases (by omega:j=0∨j=1∨j=2) with rfl | rfl | rfl <;> rfl
    rw [edr] at hR
    have nx:=ih (j+1) (Ot (Bg fs (4 * ts.length)) M (Cn (CN (6 * ts.length) ys) (6 * a+ee f j),c,pw j * Sg.getD (6 * a+ee f j) 0)) (by omega) (by omega) (by rw [N7]; exact hl) (Ra hb p1 p2) hR
    have hedge:Ab (fun K=>Eu.f K (ov f ((j+1) % 3):Int) (ov f ((j+2) % 3):Int)) (ee f j:Int):=by
      rw [← f5]; exact Xy (U6 hf (by omega)) (U6 hf (by omega)) f6
    have hin:Aa (fun K k=>Ac.bJ K k ts o (rowsOf (CN (4 * ts.length) vs) 4 ts.length) (rowsOf (CN (6 * ts.length) ys) 6 ts.length) (rowsOf (CN (4 * ts.length) fs) 4 ts.length) (Bg ys (6 * ts.length):Int) (Bg fs (4 * ts.length):Int) (rowsOf Sg 6 ts.length) (rowsOf (FL ts) 4 ts.length) (a:Int) [] q (f:Int) [(ov f 0:Int),(ov f 1:Int),(ov f 2:Int)] M (j:Int) (ee f j:Int) (pw j * Sg.getD (6 * a+ee f j) 0)) R:=by
      refine Aa.succ ?_
      simp only [Ac.bJ,Int.toNat_natCast,Kv ha,J6 hf,J6 f3,Lg,Js,gB,hgc]
      refine Aa.pos (by omega) (Aa.pos (by omega) (Aa.Iq (Xh hl hb (by omega) gB' hc (by omega) (by omega) p1 p2) (Aa.pos N7 ?_)))
      rw [Ar (by omega)]
      exact nx
    have hl3:(([(ov f 0:Int),(ov f 1:Int),(ov f 2:Int)]:List Int).length:Int)=3:=rfl
    have t1:=tm3 (c:=1) hj3 (by omega)
    have t2:=tm3 (c:=2) hj3 (by omega)
    refine Aa.succ ?_
    simp only [Ac.Zf,hl3]
    refine Aa.pos (by omega) ?_
    rw [show (w64 ((j:Int)+1)).tmod 3=(((j+1) % 3:Nat):Int) from t1,show (w64 ((j:Int)+2)).tmod 3=(((j+2) % 3:Nat):Int) from t2]
    refine Aa.pos (by omega) (Aa.pos (by omega) ?_)
    rw [Int.toNat_natCast,Int.toNat_natCast,wD hf (by omega),wD hf (by omega)]
    refine Aa.bind hedge.two ?_
    simp only [Int.toNat_natCast,Kv ha,J6 f3,Lg,Js]
    refine Aa.pos (by omega) (Aa.pos (by omega) ?_)
    by_cases hj1:j=1
    · subst hj1
      refine Aa.pos rfl ?_
      rw [show w64 (0 - Sg.getD (6 * a+ee f 1) 0)=pw 1 * Sg.getD (6 * a+ee f 1) 0 from by rw [← p3]; unfold pw; rw [if_pos (by decide)]; congr 1; omega]
      exact hin
    · refine Aa.neg (by omega) ?_
      have:pw j=1:=by unfold pw; rw [if_neg (by omega)]
      rw [this,Int.one_mul] at hin
      exact hin
theorem tH {o:Int} (ho:o=2) {a:Nat} (ha:a<ts.length) {R:Int × Int × List Int} (hR:Aa (fun K k=>Ac.l1 K k ts o (rowsOf (CN (4 * ts.length) vs) 4 ts.length) (rowsOf (CN (6 * ts.length) ys) 6 ts.length) (rowsOf (CN (4 * ts.length) fs) 4 ts.length) (Bg ys (6 * ts.length):Int) (Bg fs (4 * ts.length):Int) (rowsOf Sg 6 ts.length) (rowsOf (FL ts) 4 ts.length) (matF ts ys fs Sg (4 * (a+1))) [] (upto (Bg fs (4 * (a+1)))) ((a+1:Nat):Int)) R) :
    ∀ (d f:Nat),4 - f=d→f≤4→Aa (fun K k=>Ac.Sw K k ts o (rowsOf (CN (4 * ts.length) vs) 4 ts.length) (rowsOf (CN (6 * ts.length) ys) 6 ts.length) (rowsOf (CN (4 * ts.length) fs) 4 ts.length) (Bg ys (6 * ts.length):Int) (Bg fs (4 * ts.length):Int) (rowsOf Sg 6 ts.length) (rowsOf (FL ts) 4 ts.length) (a:Int) [] (matF ts ys fs Sg (4 * a+f)) (upto (Bg fs (4 * a+f))) (f:Int)) R:=by
  have h8:=h.n8
  obtain ⟨b0,b1,b2⟩:=Y6 h
  intro d
  induction d with
  | zero =>
    intro f hd hf
    obtain rfl:f=4:=by omega
    refine Aa.step (fun K k=>by rw [Ac.Sw,if_neg (by omega)]) ?_
    refine Aa.step (fun K k=>by rw [Ac.fT,if_pos (by omega),if_neg (by omega),Ar (by omega)]) ?_
    exact hR
  | succ d ih =>
    intro f hd hf
    have hf4:f<4:=by omega
    have e1:(4 * a+f) / 4=a:=by omega
    have e2:(4 * a+f) % 4=f:=by omega
    have hi:4 * a+f<4 * ts.length:=by omega
    have nx:=ih (f+1) (by omega) (by omega)
    rw [show 4 * a+(f+1)=4 * a+f+1 from rfl] at nx
    obtain ⟨gF,gF'⟩:=K5 (s:=fs) hi
    have hm:=Kw fs (show 4 * a+f≤4 * ts.length by omega)
    obtain ⟨l1,l2⟩:=Tg h (x:=4 * a+f) (by omega)
    refine Aa.succ ?_
    simp only [Ac.Sw,Int.toNat_natCast,Kv ha,J6 hf4,Lg,Js,gF]
    refine Aa.pos (by omega) (Aa.pos ho (Aa.pos (by omega) (Aa.pos (by omega) (Aa.bind (oP (by omega) _).two ?_))))
    cases hfs:Gh fs (4 * a+f) with
    | true =>
      have hc:=Qr hi hfs
      have eM:=aF h (ys:=ys) (Sg:=Sg) hfs
      rw [e1,e2] at eM
      rw [eM,Kt,hfs,if_pos rfl,Pz] at nx
      refine Aa.neg (by rw [hc,decide_eq_false (by omega)]; decide) (Aa.pos (by rw [Kr]; omega) (Aa.bind (dU hf4).two ?_))
      refine qY h ha hf4 gF' gF 3 0 _ (by omega) (by omega) l1 l2 ?_
      rw [← hc] at nx
      rw [← hc]
      exact nx
    | false =>
      have hc:=bD hi hfs
      rw [iT h hfs,Kt,hfs,if_neg (by decide),Nat.add_zero] at nx
      refine Aa.pos (by rw [decide_eq_true hc]) ?_
      rw [Ar (by omega)]
      exact nx
theorem zI {o:Int} (ho:o=2):∀ (d a:Nat),ts.length - a=d→a≤ts.length→Aa (fun K k=>Ac.l1 K k ts o (rowsOf (CN (4 * ts.length) vs) 4 ts.length) (rowsOf (CN (6 * ts.length) ys) 6 ts.length) (rowsOf (CN (4 * ts.length) fs) 4 ts.length) (Bg ys (6 * ts.length):Int) (Bg fs (4 * ts.length):Int) (rowsOf Sg 6 ts.length) (rowsOf (FL ts) 4 ts.length) (matF ts ys fs Sg (4 * a)) [] (upto (Bg fs (4 * a))) (a:Int)) ((Bg ys (6 * ts.length):Int),(Bg fs (4 * ts.length):Int),matF ts ys fs Sg (4 * ts.length)):=by
  have e7:D6.f ts=some (ts.length:Int):=rfl
  intro d
  induction d with
  | zero =>
    intro a hd ha
    obtain rfl:a=ts.length:=by omega
    refine Aa.of fun K k=>?_
    rw [Ac.l1,e7,Option.bind_some,if_neg (by omega)]
  | succ d ih =>
    intro a hd ha
    refine Aa.step (fun K k=>by rw [Ac.l1,e7,Option.bind_some,if_pos (by omega)]) ?_
    refine Aa.step (fun K k=>by rw [Ac.Sz,if_pos (by omega),if_neg (by omega)]) ?_
    exact tH h ho (by omega) (ih (a+1) (by omega) (by omega)) 4 0 rfl (by omega)
theorem tC {o:Int} (ho:o=3) {a:Nat} (ha:a<ts.length) {R:Int × Int × List Int} (hR:Aa (fun K k=>Ac.l1 K k ts o (rowsOf (CN (4 * ts.length) vs) 4 ts.length) (rowsOf (CN (6 * ts.length) ys) 6 ts.length) (rowsOf (CN (4 * ts.length) fs) 4 ts.length) (Bg fs (4 * ts.length):Int) (ts.length:Int) (rowsOf Sg 6 ts.length) (rowsOf (FL ts) 4 ts.length) (matT ts fs (4 * (a+1))) [] [] ((a+1:Nat):Int)) R) :
    ∀ (d f:Nat),4 - f=d→f≤4→Aa (fun K k=>Ac.Xa K k ts o (rowsOf (CN (4 * ts.length) vs) 4 ts.length) (rowsOf (CN (6 * ts.length) ys) 6 ts.length) (rowsOf (CN (4 * ts.length) fs) 4 ts.length) (Bg fs (4 * ts.length):Int) (ts.length:Int) (rowsOf Sg 6 ts.length) (rowsOf (FL ts) 4 ts.length) (a:Int) [] [] (matT ts fs (4 * a+f)) (f:Int)) R:=by
  have h8:=h.n8
  obtain ⟨b0,b1,b2⟩:=Y6 h
  intro d
  induction d with
  | zero =>
    intro f hd hf
    obtain rfl:f=4:=by omega
    refine Aa.step (fun K k=>by rw [Ac.Xa,if_neg (by omega),Ar (by omega)]) ?_
    exact hR
  | succ d ih =>
    intro f hd hf
    have hf4:f<4:=by omega
    have e1:(4 * a+f) / 4=a:=by omega
    have e2:(4 * a+f) % 4=f:=by omega
    have hi:4 * a+f<4 * ts.length:=by omega
    have nx:=ih (f+1) (by omega) (by omega)
    have eM:=gH h (fs:=fs) (i:=4 * a+f)
    rw [e1,e2] at eM
    rw [show 4 * a+(f+1)=4 * a+f+1 from rfl,eM] at nx
    obtain ⟨gF,gF'⟩:=K5 (s:=fs) hi
    obtain ⟨l1,l2⟩:=Tj h (x:=4 * a+f) (by omega)
    obtain ⟨p1,p2,p3⟩:=O6 (Oz f) (.inr (Yc ts (4 * a+f)))
    have hin:Aa (fun K k=>Ac.aI K k ts o (rowsOf (CN (4 * ts.length) vs) 4 ts.length) (rowsOf (CN (6 * ts.length) ys) 6 ts.length) (rowsOf (CN (4 * ts.length) fs) 4 ts.length) (Bg fs (4 * ts.length):Int) (ts.length:Int) (rowsOf Sg 6 ts.length) (rowsOf (FL ts) 4 ts.length) (a:Int) [] [] (matT ts fs (4 * a+f)) (f:Int) (pw f * FSg ts (4 * a+f))) R:=by
      refine Aa.succ ?_
      simp only [Ac.aI,Int.toNat_natCast,Kv ha,J6 hf4,Lg,Js,gF]
      refine Aa.pos (by omega) (Aa.pos (by omega) (Aa.Iq (Xh l1 l2 (by omega) gF' ha (by omega) (by omega) p1 p2) (Aa.pos N7 ?_)))
      rw [Ar (by omega)]
      exact nx
    refine Aa.succ ?_
    simp only [Ac.Xa,Int.toNat_natCast,Kv ha,J6 hf4,Lg,Js,Xp hi]
    refine Aa.pos (by omega) (Aa.pos ho (Aa.pos (by omega) (Aa.pos (by omega) ?_)))
    have ht:(f:Int).tmod 2=((f % 2:Nat):Int):=by rw [Int.tmod_eq_emod_of_nonneg (by omega)]; omega
    rw [ht]
    by_cases h1:f % 2=1
    · refine Aa.pos (by omega) ?_
      rw [show w64 (0 - FSg ts (4 * a+f))=pw f * FSg ts (4 * a+f) from by rw [← p3]; unfold pw; rw [if_pos h1]; congr 1; omega]
      exact hin
    · refine Aa.neg (by omega) ?_
      have:pw f=1:=by unfold pw; rw [if_neg h1]
      rw [this,Int.one_mul] at hin
      exact hin
theorem zF {o:Int} (ho:o=3):∀ (d a:Nat),ts.length - a=d→a≤ts.length→Aa (fun K k=>Ac.l1 K k ts o (rowsOf (CN (4 * ts.length) vs) 4 ts.length) (rowsOf (CN (6 * ts.length) ys) 6 ts.length) (rowsOf (CN (4 * ts.length) fs) 4 ts.length) (Bg fs (4 * ts.length):Int) (ts.length:Int) (rowsOf Sg 6 ts.length) (rowsOf (FL ts) 4 ts.length) (matT ts fs (4 * a)) [] [] (a:Int)) ((Bg fs (4 * ts.length):Int),(ts.length:Int),matT ts fs (4 * ts.length)):=by
  have e7:D6.f ts=some (ts.length:Int):=rfl
  intro d
  induction d with
  | zero =>
    intro a hd ha
    obtain rfl:a=ts.length:=by omega
    refine Aa.of fun K k=>?_
    rw [Ac.l1,e7,Option.bind_some,if_neg (by omega)]
  | succ d ih =>
    intro a hd ha
    refine Aa.step (fun K k=>by rw [Ac.l1,e7,Option.bind_some,if_pos (by omega)]) ?_
    refine Aa.step (fun K k=>by rw [Ac.Sz,if_pos (by omega),if_neg (by omega)]) ?_
    refine Aa.step (fun K k=>by rw [Ac.Sw,if_pos (by omega),if_neg (by omega)]) ?_
    exact tC h ho (by omega) (ih (a+1) (by omega) (by omega)) 4 0 rfl (by omega)
end
theorem wN {o:List Bool} (hl:o.length≤1000) {b:Bool} (hb:b=true↔∃ c,c<o.length∧o.getD c false=true):Ab (fun K=>Fb.f K o true) b:=by
  have main:∀ d i,o.length - i=d→i≤o.length→(∀ c,c<i→o.getD c false=false)→∃ z:Int,Aa (fun K k=>Dm.l1 K k o true (i:Int)) z∧decide (0≤z)=b:=by
    intro d
    induction d with
    | zero =>
      intro i hd hi h
      refine ⟨-1,Aa.of fun K k=>?_,?_⟩
      · rw [Dm.l1,if_neg (by omega)]
      · cases b with
        | false=>rfl
        | true=>obtain ⟨c,h1,h2⟩:=hb.1 rfl; rw [h c (by omega)] at h2; cases h2
    | succ d ih =>
      intro i hd hi h
      cases e:o.getD i false with
      | true =>
        refine ⟨(i:Int),Aa.of fun K k=>?_,?_⟩
        · rw [Dm.l1,if_pos (by omega),if_pos ⟨by omega,by omega⟩,Int.toNat_natCast,e]; rfl
        · rw [hb.2 ⟨i,by omega,e⟩]; exact decide_eq_true (by omega)
      | false =>
        obtain ⟨z,t,hz⟩:=ih (i+1) (by omega) (by omega) (fun c hc=>by
          by_cases e2:c=i
          · subst e2; exact e
          · exact h c (by omega))
        refine ⟨z,Aa.step (fun K k=>?_) t,hz⟩
        rw [Dm.l1,if_pos (by omega),if_pos ⟨by omega,by omega⟩,Int.toNat_natCast,e,Ar (by omega)]; rfl
  obtain ⟨z,t,hz⟩:=main _ 0 rfl (Nat.zero_le _) (fun c hc=>by omega)
  unfold Fb.f
  refine Ab.bind t.Gz ?_
  rw [hz]
  exact Ab.const _
theorem vE {ts:List (List Bc)} {Sg:List Int} (h8:ts.length≤8) (hSig:Ab (fun K=>Ao.f K ts) (rowsOf Sg 6 ts.length)) {b:Bool} (hb:b=true↔∃ j,j<6 * ts.length∧Sg.getD j 0=0):Ab (fun K=>Cz.f K ts) b:=by
  have inner:∀ a,a<ts.length→((∀ j,j<6 * (a+1)→Sg.getD j 0≠0)→Aa (fun K k=>Cz.l1 K k (rowsOf Sg 6 ts.length) ((a+1:Nat):Int)) b)→∀ d e,6 - e=d→e≤6→(∀ j,j<6 * a+e→Sg.getD j 0≠0)→Aa (fun K k=>Cz.l4 K k (rowsOf Sg 6 ts.length) (a:Int) (e:Int)) b:=by
    intro a ha hR d
    induction d with
    | zero =>
      intro e hd he h
      obtain rfl:e=6:=by omega
      refine Aa.step (fun K k=>?_) (hR h)
      rw [Cz.l4,if_neg (by omega),Ar (by omega)]
    | succ d ih =>
      intro e hd he h
      have he6:e<6:=by omega
      refine Aa.succ ?_
      simp only [Cz.l4,Int.toNat_natCast,Kv ha,J6 he6,Lg,Js]
      refine Aa.pos (by omega) (Aa.pos (by omega) (Aa.pos (by omega) ?_))
      by_cases h0:Sg.getD (6 * a+e) 0=0
      · rw [hb.2 ⟨_,by omega,h0⟩]
        exact Aa.pos h0 (Aa.const _)
      · refine Aa.neg h0 ?_
        rw [Ar (by omega)]
        exact ih (e+1) (by omega) (by omega) fun j hj=>by
          by_cases e2:j=6 * a+e
          · subst e2; exact h0
          · exact h j (by omega)
  have main:∀ d a,ts.length - a=d→a≤ts.length→(∀ j,j<6 * a→Sg.getD j 0≠0)→Aa (fun K k=>Cz.l1 K k (rowsOf Sg 6 ts.length) (a:Int)) b:=by
    intro d
    induction d with
    | zero =>
      intro a hd ha h
      obtain rfl:a=ts.length:=by omega
      refine Aa.of fun K k=>?_
      rw [Cz.l1,if_neg (by rw [Js]; omega)]
      cases b with
      | false=>rfl
      | true=>obtain ⟨j,h1,h2⟩:=hb.1 rfl; exact absurd h2 (h j h1)
    | succ d ih =>
      intro a hd ha h
      refine Aa.step (fun K k=>?_) (inner a (by omega) (ih (a+1) (by omega) (by omega)) 6 0 rfl (by omega) h)
      rw [Cz.l1,if_pos (by rw [Js]; omega)]
      rfl
  exact Ab.bind hSig (main _ 0 rfl (by omega) fun j hj=>by omega).Gz
theorem Bt.bd {M:List Int} (h:Bt 1000 M):Bd M:=fun p=>by
  have:=h p
  omega
structure CD (ts:List (List Bc)) (vs ys fs Sg:List Int):Prop where
  c:Cls ts vs ys fs Sg
  z:∀ i j,i<6 * ts.length→j<6 * ts.length→(CN (6 * ts.length) ys).getD i 0=(CN (6 * ts.length) ys).getD j 0→(Sg.getD i 0=0↔Sg.getD j 0=0)
  p:G8 (6 * ts.length) (JE ts) ys
  tV:Ab (fun K=>Dj.f K ts) (CN (4 * ts.length) vs)
  tE:Ab (fun K=>Bw.f K ts) (CN (6 * ts.length) ys)
  tF:Ab (fun K=>Cv.f K ts) (CN (4 * ts.length) fs)
  gi:Ab (fun K=>Aj.f K ts) Sg
  gs:Ab (fun K=>Ao.f K ts) (rowsOf Sg 6 ts.length)
  fi:Ab (fun K=>D9.f K ts) (FL ts)
  fz:Ab (fun K=>Ak.f K ts) (rowsOf (FL ts) 4 ts.length)
  tc:Ab (fun K=>Bn.f K ts) (rowsOf (CN (4 * ts.length) vs) 4 ts.length,rowsOf (CN (6 * ts.length) ys) 6 ts.length,rowsOf (CN (4 * ts.length) fs) 4 ts.length,[(Bg vs (4 * ts.length):Int),(Bg ys (6 * ts.length):Int),(Bg fs (4 * ts.length):Int),(ts.length:Int)])
section
variable {ts:List (List Bc)} (hv:Val ts)
include hv
theorem mH {s:List Int} (hP:G8 (6 * ts.length) (JE ts) s):∃ Sg:List Int,Sg.length=6 * ts.length∧(∀ j,j<6 * ts.length→Sg.getD j 0=0∨Sg.getD j 0=1∨Sg.getD j 0 = -1)∧(∀ i j,i<6 * ts.length→j<6 * ts.length→(CN (6 * ts.length) s).getD i 0=(CN (6 * ts.length) s).getD j 0→(Sg.getD i 0=0↔Sg.getD j 0=0)) ∧
    (Ab (fun K=>Bw.f K ts) (CN (6 * ts.length) s)→Ab (fun K=>Aj.f K ts) Sg)∧Ab (fun K=>Ao.f K ts) (rowsOf Sg 6 ts.length):=by
  have h8:=hv.le
  have e6:w64 (6 * (ts.length:Int))=((6 * ts.length:Nat):Int):=w6' (c:=6) (by decide) (by omega)
  have hrep:∀ j,(List.replicate (6 * ts.length) (0:Int)).getD j 0=0:=fun j=>by rw [List.getD_eq_getElem?_getD,List.getElem?_replicate]; split <;> rfl
  obtain ⟨sg,rv,rev,o1,o2,o3,o4⟩:=outer hv hP (6 * ts.length) 0 (List.replicate (6 * ts.length) 0) (List.replicate (6 * ts.length) false) [] (by omega) (by omega) ⟨by simp,by simp,fun i j _ _ _ h=>absurd (hrep i) h,fun j _=>.inl (hrep j),fun j _ h=>absurd (hrep j) h,fun j _ _=>rfl⟩ (fun j hj=>by omega)
  have hg:∀ i,i<6 * ts.length→((List.range (6 * ts.length)).map (sgF (CN (6 * ts.length) s) sg rev)).getD i 0=sgF (CN (6 * ts.length) s) sg rev i:=fun i hi=>by rw [List.getD_eq_getElem?_getD,List.getElem?_map,List.getElem?_range hi]; rfl
  refine ⟨(List.range (6 * ts.length)).map (sgF (CN (6 * ts.length) s) sg rev),by simp,fun j hj=>?_,fun i j hi hj he=>?_,fun hc=>?_,?_⟩
  · rw [hg j hj]
    unfold sgF
    split
    · exact .inl rfl
    · exact o1.val j hj
  · rw [hg i hi,hg j hj]
    unfold sgF
    rw [he]
    split
    · exact Iff.rfl
    · exact ⟨fun e=>absurd e (o2 i hi),fun e=>absurd e (o2 j hj)⟩
  · have t:=o4 _ (qV hv hP (by omega) o1.len (Lu _ s) (6 * ts.length) 0 sg (by omega) (by omega) o1.len (fun j hj=>by rw [if_neg (by omega)]))
    refine Ab.Iq (x:=(ts.length:Int)) rfl (Ab.pos (by omega) (Ab.pos (by rw [e6]; omega) (Ab.bind hc ?_)))
    rw [e6,Int.toNat_natCast]
    exact t.Gz
  · have t:=o3 _ (qB hv hP o1.len o1.rZ (fun j hj=>o1.yes j hj (o2 j hj)) ts.length 0 (by omega) (by omega))
    refine Ab.Iq (x:=(ts.length:Int)) rfl (Ab.pos (by omega) (Ab.pos (by rw [e6]; omega) (Ab.pos (by rw [e6]; omega) ?_)))
    rw [e6,Int.toNat_natCast]
    exact t.Gz
theorem vL:∃ vs ys fs Sg,CD ts vs ys fs Sg:=by
  obtain ⟨vs,ys,fs,h1,h2,h3,tc⟩:=lX hv
  obtain ⟨v',p1,t1⟩:=Td hv
  obtain ⟨y',p2,t2⟩:=Vr hv
  obtain ⟨f',p3,t3⟩:=Vx hv
  rw [X6 (p1.same h1.p)] at t1
  rw [X6 (p2.same h2.p)] at t2
  rw [X6 (p3.same h3.p)] at t3
  obtain ⟨Sg,a1,a2,a3,a4,a5⟩:=mH hv h2.p
  exact ⟨vs,ys,fs,Sg,⟨hv.le,a1,a2⟩,a3,h2.p,t1,t2,t3,a4 t2,a5,Z8 hv (jA hv.le),Zo hv,tc⟩
theorem Z0 {vs ys fs Sg:List Int} (h:CD ts vs ys fs Sg):Ab (fun K=>Ep.f K ts) [(Bg vs (4 * ts.length):Int),(Bg ys (6 * ts.length):Int),(Bg fs (4 * ts.length):Int),(ts.length:Int)]:=by
  have h8:=hv.le
  unfold Ep.f
  exact h.tV.bind (Ab.bind (Ml (by omega)) (h.tE.bind (Ab.bind (Ml (by omega)) (h.tF.bind (Ab.bind (Ml (by omega)) (Ab.bind (a:=(ts.length:Int)) (Ab.const _) (Ab.const _)))))))
theorem Su {o:Int} (h0:0≤o) (h4:o≤4):∃ (r c:Nat) (M:List Int),r≤1000∧c≤1000∧M.length=r * c∧Bd M∧Ab (fun K=>Cr.f K ts o) ((r:Int),(c:Int),M)∧Ab (fun K=>Ac.f K ts o) ((r:Int),(c:Int),M):=by
  obtain ⟨vs,ys,fs,Sg,h⟩:=vL hv
  have h8:=hv.le
  obtain ⟨b0,b1,b2⟩:=Y6 h.c
  have e0:matE ts vs ys (6 * 0)=List.replicate (Bg vs (4 * ts.length) * Bg ys (6 * ts.length)) 0:=rfl
  have zb:∀ N,Bd (List.replicate N (0:Int)):=fun N p=>by have:=Tw N p; omega
  rcases (by omega:o=0∨o=1∨o=2∨o=3∨o=4) with rfl | rfl | rfl | rfl | rfl
  · refine ⟨0,Bg vs (4 * ts.length),List.replicate (0 * Bg vs (4 * ts.length)) 0,by omega,by omega,List.length_replicate,zb _,?_,?_⟩
    · unfold Cr.f
      exact Ab.pos rfl ((Z0 hv h).bind (Ab.pos (by first | (simp only [List.length_cons,List.length_nil]; omega) | (show _∧_<(6:Int); decide)) (Ab.E9 (Ab.congr (fun K=>Pg (m:=0) (by omega) (by omega)) (Ab.const _)) (Ab.const _))))
    · unfold Ac.f
      exact Ab.Gr h.tc (Ab.pos (by first | (simp only [List.length_cons,List.length_nil]; omega) | (show _∧_<(6:Int); decide)) (Ab.pos (by first | (simp only [List.length_cons,List.length_nil]; omega) | (show _∧_<(6:Int); decide)) (Ab.pos (by first | (simp only [List.length_cons,List.length_nil]; omega) | (show _∧_<(6:Int); decide)) (Ab.pos (by first | (simp only [List.length_cons,List.length_nil]; omega) | (show _∧_<(6:Int); decide)) (Ab.pos (by first | (simp only [List.length_cons,List.length_nil]; omega) | (show _∧_<(6:Int); decide)) (Ab.pos (by first | (simp only [List.length_cons,List.length_nil]; omega) | (show _∧_<(6:Int); decide)) (Ab.E9 (Ab.congr (fun K=>Oi (m:=0) (n:=Bg vs (4 * ts.length)) (by omega) (by omega)) (Ab.const _)) (h.gs.bind (h.fz.bind (Y3 (o:=0) h.c (by decide) (by decide) (by decide) _ 0 rfl (by omega)).Gz)))))))))
  · refine ⟨Bg vs (4 * ts.length),Bg ys (6 * ts.length),matE ts vs ys (6 * ts.length),by omega,by omega,(Tp h.c (by omega)).1,(Tp h.c (by omega)).2.bd,?_,?_⟩
    · unfold Cr.f
      exact Ab.neg (by decide) (Ab.pos rfl (Ab.E9 (nK h.c h.tV h.tE) (Ab.const _)))
    · unfold Ac.f
      exact Ab.Gr h.tc (Ab.pos (by first | (simp only [List.length_cons,List.length_nil]; omega) | (show _∧_<(6:Int); decide)) (Ab.pos (by first | (simp only [List.length_cons,List.length_nil]; omega) | (show _∧_<(6:Int); decide)) (Ab.pos (by first | (simp only [List.length_cons,List.length_nil]; omega) | (show _∧_<(6:Int); decide)) (Ab.pos (by first | (simp only [List.length_cons,List.length_nil]; omega) | (show _∧_<(6:Int); decide)) (Ab.pos (by first | (simp only [List.length_cons,List.length_nil]; omega) | (show _∧_<(6:Int); decide)) (Ab.pos (by first | (simp only [List.length_cons,List.length_nil]; omega) | (show _∧_<(6:Int); decide)) (Ab.E9 (Ab.congr (fun K=>Oi (m:=Bg vs (4 * ts.length)) (n:=Bg ys (6 * ts.length)) (by omega) (by omega)) (Ab.const _)) (h.gs.bind (h.fz.bind (yQ h.c rfl _ 0 rfl (by omega)).Gz)))))))))
  · refine ⟨Bg ys (6 * ts.length),Bg fs (4 * ts.length),matF ts ys fs Sg (4 * ts.length),by omega,by omega,(Tg h.c (by omega)).1,(Tg h.c (by omega)).2.bd,?_,?_⟩
    · unfold Cr.f
      exact Ab.neg (by decide) (Ab.neg (by decide) (Ab.pos rfl (Ab.E9 (mQ h.c h.tE h.tF h.gi) (Ab.const _))))
    · unfold Ac.f
      exact Ab.Gr h.tc (Ab.pos (by first | (simp only [List.length_cons,List.length_nil]; omega) | (show _∧_<(6:Int); decide)) (Ab.pos (by first | (simp only [List.length_cons,List.length_nil]; omega) | (show _∧_<(6:Int); decide)) (Ab.pos (by first | (simp only [List.length_cons,List.length_nil]; omega) | (show _∧_<(6:Int); decide)) (Ab.pos (by first | (simp only [List.length_cons,List.length_nil]; omega) | (show _∧_<(6:Int); decide)) (Ab.pos (by first | (simp only [List.length_cons,List.length_nil]; omega) | (show _∧_<(6:Int); decide)) (Ab.pos (by first | (simp only [List.length_cons,List.length_nil]; omega) | (show _∧_<(6:Int); decide)) (Ab.E9 (Ab.congr (fun K=>Oi (m:=Bg ys (6 * ts.length)) (n:=Bg fs (4 * ts.length)) (by omega) (by omega)) (Ab.const _)) (h.gs.bind (h.fz.bind (zI h.c rfl _ 0 rfl (by omega)).Gz)))))))))
  · refine ⟨Bg fs (4 * ts.length),ts.length,matT ts fs (4 * ts.length),by omega,by omega,(Tj h.c (by omega)).1,(Tj h.c (by omega)).2.bd,?_,?_⟩
    · unfold Cr.f
      exact Ab.neg (by decide) (Ab.neg (by decide) (Ab.neg (by decide) (Ab.pos rfl (Ab.E9 (qJ h.c h.tF h.fi) (Ab.const _)))))
    · unfold Ac.f
      exact Ab.Gr h.tc (Ab.pos (by first | (simp only [List.length_cons,List.length_nil]; omega) | (show _∧_<(6:Int); decide)) (Ab.pos (by first | (simp only [List.length_cons,List.length_nil]; omega) | (show _∧_<(6:Int); decide)) (Ab.pos (by first | (simp only [List.length_cons,List.length_nil]; omega) | (show _∧_<(6:Int); decide)) (Ab.pos (by first | (simp only [List.length_cons,List.length_nil]; omega) | (show _∧_<(6:Int); decide)) (Ab.pos (by first | (simp only [List.length_cons,List.length_nil]; omega) | (show _∧_<(6:Int); decide)) (Ab.pos (by first | (simp only [List.length_cons,List.length_nil]; omega) | (show _∧_<(6:Int); decide)) (Ab.E9 (Ab.congr (fun K=>Oi (m:=Bg fs (4 * ts.length)) (n:=ts.length) (by omega) (by omega)) (Ab.const _)) (h.gs.bind (h.fz.bind (zF h.c rfl _ 0 rfl (by omega)).Gz)))))))))
  · refine ⟨ts.length,0,List.replicate (ts.length * 0) 0,by omega,by omega,List.length_replicate,zb _,?_,?_⟩
    · unfold Cr.f
      exact Ab.neg (by decide) (Ab.neg (by decide) (Ab.neg (by decide) (Ab.neg (by decide) ((Z0 hv h).bind (Ab.pos (by first | (simp only [List.length_cons,List.length_nil]; omega) | (show _∧_<(6:Int); decide)) (Ab.E9 (Ab.congr (fun K=>Pg (m:=ts.length) (n:=0) (by omega) (by omega)) (Ab.const _)) (Ab.const _)))))))
    · unfold Ac.f
      exact Ab.Gr h.tc (Ab.pos (by first | (simp only [List.length_cons,List.length_nil]; omega) | (show _∧_<(6:Int); decide)) (Ab.pos (by first | (simp only [List.length_cons,List.length_nil]; omega) | (show _∧_<(6:Int); decide)) (Ab.pos (by first | (simp only [List.length_cons,List.length_nil]; omega) | (show _∧_<(6:Int); decide)) (Ab.pos (by first | (simp only [List.length_cons,List.length_nil]; omega) | (show _∧_<(6:Int); decide)) (Ab.pos (by first | (simp only [List.length_cons,List.length_nil]; omega) | (show _∧_<(6:Int); decide)) (Ab.pos (by first | (simp only [List.length_cons,List.length_nil]; omega) | (show _∧_<(6:Int); decide)) (Ab.E9 (Ab.congr (fun K=>Oi (m:=ts.length) (n:=0) (by omega) (by omega)) (Ab.const _)) (h.gs.bind (h.fz.bind (Y3 (o:=4) h.c (by decide) (by decide) (by decide) _ 0 rfl (by omega)).Gz)))))))))
theorem iZ:∃ (o:List Bool) (b:Bool),Ab (fun K=>Cc.f K ts) o∧Ab (fun K=>Fb.f K o true) b∧Ab (fun K=>Cz.f K ts) b:=by
  obtain ⟨vs,ys,fs,Sg,h⟩:=vL hv
  have h8:=hv.le
  obtain ⟨o,t,hl,ho⟩:=bO hv h.p h.tE h.c.hS h.z h.gi
  have hle:=K4 ys (6 * ts.length)
  have hiff:(∃ c,c<o.length∧o.getD c false=true)↔∃ j,j<6 * ts.length∧Sg.getD j 0=0:=by
    constructor
    · rintro ⟨c,h1,h2⟩
      obtain ⟨j,j1,j2,j3⟩:=(M6 (6 * ts.length) ys).onto (Nat.le_refl _) (by omega:c<Bg ys (6 * ts.length))
      have:=ho j j1
      rw [j3,Int.toNat_natCast,h2] at this
      exact ⟨j,j1,of_decide_eq_true this.symm⟩
    · rintro ⟨j,h1,h2⟩
      have h3:=K5 (s:=ys) h1
      refine ⟨Cn (CN (6 * ts.length) ys) j,by omega,?_⟩
      have:=ho j h1
      rw [decide_eq_true h2] at this
      exact this
  have hd:∃ b:Bool,b=true↔∃ j,j<6 * ts.length∧Sg.getD j 0=0:=by
    by_cases e:∃ j,j<6 * ts.length∧Sg.getD j 0=0
    · exact ⟨true,iff_of_true rfl e⟩
    · exact ⟨false,iff_of_false (by decide) e⟩
  obtain ⟨b,hb⟩:=hd
  exact ⟨o,b,t,wN (by omega) (hb.trans hiff.symm),vE h8 h.gs hb⟩
end
theorem Tf (ts:List (List Bc)) (hn:ts.length≤2000000) (k:Int):∃ (g:Int) (t:List Int) (c:Int),t.length≤1000∧Ab (fun K=>Il.f K ts k) (g,t,c)∧Ab (fun K=>Ip.f K ts k) (g,t,c):=by
  obtain ⟨b,hb,s1,i1⟩:=kS ts hn
  unfold Il.f Ip.f Jw.f
  cases b with
  | false=>exact ⟨0,[],1,by simp,Ab.bind (i1.bind (Ab.neg (by decide) (Ab.const _))) (Ab.neg (by decide) (Ab.const _)),s1.bind (Ab.neg (by decide) (Ab.const _))⟩
  | true =>
    have hv:=hb rfl
    by_cases hk:0≤k∧k≤3
    · obtain ⟨o,b,r1,r2,r3⟩:=iZ hv
      cases b with
      | true=>exact ⟨0,[],5,by simp,Ab.bind (i1.bind (Ab.pos rfl (Ab.Iq (Oj _ _ _) (Ab.pos (decide_eq_true hk) (r1.bind (r2.bind (Ab.pos rfl (Ab.const _)))))))) (Ab.neg (by decide) (Ab.const _)),s1.bind (Ab.pos rfl (Ab.Iq (U1 _ _ _) (Ab.pos (decide_eq_true hk) (r3.bind (Ab.pos rfl (Ab.const _))))))⟩
      | false =>
        have e1:w64 (k+1)=k+1:=F3 (by omega) (by omega)
        obtain ⟨p,q,xs,hp,hq,hx,bx,m1,m2⟩:=Su hv (o:=k) (by omega) (by omega)
        obtain ⟨p',q',ys,hp',hq',hy,bY,n1,n2⟩:=Su hv (o:=k+1) (by omega) (by omega)
        rw [← e1] at n1 n2
        obtain ⟨g,t,c,ht,u1,u2⟩:=Te hp hq hp' hq' hx hy bx bY
        exact ⟨g,t,c,ht,Ab.bind (i1.bind (Ab.pos rfl (Ab.Iq (Oj _ _ _) (Ab.pos (decide_eq_true hk) (r1.bind (r2.bind (Ab.neg (by decide) (Ab.const _)))))))) (Ab.pos rfl (Ab.E9 n1 (Ab.E9 m1 (Ab.E9 u1 (Ab.const _))))),s1.bind (Ab.pos rfl (Ab.Iq (U1 _ _ _) (Ab.pos (decide_eq_true hk) (r3.bind (Ab.neg (by decide) (Ab.E9 n2 (Ab.E9 m2 (Ab.E9 u2 (Ab.const _)))))))))⟩
    · exact ⟨0,[],2,by simp,Ab.bind (i1.bind (Ab.pos rfl (Ab.Iq (Oj _ _ _) (Ab.neg (by rw [decide_eq_true_eq]; exact hk) (Ab.const _))))) (Ab.neg (by decide) (Ab.const _)),s1.bind (Ab.pos rfl (Ab.Iq (U1 _ _ _) (Ab.neg (by rw [decide_eq_true_eq]; exact hk) (Ab.const _))))⟩
def xD:Int:=1000000000000000
section
variable {kk:Int}
theorem w1 (h0:0≤kk) (h1:kk≤xD+10):w64 (kk+1)=kk+1:=by unfold xD at h1; exact F3 (by omega) (by omega)
end
def yF (gs:List Dr) (c:Int):Prop:=(c=0→gs.length=4)∧(c≠0→gs=[])∧gs.length≤4∧∀ j,(gs.getD j E5).Jh.length≤1000
theorem Sl (ts:List (List Bc)) (hn:ts.length≤2000000):∃ gs c,yF gs c∧Ab (fun K=>Eb.f K ts) (gs,c)∧Ab (fun K=>Ed.f K ts) (gs,c):=by
  have main:∀ d a (L:List Dr),4 - a=d→a≤4→L.length=a→(∀ j,(L.getD j E5).Jh.length≤1000)→∃ gs c,yF gs c∧Aa (fun K k=>Eb.l1 K k ts L (a:Int)) (gs,c)∧Aa (fun K k=>Ed.l1 K k ts L (a:Int)) (gs,c):=by
    intro d
    induction d with
    | zero =>
      intro a L hd ha hL hT
      refine ⟨L,0,⟨fun _=>by omega,fun h=>absurd rfl h,by omega,hT⟩,Aa.of fun K k=>?_,Aa.of fun K k=>?_⟩
      · rw [Eb.l1,if_neg (by omega)]
      · rw [Ed.l1,if_neg (by omega)]
    | succ d ih =>
      intro a L hd ha hL hT
      obtain ⟨g,t,c,ht,i1,s1⟩:=Tf ts hn (a:Int)
      by_cases hc:c=0
      · obtain ⟨gs,c',h1,h2,h3⟩:=ih (a+1) (L++[⟨g,t⟩]) (by omega) (by omega) (by rw [List.length_append,hL]; rfl) (fun j=>by
          rw [List.getD_eq_getElem?_getD,List.getElem?_append]
          split
          · rw [← List.getD_eq_getElem?_getD]; exact hT j
          · cases hj:j - L.length with
            | zero=>simpa using ht
            | succ m=>simp [E5])
        refine ⟨gs,c',h1,Aa.succ ?_,Aa.succ ?_⟩
        · simp only [Eb.l1]
          refine Aa.pos (by omega) (Aa.E9 i1.two (Aa.pos hc (Aa.pos (by omega) ?_)))
          rw [Ar (by omega)]; exact h2
        · simp only [Ed.l1]
          refine Aa.pos (by omega) (Aa.E9 s1.two (Aa.pos hc (Aa.pos (by omega) ?_)))
          rw [Ar (by omega)]; exact h3
      · refine ⟨[],c,⟨fun h=>absurd h hc,fun _=>rfl,by simp,fun j=>by simp [E5]⟩,Aa.succ ?_,Aa.succ ?_⟩
        · simp only [Eb.l1]
          exact Aa.pos (by omega) (Aa.E9 i1.two (Aa.neg hc (Aa.const _)))
        · simp only [Ed.l1]
          exact Aa.pos (by omega) (Aa.E9 s1.two (Aa.neg hc (Aa.const _)))
  obtain ⟨gs,c,h1,h2,h3⟩:=main 4 0 [] rfl (by omega) rfl (fun j=>by simp [E5])
  exact ⟨gs,c,h1,h2.Gz,h3.Gz⟩
theorem jQ {a b:List Int} (hl:a.length≤1000):∃ r,Ab (fun K=>Cy.f K a b) r∧Ab (fun K=>Fx.f K a b) r:=by
  by_cases he:(a.length:Int)=(b.length:Int)
  · have main:∀ d i,a.length - i=d→i≤a.length→∃ r,Aa (fun K k=>Cy.l1 K k a b (i:Int)) r∧Aa (fun K k=>Fx.l1 K k a b (i:Int)) r:=by
      intro d
      induction d with
      | zero =>
        intro i hd hi
        refine ⟨true,Aa.of fun K k=>?_,Aa.of fun K k=>?_⟩
        · rw [Cy.l1,if_neg (by omega)]
        · rw [Fx.l1,if_neg (by omega)]
      | succ d ih =>
        intro i hd hi
        by_cases hg:a.getD i 0=b.getD i 0
        · obtain ⟨r,h1,h2⟩:=ih (i+1) (by omega) (by omega)
          refine ⟨r,Aa.step (fun K k=>?_) h1,Aa.step (fun K k=>?_) h2⟩
          · rw [Cy.l1,if_pos (by omega),if_pos (by omega),if_pos (by omega),Int.toNat_natCast,if_pos hg,Ar (by omega)]
          · rw [Fx.l1,if_pos (by omega),if_pos (by omega),if_pos (by omega),Int.toNat_natCast,if_pos hg,Ar (by omega)]
        · refine ⟨false,Aa.of fun K k=>?_,Aa.of fun K k=>?_⟩
          · rw [Cy.l1,if_pos (by omega),if_pos (by omega),if_pos (by omega),Int.toNat_natCast,if_neg hg]
          · rw [Fx.l1,if_pos (by omega),if_pos (by omega),if_pos (by omega),Int.toNat_natCast,if_neg hg]
    obtain ⟨r,h1,h2⟩:=main _ 0 rfl (Nat.zero_le _)
    exact ⟨r,Ab.pos he h1.Gz,Ab.pos he h2.Gz⟩
  · exact ⟨false,Ab.neg he (Ab.const _),Ab.neg he (Ab.const _)⟩
theorem nR {x y:Dr} (hl:x.Jh.length≤1000):∃ r,Ab (fun K=>I8.f K x.Rank x.Jh y.Rank y.Jh) r ∧
    (x.Rank=y.Rank→Ab (fun K=>Fx.f K x.Jh y.Jh) r)∧(x.Rank≠y.Rank→r=false):=by
  obtain ⟨r,h1,h2⟩:=jQ (b:=y.Jh) hl
  by_cases e:x.Rank=y.Rank
  · exact ⟨r,Ab.pos e (h1.bind (Ab.const _)),fun _=>h2,fun h=>absurd e h⟩
  · exact ⟨false,Ab.neg e (Ab.const _),fun h=>absurd h e,fun _=>rfl⟩
theorem fU (ts us:List (List Bc)) (hn:ts.length≤2000000) (hm:us.length≤2000000):∃ r,Ab (fun K=>Ib.f K ts us) r∧Ab (fun K=>D7.f K ts us) r:=by
  obtain ⟨A,c,hA,i1,s1⟩:=Sl ts hn
  obtain ⟨B,c',hB,i2,s2⟩:=Sl us hm
  by_cases hc:c=0
  · by_cases hc':c'=0
    · have hA4:=hA.1 hc
      have hB4:=hB.1 hc'
      have main:∀ (d i:Nat),4 - i=d→i≤4→∃ r,Aa (fun K k=>Ae.l1 K k A B (i:Int)) r∧Aa (fun K k=>D7.l1 K k A B (i:Int)) r:=by
        intro d
        induction d with
        | zero =>
          intro i hd hi
          refine ⟨true,Aa.of fun K k=>?_,Aa.of fun K k=>?_⟩
          · rw [Ae.l1,if_neg (by omega)]
          · rw [D7.l1,if_neg (by omega)]
        | succ d ih =>
          intro i hd hi
          obtain ⟨r,g1,g2,g3⟩:=nR (x:=A.getD i E5) (y:=B.getD i E5) (hA.2.2.2 i)
          obtain ⟨q,h1,h2⟩:=ih (i+1) (by omega) (by omega)
          have hi':Aa (fun K k=>Ae.l1 K k A B (i:Int)) (if r=true then q else false):=by
            refine Aa.step (G:=fun K k=>(I8.f K (A.getD i E5).Rank (A.getD i E5).Jh (B.getD i E5).Rank (B.getD i E5).Jh).bind fun t52=>if t52=true then Ae.l1 K k A B ((i+1:Nat):Int) else some false) (fun K k=>?_) (Aa.bind g1.two ?_)
            · rw [Ae.l1,if_pos (by omega),if_pos (by omega),Jc,if_pos (by omega),Jc,Int.toNat_natCast,Ar (by omega)]
            · cases r with
              | true=>exact Aa.pos rfl h1
              | false=>exact Aa.neg (by decide) (Aa.const _)
          refine ⟨_,hi',?_⟩
          by_cases e:(A.getD i E5).Rank=(B.getD i E5).Rank
          · refine Aa.step (G:=fun K k=>(Fx.f K (A.getD i E5).Jh (B.getD i E5).Jh).bind fun t70=>if t70=true then D7.l1 K k A B ((i+1:Nat):Int) else some false) (fun K k=>?_) (Aa.bind (g2 e).two ?_)
            · rw [D7.l1,if_pos (by omega),if_pos (by omega),Jc,if_pos (by omega),Jc,Int.toNat_natCast,if_pos e,Ar (by omega)]
            · cases r with
              | true=>exact Aa.pos rfl h2
              | false=>exact Aa.neg (by decide) (Aa.const _)
          · rw [g3 e,if_neg (by decide)]
            refine Aa.of fun K k=>?_
            rw [D7.l1,if_pos (by omega),if_pos (by omega),Jc,if_pos (by omega),Jc,Int.toNat_natCast,if_neg e]
      obtain ⟨r,h1,h2⟩:=main 4 0 rfl (by omega)
      exact ⟨r,Ab.Dy i1 (Ab.Dy i2 (Ab.pos hc (Ab.pos hc' (Ab.bind (Ab.pos (by omega) h1.Gz) (Ab.const _))))),Ab.Dy s1 (Ab.Dy s2 (Ab.pos hc (Ab.pos hc' h2.Gz)))⟩
    · exact ⟨false,Ab.Dy i1 (Ab.Dy i2 (Ab.pos hc (Ab.neg hc' (Ab.const _)))),Ab.Dy s1 (Ab.Dy s2 (Ab.pos hc (Ab.neg hc' (Ab.const _))))⟩
  · exact ⟨false,Ab.Dy i1 (Ab.Dy i2 (Ab.neg hc (Ab.const _))),Ab.Dy s1 (Ab.Dy s2 (Ab.neg hc (Ab.const _)))⟩
end Go.Proofs.YtgkgmhkgahalgaaGreat
