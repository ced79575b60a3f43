/-
  The boundary matrices of edges, faces and tetrahedra in both packages.
  The boundary matrices of the reference.
  Homology at one dimension, in both packages.
  Marks of lists, in general: what marking leaves is found again.
  Marks of triangulations that nobody looks at again.
  Numbers are copied, equal to themselves and marked.
  All homology, sameness, Betti numbers; groups equal, marked, held.
-/
import Derived.Test.YtgkgmhkgahalgaaGreatPlHM
import Derived.Test.YtgkgmhkgahalgaaGreatPlHA
set_option linter.unusedVariables false
set_option linter.unusedSimpArgs false
set_option linter.unusedSectionVars false
namespace Go.Proofs.YtgkgmhkgahalgaaGreat
open Go.RowKit
theorem jR (i:Nat):(i:Int).tmod 4=((i % 4:Nat):Int):=by
  rw [Int.tmod_eq_emod_of_nonneg (by omega)]; omega
theorem qH (i:Nat):(i:Int).tdiv 4=((i / 4:Nat):Int):=by
  rw [Int.tdiv_eq_ediv_of_nonneg (by omega)]; omega
def ee (f j:Nat):Nat:=EE (ov f (if j=0 then 1 else 0)) (ov f (if j=2 then 1 else 2))
def pw (j:Nat):Int:=if j % 2=1 then -1 else 1
theorem O7 (j:Nat):pw j=1∨pw j = -1:=by unfold pw; split <;> simp
theorem Py {f j:Nat} (hf:f<4) (hj:j<3):ints (OT [f,ov f j])=[(ov f (if j=0 then 1 else 0):Int),(ov f (if j=2 then 1 else 2):Int)]∧ov f (if j=0 then 1 else 0)≠ov f (if j=2 then 1 else 2)∧ee f j<6∧f≠ov f j∧EE (ov f ((j+1) % 3)) (ov f ((j+2) % 3))=ee f j∧ov f ((j+1) % 3)≠ov f ((j+2) % 3):=by
  rcases (by omega:f=0∨f=1∨f=2∨f=3) with rfl | rfl | rfl | rfl <;> rcases (by omega:j=0∨j=1∨j=2) with rfl | rfl | rfl <;> decide
theorem qE {j:Nat} (hj:j<4):Kg.f (j:Int)=some (pw j):=by
  rcases (by omega:j=0∨j=1∨j=2∨j=3) with rfl | rfl | rfl | rfl <;> rfl
structure Cls (ts:List (List Aw)) (vs ys fs Sg:List Int):Prop where
  n8:ts.length≤8
  hS:Sg.length=6 * ts.length
  vl:∀ j,j<6 * ts.length→Sg.getD j 0=0∨Sg.getD j 0=1∨Sg.getD j 0 = -1
section
variable {ts:List (List Aw)} (hv:Val ts) {vs ys fs Sg:List Int} (h:Cls ts vs ys fs Sg)
noncomputable def opE (ts:List (List Aw)) (vs ys:List Int) (i:Nat):List (Nat × Nat × Int):=if Gj ys i=true then [(Cn (CN (4 * ts.length) vs) (4 * (i / 6)+EB (i % 6)),Cn (CN (6 * ts.length) ys) i,1),(Cn (CN (4 * ts.length) vs) (4 * (i / 6)+EA (i % 6)),Cn (CN (6 * ts.length) ys) i,-1)] else []
noncomputable def opF (ts:List (List Aw)) (ys fs Sg:List Int) (i:Nat):List (Nat × Nat × Int):=if Gj fs i=true then [(Cn (CN (6 * ts.length) ys) (6 * (i / 4)+ee (i % 4) 0),Cn (CN (4 * ts.length) fs) i,pw 0 * Sg.getD (6 * (i / 4)+ee (i % 4) 0) 0),(Cn (CN (6 * ts.length) ys) (6 * (i / 4)+ee (i % 4) 1),Cn (CN (4 * ts.length) fs) i,pw 1 * Sg.getD (6 * (i / 4)+ee (i % 4) 1) 0),(Cn (CN (6 * ts.length) ys) (6 * (i / 4)+ee (i % 4) 2),Cn (CN (4 * ts.length) fs) i,pw 2 * Sg.getD (6 * (i / 4)+ee (i % 4) 2) 0)] else []
noncomputable def opT (ts:List (List Aw)) (fs:List Int) (i:Nat):List (Nat × Nat × Int):=[(Cn (CN (4 * ts.length) fs) i,i / 4,pw (i % 4) * FSg ts i)]
noncomputable def matE (ts:List (List Aw)) (vs ys:List Int) (x:Nat):List Int:=Nk (Bf ys (6 * ts.length)) (List.replicate (Bf vs (4 * ts.length) * Bf ys (6 * ts.length)) 0) (cat (opE ts vs ys) x)
noncomputable def matF (ts:List (List Aw)) (ys fs Sg:List Int) (x:Nat):List Int:=Nk (Bf fs (4 * ts.length)) (List.replicate (Bf ys (6 * ts.length) * Bf fs (4 * ts.length)) 0) (cat (opF ts ys fs Sg) x)
noncomputable def matT (ts:List (List Aw)) (fs:List Int) (x:Nat):List Int:=Nk ts.length (List.replicate (Bf fs (4 * ts.length) * ts.length) 0) (cat (opT ts fs) x)
theorem Ph {a b:Int} (ha:a=1∨a = -1) (hb:b=0∨b=1∨b = -1) : -1≤a * b∧a * b≤1∧w64 (a * b)=a * b:=by
  rcases ha with rfl | rfl <;> rcases hb with rfl | rfl | rfl <;> decide
include h
theorem vO {i:Nat} (hi:i<6 * ts.length):WO (Bf vs (4 * ts.length)) (Bf ys (6 * ts.length)) (opE ts vs ys i):=fun o ho=>by
  unfold opE at ho
  have hE:=EAB (show i % 6<6 by omega)
  split at ho
  · simp only [List.mem_cons,List.not_mem_nil,or_false] at ho
    have h3:=(K7 (s:=ys) hi).2
    rcases ho with rfl | rfl
    · exact ⟨(K7 (by omega)).2,h3,(by decide:(-1:Int)≤1),(by decide:(1:Int)≤1)⟩
    · exact ⟨(K7 (by omega)).2,h3,(by decide:(-1:Int)≤-1),(by decide:(-1:Int)≤1)⟩
  · cases ho
theorem vG {i:Nat} (hi:i<4 * ts.length):WO (Bf ys (6 * ts.length)) (Bf fs (4 * ts.length)) (opF ts ys fs Sg i):=fun o ho=>by
  unfold opF at ho
  have hf:i % 4<4:=by omega
  have e0:=(Py hf (show 0<3 by omega)).2.2.1
  have e1:=(Py hf (show 1<3 by omega)).2.2.1
  have e2:=(Py hf (show 2<3 by omega)).2.2.1
  split at ho
  · simp only [List.mem_cons,List.not_mem_nil,or_false] at ho
    have h3:=(K7 (s:=fs) hi).2
    rcases ho with rfl | rfl | rfl
    · have:=Ph (O7 0) (h.vl (6 * (i / 4)+ee (i % 4) 0) (by omega))
      exact ⟨(K7 (by omega)).2,h3,this.1,this.2.1⟩
    · have:=Ph (O7 1) (h.vl (6 * (i / 4)+ee (i % 4) 1) (by omega))
      exact ⟨(K7 (by omega)).2,h3,this.1,this.2.1⟩
    · have:=Ph (O7 2) (h.vl (6 * (i / 4)+ee (i % 4) 2) (by omega))
      exact ⟨(K7 (by omega)).2,h3,this.1,this.2.1⟩
  · cases ho
theorem tX {i:Nat} (hi:i<4 * ts.length):WO (Bf fs (4 * ts.length)) ts.length (opT ts fs i):=fun o ho=>by
  unfold opT at ho
  rw [List.mem_singleton] at ho
  subst ho
  have:=Ph (O7 (i % 4)) (.inr (Yt ts i))
  exact ⟨(K7 hi).2,by show i / 4<ts.length; omega,this.1,this.2.1⟩
theorem Zk:Bf vs (4 * ts.length)≤32∧Bf ys (6 * ts.length)≤48∧Bf fs (4 * ts.length)≤32:=by
  have:=h.n8
  have:=K6 vs (4 * ts.length)
  have:=K6 ys (6 * ts.length)
  have:=K6 fs (4 * ts.length)
  omega
theorem Uc {x:Nat} (hx:x≤6 * ts.length):(matE ts vs ys x).length=Bf vs (4 * ts.length) * Bf ys (6 * ts.length)∧Bt 1000 (matE ts vs ys x):=by
  refine ⟨by unfold matE; rw [P5,List.length_replicate],fun p=>?_⟩
  have:=Rn (Ug (Bf vs (4 * ts.length) * Bf ys (6 * ts.length))) (Yx (F:=opE ts vs ys) (fun i hi=>vO h hi) x hx) p
  have hl:=Ud (F:=opE ts vs ys) (c:=2) (fun i=>by unfold opE; split <;> simp) x
  have:=h.n8
  unfold matE
  omega
theorem Tw {x:Nat} (hx:x≤4 * ts.length):(matF ts ys fs Sg x).length=Bf ys (6 * ts.length) * Bf fs (4 * ts.length)∧Bt 1000 (matF ts ys fs Sg x):=by
  refine ⟨by unfold matF; rw [P5,List.length_replicate],fun p=>?_⟩
  have:=Rn (Ug (Bf ys (6 * ts.length) * Bf fs (4 * ts.length))) (Yx (F:=opF ts ys fs Sg) (fun i hi=>vG h hi) x hx) p
  have hl:=Ud (F:=opF ts ys fs Sg) (c:=3) (fun i=>by unfold opF; split <;> simp) x
  have:=h.n8
  unfold matF
  omega
theorem Tz {x:Nat} (hx:x≤4 * ts.length):(matT ts fs x).length=Bf fs (4 * ts.length) * ts.length∧Bt 1000 (matT ts fs x):=by
  refine ⟨by unfold matT; rw [P5,List.length_replicate],fun p=>?_⟩
  have:=Rn (Ug (Bf fs (4 * ts.length) * ts.length)) (Yx (F:=opT ts fs) (fun i hi=>tX h hi) x hx) p
  have hl:=Ud (F:=opT ts fs) (c:=1) (fun i=>by unfold opT; simp) x
  have:=h.n8
  unfold matT
  omega
theorem oU (hV:Ab (fun K=>Dm.f K ts) (CN (4 * ts.length) vs)) (hE:Ab (fun K=>Bv.f K ts) (CN (6 * ts.length) ys)) :
    Ab (fun K=>Br.f K ts) ((Bf vs (4 * ts.length):Int),(Bf ys (6 * ts.length):Int),matE ts vs ys (6 * ts.length)):=by
  have h8:=h.n8
  obtain ⟨b0,b1,b2⟩:=Zk h
  have lV:=L6 (4 * ts.length) vs
  have lE:=L6 (6 * ts.length) ys
  have main:∀ d c x,Bf ys (6 * ts.length) - c=d→c≤Bf ys (6 * ts.length)→x≤6 * ts.length→Bf ys x=c→Aa (fun K k=>Br.l1 K k (CN (4 * ts.length) vs) (CN (6 * ts.length) ys) (Bf vs (4 * ts.length):Int) (Bf ys (6 * ts.length):Int) (matE ts vs ys x) (c:Int)) ((Bf vs (4 * ts.length):Int),(Bf ys (6 * ts.length):Int),matE ts vs ys (6 * ts.length)):=by
    intro d
    induction d with
    | zero =>
      intro c x hd hc hx hcx
      have e:matE ts vs ys x=matE ts vs ys (6 * ts.length):=by
        unfold matE
        rw [Rc hx (fun j h1 h2=>by
          unfold opE
          rw [if_neg]
          intro hf
          have:=Lu hf h2
          have:=Kz ys h1
          omega)]
      refine Aa.of fun K k=>?_
      rw [Br.l1,if_neg (by omega),e]
    | succ d ih =>
      intro c x hd hc hx hcx
      obtain ⟨i,i1,i2,i3,i4,i5,i6,i7⟩:=U0 hx hcx (by omega)
      have eM:matE ts vs ys x=matE ts vs ys i:=by
        unfold matE
        rw [Rc i1 (fun j h1 h2=>by unfold opE; rw [i7 j h1 h2,if_neg (by decide)])]
      rw [eM]
      obtain ⟨l1,l2⟩:=Uc h (x:=i) (by omega)
      obtain ⟨q1,q2,q3⟩:=EAB (show i % 6<6 by omega)
      have hw:w64 ((i:Int).tdiv 6)=((i / 6:Nat):Int):=by rw [iT,F6 (by omega) (by omega)]
      have hB:w64 (w64 (4 * w64 ((i:Int).tdiv 6))+(EB (i % 6):Int))=((4 * (i / 6)+EB (i % 6):Nat):Int):=by rw [hw]; exact w6 (c:=4) (by decide) (by omega) (by omega)
      have hA:w64 (w64 (4 * w64 ((i:Int).tdiv 6))+(EA (i % 6):Int))=((4 * (i / 6)+EA (i % 6):Nat):Int):=by rw [hw]; exact w6 (c:=4) (by decide) (by omega) (by omega)
      obtain ⟨gB,gB'⟩:=K7 (s:=vs) (show 4 * (i / 6)+EB (i % 6)<4 * ts.length by omega)
      obtain ⟨gA,gA'⟩:=K7 (s:=vs) (show 4 * (i / 6)+EA (i % 6)<4 * ts.length by omega)
      have eo:matE ts vs ys (i+1)=Oz (Bf ys (6 * ts.length)) (Oz (Bf ys (6 * ts.length)) (matE ts vs ys i) (Cn (CN (4 * ts.length) vs) (4 * (i / 6)+EB (i % 6)),c,1)) (Cn (CN (4 * ts.length) vs) (4 * (i / 6)+EA (i % 6)),c,-1):=by
        unfold matE
        rw [cat,Lh]
        conv=>lhs; rw [opE,if_pos i3,i5]
        rfl
      have nx:=ih (c+1) (i+1) (by omega) (by omega) (by omega) (by rw [Kv,i3,i4]; rfl)
      rw [eo] at nx
      have l3:=Ro (n:=Bf ys (6 * ts.length)) (o:=(Cn (CN (4 * ts.length) vs) (4 * (i / 6)+EB (i % 6)),c,1)) l2 (by show (-1:Int)≤1; decide) (by show (1:Int)≤1; decide)
      unfold Oz at l3
      refine Aa.succ ?_
      simp only [Br.l1]
      refine Aa.pos (by omega) (Aa.bind (Y6 (j0:=i) (by omega) (by omega) (by rw [(K7 i2).1,i5]) i6).two ?_)
      refine Aa.Dz (a:=(EA (i % 6):Int)) (b:=(EB (i % 6):Int)) (by rw [mI]; exact (Xv (by omega)).two) ?_
      rw [hB,hA]
      refine Aa.pos (by omega) ?_
      rw [Int.toNat_natCast,gB]
      refine Aa.congr (fun K k=>eU l1 l1 gB' (show c<Bf ys (6 * ts.length) by omega) (by omega) (by omega)) (Aa.pos (by omega) ?_)
      rw [Int.toNat_natCast,Int.toNat_natCast,gA,Xk l2 (by omega) _ (by omega) (by omega)]
      refine Aa.congr (fun K k=>eU (M:=(matE ts vs ys i).set _ _) (by rw [List.length_set]; exact l1) (by rw [List.length_set]; exact l1) gA' (show c<Bf ys (6 * ts.length) by omega) (by omega) (by omega)) ?_
      rw [Int.toNat_natCast,Ap (by omega),show ∀ z:Int,z - 1=z + -1 from fun _=>rfl,Xk l3 (by omega) _ (by omega) (by omega)]
      exact nx
  have hz:=Po (m:=Bf vs (4 * ts.length)) (n:=Bf ys (6 * ts.length)) (by omega) (by omega)
  unfold Br.f
  refine hV.bind (hE.bind (Ab.bind (Mr (by omega)) (Ab.bind (Mr (by omega)) (Ab.Fe (Ab.congr (fun K=>hz) (Ab.const _)) ?_))))
  exact (main _ 0 0 rfl (by omega) (by omega) rfl).G9
theorem nX (hE:Ab (fun K=>Bv.f K ts) (CN (6 * ts.length) ys)) (hF:Ab (fun K=>Cz.f K ts) (CN (4 * ts.length) fs)) (hG:Ab (fun K=>Ai.f K ts) Sg) :
    Ab (fun K=>Aq.f K ts) ((Bf ys (6 * ts.length):Int),(Bf fs (4 * ts.length):Int),matF ts ys fs Sg (4 * ts.length)):=by
  have h8:=h.n8
  obtain ⟨b0,b1,b2⟩:=Zk h
  have lF:=L6 (4 * ts.length) fs
  have lE:=L6 (6 * ts.length) ys
  have hS:=h.hS
  have inner:∀ (i c:Nat) (R:Int × Int × List Int),i<4 * ts.length→c<Bf fs (4 * ts.length)→∀ (d j:Nat) (M:List Int),3 - j=d→j≤3→M.length=Bf ys (6 * ts.length) * Bf fs (4 * ts.length)→Bt (1000+j) M →
      Aa (fun K k=>Aq.l1 K k (CN (6 * ts.length) ys) (CN (4 * ts.length) fs) Sg (Bf ys (6 * ts.length):Int) (Bf fs (4 * ts.length):Int) (Nk (Bf fs (4 * ts.length)) M (([0,1,2].drop j).map fun j=>(Cn (CN (6 * ts.length) ys) (6 * (i / 4)+ee (i % 4) j),c,pw j * Sg.getD (6 * (i / 4)+ee (i % 4) j) 0))) ((c+1:Nat):Int)) R →
      Aa (fun K k=>Aq.l4 K k (CN (6 * ts.length) ys) (CN (4 * ts.length) fs) Sg (Bf ys (6 * ts.length):Int) (Bf fs (4 * ts.length):Int) (c:Int) (i:Int) [(ov (i % 4) 0:Int),(ov (i % 4) 1:Int),(ov (i % 4) 2:Int)] M (j:Int)) R:=by
    intro i c R hi hc d
    have hf:i % 4<4:=by omega
    have hlen:(([(ov (i % 4) 0:Int),(ov (i % 4) 1:Int),(ov (i % 4) 2:Int)]:List Int).length:Int)=3:=rfl
    have hw:w64 ((i:Int).tdiv 4)=((i / 4:Nat):Int):=by rw [qH,F6 (by omega) (by omega)]
    induction d with
    | zero =>
      intro j M hd hj hl hb hR
      obtain rfl:j=3:=by omega
      refine Aa.step (fun K k=>?_) hR
      rw [Aq.l4,hlen,if_neg (by omega),Ap (by omega)]
      rfl
    | succ d ih =>
      intro j M hd hj hl hb hR
      have hj3:j<3:=by omega
      obtain ⟨f1,f2,f3,f4,_,_⟩:=Py hf hj3
      have ho:=Vk hf hj3
      have o1:ov (i % 4) (if j=0 then 1 else 0)<4:=Vk hf (by split <;> omega)
      have o2:ov (i % 4) (if j=2 then 1 else 2)<4:=Vk hf (by split <;> omega)
      have hd':([(ov (i % 4) 0:Int),(ov (i % 4) 1:Int),(ov (i % 4) 2:Int)]:List Int).getD j 0=(ov (i % 4) j:Int):=by rcases (by omega:j=0∨j=1∨j=2) with rfl | rfl | rfl <;> rfl
      have hi6:w64 (w64 (6 * w64 ((i:Int).tdiv 4))+(ee (i % 4) j:Int))=((6 * (i / 4)+ee (i % 4) j:Nat):Int):=by rw [hw]; exact w6 (c:=6) (by decide) (by omega) (by omega)
      obtain ⟨gB,gB'⟩:=K7 (s:=ys) (show 6 * (i / 4)+ee (i % 4) j<6 * ts.length by omega)
      obtain ⟨p1,p2,p3⟩:=Ph (O7 j) (h.vl (6 * (i / 4)+ee (i % 4) j) (by omega))
      have edr:([0,1,2].drop j:List Nat)=j::[0,1,2].drop (j+1):=by rcases (by omega:j=0∨j=1∨j=2) with rfl | rfl | rfl <;> rfl
      rw [edr] at hR
      have nx:=ih (j+1) (Oz (Bf fs (4 * ts.length)) M (Cn (CN (6 * ts.length) ys) (6 * (i / 4)+ee (i % 4) j),c,pw j * Sg.getD (6 * (i / 4)+ee (i % 4) j) 0)) (by omega) (by omega) (by unfold Oz; rw [List.length_set]; exact hl) (Ro hb p1 p2) hR
      have hothers:Ab (fun K=>Gp.f K [((i:Int).tmod 4),(ov (i % 4) j:Int)]) [(ov (i % 4) (if j=0 then 1 else 0):Int),(ov (i % 4) (if j=2 then 1 else 2):Int)]:=by
        rw [jR,← f1]; exact Wz hf ho f4
      have hedge:Ab (fun K=>Ht.f K (ov (i % 4) (if j=0 then 1 else 0):Int) (ov (i % 4) (if j=2 then 1 else 2):Int)) (ee (i % 4) j:Int):=aZ o1 o2 f2
      refine Aa.succ ?_
      simp only [Aq.l4,hlen]
      refine Aa.pos (by omega) (Aa.pos ⟨by omega,by omega⟩ ?_)
      rw [Int.toNat_natCast,hd']
      refine Aa.bind hothers.two (Aa.pos (by simp only [List.length_cons,List.length_nil]; omega) (Aa.pos (by simp only [List.length_cons,List.length_nil]; omega) (Aa.bind hedge.two ?_)))
      rw [hi6]
      refine Aa.pos (by omega) ?_
      rw [Int.toNat_natCast,gB]
      refine Aa.congr (fun K k=>eU hl hl gB' hc (by omega) (by omega)) (Aa.I7 (qE (by omega)) (Aa.pos (by omega) ?_))
      rw [Int.toNat_natCast,p3,Xk hb (by omega) _ p1 p2,Ap (by omega)]
      exact nx
  have main:∀ d c x,Bf fs (4 * ts.length) - c=d→c≤Bf fs (4 * ts.length)→x≤4 * ts.length→Bf fs x=c→Aa (fun K k=>Aq.l1 K k (CN (6 * ts.length) ys) (CN (4 * ts.length) fs) Sg (Bf ys (6 * ts.length):Int) (Bf fs (4 * ts.length):Int) (matF ts ys fs Sg x) (c:Int)) ((Bf ys (6 * ts.length):Int),(Bf fs (4 * ts.length):Int),matF ts ys fs Sg (4 * ts.length)):=by
    intro d
    induction d with
    | zero =>
      intro c x hd hc hx hcx
      have e:matF ts ys fs Sg x=matF ts ys fs Sg (4 * ts.length):=by
        unfold matF
        rw [Rc hx (fun j h1 h2=>by
          unfold opF
          rw [if_neg]
          intro hf
          have:=Lu hf h2
          have:=Kz fs h1
          omega)]
      refine Aa.of fun K k=>?_
      rw [Aq.l1,if_neg (by omega),e]
    | succ d ih =>
      intro c x hd hc hx hcx
      obtain ⟨i,i1,i2,i3,i4,i5,i6,i7⟩:=U0 hx hcx (by omega)
      have eM:matF ts ys fs Sg x=matF ts ys fs Sg i:=by
        unfold matF
        rw [Rc i1 (fun j h1 h2=>by unfold opF; rw [i7 j h1 h2,if_neg (by decide)])]
      rw [eM]
      obtain ⟨l1,l2⟩:=Tw h (x:=i) (by omega)
      have eo:matF ts ys fs Sg (i+1)=Nk (Bf fs (4 * ts.length)) (matF ts ys fs Sg i) (([0,1,2].drop 0).map fun j=>(Cn (CN (6 * ts.length) ys) (6 * (i / 4)+ee (i % 4) j),c,pw j * Sg.getD (6 * (i / 4)+ee (i % 4) j) 0)):=by
        unfold matF
        rw [cat,Lh]
        conv=>lhs; rw [opF,if_pos i3,i5]
        rfl
      have nx:=ih (c+1) (i+1) (by omega) (by omega) (by omega) (by rw [Kv,i3,i4]; rfl)
      rw [eo] at nx
      have hothers:Ab (fun K=>Gp.f K [((i:Int).tmod 4)]) [(ov (i % 4) 0:Int),(ov (i % 4) 1:Int),(ov (i % 4) 2:Int)]:=by
        rw [jR,← pY (by omega)]; exact Rz (by omega)
      refine Aa.succ ?_
      simp only [Aq.l1]
      refine Aa.pos (by omega) (Aa.bind (Y6 (j0:=i) (by omega) (by omega) (by rw [(K7 i2).1,i5]) i6).two (Aa.bind hothers.two ?_))
      exact inner i c _ i2 (by omega) 3 0 _ (by omega) (by omega) l1 l2 nx
  have hz:=Po (m:=Bf ys (6 * ts.length)) (n:=Bf fs (4 * ts.length)) (by omega) (by omega)
  unfold Aq.f
  refine hE.bind (hF.bind (hG.bind (Ab.bind (Mr (by omega)) (Ab.bind (Mr (by omega)) (Ab.Fe (Ab.congr (fun K=>hz) (Ab.const _)) ?_)))))
  exact (main _ 0 0 rfl (by omega) (by omega) rfl).G9
theorem rQ (hF:Ab (fun K=>Cz.f K ts) (CN (4 * ts.length) fs)) (hG:Ab (fun K=>D9.f K ts) (FL ts)) :
    Ab (fun K=>Bu.f K ts) ((Bf fs (4 * ts.length):Int),(ts.length:Int),matT ts fs (4 * ts.length)):=by
  have h8:=h.n8
  obtain ⟨b0,b1,b2⟩:=Zk h
  have lF:=L6 (4 * ts.length) fs
  have lG:=bO ts
  have main:∀ d x,4 * ts.length - x=d→x≤4 * ts.length→Aa (fun K k=>Bu.l1 K k (CN (4 * ts.length) fs) (FL ts) (Bf fs (4 * ts.length):Int) (ts.length:Int) (matT ts fs x) (x:Int)) ((Bf fs (4 * ts.length):Int),(ts.length:Int),matT ts fs (4 * ts.length)):=by
    intro d
    induction d with
    | zero =>
      intro x hd hx
      obtain rfl:x=4 * ts.length:=by omega
      refine Aa.of fun K k=>?_
      rw [Bu.l1,if_neg (by omega)]
    | succ d ih =>
      intro x hd hx
      have hx4:x<4 * ts.length:=by omega
      obtain ⟨l1,l2⟩:=Tz h (x:=x) hx
      obtain ⟨gB,gB'⟩:=K7 (s:=fs) hx4
      have hw:w64 ((x:Int).tdiv 4)=((x / 4:Nat):Int):=by rw [qH,F6 (by omega) (by omega)]
      obtain ⟨p1,p2,p3⟩:=Ph (O7 (x % 4)) (.inr (Yt ts x))
      have eo:matT ts fs (x+1)=Oz ts.length (matT ts fs x) (Cn (CN (4 * ts.length) fs) x,x / 4,pw (x % 4) * FSg ts x):=by
        unfold matT
        rw [cat,Lh]
        rfl
      have nx:=ih (x+1) (by omega) (by omega)
      rw [eo] at nx
      refine Aa.succ ?_
      simp only [Bu.l1]
      refine Aa.pos (by omega) (Aa.pos (by omega) ?_)
      rw [Int.toNat_natCast,gB,hw]
      refine Aa.congr (fun K k=>eU l1 l1 gB' (show x / 4<ts.length by omega) (by omega) (by omega)) ?_
      rw [jR]
      refine Aa.I7 (qE (by omega)) (Aa.pos (by omega) ?_)
      rw [Int.toNat_natCast,X6 hx4,p3,Xk l2 (by omega) _ p1 p2,Ap (by omega)]
      exact nx
  have hz:=Po (m:=Bf fs (4 * ts.length)) (n:=ts.length) (by omega) (by omega)
  unfold Bu.f
  refine hF.bind (hG.bind (Ab.bind (Mr (by omega)) (Ab.bind (a:=(ts.length:Int)) (Ab.const _) (Ab.Fe (Ab.congr (fun K=>hz) (Ab.const _)) ?_))))
  exact (main _ 0 rfl (by omega)).G9
end
theorem Og {n:Nat} {M:List Int} {o:Nat × Nat × Int}:(Oz n M o).length=M.length:=by unfold Oz; rw [List.length_set]
theorem xE {f j:Nat} (hf:f<4) (hj:j<3):([(ov f 0:Int),(ov f 1:Int),(ov f 2:Int)]:List Int).getD j 0=(ov f j:Int):=by
  rcases (by omega:j=0∨j=1∨j=2) with rfl | rfl | rfl <;> rfl
theorem tm3 {j c:Nat} (hj:j<3) (hc:c≤3):(w64 ((j:Int)+(c:Int))).tmod 3=(((j+c) % 3:Nat):Int):=by
  rw [F6 (by omega) (by omega),Int.tmod_eq_emod_of_nonneg (by omega)]; omega
section
variable {ts:List (List Aw)} {vs ys fs Sg:List Int} (h:Cls ts vs ys fs Sg)
include h
theorem bZ {i:Nat} (hi:i<6 * ts.length) (hf:Gj ys i=true):matE ts vs ys (i+1)=Oz (Bf ys (6 * ts.length)) (Oz (Bf ys (6 * ts.length)) (matE ts vs ys i) (Cn (CN (4 * ts.length) vs) (4 * (i / 6)+EB (i % 6)),Cn (CN (6 * ts.length) ys) i,1)) (Cn (CN (4 * ts.length) vs) (4 * (i / 6)+EA (i % 6)),Cn (CN (6 * ts.length) ys) i,-1):=by
  unfold matE
  rw [cat,Lh]
  conv=>lhs; rw [opE,if_pos hf]
  rfl
theorem mO {i:Nat} (hf:Gj ys i=false):matE ts vs ys (i+1)=matE ts vs ys i:=by
  unfold matE
  rw [cat,Lh]
  conv=>lhs; rw [opE,if_neg (by rw [hf]; decide)]
  rfl
theorem jO {i:Nat} (hf:Gj fs i=false):matF ts ys fs Sg (i+1)=matF ts ys fs Sg i:=by
  unfold matF
  rw [cat,Lh]
  conv=>lhs; rw [opF,if_neg (by rw [hf]; decide)]
  rfl
theorem aR {i:Nat} (hf:Gj fs i=true):matF ts ys fs Sg (i+1)=Nk (Bf fs (4 * ts.length)) (matF ts ys fs Sg i) (([0,1,2].drop 0).map fun j=>(Cn (CN (6 * ts.length) ys) (6 * (i / 4)+ee (i % 4) j),Cn (CN (4 * ts.length) fs) i,pw j * Sg.getD (6 * (i / 4)+ee (i % 4) j) 0)):=by
  unfold matF
  rw [cat,Lh]
  conv=>lhs; rw [opF,if_pos hf]
  rfl
theorem iG {i:Nat}:matT ts fs (i+1)=Oz ts.length (matT ts fs i) (Cn (CN (4 * ts.length) fs) i,i / 4,pw (i % 4) * FSg ts i):=by
  unfold matT
  rw [cat,Lh]
  rfl
theorem Zh {o:Int} (o1:o≠1) (o2:o≠2) (o3:o≠3) {r c:Int} {M:List Int}:∀ d a,ts.length - a=d→a≤ts.length→Aa (fun K k=>Ac.l1 K k ts o (rowsOf (CN (4 * ts.length) vs) 4 ts.length) (rowsOf (CN (6 * ts.length) ys) 6 ts.length) (rowsOf (CN (4 * ts.length) fs) 4 ts.length) r c (rowsOf Sg 6 ts.length) (rowsOf (FL ts) 4 ts.length) M [] [] (a:Int)) (r,c,M):=by
  have h8:=h.n8
  have e7:D7.f ts=some (ts.length:Int):=rfl
  intro d
  induction d with
  | zero =>
    intro a hd ha
    refine Aa.of fun K k=>?_
    rw [Ac.l1,e7,Option.bind_some,if_neg (by omega)]
  | succ d ih =>
    intro a hd ha
    refine Aa.step (fun K k=>by rw [Ac.l1,e7,Option.bind_some,if_pos (by omega)]) ?_
    refine Aa.step (fun K k=>by rw [Ac.Tm,if_pos (by omega),if_neg o1]) ?_
    refine Aa.step (fun K k=>by rw [Ac.Tj,if_pos (by omega),if_neg o2]) ?_
    refine Aa.step (fun K k=>by rw [Ac.Xo,if_pos (by omega),if_neg o3,Ap (by omega)]) ?_
    exact ih (a+1) (by omega) (by omega)
theorem tJ {o:Int} (ho:o=1) {a:Nat} (ha:a<ts.length) {R:Int × Int × List Int} (hR:Aa (fun K k=>Ac.l1 K k ts o (rowsOf (CN (4 * ts.length) vs) 4 ts.length) (rowsOf (CN (6 * ts.length) ys) 6 ts.length) (rowsOf (CN (4 * ts.length) fs) 4 ts.length) (Bf vs (4 * ts.length):Int) (Bf ys (6 * ts.length):Int) (rowsOf Sg 6 ts.length) (rowsOf (FL ts) 4 ts.length) (matE ts vs ys (6 * (a+1))) (upto (Bf ys (6 * (a+1)))) [] ((a+1:Nat):Int)) R) :
    ∀ (d e:Nat),6 - e=d→e≤6→Aa (fun K k=>Ac.Tm K k ts o (rowsOf (CN (4 * ts.length) vs) 4 ts.length) (rowsOf (CN (6 * ts.length) ys) 6 ts.length) (rowsOf (CN (4 * ts.length) fs) 4 ts.length) (Bf vs (4 * ts.length):Int) (Bf ys (6 * ts.length):Int) (rowsOf Sg 6 ts.length) (rowsOf (FL ts) 4 ts.length) [] (a:Int) (matE ts vs ys (6 * a+e)) (upto (Bf ys (6 * a+e))) (e:Int)) R:=by
  have h8:=h.n8
  obtain ⟨b0,b1,b2⟩:=Zk h
  have lV:=L6 (4 * ts.length) vs
  have lE:=L6 (6 * ts.length) ys
  intro d
  induction d with
  | zero =>
    intro e hd he
    obtain rfl:e=6:=by omega
    refine Aa.step (fun K k=>by rw [Ac.Tm,if_neg (by omega)]) ?_
    refine Aa.step (fun K k=>by rw [Ac.dD,if_pos (by omega),if_neg (by omega)]) ?_
    refine Aa.step (fun K k=>by rw [Ac.gJ,if_pos (by omega),if_neg (by omega),Ap (by omega)]) ?_
    exact hR
  | succ d ih =>
    intro e hd he
    have he6:e<6:=by omega
    have e1:(6 * a+e) / 6=a:=by omega
    have e2:(6 * a+e) % 6=e:=by omega
    have hi:6 * a+e<6 * ts.length:=by omega
    have nx:=ih (e+1) (by omega) (by omega)
    rw [show 6 * a+(e+1)=6 * a+e+1 from rfl] at nx
    obtain ⟨q1,q2,q3⟩:=EAB he6
    have q1:EA e<4:=by omega
    obtain ⟨gE,gE'⟩:=K7 (s:=ys) hi
    obtain ⟨gB,gB'⟩:=K7 (s:=vs) (show 4 * a+EB e<4 * ts.length by omega)
    obtain ⟨gA,gA'⟩:=K7 (s:=vs) (show 4 * a+EA e<4 * ts.length by omega)
    have hm:=Kz ys (show 6 * a+e≤6 * ts.length by omega)
    obtain ⟨l1,l2⟩:=Uc h (x:=6 * a+e) (by omega)
    refine Aa.succ ?_
    simp only [Ac.Tm,Int.toNat_natCast,Ky ha,J9 he6,Lj,Jz,gE]
    refine Aa.pos (by omega) (Aa.pos ho (Aa.pos (by omega) (Aa.pos (by omega) (Aa.bind (qC (by omega) _).two ?_))))
    cases hf:Gj ys (6 * a+e) with
    | true =>
      have hc:=Q5 hi hf
      have eM:=bZ h hi hf
      rw [e1,e2] at eM
      rw [eM,Kv,hf,if_pos rfl,Qb] at nx
      refine Aa.neg (by rw [hc,decide_eq_false (by omega)]; decide) (Aa.pos (by rw [Kt]; omega) ?_)
      refine Aa.Dz (a:=(EA e:Int)) (b:=(EB e:Int)) (Aa.congr (fun K k=>Tx he6) (Aa.const _)) ?_
      simp only [Int.toNat_natCast,J9 q1,J9 q2,gA,gB]
      refine Aa.pos (by omega) (Aa.pos (by omega) (Aa.I7 (Xw l1 l2 (by omega) gB' gE' (by omega) (by omega) (by decide) (by decide)) (Aa.pos Og (Aa.pos (by omega) ?_))))
      refine Aa.I7 (Xw (by rw [Og]; exact l1) (Ro l2 (by show (-1:Int)≤1; decide) (by show (1:Int)≤1; decide)) (by omega) gA' gE' (by omega) (by omega) (by decide) (by decide)) (Aa.pos Og ?_)
      rw [Ap (by omega)]
      rw [hc] at nx ⊢
      exact nx
    | false =>
      have hc:=bS hi hf
      rw [mO h hf,Kv,hf,if_neg (by decide),Nat.add_zero] at nx
      refine Aa.pos (by rw [decide_eq_true hc]) ?_
      rw [Ap (by omega)]
      exact nx
theorem zV {o:Int} (ho:o=1):∀ (d a:Nat),ts.length - a=d→a≤ts.length→Aa (fun K k=>Ac.l1 K k ts o (rowsOf (CN (4 * ts.length) vs) 4 ts.length) (rowsOf (CN (6 * ts.length) ys) 6 ts.length) (rowsOf (CN (4 * ts.length) fs) 4 ts.length) (Bf vs (4 * ts.length):Int) (Bf ys (6 * ts.length):Int) (rowsOf Sg 6 ts.length) (rowsOf (FL ts) 4 ts.length) (matE ts vs ys (6 * a)) (upto (Bf ys (6 * a))) [] (a:Int)) ((Bf vs (4 * ts.length):Int),(Bf ys (6 * ts.length):Int),matE ts vs ys (6 * ts.length)):=by
  have e7:D7.f ts=some (ts.length:Int):=rfl
  intro d
  induction d with
  | zero =>
    intro a hd ha
    obtain rfl:a=ts.length:=by omega
    refine Aa.of fun K k=>?_
    rw [Ac.l1,e7,Option.bind_some,if_neg (by omega)]
  | succ d ih =>
    intro a hd ha
    refine Aa.step (fun K k=>by rw [Ac.l1,e7,Option.bind_some,if_pos (by omega)]) ?_
    exact tJ h ho (by omega) (ih (a+1) (by omega) (by omega)) 6 0 rfl (by omega)
theorem sJ {o:Int} {a f c:Nat} (ha:a<ts.length) (hf:f<4) {q:List Int} (hc:c<Bf fs (4 * ts.length)) (hgc:(CN (4 * ts.length) fs).getD (4 * a+f) 0=(c:Int)) {R:Int × Int × List Int}:∀ (d j:Nat) (M:List Int),3 - j=d→j≤3→M.length=Bf ys (6 * ts.length) * Bf fs (4 * ts.length)→Bt (1000+j) M →
    Aa (fun K k=>Ac.Tj K k ts o (rowsOf (CN (4 * ts.length) vs) 4 ts.length) (rowsOf (CN (6 * ts.length) ys) 6 ts.length) (rowsOf (CN (4 * ts.length) fs) 4 ts.length) (Bf ys (6 * ts.length):Int) (Bf fs (4 * ts.length):Int) (rowsOf Sg 6 ts.length) (rowsOf (FL ts) 4 ts.length) (a:Int) [] (Nk (Bf fs (4 * ts.length)) M (([0,1,2].drop j).map fun j=>(Cn (CN (6 * ts.length) ys) (6 * a+ee f j),c,pw j * Sg.getD (6 * a+ee f j) 0))) (q++[(c:Int)]) ((f+1:Nat):Int)) R →
    Aa (fun K k=>Ac.Zt K k ts o (rowsOf (CN (4 * ts.length) vs) 4 ts.length) (rowsOf (CN (6 * ts.length) ys) 6 ts.length) (rowsOf (CN (4 * ts.length) fs) 4 ts.length) (Bf ys (6 * ts.length):Int) (Bf fs (4 * ts.length):Int) (rowsOf Sg 6 ts.length) (rowsOf (FL ts) 4 ts.length) (a:Int) [] q (f:Int) [(ov f 0:Int),(ov f 1:Int),(ov f 2:Int)] M (j:Int)) R:=by
  have h8:=h.n8
  obtain ⟨b0,b1,b2⟩:=Zk h
  intro d
  induction d with
  | zero =>
    intro j M hd hj hl hb hR
    obtain rfl:j=3:=by omega
    refine Aa.step (fun K k=>?_) hR
    rw [Ac.Zt,if_neg (by omega),Ap (by omega)]
    simp only [Int.toNat_natCast,Ky ha,J9 hf,hgc]
    rfl
  | succ d ih =>
    intro j M hd hj hl hb hR
    have hj3:j<3:=by omega
    obtain ⟨f1,f2,f3,f4,f5,f6⟩:=Py hf hj3
    obtain ⟨gB,gB'⟩:=K7 (s:=ys) (show 6 * a+ee f j<6 * ts.length by omega)
    obtain ⟨p1,p2,p3⟩:=Ph (O7 j) (h.vl (6 * a+ee f j) (by omega))
    have edr:([0,1,2].drop j:List Nat)=j::[0,1,2].drop (j+1):=by rcases (by omega:j=0∨j=1∨j=2) with rfl | rfl | rfl <;> rfl
    rw [edr] at hR
    have nx:=ih (j+1) (Oz (Bf fs (4 * ts.length)) M (Cn (CN (6 * ts.length) ys) (6 * a+ee f j),c,pw j * Sg.getD (6 * a+ee f j) 0)) (by omega) (by omega) (by rw [Og]; exact hl) (Ro hb p1 p2) hR
    have hedge:Ab (fun K=>Eu.f K (ov f ((j+1) % 3):Int) (ov f ((j+2) % 3):Int)) (ee f j:Int):=by
      rw [← f5]; exact Yf (Vk hf (by omega)) (Vk hf (by omega)) f6
    have hin:Aa (fun K k=>Ac.bX K k ts o (rowsOf (CN (4 * ts.length) vs) 4 ts.length) (rowsOf (CN (6 * ts.length) ys) 6 ts.length) (rowsOf (CN (4 * ts.length) fs) 4 ts.length) (Bf ys (6 * ts.length):Int) (Bf fs (4 * ts.length):Int) (rowsOf Sg 6 ts.length) (rowsOf (FL ts) 4 ts.length) (a:Int) [] q (f:Int) [(ov f 0:Int),(ov f 1:Int),(ov f 2:Int)] M (j:Int) (ee f j:Int) (pw j * Sg.getD (6 * a+ee f j) 0)) R:=by
      refine Aa.succ ?_
      simp only [Ac.bX,Int.toNat_natCast,Ky ha,J9 hf,J9 f3,Lj,Jz,gB,hgc]
      refine Aa.pos (by omega) (Aa.pos (by omega) (Aa.I7 (Xw hl hb (by omega) gB' hc (by omega) (by omega) p1 p2) (Aa.pos Og ?_)))
      rw [Ap (by omega)]
      exact nx
    have hl3:(([(ov f 0:Int),(ov f 1:Int),(ov f 2:Int)]:List Int).length:Int)=3:=rfl
    have t1:=tm3 (c:=1) hj3 (by omega)
    have t2:=tm3 (c:=2) hj3 (by omega)
    refine Aa.succ ?_
    simp only [Ac.Zt,hl3]
    refine Aa.pos (by omega) ?_
    rw [show (w64 ((j:Int)+1)).tmod 3=(((j+1) % 3:Nat):Int) from t1,show (w64 ((j:Int)+2)).tmod 3=(((j+2) % 3:Nat):Int) from t2]
    refine Aa.pos (by omega) (Aa.pos (by omega) ?_)
    rw [Int.toNat_natCast,Int.toNat_natCast,xE hf (by omega),xE hf (by omega)]
    refine Aa.bind hedge.two ?_
    simp only [Int.toNat_natCast,Ky ha,J9 f3,Lj,Jz]
    refine Aa.pos (by omega) (Aa.pos (by omega) ?_)
    by_cases hj1:j=1
    · subst hj1
      refine Aa.pos rfl ?_
      rw [show w64 (0 - Sg.getD (6 * a+ee f 1) 0)=pw 1 * Sg.getD (6 * a+ee f 1) 0 from by rw [← p3]; unfold pw; rw [if_pos (by decide)]; congr 1; omega]
      exact hin
    · refine Aa.neg (by omega) ?_
      have:pw j=1:=by unfold pw; rw [if_neg (by omega)]
      rw [this,Int.one_mul] at hin
      exact hin
theorem uO {o:Int} (ho:o=2) {a:Nat} (ha:a<ts.length) {R:Int × Int × List Int} (hR:Aa (fun K k=>Ac.l1 K k ts o (rowsOf (CN (4 * ts.length) vs) 4 ts.length) (rowsOf (CN (6 * ts.length) ys) 6 ts.length) (rowsOf (CN (4 * ts.length) fs) 4 ts.length) (Bf ys (6 * ts.length):Int) (Bf fs (4 * ts.length):Int) (rowsOf Sg 6 ts.length) (rowsOf (FL ts) 4 ts.length) (matF ts ys fs Sg (4 * (a+1))) [] (upto (Bf fs (4 * (a+1)))) ((a+1:Nat):Int)) R) :
    ∀ (d f:Nat),4 - f=d→f≤4→Aa (fun K k=>Ac.Tj K k ts o (rowsOf (CN (4 * ts.length) vs) 4 ts.length) (rowsOf (CN (6 * ts.length) ys) 6 ts.length) (rowsOf (CN (4 * ts.length) fs) 4 ts.length) (Bf ys (6 * ts.length):Int) (Bf fs (4 * ts.length):Int) (rowsOf Sg 6 ts.length) (rowsOf (FL ts) 4 ts.length) (a:Int) [] (matF ts ys fs Sg (4 * a+f)) (upto (Bf fs (4 * a+f))) (f:Int)) R:=by
  have h8:=h.n8
  obtain ⟨b0,b1,b2⟩:=Zk h
  intro d
  induction d with
  | zero =>
    intro f hd hf
    obtain rfl:f=4:=by omega
    refine Aa.step (fun K k=>by rw [Ac.Tj,if_neg (by omega)]) ?_
    refine Aa.step (fun K k=>by rw [Ac.gX,if_pos (by omega),if_neg (by omega),Ap (by omega)]) ?_
    exact hR
  | succ d ih =>
    intro f hd hf
    have hf4:f<4:=by omega
    have e1:(4 * a+f) / 4=a:=by omega
    have e2:(4 * a+f) % 4=f:=by omega
    have hi:4 * a+f<4 * ts.length:=by omega
    have nx:=ih (f+1) (by omega) (by omega)
    rw [show 4 * a+(f+1)=4 * a+f+1 from rfl] at nx
    obtain ⟨gF,gF'⟩:=K7 (s:=fs) hi
    have hm:=Kz fs (show 4 * a+f≤4 * ts.length by omega)
    obtain ⟨l1,l2⟩:=Tw h (x:=4 * a+f) (by omega)
    refine Aa.succ ?_
    simp only [Ac.Tj,Int.toNat_natCast,Ky ha,J9 hf4,Lj,Jz,gF]
    refine Aa.pos (by omega) (Aa.pos ho (Aa.pos (by omega) (Aa.pos (by omega) (Aa.bind (qC (by omega) _).two ?_))))
    cases hfs:Gj fs (4 * a+f) with
    | true =>
      have hc:=Q5 hi hfs
      have eM:=aR h (ys:=ys) (Sg:=Sg) hfs
      rw [e1,e2] at eM
      rw [eM,Kv,hfs,if_pos rfl,Qb] at nx
      refine Aa.neg (by rw [hc,decide_eq_false (by omega)]; decide) (Aa.pos (by rw [Kt]; omega) (Aa.bind (eT hf4).two ?_))
      refine sJ h ha hf4 gF' gF 3 0 _ (by omega) (by omega) l1 l2 ?_
      rw [← hc] at nx
      rw [← hc]
      exact nx
    | false =>
      have hc:=bS hi hfs
      rw [jO h hfs,Kv,hfs,if_neg (by decide),Nat.add_zero] at nx
      refine Aa.pos (by rw [decide_eq_true hc]) ?_
      rw [Ap (by omega)]
      exact nx
theorem Aal {o:Int} (ho:o=2):∀ (d a:Nat),ts.length - a=d→a≤ts.length→Aa (fun K k=>Ac.l1 K k ts o (rowsOf (CN (4 * ts.length) vs) 4 ts.length) (rowsOf (CN (6 * ts.length) ys) 6 ts.length) (rowsOf (CN (4 * ts.length) fs) 4 ts.length) (Bf ys (6 * ts.length):Int) (Bf fs (4 * ts.length):Int) (rowsOf Sg 6 ts.length) (rowsOf (FL ts) 4 ts.length) (matF ts ys fs Sg (4 * a)) [] (upto (Bf fs (4 * a))) (a:Int)) ((Bf ys (6 * ts.length):Int),(Bf fs (4 * ts.length):Int),matF ts ys fs Sg (4 * ts.length)):=by
  have e7:D7.f ts=some (ts.length:Int):=rfl
  intro d
  induction d with
  | zero =>
    intro a hd ha
    obtain rfl:a=ts.length:=by omega
    refine Aa.of fun K k=>?_
    rw [Ac.l1,e7,Option.bind_some,if_neg (by omega)]
  | succ d ih =>
    intro a hd ha
    refine Aa.step (fun K k=>by rw [Ac.l1,e7,Option.bind_some,if_pos (by omega)]) ?_
    refine Aa.step (fun K k=>by rw [Ac.Tm,if_pos (by omega),if_neg (by omega)]) ?_
    exact uO h ho (by omega) (ih (a+1) (by omega) (by omega)) 4 0 rfl (by omega)
theorem uN {o:Int} (ho:o=3) {a:Nat} (ha:a<ts.length) {R:Int × Int × List Int} (hR:Aa (fun K k=>Ac.l1 K k ts o (rowsOf (CN (4 * ts.length) vs) 4 ts.length) (rowsOf (CN (6 * ts.length) ys) 6 ts.length) (rowsOf (CN (4 * ts.length) fs) 4 ts.length) (Bf fs (4 * ts.length):Int) (ts.length:Int) (rowsOf Sg 6 ts.length) (rowsOf (FL ts) 4 ts.length) (matT ts fs (4 * (a+1))) [] [] ((a+1:Nat):Int)) R) :
    ∀ (d f:Nat),4 - f=d→f≤4→Aa (fun K k=>Ac.Xo K k ts o (rowsOf (CN (4 * ts.length) vs) 4 ts.length) (rowsOf (CN (6 * ts.length) ys) 6 ts.length) (rowsOf (CN (4 * ts.length) fs) 4 ts.length) (Bf fs (4 * ts.length):Int) (ts.length:Int) (rowsOf Sg 6 ts.length) (rowsOf (FL ts) 4 ts.length) (a:Int) [] [] (matT ts fs (4 * a+f)) (f:Int)) R:=by
  have h8:=h.n8
  obtain ⟨b0,b1,b2⟩:=Zk h
  intro d
  induction d with
  | zero =>
    intro f hd hf
    obtain rfl:f=4:=by omega
    refine Aa.step (fun K k=>by rw [Ac.Xo,if_neg (by omega),Ap (by omega)]) ?_
    exact hR
  | succ d ih =>
    intro f hd hf
    have hf4:f<4:=by omega
    have e1:(4 * a+f) / 4=a:=by omega
    have e2:(4 * a+f) % 4=f:=by omega
    have hi:4 * a+f<4 * ts.length:=by omega
    have nx:=ih (f+1) (by omega) (by omega)
    have eM:=iG h (fs:=fs) (i:=4 * a+f)
    rw [e1,e2] at eM
    rw [show 4 * a+(f+1)=4 * a+f+1 from rfl,eM] at nx
    obtain ⟨gF,gF'⟩:=K7 (s:=fs) hi
    obtain ⟨l1,l2⟩:=Tz h (x:=4 * a+f) (by omega)
    obtain ⟨p1,p2,p3⟩:=Ph (O7 f) (.inr (Yt ts (4 * a+f)))
    have hin:Aa (fun K k=>Ac.aV K k ts o (rowsOf (CN (4 * ts.length) vs) 4 ts.length) (rowsOf (CN (6 * ts.length) ys) 6 ts.length) (rowsOf (CN (4 * ts.length) fs) 4 ts.length) (Bf fs (4 * ts.length):Int) (ts.length:Int) (rowsOf Sg 6 ts.length) (rowsOf (FL ts) 4 ts.length) (a:Int) [] [] (matT ts fs (4 * a+f)) (f:Int) (pw f * FSg ts (4 * a+f))) R:=by
      refine Aa.succ ?_
      simp only [Ac.aV,Int.toNat_natCast,Ky ha,J9 hf4,Lj,Jz,gF]
      refine Aa.pos (by omega) (Aa.pos (by omega) (Aa.I7 (Xw l1 l2 (by omega) gF' ha (by omega) (by omega) p1 p2) (Aa.pos Og ?_)))
      rw [Ap (by omega)]
      exact nx
    refine Aa.succ ?_
    simp only [Ac.Xo,Int.toNat_natCast,Ky ha,J9 hf4,Lj,Jz,X6 hi]
    refine Aa.pos (by omega) (Aa.pos ho (Aa.pos (by omega) (Aa.pos (by omega) ?_)))
    have ht:(f:Int).tmod 2=((f % 2:Nat):Int):=by rw [Int.tmod_eq_emod_of_nonneg (by omega)]; omega
    rw [ht]
    by_cases h1:f % 2=1
    · refine Aa.pos (by omega) ?_
      rw [show w64 (0 - FSg ts (4 * a+f))=pw f * FSg ts (4 * a+f) from by rw [← p3]; unfold pw; rw [if_pos h1]; congr 1; omega]
      exact hin
    · refine Aa.neg (by omega) ?_
      have:pw f=1:=by unfold pw; rw [if_neg h1]
      rw [this,Int.one_mul] at hin
      exact hin
theorem Aai {o:Int} (ho:o=3):∀ (d a:Nat),ts.length - a=d→a≤ts.length→Aa (fun K k=>Ac.l1 K k ts o (rowsOf (CN (4 * ts.length) vs) 4 ts.length) (rowsOf (CN (6 * ts.length) ys) 6 ts.length) (rowsOf (CN (4 * ts.length) fs) 4 ts.length) (Bf fs (4 * ts.length):Int) (ts.length:Int) (rowsOf Sg 6 ts.length) (rowsOf (FL ts) 4 ts.length) (matT ts fs (4 * a)) [] [] (a:Int)) ((Bf fs (4 * ts.length):Int),(ts.length:Int),matT ts fs (4 * ts.length)):=by
  have e7:D7.f ts=some (ts.length:Int):=rfl
  intro d
  induction d with
  | zero =>
    intro a hd ha
    obtain rfl:a=ts.length:=by omega
    refine Aa.of fun K k=>?_
    rw [Ac.l1,e7,Option.bind_some,if_neg (by omega)]
  | succ d ih =>
    intro a hd ha
    refine Aa.step (fun K k=>by rw [Ac.l1,e7,Option.bind_some,if_pos (by omega)]) ?_
    refine Aa.step (fun K k=>by rw [Ac.Tm,if_pos (by omega),if_neg (by omega)]) ?_
    refine Aa.step (fun K k=>by rw [Ac.Tj,if_pos (by omega),if_neg (by omega)]) ?_
    exact uN h ho (by omega) (ih (a+1) (by omega) (by omega)) 4 0 rfl (by omega)
end
theorem xQ {o:List Bool} (hl:o.length≤1000) {b:Bool} (hb:b=true↔∃ c,c<o.length∧o.getD c false=true):Ab (fun K=>Fg.f K o true) b:=by
  have main:∀ d i,o.length - i=d→i≤o.length→(∀ c,c<i→o.getD c false=false)→∃ z:Int,Aa (fun K k=>Dp.l1 K k o true (i:Int)) z∧decide (0≤z)=b:=by
    intro d
    induction d with
    | zero =>
      intro i hd hi h
      refine ⟨-1,Aa.of fun K k=>?_,?_⟩
      · rw [Dp.l1,if_neg (by omega)]
      · cases b with
        | false=>rfl
        | true=>obtain ⟨c,h1,h2⟩:=hb.1 rfl; rw [h c (by omega)] at h2; cases h2
    | succ d ih =>
      intro i hd hi h
      cases e:o.getD i false with
      | true =>
        refine ⟨(i:Int),Aa.of fun K k=>?_,?_⟩
        · rw [Dp.l1,if_pos (by omega),if_pos ⟨by omega,by omega⟩,Int.toNat_natCast,e]; rfl
        · rw [hb.2 ⟨i,by omega,e⟩]; exact decide_eq_true (by omega)
      | false =>
        obtain ⟨z,t,hz⟩:=ih (i+1) (by omega) (by omega) (fun c hc=>by
          by_cases e2:c=i
          · subst e2; exact e
          · exact h c (by omega))
        refine ⟨z,Aa.step (fun K k=>?_) t,hz⟩
        rw [Dp.l1,if_pos (by omega),if_pos ⟨by omega,by omega⟩,Int.toNat_natCast,e,Ap (by omega)]; rfl
  obtain ⟨z,t,hz⟩:=main _ 0 rfl (Nat.zero_le _) (fun c hc=>by omega)
  unfold Fg.f
  refine Ab.bind t.G9 ?_
  rw [hz]
  exact Ab.const _
theorem wF {ts:List (List Aw)} {Sg:List Int} (h8:ts.length≤8) (hSig:Ab (fun K=>Am.f K ts) (rowsOf Sg 6 ts.length)) {b:Bool} (hb:b=true↔∃ j,j<6 * ts.length∧Sg.getD j 0=0):Ab (fun K=>C9.f K ts) b:=by
  have inner:∀ a,a<ts.length→((∀ j,j<6 * (a+1)→Sg.getD j 0≠0)→Aa (fun K k=>C9.l1 K k (rowsOf Sg 6 ts.length) ((a+1:Nat):Int)) b)→∀ d e,6 - e=d→e≤6→(∀ j,j<6 * a+e→Sg.getD j 0≠0)→Aa (fun K k=>C9.l4 K k (rowsOf Sg 6 ts.length) (a:Int) (e:Int)) b:=by
    intro a ha hR d
    induction d with
    | zero =>
      intro e hd he h
      obtain rfl:e=6:=by omega
      refine Aa.step (fun K k=>?_) (hR h)
      rw [C9.l4,if_neg (by omega),Ap (by omega)]
    | succ d ih =>
      intro e hd he h
      have he6:e<6:=by omega
      refine Aa.succ ?_
      simp only [C9.l4,Int.toNat_natCast,Ky ha,J9 he6,Lj,Jz]
      refine Aa.pos (by omega) (Aa.pos (by omega) (Aa.pos (by omega) ?_))
      by_cases h0:Sg.getD (6 * a+e) 0=0
      · rw [hb.2 ⟨_,by omega,h0⟩]
        exact Aa.pos h0 (Aa.const _)
      · refine Aa.neg h0 ?_
        rw [Ap (by omega)]
        exact ih (e+1) (by omega) (by omega) fun j hj=>by
          by_cases e2:j=6 * a+e
          · subst e2; exact h0
          · exact h j (by omega)
  have main:∀ d a,ts.length - a=d→a≤ts.length→(∀ j,j<6 * a→Sg.getD j 0≠0)→Aa (fun K k=>C9.l1 K k (rowsOf Sg 6 ts.length) (a:Int)) b:=by
    intro d
    induction d with
    | zero =>
      intro a hd ha h
      obtain rfl:a=ts.length:=by omega
      refine Aa.of fun K k=>?_
      rw [C9.l1,if_neg (by rw [Jz]; omega)]
      cases b with
      | false=>rfl
      | true=>obtain ⟨j,h1,h2⟩:=hb.1 rfl; exact absurd h2 (h j h1)
    | succ d ih =>
      intro a hd ha h
      refine Aa.step (fun K k=>?_) (inner a (by omega) (ih (a+1) (by omega) (by omega)) 6 0 rfl (by omega) h)
      rw [C9.l1,if_pos (by rw [Jz]; omega)]
      rfl
  exact Ab.bind hSig (main _ 0 rfl (by omega) fun j hj=>by omega).G9
theorem Bt.bd {M:List Int} (h:Bt 1000 M):Bd M:=fun p=>by
  have:=h p
  omega
structure CD (ts:List (List Aw)) (vs ys fs Sg:List Int):Prop where
  c:Cls ts vs ys fs Sg
  z:∀ i j,i<6 * ts.length→j<6 * ts.length→(CN (6 * ts.length) ys).getD i 0=(CN (6 * ts.length) ys).getD j 0→(Sg.getD i 0=0↔Sg.getD j 0=0)
  p:Hg (6 * ts.length) (JE ts) ys
  tV:Ab (fun K=>Dm.f K ts) (CN (4 * ts.length) vs)
  tE:Ab (fun K=>Bv.f K ts) (CN (6 * ts.length) ys)
  tF:Ab (fun K=>Cz.f K ts) (CN (4 * ts.length) fs)
  gi:Ab (fun K=>Ai.f K ts) Sg
  gs:Ab (fun K=>Am.f K ts) (rowsOf Sg 6 ts.length)
  fi:Ab (fun K=>D9.f K ts) (FL ts)
  fz:Ab (fun K=>Aj.f K ts) (rowsOf (FL ts) 4 ts.length)
  tc:Ab (fun K=>Bl.f K ts) (rowsOf (CN (4 * ts.length) vs) 4 ts.length,rowsOf (CN (6 * ts.length) ys) 6 ts.length,rowsOf (CN (4 * ts.length) fs) 4 ts.length,[(Bf vs (4 * ts.length):Int),(Bf ys (6 * ts.length):Int),(Bf fs (4 * ts.length):Int),(ts.length:Int)])
section
variable {ts:List (List Aw)} (hv:Val ts)
include hv
theorem nO {s:List Int} (hP:Hg (6 * ts.length) (JE ts) s):∃ Sg:List Int,Sg.length=6 * ts.length∧(∀ j,j<6 * ts.length→Sg.getD j 0=0∨Sg.getD j 0=1∨Sg.getD j 0 = -1)∧(∀ i j,i<6 * ts.length→j<6 * ts.length→(CN (6 * ts.length) s).getD i 0=(CN (6 * ts.length) s).getD j 0→(Sg.getD i 0=0↔Sg.getD j 0=0)) ∧
    (Ab (fun K=>Bv.f K ts) (CN (6 * ts.length) s)→Ab (fun K=>Ai.f K ts) Sg)∧Ab (fun K=>Am.f K ts) (rowsOf Sg 6 ts.length):=by
  have h8:=hv.le
  have e6:w64 (6 * (ts.length:Int))=((6 * ts.length:Nat):Int):=w6' (c:=6) (by decide) (by omega)
  have hrep:∀ j,(List.replicate (6 * ts.length) (0:Int)).getD j 0=0:=fun j=>by rw [List.getD_eq_getElem?_getD,List.getElem?_replicate]; split <;> rfl
  obtain ⟨sg,rv,rev,o1,o2,o3,o4⟩:=outer hv hP (6 * ts.length) 0 (List.replicate (6 * ts.length) 0) (List.replicate (6 * ts.length) false) [] (by omega) (by omega) ⟨by simp,by simp,fun i j _ _ _ h=>absurd (hrep i) h,fun j _=>.inl (hrep j),fun j _ h=>absurd (hrep j) h,fun j _ _=>rfl⟩ (fun j hj=>by omega)
  have hg:∀ i,i<6 * ts.length→((List.range (6 * ts.length)).map (sgF (CN (6 * ts.length) s) sg rev)).getD i 0=sgF (CN (6 * ts.length) s) sg rev i:=fun i hi=>by rw [List.getD_eq_getElem?_getD,List.getElem?_map,List.getElem?_range hi]; rfl
  refine ⟨(List.range (6 * ts.length)).map (sgF (CN (6 * ts.length) s) sg rev),by simp,fun j hj=>?_,fun i j hi hj he=>?_,fun hc=>?_,?_⟩
  · rw [hg j hj]
    unfold sgF
    split
    · exact .inl rfl
    · exact o1.val j hj
  · rw [hg i hi,hg j hj]
    unfold sgF
    rw [he]
    split
    · exact Iff.rfl
    · exact ⟨fun e=>absurd e (o2 i hi),fun e=>absurd e (o2 j hj)⟩
  · have t:=o4 _ (sF hv hP (by omega) o1.len (L6 _ s) (6 * ts.length) 0 sg (by omega) (by omega) o1.len (fun j hj=>by rw [if_neg (by omega)]))
    refine Ab.I7 (x:=(ts.length:Int)) rfl (Ab.pos (by omega) (Ab.pos (by rw [e6]; omega) (Ab.bind hc ?_)))
    rw [e6,Int.toNat_natCast]
    exact t.G9
  · have t:=o3 _ (rC hv hP o1.len o1.tY (fun j hj=>o1.yes j hj (o2 j hj)) ts.length 0 (by omega) (by omega))
    refine Ab.I7 (x:=(ts.length:Int)) rfl (Ab.pos (by omega) (Ab.pos (by rw [e6]; omega) (Ab.pos (by rw [e6]; omega) ?_)))
    rw [e6,Int.toNat_natCast]
    exact t.G9
theorem wO:∃ vs ys fs Sg,CD ts vs ys fs Sg:=by
  obtain ⟨vs,ys,fs,h1,h2,h3,tc⟩:=nG hv
  obtain ⟨v',p1,t1⟩:=Tt hv
  obtain ⟨y',p2,t2⟩:=V5 hv
  obtain ⟨f',p3,t3⟩:=We hv
  rw [Yl (p1.same h1.p)] at t1
  rw [Yl (p2.same h2.p)] at t2
  rw [Yl (p3.same h3.p)] at t3
  obtain ⟨Sg,a1,a2,a3,a4,a5⟩:=nO hv h2.p
  exact ⟨vs,ys,fs,Sg,⟨hv.le,a1,a2⟩,a3,h2.p,t1,t2,t3,a4 t2,a5,aL hv (jW hv.le),Z5 hv,tc⟩
theorem aG {vs ys fs Sg:List Int} (h:CD ts vs ys fs Sg):Ab (fun K=>Ep.f K ts) [(Bf vs (4 * ts.length):Int),(Bf ys (6 * ts.length):Int),(Bf fs (4 * ts.length):Int),(ts.length:Int)]:=by
  have h8:=hv.le
  unfold Ep.f
  exact h.tV.bind (Ab.bind (Mr (by omega)) (h.tE.bind (Ab.bind (Mr (by omega)) (h.tF.bind (Ab.bind (Mr (by omega)) (Ab.bind (a:=(ts.length:Int)) (Ab.const _) (Ab.const _)))))))
theorem Tg {o:Int} (h0:0≤o) (h4:o≤4):∃ (r c:Nat) (M:List Int),r≤1000∧c≤1000∧M.length=r * c∧Bd M∧Ab (fun K=>Cr.f K ts o) ((r:Int),(c:Int),M)∧Ab (fun K=>Ac.f K ts o) ((r:Int),(c:Int),M):=by
  obtain ⟨vs,ys,fs,Sg,h⟩:=wO hv
  have h8:=hv.le
  obtain ⟨b0,b1,b2⟩:=Zk h.c
  have e0:matE ts vs ys (6 * 0)=List.replicate (Bf vs (4 * ts.length) * Bf ys (6 * ts.length)) 0:=rfl
  have zb:∀ N,Bd (List.replicate N (0:Int)):=fun N p=>by have:=Ug N p; omega
  rcases (by omega:o=0∨o=1∨o=2∨o=3∨o=4) with rfl | rfl | rfl | rfl | rfl
  · refine ⟨0,Bf vs (4 * ts.length),List.replicate (0 * Bf vs (4 * ts.length)) 0,by omega,by omega,List.length_replicate,zb _,?_,?_⟩
    · unfold Cr.f
      exact Ab.pos rfl ((aG hv h).bind (Ab.pos (by first | (simp only [List.length_cons,List.length_nil]; omega) | (show _∧_<(6:Int); decide)) (Ab.Fe (Ab.congr (fun K=>Po (m:=0) (by omega) (by omega)) (Ab.const _)) (Ab.const _))))
    · unfold Ac.f
      exact Ab.Gs h.tc (Ab.pos (by first | (simp only [List.length_cons,List.length_nil]; omega) | (show _∧_<(6:Int); decide)) (Ab.pos (by first | (simp only [List.length_cons,List.length_nil]; omega) | (show _∧_<(6:Int); decide)) (Ab.pos (by first | (simp only [List.length_cons,List.length_nil]; omega) | (show _∧_<(6:Int); decide)) (Ab.pos (by first | (simp only [List.length_cons,List.length_nil]; omega) | (show _∧_<(6:Int); decide)) (Ab.pos (by first | (simp only [List.length_cons,List.length_nil]; omega) | (show _∧_<(6:Int); decide)) (Ab.pos (by first | (simp only [List.length_cons,List.length_nil]; omega) | (show _∧_<(6:Int); decide)) (Ab.Fe (Ab.congr (fun K=>Ot (m:=0) (n:=Bf vs (4 * ts.length)) (by omega) (by omega)) (Ab.const _)) (h.gs.bind (h.fz.bind (Zh (o:=0) h.c (by decide) (by decide) (by decide) _ 0 rfl (by omega)).G9)))))))))
  · refine ⟨Bf vs (4 * ts.length),Bf ys (6 * ts.length),matE ts vs ys (6 * ts.length),by omega,by omega,(Uc h.c (by omega)).1,(Uc h.c (by omega)).2.bd,?_,?_⟩
    · unfold Cr.f
      exact Ab.neg (by decide) (Ab.pos rfl (Ab.Fe (oU h.c h.tV h.tE) (Ab.const _)))
    · unfold Ac.f
      exact Ab.Gs h.tc (Ab.pos (by first | (simp only [List.length_cons,List.length_nil]; omega) | (show _∧_<(6:Int); decide)) (Ab.pos (by first | (simp only [List.length_cons,List.length_nil]; omega) | (show _∧_<(6:Int); decide)) (Ab.pos (by first | (simp only [List.length_cons,List.length_nil]; omega) | (show _∧_<(6:Int); decide)) (Ab.pos (by first | (simp only [List.length_cons,List.length_nil]; omega) | (show _∧_<(6:Int); decide)) (Ab.pos (by first | (simp only [List.length_cons,List.length_nil]; omega) | (show _∧_<(6:Int); decide)) (Ab.pos (by first | (simp only [List.length_cons,List.length_nil]; omega) | (show _∧_<(6:Int); decide)) (Ab.Fe (Ab.congr (fun K=>Ot (m:=Bf vs (4 * ts.length)) (n:=Bf ys (6 * ts.length)) (by omega) (by omega)) (Ab.const _)) (h.gs.bind (h.fz.bind (zV h.c rfl _ 0 rfl (by omega)).G9)))))))))
  · refine ⟨Bf ys (6 * ts.length),Bf fs (4 * ts.length),matF ts ys fs Sg (4 * ts.length),by omega,by omega,(Tw h.c (by omega)).1,(Tw h.c (by omega)).2.bd,?_,?_⟩
    · unfold Cr.f
      exact Ab.neg (by decide) (Ab.neg (by decide) (Ab.pos rfl (Ab.Fe (nX h.c h.tE h.tF h.gi) (Ab.const _))))
    · unfold Ac.f
      exact Ab.Gs h.tc (Ab.pos (by first | (simp only [List.length_cons,List.length_nil]; omega) | (show _∧_<(6:Int); decide)) (Ab.pos (by first | (simp only [List.length_cons,List.length_nil]; omega) | (show _∧_<(6:Int); decide)) (Ab.pos (by first | (simp only [List.length_cons,List.length_nil]; omega) | (show _∧_<(6:Int); decide)) (Ab.pos (by first | (simp only [List.length_cons,List.length_nil]; omega) | (show _∧_<(6:Int); decide)) (Ab.pos (by first | (simp only [List.length_cons,List.length_nil]; omega) | (show _∧_<(6:Int); decide)) (Ab.pos (by first | (simp only [List.length_cons,List.length_nil]; omega) | (show _∧_<(6:Int); decide)) (Ab.Fe (Ab.congr (fun K=>Ot (m:=Bf ys (6 * ts.length)) (n:=Bf fs (4 * ts.length)) (by omega) (by omega)) (Ab.const _)) (h.gs.bind (h.fz.bind (Aal h.c rfl _ 0 rfl (by omega)).G9)))))))))
  · refine ⟨Bf fs (4 * ts.length),ts.length,matT ts fs (4 * ts.length),by omega,by omega,(Tz h.c (by omega)).1,(Tz h.c (by omega)).2.bd,?_,?_⟩
    · unfold Cr.f
      exact Ab.neg (by decide) (Ab.neg (by decide) (Ab.neg (by decide) (Ab.pos rfl (Ab.Fe (rQ h.c h.tF h.fi) (Ab.const _)))))
    · unfold Ac.f
      exact Ab.Gs h.tc (Ab.pos (by first | (simp only [List.length_cons,List.length_nil]; omega) | (show _∧_<(6:Int); decide)) (Ab.pos (by first | (simp only [List.length_cons,List.length_nil]; omega) | (show _∧_<(6:Int); decide)) (Ab.pos (by first | (simp only [List.length_cons,List.length_nil]; omega) | (show _∧_<(6:Int); decide)) (Ab.pos (by first | (simp only [List.length_cons,List.length_nil]; omega) | (show _∧_<(6:Int); decide)) (Ab.pos (by first | (simp only [List.length_cons,List.length_nil]; omega) | (show _∧_<(6:Int); decide)) (Ab.pos (by first | (simp only [List.length_cons,List.length_nil]; omega) | (show _∧_<(6:Int); decide)) (Ab.Fe (Ab.congr (fun K=>Ot (m:=Bf fs (4 * ts.length)) (n:=ts.length) (by omega) (by omega)) (Ab.const _)) (h.gs.bind (h.fz.bind (Aai h.c rfl _ 0 rfl (by omega)).G9)))))))))
  · refine ⟨ts.length,0,List.replicate (ts.length * 0) 0,by omega,by omega,List.length_replicate,zb _,?_,?_⟩
    · unfold Cr.f
      exact Ab.neg (by decide) (Ab.neg (by decide) (Ab.neg (by decide) (Ab.neg (by decide) ((aG hv h).bind (Ab.pos (by first | (simp only [List.length_cons,List.length_nil]; omega) | (show _∧_<(6:Int); decide)) (Ab.Fe (Ab.congr (fun K=>Po (m:=ts.length) (n:=0) (by omega) (by omega)) (Ab.const _)) (Ab.const _)))))))
    · unfold Ac.f
      exact Ab.Gs h.tc (Ab.pos (by first | (simp only [List.length_cons,List.length_nil]; omega) | (show _∧_<(6:Int); decide)) (Ab.pos (by first | (simp only [List.length_cons,List.length_nil]; omega) | (show _∧_<(6:Int); decide)) (Ab.pos (by first | (simp only [List.length_cons,List.length_nil]; omega) | (show _∧_<(6:Int); decide)) (Ab.pos (by first | (simp only [List.length_cons,List.length_nil]; omega) | (show _∧_<(6:Int); decide)) (Ab.pos (by first | (simp only [List.length_cons,List.length_nil]; omega) | (show _∧_<(6:Int); decide)) (Ab.pos (by first | (simp only [List.length_cons,List.length_nil]; omega) | (show _∧_<(6:Int); decide)) (Ab.Fe (Ab.congr (fun K=>Ot (m:=ts.length) (n:=0) (by omega) (by omega)) (Ab.const _)) (h.gs.bind (h.fz.bind (Zh (o:=4) h.c (by decide) (by decide) (by decide) _ 0 rfl (by omega)).G9)))))))))
theorem jU:∃ (o:List Bool) (b:Bool),Ab (fun K=>Cb.f K ts) o∧Ab (fun K=>Fg.f K o true) b∧Ab (fun K=>C9.f K ts) b:=by
  obtain ⟨vs,ys,fs,Sg,h⟩:=wO hv
  have h8:=hv.le
  obtain ⟨o,t,hl,ho⟩:=cO hv h.p h.tE h.c.hS h.z h.gi
  have hle:=K6 ys (6 * ts.length)
  have hiff:(∃ c,c<o.length∧o.getD c false=true)↔∃ j,j<6 * ts.length∧Sg.getD j 0=0:=by
    constructor
    · rintro ⟨c,h1,h2⟩
      obtain ⟨j,j1,j2,j3⟩:=(Na (6 * ts.length) ys).onto (Nat.le_refl _) (by omega:c<Bf ys (6 * ts.length))
      have:=ho j j1
      rw [j3,Int.toNat_natCast,h2] at this
      exact ⟨j,j1,of_decide_eq_true this.symm⟩
    · rintro ⟨j,h1,h2⟩
      have h3:=K7 (s:=ys) h1
      refine ⟨Cn (CN (6 * ts.length) ys) j,by omega,?_⟩
      have:=ho j h1
      rw [decide_eq_true h2] at this
      exact this
  have hd:∃ b:Bool,b=true↔∃ j,j<6 * ts.length∧Sg.getD j 0=0:=by
    by_cases e:∃ j,j<6 * ts.length∧Sg.getD j 0=0
    · exact ⟨true,iff_of_true rfl e⟩
    · exact ⟨false,iff_of_false (by decide) e⟩
  obtain ⟨b,hb⟩:=hd
  exact ⟨o,b,t,xQ (by omega) (hb.trans hiff.symm),wF h8 h.gs hb⟩
end
theorem Tv (ts:List (List Aw)) (hn:ts.length≤2000000) (k:Int):∃ (g:Int) (t:List Int) (c:Int),t.length≤1000∧Ab (fun K=>Iz.f K ts k) (g,t,c)∧Ab (fun K=>I5.f K ts k) (g,t,c):=by
  obtain ⟨b,hb,s1,i1⟩:=mE ts hn
  unfold Iz.f I5.f J3.f
  cases b with
  | false=>exact ⟨0,[],1,by simp,Ab.bind (i1.bind (Ab.neg (by decide) (Ab.const _))) (Ab.neg (by decide) (Ab.const _)),s1.bind (Ab.neg (by decide) (Ab.const _))⟩
  | true =>
    have hv:=hb rfl
    by_cases hk:0≤k∧k≤3
    · obtain ⟨o,b,r1,r2,r3⟩:=jU hv
      cases b with
      | true=>exact ⟨0,[],5,by simp,Ab.bind (i1.bind (Ab.pos rfl (Ab.I7 (Ou _ _ _) (Ab.pos (decide_eq_true hk) (r1.bind (r2.bind (Ab.pos rfl (Ab.const _)))))))) (Ab.neg (by decide) (Ab.const _)),s1.bind (Ab.pos rfl (Ab.I7 (Vi _ _ _) (Ab.pos (decide_eq_true hk) (r3.bind (Ab.pos rfl (Ab.const _))))))⟩
      | false =>
        have e1:w64 (k+1)=k+1:=F6 (by omega) (by omega)
        obtain ⟨p,q,xs,hp,hq,hx,bx,m1,m2⟩:=Tg hv (o:=k) (by omega) (by omega)
        obtain ⟨p',q',ys,hp',hq',hy,bY,n1,n2⟩:=Tg hv (o:=k+1) (by omega) (by omega)
        rw [← e1] at n1 n2
        obtain ⟨g,t,c,ht,u1,u2⟩:=Tu hp hq hp' hq' hx hy bx bY
        exact ⟨g,t,c,ht,Ab.bind (i1.bind (Ab.pos rfl (Ab.I7 (Ou _ _ _) (Ab.pos (decide_eq_true hk) (r1.bind (r2.bind (Ab.neg (by decide) (Ab.const _)))))))) (Ab.pos rfl (Ab.Fe n1 (Ab.Fe m1 (Ab.Fe u1 (Ab.const _))))),s1.bind (Ab.pos rfl (Ab.I7 (Vi _ _ _) (Ab.pos (decide_eq_true hk) (r3.bind (Ab.neg (by decide) (Ab.Fe n2 (Ab.Fe m2 (Ab.Fe u2 (Ab.const _)))))))))⟩
    · exact ⟨0,[],2,by simp,Ab.bind (i1.bind (Ab.pos rfl (Ab.I7 (Ou _ _ _) (Ab.neg (by rw [decide_eq_true_eq]; exact hk) (Ab.const _))))) (Ab.neg (by decide) (Ab.const _)),s1.bind (Ab.pos rfl (Ab.I7 (Vi _ _ _) (Ab.neg (by rw [decide_eq_true_eq]; exact hk) (Ab.const _))))⟩
def Mv (f:Nat→Nat):Nat→Nat→Nat
  | _,0=>0
  | i,m+1=>f i+Mv f (i+1) m
def Yo:Int:=1000000000000000
theorem Uw {α:Type} {xs:List α} {i:Nat} {x z:α} (h:i<xs.length):(xs.set i x).getD i z=x:=by
  rw [List.getD_eq_getElem?_getD,List.getElem?_set_self h]; rfl
theorem iK {α:Type} {xs:List α} {i j:Nat} {x z:α} (h:i≠j):(xs.set i x).getD j z=xs.getD j z:=by
  rw [List.getD_eq_getElem?_getD,List.getElem?_set_ne h,← List.getD_eq_getElem?_getD]
theorem Wu {α:Type} {xs:List α} {z:α} {l:Nat→Nat→List α→Int→Nat→Option (Int × List α)} {l':Nat→Nat→List α→Int→Nat→Option Int} {cnt:Nat→Nat}
    (he:∀ K k ys kk,ys.length=xs.length→l K (k+1) ys kk xs.length=some (kk,ys)) (he':∀ K k ys kk,ys.length=xs.length→l' K (k+1) ys kk xs.length=some kk)
    (h1:∀ i,i<xs.length→∀ kk:Int,0≤kk→kk+(cnt i:Int)≤Yo→∃ y,
      (∀ ys r,ys.length=xs.length→ys.getD i z=xs.getD i z→Aa (fun K k=>l K k (ys.set i y) (kk+(cnt i:Int)) (i+1)) r→Aa (fun K k=>l K k ys kk i) r) ∧
      (∀ ys r,ys.length=xs.length→ys.getD i z=y→Aa (fun K k=>l' K k ys (kk+(cnt i:Int)) (i+1)) r→Aa (fun K k=>l' K k ys kk i) r)) :
    ∀ (m i:Nat) (ys:List α) (kk:Int),xs.length - i=m→i≤xs.length→ys.length=xs.length→(∀ j,i≤j→j<xs.length→ys.getD j z=xs.getD j z)→0≤kk→kk+(Mv cnt i m:Int)≤Yo →
      ∃ zs,zs.length=xs.length∧(∀ j,j<i→zs.getD j z=ys.getD j z)∧Aa (fun K k=>l K k ys kk i) (kk+(Mv cnt i m:Int),zs)∧Aa (fun K k=>l' K k zs kk i) (kk+(Mv cnt i m:Int))
  | 0,i,ys,kk,hm,hi,hy,hg,h0,hb=>by
    obtain rfl:i=xs.length:=by omega
    refine ⟨ys,hy,fun _ _=>rfl,Aa.of fun K k=>?_,Aa.of fun K k=>?_⟩
    · rw [he K k ys kk hy]; simp [Mv]
    · rw [he' K k ys kk hy]; simp [Mv]
  | m+1,i,ys,kk,hm,hi,hy,hg,h0,hb=>by
    have hlt:i<xs.length:=by omega
    have hs:(Mv cnt i (m+1):Int)=(cnt i:Int)+(Mv cnt (i+1) m:Int):=by rw [Mv]; omega
    obtain ⟨y,a,b⟩:=h1 i hlt kk h0 (by omega)
    obtain ⟨zs,z1,z2,z3,z4⟩:=Wu he he' h1 m (i+1) (ys.set i y) (kk+(cnt i:Int)) (by omega) (by omega) (by rw [List.length_set]; exact hy) (fun j hj hj'=>by rw [iK (by omega)]; exact hg j (by omega) hj') (by omega) (by omega)
    have hk:kk+(Mv cnt i (m+1):Int)=kk+(cnt i:Int)+(Mv cnt (i+1) m:Int):=by omega
    rw [hk]
    refine ⟨zs,z1,fun j hj=>?_,a ys _ hy (hg i (Nat.le_refl _) hlt) z3,b zs _ z1 ?_ z4⟩
    · rw [z2 j (by omega),iK (by omega)]
    · rw [z2 i (by omega),Uw (by omega)]
def Un {β:Type} (mark:Nat→List β→Int→Option (Int × List β)) (held:Nat→List β→Int→Option Int) (xs:List β) (c:Nat):Prop :=
  ∀ kk:Int,0≤kk→kk+(c:Int)≤Yo→∃ ys,ys.length=xs.length∧Ab (fun K=>mark K xs kk) (kk+(c:Int),ys)∧Ab (fun K=>held K ys kk) (kk+(c:Int))
theorem Un.of {α:Type} {xs:List α} {z:α} {mark:Nat→List α→Int→Option (Int × List α)} {held:Nat→List α→Int→Option Int} {l:Nat→Nat→List α→Int→Int→Option (Int × List α)} {l':Nat→Nat→List α→Int→Int→Option Int} {cnt:Nat→Nat}
    (hm:∀ K xs kk,mark K xs kk=l K K xs kk 0) (hh:∀ K xs kk,held K xs kk=l' K K xs kk 0)
    (he:∀ K k ys kk,ys.length=xs.length→l K (k+1) ys kk (xs.length:Int)=some (kk,ys)) (he':∀ K k ys kk,ys.length=xs.length→l' K (k+1) ys kk (xs.length:Int)=some kk)
    (h1:∀ i,i<xs.length→∀ kk:Int,0≤kk→kk+(cnt i:Int)≤Yo→∃ y,
      (∀ ys r,ys.length=xs.length→ys.getD i z=xs.getD i z→Aa (fun K k=>l K k (ys.set i y) (kk+(cnt i:Int)) ((i+1:Nat):Int)) r→Aa (fun K k=>l K k ys kk (i:Int)) r) ∧
      (∀ ys r,ys.length=xs.length→ys.getD i z=y→Aa (fun K k=>l' K k ys (kk+(cnt i:Int)) ((i+1:Nat):Int)) r→Aa (fun K k=>l' K k ys kk (i:Int)) r)):Un mark held xs (Mv cnt 0 xs.length):=fun kk h0 hb=>by
  obtain ⟨zs,z1,_,z3,z4⟩:=Wu (l:=fun K k ys kk i=>l K k ys kk (i:Int)) (l':=fun K k ys kk i=>l' K k ys kk (i:Int)) he he' h1 xs.length 0 xs kk (by omega) (by omega) rfl (fun _ _ _=>rfl) h0 hb
  exact ⟨zs,z1,Ab.congr (fun K=>hm K xs kk) z3.G9,Ab.congr (fun K=>hh K zs kk) z4.G9⟩
theorem Qm (c:Nat):∀ m i,Mv (fun _=>c) i m=c * m
  | 0,_=>rfl
  | m+1,i=>by rw [Mv,Qm c m,Nat.mul_succ,Nat.add_comm]
section
variable {kk:Int}
theorem w1 (h0:0≤kk) (h1:kk≤Yo+10):w64 (kk+1)=kk+1:=by unfold Yo at h1; exact F6 (by omega) (by omega)
end
theorem X0 {f:Nat→Nat} {B:Nat}:∀ (m i:Nat),(∀ j,i≤j→j<i+m→f j≤B)→Mv f i m≤B * m
  | 0,_,_=>Nat.le_refl _
  | m+1,i,h=>by
    have h1:=h i (Nat.le_refl _) (by omega)
    have h2:=X0 m (i+1) (fun j a b=>h j (by omega) (by omega))
    rw [Mv,Nat.mul_succ]; omega
def Wm {β:Type} (mark:Nat→List β→Int→Option (Int × List β)) (xs:List β) (c:Nat):Prop:=Un mark (fun _ _ kk=>some (kk+(c:Int))) xs c
theorem Wm.of {α:Type} {xs:List α} {z:α} {mark:Nat→List α→Int→Option (Int × List α)} {l:Nat→Nat→List α→Int→Int→Option (Int × List α)} {cnt:Nat→Nat}
    (hm:∀ K xs kk,mark K xs kk=l K K xs kk 0) (he:∀ K k ys kk,ys.length=xs.length→l K (k+1) ys kk (xs.length:Int)=some (kk,ys))
    (h1:∀ i,i<xs.length→∀ kk:Int,0≤kk→kk+(cnt i:Int)≤Yo→∃ y,
      (∀ ys r,ys.length=xs.length→ys.getD i z=xs.getD i z→Aa (fun K k=>l K k (ys.set i y) (kk+(cnt i:Int)) ((i+1:Nat):Int)) r→Aa (fun K k=>l K k ys kk (i:Int)) r)):Wm mark xs (Mv cnt 0 xs.length) :=
  Un.of (z:=z) (l:=l) (l':=fun _ _ _ kk i=>some (kk+(Mv cnt i.toNat (xs.length - i.toNat):Int))) (cnt:=cnt) hm (fun _ _ _=>rfl) he (fun K k ys kk hy=>by simp [Mv]) fun i hi kk h0 hb=>by
    obtain ⟨y,hy⟩:=h1 i hi kk h0 hb
    refine ⟨y,hy,fun ys r _ _ h=>?_⟩
    have e:Mv cnt i (xs.length - i)=cnt i+Mv cnt (i+1) (xs.length - (i+1)):=by rw [show xs.length - i=(xs.length - (i+1))+1 by omega,Mv]
    simp only [Int.toNat_natCast] at h ⊢
    rw [e,Int.natCast_add,← Int.add_assoc]
    exact h
theorem gY {xs:List Aw} (hn:xs.length≤2000000):Wm Fw.f xs (2 * xs.length):=by
  have h:=Wm.of (xs:=xs) (z:=Hy) (mark:=Fw.f) (l:=Fw.l1) (cnt:=fun _=>2) (fun _ _ _=>rfl)
    (fun K k ys kk hy=>by rw [Fw.l1,if_neg (by omega)]) (fun i hi kk h0 hb=>⟨⟨kk,kk+1⟩,fun ys r hy hg h=>Aa.step (fun K k=>?_) h⟩)
  · rw [Qm] at h; exact h
  · have e1:=w1 h0 (by omega)
    have e2:w64 (kk+1+1)=kk+2:=(w1 (by omega) (by omega)).trans (by omega)
    rw [Fw.l1,if_pos (by omega),if_pos (by omega),Int.toNat_natCast]
    simp only [Jk,List.length_set,if_pos (show 0≤(i:Int)∧(i:Int)<(ys.length:Int) by omega),Uw (show i<ys.length by omega),List.set_set,e1,e2,Ap (show i<4611686018427387904 by omega)]
    rfl
def cF (xs:List (List Aw)):Nat:=Mv (fun i=>2 * (xs.getD i []).length) 0 xs.length
theorem bN {xs:List (List Aw)} (hn:xs.length≤2000000) (h:∀ j,j<xs.length→(xs.getD j []).length≤2000000):Wm E9.f xs (cF xs) :=
  Wm.of (z:=[]) (l:=E9.l1) (cnt:=fun i=>2 * (xs.getD i []).length) (fun _ _ _=>rfl) (fun K k ys kk hy=>by rw [E9.l1,if_neg (by omega)]) fun i hi kk h0 hb=>by
    obtain ⟨y,y1,y2,_⟩:=gY (h i hi) kk h0 hb
    refine ⟨y,fun ys r hy hg h=>?_⟩
    refine Aa.step (fun K k=>?_) (Aa.Dz (G:=fun K k a b=>if b.length=(xs.getD i []).length then E9.l1 K k (ys.set i b) a ((i+1:Nat):Int) else none) y2.two (Aa.pos y1 h))
    rw [E9.l1,if_pos (by omega),if_pos (by omega),Int.toNat_natCast,hg,Ap (by omega)]
theorem nD {xs:List (List Aw)} (hn:xs.length≤2000000) (h:∀ j,j<xs.length→(xs.getD j []).length≤2000000):∃ (q:Int) (ys:List (List Aw)),(0≤q∧q≤100000000000000)∧ys.length=xs.length∧Ab (fun K=>G5.f K xs 1) (q,ys):=by
  have hc:cF xs≤4000000 * xs.length:=by
    unfold cF
    exact X0 xs.length 0 (fun j _ hj=>by have:=h j (by omega); show 2 * (xs.getD j []).length≤4000000; omega)
  obtain ⟨ys,y1,y2,_⟩:=bN hn h 1 (by decide) (by unfold Yo; omega)
  exact ⟨1+(cF xs:Int),ys,⟨by omega,by omega⟩,y1,Ab.Dz y2 (Ab.pos y1 (Ab.const _))⟩
theorem Wo {xs:List Int} (hn:xs.length≤2000000):∀ (m i:Nat),xs.length - i=m→Aa (fun K k=>Gd.l1 K k xs xs (i:Int)) true
  | 0,i,hm=>Aa.of fun K k=>by rw [Gd.l1,if_neg (by omega)]
  | m+1,i,hm=>by
    refine Aa.step (fun K k=>?_) (Wo hn m (i+1) (by omega))
    rw [Gd.l1,if_pos (by omega),if_pos (by omega),if_pos (by omega),if_pos rfl,Ap (by omega)]
theorem vR {xs:List Int} (hn:xs.length≤2000000):Ab (fun K=>Gd.f K xs xs) true:=Ab.pos rfl (Wo hn xs.length 0 rfl).G9
def zM (gs:List Ch) (c:Int):Prop:=(c=0→gs.length=4)∧(c≠0→gs=[])∧gs.length≤4∧∀ j,(gs.getD j Dx).Ic.length≤1000
theorem aC (ts:List (List Aw)) (hn:ts.length≤2000000):∃ gs c,zM gs c∧Ab (fun K=>Eb.f K ts) (gs,c)∧Ab (fun K=>El.f K ts) (gs,c):=by
  have main:∀ d a (L:List Ch),4 - a=d→a≤4→L.length=a→(∀ j,(L.getD j Dx).Ic.length≤1000)→∃ gs c,zM gs c∧Aa (fun K k=>Eb.l1 K k ts L (a:Int)) (gs,c)∧Aa (fun K k=>El.l1 K k ts L (a:Int)) (gs,c):=by
    intro d
    induction d with
    | zero =>
      intro a L hd ha hL hT
      refine ⟨L,0,⟨fun _=>by omega,fun h=>absurd rfl h,by omega,hT⟩,Aa.of fun K k=>?_,Aa.of fun K k=>?_⟩
      · rw [Eb.l1,if_neg (by omega)]
      · rw [El.l1,if_neg (by omega)]
    | succ d ih =>
      intro a L hd ha hL hT
      obtain ⟨g,t,c,ht,i1,s1⟩:=Tv ts hn (a:Int)
      by_cases hc:c=0
      · obtain ⟨gs,c',h1,h2,h3⟩:=ih (a+1) (L++[⟨g,t⟩]) (by omega) (by omega) (by rw [List.length_append,hL]; rfl) (fun j=>by
          rw [List.getD_eq_getElem?_getD,List.getElem?_append]
          split
          · rw [← List.getD_eq_getElem?_getD]; exact hT j
          · cases hj:j - L.length with
            | zero=>simpa using ht
            | succ m=>simp [Dx])
        refine ⟨gs,c',h1,Aa.succ ?_,Aa.succ ?_⟩
        · simp only [Eb.l1]
          refine Aa.pos (by omega) (Aa.Fe i1.two (Aa.pos hc (Aa.pos (by omega) ?_)))
          rw [Ap (by omega)]; exact h2
        · simp only [El.l1]
          refine Aa.pos (by omega) (Aa.Fe s1.two (Aa.pos hc (Aa.pos (by omega) ?_)))
          rw [Ap (by omega)]; exact h3
      · refine ⟨[],c,⟨fun h=>absurd h hc,fun _=>rfl,by simp,fun j=>by simp [Dx]⟩,Aa.succ ?_,Aa.succ ?_⟩
        · simp only [Eb.l1]
          exact Aa.pos (by omega) (Aa.Fe i1.two (Aa.neg hc (Aa.const _)))
        · simp only [El.l1]
          exact Aa.pos (by omega) (Aa.Fe s1.two (Aa.neg hc (Aa.const _)))
  obtain ⟨gs,c,h1,h2,h3⟩:=main 4 0 [] rfl (by omega) rfl (fun j=>by simp [Dx])
  exact ⟨gs,c,h1,h2.G9,h3.G9⟩
theorem kQ {xs:List Int} (hn:xs.length≤2000000):Un E5.f Fb.f xs xs.length:=by
  have h:=Un.of (xs:=xs) (z:=0) (mark:=E5.f) (held:=Fb.f) (l:=E5.l1) (l':=Fb.l1) (cnt:=fun _=>1) (fun _ _ _=>rfl) (fun _ _ _=>rfl)
    (fun K k ys kk hy=>by rw [E5.l1,if_neg (by omega)]) (fun K k ys kk hy=>by rw [Fb.l1,if_neg (by omega)]) (fun i hi kk h0 hb=>⟨kk,fun ys r hy hg h=>Aa.step (fun K k=>?_) h,fun ys r hy hg h=>Aa.step (fun K k=>?_) h⟩)
  · rw [Qm,Nat.one_mul] at h; exact h
  · rw [E5.l1,if_pos (by omega),if_pos (by omega),Int.toNat_natCast,w1 h0 (by omega),Ap (by omega)]
    rfl
  · rw [Fb.l1,if_pos (by omega),if_pos (by omega),Int.toNat_natCast,hg,if_pos rfl,w1 h0 (by omega),Ap (by omega)]
    rfl
theorem wT {g:Int} {t:List Int} (hn:t.length≤2000000):Ab (fun K=>Hd.f K g t g t) true:=Ab.pos rfl (Ab.bind (vR hn) (Ab.pos rfl (Ab.const _)))
theorem Xe {xs:List Ch} (hn:xs.length≤4) (hr:∀ j,(xs.getD j Dx).Ic.length≤1000):∀ (m i:Nat),xs.length - i=m→Aa (fun K k=>Cu.l1 K k xs xs (i:Int)) true
  | 0,i,hm=>Aa.of fun K k=>by rw [Cu.l1,if_neg (by omega)]
  | m+1,i,hm=>by
    refine Aa.step (G:=fun K k=>(Hd.f K (xs.getD i Dx).Rank (xs.getD i Dx).Ic (xs.getD i Dx).Rank (xs.getD i Dx).Ic).bind fun t34=>if t34=true then Cu.l1 K k xs xs ((i+1:Nat):Int) else some false) (fun K k=>?_) (Aa.bind (wT (by have:=hr i; omega)).two (Aa.pos rfl (Xe hn hr m (i+1) (by omega))))
    rw [Cu.l1,if_pos (by omega),if_pos (by omega),Jk,if_pos (by omega),Jk,Int.toNat_natCast,Ap (by omega)]
theorem vM {xs:List Ch} (hn:xs.length≤4) (hr:∀ j,(xs.getD j Dx).Ic.length≤1000):Ab (fun K=>Cu.f K xs xs) true:=Ab.pos rfl (Xe hn hr xs.length 0 rfl).G9
theorem jV {xs:List Ch} (hn:xs.length≤4) (hr:∀ j,(xs.getD j Dx).Ic.length≤1000):∃ (q:Int) (ys:List Ch),¬ q<0∧ys.length=xs.length∧Ab (fun K=>Db.f K xs 1) (q,ys)∧Ab (fun K=>Cw.f K ys 1) q:=by
  have h:=Un.of (xs:=xs) (z:=Dx) (mark:=Db.f) (held:=Cw.f) (l:=Db.l1) (l':=Cw.l1) (cnt:=fun i=>1+(xs.getD i Dx).Ic.length) (fun _ _ _=>rfl) (fun _ _ _=>rfl)
    (fun K k ys kk hy=>by rw [Db.l1,if_neg (by omega)]) (fun K k ys kk hy=>by rw [Cw.l1,if_neg (by omega)]) (fun i hi kk h0 hb=>by
      have hri:=hr i
      have e1:=w1 h0 (by omega)
      obtain ⟨zs,z1,z2,z3⟩:=kQ (xs:=(xs.getD i Dx).Ic) (by omega) (kk+1) (by omega) (by omega)
      have e2:kk+1+((xs.getD i Dx).Ic.length:Int)=kk+((1+(xs.getD i Dx).Ic.length:Nat):Int):=by omega
      rw [e2] at z2 z3
      refine ⟨⟨kk,zs⟩,fun ys r hy hg h=>?_,fun ys r hy hg h=>?_⟩
      · refine Aa.step (fun K k=>?_) (Aa.Dz (G:=fun K k a b=>if b.length=(xs.getD i Dx).Ic.length then Db.l1 K k (ys.set i ⟨kk,b⟩) a ((i+1:Nat):Int) else none) z2.two (Aa.pos z1 h))
        rw [Db.l1,if_pos (by omega),if_pos (by omega),Int.toNat_natCast]
        simp only [Jk,List.length_set,if_pos (show 0≤(i:Int)∧(i:Int)<(ys.length:Int) by omega),Uw (show i<ys.length by omega),List.set_set,e1,hg,Ap (show i<4611686018427387904 by omega)]
      · refine Aa.step (fun K k=>?_) (Aa.bind (G:=fun K k t=>if t<0 then some (-1) else Cw.l1 K k ys t ((i+1:Nat):Int)) z3.two (Aa.neg (by omega) h))
        rw [Cw.l1,if_pos (by omega),if_pos (by omega),Int.toNat_natCast,hg,Jk,if_pos rfl,e1,Ap (by omega)])
  have hs:Mv (fun i=>1+(xs.getD i Dx).Ic.length) 0 xs.length≤1001 * xs.length:=X0 xs.length 0 (fun j _ hj=>by have:=hr j; omega)
  obtain ⟨ys,y1,y2,y3⟩:=h 1 (by decide) (by unfold Yo; omega)
  exact ⟨_,ys,by omega,y1,y2,y3⟩
end Go.Proofs.YtgkgmhkgahalgaaGreat
