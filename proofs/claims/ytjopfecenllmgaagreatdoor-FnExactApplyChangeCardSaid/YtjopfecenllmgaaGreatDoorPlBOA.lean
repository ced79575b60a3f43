/-
  The regions: both walks over the corners run in step.
  The parts: both ways of joining crossings keep the same parts; how many there are is counted alike.
  The numbers of the parts, and the whole: the program's drawing is there if and only if the reference calls the diagram one.
  An item is right for both, or for neither.
  Lists of items and stacks of lists: sizes, copies, comparisons; both benches ask the same.
  Marks of items: what marking leaves is found again, and the marks stay small.
  How much a bench is bounds what marking counts; the copies of items, lists and stacks.
  Copies of items, lists and stacks; a list pushed onto a stack.
  Copies of lists and stacks; a list pushed onto a stack; sizes.
-/
import Derived.Test.YtjopfecenllmgaaGreatDoorPlE
set_option linter.unusedSectionVars false
set_option linter.unusedSimpArgs false
set_option linter.unusedVariables false
namespace Go.Proofs.YtjopfecenllmgaaGreatDoor
open Go.RowKit
theorem V8:∀ (l:List Bool) (i:Nat),l[i]?=some false→(l.set i true).count false+1=l.count false
  | b::r,0,h=>by
    obtain rfl:b=false:=by simpa using h
    simp
  | b::r,i+1,h=>by
    have:=V8 r i (by simpa using h)
    rw [List.set_cons_succ,List.count_cons,List.count_cons]
    omega
theorem Ze {q q':Nat} (h:Pm q=Pm q'):q=q':=by
  unfold Pm at h
  rw [Gm.mk.injEq] at h
  omega
def P6 (n:Nat) (r:List Int):Prop:=r.length≤4 * n∧∃ first:Nat,r.head?=some (first:Int)∧∀ k,k ∈ r→∃ j:Nat,k=(j:Int)∧j<4 * n∧first≤j
def Tv (n:Nat) (R:List (List Int)):Prop:=R.length≤4 * n∧∀ r,r ∈ R→P6 n r
structure RI (n first at_:Nat) (done:List Bool) (region:List Int):Prop where
  low:∀ j,j<first→done.getD j false=true
  mem:∀ k,k ∈ region→∃ j:Nat,k=(j:Int)∧j<4 * n∧first≤j
  hd:0<region.length→region.head?=some (first:Int)∧done.getD first false=true
  nl:region=[]→at_=first
theorem getD_set_true {l:List Bool} {i j:Nat} (h:l.getD j false=true):(l.set i true).getD j false=true:=by
  rw [List.getD_eq_getElem?_getD,List.getElem?_set]
  by_cases hij:i=j
  · subst hij
    rw [if_pos rfl]
    by_cases hl:i<l.length
    · rw [if_pos hl]; rfl
    · rw [List.getD_eq_getElem?_getD,List.getElem?_eq_none (by omega)] at h
      cases h
  · rw [if_neg hij,← List.getD_eq_getElem?_getD]; exact h
theorem Yl {l:List Bool} {i:Nat} (h:i<l.length):(l.set i true).getD i false=true:=by
  rw [List.getD_eq_getElem?_getD,List.getElem?_set_self h]; rfl
theorem RI.step {n first at_ k':Nat} {done:List Bool} {region:List Int} (h:RI n first at_ done region) (hd:¬ done.getD at_ false=true) (ha:at_<4 * n) (hl:done.length=4 * n):RI n first k' (done.set at_ true) (region++[(at_:Int)]) where
  low:=fun j hj=>getD_set_true (h.low j hj)
  mem:=fun k hk=>by
    rcases List.mem_append.1 hk with hk | hk
    · exact h.mem k hk
    · refine ⟨at_,List.mem_singleton.1 hk,ha,Nat.le_of_not_lt (fun hlt=>hd (h.low at_ hlt))⟩
  hd:=fun _=>by
    by_cases hr:region=[]
    · have:=h.nl hr
      subst this
      subst hr
      exact ⟨rfl,Yl (by omega)⟩
    · have h0:0<region.length:=List.length_pos_iff.2 hr
      obtain ⟨h1,h2⟩:=h.hd h0
      refine ⟨?_,getD_set_true h2⟩
      cases region with
      | nil=>exact absurd rfl hr
      | cons x r=>exact h1
  nl:=fun e=>by simp at e
theorem RI.ok {n first at_:Nat} {done:List Bool} {region:List Int} (h:RI n first at_ done region) (h0:0<region.length) (hl:region.length≤4 * n):P6 n region:=⟨hl,first,(h.hd h0).1,h.mem⟩
theorem dD {first:Nat} {done:List Bool} (h:∀ j,j<first→done.getD j false=true) (h1:done.getD first false=true):∀ j,j<first+1→done.getD j false=true:=fun j hj=>by
  by_cases hj2:j<first
  · exact h j hj2
  · obtain rfl:j=first:=by omega
    exact h1
theorem rW {n:Nat} {out:List (List Int)} {r:List Int} (h:∀ r,r ∈ out→P6 n r) (hr:P6 n r):∀ r',r' ∈ out++[r]→P6 n r':=fun r' h'=>by
  rcases List.mem_append.1 h' with h' | h'
  · exact h r' h'
  · rw [List.mem_singleton.1 h']; exact hr
section
variable {xs:List Ah} (hn:xs.length≤10) (hs:U7 xs) {f t:List Gm} (hg:Good xs f t)
include hn hs hg
theorem Good.one {q q':Nat} (hq:q<4 * xs.length) (hq':q'<4 * xs.length) (ha:Hl xs q=Hl xs q') (he:Ma xs q=Ma xs q'):q=q':=by
  cases h:Ma xs q with
  | true =>
    have h1:=(hg.tin q hq h).2.2
    have h2:=(hg.tin q' hq' (he ▸ h)).2.2
    rw [ha,h2] at h1
    exact (Ze (Option.some.inj h1)).symm
  | false =>
    have h1:=(hg.lI q hq h).2.2
    have h2:=(hg.lI q' hq' (he ▸ h)).2.2
    rw [ha,h2] at h1
    exact (Ze (Option.some.inj h1)).symm
theorem Good.Abc {q:Nat} (hq:q<4 * xs.length):∃ q',q'<4 * xs.length∧Hl xs q'=Hl xs q∧Ma xs q'=!Ma xs q:=by
  cases h:Ma xs q with
  | true =>
    obtain ⟨h0,h1,_⟩:=hg.tin q hq h
    obtain ⟨q',a,b,c⟩:=hg.fall (Hl xs q).toNat (by omega)
    exact ⟨q',a,by omega,b⟩
  | false =>
    obtain ⟨h0,h1,_⟩:=hg.lI q hq h
    obtain ⟨q',a,b,c⟩:=hg.AaY (Hl xs q).toNat (by omega)
    exact ⟨q',a,by omega,b⟩
theorem Good.place {q:Nat} (hq:q<4 * xs.length) {a:Int} {b:Bool} (ha:Hl xs q=a) (hb:Ma xs q=b) (cs:Int):Ab (fun K=>Cm.f K xs cs a b) (((q / 4:Nat):Int),((q % 4:Nat):Int)) :=
  Go.Proofs.YtjopfecenllmgaaGreatDoor.place (by omega) hq ha hb (fun q' h1 h2=>by
    have:=hg.one hn hs hq (show q'<4 * xs.length by omega) (by rw [ha,h2.1]) (by rw [hb,h2.2])
    omega) cs
theorem successor (cs:Int) {k:Nat} (hk:k<4 * xs.length):∃ k',k'<4 * xs.length∧Ab (fun K=>Jd.f K xs cs (k:Int)) (k':Int) ∧
    I1.f xs cs f t (w64 ((k:Int).tdiv 4)) ((w64 ((k:Int)+1)).tmod 4)=some (((k' / 4:Nat):Int),((k' % 4:Nat):Int)):=by
  have hp:(k % 4+1) % 4<4:=Nat.mod_lt _ (by decide)
  have hq:4 * (k / 4)+(k % 4+1) % 4<4 * xs.length:=by omega
  obtain ⟨k',h1,h2,h3⟩:=hg.Abc hn hs hq
  have hc:w64 ((k:Int).tdiv 4)=((k / 4:Nat):Int):=by
    have:(k:Int).tdiv 4=((k / 4:Nat):Int):=rfl
    rw [this]; exact qY (by omega)
  have hm:w64 ((k:Int).tmod 4+1)=((k % 4+1:Nat):Int):=by
    have:(k:Int).tmod 4=((k % 4:Nat):Int):=rfl
    rw [this]; exact Ce (by omega)
  have hm2:(((k % 4+1:Nat):Int)).tmod 4=(((k % 4+1) % 4:Nat):Int):=rfl
  have hm3:(w64 ((k:Int)+1)).tmod 4=(((k % 4+1) % 4:Nat):Int):=by
    rw [Ce (by omega)]
    have:(((k+1:Nat):Int)).tmod 4=(((k+1) % 4:Nat):Int):=rfl
    rw [this]
    omega
  have hcl:k / 4<xs.length:=by omega
  have hA:=U0 xs (c:=k / 4) hp
  have hE:=P9 xs (c:=k / 4) hp
  refine ⟨k',h1,?_,?_⟩
  · have hpl:=hg.place hn hs h1 (a:=Hl xs (4 * (k / 4)+(k % 4+1) % 4)) (b:=!Ma xs (4 * (k / 4)+(k % 4+1) % 4)) h2 h3 cs
    refine Ab.congr (fun K=>?_) (Ab.Ed hpl (Ab.congr (fun K=>?_) (Ab.const (k':Int))) (G:=fun K a b=>some (w64 ((w64 (4 * a))+b))))
    · rw [Jd.f,hc,if_pos (by omega),F5,Int.toNat_natCast,hm,hm2,aP _ hp,Option.bind_some,Tk _ hp,Option.bind_some,← hA,← hE]
    · show some (w64 (w64 (4 * ((k' / 4:Nat):Int))+((k' % 4:Nat):Int)))=_
      rw [Ip (x:=4 * ((k' / 4:Nat):Int)) (by omega) (by omega),Ip (by omega) (by omega)]
      congr 1
      omega
  · have hget:([(xs.getD (k / 4) Ar).A,(xs.getD (k / 4) Ar).B,(xs.getD (k / 4) Ar).C,(xs.getD (k / 4) Ar).D]:List Int).getD ((k % 4+1) % 4) 0=Hl xs (4 * (k / 4)+(k % 4+1) % 4):=by rw [hA]; rfl
    have hen:=Vs (hs _ hcl) hp
    rw [I1.f,hc,hm3,if_pos (by omega),F5,Int.toNat_natCast]
    simp only [H6.f,Jv,Option.bind_some]
    rw [if_pos (by omega),hen,Option.bind_some,Int.toNat_natCast,hget,← hE]
    cases hb:Ma xs (4 * (k / 4)+(k % 4+1) % 4) with
    | true =>
      rw [hb] at h3
      obtain ⟨p0,p1,p2⟩:=hg.lI k' h1 h3
      rw [h2] at p0 p1 p2
      rw [if_pos rfl,if_pos ⟨p0,by rw [hg.qH]; omega⟩,F5,List.getD_eq_getElem?_getD,p2]
      rfl
    | false =>
      rw [hb] at h3
      obtain ⟨p0,p1,p2⟩:=hg.tin k' h1 h3
      rw [h2] at p0 p1 p2
      rw [if_neg (by decide),if_pos ⟨p0,by rw [hg.U1]; omega⟩,F5,List.getD_eq_getElem?_getD,p2]
      rfl
theorem aW (cs:Int):∀ μ:Nat,
    (∀ (first at_:Nat) (out:List (List Int)) (done:List Bool) (region:List Int),first<4 * xs.length→at_<4 * xs.length→done.length=4 * xs.length→done.count false+(4 * xs.length - first)=μ→out.length≤first→region.length+done.count false≤4 * xs.length→(done.getD at_ false=true→0<region.length)→RI xs.length first at_ done region→(∀ r,r ∈ out→P6 xs.length r) →
      ∃ R,Tv xs.length R∧Ac (fun K k=>Ck.l4 K k xs cs out (first:Int) done region (at_:Int)) R∧Ac (fun K k=>Ca.l4 K k xs cs f t out (first:Int) done region (at_:Int)) R) ∧
    (∀ (first:Nat) (out:List (List Int)) (done:List Bool),first≤4 * xs.length→done.length=4 * xs.length→done.count false+(4 * xs.length - first)=μ→out.length≤first→(∀ j,j<first→done.getD j false=true)→(∀ r,r ∈ out→P6 xs.length r) →
      ∃ R,Tv xs.length R∧Ac (fun K k=>Ck.l1 K k xs cs out done (first:Int)) R∧Ac (fun K k=>Ca.l1 K k xs cs f t out done (first:Int)) R):=by
  intro μ
  induction μ using Nat.strongRecOn with
  | _ μ ih =>
    have hw4:w64 (4 * (xs.length:Int))=4 * (xs.length:Int):=Ip (by omega) (by omega)
    have L4:∀ (first at_:Nat) (out:List (List Int)) (done:List Bool) (region:List Int),first<4 * xs.length→at_<4 * xs.length→done.length=4 * xs.length→done.count false+(4 * xs.length - first)=μ→out.length≤first→region.length+done.count false≤4 * xs.length→(done.getD at_ false=true→0<region.length)→RI xs.length first at_ done region→(∀ r,r ∈ out→P6 xs.length r) →
        ∃ R,Tv xs.length R∧Ac (fun K k=>Ck.l4 K k xs cs out (first:Int) done region (at_:Int)) R∧Ac (fun K k=>Ca.l4 K k xs cs f t out (first:Int) done region (at_:Int)) R:=by
      intro first at_ out done region hf ha hd hμ ho hrl hr hi hok
      by_cases hdn:done.getD at_ false=true
      · have hr0:=hr hdn
        obtain ⟨R,hR,h1,h2⟩:=(ih (μ - 1) (by omega)).2 (first+1) (out++[region]) done (by omega) hd (by omega) (by rw [List.length_append]; simp; omega) (dD hi.low (hi.hd hr0).2) (rW hok (hi.ok hr0 (by omega)))
        refine ⟨R,hR,Ac.succ (Ac.congr (fun K k=>?_) h1),Ac.succ (Ac.congr (fun K k=>?_) h2)⟩
        · rw [Ck.l4,if_pos (by omega),Int.toNat_natCast,if_pos hdn,if_pos (by omega),Ce (by omega)]
        · rw [Ca.l4,if_pos (by omega),Int.toNat_natCast,if_pos hdn,if_pos (by omega),if_pos (by omega),Ce (by omega)]
      · have hfalse:done[at_]?=some false:=by
          have h1:=getD_some (d:=false) (show at_<done.length by omega)
          rw [h1]
          cases hx:done.getD at_ false with
          | true=>exact absurd hx hdn
          | false=>rfl
        obtain ⟨k',hk,hS,hI⟩:=successor hn hs hg cs ha
        have hcnt:=V8 _ _ hfalse
        obtain ⟨R,hR,h1,h2⟩:=(ih (μ - 1) (by omega)).1 first k' out (done.set at_ true) (region++[(at_:Int)]) hf hk (by rw [List.length_set]; exact hd) (by omega) ho (by rw [List.length_append]; simp; omega) (fun _=>by simp) (hi.step hdn ha hd) hok
        refine ⟨R,hR,Ac.succ (Ac.congr (fun K k=>?_) (Ac.bind (G:=fun K k t194=>Ck.l4 K k xs cs out (first:Int) (done.set at_ true) (region++[(at_:Int)]) t194) hS.two h1)),Ac.succ (Ac.congr (fun K k=>?_) h2)⟩
        · rw [Ck.l4,if_pos (by omega),Int.toNat_natCast,if_neg hdn,if_pos (by omega)]
        · rw [Ca.l4,if_pos (by omega),Int.toNat_natCast,if_neg hdn,if_pos (by omega),hI]
          simp only [Ed,Option.bind_some]
          have e1:w64 (w64 (4 * ((k' / 4:Nat):Int))+((k' % 4:Nat):Int))=(k':Int):=by
            rw [Ip (x:=4 * ((k' / 4:Nat):Int)) (by omega) (by omega),Ip (by omega) (by omega)]
            omega
          rw [e1]
    refine ⟨L4,?_⟩
    intro first out done hf hd hμ ho hlow hok
    have hll:((List.replicate (w64 (4 * (xs.length:Int))).toNat false).length:Int)=4 * (xs.length:Int):=by rw [List.length_replicate,hw4]; omega
    by_cases hlt:first<4 * xs.length
    · by_cases hdn:done.getD first false=true
      · obtain ⟨R,hR,h1,h2⟩:=(ih (μ - 1) (by omega)).2 (first+1) out done (by omega) hd (by omega) (by omega) (dD hlow hdn) hok
        refine ⟨R,hR,Ac.succ (Ac.congr (fun K k=>?_) h1),Ac.succ (Ac.congr (G:=fun K k=>Ca.l4 K k xs cs f t out (first:Int) done [] (first:Int)) (fun K k=>?_) (Ac.succ (Ac.congr (fun K k=>?_) h2)))⟩
        · rw [Ck.l1,if_pos (by omega),if_pos (by omega),Int.toNat_natCast,if_pos hdn,Ce (by omega)]
        · rw [Ca.l1,hll,if_pos (by omega)]
        · rw [Ca.l4,if_pos (by omega),Int.toNat_natCast,if_pos hdn,if_neg (by simp),Ce (by omega)]
      · obtain ⟨R,hR,h1,h2⟩:=L4 first first out done [] hlt hlt hd hμ ho (by have:=List.count_le_length (a:=false) (l:=done); simp; omega) (fun h=>absurd h hdn) ⟨hlow,fun k hk=>(by simp at hk),fun h=>absurd h (Nat.lt_irrefl _),fun _=>rfl⟩ hok
        refine ⟨R,hR,Ac.succ (Ac.congr (fun K k=>?_) h1),Ac.succ (Ac.congr (fun K k=>?_) h2)⟩
        · rw [Ck.l1,if_pos (by omega),if_pos (by omega),Int.toNat_natCast,if_neg hdn]
        · rw [Ca.l1,hll,if_pos (by omega)]
    · refine ⟨out,⟨by omega,hok⟩,Ac.succ (Ac.congr (fun K k=>?_) (Ac.const out)),Ac.succ (Ac.congr (fun K k=>?_) (Ac.const out))⟩
      · rw [Ck.l1,if_neg (by omega)]
      · rw [Ca.l1,hll,if_neg (by omega)]
theorem regions (cs:Int):∃ R,Tv xs.length R∧Ab (fun K=>Ck.f K xs cs) R∧Ab (fun K=>Ca.f K xs cs f t) R:=by
  have hw4:w64 (4 * (xs.length:Int))=4 * (xs.length:Int):=Ip (by omega) (by omega)
  have ht:(4 * (xs.length:Int)).toNat=4 * xs.length:=by omega
  obtain ⟨R,hR,h1,h2⟩:=(aW hn hs hg cs _).2 0 [] (List.replicate (4 * xs.length) false) (by omega) (by simp) rfl (by simp) (fun j hj=>absurd hj (Nat.not_lt_zero _)) (fun r hr=>by simp at hr)
  refine ⟨R,hR,Ab.congr (fun K=>?_) h1.I5,Ab.congr (fun K=>?_) h2.I5⟩
  · rw [Ck.f,hw4,ht,if_pos (by omega),if_pos (by omega)]
    rfl
  · rw [Ca.f,hw4,ht,if_pos (by omega),if_pos (by omega)]
    rfl
end
def Qn (l:List Int) (i:Nat):Bool:=(List.range i).all fun j=>l.getD j 0 != l.getD i 0
theorem Pf {l:List Int} {i:Nat}:Qn l i=true↔∀ j,j<i→l.getD j 0≠l.getD i 0:=by
  unfold Qn
  rw [List.all_eq_true]
  constructor
  · intro h j hj
    simpa using h j (List.mem_range.2 hj)
  · intro h j hj
    simpa using h j (List.mem_range.1 hj)
def Ny (l:List Int):Nat→Nat
  | 0=>0
  | i+1=>Ny l i+(if Qn l i=true then 1 else 0)
def Z0 (l:List Int):Nat→Nat
  | 0=>0
  | i+1=>Z0 l i+(if l.getD i 0=(i:Int) then 1 else 0)
theorem Zp (l:List Int):∀ i,Ny l i≤i
  | 0=>Nat.le_refl _
  | i+1=>by
    have:=Zp l i
    rw [Ny]
    split <;> omega
theorem iC (l:List Int):∀ i,Z0 l i≤i
  | 0=>Nat.le_refl _
  | i+1=>by
    have:=iC l i
    rw [Z0]
    split <;> omega
def Qr (n:Nat) (s o:List Int):Prop:=∀ i j,i<n→j<n→(s.getD i 0=s.getD j 0↔o.getD i 0=o.getD j 0)
theorem V6 {n:Nat} {s o:List Int} (h:Qr n s o):∀ i,i≤n→Ny s i=Ny o i
  | 0,_=>rfl
  | i+1,hi=>by
    rw [Ny,Ny,V6 h i (by omega)]
    have:Qn s i=Qn o i:=by
      rw [Bool.eq_iff_iff,Pf,Pf]
      constructor
      · intro h1 j hj e
        exact h1 j hj ((h j i (by omega) (by omega)).2 e)
      · intro h1 j hj e
        exact h1 j hj ((h j i (by omega) (by omega)).1 e)
    rw [this]
structure Wo (n:Nat) (o:List Int):Prop where
  len:o.length=n
  low:∀ i,i<n→0≤o.getD i 0∧o.getD i 0≤(i:Int)
  root:∀ i,i<n→o.getD (o.getD i 0).toNat 0=o.getD i 0
theorem Xi {n:Nat} {o:List Int} (h:Wo n o):∀ i,i≤n→Z0 o i=Ny o i
  | 0,_=>rfl
  | i+1,hi=>by
    rw [Ny,Z0,Xi h i (by omega)]
    congr 1
    have h1:=h.low i (by omega)
    have h2:=h.root i (by omega)
    have:Qn o i=true↔o.getD i 0=(i:Int):=by
      rw [Pf]
      constructor
      · intro hf
        rcases Int.lt_or_eq_of_le h1.2 with hlt | he
        · exact absurd h2 (hf _ (by omega))
        · exact he
      · intro he j hj e
        have:=(h.low j (by omega)).2
        rw [e,he] at this
        omega
    by_cases hc:o.getD i 0=(i:Int)
    · rw [if_pos hc,if_pos (this.2 hc)]
    · rw [if_neg hc,if_neg (fun h=>hc (this.1 h))]
def Pq (p q v:Int):Int:=if v=p then q else v
theorem getD_map {f:Int→Int} {l:List Int} {i:Nat} (h:i<l.length):(l.map f).getD i 0=f (l.getD i 0):=by
  rw [List.getD_eq_getElem?_getD,List.getElem?_map,getD_some (d:=0) h]; rfl
theorem iR {p q u v:Int}:Pq p q u=Pq p q v↔(u=v∨((u=p∨u=q)∧(v=p∨v=q))):=by
  unfold Pq
  grind
theorem Qr.join {n:Nat} {s o:List Int} (h:Qr n s o) (hs:s.length=n) (ho:o.length=n) {c e:Nat} (hc:c<n) (he:e<n) {p q:Int} (hpq:(p=o.getD c 0∧q=o.getD e 0)∨(p=o.getD e 0∧q=o.getD c 0)) :
    Qr n (s.map (Pq (s.getD c 0) (s.getD e 0))) (o.map (Pq p q)):=by
  intro i j hi hj
  rw [getD_map (by omega),getD_map (by omega),getD_map (by omega),getD_map (by omega),iR,iR,h i j hi hj,h i c hi hc,h i e hi he,h j c hj hc,h j e hj he]
  rcases hpq with ⟨rfl,rfl⟩ | ⟨rfl,rfl⟩
  · exact Iff.rfl
  · constructor <;> intro h <;> rcases h with h | ⟨h1,h2⟩ <;> first | exact .inl h | exact .inr ⟨h1.symm,h2.symm⟩
theorem Wo.join {n:Nat} {o:List Int} (h:Wo n o) {c e:Nat} (hc:c<n) (he:e<n) {p q:Int} (hpq:(p=o.getD c 0∧q=o.getD e 0)∨(p=o.getD e 0∧q=o.getD c 0)) (hle:q≤p):Wo n (o.map (Pq p q)):=by
  have hq:∃ d,d<n∧q=o.getD d 0:=by rcases hpq with ⟨_,h⟩ | ⟨_,h⟩ <;> exact ⟨_,by assumption,h⟩
  obtain ⟨d,hd,hqd⟩:=hq
  have hqr:o.getD q.toNat 0=q:=by rw [hqd]; exact h.root d hd
  have hql:=h.low d hd
  have hfl:∀ i,i<n→(o.map (Pq p q)).getD i 0=Pq p q (o.getD i 0):=fun i hi=>getD_map (by rw [h.len]; exact hi)
  refine ⟨by rw [List.length_map]; exact h.len,fun i hi=>?_,fun i hi=>?_⟩
  · have hl:=h.low i hi
    rw [hfl i hi]
    unfold Pq
    split <;> omega
  · have hl:=h.low i hi
    have hr:=h.root i hi
    have hv:(o.getD i 0).toNat<n:=by omega
    rw [hfl i hi]
    by_cases hp:o.getD i 0=p
    · have e1:Pq p q (o.getD i 0)=q:=by unfold Pq; rw [if_pos hp]
      rw [e1,hfl _ (by omega),hqr]
      unfold Pq
      split <;> rfl
    · have e1:Pq p q (o.getD i 0)=o.getD i 0:=by unfold Pq; rw [if_neg hp]
      rw [e1,hfl _ hv,hr,e1]
def upto (n:Nat):List Int:=(List.range n).map fun i:Nat=>(i:Int)
theorem Q8 (n:Nat):(upto n).length=n:=by simp [upto]
theorem Xu {n i:Nat} (h:i<n):(upto n).getD i 0=(i:Int):=by
  unfold upto
  rw [List.getD_eq_getElem?_getD,List.getElem?_map,List.getElem?_range h]; rfl
theorem Zv (n:Nat):upto (n+1)=upto n++[(n:Int)]:=by unfold upto; rw [List.range_succ,List.map_append]; rfl
theorem fD (n:Nat):Wo n (upto n):=⟨Q8 n,fun i hi=>by rw [Xu hi]; omega,fun i hi=>by rw [Xu hi,Int.toNat_natCast,Xu hi]⟩
theorem Y1 {l l':List Int} {f:Int→Int} {j:Nat} (hl:l'.length=l.length) (h1:∀ i,i<j→l'[i]?=(l.map f)[i]?) (hj:l.length≤j):l'=l.map f:=by
  apply List.ext_getElem?
  intro i
  by_cases hi:i<j
  · exact h1 i hi
  · rw [List.getElem?_eq_none (by omega),List.getElem?_eq_none (by rw [List.length_map]; omega)]
theorem Y5 {l l':List Int} {p q:Int} {j:Nat} (hl:l'.length=l.length) (hj:j<l.length) (h1:∀ i,i<j→l'[i]?=(l.map (Pq p q))[i]?) (h2:∀ i,j≤i→l'[i]?=l[i]?) (d:Bool) (hd:d=decide (l'.getD j 0=p)) :
    ((bif d then l'.set j q else l').length=l.length)∧(∀ i,i<j+1→(bif d then l'.set j q else l')[i]?=(l.map (Pq p q))[i]?)∧(∀ i,j+1≤i→(bif d then l'.set j q else l')[i]?=l[i]?):=by
  have hg:l'.getD j 0=l.getD j 0:=by rw [List.getD_eq_getElem?_getD,h2 j (Nat.le_refl _),← List.getD_eq_getElem?_getD]
  have hs:=getD_some (d:=0) hj
  cases d with
  | true =>
    have hp:l.getD j 0=p:=by rw [← hg]; exact of_decide_eq_true hd.symm
    refine ⟨by show (l'.set j q).length=_; rw [List.length_set]; exact hl,fun i hi=>?_,fun i hi=>?_⟩
    · show (l'.set j q)[i]?=_
      by_cases he:j=i
      · subst he
        rw [List.getElem?_set_self (by omega),List.getElem?_map,hs,hp]
        show _=some (Pq p q p)
        unfold Pq
        rw [if_pos rfl]
      · rw [List.getElem?_set_ne he]; exact h1 i (by omega)
    · show (l'.set j q)[i]?=_
      rw [List.getElem?_set_ne (by omega)]; exact h2 i (by omega)
  | false =>
    have hp:l.getD j 0≠p:=by rw [← hg]; exact of_decide_eq_false hd.symm
    refine ⟨hl,fun i hi=>?_,fun i hi=>h2 i (by omega)⟩
    show l'[i]?=_
    by_cases he:j=i
    · subst he
      rw [h2 j (Nat.le_refl _),List.getElem?_map,hs]
      show _=some (Pq p q _)
      unfold Pq
      rw [if_neg hp]
    · exact h1 i (by omega)
theorem bV {s:List Int} (hn:s.length≤10) {i k:Int}:∀ (d j:Nat) (s':List Int),s.length - j=d→s'.length=s.length→(∀ i',i'<j→s'[i']?=(s.map (Pq (s.getD k.toNat 0) (s.getD i.toNat 0)))[i']?)→(∀ i',j≤i'→s'[i']?=s[i']?) →
    Ac (fun K k'=>Ik.l1 K k' s i k s' (j:Int)) (s.map (Pq (s.getD k.toNat 0) (s.getD i.toNat 0)))
  | 0,j,s',hd,hl,h1,h2=>by
    refine Ac.succ (Ac.congr (fun K k'=>?_) (Ac.const _))
    rw [Ik.l1,if_neg (by omega),Y1 hl h1 (by omega)]
  | d+1,j,s',hd,hl,h1,h2=>by
    obtain ⟨g1,g2,g3⟩:=Y5 hl (show j<s.length by omega) h1 h2 _ rfl
    have ih:=bV hn d (j+1) _ (by omega) g1 g2 g3
    refine Ac.succ (Ac.congr (fun K k'=>?_) ih)
    rw [Ik.l1,if_pos (by omega),if_pos (by omega),Int.toNat_natCast,Ce (by omega)]
    by_cases hc:s'.getD j 0=s.getD k.toNat 0
    · rw [if_pos hc,decide_eq_true hc]; rfl
    · rw [if_neg hc,decide_eq_false hc]; rfl
theorem zQ {s:List Int} (hn:s.length≤10) {i k:Nat} (hi:i<s.length) (hk:k<s.length):Ab (fun K=>Ik.f K s (i:Int) (k:Int)) (s.map (Pq (s.getD k 0) (s.getD i 0))):=by
  refine Ab.congr (fun K=>?_) (bV hn (i:=(i:Int)) (k:=(k:Int)) s.length 0 s rfl rfl (fun i' h=>by omega) (fun _ _=>rfl)).I5
  rw [Ik.f,if_pos (by omega),if_pos (by omega)]
  rfl
section
variable {xs:List Ah} (hn:xs.length≤10) (cs:Int)
include hn
theorem Zy {o:List Int} (ho:o.length=xs.length) {a c e:Nat} (ha:a<2 * xs.length) {R:List Int} {p q:Int} (hp:p=if o.getD e 0 > o.getD c 0 then o.getD e 0 else o.getD c 0) (hq:q=if o.getD e 0<o.getD c 0 then o.getD e 0 else o.getD c 0)
    (hR:Ac (fun K k=>Cj.l10 K k xs cs (o.map (Pq p q)) ((a+1:Nat):Int)) R):∀ (d j:Nat) (o':List Int),o.length - j=d→o'.length=o.length→(∀ i,i<j→o'[i]?=(o.map (Pq p q))[i]?)→(∀ i,j≤i→o'[i]?=o[i]?) →
    Ac (fun K k=>Cj.l13 K k xs cs o (a:Int) (c:Int) (e:Int) o' (j:Int)) R
  | 0,j,o',hd,hl,h1,h2=>by
    refine Ac.succ (Ac.congr (fun K k=>?_) hR)
    rw [Cj.l13,if_neg (by omega),Y1 hl h1 (by omega),Ce (by omega)]
  | d+1,j,o',hd,hl,h1,h2=>by
    obtain ⟨g1,g2,g3⟩:=Y5 hl (show j<o.length by omega) h1 h2 _ rfl
    have ih:=Zy ho ha hp hq hR d (j+1) _ (by omega) g1 g2 g3
    refine Ac.succ (Ac.congr (fun K k=>?_) ih)
    rw [Cj.l13,if_pos (by omega),if_pos (by omega),Int.toNat_natCast,Int.toNat_natCast,Int.toNat_natCast,Ce (by omega),← hp,← hq]
    by_cases hc:o'.getD j 0=p
    · rw [if_pos hc,decide_eq_true hc]; rfl
    · rw [if_neg hc,decide_eq_false hc]; rfl
theorem dH {R:List Int} (hR:Ac (fun K k=>Cj.l10 K k xs cs (upto xs.length) 0) R):∀ (d c:Nat),xs.length - c=d→c≤xs.length→Ac (fun K k=>Cj.l1 K k xs cs (upto c) (c:Int)) R
  | 0,c,hd,hc=>by
    obtain rfl:c=xs.length:=by omega
    refine Ac.succ (Ac.congr (fun K k=>?_) hR)
    rw [Cj.l1,if_neg (by omega)]
  | d+1,c,hd,hc=>by
    refine Ac.succ (Ac.congr (fun K k=>?_) (dH hR d (c+1) (by omega) (by omega)))
    rw [Cj.l1,if_pos (by omega),if_pos (by rw [Q8]; omega),Ce (by omega),Zv]
theorem Wd:∀ (d c:Nat),xs.length - c=d→c≤xs.length→Ac (fun K k=>Gq.l1 K k (xs.length:Int) (upto c) (c:Int)) (upto xs.length)
  | 0,c,hd,hc=>by
    obtain rfl:c=xs.length:=by omega
    refine Ac.succ (Ac.congr (fun K k=>?_) (Ac.const _))
    rw [Gq.l1,if_neg (by omega)]
  | d+1,c,hd,hc=>by
    refine Ac.succ (Ac.congr (fun K k=>?_) (Wd d (c+1) (by omega) (by omega)))
    rw [Gq.l1,if_pos (by omega),if_pos (by rw [Q8]; omega),Ce (by omega),Zv]
variable (hs:U7 xs) {f t:List Gm} (hg:Good xs f t)
include hs hg
theorem Xb:∀ (d a:Nat) (s o:List Int),2 * xs.length - a=d→a≤2 * xs.length→s.length=xs.length→Qr xs.length s o→Wo xs.length o →
    ∃ s' o',s'.length=xs.length∧Qr xs.length s' o'∧Wo xs.length o'∧Ac (fun K k=>Cj.l10 K k xs cs o (a:Int)) o'∧∀ R,Ab (fun K=>Cy.f K s') R→Ac (fun K k=>Cz.l1 K k f t s (a:Int)) R
  | 0,a,s,o,hd,ha,hsl,hsp,hl=>by
    refine ⟨s,o,hsl,hsp,hl,Ac.succ (Ac.congr (fun K k=>?_) (Ac.const _)),fun R hR=>Ac.succ (Ac.congr (fun K k=>?_) hR.two)⟩
    · rw [Cj.l10,Ip (by omega) (by omega),if_neg (by omega)]
    · rw [Cz.l1,if_neg (by rw [hg.qH]; omega)]
      cases Cy.f K s <;> rfl
  | d+1,a,s,o,hd,ha,hsl,hsp,hl=>by
    have hal:a<2 * xs.length:=by omega
    obtain ⟨q1,h1,b1,e1⟩:=hg.AaY a hal
    obtain ⟨q2,h2,b2,e2⟩:=hg.fall a hal
    have p1:=hg.place hn hs h1 e1 b1 cs
    have p2:=hg.place hn hs h2 e2 b2 cs
    have hc:q1 / 4<xs.length:=by omega
    have he:q2 / 4<xs.length:=by omega
    obtain ⟨p,hp⟩:∃ p,p=if o.getD (q2 / 4) 0 > o.getD (q1 / 4) 0 then o.getD (q2 / 4) 0 else o.getD (q1 / 4) 0:=⟨_,rfl⟩
    obtain ⟨q,hq⟩:∃ q,q=if o.getD (q2 / 4) 0<o.getD (q1 / 4) 0 then o.getD (q2 / 4) 0 else o.getD (q1 / 4) 0:=⟨_,rfl⟩
    have hpq:(p=o.getD (q1 / 4) 0∧q=o.getD (q2 / 4) 0)∨(p=o.getD (q2 / 4) 0∧q=o.getD (q1 / 4) 0):=by
      by_cases h3:o.getD (q2 / 4) 0 > o.getD (q1 / 4) 0
      · rw [if_pos h3] at hp; rw [if_neg (by omega)] at hq; exact .inr ⟨hp,hq⟩
      · rw [if_neg h3] at hp
        by_cases h4:o.getD (q2 / 4) 0<o.getD (q1 / 4) 0
        · rw [if_pos h4] at hq; exact .inl ⟨hp,hq⟩
        · rw [if_neg h4] at hq; exact .inl ⟨hp,by omega⟩
    have hle:q≤p:=by rw [hp,hq]; split <;> split <;> omega
    obtain ⟨s',o',k1,k2,k3,k4,k5⟩:=Xb d (a+1) (s.map (Pq (s.getD (q1 / 4) 0) (s.getD (q2 / 4) 0))) (o.map (Pq p q)) (by omega) (by omega) (by rw [List.length_map]; exact hsl) (hsp.join hsl hl.len hc he hpq) (hl.join hc he hpq hle)
    refine ⟨s',o',k1,k2,k3,?_,fun R hR=>?_⟩
    · have h13:=Zy hn cs hl.len hal hp hq k4 o.length 0 o (by omega) rfl (fun i h=>by omega) (fun _ _=>rfl)
      refine Ac.succ (Ac.congr (fun K k=>?_) (Ac.Ed (G:=fun K k c _=>Ed (Cm.f K xs cs (a:Int) false) (fun e _=>if 0≤c∧c<(o.length:Int) then (if 0≤e∧e<(o.length:Int) then Cj.l13 K k xs cs o (a:Int) c e o 0 else none) else none)) p1.two (Ac.Ed (G:=fun K k e _=>if 0≤((q1 / 4:Nat):Int)∧((q1 / 4:Nat):Int)<(o.length:Int) then (if 0≤e∧e<(o.length:Int) then Cj.l13 K k xs cs o (a:Int) ((q1 / 4:Nat):Int) e o 0 else none) else none) p2.two (Ac.pos (by rw [hl.len]; omega) (Ac.pos (by rw [hl.len]; omega) h13)))))
      rw [Cj.l10,Ip (by omega) (by omega),if_pos (by omega)]
    · have hr:=k5 R hR
      obtain ⟨_,_,g1⟩:=hg.lI q2 h2 b2
      obtain ⟨_,_,g2⟩:=hg.tin q1 h1 b1
      rw [e2,Int.toNat_natCast] at g1
      rw [e1,Int.toNat_natCast] at g2
      have hu:=zQ (s:=s) (by omega) (i:=q2 / 4) (k:=q1 / 4) (by omega) (by omega)
      refine Ac.succ (Ac.congr (fun K k=>?_) (Ac.bind (G:=fun K k t69=>if t69.length=s.length then Cz.l1 K k f t t69 ((a+1:Nat):Int) else none) hu.two (Ac.pos (by rw [List.length_map]) hr)))
      rw [Cz.l1,if_pos (by rw [hg.qH]; omega),if_pos (by rw [hg.qH]; omega),F5,if_pos (by rw [hg.U1]; omega),F5,Int.toNat_natCast,List.getD_eq_getElem?_getD,g1,List.getD_eq_getElem?_getD,g2,Ce (by omega)]
      rfl
end
theorem Ti:∀ (m:List (Int × Int)) (k v k':Int),Nw (O5 m k v) k'=if k'=k then some v else Nw m k'
  | [],k,v,k'=>by simp [O5,Nw]
  | p::r,k,v,k'=>by
    unfold O5
    by_cases h:k=p.1
    · rw [if_pos h]
      unfold Nw
      by_cases h2:k'=k
      · simp [h2]
      · rw [if_neg h2,if_neg h2,if_neg (fun e=>h2 (e.trans h.symm))]
    · rw [if_neg h]
      unfold Nw
      by_cases h2:k'=p.1
      · rw [if_pos h2,if_neg (fun e=>h (e.symm.trans h2)),if_pos h2]
      · rw [if_neg h2,Ti r k v k',if_neg h2]
theorem Vz:∀ (m:List (Int × Int)) (k v:Int),Nw m k=none→(O5 m k v).length=m.length+1
  | [],_,_,_=>rfl
  | p::r,k,v,h=>by
    unfold Nw at h
    by_cases h2:k=p.1
    · rw [if_pos h2] at h; cases h
    · rw [if_neg h2] at h
      unfold O5
      rw [if_neg h2,List.length_cons,Vz r k v h,List.length_cons]
structure Num (s:List Int) (i:Nat) (m:List (Int × Int)) (o:List Int):Prop where
  len:o.length=i
  cnt:m.length=Ny s i
  seen:∀ key,(Nw m key).isSome=true↔∃ j,j<i∧s.getD j 0=key
  vals:∀ key v,Nw m key=some v→0≤v∧v<(m.length:Int)
  rng:∀ j,j<i→o.getD j 0<(m.length:Int)
  top:0<m.length→∃ j,j<i∧o.getD j 0=(m.length:Int) - 1
theorem Tp {o:List Int} {i j:Nat} {v:Int} (hl:o.length=i):(o++[v]).getD j 0=if j<i then o.getD j 0 else if j=i then v else 0:=by
  rw [List.getD_eq_getElem?_getD,List.getElem?_append,hl]
  by_cases h:j<i
  · rw [if_pos h,if_pos h,← List.getD_eq_getElem?_getD]
  · rw [if_neg h,if_neg h]
    by_cases h2:j=i
    · subst h2; simp
    · rw [if_neg h2,List.getElem?_eq_none (by simp; omega)]; rfl
theorem Num.old {s:List Int} {i:Nat} {m:List (Int × Int)} {o:List Int} (h:Num s i m o) {v:Int} (hv:Nw m (s.getD i 0)=some v):Num s (i+1) m (o++[v]):=by
  obtain ⟨j0,hj0,he0⟩:=(h.seen (s.getD i 0)).1 (by rw [hv]; rfl)
  have hnf:¬ Qn s i=true:=fun hf=>Pf.1 hf j0 hj0 he0
  have hvv:=h.vals _ _ hv
  refine ⟨by simp [h.len],by rw [Ny,if_neg hnf]; exact h.cnt,fun key=>?_,h.vals,fun j hj=>?_,fun h0=>?_⟩
  · rw [h.seen key]
    constructor
    · rintro ⟨j,hj,he⟩; exact ⟨j,by omega,he⟩
    · rintro ⟨j,hj,he⟩
      by_cases hji:j<i
      · exact ⟨j,hji,he⟩
      · obtain rfl:j=i:=by omega
        exact ⟨j0,hj0,he0.trans he⟩
  · rw [Tp h.len]
    by_cases hji:j<i
    · rw [if_pos hji]; exact h.rng j hji
    · rw [if_neg hji,if_pos (by omega)]; exact hvv.2
  · obtain ⟨j,hj,he⟩:=h.top h0
    exact ⟨j,by omega,by rw [Tp h.len,if_pos hj]; exact he⟩
theorem Num.new {s:List Int} {i:Nat} {m:List (Int × Int)} {o:List Int} (h:Num s i m o) (hv:Nw m (s.getD i 0)=none):Num s (i+1) (O5 m (s.getD i 0) (m.length:Int)) (o++[(m.length:Int)]):=by
  have hlen:=Vz m (s.getD i 0) (m.length:Int) hv
  have hf:Qn s i=true:=Pf.2 (fun j hj e=>by
    have:=(h.seen (s.getD i 0)).2 ⟨j,hj,e⟩
    rw [hv] at this
    cases this)
  refine ⟨by simp [h.len],by rw [hlen,Ny,if_pos hf,h.cnt],fun key=>?_,fun key v hk=>?_,fun j hj=>?_,fun _=>?_⟩
  · rw [Ti]
    by_cases hk:key=s.getD i 0
    · rw [if_pos hk]
      exact ⟨fun _=>⟨i,by omega,hk.symm⟩,fun _=>rfl⟩
    · rw [if_neg hk,h.seen key]
      constructor
      · rintro ⟨j,hj,he⟩; exact ⟨j,by omega,he⟩
      · rintro ⟨j,hj,he⟩
        by_cases hji:j<i
        · exact ⟨j,hji,he⟩
        · obtain rfl:j=i:=by omega
          exact absurd he.symm hk
  · rw [Ti] at hk
    rw [hlen]
    by_cases hkk:key=s.getD i 0
    · rw [if_pos hkk] at hk
      obtain rfl:=Option.some.inj hk
      omega
    · rw [if_neg hkk] at hk
      have:=h.vals _ _ hk
      omega
  · rw [Tp h.len,hlen]
    by_cases hji:j<i
    · rw [if_pos hji]; have:=h.rng j hji; omega
    · rw [if_neg hji,if_pos (by omega)]; omega
  · refine ⟨i,by omega,?_⟩
    rw [Tp h.len,if_neg (by omega),if_pos rfl,hlen]
    omega
theorem Sv {s:List Int} (hn:s.length≤10):∀ (d i:Nat) (m:List (Int × Int)) (o:List Int),s.length - i=d→i≤s.length→Num s i m o→∃ m' o',Num s s.length m' o'∧Ac (fun K k=>Cy.l1 K k s m o (i:Int)) o'
  | 0,i,m,o,hd,hi,h=>by
    obtain rfl:i=s.length:=by omega
    refine ⟨m,o,h,Ac.succ (Ac.congr (fun K k=>?_) (Ac.const _))⟩
    rw [Cy.l1,if_neg (by omega)]
  | d+1,i,m,o,hd,hi,h=>by
    cases hv:Nw m (s.getD i 0) with
    | some v =>
      obtain ⟨m',o',h1,h2⟩:=Sv hn d (i+1) _ _ (by omega) (by omega) (h.old hv)
      refine ⟨m',o',h1,Ac.succ (Ac.congr (G:=fun K k=>Cy.j4 K k s o (i:Int) m) (fun K k=>?_) (Ac.succ (Ac.congr (fun K k=>?_) h2)))⟩
      · rw [Cy.l1,if_pos (by omega),if_pos (by omega),Int.toNat_natCast,hv,if_pos (show (some v).isSome=true from rfl)]
      · rw [Cy.j4,if_pos (by rw [h.len]; omega),Int.toNat_natCast,hv,Ce (by omega)]
        rfl
    | none =>
      obtain ⟨m',o',h1,h2⟩:=Sv hn d (i+1) _ _ (by omega) (by omega) (h.new hv)
      refine ⟨m',o',h1,Ac.succ (Ac.congr (G:=fun K k=>Cy.j4 K k s o (i:Int) (O5 m (s.getD i 0) (m.length:Int))) (fun K k=>?_) (Ac.succ (Ac.congr (fun K k=>?_) h2)))⟩
      · rw [Cy.l1,if_pos (by omega),if_pos (by omega),Int.toNat_natCast,hv,if_neg (by decide)]
      · rw [Cy.j4,if_pos (by rw [h.len]; omega),Int.toNat_natCast,Ti,if_pos rfl,Ce (by omega)]
        rfl
theorem numbered {s:List Int} (hn:s.length≤10):∃ m o,Num s s.length m o∧Ab (fun K=>Cy.f K s) o:=by
  obtain ⟨m,o,h1,h2⟩:=Sv hn s.length 0 [] [] rfl (by omega) ⟨rfl,rfl,(fun key=>⟨(fun h=>nomatch h),(fun ⟨j,hj,_⟩=>absurd hj (Nat.not_lt_zero _))⟩),(fun key v h=>nomatch h),(fun j hj=>absurd hj (Nat.not_lt_zero _)),(fun h=>absurd h (Nat.lt_irrefl _))⟩
  exact ⟨m,o,h1,Ab.congr (fun K=>rfl) h2.I5⟩
theorem kY {x:List Int} (hn:x.length≤10):∀ (d i:Nat) (m:Int),x.length - i=d→(∀ j,j<i→x.getD j 0≤m)→(∃ j,j<x.length∧x.getD j 0=m) →
    ∃ M,Ac (fun K k=>Cq.l2 K k x m (i:Int)) M∧(∀ j,j<x.length→x.getD j 0≤M)∧∃ j,j<x.length∧x.getD j 0=M
  | 0,i,m,hd,h1,h2=>by
    refine ⟨m,Ac.succ (Ac.congr (fun K k=>?_) (Ac.const _)),fun j hj=>h1 j (by omega),h2⟩
    rw [Cq.l2,if_neg (by omega)]
  | d+1,i,m,hd,h1,h2=>by
    have hstep:∀ M,Ac (fun K k=>Cq.l2 K k x (if x.getD i 0 > m then x.getD i 0 else m) ((i+1:Nat):Int)) M→Ac (fun K k=>Cq.l2 K k x m (i:Int)) M:=fun M h=>by
      refine Ac.succ (Ac.congr (fun K k=>?_) h)
      rw [Cq.l2,if_pos (by omega),if_pos (by omega),Int.toNat_natCast,Ce (by omega)]
    obtain ⟨M,g1,g2,g3⟩:=kY hn d (i+1) (if x.getD i 0 > m then x.getD i 0 else m) (by omega) (fun j hj=>by
      by_cases hji:j<i
      · have:=h1 j hji
        split <;> omega
      · obtain rfl:j=i:=by omega
        split <;> omega) (by
      split
      · exact ⟨i,by omega,rfl⟩
      · exact h2)
    exact ⟨M,hstep M g1,g2,g3⟩
theorem eG {s:List Int} (hn:s.length≤10) {m:List (Int × Int)} {o:List Int} (h:Num s s.length m o):Ab (fun K=>Jk.f K o) (Ny s s.length:Int):=by
  unfold Jk.f
  by_cases h0:s.length=0
  · refine Ab.pos (by rw [h.len]; omega) (Ab.congr (fun K=>?_) (Ab.const _))
    rw [h0]; rfl
  · have hol:o.length=s.length:=h.len
    have hfirst:0<Ny s s.length:=by
      have:∀ i,0<i→0<Ny s i:=fun i=>by
        induction i with
        | zero=>intro h; omega
        | succ i ih =>
          intro _
          rw [Ny]
          by_cases hi:i=0
          · subst hi
            have:Qn s 0=true:=Pf.2 (fun j hj=>by omega)
            rw [if_pos this]; omega
          · have:=ih (by omega); omega
      exact this _ (by omega)
    obtain ⟨M,g1,g2,j0,g3,g4⟩:=kY (x:=o) (by omega) (o.length - 1) 1 (o.getD 0 0) rfl (fun j hj=>(by have h0:j=0:=(by omega); rw [h0]; exact Int.le_refl _)) ⟨0,by omega,rfl⟩
    obtain ⟨j1,k1,k2⟩:=h.top (by rw [h.cnt]; exact hfirst)
    have e1:=g2 j1 (by omega)
    have e2:=h.rng j0 (by omega)
    have hc:=h.cnt
    have hM:M=(Ny s s.length:Int) - 1:=by omega
    have hle:=Zp s s.length
    refine Ab.neg (by omega) (Ab.bind (a:=M) (Ab.congr (fun K=>?_) g1.I5) (Ab.congr (fun K=>?_) (Ab.const _)))
    · rw [Cq.f,if_neg (by omega),if_pos (by omega)]
      rfl
    · rw [Ip (by omega) (by omega)]
      congr 1
      omega
theorem Ut {o:List Int} (hn:o.length≤10):∀ (d i:Nat),o.length - i=d→i≤o.length→Ac (fun K k=>De.l1 K k o (Z0 o i:Int) (i:Int)) (Z0 o o.length:Int)
  | 0,i,hd,hi=>by
    obtain rfl:i=o.length:=by omega
    refine Ac.succ (Ac.congr (fun K k=>?_) (Ac.const _))
    rw [De.l1,if_neg (by omega)]
  | d+1,i,hd,hi=>by
    have hle:=iC o i
    refine Ac.succ (Ac.congr (fun K k=>?_) (Ut hn d (i+1) (by omega) (by omega)))
    rw [De.l1,if_pos (by omega),if_pos (by omega),Int.toNat_natCast,Ce (by omega),Ce (by omega),Z0]
    by_cases hc:o.getD i 0=(i:Int)
    · rw [if_pos hc,if_pos hc]
    · rw [if_neg hc,if_neg hc]; rfl
section
variable {xs:List Ah} (hn:xs.length≤10) (cs:Int) (hs:U7 xs) {f t:List Gm} (hg:Good xs f t)
include hn hs hg
theorem bU:∃ (C:Int) (o:List Int),Ab (fun K=>De.f K xs cs) C∧Ab (fun K=>Cz.f K xs cs f t) o∧Ab (fun K=>Jk.f K o) C:=by
  obtain ⟨s',o',h1,h2,h3,h4,h5⟩:=Xb hn cs hs hg (2 * xs.length) 0 (upto xs.length) (upto xs.length) (by omega) (by omega) (Q8 _) (fun _ _ _ _=>Iff.rfl) (fD _)
  obtain ⟨m,o,k1,k2⟩:=numbered (s:=s') (by omega)
  have k3:=eG (by omega) k1
  refine ⟨_,o,?_,?_,k3⟩
  · have hp:=dH hn cs (R:=o') h4 xs.length 0 rfl (by omega)
    have hc:=Ut (o:=o') (by rw [h3.len]; exact hn) o'.length 0 rfl (by omega)
    have he:Z0 o' o'.length=Ny s' s'.length:=by rw [h3.len,h1,Xi h3 _ (Nat.le_refl _),V6 h2 _ (Nat.le_refl _)]
    rw [he] at hc
    refine Ab.bind (G:=fun K t3=>De.l1 K K t3 0 0) (Ab.congr (fun K=>rfl) hp.I5) hc.I5
  · refine Ab.bind (a:=(xs.length:Int)) (F:=fun _=>Fe.f xs) (G:=fun K t5=>(Gq.f K t5).bind fun t9=>Cz.l1 K K f t t9 0) (Ab.const _) ?_
    refine Ab.bind (a:=upto xs.length) (G:=fun K t9=>Cz.l1 K K f t t9 0) (Ab.congr (fun K=>rfl) (Wd hn xs.length 0 rfl (by omega)).I5) (h5 o k2).I5
end
theorem gB {x:Ah}:Ov x=true↔(x.Sign=1∨x.Sign = -1):=by unfold Ov; exact decide_eq_true_iff
theorem lY (xs:List Ah) (hx:xs.length≤2000000) (cs:Int) :
    (Ab (fun K=>Jf.f K xs cs) false∧Ab (fun K=>G7.f K xs cs) ([],[],false)) ∨
    (xs.length≤10∧U7 xs∧∃ f t,Good xs f t∧Ab (fun K=>Jf.f K xs cs) true∧Ab (fun K=>G7.f K xs cs) (f,t,true)):=by
  unfold Jf.f G7.f Fe.f
  simp only [Option.bind_some]
  by_cases h10:10<xs.length
  · exact .inl ⟨Ab.pos (by omega) (Ab.const _),Ab.pos (by omega) (Ab.const _)⟩
  have hn:xs.length≤10:=by omega
  have hin:Ef.f cs 0 8=some (decide (0≤cs∧cs≤8)):=by
    unfold Ef.f
    by_cases h:0≤cs <;> simp [h]
  have hir:Cu.f cs 0 8=some (decide (0≤cs∧cs≤8)):=by
    unfold Cu.f
    by_cases h:0≤cs <;> simp [h]
  rw [hin,hir]
  simp only [Option.bind_some]
  by_cases hc:0≤cs∧cs≤8
  · rw [decide_eq_true hc]
    by_cases hb:∀ c,c<xs.length→Ov (xs.getD c Ar)=true
    · have hs:U7 xs:=fun c h=>gB.1 (hb c h)
      have hcon:=Ym hn hb
      rcases scans hn cs hs with ⟨h1,f,t,h2,_⟩ | ⟨h1,f,t,h2,hg⟩
      · refine .inl ⟨Ab.neg (by omega) (Ab.pos rfl (Ab.bind h1 (Ab.neg (by decide) (Ab.const _)))),Ab.neg (by omega) (Ab.pos rfl (Ab.bind hcon (Ab.neg (by decide) (Ab.M8 h2 (Ab.neg (by decide) (Ab.const _))))))⟩
      · obtain ⟨R,_,r1,r2⟩:=regions hn hs hg cs
        obtain ⟨C,o,p1,p2,p3⟩:=bU hn cs hs hg
        have hS:Ab (fun K=>if 10<(xs.length:Int) then some false else if true=true then (Bg.f K xs cs).bind fun t19=>if t19=true then (Ck.f K xs cs).bind fun t24=>(De.f K xs cs).bind fun t31=>some (decide ((t24.length:Int)=w64 ((xs.length:Int)+w64 (2 * t31)))) else some false else some false) (decide ((R.length:Int)=w64 ((xs.length:Int)+w64 (2 * C)))) :=
          Ab.neg (by omega) (Ab.pos rfl (Ab.bind h1 (Ab.pos rfl (Ab.bind r1 (Ab.bind p1 (Ab.const _))))))
        by_cases he:(R.length:Int)=w64 ((xs.length:Int)+w64 (2 * C))
        · rw [decide_eq_true he] at hS
          refine .inr ⟨hn,hs,f,t,hg,hS,?_⟩
          exact Ab.neg (by omega) (Ab.pos rfl (Ab.bind hcon (Ab.neg (by decide) (Ab.M8 h2 (Ab.pos rfl (Ab.bind r2 (Ab.bind (a:=(R.length:Int)) (Ab.const _) (Ab.bind p2 (Ab.bind p3 (Ab.pos he (Ab.const _)))))))))))
        · rw [decide_eq_false he] at hS
          refine .inl ⟨hS,?_⟩
          exact Ab.neg (by omega) (Ab.pos rfl (Ab.bind hcon (Ab.neg (by decide) (Ab.M8 h2 (Ab.pos rfl (Ab.bind r2 (Ab.bind (a:=(R.length:Int)) (Ab.const _) (Ab.bind p2 (Ab.bind p3 (Ab.neg he (Ab.const _)))))))))))
    · obtain ⟨c0,hc0⟩:=Classical.not_forall.1 hb
      obtain ⟨hlt,hbad⟩:=Classical.not_imp.1 hc0
      have hbad':Ov (xs.getD c0 Ar)=false:=by cases h:Ov (xs.getD c0 Ar) <;> simp_all
      refine .inl ⟨Ab.neg (by omega) (Ab.pos rfl (Ab.bind (aK hn cs hlt hbad') (Ab.neg (by decide) (Ab.const _)))),Ab.neg (by omega) (Ab.pos rfl (Ab.bind (aR hn hlt hbad') (Ab.pos rfl (Ab.const _))))⟩
  · rw [decide_eq_false hc]
    exact .inl ⟨Ab.neg (by omega) (Ab.neg (by decide) (Ab.const _)),Ab.neg (by omega) (Ab.neg (by decide) (Ab.const _))⟩
theorem Z6 (cr:List Ah) (ci:Int) (h:cr.length≤2000000):∃ b,Ab (fun K=>Jf.f K cr ci) b∧Ab (fun K=>G8.f K cr ci) b:=by
  rcases lY cr h ci with ⟨a,b⟩ | ⟨_,_,f,t,_,a,b⟩
  · exact ⟨false,a,Ab.M8 b (Ab.const _)⟩
  · exact ⟨true,a,Ab.M8 b (Ab.const _)⟩
def Zk (ts:List (List Br)) (cr:List Ah) (ci st:Int) (wd:List Int) (cn ct:Int) (mv:List Cc) (tt pp:List Int):Nat→Bool
  | 1=>decide (ts.length=0)
  | 2=>decide (cr.length=0∧ci=0)
  | 3=>decide (st=0∧wd.length=0)
  | _=>decide (cn=0∧ct=0∧mv.length=0∧tt.length=0∧pp.length=0)
theorem Ac.of0 {α:Type} {F:Nat→Option α} {G:Nat→Nat→Option α} {r:α} (h:Ab F r) (g:∀ K k,G K (k+1)=(F K).bind fun t=>some t):Ac G r:=Ac.step g (Ac.bind h.two (Ac.const _))
theorem Ab.tup {F:Nat→Option Bool} {a b c d:Bool} {x:Bool} (h:Ab F x):Ab (fun K=>if (a,b,c,d)=(false,false,false,false) then (F K).bind fun t=>some t else some false) ((!a && !b && !c && !d) && x):=by
  cases a <;> cases b <;> cases c <;> cases d
  case false.false.false.false=>exact Ab.pos rfl (Ab.bind h (Ab.const _))
  all_goals exact Ab.neg (by decide) (Ab.const _)
theorem b4 {α β γ δ ε:Type} (a:α) (b:β) (c:γ) (d:δ) (f:α→β→γ→δ→Option ε):Jv (some (a,b,c,d)) f=f a b c d:=rfl
theorem yQ (Z:Nat→Bool):K7 4 (fun i=>decide (((i+1:Nat):Int)=1) || Z (i+1))=(!false && !(!Z 2) && !(!Z 3) && !(!Z 4)):=by
  show ((decide (((0+1:Nat):Int)=1) || Z 1) && ((decide (((1+1:Nat):Int)=1) || Z 2) && ((decide (((2+1:Nat):Int)=1) || Z 3) && ((decide (((3+1:Nat):Int)=1) || Z 4) && true))))=_
  generalize Z 1=a; generalize Z 2=b; generalize Z 3=c; generalize Z 4=d
  cases a <;> cases b <;> cases c <;> cases d <;> rfl
theorem yS (Z:Nat→Bool):K7 4 (fun i=>decide (((i+1:Nat):Int)=2) || Z (i+1))=(!(!Z 1) && !false && !(!Z 3) && !(!Z 4)):=by
  show ((decide (((0+1:Nat):Int)=2) || Z 1) && ((decide (((1+1:Nat):Int)=2) || Z 2) && ((decide (((2+1:Nat):Int)=2) || Z 3) && ((decide (((3+1:Nat):Int)=2) || Z 4) && true))))=_
  generalize Z 1=a; generalize Z 2=b; generalize Z 3=c; generalize Z 4=d
  cases a <;> cases b <;> cases c <;> cases d <;> rfl
theorem wK (Z:Nat→Bool):K7 4 (fun i=>decide (((i+1:Nat):Int)=3) || Z (i+1))=(!(!Z 1) && !(!Z 2) && !false && !(!Z 4)):=by
  show ((decide (((0+1:Nat):Int)=3) || Z 1) && ((decide (((1+1:Nat):Int)=3) || Z 2) && ((decide (((2+1:Nat):Int)=3) || Z 3) && ((decide (((3+1:Nat):Int)=3) || Z 4) && true))))=_
  generalize Z 1=a; generalize Z 2=b; generalize Z 3=c; generalize Z 4=d
  cases a <;> cases b <;> cases c <;> cases d <;> rfl
theorem yO (Z:Nat→Bool):K7 4 (fun i=>decide (((i+1:Nat):Int)=4) || Z (i+1))=(!(!Z 1) && !(!Z 2) && !(!Z 3) && !false):=by
  show ((decide (((0+1:Nat):Int)=4) || Z 1) && ((decide (((1+1:Nat):Int)=4) || Z 2) && ((decide (((2+1:Nat):Int)=4) || Z 3) && ((decide (((3+1:Nat):Int)=4) || Z 4) && true))))=_
  generalize Z 1=a; generalize Z 2=b; generalize Z 3=c; generalize Z 4=d
  cases a <;> cases b <;> cases c <;> cases d <;> rfl
section
variable (nm:ByteArray) (kd:Int) (ts:List (List Br)) (cr:List Ah) (ci st:Int) (wd:List Int) (cn ct:Int) (mv:List Cc) (tt pp:List Int)
theorem iL (k:Nat) (h1:1≤k) (h2:k≤4):Mg.f nm kd ts cr ci st wd cn ct mv tt pp (k:Int)=some (Zk ts cr ci st wd cn ct mv tt pp k):=by
  have e:k=1∨k=2∨k=3∨k=4:=by omega
  unfold Mg.f H5.f F7.f Ho.f Fg.f
  rcases e with rfl | rfl | rfl | rfl
  · rw [if_pos (by decide)]; simp [Zk]
  · rw [if_neg (by decide),if_pos (by decide)]
    by_cases h:cr.length=0 <;> simp [Zk,h]
  · rw [if_neg (by decide),if_neg (by decide),if_pos (by decide)]
    by_cases h:st=0 <;> simp [Zk,h]
  · rw [if_neg (by decide),if_neg (by decide),if_neg (by decide)]
    by_cases a1:cn=0 <;> by_cases a2:ct=0 <;> by_cases a3:mv.length=0 <;> by_cases a4:tt.length=0 <;> simp [Zk,a1,a2,a3,a4]
theorem Zj:Lh.f nm kd ts cr ci st wd cn ct mv tt pp=some (!Zk ts cr ci st wd cn ct mv tt pp 1,!Zk ts cr ci st wd cn ct mv tt pp 2,!Zk ts cr ci st wd cn ct mv tt pp 3,!Zk ts cr ci st wd cn ct mv tt pp 4):=by
  have p:∀ n:Nat,decide (0<(n:Int))=!decide (n=0):=fun n=>by
    by_cases h:n=0
    · rw [decide_eq_true h,decide_eq_false (by omega)]; rfl
    · rw [decide_eq_false h,decide_eq_true (by omega)]; rfl
  unfold Lh.f
  simp only [p]
  by_cases b1:cr.length=0 <;> by_cases b2:st=0 <;> by_cases b3:ci=0 <;> by_cases a1:cn=0 <;> by_cases a2:ct=0 <;> by_cases a3:mv.length=0 <;> by_cases a4:tt.length=0 <;> simp [Zk,b1,b2,b3,a1,a2,a3,a4]
theorem Vl (h0:nm.size≤2000000) (h1:ts.length≤2000000) (h2:cr.length≤2000000) (h3:wd.length≤2000000) (h4:mv.length≤2000000) (h5:tt.length≤2000000) (h6:pp.length≤2000000) :
    ∃ b,Ab (fun K=>Co.f K nm kd ts cr ci st wd cn ct mv tt pp) b∧Ab (fun K=>Ic.f K nm kd ts cr ci st wd cn ct mv tt pp) b:=by
  have n1:=Yt h0
  have n2:=Zm h0
  obtain ⟨bt,ct1,ct2⟩:=oC ts h1
  obtain ⟨bd,cd1,cd2⟩:=Z6 cr ci h2
  obtain ⟨bb,cb1,cb2⟩:=fM st wd h3
  obtain ⟨bp,cp1,cp2⟩:=eX cn ct mv tt pp h4 h5 h6
  let P:Nat→Bool:=fun i=>decide (((i+1:Nat):Int)=kd) || Zk ts cr ci st wd cn ct mv tt pp (i+1)
  have loop:∀ b,Ac (fun K k=>Co.l1 K k nm kd ts cr ci st wd cn ct mv tt pp ((4+1:Nat):Int)) b→Ac (fun K k=>Co.l1 K k nm kd ts cr ci st wd cn ct mv tt pp 1) (K7 4 P && b):=fun b h =>
    Nc (l:=fun K k i=>Co.l1 K k nm kd ts cr ci st wd cn ct mv tt pp ((i+1:Nat):Int)) (n:=4) (P:=P) (fun i hi hp v hv=>Ac.step (fun K k=>by
        rw [Co.l1,if_pos (by omega)]
        by_cases e:((i+1:Nat):Int)=kd
        · rw [if_pos e,Ce (by omega)]
        · have hz:Zk ts cr ci st wd cn ct mv tt pp (i+1)=true:=by
            have:P i=true:=hp
            show _=true
            simp only [P,decide_eq_false e,Bool.false_or] at this
            exact this
          rw [if_neg e,iL _ _ _ _ _ _ _ _ _ _ _ _ (i+1) (by omega) (by omega),Option.bind_some,if_pos hz,Ce (by omega)]) hv)
      (fun i hi hp=>Ac.of fun K k=>by
        have:P i=false:=hp
        have e:¬ ((i+1:Nat):Int)=kd:=fun e=>by simp only [P,decide_eq_true e,Bool.true_or] at this; cases this
        have hz:Zk ts cr ci st wd cn ct mv tt pp (i+1)=false:=by
          simp only [P,decide_eq_false e,Bool.false_or] at this
          exact this
        rw [Co.l1,if_pos (by omega),if_neg e,iL _ _ _ _ _ _ _ _ _ _ _ _ (i+1) (by omega) (by omega),Option.bind_some,if_neg (by rw [hz]; decide)])
      h
  unfold Co.f Ic.f
  simp only [Vm,Qh,Zj,b4,Option.bind_some]
  cases hn:(K7 nm.size (Py nm) && decide (1≤nm.size∧nm.size≤8)) with
  | false =>
    rw [hn] at n1 n2
    exact ⟨false,Ab.bind n1 (Ab.neg (by decide) (Ab.const _)),Ab.bind n2 (Ab.neg (by decide) (Ab.const _))⟩
  | true =>
    rw [hn] at n1 n2
    by_cases hk:1≤kd∧kd≤4
    rotate_left
    · rw [decide_eq_false hk]
      exact ⟨false,Ab.bind n1 (Ab.pos rfl (Ab.neg (by decide) (Ab.const _))),Ab.bind n2 (Ab.pos rfl (Ab.neg (by decide) (Ab.const _)))⟩
    rw [decide_eq_true hk]
    have e:kd=1∨kd=2∨kd=3∨kd=4:=by omega
    rcases e with rfl | rfl | rfl | rfl
    · have hall:K7 4 P=(!false && !(!Zk ts cr ci st wd cn ct mv tt pp 2) && !(!Zk ts cr ci st wd cn ct mv tt pp 3) && !(!Zk ts cr ci st wd cn ct mv tt pp 4)):=yQ _
      have hL:=(loop bt (Ac.of0 ct1 fun K k=>by rw [Co.l1,if_neg (by decide),if_pos rfl])).I5
      rw [hall] at hL
      refine ⟨_,Ab.bind n1 (Ab.pos rfl (Ab.pos rfl hL)),Ab.bind n2 (Ab.pos rfl (Ab.pos rfl ?_))⟩
      refine Ab.pos (by decide) (Ab.congr (fun K=>?_) (Ab.tup (F:=fun K=>Bv.f K ts) ct2))
      rfl
    · have hall:K7 4 P=(!(!Zk ts cr ci st wd cn ct mv tt pp 1) && !false && !(!Zk ts cr ci st wd cn ct mv tt pp 3) && !(!Zk ts cr ci st wd cn ct mv tt pp 4)):=yS _
      have hL:=(loop bd (Ac.of0 cd1 fun K k=>by rw [Co.l1,if_neg (by decide),if_neg (by decide),if_pos rfl])).I5
      rw [hall] at hL
      refine ⟨_,Ab.bind n1 (Ab.pos rfl (Ab.pos rfl hL)),Ab.bind n2 (Ab.pos rfl (Ab.pos rfl ?_))⟩
      refine Ab.neg (by decide) <| Ab.pos (by decide) (Ab.congr (fun K=>?_) (Ab.tup (F:=fun K=>G8.f K cr ci) cd2))
      rfl
    · have hall:K7 4 P=(!(!Zk ts cr ci st wd cn ct mv tt pp 1) && !(!Zk ts cr ci st wd cn ct mv tt pp 2) && !false && !(!Zk ts cr ci st wd cn ct mv tt pp 4)):=wK _
      have hL:=(loop bb (Ac.of0 cb1 fun K k=>by rw [Co.l1,if_neg (by decide),if_neg (by decide),if_neg (by decide),if_pos rfl])).I5
      rw [hall] at hL
      refine ⟨_,Ab.bind n1 (Ab.pos rfl (Ab.pos rfl hL)),Ab.bind n2 (Ab.pos rfl (Ab.pos rfl ?_))⟩
      refine Ab.neg (by decide) <| Ab.neg (by decide) <| Ab.pos (by decide) (Ab.congr (fun K=>?_) (Ab.tup (F:=fun K=>Ih.f K st wd) cb2))
      rfl
    · have hall:K7 4 P=(!(!Zk ts cr ci st wd cn ct mv tt pp 1) && !(!Zk ts cr ci st wd cn ct mv tt pp 2) && !(!Zk ts cr ci st wd cn ct mv tt pp 3) && !false):=yO _
      have hL:=(loop bp (Ac.of0 cp1 fun K k=>by rw [Co.l1,if_neg (by decide),if_neg (by decide),if_neg (by decide),if_neg (by decide)])).I5
      rw [hall] at hL
      refine ⟨_,Ab.bind n1 (Ab.pos rfl (Ab.pos rfl hL)),Ab.bind n2 (Ab.pos rfl (Ab.pos rfl ?_))⟩
      refine Ab.neg (by decide) <| Ab.neg (by decide) <| Ab.neg (by decide) <| Ab.pos (by decide) (Ab.congr (fun K=>?_) (Ab.tup (F:=fun K=>Ig.f K cn ct mv tt pp) cp2))
      rfl
theorem oH (h1:ts.length≤2000000) (h1r:∀ j,j<ts.length→(ts.getD j []).length≤2000000) (h2:cr.length≤2000000) (h3:wd.length≤2000000) (h4:mv.length≤2000000) (h5:tt.length≤2000000) (h6:pp.length≤2000000) :
    Ab (fun K=>Ky.f K nm kd ts cr ci st wd cn ct mv tt pp) (nm,kd,ts,cr,ci,st,wd,cn,ct,mv,tt,pp):=by
  have tT:Ab (fun K=>Iw.f K ts) ts:=Ab.bind (lL h1 h1r) (Ab.const _)
  have tB:Ab (fun K=>Mw.f K st wd) (st,wd):=Ab.bind (Wx h3) (Ab.const _)
  have tC:Ab (fun K=>Iy.f K cn ct mv tt pp) (cn,ct,mv,tt,pp):=Ab.bind (pU h4) (Ab.bind (Wx h5) (Ab.bind (Wx h6) (Ab.const _)))
  unfold Ky.f
  refine Ab.bind tT (Ab.Ed (jD h2 ci) (Ab.Ed tB ?_))
  exact Ab.bind (F:=fun K=>Iy.f K cn ct mv tt pp) (G:=fun K z=>some (nm,kd,ts,cr,ci,st,wd,z.1,z.2.1,z.2.2.1,z.2.2.2.1,z.2.2.2.2)) tC (Ab.const _)
theorem oQ (h1:ts.length≤2000000) (h1r:∀ j,j<ts.length→(ts.getD j []).length≤2000000) (h2:cr.length≤2000000) (h3:wd.length≤2000000) (h4:mv.length≤2000000) (h5:tt.length≤2000000) (h6:pp.length≤2000000) :
    Ab (fun K=>Lt.f K nm kd ts cr ci st wd cn ct mv tt pp nm kd ts cr ci st wd cn ct mv tt pp) true:=by
  have eT:Ab (fun K=>Ir.f K ts ts) true:=Ab.bind (nG h1 h1r) (Ab.pos rfl (Ab.const _))
  have eB:Ab (fun K=>Mx.f K st wd st wd) true:=Ab.pos rfl (Ab.bind (Xy h3) (Ab.pos rfl (Ab.const _)))
  have eC:Ab (fun K=>Jh.f K cn ct mv tt pp cn ct mv tt pp) true:=Ab.pos rfl (Ab.pos rfl (Ab.bind (sG h4) (Ab.pos rfl (Ab.bind (Xy h5) (Ab.pos rfl (Ab.bind (Xy h6) (Ab.pos rfl (Ab.const _))))))))
  unfold Lt.f
  exact Ab.pos (Wv nm) (Ab.pos rfl (Ab.bind eT (Ab.pos rfl (Ab.bind (jS h2 ci) (Ab.pos rfl (Ab.bind eB (Ab.pos rfl (Ab.bind eC (Ab.pos rfl (Ab.const _))))))))))
end
theorem Ab.Jm {α0 α1 α2 α3 α4 α5 α6 α7 α8 α9 α10 α11 β:Type} {F:Nat→Option (α0 × α1 × α2 × α3 × α4 × α5 × α6 × α7 × α8 × α9 × α10 × α11)} {G:Nat→α0→α1→α2→α3→α4→α5→α6→α7→α8→α9→α10→α11→Option β} {a0:α0} {a1:α1} {a2:α2} {a3:α3} {a4:α4} {a5:α5} {a6:α6} {a7:α7} {a8:α8} {a9:α9} {a10:α10} {a11:α11} {r:β}
    (h:Ab F (a0,a1,a2,a3,a4,a5,a6,a7,a8,a9,a10,a11)) (g:Ab (fun K=>G K a0 a1 a2 a3 a4 a5 a6 a7 a8 a9 a10 a11) r):Ab (fun K=>Go.Proofs.YtjopfecenllmgaaGreatDoor.Jm (F K) (G K)) r:=by
  obtain ⟨n,hn⟩:=h
  obtain ⟨m,hm⟩:=g
  exact ⟨n+m,fun K hK=>by show Go.Proofs.YtjopfecenllmgaaGreatDoor.Jm (F K) (G K)=some r; rw [hn K (by omega)]; exact hm K (by omega)⟩
def Small (x:Af):Prop:=x.Name.size≤2000000∧(x.Ad.length≤2000000∧∀ j,j<x.Ad.length→(x.Ad.getD j []).length≤2000000)∧x.Ae.length≤2000000∧x.Ay.length≤2000000∧x.Ag.length≤2000000∧x.Ak.length≤2000000∧x.Ai.length≤2000000
def Fits (x:Af):Prop:=x.Name.size≤9223372036854775807∧(x.Ad.length≤9223372036854775807∧∀ j,j<x.Ad.length→(x.Ad.getD j []).length≤9223372036854775807)∧x.Ae.length≤9223372036854775807∧x.Ay.length≤9223372036854775807∧x.Ag.length≤9223372036854775807∧x.Ak.length≤9223372036854775807∧x.Ai.length≤9223372036854775807
abbrev szI (K:Nat) (x:Af) (left:Int):Option Int:=Lp.f K x.Name x.Kind x.Ad x.Ae x.Al x.Ao x.Ay x.Am x.Aj x.Ag x.Ak x.Ai left
theorem Vo {α:Type} {xs:List α} {z:α} {l:Nat→Nat→List α→Nat→Option (List α)} {one:Nat→Nat→Option α}
    (hl:∀ K k out i,i<xs.length→out.length=xs.length→l K (k+1) out i=(one K i).bind fun t=>l K k (out.set i t) (i+1)) (he:∀ K k out,l K (k+1) out xs.length=some out)
    (h1:∀ i,i<xs.length→Ab (fun K=>one K i) (xs.getD i z)) :
    ∀ (m i:Nat) (out:List α),xs.length - i=m→i≤xs.length→out.length=xs.length→(∀ j,j<i→out[j]?=xs[j]?)→Ac (fun K k=>l K k out i) xs
  | 0,i,out,hm,hi,ho,hj=>by
    obtain rfl:i=xs.length:=by omega
    have e:out=xs:=by
      apply List.ext_getElem?
      intro j
      by_cases h:j<xs.length
      · exact hj j h
      · rw [List.getElem?_eq_none (by omega),List.getElem?_eq_none (by omega)]
    exact Ac.of fun K k=>by rw [he,e]
  | m+1,i,out,hm,hi,ho,hj=>by
    have hlt:i<xs.length:=by omega
    have hg:xs.getD i z=xs[i]:=by rw [List.getD_eq_getElem?_getD,List.getElem?_eq_getElem hlt]; rfl
    refine Ac.step (fun K k=>hl K k out i hlt ho) (Ac.bind (h1 i hlt).two (Vo hl he h1 m (i+1) _ (by omega) (by omega) (by rw [List.length_set]; exact ho) (fun j hj'=>?_)))
    by_cases hij:i=j
    · subst hij; rw [List.getElem?_set_self (by omega),List.getElem?_eq_getElem hlt,hg]
    · rw [List.getElem?_set_ne hij]; exact hj j (by omega)
abbrev toI (K:Nat) (x:Af):Option Af:=Go.Proofs.YtjopfecenllmgaaGreatDoor.Jm (Ky.f K x.Name x.Kind x.Ad x.Ae x.Al x.Ao x.Ay x.Am x.Aj x.Ag x.Ak x.Ai) (fun a b c d e f g h i j k l=>some (⟨a,b,c,d,e,f,g,h,i,j,k,l⟩:Af))
theorem Ta {α0 α1 α2 α3 α4 α5 α6 α7 α8 α9 α10 α11 β γ:Type} (x:Option (α0 × α1 × α2 × α3 × α4 × α5 × α6 × α7 × α8 × α9 × α10 × α11)) (f:α0→α1→α2→α3→α4→α5→α6→α7→α8→α9→α10→α11→β) (g:β→Option γ) :
    (Go.Proofs.YtjopfecenllmgaaGreatDoor.Jm x fun a b c d e f' g' h i j k l=>some (f a b c d e f' g' h i j k l)).bind g=Go.Proofs.YtjopfecenllmgaaGreatDoor.Jm x fun a b c d e f' g' h i j k l=>g (f a b c d e f' g' h i j k l):=by cases x <;> rfl
theorem jQ {x:Af} (h:Small x):Ab (fun K=>toI K x) x:=by
  obtain ⟨h1,⟨h2,h2r⟩,h3,h4,h5,h6,h7⟩:=h
  exact Ab.Jm (oH _ _ _ _ _ _ _ _ _ _ _ _ h2 h2r h3 h4 h5 h6 h7) (Ab.const _)
theorem iG {xs:List Af} (hn:xs.length≤2000000) (h:∀ i,i<xs.length→Small (xs.getD i Bj)):Ab (fun K=>F4.f K xs) xs:=by
  refine Ab.congr (fun K=>?_) (Vo (z:=Bj) (l:=fun K k out i=>F4.l1 K k xs out (i:Int)) (one:=fun K i=>toI K (xs.getD i Bj)) (fun K k out i hi ho=>by
      rw [F4.l1,if_pos (by omega),if_pos (by omega),Int.toNat_natCast,F5,Ta,Ce (by omega)]
      simp only [if_pos (show 0≤(i:Int)∧(i:Int)<(out.length:Int) by omega)])
    (fun K k out=>by rw [F4.l1,if_neg (by omega)]) (fun i hi=>jQ (h i hi)) xs.length 0 (List.replicate xs.length Bj) (by omega) (by omega) (by simp) (fun j hj=>by omega)).I5
  rw [F4.f,if_pos (by omega),if_pos (by omega),Int.toNat_natCast]
  rfl
theorem bR {xs:List (List Af)} (hn:xs.length≤2000000) (h:∀ i,i<xs.length→(xs.getD i []).length≤2000000∧∀ j,j<(xs.getD i []).length→Small ((xs.getD i []).getD j Bj)):Ab (fun K=>Fq.f K xs) xs:=by
  refine Ab.congr (fun K=>?_) (Vo (z:=[]) (l:=fun K k out i=>Fq.l1 K k xs out (i:Int)) (one:=fun K i=>F4.f K (xs.getD i [])) (fun K k out i hi ho=>by
      rw [Fq.l1,if_pos (by omega),if_pos (by omega),Int.toNat_natCast,Ce (by omega)]
      simp only [if_pos (show 0≤(i:Int)∧(i:Int)<(out.length:Int) by omega)])
    (fun K k out=>by rw [Fq.l1,if_neg (by omega)]) (fun i hi=>iG (h i hi).1 (h i hi).2) xs.length 0 (List.replicate xs.length []) (by omega) (by omega) (by simp) (fun j hj=>by omega)).I5
  rw [Fq.f,if_pos (by omega),if_pos (by omega),Int.toNat_natCast]
  rfl
theorem iD {n:Nat} {l:Nat→Nat→Nat→Option Bool} {one:Nat→Nat→Option Bool} (hl:∀ K k i,i<n→l K (k+1) i=(one K i).bind fun t=>if t=true then l K k (i+1) else some false) (he:∀ K k,l K (k+1) n=some true)
    (h1:∀ i,i<n→Ab (fun K=>one K i) true):Ac (fun K k=>l K k 0) true:=by
  have:=Nc (l:=l) (n:=n) (P:=fun _=>true) (r:=true) (fun i hi _ v hv=>Ac.step (fun K k=>hl K k i hi) (Ac.bind (h1 i hi).two (Ac.pos rfl hv))) (fun i hi hp=>by cases hp) (Ac.of he)
  rw [Tg (fun _ _=>rfl)] at this
  exact this
theorem iK {xs:List Af} (hn:xs.length≤2000000) (h:∀ i,i<xs.length→Small (xs.getD i Bj)):Ab (fun K=>Gn.f K xs xs) true:=by
  refine Ab.pos rfl (iD (n:=xs.length) (l:=fun K k i=>Gn.l1 K k xs xs (i:Int)) (fun K k i hi=>by
      rw [Gn.l1,if_pos (by omega),if_pos (by omega),Int.toNat_natCast,F5,if_pos (by omega),F5,Ce (by omega)])
    (fun K k=>by rw [Gn.l1,if_neg (by omega)]) (fun i hi=>?_)).I5
  obtain ⟨h1,⟨h2,h2r⟩,h3,h4,h5,h6,h7⟩:=h i hi
  exact oQ _ _ _ _ _ _ _ _ _ _ _ _ h2 h2r h3 h4 h5 h6 h7
theorem dN {xs:List (List Af)} (hn:xs.length≤2000000) (h:∀ i,i<xs.length→(xs.getD i []).length≤2000000∧∀ j,j<(xs.getD i []).length→Small ((xs.getD i []).getD j Bj)):Ab (fun K=>Fz.f K xs xs) true :=
  Ab.pos rfl (iD (n:=xs.length) (l:=fun K k i=>Fz.l1 K k xs xs (i:Int)) (fun K k i hi=>by
      rw [Fz.l1,if_pos (by omega),if_pos (by omega),if_pos (by omega),Int.toNat_natCast,Ce (by omega)])
    (fun K k=>by rw [Fz.l1,if_neg (by omega)]) (fun i hi=>iK (h i hi).1 (h i hi).2)).I5
theorem sF {x:Af} (h:Small x):∃ b,Ab (fun K=>Co.f K x.Name x.Kind x.Ad x.Ae x.Al x.Ao x.Ay x.Am x.Aj x.Ag x.Ak x.Ai) b ∧
    Ab (fun K=>Ic.f K x.Name x.Kind x.Ad x.Ae x.Al x.Ao x.Ay x.Am x.Aj x.Ag x.Ak x.Ai) b:=by
  obtain ⟨h1,⟨h2,h2r⟩,h3,h4,h5,h6,h7⟩:=h
  exact Vl x.Name x.Kind x.Ad x.Ae x.Al x.Ao x.Ay x.Am x.Aj x.Ag x.Ak x.Ai h1 h2 h3 h4 h5 h6 h7
theorem Zg {xs:List Af} (hn:xs.length≤2000000) {l:Nat→Nat→Int→Option Bool} {one:Nat→Af→Option Bool} (B:Nat→Bool) (hB:∀ i,i<xs.length→Ab (fun K=>one K (xs.getD i Bj)) (B i))
    (hl:∀ K k (i:Nat),i<xs.length→l K (k+1) (i:Int)=(one K (xs.getD i Bj)).bind fun t=>if t=true then (if 0<(i:Int) then (if 0≤w64 ((i:Int) - 1)∧w64 ((i:Int) - 1)<(xs.length:Int) then (bnd (xs.getD ((w64 ((i:Int) - 1)).toNat) Bj) (fun e=>if (slt e.Name (xs.getD i Bj).Name)=true then (l K k (w64 ((i:Int)+1))) else (some false))) else none) else (l K k (w64 ((i:Int)+1)))) else some false)
    (he:∀ K k,l K (k+1) (xs.length:Int)=some (decide ((xs.length:Int)≤10))) :
    Ac (fun K k=>l K k 0) (K7 xs.length (fun i=>B i && (decide (i=0) || slt (xs.getD (i - 1) Bj).Name (xs.getD i Bj).Name)) && decide ((xs.length:Int)≤10)):=by
  have prev:∀ i:Nat,i<xs.length→0<i→w64 ((i:Int) - 1)=((i - 1:Nat):Int):=fun i h1 h2=>by rw [Ip (by omega) (by omega)]; omega
  refine Nc (l:=fun K k i=>l K k (i:Int)) (n:=xs.length) (fun i hi hp v hv=>?_) (fun i hi hp=>?_) (Ac.of he)
  · rw [Bool.and_eq_true] at hp
    refine Ac.step (fun K k=>hl K k i hi) (Ac.bind (hB i hi).two (Ac.pos hp.1 ?_))
    rw [Ce (by omega)]
    by_cases h0:0<i
    · have h2:slt (xs.getD (i - 1) Bj).Name (xs.getD i Bj).Name=true:=by
        have:=hp.2; rw [decide_eq_false (by omega),Bool.false_or] at this; exact this
      refine Ac.pos (by omega) ?_
      rw [prev i hi h0,Int.toNat_natCast]
      exact Ac.pos (by omega) (Ac.pos h2 hv)
    · exact Ac.neg (by omega) hv
  · refine Ac.step (fun K k=>hl K k i hi) (Ac.bind (hB i hi).two ?_)
    cases hb:B i with
    | false=>exact Ac.neg (by decide) (Ac.const _)
    | true =>
      rw [hb,Bool.true_and,Bool.or_eq_false_iff] at hp
      have h0:0<i:=by have:=of_decide_eq_false hp.1; omega
      refine Ac.pos rfl (Ac.pos (by omega) ?_)
      rw [prev i hi h0,Int.toNat_natCast]
      exact Ac.pos (by omega) (Ac.neg (by rw [hp.2]; decide) (Ac.const _))
theorem Ur {n:Nat} {Q:Nat→Bool→Prop} (h:∀ i,i<n→∃ b,Q i b):∃ B:Nat→Bool,∀ i,i<n→Q i (B i) :=
  ⟨fun i=>if hi:i<n then Classical.choose (h i hi) else false,fun i hi=>by simp only [dif_pos hi]; exact Classical.choose_spec (h i hi)⟩
theorem Zb {xs:List Af} (hn:xs.length≤2000000) (h:∀ i,i<xs.length→Small (xs.getD i Bj)):∃ b,Ab (fun K=>Es.f K xs) b∧Ab (fun K=>Ev.f K xs) b∧(b=true→∀ i,0<i→i<xs.length→slt (xs.getD (i - 1) Bj).Name (xs.getD i Bj).Name=true):=by
  obtain ⟨B,hB⟩:=Ur fun i hi=>sF (h i hi)
  refine ⟨_,(Zg hn (l:=fun K k i=>Es.l1 K k xs i) (one:=fun K x=>Co.f K x.Name x.Kind x.Ad x.Ae x.Al x.Ao x.Ay x.Am x.Aj x.Ag x.Ak x.Ai) B (fun i hi=>(hB i hi).1)
      (fun K k i hi=>by rw [Es.l1,if_pos (by omega),if_pos (by omega),Int.toNat_natCast,F5]) (fun K k=>by rw [Es.l1,if_neg (by omega)])).I5,
    (Zg hn (l:=fun K k i=>Ev.l1 K k xs i) (one:=fun K x=>Ic.f K x.Name x.Kind x.Ad x.Ae x.Al x.Ao x.Ay x.Am x.Aj x.Ag x.Ak x.Ai) B (fun i hi=>(hB i hi).2)
      (fun K k i hi=>by rw [Ev.l1,if_pos (by omega),if_pos (by omega),Int.toNat_natCast,F5]) (fun K k=>by rw [Ev.l1,if_neg (by omega)])).I5,fun hb i h0 hi=>?_⟩
  rw [Bool.and_eq_true] at hb
  have h1:=Tc hb.1 hi
  rw [Bool.and_eq_true,decide_eq_false (by omega),Bool.false_or] at h1
  exact h1.2
theorem Xq {L:List (List Af)} (hn:L.length≤2000000) (P:Nat→Bool) (hP:∀ i,i<L.length→Ab (fun K=>Ev.f K (L.getD i [])) (P i)):Ab (fun K=>Bu.f K L) (!K7 L.length P):=by
  have fn:∀ i,i<L.length→Ab (fun K=>Kg.f K (L.getD i [])) (!P i):=fun i hi=>Ab.bind (hP i hi) (Ab.const _)
  obtain ⟨v,t,e⟩:=Q0 (l:=fun K k i=>Bb.l1 K k L (i:Int)) (n:=L.length) (P:=P) (fun i hi hp v hv=>by
      refine Ac.step (fun K k=>?_) (Ac.bind (G:=fun K k b=>if b=true then some (i:Int) else Bb.l1 K k L (w64 ((i:Int)+1))) (fn i hi).two (Ac.neg (by rw [hp]; decide) (by rw [Ce (by omega)]; exact hv)))
      rw [Bb.l1,if_pos (by omega),if_pos (by omega),Int.toNat_natCast])
    (fun i hi hp=>by
      refine Ac.step (fun K k=>?_) (Ac.bind (G:=fun K k b=>if b=true then some (i:Int) else Bb.l1 K k L (w64 ((i:Int)+1))) (fn i hi).two (Ac.pos (by rw [hp]; rfl) (Ac.const _)))
      rw [Bb.l1,if_pos (by omega),if_pos (by omega),Int.toNat_natCast])
    (Ac.of fun K k=>by rw [Bb.l1,if_neg (by omega)])
  rw [← e]
  exact Ab.bind (F:=fun K=>Bb.f K L) t.I5 (Ab.const _)
theorem fU {L:List (List Af)} (hn:L.length≤2000000) (P:Nat→Bool) (hP:∀ i,i<L.length→Ab (fun K=>Es.f K (L.getD i [])) (P i)):Ab (fun K=>D5.f K L) (K7 L.length P && decide ((L.length:Int)≤6)):=by
  refine (Nc (l:=fun K k i=>D5.l1 K k L (i:Int)) (n:=L.length) (P:=P) (fun i hi hp v hv=>?_) (fun i hi hp=>?_) (Ac.of fun K k=>by rw [D5.l1,if_neg (by omega)])).I5
  · refine Ac.step (fun K k=>?_) (Ac.bind (G:=fun K k b=>if b=true then D5.l1 K k L (w64 ((i:Int)+1)) else some false) (hP i hi).two (Ac.pos hp (by rw [Ce (by omega)]; exact hv)))
    rw [D5.l1,if_pos (by omega),if_pos (by omega),Int.toNat_natCast]
  · refine Ac.step (fun K k=>?_) (Ac.bind (G:=fun K k b=>if b=true then D5.l1 K k L (w64 ((i:Int)+1)) else some false) (hP i hi).two (Ac.neg (by rw [hp]; decide) (Ac.const _)))
    rw [D5.l1,if_pos (by omega),if_pos (by omega),Int.toNat_natCast]
def F6 (L:List (List Af)):Prop:=L.length≤2000000∧∀ i,i<L.length→(L.getD i []).length≤2000000∧∀ j,j<(L.getD i []).length→Small ((L.getD i []).getD j Bj)
theorem Xj {L:List (List Af)} (h:F6 L):∃ B:Bool,Ab (fun K=>D5.f K L) (B && decide ((L.length:Int)≤6))∧Ab (fun K=>Bu.f K L) (!B):=by
  obtain ⟨P,hP⟩:=Ur (Q:=fun i b=>Ab (fun K=>Es.f K (L.getD i [])) b∧Ab (fun K=>Ev.f K (L.getD i [])) b) fun i hi=>(Zb (h.2 i hi).1 (h.2 i hi).2).imp fun b hb=>⟨hb.1,hb.2.1⟩
  exact ⟨_,fU h.1 P (fun i hi=>(hP i hi).1),Xq h.1 P (fun i hi=>(hP i hi).2)⟩
theorem X8 {I:List Af} {U R:List (List Af)} {bi bu br:Bool} (i0:Ab (fun K=>Ev.f K I) bi) (i1:Ab (fun K=>Bu.f K U) (!bu)) (i2:Ab (fun K=>Bu.f K R) (!br)) :
    Ab (fun K=>Dk.f K I U R) (bi && ((bu && decide ((U.length:Int)≤6)) && (br && decide ((R.length:Int)≤6)))):=by
  have c0:Ab (fun K=>Bu.f K [I]) (!bi):=by
    have:=Xq (L:=[I]) (by simp) (fun _=>bi) (fun i hi=>by
      obtain rfl:i=0:=by simp at hi; exact hi
      exact i0)
    have e:K7 [I].length (fun _=>bi)=bi:=by show (bi && true)=bi; rw [Bool.and_true]
    rw [e] at this; exact this
  have step:∀ (x:Nat) (L:List (List Af)),x<3→([([I]:List (List Af)),U,R]:List (List (List Af))).getD x []=L→∀ c,Ab (fun K=>Bu.f K L) (!c)→∀ r,Ac (fun K k=>Dk.l1 K k I U R ((x+1:Nat):Int)) r→Ac (fun K k=>Dk.l1 K k I U R (x:Int)) ((c && decide ((L.length:Int)≤6)) && r):=fun x L hx hL c hc r hr=>by
    have e:∀ K k,Dk.l1 K (k+1) I U R (x:Int)=if 6<(L.length:Int) then some false else (Bu.f K L).bind fun t=>if t=true then some false else Dk.l1 K k I U R ((x+1:Nat):Int):=fun K k=>by
      rw [Dk.l1,if_pos (by omega),if_pos (by show 0≤(x:Int)∧(x:Int)<3; omega),Int.toNat_natCast,hL,Ce (by omega)]
    refine Ac.step e ?_
    by_cases h6:6<(L.length:Int)
    · rw [decide_eq_false (by omega),Bool.and_false,Bool.false_and]; exact Ac.pos h6 (Ac.const _)
    · rw [decide_eq_true (by omega),Bool.and_true]
      refine Ac.neg h6 (Ac.bind hc.two ?_)
      cases c with
      | true=>exact Ac.neg (by decide) hr
      | false=>exact Ac.pos rfl (Ac.const _)
  have hi:=step 0 [I] (by decide) rfl bi c0 _ (step 1 U (by decide) rfl bu i1 _ (step 2 R (by decide) rfl br i2 true (Ac.of fun K k=>by rw [Dk.l1,if_neg (by decide)])))
  have hd:=hi.I5
  have e1:(bi && decide ((([I]:List (List Af)).length:Int)≤6))=bi:=by rw [show decide ((([I]:List (List Af)).length:Int)≤6)=true from rfl,Bool.and_true]
  rw [e1,Bool.and_true] at hd
  exact hd
theorem Q3 {I:List Af} {U R:List (List Af)} (hI:I.length≤2000000) (hIs:∀ i,i<I.length→Small (I.getD i Bj)) (hU:F6 U) (hR:F6 R):∃ b,Ab (fun K=>Et.f K I U R) b∧Ab (fun K=>Dk.f K I U R) b∧Ab (fun K=>Dk.f K I R U) b∧(b=true→((U.length:Int)≤6∧(R.length:Int)≤6)∧∀ i,0<i→i<I.length→slt (I.getD (i - 1) Bj).Name (I.getD i Bj).Name=true):=by
  obtain ⟨bi,s0,i0,o0⟩:=Zb hI hIs
  obtain ⟨bu,s1,i1⟩:=Xj hU
  obtain ⟨br,s2,i2⟩:=Xj hR
  have e2:=X8 i0 i2 i1
  rw [Bool.and_comm (br && _)] at e2
  refine ⟨_,?_,X8 i0 i1 i2,e2,fun h=>?_⟩
  · unfold Et.f
    refine Ab.bind s0 ?_
    cases bi with
    | false=>exact Ab.neg (by decide) (Ab.const _)
    | true =>
      refine Ab.pos rfl (Ab.bind s1 ?_)
      rw [Bool.true_and]
      cases hb:(bu && decide ((U.length:Int)≤6)) with
      | false=>exact Ab.neg (by decide) (Ab.const _)
      | true =>
        refine Ab.pos rfl (Ab.bind s2 ?_)
        rw [Bool.true_and]; exact Ab.const _
  · simp only [Bool.and_eq_true,decide_eq_true_eq] at h
    obtain ⟨h1,h2,h3⟩:=h
    exact ⟨⟨h2.2,h3.2⟩,o0 h1⟩
def O4 (f:Nat→Nat):Nat→Nat→Nat
  | _,0=>0
  | i,m+1=>f i+O4 f (i+1) m
def Xw:Int:=1000000000000
theorem Sc {α:Type} {xs:List α} {i:Nat} {x z:α} (h:i<xs.length):(xs.set i x).getD i z=x:=by
  rw [List.getD_eq_getElem?_getD,List.getElem?_set_self h]; rfl
theorem kP {α:Type} {xs:List α} {i j:Nat} {x z:α} (h:i≠j):(xs.set i x).getD j z=xs.getD j z:=by
  rw [List.getD_eq_getElem?_getD,List.getElem?_set_ne h,← List.getD_eq_getElem?_getD]
theorem Y6 {α:Type} {xs:List α} {z:α} {l:Nat→Nat→List α→Int→Nat→Option (Int × List α)} {l':Nat→Nat→List α→Int→Nat→Option Int} {cnt:Nat→Nat}
    (he:∀ K k ys kk,ys.length=xs.length→l K (k+1) ys kk xs.length=some (kk,ys)) (he':∀ K k ys kk,ys.length=xs.length→l' K (k+1) ys kk xs.length=some kk)
    (h1:∀ i,i<xs.length→∀ kk:Int,0≤kk→kk+(cnt i:Int)≤Xw→∃ y,
      (∀ ys r,ys.length=xs.length→ys.getD i z=xs.getD i z→Ac (fun K k=>l K k (ys.set i y) (kk+(cnt i:Int)) (i+1)) r→Ac (fun K k=>l K k ys kk i) r) ∧
      (∀ ys r,ys.length=xs.length→ys.getD i z=y→Ac (fun K k=>l' K k ys (kk+(cnt i:Int)) (i+1)) r→Ac (fun K k=>l' K k ys kk i) r)) :
    ∀ (m i:Nat) (ys:List α) (kk:Int),xs.length - i=m→i≤xs.length→ys.length=xs.length→(∀ j,i≤j→j<xs.length→ys.getD j z=xs.getD j z)→0≤kk→kk+(O4 cnt i m:Int)≤Xw →
      ∃ zs,zs.length=xs.length∧(∀ j,j<i→zs.getD j z=ys.getD j z)∧Ac (fun K k=>l K k ys kk i) (kk+(O4 cnt i m:Int),zs)∧Ac (fun K k=>l' K k zs kk i) (kk+(O4 cnt i m:Int))
  | 0,i,ys,kk,hm,hi,hy,hg,h0,hb=>by
    obtain rfl:i=xs.length:=by omega
    refine ⟨ys,hy,fun _ _=>rfl,Ac.of fun K k=>?_,Ac.of fun K k=>?_⟩
    · rw [he K k ys kk hy]; simp [O4]
    · rw [he' K k ys kk hy]; simp [O4]
  | m+1,i,ys,kk,hm,hi,hy,hg,h0,hb=>by
    have hlt:i<xs.length:=by omega
    have hs:(O4 cnt i (m+1):Int)=(cnt i:Int)+(O4 cnt (i+1) m:Int):=by rw [O4]; omega
    obtain ⟨y,a,b⟩:=h1 i hlt kk h0 (by omega)
    obtain ⟨zs,z1,z2,z3,z4⟩:=Y6 he he' h1 m (i+1) (ys.set i y) (kk+(cnt i:Int)) (by omega) (by omega) (by rw [List.length_set]; exact hy) (fun j hj hj'=>by rw [kP (by omega)]; exact hg j (by omega) hj') (by omega) (by omega)
    have hk:kk+(O4 cnt i (m+1):Int)=kk+(cnt i:Int)+(O4 cnt (i+1) m:Int):=by omega
    rw [hk]
    refine ⟨zs,z1,fun j hj=>?_,a ys _ hy (hg i (Nat.le_refl _) hlt) z3,b zs _ z1 ?_ z4⟩
    · rw [z2 j (by omega),kP (by omega)]
    · rw [z2 i (by omega),Sc (by omega)]
def O8 {β:Type} (mark:Nat→List β→Int→Option (Int × List β)) (held:Nat→List β→Int→Option Int) (xs:List β) (c:Nat):Prop :=
  ∀ kk:Int,0≤kk→kk+(c:Int)≤Xw→∃ ys,ys.length=xs.length∧Ab (fun K=>mark K xs kk) (kk+(c:Int),ys)∧Ab (fun K=>held K ys kk) (kk+(c:Int))
theorem O8.of {α:Type} {xs:List α} {z:α} {mark:Nat→List α→Int→Option (Int × List α)} {held:Nat→List α→Int→Option Int} {l:Nat→Nat→List α→Int→Int→Option (Int × List α)} {l':Nat→Nat→List α→Int→Int→Option Int} {cnt:Nat→Nat}
    (hm:∀ K xs kk,mark K xs kk=l K K xs kk 0) (hh:∀ K xs kk,held K xs kk=l' K K xs kk 0)
    (he:∀ K k ys kk,ys.length=xs.length→l K (k+1) ys kk (xs.length:Int)=some (kk,ys)) (he':∀ K k ys kk,ys.length=xs.length→l' K (k+1) ys kk (xs.length:Int)=some kk)
    (h1:∀ i,i<xs.length→∀ kk:Int,0≤kk→kk+(cnt i:Int)≤Xw→∃ y,
      (∀ ys r,ys.length=xs.length→ys.getD i z=xs.getD i z→Ac (fun K k=>l K k (ys.set i y) (kk+(cnt i:Int)) ((i+1:Nat):Int)) r→Ac (fun K k=>l K k ys kk (i:Int)) r) ∧
      (∀ ys r,ys.length=xs.length→ys.getD i z=y→Ac (fun K k=>l' K k ys (kk+(cnt i:Int)) ((i+1:Nat):Int)) r→Ac (fun K k=>l' K k ys kk (i:Int)) r)):O8 mark held xs (O4 cnt 0 xs.length):=fun kk h0 hb=>by
  obtain ⟨zs,z1,_,z3,z4⟩:=Y6 (l:=fun K k ys kk i=>l K k ys kk (i:Int)) (l':=fun K k ys kk i=>l' K k ys kk (i:Int)) he he' h1 xs.length 0 xs kk (by omega) (by omega) rfl (fun _ _ _=>rfl) h0 hb
  exact ⟨zs,z1,Ab.congr (fun K=>hm K xs kk) z3.I5,Ab.congr (fun K=>hh K zs kk) z4.I5⟩
theorem Qx (c:Nat):∀ m i,O4 (fun _=>c) i m=c * m
  | 0,_=>rfl
  | m+1,i=>by rw [O4,Qx c m,Nat.mul_succ,Nat.add_comm]
section
variable {kk:Int}
theorem w1 (h0:0≤kk) (h1:kk≤Xw+10):w64 (kk+1)=kk+1:=by unfold Xw at h1; exact Ip (by omega) (by omega)
end
theorem Pw {xs:List Int} (hn:xs.length≤2000000):O8 Ct.f Dp.f xs xs.length:=by
  have h:=O8.of (xs:=xs) (z:=(0:Int)) (mark:=Ct.f) (held:=Dp.f) (l:=Ct.l1) (l':=Dp.l1) (cnt:=fun _=>1) (fun _ _ _=>rfl) (fun _ _ _=>rfl)
    (fun K k ys kk hy=>by rw [Ct.l1,if_neg (by omega)]) (fun K k ys kk hy=>by rw [Dp.l1,if_neg (by omega)]) (fun i hi kk h0 hb=>⟨kk,fun ys r hy hg h=>Ac.step (fun K k=>?_) h,fun ys r hy hg h=>Ac.step (fun K k=>?_) h⟩)
  · rw [Qx,Nat.one_mul] at h; exact h
  · rw [Ct.l1,if_pos (by omega),if_pos (by omega),Int.toNat_natCast,Ce (by omega),w1 h0 (by omega)]; rfl
  · rw [Dp.l1,if_pos (by omega),if_pos (by omega),Int.toNat_natCast,hg,if_pos rfl,Ce (by omega),w1 h0 (by omega)]; rfl
theorem jW {xs:List Br} (hn:xs.length≤2000000):O8 E8.f Ez.f xs (2 * xs.length):=by
  have h:=O8.of (xs:=xs) (z:=Md) (mark:=E8.f) (held:=Ez.f) (l:=E8.l1) (l':=Ez.l1) (cnt:=fun _=>2) (fun _ _ _=>rfl) (fun _ _ _=>rfl)
    (fun K k ys kk hy=>by rw [E8.l1,if_neg (by omega)]) (fun K k ys kk hy=>by rw [Ez.l1,if_neg (by omega)]) (fun i hi kk h0 hb=>⟨⟨kk,kk+1⟩,fun ys r hy hg h=>Ac.step (fun K k=>?_) h,fun ys r hy hg h=>Ac.step (fun K k=>?_) h⟩)
  · rw [Qx] at h; exact h
  · have e1:=w1 h0 (by omega)
    have e2:w64 (kk+1+1)=kk+2:=(w1 (by omega) (by omega)).trans (by omega)
    rw [E8.l1,if_pos (by omega),if_pos (by omega),Int.toNat_natCast]
    simp only [F5,List.length_set,if_pos (show 0≤(i:Int)∧(i:Int)<(ys.length:Int) by omega),Sc (show i<ys.length by omega),List.set_set,e1,e2,Ce (show i<4611686018427387904 by omega)]
    rfl
  · have e1:=w1 h0 (by omega)
    have e2:w64 (kk+1+1)=kk+2:=(w1 (by omega) (by omega)).trans (by omega)
    rw [Ez.l1,if_pos (by omega),if_pos (by omega),Int.toNat_natCast,hg,F5,if_pos rfl,e1,if_pos rfl,e2,Ce (by omega)]; rfl
theorem Zo {xs:List Cc} (hn:xs.length≤2000000):O8 Er.f Fs.f xs (3 * xs.length):=by
  have h:=O8.of (xs:=xs) (z:=Io) (mark:=Er.f) (held:=Fs.f) (l:=Er.l1) (l':=Fs.l1) (cnt:=fun _=>3) (fun _ _ _=>rfl) (fun _ _ _=>rfl)
    (fun K k ys kk hy=>by rw [Er.l1,if_neg (by omega)]) (fun K k ys kk hy=>by rw [Fs.l1,if_neg (by omega)]) (fun i hi kk h0 hb=>⟨⟨kk,kk+1,kk+2⟩,fun ys r hy hg h=>Ac.step (fun K k=>?_) h,fun ys r hy hg h=>Ac.step (fun K k=>?_) h⟩)
  · rw [Qx] at h; exact h
  all_goals
    have e1:=w1 h0 (by omega)
    have e2:w64 (kk+1+1)=kk+2:=(w1 (by omega) (by omega)).trans (by omega)
    have e3:w64 (kk+2+1)=kk+3:=(w1 (by omega) (by omega)).trans (by omega)
  · rw [Er.l1,if_pos (by omega),if_pos (by omega),Int.toNat_natCast]
    simp only [F5,List.length_set,if_pos (show 0≤(i:Int)∧(i:Int)<(ys.length:Int) by omega),Sc (show i<ys.length by omega),List.set_set,e1,e2,e3,Ce (show i<4611686018427387904 by omega)]
    rfl
  · rw [Fs.l1,if_pos (by omega),if_pos (by omega),Int.toNat_natCast,hg,F5,if_pos rfl,e1,if_pos rfl,e2,if_pos rfl,e3,Ce (by omega)]; rfl
theorem Uc {xs:List Ah} (hn:xs.length≤2000000):O8 C8.f Di.f xs (5 * xs.length):=by
  have h:=O8.of (xs:=xs) (z:=Ar) (mark:=C8.f) (held:=Di.f) (l:=C8.l1) (l':=Di.l1) (cnt:=fun _=>5) (fun _ _ _=>rfl) (fun _ _ _=>rfl)
    (fun K k ys kk hy=>by rw [C8.l1,if_neg (by omega)]) (fun K k ys kk hy=>by rw [Di.l1,if_neg (by omega)]) (fun i hi kk h0 hb=>⟨⟨kk,kk+1,kk+2,kk+3,kk+4⟩,fun ys r hy hg h=>Ac.step (fun K k=>?_) h,fun ys r hy hg h=>Ac.step (fun K k=>?_) h⟩)
  · rw [Qx] at h; exact h
  all_goals
    have e1:=w1 h0 (by omega)
    have e2:w64 (kk+1+1)=kk+2:=(w1 (by omega) (by omega)).trans (by omega)
    have e3:w64 (kk+2+1)=kk+3:=(w1 (by omega) (by omega)).trans (by omega)
    have e4:w64 (kk+3+1)=kk+4:=(w1 (by omega) (by omega)).trans (by omega)
    have e5:w64 (kk+4+1)=kk+5:=(w1 (by omega) (by omega)).trans (by omega)
  · rw [C8.l1,if_pos (by omega),if_pos (by omega),Int.toNat_natCast]
    simp only [F5,List.length_set,if_pos (show 0≤(i:Int)∧(i:Int)<(ys.length:Int) by omega),Sc (show i<ys.length by omega),List.set_set,e1,e2,e3,e4,e5,Ce (show i<4611686018427387904 by omega)]
    rfl
  · rw [Di.l1,if_pos (by omega),if_pos (by omega),Int.toNat_natCast,hg,F5,if_pos rfl,e1,if_pos rfl,e2,if_pos rfl,e3,if_pos rfl,e4,if_pos rfl,e5,Ce (by omega)]; rfl
theorem O8.rows {β:Type} {xs:List (List β)} {mark:Nat→List β→Int→Option (Int × List β)} {held:Nat→List β→Int→Option Int} {markS:Nat→List (List β)→Int→Option (Int × List (List β))} {heldS:Nat→List (List β)→Int→Option Int}
    {l:Nat→Nat→List (List β)→Int→Int→Option (Int × List (List β))} {l':Nat→Nat→List (List β)→Int→Int→Option Int} {cnt:Nat→Nat} (hn:xs.length≤2000000)
    (hm:∀ K xs kk,markS K xs kk=l K K xs kk 0) (hh:∀ K xs kk,heldS K xs kk=l' K K xs kk 0)
    (hl:∀ K k ys kk i,l K (k+1) ys kk i=if i<(ys.length:Int) then (if 0≤i∧i<(ys.length:Int) then Ed (mark K (ys.getD i.toNat []) kk) (fun a b=>if b.length=(ys.getD i.toNat []).length then l K k (ys.set i.toNat b) a (w64 (i+1)) else none) else none) else some (kk,ys))
    (hl':∀ K k ys kk i,l' K (k+1) ys kk i=if i<(ys.length:Int) then (if 0≤i∧i<(ys.length:Int) then (held K (ys.getD i.toNat []) kk).bind (fun t=>if t<0 then some (-1) else l' K k ys t (w64 (i+1))) else none) else some kk)
    (h1:∀ i,i<xs.length→O8 mark held (xs.getD i []) (cnt i)):O8 markS heldS xs (O4 cnt 0 xs.length) :=
  O8.of (z:=[]) hm hh (fun K k ys kk hy=>by rw [hl,if_neg (by omega)]) (fun K k ys kk hy=>by rw [hl',if_neg (by omega)]) fun i hi kk h0 hb=>by
    obtain ⟨y,y1,y2,y3⟩:=h1 i hi kk h0 hb
    refine ⟨y,fun ys r hy hg h=>?_,fun ys r hy hg h=>?_⟩
    · refine Ac.step (fun K k=>?_) (Ac.Ed (G:=fun K k a b=>if b.length=(xs.getD i []).length then l K k (ys.set i b) a ((i+1:Nat):Int) else none) y2.two (Ac.pos y1 h))
      rw [hl,if_pos (by omega),if_pos (by omega),Int.toNat_natCast,hg,Ce (by omega)]
    · refine Ac.step (fun K k=>?_) (Ac.bind (G:=fun K k t=>if t<0 then some (-1) else l' K k ys t ((i+1:Nat):Int)) y3.two (Ac.neg (by omega) h))
      rw [hl',if_pos (by omega),if_pos (by omega),Int.toNat_natCast,hg,Ce (by omega)]
def cF (xs:List (List Br)):Nat:=O4 (fun i=>2 * (xs.getD i []).length) 0 xs.length
theorem Xe {xs:List (List Br)} (hn:xs.length≤2000000) (h:∀ j,j<xs.length→(xs.getD j []).length≤2000000):O8 Fh.f Gc.f xs (cF xs) :=
  O8.rows (mark:=E8.f) (held:=Ez.f) (l:=Fh.l1) (l':=Gc.l1) hn (fun _ _ _=>rfl) (fun _ _ _=>rfl) (fun _ _ _ _ _=>rfl) (fun _ _ _ _ _=>rfl) (fun i hi=>jW (h i hi))
theorem Vu:∀ (m:Nat) (v:Int) (acc:ByteArray),0≤v→v<10 ^ m→m≤18→acc.size+m≤1000→∃ t,Ac (fun K k=>Ex.l1 K k v acc) t
  | 0,v,acc,h0,h1,_,hs=>by
    have h2:v<1:=by simpa using h1
    refine ⟨(⟨#[109]⟩:ByteArray)++acc,Ac.of fun K k=>?_⟩
    rw [Ex.l1,if_neg (by omega),if_pos (by show 1+acc.size≤_; omega)]
  | m+1,v,acc,h0,h1,hm,hs=>by
    by_cases hv:0<v
    · have hd:v.tdiv 10=v / 10:=Int.tdiv_eq_ediv_of_nonneg h0
      have hp:(10:Int) ^ (m+1)=10 * 10 ^ m:=by rw [Int.pow_succ,Int.mul_comm]
      have h18:(10:Int) ^ (m+1)≤10 ^ 18:=by
        have:=Nat.pow_le_pow_right (n:=10) (by omega) hm
        exact_mod_cast this
      have hlt:v / 10<10 ^ m:=by omega
      have hw:w64 (v.tdiv 10)=v / 10:=by rw [hd]; exact Ip (by omega) (by omega)
      obtain ⟨t,ht⟩:=Vu m (v / 10) ((strOfNums ([IntKind.wrap .u8 (w64 (48+(v.tmod 10)))]:List Int))++acc) (by omega) hlt (by omega) (by rw [ByteArray.size_append,strOfNums_size]; simp only [List.length_cons,List.length_nil]; omega)
      refine ⟨t,Ac.step (fun K k=>?_) ht⟩
      rw [Ex.l1,if_pos hv,if_pos (by rw [strOfNums_size]; simp only [List.length_cons,List.length_nil]; omega),hw]
    · refine ⟨(⟨#[109]⟩:ByteArray)++acc,Ac.of fun K k=>?_⟩
      rw [Ex.l1,if_neg hv,if_pos (by show 1+acc.size≤_; omega)]
theorem mF {v:Int} (h0:0≤v) (h1:v≤Xw):∃ t,Ab (fun K=>Ex.f K v) t:=by
  unfold Ex.f
  unfold Xw at h1
  by_cases hv:v≤0
  · exact ⟨_,Ab.pos hv (Ab.const _)⟩
  · obtain ⟨t,ht⟩:=Vu 18 v ByteArray.empty h0 (by omega) (Nat.le_refl _) (by show 0+18≤1000; omega)
    exact ⟨t,Ab.neg hv ht.I5⟩
def L9 (x:Af):Nat:=6+cF x.Ad+5 * x.Ae.length+x.Ay.length+3 * x.Ag.length+x.Ak.length+x.Ai.length
def Gy (xs:List Af):Nat:=O4 (fun i=>L9 (xs.getD i Bj)) 0 xs.length
def Dm (xs:List (List Af)):Nat:=O4 (fun i=>Gy (xs.getD i [])) 0 xs.length
theorem Yr {n:Nat} {F:Nat→Int→Option Int} {left:Int} (h0:0≤left) (h1:left≤1048576) (hn:n≤9223372036854775807) {P:Int→Prop} (h:∀ l,0≤l→l+(n:Int)=left→∃ r,Ab (fun K=>F K l) r∧(r<0∨P r)) :
    ∃ r,Ab (fun K=>if w64 (left - (n:Int))<0 then some (-1) else F K (w64 (left - (n:Int)))) r∧(r<0∨P r):=by
  rw [Ip (by omega) (by omega)]
  by_cases hl:left - (n:Int)<0
  · exact ⟨-1,Ab.pos hl (Ab.const _),.inl (by omega)⟩
  · obtain ⟨r,t,c⟩:=h (left - n) (by omega) (by omega)
    exact ⟨r,Ab.neg hl t,c⟩
theorem Us {n:Nat} {l:Nat→Nat→Int→Nat→Option Int} {one:Nat→Nat→Int→Option Int} {Q:Nat→Prop} {wt:Nat→Nat}
    (hl:∀ K k left i,i<n→l K (k+1) left i=(one K i left).bind fun t=>if t<0 then some (-1) else l K k t (i+1)) (he:∀ K k left,l K (k+1) left n=some left)
    (h1:∀ i,i<n→∀ left:Int,0≤left→left≤1048576→∃ r,Ab (fun K=>one K i left) r∧(r<0∨(0≤r∧6 * r+(wt i:Int)≤6 * left∧Q i))) :
    ∀ m i left,n - i=m→i≤n→0≤left→left≤1048576→∃ r,Ac (fun K k=>l K k left i) r∧(r<0∨(0≤r∧6 * r+(O4 wt i m:Int)≤6 * left∧∀ j,i≤j→j<n→Q j))
  | 0,i,left,hm,hi,z0,z1=>by
    obtain rfl:i=n:=by omega
    exact ⟨left,Ac.of fun K k=>he K k left,.inr ⟨z0,by simp [O4],fun j a b=>by omega⟩⟩
  | m+1,i,left,hm,hi,z0,z1=>by
    obtain ⟨r,t,c⟩:=h1 i (by omega) left z0 z1
    by_cases hr:r<0
    · exact ⟨-1,Ac.step (fun K k=>hl K k left i (by omega)) (Ac.bind t.two (Ac.pos hr (Ac.const _))),.inl (by omega)⟩
    · obtain ⟨c0,c1,c2⟩:=c.resolve_left hr
      obtain ⟨r',t',d⟩:=Us hl he h1 m (i+1) r (by omega) (by omega) c0 (by omega)
      refine ⟨r',Ac.step (fun K k=>hl K k left i (by omega)) (Ac.bind t.two (Ac.neg hr t')),?_⟩
      rcases d with d | ⟨d0,d1,d2⟩
      · exact .inl d
      · refine .inr ⟨d0,by rw [O4]; omega,fun j a b=>?_⟩
        by_cases e:j=i
        · subst e; exact c2
        · exact d2 j (by omega) b
theorem rP {xs:List (List Br)} (hn:xs.length≤9223372036854775807) (hr:∀ i,i<xs.length→(xs.getD i []).length≤9223372036854775807) {left:Int} (h0:0≤left) (h1:left≤1048576) :
    ∃ r,Ab (fun K=>G6.f K xs left) r∧(r<0∨(0≤r∧6 * r+(cF xs:Int)≤6 * left∧xs.length≤2000000∧∀ j,j<xs.length→(xs.getD j []).length≤2000000)):=by
  unfold G6.f
  refine Pt (P:=fun r=>0≤r∧6 * r+(cF xs:Int)≤6 * left∧xs.length≤2000000∧∀ j,j<xs.length→(xs.getD j []).length≤2000000) ?_ fun r hr _=>⟨r,Ab.const _,.inr hr⟩
  unfold Gh.f
  refine Yr (F:=fun K l=>Gh.l1 K K xs l 0) h0 h1 hn fun l0 a0 a1=>?_
  obtain ⟨r,t,c⟩:=Us (n:=xs.length) (l:=fun K k left i=>Gh.l1 K k xs left (i:Int)) (one:=fun K i left=>M4.f (xs.getD i []) left) (Q:=fun i=>(xs.getD i []).length≤2000000) (wt:=fun i=>2 * (xs.getD i []).length)
    (fun K k left i hi=>by rw [Gh.l1,if_pos (by omega),if_pos (by omega),Int.toNat_natCast,Ce (by omega)])
    (fun K k left=>by rw [Gh.l1,if_neg (by omega)])
    (fun i hi left y0 y1=>Yr (F:=fun _ l=>some l) y0 y1 (hr i hi) fun l b0 b1=>⟨l,Ab.const _,.inr ⟨b0,by omega,by omega⟩⟩) xs.length 0 l0 (by omega) (by omega) a0 (by omega)
  refine ⟨r,t.I5,c.imp id fun ⟨c0,c1,c2⟩=>⟨c0,?_,by omega,fun j hj=>c2 j (Nat.zero_le _) hj⟩⟩
  show 6 * r+(O4 (fun i=>2 * (xs.getD i []).length) 0 xs.length:Int)≤_
  omega
theorem gN {x:Af} (h:Fits x) {left:Int} (z0:0≤left) (z1:left≤1048576):∃ r,Ab (fun K=>szI K x left) r∧(r<0∨(0≤r∧6 * r+((L9 x:Nat):Int)≤6 * left+6∧Small x)):=by
  obtain ⟨h1,⟨h2,h2r⟩,h3,h4,h5,h6,h7⟩:=h
  unfold szI Lp.f L9
  refine Yr (F:=fun K l=>(G6.f K x.Ad l).bind _) z0 z1 h1 fun l0 a0 a1=>?_
  refine Pt (rP h2 h2r a0 (by omega)) fun l1 ⟨b0,b1,b2⟩ _=>?_
  unfold Lm.f Kh.f Ms.f I8.f Je.f Mv.f I8.f
  refine Pt (P:=fun r=>0≤r∧r+(x.Ae.length:Int)=l1) (Pt (P:=fun r=>0≤r∧r+(x.Ae.length:Int)=l1) (Yr (F:=fun _ l=>some l) b0 (by omega) h3 fun l e0 e1=>⟨l,Ab.const _,.inr ⟨e0,e1⟩⟩) fun r hr _=>⟨r,Ab.const _,.inr hr⟩) fun l2 ⟨c0,c1⟩ _=>?_
  refine Pt (P:=fun r=>0≤r∧r+(x.Ay.length:Int)=l2) (Pt (P:=fun r=>0≤r∧r+(x.Ay.length:Int)=l2) (Yr (F:=fun _ l=>some l) c0 (by omega) h4 fun l e0 e1=>⟨l,Ab.const _,.inr ⟨e0,e1⟩⟩) fun r hr _=>⟨r,Ab.const _,.inr hr⟩) fun l3 ⟨d0,d1⟩ _=>?_
  refine Pt (P:=fun r=>0≤r∧r+(x.Ag.length:Int)+(x.Ak.length:Int)+(x.Ai.length:Int)=l3) ?_ fun l6 ⟨f0,f1⟩ _=>⟨l6,Ab.const _,.inr ⟨f0,by omega,by omega,b2,by omega,by omega,by omega,by omega,by omega⟩⟩
  refine Pt (P:=fun r=>0≤r∧r+(x.Ag.length:Int)=l3) (Yr (F:=fun _ l=>some l) d0 (by omega) h5 fun l e0 e1=>⟨l,Ab.const _,.inr ⟨e0,e1⟩⟩) fun l4 ⟨e0,e1⟩ _=>?_
  refine Pt (P:=fun r=>0≤r∧r+(x.Ak.length:Int)=l4) (Yr (F:=fun _ l=>some l) e0 (by omega) h6 fun l e0 e1=>⟨l,Ab.const _,.inr ⟨e0,e1⟩⟩) fun l5 ⟨g0,g1⟩ _=>?_
  exact Pt (P:=fun r=>0≤r∧r+(x.Ai.length:Int)=l5) (Yr (F:=fun _ l=>some l) g0 (by omega) h7 fun l e0 e1=>⟨l,Ab.const _,.inr ⟨e0,e1⟩⟩) fun l6 ⟨p0,p1⟩ _=>⟨l6,Ab.const _,.inr ⟨p0,by omega⟩⟩
theorem dV (f:Nat→Nat) (c:Nat):∀ m i,O4 (fun i=>f i+c) i m=O4 f i m+c * m
  | 0,_=>rfl
  | m+1,i=>by rw [O4,dV f c m,O4,Nat.mul_succ]; omega
theorem gX {f g:Nat→Nat}:∀ m i,(∀ j,i≤j→j<i+m→f j≤g j)→O4 f i m≤O4 g i m
  | 0,_,_=>Nat.le_refl _
  | m+1,i,h=>by
    have h1:=h i (Nat.le_refl _) (by omega)
    have h2:=gX m (i+1) (fun j hj hj'=>h j (by omega) (by omega))
    rw [O4,O4]; omega
theorem Vp (x:Af):6≤L9 x:=by unfold L9; omega
theorem cO {xs:List Af} (hn:xs.length≤9223372036854775807) (h:∀ i,i<xs.length→Fits (xs.getD i Bj)) {left:Int} (z0:0≤left) (z1:left≤1048576) :
    ∃ r,Ab (fun K=>Fv.f K xs left) r∧(r<0∨(0≤r∧6 * r+(Gy xs:Int)≤6 * left∧xs.length≤2000000∧∀ i,i<xs.length→Small (xs.getD i Bj))):=by
  unfold Fv.f
  refine Yr (F:=fun K l=>Fv.l1 K K xs l 0) z0 z1 hn fun l0 a0 a1=>?_
  obtain ⟨r,t,c⟩:=Us (n:=xs.length) (l:=fun K k left i=>Fv.l1 K k xs left (i:Int)) (one:=fun K i left=>szI K (xs.getD i Bj) left) (Q:=fun i=>Small (xs.getD i Bj)) (wt:=fun i=>L9 (xs.getD i Bj) - 6)
    (fun K k left i hi=>by rw [Fv.l1,if_pos (by omega),if_pos (by omega),Int.toNat_natCast,F5,Ce (by omega)])
    (fun K k left=>by rw [Fv.l1,if_neg (by omega)])
    (fun i hi left y0 y1=>by
      obtain ⟨r,t,c⟩:=gN (h i hi) y0 y1
      have:=Vp (xs.getD i Bj)
      exact ⟨r,t,c.imp id fun ⟨c0,c1,c2⟩=>⟨c0,by omega,c2⟩⟩) xs.length 0 l0 (by omega) (by omega) a0 (by omega)
  refine ⟨r,t.I5,c.imp id fun ⟨c0,c1,c2⟩=>⟨c0,?_,by omega,fun i hi=>c2 i (Nat.zero_le _) hi⟩⟩
  have h1:=gX (f:=fun i=>L9 (xs.getD i Bj)) (g:=fun i=>(L9 (xs.getD i Bj) - 6)+6) xs.length 0 (fun j _ _=>by have:=Vp (xs.getD j Bj); omega)
  rw [dV] at h1
  unfold Gy
  omega
theorem Y4 {xs:List (List Af)} (hn:xs.length≤9223372036854775807) (hr:∀ i,i<xs.length→(xs.getD i []).length≤9223372036854775807∧∀ j,j<(xs.getD i []).length→Fits ((xs.getD i []).getD j Bj)) {left:Int} (z0:0≤left) (z1:left≤1048576) :
    ∃ r,Ab (fun K=>Ew.f K xs left) r∧(r<0∨(0≤r∧6 * r+(Dm xs:Int)≤6 * left∧F6 xs)):=by
  unfold Ew.f
  refine Yr (F:=fun K l=>Ew.l1 K K xs l 0) z0 z1 hn fun l0 a0 a1=>?_
  obtain ⟨r,t,c⟩:=Us (n:=xs.length) (l:=fun K k left i=>Ew.l1 K k xs left (i:Int)) (one:=fun K i left=>Fv.f K (xs.getD i []) left) (Q:=fun i=>(xs.getD i []).length≤2000000∧∀ j,j<(xs.getD i []).length→Small ((xs.getD i []).getD j Bj)) (wt:=fun i=>Gy (xs.getD i []))
    (fun K k left i hi=>by rw [Ew.l1,if_pos (by omega),if_pos (by omega),Int.toNat_natCast,Ce (by omega)])
    (fun K k left=>by rw [Ew.l1,if_neg (by omega)])
    (fun i hi left y0 y1=>cO (hr i hi).1 (hr i hi).2 y0 y1) xs.length 0 l0 (by omega) (by omega) a0 (by omega)
  refine ⟨r,t.I5,c.imp id fun ⟨c0,c1,c2⟩=>⟨c0,?_,by omega,fun i hi=>c2 i (Nat.zero_le _) hi⟩⟩
  unfold Dm
  omega
theorem Qs {α:Type} {xs:List α} {z:α} {c:Nat} {l:Nat→Nat→List α→Nat→Option (List α)} {one:Nat→Nat→Option α} (hn:xs.length≤2000000) (hc:c≤1000)
    (hl:∀ K k out i,i<xs.length→l K (k+1) out i=(one K i).bind fun t=>if (out.length+1) * c≤140737488355328 then l K k (out++[t]) (i+1) else none) (he:∀ K k out,l K (k+1) out xs.length=some out)
    (h1:∀ i,i<xs.length→Ab (fun K=>one K i) (xs.getD i z)):∀ (m i:Nat),xs.length - i=m→i≤xs.length→Ac (fun K k=>l K k (xs.take i) i) xs
  | 0,i,hm,hi=>by
    obtain rfl:i=xs.length:=by omega
    exact Ac.of fun K k=>by rw [he,List.take_length]
  | m+1,i,hm,hi=>by
    have hlt:i<xs.length:=by omega
    have hg:xs.getD i z=xs[i]:=by rw [List.getD_eq_getElem?_getD,List.getElem?_eq_getElem hlt]; rfl
    have ht:xs.take i++[xs.getD i z]=xs.take (i+1):=by rw [List.take_add_one,List.getElem?_eq_getElem hlt,hg]; rfl
    have hsz:((xs.take i).length+1) * c≤140737488355328:=by
      have h2:((xs.take i).length+1) * c≤2000000 * 1000:=Nat.mul_le_mul (by rw [List.length_take]; omega) hc
      omega
    have ih:=Qs hn hc hl he h1 m (i+1) (by omega) (by omega)
    rw [← ht] at ih
    exact Ac.step (fun K k=>hl K k _ i hlt) (Ac.bind (h1 i hlt).two (Ac.pos hsz ih))
theorem vS {ts:List (List Br)} (hn:ts.length≤2000000) (h:∀ j,j<ts.length→(ts.getD j []).length≤2000000):Ab (fun K=>Ie.f K ts) ts:=by
  refine Ab.congr (fun K=>rfl) (Qs (z:=[]) (c:=24) (l:=fun K k out i=>Ie.l1 K k ts out (i:Int)) (one:=fun K i=>some (ts.getD i [])) hn (by decide) (fun K k out i hi=>?_) (fun K k out=>by rw [Ie.l1,if_neg (by omega)]) (fun i hi=>Ab.const _) ts.length 0 (by omega) (by omega)).I5
  have:=h i hi
  rw [Ie.l1,if_pos (by omega),if_pos (by omega),Int.toNat_natCast,if_pos (by simp only [List.length_nil]; omega),Ce (by omega)]
  rfl
theorem pJ {ts:List (List Br)} (hn:ts.length≤2000000) (h:∀ j,j<ts.length→(ts.getD j []).length≤2000000):Ab (fun K=>Cv.f K ts) ts:=by
  refine Ab.congr (fun K=>rfl) (Qs (z:=[]) (c:=24) (l:=fun K k out i=>Cv.l1 K k ts out (i:Int)) (one:=fun K i=>Ej.f (ts.getD i [])) hn (by decide) (fun K k out i hi=>?_) (fun K k out=>by rw [Cv.l1,if_neg (by omega)]) (fun i hi=>?_) ts.length 0 (by omega) (by omega)).I5
  · rw [Cv.l1,if_pos (by omega),if_pos (by omega),Int.toNat_natCast,Ce (by omega)]
  · have:=h i hi
    exact Ab.pos (by simp only [List.length_nil]; omega) (Ab.const _)
abbrev Abr (K:Nat) (x:Af):Option Af:=Go.Proofs.YtjopfecenllmgaaGreatDoor.Jm (Ee.f K x.Name x.Kind x.Ad x.Ae x.Al x.Ao x.Ay x.Am x.Aj x.Ag x.Ak x.Ai) (fun a b c d e f g h i j k l=>some ⟨a,b,c,d,e,f,g,h,i,j,k,l⟩)
abbrev Aba (K:Nat) (x:Af):Option Af:=Go.Proofs.YtjopfecenllmgaaGreatDoor.Jm (Im.f K x.Name x.Kind x.Ad x.Ae x.Al x.Ao x.Ay x.Am x.Aj x.Ag x.Ak x.Ai) (fun a b c d e f g h i j k l=>some ⟨a,b,c,d,e,f,g,h,i,j,k,l⟩)
theorem Wj {x:Af} (h:Small x):Ab (fun K=>Ee.f K x.Name x.Kind x.Ad x.Ae x.Al x.Ao x.Ay x.Am x.Aj x.Ag x.Ak x.Ai) (x.Name,x.Kind,x.Ad,x.Ae,x.Al,x.Ao,x.Ay,x.Am,x.Aj,x.Ag,x.Ak,x.Ai):=by
  obtain ⟨h1,⟨h2,h2r⟩,h3,h4,h5,h6,h7⟩:=h
  unfold Ee.f
  refine Ab.pos (by simp only [List.length_nil]; omega) (Ab.pos (by simp only [List.length_nil]; omega) (Ab.pos (by simp only [List.length_nil]; omega) (Ab.pos (by simp only [List.length_nil]; omega) (Ab.bind (vS h2 h2r) (Ab.Ed (F:=fun K=>Nf.f x.Ao x.Ay) (Ab.pos (by simp only [List.length_nil]; omega) (Ab.const _)) (Ab.const _))))))
theorem Yb {x:Af} (h:Small x):Ab (fun K=>Im.f K x.Name x.Kind x.Ad x.Ae x.Al x.Ao x.Ay x.Am x.Aj x.Ag x.Ak x.Ai) (x.Name,x.Kind,x.Ad,x.Ae,x.Al,x.Ao,x.Ay,x.Am,x.Aj,x.Ag,x.Ak,x.Ai):=by
  obtain ⟨h1,⟨h2,h2r⟩,h3,h4,h5,h6,h7⟩:=h
  have ci:∀ {ys:List Int},ys.length≤2000000→Ab (fun _=>D7.f ys) ys:=fun hy=>Ab.pos (by simp only [List.length_nil]; omega) (Ab.const _)
  have cm:Ab (fun _=>Eg.f x.Ag) x.Ag:=Ab.pos (by simp only [List.length_nil]; omega) (Ab.const _)
  have cd:Ab (fun _=>Ke.f x.Ae x.Al) (x.Ae,x.Al):=Ab.bind (F:=fun _=>Db.f x.Ae) (Ab.pos (by simp only [List.length_nil]; omega) (Ab.const _)) (Ab.const _)
  unfold Im.f
  exact Ab.bind (pJ h2 h2r) (Ab.Ed cd (Ab.bind (ci h4) (Ab.bind cm (Ab.bind (ci h6) (Ab.bind (ci h7) (Ab.const _))))))
theorem Uu {α:Type} (f:α→Nat) (z:α):∀ (xs:List α) (i:Nat) (g:Nat→Nat),(∀ j,j<xs.length→g (i+j)=f (xs.getD j z))→O4 g i xs.length=(xs.map f).sum
  | [],_,_,_=>rfl
  | x::r,i,g,h=>by
    have h0:=h 0 (by simp)
    rw [Nat.add_zero,List.getD_cons_zero] at h0
    have ih:=Uu f z r (i+1) g (fun j hj=>by
      have:=h (j+1) (by simp only [List.length_cons]; omega)
      rw [List.getD_cons_succ] at this
      rw [show i+1+j=i+(j+1) by omega]; exact this)
    rw [List.length_cons,O4,h0,ih,List.map_cons,List.sum_cons]
theorem Pj {α:Type} {xs:List α} {i:Nat} (z:α) (h:i<xs.length):xs.getD i z ∈ xs:=by
  rw [List.getD_eq_getElem?_getD,List.getElem?_eq_getElem h]; exact List.getElem_mem h
theorem Ab.Jv {α β γ δ ε:Type} {F:Nat→Option (α × β × γ × δ)} {G:Nat→α→β→γ→δ→Option ε} {a:α} {b:β} {c:γ} {d:δ} {r:ε} (h:Ab F (a,b,c,d)) (g:Ab (fun K=>G K a b c d) r):Ab (fun K=>Go.Proofs.YtjopfecenllmgaaGreatDoor.Jv (F K) (G K)) r:=by
  obtain ⟨n,hn⟩:=h
  obtain ⟨m,hm⟩:=g
  exact ⟨n+m,fun K hK=>by show Go.Proofs.YtjopfecenllmgaaGreatDoor.Jv (F K) (G K)=some r; rw [hn K (by omega)]; exact hm K (by omega)⟩
theorem Tf {xs:List Af} (hn:xs.length≤2000000) (h:∀ i,i<xs.length→Small (xs.getD i Bj)):Ab (fun K=>Fa.f K xs) xs:=by
  refine Ab.congr (fun K=>rfl) (Qs (z:=Bj) (c:=200) (l:=fun K k out i=>Fa.l1 K k xs out (i:Int)) (one:=fun K i=>Abr K (xs.getD i Bj)) hn (by decide) (fun K k out i hi=>?_) (fun K k out=>by rw [Fa.l1,if_neg (by omega)]) (fun i hi=>Ab.Jm (Wj (h i hi)) (Ab.const _)) xs.length 0 (by omega) (by omega)).I5
  rw [Fa.l1,if_pos (by omega),if_pos (by omega),Int.toNat_natCast,F5,Ta,Ce (by omega)]
theorem Px {xs:List Af} (hn:xs.length≤2000000) (h:∀ i,i<xs.length→Small (xs.getD i Bj)):Ab (fun K=>Dn.f K xs) xs:=by
  refine Ab.congr (fun K=>rfl) (Qs (z:=Bj) (c:=200) (l:=fun K k out i=>Dn.l1 K k xs out (i:Int)) (one:=fun K i=>Aba K (xs.getD i Bj)) hn (by decide) (fun K k out i hi=>?_) (fun K k out=>by rw [Dn.l1,if_neg (by omega)]) (fun i hi=>Ab.Jm (Yb (h i hi)) (Ab.const _)) xs.length 0 (by omega) (by omega)).I5
  rw [Dn.l1,if_pos (by omega),if_pos (by omega),Int.toNat_natCast,F5,Ta,Ce (by omega)]
theorem Vi {L:List (List Af)} (h:F6 L):Ab (fun K=>Df.f K L) L:=by
  have hn:=h.1
  refine Ab.congr (fun K=>rfl) (Qs (z:=[]) (c:=24) (l:=fun K k out i=>Df.l1 K k L out (i:Int)) (one:=fun K i=>Fa.f K (L.getD i [])) hn (by decide) (fun K k out i hi=>?_) (fun K k out=>by rw [Df.l1,if_neg (by omega)]) (fun i hi=>Tf (h.2 i hi).1 (h.2 i hi).2) L.length 0 (by omega) (by omega)).I5
  rw [Df.l1,if_pos (by omega),if_pos (by omega),Int.toNat_natCast,Ce (by omega)]
theorem Oh {L:List (List Af)} (h:F6 L):Ab (fun K=>E9.f K L) L:=by
  have hn:=h.1
  refine Ab.congr (fun K=>rfl) (Qs (z:=[]) (c:=24) (l:=fun K k out i=>E9.l1 K k L out (i:Int)) (one:=fun K i=>Dn.f K (L.getD i [])) hn (by decide) (fun K k out i hi=>?_) (fun K k out=>by rw [E9.l1,if_neg (by omega)]) (fun i hi=>Px (h.2 i hi).1 (h.2 i hi).2) L.length 0 (by omega) (by omega)).I5
  rw [E9.l1,if_pos (by omega),if_pos (by omega),Int.toNat_natCast,Ce (by omega)]
def push (L:List (List Af)) (I:List Af):List (List Af):=if 6<((L++[I]).length:Int) then (L++[I]).drop 1 else L++[I]
theorem dX {L:List (List Af)} {I:List Af} (h:6<((L++[I]).length:Int)):push L I=(L++[I]).drop 1:=if_pos h
theorem dO {L:List (List Af)} {I:List Af} (h:¬ 6<((L++[I]).length:Int)):push L I=L++[I]:=if_neg h
theorem Tu {L:List (List Af)} {I:List Af} (h:F6 L) (hn:I.length≤2000000) (hI:∀ i,i<I.length→Small (I.getD i Bj)):Ab (fun K=>Iz.f K L I) (push L I):=by
  have h0:=h.1
  unfold Iz.f
  refine Ab.bind (Vi h) (Ab.bind (Tf hn hI) (Ab.pos (by omega) ?_))
  by_cases h6:6<((L++[I]).length:Int)
  · rw [dX h6]
    refine Ab.pos h6 (Ab.pos (by omega) ?_)
    rw [List.take_length]
    exact Ab.const _
  · rw [dO h6]
    exact Ab.neg h6 (Ab.const _)
theorem Tq {L:List (List Af)} {I:List Af} (h:(L.length:Int)≤6):Lj.f L I=some (push L I):=by
  have hl:(L++[I]).length=L.length+1:=by simp
  unfold Lj.f
  have hw:w64 (((L++[I]).length:Int) - 6)=((L++[I]).length:Int) - 6:=Ip (by omega) (by omega)
  have hm:(if ((L++[I]).length:Int) - 6 > 0 then ((L++[I]).length:Int) - 6 else 0)=if 6<((L++[I]).length:Int) then 1 else 0:=by split <;> split <;> omega
  rw [hw,hm,if_pos (by omega),List.take_length]
  by_cases h6:6<((L++[I]).length:Int)
  · rw [dX h6]
    simp only [if_pos h6]
    rw [if_pos (by omega)]
    rfl
  · rw [dO h6]
    simp only [if_neg h6]
    rw [if_pos (by omega)]
    rfl
theorem O9 (xs:List (List Af)):Dm xs=(xs.map Gy).sum:=Uu Gy [] xs 0 _ (fun j _=>by rw [Nat.zero_add])
theorem X9 (xs:List (List Af)) (x:List Af):Dm (xs++[x])=Dm xs+Gy x:=by
  rw [O9,O9,List.map_append,List.sum_append]; simp
theorem aI (xs:List (List Af)):Dm (xs.drop 1)≤Dm xs:=by
  rw [O9,O9]
  cases xs with
  | nil=>exact Nat.le_refl _
  | cons x r=>rw [List.drop_succ_cons,List.drop_zero,List.map_cons,List.sum_cons]; omega
theorem U8 {xs:List (List Af)} {n:Nat} (h:n<xs.length):Gy (xs.getD n [])+Dm (xs.take n)≤Dm xs:=by
  have hg:xs.getD n []=xs[n]:=by rw [List.getD_eq_getElem?_getD,List.getElem?_eq_getElem h]; rfl
  have hx:xs=xs.take n++(xs[n]::xs.drop (n+1)):=by rw [← List.drop_eq_getElem_cons h,List.take_append_drop]
  have h1:(xs.map Gy).sum=((xs.take n++(xs[n]::xs.drop (n+1))).map Gy).sum:=congrArg (fun l=>(l.map Gy).sum) hx
  rw [List.map_append,List.sum_append,List.map_cons,List.sum_cons] at h1
  rw [O9,O9,hg,h1]
  omega
theorem Qm (L:List (List Af)) (I:List Af):Dm (push L I)≤Dm L+Gy I:=by
  rw [← X9]
  unfold push
  split
  · exact aI _
  · exact Nat.le_refl _
theorem F6.mem {L:List (List Af)} (h:F6 L) {y:List Af} (hy:y ∈ L):y.length≤2000000∧∀ j,j<y.length→Small (y.getD j Bj):=by
  obtain ⟨i,hi,rfl⟩:=List.getElem_of_mem hy
  have:=h.2 i hi
  rw [List.getD_eq_getElem?_getD,List.getElem?_eq_getElem hi] at this
  exact this
theorem F6.of {L:List (List Af)} (hn:L.length≤2000000) (h:∀ y,y ∈ L→y.length≤2000000∧∀ j,j<y.length→Small (y.getD j Bj)):F6 L:=⟨hn,fun i hi=>h _ (Pj [] hi)⟩
theorem F6.push {L:List (List Af)} {I:List Af} (h:F6 L) (h6:(L.length:Int)≤6) (hn:I.length≤2000000) (hI:∀ i,i<I.length→Small (I.getD i Bj)):F6 (Go.Proofs.YtjopfecenllmgaaGreatDoor.push L I):=by
  have hm:∀ y,y ∈ L++[I]→y.length≤2000000∧∀ j,j<y.length→Small (y.getD j Bj):=fun y hy=>by
    rcases List.mem_append.1 hy with hy | hy
    · exact h.mem hy
    · rw [List.mem_singleton.1 hy]; exact ⟨hn,hI⟩
  unfold Go.Proofs.YtjopfecenllmgaaGreatDoor.push
  split
  · exact F6.of (by simp; omega) (fun y hy=>hm y (List.mem_of_mem_drop hy))
  · exact F6.of (by simp; omega) hm
end Go.Proofs.YtjopfecenllmgaaGreatDoor
