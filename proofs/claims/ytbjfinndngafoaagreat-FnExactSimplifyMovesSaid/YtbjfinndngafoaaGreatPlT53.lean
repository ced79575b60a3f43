/-
  What a change does to a triangulation, place by place.
  A change: both sides of a gluing; setting one place.
  A change, as the reference makes it.
  A change, as the reference makes it, whole.
  A change, as the program makes it: the rows to begin with.
  A change, as the program makes it: the outer faces.
  A change in both: the same triangulation.
  The changes of the four kinds of moves.
  The changes of the moves 3-2 and 4-1.
  ApplyMove in both.
  A move leads from a valid triangulation to a valid one.
-/
import Derived.Test.YtbjfinndngafoaaGreatPlT27
set_option linter.unusedVariables false
set_option linter.unusedSimpArgs false
set_option linter.unusedSectionVars false
namespace Go.Proofs.YtbjfinndngafoaaGreat
open Go.RowKit
structure En where
  x:Nat
  f:Nat
  i:Nat
  p:Nat
deriving DecidableEq
def En.g (e:En):Av:=⟨e.x,e.f,e.i,e.p⟩
def kept (old:List Nat):Nat→Nat
  | 0=>0
  | x+1=>kept old x+if x ∈ old then 0 else 1
theorem K9 (old:List Nat):∀ n,kept old n≤n
  | 0=>Nat.le_refl _
  | n+1=>by have:=K9 old n; rw [kept]; split <;> omega
theorem dQ (old:List Nat):∀ {x y},x≤y→kept old x≤kept old y:=fun {x y} h=>by
  induction y with
  | zero => obtain rfl : x = 0 := by omega
            exact Nat.le_refl _
  | succ y ih =>
    by_cases e:x=y+1
    · rw [e]; exact Nat.le_refl _
    · have:=ih (by omega)
      rw [kept]; omega
theorem Li {old:List Nat} {x y:Nat} (h:x<y) (hx:x ∉ old):kept old x<kept old y:=by
  have h1:=dQ old (show x+1≤y from h)
  rw [kept,if_neg hx] at h1
  omega
theorem iH {old:List Nat} {x y:Nat} (hx:x ∉ old) (hy:y ∉ old) (h:kept old x=kept old y):x=y:=by
  rcases Nat.lt_trichotomy x y with h1 | h1 | h1
  · have:=Li h1 hx; omega
  · exact h1
  · have:=Li h1 hy; omega
theorem Tk {old:List Nat}:∀ {n r},r<kept old n→∃ x,x<n∧x ∉ old∧kept old x=r
  | 0,r,h=>by rw [kept] at h; omega
  | n+1,r,h=>by
    by_cases h1:r<kept old n
    · obtain ⟨x,a,b,c⟩:=Tk h1
      exact ⟨x,by omega,b,c⟩
    · rw [kept] at h
      by_cases hn:n ∈ old
      · rw [if_pos hn] at h; omega
      · rw [if_neg hn] at h
        exact ⟨n,by omega,hn,by omega⟩
def plc (n:Nat) (old:List Nat) (es:List En) (x f:Nat):Option (Nat × Nat) :=
  if x ∈ old then (es.find? fun e=>decide (e.x=x∧e.f=f)).map fun e=>(kept old n+e.i,e.p) else some (kept old x,0)
def val (ts:List (List Ab)) (old:List Nat) (es:List En) (x f:Nat):Ab :=
  if (Cg ts x f).Tet<0 then ⟨-1,0⟩ else
    ⟨(((plc ts.length old es (Cg ts x f).Tet.toNat (PA (Cg ts x f).Perm.toNat f)).getD (0,0)).1:Int),
     (PM (PM (PI (((plc ts.length old es x f).getD (0,0)).2)) (Cg ts x f).Perm.toNat) (((plc ts.length old es (Cg ts x f).Tet.toNat (PA (Cg ts x f).Perm.toNat f)).getD (0,0)).2):Nat)⟩
structure Chg (ts:List (List Ab)) (old:List Nat) (es:List En) (nf:Nat):Prop where
  Zz:∀ x,x ∈ old→x<ts.length
  en:∀ e,e ∈ es→e.x ∈ old∧e.f<4∧e.i<nf∧e.p<24
  key:∀ e e',e ∈ es→e' ∈ es→e.x=e'.x→e.f=e'.f→e=e'
  pos:∀ e e',e ∈ es→e' ∈ es→e.i=e'.i→PA e.p e.f=PA e'.p e'.f→e=e'
  inn:∀ x f,x ∈ old→f<4→(∀ e,e ∈ es→¬ (e.x=x∧e.f=f))→∃ b q,Kt ts x f b q∧b ∈ old∧∀ e,e ∈ es→¬ (e.x=b∧e.f=PA q f)
def Ex (ts:List (List Ab)) (old:List Nat) (es:List En) (fr:List (List Ab)) (r c:Nat) (v:Ab):Prop :=
  (∃ x f p,x<ts.length∧f<4∧plc ts.length old es x f=some (r,p)∧c=PA p f∧v=val ts old es x f) ∨
  (kept old ts.length≤r∧0≤(Cg fr (r - kept old ts.length) c).Tet∧v=⟨(kept old ts.length:Int)+(Cg fr (r - kept old ts.length) c).Tet,(Cg fr (r - kept old ts.length) c).Perm⟩) ∨
  (kept old ts.length≤r∧(Cg fr (r - kept old ts.length) c).Tet<0∧(∀ e,e ∈ es→¬ (kept old ts.length+e.i=r∧PA e.p e.f=c))∧v=⟨-1,0⟩)
section
variable {ts:List (List Ab)} {old:List Nat} {es:List En} {nf:Nat}
theorem Nk {n x f:Nat} (h:x ∉ old):plc n old es x f=some (kept old x,0):=if_neg h
variable (hg:Chg ts old es nf)
include hg
theorem aK {n:Nat} {e:En} (he:e ∈ es):plc n old es e.x e.f=some (kept old n+e.i,e.p):=by
  unfold plc
  rw [if_pos (hg.en e he).1]
  cases h:es.find? fun e'=>decide (e'.x=e.x∧e'.f=e.f) with
  | none =>
    have:=List.find?_eq_none.1 h e he
    simp at this
  | some e' =>
    have h1:=List.find?_some h
    have h2:=List.mem_of_find?_eq_some h
    simp only [decide_eq_true_eq] at h1
    rw [hg.key e' e h2 he h1.1 h1.2]; rfl
theorem Kh {n x f r p:Nat} (h:plc n old es x f=some (r,p)):(x ∉ old∧r=kept old x∧p=0)∨∃ e,e ∈ es∧e.x=x∧e.f=f∧r=kept old n+e.i∧p=e.p:=by
  unfold plc at h
  by_cases hx:x ∈ old
  · rw [if_pos hx] at h
    cases hf:es.find? fun e=>decide (e.x=x∧e.f=f) with
    | none=>rw [hf] at h; cases h
    | some e =>
      rw [hf] at h
      have h1:=List.find?_some hf
      simp only [decide_eq_true_eq] at h1
      injection h with h
      injection h with h2 h3
      exact .inr ⟨e,List.mem_of_find?_eq_some hf,h1.1,h1.2,h2.symm,h3.symm⟩
  · rw [if_neg hx] at h
    injection h with h
    injection h with h2 h3
    exact .inl ⟨hx,h2.symm,h3.symm⟩
theorem Yp {n x f:Nat} (h:plc n old es x f=none):x ∈ old∧∀ e,e ∈ es→¬ (e.x=x∧e.f=f):=by
  unfold plc at h
  by_cases hx:x ∈ old
  · rw [if_pos hx] at h
    refine ⟨hx,fun e he hk=>?_⟩
    cases hf:es.find? fun e=>decide (e.x=x∧e.f=f) with
    | none =>
      have:=List.find?_eq_none.1 hf e he
      simp only [decide_eq_true_eq] at this
      exact this hk
    | some e'=>rw [hf] at h; cases h
  · rw [if_neg hx] at h; cases h
theorem pF {n x f r p:Nat} (h:plc n old es x f=some (r,p)):p<24:=by
  rcases Kh hg h with ⟨_,_,rfl⟩ | ⟨e,he,_,_,_,rfl⟩
  · omega
  · exact (hg.en e he).2.2.2
theorem N9 {k:Nat} (hk:k<4):PA 0 k=k:=by
  have:∀ k,k<4→PA 0 k=k:=by decide +kernel
  exact this k hk
theorem bW {x f x' f' r p p':Nat} (hx:x<ts.length) (hx':x'<ts.length) (hf:f<4) (hf':f'<4) (h:plc ts.length old es x f=some (r,p)) (h':plc ts.length old es x' f'=some (r,p')) (hc:PA p f=PA p' f'):x=x'∧f=f':=by
  rcases Kh hg h with ⟨a1,a2,a3⟩ | ⟨e,a1,a2,a3,a4,a5⟩
  · rcases Kh hg h' with ⟨b1,b2,b3⟩ | ⟨e',b1,b2,b3,b4,b5⟩
    · subst a3; subst b3
      rw [N9 hg hf,N9 hg hf'] at hc
      exact ⟨iH a1 b1 (by omega),hc⟩
    · have:=Li hx a1; omega
  · rcases Kh hg h' with ⟨b1,b2,b3⟩ | ⟨e',b1,b2,b3,b4,b5⟩
    · have:=Li hx' b1; omega
    · subst a5; subst b5; subst a2; subst a3; subst b2; subst b3
      rw [hg.pos e e' a1 b1 (by omega) hc]
      exact ⟨rfl,rfl⟩
theorem Ex.det {fr:List (List Ab)} (hfr:∀ e,e ∈ es→(Cg fr e.i (PA e.p e.f)).Tet<0) {r c:Nat} {v w:Ab} (h:Ex ts old es fr r c v) (h':Ex ts old es fr r c w):v=w:=by
  have no:∀ {x f p},x<ts.length→plc ts.length old es x f=some (r,p)→c=PA p f→kept old ts.length≤r→(Cg fr (r - kept old ts.length) c).Tet<0∧∃ e,e ∈ es∧kept old ts.length+e.i=r∧PA e.p e.f=c:=by
    intro x f p hx h1 h2 h3
    rcases Kh hg h1 with ⟨a1,a2,a3⟩ | ⟨e,a1,a2,a3,a4,a5⟩
    · have:=Li hx a1; omega
    · refine ⟨?_,e,a1,a4.symm,by rw [h2,a5,a3]⟩
      have:=hfr e a1
      rw [h2,a5,← a3,show r - kept old ts.length=e.i by omega]; exact this
  rcases h with ⟨x,f,p,h1,h2,h3,h4,h5⟩ | ⟨h1,h2,h3⟩ | ⟨h1,h2,h3,h4⟩
  · rcases h' with ⟨x',f',p',k1,k2,k3,k4,k5⟩ | ⟨k1,k2,k3⟩ | ⟨k1,k2,k3,k4⟩
    · obtain ⟨e1,e2⟩:=bW hg h1 k1 h2 k2 h3 k3 (h4.symm.trans k4)
      rw [h5,k5,e1,e2]
    · have:=(no h1 h3 h4 k1).1; omega
    · obtain ⟨_,e,a,b,c'⟩:=no h1 h3 h4 k1
      exact (k3 e a ⟨b,c'⟩).elim
  · rcases h' with ⟨x',f',p',k1,k2,k3,k4,k5⟩ | ⟨k1,k2,k3⟩ | ⟨k1,k2,k3,k4⟩
    · have:=(no k1 k3 k4 h1).1; omega
    · rw [h3,k3]
    · omega
  · rcases h' with ⟨x',f',p',k1,k2,k3,k4,k5⟩ | ⟨k1,k2,k3⟩ | ⟨k1,k2,k3,k4⟩
    · obtain ⟨_,e,a,b,c'⟩:=no k1 k3 k4 h1
      exact (h3 e a ⟨b,c'⟩).elim
    · omega
    · rw [h4,k4]
end
def Qk (L:List (List Ab)) (r c:Nat) (v:Ab):List (List Ab):=L.set r ((L.getD r []).set c v)
structure Shape (L:List (List Ab)) (m:Nat):Prop where
  len:L.length=m
  row:∀ r,r<m→(L.getD r []).length=4
theorem Nl {L:List (List Ab)} {m r c:Nat} {v:Ab} (h:Shape L m) (hr:r<m) (hc:c<4) (r' c':Nat):Cg (Qk L r c v) r' c'=if r'=r∧c'=c then v else Cg L r' c':=by
  unfold Cg Qk
  have hl:=h.len
  have hw:=h.row r hr
  by_cases e:r'=r
  · subst e
    rw [List.getD_eq_getElem?_getD (l:=L.set r' _),List.getElem?_set_self (by omega),Option.getD_some]
    by_cases e2:c'=c
    · subst e2
      rw [if_pos ⟨rfl,rfl⟩,List.getD_eq_getElem?_getD,List.getElem?_set_self (by omega)]; rfl
    · rw [if_neg (fun q=>e2 q.2),List.getD_eq_getElem?_getD,List.getElem?_set_ne (fun q=>e2 q.symm),← List.getD_eq_getElem?_getD]
  · rw [if_neg (fun q=>e q.1),List.getD_eq_getElem?_getD (l:=L.set r _),List.getElem?_set_ne (fun q=>e q.symm),← List.getD_eq_getElem?_getD]
theorem J5 {L:List (List Ab)} {m r c:Nat} {v:Ab} (h:Shape L m):Shape (Qk L r c v) m:=by
  refine ⟨by unfold Qk; rw [List.length_set]; exact h.len,fun r' hr'=>?_⟩
  have hl:=h.len
  unfold Qk
  by_cases e:r'=r
  · subst e
    rw [List.getD_eq_getElem?_getD,List.getElem?_set_self (by omega),Option.getD_some,List.length_set]
    exact h.row r' hr'
  · rw [List.getD_eq_getElem?_getD,List.getElem?_set_ne (fun q=>e q.symm),← List.getD_eq_getElem?_getD]
    exact h.row r' hr'
theorem uB {L:List (List Ab)} {m a f b p:Nat} (h:Shape L m) (ha:a<m) (hf:f<4) (hb:b<m) (hp:p<24):Ac (fun K=>Iu.f K L (a:Int) (f:Int) (b:Int) (p:Int)) (Qk (Qk L a f ⟨b,p⟩) b (PA p f) ⟨a,(PI p:Nat)⟩):=by
  have hl:=h.len
  have hw:=h.row a ha
  have h2:Shape (L.set a ((L.getD a []).set f ⟨b,p⟩)) m:=J5 (v:=⟨b,p⟩) (r:=a) (c:=f) h
  have hl2:=h2.len
  have hw2:=h2.row b hb
  have hpf:=Ei hp hf
  refine Ac.pos (by omega) ?_
  simp only [Int.toNat_natCast]
  refine Ac.pos (by omega) (Ac.pos (by omega) ?_)
  refine Ac.bind (Mr hp hf) ?_
  refine Ac.bind (Py hp) ?_
  simp only [Int.toNat_natCast]
  exact Ac.pos (by omega) (Ac.const _)
theorem qZ {L:List (List Ab)} {m a f b p:Nat} (h:Shape L m) (ha:a<m) (hf:f<4) (hb:b<m) (hp:p<24):Ac (fun K=>Gl.f K L (a:Int) (f:Int) (b:Int) (p:Int)) (Qk (Qk L a f ⟨b,p⟩) b (PA p f) ⟨a,(PI p:Nat)⟩):=by
  have hl:=h.len
  have hw:=h.row a ha
  have h2:Shape (L.set a ((L.getD a []).set f ⟨b,p⟩)) m:=J5 (v:=⟨b,p⟩) (r:=a) (c:=f) h
  have hl2:=h2.len
  have hw2:=h2.row b hb
  have hpf:=Ei hp hf
  refine Ac.pos (by omega) ?_
  simp only [Int.toNat_natCast]
  refine Ac.pos (by omega) (Ac.pos (by omega) ?_)
  refine Ac.bind (Ua (b:Int) hp hf) ?_
  refine Ac.Ew (a:=(a:Int)) (b:=((PI p:Nat):Int)) (Ac.bind (Mj hp) (Ac.const _)) ?_
  simp only [Int.toNat_natCast]
  exact Ac.pos (by omega) (Ac.const _)
theorem PM3 {p q p':Nat} (hp:p<24) (hq:q<24) (hp':p'<24):PM (PM (PI p) q) p'<24∧(∀ k,k<4→PA (PM (PM (PI p) q) p') (PA p k)=PA p' (PA q k))∧PI (PM (PM (PI p) q) p')=PM (PM (PI p') (PI q)) p:=by
  have h1:=Im hp
  have h2:=Mv h1 hq
  have h3:=Mv h2 hp'
  have key:∀ k,k<4→PA (PM (PM (PI p) q) p') (PA p k)=PA p' (PA q k):=fun k hk=>by
    rw [Oh h2 hp' (Ei hp hk),Oh h1 hq (Ei hp hk),K8 hp hk]
  refine ⟨h3,key,fQ (Im h3) (Mv (Mv (Im hp') (Im hq)) hp) fun k hk=>?_⟩
  have e1:PA (PM (PM (PI p') (PI q)) p) k=PA p (PA (PI q) (PA (PI p') k)):=by rw [Oh (Mv (Im hp') (Im hq)) hp hk,Oh (Im hp') (Im hq) hk]
  have a1:=Ei (Im hp') hk
  have a2:=Ei (Im hq) a1
  have e2:=key _ a2
  rw [Xr hq a1,Xr hp' hk] at e2
  rw [e1,← K8 h3 (Ei hp a2),e2]
section
variable {ts:List (List Ab)} (hv:Val ts) {old:List Nat} {es:List En} {nf:Nat} (hg:Chg ts old es nf)
include hv hg
theorem bN {x f r p:Nat} (hx:x<ts.length) (h:plc ts.length old es x f=some (r,p)):r<kept old ts.length+nf:=by
  rcases Kh hg h with ⟨a1,a2,_⟩ | ⟨e,a1,_,_,a4,_⟩
  · have:=Li hx a1; omega
  · have:=(hg.en e a1).2.2.1; omega
theorem partner {x f r p b q:Nat} (hx:x<ts.length) (hf:f<4) (h:plc ts.length old es x f=some (r,p)) (hG:Kt ts x f b q):∃ r' p',plc ts.length old es b (PA q f)=some (r',p')∧p<24∧p'<24∧r<kept old ts.length+nf∧r'<kept old ts.length+nf ∧
    val ts old es x f=⟨r',(PM (PM (PI p) q) p':Nat)⟩∧val ts old es b (PA q f)=⟨r,(PI (PM (PM (PI p) q) p'):Nat)⟩:=by
  obtain ⟨hb,hq,h1,h2,h3⟩:=hG
  have hp:=pF hg h
  have hq':=Im hq
  have hqf:=Ei hq hf
  cases hpl:plc ts.length old es b (PA q f) with
  | none =>
    obtain ⟨c1,c2⟩:=Yp hg hpl
    obtain ⟨b',q',k1,k2,k3⟩:=hg.inn b (PA q f) c1 hqf c2
    have k4:=k1.2.2.1
    rw [h2] at k4
    injection k4 with k4 k5
    have e1:b'=x:=by omega
    have e2:q'=PI q:=by omega
    subst e1; subst e2
    rw [K8 hq hf] at k3
    rcases Kh hg h with ⟨a1,_⟩ | ⟨e,a1,a2,a3,_⟩
    · exact (a1 k2).elim
    · exact (k3 e a1 ⟨a2,a3⟩).elim
  | some rp =>
    obtain ⟨r',p'⟩:=rp
    have hp':=pF hg hpl
    obtain ⟨m1,m2,m3⟩:=PM3 hp hq hp'
    refine ⟨r',p',rfl,hp,hp',bN hv hg hx h,bN hv hg hb hpl,?_,?_⟩
    · unfold val
      rw [h1,if_neg (by show ¬ ((b:Int)<0); omega),h]
      simp only [Int.toNat_natCast]
      rw [hpl]; rfl
    · unfold val
      rw [h2,if_neg (by show ¬ ((x:Int)<0); omega),hpl]
      simp only [Int.toNat_natCast]
      rw [K8 hq hf,h,m3]; rfl
end
theorem jN {l:List Nat} {x:Nat}:(x:Int) ∈ ints l↔x ∈ l:=by
  unfold ints
  rw [List.mem_map]
  constructor
  · rintro ⟨y,h1,h2⟩
    obtain rfl:y=x:=by omega
    exact h1
  · intro h; exact ⟨x,h,rfl⟩
theorem dH {l:List Nat} (hl:l.length≤100) (x:Nat):Ac (fun K=>Eb.f K (ints l) (x:Int)) (decide (x ∈ l)):=by
  have h:=aX (l:=ints l) (v:=(x:Int)) (by unfold ints; rw [List.length_map]; omega)
  rw [decide_eq_decide.2 jN] at h
  exact h
def atL (old:List Nat) (n:Nat):List Int:=(List.range n).map fun x=>(kept old x:Int)
theorem Xh (old:List Nat) (n:Nat):(atL old n).length=n:=by simp [atL]
theorem aZ {old:List Nat} {n x:Nat} (h:x<n):(atL old n).getD x 0=(kept old x:Int):=by
  rw [atL,List.getD_eq_getElem?_getD,List.getElem?_map,List.getElem?_range h]; rfl
theorem iY (old:List Nat) (n:Nat):atL old (n+1)=atL old n++[(kept old n:Int)]:=by unfold atL; rw [List.range_succ,List.map_append]; rfl
def rkf (ts:List (List Ab)) (old:List Nat) (x c:Nat):Ab:=if (Cg ts x c).Tet<0 then ⟨-1,0⟩ else if (Cg ts x c).Tet.toNat ∈ old then ⟨-1,0⟩ else ⟨(kept old (Cg ts x c).Tet.toNat:Int),(Cg ts x c).Perm⟩
def frf (fr:List (List Ab)) (base i c:Nat):Ab:=if (Cg fr i c).Tet<0 then ⟨-1,0⟩ else ⟨(base:Int)+(Cg fr i c).Tet,(Cg fr i c).Perm⟩
theorem Pb {j:Nat} (h:j<4):Js.getD j Bj=⟨-1,0⟩:=by
  rcases (by omega:j=0∨j=1∨j=2∨j=3) with rfl | rfl | rfl | rfl <;> rfl
theorem bT {l:List Ab} {c j:Nat} {v:Ab} (hc:c<l.length):(l.set c v).getD j Bj=if j=c then v else l.getD j Bj:=by
  by_cases e:j=c
  · subst e
    rw [if_pos rfl,List.getD_eq_getElem?_getD,List.getElem?_set_self hc]; rfl
  · rw [if_neg e,List.getD_eq_getElem?_getD,List.getElem?_set_ne (fun q=>e q.symm),← List.getD_eq_getElem?_getD]
theorem Nj {L:List (List Ab)} {row:List Ab} (r c:Nat):Cg (L++[row]) r c=if r<L.length then Cg L r c else if r=L.length then row.getD c Bj else Cg (L++[row]) r c:=by
  unfold Cg
  by_cases h:r<L.length
  · rw [if_pos h,List.getD_eq_getElem?_getD (l:=L++[row]),List.getElem?_append_left h,← List.getD_eq_getElem?_getD]
  · rw [if_neg h]
    by_cases e:r=L.length
    · rw [if_pos e,e,List.getD_eq_getElem?_getD (l:=L++[row]),List.getElem?_append_right (Nat.le_refl _),Nat.sub_self]; rfl
    · rw [if_neg e]
theorem Shape.app {L:List (List Ab)} {m:Nat} (h:Shape L m) {row:List Ab} (hr:row.length=4):Shape (L++[row]) (m+1):=by
  refine ⟨by rw [List.length_append,h.len]; rfl,fun r hlt=>?_⟩
  by_cases e:r<m
  · rw [List.getD_eq_getElem?_getD,List.getElem?_append_left (by rw [h.len]; exact e),← List.getD_eq_getElem?_getD]; exact h.row r e
  · obtain rfl:r=m:=by omega
    rw [List.getD_eq_getElem?_getD,List.getElem?_append_right (by rw [h.len]; exact Nat.le_refl _),h.len,Nat.sub_self]
    exact hr
section
variable {ts:List (List Ab)} (hv:Val ts) {old:List Nat} {es:List En} {fr:List (List Ab)} (hol:old.length≤10)
include hv hol
theorem jV {R:List (List Ab)} (h:Aa (fun K k=>Au.l52 K k ts (ints old) fr (es.map En.g) (atL old ts.length) (kept old ts.length:Int) [] 0) R):∀ (d x:Nat),ts.length - x=d→x≤ts.length→Aa (fun K k=>Au.l1 K k ts (ints old) fr (es.map En.g) (atL old x) (kept old x:Int) (x:Int)) R
  | 0,x,hd,hx=>by
    have h8:=hv.le
    obtain rfl:x=ts.length:=by omega
    refine Aa.step (fun K k=>?_) h
    rw [Au.l1,Cs.f,Option.bind_some,if_neg (by omega)]
  | d+1,x,hd,hx=>by
    have h8:=hv.le
    have hk:=K9 old x
    have ih:=jV h d (x+1) (by omega) (by omega)
    rw [iY,kept] at ih
    refine Aa.succ ?_
    simp only [Au.l1,Cs.f,Option.bind_some]
    refine Aa.pos (by omega) (Aa.pos (by rw [Xh]; omega) ?_)
    refine Aa.bind (dH (by omega) x).two ?_
    rw [Be (by omega),Be (by omega)]
    by_cases hin:x ∈ old
    · rw [if_pos hin] at ih
      exact Aa.pos (decide_eq_true hin) ih
    · rw [if_neg hin] at ih
      exact Aa.neg (by rw [decide_eq_true_eq]; exact hin) ih
theorem R4 {x:Nat} (hx:x<ts.length) {rows:List (List Ab)} (hrl:rows.length≤100):∀ (d c:Nat) (row:List Ab),4 - c=d→c≤4→row.length=4→(∀ j,j<4→row.getD j Bj=if j<c then rkf ts old x j else ⟨-1,0⟩) →
    ∃ row',row'.length=4∧(∀ j,j<4→row'.getD j Bj=rkf ts old x j)∧∀ R,Aa (fun K k=>Au.l52 K k ts (ints old) fr (es.map En.g) (atL old ts.length) (kept old ts.length:Int) (rows++[row']) ((x+1:Nat):Int)) R →
      Aa (fun K k=>Au.l69 K k ts (ints old) fr (es.map En.g) (atL old ts.length) (kept old ts.length:Int) rows (x:Int) row (c:Int)) R
  | 0,c,row,hd,hc,hl,hrow=>by
    have h8:=hv.le
    refine ⟨row,hl,fun j hj=>by rw [hrow j hj,if_pos (by omega)],fun R h=>Aa.step (fun K k=>?_) h⟩
    rw [Au.l69,if_neg (by omega),if_pos (by omega),Be (by omega)]
  | d+1,c,row,hd,hc,hl,hrow=>by
    have h8:=hv.le
    have hc4:c<4:=by omega
    have hr:=hv.four x hx
    have hskip:rkf ts old x c=⟨-1,0⟩→∀ j,j<4→row.getD j Bj=if j<c+1 then rkf ts old x j else ⟨-1,0⟩:=fun e j hj=>by
      rw [hrow j hj]
      by_cases h1:j<c
      · rw [if_pos h1,if_pos (by omega)]
      · by_cases h2:j=c
        · subst h2; rw [if_neg h1,if_pos (by omega),e]
        · rw [if_neg h1,if_neg (by omega)]
    rcases Ep hv hx hc4 with ⟨g1,_⟩ | ⟨g1,b,q,hb,hq,g2,_⟩
    · obtain ⟨row',k1,k2,k3⟩:=R4 hx hrl d (c+1) row (by omega) (by omega) hl (hskip (by unfold rkf; rw [if_pos g1]))
      refine ⟨row',k1,k2,fun R h=>?_⟩
      have:=k3 R h
      have g1':((ts.getD x []).getD c Bj).Tet<0:=g1
      refine Aa.succ ?_
      simp only [Au.l69,Int.toNat_natCast,Fs]
      refine Aa.pos (by omega) (Aa.pos (by omega) (Aa.pos (by omega) (Aa.neg (by omega) ?_)))
      rw [Be (by omega)]; exact this
    · have g2':(ts.getD x []).getD c Bj=⟨b,q⟩:=g2
      by_cases hin:b ∈ old
      · obtain ⟨row',k1,k2,k3⟩:=R4 hx hrl d (c+1) row (by omega) (by omega) hl (hskip (by unfold rkf; rw [if_neg g1,g2]; simp only [Int.toNat_natCast]; rw [if_pos hin]))
        refine ⟨row',k1,k2,fun R h=>?_⟩
        have:=k3 R h
        refine Aa.succ ?_
        simp only [Au.l69,Int.toNat_natCast,Fs,g2']
        refine Aa.pos (by omega) (Aa.pos (by omega) (Aa.pos (by omega) (Aa.pos (by omega) ?_)))
        refine Aa.bind (dH (by omega) b).two (Aa.pos (decide_eq_true hin) ?_)
        rw [Be (by omega)]; exact this
      · have e:rkf ts old x c=⟨(kept old b:Int),(q:Int)⟩:=by unfold rkf; rw [if_neg g1,g2]; simp only [Int.toNat_natCast]; rw [if_neg hin]
        obtain ⟨row',k1,k2,k3⟩:=R4 hx hrl d (c+1) (row.set c ⟨(kept old b:Int),(q:Int)⟩) (by omega) (by omega) (by rw [List.length_set]; exact hl) (fun j hj=>by
          rw [bT (by omega)]
          by_cases h2:j=c
          · subst h2; rw [if_pos rfl,if_pos (by omega),e]
          · rw [if_neg h2,hrow j hj]
            by_cases h1:j<c
            · rw [if_pos h1,if_pos (by omega)]
            · rw [if_neg h1,if_neg (by omega)])
        refine ⟨row',k1,k2,fun R h=>?_⟩
        have:=k3 R h
        refine Aa.succ ?_
        simp only [Au.l69,Int.toNat_natCast,Fs,g2',aZ hb]
        refine Aa.pos (by omega) (Aa.pos (by omega) (Aa.pos (by omega) (Aa.pos (by omega) ?_)))
        refine Aa.bind (dH (by omega) b).two (Aa.neg (by rw [decide_eq_true_eq]; exact hin) ?_)
        refine Aa.pos (by rw [Xh]; omega) (Aa.pos (by omega) ?_)
        rw [Be (by omega)]; exact this
theorem Xc:∀ (d x:Nat) (rows:List (List Ab)),ts.length - x=d→x≤ts.length→Shape rows (kept old x)→(∀ y c,y<x→y ∉ old→c<4→Cg rows (kept old y) c=rkf ts old y c) →
    ∃ rows',Shape rows' (kept old ts.length)∧(∀ y c,y<ts.length→y ∉ old→c<4→Cg rows' (kept old y) c=rkf ts old y c)∧∀ R,Aa (fun K k=>Au.l70 K k ts (ints old) fr (es.map En.g) (atL old ts.length) (kept old ts.length:Int) rows' 0) R →
      Aa (fun K k=>Au.l52 K k ts (ints old) fr (es.map En.g) (atL old ts.length) (kept old ts.length:Int) rows (x:Int)) R
  | 0,x,rows,hd,hx,hs,hf=>by
    have h8:=hv.le
    obtain rfl:x=ts.length:=by omega
    refine ⟨rows,hs,hf,fun R h=>Aa.step (fun K k=>?_) h⟩
    rw [Au.l52,Cs.f,Option.bind_some,if_neg (by omega)]
  | d+1,x,rows,hd,hx,hs,hf=>by
    have h8:=hv.le
    have hk:=K9 old x
    have hsl:=hs.len
    have hlt:x<ts.length:=by omega
    by_cases hin:x ∈ old
    · obtain ⟨rows',k1,k2,k3⟩:=Xc d (x+1) rows (by omega) (by omega) (by rw [kept,if_pos hin]; exact hs) (fun y c hy hyo hc=>hf y c (by
        by_cases e:y=x
        · subst e; exact (hyo hin).elim
        · omega) hyo hc)
      refine ⟨rows',k1,k2,fun R h=>?_⟩
      have:=k3 R h
      refine Aa.succ ?_
      simp only [Au.l52,Cs.f,Option.bind_some]
      refine Aa.pos (by omega) (Aa.bind (dH (by omega) x).two (Aa.pos (decide_eq_true hin) ?_))
      rw [Be (by omega)]; exact this
    · obtain ⟨row',g1,g2,g3⟩:=R4 (es:=es) (fr:=fr) hv hol hlt (rows:=rows) (by omega) 4 0 Js rfl (by omega) rfl (fun j hj=>by rw [if_neg (by omega)]; exact Pb hj)
      obtain ⟨rows',k1,k2,k3⟩:=Xc d (x+1) (rows++[row']) (by omega) (by omega) (by rw [kept,if_neg hin]; exact hs.app g1) (fun y c hy hyo hc=>by
        rw [Nj,hsl]
        by_cases e:y=x
        · subst e
          rw [if_neg (by omega),if_pos rfl]; exact g2 c hc
        · rw [if_pos (Li (by omega) hyo)]; exact hf y c (by omega) hyo hc)
      refine ⟨rows',k1,k2,fun R h=>?_⟩
      have:=g3 R (k3 R h)
      refine Aa.succ ?_
      simp only [Au.l52,Cs.f,Option.bind_some]
      refine Aa.pos (by omega) (Aa.bind (dH (by omega) x).two (Aa.neg (by rw [decide_eq_true_eq]; exact hin) ?_))
      exact Aa.bind (a:=Js) (Aa.const _) this
section
variable {nf:Nat} (hn4:nf≤4) (hfs:Shape fr nf) (hff:∀ i c,i<nf→c<4→(Cg fr i c).Tet<nf)
include hn4 hfs hff
theorem Xf {i:Nat} (hi:i<nf) {rows:List (List Ab)} (hrl:rows.length≤100):∀ (d c:Nat) (row:List Ab),4 - c=d→c≤4→row.length=4→(∀ j,j<4→row.getD j Bj=if j<c then frf fr (kept old ts.length) i j else ⟨-1,0⟩) →
    ∃ row',row'.length=4∧(∀ j,j<4→row'.getD j Bj=frf fr (kept old ts.length) i j)∧∀ R,Aa (fun K k=>Au.l70 K k ts (ints old) fr (es.map En.g) (atL old ts.length) (kept old ts.length:Int) (rows++[row']) ((i+1:Nat):Int)) R →
      Aa (fun K k=>Au.l75 K k ts (ints old) fr (es.map En.g) (atL old ts.length) (kept old ts.length:Int) rows (i:Int) row (c:Int)) R
  | 0,c,row,hd,hc,hl,hrow=>by
    refine ⟨row,hl,fun j hj=>by rw [hrow j hj,if_pos (by omega)],fun R h=>Aa.step (fun K k=>?_) h⟩
    rw [Au.l75,if_neg (by omega),if_pos (by omega),Be (by omega)]
  | d+1,c,row,hd,hc,hl,hrow=>by
    have h8:=hv.le
    have hkn:=K9 old ts.length
    have hc4:c<4:=by omega
    have hr:=hfs.row i hi
    have hfl:=hfs.len
    have hfi:=hff i c hi hc4
    by_cases g1:(Cg fr i c).Tet<0
    · obtain ⟨row',k1,k2,k3⟩:=Xf hi hrl d (c+1) row (by omega) (by omega) hl (fun j hj=>by
        rw [hrow j hj]
        by_cases h1:j<c
        · rw [if_pos h1,if_pos (by omega)]
        · by_cases h2:j=c
          · subst h2; rw [if_neg h1,if_pos (by omega)]; unfold frf; rw [if_pos g1]
          · rw [if_neg h1,if_neg (by omega)])
      refine ⟨row',k1,k2,fun R h=>?_⟩
      have:=k3 R h
      have g1':((fr.getD i []).getD c Bj).Tet<0:=g1
      refine Aa.succ ?_
      simp only [Au.l75,Int.toNat_natCast,Fs]
      refine Aa.pos (by omega) (Aa.pos (by omega) (Aa.pos (by omega) (Aa.neg (by omega) ?_)))
      rw [Be (by omega)]; exact this
    · have e:frf fr (kept old ts.length) i c=⟨(kept old ts.length:Int)+(Cg fr i c).Tet,(Cg fr i c).Perm⟩:=by unfold frf; rw [if_neg g1]
      obtain ⟨row',k1,k2,k3⟩:=Xf hi hrl d (c+1) (row.set c ⟨(kept old ts.length:Int)+(Cg fr i c).Tet,(Cg fr i c).Perm⟩) (by omega) (by omega) (by rw [List.length_set]; exact hl) (fun j hj=>by
        rw [bT (by omega)]
        by_cases h2:j=c
        · subst h2; rw [if_pos rfl,if_pos (by omega),e]
        · rw [if_neg h2,hrow j hj]
          by_cases h1:j<c
          · rw [if_pos h1,if_pos (by omega)]
          · rw [if_neg h1,if_neg (by omega)])
      refine ⟨row',k1,k2,fun R h=>?_⟩
      have:=k3 R h
      have hw:w64 ((kept old ts.length:Int)+((fr.getD i []).getD c Bj).Tet)=(kept old ts.length:Int)+(Cg fr i c).Tet:=He (by show -9223372036854775808≤(kept old ts.length:Int)+(Cg fr i c).Tet; omega) (by show (kept old ts.length:Int)+(Cg fr i c).Tet≤_; omega)
      refine Aa.succ ?_
      simp only [Au.l75,Int.toNat_natCast,Fs,hw]
      refine Aa.pos (by omega) (Aa.pos (by omega) (Aa.pos (by omega) (Aa.pos (by show 0≤(Cg fr i c).Tet; omega) (Aa.pos (by omega) ?_))))
      rw [Be (by omega)]; exact this
theorem dE:∀ (d i:Nat) (rows:List (List Ab)),nf - i=d→i≤nf→Shape rows (kept old ts.length+i)→(∀ y c,y<ts.length→y ∉ old→c<4→Cg rows (kept old y) c=rkf ts old y c)→(∀ j c,j<i→c<4→Cg rows (kept old ts.length+j) c=frf fr (kept old ts.length) j c) →
    ∃ rows',Shape rows' (kept old ts.length+nf)∧(∀ y c,y<ts.length→y ∉ old→c<4→Cg rows' (kept old y) c=rkf ts old y c)∧(∀ j c,j<nf→c<4→Cg rows' (kept old ts.length+j) c=frf fr (kept old ts.length) j c)∧∀ R,Aa (fun K k=>Au.l76 K k ts (ints old) (es.map En.g) (atL old ts.length) (kept old ts.length:Int) rows' 0) R →
      Aa (fun K k=>Au.l70 K k ts (ints old) fr (es.map En.g) (atL old ts.length) (kept old ts.length:Int) rows (i:Int)) R
  | 0,i,rows,hd,hi,hs,hf,hfn=>by
    have hfl:=hfs.len
    obtain rfl:i=nf:=by omega
    refine ⟨rows,hs,hf,hfn,fun R h=>Aa.step (fun K k=>?_) h⟩
    rw [Au.l70,if_neg (by omega)]
  | d+1,i,rows,hd,hi,hs,hf,hfn=>by
    have h8:=hv.le
    have hkn:=K9 old ts.length
    have hfl:=hfs.len
    have hsl:=hs.len
    have hlt:i<nf:=by omega
    obtain ⟨row',g1,g2,g3⟩:=Xf (es:=es) hv hol hn4 hfs hff hlt (rows:=rows) (by omega) 4 0 Js rfl (by omega) rfl (fun j hj=>by rw [if_neg (by omega)]; exact Pb hj)
    obtain ⟨rows',k1,k2,k3,k4⟩:=dE d (i+1) (rows++[row']) (by omega) (by omega) (hs.app g1) (fun y c hy hyo hc=>by
      have:=Li hy hyo
      rw [Nj,hsl,if_pos (by omega)]; exact hf y c hy hyo hc) (fun j c hj hc=>by
      rw [Nj,hsl]
      by_cases e:j=i
      · subst e
        rw [if_neg (by omega),if_pos rfl]; exact g2 c hc
      · rw [if_pos (by omega)]; exact hfn j c (by omega) hc)
    refine ⟨rows',k1,k2,k3,fun R h=>?_⟩
    have:=g3 R (k4 R h)
    refine Aa.succ ?_
    simp only [Au.l70]
    exact Aa.pos (by omega) (Aa.bind (a:=Js) (Aa.const _) this)
end
end
theorem En.get {es:List En} {t:Nat} {e:En} (h:es[t]?=some e):t<es.length∧(es.map En.g).getD t Mt=e.g:=by
  have ht:t<es.length:=by
    by_cases q:t<es.length
    · exact q
    · rw [List.getElem?_eq_none (by omega)] at h; cases h
  exact ⟨ht,by rw [List.getD_eq_getElem?_getD,List.getElem?_map,h]; rfl⟩
theorem dC {es:List En} (hl:es.length≤100) {x g t:Nat} {e:En} (ht:es[t]?=some e) (hx:e.x=x) (hf:e.f=g) (hno:∀ j,j<t→∀ e',es[j]?=some e'→¬ (e'.x=x∧e'.f=g)):∀ (d j:Nat),t - j=d→j≤t→Aa (fun K k=>Ga.l1 K k (es.map En.g) (x:Int) (g:Int) (j:Int)) (t:Int)
  | 0,j,hd,hj=>by
    obtain rfl:j=t:=by omega
    obtain ⟨a,b⟩:=En.get ht
    refine Aa.of fun K k=>?_
    rw [Ga.l1,List.length_map,if_pos (by omega),if_pos (by omega),Int.toNat_natCast,b,Fs,if_pos (by show (e.x:Int)=x; omega),if_pos (by show (e.f:Int)=g; omega)]
  | d+1,j,hd,hj=>by
    obtain ⟨a,_⟩:=En.get ht
    have hjl:j<es.length:=by omega
    have h1:es[j]?=some es[j]:=List.getElem?_eq_getElem hjl
    obtain ⟨_,b⟩:=En.get h1
    have hn:=hno j (by omega) _ h1
    refine Aa.step (fun K k=>?_) (dC hl ht hx hf hno d (j+1) (by omega) (by omega))
    rw [Ga.l1,List.length_map,if_pos (by omega),if_pos (by omega),Int.toNat_natCast,b,Fs,Be (by omega)]
    by_cases e1:es[j].x=x
    · rw [if_pos (by show (es[j].x:Int)=x; omega),if_neg (by show ¬ ((es[j].f:Int)=g); intro q; exact hn ⟨e1,by omega⟩)]
    · rw [if_neg (by show ¬ ((es[j].x:Int)=x); omega)]
theorem tQ {es:List En} (hl:es.length≤100) {x g:Nat} (h:∃ e,e ∈ es∧e.x=x∧e.f=g):∃ (t:Nat) (e:En),es[t]?=some e∧e.x=x∧e.f=g∧Ac (fun K=>Ga.f K (es.map En.g) (x:Int) (g:Int)) (t:Int):=by
  obtain ⟨e0,h1,h2,h3⟩:=h
  obtain ⟨t0,ht0,h4⟩:=List.getElem_of_mem h1
  obtain ⟨t,_,⟨e,k1,k2,k3⟩,k4⟩:=Uk (P:=fun t:Nat=>∃ e:En,es[t]?=some e∧e.x=x∧e.f=g) t0 ⟨e0,by rw [List.getElem?_eq_getElem ht0,h4],h2,h3⟩
  exact ⟨t,e,k1,k2,k3,(dC hl k1 k2 k3 (fun j hj e' h5 h6=>k4 j hj ⟨e',h5,h6.1,h6.2⟩) t 0 rfl (by omega)).Hg⟩
theorem Xn {m:Nat} (hm:m<24):PM m 0=m:=by
  have:∀ m,m<24→PM m 0=m:=by decide +kernel
  exact this m hm
theorem mF:PI 0=0:=by decide +kernel
theorem mZ {m:Nat} (hm:m<24):PM 0 m=m:=by
  have:∀ m,m<24→PM 0 m=m:=by decide +kernel
  exact this m hm
def Pd (ts:List (List Ab)) (old:List Nat) (es:List En) (j r c:Nat):Prop :=
  ∃ (t:Nat) (e:En) (b q r' p':Nat),j≤t∧es[t]?=some e∧Kt ts e.x e.f b q∧plc ts.length old es b (PA q e.f)=some (r',p')∧((r=kept old ts.length+e.i∧c=PA e.p e.f)∨(r=r'∧c=PA p' (PA q e.f)))
section
variable {ts:List (List Ab)} (hv:Val ts) {old:List Nat} {es:List En} {fr:List (List Ab)} (hol:old.length≤10) {nf:Nat} (hn4:nf≤4) (hel:es.length≤100) (hg:Chg ts old es nf)
include hv hol hn4 hel hg
theorem Wi:∀ (d j:Nat) (L:List (List Ab)),es.length - j=d→j≤es.length→Shape L (kept old ts.length+nf)→(∀ r c,r<kept old ts.length+nf→c<4→Ex ts old es fr r c (Cg L r c)∨Pd ts old es j r c) →
    ∃ L',Shape L' (kept old ts.length+nf)∧(∀ r c,r<kept old ts.length+nf→c<4→Ex ts old es fr r c (Cg L' r c))∧Aa (fun K k=>Au.l76 K k ts (ints old) (es.map En.g) (atL old ts.length) (kept old ts.length:Int) L (j:Int)) L'
  | 0,j,L,hd,hj,hs,hx=>by
    refine ⟨L,hs,fun r c hr hc=>(hx r c hr hc).resolve_right ?_,Aa.of fun K k=>?_⟩
    · rintro ⟨t,e,b,q,r',p',h1,h2,_⟩
      have:=(En.get h2).1
      omega
    · rw [Au.l76,List.length_map,if_neg (by omega)]
  | d+1,j,L,hd,hj,hs,hx=>by
    have h8:=hv.le
    have hkn:=K9 old ts.length
    have hjl:j<es.length:=by omega
    have hej:es[j]?=some es[j]:=List.getElem?_eq_getElem hjl
    obtain ⟨_,hgt⟩:=En.get hej
    have hmem:es[j] ∈ es:=List.getElem_mem hjl
    generalize es[j]=e at hej hgt hmem
    obtain ⟨eo,ef,ei,ep⟩:=hg.en e hmem
    have hxn:=hg.Zz _ eo
    have hr4:=hv.four _ hxn
    have hpf:=Ei ep ef
    rcases Ep hv hxn ef with ⟨g1,_⟩ | ⟨g1,b,q,hb,hq,g2,hG⟩
    · obtain ⟨L',k1,k2,k3⟩:=Wi d (j+1) L (by omega) (by omega) hs (fun r c hr hc=>by
        rcases hx r c hr hc with h | ⟨t,e',b,q,r',p',h1,h2,h3,h4⟩
        · exact .inl h
        · refine .inr ⟨t,e',b,q,r',p',?_,h2,h3,h4⟩
          by_cases e1:t=j
          · subst e1
            rw [hej] at h2
            injection h2 with h2
            subst h2
            rw [h3.2.2.1] at g1
            have g1:(b:Int)<0:=g1
            omega
          · omega)
      refine ⟨L',k1,k2,?_⟩
      have g1':((ts.getD e.x []).getD e.f Bj).Tet<0:=g1
      refine Aa.succ ?_
      simp only [Au.l76,List.length_map,Int.toNat_natCast,hgt,Fs,En.g]
      refine Aa.pos (by omega) (Aa.pos (by omega) (Aa.pos (by omega) (Aa.pos (by omega) (Aa.pos g1' ?_))))
      rw [Be (by omega)]; exact k3
    · have hpl:=aK hg (n:=ts.length) hmem
      obtain ⟨r',p',q1,q2,q3,q4,q5,q6,q7⟩:=partner hv hg hxn ef hpl hG
      obtain ⟨m1,m2,m3⟩:=PM3 ep hq q3
      have m2':=m2 e.f ef
      have hqf:=Ei hq ef
      have hp'q:=Ei q3 hqf
      have hs2:Shape (Qk (Qk L (kept old ts.length+e.i) (PA e.p e.f) ⟨r',(PM (PM (PI e.p) q) p':Nat)⟩) r' (PA p' (PA q e.f)) ⟨(kept old ts.length+e.i:Nat),(PI (PM (PM (PI e.p) q) p'):Nat)⟩) (kept old ts.length+nf):=J5 (J5 hs)
      obtain ⟨L',k1,k2,k3⟩:=Wi d (j+1) _ (by omega) (by omega) hs2 (fun r c hr hc=>by
        rw [Nl (J5 hs) q5 hp'q,Nl hs q4 hpf]
        by_cases c1:r=r'∧c=PA p' (PA q e.f)
        · rw [if_pos c1]
          refine .inl (.inl ⟨b,PA q e.f,p',hb,hqf,by rw [c1.1]; exact q1,c1.2,?_⟩)
          rw [q7]
        · rw [if_neg c1]
          by_cases c2:r=kept old ts.length+e.i∧c=PA e.p e.f
          · rw [if_pos c2]
            refine .inl (.inl ⟨e.x,e.f,e.p,hxn,ef,by rw [c2.1]; exact hpl,c2.2,?_⟩)
            rw [q6]
          · rw [if_neg c2]
            rcases hx r c hr hc with h | ⟨t,e',b1,q8,r1,p1,h1,h2,h3,h4,h5⟩
            · exact .inl h
            · refine .inr ⟨t,e',b1,q8,r1,p1,?_,h2,h3,h4,h5⟩
              by_cases e1:t=j
              · subst e1
                rw [hej] at h2
                injection h2 with h2
                subst h2
                have f1:=h3.2.2.1
                rw [g2] at f1
                injection f1 with f1 f2
                have f1:b=b1:=by omega
                have f2:q=q8:=by omega
                subst f1; subst f2
                rw [q1] at h4
                injection h4 with h4
                injection h4 with h4 h6
                subst h4; subst h6
                rcases h5 with h5 | h5
                · exact (c2 h5).elim
                · exact (c1 h5).elim
              · omega)
      refine ⟨L',k1,k2,?_⟩
      have g2':(ts.getD e.x []).getD e.f Bj=⟨b,q⟩:=g2
      have w1:w64 ((kept old ts.length:Int)+(e.i:Int))=((kept old ts.length+e.i:Nat):Int):=by rw [He (by omega) (by omega)]; omega
      have hG1:=uB hs q4 hpf q5 m1
      rw [m2'] at hG1
      refine Aa.succ ?_
      simp only [Au.l76,List.length_map,Int.toNat_natCast,hgt,Fs,En.g,g2',w1]
      refine Aa.pos (by omega) (Aa.pos (by omega) (Aa.pos (by omega) (Aa.pos (by omega) (Aa.neg (by omega) ?_))))
      refine Aa.bind (Mr ep ef).two ?_
      refine Aa.bind (Py ep).two ?_
      refine Aa.bind (Td (Im ep) hq).two ?_
      refine Aa.bind (dH (by omega) b).two ?_
      by_cases hbo:b ∈ old
      · refine Aa.pos (decide_eq_true hbo) ?_
        refine Aa.bind (Mr hq ef).two ?_
        rcases Kh hg q1 with ⟨z1,_⟩ | ⟨e2,z1,z2,z3,z4,z5⟩
        · exact (z1 hbo).elim
        · obtain ⟨t,e3,y1,y2,y3,y4⟩:=tQ hel ⟨e2,z1,z2,z3⟩
          obtain ⟨y5,y6⟩:=En.get y1
          have y7:e3=e2:=hg.key e3 e2 (by
            rw [List.getElem?_eq_getElem y5] at y1
            injection y1 with y1
            rw [← y1]; exact List.getElem_mem y5) z1 (by omega) (by omega)
          rw [y7] at y6
          have w2:w64 ((kept old ts.length:Int)+(e2.i:Int))=(r':Int):=by rw [He (by have:=(hg.en e2 z1).2.2.1; omega) (by have:=(hg.en e2 z1).2.2.1; omega)]; omega
          refine Aa.bind y4.two ?_
          simp only [Int.toNat_natCast,y6,En.g,w2]
          refine Aa.pos (by omega) ?_
          rw [← z5]
          refine Aa.bind (Td (Mv (Im ep) hq) q3).two ?_
          refine Aa.bind hG1.two ?_
          refine Aa.pos (by rw [hs2.len,hs.len]) ?_
          rw [Be (by omega)]; exact k3
      · refine Aa.neg (by rw [decide_eq_true_eq]; exact hbo) ?_
        rw [Nk hbo] at q1
        injection q1 with q1
        injection q1 with z1 z2
        subst z2
        rw [Xn (Mv (Im ep) hq)] at hG1 k3
        refine Aa.pos (by rw [Xh]; omega) ?_
        rw [aZ hb,z1]
        refine Aa.bind hG1.two ?_
        rw [Xn (Mv (Im ep) hq)] at hs2
        refine Aa.pos (by rw [hs2.len,hs.len]) ?_
        rw [Be (by omega)]; exact k3
theorem dY (hfs:Shape fr nf) (hff:∀ i c,i<nf→c<4→(Cg fr i c).Tet<nf) (hfe:∀ e,e ∈ es→(Cg fr e.i (PA e.p e.f)).Tet<0) :
    ∃ L,Shape L (kept old ts.length+nf)∧(∀ r c,r<kept old ts.length+nf→c<4→Ex ts old es fr r c (Cg L r c))∧Ac (fun K=>Au.f K ts (ints old) fr (es.map En.g)) L:=by
  have h8:=hv.le
  obtain ⟨R1,a1,a2,a3⟩:=Xc (es:=es) (fr:=fr) hv hol ts.length 0 [] rfl (by omega) ⟨rfl,fun r hr=>by rw [kept] at hr; omega⟩ (fun y c hy=>by omega)
  obtain ⟨R2,b1,b2,b3,b4⟩:=dE (es:=es) hv hol hn4 hfs hff nf 0 R1 rfl (by omega) a1 a2 (fun j c hj=>by omega)
  obtain ⟨L,c1,c2,c3⟩:=Wi (fr:=fr) hv hol hn4 hel hg es.length 0 R2 rfl (by omega) b1 (fun r c hr hc=>by
    by_cases hrk:r<kept old ts.length
    · obtain ⟨x,x1,x2,x3⟩:=Tk hrk
      subst x3
      have hpl:=Nk (n:=ts.length) (es:=es) (f:=c) x2
      rw [b2 x c x1 x2 hc]
      rcases Ep hv x1 hc with ⟨g1,_⟩ | ⟨g1,b,q,hb,hq,g2,hG⟩
      · refine .inl (.inl ⟨x,c,0,x1,hc,hpl,(N9 hg hc).symm,?_⟩)
        unfold rkf val
        rw [if_pos g1,if_pos g1]
      · obtain ⟨r',p',q1,q2,q3,q4,q5,q6,q7⟩:=partner hv hg x1 hc hpl hG
        by_cases hbo:b ∈ old
        · rcases Kh hg q1 with ⟨z1,_⟩ | ⟨e2,z1,z2,z3,z4,z5⟩
          · exact (z1 hbo).elim
          · obtain ⟨t,ht,h4⟩:=List.getElem_of_mem z1
            refine .inr ⟨t,e2,x,PI q,kept old x,0,Nat.zero_le _,by rw [List.getElem?_eq_getElem ht,h4],?_,?_,.inr ⟨rfl,?_⟩⟩
            · rw [z2,z3]
              refine ⟨x1,Im hq,hG.2.2.2.1,?_,?_⟩
              · rw [K8 hq hc,Vl hq]; exact g2
              · rw [K8 hq hc]; exact fun h=>hG.2.2.2.2 ⟨h.1.symm,h.2.symm⟩
            · exact Nk x2
            · rw [z3,K8 hq hc,N9 hg hc]
        · refine .inl (.inl ⟨x,c,0,x1,hc,hpl,(N9 hg hc).symm,?_⟩)
          rw [Nk hbo] at q1
          injection q1 with q1
          injection q1 with z1 z2
          subst z2
          rw [q6,← z1,mF,mZ hq,Xn hq]
          unfold rkf
          rw [if_neg g1,g2]
          simp only [Int.toNat_natCast]
          rw [if_neg hbo]
    · obtain ⟨i,hi⟩:∃ i,r=kept old ts.length+i:=⟨r - kept old ts.length,by omega⟩
      subst hi
      have hin:i<nf:=by omega
      rw [b3 i c hin hc]
      unfold frf
      by_cases hneg:(Cg fr i c).Tet<0
      · rw [if_pos hneg]
        by_cases hex:∃ e,e ∈ es∧e.i=i∧PA e.p e.f=c
        · obtain ⟨e,z1,z2,z3⟩:=hex
          obtain ⟨eo,ef,ei,ep⟩:=hg.en e z1
          have hxn:=hg.Zz _ eo
          have hpl:=aK hg (n:=ts.length) z1
          rcases Ep hv hxn ef with ⟨g1,_⟩ | ⟨g1,b,q,hb,hq,g2,hG⟩
          · refine .inl (.inl ⟨e.x,e.f,e.p,hxn,ef,by rw [hpl,z2],z3.symm,?_⟩)
            unfold val
            rw [if_pos g1]
          · obtain ⟨r',p',q1,_⟩:=partner hv hg hxn ef hpl hG
            obtain ⟨t,ht,h4⟩:=List.getElem_of_mem z1
            exact .inr ⟨t,e,b,q,r',p',Nat.zero_le _,by rw [List.getElem?_eq_getElem ht,h4],hG,q1,.inl ⟨by rw [z2],z3.symm⟩⟩
        · refine .inl (.inr (.inr ⟨by omega,by rw [show kept old ts.length+i - kept old ts.length=i by omega]; exact hneg,fun e he h=>hex ⟨e,he,by omega,h.2⟩,rfl⟩))
      · rw [if_neg hneg]
        refine .inl (.inr (.inl ⟨by omega,?_,?_⟩)) <;> rw [show kept old ts.length+i - kept old ts.length=i by omega]
        omega)
  exact ⟨L,c1,c2,(jV hv hol (a3 _ (b4 _ c3)) ts.length 0 rfl (by omega)).Hg⟩
end
theorem Y2 {l:List Int} (hl:l.length≤1000) {v:Int} (h1:∀ j,j<l.length→l.getD j 0≠v):∀ (d j:Nat),l.length - j=d→j≤l.length→Aa (fun K k=>Ch.l1 K k l v (j:Int)) (-1)
  | 0,j,hd,hle=>by
    refine Aa.of fun K k=>?_
    rw [Ch.l1,if_neg (by omega)]
  | d+1,j,hd,hle=>by
    refine Aa.step (fun K k=>?_) (Y2 hl h1 d (j+1) (by omega) (by omega))
    rw [Ch.l1,if_pos (by omega),if_pos (by omega),Int.toNat_natCast,if_neg (fun e=>h1 j (by omega) e.symm),Be (by omega)]
theorem Qv {l:List Nat} (hl:l.length≤100) (x:Nat):Ac (fun K=>Dk.f K (ints l) (x:Int)) (decide (x ∈ l)):=by
  have hll:=H5 l
  by_cases h:x ∈ l
  · rw [decide_eq_true h]
    obtain ⟨t0,ht0,h4⟩:=List.getElem_of_mem h
    obtain ⟨t,k0,⟨k1,k2⟩,k4⟩:=Uk (P:=fun t=>t<l.length∧(ints l).getD t 0=(x:Int)) t0 ⟨ht0,by rw [Ku ht0,List.getD_eq_getElem?_getD,List.getElem?_eq_getElem ht0,h4]; rfl⟩
    have:=Ud (l:=ints l) (v:=(x:Int)) (by omega) (j0:=t) (by omega) k2 (fun j hj e=>k4 j hj ⟨by omega,e⟩) t 0 rfl (by omega)
    refine Ac.bind this.Hg ?_
    rw [decide_eq_true (by omega)]; exact Ac.const _
  · rw [decide_eq_false h]
    have:=Y2 (l:=ints l) (v:=(x:Int)) (by omega) (fun j hj e=>h (by
      have hjl:j<l.length:=by omega
      rw [Ku hjl] at e
      have e2:l.getD j 0=x:=by omega
      rw [List.getD_eq_getElem?_getD,List.getElem?_eq_getElem hjl,Option.getD_some] at e2
      rw [← e2]; exact List.getElem_mem hjl)) _ 0 rfl (by omega)
    exact Ac.bind this.Hg (Ac.const _)
theorem bQ {s:List Ab} (h:s.length=4):Dh.f s=some s:=by
  unfold Dh.f
  rw [if_pos (by rw [h]; decide)]; rfl
theorem dA {L:List (List Ab)} {m:Nat} (h:Shape L m) (hm:m≤100):∀ (d x:Nat) (out:List (List Ab)),m - x=d→x≤m→out=L.take x→Aa (fun K k=>Cr.l1 K k L out (x:Int)) L
  | 0,x,out,hd,hx,ho=>by
    have hl:=h.len
    refine Aa.of fun K k=>?_
    rw [Cr.l1,if_neg (by omega),ho,List.take_of_length_le (by omega)]
  | d+1,x,out,hd,hx,ho=>by
    have hl:=h.len
    have hr:=h.row x (by omega)
    have hlo:out.length=x:=by rw [ho,List.length_take]; omega
    refine Aa.step (fun K k=>?_) (dA h hm d (x+1) (out++[L.getD x []]) (by omega) (by omega) (by
      rw [ho,List.take_add_one,List.getD_eq_getElem?_getD,List.getElem?_eq_getElem (by omega)]; rfl))
    rw [Cr.l1,if_pos (by omega),if_pos (by omega),Int.toNat_natCast,bQ hr,Option.bind_some,if_pos (by omega),Be (by omega)]
theorem eF {L:List (List Ab)} {m:Nat} (h:Shape L m) (hm:m≤100):Ac (fun K=>Cr.f K L) L:=(dA h hm m 0 [] rfl (by omega) rfl).Hg
theorem Zu:(fun (K:Nat)=>Bh.f (K+40) ([⟨-1,0⟩]:List Ab) 4)=fun _=>some Js:=by kernel_rfl
theorem jJ:Ac (fun K=>Bh.f K ([⟨-1,0⟩]:List Ab) 4) Js:=⟨40,fun K hK=>by
  have:=congrFun Zu (K - 40)
  rw [show K=K - 40+40 by omega]; exact this⟩
theorem qY {L:List (List Ab)} {m:Nat} (h:Shape L m) (hm:m≤100):Ac (fun K=>G8.f K L) (L++[Js]):=by
  refine Ac.bind (eF h hm) (Ac.Ew (a:=-1) (b:=0) (Ac.const _) (Ac.bind jJ ?_))
  exact Ac.pos (by rw [h.len]; omega) (Ac.const _)
def yL (old:List Nat) (n x:Nat):List Int:=(List.range n).map fun j=>if j<x∧j ∉ old then (kept old j:Int) else 0
theorem Om (old:List Nat) (n x:Nat):(yL old n x).length=n:=by simp [yL]
theorem Ra {old:List Nat} {n x j:Nat} (h:j<n):(yL old n x).getD j 0=if j<x∧j ∉ old then (kept old j:Int) else 0:=by
  rw [yL,List.getD_eq_getElem?_getD,List.getElem?_map,List.getElem?_range h]; rfl
theorem kG {old:List Nat} {n x:Nat} (h:x ∈ old):yL old n (x+1)=yL old n x:=by
  refine O8 (Om _ _ _) (Om _ _ _) fun i hi=>?_
  rw [Ra hi,Ra hi]
  by_cases e:i=x
  · subst e; rw [if_neg (fun q=>q.2 h),if_neg (fun q=>q.2 h)]
  · by_cases h1:i<x∧i ∉ old
    · rw [if_pos h1,if_pos ⟨by omega,h1.2⟩]
    · rw [if_neg h1,if_neg (fun q=>h1 ⟨by omega,q.2⟩)]
theorem rC {old:List Nat} {n x:Nat} (hx:x<n) (h:x ∉ old):yL old n (x+1)=(yL old n x).set x (kept old x:Int):=by
  refine O8 (Om _ _ _) (by rw [List.length_set]; exact Om _ _ _) fun i hi=>?_
  rw [Xk (by rw [Om]; exact hx),Ra hi,Ra hi]
  by_cases e:x=i
  · subst e; rw [if_pos rfl,if_pos ⟨by omega,h⟩]
  · rw [if_neg e]
    by_cases h1:i<x∧i ∉ old
    · rw [if_pos h1,if_pos ⟨by omega,h1.2⟩]
    · rw [if_neg h1,if_neg (fun q=>h1 ⟨by omega,q.2⟩)]
theorem kY (old:List Nat) (n:Nat):yL old n 0=List.replicate n (0:Int):=by
  refine O8 (Om _ _ _) (by simp) fun i hi=>?_
  rw [Ra hi,if_neg (fun q=>by omega),List.getD_eq_getElem?_getD,List.getElem?_replicate,if_pos hi]; rfl
section
variable {ts:List (List Ab)} (hv:Val ts) {old:List Nat} {m:List (Gq × Eg)} {inn:List Gi} {nf:Nat} (hol:old.length≤10) (hn4:nf≤4)
include hv hol hn4
theorem gU:∀ (d x:Nat) (rows:List (List Ab)),ts.length - x=d→x≤ts.length→Shape rows (kept old x)→(∀ y c,y<x→y ∉ old→c<4→Cg rows (kept old y) c=Cg ts y c) →
    ∃ rows',Shape rows' (kept old ts.length)∧(∀ y c,y<ts.length→y ∉ old→c<4→Cg rows' (kept old y) c=Cg ts y c)∧∀ R,Aa (fun K k=>Ae.Vz K k ts (ints old) m (nf:Int) inn (yL old ts.length ts.length) (kept old ts.length:Int) rows' 0) R →
      Aa (fun K k=>Ae.l1 K k ts (ints old) m (nf:Int) inn rows (yL old ts.length x) (x:Int)) R
  | 0,x,rows,hd,hx,hs,hf=>by
    have h8:=hv.le
    obtain rfl:x=ts.length:=by omega
    refine ⟨rows,hs,hf,fun R h=>Aa.step (fun K k=>?_) h⟩
    rw [Ae.l1,if_neg (by omega),Bw.f,Option.bind_some,hs.len]
  | d+1,x,rows,hd,hx,hs,hf=>by
    have h8:=hv.le
    have hk:=K9 old x
    have hsl:=hs.len
    have hlt:x<ts.length:=by omega
    have hr:=hv.four x hlt
    by_cases hin:x ∈ old
    · obtain ⟨rows',k1,k2,k3⟩:=gU d (x+1) rows (by omega) (by omega) (by rw [kept,if_pos hin]; exact hs) (fun y c hy hyo hc=>hf y c (by
        by_cases e:y=x
        · subst e; exact (hyo hin).elim
        · omega) hyo hc)
      refine ⟨rows',k1,k2,fun R h=>?_⟩
      have:=k3 R h
      rw [kG hin] at this
      refine Aa.succ ?_
      simp only [Ae.l1]
      refine Aa.pos (by omega) (Aa.pos (by omega) (Aa.bind (Qv (by omega) x).two (Aa.pos (decide_eq_true hin) ?_)))
      rw [Be (by omega)]; exact this
    · obtain ⟨rows',k1,k2,k3⟩:=gU d (x+1) (rows++[ts.getD x []]) (by omega) (by omega) (by rw [kept,if_neg hin]; exact hs.app hr) (fun y c hy hyo hc=>by
        rw [Nj,hsl]
        by_cases e:y=x
        · subst e
          rw [if_neg (by omega),if_pos rfl]; rfl
        · rw [if_pos (Li (by omega) hyo)]; exact hf y c (by omega) hyo hc)
      refine ⟨rows',k1,k2,fun R h=>?_⟩
      have:=k3 R h
      rw [rC hlt hin] at this
      refine Aa.succ ?_
      simp only [Ae.l1,Int.toNat_natCast,bQ hr,Bw.f,Option.bind_some,hsl]
      refine Aa.pos (by omega) (Aa.pos (by omega) (Aa.bind (Qv (by omega) x).two (Aa.neg (by rw [decide_eq_true_eq]; exact hin) ?_)))
      refine Aa.pos (by rw [Om]; omega) (Aa.pos (by omega) ?_)
      rw [Be (by omega)]; exact this
theorem bR:∀ (d i:Nat) (rows:List (List Ab)),nf - i=d→i≤nf→Shape rows (kept old ts.length+i)→(∀ y c,y<ts.length→y ∉ old→c<4→Cg rows (kept old y) c=Cg ts y c)→(∀ j c,j<i→c<4→Cg rows (kept old ts.length+j) c=⟨-1,0⟩) →
    ∃ rows',Shape rows' (kept old ts.length+nf)∧(∀ y c,y<ts.length→y ∉ old→c<4→Cg rows' (kept old y) c=Cg ts y c)∧(∀ j c,j<nf→c<4→Cg rows' (kept old ts.length+j) c=⟨-1,0⟩)∧∀ R,Aa (fun K k=>Ae.Uo K k ts (ints old) m (nf:Int) inn (yL old ts.length ts.length) (kept old ts.length:Int) (ts.length:Int) rows' 0) R →
      Aa (fun K k=>Ae.Vz K k ts (ints old) m (nf:Int) inn (yL old ts.length ts.length) (kept old ts.length:Int) rows (i:Int)) R
  | 0,i,rows,hd,hi,hs,hf,hfn=>by
    obtain rfl:i=nf:=by omega
    refine ⟨rows,hs,hf,hfn,fun R h=>Aa.step (fun K k=>?_) h⟩
    rw [Ae.Vz,if_neg (by omega),Bw.f,Option.bind_some]
  | d+1,i,rows,hd,hi,hs,hf,hfn=>by
    have h8:=hv.le
    have hkn:=K9 old ts.length
    have hsl:=hs.len
    obtain ⟨rows',k1,k2,k3,k4⟩:=bR d (i+1) (rows++[Js]) (by omega) (by omega) (hs.app rfl) (fun y c hy hyo hc=>by
      have:=Li hy hyo
      rw [Nj,hsl,if_pos (by omega)]; exact hf y c hy hyo hc) (fun j c hj hc=>by
      rw [Nj,hsl]
      by_cases e:j=i
      · subst e
        rw [if_neg (by omega),if_pos rfl]; exact Pb hc
      · rw [if_pos (by omega)]; exact hfn j c (by omega) hc)
    refine ⟨rows',k1,k2,k3,fun R h=>?_⟩
    have:=k4 R h
    refine Aa.succ ?_
    simp only [Ae.Vz]
    refine Aa.pos (by omega) (Aa.bind (qY hs (by omega)).two ?_)
    rw [Be (by omega)]; exact this
end
theorem V6:∀ (l:List En) (m:List (Gq × Eg)) (x f:Nat),(∀ e e',e ∈ l→e' ∈ l→e.x=e'.x→e.f=e'.f→e=e') →
    (∀ e,e ∈ l→e.x=x→e.f=f→Jn ((l.map En.g).foldl J4 m) ⟨(x:Int),(f:Int)⟩=some ⟨(e.i:Int),(e.p:Int)⟩)∧((∀ e,e ∈ l→¬ (e.x=x∧e.f=f))→Jn ((l.map En.g).foldl J4 m) ⟨(x:Int),(f:Int)⟩=Jn m ⟨(x:Int),(f:Int)⟩)
  | [],m,x,f,_=>⟨fun e h=>(List.not_mem_nil h).elim,fun _=>rfl⟩
  | a::l,m,x,f,hk=>by
    obtain ⟨h1,h2⟩:=V6 l (J4 m a.g) x f (fun e e' h h'=>hk e e' (List.mem_cons_of_mem _ h) (List.mem_cons_of_mem _ h'))
    have hput:Jn (J4 m a.g) ⟨(x:Int),(f:Int)⟩=if x=a.x∧f=a.f then some ⟨(a.i:Int),(a.p:Int)⟩ else Jn m ⟨(x:Int),(f:Int)⟩:=by
      unfold J4 En.g
      rw [Mh]
      by_cases e:x=a.x∧f=a.f
      · rw [if_pos e,if_pos (by rw [e.1,e.2])]
      · rw [if_neg e,if_neg (fun q=>by
          injection q with q1 q2
          have q1:(x:Int)=(a.x:Int):=q1
          have q2:(f:Int)=(a.f:Int):=q2
          exact e ⟨by omega,by omega⟩)]
    refine ⟨fun e he hx hf=>?_,fun hn=>?_⟩
    · show Jn ((l.map En.g).foldl J4 (J4 m a.g)) _=_
      by_cases hin:∃ e',e' ∈ l∧e'.x=x∧e'.f=f
      · obtain ⟨e',k1,k2,k3⟩:=hin
        rw [h1 e' k1 k2 k3,hk e' e (List.mem_cons_of_mem _ k1) he (by omega) (by omega)]
      · rw [h2 (fun e' k1 k2=>hin ⟨e',k1,k2⟩),hput]
        rcases List.mem_cons.1 he with rfl | he
        · rw [if_pos ⟨hx.symm,hf.symm⟩]
        · exact (hin ⟨e,he,hx,hf⟩).elim
    · show Jn ((l.map En.g).foldl J4 (J4 m a.g)) _=_
      rw [h2 (fun e' k1=>hn e' (List.mem_cons_of_mem _ k1)),hput,if_neg (fun q=>hn a (List.mem_cons_self ..) ⟨q.1.symm,q.2.symm⟩)]
def Pi (ts:List (List Ab)) (old:List Nat) (es:List En) (x f r c:Nat):Prop :=
  ∃ x' f' p',(x<x'∨(x=x'∧f≤f'))∧x'<ts.length∧f'<4∧plc ts.length old es x' f'=some (r,p')∧c=PA p' f'∧¬ (Cg ts x' f').Tet<0
section
variable {ts:List (List Ab)} (hv:Val ts) {old:List Nat} {es:List En} {fr:List (List Ab)} {inn:List Gi} {nf:Nat} (hol:old.length≤10) (hn4:nf≤4) (hg:Chg ts old es nf)
include hv hol hn4 hg
theorem bF {x f r p:Nat} (hx:x<ts.length) (h:plc ts.length old es x f=some (r,p)):C9.f (x:Int) (f:Int) (ints old) ((es.map En.g).foldl J4 []) (nf:Int) inn (kept old ts.length:Int) (yL old ts.length ts.length)=some ((r:Int),(p:Int)):=by
  have h8:=hv.le
  have hkn:=K9 old ts.length
  obtain ⟨m1,m2⟩:=V6 es [] x f hg.key
  unfold C9.f
  simp only [Fs]
  rcases Kh hg h with ⟨a1,a2,a3⟩ | ⟨e,a1,a2,a3,a4,a5⟩
  · have hno:∀ e,e ∈ es→¬ (e.x=x∧e.f=f):=fun e he q=>a1 (by rw [← q.1]; exact (hg.en e he).1)
    rw [m2 hno]
    show (if false=true then _ else _)=_
    rw [if_neg (by decide),if_pos (by rw [Om]; omega),Int.toNat_natCast,Ra hx,if_pos ⟨hx,a1⟩,a2,a3]; rfl
  · have hi:=(hg.en e a1).2.2.1
    rw [m1 e a1 a2 a3]
    show (if true=true then some (w64 ((kept old ts.length:Int)+(e.i:Int)),(e.p:Int)) else _)=_
    rw [if_pos rfl,He (by omega) (by omega),a4,a5,show (kept old ts.length:Int)+(e.i:Int)=((kept old ts.length+e.i:Nat):Int) by omega]
theorem Rz {x:Nat} (hx:x<ts.length):∀ (d f:Nat) (L:List (List Ab)),4 - f=d→f≤4→Shape L (kept old ts.length+nf)→(∀ r c,r<kept old ts.length+nf→c<4→Ex ts old es fr r c (Cg L r c)∨Pi ts old es x f r c) →
    ∃ L',Shape L' (kept old ts.length+nf)∧(∀ r c,r<kept old ts.length+nf→c<4→Ex ts old es fr r c (Cg L' r c)∨Pi ts old es (x+1) 0 r c)∧∀ R,Aa (fun K k=>Ae.Uo K k ts (ints old) ((es.map En.g).foldl J4 []) (nf:Int) inn (yL old ts.length ts.length) (kept old ts.length:Int) (ts.length:Int) L' ((x+1:Nat):Int)) R →
      Aa (fun K k=>Ae.Tx K k ts (ints old) ((es.map En.g).foldl J4 []) (nf:Int) inn (yL old ts.length ts.length) (kept old ts.length:Int) (ts.length:Int) (x:Int) L (f:Int)) R
  | 0,f,L,hd,hf,hs,hL=>by
    have h8:=hv.le
    refine ⟨L,hs,fun r c hr hc=>(hL r c hr hc).imp id ?_,fun R h=>Aa.step (fun K k=>?_) h⟩
    · rintro ⟨x',f',p',h1,h2,h3,h4⟩
      exact ⟨x',f',p',by omega,h2,h3,h4⟩
    · rw [Ae.Tx,if_neg (by omega),Be (by omega)]
  | d+1,f,L,hd,hf,hs,hL=>by
    have h8:=hv.le
    have hkn:=K9 old ts.length
    have hf4:f<4:=by omega
    have hr4:=hv.four x hx
    -- skipping: nothing that is pending is lost
    have skip:((Cg ts x f).Tet<0∨plc ts.length old es x f=none)→∀ r c,r<kept old ts.length+nf→c<4→Ex ts old es fr r c (Cg L r c)∨Pi ts old es x (f+1) r c:=fun hn r c hr hc=>(hL r c hr hc).imp id (by
      rintro ⟨x',f',p',h1,h2,h3,h4,h5,h6⟩
      refine ⟨x',f',p',?_,h2,h3,h4,h5,h6⟩
      by_cases e:x=x'∧f=f'
      · obtain ⟨e1,e2⟩:=e
        subst e1; subst e2
        rcases hn with hn | hn
        · exact (h6 hn).elim
        · rw [hn] at h4; cases h4
      · omega)
    by_cases hn:(Cg ts x f).Tet<0
    · obtain ⟨L',k1,k2,k3⟩:=Rz hx d (f+1) L (by omega) (by omega) hs (skip (.inl hn))
      refine ⟨L',k1,k2,fun R h=>?_⟩
      have:=k3 R h
      refine Aa.succ ?_
      simp only [Ae.Tx,Int.toNat_natCast,Fs]
      refine Aa.pos (by omega) (Aa.pos (by omega) (Aa.pos (by omega) ?_))
      refine Aa.bind (a:=true) (Aa.congr (G:=fun _ _=>some true) (fun K k=>congrArg some (decide_eq_true hn)) (Aa.const _)) (Aa.pos rfl ?_)
      refine Aa.step (fun K k=>?_) this
      rw [Ae.Un,if_pos rfl,Be (by omega)]
    · have hb0:∀ (K:Nat),Bi.f ((ts.getD x []).getD f Bj).Tet ((ts.getD x []).getD f Bj).Perm=some false:=fun K=>congrArg some (decide_eq_false hn)
      -- the entry into the step,with the flag
      have enter:∀ (R:List (List Ab)) (fl:Bool),fl=decide (plc ts.length old es x f=none)→Aa (fun K k=>Ae.Un K k ts (ints old) ((es.map En.g).foldl J4 []) (nf:Int) inn (yL old ts.length ts.length) (kept old ts.length:Int) (ts.length:Int) (x:Int) L (f:Int) ((ts.getD x []).getD f Bj) fl) R →
          Aa (fun K k=>Ae.Tx K k ts (ints old) ((es.map En.g).foldl J4 []) (nf:Int) inn (yL old ts.length ts.length) (kept old ts.length:Int) (ts.length:Int) (x:Int) L (f:Int)) R:=fun R fl hfl h=>by
        refine Aa.succ ?_
        simp only [Ae.Tx,Int.toNat_natCast,Fs]
        refine Aa.pos (by omega) (Aa.pos (by omega) (Aa.pos (by omega) ?_))
        refine Aa.bind (a:=false) (Aa.congr (G:=fun _ _=>some false) (fun K k=>hb0 K) (Aa.const _)) (Aa.neg (by decide) ?_)
        refine Aa.bind (Qv (by omega) x).two ?_
        obtain ⟨m1,m2⟩:=V6 es [] x f hg.key
        by_cases hin:x ∈ old
        · refine Aa.pos (decide_eq_true hin) ?_
          cases hp:plc ts.length old es x f with
          | none =>
            rw [m2 (Yp hg hp).2]
            rw [hp] at hfl
            subst hfl
            exact h
          | some rp =>
            obtain ⟨r,p⟩:=rp
            rcases Kh hg hp with ⟨a1,_⟩ | ⟨e,a1,a2,a3,_⟩
            · exact (a1 hin).elim
            · rw [m1 e a1 a2 a3]
              rw [hp] at hfl
              subst hfl
              exact h
        · refine Aa.neg (by rw [decide_eq_true_eq]; exact hin) ?_
          rw [Nk hin] at hfl
          subst hfl
          exact h
      cases hp:plc ts.length old es x f with
      | none =>
        obtain ⟨L',k1,k2,k3⟩:=Rz hx d (f+1) L (by omega) (by omega) hs (skip (.inr hp))
        refine ⟨L',k1,k2,fun R h=>enter R true (by rw [hp]; rfl) ?_⟩
        refine Aa.step (fun K k=>?_) (k3 R h)
        rw [Ae.Un,if_pos rfl,Be (by omega)]
      | some rp =>
        obtain ⟨r,p⟩:=rp
        rcases Ep hv hx hf4 with ⟨c1,_⟩ | ⟨_,b,q,hb,hq,g2,hG⟩
        · exact (hn c1).elim
        obtain ⟨r',p',q1,q2,q3,q4,q5,q6,q7⟩:=partner hv hg hx hf4 hp hG
        obtain ⟨m1,m2,m3⟩:=PM3 q2 hq q3
        have hpf:=Ei q2 hf4
        have hsl:=hs.len
        have hsr:=hs.row r q4
        have g4:=Qy (p:=p) hf4
        rw [Int.toNat_natCast] at g4
        obtain ⟨L',k1,k2,k3⟩:=Rz hx d (f+1) (Qk L r (PA p f) ⟨(r':Int),(PM (PM (PI p) q) p':Nat)⟩) (by omega) (by omega) (J5 hs) (fun r2 c2 hr2 hc2=>by
          rw [Nl hs q4 hpf]
          by_cases e:r2=r∧c2=PA p f
          · rw [if_pos e]
            exact .inl (.inl ⟨x,f,p,hx,hf4,by rw [e.1]; exact hp,e.2,q6.symm⟩)
          · rw [if_neg e]
            refine (hL r2 c2 hr2 hc2).imp id ?_
            rintro ⟨x',f',p1,h1,h2,h3,h4,h5,h6⟩
            refine ⟨x',f',p1,?_,h2,h3,h4,h5,h6⟩
            by_cases e2:x=x'∧f=f'
            · obtain ⟨e3,e4⟩:=e2
              subst e3; subst e4
              rw [hp] at h4
              injection h4 with h4
              injection h4 with h4 h7
              subst h7
              exact (e ⟨h4.symm,h5⟩).elim
            · omega)
        refine ⟨L',k1,k2,fun R h=>enter R false (by rw [hp]; rfl) ?_⟩
        have:=k3 R h
        have g2':(ts.getD x []).getD f Bj=⟨b,q⟩:=g2
        rw [g2']
        refine Aa.succ ?_
        simp only [Ae.Un]
        refine Aa.neg (by decide) ?_
        refine Aa.Ew (a:=(r:Int)) (b:=(p:Int)) (Aa.congr (G:=fun _ _=>some ((r:Int),(p:Int))) (fun K k=>bF hv hol hn4 hg hx hp) (Aa.const _)) ?_
        refine Aa.bind (Ua (b:Int) hq hf4).two ?_
        refine Aa.Ew (a:=(r':Int)) (b:=(p':Int)) (Aa.congr (G:=fun _ _=>some ((r':Int),(p':Int))) (fun K k=>bF hv hol hn4 hg hb q1) (Aa.const _)) ?_
        refine Aa.D7 (Kz q2).two ?_
        refine Aa.pos (by omega) (Aa.pos (by omega) ?_)
        refine Aa.bind (Mj q2).two ?_
        refine Aa.bind (Nf (Im q2) hq).two ?_
        refine Aa.bind (Nf (Mv (Im q2) hq) q3).two ?_
        simp only [Int.toNat_natCast,g4]
        refine Aa.pos (by omega) ?_
        rw [Be (by omega)]
        exact this
theorem bO:∀ (d x:Nat) (L:List (List Ab)),ts.length - x=d→x≤ts.length→Shape L (kept old ts.length+nf)→(∀ r c,r<kept old ts.length+nf→c<4→Ex ts old es fr r c (Cg L r c)∨Pi ts old es x 0 r c) →
    ∃ L',Shape L' (kept old ts.length+nf)∧(∀ r c,r<kept old ts.length+nf→c<4→Ex ts old es fr r c (Cg L' r c))∧∀ R,Aa (fun K k=>Ae.Xg K k inn (kept old ts.length:Int) L' 0) R →
      Aa (fun K k=>Ae.Uo K k ts (ints old) ((es.map En.g).foldl J4 []) (nf:Int) inn (yL old ts.length ts.length) (kept old ts.length:Int) (ts.length:Int) L (x:Int)) R
  | 0,x,L,hd,hx,hs,hL=>by
    have h8:=hv.le
    refine ⟨L,hs,fun r c hr hc=>(hL r c hr hc).resolve_right ?_,fun R h=>Aa.step (fun K k=>?_) h⟩
    · rintro ⟨x',f',p',h1,h2,_⟩; omega
    · rw [Ae.Uo,if_neg (by omega)]
  | d+1,x,L,hd,hx,hs,hL=>by
    have h8:=hv.le
    obtain ⟨L1,a1,a2,a3⟩:=Rz (inn:=inn) hv hol hn4 hg (show x<ts.length by omega) 4 0 L (by omega) (by omega) hs hL
    obtain ⟨L',k1,k2,k3⟩:=bO d (x+1) L1 (by omega) (by omega) a1 a2
    refine ⟨L',k1,k2,fun R h=>Aa.step (fun K k=>?_) (a3 R (k3 R h))⟩
    rw [Ae.Uo,if_pos (by omega)]; rfl
end
def En.a (e:En):Gi:=⟨e.x,e.f,e.i,e.p⟩
structure Inn (fr:List (List Ab)) (W:List En) (nf:Nat):Prop where
  ok:∀ w,w ∈ W→w.x<nf∧w.f<4∧w.i<nf∧w.p<24∧Cg fr w.x w.f=⟨(w.i:Int),(w.p:Int)⟩∧Cg fr w.i (PA w.p w.f)=⟨(w.x:Int),(PI w.p:Int)⟩
  all:∀ i c,i<nf→c<4→0≤(Cg fr i c).Tet→∃ w,w ∈ W∧((w.x=i∧w.f=c)∨(w.i=i∧PA w.p w.f=c))
theorem En.yF {es:List En} {t:Nat} {e:En} (h:es[t]?=some e):(es.map En.a).getD t fM=e.a:=by rw [List.getD_eq_getElem?_getD,List.getElem?_map,h]; rfl
theorem Shape.ext {L L':List (List Ab)} {m:Nat} (h:Shape L m) (h':Shape L' m) (he:∀ r c,r<m→c<4→Cg L r c=Cg L' r c):L=L':=by
  have l1:=h.len
  have l2:=h'.len
  refine List.ext_getElem? fun r=>?_
  by_cases hr:r<m
  · rw [List.getElem?_eq_getElem (by omega),List.getElem?_eq_getElem (by omega)]
    congr 1
    have r1:=h.row r hr
    have r2:=h'.row r hr
    have e1:L.getD r []=L[r]:=by rw [List.getD_eq_getElem?_getD,List.getElem?_eq_getElem (by omega)]; rfl
    have e2:L'.getD r []=L'[r]:=by rw [List.getD_eq_getElem?_getD,List.getElem?_eq_getElem (by omega)]; rfl
    refine List.ext_getElem? fun c=>?_
    rw [e1] at r1
    rw [e2] at r2
    by_cases hc:c<4
    · have:=he r c hr hc
      unfold Cg at this
      rw [e1,e2,List.getD_eq_getElem?_getD,List.getD_eq_getElem?_getD,List.getElem?_eq_getElem (by omega),List.getElem?_eq_getElem (by omega)] at this
      rw [List.getElem?_eq_getElem (by omega),List.getElem?_eq_getElem (by omega)]
      exact congrArg some this
    · rw [List.getElem?_eq_none (by omega),List.getElem?_eq_none (by omega)]
  · rw [List.getElem?_eq_none (by omega),List.getElem?_eq_none (by omega)]
section
variable {ts:List (List Ab)} (hv:Val ts) {old:List Nat} {es:List En} {fr:List (List Ab)} {W:List En} {nf:Nat} (hol:old.length≤10) (hn4:nf≤4) (hg:Chg ts old es nf) (hw:Inn fr W nf) (hwl:W.length≤100)
include hv hol hn4 hg hw hwl
theorem dB:∀ (d j:Nat) (L:List (List Ab)),W.length - j=d→j≤W.length→Shape L (kept old ts.length+nf)→(∀ r c,r<kept old ts.length+nf→c<4→Ex ts old es fr r c (Cg L r c)∨∃ (t:Nat) (w:En),j≤t∧W[t]?=some w∧((r=kept old ts.length+w.x∧c=w.f)∨(r=kept old ts.length+w.i∧c=PA w.p w.f))) →
    ∃ L',Shape L' (kept old ts.length+nf)∧(∀ r c,r<kept old ts.length+nf→c<4→Ex ts old es fr r c (Cg L' r c))∧Aa (fun K k=>Ae.Xg K k (W.map En.a) (kept old ts.length:Int) L (j:Int)) L'
  | 0,j,L,hd,hj,hs,hx=>by
    refine ⟨L,hs,fun r c hr hc=>(hx r c hr hc).resolve_right ?_,Aa.of fun K k=>?_⟩
    · rintro ⟨t,w,h1,h2,_⟩
      have:=(En.get h2).1
      omega
    · rw [Ae.Xg,List.length_map,if_neg (by omega)]
  | d+1,j,L,hd,hj,hs,hx=>by
    have h8:=hv.le
    have hkn:=K9 old ts.length
    have hjl:j<W.length:=by omega
    have hej:W[j]?=some W[j]:=List.getElem?_eq_getElem hjl
    have hgt:=En.yF hej
    have hmem:W[j] ∈ W:=List.getElem_mem hjl
    generalize W[j]=w at hej hgt hmem
    obtain ⟨w1,w2,w3,w4,w5,w6⟩:=hw.ok w hmem
    have hpf:=Ei w4 w2
    have q4:kept old ts.length+w.x<kept old ts.length+nf:=by omega
    have q5:kept old ts.length+w.i<kept old ts.length+nf:=by omega
    have hs2:Shape (Qk (Qk L (kept old ts.length+w.x) w.f ⟨(kept old ts.length+w.i:Nat),(w.p:Int)⟩) (kept old ts.length+w.i) (PA w.p w.f) ⟨(kept old ts.length+w.x:Nat),(PI w.p:Nat)⟩) (kept old ts.length+nf):=J5 (J5 hs)
    obtain ⟨L',k1,k2,k3⟩:=dB d (j+1) _ (by omega) (by omega) hs2 (fun r c hr hc=>by
      rw [Nl (J5 hs) q5 hpf,Nl hs q4 w2]
      by_cases c1:r=kept old ts.length+w.i∧c=PA w.p w.f
      · rw [if_pos c1]
        refine .inl (.inr (.inl ⟨by omega,?_,?_⟩)) <;> rw [c1.1,c1.2,show kept old ts.length+w.i - kept old ts.length=w.i by omega,w6]
        · show 0≤(w.x:Int); omega
        · rw [show ((kept old ts.length+w.x:Nat):Int)=(kept old ts.length:Int)+(w.x:Int) by omega]
      · rw [if_neg c1]
        by_cases c2:r=kept old ts.length+w.x∧c=w.f
        · rw [if_pos c2]
          refine .inl (.inr (.inl ⟨by omega,?_,?_⟩)) <;> rw [c2.1,c2.2,show kept old ts.length+w.x - kept old ts.length=w.x by omega,w5]
          · show 0≤(w.i:Int); omega
          · rw [show ((kept old ts.length+w.i:Nat):Int)=(kept old ts.length:Int)+(w.i:Int) by omega]
        · rw [if_neg c2]
          refine (hx r c hr hc).imp id ?_
          rintro ⟨t,w',h1,h2,h3⟩
          refine ⟨t,w',?_,h2,h3⟩
          by_cases e1:t=j
          · subst e1
            rw [hej] at h2
            injection h2 with h2
            subst h2
            rcases h3 with h3 | h3
            · exact (c2 h3).elim
            · exact (c1 h3).elim
          · omega)
    refine ⟨L',k1,k2,?_⟩
    have v1:w64 ((kept old ts.length:Int)+(w.x:Int))=((kept old ts.length+w.x:Nat):Int):=by rw [He (by omega) (by omega)]; omega
    have v2:w64 ((kept old ts.length:Int)+(w.i:Int))=((kept old ts.length+w.i:Nat):Int):=by rw [He (by omega) (by omega)]; omega
    refine Aa.succ ?_
    simp only [Ae.Xg,List.length_map,Int.toNat_natCast,hgt,Fs,En.a,v1,v2]
    refine Aa.pos (by omega) (Aa.pos (by omega) ?_)
    refine Aa.bind (qZ hs q4 w2 q5 w4).two ?_
    refine Aa.pos (by rw [hs2.len,hs.len]) ?_
    rw [Be (by omega)]; exact k3
theorem dK:∃ L,Shape L (kept old ts.length+nf)∧(∀ r c,r<kept old ts.length+nf→c<4→Ex ts old es fr r c (Cg L r c))∧Ac (fun K=>Ae.f K ts (ints old) ((es.map En.g).foldl J4 []) (nf:Int) (W.map En.a)) L:=by
  have h8:=hv.le
  have hfr0:∀ i c,i<nf→c<4→(Cg (List.replicate nf Js) i c).Tet<0:=fun i c hi hc=>by
    unfold Cg
    rw [List.getD_eq_getElem?_getD (l:=List.replicate nf Js),List.getElem?_replicate,if_pos hi,Option.getD_some,Pb hc]; decide
  obtain ⟨R1,a1,a2,a3⟩:=gU (m:=(es.map En.g).foldl J4 []) (inn:=W.map En.a) hv hol hn4 ts.length 0 [] rfl (by omega) ⟨rfl,fun r hr=>by rw [kept] at hr; omega⟩ (fun y c hy=>by omega)
  obtain ⟨R2,b1,b2,b3,b4⟩:=bR (m:=(es.map En.g).foldl J4 []) (inn:=W.map En.a) hv hol hn4 nf 0 R1 rfl (by omega) a1 a2 (fun j c hj=>by omega)
  obtain ⟨R3,c1,c2,c3⟩:=bO (fr:=List.replicate nf Js) (inn:=W.map En.a) hv hol hn4 hg ts.length 0 R2 rfl (by omega) b1 (fun r c hr hc=>by
    by_cases hrk:r<kept old ts.length
    · obtain ⟨x,x1,x2,x3⟩:=Tk hrk
      subst x3
      have hpl:=Nk (n:=ts.length) (es:=es) (f:=c) x2
      rw [b2 x c x1 x2 hc]
      rcases Ep hv x1 hc with ⟨g1,g3⟩ | ⟨g1,_⟩
      · refine .inl (.inl ⟨x,c,0,x1,hc,hpl,(N9 hg hc).symm,?_⟩)
        unfold val
        rw [if_pos g1,g3]
      · exact .inr ⟨x,c,0,by omega,x1,hc,hpl,(N9 hg hc).symm,g1⟩
    · obtain ⟨i,hi⟩:∃ i,r=kept old ts.length+i:=⟨r - kept old ts.length,by omega⟩
      subst hi
      have hin:i<nf:=by omega
      rw [b3 i c hin hc]
      by_cases hex:∃ e,e ∈ es∧e.i=i∧PA e.p e.f=c
      · obtain ⟨e,z1,z2,z3⟩:=hex
        obtain ⟨eo,ef,ei,ep⟩:=hg.en e z1
        have hxn:=hg.Zz _ eo
        have hpl:=aK hg (n:=ts.length) z1
        by_cases g1:(Cg ts e.x e.f).Tet<0
        · refine .inl (.inl ⟨e.x,e.f,e.p,hxn,ef,by rw [hpl,z2],z3.symm,?_⟩)
          unfold val
          rw [if_pos g1]
        · exact .inr ⟨e.x,e.f,e.p,by omega,hxn,ef,by rw [hpl,z2],z3.symm,g1⟩
      · refine .inl (.inr (.inr ⟨by omega,?_,fun e he h=>hex ⟨e,he,by omega,h.2⟩,rfl⟩))
        rw [show kept old ts.length+i - kept old ts.length=i by omega]; exact hfr0 i c hin hc)
  obtain ⟨L,d1,d2,d3⟩:=dB hv hol hn4 hg hw hwl W.length 0 R3 rfl (by omega) c1 (fun r c hr hc=>by
    by_cases hin:kept old ts.length≤r∧0≤(Cg fr (r - kept old ts.length) c).Tet
    · obtain ⟨w,w1,w2⟩:=hw.all (r - kept old ts.length) c (by omega) hc hin.2
      obtain ⟨t,ht,h4⟩:=List.getElem_of_mem w1
      exact .inr ⟨t,w,Nat.zero_le _,by rw [List.getElem?_eq_getElem ht,h4],by omega⟩
    · left
      rcases c2 r c hr hc with h | ⟨h1,h2,h3⟩ | ⟨h1,h2,h3,h4⟩
      · exact .inl h
      · have:=hfr0 (r - kept old ts.length) c (by omega) hc
        omega
      · exact .inr (.inr ⟨h1,by omega,h3,h4⟩))
  refine ⟨L,d1,d2,Ac.pos (by omega) (Ac.pos (by omega) ?_)⟩
  have:=(a3 _ (b4 _ (c3 _ d3))).Hg
  rw [kY] at this
  rw [Int.toNat_natCast]
  exact this
theorem Y5 (hel:es.length≤100) (hfs:Shape fr nf) (hff:∀ i c,i<nf→c<4→(Cg fr i c).Tet<nf) (hfe:∀ e,e ∈ es→(Cg fr e.i (PA e.p e.f)).Tet<0) :
    ∃ L,Shape L (kept old ts.length+nf)∧(∀ r c,r<kept old ts.length+nf→c<4→Ex ts old es fr r c (Cg L r c))∧Ac (fun K=>Au.f K ts (ints old) fr (es.map En.g)) L∧Ac (fun K=>Ae.f K ts (ints old) ((es.map En.g).foldl J4 []) (nf:Int) (W.map En.a)) L:=by
  obtain ⟨L1,a1,a2,a3⟩:=dY hv hol hn4 hel hg hfs hff hfe
  obtain ⟨L2,b1,b2,b3⟩:=dK hv hol hn4 hg hw hwl
  have e:L1=L2:=a1.ext b1 fun r c hr hc=>Ex.det hg hfe (a2 r c hr hc) (b2 r c hr hc)
  rw [← e] at b3
  exact ⟨L1,a1,a2,a3,b3⟩
end
structure Sch (S:List En) (k nf:Nat):Prop where
  en:∀ e,e ∈ S→e.x<k∧e.f<4∧e.i<nf∧e.p<24
  key:∀ e,e ∈ S→∀ e',e' ∈ S→e.x=e'.x→e.f=e'.f→e=e'
  pos:∀ e,e ∈ S→∀ e',e' ∈ S→e.i=e'.i→PA e.p e.f=PA e'.p e'.f→e=e'
def Q9 (T:Nat→Nat) (S:List En):List En:=S.map fun e=>⟨T e.x,e.f,e.i,e.p⟩
theorem X8 {l:List Nat} {y:Nat} (hy:y ∉ l):∀ n,kept (l++[y]) n+(if y<n then 1 else 0)=kept l n
  | 0=>rfl
  | n+1=>by
    have ih:=X8 hy n
    have hm:n ∈ l++[y]↔n ∈ l∨n=y:=by rw [List.mem_append,List.mem_singleton]
    rw [kept,kept]
    by_cases e:n=y
    · subst e
      rw [if_pos (hm.2 (.inr rfl)),if_neg hy,if_pos (by omega)]
      rw [if_neg (by omega)] at ih
      omega
    · by_cases h:n ∈ l
      · rw [if_pos (hm.2 (.inl h)),if_pos h]
        by_cases h2:y<n
        · rw [if_pos h2] at ih; rw [if_pos (by omega)]; omega
        · rw [if_neg h2] at ih; rw [if_neg (by omega)]; omega
      · rw [if_neg (fun q=>(hm.1 q).elim h e),if_neg h]
        by_cases h2:y<n
        · rw [if_pos h2] at ih; rw [if_pos (by omega)]; omega
        · rw [if_neg h2] at ih; rw [if_neg (by omega)]; omega
theorem U9:∀ n,kept [] n=n
  | 0=>rfl
  | n+1=>by rw [kept,U9 n,if_neg (by simp)]
theorem Yj {T:Nat→Nat} {n:Nat}:∀ k,(∀ s s',s<k→s'<k→T s=T s'→s=s')→(∀ s,s<k→T s<n)→kept ((List.range k).map T) n+k=n
  | 0,_,_=>by
    show kept [] n+0=n
    rw [U9]; rfl
  | k+1,h1,h2=>by
    have ih:=Yj k (fun s s' a b=>h1 s s' (by omega) (by omega)) (fun s a=>h2 s (by omega))
    have:=X8 (l:=(List.range k).map T) (y:=T k) (fun q=>by
      obtain ⟨s,a,b⟩:=List.mem_map.1 q
      have a:=List.mem_range.1 a
      have:=h1 s k (by omega) (by omega) b
      omega) n
    rw [if_pos (h2 k (by omega))] at this
    rw [List.range_succ,List.map_append]
    show kept ((List.range k).map T++[T k]) n+(k+1)=n
    omega
theorem Sch.chg {ts:List (List Ab)} {S:List En} {k nf:Nat} (h:Sch S k nf) {T:Nat→Nat} (hT:∀ s s',s<k→s'<k→T s=T s'→s=s') (hlt:∀ s,s<k→T s<ts.length)
    (hinn:∀ s f,s<k→f<4→(∀ e,e ∈ S→¬ (e.x=s∧e.f=f))→∃ b q,Kt ts (T s) f b q∧∃ s',s'<k∧b=T s'∧∀ e,e ∈ S→¬ (e.x=s'∧e.f=PA q f)):Chg ts ((List.range k).map T) (Q9 T S) nf∧kept ((List.range k).map T) ts.length+k=ts.length:=by
  refine ⟨?_,Yj k hT hlt⟩
  have mem:∀ e,e ∈ Q9 T S→∃ e0,e0 ∈ S∧e=⟨T e0.x,e0.f,e0.i,e0.p⟩:=fun e he=>by
    obtain ⟨e0,h1,h2⟩:=List.mem_map.1 he
    exact ⟨e0,h1,h2.symm⟩
  refine ⟨fun x hx=>?_,fun e he=>?_,fun e e' he he' hx hf=>?_,fun e e' he he' hi hp=>?_,fun x f hx hf hno=>?_⟩
  · obtain ⟨s,h1,h2⟩:=List.mem_map.1 hx
    rw [← h2]; exact hlt s (List.mem_range.1 h1)
  · obtain ⟨e0,h1,rfl⟩:=mem e he
    obtain ⟨a,b⟩:=h.en e0 h1
    exact ⟨List.mem_map.2 ⟨e0.x,List.mem_range.2 a,rfl⟩,b⟩
  · obtain ⟨e0,h1,rfl⟩:=mem e he
    obtain ⟨e1,h2,rfl⟩:=mem e' he'
    rw [h.key e0 h1 e1 h2 (hT _ _ (h.en e0 h1).1 (h.en e1 h2).1 hx) hf]
  · obtain ⟨e0,h1,rfl⟩:=mem e he
    obtain ⟨e1,h2,rfl⟩:=mem e' he'
    rw [h.pos e0 h1 e1 h2 hi hp]
  · obtain ⟨s,h1,rfl⟩:=List.mem_map.1 hx
    have hs:=List.mem_range.1 h1
    obtain ⟨b,q,g,s',k1,k2,k3⟩:=hinn s f hs hf (fun e he q=>hno ⟨T e.x,e.f,e.i,e.p⟩ (List.mem_map.2 ⟨e,he,rfl⟩) ⟨by rw [← q.1],q.2⟩)
    refine ⟨b,q,g,by rw [k2]; exact List.mem_map.2 ⟨s',List.mem_range.2 k1,rfl⟩,fun e he q'=>?_⟩
    obtain ⟨e0,h3,rfl⟩:=mem e he
    exact k3 e0 h3 ⟨hT _ _ (h.en e0 h3).1 k1 (q'.1.trans k2),q'.2⟩
theorem Inn.of {fr:List (List Ab)} {W:List En} {nf:Nat} (h1:∀ w,w ∈ W→w.x<nf∧w.f<4∧w.i<nf∧w.p<24∧Cg fr w.x w.f=⟨(w.i:Int),(w.p:Int)⟩∧Cg fr w.i (PA w.p w.f)=⟨(w.x:Int),(PI w.p:Int)⟩)
    (h2:∀ i,i<nf→∀ c,c<4→0≤(Cg fr i c).Tet→(W.any fun w=>decide ((w.x=i∧w.f=c)∨(w.i=i∧PA w.p w.f=c)))=true):Inn fr W nf :=
  ⟨h1,fun i c hi hc h=>by
    obtain ⟨w,a,b⟩:=List.any_eq_true.1 (h2 i hi c hc h)
    exact ⟨w,a,of_decide_eq_true b⟩⟩
def S23 (A q:Nat):List En:=(List.range 3).flatMap fun i =>
  [⟨0,(OT [A]).getD i 0,i,MP [A,(OT [A]).getD ((i+1) % 3) 0,(OT [A]).getD ((i+2) % 3) 0,(OT [A]).getD i 0] [0,2,3,1]⟩,
   ⟨1,PA q ((OT [A]).getD i 0),i,MP [PA q A,PA q ((OT [A]).getD ((i+1) % 3) 0),PA q ((OT [A]).getD ((i+2) % 3) 0),PA q ((OT [A]).getD i 0)] [1,2,3,0]⟩]
def W23:List En:=[⟨0,2,1,1⟩,⟨1,2,2,1⟩,⟨2,2,0,1⟩]
theorem lZ:∀ A,A<4→∀ q,q<24→∀ e,e ∈ S23 A q→e.x<2∧e.f<4∧e.i<3∧e.p<24:=by decide +kernel
theorem nK:∀ A,A<4→∀ q,q<24→∀ e,e ∈ S23 A q→∀ e',e' ∈ S23 A q→e.x=e'.x→e.f=e'.f→e=e':=by decide +kernel
theorem jW:∀ A,A<4→∀ q,q<24→∀ e,e ∈ S23 A q→∀ e',e' ∈ S23 A q→e.i=e'.i→PA e.p e.f=PA e'.p e'.f→e=e':=by decide +kernel
theorem kS:∀ A,A<4→∀ q,q<24→∀ t,t<8→((S23 A q).any fun e=>decide (e.x=t / 4∧e.f=t % 4))=true∨t=A∨t=4+PA q A:=by decide +kernel
theorem nD:∀ A,A<4→∀ q,q<24→∀ e,e ∈ S23 A q→¬ (e.x=1∧e.f=PA q A):=by decide +kernel
theorem kP:∀ A,A<4→∀ q,q<24→∀ e,e ∈ S23 A q→¬ (e.x=0∧e.f=A):=by decide +kernel
theorem kE:∀ A,A<4→∀ q,q<24→∀ e,e ∈ S23 A q→(Cg Y6 e.i (PA e.p e.f)).Tet<0:=by decide +kernel
theorem kI:Shape Y6 3:=⟨rfl,fun r hr=>by
  rcases (by omega:r=0∨r=1∨r=2) with rfl | rfl | rfl <;> rfl⟩
theorem xS:∀ i,i<3→∀ c,c<4→(Cg Y6 i c).Tet<3:=by decide +kernel
theorem uM:Inn Y6 W23 3:=Inn.of (fun w hw=>by
  simp only [W23,List.mem_cons,List.not_mem_nil,or_false] at hw
  rcases hw with rfl | rfl | rfl <;> exact ⟨by decide,by decide,by decide,by decide,by kernel_rfl,by kernel_rfl⟩) (by decide +kernel)
def T2 (a b s:Nat):Nat:=if s=0 then a else b
theorem vW {ts:List (List Ab)} (hv:Val ts) {a b A q:Nat} (ha:a<ts.length) (hA:A<4) (hG:Kt ts a A b q) (hab:b≠a):Chg ts ((List.range 2).map (T2 a b)) (Q9 (T2 a b) (S23 A q)) 3∧kept ((List.range 2).map (T2 a b)) ts.length+2=ts.length:=by
  have t1:=lZ A hA q hG.2.1
  have t2:=nK A hA q hG.2.1
  have t3:=jW A hA q hG.2.1
  have t4:=kS A hA q hG.2.1
  have t5:=nD A hA q hG.2.1
  have t6:=kP A hA q hG.2.1
  refine Sch.chg ⟨t1,t2,t3⟩ (fun s s' hs hs' h=>?_) (fun s hs=>?_) (fun s f hs hf hno=>?_)
  · rcases (by omega:s=0∨s=1) with rfl | rfl <;> rcases (by omega:s'=0∨s'=1) with rfl | rfl
    · rfl
    · exact (hab h.symm).elim
    · exact (hab h).elim
    · rfl
  · rcases (by omega:s=0∨s=1) with rfl | rfl
    · exact ha
    · exact hG.1
  · have t4:(s=0∧f=A)∨(s=1∧f=PA q A):=by
      have hqA:=Ei hG.2.1 hA
      rcases t4 (4 * s+f) (by omega) with h | h | h
      · obtain ⟨e,a,b⟩:=List.any_eq_true.1 h
        have b:=of_decide_eq_true b
        exact (hno e a ⟨by omega,by omega⟩).elim
      · exact .inl (by omega)
      · exact .inr (by omega)
    rcases t4 with ⟨rfl,rfl⟩ | ⟨rfl,rfl⟩
    · exact ⟨b,q,hG,1,by omega,rfl,t5⟩
    · refine ⟨a,PI q,⟨ha,Im hG.2.1,hG.2.2.2.1,?_,?_⟩,0,by omega,rfl,?_⟩
      · rw [K8 hG.2.1 hA,Vl hG.2.1]; exact hG.2.2.1
      · rw [K8 hG.2.1 hA]; exact fun h=>hab h.1.symm
      · rw [K8 hG.2.1 hA]; exact t6
def S14:List En:=[⟨0,0,0,0⟩,⟨0,1,1,0⟩,⟨0,2,2,0⟩,⟨0,3,3,0⟩]
def W14:List En:=[⟨1,0,0,6⟩,⟨2,0,0,14⟩,⟨2,1,1,2⟩,⟨3,0,0,21⟩,⟨3,1,1,5⟩,⟨3,2,2,1⟩]
theorem kV:∀ e,e ∈ S14→e.x<1∧e.f<4∧e.i<4∧e.p<24:=by decide +kernel
theorem nP:∀ e,e ∈ S14→∀ e',e' ∈ S14→e.x=e'.x→e.f=e'.f→e=e':=by decide +kernel
theorem kL:∀ e,e ∈ S14→∀ e',e' ∈ S14→e.i=e'.i→PA e.p e.f=PA e'.p e'.f→e=e':=by decide +kernel
theorem lC:∀ s,s<1→∀ f,f<4→¬ (∀ e,e ∈ S14→¬ (e.x=s∧e.f=f)):=by decide +kernel
theorem mM:∀ e,e ∈ S14→(Cg aI e.i (PA e.p e.f)).Tet<0:=by decide +kernel
theorem mU:Shape aI 4:=⟨rfl,fun r hr=>by
  rcases (by omega:r=0∨r=1∨r=2∨r=3) with rfl | rfl | rfl | rfl <;> rfl⟩
theorem xW:∀ i,i<4→∀ c,c<4→(Cg aI i c).Tet<4:=by decide +kernel
theorem wC:Inn aI W14 4:=Inn.of (fun w hw=>by
  simp only [W14,List.mem_cons,List.not_mem_nil,or_false] at hw
  rcases hw with rfl | rfl | rfl | rfl | rfl | rfl <;> exact ⟨by decide,by decide,by decide,by decide,by kernel_rfl,by kernel_rfl⟩) (by decide +kernel)
theorem uP {ts:List (List Ab)} {a:Nat} (ha:a<ts.length):Chg ts ((List.range 1).map fun _=>a) (Q9 (fun _=>a) S14) 4∧kept ((List.range 1).map fun _=>a) ts.length+1=ts.length:=by
  exact Sch.chg ⟨kV,nP,kL⟩ (fun s s' hs hs' h=>by omega) (fun s hs=>ha) (fun s f hs hf hno=>(lC s hs f hf hno).elim)
def S32 (P:Nat→Nat):List En:=(List.range 3).flatMap fun s=>[⟨s,PA (P s) 1,0,X32 s (P s)⟩,⟨s,PA (P s) 0,1,Y32 s (P s)⟩]
theorem Yn {s p:Nat} (hs:s<3) (hp:p<24):X32 s p<24∧PA (X32 s p) (PA p 1)=1+(s+2) % 3∧Y32 s p<24∧PA (Y32 s p) (PA p 0)=1+(s+2) % 3:=by
  have:∀ s,s<3→∀ p,p<24→X32 s p<24∧PA (X32 s p) (PA p 1)=1+(s+2) % 3∧Y32 s p<24∧PA (Y32 s p) (PA p 0)=1+(s+2) % 3:=by decide +kernel
  exact this s hs p hp
theorem Ny {P:Nat→Nat} {e:En} (h:e ∈ S32 P):∃ s,s<3∧(e=⟨s,PA (P s) 1,0,X32 s (P s)⟩∨e=⟨s,PA (P s) 0,1,Y32 s (P s)⟩):=by
  obtain ⟨s,h1,h2⟩:=List.mem_flatMap.1 h
  refine ⟨s,List.mem_range.1 h1,?_⟩
  simpa using h2
theorem nG {P:Nat→Nat} {s:Nat} (hs:s<3):(⟨s,PA (P s) 1,0,X32 s (P s)⟩:En) ∈ S32 P∧(⟨s,PA (P s) 0,1,Y32 s (P s)⟩:En) ∈ S32 P :=
  ⟨List.mem_flatMap.2 ⟨s,List.mem_range.2 hs,by simp⟩,List.mem_flatMap.2 ⟨s,List.mem_range.2 hs,by simp⟩⟩
theorem xQ {P:Nat→Nat} (hP:∀ s,s<3→P s<24):Sch (S32 P) 3 2:=by
  refine ⟨fun e he=>?_,fun e he e' he' hx hf=>?_,fun e he e' he' hi hp=>?_⟩
  · obtain ⟨s,hs,rfl | rfl⟩:=Ny he
    · exact ⟨hs,Ei (hP s hs) (by omega),by show 0<2; omega,(Yn hs (hP s hs)).1⟩
    · exact ⟨hs,Ei (hP s hs) (by omega),by show 1<2; omega,(Yn hs (hP s hs)).2.2.1⟩
  · obtain ⟨s,hs,rfl | rfl⟩:=Ny he <;> obtain ⟨s',hs',rfl | rfl⟩:=Ny he'
    · have hx:s=s':=hx
      subst hx; rfl
    · have hx:s=s':=hx
      subst hx
      exact (Ju (hP s hs) (show 1<4 by omega) (show 0<4 by omega) (by omega) hf).elim
    · have hx:s=s':=hx
      subst hx
      exact (Ju (hP s hs) (show 0<4 by omega) (show 1<4 by omega) (by omega) hf).elim
    · have hx:s=s':=hx
      subst hx; rfl
  · obtain ⟨s,hs,rfl | rfl⟩:=Ny he <;> obtain ⟨s',hs',rfl | rfl⟩:=Ny he'
    · have h1:=(Yn hs (hP s hs)).2.1
      have h2:=(Yn hs' (hP s' hs')).2.1
      have hp:PA (X32 s (P s)) (PA (P s) 1)=PA (X32 s' (P s')) (PA (P s') 1):=hp
      obtain rfl:s=s':=by omega
      rfl
    · have hi:(0:Nat)=1:=hi
      omega
    · have hi:(1:Nat)=0:=hi
      omega
    · have h1:=(Yn hs (hP s hs)).2.2.2
      have h2:=(Yn hs' (hP s' hs')).2.2.2
      have hp:PA (Y32 s (P s)) (PA (P s) 0)=PA (Y32 s' (P s')) (PA (P s') 0):=hp
      obtain rfl:s=s':=by omega
      rfl
theorem bE {P:Nat→Nat} {s f:Nat} (h1:f≠PA (P s) 1) (h0:f≠PA (P s) 0):∀ e,e ∈ S32 P→¬ (e.x=s∧e.f=f):=fun e he h=>by
  obtain ⟨s',hs',rfl | rfl⟩:=Ny he
  · obtain ⟨a,b⟩:=h
    have a:s'=s:=a
    subst a
    exact h1 b.symm
  · obtain ⟨a,b⟩:=h
    have a:s'=s:=a
    subst a
    exact h0 b.symm
theorem Kt.rev {ts:List (List Ab)} {a f b q:Nat} (ha:a<ts.length) (hf:f<4) (h:Kt ts a f b q):Kt ts b (PA q f) a (PI q):=by
  refine ⟨ha,Im h.2.1,h.2.2.2.1,?_,?_⟩
  · rw [K8 h.2.1 hf,Vl h.2.1]; exact h.2.2.1
  · rw [K8 h.2.1 hf]; exact fun q=>h.2.2.2.2 ⟨q.1.symm,q.2.symm⟩
theorem vR {ts:List (List Ab)} (hv:Val ts) {T P:Nat→Nat} (hlt:∀ s,s<3→T s<ts.length) (hP:∀ s,s<3→P s<24) (hT:∀ s s',s<3→s'<3→T s=T s'→s=s') (hn:∀ s,s<3→nx ts (T s,P s)=some (T ((s+1) % 3),P ((s+1) % 3))) :
    Chg ts ((List.range 3).map T) (Q9 T (S32 P)) 2∧kept ((List.range 3).map T) ts.length+3=ts.length:=by
  have step:∀ s,s<3→∃ q,Kt ts (T s) (PA (P s) 2) (T ((s+1) % 3)) q∧PA q (PA (P s) 2)=PA (P ((s+1) % 3)) 3:=fun s hs=>by
    rcases Nq hv (hlt s hs) (hP s hs) with ⟨g1,g2⟩ | ⟨g1,b,q,hb,hq,g2,g3,g4⟩
    · rw [hn s hs] at g2; cases g2
    · rw [hn s hs] at g4
      injection g4 with g4
      injection g4 with g5 g6
      refine ⟨q,by rw [g5]; exact g3,?_⟩
      rw [g6,(bS (hP s hs) hq).2.2.2.2]
  refine (xQ hP).chg hT hlt fun s f hs hf hno=>?_
  have hp:=hP s hs
  obtain ⟨m1,m2⟩:=nG (P:=P) hs
  have n1:f≠PA (P s) 1:=fun e=>hno _ m1 ⟨rfl,e.symm⟩
  have n0:f≠PA (P s) 0:=fun e=>hno _ m2 ⟨rfl,e.symm⟩
  have b0:PA (P s) 0<4:=Ei hp (by omega)
  have b1:PA (P s) 1<4:=Ei hp (by omega)
  have b2:PA (P s) 2<4:=Ei hp (by omega)
  have b3:PA (P s) 3<4:=Ei hp (by omega)
  have d01:=Ju hp (show 0<4 by omega) (show 1<4 by omega) (by omega)
  have d02:=Ju hp (show 0<4 by omega) (show 2<4 by omega) (by omega)
  have d03:=Ju hp (show 0<4 by omega) (show 3<4 by omega) (by omega)
  have d12:=Ju hp (show 1<4 by omega) (show 2<4 by omega) (by omega)
  have d13:=Ju hp (show 1<4 by omega) (show 3<4 by omega) (by omega)
  have d23:=Ju hp (show 2<4 by omega) (show 3<4 by omega) (by omega)
  have hf23:f=PA (P s) 2∨f=PA (P s) 3:=by omega
  rcases hf23 with rfl | rfl
  · obtain ⟨q,hG,hq3⟩:=step s hs
    refine ⟨_,q,hG,(s+1) % 3,by omega,rfl,?_⟩
    rw [hq3]
    have hp1:=hP ((s+1) % 3) (by omega)
    exact bE (Ju hp1 (by omega) (by omega) (by omega)) (Ju hp1 (by omega) (by omega) (by omega))
  · obtain ⟨q,hG,hq3⟩:=step ((s+2) % 3) (by omega)
    have es:((s+2) % 3+1) % 3=s:=by omega
    rw [es] at hG hq3
    have hp1:=hP ((s+2) % 3) (by omega)
    have hG':=hG.rev (hlt _ (by omega)) (Ei hp1 (by omega))
    rw [hq3] at hG'
    refine ⟨_,PI q,hG',(s+2) % 3,by omega,rfl,?_⟩
    rw [← hq3,K8 hG.2.1 (Ei hp1 (by omega))]
    exact bE (Ju hp1 (by omega) (by omega) (by omega)) (Ju hp1 (by omega) (by omega) (by omega))
def W32:List En:=[⟨0,0,1,0⟩]
theorem kT:Shape Wd 2:=⟨rfl,fun r hr=>by
  rcases (by omega:r=0∨r=1) with rfl | rfl <;> rfl⟩
theorem xZ:∀ i,i<2→∀ c,c<4→(Cg Wd i c).Tet<2:=by decide +kernel
theorem vI:∀ i,i<2→∀ c,c<3→(Cg Wd i (1+c)).Tet<0:=by decide +kernel
theorem xE:Inn Wd W32 2:=Inn.of (fun w hw=>by
  simp only [W32,List.mem_cons,List.not_mem_nil,or_false] at hw
  subst hw
  exact ⟨by decide,by decide,by decide,by decide,by kernel_rfl,by kernel_rfl⟩) (by decide +kernel)
def S41 (P:Nat→Nat):List En:=(List.range 4).map fun s=>⟨s,PA (PI (P s)) s,0,P s⟩
theorem Nv {P:Nat→Nat} {e:En} (h:e ∈ S41 P):∃ s,s<4∧e=⟨s,PA (PI (P s)) s,0,P s⟩:=by
  obtain ⟨s,h1,h2⟩:=List.mem_map.1 h
  exact ⟨s,List.mem_range.1 h1,h2.symm⟩
theorem sZ {s y:Nat} (hs:s<4) (hy:y<4) (h:s≠y):PA (EXC s y) y=s:=by
  have:∀ s,s<4→∀ y,y<4→s≠y→PA (EXC s y) y=s:=by decide +kernel
  exact this s hs y hy h
theorem xD {ts:List (List Ab)} (hv:Val ts) {T P:Nat→Nat} (hlt:∀ s,s<4→T s<ts.length) (hP:∀ s,s<4→P s<24) (hok:(Kq 4 fun x=>Kq 4 (okB ts T P x))=true):Chg ts ((List.range 4).map T) (Q9 T (S41 P)) 1∧kept ((List.range 4).map T) ts.length+4=ts.length:=by
  have ok:∀ s y,s<4→y<4→s≠y→(Cg ts (T s) (PA (PI (P s)) y)).Tet=(T y:Int)∧T s≠T y∧PM (PM (PI (P s)) (Cg ts (T s) (PA (PI (P s)) y)).Perm.toNat) (P y)=EXC s y:=fun s y hs hy h=>by
    have:=O1 (O1 hok hs) hy
    exact (of_decide_eq_true this).resolve_left h
  refine Sch.chg ⟨fun e he=>?_,fun e he e' he' hx hf=>?_,fun e he e' he' hi hp=>?_⟩ (fun s s' hs hs' h=>?_) hlt fun s f hs hf hno=>?_
  · obtain ⟨s,hs,rfl⟩:=Nv he
    exact ⟨hs,Ei (Im (hP s hs)) hs,by show 0<1; omega,hP s hs⟩
  · obtain ⟨s,hs,rfl⟩:=Nv he
    obtain ⟨s',hs',rfl⟩:=Nv he'
    have hx:s=s':=hx
    subst hx; rfl
  · obtain ⟨s,hs,rfl⟩:=Nv he
    obtain ⟨s',hs',rfl⟩:=Nv he'
    have hp:PA (P s) (PA (PI (P s)) s)=PA (P s') (PA (PI (P s')) s'):=hp
    rw [Xr (hP s hs) hs,Xr (hP s' hs') hs'] at hp
    subst hp; rfl
  · by_cases e:s=s'
    · exact e
    · exact ((ok s s' hs hs' e).2.1 h).elim
  · have hp:=hP s hs
    have hy:=Ei hp hf
    have hfy:PA (PI (P s)) (PA (P s) f)=f:=K8 hp hf
    have hne:s≠PA (P s) f:=fun e=>hno ⟨s,PA (PI (P s)) s,0,P s⟩ (List.mem_map.2 ⟨s,List.mem_range.2 hs,rfl⟩) ⟨rfl,by
      show PA (PI (P s)) s=f
      rw [← hfy,← e]⟩
    obtain ⟨o1,o2,o3⟩:=ok s (PA (P s) f) hs hy hne
    rw [hfy] at o1 o3
    have hpy:=hP _ hy
    rcases Ep hv (hlt s hs) hf with ⟨c1,_⟩ | ⟨_,b,q,hb,hq,c2,hG⟩
    · omega
    · rw [c2] at o1 o3
      have o1:(b:Int)=(T (PA (P s) f):Int):=o1
      have o3:PM (PM (PI (P s)) q) (P (PA (P s) f))=EXC s (PA (P s) f):=by simpa using o3
      refine ⟨b,q,hG,PA (P s) f,hy,by omega,fun e he h=>?_⟩
      obtain ⟨s',hs',rfl⟩:=Nv he
      obtain ⟨h1,h2⟩:=h
      have h1:s'=PA (P s) f:=h1
      subst h1
      have h2:PA (PI (P (PA (P s) f))) (PA (P s) f)=PA q f:=h2
      have key:=(PM3 hp hq hpy).2.1 f hf
      rw [o3,sZ hs hy hne,← h2,Xr hpy hy] at key
      exact hne key
theorem lK:Shape [Js] 1:=⟨rfl,fun r hr=>by
  obtain rfl:r=0:=by omega
  rfl⟩
theorem rP:∀ i,i<1→∀ c,c<4→(Cg [Js] i c).Tet<0:=by decide +kernel
theorem xM:Inn [Js] [] 1:=⟨fun w hw=>(List.not_mem_nil hw).elim,fun i c hi hc h=>by have:=rP i hi c hc; omega⟩
theorem Ac.uniq {α:Type} {F:Nat→Option α} {a b:α} (h:Ac F a) (g:Ac F b):a=b:=by
  obtain ⟨n,hn⟩:=h
  obtain ⟨m,hm⟩:=g
  have h1:=hn (n+m) (by omega)
  rw [hm (n+m) (by omega)] at h1
  exact (Option.some.inj h1).symm
def T3 (a b c s:Nat):Nat:=if s=0 then a else if s=1 then b else c
theorem three {p:Nat→Prop} (h0:p 0) (h1:p 1) (h2:p 2):∀ s,s<3→p s
  | 0,_=>h0 | 1,_=>h1 | 2,_=>h2 | n+3,h=>absurd h (by omega)
section
variable {ts:List (List Ab)} (hv:Val ts) (hT:Ac (fun K=>Aj.f K ts) true)
include hv hT
theorem kQ {kind:Int} {a A:Nat} (ha:a<ts.length) (hA:(A:Int)<most kind) {c:List Int × List (Gq × Eg) × Int × List Gi} {o:List Int} {f:List (List Ab)} {u:List Av}
    (h1:Ac (fun K=>Ee.f K ts kind (a:Int) (A:Int)) (some c)) (h2:Ac (fun K=>Ig.f K ts kind (a:Int) (A:Int)) (o,f,u,true)) :
    ∃ old es fr W nf,(Chg ts old es nf∧kept old ts.length+old.length=ts.length)∧Inn fr W nf∧old.length≤10∧nf≤4∧es.length≤100∧W.length≤100∧Shape fr nf∧(∀ i c,i<nf→c<4→(Cg fr i c).Tet<nf)∧(∀ e,e ∈ es→(Cg fr e.i (PA e.p e.f)).Tet<0) ∧
      o=ints old∧f=fr∧u=es.map En.g∧c=(ints old,(es.map En.g).foldl J4 [],(nf:Int),W.map En.a)∧(∀ w,w ∈ W→w.x≠w.i)∧(kind=4∨kind=2→nf<old.length):=by
  unfold most at hA
  by_cases k1:kind=1
  · rw [if_pos (.inl k1)] at hA
    rcases oZ hv ha (show A<4 by omega) with ⟨c1,c2⟩ | ⟨b,q,hb,hq,hf,hab,c1,c2⟩
    · have:=h1.uniq (Ac.pos k1 (Ac.bind c1 (Ac.const _)))
      cases this
    · have e1:=h1.uniq (Ac.pos k1 (Ac.bind c1 (Ac.const _)))
      have e2:=h2.uniq (Ac.pos k1 (Ac.D7 c2 (Ac.const _)))
      injection e1 with e1
      injection e2 with e2 e3
      injection e3 with e3 e4
      injection e4 with e4 _
      have hG:Kt ts a A b q:=by
        rcases Ep hv ha (show A<4 by omega) with ⟨g1,_⟩ | ⟨_,b',q',_,_,g2,g3⟩
        · rw [hf] at g1
          have g1:(b:Int)<0:=g1
          omega
        · rw [hf] at g2
          injection g2 with g2 g4
          have g2:b=b':=by omega
          have g4:q=q':=by omega
          rw [g2,g4]; exact g3
      refine ⟨(List.range 2).map (T2 a b),Q9 (T2 a b) (S23 A q),Y6,W23,3,vW hv ha (by omega) hG hab,uM,by simp,by omega,?_,by decide,kI,fun i c hi hc=>xS i hi c hc,fun e he=>?_,e2,e3,e4,e1,by decide,fun h=>by omega⟩
      · have:(S23 A q).length=6:=rfl
        unfold Q9
        rw [List.length_map]; omega
      · obtain ⟨e0,z1,rfl⟩:=List.mem_map.1 he
        exact kE A (by omega) q hq e0 z1
  by_cases k4:kind=4
  · rw [if_pos (.inr k4)] at hA
    have k2:¬ kind=2:=by omega
    have k3:¬ kind=3:=by omega
    rcases oL hv ha (show A<4 by omega) with ⟨c1,c2⟩ | ⟨hR,hok,c1,c2⟩
    · have:=h1.uniq (Ac.neg k1 (Ac.neg k2 (Ac.neg k3 (Ac.bind c1 (Ac.const _)))))
      cases this
    · have e1:=h1.uniq (Ac.neg k1 (Ac.neg k2 (Ac.neg k3 (Ac.bind c1 (Ac.const _)))))
      have e2:=h2.uniq (Ac.neg k1 (Ac.neg k2 (Ac.neg k3 (Ac.D7 c2 (Ac.const _)))))
      injection e1 with e1
      injection e2 with e2 e3
      injection e3 with e3 e4
      injection e4 with e4 _
      obtain ⟨r1,r2⟩:=Xw hv ha (show A<4 by omega) hR
      refine ⟨(List.range 4).map (stT ts a A),Q9 (stT ts a A) (S41 (stP ts a A)),[Js],[],1,xD hv r1 r2 hok,xM,by simp,by omega,?_,by decide,lK,fun i c hi hc=>by have:=rP i hi c hc; omega,fun e he=>?_,e2,e3,e4,e1,by decide,fun _=>by simp⟩
      · unfold Q9 S41
        simp
      · obtain ⟨e0,z1,rfl⟩:=List.mem_map.1 he
        obtain ⟨s,hs,rfl⟩:=Nv z1
        exact rP 0 (by omega) _ (Ei (r2 s hs) (Ei (Im (r2 s hs)) hs))
  rw [if_neg (fun h=>h.elim k1 k4)] at hA
  by_cases k2:kind=2
  · rw [if_pos k2] at hA
    rcases pQ hv hT ha (show A<6 by omega) with ⟨c1,c2⟩ | ⟨c0,c1',c2',⟨x0,y0⟩,⟨x1,y1⟩,⟨x2,y2⟩,n0,n1,n2,d1,d2,d3,c1,c2⟩
    · have:=h1.uniq (Ac.neg k1 (Ac.pos k2 (Ac.bind c1 (Ac.const _))))
      cases this
    · have e1:=h1.uniq (Ac.neg k1 (Ac.pos k2 (Ac.bind c1 (Ac.const _))))
      have e2:=h2.uniq (Ac.neg k1 (Ac.pos k2 (Ac.D7 c2 (Ac.const _))))
      injection e1 with e1
      injection e2 with e2 e3
      injection e3 with e3 e4
      injection e4 with e4 _
      have hP:∀ s,s<3→T3 c0.2 c1'.2 c2'.2 s<24:=three y0 y1 y2
      refine ⟨(List.range 3).map (T3 c0.1 c1'.1 c2'.1),Q9 (T3 c0.1 c1'.1 c2'.1) (S32 (T3 c0.2 c1'.2 c2'.2)),Wd,W32,2,vR hv (three x0 x1 x2) hP (fun s s' hs hs' h=>?_) (three n0 n1 n2),xE,by simp,by omega,?_,by decide,kT,fun i c hi hc=>xZ i hi c hc,fun e he=>?_,e2,e3,e4,e1,by decide,fun _=>by simp⟩
      · rcases (by omega:s=0∨s=1∨s=2) with rfl | rfl | rfl <;> rcases (by omega:s'=0∨s'=1∨s'=2) with rfl | rfl | rfl
        · rfl
        · exact (d1 h).elim
        · exact (d3 h).elim
        · exact (d1 h.symm).elim
        · rfl
        · exact (d2 h).elim
        · exact (d3 h.symm).elim
        · exact (d2 h.symm).elim
        · rfl
      · have:(S32 (T3 c0.2 c1'.2 c2'.2)).length=6:=rfl
        unfold Q9
        rw [List.length_map]; omega
      · obtain ⟨e0,z1,rfl⟩:=List.mem_map.1 he
        obtain ⟨s,hs,rfl | rfl⟩:=Ny z1
        · show (Cg Wd 0 (PA (X32 s _) (PA _ 1))).Tet<0
          rw [(Yn hs (hP s hs)).2.1]; exact vI 0 (by omega) _ (by omega)
        · show (Cg Wd 1 (PA (Y32 s _) (PA _ 0))).Tet<0
          rw [(Yn hs (hP s hs)).2.2.2]; exact vI 1 (by omega) _ (by omega)
  rw [if_neg k2] at hA
  by_cases k3:kind=3
  · have e1:=h1.uniq (Ac.neg k1 (Ac.neg k2 (Ac.pos k3 (Ac.D7 (qB (a:Int)) (Ac.const _)))))
    have e2:=h2.uniq (Ac.neg k1 (Ac.neg k2 (Ac.pos k3 (Ac.Jk (oC (a:Int)) (Ac.const _)))))
    injection e1 with e1
    injection e2 with e2 e3
    injection e3 with e3 e4
    injection e4 with e4 _
    refine ⟨(List.range 1).map fun _=>a,Q9 (fun _=>a) S14,aI,W14,4,uP ha,wC,by simp,by omega,by show 4≤100; omega,by decide,mU,fun i c hi hc=>xW i hi c hc,fun e he=>?_,e2,e3,e4,e1,by decide,fun h=>by omega⟩
    obtain ⟨e0,z1,rfl⟩:=List.mem_map.1 he
    exact mM e0 z1
  · rw [if_neg k3] at hA; omega
end
theorem Val.nil:Val []:=⟨by decide,fun a h=>by simp at h,fun a f h=>by simp at h⟩
section
variable {ts:List (List Ab)} (hv:Val ts) {old:List Nat} {es:List En} {nf:Nat} (hg:Chg ts old es nf) {fr:List (List Ab)} {W:List En} (hw:Inn fr W nf) (hne:∀ w,w ∈ W→w.x≠w.i)
include hw hne
theorem Y4 {i c:Nat} (hi:i<nf) (hc:c<4) (h:0≤(Cg fr i c).Tet):∃ i' q:Nat,i'<nf∧q<24∧Cg fr i c=⟨i',q⟩∧Cg fr i' (PA q c)=⟨i,PI q⟩∧i'≠i:=by
  obtain ⟨w,hm,hk⟩:=hw.all i c hi hc h
  obtain ⟨w1,w2,w3,w4,w5,w6⟩:=hw.ok w hm
  have hn:=hne w hm
  rcases hk with ⟨e1,e2⟩ | ⟨e1,e2⟩
  · rw [← e1,← e2]
    exact ⟨w.i,w.p,w3,w4,w5,w6,fun e=>hn e.symm⟩
  · rw [← e1,← e2]
    refine ⟨w.x,PI w.p,w1,Im w4,w6,?_,hn⟩
    rw [K8 w4 w2,Vl w4]; exact w5
include hv hg
theorem aA (hfe:∀ e,e ∈ es→(Cg fr e.i (PA e.p e.f)).Tet<0) {L:List (List Ab)} (hs:Shape L (kept old ts.length+nf)) (h8:kept old ts.length+nf≤8)
    (hx:∀ r c,r<kept old ts.length+nf→c<4→Ex ts old es fr r c (Cg L r c)):Val L:=by
  have hl:=hs.len
  refine ⟨by omega,fun a ha=>hs.row a (by omega),fun r c hr hc=>?_⟩
  rcases hx r c (by omega) hc with ⟨x,f,p,h1,h2,h3,h4,h5⟩ | ⟨h1,h2,h3⟩ | ⟨_,_,_,h4⟩
  · rcases hv.ok x f h1 h2 with hf | ⟨b,q,hG⟩
    · refine .inl (h5.trans ?_)
      have hf:Cg ts x f=⟨-1,0⟩:=hf
      unfold val
      rw [hf,if_pos (by decide)]
    · have hG':=hG
      obtain ⟨hb,hq,_,_,h6⟩:=hG'
      obtain ⟨r',p',k1,k2,k3,k4,k5,k6,k7⟩:=partner hv hg h1 h2 h3 hG
      obtain ⟨m1,m2,_⟩:=PM3 k2 hq k3
      have hqf:=Ei hq h2
      have hP:PA (PM (PM (PI p) q) p') c=PA p' (PA q f):=by rw [h4]; exact m2 f h2
      refine .inr ⟨r',_,by omega,m1,h5.trans k6,?_,?_⟩
      · rw [hP,← k7]
        exact Ex.det hg hfe (hx r' _ k5 (Ei k3 hqf)) (.inl ⟨b,PA q f,p',hb,hqf,k1,rfl,rfl⟩)
      · rintro ⟨e1,e2⟩
        subst e1
        rw [hP,h4] at e2
        obtain ⟨z1,z2⟩:=bW hg hb h1 hqf h2 k1 h3 e2
        exact h6 ⟨z1,z2⟩
  · obtain ⟨i',q,y1,y2,y3,y4,y5⟩:=Y4 hw hne (show r - kept old ts.length<nf by omega) hc h2
    rw [y3] at h3
    refine .inr ⟨kept old ts.length+i',q,by omega,y2,?_,?_,fun e=>y5 (by omega)⟩
    · rw [h3]
      show (⟨(kept old ts.length:Int)+(i':Int),(q:Int)⟩:Ab)=_
      rw [← Int.natCast_add]
    · have h9:0≤(Cg fr (kept old ts.length+i' - kept old ts.length) (PA q c)).Tet:=by
        rw [Nat.add_sub_cancel_left,y4]; exact Int.natCast_nonneg _
      have:=Ex.det hg hfe (hx (kept old ts.length+i') (PA q c) (by omega) (Ei y2 hc)) (.inr (.inl ⟨by omega,h9,rfl⟩))
      rw [this,Nat.add_sub_cancel_left,y4]
      show (⟨(kept old ts.length:Int)+((r - kept old ts.length:Nat):Int),(PI q:Int)⟩:Ab)=_
      rw [← Int.natCast_add,show kept old ts.length+(r - kept old ts.length)=r by omega]
  · exact .inl h4
end
theorem Val.tri {ts:List (List Ab)} (hv:Val ts):Ac (fun K=>Aj.f K ts) true∧Ac (fun K=>Bp.f K ts) true:=by
  have h8:=hv.le
  obtain ⟨b,h1,h2,h3⟩:=aW ts (by omega)
  rw [h1.2 hv] at h2 h3
  exact ⟨h2,h3⟩
theorem dX {ts:List (List Ab)} (hv:Val ts) (kind tet ix:Int):∃ L code,Val L∧(code=0→kind=4∨kind=2→L.length<ts.length)∧Ac (fun K=>I5.f K ts kind tet ix) (L,code)∧Ac (fun K=>I4.f K ts kind tet ix) (L,code)∧Ac (fun K=>Hq.f K ts kind tet ix) code:=by
  obtain ⟨h2,h3⟩:=hv.tri
  obtain ⟨r,code,pl,c1,c2,c3⟩:=jF hv h2 kind tet ix
  have c4:Ac (fun K=>Hq.f K ts kind tet ix) code:=Ac.D7 c2 (Ac.const _)
  by_cases h0:code=0
  · obtain ⟨c,rfl,_,a,A,rfl,rfl,ha,hA,t1,t2,t8⟩:=c3 h0
    obtain ⟨old,es,fr,W,nf,⟨hg,hk⟩,hw,l1,l2,l3,l4,f1,f2,f3,e1,e2,e3,e4,hne,hdec⟩:=kQ hv h2 ha hA t1 t2
    obtain ⟨L,s1,s2,s3,s4⟩:=Y5 hv l1 l2 hg hw l4 l3 f1 f2 f3
    have h8:=hv.le
    have q1:=s1.len
    have q2:=f1.len
    rw [e1,e2,H5,He (x:=(ts.length:Int) - (old.length:Int)) (by omega) (by omega),He (by omega) (by omega)] at t8
    rw [e1,e2,e3] at c2
    rw [e4] at c1
    exact ⟨L,0,aA hv hg hw hne f3 s1 (by omega) s2,fun _ h=>by have:=hdec h; omega,Ac.D7 c2 (Ac.pos h0 (Ac.bind s3 (Ac.const _))),Ac.bind h3 (Ac.pos rfl (Ac.Ew c1 (Ac.pos h0 (Ac.bind s4 (Ac.const _))))),by rw [← h0]; exact c4⟩
  · exact ⟨[],code,Val.nil,fun h=>(h0 h).elim,Ac.D7 c2 (Ac.neg h0 (Ac.const _)),Ac.bind h3 (Ac.pos rfl (Ac.Ew c1 (Ac.neg h0 (Ac.const _)))),c4⟩
end Go.Proofs.YtbjfinndngafoaaGreat
