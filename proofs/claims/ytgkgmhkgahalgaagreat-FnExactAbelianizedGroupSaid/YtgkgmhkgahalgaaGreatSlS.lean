import Derived.Test.YtgkgmhkgahalgaaGreatSlW
import Derived.Deep.Slices
import Derived.Deep.Fields
import Derived.ChangeSame
import Derived.Lib.SmallJoins
set_option linter.unusedVariables false
set_option linter.unusedSimpArgs false
namespace Go.Proofs.YtgkgmhkgahalgaaGreat
open Go.RowKit Go.ChangeShapes Go.WideShapes Go.Deep
structure Reads (P:Program) {α:Type} (T:Ty α) (Wf:α→Prop) (t:TypeId):Prop where
 get:∀ {H:Type} {enc:TypeId × Value→H} {w:World} {base:Nat} {spare:Nat→Bool} {held:Bool} {fuel:Nat} {cs:List Value} {x:DataW H × List MemPlace},
  DataW.trod enc P w base spare held fuel t cs=some x→∃ (l:T.Lay) (y:α),cs=T.cells l y∧T.K w l y∧Wf y
section
variable {P:Program} {t e:TypeId}
theorem Reads.int {k:IntKind} (ht:P.underlying t=some (.int k)):Reads P (Ac k) (fun n=>(Lit.int k n).wf=true) t:=.mk fun h=>by
 obtain ⟨n,hc,_,hw⟩:=DataW.trod_int ht h
 exact ⟨(),n,hc,trivial,hw⟩
theorem Reads.slice {α:Type} {T:Ty α} {Wf:α→Prop} (l0:T.Lay) (ht:P.underlying t=some (.slice e)) (hC:P.cellsOf e=T.sz) (h0:Nat.blt 0 T.sz=true) (hT:Reads P T Wf e):Reads P (Ty.slice e T) (fun xs=>xs.length≤9223372036854775807∧∀ x∈xs,Wf x) t:=.mk fun {H enc w base spare held fuel cs x} h=>by
 have h0':0<T.sz:=Nat.le_of_ble_eq_true h0
 rcases open_slice ht h with ⟨hcs,_⟩|⟨a,len,cap,m,n,D,Pl,hcs,_,hl,hm,hmm,_,hi⟩
 ·exact ⟨⟨none,0,fun _=>l0⟩,[],hcs,⟨Nat.le_refl _,Nat.zero_le _,fun h=>absurd h (by simp),fun j u h=>by simp [rc] at h,fun i x h=>by simp at h⟩,Nat.zero_le _,fun x h=>by cases h⟩
 ·have hlm:len≤m:=by rw [hmm]; split<;>omega
  have each:∀ i,i<len→∃ z:T.Lay × α,(∀ j,j<T.sz→w.cell? (a.add (i*T.sz+j))=(T.cells z.1 z.2)[j]?)∧T.K w z.1 z.2∧Wf z.2:=fun i hil=>by
   obtain ⟨cs',hc,htr⟩:=hi i (by omega)
   obtain ⟨l,y,rfl,hK,hW⟩:=hT.get htr
   rw [hC] at hc
   obtain ⟨_,hlen,hat⟩:=World.cells?_some hc
   exact ⟨(l,y),fun j hj=>by rw [← Go.Deep.add_add]; exact hat j hj,hK,hW⟩
  by_cases hz:len=0
  ·subst hz
   exact ⟨⟨some a,cap,fun _=>l0⟩,[],hcs,⟨Nat.zero_le _,by simpa [maxLen] using hm,fun h=>absurd h (by simp),fun j u h=>by simp [rc] at h,fun i x h=>by simp at h⟩,Nat.zero_le _,fun x h=>by cases h⟩
  ·obtain ⟨z0,_⟩:=each 0 (by omega)
   have:Inhabited (T.Lay × α):=⟨z0⟩
   obtain ⟨f,hf⟩:=choose_lt each
   have hlen:((List.range len).map fun i=>(f i).2).length=len:=by simp
   have hget:∀ i y,((List.range len).map fun i=>(f i).2)[i]?=some y→i<len∧y=(f i).2:=fun i y hy=>by
    have hil:=(List.getElem?_eq_some_iff.1 hy).1
    rw [hlen] at hil
    refine ⟨hil,?_⟩
    simpa [hil] using hy.symm
   refine ⟨⟨some a,cap,fun i=>(f i).1⟩,(List.range len).map fun i=>(f i).2,by show _=[Value.slice _ _ _]; rw [hlen]; exact hcs,⟨by rw [hlen]; exact hl,by simpa [maxLen] using hm,fun _=>?_,fun j u hu=>?_,fun i y hy=>?_⟩,by rw [hlen]; simp only [maxLen] at hm; omega,fun y hy=>?_⟩
   ·have hc:=(hf 0 (by omega)).1 0 h0'
    have ha:a.add (0*T.sz+0)=a:=by simp [Addr.add]
    have hcc:(T.cells (f 0).1 (f 0).2)[0]?=some ((T.cells (f 0).1 (f 0).2)[0]'(by rw [T.len]; exact h0')):=List.getElem?_eq_getElem _
    rw [ha,hcc] at hc
    refine ⟨a.block,a.off,?_⟩
    cases hs:a.spot with
    |none=>obtain ⟨b,o,s⟩:=a; cases hs; rfl
    |some s =>
     unfold World.cell? at hc
     rw [hs] at hc
     split at hc<;>simp at hc
   ·have hjl:=(List.getElem?_eq_some_iff.1 hu).1
    rw [F7,hlen] at hjl
    have hdm:j/T.sz*T.sz+j%T.sz=j:=Nat.div_add_mod' j T.sz
    have hmod:j%T.sz<T.sz:=Nat.mod_lt _ h0'
    have hdiv:j/T.sz<len:=Nat.div_lt_of_lt_mul (by rw [Nat.mul_comm]; exact hjl)
    have hx:((List.range len).map fun i=>(f i).2)[j/T.sz]?=some (f (j/T.sz)).2:=by simp [hdiv]
    have hu1:(rc T (fun i=>(f i).1) 0 ((List.range len).map fun i=>(f i).2))[j/T.sz*T.sz+j%T.sz]?=some u:=by rw [hdm]; exact hu
    have hu2:=(iT (T:=T) (ly:=fun i=>(f i).1) hx hmod).symm.trans hu1
    rw [Nat.zero_add] at hu2
    have key:ea (some a) j=a.add (j/T.sz*T.sz+j%T.sz):=by rw [hdm]; rfl
    show w.cell? (ea (some a) j)=some u
    rw [key,(hf _ hdiv).1 _ hmod]
    exact hu2
   ·obtain ⟨hil,rfl⟩:=hget i y hy
    exact (hf i hil).2.1
   ·obtain ⟨i,hi',rfl⟩:=List.mem_map.1 hy
    exact (hf i (by simpa using hi')).2.2
structure Ot (P:Program) {α:Type} (T:Ty α) (Wf:α→Prop) (fs:Array Field) (i o n:Nat):Prop where
 get:∀ {H:Type} {enc:TypeId × Value→H} {w:World} {base:Nat} {spare:Nat→Bool} {held:Bool} {fuel:Nat} {cs:List Value},cs.length=n →
  (∀ (j:Nat) (f:Field),fs[j]?=some f→∃ y,DataW.trod enc P w base spare held fuel f.type ((cs.drop f.offset).take (P.cellsOf f.type))=some y)→∃ (l:T.Lay) (y:α),cs.drop o=T.cells l y∧T.K w l y∧Wf y
theorem Ot.last {α:Type} {T:Ty α} {Wf:α→Prop} {fs:Array Field} {i o n:Nat} {f:Field} (hf:fs[i]?=some f) (ho:f.offset=o) (hC:P.cellsOf f.type=T.sz) (hn:n=o+T.sz) (hT:Reads P T Wf f.type):Ot P T Wf fs i o n:=.mk fun hl h=>by
 obtain ⟨y,hy⟩:=h i f hf
 obtain ⟨l,z,hc,hK,hW⟩:=hT.get hy
 refine ⟨l,z,?_,hK,hW⟩
 rw [← hc,ho,hC,List.take_of_length_le (by rw [List.length_drop,hl]; omega)]
theorem Ot.cons {α β:Type} {S:Ty α} {T:Ty β} {Wf:α→Prop} {Wg:β→Prop} {fs:Array Field} {i o n:Nat} {f:Field} (hf:fs[i]?=some f) (ho:f.offset=o) (hC:P.cellsOf f.type=S.sz) (hS:Reads P S Wf f.type) (hT:Ot P T Wg fs (i+1) (o+S.sz) n):Ot P (Ty.pair S T) (fun x=>Wf x.1∧Wg x.2) fs i o n:=.mk fun {H enc w base spare held fuel cs} hl h=>by
 obtain ⟨y,hy⟩:=h i f hf
 obtain ⟨l,z,hc,hK,hW⟩:=hS.get hy
 obtain ⟨l2,z2,hc2,hK2,hW2⟩:=hT.get hl h
 refine ⟨(l,l2),(z,z2),?_,⟨hK,hK2⟩,hW,hW2⟩
 show cs.drop o=S.cells l z++T.cells l2 z2
 rw [← hc,← hc2,ho,hC,← List.drop_drop,List.take_append_drop]
theorem Reads.raw {β:Type} {T:Ty β} {Wf:β→Prop} {fs:Array Field} (ht:P.underlying t=some (.struct fs)) (hC:P.cellsOf t=T.sz) (hF:Ot P T Wf fs 0 0 T.sz):Reads P T Wf t:=.mk fun h=>by
 obtain ⟨xs,m,_,_,hl,hlen,hx⟩:=DataW.trod_struct ht h
 obtain ⟨l,y,hc,hK,hW⟩:=hF.get (hl.trans hC) (fun j f hj=>⟨_,(hx j f hj).trans (List.getElem?_eq_getElem (by rw [hlen]; exact (Array.getElem?_eq_some_iff.1 hj).1))⟩)
 exact ⟨l,y,hc,hK,hW⟩
theorem Reads.wV {α β γ:Type} {T:Ty β} {U:Ty γ} {Wf:β→Prop} {h:α→γ} {n:Nat} {hn:U.sz=n} (f:α→β) (lm:T.Lay→U.Lay) (g:β→α) (hg:∀ y,f (g y)=y) (hc:∀ l y,T.cells l y=U.cells (lm l) (h (g y))) (hk:∀ w l y,T.K w l y→U.K w (lm l) (h (g y))) (hT:Reads P T Wf t):Reads P (Ty.iso U h n hn) (fun x=>Wf (f x)) t:=.mk fun hh=>by
 obtain ⟨l,y,hc',hK,hW⟩:=hT.get hh
 exact ⟨lm l,g y,hc'.trans (hc l y),hk _ _ _ hK,by show Wf (f (g y)); rw [hg]; exact hW⟩
theorem Reads.uV {α β:Type} {T:Ty β} {Wf:β→Prop} {sz:Nat} {enc:α→List Value} {hl:∀ x,(enc x).length=sz} {h1:∀ x u,u∈enc x→u.oneCell'=true} (f:α→β) (g:β→α) (hg:∀ y,f (g y)=y) (he:∀ l y,T.cells l y=enc (g y)) (hT:Reads P T Wf t):Reads P (Ty.flat sz enc hl h1) (fun x=>Wf (f x)) t:=.mk fun h=>by
 obtain ⟨l,y,hc,_,hW⟩:=hT.get h
 exact ⟨(),g y,hc.trans (he l y),trivial,by show Wf (f (g y)); rw [hg]; exact hW⟩
section
variable {H:Type} {enc:TypeId × Value→H} {w:World} {base b0:Nat} {spare:Nat→Bool} {held:Bool} {r:Reach} {v:Value} {d:DataW H} {ps:List MemPlace}
theorem bM {α:Type} {T:Ty α} {Wf:α→Prop} {fs:Array Field} (hT:Reads P T Wf t) (hs:P.underlying t=some (.struct fs)) (hv:Value.okWide P w r b0 t v) (h:DataW.Trod enc P w base spare held t v d ps):∃ (l:T.Lay) (x:α),v=.agg (T.cells l x).toArray∧T.K w l x∧Wf x:=by
 obtain ⟨cs,rfl,hsz⟩:=okWide_struct hs hv
 obtain ⟨fuel,hf⟩:=h
 obtain ⟨l,x,hc,hK,hW⟩:=hT.get hf
 refine ⟨l,x,?_,hK,hW⟩
 rw [← hc]
 simp [Value.cells]
end
end
end Go.Proofs.YtgkgmhkgahalgaaGreat
