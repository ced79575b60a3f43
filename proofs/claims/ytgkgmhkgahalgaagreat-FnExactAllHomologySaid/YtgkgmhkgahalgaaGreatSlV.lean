/-
  Elements with memory of their own, of any type: pairs of types, an element as a piece, rows that take elements in, a part of an element taken out for a while.
  Strings: joined, compared, cut, indexed, walked through by runes; arrays of four Bools compared.
  Strings compared by the library's entry without a body.
  Short words for the printed walks.
  A row of elements with memory of their own, seen as a row of numbers: the elements stay, the row names them.
  A row into which an element is put: the rows' cells alone, and the rules of slices.Insert.
  Maps whose keys and values are any that are told as plain values; arrays under an index that is not told.
  Regions of open order, told shortly: what each operation's slot holds stands in one list; an operation names the operations it reads.
  Pointers to elements: stores through a part of an own row, an array's copy out of a slice, whole numbers that are known.
-/
import Derived.Test.YtgkgmhkgahalgaaGreatSlK
import Derived.Laws.StructEq
import Derived.ChangeKeysEq
import Derived.Laws.BytesArg
import Derived.Laws.Externs
import Derived.Lib.Bytealg
import Derived.Lib.Overlaps
set_option linter.unusedVariables false
set_option linter.unusedSimpArgs false
namespace Go.Proofs.YtgkgmhkgahalgaaGreat
open Go.RowKit
def Mh {α0 α1 α2 α3 α4 α5 α6 α7 α8 α9 α10 α11 α12 α13 α14 α15 β:Type} (x:Option (α0 × α1 × α2 × α3 × α4 × α5 × α6 × α7 × α8 × α9 × α10 × α11 × α12 × α13 × α14 × α15)) (f:α0→α1→α2→α3→α4→α5→α6→α7→α8→α9→α10→α11→α12→α13→α14→α15→Option β):Option β:=x.bind fun z=>f z.1 z.2.1 z.2.2.1 z.2.2.2.1 z.2.2.2.2.1 z.2.2.2.2.2.1 z.2.2.2.2.2.2.1 z.2.2.2.2.2.2.2.1 z.2.2.2.2.2.2.2.2.1 z.2.2.2.2.2.2.2.2.2.1 z.2.2.2.2.2.2.2.2.2.2.1 z.2.2.2.2.2.2.2.2.2.2.2.1 z.2.2.2.2.2.2.2.2.2.2.2.2.1 z.2.2.2.2.2.2.2.2.2.2.2.2.2.1 z.2.2.2.2.2.2.2.2.2.2.2.2.2.2.1 z.2.2.2.2.2.2.2.2.2.2.2.2.2.2.2
theorem Pf {α0 α1 α2 α3 α4 α5 α6 α7 α8 α9 α10 α11 α12 α13 α14 α15 β:Type} {x:Option (α0 × α1 × α2 × α3 × α4 × α5 × α6 × α7 × α8 × α9 × α10 × α11 × α12 × α13 × α14 × α15)} {f:α0→α1→α2→α3→α4→α5→α6→α7→α8→α9→α10→α11→α12→α13→α14→α15→Option β} {r:β} (h:Mh x f=some r):∃ a0 a1 a2 a3 a4 a5 a6 a7 a8 a9 a10 a11 a12 a13 a14 a15,x=some (a0,a1,a2,a3,a4,a5,a6,a7,a8,a9,a10,a11,a12,a13,a14,a15)∧f a0 a1 a2 a3 a4 a5 a6 a7 a8 a9 a10 a11 a12 a13 a14 a15=some r:=by
  obtain ⟨z,h1,h2⟩:=Option.bind_eq_some_iff.1 h
  exact ⟨_,_,_,_,_,_,_,_,_,_,_,_,_,_,_,_,h1,h2⟩
theorem Px {α0 α1 α2 α3 α4 α5 α6 α7 α8 α9 α10 α11 α12 α13 α14 α15:Type} {a0:α0} {a1:α1} {a2:α2} {a3:α3} {a4:α4} {a5:α5} {a6:α6} {a7:α7} {a8:α8} {a9:α9} {a10:α10} {a11:α11} {a12:α12} {a13:α13} {a14:α14} {a15:α15} {b0:α0} {b1:α1} {b2:α2} {b3:α3} {b4:α4} {b5:α5} {b6:α6} {b7:α7} {b8:α8} {b9:α9} {b10:α10} {b11:α11} {b12:α12} {b13:α13} {b14:α14} {b15:α15} (h:some (a0,a1,a2,a3,a4,a5,a6,a7,a8,a9,a10,a11,a12,a13,a14,a15)=some (b0,b1,b2,b3,b4,b5,b6,b7,b8,b9,b10,b11,b12,b13,b14,b15)):a0=b0∧a1=b1∧a2=b2∧a3=b3∧a4=b4∧a5=b5∧a6=b6∧a7=b7∧a8=b8∧a9=b9∧a10=b10∧a11=b11∧a12=b12∧a13=b13∧a14=b14∧a15=b15:=by cases h; exact ⟨rfl,rfl,rfl,rfl,rfl,rfl,rfl,rfl,rfl,rfl,rfl,rfl,rfl,rfl,rfl,rfl⟩
abbrev Ty.pair {α β:Type} (S:Ty α) (T:Ty β):Ty (α × β) where
  Lay:=S.Lay × T.Lay
  sz:=S.sz+T.sz
  cells:=fun l x=>S.cells l.1 x.1++T.cells l.2 x.2
  M:=fun w q l x=>∃ q1 q2:Nat→Prop,(∀ k,q1 k→q k)∧(∀ k,q2 k→q k)∧(∀ k,q1 k→¬ q2 k)∧S.M w q1 l.1 x.1∧T.M w q2 l.2 x.2
  K:=fun w l x=>S.K w l.1 x.1∧T.K w l.2 x.2
  len:=fun l x=>by rw [List.length_append,S.len,T.len]
  one:=fun l x u h=>by
    rcases List.mem_append.1 h with h | h
    · exact S.one _ _ u h
    · exact T.one _ _ u h
  Qd:=fun ⟨q1,q2,h1,h2,hd,hs,ht⟩ hk=>⟨q1,q2,h1,h2,hd,S.Qd hs (fun k h=>hk k (h1 k h)),T.Qd ht (fun k h=>hk k (h2 k h))⟩
  Qh:=fun ⟨q1,q2,h1,h2,r⟩ hk=>⟨q1,q2,fun k h=>hk k (h1 k h),fun k h=>hk k (h2 k h),r⟩
  Pw:=fun ⟨_,_,_,_,_,hs,ht⟩=>⟨S.Pw hs,T.Pw ht⟩
  Np:=fun hb h=>⟨S.Np hb h.1,T.Np hb h.2⟩
abbrev Ty.iso {α β:Type} (T:Ty β) (f:α→β) (n:Nat) (hn:T.sz=n):Ty α where
  Lay:=T.Lay
  sz:=n
  cells:=fun l x=>T.cells l (f x)
  M:=fun w q l x=>T.M w q l (f x)
  K:=fun w l x=>T.K w l (f x)
  len:=fun l x=>by rw [T.len,hn]
  one:=fun l x u h=>T.one _ _ u h
  Qd:=fun h hk=>T.Qd h hk
  Qh:=fun h hk=>T.Qh h hk
  Pw:=fun h=>T.Pw h
  Np:=fun hb h=>T.Np hb h
def Elt {α:Type} (T:Ty α) (l:T.Lay) (x:α):Df where
  P:=fun w q=>T.M w q l x
  loc:=fun h hk=>T.Qd h hk
  more:=fun h hk=>T.Qh h hk
section
variable {α β:Type} {S:Ty α} {T:Ty β} {w0 w:World} {L:List Df} {s:S.Lay} {t:T.Lay} {x:α} {y:β}
theorem St.Aaj (h:St w0 w (Elt T t y::L)) (hf:Flat S):St w0 w (Elt (Ty.pair S T) (s,t) (x,y)::L):=by
  obtain ⟨hb,q,r,hq,hr,hqr,ho,hL⟩:=h
  exact ⟨hb,q,r,hq,hr,hqr,⟨fun _=>False,q,fun _ h=>h.elim,fun _ h=>h,fun _ h=>h.elim,hf _ _ _,ho⟩,hL⟩
end
theorem Ce.fld {α β:Type} {T:Ty α} {S:Ty β} {w0:World} {L:List Df} {A A':Option Addr} {c c':Nat} {ly:Nat→T.Lay} {ly':Nat→S.Lay} {xs:List α} {ys:List β} {n:Nat} {x:α} (h:Ce w0 L T A c ly xs) (hn:xs[n]?=some x) (pr:∀ w,T.K w (ly n) x→Rd S w A' c' ly' ys):Ce w0 L S A' c' ly' ys :=
  fun w hs=>pr w ((h w hs).2.2.2.2 n x hn)
theorem Ce.box {α:Type} {T:Ty α} {w0:World} {L:List Df} {b j:Nat} {t:TypeId} {cs:List Value} {n:Nat} (ly:Nat→T.Lay) (xs:List α) (hj:L[j]?=some (Box b t cs)) (hc:rc T ly 0 xs=cs) (hx:xs.length=n) (hb:Nat.ble n 9223372036854775807=true) (hk:∀ i x,xs[i]?=some x→∀ w,St w0 w L→T.K w (ly i) x):Ce w0 L T (some ⟨b,0,none⟩) n ly xs:=fun w hs =>
  ⟨Nat.le_of_eq hx,Nat.le_of_ble_eq_true hb,fun _=>⟨b,0,rfl⟩,fun j' u hu=>by
    rw [Rm,Ii,Nat.zero_add]
    exact hs.Re hj (by rw [← hc]; exact hu),fun i x hx=>hk i x hx w hs⟩
section
variable {α:Type} {T:Ty α} {w w':World} {ly:Nat→T.Lay}
theorem Iq.cut:∀ {xs ys:List α} {i:Nat} {q:Nat→Prop},Iq T w ly i (xs++ys) q→∃ q1 q2:Nat→Prop,(∀ k,q1 k→q k)∧(∀ k,q2 k→q k)∧(∀ k,q1 k→¬ q2 k)∧Iq T w ly i xs q1∧Iq T w ly (i+xs.length) ys q2
  | [],ys,i,q,h=>⟨fun _=>False,q,fun _ h=>h.elim,fun _ h=>h,fun _ h=>h.elim,trivial,h⟩
  | x::r,ys,i,q,⟨q0,q1,h0,h1,hd,hx,hs⟩=>by
    obtain ⟨p1,p2,g1,g2,gd,s1,s2⟩:=Iq.cut (xs:=r) hs
    exact ⟨fun k=>q0 k∨p1 k,p2,fun k hk=>hk.elim (h0 k) (fun h=>h1 k (g1 k h)),fun k hk=>h1 k (g2 k hk),fun k hk hn=>hk.elim (fun h=>hd k h (g2 k hn)) (fun h=>gd k h hn),⟨q0,p1,fun k hk=>.inl hk,fun k hk=>.inr hk,fun k hk hn=>hd k hk (g1 k hn),hx,s1⟩,by rw [List.length_cons,show i+(r.length+1)=i+1+r.length by omega]; exact s2⟩
theorem Iq.join:∀ {xs ys:List α} {i:Nat} {q1 q2:Nat→Prop},Iq T w ly i xs q1→Iq T w ly (i+xs.length) ys q2→(∀ k,q1 k→¬ q2 k)→Iq T w ly i (xs++ys) (fun k=>q1 k∨q2 k)
  | [],ys,i,q1,q2,_,h,_=>Iq.more h (fun k hk=>.inr hk)
  | x::r,ys,i,q1,q2,⟨p0,p1,h0,h1,hd,hx,hs⟩,h,hdd=>by
    have:=Iq.join (xs:=r) (ys:=ys) (i:=i+1) hs (by rw [show i+1+r.length=i+(x::r).length by simp only [List.length_cons]; omega]; exact h) (fun k hk=>hdd k (h1 k hk))
    exact ⟨p0,fun k=>p1 k∨q2 k,fun k hk=>.inl (h0 k hk),fun k hk=>hk.imp (h1 k) id,fun k hk hn=>hn.elim (hd k hk) (hdd k (h0 k hk)),hx,this⟩
end
section
variable {α:Type} {T:Ty α} {P:Program} {N:Nat} {e:Env} {w0 w:World} {L:List Df} {Q:Act→World→Prop} {ops:Array Oper} {i d:Nat} {rest:List Nat} {ty:TypeId} {ps:String} {af:Array Edge}
theorem GO.xZ {t el tb:TypeId} {x y:Operand} {A:Option Addr} {c b:Nat} {ly:Nat→T.Lay} {xs:List α} {z:Value} {bytes:Nat} (l:T.Lay) (y0:α) (HS:St w0 w (Own T el A c ly xs::Box b tb (T.cells l y0)::Elt T l y0::L)) (ho:ops[i]?=some ⟨some d,.call { callee:=.builtin .append,args:=#[x,y],argTypes:=#[t,t] },ty,ps,af,none⟩) (hx:ev e x=some (.slice A xs.length c)) (hy:ev e y=some (.slice (some ⟨b,0,none⟩) 1 1))
    (ht:P.underlying t=some (.slice el)) (hinf:(P.info? el).map (fun i=>(i.zero,i.size,i.bytes))=some (some z,T.sz,bytes)) (hz:(z.cells.size == T.sz)=true) (hs0:Nat.blt 0 T.sz=true) (hb0:Nat.blt 0 bytes=true) (hm:(xs.length+1) * bytes≤140737488355328) (hN:Nat.blt d N=true)
    (g:∀ A' c' (ly':Nat→T.Lay) w',St w0 w' (Own T el A' c' ly' (xs++[y0])::Box b tb (T.cells l y0)::L)→GO P N ops rest ((d,.slice A' (xs++[y0]).length c')::e) w' Q):GO P N ops (i::rest) e w Q:=by
  obtain ⟨inf,hi,hzz⟩:=Option.map_eq_some_iff.1 hinf
  simp only [Prod.mk.injEq] at hzz
  obtain ⟨hz0,hz1,hz2⟩:=hzz
  have hs0':0<T.sz:=Nat.le_of_ble_eq_true hs0
  have hb0':0<bytes:=Nat.le_of_ble_eq_true hb0
  have hmm:xs.length+1≤140737488355328:=Nat.le_trans (Nat.le_mul_of_pos_right _ hb0') hm
  obtain ⟨hbel,q,r,hq,hr,hqr,⟨q1,q2,h1,h2,hd,hown,hb,hs⟩,qb,rb,hqb,hrb,hbd,⟨hbq,hbx⟩,qe,re,hqe,hre,hed,hoe,hL⟩:=HS
  have hcells:∀ m v,(T.cells l y0)[m]?=some v→w.cell? ((⟨b,0,none⟩:Addr).add m)=some v:=fun m v hv=>by
    rw [Ii,Nat.zero_add,cell_of_row w b m _ tb (0,0) hbx]
    simpa using hv
  obtain ⟨v',w',hrn,hown',hg,hat⟩:=Lp (P:=P) w t ty el inf z T.sz bytes ht hi hz0 hz1 hz2 (by simpa using hz) hs0' _ _ _ hown ⟨b,0,none⟩ 1 1 (T.cells l y0) (by rw [T.len,Nat.one_mul]) hcells (fun v hv=>T.one _ _ v hv) (by simp only [maxLen]; omega) hm
  obtain ⟨A',c',rfl⟩:=hown'.slice
  let ly':Nat→T.Lay:=fun k=>if k=xs.length then l else ly k
  have hlen:xs.length+1=(xs++[y0]).length:=by simp
  have hcg:rc T ly 0 xs=rc T ly' 0 xs:=Nw (fun k _ hk=>by simp only [ly']; rw [if_neg (by omega)])
  have hrc:rc T ly 0 xs++T.cells l y0=rc T ly' 0 (xs++[y0]):=by
    refine (congrArg (·++T.cells l y0) hcg).trans ((Ip (T:=T) (ly:=ly') 0 xs [y0]).trans ?_).symm
    refine congrArg (rc T ly' 0 xs++·) ?_
    simp [rc,ly']
  rw [hrc,hlen] at hown'
  rw [hlen] at hrn hat
  refine GO.val _ ho rfl rfl hN (fun a hs=>by simp only [execOp,resolve,invoke,builtin,Sem.run_bind,Sem.run_pure,Result.andThen_ok,List.map_toArray,List.map_cons,List.map_nil,hs.ev hx,hs.ev hy,hrn]) (g A' c' ly' w' ?_)
  have hkeep:∀ k,k<w.heap.size→¬ q1 k→w'.heap[k]?=w.heap[k]?:=fun k hk hn=>hg.block k hk (fun e=>hn (hb k e.symm))
  have hlt:=hown'.lt
  have hgs:=hg.size
  have hB:=hbel.size
  refine ⟨hbel.trans ⟨hg.os,hg.tape,hg.output,hg.size,fun k hk=>hkeep k (Nat.lt_of_lt_of_le hk hbel.size) (fun hk1=>by have:=hq k (h1 k hk1); omega)⟩,fun k=>q k∨qe k∨(w.heap.size≤k∧k<w'.heap.size),fun k=>qb k∨re k,?_,?_,?_,⟨fun k=>q1 k∨(w.heap.size≤k∧k<w'.heap.size),fun k=>q2 k∨qe k,?_,?_,?_,hown',?_,?_⟩,qb,re,fun k hk=>.inl hk,fun k hk=>.inr hk,?_,⟨hbq,?_⟩,?_⟩
  · intro k hk
    rcases hk with hk | hk | hk
    · have:=hq k hk; omega
    · have:=hr k (hrb k (hqe k hk)); omega
    · omega
  · intro k hk
    rcases hk with hk | hk
    · have:=hr k (hqb k hk); omega
    · have:=hr k (hrb k (hre k hk)); omega
  · intro k hk hn
    rcases hk with hk | hk | hk
    · rcases hn with hn | hn
      · exact hqr k hk (hqb k hn)
      · exact hqr k hk (hrb k (hre k hn))
    · rcases hn with hn | hn
      · exact hbd k hn (hqe k hk)
      · exact hed k hk hn
    · rcases hn with hn | hn
      · have:=hr k (hqb k hn); omega
      · have:=hr k (hrb k (hre k hn)); omega
  · intro k hk
    rcases hk with hk | hk
    · exact .inl (h1 k hk)
    · exact .inr (.inr hk)
  · intro k hk
    rcases hk with hk | hk
    · exact .inl (h2 k hk)
    · exact .inr (.inl hk)
  · intro k hk hn
    rcases hk with hk | hk
    · rcases hn with hn | hn
      · exact hd k hk hn
      · exact hqr k (h1 k hk) (hrb k (hqe k hn))
    · rcases hn with hn | hn
      · have:=hq k (h2 k hn); omega
      · have:=hr k (hrb k (hqe k hn)); omega
  · intro k hk
    rcases hat k hk with e | e
    · exact .inl (hb k e)
    · exact .inr ⟨e,hlt k hk⟩
  · have hlocq:∀ k,q2 k→w'.heap[k]?=w.heap[k]?:=fun k hk=>hkeep k (by have:=hq k (h2 k hk); omega) (fun h=>hd k h hk)
    have hloce:∀ k,qe k→w'.heap[k]?=w.heap[k]?:=fun k hk=>hkeep k (by have:=hr k (hrb k (hqe k hk)); omega) (fun h=>hqr k (h1 k h) (hrb k (hqe k hk)))
    have h5:Iq T w' ly' 0 xs q2:=(hs.loc hlocq).congr (fun k _ hk=>by simp only [ly']; rw [if_neg (by omega)])
    refine Iq.snoc h5 ?_ (fun k hk hn=>hqr k (h2 k hk) (hrb k (hqe k hn)))
    show T.M w' qe (if 0+xs.length=xs.length then l else ly (0+xs.length)) y0
    rw [if_pos (by omega)]
    exact T.Qd hoe hloce
  · intro k hk hn
    exact hbd k hk (hre k hn)
  · rw [hkeep b (by have:=hr b (hqb b hbq); omega) (fun h=>hqr b (h1 b h) (hqb b hbq))]
    exact hbx
  · exact hL.loc (fun k hk=>hkeep k (by have:=hr k (hrb k (hre k hk)); omega) (fun h=>hqr k (h1 k h) (hrb k (hre k hk))))
theorem GO.stK {t tb:TypeId} {x y:Operand} {A:Option Addr} {c j n o:Nat} {ly:Nat→T.Lay} {xs:List α} {x0:α} {vs:List Value} {v:Value} (y0:α) (HS:St w0 w L) (hj:L[j]?=some (Own T tb A c ly xs)) (hM:∀ w q,T.M w q (ly n) x0→T.M w q (ly n) y0) (ho:ops[i]?=some ⟨none,.store t x y,ty,ps,af,none⟩) (hx:ev e x=some (.pointer (some (ea A (n * T.sz+o))))) (hy:ev e y=some v) (hv:v.cells=vs.toArray)
    (ht:(naB P t && vs.length == 1 || agB P t vs.length)=true) (h1:vs.all (·.oneCell')=true) (hn:xs[n]?=some x0) (hl:Nat.ble (o+vs.length) T.sz=true) (hc:T.cells (ly n) y0=splice (T.cells (ly n) x0) o vs)
    (g:∀ w',St w0 w' (L.set j (Own T tb A c ly (xs.set n y0)))→GO P N ops rest e w' Q):GO P N ops (i::rest) e w Q:=by
  have hszt:(sizeOf t).run P w=.ok vs.length w:=by
    rw [Bool.or_eq_true,Bool.and_eq_true,beq_iff_eq] at ht
    rcases ht with ht | ht
    · rw [ht.2]; exact Nn ht.1
    · exact Mm ht
  have hf:o+vs.length≤T.sz:=Nat.le_of_ble_eq_true hl
  have hnl:=(List.getElem?_eq_some_iff.1 hn).1
  obtain ⟨q,_,ho1⟩:=HS.get hj
  obtain ⟨q1,q2,a1,a2,ad,hown,hb,hs⟩:=ho1
  obtain ⟨gb,og,cur,hA,hh,hnc,hcm,hsz,htk⟩:=hown.open (by omega)
  subst hA
  have hmul:(n+1) * T.sz≤xs.length * T.sz:=Nat.mul_le_mul_right _ hnl
  rw [Nat.succ_mul] at hmul
  have hput:=hown.put (k:=n * T.sz+o) (vs:=vs) hh (by rw [F7]; omega)
  have hea:ea (some ⟨gb,og,none⟩) (n * T.sz+o)=⟨gb,og+(n * T.sz+o),none⟩:=by rw [Rm,Ii]
  rw [hea] at hx
  refine GO.P7 (w':=w.setRow gb (splice cur.toList (og+(n * T.sz+o)) vs).toArray) ho rfl rfl (fun a hs=>by simp [execOp,Instr.storeAt,Instr.sureAddr,hs.ev hx,hs.ev hy,Qo hv hszt hh (fun u hu=>List.all_eq_true.1 h1 u hu) hput.1]) (g _ ?_)
  refine HS.upd hj (by simp) rfl rfl rfl (fun q ho=>?_)
  obtain ⟨q1,q2,b1,b2,hd,hown,hb,hs⟩:=ho
  have hg:q1 gb:=hb gb rfl
  have hloc:∀ k,q2 k→(w.setRow gb (splice cur.toList (og+(n * T.sz+o)) vs).toArray).heap[k]?=w.heap[k]?:=fun k hk=>setRow_other w gb k _ (fun e=>hd gb hg (by rw [← e]; exact hk))
  have hs':=hs.loc hloc
  refine ⟨q,fun k hk=>.inl hk,⟨q1,q2,b1,b2,hd,?_,by rw [List.length_set]; exact hb,?_⟩,fun k hk hn=>setRow_other w gb k _ (fun e=>hn (by rw [e]; exact b1 gb hg))⟩
  · rw [List.length_set,Sk hn hf (by rw [Nat.zero_add]; exact hc)]
    exact hput.2
  · have hgo:∀ {xs:List α} {i n:Nat} {q:Nat→Prop} {w:World},Iq T w ly i xs q→xs[n]?=some x0→(∀ q,T.M w q (ly (i+n)) x0→T.M w q (ly (i+n)) y0)→Iq T w ly i (xs.set n y0) q:=by
      intro xs
      induction xs with
      | nil=>intro i n q w _ h; simp at h
      | cons z r ih =>
        intro i n q w hs hn hM
        obtain ⟨p0,p1,c0,c1,cd,hx,hr⟩:=hs
        cases n with
        | zero=>cases hn; exact ⟨p0,p1,c0,c1,cd,hM _ hx,hr⟩
        | succ n=>exact ⟨p0,p1,c0,c1,cd,hx,ih hr (by simpa using hn) (by rw [show i+1+n=i+(n+1) by omega]; exact hM)⟩
    exact hgo hs' hn (fun q h=>by rw [Nat.zero_add] at h ⊢; exact hM _ _ h)
end
structure Fld {α β:Type} (T:Ty α) (S:Ty β) where
  get:α→β
  set:α→β→α
  Pi:T.Lay→S.Lay
  R:T.Lay→α→Df
  opn:∀ {w:World} {q:Nat→Prop} {l:T.Lay} {x:α},T.M w q l x→∃ q1 q2:Nat→Prop,(∀ k,q1 k→q k)∧(∀ k,q2 k→q k)∧(∀ k,q1 k→¬ q2 k)∧S.M w q1 (Pi l) (get x)∧(R l x).P w q2
  cls:∀ {w:World} {q q1 q2:Nat→Prop} {l:T.Lay} {x:α} {y:β},(∀ k,q1 k→q k)→(∀ k,q2 k→q k)→(∀ k,q1 k→¬ q2 k)→S.M w q1 (Pi l) y→(R l x).P w q2→T.M w q l (set x y)
def Fld.id {α:Type} {T:Ty α}:Fld T T where
  get:=fun x=>x
  set:=fun _ y=>y
  Pi:=fun l=>l
  R:=fun _ _=>Emp
  opn:=fun {w q l x} h=>⟨q,fun _=>False,fun _ h=>h,fun _ h=>h.elim,fun _ _ h=>h,h,trivial⟩
  cls:=fun h1 _ _ hs _=>Ty.Qh _ hs h1
def Two (o p:Df):Df where
  P:=fun w q=>∃ q1 q2:Nat→Prop,(∀ k,q1 k→q k)∧(∀ k,q2 k→q k)∧(∀ k,q1 k→¬ q2 k)∧o.P w q1∧p.P w q2
  loc:=fun ⟨q1,q2,h1,h2,hd,a,b⟩ hk=>⟨q1,q2,h1,h2,hd,o.loc a (fun k h=>hk k (h1 k h)),p.loc b (fun k h=>hk k (h2 k h))⟩
  more:=fun ⟨q1,q2,h1,h2,r⟩ hk=>⟨q1,q2,fun k h=>hk k (h1 k h),fun k h=>hk k (h2 k h),r⟩
def Fld.fst {α β γ:Type} {S:Ty α} {T:Ty β} {U:Ty γ} (F:Fld S U):Fld (Ty.pair S T) U where
  get:=fun x=>F.get x.1
  set:=fun x y=>(F.set x.1 y,x.2)
  Pi:=fun l=>F.Pi l.1
  R:=fun l x=>Two (F.R l.1 x.1) (Elt T l.2 x.2)
  opn:=fun ⟨q1,q2,h1,h2,hd,hs,ht⟩=>by
    obtain ⟨p1,p2,g1,g2,gd,hu,hr⟩:=F.opn hs
    exact ⟨p1,fun k=>p2 k∨q2 k,fun k h=>h1 k (g1 k h),fun k h=>h.elim (fun h=>h1 k (g2 k h)) (h2 k),fun k h hn=>hn.elim (gd k h) (hd k (g1 k h)),hu,p2,q2,fun k h=>.inl h,fun k h=>.inr h,fun k h hn=>hd k (g2 k h) hn,hr,ht⟩
  cls:=fun {w q q1 q2 l x y} h1 h2 hd hu ⟨p1,p2,g1,g2,gd,hr,ht⟩ =>
    ⟨fun k=>q1 k∨p1 k,p2,fun k h=>h.elim (h1 k) (fun h=>h2 k (g1 k h)),fun k h=>h2 k (g2 k h),fun k h hn=>h.elim (fun h=>hd k h (g2 k hn)) (fun h=>gd k h hn),F.cls (fun k h=>.inl h) (fun k h=>.inr h) (fun k h hn=>hd k h (g1 k hn)) hu hr,ht⟩
def Fld.snd {α β γ:Type} {S:Ty α} {T:Ty β} {U:Ty γ} (F:Fld T U):Fld (Ty.pair S T) U where
  get:=fun x=>F.get x.2
  set:=fun x y=>(x.1,F.set x.2 y)
  Pi:=fun l=>F.Pi l.2
  R:=fun l x=>Two (F.R l.2 x.2) (Elt S l.1 x.1)
  opn:=fun ⟨q1,q2,h1,h2,hd,hs,ht⟩=>by
    obtain ⟨p1,p2,g1,g2,gd,hu,hr⟩:=F.opn ht
    exact ⟨p1,fun k=>p2 k∨q1 k,fun k h=>h2 k (g1 k h),fun k h=>h.elim (fun h=>h2 k (g2 k h)) (h1 k),fun k h hn=>hn.elim (gd k h) (fun h'=>hd k h' (g1 k h)),hu,p2,q1,fun k h=>.inl h,fun k h=>.inr h,fun k h hn=>hd k hn (g2 k h),hr,hs⟩
  cls:=fun {w q q1 q2 l x y} h1 h2 hd hu ⟨p1,p2,g1,g2,gd,hr,hs⟩ =>
    ⟨p2,fun k=>q1 k∨p1 k,fun k h=>h2 k (g2 k h),fun k h=>h.elim (h1 k) (fun h=>h2 k (g1 k h)),fun k h hn=>hn.elim (fun h'=>hd k h' (g2 k h)) (fun h'=>gd k h' h),hs,F.cls (fun k h=>.inl h) (fun k h=>.inr h) (fun k h hn=>hd k h (g1 k hn)) hu hr⟩
def Fld.iso {α β γ:Type} {T:Ty β} {U:Ty γ} (F:Fld T U) {f:α→β} {n:Nat} {hn:T.sz=n} (g:α→γ→α) (hg:∀ x y,f (g x y)=F.set (f x) y):Fld (Ty.iso T f n hn) U where
  get:=fun x=>F.get (f x)
  set:=g
  Pi:=F.Pi
  R:=fun l x=>F.R l (f x)
  opn:=fun h=>F.opn h
  cls:=fun {w q q1 q2 l x y} h1 h2 hd hu hr=>by
    show T.M w q l (f (g x y))
    rw [hg]
    exact F.cls h1 h2 hd hu hr
section
variable {α β:Type} {T:Ty α} {S:Ty β} {w0 w:World} {L:List Df} {t:TypeId} {A:Option Addr} {c n:Nat} {ly:Nat→T.Lay} {xs:List α} {x:α} {y:β}
def nP (F:Fld T S) (t:TypeId) (A:Option Addr) (c:Nat) (ly:Nat→T.Lay) (xs:List α) (n:Nat) (x:α):Df where
  P:=fun w q=>∃ q1 qa qb qr:Nat→Prop,(∀ k,q1 k→q k)∧(∀ k,qa k→q k)∧(∀ k,qb k→q k)∧(∀ k,qr k→q k)∧(∀ k,q1 k→¬ qa k∧¬ qb k∧¬ qr k)∧(∀ k,qa k→¬ qb k∧¬ qr k)∧(∀ k,qb k→¬ qr k) ∧
    OR w t T.sz (.slice A xs.length c) xs.length (rc T ly 0 xs)∧(∀ k,(Value.slice A xs.length c).ownBlock=some k→q1 k)∧Iq T w ly 0 (xs.take n) qa∧Iq T w ly (n+1) (xs.drop (n+1)) qb∧(F.R (ly n) x).P w qr
  loc:=fun ⟨q1,qa,qb,qr,h1,ha,hb,hr,d1,d2,d3,ho,hbl,sa,sb,r⟩ hk=>⟨q1,qa,qb,qr,h1,ha,hb,hr,d1,d2,d3,ho.loc (fun k h=>hk k (h1 k (hbl k h))),hbl,sa.loc (fun k h=>hk k (ha k h)),sb.loc (fun k h=>hk k (hb k h)),(F.R (ly n) x).loc r (fun k h=>hk k (hr k h))⟩
  more:=fun ⟨q1,qa,qb,qr,h1,ha,hb,hr,r⟩ hk=>⟨q1,qa,qb,qr,fun k h=>hk k (h1 k h),fun k h=>hk k (ha k h),fun k h=>hk k (hb k h),fun k h=>hk k (hr k h),r⟩
theorem St.focus (F:Fld T S) (HS:St w0 w (Own T t A c ly xs::L)) (hn:xs[n]?=some x):St w0 w (Elt S (F.Pi (ly n)) (F.get x)::nP F t A c ly xs n x::L):=by
  obtain ⟨hb,q,r,hq,hr,hqr,⟨q1,q2,h1,h2,hd,hown,hbl,hs⟩,hL⟩:=HS
  have hlt:=(List.getElem?_eq_some_iff.1 hn).1
  have hx:xs=xs.take n++(x::xs.drop (n+1)):=by
    have h3:=(List.getElem?_eq_some_iff.1 hn).2
    rw [← h3,← List.drop_eq_getElem_cons hlt,List.take_append_drop]
  have htl:(xs.take n).length=n:=by rw [List.length_take]; omega
  rw [hx] at hs
  obtain ⟨qa,qc,ha,hc,hac,sa,sc⟩:=Iq.cut hs
  rw [htl,Nat.zero_add] at sc
  obtain ⟨p0,p1,c0,c1,cd,hM,sb⟩:=sc
  obtain ⟨e1,e2,f1,f2,fd,hS,hR⟩:=F.opn hM
  refine ⟨hb,e1,fun k=>(q1 k∨qa k∨p1 k∨e2 k)∨r k,?_,?_,?_,hS,fun k=>q1 k∨qa k∨p1 k∨e2 k,r,fun k h=>.inl h,fun k h=>.inr h,?_,⟨q1,qa,p1,e2,fun k h=>.inl h,fun k h=>.inr (.inl h),fun k h=>.inr (.inr (.inl h)),fun k h=>.inr (.inr (.inr h)),?_,?_,?_,hown,hbl,sa,sb,hR⟩,hL⟩
  · exact fun k h=>hq k (h2 k (hc k (c0 k (f1 k h))))
  · rintro k ((h | h | h | h) | h)
    · exact hq k (h1 k h)
    · exact hq k (h2 k (ha k h))
    · exact hq k (h2 k (hc k (c1 k h)))
    · exact hq k (h2 k (hc k (c0 k (f2 k h))))
    · exact hr k h
  · intro k h hn
    rcases hn with (hn | hn | hn | hn) | hn
    · exact hd k hn (hc k (c0 k (f1 k h)))
    · exact hac k hn (c0 k (f1 k h))
    · exact cd k (f1 k h) hn
    · exact fd k h hn
    · exact hqr k (h2 k (hc k (c0 k (f1 k h)))) hn
  · intro k h hn
    rcases h with h | h | h | h
    · exact hqr k (h1 k h) hn
    · exact hqr k (h2 k (ha k h)) hn
    · exact hqr k (h2 k (hc k (c1 k h))) hn
    · exact hqr k (h2 k (hc k (c0 k (f2 k h)))) hn
  · exact fun k h=>⟨fun g=>hd k h (ha k g),fun g=>hd k h (hc k (c1 k g)),fun g=>hd k h (hc k (c0 k (f2 k g)))⟩
  · exact fun k h=>⟨fun g=>hac k h (c1 k g),fun g=>hac k h (c0 k (f2 k g))⟩
  · exact fun k h g=>cd k (f2 k g) h
theorem St.oC (F:Fld T S) (HS:St w0 w (Elt S (F.Pi (ly n)) y::nP F t A c ly xs n x::L)) (hn:xs[n]?=some x) (hc:T.cells (ly n) (F.set x y)=T.cells (ly n) x):St w0 w (Own T t A c ly (xs.set n (F.set x y))::L):=by
  obtain ⟨hb,q,r,hq,hr,hqr,hS,q',r',hq',hr',hqr',⟨q1,qa,qb,qe,h1,ha,hbb,he,d1,d2,d3,hown,hbl,sa,sb,hR⟩,hL⟩:=HS
  have hlt:=(List.getElem?_eq_some_iff.1 hn).1
  have hx:xs.set n (F.set x y)=xs.take n++(F.set x y::xs.drop (n+1)):=by rw [List.set_eq_take_append_cons_drop,if_pos hlt]
  have htl:(xs.take n).length=n:=by rw [List.length_take]; omega
  refine ⟨hb,fun k=>q k∨q' k,r',fun k h=>h.elim (hq k) (fun h=>hr k (hq' k h)),fun k h=>hr k (hr' k h),fun k h hn=>h.elim (fun h=>hqr k h (hr' k hn)) (fun h=>hqr' k h hn),⟨q1,fun k=>qa k∨(q k∨qe k∨qb k),fun k h=>.inr (h1 k h),?_,?_,?_,by rw [List.length_set]; exact hbl,?_⟩,hL⟩
  · rintro k (h | h | h | h)
    · exact .inr (ha k h)
    · exact .inl h
    · exact .inr (he k h)
    · exact .inr (hbb k h)
  · rintro k h (g | g | g | g)
    · exact (d1 k h).1 g
    · exact hqr k g (hq' k (h1 k h))
    · exact (d1 k h).2.2 g
    · exact (d1 k h).2.1 g
  · rw [List.length_set]
    have:rc T ly 0 (xs.set n (F.set x y))=rc T ly 0 xs:=by
      have e1:rc T ly 0 xs=rc T ly 0 (xs.take n)++(T.cells (ly (0+(xs.take n).length)) x++rc T ly (0+(xs.take n).length+1) (xs.drop (n+1))):=by
        have h3:=(List.getElem?_eq_some_iff.1 hn).2
        have hxx:xs=xs.take n++(x::xs.drop (n+1)):=by rw [← h3,← List.drop_eq_getElem_cons hlt,List.take_append_drop]
        conv=>lhs; rw [hxx,Ip]
        rfl
      rw [hx,Ip,e1,htl,Nat.zero_add,← hc]
      rfl
    rw [this]
    exact hown
  · rw [hx]
    refine Iq.join sa ?_ ?_
    · rw [htl,Nat.zero_add]
      exact ⟨fun k=>q k∨qe k,qb,fun k h=>h.elim .inl (fun h=>.inr (.inl h)),fun k h=>.inr (.inr h),fun k h g=>h.elim (fun h=>hqr k h (hq' k (hbb k g))) (fun h=>d3 k g h),F.cls (fun k h=>.inl h) (fun k h=>.inr h) (fun k h g=>hqr k h (hq' k (he k g))) hS hR,sb⟩
    · rintro k h (g | g | g)
      · exact hqr k g (hq' k (ha k h))
      · exact (d2 k h).2 g
      · exact (d2 k h).1 g
end
section
variable {α β:Type} {T:Ty α} {S:Ty β} {w0 w:World} {L:List Df} {t u:TypeId} {A:Option Addr} {c n:Nat} {ly:Nat→T.Lay} {xs:List α} {x:α} {y:List β}
theorem St.lD (F:Fld T (Ty.slice u S)) (hn:xs[n]?=some x) (HS:St w0 w (Own T t A c ly xs::L)):St w0 w (Own S u (F.Pi (ly n)).A (F.Pi (ly n)).c (F.Pi (ly n)).ly (F.get x)::nP F t A c ly xs n x::L):=St.focus F HS hn
theorem St.Zv (F:Fld T (Ty.slice u S)) (hn:xs[n]?=some x) (hc:T.cells (ly n) (F.set x y)=T.cells (ly n) x) (HS:St w0 w (Own S u (F.Pi (ly n)).A (F.Pi (ly n)).c (F.Pi (ly n)).ly y::nP F t A c ly xs n x::L)):St w0 w (Own T t A c ly (xs.set n (F.set x y))::L):=St.oC F HS hn hc
end
section
variable {α:Type} {T:Ty α} {P:Program} {N:Nat} {e:Env} {w0 w:World} {L:List Df} {Q:Act→World→Prop} {ops:Array Oper} {i d:Nat} {rest:List Nat} {ty:TypeId} {ps:String} {af:Array Edge}
end
def seq (a b:ByteArray):Bool:=a.toList == b.toList
section
variable {P:Program} {N:Nat} {e:Env} {w0 w:World} {L:List Df} {Q:Act→World→Prop} {ops:Array Oper} {i d:Nat} {rest:List Nat} {ty:TypeId} {ps:String} {af:Array Edge} {t t':TypeId} {x y z:Operand} {a b:ByteArray}
theorem Rx {k:IntKind} {u v:Int} (ht:P.underlying t=some (.int k)) (dp:Nat) (w:World):(Op.equalIn (dp+1) t (.int k u) (.int k v)).run P w=.ok (u == v) w:=by simp [Op.equalIn,run_underlying ht]
theorem oD {f0 f1 : Field} {a0 a1 b0 b1 : Int} (hu : P.underlying t = some (.struct #[f0, f1])) (hs : P.stoodInHeld t = false) (hn : (f0.name ≠ "_" ∧ f1.name ≠ "_") ∧ f0.offset = 0 ∧ f1.offset = 1) (t0 : P.underlying f0.type = some (.int .i64)) (t1 : P.underlying f1.type = some (.int .i64)) (n0 : naB P f0.type = true) (n1 : naB P f1.type = true) :
    (Op.equal t (.agg [.int .i64 a0,.int .i64 a1].toArray) (.agg [.int .i64 b0,.int .i64 b1].toArray)).run P w=.ok (decide ((a0,a1)=(b0,b1))) w:=by
  show (Op.equalIn (9999+1) t _ _).run P w=_
  have hf:P.fieldsOf t=#[f0,f1]:=by simp [Program.fieldsOf,hu]
  rw [run_equalIn_struct w 9999 t _ _ (by rw [hf]; exact hu) hs,hf]
  have e:(9999:Nat)=9998+1:=rfl
  rw [e]
  by_cases h0:a0=b0 <;> by_cases h1:a1=b1 <;> simp [Op.eqFields,part,h0,h1,hn.1.1,hn.1.2,hn.2.1,hn.2.2,Ow n0,Ow n1,Rx t0,Rx t1]
theorem GO.uH {vs us:List Value} {r:Bool} (ho:ops[i]?=some ⟨some d,.binOp .eql t x y t',ty,ps,af,none⟩) (hx:ev e x=some (.agg vs.toArray)) (hy:ev e y=some (.agg us.toArray)) (hg:P.eqGuardType P.depth t=false) (hr:∀ w,(Op.equal t (.agg vs.toArray) (.agg us.toArray)).run P w=.ok r w) (hN:Nat.blt d N=true) (g:GO P N ops rest ((d,.bool r)::e) w Q):GO P N ops (i::rest) e w Q :=
  GO.val _ ho rfl rfl hN (fun a hs=>by
    have h1:=hr w
    simp [execOp,hs.ev hx,hs.ev hy,eqGuard,binOp,Sem.program,hg,h1]) g
theorem GO.uW {vs us:List Value} {r:Bool} (ho:ops[i]?=some ⟨some d,.binOp .neq t x y t',ty,ps,af,none⟩) (hx:ev e x=some (.agg vs.toArray)) (hy:ev e y=some (.agg us.toArray)) (hg:P.eqGuardType P.depth t=false) (hr:∀ w,(Op.equal t (.agg vs.toArray) (.agg us.toArray)).run P w=.ok r w) (hN:Nat.blt d N=true) (g:GO P N ops rest ((d,.bool (!r))::e) w Q):GO P N ops (i::rest) e w Q :=
  GO.val _ ho rfl rfl hN (fun a hs=>by
    have h1:=hr w
    simp [execOp,hs.ev hx,hs.ev hy,eqGuard,binOp,Sem.program,hg,h1]) g
theorem Ce.take {α:Type} {T:Ty α} {w0:World} {L:List Df} {A:Option Addr} {c h:Nat} {ly:Nat→T.Lay} {xs:List α} (hr:Ce w0 L T A c ly xs) (hh:h≤xs.length):Ce w0 L T A c ly (xs.take h):=fun w hs=>by
  have h0:=hr w hs
  have hl:(xs.take h).length=h:=by rw [List.length_take]; omega
  refine ⟨by rw [hl]; exact Nat.le_trans hh h0.1,h0.2.1,fun hp=>h0.2.2.1 (by omega),fun j u hu=>h0.2.2.2.1 j u ?_,fun i x hx=>h0.2.2.2.2 i x ?_⟩
  · have:rc T ly 0 xs=rc T ly 0 (xs.take h)++rc T ly (0+(xs.take h).length) (xs.drop h):=by rw [← Ip,List.take_append_drop]
    rw [this]
    exact List.getElem?_append_left (List.getElem?_eq_some_iff.1 hu).1 ▸ hu
  · rw [List.getElem?_take] at hx
    split at hx
    · exact hx
    · cases hx
theorem GO.iH {el:TypeId} {b n sz m:Nat} {kh:IntKind} {h:Int} (ho:ops[i]?=some ⟨some d,.slice t x none (some z) none,ty,ps,af,none⟩) (hx:ev e x=some (.pointer (some ⟨b,0,none⟩))) (hz:ev e z=some (.int kh h)) (ht:P.underlying t=some (.array n el)) (hsz:(P.info? el).map (·.size)=some sz) (h1:0≤h∧h≤(n:Int)) (hm:h.toNat=m)
    (hN:Nat.blt d N=true) (g:GO P N ops rest ((d,.slice (some ⟨b,0,none⟩) m n)::e) w Q):GO P N ops (i::rest) e w Q :=
  GO.val _ ho rfl rfl hN (fun a hs=>by
    obtain ⟨inf,hi,hi2⟩:=Option.map_eq_some_iff.1 hsz
    have eh:(h.toNat:Int)=h:=Int.toNat_of_nonneg h1.1
    simp [execOp,hs.ev hx,hs.ev hz,Instr.sliceAt,Instr.sureAddr,Instr.sliceBounds,run_sliceBound,run_underlying ht,sizeOf,typeInfo,hi,h1.1,h1.2,hm,Addr.add]) g
theorem fG {α:Type} {xs:List α} {h:Nat} (hh:h≤xs.length):h=(xs.take h).length:=by rw [List.length_take]; omega
theorem rH {α:Type} {xs ys:List α} {h:Nat} (e:ys.length=xs.length):((xs.take h).drop 0).length=((ys.take h).drop 0).length:=by rw [List.drop_zero,List.drop_zero,List.length_take,List.length_take,e]
section
variable {α:Type} {T:Ty α} {A:Option Addr} {c:Nat} {ly:Nat→T.Lay} {xs:List α} {t el:TypeId} {kl kh km:IntKind} {l h m:Int}
theorem pU {inf:TypeInfo} {n1:Nat} (ht:P.underlying t=some (.slice el)) (hi:P.info? el=some inf) (h0:0≤l) (h1:l≤h) (hc:h≤(c:Int)) :
    (Instr.sliceAt t (.slice A n1 c) (some (.int kl l)) (some (.int kh h)) none).run P w=.ok (.slice (Jl A l.toNat c inf.size) (h.toNat - l.toNat) (c - l.toNat)) w:=by
  have eh:(h.toNat:Int)=h:=Int.toNat_of_nonneg (by omega)
  have he:P.elem t=el:=by simp [Program.elem,ht]
  have ht':P.underlying t=some (.slice (P.elem t)):=by rw [he]; exact ht
  have hs:(sizeOf (P.elem t)).run P w=.ok inf.size w:=by rw [he]; simp [sizeOf,typeInfo,hi]
  have h4:0≤h:=by omega
  have hN:l.toNat≤h.toNat∧h.toNat≤c:=by omega
  rw [run_sliceAt_slice (h:=ht')]
  simp [Instr.slice,run_underlying ht',Instr.sliceBounds,run_sliceBound,hs,Jl,h0,h1,h4,hc,eh,hN]
theorem nE {inf:TypeInfo} {n1:Nat} (ht:P.underlying t=some (.slice el)) (hi:P.info? el=some inf) (h0:0≤l) (h1:l≤h) (h2:h≤m) (hc:m≤(c:Int)) :
    (Instr.sliceAt t (.slice A n1 c) (some (.int kl l)) (some (.int kh h)) (some (.int km m))).run P w=.ok (.slice (Jl A l.toNat m.toNat inf.size) (h.toNat - l.toNat) (m.toNat - l.toNat)) w:=by
  have eh:(h.toNat:Int)=h:=Int.toNat_of_nonneg (by omega)
  have em:(m.toNat:Int)=m:=Int.toNat_of_nonneg (by omega)
  have he:P.elem t=el:=by simp [Program.elem,ht]
  have ht':P.underlying t=some (.slice (P.elem t)):=by rw [he]; exact ht
  have hs:(sizeOf (P.elem t)).run P w=.ok inf.size w:=by rw [he]; simp [sizeOf,typeInfo,hi]
  have h4:0≤h:=by omega
  have h5:0≤m:=by omega
  rw [run_sliceAt_slice (h:=ht')]
  simp [Instr.slice,run_underlying ht',Instr.sliceBounds,run_sliceBound,hs,Jl,h0,h1,h2,h4,h5,hc,eh,em]
theorem GO.slM {z2:Operand} {n1:Nat} (ho:ops[i]?=some ⟨some d,.slice t x (some y) (some z) (some z2),ty,ps,af,none⟩) (hx:ev e x=some (.slice A n1 c)) (hy:ev e y=some (.int kl l)) (hz:ev e z=some (.int kh h)) (hz2:ev e z2=some (.int km m)) (ht:P.underlying t=some (.slice el)) {sz:Nat} (hsz:(P.info? el).map (·.size)=some sz) (h0:0≤l∧l≤h) (h2:h≤m) (hc:m≤(c:Int)) (hN:Nat.blt d N=true)
    (g:GO P N ops rest ((d,.slice (Jl A l.toNat m.toNat sz) (h.toNat - l.toNat) (m.toNat - l.toNat))::e) w Q):GO P N ops (i::rest) e w Q:=by
  obtain ⟨inf,hi,hi2⟩:=Option.map_eq_some_iff.1 hsz
  refine GO.val _ ho rfl rfl hN (fun a hs=>?_) g
  have:=nE (P:=P) (w:=w) (A:=A) (n1:=n1) (kl:=kl) (kh:=kh) (km:=km) ht hi h0.1 h0.2 h2 hc
  simp [execOp,hs.ev hx,hs.ev hy,hs.ev hz,hs.ev hz2,this,hi2]
theorem GO.zB {n1:Nat} (hr:xs.length≤c) (ho:ops[i]?=some ⟨some d,.slice t x (some y) (some z) none,ty,ps,af,none⟩) (hx:ev e x=some (.slice (Jl A 0 c T.sz) n1 (c - 0))) (hy:ev e y=some (.int kl l)) (hz:ev e z=some (.int kh h)) (ht:P.underlying t=some (.slice el)) (hsz:(P.info? el).map (·.size)=some T.sz) (h0:0≤l∧l≤h) (h2:0≤h∧h≤(xs.length:Int)) (hN:Nat.blt d N=true)
    (g:GO P N ops rest ((d,.slice (Jl A l.toNat c T.sz) ((xs.take h.toNat).drop l.toNat).length (c - l.toNat))::e) w Q):GO P N ops (i::rest) e w Q:=by
  obtain ⟨inf,hi,hi2⟩:=Option.map_eq_some_iff.1 hsz
  rw [Wy,Nat.sub_zero] at hx
  refine GO.val _ ho rfl rfl hN (fun a hs=>?_) g
  have:=pU (P:=P) (w:=w) (A:=A) (c:=c) (n1:=n1) (kl:=kl) (kh:=kh) ht hi h0.1 h0.2 (by omega)
  simp [execOp,hs.ev hx,hs.ev hy,hs.ev hz,this,hi2,fB h0.1 h0.2 h2.2]
theorem iF {α:Type} {xs:List α} {i l:Nat} (h:i≤l) (hl:l≤xs.length):(over xs i (xs.drop l)).length=xs.length:=Kw (by rw [List.length_drop]; omega)
theorem GO.uD {tb:TypeId} {j i1 l1 n1 n2:Nat} {z0:Value} {bytes:Nat} (HS:St w0 w L) (hj:L[j]?=some (Own T tb A c ly xs)) (hfl:Flat T) (hly:∀ k k',ly k=ly k') (ho:ops[i]?=some ⟨some d,.call { callee:=.builtin .append,args:=#[x,y],argTypes:=#[t,t] },ty,ps,af,none⟩) (hx:ev e x=some (.slice (Jl A 0 c T.sz) n1 (c - 0))) (hy:ev e y=some (.slice (Jl A l1 c T.sz) n2 (c - l1))) (e1:n1=i1) (e2:n2=xs.length - l1)
    (ht:P.underlying t=some (.slice el)) (hinf:(P.info? el).map (fun i=>(i.zero,i.size,i.bytes))=some (some z0,T.sz,bytes)) (hil:i1≤l1) (hl:l1≤xs.length) (hN:Nat.blt d N=true)
    (g:∀ w',St w0 w' (L.set j (Own T tb A c ly (over xs i1 (xs.drop l1))))→GO P N ops rest ((d,.slice (Jl A 0 c T.sz) (((over xs i1 (xs.drop l1)).take (i1+(xs.length - l1))).drop 0).length (c - 0))::e) w' Q):GO P N ops (i::rest) e w Q:=by
  obtain ⟨inf,hi,hzz⟩:=Option.map_eq_some_iff.1 hinf
  simp only [Prod.mk.injEq] at hzz
  obtain ⟨hz0,hz1,hz2⟩:=hzz
  subst e1
  subst e2
  have hdl:(xs.drop l1).length=xs.length - l1:=List.length_drop ..
  have hol:(over xs n1 (xs.drop l1)).length=xs.length:=Kw (by rw [hdl]; omega)
  have hlen:(((over xs n1 (xs.drop l1)).take (n1+(xs.length - l1))).drop 0).length=n1+(xs.length - l1):=by rw [List.drop_zero,List.length_take,hol]; omega
  rw [hlen] at g
  rw [Wy,Nat.sub_zero] at g hx
  have hR:=(Ce.own hj) w HS
  have hcap:=hR.1
  rcases Nat.eq_zero_or_pos (xs.length - l1) with h0 | h0
  · have hd0:xs.drop l1=[]:=List.eq_nil_of_length_eq_zero (by rw [hdl]; exact h0)
    have ho':over xs n1 (xs.drop l1)=xs:=by rw [hd0]; unfold over; simp
    rw [ho',Pg hj] at g
    refine GO.val _ ho rfl rfl hN (fun a hs=>?_) (g w HS)
    have hroom:n1≤c:=by omega
    cases A <;> cases hB:Jl _ l1 c T.sz <;> rw [hB] at hy <;> simp [execOp,resolve,invoke,builtin,hs.ev hx,hs.ev hy,Builtin.append_,run_underlying ht,sizeOf,typeInfo,hi,Builtin.lenOf,h0,hroom,Builtin.firstCells,loadCells,loadCellsFrom,storeCells]
  · obtain ⟨gb,og,cur,hA,hh,hfit,hst⟩:=HS.Xt (g:=0) (o:=0) (ys:=xs.drop l1) (l:=n1) hj hfl hly (by rw [hdl]; omega) (by rw [hdl]; exact h0)
    subst hA
    have hne:¬ c=l1:=by omega
    have hB:Jl (some ⟨gb,og,none⟩) l1 c T.sz=some ⟨gb,og+l1 * T.sz,none⟩:=by unfold Jl; rw [if_neg hne,Option.map_some,Ii]
    rw [hB] at hy
    have hcells:rc T ly 0 (xs.drop l1)=(rc T ly 0 xs).drop (l1 * T.sz):=by
      have h3:rc T ly 0 xs=rc T ly 0 (xs.take l1)++rc T ly (0+(xs.take l1).length) (xs.drop l1):=by rw [← Ip,List.take_append_drop]
      have htl:(xs.take l1).length=l1:=by rw [List.length_take]; omega
      have h4:(rc T ly 0 (xs.take l1)).drop (l1 * T.sz)=[]:=List.drop_of_length_le (by rw [F7,htl]; exact Nat.le_refl _)
      rw [h3,List.drop_append,h4,F7,htl,Nat.sub_self,List.drop_zero,List.nil_append]
      have:∀ (i j:Nat) (zs:List α),rc T ly i zs=rc T ly j zs:=by
        intro i j zs
        induction zs generalizing i j with
        | nil=>rfl
        | cons z zs ih=>rw [rc,rc,hly i j,ih (i+1) (j+1)]
      exact this _ _ _
    have hload:(loadCells ⟨gb,og+l1 * T.sz,none⟩ ((xs.length - l1) * T.sz)).run P w=.ok (rc T ly 0 (xs.drop l1)).toArray w:=by
      have:=run_loadCells_list (P:=P) w ⟨gb,og+l1 * T.sz,none⟩ (rc T ly 0 (xs.drop l1)) (fun q v hv=>by
        rw [hcells,List.getElem?_drop] at hv
        have:=hR.2.2.2.1 _ _ hv
        rw [Rm,Ii] at this
        rw [Ii,Nat.add_assoc]
        exact this)
      rwa [F7,hdl] at this
    have hsto:=run_storeCells_at P gb (og+n1 * T.sz) tb (rc T ly 0 (xs.drop l1)) 0 cur w hh (by rw [F7]; omega) (fun u hu=>Vw hu)
    simp only [Nat.add_zero] at hsto
    have hroom:n1+(xs.length - l1)≤c:=by omega
    refine GO.val _ ho rfl rfl hN (fun a hs=>?_) (g _ hst)
    have had:(⟨gb,og,none⟩:Addr).add (n1 * T.sz)=⟨gb,og+n1 * T.sz,none⟩:=Ii ..
    simp [execOp,resolve,invoke,builtin,hs.ev hx,hs.ev hy,Builtin.append_,run_underlying ht,sizeOf,typeInfo,hi,hz1,Builtin.lenOf,hroom,Builtin.firstCells,hload,had,hsto,splice]
end
end
section
variable {P:Program} {N:Nat} {e:Env} {w:World} {Q:Act→World→Prop} {ops:Array Oper} {i d:Nat} {rest:List Nat} {ty:TypeId} {ps:String} {af:Array Edge} {x y:Operand} {a b:ByteArray}
theorem GO.En {A:Addr} (ho:ops[i]?=some ⟨some d,.nilCheck x,ty,ps,af,none⟩) (hx:ev e x=some (.pointer (some A))) (hN:Nat.blt d N=true) (g:GO P N ops rest ((d,.pointer (some A))::e) w Q):GO P N ops (i::rest) e w Q :=
  GO.val _ ho rfl rfl hN (fun a' hs=>by simp [execOp,hs.ev hx]) g
end
theorem OR.Aaa {w:World} {t:TypeId} {sz n c l k m:Nat} {A:Option Addr} {xs:List Value} (h:OR w t sz (.slice A n c) n xs) (hl:l+k≤n) (hk:l+k≤m) (hm:m≤c):OR w t sz (.slice (Jl A l m sz) k (m - l)) k ((xs.drop (l * sz)).take (k * sz)):=by
  have hmul:(l+k) * sz≤n * sz:=Nat.mul_le_mul_right _ hl
  rw [Nat.add_mul] at hmul
  refine ⟨by rw [List.length_take,List.length_drop,h.1]; omega,?_⟩
  unfold Jl
  rcases h.2 with ⟨h2,h0⟩ | ⟨g,o,cap,cur,hv,hh,hnc,hcm,hsz,htk⟩
  · injection h2 with hA _ hcc
    subst hA
    subst hcc
    refine .inl ⟨?_,by omega⟩
    rw [show k=0 by omega,show m - l=0 by omega]
    split <;> rfl
  · injection hv with hA _ hcc
    subst hA
    subst hcc
    by_cases hcl:m=l
    · rw [if_pos hcl]
      have hm0:k=0:=by omega
      subst hm0
      exact .inr ⟨g,o,m - l,cur,rfl,hh,by omega,by omega,by rw [show m - l=0 by omega]; omega,by simp⟩
    · rw [if_neg hcl]
      have hmul2:(l+(m - l)) * sz≤c * sz:=Nat.mul_le_mul_right _ (by omega)
      rw [Nat.add_mul] at hmul2
      refine .inr ⟨g,o+l * sz,m - l,cur,by rw [Option.map_some,Ii],hh,by omega,by omega,by omega,?_⟩
      rw [← htk,← List.drop_drop,List.drop_take,List.take_take]
      congr 1
      omega
theorem Iq.shift {α:Type} {T:Ty α} {w:World} {ly:Nat→T.Lay} {l:Nat}:∀ {xs:List α} {i:Nat} {q:Nat→Prop},Iq T w ly (l+i) xs q→Iq T w (fun k=>ly (l+k)) i xs q
  | [],_,_,_=>trivial
  | _::_,_,_,⟨q0,q1,h0,h1,hd,hx,hs⟩=>⟨q0,q1,h0,h1,hd,hx,Iq.shift hs⟩
theorem Yv {A:Option Addr} {l m s n n' c c' k:Nat} (h:(Value.slice (Jl A l m s) n c).ownBlock=some k):(Value.slice A n' c').ownBlock=some k:=by
  unfold Jl at h
  split at h
  · cases A with
    | none=>simp [Value.ownBlock] at h
    | some a=>simpa [Value.ownBlock] using h
  · cases A with
    | none=>simp [Value.ownBlock] at h
    | some a =>
      have:(a.add (l * s)).block=a.block:=by unfold Addr.add; split <;> rfl
      simpa [Value.ownBlock,this] using h
section
variable {α:Type} {T:Ty α} {w0 w:World} {L:List Df} {t:TypeId} {A A':Option Addr} {c c' j l h m:Nat} {ly:Nat→T.Lay} {xs:List α}
theorem vY (hlh:l≤h) (hh:h≤xs.length):rc T (fun k=>ly (l+k)) 0 ((xs.take h).drop l)=((rc T ly 0 xs).drop (l * T.sz)).take ((h - l) * T.sz):=by
  have hsplit:xs=xs.take l++((xs.take h).drop l++xs.drop h):=by
    rw [List.drop_take]
    have:List.take (h - l) (List.drop l xs)++List.drop h xs=List.drop l xs:=by
      rw [show h=l+(h - l) by omega,← List.drop_drop,show l+(h - l) - l=h - l by omega,List.take_append_drop]
    rw [this,List.take_append_drop]
  have htl:(xs.take l).length=l:=by rw [List.length_take]; omega
  have hml:((xs.take h).drop l).length=h - l:=by rw [List.length_drop,List.length_take]; omega
  rw [U1,Nat.add_zero]
  conv=>rhs; rw [hsplit,Ip,Ip,htl,Nat.zero_add]
  rw [List.drop_left' (by rw [F7,htl]),List.take_left' (by rw [F7,hml])]
theorem St.bV (HS:St w0 w L) (hj:L[j]?=some (Own T t A c ly xs)) (hlh:l≤h) (hh:h≤xs.length) (hhm:h≤m) (hm:m≤c) (hA:A'=Jl A l m T.sz) (hc:c'=m - l):St w0 w (L.set j (Own T t A' c' (fun k=>ly (l+k)) ((xs.take h).drop l))):=by
  subst hA
  subst hc
  have hml:((xs.take h).drop l).length=h - l:=by rw [List.length_drop,List.length_take]; omega
  refine HS.upd hj (Nat.le_refl _) rfl rfl rfl (fun q ho=>?_)
  obtain ⟨q1,q2,h1,h2,hd,hown,hb,hs⟩:=ho
  refine ⟨q,fun k hk=>.inl hk,⟨q1,q2,h1,h2,hd,?_,fun k hk=>hb k (Yv hk),?_⟩,fun k _ _=>rfl⟩
  · rw [hml,vY hlh hh]
    exact hown.Aaa (by omega) (by omega) hm
  · have hsplit:xs=xs.take l++((xs.take h).drop l++xs.drop h):=by
      rw [List.drop_take]
      have:List.take (h - l) (List.drop l xs)++List.drop h xs=List.drop l xs:=by
        rw [show h=l+(h - l) by omega,← List.drop_drop,show l+(h - l) - l=h - l by omega,List.take_append_drop]
      rw [this,List.take_append_drop]
    have htl:(xs.take l).length=l:=by rw [List.length_take]; omega
    rw [hsplit] at hs
    obtain ⟨_,qb,_,hqb,_,_,s2⟩:=Iq.cut hs
    obtain ⟨qc,_,hqc,_,_,s3,_⟩:=Iq.cut s2
    rw [htl,Nat.zero_add] at s3
    exact (Iq.shift (i:=0) s3).more (fun k hk=>hqb k (hqc k hk))
end
section
variable {α:Type} {P:Program} {N:Nat} {e:Env} {w0 w:World} {L:List Df} {Q:Act→World→Prop} {ops:Array Oper} {i d:Nat} {rest:List Nat} {ty:TypeId} {ps:String} {af:Array Edge} {t el:TypeId} {x z z2:Operand} {A:Option Addr} {c:Nat} {kh km:IntKind} {h m:Int} {xs:List α}
end
theorem Z {α:Sort _} {a:α}:a=a:=rfl
theorem tT {p:Prop} [h:Decidable p] (c:p):decide p=true:=decide_eq_true c
theorem tF {p:Prop} [h:Decidable p] (c:¬ p):decide p=false:=decide_eq_false c
theorem nT {p:Prop} [h:Decidable p] (c:p):(!decide p)=false:=congrArg Bool.not (decide_eq_true c)
theorem nF {p:Prop} [h:Decidable p] (c:¬ p):(!decide p)=true:=congrArg Bool.not (decide_eq_false c)
theorem sI {α:Type _} {a b:α} (h:some a=some b):a=b:=Option.some.inj h
theorem bI {α β:Type _} {o:Option α} {f:α→Option β} {b:β} (h:o.bind f=some b):∃ a,o=some a∧f a=some b:=Option.bind_eq_some_iff.1 h
abbrev I (x:Int):Value:=.int .i64 x
abbrev Jq (w0:World) (L:List Df) (r1:Int) (en:Ending) (w:World):Prop:=en=.returned (.int .i64 r1)∧St w0 w (L)
abbrev Js (w0:World) (L:List Df) (r1:Bool) (en:Ending) (w:World):Prop:=en=.returned (.bool r1)∧St w0 w (L)
section
variable {P:Program} {f:FuncId} {N:Nat} {e:Env} {k:List Item} {w0 w:World} {L:List Df} {R:Ending→World→Prop} {Q:Act→World→Prop} {ops:Array Oper} {i d:Nat} {rest:List Nat} {ty:TypeId} {ps:String} {af:Array Edge}
theorem oF {o:Oper} {d j t:Nat} {b:Bool} (h:(ops[i]?,o.guard,N9 ops j,look e t,o.dst,Nat.blt d N)=(some o,some (j,b),some t,some (.bool (!b)),some d,true)) (g:GO P N ops rest ((d,undef)::e) w Q):GO P N ops (i::rest) e w Q:=by
  simp only [Prod.mk.injEq] at h
  exact GO.off h.1 h.2.1 h.2.2.1 h.2.2.2.1 h.2.2.2.2.1 h.2.2.2.2.2 g
theorem oN {o:Oper} {j t:Nat} {b:Bool} (h:(ops[i]?,o.guard,N9 ops j,look e t)=(some o,some (j,b),some t,some (.bool b))) (g:GO P N #[{ o with guard:=none }] [0] e w (fun a' w'=>wpOps P ops (fun en a w=>en=.normal∧Q a w) rest a' w')):GO P N ops (i::rest) e w Q:=by
  simp only [Prod.mk.injEq] at h
  exact GO.on h.1 h.2.1 h.2.2.1 h.2.2.2 g
theorem mV {x:Operand} {v:Value} (h:(ops[i]?,ev e x,Nat.blt d N)=(some ⟨some d,.move x,ty,ps,af,none⟩,some v,true)) (g:GO P N ops rest ((d,v)::e) w Q):GO P N ops (i::rest) e w Q:=by
  simp only [Prod.mk.injEq] at h
  exact GO.move h.1 h.2.1 h.2.2 g
theorem aS {x:Operand} {v:Value} (h:(ops[i]?,ev e x,Nat.blt d N)=(some ⟨some d,.assign x,ty,ps,af,none⟩,some v,true)) (g:GO P N ops rest ((d,v)::e) w Q):GO P N ops (i::rest) e w Q:=by
  simp only [Prod.mk.injEq] at h
  exact GO.assign h.1 h.2.1 h.2.2 g
theorem fL {s:TypeId} {x:Operand} {fi off:Nat} {ad:Addr} (b o:Nat) (hr:∀ (ad:Addr) (w:World),(Instr.fieldAt s (.pointer (some ad)) fi).run P w=.ok (.pointer (some (ad.add off))) w) (h:(ops[i]?,ev e x,ad.add off,Nat.blt d N)=(some ⟨some d,.fieldAddr s x fi,ty,ps,af,none⟩,some (.pointer (some ad)),⟨b,o,none⟩,true)) (g:GO P N ops rest ((d,.pointer (some ⟨b,o,none⟩))::e) w Q):GO P N ops (i::rest) e w Q:=by
  simp only [Prod.mk.injEq] at h
  exact GO.fld ⟨b,o,none⟩ h.1 h.2.1 hr h.2.2.1 h.2.2.2 g
theorem lB {t tb:TypeId} {x:Operand} {b off:Nat} {cs:List Value} {v:Value} (j:Nat) (HS:St w0 w L) (h:(L[j]?,ops[i]?,ev e x,cs[off]?)=(some (Box b tb cs),some ⟨some d,.load t x,ty,ps,af,none⟩,some (.pointer (some ⟨b,off,none⟩)),some v)) (ht:naB P t=true) (hN:Nat.blt d N=true) (g:GO P N ops rest ((d,v)::e) w Q):GO P N ops (i::rest) e w Q:=by
  simp only [Prod.mk.injEq] at h
  exact GO.qY HS h.1 h.2.1 h.2.2.1 h.2.2.2 ht hN g
theorem lW {t tb:TypeId} {x:Operand} {b:Nat} {cs:List Value} (j:Nat) (HS:St w0 w L) (h:(L[j]?,ops[i]?,ev e x,Nat.blt d N)=(some (Box b tb cs),some ⟨some d,.load t x,ty,ps,af,none⟩,some (.pointer (some ⟨b,0,none⟩)),true)) (ht:agB P t cs.length=true) (g:GO P N ops rest ((d,.agg cs.toArray)::e) w Q):GO P N ops (i::rest) e w Q:=by
  simp only [Prod.mk.injEq] at h
  exact GO.Gf cs HS h.1 h.2.1 h.2.2.1 (by simp) ht h.2.2.2 g
theorem sW {t tb:TypeId} {x y:Operand} {b:Nat} {cs vs:List Value} (j:Nat) (HS:St w0 w L) (h:(L[j]?,ops[i]?,ev e x,ev e y)=(some (Box b tb cs),some ⟨none,.store t x y,ty,ps,af,none⟩,some (.pointer (some ⟨b,0,none⟩)),some (.agg vs.toArray))) (ht:agB P t vs.length=true) (h1:(vs.all (·.oneCell'),Nat.beq cs.length vs.length)=(true,true)) (g:∀ w',St w0 w' (L.set j (Box b tb vs))→GO P N ops rest e w' Q):GO P N ops (i::rest) e w Q:=by
  simp only [Prod.mk.injEq] at h h1
  have hl:=Nat.eq_of_beq_eq_true h1.2
  refine GO.Kq vs HS h.1 h.2.1 h.2.2.1 h.2.2.2 rfl (htA ht) h1.1 (by rw [Nat.zero_add,hl]; exact Nat.ble_self_eq_true _) ?_ g
  unfold splice
  rw [List.take_zero,List.nil_append,Nat.zero_add,← hl,List.drop_length,List.append_nil]
theorem bA {t:TypeId} {x:Operand} {cs:List Value} (HS:St w0 w L) (h:(ops[i]?,ev e x,Nat.blt d N)=(some ⟨some d,.box t x,ty,ps,af,none⟩,some (.agg cs.toArray),true)) (g:∀ b w',St w0 w' (Box b t cs::L)→GO P N ops rest ((d,.pointer (some ⟨b,0,none⟩))::e) w' Q):GO P N ops (i::rest) e w Q:=by
  simp only [Prod.mk.injEq] at h
  exact GO.box HS h.1 h.2.1 rfl h.2.2 g
abbrev FK (P : Program) (h : FuncId) (f : Func) : Prop := P.funcs[h]? = some f ∧ (f.name == "runtime.NumGoroutine") = false ∧ f.body.isNone = false
theorem fJ {h:FuncId} {fn:Func} {args:Array Operand} {tys:Array TypeId} {vs:List Value} {R1:Ending→World→Prop} (k:FK P h fn) (hh:(ops[i]?,evs e args.toList,Nat.blt d N)=(some ⟨some d,.call { callee:=.value (.func h),args:=args,argTypes:=tys },ty,ps,af,none⟩,some vs,true)) (hc:Calls P h vs.toArray w R1) (hr:∀ en w2,R1 en w2→∃ v,en=.returned v∧GO P N ops rest ((d,v)::e) w2 Q):GO P N ops (i::rest) e w Q:=by
  simp only [Prod.mk.injEq] at hh
  exact GO.fn hh.1 k.1 k.2.1 k.2.2 hh.2.1 hh.2.2 hc hr
theorem cG {fn:Func} {c:Code} {args:List Value} (hf:P.funcs[f]?=some fn) (h:(fn.body,fn.ntmps,Nat.ble args.length N)=(some c,N,true)) (g:G P f N (start args 0) [.code c] w R):Calls P f args.toArray w R:=by
  simp only [Prod.mk.injEq] at h
  exact Calls.zX hf h.1 h.2.1 h.2.2 g
theorem kN (t:Nat) {x b:Bool} {l:List Nat} (h:look e t=some (.bool x)) (hx:x=b) (g:GO P N ops l ((t,.bool b)::e) w Q):GO P N ops l e w Q:=GO.known h hx g
end
abbrev bK:=@GO.back
abbrev rG:=@G.region
abbrev nL:=@GO.nil
abbrev rN:=@G.run
abbrev pS:=@GO.ps
abbrev iE:=@lT
abbrev iN:=@mF
abbrev rD:=@Ce.drop
abbrev rT:=@G.Aao
abbrev yB:=@G.zU
abbrev nB:=@G.noB
abbrev lS:=@GO.Aap
abbrev qL:=@GX.l0
abbrev sQ:=@G.seq
abbrev lR:=@Nat.le_refl
theorem kV {c:Prop} [Decidable c] {α:Type _} {a b r:Option α} (h:(if c then a else b)=r):(¬ c∧b=r)∨(c∧a=r):=by
  by_cases hc:c
  · exact .inr ⟨hc,by rw [if_pos hc] at h; exact h⟩
  · exact .inl ⟨hc,by rw [if_neg hc] at h; exact h⟩
abbrev iS:=@kV
theorem tv:True:=trivial
section
variable {α:Type} {T:Ty α} {t:TypeId} {w0 w:World} {L:List Df} {A A':Option Addr} {c c' m:Nat} {ly ly':Nat→T.Lay} {xs r:List α} {z:α} {l0:T.Lay} {is:List (Option Nat)}
end
abbrev Raw (n:Nat):={ v:List Value // v.length=n∧∀ u,u ∈ v→u.oneCell'=true }
def hd {α:Type} (T:Ty α) (l:T.Lay) (x:α):Raw T.sz:=⟨T.cells l x,T.len l x,fun u h=>T.one l x u h⟩
section
variable {α:Type} {T:Ty α} {t:TypeId} {w0 w:World} {L:List Df} {A A':Option Addr} {c c' m:Nat} {ly ly':Nat→T.Lay} {xs ys r:List α} {l:T.Lay} {y0:α}
end
section
variable {P:Program} {w:World} {A:Option Addr} {t el:TypeId} {kl kh:IntKind} {l h:Int} {n c:Nat}
end
section
variable {α:Type} {T:Ty α} {P:Program} {N:Nat} {e:Env} {w0 w:World} {L:List Df} {Q:Act→World→Prop} {ops:Array Oper} {i d:Nat} {rest:List Nat} {ty:TypeId} {ps:String} {af:Array Edge} {t el:TypeId} {x y z:Operand} {A:Option Addr} {n c sz:Nat} {kl kh:IntKind} {l h:Int}
end
set_option linter.unusedSectionVars false
section
variable {κ ν:Type} [DecidableEq κ]
def Lv:List (κ × ν)→κ→Option ν
  | [],_=>none
  | p::r,k=>if k=p.1 then some p.2 else Lv r k
def Qr:List (κ × ν)→κ→ν→List (κ × ν)
  | [],k,v=>[(k,v)]
  | p::r,k,v=>if k=p.1 then (k,v)::r else p::Qr r k v
def Sl:List (κ × ν)→κ→Nat→Option (Nat × ν)
  | [],_,_=>none
  | p::r,k,i=>if k=p.1 then some (i,p.2) else Sl r k (i+1)
theorem R9 {k:κ}:∀ {m:List (κ × ν)} {i:Nat},Sl m k i=none→Lv m k=none∧∀ v,Qr m k v=m++[(k,v)]
  | [],_,_=>⟨rfl,fun _=>rfl⟩
  | p::r,i,h=>by
    unfold Sl at h
    by_cases hk:k=p.1
    · rw [if_pos hk] at h; cases h
    · rw [if_neg hk] at h
      obtain ⟨h1,h2⟩:=R9 h
      exact ⟨by unfold Lv; rw [if_neg hk,h1],fun v=>by unfold Qr; rw [if_neg hk,h2 v]; rfl⟩
theorem Sj {k:κ} {n:Nat} {v0:ν}:∀ {m:List (κ × ν)} {i:Nat},Sl m k i=some (n,v0)→∃ j,n=i+j∧m[j]?=some (k,v0)∧Lv m k=some v0∧∀ v,Qr m k v=m.set j (k,v)
  | [],_,h=>by cases h
  | p::r,i,h=>by
    unfold Sl at h
    by_cases hk:k=p.1
    · rw [if_pos hk] at h
      injection h with h
      injection h with h1 h2
      subst h1; subst h2
      exact ⟨0,rfl,by rw [hk]; rfl,by unfold Lv; rw [if_pos hk],fun v=>by unfold Qr; rw [if_pos hk]; rfl⟩
    · rw [if_neg hk] at h
      obtain ⟨j,h1,h2,h3,h4⟩:=Sj h
      exact ⟨j+1,by omega,by simpa using h2,by unfold Lv; rw [if_neg hk,h3],fun v=>by unfold Qr; rw [if_neg hk,h4 v]; rfl⟩
def M0 (ke:κ→Value) (ve:ν→Value) (es:List MapEntry) (m:List (κ × ν)):Prop:=es.map (fun x=>(x.key,x.val))=m.map (fun p=>(ke p.1,ve p.2))
def O5 (b:Nat) (ke:κ→Value) (ve:ν→Value) (m:List (κ × ν)):Df where
  P:=fun w q=>q b∧∃ es clock,w.heap[b]?=some (.map es clock)∧M0 ke ve es.toList m
  loc:=fun h hk=>⟨h.1,by obtain ⟨es,c,h1,h2⟩:=h.2; exact ⟨es,c,(hk b h.1).trans h1,h2⟩⟩
  more:=fun h hq=>⟨hq b h.1,h.2⟩
structure Vs (P:Program) (kt:TypeId) (ke:κ→Value):Prop where
  eq:∀ a b w,(Op.equal kt (ke a) (ke b)).run P w=.ok (decide (a=b)) w
  now:∃ d,P.underlying kt=some d∧((∀ a b,Instr.sameNow d (ke a) (ke b)=none)∨(∀ a b,Instr.sameNow d (ke a) (ke b)=some (decide (a=b))))
  check:∀ em a w,(Instr.checkKey em 10000 kt (ke a)).run P w=.ok () w
  stays:∀ a w,(Instr.keyThatStays (ke a) (ke a)).run P w=.ok (ke a) w
variable {P:Program} {kt:TypeId} {ke:κ→Value} {ve:ν→Value} {w0 w:World} {L:List Df} {b j:Nat} {m:List (κ × ν)}
theorem Pj {e:MapEntry} {es:List MapEntry} {p:κ × ν} (h:M0 ke ve (e::es) (p::m)):e.key=ke p.1∧e.val=ve p.2∧M0 ke ve es m:=by
  unfold M0 at h
  simp only [List.map_cons,List.cons.injEq,Prod.mk.injEq] at h
  exact ⟨h.1.1,h.1.2,h.2⟩
theorem Ti {d:TypeDesc} (hn:∀ a b,Instr.sameNow d (ke a) (ke b)=some (decide (a=b))) {k:κ}:∀ {es:List MapEntry} {m:List (κ × ν)} {i:Nat},M0 ke ve es m→Instr.findNow d (ke k) es i=some ((Sl m k i).map fun p=>(p.1,ve p.2))
  | [],[],_,_=>rfl
  | [],_::_,_,h=>by cases h
  | _::_,[],_,h=>by cases h
  | e::es,p::m,i,h=>by
    obtain ⟨h1,h2,h3⟩:=Pj h
    unfold Instr.findNow Sl
    rw [h1,hn]
    by_cases hk:k=p.1
    · rw [decide_eq_true hk,if_pos hk,h2]; rfl
    · rw [decide_eq_false hk,if_neg hk]; exact Ti hn h3
theorem Sq (heq:∀ a b w,(Op.equal kt (ke a) (ke b)).run P w=.ok (decide (a=b)) w) (w1:World) {k:κ}:∀ {es:List MapEntry} {m:List (κ × ν)} {i:Nat},M0 ke ve es m→(Instr.findAsking kt (ke k) es i).run P w1=.ok ((Sl m k i).map fun p=>(p.1,ve p.2)) w1
  | [],[],_,_=>rfl
  | [],_::_,_,h=>by cases h
  | _::_,[],_,h=>by cases h
  | e::es,p::m,i,h=>by
    obtain ⟨h1,h2,h3⟩:=Pj h
    unfold Instr.findAsking Sl
    rw [h1]
    by_cases hk:k=p.1
    · simp [heq,hk,h2]
    · have ih:=Sq heq w1 (k:=k) (i:=i+1) h3
      simp [heq,hk,ih]
theorem Su (K:Vs P kt ke) {k:κ} {es:List MapEntry} (h:M0 ke ve es m):(Instr.findKey kt (ke k) es).run P w=.ok ((Sl m k 0).map fun p=>(p.1,ve p.2)) w:=by
  obtain ⟨d,hd,hn⟩:=K.now
  unfold Instr.findKey
  rcases hn with hn | hn
  · cases es with
    | nil =>
      cases m with
      | nil=>simp [run_underlying hd,Instr.findNow,Sl]
      | cons p m=>cases h
    | cons e es =>
      cases m with
      | nil=>cases h
      | cons p m =>
        have h1:=(Pj h).1
        have h2:Instr.findNow d (ke k) (e::es) 0=none:=by unfold Instr.findNow; rw [h1,hn]
        have h3:=Sq K.eq w (k:=k) (i:=0) h
        simp [run_underlying hd,h2,h3]
  · have h2:=Ti (i:=0) hn (k:=k) h
    simp [run_underlying hd,h2]
theorem St.Yw (h:St w0 w L) (ke:κ→Value) (ve:ν→Value):St w0 (w.alloc (.map #[] 0)) (O5 w.heap.size ke ve []::L) :=
  h.cons (by simp) rfl rfl rfl (fun k hk=>Below.heap_alloc w _ k hk) ⟨by simp,#[],0,heap_alloc_new w _,rfl⟩
theorem St.xD (h:St w0 w L) (hj:L[j]?=some (O5 b ke ve m)):∃ es clock,w.heap[b]?=some (.map es clock)∧M0 ke ve es.toList m:=by
  obtain ⟨q,_,h1,h2⟩:=h.get hj
  exact h2
variable {N:Nat} {e:Env} {Q:Act→World→Prop} {ops:Array Oper} {i d:Nat} {rest:List Nat} {ty:TypeId} {ps:String} {af:Array Edge} {t el:TypeId} {x y z:Operand} {key:κ} {v:ν}
theorem GO.Yw (ke:κ→Value) (ve:ν→Value) (HS:St w0 w L) (ho:ops[i]?=some ⟨some d,.makeMap t none,ty,ps,af,none⟩) (hN:Nat.blt d N=true)
    (g:∀ b w',St w0 w' (O5 b ke ve ([]:List (κ × ν))::L)→GO P N ops rest ((d,.map (some b))::e) w' Q):GO P N ops (i::rest) e w Q :=
  GO.val (.map (some w.heap.size)) ho rfl rfl hN (fun a hs=>by simp [execOp,Instr.makeMap]) (g _ _ (HS.Yw ke ve))
theorem gU (z0:ν) (K:Vs P kt ke) (HS:St w0 w L) (hj:L[j]?=some (O5 b ke ve m)) (ht:P.underlying t=some (.map kt el)) (hz:(P.info? el).map (·.zero)=some (some (ve z0))) (cm:Bool) :
    (Instr.lookup t (.map (some b)) (ke key) cm).run P w=.ok (bif cm then .tuple #[ve ((Lv m key).getD z0),.bool (Lv m key).isSome] else ve ((Lv m key).getD z0)) w:=by
  obtain ⟨es,clock,hb,hm⟩:=HS.xD hj
  obtain ⟨inf,hi,hz'⟩:=Option.map_eq_some_iff.1 hz
  have hck:=K.check es.isEmpty key w
  have hzz:(zeroValue el).run P w=.ok (ve z0) w:=by simp [zeroValue,typeInfo,hi,hz']
  have hf:=Su (w:=w) K (k:=key) hm
  cases hp:Sl m key 0 with
  | none =>
    have hg:=(R9 hp).1
    rw [hp] at hf
    cases cm <;> simp [Instr.lookup,run_underlying ht,MapKept.run_getObj_map hb,hck,hf,hzz,hg]
  | some p =>
    obtain ⟨n,v0⟩:=p
    obtain ⟨_,_,_,hg,_⟩:=Sj hp
    rw [hp] at hf
    cases cm <;> simp [Instr.lookup,run_underlying ht,MapKept.run_getObj_map hb,hck,hf,hg]
theorem GO.yR (z0:ν) (key:κ) {y':Value} (K:Vs P kt ke) (HS:St w0 w L) (hj:L[j]?=some (O5 b ke ve m)) (ho:ops[i]?=some ⟨some d,.lookup t x y false,ty,ps,af,none⟩) (hx:ev e x=some (.map (some b))) (hy:ev e y=some (ke key)) (ht:P.underlying t=some (.map kt el)) (hz:(P.info? el).map (·.zero)=some (some (ve z0))) (hN:Nat.blt d N=true)
    (hv:ve ((Lv m key).getD z0)=y') (g:GO P N ops rest ((d,y')::e) w Q):GO P N ops (i::rest) e w Q :=
  GO.val _ ho rfl rfl hN (fun a hs=>by simp [execOp,hs.ev hx,hs.ev hy,gU z0 K HS hj ht hz false,hv]) g
theorem mX (K:Vs P kt ke) (HS:St w0 w L) (hj:L[j]?=some (O5 b ke ve m)) (ht:P.underlying t=some (.map kt el)) (key:κ) (v:ν) :
    ∃ w',(Instr.mapUpdate t (.map (some b)) (ke key) (ve v)).run P w=.ok () w'∧St w0 w' (L.set j (O5 b ke ve (Qr m key v))):=by
  obtain ⟨es,clock,hb,hm⟩:=HS.xD hj
  have hck:=K.check false key w
  have hup:∀ (o:Obj),(∃ es' c',o=.map es' c'∧M0 ke ve es'.toList (Qr m key v))→St w0 { w with heap:=w.heap.setIfInBounds b o } (L.set j (O5 b ke ve (Qr m key v))):=fun o ho=>by
    obtain ⟨es',c',rfl,hm'⟩:=ho
    obtain ⟨hs1,hs2⟩:=MapKept.heap_set (w:=w) (o':=.map es' c') hb
    refine HS.upd hj (by simp) rfl rfl rfl (fun q hq=>⟨q,fun k hk=>.inl hk,⟨hq.1,es',c',hs1,hm'⟩,fun k hk hn=>hs2 k (fun e=>hn (by rw [e]; exact hq.1))⟩)
  have hf:=Su (w:=w) K (k:=key) hm
  cases hp:Sl m key 0 with
  | none =>
    have hg:=(R9 hp).2 v
    rw [hp] at hf
    refine ⟨{ w with heap:=w.heap.setIfInBounds b (.map (es.push ⟨ke key,ve v,clock⟩) (clock+1)) },?_,hup _ ⟨_,_,rfl,?_⟩⟩
    · simp [Instr.mapUpdate,run_underlying ht,MapKept.run_getObj_map hb,hck,hf,MapKept.run_setObj_map _ hb]
    · rw [hg]
      unfold M0 at hm ⊢
      simp [hm]
  | some p =>
    obtain ⟨n,v0⟩:=p
    obtain ⟨n',h1,h2,_,h4⟩:=Sj hp
    rw [Nat.zero_add] at h1
    subst h1
    rw [hp] at hf
    have hst:=K.stays key w
    have hlen:es.toList.length=m.length:=by have:=congrArg List.length hm; simpa using this
    have hlt:n<m.length:=(List.getElem?_eq_some_iff.1 h2).1
    obtain ⟨e0,he0⟩:∃ e0,es[n]?=some e0:=⟨es[n]'(by rw [← Array.length_toList,hlen]; exact hlt),Array.getElem?_eq_getElem _⟩
    have hk0:e0.key=ke key:=by
      have h5:=congrArg (fun l:List (Value × Value)=>l[n]?) hm
      have he0':es.toList[n]?=some e0:=by rw [Array.getElem?_toList]; exact he0
      simp only [List.getElem?_map,he0',h2,Option.map_some,Option.some.injEq,Prod.mk.injEq] at h5
      exact h5.1
    refine ⟨{ w with heap:=w.heap.setIfInBounds b (.map (es.modify n fun e=>{ e with key:=ke key,val:=ve v }) clock) },?_,hup _ ⟨_,_,rfl,?_⟩⟩
    · simp [Instr.mapUpdate,run_underlying ht,MapKept.run_getObj_map hb,hck,hf,he0,hk0,hst,MapKept.run_setObj_map _ hb]
    · rw [h4 v,Array.toList_modify]
      unfold M0 at hm ⊢
      apply List.ext_getElem?
      intro k
      have h5:=congrArg (fun l:List (Value × Value)=>l[k]?) hm
      simp only [List.getElem?_map] at h5 ⊢
      rw [List.getElem?_modify]
      by_cases hkn:n=k
      · subst hkn
        rw [List.getElem?_set_self hlt]
        have he0':es.toList[n]?=some e0:=by rw [Array.getElem?_toList]; exact he0
        simp [he0']
      · rw [List.getElem?_set_ne hkn]
        simp only [hkn,if_false]
        simpa using h5
theorem GO.yJ (key:κ) (v:ν) (K:Vs P kt ke) (HS:St w0 w L) (hj:L[j]?=some (O5 b ke ve m)) (ho:ops[i]?=some ⟨none,.mapUpdate t x y z,ty,ps,af,none⟩) (hx:ev e x=some (.map (some b))) (hy:ev e y=some (ke key)) (hv:ev e z=some (ve v)) (ht:P.underlying t=some (.map kt el))
    (g:∀ w',St w0 w' (L.set j (O5 b ke ve (Qr m key v)))→GO P N ops rest e w' Q):GO P N ops (i::rest) e w Q:=by
  obtain ⟨w',h1,h2⟩:=mX K HS hj ht key v
  exact GO.P7 ho rfl rfl (fun a hs=>by simp [execOp,hs.ev hx,hs.ev hy,hs.ev hv,h1]) (g w' h2)
end
section
variable {P:Program} {N:Nat} {e:Env} {w0 w:World} {L:List Df} {Q:Act→World→Prop} {ops:Array Oper} {i d:Nat} {rest:List Nat} {ty:TypeId} {ps:String} {af:Array Edge} {t el tb:TypeId} {x y:Operand} {b j o sz len:Nat} {m:Int} {kd:IntKind} {cs vs:List Value}
def se {α:Type} (i m:Int) (v c:α):α:=if m=i then v else c
theorem four {p:Nat→Prop} (h0:p 0) (h1:p 1) (h2:p 2) (h3:p 3):∀ i,i<4→p i
  | 0,_=>h0 | 1,_=>h1 | 2,_=>h2 | 3,_=>h3 | n+4,h=>absurd h (by omega)
theorem GO.ixW (ho:ops[i]?=some ⟨some d,.indexAddr t x y,ty,ps,af,none⟩) (hx:ev e x=some (.pointer (some ⟨b,o,none⟩))) (hy:ev e y=some (.int kd m)) (ht:P.underlying t=some (.array len el)) (hsz:(P.info? el).map (·.size)=some sz)
    (c:0≤m∧m<(len:Int)) (hN:Nat.blt d N=true) (g:GO P N ops rest ((d,.pointer (some ⟨b,o+m.toNat * sz,none⟩))::e) w Q):GO P N ops (i::rest) e w Q:=by
  refine GO.val _ ho rfl rfl hN (fun a hs=>?_) g
  obtain ⟨inf,hi,hi2⟩:=Option.map_eq_some_iff.1 hsz
  simp [execOp,hs.ev hx,hs.ev hy,Instr.indexAt,Instr.sureAddr,asIntOf,run_underlying ht,c.1,c.2,sizeOf,typeInfo,hi,hi2,Ii]
def col (cs:List Value) (o sz:Nat) (n:Nat):List Value:=(List.range n).map fun i=>cs.getD (o+i * sz) undef
theorem oG {n k:Nat} (hk:k<n):(col cs o sz n)[k]?=some (cs.getD (o+k * sz) undef):=by
  unfold col
  rw [List.getElem?_map,List.getElem?_range hk]; rfl
theorem Zi {n k:Nat} {u:Value} (hk:k<n) (hu:(col cs o sz n)[k]?=some u) (hne:u≠undef):cs[o+k * sz]?=some u:=by
  rw [oG hk] at hu
  injection hu with hu
  rw [List.getD_eq_getElem?_getD] at hu
  cases hc:cs[o+k * sz]? with
  | none=>rw [hc] at hu; exact absurd hu.symm hne
  | some v=>rw [hc] at hu; rw [← hu]; rfl
theorem GO.ldW (l:List Int) {kk:IntKind} (HS:St w0 w L) (hj:L[j]?=some (Box b tb cs)) (ho:ops[i]?=some ⟨some d,.load t x,ty,ps,af,none⟩) (hx:ev e x=some (.pointer (some ⟨b,o+m.toNat * sz,none⟩))) (c:0≤m∧m<(len:Int)) (hn:l.length=len) (hl:col cs o sz l.length=l.map (Value.int kk)) (ht:naB P t=true) (hN:Nat.blt d N=true)
    (g:GO P N ops rest ((d,.int kk (l.getD m.toNat 0))::e) w Q):GO P N ops (i::rest) e w Q:=by
  have hm:m.toNat<l.length:=by omega
  exact GO.qY HS hj ho hx (Zi hm (by rw [hl,List.getElem?_map,getD_some (d:=(0:Int)) hm]; rfl) (by simp [undef])) ht hN g
theorem GO.stW {v:Value} (F:Int→List Value) (HS:St w0 w L) (hj:L[j]?=some (Box b tb cs)) (ho:ops[i]?=some ⟨none,.store t x y,ty,ps,af,none⟩) (hx:ev e x=some (.pointer (some ⟨b,o+m.toNat * sz,none⟩))) (hy:ev e y=some v) (hv:v.cells=vs.toArray) (c:0≤m∧m<(len:Int))
    (ht:(naB P t && vs.length == 1 || agB P t vs.length)=true) (h1:vs.all (·.oneCell')=true) (hl:(Nat.ble (o+len * sz) cs.length && Nat.ble vs.length sz)=true) (hF:∀ i:Nat,i<len→splice cs (o+i * sz) vs=F (i:Int))
    (g:∀ w',St w0 w' (L.set j (Box b tb (F m)))→GO P N ops rest e w' Q):GO P N ops (i::rest) e w Q:=by
  rw [Bool.and_eq_true] at hl
  have h2:=Nat.le_of_ble_eq_true hl.1
  have h3:=Nat.le_of_ble_eq_true hl.2
  have hm:m.toNat<len:=by omega
  have hmm:(m.toNat+1) * sz≤len * sz:=Nat.mul_le_mul_right _ hm
  rw [Nat.succ_mul] at hmm
  have hc:=hF m.toNat hm
  rw [Int.toNat_of_nonneg c.1] at hc
  exact GO.Kq (F m) HS hj ho hx hy hv ht h1 (Nat.ble_eq_true_of_le (by omega)) hc g
end
section
variable {α:Type} {S:Ty α} {P:Program} {N:Nat} {e:Env} {w0 w:World} {L:List Df} {Q:Act→World→Prop} {ops:Array Oper} {i d:Nat} {rest:List Nat} {ty:TypeId} {ps:String} {af:Array Edge}
end
section
variable {P:Program} {kt el:TypeId}
theorem uP {k:IntKind} (hd:P.underlying kt=some (.int k)):Vs P kt (Value.int k) where
  eq:=fun a b w=>by
    have h1:=Rx (w:=w) (u:=a) (v:=b) hd 9999
    have h2:(a == b)=decide (a=b):=rfl
    rw [← h2]; exact h1
  now:=⟨_,hd,.inr fun a b=>by
    have h2:(a == b)=decide (a=b):=rfl
    simp [Instr.sameNow,h2]⟩
  check:=fun em a w=>MapKept.run_checkKey hd (by simp [MapKept.IsKey]) em 9999
  stays:=fun a w=>MapKept.run_keyThatStays (d:=.int k) (by simp [MapKept.IsKey])
end
section
variable {P:Program} {N:Nat} {e:Env} {w0 w:World} {L L':List Df} {Q:Act→World→Prop} {ops:Array Oper} {i d:Nat} {rest:List Nat} {ty:TypeId} {ps:String} {af:Array Edge} {t t' el:TypeId} {x y:Operand} {A:Option Addr} {v:Bool}
end
section
variable {α:Type} {w0 w:World} {L:List Df}
end
abbrev RV:=Option (Nat × Value × Option Value)
abbrev rv (d:Nat) (v:Value):RV:=some (d,v,none)
structure RS (N:Nat) (pre:Env) (vals:List RV) (b:Nat→Bool) (a:Act):Prop where
  sat:Sat N pre a
  on:∀ j d v o,vals[j]?=some (some (d,v,o))→b j=true→a.tmps[d]?=some v
  off:∀ j d v u,vals[j]?=some (some (d,v,some u))→b j=false→a.tmps[d]?=some u
def onE (vals:List RV):List Nat→Env→Env
  | [],pre=>pre
  | k::r,pre=>match vals[k]? with
    | some (some (d,v,_))=>(d,v)::onE vals r pre
    | _=>onE vals r pre
def Z0 (vals:List RV):List Nat→Env→Env
  | [],pre=>pre
  | k::r,pre=>match vals[k]? with
    | some (some (d,_,some u))=>(d,u)::Z0 vals r pre
    | _=>Z0 vals r pre
def oH:List RV→Env→Env
  | [],pre=>pre
  | some (d,v,_)::r,pre=>(d,v)::oH r pre
  | none::r,pre=>oH r pre
def gP:List RV→Env→Env
  | [],pre=>pre
  | some (d,_,some u)::r,pre=>(d,u)::gP r pre
  | _::r,pre=>gP r pre
def clo (ops:Array Oper):Nat→List Nat→List Nat
  | 0,S=>S
  | i+1,S=>clo ops i (bif S.any (Nat.beq i) then needs ops i++S else S)
def waits (ops:Array Oper) (j i:Nat):Bool:=(clo ops j (needs ops j)).any (Nat.beq i)
structure RQ (ops:Array Oper) (j:Nat) (b:Nat→Bool):Prop where
  lt:j<ops.size
  hb:b j=false
  hd:∀ i ∈ needs ops j,b i=true
  hcl:∀ m,m<ops.size→b m=true→∀ i ∈ needs ops m,b i=true
section
variable {P:Program} {f:FuncId} {N:Nat} {e:Env} {k:List Item} {w:World} {R:Ending→World→Prop} {ops:Array Oper} {Q:Act→World→Prop} {b:Nat→Bool} {j:Nat}
theorem iY (hcl:∀ m,m<ops.size→b m=true→∀ i ∈ needs ops m,b i=true):∀ (n:Nat) (S:List Nat),n≤ops.size→(∀ i ∈ S,b i=true)→∀ i ∈ clo ops n S,b i=true
  | 0,S,_,h,i,hi=>h i hi
  | n+1,S,hn,h,i,hi=>by
    unfold clo at hi
    refine iY hcl n _ (by omega) ?_ i hi
    cases hc:S.any (Nat.beq n) with
    | false=>exact h
    | true =>
      obtain ⟨x,hx,he⟩:=List.any_eq_true.1 hc
      have:n=x:=Nat.eq_of_beq_eq_true he
      subst this
      intro m hm
      rcases List.mem_append.1 hm with hm | hm
      · exact hcl n (by omega) (h n hx) m hm
      · exact h m hm
theorem Zf (hcl:∀ m,m<ops.size→b m=true→∀ i ∈ needs ops m,b i=true) {i:Nat} (hj:j≤ops.size) (hd:∀ i ∈ needs ops j,b i=true) (h:waits ops j i=true):b i=true:=by
  obtain ⟨x,hx,he⟩:=List.any_eq_true.1 h
  rw [Nat.eq_of_beq_eq_true he]
  exact iY hcl j _ hj hd x hx
theorem RQ.on (q:RQ ops j b) (i:Nat) (h:waits ops j i=true:=by kernel_rfl):b i=true:=Zf q.hcl (Nat.le_of_lt q.lt) q.hd h
theorem RQ.no (q:RQ ops j b) (i:Nat) (hi:b i=true) (h:(Nat.blt i ops.size && waits ops i j)=true:=by kernel_rfl):False:=by
  rw [Bool.and_eq_true] at h
  have h1:i<ops.size:=Nat.le_of_ble_eq_true h.1
  have:=Zf q.hcl (Nat.le_of_lt h1) (q.hcl i h1 hi) h.2
  rw [q.hb] at this
  cases this
theorem RQ.off (q:RQ ops j b) (i:Nat) (h:(Nat.blt i ops.size && waits ops i j)=true:=by kernel_rfl):b i=false:=by
  cases hi:b i with
  | false=>rfl
  | true=>exact (q.no i hi h).elim
theorem G.Q6 {id:Nat} (hm:P.follows .mixedOrders=true) (hfw:forward ops=true) (I:(Nat→Bool)→Act→World→Prop) (h0:∀ a,Sat N e a→I (fun _=>false) a w.drew)
    (hstep:∀ j b a w,j<ops.size→I b a w→RQ ops j b→wpOps P ops (fun en a' w'=>en=.normal∧I (upd b j) a' w') [j] a w)
    (hend:∀ b a w,(∀ j,j<ops.size→b j=true)→I b a w→K4 P f k R a w):G P f N e (.code (.region id ops true)::k) w R :=
  G.Wv hm hfw I h0 (fun j hj b a w hI hb hd hcl=>hstep j b a w hj hI ⟨hj,hb,hd,hcl⟩) hend
theorem Wq:∀ {vals:List RV} {pre:Env} {j d:Nat} {v u:Value},vals[j]?=some (some (d,v,some u))→(d,u) ∈ gP vals pre
  | [],_,_,_,_,_,h=>by simp at h
  | x::r,pre,0,d,v,u,h=>by
    have:x=some (d,v,some u):=by simpa using h
    subst this
    exact List.mem_cons_self
  | x::r,pre,j+1,d,v,u,h=>by
    have ih:=Wq (pre:=pre) (by simpa using h:r[j]?=some (some (d,v,some u)))
    match x with
    | none=>exact ih
    | some (_,_,none)=>exact ih
    | some (_,_,some _)=>exact List.mem_cons_of_mem _ ih
theorem Mt:∀ {vals:List RV} {pre:Env} {p:Nat × Value},p ∈ pre→p ∈ gP vals pre
  | [],_,_,h=>h
  | none::r,_,_,h=>Mt (vals:=r) h
  | some (_,_,none)::r,_,_,h=>Mt (vals:=r) h
  | some (_,_,some _)::r,_,_,h=>List.mem_cons_of_mem _ (Mt (vals:=r) h)
theorem Uy:∀ {e:Env} {t:Nat} {v:Value},look e t=some v→(t,v) ∈ e
  | [],_,_,h=>by cases h
  | p::r,t,v,h=>by
    simp only [look] at h
    cases hb:Nat.beq p.1 t with
    | true =>
      rw [hb] at h
      have:p.1=t:=Nat.eq_of_beq_eq_true hb
      subst this
      cases h
      exact List.mem_cons_self
    | false =>
      rw [hb] at h
      exact List.mem_cons_of_mem _ (Uy h)
theorem Qs {α β:Type _} {F G:α→β}:∀ {l:List α},l.map F=l.map G→∀ x ∈ l,F x=G x
  | [],_,_,h=>by cases h
  | y::r,h,x,hx=>by
    rw [List.map_cons,List.map_cons] at h
    injection h with h1 h2
    rcases List.mem_cons.1 hx with rfl | hx
    · exact h1
    · exact Qs h2 x hx
theorem Sat.init {a:Act} {pre:Env} {vals:List RV} (hs:Sat N e a) (h:(gP vals pre).map (fun p=>look e p.1)=(gP vals pre).map (fun p=>some p.2)):RS N pre vals (fun _=>false) a where
  sat:=⟨hs.defers,hs.size,fun t v ht=>hs.at_ t v (Qs h (t,v) (Mt (Uy ht)))⟩
  on:=fun _ _ _ _ _ h=>Bool.noConfusion h
  off:=fun j d v u hv _=>hs.at_ d u (Qs h (d,u) (Wq hv))
theorem Sat.cons {a:Act} {d:Nat} {v:Value} (hs:Sat N e a) (h:a.tmps[d]?=some v):Sat N ((d,v)::e) a:=⟨hs.defers,hs.size,fun t u ht=>by
  simp only [look] at ht
  cases hb:Nat.beq d t with
  | true =>
    rw [hb] at ht
    have:d=t:=Nat.eq_of_beq_eq_true hb
    subst this
    cases ht
    exact h
  | false =>
    rw [hb] at ht
    exact hs.at_ t u ht⟩
theorem RS.onE {pre:Env} {vals:List RV} {a:Act} (hs:RS N pre vals b a):∀ (ks:List Nat) (e:Env),(∀ k ∈ ks,b k=true)→Sat N e a→Sat N (Go.Proofs.YtgkgmhkgahalgaaGreat.onE vals ks e) a
  | [],e,_,h=>h
  | k::r,e,hk,h=>by
    have ih:=RS.onE hs r e (fun k hk'=>hk k (List.mem_cons_of_mem _ hk')) h
    unfold Go.Proofs.YtgkgmhkgahalgaaGreat.onE
    split
    · rename_i d v o hv
      exact ih.cons (hs.on k d v o hv (hk k List.mem_cons_self))
    · exact ih
theorem RS.Z0 {pre:Env} {vals:List RV} {a:Act} (hs:RS N pre vals b a):∀ (ks:List Nat) (e:Env),(∀ k ∈ ks,b k=false)→Sat N e a→Sat N (Go.Proofs.YtgkgmhkgahalgaaGreat.Z0 vals ks e) a
  | [],e,_,h=>h
  | k::r,e,hk,h=>by
    have ih:=RS.Z0 hs r e (fun k hk'=>hk k (List.mem_cons_of_mem _ hk')) h
    unfold Go.Proofs.YtgkgmhkgahalgaaGreat.Z0
    split
    · rename_i d v u hv
      exact ih.cons (hs.off k d v u hv (hk k List.mem_cons_self))
    · exact ih
theorem RS.all {pre:Env} {vals:List RV} {a:Act} (hs:RS N pre vals b a) (hall:∀ j,j<ops.size→b j=true) (h:Nat.ble vals.length ops.size=true:=by kernel_rfl):Sat N (oH vals pre) a:=by
  have hl:vals.length≤ops.size:=Nat.le_of_ble_eq_true h
  suffices ∀ (r:List RV),(∀ d v o,some (d,v,o) ∈ r→a.tmps[d]?=some v)→Sat N (oH r pre) a by
    refine this vals fun d v o hm=>?_
    obtain ⟨i,hi⟩:=List.getElem?_of_mem hm
    have hlt:i<vals.length:=(List.getElem?_eq_some_iff.1 hi).1
    exact hs.on i d v o hi (hall i (by omega))
  intro r hr
  induction r with
  | nil=>exact hs.sat
  | cons x r ih =>
    have ih':=ih fun d v o hm=>hr d v o (List.mem_cons_of_mem _ hm)
    match x with
    | none=>exact ih'
    | some (d,v,o)=>exact ih'.cons (hr d v o List.mem_cons_self)
def FR (ops:Array Oper) (j:Nat) (a a':Act):Prop:=∃ v,a'.tmps=(a.put (N9 ops j) v).tmps
theorem mJ {a:Act} (h:wpOps P ops (fun en a' w'=>en=.normal∧(FR ops j a a'→Q a' w')) [j] a w):wpOps P ops (fun en a' w'=>en=.normal∧Q a' w') [j] a w:=by
  rw [wpOps_cons] at h ⊢
  unfold wpOp at h ⊢
  cases ho:ops[j]? with
  | none =>
    rw [ho] at h
    exact ⟨h.1,h.2 ⟨undef,by simp [N9,ho,Act.put]⟩⟩
  | some o =>
    rw [ho] at h
    simp only at h ⊢
    have hg:N9 ops j=o.dst:=by simp [N9,ho]
    have key:∀ v w',(wpOps P ops (fun en a' w'=>en=.normal∧(FR ops j a a'→Q a' w')) [] (a.put o.dst v) w')→wpOps P ops (fun en a' w'=>en=.normal∧Q a' w') [] (a.put o.dst v) w':=fun v w' h=>⟨h.1,h.2 ⟨v,by rw [hg]⟩⟩
    split
    · rename_i hw
      rw [if_pos hw] at h
      rcases h with h | ⟨_,a0,w0,h0,_⟩
      · refine .inl ?_
        unfold Oper.wp at h ⊢
        revert h
        generalize (execOp a.eval o).run P w=r
        intro h
        cases r with
        | ok n w' =>
          cases n <;> simp only [Oper.upon] at h ⊢ <;> first
            | exact key _ _ h
            | exact Calls.mono h (fun e w'' he=>by cases e with
                | returned v=>exact key _ _ he
                | panicked c=>exact absurd he.1 (by simp)
                | outgrown=>obtain ⟨_,_,h,_⟩:=he; cases h)
            | exact Rows.mono h (fun _ _ he=>key _ _ he)
            | exact ⟨h.1,h.2 ⟨undef,by rw [hg]; simp [Act.put]; cases o.dst <;> rfl⟩⟩
        | halt x w'=>cases x <;> simp only [Oper.upon] at h ⊢ <;> first | exact h | exact absurd h.1 (by simp)
      · cases h0
    · rename_i hw
      rw [if_neg hw] at h
      exact key _ _ h
def zN (ops:Array Oper) (j:Nat) (ks os:List Nat):Bool:=ks.all (waits ops j) && os.all (fun i=>Nat.beq i j || (Nat.blt i ops.size && waits ops i j))
theorem RS.at {pre:Env} {vals:List RV} {a:Act} (hs:RS N pre vals b a) (q:RQ ops j b) (ks os:List Nat) (g:GO P N ops [j] (Go.Proofs.YtgkgmhkgahalgaaGreat.onE vals ks (Go.Proofs.YtgkgmhkgahalgaaGreat.Z0 vals os pre)) w (fun a' w'=>FR ops j a a'→Q a' w')) (ok:zN ops j ks os=true:=by kernel_rfl) :
    wpOps P ops (fun en a' w'=>en=.normal∧Q a' w') [j] a w:=by
  unfold zN at ok
  rw [Bool.and_eq_true] at ok
  refine mJ (g a (hs.onE ks _ (fun k hk=>q.on k (List.all_eq_true.1 ok.1 k hk)) (hs.Z0 os _ (fun k hk=>?_) hs.sat)))
  have h:=List.all_eq_true.1 ok.2 k hk
  rw [Bool.or_eq_true] at h
  rcases h with h | h
  · rw [Nat.eq_of_beq_eq_true h,q.hb]
  · exact q.off k h
def okD (ops:Array Oper) (j:Nat) (pre:Env) (vals:List RV):Bool:=match N9 ops j with
  | none=>true
  | some d=>pre.all (fun p=>!Nat.beq p.1 d) && (List.range vals.length).all fun i=>Nat.beq i j || (match vals[i]? with
    | some (some (d',_,_))=>!Nat.beq d' d
    | _=>true)
def mask:List Nat→Nat→List RV→List RV
  | D,i,[]=>[]
  | D,i,x::r=>(bif D.any (Nat.beq i) then x.map (fun p=>(p.1,undef,p.2.2)) else x)::mask D (i+1) r
theorem Zr (D:List Nat):∀ (l:List RV) (i m:Nat),(mask D i l)[m]?=(l[m]?).map fun x=>bif D.any (Nat.beq (i+m)) then x.map (fun p=>(p.1,undef,p.2.2)) else x
  | [],_,_=>by simp [mask]
  | x::r,i,0=>by simp [mask]
  | x::r,i,m+1=>by
    rw [mask,List.getElem?_cons_succ,Zr D r (i+1) m,List.getElem?_cons_succ]
    rw [show i+1+m=i+(m+1) by omega]
theorem FR.slot {a a':Act} {t:Nat} (h:FR ops j a a') (ht:N9 ops j≠some t):a'.tmps[t]?=a.tmps[t]?:=by
  obtain ⟨v,h⟩:=h
  rw [h]
  cases hd:N9 ops j with
  | none=>rfl
  | some d =>
    rw [hd] at ht
    have:d≠t:=fun e=>ht (by rw [e])
    simp [Act.put,Array.getElem?_setIfInBounds_ne this]
theorem RS.V3 {e':Env} {pre:Env} {vals vals':List RV} {a:Act} {d:Nat} {v:Value} {o:Option Value} (hs:RS N pre vals b a) (q:RQ ops j b) (D:List Nat) (g:∀ a',RS N pre vals' (upd b j) a'→Q a' w) (hm:mask D 0 vals=mask D 0 vals') (h:(vals'[j]?,look e' d)=(some (some (d,v,o)),some v))
    (ok:(okD ops j pre vals && D.all (fun i=>Nat.beq i j || (Nat.blt i ops.size && waits ops i j)))=true:=by kernel_rfl):GO P N ops [] e' w (fun a' w'=>FR ops j a a'→Q a' w'):=by
  refine GO.fin fun a' hs' fr=>g a' ?_
  simp only [Prod.mk.injEq] at h
  rw [Bool.and_eq_true] at ok
  obtain ⟨ok,okm⟩:=ok
  have hpre:∀ t v,look pre t=some v→N9 ops j≠some t:=by
    intro t v ht hd
    unfold okD at ok
    rw [hd] at ok
    simp only [Bool.and_eq_true] at ok
    have:=List.all_eq_true.1 ok.1 _ (Uy ht)
    simp at this
  have hval:∀ i d' v' o',vals[i]?=some (some (d',v',o'))→i≠j→N9 ops j≠some d':=by
    intro i d' v' o' hi hne hd
    unfold okD at ok
    rw [hd] at ok
    simp only [Bool.and_eq_true] at ok
    have hlt:i<vals.length:=(List.getElem?_eq_some_iff.1 hi).1
    have:=List.all_eq_true.1 ok.2 i (List.mem_range.2 hlt)
    rw [hi] at this
    simp at this
    exact hne this
  have hcmp:∀ i d' v' o',vals'[i]?=some (some (d',v',o'))→∃ v0,vals[i]?=some (some (d',v0,o'))∧(D.any (Nat.beq i)=false→v0=v'):=by
    intro i d' v' o' hi
    have hq:=congrArg (fun l=>l[i]?) hm
    simp only [Zr,Nat.zero_add,hi] at hq
    cases hv:vals[i]? with
    | none=>rw [hv] at hq; simp at hq
    | some x =>
      rw [hv] at hq
      cases hD:D.any (Nat.beq i) with
      | false =>
        rw [hD] at hq
        simp at hq
        exact ⟨v',by rw [hq],fun _=>rfl⟩
      | true =>
        rw [hD] at hq
        match x with
        | none=>simp at hq
        | some (d0,v0,o0) =>
          simp at hq
          exact ⟨v0,by rw [hq.1,hq.2],fun h=>Bool.noConfusion h⟩
  refine ⟨⟨hs'.defers,hs'.size,fun t v ht=>by rw [fr.slot (hpre t v ht)]; exact hs.sat.at_ t v ht⟩,?_,?_⟩
  · intro i d' v' o' hi hbi
    by_cases hij:i=j
    · subst hij
      rw [h.1] at hi
      injection hi with hi
      injection hi with hi
      simp only [Prod.mk.injEq] at hi
      rw [← hi.1,← hi.2.1]
      exact hs'.at_ d v h.2
    · rw [upd_ne b hij] at hbi
      obtain ⟨v0,hv0,hsame⟩:=hcmp i d' v' o' hi
      rw [fr.slot (hval i d' v0 o' hv0 hij)]
      cases hD:D.any (Nat.beq i) with
      | false =>
        rw [← hsame hD]
        exact hs.on i d' v0 o' hv0 hbi
      | true =>
        obtain ⟨x,hx,he⟩:=List.any_eq_true.1 hD
        have hix:i=x:=Nat.eq_of_beq_eq_true he
        subst hix
        have:=List.all_eq_true.1 okm i hx
        rw [Bool.or_eq_true] at this
        rcases this with this | this
        · exact absurd (Nat.eq_of_beq_eq_true this) hij
        · exact (q.no i hbi this).elim
  · intro i d' v' u hi hbi
    have hij:i≠j:=fun e=>by rw [e,Ny] at hbi; cases hbi
    rw [upd_ne b hij] at hbi
    obtain ⟨v0,hv0,_⟩:=hcmp i d' v' _ hi
    rw [fr.slot (hval i d' v0 _ hv0 hij)]
    exact hs.off i d' v0 u hv0 hbi
theorem RS.fin {e':Env} {pre:Env} {vals:List RV} {a:Act} {d:Nat} {v:Value} {o:Option Value} (hs:RS N pre vals b a) (q:RQ ops j b) (h:(vals[j]?,look e' d)=(some (some (d,v,o)),some v)) (g:∀ a',RS N pre vals (upd b j) a'→Q a' w)
    (ok:okD ops j pre vals=true:=by kernel_rfl):GO P N ops [] e' w (fun a' w'=>FR ops j a a'→Q a' w') :=
  RS.V3 hs q [] g rfl h (by rw [ok]; rfl)
theorem RS.tO {e':Env} {pre:Env} {vals:List RV} {a:Act} (hs:RS N pre vals b a) (q:RQ ops j b) (h:(vals[j]?,N9 ops j)=(some none,none)) (g:∀ a',RS N pre vals (upd b j) a'→Q a' w):GO P N ops [] e' w (fun a' w'=>FR ops j a a'→Q a' w'):=by
  refine GO.fin fun a' hs' fr=>g a' ?_
  simp only [Prod.mk.injEq] at h
  have fr':∀ t,a'.tmps[t]?=a.tmps[t]?:=fun t=>fr.slot (by rw [h.2]; simp)
  refine ⟨⟨hs'.defers,hs'.size,fun t v ht=>by rw [fr']; exact hs.sat.at_ t v ht⟩,?_,?_⟩
  · intro i d' v' o' hi hbi
    have hij:i≠j:=fun e=>by rw [e,h.1] at hi; cases hi
    rw [upd_ne b hij] at hbi
    rw [fr']
    exact hs.on i d' v' o' hi hbi
  · intro i d' v' u hi hbi
    have hij:i≠j:=fun e=>by rw [e,h.1] at hi; cases hi
    rw [upd_ne b hij] at hbi
    rw [fr']
    exact hs.off i d' v' u hi hbi
end
theorem lp {K:Nat} {p:Nat→Prop} (h0:p 0) (hs:∀ n,n+1≤K→(∀ m,m≤n→p m)→p (n+1)):∀ m,m≤K→p m:=by
  intro m
  induction m using Nat.strongRecOn with
  | _ m ih =>
    intro hm
    cases m with
    | zero=>exact h0
    | succ n=>exact hs n hm fun i hi=>ih i (Nat.lt_succ_of_le hi) (Nat.le_trans hi (Nat.le_of_succ_le hm))
theorem jp {K:Nat} {p:Nat→Prop} (h0:p 0) (hs:∀ n,n+1≤K→p (n+1)):∀ m,m≤K→p m
  | 0,_=>h0
  | n+1,hm=>hs n hm
def gets (e:Env):Env→List (Option Value)
  | []=>[]
  | p::r=>look e p.1::gets e r
def eB:Env→List (Option Value)
  | []=>[]
  | p::r=>some p.2::eB r
theorem aB {e:Env}:∀ {e':Env},gets e e'=eB e'→Cov e e'
  | [],_=>trivial
  | p::r,h=>by
    unfold gets eB at h
    injection h with h1 h2
    exact ⟨h1,aB h2⟩
theorem gW {P:Program} {f:FuncId} {N:Nat} {e e':Env} {k:List Item} {w:World} {R:Ending→World→Prop} (g:G P f N e' k w R) (h:gets e e'=eB e'):G P f N e k w R:=g.weak (aB h)
abbrev uu {α:Type}:α→Unit:=fun _=>()
abbrev sb (b:Nat):Option Addr:=some ⟨b,0,none⟩
abbrev pT (b:Nat):Value:=.pointer (some ⟨b,0,none⟩)
abbrev sV {α:Type} (A:Option Addr) (xs:List α) (c:Nat):Value:=.slice A xs.length c
section
variable {α:Type} {T:Ty α} {ly:Nat→T.Lay} {w0 w:World} {L:List Df} {A:Option Addr} {c:Nat} {xs:List α} {t:TypeId}
theorem ro (j:Nat) (hj:L[j]?=some (Own T t A c ly xs)):Ce w0 L T A c ly xs:=Ce.own hj
theorem rk (h:Ce w0 L T A c ly xs) (HS:St w0 w L):0<xs.length→∃ b o,A=some ⟨b,o,none⟩:=(h _ HS).2.2.1
end
section
variable {P:Program} {f:FuncId} {N:Nat} {e:Env} {w0 w:World} {L:List Df} {Q:Act→World→Prop} {ops:Array Oper} {i d:Nat} {rest:List Nat} {ty:TypeId} {ps:String} {af:Array Edge}
theorem iX {t el:TypeId} {x y:Operand} {A:Option Addr} {n c sz:Nat} {kd:IntKind} {m:Int} (h:(ops[i]?,ev e x,ev e y,Nat.blt d N)=(some ⟨some d,.indexAddr t x y,ty,ps,af,none⟩,some (.slice A n c),some (.int kd m),true)) (ht:P.underlying t=some (.slice el)) (hsz:(P.info? el).map (·.size)=some sz)
    (hA:0<n→∃ b o,A=some ⟨b,o,none⟩) (h0:0≤m∧m<(n:Int)) (g:GO P N ops rest ((d,.pointer (some (ea A (m.toNat * sz))))::e) w Q):GO P N ops (i::rest) e w Q:=by
  simp only [Prod.mk.injEq] at h
  exact GO.ix h.1 h.2.1 h.2.2.1 ht hsz hA h0.1 h0.2 h.2.2.2 g
end
section
variable {P:Program} {f:FuncId} {N:Nat} {e:Env} {k:List Item} {w w0:World} {R:Ending→World→Prop} {ops:Array Oper} {Q:Act→World→Prop} {i:Nat} {d:Nat} {rest:List Nat} {ty:Option TypeId} {L:List Df}
end
section
variable {P:Program} {N:Nat} {ops:Array Oper} {i d:Nat} {rest:List Nat} {e:Env} {w w0:World} {Q:Act→World→Prop} {L:List Df}
theorem GO.zR {t t':TypeId} {x y:Operand} {ty} {ps} {af} {kd:IntKind} {m n:Int} (c:Int) (ho:ops[i]?=some ⟨some d,.binOp .add t x y t',ty,ps,af,none⟩) (hx:ev e x=some (.int kd m)) (hy:ev e y=some (.int kd n)) (hc:kd.wrap (m+n)=c) (hN:Nat.blt d N=true) (g:GO P N ops rest ((d,.int kd c)::e) w Q):GO P N ops (i::rest) e w Q :=
  GO.add ho hx hy hN (by rw [hc]; exact g)
theorem xJ {α:Type} {xs:List α} {A:Option Addr} {l h c s n:Nat} (hh:h≤xs.length) (hc:xs.length≤c) (hn:n<((xs.take h).drop l).length) (hA:0<xs.length→∃ b o,A=some ⟨b,o,none⟩):ea (Jl A l c s) (n * s)=ea A ((l+n) * s):=by
  have h1:0<((xs.take h).drop l).length:=by omega
  have h2:0<xs.length:=by
    rw [List.length_drop,List.length_take] at h1; omega
  obtain ⟨b,o,rfl⟩:=hA h2
  rw [mZ hh hc h1 b o rfl]
  unfold ea
  simp only [Option.getD_some]
  rw [Ii,Ii,Nat.add_mul,Nat.add_assoc]
theorem GO.qB {α:Type} {T:Ty α} {t tb:TypeId} {x y:Operand} {ty} {ps} {af} {A:Option Addr} {c j n l h:Nat} {ly:Nat→T.Lay} {xs:List α} {x0:α} {vs:List Value} {v:Value} (y0:α) (HS:St w0 w L) (hj:L[j]?=some (Own T tb A c ly xs)) (hfl:Flat T) (ho:ops[i]?=some ⟨none,.store t x y,ty,ps,af,none⟩) (hx:ev e x=some (.pointer (some (ea (Jl A l c T.sz) (n * T.sz))))) (hh:h≤xs.length) (hc:n<((xs.take h).drop l).length) (hy:ev e y=some v) (hv:v.cells=vs.toArray)
    (ht:(naB P t && vs.length == 1 || agB P t vs.length)=true) (h1:vs.all (·.oneCell')=true) (hn:xs[l+n]?=some x0) (hl:Nat.ble vs.length T.sz=true) (hcc:T.cells (ly (l+n)) y0=splice (T.cells (ly (l+n)) x0) 0 vs)
    (g:∀ w',St w0 w' (L.set j (Own T tb A c ly (xs.set (l+n) y0)))→GO P N ops rest e w' Q):GO P N ops (i::rest) e w Q:=by
  have hr:Rd T w A c ly xs:=Ce.own (w0:=w0) hj w HS
  rw [xJ hh hr.1 hc hr.2.2.1] at hx
  exact GO.Ia (o:=0) y0 HS hj hfl ho hx hy hv ht h1 hn (by rw [Nat.zero_add]; exact hl) hcc g
theorem qZ {α:Type} {xs:List α} {n l h:Nat} (hc:n<((xs.take h).drop l).length):l+n<xs.length:=by
  rw [List.length_drop,List.length_take] at hc; omega
theorem Ce.nK {w0:World} {L:List Df} {kd:IntKind} {A:Option Addr} {c l h:Nat} {xs:List Int} (hr:Ce w0 L (Ad kd) A c (fun _=>()) xs) (hlh:l≤h) (hh:h≤xs.length):Ce w0 L (Ad kd) (Jl A l c 1) (c - l) (fun _=>()) ((xs.take h).drop l):=Ce.cut hr hlh hh
theorem GO.wC {α:Type} {T:Ty α} {t el:TypeId} {x:Operand} {ty} {ps} {af} {A:Option Addr} {c m:Nat} {ly:Nat→T.Lay} {xs:List α} (HS:St w0 w L) (hr:Ce w0 L T A c ly xs) (ho:ops[i]?=some ⟨some d,.sliceToArrayPointer t x,ty,ps,af,none⟩) (hx:ev e x=some (.slice A xs.length c)) (ht:P.underlying t=some (.array m el)) (hm:m≤xs.length) (h0:0<m) (hN:Nat.blt d N=true)
    (g:GO P N ops rest ((d,.pointer (some (ea A 0)))::e) w Q):GO P N ops (i::rest) e w Q:=by
  obtain ⟨b,o,hA⟩:=(hr w HS).2.2.1 (by omega)
  refine GO.val _ ho rfl rfl hN (fun a hs=>?_) g
  have h2:ea A 0=⟨b,o,none⟩:=by rw [hA]; unfold ea; rw [Option.getD_some,Ii]; rfl
  have h3:¬ xs.length<m:=by omega
  rw [h2]
  simp [execOp,Instr.arrayAt,hs.ev hx,underlying,ht,h3,hA]
theorem GO.tH {t:TypeId} {x:Operand} {ty} {ps} {af} {A:Option Addr} {c:Nat} {kd:IntKind} {ly:Nat→(Ad kd).Lay} {xs:List Int} (HS:St w0 w L) (hr:Ce w0 L (Ad kd) A c ly xs) (ho:ops[i]?=some ⟨some d,.load t x,ty,ps,af,none⟩) (hx:ev e x=some (.pointer (some (ea A 0)))) (hm:4≤xs.length) (ht:agB P t 4=true) (hN:Nat.blt d N=true)
    (g:GO P N ops rest ((d,.agg [.int kd (xs.getD 0 0),.int kd (xs.getD 1 0),.int kd (xs.getD 2 0),.int kd (xs.getD 3 0)].toArray)::e) w Q):GO P N ops (i::rest) e w Q:=by
  have hc:∀ q,q<4→w.cell? ((ea A 0).add q)=some (.int kd (xs.getD q 0)):=fun q hq=>by
    have h1:xs[q]?=some (xs.getD q 0):=by rw [List.getD_eq_getElem?_getD,List.getElem?_eq_getElem (by omega)]; rfl
    have h2:=(hr w HS).cell (j:=0) (u:=.int kd (xs.getD q 0)) h1 (Nat.zero_lt_one) rfl
    rw [U7]
    have h3:q * (Ad kd).sz+0=0+q:=by show q * 1+0=0+q; omega
    rw [h3] at h2
    exact h2
  refine GO.val _ ho rfl rfl hN (fun a hs=>?_) g
  have hl:=Ol (P:=P) (w:=w) (t:=t) (cs:=[.int kd (xs.getD 0 0),.int kd (xs.getD 1 0),.int kd (xs.getD 2 0),.int kd (xs.getD 3 0)]) ht (ad:=ea A 0) (fun j v hv=>by
    match j,hv with
    | 0,hv=>cases hv; exact hc 0 (by omega)
    | 1,hv=>cases hv; exact hc 1 (by omega)
    | 2,hv=>cases hv; exact hc 2 (by omega)
    | 3,hv=>cases hv; exact hc 3 (by omega)
    | j+4,hv=>cases hv)
  simp [execOp,Instr.loadAt,Instr.sureAddr,hs.ev hx,hl]
end
end Go.Proofs.YtgkgmhkgahalgaaGreat
