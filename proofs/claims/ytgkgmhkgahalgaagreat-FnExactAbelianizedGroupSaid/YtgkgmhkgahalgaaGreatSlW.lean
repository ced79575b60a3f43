import Derived.Test.YtgkgmhkgahalgaaGreatSlK
import Derived.Laws.StructEq
import Derived.ChangeKeysEq
import Derived.Laws.BytesArg
import Derived.Laws.Externs
import Derived.Lib.Bytealg
import Derived.Lib.Overlaps
set_option linter.unusedVariables false
set_option linter.unusedSimpArgs false
namespace Go.Proofs.YtgkgmhkgahalgaaGreat
open Go.RowKit
def M4 {α0 α1 α2 α3 α4 α5 α6 α7 α8 α9 α10 α11 α12 α13 α14 α15 β:Type} (x:Option (α0 × α1 × α2 × α3 × α4 × α5 × α6 × α7 × α8 × α9 × α10 × α11 × α12 × α13 × α14 × α15)) (f:α0→α1→α2→α3→α4→α5→α6→α7→α8→α9→α10→α11→α12→α13→α14→α15→Option β):Option β:=x.bind fun z=>f z.1 z.2.1 z.2.2.1 z.2.2.2.1 z.2.2.2.2.1 z.2.2.2.2.2.1 z.2.2.2.2.2.2.1 z.2.2.2.2.2.2.2.1 z.2.2.2.2.2.2.2.2.1 z.2.2.2.2.2.2.2.2.2.1 z.2.2.2.2.2.2.2.2.2.2.1 z.2.2.2.2.2.2.2.2.2.2.2.1 z.2.2.2.2.2.2.2.2.2.2.2.2.1 z.2.2.2.2.2.2.2.2.2.2.2.2.2.1 z.2.2.2.2.2.2.2.2.2.2.2.2.2.2.1 z.2.2.2.2.2.2.2.2.2.2.2.2.2.2.2
theorem Pg {α0 α1 α2 α3 α4 α5 α6 α7 α8 α9 α10 α11 α12 α13 α14 α15 β:Type} {x:Option (α0 × α1 × α2 × α3 × α4 × α5 × α6 × α7 × α8 × α9 × α10 × α11 × α12 × α13 × α14 × α15)} {f:α0→α1→α2→α3→α4→α5→α6→α7→α8→α9→α10→α11→α12→α13→α14→α15→Option β} {r:β} (h:M4 x f=some r):∃ a0 a1 a2 a3 a4 a5 a6 a7 a8 a9 a10 a11 a12 a13 a14 a15,x=some (a0,a1,a2,a3,a4,a5,a6,a7,a8,a9,a10,a11,a12,a13,a14,a15)∧f a0 a1 a2 a3 a4 a5 a6 a7 a8 a9 a10 a11 a12 a13 a14 a15=some r:=by
 obtain ⟨z,h1,h2⟩:=Option.bind_eq_some_iff.1 h
 exact ⟨_,_,_,_,_,_,_,_,_,_,_,_,_,_,_,_,h1,h2⟩
theorem Pz {α0 α1 α2 α3 α4 α5 α6 α7 α8 α9 α10 α11 α12 α13 α14 α15:Type} {a0:α0} {a1:α1} {a2:α2} {a3:α3} {a4:α4} {a5:α5} {a6:α6} {a7:α7} {a8:α8} {a9:α9} {a10:α10} {a11:α11} {a12:α12} {a13:α13} {a14:α14} {a15:α15} {b0:α0} {b1:α1} {b2:α2} {b3:α3} {b4:α4} {b5:α5} {b6:α6} {b7:α7} {b8:α8} {b9:α9} {b10:α10} {b11:α11} {b12:α12} {b13:α13} {b14:α14} {b15:α15} (h:some (a0,a1,a2,a3,a4,a5,a6,a7,a8,a9,a10,a11,a12,a13,a14,a15)=some (b0,b1,b2,b3,b4,b5,b6,b7,b8,b9,b10,b11,b12,b13,b14,b15)):a0=b0∧a1=b1∧a2=b2∧a3=b3∧a4=b4∧a5=b5∧a6=b6∧a7=b7∧a8=b8∧a9=b9∧a10=b10∧a11=b11∧a12=b12∧a13=b13∧a14=b14∧a15=b15:=by cases h; exact ⟨rfl,rfl,rfl,rfl,rfl,rfl,rfl,rfl,rfl,rfl,rfl,rfl,rfl,rfl,rfl,rfl⟩
abbrev Ty.pair {α β:Type} (S:Ty α) (T:Ty β):Ty (α × β) where
 Lay:=S.Lay × T.Lay
 sz:=S.sz+T.sz
 cells:=fun l x=>S.cells l.1 x.1++T.cells l.2 x.2
 M:=fun w q l x=>∃ q1 q2:Nat→Prop,(∀ k,q1 k→q k)∧(∀ k,q2 k→q k)∧(∀ k,q1 k→¬ q2 k)∧S.M w q1 l.1 x.1∧T.M w q2 l.2 x.2
 K:=fun w l x=>S.K w l.1 x.1∧T.K w l.2 x.2
 len:=fun l x=>by rw [List.length_append,S.len,T.len]
 one:=fun l x u h=>by
  rcases List.mem_append.1 h with h | h
  ·exact S.one _ _ u h
  ·exact T.one _ _ u h
 Rc:=fun ⟨q1,q2,h1,h2,hd,hs,ht⟩ hk=>⟨q1,q2,h1,h2,hd,S.Rc hs (fun k h=>hk k (h1 k h)),T.Rc ht (fun k h=>hk k (h2 k h))⟩
 Ql:=fun ⟨q1,q2,h1,h2,r⟩ hk=>⟨q1,q2,fun k h=>hk k (h1 k h),fun k h=>hk k (h2 k h),r⟩
 Px:=fun ⟨_,_,_,_,_,hs,ht⟩=>⟨S.Px hs,T.Px ht⟩
 Nt:=fun hb h=>⟨S.Nt hb h.1,T.Nt hb h.2⟩
abbrev Ty.iso {α β:Type} (T:Ty β) (f:α→β) (n:Nat) (hn:T.sz=n):Ty α where
 Lay:=T.Lay
 sz:=n
 cells:=fun l x=>T.cells l (f x)
 M:=fun w q l x=>T.M w q l (f x)
 K:=fun w l x=>T.K w l (f x)
 len:=fun l x=>by rw [T.len,hn]
 one:=fun l x u h=>T.one _ _ u h
 Rc:=fun h hk=>T.Rc h hk
 Ql:=fun h hk=>T.Ql h hk
 Px:=fun h=>T.Px h
 Nt:=fun hb h=>T.Nt hb h
def Elt {α:Type} (T:Ty α) (l:T.Lay) (x:α):Dc where
 P:=fun w q=>T.M w q l x
 loc:=fun h hk=>T.Rc h hk
 more:=fun h hk=>T.Ql h hk
section
variable {α β:Type} {S:Ty α} {T:Ty β} {w0 w:World} {L:List Dc} {s:S.Lay} {t:T.Lay} {x:α} {y:β}
end
theorem Bv.box {α:Type} {T:Ty α} {w0:World} {L:List Dc} {b j:Nat} {t:TypeId} {cs:List Value} {n:Nat} (ly:Nat→T.Lay) (xs:List α) (hj:L[j]?=some (Box b t cs)) (hc:rc T ly 0 xs=cs) (hx:xs.length=n) (hb:Nat.ble n 9223372036854775807=true) (hk:∀ i x,xs[i]?=some x→∀ w,St w0 w L→T.K w (ly i) x):Bv w0 L T (some ⟨b,0,none⟩) n ly xs:=fun w hs =>
 ⟨Nat.le_of_eq hx,Nat.le_of_ble_eq_true hb,fun _=>⟨b,0,rfl⟩,fun j' u hu=>by
  rw [Tu,Jj,Nat.zero_add]
  exact hs.Rh hj (by rw [← hc]; exact hu),fun i x hx=>hk i x hx w hs⟩
section
variable {α:Type} {T:Ty α} {w w':World} {ly:Nat→T.Lay}
theorem Ir.cut:∀ {xs ys:List α} {i:Nat} {q:Nat→Prop},Ir T w ly i (xs++ys) q→∃ q1 q2:Nat→Prop,(∀ k,q1 k→q k)∧(∀ k,q2 k→q k)∧(∀ k,q1 k→¬ q2 k)∧Ir T w ly i xs q1∧Ir T w ly (i+xs.length) ys q2
 |[],ys,i,q,h=>⟨fun _=>False,q,fun _ h=>h.elim,fun _ h=>h,fun _ h=>h.elim,trivial,h⟩
 |x::r,ys,i,q,⟨q0,q1,h0,h1,hd,hx,hs⟩=>by
  obtain ⟨p1,p2,g1,g2,gd,s1,s2⟩:=Ir.cut (xs:=r) hs
  exact ⟨fun k=>q0 k∨p1 k,p2,fun k hk=>hk.elim (h0 k) (fun h=>h1 k (g1 k h)),fun k hk=>h1 k (g2 k hk),fun k hk hn=>hk.elim (fun h=>hd k h (g2 k hn)) (fun h=>gd k h hn),⟨q0,p1,fun k hk=>.inl hk,fun k hk=>.inr hk,fun k hk hn=>hd k hk (g1 k hn),hx,s1⟩,by rw [List.length_cons,show i+(r.length+1)=i+1+r.length by omega]; exact s2⟩
theorem Ir.join:∀ {xs ys:List α} {i:Nat} {q1 q2:Nat→Prop},Ir T w ly i xs q1→Ir T w ly (i+xs.length) ys q2→(∀ k,q1 k→¬ q2 k)→Ir T w ly i (xs++ys) (fun k=>q1 k∨q2 k)
 |[],ys,i,q1,q2,_,h,_=>Ir.more h (fun k hk=>.inr hk)
 |x::r,ys,i,q1,q2,⟨p0,p1,h0,h1,hd,hx,hs⟩,h,hdd=>by
  have:=Ir.join (xs:=r) (ys:=ys) (i:=i+1) hs (by rw [show i+1+r.length=i+(x::r).length by simp only [List.length_cons]; omega]; exact h) (fun k hk=>hdd k (h1 k hk))
  exact ⟨p0,fun k=>p1 k∨q2 k,fun k hk=>.inl (h0 k hk),fun k hk=>hk.imp (h1 k) id,fun k hk hn=>hn.elim (hd k hk) (hdd k (h0 k hk)),hx,this⟩
end
section
variable {α:Type} {T:Ty α} {P:Program} {N:Nat} {e:Env} {w0 w:World} {L:List Dc} {Q:Act→World→Prop} {ops:Array Oper} {i d:Nat} {rest:List Nat} {ty:TypeId} {ps:String} {af:Array Edge}
end
structure Fld {α β:Type} (T:Ty α) (S:Ty β) where
 get:α→β
 set:α→β→α
 Uv:T.Lay→S.Lay
 R:T.Lay→α→Dc
 opn:∀ {w:World} {q:Nat→Prop} {l:T.Lay} {x:α},T.M w q l x→∃ q1 q2:Nat→Prop,(∀ k,q1 k→q k)∧(∀ k,q2 k→q k)∧(∀ k,q1 k→¬ q2 k)∧S.M w q1 (Uv l) (get x)∧(R l x).P w q2
 cls:∀ {w:World} {q q1 q2:Nat→Prop} {l:T.Lay} {x:α} {y:β},(∀ k,q1 k→q k)→(∀ k,q2 k→q k)→(∀ k,q1 k→¬ q2 k)→S.M w q1 (Uv l) y→(R l x).P w q2→T.M w q l (set x y)
def Fld.id {α:Type} {T:Ty α}:Fld T T where
 get:=fun x=>x
 set:=fun _ y=>y
 Uv:=fun l=>l
 R:=fun _ _=>Emp
 opn:=fun {w q l x} h=>⟨q,fun _=>False,fun _ h=>h,fun _ h=>h.elim,fun _ _ h=>h,h,trivial⟩
 cls:=fun h1 _ _ hs _=>Ty.Ql _ hs h1
section
variable {α β:Type} {T:Ty α} {S:Ty β} {w0 w:World} {L:List Dc} {t:TypeId} {A:Option Addr} {c n:Nat} {ly:Nat→T.Lay} {xs:List α} {x:α} {y:β}
def nQ (F:Fld T S) (t:TypeId) (A:Option Addr) (c:Nat) (ly:Nat→T.Lay) (xs:List α) (n:Nat) (x:α):Dc where
 P:=fun w q=>∃ q1 qa qb qr:Nat→Prop,(∀ k,q1 k→q k)∧(∀ k,qa k→q k)∧(∀ k,qb k→q k)∧(∀ k,qr k→q k)∧(∀ k,q1 k→¬ qa k∧¬ qb k∧¬ qr k)∧(∀ k,qa k→¬ qb k∧¬ qr k)∧(∀ k,qb k→¬ qr k) ∧
  OR w t T.sz (.slice A xs.length c) xs.length (rc T ly 0 xs)∧(∀ k,(Value.slice A xs.length c).ownBlock=some k→q1 k)∧Ir T w ly 0 (xs.take n) qa∧Ir T w ly (n+1) (xs.drop (n+1)) qb∧(F.R (ly n) x).P w qr
 loc:=fun ⟨q1,qa,qb,qr,h1,ha,hb,hr,d1,d2,d3,ho,hbl,sa,sb,r⟩ hk=>⟨q1,qa,qb,qr,h1,ha,hb,hr,d1,d2,d3,ho.loc (fun k h=>hk k (h1 k (hbl k h))),hbl,sa.loc (fun k h=>hk k (ha k h)),sb.loc (fun k h=>hk k (hb k h)),(F.R (ly n) x).loc r (fun k h=>hk k (hr k h))⟩
 more:=fun ⟨q1,qa,qb,qr,h1,ha,hb,hr,r⟩ hk=>⟨q1,qa,qb,qr,fun k h=>hk k (h1 k h),fun k h=>hk k (ha k h),fun k h=>hk k (hb k h),fun k h=>hk k (hr k h),r⟩
theorem St.focus (F:Fld T S) (HS:St w0 w (Own T t A c ly xs::L)) (hn:xs[n]?=some x):St w0 w (Elt S (F.Uv (ly n)) (F.get x)::nQ F t A c ly xs n x::L):=by
 obtain ⟨hb,q,r,hq,hr,hqr,⟨q1,q2,h1,h2,hd,hown,hbl,hs⟩,hL⟩:=HS
 have hlt:=(List.getElem?_eq_some_iff.1 hn).1
 have hx:xs=xs.take n++(x::xs.drop (n+1)):=by
  have h3:=(List.getElem?_eq_some_iff.1 hn).2
  rw [← h3,← List.drop_eq_getElem_cons hlt,List.take_append_drop]
 have htl:(xs.take n).length=n:=by rw [List.length_take]; omega
 rw [hx] at hs
 obtain ⟨qa,qc,ha,hc,hac,sa,sc⟩:=Ir.cut hs
 rw [htl,Nat.zero_add] at sc
 obtain ⟨p0,p1,c0,c1,cd,hM,sb⟩:=sc
 obtain ⟨e1,e2,f1,f2,fd,hS,hR⟩:=F.opn hM
 refine ⟨hb,e1,fun k=>(q1 k∨qa k∨p1 k∨e2 k)∨r k,?_,?_,?_,hS,fun k=>q1 k∨qa k∨p1 k∨e2 k,r,fun k h=>.inl h,fun k h=>.inr h,?_,⟨q1,qa,p1,e2,fun k h=>.inl h,fun k h=>.inr (.inl h),fun k h=>.inr (.inr (.inl h)),fun k h=>.inr (.inr (.inr h)),?_,?_,?_,hown,hbl,sa,sb,hR⟩,hL⟩
 ·exact fun k h=>hq k (h2 k (hc k (c0 k (f1 k h))))
 ·rintro k ((h | h | h | h) | h)
  ·exact hq k (h1 k h)
  ·exact hq k (h2 k (ha k h))
  ·exact hq k (h2 k (hc k (c1 k h)))
  ·exact hq k (h2 k (hc k (c0 k (f2 k h))))
  ·exact hr k h
 ·intro k h hn
  rcases hn with (hn | hn | hn | hn) | hn
  ·exact hd k hn (hc k (c0 k (f1 k h)))
  ·exact hac k hn (c0 k (f1 k h))
  ·exact cd k (f1 k h) hn
  ·exact fd k h hn
  ·exact hqr k (h2 k (hc k (c0 k (f1 k h)))) hn
 ·intro k h hn
  rcases h with h | h | h | h
  ·exact hqr k (h1 k h) hn
  ·exact hqr k (h2 k (ha k h)) hn
  ·exact hqr k (h2 k (hc k (c1 k h))) hn
  ·exact hqr k (h2 k (hc k (c0 k (f2 k h)))) hn
 ·exact fun k h=>⟨fun g=>hd k h (ha k g),fun g=>hd k h (hc k (c1 k g)),fun g=>hd k h (hc k (c0 k (f2 k g)))⟩
 ·exact fun k h=>⟨fun g=>hac k h (c1 k g),fun g=>hac k h (c0 k (f2 k g))⟩
 ·exact fun k h g=>cd k (f2 k g) h
theorem St.nZ (F:Fld T S) (HS:St w0 w (Elt S (F.Uv (ly n)) y::nQ F t A c ly xs n x::L)) (hn:xs[n]?=some x) (hc:T.cells (ly n) (F.set x y)=T.cells (ly n) x):St w0 w (Own T t A c ly (xs.set n (F.set x y))::L):=by
 obtain ⟨hb,q,r,hq,hr,hqr,hS,q',r',hq',hr',hqr',⟨q1,qa,qb,qe,h1,ha,hbb,he,d1,d2,d3,hown,hbl,sa,sb,hR⟩,hL⟩:=HS
 have hlt:=(List.getElem?_eq_some_iff.1 hn).1
 have hx:xs.set n (F.set x y)=xs.take n++(F.set x y::xs.drop (n+1)):=by rw [List.set_eq_take_append_cons_drop,if_pos hlt]
 have htl:(xs.take n).length=n:=by rw [List.length_take]; omega
 refine ⟨hb,fun k=>q k∨q' k,r',fun k h=>h.elim (hq k) (fun h=>hr k (hq' k h)),fun k h=>hr k (hr' k h),fun k h hn=>h.elim (fun h=>hqr k h (hr' k hn)) (fun h=>hqr' k h hn),⟨q1,fun k=>qa k∨(q k∨qe k∨qb k),fun k h=>.inr (h1 k h),?_,?_,?_,by rw [List.length_set]; exact hbl,?_⟩,hL⟩
 ·rintro k (h | h | h | h)
  ·exact .inr (ha k h)
  ·exact .inl h
  ·exact .inr (he k h)
  ·exact .inr (hbb k h)
 ·rintro k h (g | g | g | g)
  ·exact (d1 k h).1 g
  ·exact hqr k g (hq' k (h1 k h))
  ·exact (d1 k h).2.2 g
  ·exact (d1 k h).2.1 g
 ·rw [List.length_set]
  have:rc T ly 0 (xs.set n (F.set x y))=rc T ly 0 xs:=by
   have e1:rc T ly 0 xs=rc T ly 0 (xs.take n)++(T.cells (ly (0+(xs.take n).length)) x++rc T ly (0+(xs.take n).length+1) (xs.drop (n+1))):=by
    have h3:=(List.getElem?_eq_some_iff.1 hn).2
    have hxx:xs=xs.take n++(x::xs.drop (n+1)):=by rw [← h3,← List.drop_eq_getElem_cons hlt,List.take_append_drop]
    conv=>lhs; rw [hxx,Ji]
    rfl
   rw [hx,Ji,e1,htl,Nat.zero_add,← hc]
   rfl
  rw [this]
  exact hown
 ·rw [hx]
  refine Ir.join sa ?_ ?_
  ·rw [htl,Nat.zero_add]
   exact ⟨fun k=>q k∨qe k,qb,fun k h=>h.elim .inl (fun h=>.inr (.inl h)),fun k h=>.inr (.inr h),fun k h g=>h.elim (fun h=>hqr k h (hq' k (hbb k g))) (fun h=>d3 k g h),F.cls (fun k h=>.inl h) (fun k h=>.inr h) (fun k h g=>hqr k h (hq' k (he k g))) hS hR,sb⟩
  ·rintro k h (g | g | g)
   ·exact hqr k g (hq' k (ha k h))
   ·exact (d2 k h).2 g
   ·exact (d2 k h).1 g
end
section
variable {α β:Type} {T:Ty α} {S:Ty β} {w0 w:World} {L:List Dc} {t u:TypeId} {A:Option Addr} {c n:Nat} {ly:Nat→T.Lay} {xs:List α} {x:α} {y:List β}
theorem St.lJ (F:Fld T (Ty.slice u S)) (hn:xs[n]?=some x) (HS:St w0 w (Own T t A c ly xs::L)):St w0 w (Own S u (F.Uv (ly n)).A (F.Uv (ly n)).c (F.Uv (ly n)).ly (F.get x)::nQ F t A c ly xs n x::L):=St.focus F HS hn
theorem St.Zj (F:Fld T (Ty.slice u S)) (hn:xs[n]?=some x) (hc:T.cells (ly n) (F.set x y)=T.cells (ly n) x) (HS:St w0 w (Own S u (F.Uv (ly n)).A (F.Uv (ly n)).c (F.Uv (ly n)).ly y::nQ F t A c ly xs n x::L)):St w0 w (Own T t A c ly (xs.set n (F.set x y))::L):=St.nZ F HS hn hc
end
section
variable {α:Type} {T:Ty α} {P:Program} {N:Nat} {e:Env} {w0 w:World} {L:List Dc} {Q:Act→World→Prop} {ops:Array Oper} {i d:Nat} {rest:List Nat} {ty:TypeId} {ps:String} {af:Array Edge}
end
def seq (a b:ByteArray):Bool:=a.toList == b.toList
section
variable {P:Program} {N:Nat} {e:Env} {w0 w:World} {L:List Dc} {Q:Act→World→Prop} {ops:Array Oper} {i d:Nat} {rest:List Nat} {ty:TypeId} {ps:String} {af:Array Edge} {t t':TypeId} {x y z:Operand} {a b:ByteArray}
theorem Rv {k:IntKind} {u v:Int} (ht:P.underlying t=some (.int k)) (dp:Nat) (w:World):(Op.equalIn (dp+1) t (.int k u) (.int k v)).run P w=.ok (u == v) w:=by simp [Op.equalIn,run_underlying ht]
theorem dR {f0 f1 : Field} {a0 a1 b0 b1 : Int} (hu : P.underlying t = some (.struct #[f0, f1])) (hs : P.stoodInHeld t = false) (hn : (f0.name ≠ "_" ∧ f1.name ≠ "_") ∧ f0.offset = 0 ∧ f1.offset = 1) (t0 : P.underlying f0.type = some (.int .i64)) (t1 : P.underlying f1.type = some (.int .i64)) (n0 : naB P f0.type = true) (n1 : naB P f1.type = true) :
    (Op.equal t (.agg [.int .i64 a0,.int .i64 a1].toArray) (.agg [.int .i64 b0,.int .i64 b1].toArray)).run P w=.ok (decide ((a0,a1)=(b0,b1))) w:=by
  show (Op.equalIn (9999+1) t _ _).run P w=_
  have hf:P.fieldsOf t=#[f0,f1]:=by simp [Program.fieldsOf,hu]
  rw [run_equalIn_struct w 9999 t _ _ (by rw [hf]; exact hu) hs,hf]
  have e:(9999:Nat)=9998+1:=rfl
  rw [e]
  by_cases h0:a0=b0<;>by_cases h1:a1=b1<;>simp [Op.eqFields,part,h0,h1,hn.1.1,hn.1.2,hn.2.1,hn.2.2,O0 n0,O0 n1,Rv t0,Rv t1]
theorem GO.kR {vs us:List Value} {r:Bool} (ho:ops[i]?=some ⟨some d,.binOp .eql t x y t',ty,ps,af,none⟩) (hx:ev e x=some (.agg vs.toArray)) (hy:ev e y=some (.agg us.toArray)) (hg:P.eqGuardType P.depth t=false) (hr:∀ w,(Op.equal t (.agg vs.toArray) (.agg us.toArray)).run P w=.ok r w) (hN:Nat.blt d N=true) (g:GO P N ops rest ((d,.bool r)::e) w Q):GO P N ops (i::rest) e w Q :=
 GO.val _ ho rfl rfl hN (fun a hs=>by
  have h1:=hr w
  simp [execOp,hs.ev hx,hs.ev hy,eqGuard,binOp,Sem.program,hg,h1]) g
theorem GO.vR {vs us:List Value} {r:Bool} (ho:ops[i]?=some ⟨some d,.binOp .neq t x y t',ty,ps,af,none⟩) (hx:ev e x=some (.agg vs.toArray)) (hy:ev e y=some (.agg us.toArray)) (hg:P.eqGuardType P.depth t=false) (hr:∀ w,(Op.equal t (.agg vs.toArray) (.agg us.toArray)).run P w=.ok r w) (hN:Nat.blt d N=true) (g:GO P N ops rest ((d,.bool (!r))::e) w Q):GO P N ops (i::rest) e w Q :=
 GO.val _ ho rfl rfl hN (fun a hs=>by
  have h1:=hr w
  simp [execOp,hs.ev hx,hs.ev hy,eqGuard,binOp,Sem.program,hg,h1]) g
theorem Bv.take {α:Type} {T:Ty α} {w0:World} {L:List Dc} {A:Option Addr} {c h:Nat} {ly:Nat→T.Lay} {xs:List α} (hr:Bv w0 L T A c ly xs) (hh:h≤xs.length):Bv w0 L T A c ly (xs.take h):=fun w hs=>by
 have h0:=hr w hs
 have hl:(xs.take h).length=h:=by rw [List.length_take]; omega
 refine ⟨by rw [hl]; exact Nat.le_trans hh h0.1,h0.2.1,fun hp=>h0.2.2.1 (by omega),fun j u hu=>h0.2.2.2.1 j u ?_,fun i x hx=>h0.2.2.2.2 i x ?_⟩
 ·have:rc T ly 0 xs=rc T ly 0 (xs.take h)++rc T ly (0+(xs.take h).length) (xs.drop h):=by rw [← Ji,List.take_append_drop]
  rw [this]
  exact List.getElem?_append_left (List.getElem?_eq_some_iff.1 hu).1 ▸ hu
 ·rw [List.getElem?_take] at hx
  split at hx
  ·exact hx
  ·cases hx
theorem GO.rU {el:TypeId} {b n sz m:Nat} {kh:IntKind} {h:Int} (ho:ops[i]?=some ⟨some d,.slice t x none (some z) none,ty,ps,af,none⟩) (hx:ev e x=some (.pointer (some ⟨b,0,none⟩))) (hz:ev e z=some (.int kh h)) (ht:P.underlying t=some (.array n el)) (hsz:(P.info? el).map (·.size)=some sz) (h1:0≤h∧h≤(n:Int)) (hm:h.toNat=m)
  (hN:Nat.blt d N=true) (g:GO P N ops rest ((d,.slice (some ⟨b,0,none⟩) m n)::e) w Q):GO P N ops (i::rest) e w Q :=
 GO.val _ ho rfl rfl hN (fun a hs=>by
  obtain ⟨inf,hi,hi2⟩:=Option.map_eq_some_iff.1 hsz
  have eh:(h.toNat:Int)=h:=Int.toNat_of_nonneg h1.1
  simp [execOp,hs.ev hx,hs.ev hz,Instr.sliceAt,Instr.sureAddr,Instr.sliceBounds,run_sliceBound,run_underlying ht,sizeOf,typeInfo,hi,h1.1,h1.2,hm,Addr.add]) g
theorem pJ {α:Type} {xs:List α} {h:Nat} (hh:h≤xs.length):h=(xs.take h).length:=by rw [List.length_take]; omega
theorem rR {α:Type} {xs ys:List α} {h:Nat} (e:ys.length=xs.length):((xs.take h).drop 0).length=((ys.take h).drop 0).length:=by rw [List.drop_zero,List.drop_zero,List.length_take,List.length_take,e]
section
variable {α:Type} {T:Ty α} {A:Option Addr} {c:Nat} {ly:Nat→T.Lay} {xs:List α} {t el:TypeId} {kl kh km:IntKind} {l h m:Int}
theorem qB {inf:TypeInfo} {n1:Nat} (ht:P.underlying t=some (.slice el)) (hi:P.info? el=some inf) (h0:0≤l) (h1:l≤h) (hc:h≤(c:Int)) :
  (Instr.sliceAt t (.slice A n1 c) (some (.int kl l)) (some (.int kh h)) none).run P w=.ok (.slice (Jn A l.toNat c inf.size) (h.toNat - l.toNat) (c - l.toNat)) w:=by
 have eh:(h.toNat:Int)=h:=Int.toNat_of_nonneg (by omega)
 have he:P.elem t=el:=by simp [Program.elem,ht]
 have ht':P.underlying t=some (.slice (P.elem t)):=by rw [he]; exact ht
 have hs:(sizeOf (P.elem t)).run P w=.ok inf.size w:=by rw [he]; simp [sizeOf,typeInfo,hi]
 have h4:0≤h:=by omega
 have hN:l.toNat≤h.toNat∧h.toNat≤c:=by omega
 rw [run_sliceAt_slice (h:=ht')]
 simp [Instr.slice,run_underlying ht',Instr.sliceBounds,run_sliceBound,hs,Jn,h0,h1,h4,hc,eh,hN]
theorem nI {inf:TypeInfo} {n1:Nat} (ht:P.underlying t=some (.slice el)) (hi:P.info? el=some inf) (h0:0≤l) (h1:l≤h) (h2:h≤m) (hc:m≤(c:Int)) :
  (Instr.sliceAt t (.slice A n1 c) (some (.int kl l)) (some (.int kh h)) (some (.int km m))).run P w=.ok (.slice (Jn A l.toNat m.toNat inf.size) (h.toNat - l.toNat) (m.toNat - l.toNat)) w:=by
 have eh:(h.toNat:Int)=h:=Int.toNat_of_nonneg (by omega)
 have em:(m.toNat:Int)=m:=Int.toNat_of_nonneg (by omega)
 have he:P.elem t=el:=by simp [Program.elem,ht]
 have ht':P.underlying t=some (.slice (P.elem t)):=by rw [he]; exact ht
 have hs:(sizeOf (P.elem t)).run P w=.ok inf.size w:=by rw [he]; simp [sizeOf,typeInfo,hi]
 have h4:0≤h:=by omega
 have h5:0≤m:=by omega
 rw [run_sliceAt_slice (h:=ht')]
 simp [Instr.slice,run_underlying ht',Instr.sliceBounds,run_sliceBound,hs,Jn,h0,h1,h2,h4,h5,hc,eh,em]
theorem GO.slM {z2:Operand} {n1:Nat} (ho:ops[i]?=some ⟨some d,.slice t x (some y) (some z) (some z2),ty,ps,af,none⟩) (hx:ev e x=some (.slice A n1 c)) (hy:ev e y=some (.int kl l)) (hz:ev e z=some (.int kh h)) (hz2:ev e z2=some (.int km m)) (ht:P.underlying t=some (.slice el)) {sz:Nat} (hsz:(P.info? el).map (·.size)=some sz) (h0:0≤l∧l≤h) (h2:h≤m) (hc:m≤(c:Int)) (hN:Nat.blt d N=true)
  (g:GO P N ops rest ((d,.slice (Jn A l.toNat m.toNat sz) (h.toNat - l.toNat) (m.toNat - l.toNat))::e) w Q):GO P N ops (i::rest) e w Q:=by
 obtain ⟨inf,hi,hi2⟩:=Option.map_eq_some_iff.1 hsz
 refine GO.val _ ho rfl rfl hN (fun a hs=>?_) g
 have:=nI (P:=P) (w:=w) (A:=A) (n1:=n1) (kl:=kl) (kh:=kh) (km:=km) ht hi h0.1 h0.2 h2 hc
 simp [execOp,hs.ev hx,hs.ev hy,hs.ev hz,hs.ev hz2,this,hi2]
theorem GO.zX {n1:Nat} (hr:xs.length≤c) (ho:ops[i]?=some ⟨some d,.slice t x (some y) (some z) none,ty,ps,af,none⟩) (hx:ev e x=some (.slice (Jn A 0 c T.sz) n1 (c - 0))) (hy:ev e y=some (.int kl l)) (hz:ev e z=some (.int kh h)) (ht:P.underlying t=some (.slice el)) (hsz:(P.info? el).map (·.size)=some T.sz) (h0:0≤l∧l≤h) (h2:0≤h∧h≤(xs.length:Int)) (hN:Nat.blt d N=true)
  (g:GO P N ops rest ((d,.slice (Jn A l.toNat c T.sz) ((xs.take h.toNat).drop l.toNat).length (c - l.toNat))::e) w Q):GO P N ops (i::rest) e w Q:=by
 obtain ⟨inf,hi,hi2⟩:=Option.map_eq_some_iff.1 hsz
 rw [Og,Nat.sub_zero] at hx
 refine GO.val _ ho rfl rfl hN (fun a hs=>?_) g
 have:=qB (P:=P) (w:=w) (A:=A) (c:=c) (n1:=n1) (kl:=kl) (kh:=kh) ht hi h0.1 h0.2 (by omega)
 simp [execOp,hs.ev hx,hs.ev hy,hs.ev hz,this,hi2,eH h0.1 h0.2 h2.2]
theorem gP {α:Type} {xs:List α} {i l:Nat} (h:i≤l) (hl:l≤xs.length):(over xs i (xs.drop l)).length=xs.length:=Lu (by rw [List.length_drop]; omega)
theorem GO.uY {tb:TypeId} {j i1 l1 n1 n2:Nat} {z0:Value} {bytes:Nat} (HS:St w0 w L) (hj:L[j]?=some (Own T tb A c ly xs)) (hfl:Flat T) (hly:∀ k k',ly k=ly k') (ho:ops[i]?=some ⟨some d,.call { callee:=.builtin .append,args:=#[x,y],argTypes:=#[t,t] },ty,ps,af,none⟩) (hx:ev e x=some (.slice (Jn A 0 c T.sz) n1 (c - 0))) (hy:ev e y=some (.slice (Jn A l1 c T.sz) n2 (c - l1))) (e1:n1=i1) (e2:n2=xs.length - l1)
  (ht:P.underlying t=some (.slice el)) (hinf:(P.info? el).map (fun i=>(i.zero,i.size,i.bytes))=some (some z0,T.sz,bytes)) (hil:i1≤l1) (hl:l1≤xs.length) (hN:Nat.blt d N=true)
  (g:∀ w',St w0 w' (L.set j (Own T tb A c ly (over xs i1 (xs.drop l1))))→GO P N ops rest ((d,.slice (Jn A 0 c T.sz) (((over xs i1 (xs.drop l1)).take (i1+(xs.length - l1))).drop 0).length (c - 0))::e) w' Q):GO P N ops (i::rest) e w Q:=by
 obtain ⟨inf,hi,hzz⟩:=Option.map_eq_some_iff.1 hinf
 simp only [Prod.mk.injEq] at hzz
 obtain ⟨hz0,hz1,hz2⟩:=hzz
 subst e1
 subst e2
 have hdl:(xs.drop l1).length=xs.length - l1:=List.length_drop ..
 have hol:(over xs n1 (xs.drop l1)).length=xs.length:=Lu (by rw [hdl]; omega)
 have hlen:(((over xs n1 (xs.drop l1)).take (n1+(xs.length - l1))).drop 0).length=n1+(xs.length - l1):=by rw [List.drop_zero,List.length_take,hol]; omega
 rw [hlen] at g
 rw [Og,Nat.sub_zero] at g hx
 have hR:=(Bv.own hj) w HS
 have hcap:=hR.1
 rcases Nat.eq_zero_or_pos (xs.length - l1) with h0 | h0
 ·have hd0:xs.drop l1=[]:=List.eq_nil_of_length_eq_zero (by rw [hdl]; exact h0)
  have ho':over xs n1 (xs.drop l1)=xs:=by rw [hd0]; unfold over; simp
  rw [ho',Q6 hj] at g
  refine GO.val _ ho rfl rfl hN (fun a hs=>?_) (g w HS)
  have hroom:n1≤c:=by omega
  cases A<;>cases hB:Jn _ l1 c T.sz<;>rw [hB] at hy<;>simp [execOp,resolve,invoke,builtin,hs.ev hx,hs.ev hy,Builtin.append_,run_underlying ht,sizeOf,typeInfo,hi,Builtin.lenOf,h0,hroom,Builtin.firstCells,loadCells,loadCellsFrom,storeCells]
 ·obtain ⟨gb,og,cur,hA,hh,hfit,hst⟩:=HS.dG (g:=0) (o:=0) (ys:=xs.drop l1) (l:=n1) hj hfl hly (by rw [hdl]; omega) (by rw [hdl]; exact h0)
  subst hA
  have hne:¬ c=l1:=by omega
  have hB:Jn (some ⟨gb,og,none⟩) l1 c T.sz=some ⟨gb,og+l1*T.sz,none⟩:=by unfold Jn; rw [if_neg hne,Option.map_some,Jj]
  rw [hB] at hy
  have hcells:rc T ly 0 (xs.drop l1)=(rc T ly 0 xs).drop (l1*T.sz):=by
   have h3:rc T ly 0 xs=rc T ly 0 (xs.take l1)++rc T ly (0+(xs.take l1).length) (xs.drop l1):=by rw [← Ji,List.take_append_drop]
   have htl:(xs.take l1).length=l1:=by rw [List.length_take]; omega
   have h4:(rc T ly 0 (xs.take l1)).drop (l1*T.sz)=[]:=List.drop_of_length_le (by rw [F7,htl]; exact Nat.le_refl _)
   rw [h3,List.drop_append,h4,F7,htl,Nat.sub_self,List.drop_zero,List.nil_append]
   have:∀ (i j:Nat) (zs:List α),rc T ly i zs=rc T ly j zs:=by
    intro i j zs
    induction zs generalizing i j with
    |nil=>rfl
    |cons z zs ih=>rw [rc,rc,hly i j,ih (i+1) (j+1)]
   exact this _ _ _
  have hload:(loadCells ⟨gb,og+l1*T.sz,none⟩ ((xs.length - l1)*T.sz)).run P w=.ok (rc T ly 0 (xs.drop l1)).toArray w:=by
   have:=run_loadCells_list (P:=P) w ⟨gb,og+l1*T.sz,none⟩ (rc T ly 0 (xs.drop l1)) (fun q v hv=>by
    rw [hcells,List.getElem?_drop] at hv
    have:=hR.2.2.2.1 _ _ hv
    rw [Tu,Jj] at this
    rw [Jj,Nat.add_assoc]
    exact this)
   rwa [F7,hdl] at this
  have hsto:=run_storeCells_at P gb (og+n1*T.sz) tb (rc T ly 0 (xs.drop l1)) 0 cur w hh (by rw [F7]; omega) (fun u hu=>Ym hu)
  simp only [Nat.add_zero] at hsto
  have hroom:n1+(xs.length - l1)≤c:=by omega
  refine GO.val _ ho rfl rfl hN (fun a hs=>?_) (g _ hst)
  have had:(⟨gb,og,none⟩:Addr).add (n1*T.sz)=⟨gb,og+n1*T.sz,none⟩:=Jj ..
  simp [execOp,resolve,invoke,builtin,hs.ev hx,hs.ev hy,Builtin.append_,run_underlying ht,sizeOf,typeInfo,hi,hz1,Builtin.lenOf,hroom,Builtin.firstCells,hload,had,hsto,splice]
end
end
section
variable {P:Program} {N:Nat} {e:Env} {w:World} {Q:Act→World→Prop} {ops:Array Oper} {i d:Nat} {rest:List Nat} {ty:TypeId} {ps:String} {af:Array Edge} {x y:Operand} {a b:ByteArray}
theorem GO.Ew {A:Addr} (ho:ops[i]?=some ⟨some d,.nilCheck x,ty,ps,af,none⟩) (hx:ev e x=some (.pointer (some A))) (hN:Nat.blt d N=true) (g:GO P N ops rest ((d,.pointer (some A))::e) w Q):GO P N ops (i::rest) e w Q :=
 GO.val _ ho rfl rfl hN (fun a' hs=>by simp [execOp,hs.ev hx]) g
end
theorem OR.Aaw {w:World} {t:TypeId} {sz n c l k m:Nat} {A:Option Addr} {xs:List Value} (h:OR w t sz (.slice A n c) n xs) (hl:l+k≤n) (hk:l+k≤m) (hm:m≤c):OR w t sz (.slice (Jn A l m sz) k (m - l)) k ((xs.drop (l*sz)).take (k*sz)):=by
 have hmul:(l+k)*sz≤n*sz:=Nat.mul_le_mul_right _ hl
 rw [Nat.add_mul] at hmul
 refine ⟨by rw [List.length_take,List.length_drop,h.1]; omega,?_⟩
 unfold Jn
 rcases h.2 with ⟨h2,h0⟩|⟨g,o,cap,cur,hv,hh,hnc,hcm,hsz,htk⟩
 ·injection h2 with hA _ hcc
  subst hA
  subst hcc
  refine .inl ⟨?_,by omega⟩
  rw [show k=0 by omega,show m - l=0 by omega]
  split<;>rfl
 ·injection hv with hA _ hcc
  subst hA
  subst hcc
  by_cases hcl:m=l
  ·rw [if_pos hcl]
   have hm0:k=0:=by omega
   subst hm0
   exact .inr ⟨g,o,m - l,cur,rfl,hh,by omega,by omega,by rw [show m - l=0 by omega]; omega,by simp⟩
  ·rw [if_neg hcl]
   have hmul2:(l+(m - l))*sz≤c*sz:=Nat.mul_le_mul_right _ (by omega)
   rw [Nat.add_mul] at hmul2
   refine .inr ⟨g,o+l*sz,m - l,cur,by rw [Option.map_some,Jj],hh,by omega,by omega,by omega,?_⟩
   rw [← htk,← List.drop_drop,List.drop_take,List.take_take]
   congr 1
   omega
theorem Ir.shift {α:Type} {T:Ty α} {w:World} {ly:Nat→T.Lay} {l:Nat}:∀ {xs:List α} {i:Nat} {q:Nat→Prop},Ir T w ly (l+i) xs q→Ir T w (fun k=>ly (l+k)) i xs q
 |[],_,_,_=>trivial
 |_::_,_,_,⟨q0,q1,h0,h1,hd,hx,hs⟩=>⟨q0,q1,h0,h1,hd,hx,Ir.shift hs⟩
theorem Yg {A:Option Addr} {l m s n n' c c' k:Nat} (h:(Value.slice (Jn A l m s) n c).ownBlock=some k):(Value.slice A n' c').ownBlock=some k:=by
 unfold Jn at h
 split at h
 ·cases A with
  |none=>simp [Value.ownBlock] at h
  |some a=>simpa [Value.ownBlock] using h
 ·cases A with
  |none=>simp [Value.ownBlock] at h
  |some a =>
   have:(a.add (l*s)).block=a.block:=by unfold Addr.add; split<;>rfl
   simpa [Value.ownBlock,this] using h
section
variable {α:Type} {T:Ty α} {w0 w:World} {L:List Dc} {t:TypeId} {A A':Option Addr} {c c' j l h m:Nat} {ly:Nat→T.Lay} {xs:List α}
theorem wO (hlh:l≤h) (hh:h≤xs.length):rc T (fun k=>ly (l+k)) 0 ((xs.take h).drop l)=((rc T ly 0 xs).drop (l*T.sz)).take ((h - l)*T.sz):=by
 have hsplit:xs=xs.take l++((xs.take h).drop l++xs.drop h):=by
  rw [List.drop_take]
  have:List.take (h - l) (List.drop l xs)++List.drop h xs=List.drop l xs:=by
   rw [show h=l+(h - l) by omega,← List.drop_drop,show l+(h - l) - l=h - l by omega,List.take_append_drop]
  rw [this,List.take_append_drop]
 have htl:(xs.take l).length=l:=by rw [List.length_take]; omega
 have hml:((xs.take h).drop l).length=h - l:=by rw [List.length_drop,List.length_take]; omega
 rw [Uo,Nat.add_zero]
 conv=>rhs; rw [hsplit,Ji,Ji,htl,Nat.zero_add]
 rw [List.drop_left' (by rw [F7,htl]),List.take_left' (by rw [F7,hml])]
theorem St.Xy (HS:St w0 w L) (hj:L[j]?=some (Own T t A c ly xs)) (hlh:l≤h) (hh:h≤xs.length) (hhm:h≤m) (hm:m≤c) (hA:A'=Jn A l m T.sz) (hc:c'=m - l):St w0 w (L.set j (Own T t A' c' (fun k=>ly (l+k)) ((xs.take h).drop l))):=by
 subst hA
 subst hc
 have hml:((xs.take h).drop l).length=h - l:=by rw [List.length_drop,List.length_take]; omega
 refine HS.upd hj (Nat.le_refl _) rfl rfl rfl (fun q ho=>?_)
 obtain ⟨q1,q2,h1,h2,hd,hown,hb,hs⟩:=ho
 refine ⟨q,fun k hk=>.inl hk,⟨q1,q2,h1,h2,hd,?_,fun k hk=>hb k (Yg hk),?_⟩,fun k _ _=>rfl⟩
 ·rw [hml,wO hlh hh]
  exact hown.Aaw (by omega) (by omega) hm
 ·have hsplit:xs=xs.take l++((xs.take h).drop l++xs.drop h):=by
   rw [List.drop_take]
   have:List.take (h - l) (List.drop l xs)++List.drop h xs=List.drop l xs:=by
    rw [show h=l+(h - l) by omega,← List.drop_drop,show l+(h - l) - l=h - l by omega,List.take_append_drop]
   rw [this,List.take_append_drop]
  have htl:(xs.take l).length=l:=by rw [List.length_take]; omega
  rw [hsplit] at hs
  obtain ⟨_,qb,_,hqb,_,_,s2⟩:=Ir.cut hs
  obtain ⟨qc,_,hqc,_,_,s3,_⟩:=Ir.cut s2
  rw [htl,Nat.zero_add] at s3
  exact (Ir.shift (i:=0) s3).more (fun k hk=>hqb k (hqc k hk))
end
section
variable {α:Type} {P:Program} {N:Nat} {e:Env} {w0 w:World} {L:List Dc} {Q:Act→World→Prop} {ops:Array Oper} {i d:Nat} {rest:List Nat} {ty:TypeId} {ps:String} {af:Array Edge} {t el:TypeId} {x z z2:Operand} {A:Option Addr} {c:Nat} {kh km:IntKind} {h m:Int} {xs:List α}
end
theorem Z {α:Sort _} {a:α}:a=a:=rfl
theorem tT {p:Prop} [h:Decidable p] (c:p):decide p=true:=decide_eq_true c
theorem tF {p:Prop} [h:Decidable p] (c:¬ p):decide p=false:=decide_eq_false c
theorem nT {p:Prop} [h:Decidable p] (c:p):(!decide p)=false:=congrArg Bool.not (decide_eq_true c)
theorem nF {p:Prop} [h:Decidable p] (c:¬ p):(!decide p)=true:=congrArg Bool.not (decide_eq_false c)
theorem sI {α:Type _} {a b:α} (h:some a=some b):a=b:=Option.some.inj h
theorem bI {α β:Type _} {o:Option α} {f:α→Option β} {b:β} (h:o.bind f=some b):∃ a,o=some a∧f a=some b:=Option.bind_eq_some_iff.1 h
abbrev I (x:Int):Value:=.int .i64 x
abbrev J5 (w0:World) (L:List Dc) (r1:Int) (en:Ending) (w:World):Prop:=en=.returned (.int .i64 r1)∧St w0 w (L)
abbrev Ka (w0:World) (L:List Dc) (r1:Bool) (en:Ending) (w:World):Prop:=en=.returned (.bool r1)∧St w0 w (L)
section
variable {P:Program} {f:FuncId} {N:Nat} {e:Env} {k:List Item} {w0 w:World} {L:List Dc} {R:Ending→World→Prop} {Q:Act→World→Prop} {ops:Array Oper} {i d:Nat} {rest:List Nat} {ty:TypeId} {ps:String} {af:Array Edge}
theorem oF {o:Oper} {d j t:Nat} {b:Bool} (h:(ops[i]?,o.guard,Od ops j,look e t,o.dst,Nat.blt d N)=(some o,some (j,b),some t,some (.bool (!b)),some d,true)) (g:GO P N ops rest ((d,undef)::e) w Q):GO P N ops (i::rest) e w Q:=by
 simp only [Prod.mk.injEq] at h
 exact GO.off h.1 h.2.1 h.2.2.1 h.2.2.2.1 h.2.2.2.2.1 h.2.2.2.2.2 g
theorem oN {o:Oper} {j t:Nat} {b:Bool} (h:(ops[i]?,o.guard,Od ops j,look e t)=(some o,some (j,b),some t,some (.bool b))) (g:GO P N #[{ o with guard:=none }] [0] e w (fun a' w'=>wpOps P ops (fun en a w=>en=.normal∧Q a w) rest a' w')):GO P N ops (i::rest) e w Q:=by
 simp only [Prod.mk.injEq] at h
 exact GO.on h.1 h.2.1 h.2.2.1 h.2.2.2 g
theorem mV {x:Operand} {v:Value} (h:(ops[i]?,ev e x,Nat.blt d N)=(some ⟨some d,.move x,ty,ps,af,none⟩,some v,true)) (g:GO P N ops rest ((d,v)::e) w Q):GO P N ops (i::rest) e w Q:=by
 simp only [Prod.mk.injEq] at h
 exact GO.move h.1 h.2.1 h.2.2 g
theorem aS {x:Operand} {v:Value} (h:(ops[i]?,ev e x,Nat.blt d N)=(some ⟨some d,.assign x,ty,ps,af,none⟩,some v,true)) (g:GO P N ops rest ((d,v)::e) w Q):GO P N ops (i::rest) e w Q:=by
 simp only [Prod.mk.injEq] at h
 exact GO.assign h.1 h.2.1 h.2.2 g
theorem fL {s:TypeId} {x:Operand} {fi off:Nat} {ad:Addr} (b o:Nat) (hr:∀ (ad:Addr) (w:World),(Instr.fieldAt s (.pointer (some ad)) fi).run P w=.ok (.pointer (some (ad.add off))) w) (h:(ops[i]?,ev e x,ad.add off,Nat.blt d N)=(some ⟨some d,.fieldAddr s x fi,ty,ps,af,none⟩,some (.pointer (some ad)),⟨b,o,none⟩,true)) (g:GO P N ops rest ((d,.pointer (some ⟨b,o,none⟩))::e) w Q):GO P N ops (i::rest) e w Q:=by
 simp only [Prod.mk.injEq] at h
 exact GO.fld ⟨b,o,none⟩ h.1 h.2.1 hr h.2.2.1 h.2.2.2 g
theorem lB {t tb:TypeId} {x:Operand} {b off:Nat} {cs:List Value} {v:Value} (j:Nat) (HS:St w0 w L) (h:(L[j]?,ops[i]?,ev e x,cs[off]?)=(some (Box b tb cs),some ⟨some d,.load t x,ty,ps,af,none⟩,some (.pointer (some ⟨b,off,none⟩)),some v)) (ht:naB P t=true) (hN:Nat.blt d N=true) (g:GO P N ops rest ((d,v)::e) w Q):GO P N ops (i::rest) e w Q:=by
 simp only [Prod.mk.injEq] at h
 exact GO.rM HS h.1 h.2.1 h.2.2.1 h.2.2.2 ht hN g
theorem lW {t tb:TypeId} {x:Operand} {b:Nat} {cs:List Value} (j:Nat) (HS:St w0 w L) (h:(L[j]?,ops[i]?,ev e x,Nat.blt d N)=(some (Box b tb cs),some ⟨some d,.load t x,ty,ps,af,none⟩,some (.pointer (some ⟨b,0,none⟩)),true)) (ht:agB P t cs.length=true) (g:GO P N ops rest ((d,.agg cs.toArray)::e) w Q):GO P N ops (i::rest) e w Q:=by
 simp only [Prod.mk.injEq] at h
 exact GO.Gc cs HS h.1 h.2.1 h.2.2.1 (by simp) ht h.2.2.2 g
theorem sW {t tb:TypeId} {x y:Operand} {b:Nat} {cs vs:List Value} (j:Nat) (HS:St w0 w L) (h:(L[j]?,ops[i]?,ev e x,ev e y)=(some (Box b tb cs),some ⟨none,.store t x y,ty,ps,af,none⟩,some (.pointer (some ⟨b,0,none⟩)),some (.agg vs.toArray))) (ht:agB P t vs.length=true) (h1:(vs.all (·.oneCell'),Nat.beq cs.length vs.length)=(true,true)) (g:∀ w',St w0 w' (L.set j (Box b tb vs))→GO P N ops rest e w' Q):GO P N ops (i::rest) e w Q:=by
 simp only [Prod.mk.injEq] at h h1
 have hl:=Nat.eq_of_beq_eq_true h1.2
 refine GO.K7 vs HS h.1 h.2.1 h.2.2.1 h.2.2.2 rfl (htA ht) h1.1 (by rw [Nat.zero_add,hl]; exact Nat.ble_self_eq_true _) ?_ g
 unfold splice
 rw [List.take_zero,List.nil_append,Nat.zero_add,← hl,List.drop_length,List.append_nil]
theorem bA {t:TypeId} {x:Operand} {cs:List Value} (HS:St w0 w L) (h:(ops[i]?,ev e x,Nat.blt d N)=(some ⟨some d,.box t x,ty,ps,af,none⟩,some (.agg cs.toArray),true)) (g:∀ b w',St w0 w' (Box b t cs::L)→GO P N ops rest ((d,.pointer (some ⟨b,0,none⟩))::e) w' Q):GO P N ops (i::rest) e w Q:=by
 simp only [Prod.mk.injEq] at h
 exact GO.box HS h.1 h.2.1 rfl h.2.2 g
abbrev FK (P : Program) (h : FuncId) (f : Func) : Prop := P.funcs[h]? = some f ∧ (f.name == "runtime.NumGoroutine") = false ∧ f.body.isNone = false
theorem fJ {h:FuncId} {fn:Func} {args:Array Operand} {tys:Array TypeId} {vs:List Value} {R1:Ending→World→Prop} (k:FK P h fn) (hh:(ops[i]?,evs e args.toList,Nat.blt d N)=(some ⟨some d,.call { callee:=.value (.func h),args:=args,argTypes:=tys },ty,ps,af,none⟩,some vs,true)) (hc:Calls P h vs.toArray w R1) (hr:∀ en w2,R1 en w2→∃ v,en=.returned v∧GO P N ops rest ((d,v)::e) w2 Q):GO P N ops (i::rest) e w Q:=by
 simp only [Prod.mk.injEq] at hh
 exact GO.fn hh.1 k.1 k.2.1 k.2.2 hh.2.1 hh.2.2 hc hr
theorem cG {fn:Func} {c:Code} {args:List Value} (hf:P.funcs[f]?=some fn) (h:(fn.body,fn.ntmps,Nat.ble args.length N)=(some c,N,true)) (g:G P f N (start args 0) [.code c] w R):Calls P f args.toArray w R:=by
 simp only [Prod.mk.injEq] at h
 exact Calls.Aat hf h.1 h.2.1 h.2.2 g
theorem kN (t:Nat) {x b:Bool} {l:List Nat} (h:look e t=some (.bool x)) (hx:x=b) (g:GO P N ops l ((t,.bool b)::e) w Q):GO P N ops l e w Q:=GO.known h hx g
end
abbrev bK:=@GO.back
abbrev rG:=@G.region
abbrev nL:=@GO.nil
abbrev rN:=@G.run
abbrev pS:=@GO.ps
abbrev iE:=@lX
abbrev iN:=@mI
abbrev rD:=@Bv.drop
abbrev rT:=@G.Aa5
abbrev yB:=@G.Aap
abbrev nB:=@G.noB
abbrev lS:=@GO.Aa6
abbrev qL:=@GX.l0
abbrev sQ:=@G.seq
abbrev lR:=@Nat.le_refl
theorem kY {c:Prop} [Decidable c] {α:Type _} {a b r:Option α} (h:(if c then a else b)=r):(¬ c∧b=r)∨(c∧a=r):=by
 by_cases hc:c
 ·exact .inr ⟨hc,by rw [if_pos hc] at h; exact h⟩
 ·exact .inl ⟨hc,by rw [if_neg hc] at h; exact h⟩
abbrev iS:=@kY
theorem tv:True:=trivial
def sH {α:Type} (T:Ty α) (ly:Nat→T.Lay) (xs:List α) (z:α) (l0:T.Lay):Option Nat→List Value
 |none=>T.cells l0 z
 |some k=>T.cells (ly k) (xs.getD k z)
theorem nD {α:Type} (T:Ty α) (ly:Nat→T.Lay) (xs:List α) (z:α) (l0:T.Lay) (o:Option Nat):(sH T ly xs z l0 o).length=T.sz:=by cases o<;>exact T.len _ _
theorem jP {α:Type} (T:Ty α) (ly:Nat→T.Lay) (xs:List α) (z:α) (l0:T.Lay) (o:Option Nat) (u:Value) (h:u∈sH T ly xs z l0 o):u.oneCell'=true:=by cases o<;>exact T.one _ _ _ h
abbrev TIx {α:Type} (T:Ty α) (ly:Nat→T.Lay) (xs:List α) (z:α) (l0:T.Lay):Ty (Option Nat):=Ty.flat T.sz (fun o=>sH T ly xs z l0 o) (nD T ly xs z l0) (jP T ly xs z l0)
def Y7 {α:Type} (T:Ty α) (ly:Nat→T.Lay) (xs:List α):Dc where
 P:=fun w q=>Ir T w ly 0 xs q
 loc:=fun h hk=>h.loc hk
 more:=fun h hk=>h.more hk
section
variable {α:Type} {T:Ty α} {t:TypeId} {w0 w:World} {L:List Dc} {A A':Option Addr} {c c' m:Nat} {ly ly':Nat→T.Lay} {xs r:List α} {z:α} {l0:T.Lay} {is:List (Option Nat)}
theorem qD:∀ (ys:List α) (i m:Nat),(∀ k,k<ys.length→xs.getD (i+k) z=ys.getD k z)→rc T ly i ys=rc (TIx T ly xs z l0) (fun _=>()) m ((List.range' i ys.length).map some)
 |[],_,_,_=>rfl
 |y::r,i,m,h=>by
  have h0:=h 0 (by simp)
  rw [Nat.add_zero,List.getD_cons_zero] at h0
  have ih:=qD r (i+1) (m+1) (fun k hk=>by
   have:=h (k+1) (by simp only [List.length_cons]; omega)
   rw [List.getD_cons_succ] at this
   rw [show i+1+k=i+(k+1) by omega]
   exact this)
  rw [List.length_cons,List.range'_succ,List.map_cons,rc,rc,ih]
  show T.cells (ly i) y++_=T.cells (ly i) (xs.getD i z)++_
  rw [h0]
theorem St.vC (z:α) (l0:T.Lay) (HS:St w0 w (Own T t A c ly xs::L)):St w0 w (Own (TIx T ly xs z l0) t A c (fun _=>()) (allRows xs.length)::Y7 T ly xs::L):=by
 obtain ⟨hbel,q,r,hq,hr,hqr,⟨q1,q2,h1,h2,hd,hown,hb,hs⟩,hL⟩:=HS
 refine ⟨hbel,q1,fun k=>q2 k∨r k,fun k hk=>hq k (h1 k hk),fun k hk=>hk.elim (fun h=>hq k (h2 k h)) (hr k),fun k hk hn=>hn.elim (hd k hk) (fun h=>hqr k (h1 k hk) h),⟨q1,fun _=>False,fun _ h=>h,fun _ h=>h.elim,fun _ _ h=>h,?_,?_,Ir.flat Ao _ _ _⟩,q2,r,fun k hk=>.inl hk,fun k hk=>.inr hk,fun k hk hn=>hqr k (h2 k hk) hn,hs,hL⟩
 ·have he:=qD (ly:=ly) (xs:=xs) (z:=z) (l0:=l0) xs 0 0 (fun k _=>by rw [Nat.zero_add])
  rw [Kh]
  unfold allRows
  rw [List.range_eq_range',← he]
  exact hown
 ·rw [Kh]; exact hb
def Gq {α:Type} (z:α) (xs:List α) (is:List (Option Nat)):Option (List α) :=
 if is=(is.map (·.getD 0)).map some∧(is.map (·.getD 0)).Pairwise (·<·)∧∀ k,k∈is.map (·.getD 0)→k<xs.length then some ((is.map (·.getD 0)).map (fun k=>xs.getD k z)) else none
theorem Yr:∀ (js:List Nat) (i m:Nat),(∀ k,k<js.length→ly' (i+k)=ly (js.getD k 0))→rc (TIx T ly xs z l0) (fun _=>()) m (js.map some)=rc T ly' i (js.map (fun k=>xs.getD k z))
 |[],_,_,_=>rfl
 |k::js,i,m,h=>by
  have h0:=h 0 (by simp)
  rw [Nat.add_zero,List.getD_cons_zero] at h0
  have ih:=Yr js (i+1) (m+1) (fun k hk=>by
   have:=h (k+1) (by simp only [List.length_cons]; omega)
   rw [List.getD_cons_succ] at this
   rw [show i+1+k=i+(k+1) by omega]
   exact this)
  rw [List.map_cons,List.map_cons,rc,rc,ih]
  show T.cells (ly k) (xs.getD k z)++_=T.cells (ly' i) (xs.getD k z)++_
  rw [h0]
theorem St.jT (HS:St w0 w (Own (TIx T ly xs z l0) t A c (fun _=>()) is::Y7 T ly xs::L)) (hm:m≤is.length) (hr:Gq z xs (is.take m)=some r) (hA:A'=A) (hc:c'=c) :
  ∃ ly',r.length=m∧St w0 w (Own T t A' c' ly' r::L):=by
 subst hA
 subst hc
 have hcut:=HS.Xy (j:=0) (l:=0) (h:=m) (m:=c') rfl (Nat.zero_le _) hm (Nat.le_trans hm ((Bv.own (j:=0) rfl) w HS).1) (Nat.le_refl _) rfl rfl
 rw [List.drop_zero] at hcut
 replace hcut:St w0 w (Own (TIx T ly xs z l0) t (Jn A' 0 c' T.sz) (c' - 0) (fun _=>()) (is.take m)::Y7 T ly xs::L):=hcut
 rw [Og,Nat.sub_zero] at hcut
 unfold Gq at hr
 split at hr
 ·rename_i hc
  obtain ⟨hc1,hc2,hc3⟩:=hc
  obtain rfl:=Option.some.inj hr
  generalize hjs:(is.take m).map (·.getD 0)=js at hc1 hc2 hc3
  have hlen:js.length=m:=by rw [← hjs,List.length_map,List.length_take]; omega
  have hil:(is.take m).length=js.length:=by rw [hc1,List.length_map]
  obtain ⟨hbel,q,r,hq,hr,hqr,⟨q1,q2,h1,h2,hd,hown,hb,hs⟩,q3,r3,hq3,hr3,hd3,hs3,hL⟩:=hcut
  refine ⟨fun k=>ly (js.getD k 0),by rw [List.length_map,hlen],hbel,fun k=>q1 k∨q3 k,r3,?_,?_,?_,⟨q1,q3,fun k hk=>.inl hk,fun k hk=>.inr hk,?_,?_,?_,?_⟩,hL⟩
  ·exact fun k hk=>hk.elim (fun h=>hq k (h1 k h)) (fun h=>hr k (hq3 k h))
  ·exact fun k hk=>hr k (hr3 k hk)
  ·exact fun k hk hn=>hk.elim (fun h=>hqr k (h1 k h) (hr3 k hn)) (fun h=>hd3 k h hn)
  ·exact fun k hk hn=>hqr k (h1 k hk) (hq3 k hn)
  ·have he:=Yr (ly:=ly) (ly':=fun k=>ly (js.getD k 0)) (xs:=xs) (z:=z) (l0:=l0) js 0 0 (fun k _=>by rw [Nat.zero_add])
   rw [← he,← hc1,List.length_map,← hil]
   exact hown
  ·intro k hk
   rw [List.length_map,← hil] at hk
   exact hb k hk
  ·have:=Ir.sel (ly':=fun k=>ly (js.getD k 0)) (d:=z) (i0:=0) hs3 hc2 (fun k hk=>⟨Nat.zero_le _,by rw [Nat.zero_add]; exact hc3 k hk⟩) (fun m _=>by rw [Nat.zero_add])
   simpa using this
 ·cases hr
end
abbrev Raw (n:Nat):={ v:List Value // v.length=n∧∀ u,u∈v→u.oneCell'=true }
def hd {α:Type} (T:Ty α) (l:T.Lay) (x:α):Raw T.sz:=⟨T.cells l x,T.len l x,fun u h=>T.one l x u h⟩
section
variable {α:Type} {T:Ty α} {t:TypeId} {w0 w:World} {L:List Dc} {A A':Option Addr} {c c' m:Nat} {ly ly':Nat→T.Lay} {xs ys r:List α} {l:T.Lay} {y0:α}
end
section
variable {P:Program} {w:World} {A:Option Addr} {t el:TypeId} {kl kh:IntKind} {l h:Int} {n c:Nat}
end
section
variable {α:Type} {T:Ty α} {P:Program} {N:Nat} {e:Env} {w0 w:World} {L:List Dc} {Q:Act→World→Prop} {ops:Array Oper} {i d:Nat} {rest:List Nat} {ty:TypeId} {ps:String} {af:Array Edge} {t el:TypeId} {x y z:Operand} {A:Option Addr} {n c sz:Nat} {kl kh:IntKind} {l h:Int}
end
set_option linter.unusedSectionVars false
section
variable {κ ν:Type} [DecidableEq κ]
def Mi:List (κ × ν)→κ→Option ν
 |[],_=>none
 |p::r,k=>if k=p.1 then some p.2 else Mi r k
def Qs:List (κ × ν)→κ→ν→List (κ × ν)
 |[],k,v=>[(k,v)]
 |p::r,k,v=>if k=p.1 then (k,v)::r else p::Qs r k v
def Sk:List (κ × ν)→κ→Nat→Option (Nat × ν)
 |[],_,_=>none
 |p::r,k,i=>if k=p.1 then some (i,p.2) else Sk r k (i+1)
theorem R9 {k:κ}:∀ {m:List (κ × ν)} {i:Nat},Sk m k i=none→Mi m k=none∧∀ v,Qs m k v=m++[(k,v)]
 |[],_,_=>⟨rfl,fun _=>rfl⟩
 |p::r,i,h=>by
  unfold Sk at h
  by_cases hk:k=p.1
  ·rw [if_pos hk] at h; cases h
  ·rw [if_neg hk] at h
   obtain ⟨h1,h2⟩:=R9 h
   exact ⟨by unfold Mi; rw [if_neg hk,h1],fun v=>by unfold Qs; rw [if_neg hk,h2 v]; rfl⟩
theorem Sj {k:κ} {n:Nat} {v0:ν}:∀ {m:List (κ × ν)} {i:Nat},Sk m k i=some (n,v0)→∃ j,n=i+j∧m[j]?=some (k,v0)∧Mi m k=some v0∧∀ v,Qs m k v=m.set j (k,v)
 |[],_,h=>by cases h
 |p::r,i,h=>by
  unfold Sk at h
  by_cases hk:k=p.1
  ·rw [if_pos hk] at h
   injection h with h
   injection h with h1 h2
   subst h1; subst h2
   exact ⟨0,rfl,by rw [hk]; rfl,by unfold Mi; rw [if_pos hk],fun v=>by unfold Qs; rw [if_pos hk]; rfl⟩
  ·rw [if_neg hk] at h
   obtain ⟨j,h1,h2,h3,h4⟩:=Sj h
   exact ⟨j+1,by omega,by simpa using h2,by unfold Mi; rw [if_neg hk,h3],fun v=>by unfold Qs; rw [if_neg hk,h4 v]; rfl⟩
def Nh (ke:κ→Value) (ve:ν→Value) (es:List MapEntry) (m:List (κ × ν)):Prop:=es.map (fun x=>(x.key,x.val))=m.map (fun p=>(ke p.1,ve p.2))
def O9 (b:Nat) (ke:κ→Value) (ve:ν→Value) (m:List (κ × ν)):Dc where
 P:=fun w q=>q b∧∃ es clock,w.heap[b]?=some (.map es clock)∧Nh ke ve es.toList m
 loc:=fun h hk=>⟨h.1,by obtain ⟨es,c,h1,h2⟩:=h.2; exact ⟨es,c,(hk b h.1).trans h1,h2⟩⟩
 more:=fun h hq=>⟨hq b h.1,h.2⟩
structure Vi (P:Program) (kt:TypeId) (ke:κ→Value):Prop where
 eq:∀ a b w,(Op.equal kt (ke a) (ke b)).run P w=.ok (decide (a=b)) w
 now:∃ d,P.underlying kt=some d∧((∀ a b,Instr.sameNow d (ke a) (ke b)=none)∨(∀ a b,Instr.sameNow d (ke a) (ke b)=some (decide (a=b))))
 check:∀ em a w,(Instr.checkKey em 10000 kt (ke a)).run P w=.ok () w
 stays:∀ a w,(Instr.keyThatStays (ke a) (ke a)).run P w=.ok (ke a) w
variable {P:Program} {kt:TypeId} {ke:κ→Value} {ve:ν→Value} {w0 w:World} {L:List Dc} {b j:Nat} {m:List (κ × ν)}
theorem Pj {e:MapEntry} {es:List MapEntry} {p:κ × ν} (h:Nh ke ve (e::es) (p::m)):e.key=ke p.1∧e.val=ve p.2∧Nh ke ve es m:=by
 unfold Nh at h
 simp only [List.map_cons,List.cons.injEq,Prod.mk.injEq] at h
 exact ⟨h.1.1,h.1.2,h.2⟩
theorem Te {d:TypeDesc} (hn:∀ a b,Instr.sameNow d (ke a) (ke b)=some (decide (a=b))) {k:κ}:∀ {es:List MapEntry} {m:List (κ × ν)} {i:Nat},Nh ke ve es m→Instr.findNow d (ke k) es i=some ((Sk m k i).map fun p=>(p.1,ve p.2))
 |[],[],_,_=>rfl
 |[],_::_,_,h=>by cases h
 |_::_,[],_,h=>by cases h
 |e::es,p::m,i,h=>by
  obtain ⟨h1,h2,h3⟩:=Pj h
  unfold Instr.findNow Sk
  rw [h1,hn]
  by_cases hk:k=p.1
  ·rw [decide_eq_true hk,if_pos hk,h2]; rfl
  ·rw [decide_eq_false hk,if_neg hk]; exact Te hn h3
theorem Sq (heq:∀ a b w,(Op.equal kt (ke a) (ke b)).run P w=.ok (decide (a=b)) w) (w1:World) {k:κ}:∀ {es:List MapEntry} {m:List (κ × ν)} {i:Nat},Nh ke ve es m→(Instr.findAsking kt (ke k) es i).run P w1=.ok ((Sk m k i).map fun p=>(p.1,ve p.2)) w1
 |[],[],_,_=>rfl
 |[],_::_,_,h=>by cases h
 |_::_,[],_,h=>by cases h
 |e::es,p::m,i,h=>by
  obtain ⟨h1,h2,h3⟩:=Pj h
  unfold Instr.findAsking Sk
  rw [h1]
  by_cases hk:k=p.1
  ·simp [heq,hk,h2]
  ·have ih:=Sq heq w1 (k:=k) (i:=i+1) h3
   simp [heq,hk,ih]
theorem Su (K:Vi P kt ke) {k:κ} {es:List MapEntry} (h:Nh ke ve es m):(Instr.findKey kt (ke k) es).run P w=.ok ((Sk m k 0).map fun p=>(p.1,ve p.2)) w:=by
 obtain ⟨d,hd,hn⟩:=K.now
 unfold Instr.findKey
 rcases hn with hn | hn
 ·cases es with
  |nil =>
   cases m with
   |nil=>simp [run_underlying hd,Instr.findNow,Sk]
   |cons p m=>cases h
  |cons e es =>
   cases m with
   |nil=>cases h
   |cons p m =>
    have h1:=(Pj h).1
    have h2:Instr.findNow d (ke k) (e::es) 0=none:=by unfold Instr.findNow; rw [h1,hn]
    have h3:=Sq K.eq w (k:=k) (i:=0) h
    simp [run_underlying hd,h2,h3]
 ·have h2:=Te (i:=0) hn (k:=k) h
  simp [run_underlying hd,h2]
theorem St.Yh (h:St w0 w L) (ke:κ→Value) (ve:ν→Value):St w0 (w.alloc (.map #[] 0)) (O9 w.heap.size ke ve []::L) :=
 h.cons (by simp) rfl rfl rfl (fun k hk=>Below.heap_alloc w _ k hk) ⟨by simp,#[],0,heap_alloc_new w _,rfl⟩
theorem St.yA (h:St w0 w L) (hj:L[j]?=some (O9 b ke ve m)):∃ es clock,w.heap[b]?=some (.map es clock)∧Nh ke ve es.toList m:=by
 obtain ⟨q,_,h1,h2⟩:=h.get hj
 exact h2
variable {N:Nat} {e:Env} {Q:Act→World→Prop} {ops:Array Oper} {i d:Nat} {rest:List Nat} {ty:TypeId} {ps:String} {af:Array Edge} {t el:TypeId} {x y z:Operand} {key:κ} {v:ν}
theorem GO.Yh (ke:κ→Value) (ve:ν→Value) (HS:St w0 w L) (ho:ops[i]?=some ⟨some d,.makeMap t none,ty,ps,af,none⟩) (hN:Nat.blt d N=true)
  (g:∀ b w',St w0 w' (O9 b ke ve ([]:List (κ × ν))::L)→GO P N ops rest ((d,.map (some b))::e) w' Q):GO P N ops (i::rest) e w Q :=
 GO.val (.map (some w.heap.size)) ho rfl rfl hN (fun a hs=>by simp [execOp,Instr.makeMap]) (g _ _ (HS.Yh ke ve))
theorem gG (z0:ν) (K:Vi P kt ke) (HS:St w0 w L) (hj:L[j]?=some (O9 b ke ve m)) (ht:P.underlying t=some (.map kt el)) (hz:(P.info? el).map (·.zero)=some (some (ve z0))) (cm:Bool) :
  (Instr.lookup t (.map (some b)) (ke key) cm).run P w=.ok (bif cm then .tuple #[ve ((Mi m key).getD z0),.bool (Mi m key).isSome] else ve ((Mi m key).getD z0)) w:=by
 obtain ⟨es,clock,hb,hm⟩:=HS.yA hj
 obtain ⟨inf,hi,hz'⟩:=Option.map_eq_some_iff.1 hz
 have hck:=K.check es.isEmpty key w
 have hzz:(zeroValue el).run P w=.ok (ve z0) w:=by simp [zeroValue,typeInfo,hi,hz']
 have hf:=Su (w:=w) K (k:=key) hm
 cases hp:Sk m key 0 with
 |none =>
  have hg:=(R9 hp).1
  rw [hp] at hf
  cases cm<;>simp [Instr.lookup,run_underlying ht,MapKept.run_getObj_map hb,hck,hf,hzz,hg]
 |some p =>
  obtain ⟨n,v0⟩:=p
  obtain ⟨_,_,_,hg,_⟩:=Sj hp
  rw [hp] at hf
  cases cm<;>simp [Instr.lookup,run_underlying ht,MapKept.run_getObj_map hb,hck,hf,hg]
theorem GO.zQ (z0:ν) (key:κ) {y':Value} (K:Vi P kt ke) (HS:St w0 w L) (hj:L[j]?=some (O9 b ke ve m)) (ho:ops[i]?=some ⟨some d,.lookup t x y false,ty,ps,af,none⟩) (hx:ev e x=some (.map (some b))) (hy:ev e y=some (ke key)) (ht:P.underlying t=some (.map kt el)) (hz:(P.info? el).map (·.zero)=some (some (ve z0))) (hN:Nat.blt d N=true)
  (hv:ve ((Mi m key).getD z0)=y') (g:GO P N ops rest ((d,y')::e) w Q):GO P N ops (i::rest) e w Q :=
 GO.val _ ho rfl rfl hN (fun a hs=>by simp [execOp,hs.ev hx,hs.ev hy,gG z0 K HS hj ht hz false,hv]) g
theorem mZ (K:Vi P kt ke) (HS:St w0 w L) (hj:L[j]?=some (O9 b ke ve m)) (ht:P.underlying t=some (.map kt el)) (key:κ) (v:ν) :
  ∃ w',(Instr.mapUpdate t (.map (some b)) (ke key) (ve v)).run P w=.ok () w'∧St w0 w' (L.set j (O9 b ke ve (Qs m key v))):=by
 obtain ⟨es,clock,hb,hm⟩:=HS.yA hj
 have hck:=K.check false key w
 have hup:∀ (o:Obj),(∃ es' c',o=.map es' c'∧Nh ke ve es'.toList (Qs m key v))→St w0 { w with heap:=w.heap.setIfInBounds b o } (L.set j (O9 b ke ve (Qs m key v))):=fun o ho=>by
  obtain ⟨es',c',rfl,hm'⟩:=ho
  obtain ⟨hs1,hs2⟩:=MapKept.heap_set (w:=w) (o':=.map es' c') hb
  refine HS.upd hj (by simp) rfl rfl rfl (fun q hq=>⟨q,fun k hk=>.inl hk,⟨hq.1,es',c',hs1,hm'⟩,fun k hk hn=>hs2 k (fun e=>hn (by rw [e]; exact hq.1))⟩)
 have hf:=Su (w:=w) K (k:=key) hm
 cases hp:Sk m key 0 with
 |none =>
  have hg:=(R9 hp).2 v
  rw [hp] at hf
  refine ⟨{ w with heap:=w.heap.setIfInBounds b (.map (es.push ⟨ke key,ve v,clock⟩) (clock+1)) },?_,hup _ ⟨_,_,rfl,?_⟩⟩
  ·simp [Instr.mapUpdate,run_underlying ht,MapKept.run_getObj_map hb,hck,hf,MapKept.run_setObj_map _ hb]
  ·rw [hg]
   unfold Nh at hm ⊢
   simp [hm]
 |some p =>
  obtain ⟨n,v0⟩:=p
  obtain ⟨n',h1,h2,_,h4⟩:=Sj hp
  rw [Nat.zero_add] at h1
  subst h1
  rw [hp] at hf
  have hst:=K.stays key w
  have hlen:es.toList.length=m.length:=by have:=congrArg List.length hm; simpa using this
  have hlt:n<m.length:=(List.getElem?_eq_some_iff.1 h2).1
  obtain ⟨e0,he0⟩:∃ e0,es[n]?=some e0:=⟨es[n]'(by rw [← Array.length_toList,hlen]; exact hlt),Array.getElem?_eq_getElem _⟩
  have hk0:e0.key=ke key:=by
   have h5:=congrArg (fun l:List (Value × Value)=>l[n]?) hm
   have he0':es.toList[n]?=some e0:=by rw [Array.getElem?_toList]; exact he0
   simp only [List.getElem?_map,he0',h2,Option.map_some,Option.some.injEq,Prod.mk.injEq] at h5
   exact h5.1
  refine ⟨{ w with heap:=w.heap.setIfInBounds b (.map (es.modify n fun e=>{ e with key:=ke key,val:=ve v }) clock) },?_,hup _ ⟨_,_,rfl,?_⟩⟩
  ·simp [Instr.mapUpdate,run_underlying ht,MapKept.run_getObj_map hb,hck,hf,he0,hk0,hst,MapKept.run_setObj_map _ hb]
  ·rw [h4 v,Array.toList_modify]
   unfold Nh at hm ⊢
   apply List.ext_getElem?
   intro k
   have h5:=congrArg (fun l:List (Value × Value)=>l[k]?) hm
   simp only [List.getElem?_map] at h5 ⊢
   rw [List.getElem?_modify]
   by_cases hkn:n=k
   ·subst hkn
    rw [List.getElem?_set_self hlt]
    have he0':es.toList[n]?=some e0:=by rw [Array.getElem?_toList]; exact he0
    simp [he0']
   ·rw [List.getElem?_set_ne hkn]
    simp only [hkn,if_false]
    simpa using h5
theorem GO.zG (key:κ) (v:ν) (K:Vi P kt ke) (HS:St w0 w L) (hj:L[j]?=some (O9 b ke ve m)) (ho:ops[i]?=some ⟨none,.mapUpdate t x y z,ty,ps,af,none⟩) (hx:ev e x=some (.map (some b))) (hy:ev e y=some (ke key)) (hv:ev e z=some (ve v)) (ht:P.underlying t=some (.map kt el))
  (g:∀ w',St w0 w' (L.set j (O9 b ke ve (Qs m key v)))→GO P N ops rest e w' Q):GO P N ops (i::rest) e w Q:=by
 obtain ⟨w',h1,h2⟩:=mZ K HS hj ht key v
 exact GO.Rf ho rfl rfl (fun a hs=>by simp [execOp,hs.ev hx,hs.ev hy,hs.ev hv,h1]) (g w' h2)
end
section
variable {P:Program} {N:Nat} {e:Env} {w0 w:World} {L:List Dc} {Q:Act→World→Prop} {ops:Array Oper} {i d:Nat} {rest:List Nat} {ty:TypeId} {ps:String} {af:Array Edge} {t el tb:TypeId} {x y:Operand} {b j o sz len:Nat} {m:Int} {kd:IntKind} {cs vs:List Value}
def se {α:Type} (i m:Int) (v c:α):α:=if m=i then v else c
theorem four {p:Nat→Prop} (h0:p 0) (h1:p 1) (h2:p 2) (h3:p 3):∀ i,i<4→p i
 |0,_=>h0 | 1,_=>h1 | 2,_=>h2 | 3,_=>h3 | n+4,h=>absurd h (by omega)
theorem GO.ixW (ho:ops[i]?=some ⟨some d,.indexAddr t x y,ty,ps,af,none⟩) (hx:ev e x=some (.pointer (some ⟨b,o,none⟩))) (hy:ev e y=some (.int kd m)) (ht:P.underlying t=some (.array len el)) (hsz:(P.info? el).map (·.size)=some sz)
  (c:0≤m∧m<(len:Int)) (hN:Nat.blt d N=true) (g:GO P N ops rest ((d,.pointer (some ⟨b,o+m.toNat*sz,none⟩))::e) w Q):GO P N ops (i::rest) e w Q:=by
 refine GO.val _ ho rfl rfl hN (fun a hs=>?_) g
 obtain ⟨inf,hi,hi2⟩:=Option.map_eq_some_iff.1 hsz
 simp [execOp,hs.ev hx,hs.ev hy,Instr.indexAt,Instr.sureAddr,asIntOf,run_underlying ht,c.1,c.2,sizeOf,typeInfo,hi,hi2,Jj]
def col (cs:List Value) (o sz:Nat) (n:Nat):List Value:=(List.range n).map fun i=>cs.getD (o+i*sz) undef
theorem oD {n k:Nat} (hk:k<n):(col cs o sz n)[k]?=some (cs.getD (o+k*sz) undef):=by
 unfold col
 rw [List.getElem?_map,List.getElem?_range hk]; rfl
theorem Y5 {n k:Nat} {u:Value} (hk:k<n) (hu:(col cs o sz n)[k]?=some u) (hne:u≠undef):cs[o+k*sz]?=some u:=by
 rw [oD hk] at hu
 injection hu with hu
 rw [List.getD_eq_getElem?_getD] at hu
 cases hc:cs[o+k*sz]? with
 |none=>rw [hc] at hu; exact absurd hu.symm hne
 |some v=>rw [hc] at hu; rw [← hu]; rfl
theorem GO.ldW (l:List Int) {kk:IntKind} (HS:St w0 w L) (hj:L[j]?=some (Box b tb cs)) (ho:ops[i]?=some ⟨some d,.load t x,ty,ps,af,none⟩) (hx:ev e x=some (.pointer (some ⟨b,o+m.toNat*sz,none⟩))) (c:0≤m∧m<(len:Int)) (hn:l.length=len) (hl:col cs o sz l.length=l.map (Value.int kk)) (ht:naB P t=true) (hN:Nat.blt d N=true)
  (g:GO P N ops rest ((d,.int kk (l.getD m.toNat 0))::e) w Q):GO P N ops (i::rest) e w Q:=by
 have hm:m.toNat<l.length:=by omega
 exact GO.rM HS hj ho hx (Y5 hm (by rw [hl,List.getElem?_map,getD_some (d:=(0:Int)) hm]; rfl) (by simp [undef])) ht hN g
theorem GO.stW {v:Value} (F:Int→List Value) (HS:St w0 w L) (hj:L[j]?=some (Box b tb cs)) (ho:ops[i]?=some ⟨none,.store t x y,ty,ps,af,none⟩) (hx:ev e x=some (.pointer (some ⟨b,o+m.toNat*sz,none⟩))) (hy:ev e y=some v) (hv:v.cells=vs.toArray) (c:0≤m∧m<(len:Int))
  (ht:(naB P t && vs.length == 1 || agB P t vs.length)=true) (h1:vs.all (·.oneCell')=true) (hl:(Nat.ble (o+len*sz) cs.length && Nat.ble vs.length sz)=true) (hF:∀ i:Nat,i<len→splice cs (o+i*sz) vs=F (i:Int))
  (g:∀ w',St w0 w' (L.set j (Box b tb (F m)))→GO P N ops rest e w' Q):GO P N ops (i::rest) e w Q:=by
 rw [Bool.and_eq_true] at hl
 have h2:=Nat.le_of_ble_eq_true hl.1
 have h3:=Nat.le_of_ble_eq_true hl.2
 have hm:m.toNat<len:=by omega
 have hmm:(m.toNat+1)*sz≤len*sz:=Nat.mul_le_mul_right _ hm
 rw [Nat.succ_mul] at hmm
 have hc:=hF m.toNat hm
 rw [Int.toNat_of_nonneg c.1] at hc
 exact GO.K7 (F m) HS hj ho hx hy hv ht h1 (Nat.ble_eq_true_of_le (by omega)) hc g
end
section
variable {α:Type} {S:Ty α} {P:Program} {N:Nat} {e:Env} {w0 w:World} {L:List Dc} {Q:Act→World→Prop} {ops:Array Oper} {i d:Nat} {rest:List Nat} {ty:TypeId} {ps:String} {af:Array Edge}
theorem GO.dW {t tb u:TypeId} {x y:Operand} {A:Option Addr} {c k n o:Nat} {ly:Nat→Ti S.Lay} {xs:List (List α)} {x0:α} {vs:List Value} {v:Value} (y0:α) (HS:St w0 w (Own (Ty.slice u S) tb A c ly xs::L)) (hfl:Flat S) (ho:ops[i]?=some ⟨none,.store t x y,ty,ps,af,none⟩) (hx:ev e x=some (.pointer (some (ea (ly k).A (n*S.sz+o))))) (hy:ev e y=some v) (hv:v.cells=vs.toArray)
  (ht:(naB P t && vs.length == 1 || agB P t vs.length)=true) (h1:vs.all (·.oneCell')=true) (hk:k<xs.length) (hn:(xs.getD k [])[n]?=some x0) (hl:Nat.ble (o+vs.length) S.sz=true) (hc:S.cells ((ly k).ly n) y0=splice (S.cells ((ly k).ly n) x0) o vs)
  (g:∀ w',St w0 w' (Own (Ty.slice u S) tb A c ly (xs.set k ((xs.getD k []).set n y0))::L)→GO P N ops rest e w' Q):GO P N ops (i::rest) e w Q:=by
 have hk':=getD_some (d:=[]) hk
 have HF:=HS.lJ Fld.id hk'
 refine GO.Hl (j:=0) y0 HF rfl hfl ho hx hy hv ht h1 hn hl hc (fun w' h=>g w' ?_)
 exact St.Zj Fld.id hk' (by show [Value.slice _ _ _]=[Value.slice _ _ _]; rw [show (Fld.id.set (xs.getD k []) ((xs.getD k []).set n y0))=(xs.getD k []).set n y0 from rfl,List.length_set]) h
end
section
variable {P:Program} {kt el:TypeId}
theorem vI {k:IntKind} (hd:P.underlying kt=some (.int k)):Vi P kt (Value.int k) where
 eq:=fun a b w=>by
  have h1:=Rv (w:=w) (u:=a) (v:=b) hd 9999
  have h2:(a == b)=decide (a=b):=rfl
  rw [← h2]; exact h1
 now:=⟨_,hd,.inr fun a b=>by
  have h2:(a == b)=decide (a=b):=rfl
  simp [Instr.sameNow,h2]⟩
 check:=fun em a w=>MapKept.run_checkKey hd (by simp [MapKept.IsKey]) em 9999
 stays:=fun a w=>MapKept.run_keyThatStays (d:=.int k) (by simp [MapKept.IsKey])
end
section
variable {P:Program} {N:Nat} {e:Env} {w0 w:World} {L L':List Dc} {Q:Act→World→Prop} {ops:Array Oper} {i d:Nat} {rest:List Nat} {ty:TypeId} {ps:String} {af:Array Edge} {t t' el:TypeId} {x y:Operand} {A:Option Addr} {v:Bool}
end
section
variable {α:Type} {w0 w:World} {L:List Dc}
end
abbrev RV:=Option (Nat × Value × Option Value)
abbrev rv (d:Nat) (v:Value):RV:=some (d,v,none)
structure RS (N:Nat) (pre:Env) (vals:List RV) (b:Nat→Bool) (a:Act):Prop where
 sat:Sat N pre a
 on:∀ j d v o,vals[j]?=some (some (d,v,o))→b j=true→a.tmps[d]?=some v
 off:∀ j d v u,vals[j]?=some (some (d,v,some u))→b j=false→a.tmps[d]?=some u
def onE (vals:List RV):List Nat→Env→Env
 |[],pre=>pre
 |k::r,pre=>match vals[k]? with
  |some (some (d,v,_))=>(d,v)::onE vals r pre
  |_=>onE vals r pre
def Zp (vals:List RV):List Nat→Env→Env
 |[],pre=>pre
 |k::r,pre=>match vals[k]? with
  |some (some (d,_,some u))=>(d,u)::Zp vals r pre
  |_=>Zp vals r pre
def oH:List RV→Env→Env
 |[],pre=>pre
 |some (d,v,_)::r,pre=>(d,v)::oH r pre
 |none::r,pre=>oH r pre
def gB:List RV→Env→Env
 |[],pre=>pre
 |some (d,_,some u)::r,pre=>(d,u)::gB r pre
 |_::r,pre=>gB r pre
def clo (ops:Array Oper):Nat→List Nat→List Nat
 |0,S=>S
 |i+1,S=>clo ops i (bif S.any (Nat.beq i) then needs ops i++S else S)
def waits (ops:Array Oper) (j i:Nat):Bool:=(clo ops j (needs ops j)).any (Nat.beq i)
structure RQ (ops:Array Oper) (j:Nat) (b:Nat→Bool):Prop where
 lt:j<ops.size
 hb:b j=false
 hd:∀ i∈needs ops j,b i=true
 hcl:∀ m,m<ops.size→b m=true→∀ i∈needs ops m,b i=true
section
variable {P:Program} {f:FuncId} {N:Nat} {e:Env} {k:List Item} {w:World} {R:Ending→World→Prop} {ops:Array Oper} {Q:Act→World→Prop} {b:Nat→Bool} {j:Nat}
theorem iK (hcl:∀ m,m<ops.size→b m=true→∀ i∈needs ops m,b i=true):∀ (n:Nat) (S:List Nat),n≤ops.size→(∀ i∈S,b i=true)→∀ i∈clo ops n S,b i=true
 |0,S,_,h,i,hi=>h i hi
 |n+1,S,hn,h,i,hi=>by
  unfold clo at hi
  refine iK hcl n _ (by omega) ?_ i hi
  cases hc:S.any (Nat.beq n) with
  |false=>exact h
  |true =>
   obtain ⟨x,hx,he⟩:=List.any_eq_true.1 hc
   have:n=x:=Nat.eq_of_beq_eq_true he
   subst this
   intro m hm
   rcases List.mem_append.1 hm with hm | hm
   ·exact hcl n (by omega) (h n hx) m hm
   ·exact h m hm
theorem Y1 (hcl:∀ m,m<ops.size→b m=true→∀ i∈needs ops m,b i=true) {i:Nat} (hj:j≤ops.size) (hd:∀ i∈needs ops j,b i=true) (h:waits ops j i=true):b i=true:=by
 obtain ⟨x,hx,he⟩:=List.any_eq_true.1 h
 rw [Nat.eq_of_beq_eq_true he]
 exact iK hcl j _ hj hd x hx
theorem RQ.on (q:RQ ops j b) (i:Nat) (h:waits ops j i=true:=by kernel_rfl):b i=true:=Y1 q.hcl (Nat.le_of_lt q.lt) q.hd h
theorem RQ.no (q:RQ ops j b) (i:Nat) (hi:b i=true) (h:(Nat.blt i ops.size && waits ops i j)=true:=by kernel_rfl):False:=by
 rw [Bool.and_eq_true] at h
 have h1:i<ops.size:=Nat.le_of_ble_eq_true h.1
 have:=Y1 q.hcl (Nat.le_of_lt h1) (q.hcl i h1 hi) h.2
 rw [q.hb] at this
 cases this
theorem RQ.off (q:RQ ops j b) (i:Nat) (h:(Nat.blt i ops.size && waits ops i j)=true:=by kernel_rfl):b i=false:=by
 cases hi:b i with
 |false=>rfl
 |true=>exact (q.no i hi h).elim
theorem G.Pk {id:Nat} (hm:P.follows .mixedOrders=true) (hfw:forward ops=true) (I:(Nat→Bool)→Act→World→Prop) (h0:∀ a,Sat N e a→I (fun _=>false) a w.drew)
  (hstep:∀ j b a w,j<ops.size→I b a w→RQ ops j b→wpOps P ops (fun en a' w'=>en=.normal∧I (upd b j) a' w') [j] a w)
  (hend:∀ b a w,(∀ j,j<ops.size→b j=true)→I b a w→Lb P f k R a w):G P f N e (.code (.region id ops true)::k) w R :=
 G.Wh hm hfw I h0 (fun j hj b a w hI hb hd hcl=>hstep j b a w hj hI ⟨hj,hb,hd,hcl⟩) hend
theorem V8:∀ {vals:List RV} {pre:Env} {j d:Nat} {v u:Value},vals[j]?=some (some (d,v,some u))→(d,u)∈gB vals pre
 |[],_,_,_,_,_,h=>by simp at h
 |x::r,pre,0,d,v,u,h=>by
  have:x=some (d,v,some u):=by simpa using h
  subst this
  exact List.mem_cons_self
 |x::r,pre,j+1,d,v,u,h=>by
  have ih:=V8 (pre:=pre) (by simpa using h:r[j]?=some (some (d,v,some u)))
  match x with
  |none=>exact ih
  |some (_,_,none)=>exact ih
  |some (_,_,some _)=>exact List.mem_cons_of_mem _ ih
theorem Nc:∀ {vals:List RV} {pre:Env} {p:Nat × Value},p∈pre→p∈gB vals pre
 |[],_,_,h=>h
 |none::r,_,_,h=>Nc (vals:=r) h
 |some (_,_,none)::r,_,_,h=>Nc (vals:=r) h
 |some (_,_,some _)::r,_,_,h=>List.mem_cons_of_mem _ (Nc (vals:=r) h)
theorem Uk:∀ {e:Env} {t:Nat} {v:Value},look e t=some v→(t,v)∈e
 |[],_,_,h=>by cases h
 |p::r,t,v,h=>by
  simp only [look] at h
  cases hb:Nat.beq p.1 t with
  |true =>
   rw [hb] at h
   have:p.1=t:=Nat.eq_of_beq_eq_true hb
   subst this
   cases h
   exact List.mem_cons_self
  |false =>
   rw [hb] at h
   exact List.mem_cons_of_mem _ (Uk h)
theorem Qu {α β:Type _} {F G:α→β}:∀ {l:List α},l.map F=l.map G→∀ x∈l,F x=G x
 |[],_,_,h=>by cases h
 |y::r,h,x,hx=>by
  rw [List.map_cons,List.map_cons] at h
  injection h with h1 h2
  rcases List.mem_cons.1 hx with rfl | hx
  ·exact h1
  ·exact Qu h2 x hx
theorem Sat.init {a:Act} {pre:Env} {vals:List RV} (hs:Sat N e a) (h:(gB vals pre).map (fun p=>look e p.1)=(gB vals pre).map (fun p=>some p.2)):RS N pre vals (fun _=>false) a where
 sat:=⟨hs.defers,hs.size,fun t v ht=>hs.at_ t v (Qu h (t,v) (Nc (Uk ht)))⟩
 on:=fun _ _ _ _ _ h=>Bool.noConfusion h
 off:=fun j d v u hv _=>hs.at_ d u (Qu h (d,u) (V8 hv))
theorem Sat.cons {a:Act} {d:Nat} {v:Value} (hs:Sat N e a) (h:a.tmps[d]?=some v):Sat N ((d,v)::e) a:=⟨hs.defers,hs.size,fun t u ht=>by
 simp only [look] at ht
 cases hb:Nat.beq d t with
 |true =>
  rw [hb] at ht
  have:d=t:=Nat.eq_of_beq_eq_true hb
  subst this
  cases ht
  exact h
 |false =>
  rw [hb] at ht
  exact hs.at_ t u ht⟩
theorem RS.onE {pre:Env} {vals:List RV} {a:Act} (hs:RS N pre vals b a):∀ (ks:List Nat) (e:Env),(∀ k∈ks,b k=true)→Sat N e a→Sat N (Go.Proofs.YtgkgmhkgahalgaaGreat.onE vals ks e) a
 |[],e,_,h=>h
 |k::r,e,hk,h=>by
  have ih:=RS.onE hs r e (fun k hk'=>hk k (List.mem_cons_of_mem _ hk')) h
  unfold Go.Proofs.YtgkgmhkgahalgaaGreat.onE
  split
  ·rename_i d v o hv
   exact ih.cons (hs.on k d v o hv (hk k List.mem_cons_self))
  ·exact ih
theorem RS.Zp {pre:Env} {vals:List RV} {a:Act} (hs:RS N pre vals b a):∀ (ks:List Nat) (e:Env),(∀ k∈ks,b k=false)→Sat N e a→Sat N (Go.Proofs.YtgkgmhkgahalgaaGreat.Zp vals ks e) a
 |[],e,_,h=>h
 |k::r,e,hk,h=>by
  have ih:=RS.Zp hs r e (fun k hk'=>hk k (List.mem_cons_of_mem _ hk')) h
  unfold Go.Proofs.YtgkgmhkgahalgaaGreat.Zp
  split
  ·rename_i d v u hv
   exact ih.cons (hs.off k d v u hv (hk k List.mem_cons_self))
  ·exact ih
theorem RS.all {pre:Env} {vals:List RV} {a:Act} (hs:RS N pre vals b a) (hall:∀ j,j<ops.size→b j=true) (h:Nat.ble vals.length ops.size=true:=by kernel_rfl):Sat N (oH vals pre) a:=by
 have hl:vals.length≤ops.size:=Nat.le_of_ble_eq_true h
 suffices ∀ (r:List RV),(∀ d v o,some (d,v,o)∈r→a.tmps[d]?=some v)→Sat N (oH r pre) a by
  refine this vals fun d v o hm=>?_
  obtain ⟨i,hi⟩:=List.getElem?_of_mem hm
  have hlt:i<vals.length:=(List.getElem?_eq_some_iff.1 hi).1
  exact hs.on i d v o hi (hall i (by omega))
 intro r hr
 induction r with
 |nil=>exact hs.sat
 |cons x r ih =>
  have ih':=ih fun d v o hm=>hr d v o (List.mem_cons_of_mem _ hm)
  match x with
  |none=>exact ih'
  |some (d,v,o)=>exact ih'.cons (hr d v o List.mem_cons_self)
def FR (ops:Array Oper) (j:Nat) (a a':Act):Prop:=∃ v,a'.tmps=(a.put (Od ops j) v).tmps
theorem mP {a:Act} (h:wpOps P ops (fun en a' w'=>en=.normal∧(FR ops j a a'→Q a' w')) [j] a w):wpOps P ops (fun en a' w'=>en=.normal∧Q a' w') [j] a w:=by
 rw [wpOps_cons] at h ⊢
 unfold wpOp at h ⊢
 cases ho:ops[j]? with
 |none =>
  rw [ho] at h
  exact ⟨h.1,h.2 ⟨undef,by simp [Od,ho,Act.put]⟩⟩
 |some o =>
  rw [ho] at h
  simp only at h ⊢
  have hg:Od ops j=o.dst:=by simp [Od,ho]
  have key:∀ v w',(wpOps P ops (fun en a' w'=>en=.normal∧(FR ops j a a'→Q a' w')) [] (a.put o.dst v) w')→wpOps P ops (fun en a' w'=>en=.normal∧Q a' w') [] (a.put o.dst v) w':=fun v w' h=>⟨h.1,h.2 ⟨v,by rw [hg]⟩⟩
  split
  ·rename_i hw
   rw [if_pos hw] at h
   rcases h with h | ⟨_,a0,w0,h0,_⟩
   ·refine .inl ?_
    unfold Oper.wp at h ⊢
    revert h
    generalize (execOp a.eval o).run P w=r
    intro h
    cases r with
    |ok n w' =>
     cases n<;>simp only [Oper.upon] at h ⊢<;>first
      |exact key _ _ h
      |exact Calls.mono h (fun e w'' he=>by cases e with
        |returned v=>exact key _ _ he
        |panicked c=>exact absurd he.1 (by simp)
        |outgrown=>obtain ⟨_,_,h,_⟩:=he; cases h)
      |exact Rows.mono h (fun _ _ he=>key _ _ he)
      |exact ⟨h.1,h.2 ⟨undef,by rw [hg]; simp [Act.put]; cases o.dst<;>rfl⟩⟩
    |halt x w'=>cases x<;>simp only [Oper.upon] at h ⊢<;>first | exact h | exact absurd h.1 (by simp)
   ·cases h0
  ·rename_i hw
   rw [if_neg hw] at h
   exact key _ _ h
def Aaj (ops:Array Oper) (j:Nat) (ks os:List Nat):Bool:=ks.all (waits ops j) && os.all (fun i=>Nat.beq i j || (Nat.blt i ops.size && waits ops i j))
theorem RS.at {pre:Env} {vals:List RV} {a:Act} (hs:RS N pre vals b a) (q:RQ ops j b) (ks os:List Nat) (g:GO P N ops [j] (Go.Proofs.YtgkgmhkgahalgaaGreat.onE vals ks (Go.Proofs.YtgkgmhkgahalgaaGreat.Zp vals os pre)) w (fun a' w'=>FR ops j a a'→Q a' w')) (ok:Aaj ops j ks os=true:=by kernel_rfl) :
  wpOps P ops (fun en a' w'=>en=.normal∧Q a' w') [j] a w:=by
 unfold Aaj at ok
 rw [Bool.and_eq_true] at ok
 refine mP (g a (hs.onE ks _ (fun k hk=>q.on k (List.all_eq_true.1 ok.1 k hk)) (hs.Zp os _ (fun k hk=>?_) hs.sat)))
 have h:=List.all_eq_true.1 ok.2 k hk
 rw [Bool.or_eq_true] at h
 rcases h with h | h
 ·rw [Nat.eq_of_beq_eq_true h,q.hb]
 ·exact q.off k h
def okD (ops:Array Oper) (j:Nat) (pre:Env) (vals:List RV):Bool:=match Od ops j with
 |none=>true
 |some d=>pre.all (fun p=>!Nat.beq p.1 d) && (List.range vals.length).all fun i=>Nat.beq i j || (match vals[i]? with
  |some (some (d',_,_))=>!Nat.beq d' d
  |_=>true)
def mask:List Nat→Nat→List RV→List RV
 |D,i,[]=>[]
 |D,i,x::r=>(bif D.any (Nat.beq i) then x.map (fun p=>(p.1,undef,p.2.2)) else x)::mask D (i+1) r
theorem Zi (D:List Nat):∀ (l:List RV) (i m:Nat),(mask D i l)[m]?=(l[m]?).map fun x=>bif D.any (Nat.beq (i+m)) then x.map (fun p=>(p.1,undef,p.2.2)) else x
 |[],_,_=>by simp [mask]
 |x::r,i,0=>by simp [mask]
 |x::r,i,m+1=>by
  rw [mask,List.getElem?_cons_succ,Zi D r (i+1) m,List.getElem?_cons_succ]
  rw [show i+1+m=i+(m+1) by omega]
theorem FR.slot {a a':Act} {t:Nat} (h:FR ops j a a') (ht:Od ops j≠some t):a'.tmps[t]?=a.tmps[t]?:=by
 obtain ⟨v,h⟩:=h
 rw [h]
 cases hd:Od ops j with
 |none=>rfl
 |some d =>
  rw [hd] at ht
  have:d≠t:=fun e=>ht (by rw [e])
  simp [Act.put,Array.getElem?_setIfInBounds_ne this]
theorem RS.Za {e':Env} {pre:Env} {vals vals':List RV} {a:Act} {d:Nat} {v:Value} {o:Option Value} (hs:RS N pre vals b a) (q:RQ ops j b) (D:List Nat) (g:∀ a',RS N pre vals' (upd b j) a'→Q a' w) (hm:mask D 0 vals=mask D 0 vals') (h:(vals'[j]?,look e' d)=(some (some (d,v,o)),some v))
  (ok:(okD ops j pre vals && D.all (fun i=>Nat.beq i j || (Nat.blt i ops.size && waits ops i j)))=true:=by kernel_rfl):GO P N ops [] e' w (fun a' w'=>FR ops j a a'→Q a' w'):=by
 refine GO.fin fun a' hs' fr=>g a' ?_
 simp only [Prod.mk.injEq] at h
 rw [Bool.and_eq_true] at ok
 obtain ⟨ok,okm⟩:=ok
 have hpre:∀ t v,look pre t=some v→Od ops j≠some t:=by
  intro t v ht hd
  unfold okD at ok
  rw [hd] at ok
  simp only [Bool.and_eq_true] at ok
  have:=List.all_eq_true.1 ok.1 _ (Uk ht)
  simp at this
 have hval:∀ i d' v' o',vals[i]?=some (some (d',v',o'))→i≠j→Od ops j≠some d':=by
  intro i d' v' o' hi hne hd
  unfold okD at ok
  rw [hd] at ok
  simp only [Bool.and_eq_true] at ok
  have hlt:i<vals.length:=(List.getElem?_eq_some_iff.1 hi).1
  have:=List.all_eq_true.1 ok.2 i (List.mem_range.2 hlt)
  rw [hi] at this
  simp at this
  exact hne this
 have hcmp:∀ i d' v' o',vals'[i]?=some (some (d',v',o'))→∃ v0,vals[i]?=some (some (d',v0,o'))∧(D.any (Nat.beq i)=false→v0=v'):=by
  intro i d' v' o' hi
  have hq:=congrArg (fun l=>l[i]?) hm
  simp only [Zi,Nat.zero_add,hi] at hq
  cases hv:vals[i]? with
  |none=>rw [hv] at hq; simp at hq
  |some x =>
   rw [hv] at hq
   cases hD:D.any (Nat.beq i) with
   |false =>
    rw [hD] at hq
    simp at hq
    exact ⟨v',by rw [hq],fun _=>rfl⟩
   |true =>
    rw [hD] at hq
    match x with
    |none=>simp at hq
    |some (d0,v0,o0) =>
     simp at hq
     exact ⟨v0,by rw [hq.1,hq.2],fun h=>Bool.noConfusion h⟩
 refine ⟨⟨hs'.defers,hs'.size,fun t v ht=>by rw [fr.slot (hpre t v ht)]; exact hs.sat.at_ t v ht⟩,?_,?_⟩
 ·intro i d' v' o' hi hbi
  by_cases hij:i=j
  ·subst hij
   rw [h.1] at hi
   injection hi with hi
   injection hi with hi
   simp only [Prod.mk.injEq] at hi
   rw [← hi.1,← hi.2.1]
   exact hs'.at_ d v h.2
  ·rw [upd_ne b hij] at hbi
   obtain ⟨v0,hv0,hsame⟩:=hcmp i d' v' o' hi
   rw [fr.slot (hval i d' v0 o' hv0 hij)]
   cases hD:D.any (Nat.beq i) with
   |false =>
    rw [← hsame hD]
    exact hs.on i d' v0 o' hv0 hbi
   |true =>
    obtain ⟨x,hx,he⟩:=List.any_eq_true.1 hD
    have hix:i=x:=Nat.eq_of_beq_eq_true he
    subst hix
    have:=List.all_eq_true.1 okm i hx
    rw [Bool.or_eq_true] at this
    rcases this with this | this
    ·exact absurd (Nat.eq_of_beq_eq_true this) hij
    ·exact (q.no i hbi this).elim
 ·intro i d' v' u hi hbi
  have hij:i≠j:=fun e=>by rw [e,Oa] at hbi; cases hbi
  rw [upd_ne b hij] at hbi
  obtain ⟨v0,hv0,_⟩:=hcmp i d' v' _ hi
  rw [fr.slot (hval i d' v0 _ hv0 hij)]
  exact hs.off i d' v0 u hv0 hbi
theorem RS.fin {e':Env} {pre:Env} {vals:List RV} {a:Act} {d:Nat} {v:Value} {o:Option Value} (hs:RS N pre vals b a) (q:RQ ops j b) (h:(vals[j]?,look e' d)=(some (some (d,v,o)),some v)) (g:∀ a',RS N pre vals (upd b j) a'→Q a' w)
  (ok:okD ops j pre vals=true:=by kernel_rfl):GO P N ops [] e' w (fun a' w'=>FR ops j a a'→Q a' w') :=
 RS.Za hs q [] g rfl h (by rw [ok]; rfl)
theorem RS.oI {e':Env} {pre:Env} {vals:List RV} {a:Act} (hs:RS N pre vals b a) (q:RQ ops j b) (h:(vals[j]?,Od ops j)=(some none,none)) (g:∀ a',RS N pre vals (upd b j) a'→Q a' w):GO P N ops [] e' w (fun a' w'=>FR ops j a a'→Q a' w'):=by
 refine GO.fin fun a' hs' fr=>g a' ?_
 simp only [Prod.mk.injEq] at h
 have fr':∀ t,a'.tmps[t]?=a.tmps[t]?:=fun t=>fr.slot (by rw [h.2]; simp)
 refine ⟨⟨hs'.defers,hs'.size,fun t v ht=>by rw [fr']; exact hs.sat.at_ t v ht⟩,?_,?_⟩
 ·intro i d' v' o' hi hbi
  have hij:i≠j:=fun e=>by rw [e,h.1] at hi; cases hi
  rw [upd_ne b hij] at hbi
  rw [fr']
  exact hs.on i d' v' o' hi hbi
 ·intro i d' v' u hi hbi
  have hij:i≠j:=fun e=>by rw [e,h.1] at hi; cases hi
  rw [upd_ne b hij] at hbi
  rw [fr']
  exact hs.off i d' v' u hi hbi
end
theorem lp {K:Nat} {p:Nat→Prop} (h0:p 0) (hs:∀ n,n+1≤K→(∀ m,m≤n→p m)→p (n+1)):∀ m,m≤K→p m:=by
 intro m
 induction m using Nat.strongRecOn with
 |_ m ih =>
  intro hm
  cases m with
  |zero=>exact h0
  |succ n=>exact hs n hm fun i hi=>ih i (Nat.lt_succ_of_le hi) (Nat.le_trans hi (Nat.le_of_succ_le hm))
theorem jp {K:Nat} {p:Nat→Prop} (h0:p 0) (hs:∀ n,n+1≤K→p (n+1)):∀ m,m≤K→p m
 |0,_=>h0
 |n+1,hm=>hs n hm
def gets (e:Env):Env→List (Option Value)
 |[]=>[]
 |p::r=>look e p.1::gets e r
def dJ:Env→List (Option Value)
 |[]=>[]
 |p::r=>some p.2::dJ r
theorem Zv {e:Env}:∀ {e':Env},gets e e'=dJ e'→Cov e e'
 |[],_=>trivial
 |p::r,h=>by
  unfold gets dJ at h
  injection h with h1 h2
  exact ⟨h1,Zv h2⟩
theorem gW {P:Program} {f:FuncId} {N:Nat} {e e':Env} {k:List Item} {w:World} {R:Ending→World→Prop} (g:G P f N e' k w R) (h:gets e e'=dJ e'):G P f N e k w R:=g.weak (Zv h)
abbrev uu {α:Type}:α→Unit:=fun _=>()
abbrev sb (b:Nat):Option Addr:=some ⟨b,0,none⟩
abbrev pT (b:Nat):Value:=.pointer (some ⟨b,0,none⟩)
abbrev sV {α:Type} (A:Option Addr) (xs:List α) (c:Nat):Value:=.slice A xs.length c
section
variable {α:Type} {T:Ty α} {ly:Nat→T.Lay} {w0 w:World} {L:List Dc} {A:Option Addr} {c:Nat} {xs:List α} {t:TypeId}
theorem ro (j:Nat) (hj:L[j]?=some (Own T t A c ly xs)):Bv w0 L T A c ly xs:=Bv.own hj
theorem rk (h:Bv w0 L T A c ly xs) (HS:St w0 w L):0<xs.length→∃ b o,A=some ⟨b,o,none⟩:=(h _ HS).2.2.1
end
section
variable {P:Program} {f:FuncId} {N:Nat} {e:Env} {w0 w:World} {L:List Dc} {Q:Act→World→Prop} {ops:Array Oper} {i d:Nat} {rest:List Nat} {ty:TypeId} {ps:String} {af:Array Edge}
theorem iX {t el:TypeId} {x y:Operand} {A:Option Addr} {n c sz:Nat} {kd:IntKind} {m:Int} (h:(ops[i]?,ev e x,ev e y,Nat.blt d N)=(some ⟨some d,.indexAddr t x y,ty,ps,af,none⟩,some (.slice A n c),some (.int kd m),true)) (ht:P.underlying t=some (.slice el)) (hsz:(P.info? el).map (·.size)=some sz)
  (hA:0<n→∃ b o,A=some ⟨b,o,none⟩) (h0:0≤m∧m<(n:Int)) (g:GO P N ops rest ((d,.pointer (some (ea A (m.toNat*sz))))::e) w Q):GO P N ops (i::rest) e w Q:=by
 simp only [Prod.mk.injEq] at h
 exact GO.ix h.1 h.2.1 h.2.2.1 ht hsz hA h0.1 h0.2 h.2.2.2 g
end
section
variable {P:Program} {f:FuncId} {N:Nat} {e:Env} {k:List Item} {w w0:World} {R:Ending→World→Prop} {ops:Array Oper} {Q:Act→World→Prop} {i:Nat} {d:Nat} {rest:List Nat} {ty:Option TypeId} {L:List Dc}
end
section
variable {P:Program} {N:Nat} {ops:Array Oper} {i d:Nat} {rest:List Nat} {e:Env} {w w0:World} {Q:Act→World→Prop} {L:List Dc}
theorem GO.Aan {t t':TypeId} {x y:Operand} {ty} {ps} {af} {kd:IntKind} {m n:Int} (c:Int) (ho:ops[i]?=some ⟨some d,.binOp .add t x y t',ty,ps,af,none⟩) (hx:ev e x=some (.int kd m)) (hy:ev e y=some (.int kd n)) (hc:kd.wrap (m+n)=c) (hN:Nat.blt d N=true) (g:GO P N ops rest ((d,.int kd c)::e) w Q):GO P N ops (i::rest) e w Q :=
 GO.add ho hx hy hN (by rw [hc]; exact g)
theorem yG {α:Type} {xs:List α} {A:Option Addr} {l h c s n:Nat} (hh:h≤xs.length) (hc:xs.length≤c) (hn:n<((xs.take h).drop l).length) (hA:0<xs.length→∃ b o,A=some ⟨b,o,none⟩):ea (Jn A l c s) (n*s)=ea A ((l+n)*s):=by
 have h1:0<((xs.take h).drop l).length:=by omega
 have h2:0<xs.length:=by
  rw [List.length_drop,List.length_take] at h1; omega
 obtain ⟨b,o,rfl⟩:=hA h2
 rw [qC hh hc h1 b o rfl]
 unfold ea
 simp only [Option.getD_some]
 rw [Jj,Jj,Nat.add_mul,Nat.add_assoc]
theorem GO.qG {α:Type} {T:Ty α} {t tb:TypeId} {x y:Operand} {ty} {ps} {af} {A:Option Addr} {c j n l h:Nat} {ly:Nat→T.Lay} {xs:List α} {x0:α} {vs:List Value} {v:Value} (y0:α) (HS:St w0 w L) (hj:L[j]?=some (Own T tb A c ly xs)) (hfl:Flat T) (ho:ops[i]?=some ⟨none,.store t x y,ty,ps,af,none⟩) (hx:ev e x=some (.pointer (some (ea (Jn A l c T.sz) (n*T.sz))))) (hh:h≤xs.length) (hc:n<((xs.take h).drop l).length) (hy:ev e y=some v) (hv:v.cells=vs.toArray)
  (ht:(naB P t && vs.length == 1 || agB P t vs.length)=true) (h1:vs.all (·.oneCell')=true) (hn:xs[l+n]?=some x0) (hl:Nat.ble vs.length T.sz=true) (hcc:T.cells (ly (l+n)) y0=splice (T.cells (ly (l+n)) x0) 0 vs)
  (g:∀ w',St w0 w' (L.set j (Own T tb A c ly (xs.set (l+n) y0)))→GO P N ops rest e w' Q):GO P N ops (i::rest) e w Q:=by
 have hr:Rd T w A c ly xs:=Bv.own (w0:=w0) hj w HS
 rw [yG hh hr.1 hc hr.2.2.1] at hx
 exact GO.Hl (o:=0) y0 HS hj hfl ho hx hy hv ht h1 hn (by rw [Nat.zero_add]; exact hl) hcc g
theorem rO {α:Type} {xs:List α} {n l h:Nat} (hc:n<((xs.take h).drop l).length):l+n<xs.length:=by
 rw [List.length_drop,List.length_take] at hc; omega
theorem Bv.nN {w0:World} {L:List Dc} {kd:IntKind} {A:Option Addr} {c l h:Nat} {xs:List Int} (hr:Bv w0 L (Ac kd) A c (fun _=>()) xs) (hlh:l≤h) (hh:h≤xs.length):Bv w0 L (Ac kd) (Jn A l c 1) (c - l) (fun _=>()) ((xs.take h).drop l):=Bv.cut hr hlh hh
end
section
variable {P:Program} {f:FuncId} {N:Nat} {e:Env} {k:List Item} {w w0:World} {R:Ending→World→Prop} {ops:Array Oper} {Q:Act→World→Prop} {i:Nat} {d:Nat} {rest:List Nat} {ty:Option TypeId} {L:List Dc}
theorem St.sF {α:Type} {T:Ty α} {t:TypeId} {A:Option Addr} {c:Nat} {lyv ly:Nat→T.Lay} {xs:List α} (z:α) (l0:T.Lay) (HS:St w0 w (Own T t A c lyv ([]:List α)::L)):St w0 w (Own (TIx T ly xs z l0) t A c (fun _=>()) []::L):=by
 obtain ⟨hbel,q,r,hq,hr,hqr,⟨q1,q2,h1,h2,hd,hown,hb,hs⟩,hL⟩:=HS
 exact ⟨hbel,q,r,hq,hr,hqr,⟨q1,fun _=>False,h1,fun _ h=>h.elim,fun _ _ h=>h,hown,hb,Ir.flat Ao _ _ _⟩,hL⟩
theorem fB {α:Type} {xs:List α} {z:α}:Gq z xs ((([]:List (Option Nat))++allRows xs.length).take xs.length)=some xs:=by
 have h0:(([]:List (Option Nat))++allRows xs.length).take xs.length=allRows xs.length:=by
  rw [List.nil_append]; exact List.take_of_length_le (Nat.le_of_eq (Kh _))
 have h1:(allRows xs.length).map (fun x=>x.getD 0)=List.range xs.length:=by
  unfold allRows
  rw [List.map_map]
  exact (List.map_congr_left fun a _=>rfl).trans (List.map_id _)
 rw [h0]
 unfold Gq
 rw [if_pos ⟨by rw [h1]; rfl,by rw [h1]; exact List.pairwise_lt_range,fun k hk=>by rw [h1] at hk; exact List.mem_range.1 hk⟩,h1]
 congr 1
 apply List.ext_getElem?
 intro k
 rw [List.getElem?_map]
 by_cases hk:k<xs.length
 ·rw [List.getElem?_range hk,List.getElem?_eq_getElem hk]
  simp [hk]
 ·rw [List.getElem?_eq_none (by rw [List.length_range]; omega),List.getElem?_eq_none (by omega)]
  rfl
theorem GO.yH {α:Type} {T:Ty α} {t el:TypeId} {x y:Operand} {ty} {ps} {af} {A B:Option Addr} {c cb:Nat} {lyv ly:Nat→T.Lay} {xs:List α} {z:Value} {bytes:Nat} (z0:α) (l0:T.Lay) (HS:St w0 w (Own T el A c lyv ([]:List α)::Own T el B cb ly xs::L)) (ho:ops[i]?=some ⟨some d,.call { callee:=.builtin .append,args:=#[x,y],argTypes:=#[t,t] },ty,ps,af,none⟩) (hx:ev e x=some (.slice A ([]:List α).length c)) (hy:ev e y=some (.slice B xs.length cb))
  (ht:P.underlying t=some (.slice el)) (hinf:(P.info? el).map (fun i=>(i.zero,i.size,i.bytes))=some (some z,T.sz,bytes)) (hz:(z.cells.size == T.sz)=true) (hs0:Nat.blt 0 T.sz=true) (hb0:Nat.blt 0 bytes=true) (hm:(([]:List α).length+xs.length)*bytes≤140737488355328) (hN:Nat.blt d N=true)
  (g:∀ A' c' (ly':Nat→T.Lay) w',St w0 w' (Own T el A' c' ly' xs::L)→GO P N ops rest ((d,.slice A' xs.length c')::e) w' Q):GO P N ops (i::rest) e w Q:=by
 have H2:St w0 w (Own T el B cb ly xs::Own T el A c lyv ([]:List α)::L):=HS.pick 2 [1,0]
 have H3:St w0 w (Own T el A c lyv ([]:List α)::Own (TIx T ly xs z0 l0) el B cb (fun _=>()) (allRows xs.length)::Y7 T ly xs::L):=(H2.vC z0 l0).pick 3 [2,0,1]
 have H4:=H3.sF (ly:=ly) (xs:=xs) z0 l0
 refine GO.kH (T:=TIx T ly xs z0 l0) (j:=0) (xs:=[]) (ys:=allRows xs.length) H4 rfl (Bv.own (j:=1) rfl) Ao ho hx (by rw [Kh]; exact hy) ht hinf hz hs0 hb0 (by rw [Kh]; exact hm) hN (fun _=>rfl) fun A' c' w' H5=>?_
 have H6:St w0 w' (Own (TIx T ly xs z0 l0) el A' c' (fun _=>()) ([]++allRows xs.length)::Y7 T ly xs::L):=H5.pick 3 [0,2]
 obtain ⟨ly',_,H7⟩:=St.jT (m:=xs.length) H6 (by rw [List.nil_append,Kh]; exact Nat.le_refl _) fB rfl rfl
 have h8:=g A' c' ly' w' H7
 have h9:([]++allRows xs.length:List (Option Nat)).length=xs.length:=by rw [List.nil_append,Kh]
 rw [h9]
 exact h8
end
end Go.Proofs.YtgkgmhkgahalgaaGreat
