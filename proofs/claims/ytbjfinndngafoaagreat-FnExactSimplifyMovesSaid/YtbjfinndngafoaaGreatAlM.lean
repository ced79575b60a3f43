/-
  What the functions compute, as functions of lists.
-/
import Derived.Test.YtbjfinndngafoaaGreatSlU
set_option linter.unusedVariables false
set_option linter.unusedSimpArgs false
namespace Go.Proofs.YtbjfinndngafoaaGreat
open Go.RowKit
structure Ab where
  Tet:Int
  Perm:Int
  deriving DecidableEq
def Bj:Ab:=⟨0,0⟩
def Ad:Ty Ab:=Ty.flat 2 (fun x=>[.int .i64 x.Tet,.int .i64 x.Perm]) (fun _=>rfl) (fun x u h=>by simp only [List.mem_cons,List.not_mem_nil,or_false] at h; rcases h with rfl | rfl <;> rfl)
structure Dg where
  Kind:Int
  Tet:Int
  Index:Int
  deriving DecidableEq
def G6:Dg:=⟨0,0,0⟩
def Ej:Ty Dg:=Ty.flat 3 (fun x=>[.int .i64 x.Kind,.int .i64 x.Tet,.int .i64 x.Index]) (fun _=>rfl) (fun x u h=>by simp only [List.mem_cons,List.not_mem_nil,or_false] at h; rcases h with rfl | rfl | rfl <;> rfl)
structure Av where
  tet:Int
  Cg:Int
  to:Int
  perm:Int
  deriving DecidableEq
def Mt:Av:=⟨0,0,0,0⟩
def Ci:Ty Av:=Ty.flat 4 (fun x=>[.int .i64 x.tet,.int .i64 x.Cg,.int .i64 x.to,.int .i64 x.perm]) (fun _=>rfl) (fun x u h=>by simp only [List.mem_cons,List.not_mem_nil,or_false] at h; rcases h with rfl | rfl | rfl | rfl <;> rfl)
structure Gq where
  e0:Int
  e1:Int
  deriving DecidableEq
abbrev Gh (x:Gq):Value:=.agg [.int .i64 x.e0,.int .i64 x.e1].toArray
structure Eg where
  tet:Int
  perm:Int
  deriving DecidableEq
def Qd:Eg:=⟨0,0⟩
abbrev Ey (x:Eg):Value:=.agg [.int .i64 x.tet,.int .i64 x.perm].toArray
structure Gi where
  e0:Int
  e1:Int
  e2:Int
  e3:Int
  deriving DecidableEq
def fM:Gi:=⟨0,0,0,0⟩
def Ip:Ty Gi:=Ty.flat 4 (fun x=>[.int .i64 x.e0,.int .i64 x.e1,.int .i64 x.e2,.int .i64 x.e3]) (fun _=>rfl) (fun x u h=>by simp only [List.mem_cons,List.not_mem_nil,or_false] at h; rcases h with rfl | rfl | rfl | rfl <;> rfl)
def Jo.f (a_:List Ab) (left:Int):Option (Int):=if w64 (left - (a_.length:Int))<0 then (some (-1)) else (some (w64 (left - (a_.length:Int))))
abbrev Jo.post:=Iy
def Ff.l1 (K:Nat):Nat→(List (List Ab))→Int→Int→Option (Int)
  | 0,_,_,_=>none
  | k+1,a_,b1,a1=>if a1<(a_.length:Int) then (if 0≤a1∧a1<(a_.length:Int) then ((Jo.f (a_.getD a1.toNat []) b1).bind fun t20=>(if t20<0 then (some (-1)) else (Ff.l1 K k a_ t20 (w64 (a1+1))))) else none) else (some b1)
def Ff.f (K:Nat) (a_:List (List Ab)) (left:Int):Option (Int):=if w64 (left - (a_.length:Int))<0 then (some (-1)) else (Ff.l1 K K a_ (w64 (left - (a_.length:Int))) 0)
abbrev Ff.post:=Iy
def Gr.f (K:Nat) (a1:List (List Ab)) (left:Int):Option (Int):=(Ff.f K a1 left).bind fun t3=>(if t3<0 then (some (-1)) else (some t3))
abbrev Gr.post:=Iy
def J2.f (a1:Int) (b1:Int):Option (Int × Int):=some (a1,b1)
abbrev J2.post (w0:World) (L:List Cy) (r1 r2:Int) (en:Ending) (w:World):Prop:=en=.returned (.agg [.int .i64 r1,.int .i64 r2].toArray)∧St w0 w (L)
def Gc.l1 (K:Nat):Nat→(List Ab)→(List Ab)→Int→Option (List Ab)
  | 0,_,_,_=>none
  | k+1,a_,b1,a1=>if a1<(a_.length:Int) then (if 0≤a1∧a1<(a_.length:Int) then (bnd (a_.getD a1.toNat Bj) (fun e31=>Ew (J2.f e31.Tet e31.Perm) (fun t33 t34=>(if 0≤a1∧a1<(b1.length:Int) then (Gc.l1 K k a_ (b1.set a1.toNat (⟨t33,t34⟩:Ab)) (w64 (a1+1))) else none)))) else none) else (some b1)
def Gc.f (K:Nat) (a_:List Ab):Option (List Ab):=if 0≤(a_.length:Int) then (if (a_.length:Int).toNat * 16≤281474976710656 then (Gc.l1 K K a_ (List.replicate (a_.length:Int).toNat Bj) 0) else none) else none
abbrev Gc.post (w0:World) (L:List Cy) (r1:List Ab) (en:Ending) (w:World):Prop:=∃ (A_r0:Option Addr) (c_r1:Nat),en=.returned (.slice A_r0 r1.length c_r1)∧St w0 w (Own Ad 107 A_r0 c_r1 (fun _=>()) r1::L)
def Fv.l1 (K:Nat):Nat→(List (List Ab))→(List (List Ab))→Int→Option (List (List Ab))
  | 0,_,_,_=>none
  | k+1,a_,b1,a1=>if a1<(a_.length:Int) then (if 0≤a1∧a1<(a_.length:Int) then ((Gc.f K (a_.getD a1.toNat [])).bind fun t32=>(if 0≤a1∧a1<(b1.length:Int) then (Fv.l1 K k a_ (b1.set a1.toNat t32) (w64 (a1+1))) else none)) else none) else (some b1)
def Fv.f (K:Nat) (a_:List (List Ab)):Option (List (List Ab)):=if 0≤(a_.length:Int) then (if (a_.length:Int).toNat * 24≤281474976710656 then (Fv.l1 K K a_ (List.replicate (a_.length:Int).toNat ([]:List Ab)) 0) else none) else none
abbrev Fv.post (w0:World) (L:List Cy) (r1:List (List Ab)) (en:Ending) (w:World):Prop:=∃ (A_r0:Option Addr) (c_r1:Nat) (y_r2:Nat→(Ty.slice 107 Ad).Lay),en=.returned (.slice A_r0 r1.length c_r1)∧St w0 w (Own (Ty.slice 107 Ad) 77 A_r0 c_r1 y_r2 r1::L)
def Eh.f (K:Nat) (a1:List (List Ab)):Option (List (List Ab)):=(Fv.f K a1).bind fun t7=>(some t7)
abbrev Eh.post (w0:World) (L:List Cy) (r1:List (List Ab)) (en:Ending) (w:World):Prop:=∃ (A_r0:Option Addr) (c_r1:Nat) (y_r2:Nat→(Ty.slice 107 Ad).Lay),en=.returned (.agg [.slice A_r0 r1.length c_r1].toArray)∧St w0 w (Own (Ty.slice 107 Ad) 77 A_r0 c_r1 y_r2 r1::L)
def Yy.f (a1:Int) (b1:Int) (c1:Int):Option (Int × Int × Int):=some (a1,b1,c1)
def Wj.l1 (K:Nat):Nat→(List Dg)→(List Dg)→Int→Option (List Dg)
  | 0,_,_,_=>none
  | k+1,a_,b1,a1=>if a1<(a_.length:Int) then (if 0≤a1∧a1<(a_.length:Int) then (bnd (a_.getD a1.toNat G6) (fun e33=>Jk (Yy.f e33.Kind e33.Tet e33.Index) (fun t35 t36 t37=>(if 0≤a1∧a1<(b1.length:Int) then (Wj.l1 K k a_ (b1.set a1.toNat (⟨t35,t36,t37⟩:Dg)) (w64 (a1+1))) else none)))) else none) else (some b1)
def Cs.f (a1:List (List Ab)):Option (Int):=some (a1.length:Int)
abbrev Cs.post:=Iy
def Ia.f (n_:Int) (low:Int) (high:Int):Option (Bool):=if low≤n_ then (some (decide (n_≤high))) else (some false)
abbrev Ia.post:=Kk
def Iw.f (p:Int):Option (Bool):=if 0≤p then (some (decide (p<24))) else (some false)
abbrev Iw.post:=Kk
def Ec.l1 (K:Nat):Nat→Int→(List Int)→(List Int)→Int→Int→Option (List Int)
  | 0,_,_,_,_,_=>none
  | k+1,b1,c1,e1,a1,d1=>if 0≤d1 then (if a1=0 then none else (if 0≤w64 (b1.tdiv a1)∧w64 (b1.tdiv a1)<(c1.length:Int) then (if (e1.length+1) * 8≤140737488355328 then (if 0≤w64 (b1.tdiv a1)∧w64 (b1.tdiv a1)≤(c1.length:Int) then (if (([]:List Int).length+((c1.take ((w64 (b1.tdiv a1)).toNat)).drop 0).length) * 8≤140737488355328 then (if 0≤w64 ((w64 (b1.tdiv a1))+1)∧w64 ((w64 (b1.tdiv a1))+1)≤(c1.length:Int) then (if ((([]:List Int)++((c1.take ((w64 (b1.tdiv a1)).toNat)).drop 0)).length+((c1.take c1.length).drop ((w64 ((w64 (b1.tdiv a1))+1)).toNat)).length) * 8≤140737488355328 then (if 0<d1 then (if d1=0 then none else (Ec.l1 K k (b1.tmod a1) ((([]:List Int)++((c1.take ((w64 (b1.tdiv a1)).toNat)).drop 0))++((c1.take c1.length).drop ((w64 ((w64 (b1.tdiv a1))+1)).toNat))) (e1++[c1.getD ((w64 (b1.tdiv a1)).toNat) 0]) (w64 (a1.tdiv d1)) (w64 (d1 - 1)))) else (Ec.l1 K k (b1.tmod a1) ((([]:List Int)++((c1.take ((w64 (b1.tdiv a1)).toNat)).drop 0))++((c1.take c1.length).drop ((w64 ((w64 (b1.tdiv a1))+1)).toNat))) (e1++[c1.getD ((w64 (b1.tdiv a1)).toNat) 0]) a1 (w64 (d1 - 1)))) else none) else none) else none) else none) else none) else none)) else (some e1)
def Ec.f (K:Nat) (p:Int):Option (List Int):=Ec.l1 K K p ([0,1,2,3]:List Int) ([]:List Int) 6 3
abbrev Ec.post (w0:World) (L:List Cy) (r1:List Int) (en:Ending) (w:World):Prop:=∃ (A_r0:Option Addr) (c_r1:Nat),en=.returned (.slice A_r0 r1.length c_r1)∧St w0 w (Own (Ar .i64) 2 A_r0 c_r1 (fun _=>()) r1::L)
def Bq.f (K:Nat) (p:Int) (k_:Int):Option (Int):=(Ec.f K p).bind fun t1=>(if 0≤k_∧k_<(t1.length:Int) then (some (t1.getD k_.toNat 0)) else none)
abbrev Bq.post:=Iy
mutual
def C8.l1 (K:Nat):Nat→(List Int)→Int→Int→Int→Option (Int)
  | 0,_,_,_,_=>none
  | k+1,a_,p_4,a1,i_6=>if i_6<3 then (if 0≤i_6∧i_6<(a_.length:Int) then (C8.l4 K k a_ p_4 a1 i_6 (a_.getD i_6.toNat 0) 0) else none) else (some p_4)
def C8.l4 (K:Nat):Nat→(List Int)→Int→Int→Int→Int→Int→Option (Int)
  | 0,_,_,_,_,_,_=>none
  | k+1,a_,p_4,b1,i_6,c1,a1=>if a1<i_6 then (if 0≤a1∧a1<(a_.length:Int) then (if a_.getD a1.toNat 0<a_.getD i_6.toNat 0 then (C8.l4 K k a_ p_4 b1 i_6 (w64 (c1 - 1)) (w64 (a1+1))) else (C8.l4 K k a_ p_4 b1 i_6 c1 (w64 (a1+1)))) else none) else (if w64 (3 - i_6)=0 then none else (C8.l1 K k a_ (w64 (p_4+(w64 (b1 * c1)))) (w64 (b1.tdiv (w64 (3 - i_6)))) (w64 (i_6+1))))
end
def C8.f (K:Nat) (a_:List Int):Option (Int):=C8.l1 K K a_ 0 6 0
abbrev C8.post:=Iy
def Dx.l1 (K:Nat):Nat→(List Int)→(List Int)→Int→Option (Int)
  | 0,_,_,_=>none
  | k+1,t1,b1,a1=>if a1<4 then (if 0≤a1∧a1<(t1.length:Int) then (if 0≤t1.getD a1.toNat 0∧t1.getD a1.toNat 0<(b1.length:Int) then (Dx.l1 K k t1 (b1.set ((t1.getD a1.toNat 0).toNat) a1) (w64 (a1+1))) else none) else none) else ((C8.f K b1).bind fun t26=>(some t26))
def Dx.f (K:Nat) (p:Int):Option (Int):=(Ec.f K p).bind fun t1=>(Dx.l1 K K t1 ([0,0,0,0]:List Int) 0)
abbrev Dx.post:=Iy
mutual
def Aj.l1 (K:Nat):Nat→(List (List Ab))→Int→Option (Bool)
  | 0,_,_=>none
  | k+1,b1,a1=>if a1<(b1.length:Int) then (if 0≤a1∧a1<(b1.length:Int) then (if ((b1.getD a1.toNat []).length:Int)=4 then (Aj.l1 K k b1 (w64 (a1+1))) else (some false)) else none) else (Aj.l28 K k b1 0)
def Aj.l28 (K:Nat):Nat→(List (List Ab))→Int→Option (Bool)
  | 0,_,_=>none
  | k+1,a1,b1=>(Cs.f a1).bind fun t1453=>(if b1<t1453 then (Aj.l37 K k a1 b1 0) else (some true))
def Aj.l37 (K:Nat):Nat→(List (List Ab))→Int→Int→Option (Bool)
  | 0,_,_,_=>none
  | k+1,c1,a1,b1=>if b1<4 then (if 0≤a1∧a1<(c1.length:Int) then (if 0≤b1∧b1<((c1.getD a1.toNat []).length:Int) then (bnd ((c1.getD a1.toNat []).getD b1.toNat Bj) (fun e1577=>if e1577.Tet=(-1) then (Aj.j40 K k c1 a1 b1 e1577 (decide (e1577.Perm=0))) else (Aj.j40 K k c1 a1 b1 e1577 false))) else none) else none) else (Aj.l28 K k c1 (w64 (a1+1)))
def Aj.j40 (K:Nat):Nat→(List (List Ab))→Int→Int→Ab→Bool→Option (Bool)
  | 0,_,_,_,_,_=>none
  | k+1,a1,c1,b1,e1577,x1584=>if x1584=true then (Aj.l37 K k a1 c1 (w64 (b1+1))) else ((Cs.f a1).bind fun t1599=>((Ia.f e1577.Tet 0 (w64 (t1599 - 1))).bind fun t1603=>(if t1603=true then ((Iw.f e1577.Perm).bind fun t1608=>(if t1608=true then ((Bq.f K e1577.Perm b1).bind fun t1613=>((Dx.f K e1577.Perm).bind fun t1617=>(if 0≤e1577.Tet∧e1577.Tet<(a1.length:Int) then (if 0≤t1613∧t1613<((a1.getD e1577.Tet.toNat []).length:Int) then (bnd ((a1.getD e1577.Tet.toNat []).getD t1613.toNat Bj) (fun e1626=>if (e1626.Tet,e1626.Perm)=(c1,t1617) then (if e1577.Tet=c1 then (if t1613=b1 then (some false) else (Aj.l37 K k a1 c1 (w64 (b1+1)))) else (Aj.l37 K k a1 c1 (w64 (b1+1)))) else (some false))) else none) else none))) else (some false))) else (some false))))
end
def Aj.f (K:Nat) (a1:List (List Ab)):Option (Bool):=(Cs.f a1).bind fun t3=>(if 8<t3 then (some false) else (Aj.l1 K K a1 0))
abbrev Aj.post:=Kk
def Gy.l1 (K:Nat):Nat→(List (List Ab))→(List (List Ab))→Int→Option (List (List Ab))
  | 0,_,_,_=>none
  | k+1,b1,c1,a1=>if a1<(b1.length:Int) then (if 0≤a1∧a1<(b1.length:Int) then (if (([]:List Ab).length+(b1.getD a1.toNat []).length) * 16≤140737488355328 then (if (c1.length+1) * 24≤140737488355328 then (Gy.l1 K k b1 (c1++[(([]:List Ab)++(b1.getD a1.toNat []))]) (w64 (a1+1))) else none) else none) else none) else (some c1)
def Gy.f (K:Nat) (a1:List (List Ab)):Option (List (List Ab)):=Gy.l1 K K a1 ([]:List (List Ab)) 0
abbrev Gy.post (w0:World) (L:List Cy) (r1:List (List Ab)) (en:Ending) (w:World):Prop:=∃ (A_r0:Option Addr) (c_r1:Nat) (y_r2:Nat→(Ty.slice 107 Ad).Lay),en=.returned (.agg [.slice A_r0 r1.length c_r1].toArray)∧St w0 w (Own (Ty.slice 107 Ad) 77 A_r0 c_r1 y_r2 r1::L)
def E9.j1 (K:Nat):Nat→Int→Bool→Option (Int)
  | 0,_,_=>none
  | k+1,kind,x2=>if x2=true then (some 3) else (if kind=2 then (some 5) else (if kind=3 then (some 0) else (some (-1))))
def E9.f (K:Nat) (kind:Int):Option (Int):=if kind=1 then (E9.j1 K K kind (decide (kind=1))) else (E9.j1 K K kind (decide (kind=4)))
abbrev E9.post:=Iy
def Gd.f:Option (List Ab):=some ([(⟨(-1),0⟩:Ab),(⟨(-1),0⟩:Ab),(⟨(-1),0⟩:Ab),(⟨(-1),0⟩:Ab)]:List Ab)
abbrev Gd.post (w0:World) (L:List Cy) (r1:List Ab) (en:Ending) (w:World):Prop:=∃ (A_r0:Option Addr) (c_r1:Nat),en=.returned (.slice A_r0 r1.length c_r1)∧St w0 w (Own Ad 107 A_r0 c_r1 (fun _=>()) r1::L)
def Fe.l1 (K:Nat):Nat→(List Int)→(List Int)→(List Int)→Int→Option (Int)
  | 0,_,_,_,_=>none
  | k+1,a1,to,b1,i_9=>if i_9<4 then (if 0≤i_9∧i_9<(a1.length:Int) then (if 0≤i_9∧i_9<(to.length:Int) then (if 0≤a1.getD i_9.toNat 0∧a1.getD i_9.toNat 0<(b1.length:Int) then (Fe.l1 K k a1 to (b1.set ((a1.getD i_9.toNat 0).toNat) (to.getD i_9.toNat 0)) (w64 (i_9+1))) else none) else none) else none) else ((C8.f K b1).bind fun t26=>(some t26))
def Fe.f (K:Nat) (a1:List Int) (to:List Int):Option (Int):=Fe.l1 K K a1 to ([0,0,0,0]:List Int) 0
abbrev Fe.post:=Iy
mutual
def Dl.l1 (K:Nat):Nat→Int→Int→Ab→(List Int)→Int→Option ((List Int) × (List (List Ab)) × (List Av) × Bool)
  | 0,_,_,_,_,_=>none
  | k+1,o,A,e7,x28,x29=>if x29<4 then (if x29=A then (Dl.l1 K k o A e7 x28 (w64 (x29+1))) else (if (x28.length+1) * 8≤140737488355328 then (Dl.l1 K k o A e7 (x28++[x29]) (w64 (x29+1))) else none)) else (Dl.l3 K k o A e7 x28 ([]:List (List Ab)) ([]:List Av) 0)
def Dl.l3 (K:Nat):Nat→Int→Int→Ab→(List Int)→(List (List Ab))→(List Av)→Int→Option ((List Int) × (List (List Ab)) × (List Av) × Bool)
  | 0,_,_,_,_,_,_,_=>none
  | k+1,o,A,e7,x28,x366,x370,x371=>if x371<3 then (if 0≤(w64 (x371+1)).tmod 3∧(w64 (x371+1)).tmod 3<(x28.length:Int) then (if 0≤(w64 (x371+2)).tmod 3∧(w64 (x371+2)).tmod 3<(x28.length:Int) then (if 0≤x371∧x371<(x28.length:Int) then ((Gd.f).bind fun t455=>(if 0≤(2:Int)∧(2:Int)<(t455.length:Int) then (if 0≤(3:Int)∧(3:Int)<((t455.set 2 (⟨(w64 (x371+1)).tmod 3,1⟩:Ab)).length:Int) then (if (x366.length+1) * 24≤140737488355328 then ((Fe.f K ([A,x28.getD (((w64 (x371+1)).tmod 3).toNat) 0,x28.getD (((w64 (x371+2)).tmod 3).toNat) 0,x28.getD x371.toNat 0]:List Int) ([0,2,3,1]:List Int)).bind fun t477=>(if (x370.length+1) * 32≤140737488355328 then ((Bq.f K e7.Perm (x28.getD x371.toNat 0)).bind fun t488=>((Bq.f K e7.Perm A).bind fun t492=>((Bq.f K e7.Perm (x28.getD (((w64 (x371+1)).tmod 3).toNat) 0)).bind fun t496=>((Bq.f K e7.Perm (x28.getD (((w64 (x371+2)).tmod 3).toNat) 0)).bind fun t500=>((Bq.f K e7.Perm (x28.getD x371.toNat 0)).bind fun t504=>((Fe.f K ([t492,t496,t500,t504]:List Int) ([1,2,3,0]:List Int)).bind fun t512=>(if ((x370++[(⟨o,x28.getD x371.toNat 0,x371,t477⟩:Av)]).length+1) * 32≤140737488355328 then (Dl.l3 K k o A e7 x28 (x366++[((t455.set 2 (⟨(w64 (x371+1)).tmod 3,1⟩:Ab)).set 3 (⟨(w64 (x371+2)).tmod 3,1⟩:Ab))]) ((x370++[(⟨o,x28.getD x371.toNat 0,x371,t477⟩:Av)])++[(⟨e7.Tet,t488,x371,t512⟩:Av)]) (w64 (x371+1))) else none))))))) else none)) else none) else none) else none)) else none) else none) else none) else (some (([o,e7.Tet]:List Int),x366,x370,true))
end
def Dl.f (K:Nat) (a1:List (List Ab)) (o:Int) (A:Int):Option ((List Int) × (List (List Ab)) × (List Av) × Bool):=if 0≤o∧o<(a1.length:Int) then (if 0≤A∧A<((a1.getD o.toNat []).length:Int) then (bnd ((a1.getD o.toNat []).getD A.toNat Bj) (fun e7=>if e7.Tet<0 then (some (([]:List Int),([]:List (List Ab)),([]:List Av),false)) else (if e7.Tet=o then (some (([]:List Int),([]:List (List Ab)),([]:List Av),false)) else (Dl.l1 K K o A e7 ([]:List Int) 0)))) else none) else none
abbrev Dl.post (w0:World) (L:List Cy) (r1:List Int) (r2:List (List Ab)) (r3:List Av) (r4:Bool) (en:Ending) (w:World):Prop:=∃ (A_r0:Option Addr) (c_r1:Nat) (A_r2:Option Addr) (c_r3:Nat) (y_r4:Nat→(Ty.slice 107 Ad).Lay) (A_r5:Option Addr) (c_r6:Nat),en=.returned (.tuple #[.agg [.slice A_r0 r1.length c_r1,.slice A_r2 r2.length c_r3,.slice A_r5 r3.length c_r6].toArray,.bool r4])∧St w0 w (Own (Ar .i64) 2 A_r0 c_r1 (fun _=>()) r1::Own (Ty.slice 107 Ad) 77 A_r2 c_r3 y_r4 r2::Own Ci 122 A_r5 c_r6 (fun _=>()) r3::L)
def Em.l1 (K:Nat):Nat→Int→(List Int)→Int→Option (List Int)
  | 0,_,_,_=>none
  | k+1,n_,a1,b1=>if b1<n_ then (if (a1.length+1) * 8≤140737488355328 then (Em.l1 K k n_ (a1++[b1]) (w64 (b1+1))) else none) else (some a1)
def Em.f (K:Nat) (n_:Int):Option (List Int):=Em.l1 K K n_ ([]:List Int) 0
abbrev Em.post (w0:World) (L:List Cy) (r1:List Int) (en:Ending) (w:World):Prop:=∃ (A_r0:Option Addr) (c_r1:Nat),en=.returned (.slice A_r0 r1.length c_r1)∧St w0 w (Own (Ar .i64) 2 A_r0 c_r1 (fun _=>()) r1::L)
def D6.l1 (K:Nat):Nat→(List Int)→Int→Int→(List Int)→Int→Option (List Int)
  | 0,_,_,_,_,_=>none
  | k+1,marks,i,k_,x11,a1=>if a1<(x11.length:Int) then (if 0≤a1∧a1<(x11.length:Int) then (if x11.getD a1.toNat 0=(if marks.getD k_.toNat 0 > marks.getD i.toNat 0 then marks.getD k_.toNat 0 else marks.getD i.toNat 0) then (D6.l1 K k marks i k_ (x11.set a1.toNat (if marks.getD k_.toNat 0<marks.getD i.toNat 0 then marks.getD k_.toNat 0 else marks.getD i.toNat 0)) (w64 (a1+1))) else (D6.l1 K k marks i k_ x11 (w64 (a1+1)))) else none) else (some x11)
def D6.f (K:Nat) (marks:List Int) (i:Int) (k_:Int):Option (List Int):=if 0≤i∧i<(marks.length:Int) then (if 0≤k_∧k_<(marks.length:Int) then (D6.l1 K K marks i k_ marks 0) else none) else none
abbrev D6.post (w0:World) (L:List Cy) (A_a:Option Addr) (c_a:Nat) (r1:List Int) (en:Ending) (w:World):Prop:=en=.returned (.tuple #[])∧St w0 w (Own (Ar .i64) 2 A_a c_a (fun _=>()) r1::L)
def Gs.f (e_:Int):Option (Int × Int):=if 0≤e_∧e_<(([0,0,0,1,1,2]:List Int).length:Int) then (if 0≤e_∧e_<(([1,2,3,2,3,3]:List Int).length:Int) then (some (([0,0,0,1,1,2]:List Int).getD e_.toNat 0,([1,2,3,2,3,3]:List Int).getD e_.toNat 0)) else none) else none
abbrev Gs.post (w0:World) (L:List Cy) (r1 r2:Int) (en:Ending) (w:World):Prop:=en=.returned (.tuple #[.int .i64 r1,.int .i64 r2])∧St w0 w (L)
def E8.l1 (K:Nat):Nat→Int→Int→Int→Option (Int)
  | 0,_,_,_=>none
  | k+1,a_,b_,e_9=>if e_9<6 then (Ew (Gs.f e_9) (fun t20 t21=>(if t20=(if b_<a_ then b_ else a_) then (if t21=(if b_ > a_ then b_ else a_) then (some e_9) else (E8.l1 K k a_ b_ (w64 (e_9+1)))) else (E8.l1 K k a_ b_ (w64 (e_9+1)))))) else (some (-1))
def E8.f (K:Nat) (a_:Int) (b_:Int):Option (Int):=E8.l1 K K a_ b_ 0
abbrev E8.post:=Iy
mutual
def Cb.l1 (K:Nat):Nat→(List Int)→Int→(List Int)→Int→Int→Option ((List (List Int)) × Int)
  | 0,_,_,_,_,_=>none
  | k+1,marks,width,b1,c1,a1=>if a1<(marks.length:Int) then (if 0≤a1∧a1<(marks.length:Int) then (if marks.getD a1.toNat 0=a1 then (if 0≤a1∧a1<(b1.length:Int) then (Cb.l1 K k marks width (b1.set a1.toNat c1) (w64 (c1+1)) (w64 (a1+1))) else none) else (Cb.l1 K k marks width b1 c1 (w64 (a1+1)))) else none) else (Cb.l7 K k marks width b1 c1 ([]:List (List Int)) 0)
def Cb.l7 (K:Nat):Nat→(List Int)→Int→(List Int)→Int→(List (List Int))→Int→Option ((List (List Int)) × Int)
  | 0,_,_,_,_,_,_=>none
  | k+1,marks,width,d1,c1,b1,a1=>if a1<(marks.length:Int) then (Cb.l10 K k marks width d1 c1 b1 a1 ([]:List Int) a1) else (some (b1,c1))
def Cb.l10 (K:Nat):Nat→(List Int)→Int→(List Int)→Int→(List (List Int))→Int→(List Int)→Int→Option ((List (List Int)) × Int)
  | 0,_,_,_,_,_,_,_,_=>none
  | k+1,marks,width,b1,f1,e1,c1,d1,a1=>if a1<w64 (c1+width) then (if 0≤a1∧a1<(marks.length:Int) then (if 0≤marks.getD a1.toNat 0∧marks.getD a1.toNat 0<(b1.length:Int) then (if (d1.length+1) * 8≤140737488355328 then (Cb.l10 K k marks width b1 f1 e1 c1 (d1++[b1.getD ((marks.getD a1.toNat 0).toNat) 0]) (w64 (a1+1))) else none) else none) else none) else (if (e1.length+1) * 24≤140737488355328 then (Cb.l7 K k marks width b1 f1 (e1++[d1]) (w64 (c1+width))) else none)
end
def Cb.f (K:Nat) (marks:List Int) (width:Int):Option ((List (List Int)) × Int):=if 0≤(marks.length:Int) then (if (marks.length:Int).toNat * 8≤281474976710656 then (Cb.l1 K K marks width (List.replicate (marks.length:Int).toNat (0:Int)) 0 0) else none) else none
abbrev Cb.post (w0:World) (L:List Cy) (r1:List (List Int)) (r2:Int) (en:Ending) (w:World):Prop:=∃ (A_r0:Option Addr) (c_r1:Nat) (y_r2:Nat→(Ty.slice 2 (Ar .i64)).Lay),en=.returned (.tuple #[.slice A_r0 r1.length c_r1,.int .i64 r2])∧St w0 w (Own (Ty.slice 2 (Ar .i64)) 56 A_r0 c_r1 y_r2 r1::L)
mutual
def Bf.l1 (K:Nat):Nat→(List (List Ab))→Int→(List Int)→(List Int)→(List Int)→Int→Option ((List (List Int)) × (List (List Int)) × (List (List Int)) × (List Int))
  | 0,_,_,_,_,_,_=>none
  | k+1,c1,t5,b1,a1,x782,x783=>if x783<t5 then (Bf.l24 K k c1 t5 x783 b1 a1 x782 0) else (Ew (Cb.f K b1 4) (fun t2256 t2257=>(if 0≤(0:Int)∧(0:Int)<(([0,0,0,t5]:List Int).length:Int) then (Ew (Cb.f K a1 6) (fun t2267 t2268=>(if 0≤(1:Int)∧(1:Int)<((([0,0,0,t5]:List Int).set 0 t2257).length:Int) then (Ew (Cb.f K x782 4) (fun t2278 t2279=>(if 0≤(2:Int)∧(2:Int)<(((([0,0,0,t5]:List Int).set 0 t2257).set 1 t2268).length:Int) then (some (t2256,t2267,t2278,(((([0,0,0,t5]:List Int).set 0 t2257).set 1 t2268).set 2 t2279))) else none))) else none))) else none)))
def Bf.l24 (K:Nat):Nat→(List (List Ab))→Int→Int→(List Int)→(List Int)→(List Int)→Int→Option ((List (List Int)) × (List (List Int)) × (List (List Int)) × (List Int))
  | 0,_,_,_,_,_,_,_=>none
  | k+1,a1,t5,x783,c1,b1,x1829,x1830=>if x1830<4 then (if 0≤x783∧x783<(a1.length:Int) then (if 0≤x1830∧x1830<((a1.getD x783.toNat []).length:Int) then (bnd ((a1.getD x783.toNat []).getD x1830.toNat Bj) (fun e2044=>if e2044.Tet<0 then (Bf.l24 K k a1 t5 x783 c1 b1 x1829 (w64 (x1830+1))) else ((Bq.f K e2044.Perm x1830).bind fun t2050=>((D6.f K x1829 (w64 ((w64 (4 * x783))+x1830)) (w64 ((w64 (4 * e2044.Tet))+t2050))).bind fun t2054=>(if t2054.length=x1829.length then (Bf.l32 K k a1 t5 x783 b1 x1830 e2044 t2054 c1 0) else none))))) else none) else none) else (Bf.l1 K k a1 t5 c1 b1 x1829 (w64 (x783+1)))
def Bf.l32 (K:Nat):Nat→(List (List Ab))→Int→Int→(List Int)→Int→Ab→(List Int)→(List Int)→Int→Option ((List (List Int)) × (List (List Int)) × (List (List Int)) × (List Int))
  | 0,_,_,_,_,_,_,_,_,_=>none
  | k+1,b1,t5,x783,c1,x1830,e2044,t2054,a1,x2070=>if x2070<4 then (if x2070=x1830 then (Bf.l32 K k b1 t5 x783 c1 x1830 e2044 t2054 a1 (w64 (x2070+1))) else ((Bq.f K e2044.Perm x2070).bind fun t2163=>((D6.f K a1 (w64 ((w64 (4 * x783))+x2070)) (w64 ((w64 (4 * e2044.Tet))+t2163))).bind fun t2167=>(if t2167.length=a1.length then (Bf.l32 K k b1 t5 x783 c1 x1830 e2044 t2054 t2167 (w64 (x2070+1))) else none)))) else (Bf.l34 K k b1 t5 x783 x1830 e2044 t2054 a1 c1 0)
def Bf.l34 (K:Nat):Nat→(List (List Ab))→Int→Int→Int→Ab→(List Int)→(List Int)→(List Int)→Int→Option ((List (List Int)) × (List (List Int)) × (List (List Int)) × (List Int))
  | 0,_,_,_,_,_,_,_,_,_=>none
  | k+1,b1,t5,x783,x1830,e2044,t2054,c1,a1,x2198=>if x2198<6 then (Ew (Gs.f x2198) (fun t2226 t2227=>(if t2226=x1830 then (Bf.l34 K k b1 t5 x783 x1830 e2044 t2054 c1 a1 (w64 (x2198+1))) else (if t2227=x1830 then (Bf.l34 K k b1 t5 x783 x1830 e2044 t2054 c1 a1 (w64 (x2198+1))) else ((Bq.f K e2044.Perm t2226).bind fun t2234=>((Bq.f K e2044.Perm t2227).bind fun t2238=>((E8.f K t2234 t2238).bind fun t2242=>((D6.f K a1 (w64 ((w64 (6 * x783))+x2198)) (w64 ((w64 (6 * e2044.Tet))+t2242))).bind fun t2246=>(if t2246.length=a1.length then (Bf.l34 K k b1 t5 x783 x1830 e2044 t2054 c1 t2246 (w64 (x2198+1))) else none))))))))) else (Bf.l24 K k b1 t5 x783 c1 a1 t2054 (w64 (x1830+1)))
end
def Bf.f (K:Nat) (a1:List (List Ab)):Option ((List (List Int)) × (List (List Int)) × (List (List Int)) × (List Int)):=(Cs.f a1).bind fun t5=>((Em.f K (w64 (4 * t5))).bind fun t9=>((Em.f K (w64 (6 * t5))).bind fun t15=>((Em.f K (w64 (4 * t5))).bind fun t21=>(Bf.l1 K K a1 t5 t9 t15 t21 0))))
abbrev Bf.post (w0:World) (L:List Cy) (r1:List (List Int)) (r2:List (List Int)) (r3:List (List Int)) (r4:List Int) (en:Ending) (w:World):Prop:=∃ (A_r0:Option Addr) (c_r1:Nat) (y_r2:Nat→(Ty.slice 2 (Ar .i64)).Lay) (A_r3:Option Addr) (c_r4:Nat) (y_r5:Nat→(Ty.slice 2 (Ar .i64)).Lay) (A_r6:Option Addr) (c_r7:Nat) (y_r8:Nat→(Ty.slice 2 (Ar .i64)).Lay) (A_r9:Option Addr) (c_r10:Nat),en=.returned (.tuple #[.agg [.slice A_r0 r1.length c_r1,.slice A_r3 r2.length c_r4,.slice A_r6 r3.length c_r7].toArray,.slice A_r9 r4.length c_r10])∧St w0 w (Own (Ty.slice 2 (Ar .i64)) 56 A_r0 c_r1 y_r2 r1::Own (Ty.slice 2 (Ar .i64)) 56 A_r3 c_r4 y_r5 r2::Own (Ty.slice 2 (Ar .i64)) 56 A_r6 c_r7 y_r8 r3::Own (Ar .i64) 2 A_r9 c_r10 (fun _=>()) r4::L)
mutual
def Cm.l1 (K:Nat):Nat→(List (List Ab))→(List (List Int))→Int→Option (List (List Int))
  | 0,_,_,_=>none
  | k+1,a1,c1,b1=>if b1<(a1.length:Int) then (Cm.l4 K k a1 b1 c1 0) else (some c1)
def Cm.l4 (K:Nat):Nat→(List (List Ab))→Int→(List (List Int))→Int→Option (List (List Int))
  | 0,_,_,_,_=>none
  | k+1,c1,a1,d1,b1=>if b1<4 then (if 0≤a1∧a1<(c1.length:Int) then (if 0≤b1∧b1<((c1.getD a1.toNat []).length:Int) then (bnd ((c1.getD a1.toNat []).getD b1.toNat Bj) (fun e148=>if e148.Tet<0 then (if (d1.length+1) * 24≤140737488355328 then (Cm.l4 K k c1 a1 (d1++[([a1,b1]:List Int)]) (w64 (b1+1))) else none) else (Cm.l4 K k c1 a1 d1 (w64 (b1+1))))) else none) else none) else (Cm.l1 K k c1 d1 (w64 (a1+1)))
end
def Cm.f (K:Nat) (a1:List (List Ab)):Option (List (List Int)):=Cm.l1 K K a1 ([]:List (List Int)) 0
abbrev Cm.post (w0:World) (L:List Cy) (r1:List (List Int)) (en:Ending) (w:World):Prop:=∃ (A_r0:Option Addr) (c_r1:Nat) (y_r2:Nat→(Ty.slice 2 (Ar .i64)).Lay),en=.returned (.slice A_r0 r1.length c_r1)∧St w0 w (Own (Ty.slice 2 (Ar .i64)) 56 A_r0 c_r1 y_r2 r1::L)
def Df.l1 (K:Nat):Nat→(List Bool)→(List Int)→Int→Option (List Int)
  | 0,_,_,_=>none
  | k+1,flags,b1,a1=>if a1<(flags.length:Int) then (if 0≤a1∧a1<(flags.length:Int) then (if (flags.getD a1.toNat false)=true then (if (b1.length+1) * 8≤140737488355328 then (Df.l1 K k flags (b1++[a1]) (w64 (a1+1))) else none) else (Df.l1 K k flags b1 (w64 (a1+1)))) else none) else (some b1)
def Df.f (K:Nat) (flags:List Bool):Option (List Int):=Df.l1 K K flags ([]:List Int) 0
abbrev Df.post (w0:World) (L:List Cy) (r1:List Int) (en:Ending) (w:World):Prop:=∃ (A_r0:Option Addr) (c_r1:Nat),en=.returned (.slice A_r0 r1.length c_r1)∧St w0 w (Own (Ar .i64) 2 A_r0 c_r1 (fun _=>()) r1::L)
mutual
def Bb.l1 (K:Nat):Nat→(List (List Int))→(List (List Int))→(List (List Int))→(List (List Int))→(List Bool)→(List Bool)→(List Bool)→Int→Option ((List Int) × (List Int) × (List Int))
  | 0,_,_,_,_,_,_,_,_=>none
  | k+1,t8,t9,t10,t44,c1,d1,b1,a1=>if a1<(t44.length:Int) then (if 0≤a1∧a1<(t44.length:Int) then (if 0≤(0:Int)∧(0:Int)<((t44.getD a1.toNat []).length:Int) then (if 0≤(1:Int)∧(1:Int)<((t44.getD a1.toNat []).length:Int) then (if 0≤(t44.getD a1.toNat []).getD 0 0∧(t44.getD a1.toNat []).getD 0 0<(t10.length:Int) then (if 0≤(t44.getD a1.toNat []).getD 1 0∧(t44.getD a1.toNat []).getD 1 0<((t10.getD (((t44.getD a1.toNat []).getD 0 0).toNat) []).length:Int) then (if 0≤(t10.getD (((t44.getD a1.toNat []).getD 0 0).toNat) []).getD (((t44.getD a1.toNat []).getD 1 0).toNat) 0∧(t10.getD (((t44.getD a1.toNat []).getD 0 0).toNat) []).getD (((t44.getD a1.toNat []).getD 1 0).toNat) 0<(b1.length:Int) then (Bb.l8 K k t8 t9 t10 t44 d1 b1 a1 c1 0) else none) else none) else none) else none) else none) else none) else ((Df.f K c1).bind fun t412=>((Df.f K d1).bind fun t418=>((Df.f K b1).bind fun t424=>(some (t412,t418,t424)))))
def Bb.l8 (K:Nat):Nat→(List (List Int))→(List (List Int))→(List (List Int))→(List (List Int))→(List Bool)→(List Bool)→Int→(List Bool)→Int→Option ((List Int) × (List Int) × (List Int))
  | 0,_,_,_,_,_,_,_,_,_=>none
  | k+1,t8,t9,t10,t44,e1,d1,a1,c1,b1=>if b1<4 then (if b1=(t44.getD a1.toNat []).getD 1 0 then (Bb.l8 K k t8 t9 t10 t44 e1 d1 a1 c1 (w64 (b1+1))) else (if 0≤(t44.getD a1.toNat []).getD 0 0∧(t44.getD a1.toNat []).getD 0 0<(t8.length:Int) then (if 0≤b1∧b1<((t8.getD (((t44.getD a1.toNat []).getD 0 0).toNat) []).length:Int) then (if 0≤(t8.getD (((t44.getD a1.toNat []).getD 0 0).toNat) []).getD b1.toNat 0∧(t8.getD (((t44.getD a1.toNat []).getD 0 0).toNat) []).getD b1.toNat 0<(c1.length:Int) then (Bb.l8 K k t8 t9 t10 t44 e1 d1 a1 (c1.set (((t8.getD (((t44.getD a1.toNat []).getD 0 0).toNat) []).getD b1.toNat 0).toNat) true) (w64 (b1+1))) else none) else none) else none)) else (Bb.l10 K k t8 t9 t10 t44 d1 a1 c1 e1 0)
def Bb.l10 (K:Nat):Nat→(List (List Int))→(List (List Int))→(List (List Int))→(List (List Int))→(List Bool)→Int→(List Bool)→(List Bool)→Int→Option ((List Int) × (List Int) × (List Int))
  | 0,_,_,_,_,_,_,_,_,_=>none
  | k+1,t8,t9,t10,t44,e1,a1,d1,c1,b1=>if b1<6 then (Ew (Gs.f b1) (fun t400 t401=>(if t400=(t44.getD a1.toNat []).getD 1 0 then (Bb.l10 K k t8 t9 t10 t44 e1 a1 d1 c1 (w64 (b1+1))) else (if t401=(t44.getD a1.toNat []).getD 1 0 then (Bb.l10 K k t8 t9 t10 t44 e1 a1 d1 c1 (w64 (b1+1))) else (if 0≤(t44.getD a1.toNat []).getD 0 0∧(t44.getD a1.toNat []).getD 0 0<(t9.length:Int) then (if 0≤b1∧b1<((t9.getD (((t44.getD a1.toNat []).getD 0 0).toNat) []).length:Int) then (if 0≤(t9.getD (((t44.getD a1.toNat []).getD 0 0).toNat) []).getD b1.toNat 0∧(t9.getD (((t44.getD a1.toNat []).getD 0 0).toNat) []).getD b1.toNat 0<(c1.length:Int) then (Bb.l10 K k t8 t9 t10 t44 e1 a1 d1 (c1.set (((t9.getD (((t44.getD a1.toNat []).getD 0 0).toNat) []).getD b1.toNat 0).toNat) true) (w64 (b1+1))) else none) else none) else none))))) else (Bb.l1 K k t8 t9 t10 t44 d1 c1 (e1.set (((t10.getD (((t44.getD a1.toNat []).getD 0 0).toNat) []).getD (((t44.getD a1.toNat []).getD 1 0).toNat) 0).toNat) true) (w64 (a1+1)))
end
def Bb.f (K:Nat) (a1:List (List Ab)):Option ((List Int) × (List Int) × (List Int)):=(Aj.f K a1).bind fun t3=>(if t3=true then (D7 (Bf.f K a1) (fun t8 t9 t10 t11=>(if 0≤(0:Int)∧(0:Int)<(t11.length:Int) then (if 0≤t11.getD 0 0 then (if (t11.getD 0 0).toNat * 1≤281474976710656 then (if 0≤(1:Int)∧(1:Int)<(t11.length:Int) then (if 0≤t11.getD 1 0 then (if (t11.getD 1 0).toNat * 1≤281474976710656 then (if 0≤(2:Int)∧(2:Int)<(t11.length:Int) then (if 0≤t11.getD 2 0 then (if (t11.getD 2 0).toNat * 1≤281474976710656 then ((Cm.f K a1).bind fun t44=>(Bb.l1 K K t8 t9 t10 t44 (List.replicate (t11.getD 0 0).toNat false) (List.replicate (t11.getD 1 0).toNat false) (List.replicate (t11.getD 2 0).toNat false) 0)) else none) else none) else none) else none) else none) else none) else none) else none) else none))) else (some (([]:List Int),([]:List Int),([]:List Int))))
abbrev Bb.post (w0:World) (L:List Cy) (r1 r2 r3:List Int) (en:Ending) (w:World):Prop:=∃ (A_r0:Option Addr) (c_r1:Nat) (A_r2:Option Addr) (c_r3:Nat) (A_r4:Option Addr) (c_r5:Nat),en=.returned (.tuple #[.slice A_r0 r1.length c_r1,.slice A_r2 r2.length c_r3,.slice A_r4 r3.length c_r5])∧St w0 w (Own (Ar .i64) 2 A_r0 c_r1 (fun _=>()) r1::Own (Ar .i64) 2 A_r2 c_r3 (fun _=>()) r2::Own (Ar .i64) 2 A_r4 c_r5 (fun _=>()) r3::L)
mutual
def Ao.l1 (K:Nat):Nat→(List (List Ab))→Int→(List Int)→(List Bool)→Int→Option (List (List Int))
  | 0,_,_,_,_,_=>none
  | k+1,d1,t3,b1,c1,a1=>if a1<w64 (6 * t3) then (if 0≤a1∧a1<(b1.length:Int) then (if b1.getD a1.toNat 0=0 then (Ao.l57 K k d1 t3 c1 a1 (b1.set a1.toNat 1) ([a1]:List Int) false 0) else (Ao.l1 K k d1 t3 b1 c1 (w64 (a1+1)))) else none) else (Ao.l82 K k t3 b1 c1 ([]:List (List Int)) 0)
def Ao.l57 (K:Nat):Nat→(List (List Ab))→Int→(List Bool)→Int→(List Int)→(List Int)→Bool→Int→Option (List (List Int))
  | 0,_,_,_,_,_,_,_,_=>none
  | k+1,a1,t3,c1,d1,b1,x1530,x1531,x1532=>if x1532<(x1530.length:Int) then (if 0≤x1532∧x1532<(x1530.length:Int) then (Ew (Gs.f ((x1530.getD x1532.toNat 0).tmod 6)) (fun t1719 t1720=>(Ao.l74 K k a1 t3 c1 d1 x1530 x1532 t1719 t1720 b1 x1530 x1531 0))) else none) else (Ao.l81 K k a1 t3 d1 b1 x1530 x1531 c1 0)
def Ao.l74 (K:Nat):Nat→(List (List Ab))→Int→(List Bool)→Int→(List Int)→Int→Int→Int→(List Int)→(List Int)→Bool→Int→Option (List (List Int))
  | 0,_,_,_,_,_,_,_,_,_,_,_,_=>none
  | k+1,a1,t3,c1,d1,x1530,x1532,t1719,t1720,b1,x1778,x1779,x1780=>if x1780<4 then (if 0≤w64 ((x1530.getD x1532.toNat 0).tdiv 6)∧w64 ((x1530.getD x1532.toNat 0).tdiv 6)<(a1.length:Int) then (if 0≤x1780∧x1780<((a1.getD ((w64 ((x1530.getD x1532.toNat 0).tdiv 6)).toNat) []).length:Int) then (bnd ((a1.getD ((w64 ((x1530.getD x1532.toNat 0).tdiv 6)).toNat) []).getD x1780.toNat Bj) (fun e1837=>if e1837.Tet<0 then (Ao.l74 K k a1 t3 c1 d1 x1530 x1532 t1719 t1720 b1 x1778 x1779 (w64 (x1780+1))) else (if x1780=t1719 then (Ao.l74 K k a1 t3 c1 d1 x1530 x1532 t1719 t1720 b1 x1778 x1779 (w64 (x1780+1))) else (if x1780=t1720 then (Ao.l74 K k a1 t3 c1 d1 x1530 x1532 t1719 t1720 b1 x1778 x1779 (w64 (x1780+1))) else ((Bq.f K e1837.Perm t1719).bind fun t1847=>((Bq.f K e1837.Perm t1720).bind fun t1851=>((E8.f K t1847 t1851).bind fun t1855=>(if 0≤x1532∧x1532<(x1778.length:Int) then (if 0≤x1778.getD x1532.toNat 0∧x1778.getD x1532.toNat 0<(b1.length:Int) then (if t1851<t1847 then (Ao.j79 K k a1 t3 c1 d1 x1530 x1532 t1719 t1720 b1 x1778 x1779 x1780 e1837 t1855 (w64 (0 - (b1.getD ((x1778.getD x1532.toNat 0).toNat) 0)))) else (Ao.j79 K k a1 t3 c1 d1 x1530 x1532 t1719 t1720 b1 x1778 x1779 x1780 e1837 t1855 (b1.getD ((x1778.getD x1532.toNat 0).toNat) 0))) else none) else none)))))))) else none) else none) else (Ao.l57 K k a1 t3 c1 d1 b1 x1778 x1779 (w64 (x1532+1)))
def Ao.j79 (K:Nat):Nat→(List (List Ab))→Int→(List Bool)→Int→(List Int)→Int→Int→Int→(List Int)→(List Int)→Bool→Int→Ab→Int→Int→Option (List (List Int))
  | 0,_,_,_,_,_,_,_,_,_,_,_,_,_,_,_=>none
  | k+1,b1,t3,c1,d1,x1530,x1532,t1719,t1720,a1,x1778,x1779,x1780,e1837,t1855,x1862=>if 0≤w64 ((w64 (6 * e1837.Tet))+t1855)∧w64 ((w64 (6 * e1837.Tet))+t1855)<(a1.length:Int) then (if a1.getD ((w64 ((w64 (6 * e1837.Tet))+t1855)).toNat) 0=0 then (if (x1778.length+1) * 8≤140737488355328 then (Ao.j80 K k b1 t3 c1 d1 x1530 x1532 t1719 t1720 x1779 x1780 e1837 t1855 x1862 (a1.set ((w64 ((w64 (6 * e1837.Tet))+t1855)).toNat) x1862) (x1778++[w64 ((w64 (6 * e1837.Tet))+t1855)])) else none) else (Ao.j80 K k b1 t3 c1 d1 x1530 x1532 t1719 t1720 x1779 x1780 e1837 t1855 x1862 a1 x1778)) else none
def Ao.j80 (K:Nat):Nat→(List (List Ab))→Int→(List Bool)→Int→(List Int)→Int→Int→Int→Bool→Int→Ab→Int→Int→(List Int)→(List Int)→Option (List (List Int))
  | 0,_,_,_,_,_,_,_,_,_,_,_,_,_,_,_=>none
  | k+1,b1,t3,c1,d1,x1530,x1532,t1719,t1720,x1779,x1780,e1837,t1855,x1862,a1,x1875=>if x1779=true then (Ao.l74 K k b1 t3 c1 d1 x1530 x1532 t1719 t1720 a1 x1875 true (w64 (x1780+1))) else (if 0≤w64 ((w64 (6 * e1837.Tet))+t1855)∧w64 ((w64 (6 * e1837.Tet))+t1855)<(a1.length:Int) then (Ao.l74 K k b1 t3 c1 d1 x1530 x1532 t1719 t1720 a1 x1875 (!(decide (a1.getD ((w64 ((w64 (6 * e1837.Tet))+t1855)).toNat) 0=x1862))) (w64 (x1780+1))) else none)
def Ao.l81 (K:Nat):Nat→(List (List Ab))→Int→Int→(List Int)→(List Int)→Bool→(List Bool)→Int→Option (List (List Int))
  | 0,_,_,_,_,_,_,_,_=>none
  | k+1,b1,t3,d1,c1,x1530,x1531,a1,x1892=>if x1892<(x1530.length:Int) then (if 0≤x1892∧x1892<(x1530.length:Int) then (if 0≤x1530.getD x1892.toNat 0∧x1530.getD x1892.toNat 0<(a1.length:Int) then (Ao.l81 K k b1 t3 d1 c1 x1530 x1531 (a1.set ((x1530.getD x1892.toNat 0).toNat) x1531) (w64 (x1892+1))) else none) else none) else (Ao.l1 K k b1 t3 c1 a1 (w64 (d1+1)))
def Ao.l82 (K:Nat):Nat→Int→(List Int)→(List Bool)→(List (List Int))→Int→Option (List (List Int))
  | 0,_,_,_,_,_=>none
  | k+1,t3,b1,a1,x1981,x1983=>if x1983<w64 (6 * t3) then (Ao.l85 K k t3 b1 a1 x1981 x1983 ([]:List Int) x1983) else (some x1981)
def Ao.l85 (K:Nat):Nat→Int→(List Int)→(List Bool)→(List (List Int))→Int→(List Int)→Int→Option (List (List Int))
  | 0,_,_,_,_,_,_,_=>none
  | k+1,t3,b1,a1,x1981,x1983,x2088,x2089=>if x2089<w64 (x1983+6) then (if 0≤x2089∧x2089<(a1.length:Int) then (if (a1.getD x2089.toNat false)=true then (if (x2088.length+1) * 8≤140737488355328 then (Ao.l85 K k t3 b1 a1 x1981 x1983 (x2088++[0]) (w64 (x2089+1))) else none) else (if 0≤x2089∧x2089<(b1.length:Int) then (if (x2088.length+1) * 8≤140737488355328 then (Ao.l85 K k t3 b1 a1 x1981 x1983 (x2088++[b1.getD x2089.toNat 0]) (w64 (x2089+1))) else none) else none)) else none) else (if (x1981.length+1) * 24≤140737488355328 then (Ao.l82 K k t3 b1 a1 (x1981++[x2088]) (w64 (x1983+6))) else none)
end
def Ao.f (K:Nat) (a1:List (List Ab)):Option (List (List Int)):=(Cs.f a1).bind fun t3=>(if 0≤w64 (6 * t3) then (if (w64 (6 * t3)).toNat * 8≤281474976710656 then (if (w64 (6 * t3)).toNat * 1≤281474976710656 then (Ao.l1 K K a1 t3 (List.replicate (w64 (6 * t3)).toNat (0:Int)) (List.replicate (w64 (6 * t3)).toNat false) 0) else none) else none) else none)
abbrev Ao.post (w0:World) (L:List Cy) (r1:List (List Int)) (en:Ending) (w:World):Prop:=∃ (A_r0:Option Addr) (c_r1:Nat) (y_r2:Nat→(Ty.slice 2 (Ar .i64)).Lay),en=.returned (.slice A_r0 r1.length c_r1)∧St w0 w (Own (Ty.slice 2 (Ar .i64)) 56 A_r0 c_r1 y_r2 r1::L)
def Eb.l1 (K:Nat):Nat→(List Int)→Int→Int→Option (Bool)
  | 0,_,_,_=>none
  | k+1,list,n_,i_4=>if i_4<(list.length:Int) then (if 0≤i_4∧i_4<(list.length:Int) then (if list.getD i_4.toNat 0=n_ then (some true) else (Eb.l1 K k list n_ (w64 (i_4+1)))) else none) else (some false)
def Eb.f (K:Nat) (list:List Int) (n_:Int):Option (Bool):=Eb.l1 K K list n_ 0
abbrev Eb.post:=Kk
mutual
def Dj.l1 (K:Nat):Nat→Int→(List (List Int))→Int→Option (Int × Int)
  | 0,_,_,_=>none
  | k+1,b1,t4,a1=>if a1<(t4.length:Int) then (Dj.l4 K k b1 t4 a1 0) else (some ((-1),(-1)))
def Dj.l4 (K:Nat):Nat→Int→(List (List Int))→Int→Int→Option (Int × Int)
  | 0,_,_,_,_=>none
  | k+1,c1,t4,a1,b1=>if b1<6 then (if 0≤a1∧a1<(t4.length:Int) then (if 0≤b1∧b1<((t4.getD a1.toNat []).length:Int) then (if (t4.getD a1.toNat []).getD b1.toNat 0=c1 then (some (a1,b1)) else (Dj.l4 K k c1 t4 a1 (w64 (b1+1)))) else none) else none) else (Dj.l1 K k c1 t4 (w64 (a1+1)))
end
def Dj.f (K:Nat) (a1:List (List Ab)) (b1:Int):Option (Int × Int):=D7 (Bf.f K a1) (fun t3 t4 t5 t6=>(Dj.l1 K K b1 t4 0))
abbrev Dj.post (w0:World) (L:List Cy) (r1 r2:Int) (en:Ending) (w:World):Prop:=en=.returned (.tuple #[.int .i64 r1,.int .i64 r2])∧St w0 w (L)
mutual
def Ck.l1 (K:Nat):Nat→(List Int)→(List Int)→Int→Option (Int × Bool)
  | 0,_,_,_=>none
  | k+1,b1,to,a1=>if a1<(b1.length:Int) then (if 0≤a1∧a1<(b1.length:Int) then (if b1.getD a1.toNat 0<0 then (some (0,false)) else (if 3<b1.getD a1.toNat 0 then (some (0,false)) else (if 0≤a1∧a1<(to.length:Int) then (if to.getD a1.toNat 0<0 then (some (0,false)) else (if 3<to.getD a1.toNat 0 then (some (0,false)) else (Ck.l1 K k b1 to (w64 (a1+1))))) else none))) else none) else (Ck.l9 K k b1 to 0)
def Ck.l9 (K:Nat):Nat→(List Int)→(List Int)→Int→Option (Int × Bool)
  | 0,_,_,_=>none
  | k+1,b1,to,a1=>if a1<24 then (Ck.l12 K k b1 to a1 true 0) else (some (0,false))
def Ck.l12 (K:Nat):Nat→(List Int)→(List Int)→Int→Bool→Int→Option (Int × Bool)
  | 0,_,_,_,_,_=>none
  | k+1,b1,to,c1,d1,a1=>if a1<(b1.length:Int) then (if d1=true then (if 0≤a1∧a1<(b1.length:Int) then ((Bq.f K c1 (b1.getD a1.toNat 0)).bind fun t201=>(if 0≤a1∧a1<(to.length:Int) then (Ck.l12 K k b1 to c1 (decide (t201=to.getD a1.toNat 0)) (w64 (a1+1))) else none)) else none) else (Ck.l12 K k b1 to c1 false (w64 (a1+1)))) else (if d1=true then (some (c1,true)) else (Ck.l9 K k b1 to (w64 (c1+1))))
end
def Ck.f (K:Nat) (a1:List Int) (to:List Int):Option (Int × Bool):=if (a1.length:Int)=(to.length:Int) then (Ck.l1 K K a1 to 0) else (some (0,false))
abbrev Ck.post (w0:World) (L:List Cy) (r1:Int) (r2:Bool) (en:Ending) (w:World):Prop:=en=.returned (.tuple #[.int .i64 r1,.bool r2])∧St w0 w (L)
mutual
def De.l1 (K:Nat):Nat→(List (List Ab))→Int→(List (List Int))→Int→Option (Int × Int)
  | 0,_,_,_,_=>none
  | k+1,a1,b1,t6,c1=>(Cs.f a1).bind fun t305=>(if c1<t305 then (De.l4 K k a1 b1 t6 c1 0) else (Ew (Dj.f K a1 b1) (fun t424 t425=>(Ew (Gs.f t425) (fun t429 t430=>(Ew (Ck.f K ([0,1]:List Int) ([t429,t430]:List Int)) (fun t438 t439=>(some (t424,t438)))))))))
def De.l4 (K:Nat):Nat→(List (List Ab))→Int→(List (List Int))→Int→Int→Option (Int × Int)
  | 0,_,_,_,_,_=>none
  | k+1,c1,d1,t6,a1,b1=>if b1<24 then ((Bq.f K b1 0).bind fun t387=>((Bq.f K b1 1).bind fun t391=>((E8.f K t387 t391).bind fun t395=>(if 0≤a1∧a1<(t6.length:Int) then (if 0≤t395∧t395<((t6.getD a1.toNat []).length:Int) then (if (t6.getD a1.toNat []).getD t395.toNat 0=d1 then (if 0≤a1∧a1<(c1.length:Int) then ((Bq.f K b1 3).bind fun t415=>(if 0≤t415∧t415<((c1.getD a1.toNat []).length:Int) then (bnd ((c1.getD a1.toNat []).getD t415.toNat Bj) (fun e420=>if e420.Tet<0 then (some (a1,b1)) else (De.l4 K k c1 d1 t6 a1 (w64 (b1+1))))) else none)) else none) else (De.l4 K k c1 d1 t6 a1 (w64 (b1+1)))) else none) else none)))) else (De.l1 K k c1 d1 t6 (w64 (a1+1)))
end
def De.f (K:Nat) (a1:List (List Ab)) (b1:Int):Option (Int × Int):=D7 (Bf.f K a1) (fun t5 t6 t7 t8=>(De.l1 K K a1 b1 t6 0))
abbrev De.post (w0:World) (L:List Cy) (r1 r2:Int) (en:Ending) (w:World):Prop:=en=.returned (.agg [.int .i64 r1,.int .i64 r2].toArray)∧St w0 w (L)
def Ed.l1 (K:Nat):Nat→Int→Ab→(List Int)→Int→Option (Int × Int × Bool)
  | 0,_,_,_,_=>none
  | k+1,c1,e13,b1,a1=>if a1<4 then (if 0≤a1∧a1<(([0,1,3,2]:List Int).length:Int) then ((Bq.f K c1 (([0,1,3,2]:List Int).getD a1.toNat 0)).bind fun t69=>((Bq.f K e13.Perm t69).bind fun t73=>(if (b1.length+1) * 8≤140737488355328 then (Ed.l1 K k c1 e13 (b1++[t73]) (w64 (a1+1))) else none))) else none) else ((C8.f K b1).bind fun t83=>(some (e13.Tet,t83,true)))
def Ed.f (K:Nat) (b1:List (List Ab)) (a1:Int) (c1:Int):Option (Int × Int × Bool):=if 0≤a1∧a1<(b1.length:Int) then ((Bq.f K c1 2).bind fun t8=>(if 0≤t8∧t8<((b1.getD a1.toNat []).length:Int) then (bnd ((b1.getD a1.toNat []).getD t8.toNat Bj) (fun e13=>if e13.Tet<0 then (some (0,0,false)) else (Ed.l1 K K c1 e13 ([]:List Int) 0))) else none)) else none
abbrev Ed.post (w0:World) (L:List Cy) (r1 r2:Int) (r3:Bool) (en:Ending) (w:World):Prop:=en=.returned (.tuple #[.agg [.int .i64 r1,.int .i64 r2].toArray,.bool r3])∧St w0 w (L)
def F9.l1 (K:Nat):Nat→(List (List Ab))→Int→Int→(List Ab)→Option (List Ab)
  | 0,_,_,_,_=>none
  | k+1,b1,t3,t4,a1=>if 0≤w64 ((a1.length:Int) - 1)∧w64 ((a1.length:Int) - 1)<(a1.length:Int) then (bnd (a1.getD ((w64 ((a1.length:Int) - 1)).toNat) Bj) (fun e62=>Jk (Ed.f K b1 e62.Tet e62.Perm) (fun t64 t65 t66=>(if t66=true then (if (t64,t65)=(t3,t4) then (some a1) else (if (a1.length+1) * 16≤140737488355328 then (F9.l1 K k b1 t3 t4 (a1++[(⟨t64,t65⟩:Ab)])) else none)) else (some a1))))) else none
def F9.f (K:Nat) (a1:List (List Ab)) (b1:Int):Option (List Ab):=Ew (De.f K a1 b1) (fun t3 t4=>(F9.l1 K K a1 t3 t4 ([(⟨t3,t4⟩:Ab)]:List Ab)))
abbrev F9.post (w0:World) (L:List Cy) (r1:List Ab) (en:Ending) (w:World):Prop:=∃ (A_r0:Option Addr) (c_r1:Nat),en=.returned (.slice A_r0 r1.length c_r1)∧St w0 w (Own Ad 167 A_r0 c_r1 (fun _=>()) r1::L)
mutual
def Bv.l1 (K:Nat):Nat→(List (List Ab))→Int→Int→(List (List Int))→Int→Int→Option ((List Int) × (List (List Ab)) × (List Av) × Bool)
  | 0,_,_,_,_,_,_=>none
  | k+1,a1,o,A,t6,x43,x44=>if x44<(t6.length:Int) then (Bv.l5 K k a1 o A t6 x44 x43 0) else (if x43=3 then (Jk (Bb.f K a1) (fun t359 t360 t361=>((Ao.f K a1).bind fun t385=>(if 0≤o∧o<(t385.length:Int) then (if 0≤A∧A<((t385.getD o.toNat []).length:Int) then (if (t385.getD o.toNat []).getD A.toNat 0=0 then (some (([]:List Int),([]:List (List Ab)),([]:List Av),false)) else ((Eb.f K t360 ((t6.getD o.toNat []).getD A.toNat 0)).bind fun t396=>(if t396=true then (some (([]:List Int),([]:List (List Ab)),([]:List Av),false)) else ((F9.f K a1 ((t6.getD o.toNat []).getD A.toNat 0)).bind fun t402=>(if (t402.length:Int)=3 then (if 0≤(0:Int)∧(0:Int)<(t402.length:Int) then (bnd (t402.getD 0 Bj) (fun e423=>if 0≤(1:Int)∧(1:Int)<(t402.length:Int) then (bnd (t402.getD 1 Bj) (fun e427=>if e423.Tet=e427.Tet then (some (([]:List Int),([]:List (List Ab)),([]:List Av),false)) else (if 0≤(2:Int)∧(2:Int)<(t402.length:Int) then (bnd (t402.getD 2 Bj) (fun e432=>if e427.Tet=e432.Tet then (some (([]:List Int),([]:List (List Ab)),([]:List Av),false)) else (if e423.Tet=e432.Tet then (some (([]:List Int),([]:List (List Ab)),([]:List Av),false)) else ((Gd.f).bind fun t438=>((Gd.f).bind fun t444=>(if 0≤(0:Int)∧(0:Int)<(([t438,t444]:List (List Ab)).length:Int) then (if 0≤(0:Int)∧(0:Int)<((([t438,t444]:List (List Ab)).getD 0 []).length:Int) then (if 0≤(1:Int)∧(1:Int)<((([t438,t444]:List (List Ab)).set 0 ((([t438,t444]:List (List Ab)).getD 0 []).set 0 (⟨1,0⟩:Ab))).length:Int) then (if 0≤(0:Int)∧(0:Int)<(((([t438,t444]:List (List Ab)).set 0 ((([t438,t444]:List (List Ab)).getD 0 []).set 0 (⟨1,0⟩:Ab))).getD 1 []).length:Int) then (Bv.l6 K k t402 t438 t444 ([]:List Int) ([]:List Av) 0) else none) else none) else none) else none)))))) else none))) else none)) else none) else (some (([]:List Int),([]:List (List Ab)),([]:List Av),false))))))) else none) else none)))) else (some (([]:List Int),([]:List (List Ab)),([]:List Av),false)))
def Bv.l5 (K:Nat):Nat→(List (List Ab))→Int→Int→(List (List Int))→Int→Int→Int→Option ((List Int) × (List (List Ab)) × (List Av) × Bool)
  | 0,_,_,_,_,_,_,_=>none
  | k+1,a1,o,A,t6,x44,x348,x349=>if x349<6 then (if 0≤x44∧x44<(t6.length:Int) then (if 0≤x349∧x349<((t6.getD x44.toNat []).length:Int) then (if (t6.getD x44.toNat []).getD x349.toNat 0=(t6.getD o.toNat []).getD A.toNat 0 then (Bv.l5 K k a1 o A t6 x44 (w64 (x348+1)) (w64 (x349+1))) else (Bv.l5 K k a1 o A t6 x44 x348 (w64 (x349+1)))) else none) else none) else (Bv.l1 K k a1 o A t6 x348 (w64 (x44+1)))
def Bv.l6 (K:Nat):Nat→(List Ab)→(List Ab)→(List Ab)→(List Int)→(List Av)→Int→Option ((List Int) × (List (List Ab)) × (List Av) × Bool)
  | 0,_,_,_,_,_,_=>none
  | k+1,t402,t438,t444,x518,x521,x522=>if x522<3 then (if 0≤x522∧x522<(t402.length:Int) then (bnd (t402.getD x522.toNat Bj) (fun e584=>if (x518.length+1) * 8≤140737488355328 then ((Bq.f K e584.Perm 0).bind fun t596=>((Bq.f K e584.Perm 1).bind fun t600=>((Bq.f K e584.Perm 2).bind fun t604=>((Bq.f K e584.Perm 3).bind fun t608=>((Fe.f K ([t596,t604,t608,t600]:List Int) ([0,w64 (1+x522),w64 (1+((w64 (x522+1)).tmod 3)),w64 (1+((w64 (x522+2)).tmod 3))]:List Int)).bind fun t616=>(if (x521.length+1) * 32≤140737488355328 then ((Fe.f K ([t600,t604,t608,t596]:List Int) ([0,w64 (1+x522),w64 (1+((w64 (x522+1)).tmod 3)),w64 (1+((w64 (x522+2)).tmod 3))]:List Int)).bind fun t629=>(if ((x521++[(⟨e584.Tet,t600,0,t616⟩:Av)]).length+1) * 32≤140737488355328 then (Bv.l6 K k t402 t438 t444 (x518++[e584.Tet]) ((x521++[(⟨e584.Tet,t600,0,t616⟩:Av)])++[(⟨e584.Tet,t596,1,t629⟩:Av)]) (w64 (x522+1))) else none)) else none)))))) else none)) else none) else (some (x518,((([t438,t444]:List (List Ab)).set 0 ((([t438,t444]:List (List Ab)).getD 0 []).set 0 (⟨1,0⟩:Ab))).set 1 (((([t438,t444]:List (List Ab)).set 0 ((([t438,t444]:List (List Ab)).getD 0 []).set 0 (⟨1,0⟩:Ab))).getD 1 []).set 0 (⟨0,0⟩:Ab))),x521,true))
end
def Bv.f (K:Nat) (a1:List (List Ab)) (o:Int) (A:Int):Option ((List Int) × (List (List Ab)) × (List Av) × Bool):=D7 (Bf.f K a1) (fun t5 t6 t7 t8=>(if 0≤o∧o<(t6.length:Int) then (if 0≤A∧A<((t6.getD o.toNat []).length:Int) then (Bv.l1 K K a1 o A t6 0 0) else none) else none))
abbrev Bv.post (w0:World) (L:List Cy) (r1:List Int) (r2:List (List Ab)) (r3:List Av) (r4:Bool) (en:Ending) (w:World):Prop:=∃ (A_r0:Option Addr) (c_r1:Nat) (A_r2:Option Addr) (c_r3:Nat) (y_r4:Nat→(Ty.slice 107 Ad).Lay) (A_r5:Option Addr) (c_r6:Nat),en=.returned (.tuple #[.agg [.slice A_r0 r1.length c_r1,.slice A_r2 r2.length c_r3,.slice A_r5 r3.length c_r6].toArray,.bool r4])∧St w0 w (Own (Ar .i64) 2 A_r0 c_r1 (fun _=>()) r1::Own (Ty.slice 107 Ad) 77 A_r2 c_r3 y_r4 r2::Own Ci 122 A_r5 c_r6 (fun _=>()) r3::L)
def Gg.f (K:Nat) (i:Int) (j_:Int):Option (Int):=if 0≤i∧i<(([0,1,2,3]:List Int).length:Int) then (if 0≤j_∧j_<((([0,1,2,3]:List Int).set i.toNat j_).length:Int) then ((C8.f K ((([0,1,2,3]:List Int).set i.toNat j_).set j_.toNat i)).bind fun t7=>(some t7)) else none) else none
abbrev Gg.post:=Iy
mutual
def Dz.l1 (K:Nat):Nat→Int→(List (List Ab))→(List Av)→Int→Option ((List Int) × (List (List Ab)) × (List Av))
  | 0,_,_,_,_=>none
  | k+1,a_,a1,b1,c1=>if c1<4 then ((Gd.f).bind fun t157=>(Dz.l4 K k a_ a1 b1 c1 t157 0)) else (some (([a_]:List Int),a1,b1))
def Dz.l4 (K:Nat):Nat→Int→(List (List Ab))→(List Av)→Int→(List Ab)→Int→Option ((List Int) × (List (List Ab)) × (List Av))
  | 0,_,_,_,_,_,_=>none
  | k+1,a_,c1,e1,b1,d1,a1=>if a1<4 then (if a1=b1 then (Dz.l4 K k a_ c1 e1 b1 d1 (w64 (a1+1))) else ((Gg.f K b1 a1).bind fun t197=>(if 0≤a1∧a1<(d1.length:Int) then (Dz.l4 K k a_ c1 e1 b1 (d1.set a1.toNat (⟨a1,t197⟩:Ab)) (w64 (a1+1))) else none))) else (if (c1.length+1) * 24≤140737488355328 then (if (e1.length+1) * 32≤140737488355328 then (Dz.l1 K k a_ (c1++[d1]) (e1++[(⟨a_,b1,b1,0⟩:Av)]) (w64 (b1+1))) else none) else none)
end
def Dz.f (K:Nat) (a_:Int):Option ((List Int) × (List (List Ab)) × (List Av)):=Dz.l1 K K a_ ([]:List (List Ab)) ([]:List Av) 0
abbrev Dz.post (w0:World) (L:List Cy) (r1:List Int) (r2:List (List Ab)) (r3:List Av) (en:Ending) (w:World):Prop:=∃ (A_r0:Option Addr) (c_r1:Nat) (A_r2:Option Addr) (c_r3:Nat) (y_r4:Nat→(Ty.slice 107 Ad).Lay) (A_r5:Option Addr) (c_r6:Nat),en=.returned (.agg [.slice A_r0 r1.length c_r1,.slice A_r2 r2.length c_r3,.slice A_r5 r3.length c_r6].toArray)∧St w0 w (Own (Ar .i64) 2 A_r0 c_r1 (fun _=>()) r1::Own (Ty.slice 107 Ad) 77 A_r2 c_r3 y_r4 r2::Own Ci 122 A_r5 c_r6 (fun _=>()) r3::L)
def G5.f (K:Nat) (p:Int) (q:Int):Option (Int):=(Ec.f K p).bind fun t1=>((Ec.f K q).bind fun t7=>(if 0≤(0:Int)∧(0:Int)<(t1.length:Int) then (if 0≤t1.getD 0 0∧t1.getD 0 0<(t7.length:Int) then (if 0≤(1:Int)∧(1:Int)<(t1.length:Int) then (if 0≤t1.getD 1 0∧t1.getD 1 0<(t7.length:Int) then (if 0≤(2:Int)∧(2:Int)<(t1.length:Int) then (if 0≤t1.getD 2 0∧t1.getD 2 0<(t7.length:Int) then (if 0≤(3:Int)∧(3:Int)<(t1.length:Int) then (if 0≤t1.getD 3 0∧t1.getD 3 0<(t7.length:Int) then ((C8.f K ([t7.getD ((t1.getD 0 0).toNat) 0,t7.getD ((t1.getD 1 0).toNat) 0,t7.getD ((t1.getD 2 0).toNat) 0,t7.getD ((t1.getD 3 0).toNat) 0]:List Int)).bind fun t31=>(some t31)) else none) else none) else none) else none) else none) else none) else none) else none))
abbrev G5.post:=Iy
mutual
def Aq.l1 (K:Nat):Nat→(List (List Ab))→Int→Int→(List Int)→(List Int)→Int→Option ((List Int) × (List (List Ab)) × (List Av) × Bool)
  | 0,_,_,_,_,_,_=>none
  | k+1,a1,o,A,x37,x38,x39=>if x39<4 then (if x39=A then (Aq.l1 K k a1 o A x37 x38 (w64 (x39+1))) else (if 0≤o∧o<(a1.length:Int) then (if 0≤x39∧x39<((a1.getD o.toNat []).length:Int) then (bnd ((a1.getD o.toNat []).getD x39.toNat Bj) (fun e811=>if e811.Tet<0 then (some (([]:List Int),([]:List (List Ab)),([]:List Av),false)) else (if 0≤x39∧x39<(x37.length:Int) then ((Dx.f K e811.Perm).bind fun t820=>((Gg.f K A x39).bind fun t824=>((G5.f K t820 t824).bind fun t828=>(if 0≤x39∧x39<(x38.length:Int) then (Aq.l1 K k a1 o A (x37.set x39.toNat e811.Tet) (x38.set x39.toNat t828) (w64 (x39+1))) else none)))) else none))) else none) else none)) else (Aq.l8 K k a1 x37 x38 0)
def Aq.l8 (K:Nat):Nat→(List (List Ab))→(List Int)→(List Int)→Int→Option ((List Int) × (List (List Ab)) × (List Av) × Bool)
  | 0,_,_,_,_=>none
  | k+1,a1,x37,x38,x979=>if x979<4 then (Aq.l12 K k a1 x37 x38 x979 0) else ((Gd.f).bind fun t1494=>(Aq.l13 K k x37 x38 t1494 ([]:List Av) 0))
def Aq.l12 (K:Nat):Nat→(List (List Ab))→(List Int)→(List Int)→Int→Int→Option ((List Int) × (List (List Ab)) × (List Av) × Bool)
  | 0,_,_,_,_,_=>none
  | k+1,a1,x37,x38,x979,x1349=>if x1349<4 then (if x979=x1349 then (Aq.l12 K k a1 x37 x38 x979 (w64 (x1349+1))) else (if 0≤x979∧x979<(x37.length:Int) then (if 0≤x37.getD x979.toNat 0∧x37.getD x979.toNat 0<(a1.length:Int) then (if 0≤x979∧x979<(x38.length:Int) then ((Dx.f K (x38.getD x979.toNat 0)).bind fun t1429=>((Bq.f K t1429 x1349).bind fun t1433=>(if 0≤t1433∧t1433<((a1.getD ((x37.getD x979.toNat 0).toNat) []).length:Int) then (bnd ((a1.getD ((x37.getD x979.toNat 0).toNat) []).getD t1433.toNat Bj) (fun e1438=>if 0≤x1349∧x1349<(x37.length:Int) then (if x37.getD x979.toNat 0=x37.getD x1349.toNat 0 then (some (([]:List Int),([]:List (List Ab)),([]:List Av),false)) else (if e1438.Tet=x37.getD x1349.toNat 0 then ((Dx.f K (x38.getD x979.toNat 0)).bind fun t1474=>((G5.f K t1474 e1438.Perm).bind fun t1478=>(if 0≤x1349∧x1349<(x38.length:Int) then ((G5.f K t1478 (x38.getD x1349.toNat 0)).bind fun t1483=>((Gg.f K x979 x1349).bind fun t1487=>(if t1483=t1487 then (Aq.l12 K k a1 x37 x38 x979 (w64 (x1349+1))) else (some (([]:List Int),([]:List (List Ab)),([]:List Av),false))))) else none))) else (some (([]:List Int),([]:List (List Ab)),([]:List Av),false)))) else none)) else none))) else none) else none) else none)) else (Aq.l8 K k a1 x37 x38 (w64 (x979+1)))
def Aq.l13 (K:Nat):Nat→(List Int)→(List Int)→(List Ab)→(List Av)→Int→Option ((List Int) × (List (List Ab)) × (List Av) × Bool)
  | 0,_,_,_,_,_=>none
  | k+1,x37,x38,t1494,x1528,x1529=>if x1529<4 then (if 0≤x1529∧x1529<(x37.length:Int) then (if 0≤x1529∧x1529<(x38.length:Int) then ((Dx.f K (x38.getD x1529.toNat 0)).bind fun t1557=>((Bq.f K t1557 x1529).bind fun t1561=>(if (x1528.length+1) * 32≤140737488355328 then (Aq.l13 K k x37 x38 t1494 (x1528++[(⟨x37.getD x1529.toNat 0,t1561,0,x38.getD x1529.toNat 0⟩:Av)]) (w64 (x1529+1))) else none))) else none) else none) else (some (x37,([t1494]:List (List Ab)),x1528,true))
end
def Aq.f (K:Nat) (a1:List (List Ab)) (o:Int) (A:Int):Option ((List Int) × (List (List Ab)) × (List Av) × Bool):=if 0≤A∧A<(([0,0,0,0]:List Int).length:Int) then (Aq.l1 K K a1 o A (([0,0,0,0]:List Int).set A.toNat o) ([0,0,0,0]:List Int) 0) else none
abbrev Aq.post (w0:World) (L:List Cy) (r1:List Int) (r2:List (List Ab)) (r3:List Av) (r4:Bool) (en:Ending) (w:World):Prop:=∃ (A_r0:Option Addr) (c_r1:Nat) (A_r2:Option Addr) (c_r3:Nat) (y_r4:Nat→(Ty.slice 107 Ad).Lay) (A_r5:Option Addr) (c_r6:Nat),en=.returned (.tuple #[.agg [.slice A_r0 r1.length c_r1,.slice A_r2 r2.length c_r3,.slice A_r5 r3.length c_r6].toArray,.bool r4])∧St w0 w (Own (Ar .i64) 2 A_r0 c_r1 (fun _=>()) r1::Own (Ty.slice 107 Ad) 77 A_r2 c_r3 y_r4 r2::Own Ci 122 A_r5 c_r6 (fun _=>()) r3::L)
def Ig.f (K:Nat) (b1:List (List Ab)) (c1:Int) (a1:Int) (d1:Int):Option ((List Int) × (List (List Ab)) × (List Av) × Bool):=if c1=1 then (D7 (Dl.f K b1 a1 d1) (fun t8 t9 t10 t11=>(some (t8,t9,t10,t11)))) else (if c1=2 then (D7 (Bv.f K b1 a1 d1) (fun t24 t25 t26 t27=>(some (t24,t25,t26,t27)))) else (if c1=3 then (Jk (Dz.f K a1) (fun t40 t41 t42=>(some (t40,t41,t42,true)))) else (D7 (Aq.f K b1 a1 d1) (fun t54 t55 t56 t57=>(some (t54,t55,t56,t57))))))
abbrev Ig.post (w0:World) (L:List Cy) (r1:List Int) (r2:List (List Ab)) (r3:List Av) (r4:Bool) (en:Ending) (w:World):Prop:=∃ (A_r0:Option Addr) (c_r1:Nat) (A_r2:Option Addr) (c_r3:Nat) (y_r4:Nat→(Ty.slice 107 Ad).Lay) (A_r5:Option Addr) (c_r6:Nat),en=.returned (.tuple #[.agg [.slice A_r0 r1.length c_r1,.slice A_r2 r2.length c_r3,.slice A_r5 r3.length c_r6].toArray,.bool r4])∧St w0 w (Own (Ar .i64) 2 A_r0 c_r1 (fun _=>()) r1::Own (Ty.slice 107 Ad) 77 A_r2 c_r3 y_r4 r2::Own Ci 122 A_r5 c_r6 (fun _=>()) r3::L)
def H6.f (K:Nat) (a1:List (List Ab)) (b1:Int) (c1:Int) (d1:Int):Option ((List Int) × (List (List Ab)) × (List Av) × Int):=(Aj.f K a1).bind fun t7=>(if t7=true then ((E9.f K b1).bind fun t34=>(if t34<0 then (some (([]:List Int),([]:List (List Ab)),([]:List Av),2)) else ((Cs.f a1).bind fun t40=>((Ia.f c1 0 (w64 (t40 - 1))).bind fun t44=>(if t44=true then ((E9.f K b1).bind fun t49=>((Ia.f d1 0 t49).bind fun t53=>(if t53=true then (D7 (Ig.f K a1 b1 c1 d1) (fun t58 t59 t60 t61=>(if t61=true then (if 8<w64 ((w64 ((a1.length:Int) - (t58.length:Int)))+(t59.length:Int)) then (some (([]:List Int),([]:List (List Ab)),([]:List Av),3)) else (some (t58,t59,t60,0))) else (some (([]:List Int),([]:List (List Ab)),([]:List Av),5))))) else (some (([]:List Int),([]:List (List Ab)),([]:List Av),2))))) else (some (([]:List Int),([]:List (List Ab)),([]:List Av),2))))))) else (some (([]:List Int),([]:List (List Ab)),([]:List Av),1)))
abbrev H6.post (w0:World) (L:List Cy) (r1:List Int) (r2:List (List Ab)) (r3:List Av) (r4:Int) (en:Ending) (w:World):Prop:=∃ (A_r0:Option Addr) (c_r1:Nat) (A_r2:Option Addr) (c_r3:Nat) (y_r4:Nat→(Ty.slice 107 Ad).Lay) (A_r5:Option Addr) (c_r6:Nat),en=.returned (.tuple #[.agg [.slice A_r0 r1.length c_r1,.slice A_r2 r2.length c_r3,.slice A_r5 r3.length c_r6].toArray,.int .i64 r4])∧St w0 w (Own (Ar .i64) 2 A_r0 c_r1 (fun _=>()) r1::Own (Ty.slice 107 Ad) 77 A_r2 c_r3 y_r4 r2::Own Ci 122 A_r5 c_r6 (fun _=>()) r3::L)
def Ga.l1 (K:Nat):Nat→(List Av)→Int→Int→Int→Option (Int)
  | 0,_,_,_,_=>none
  | k+1,list,tet,Cg,a1=>if a1<(list.length:Int) then (if 0≤a1∧a1<(list.length:Int) then (bnd (list.getD a1.toNat Mt) (fun e28=>if e28.tet=tet then (if e28.Cg=Cg then (some a1) else (Ga.l1 K k list tet Cg (w64 (a1+1)))) else (Ga.l1 K k list tet Cg (w64 (a1+1))))) else none) else (some (-1))
def Ga.f (K:Nat) (list:List Av) (tet:Int) (Cg:Int):Option (Int):=Ga.l1 K K list tet Cg 0
abbrev Ga.post:=Iy
def Iu.f (K:Nat) (a1:List (List Ab)) (a_:Int) (f:Int) (b_:Int) (perm:Int):Option (List (List Ab)):=if 0≤a_∧a_<(a1.length:Int) then (if 0≤f∧f<((a1.getD a_.toNat []).length:Int) then (if 0≤b_∧b_<((a1.set a_.toNat ((a1.getD a_.toNat []).set f.toNat (⟨b_,perm⟩:Ab))).length:Int) then ((Bq.f K perm f).bind fun t8=>((Dx.f K perm).bind fun t12=>(if 0≤t8∧t8<(((a1.set a_.toNat ((a1.getD a_.toNat []).set f.toNat (⟨b_,perm⟩:Ab))).getD b_.toNat []).length:Int) then (some ((a1.set a_.toNat ((a1.getD a_.toNat []).set f.toNat (⟨b_,perm⟩:Ab))).set b_.toNat (((a1.set a_.toNat ((a1.getD a_.toNat []).set f.toNat (⟨b_,perm⟩:Ab))).getD b_.toNat []).set t8.toNat (⟨a_,t12⟩:Ab)))) else none))) else none) else none) else none
abbrev Iu.post (w0:World) (L:List Cy) (A_a:Option Addr) (c_a:Nat) (y_a:Nat→(Ty.slice 107 Ad).Lay) (r1:List (List Ab)) (en:Ending) (w:World):Prop:=en=.returned (.tuple #[])∧St w0 w (Own (Ty.slice 107 Ad) 77 A_a c_a y_a r1::L)
mutual
def Au.l1 (K:Nat):Nat→(List (List Ab))→(List Int)→(List (List Ab))→(List Av)→(List Int)→Int→Int→Option (List (List Ab))
  | 0,_,_,_,_,_,_,_=>none
  | k+1,c1,d1,f1,e1,b1,a1,x2598=>(Cs.f c1).bind fun t5184=>(if x2598<t5184 then (if (b1.length+1) * 8≤140737488355328 then ((Eb.f K d1 x2598).bind fun t5195=>(if t5195=true then (Au.l1 K k c1 d1 f1 e1 (b1++[a1]) a1 (w64 (x2598+1))) else (Au.l1 K k c1 d1 f1 e1 (b1++[a1]) (w64 (a1+1)) (w64 (x2598+1))))) else none) else (Au.l52 K k c1 d1 f1 e1 b1 a1 ([]:List (List Ab)) 0))
def Au.l52 (K:Nat):Nat→(List (List Ab))→(List Int)→(List (List Ab))→(List Av)→(List Int)→Int→(List (List Ab))→Int→Option (List (List Ab))
  | 0,_,_,_,_,_,_,_,_=>none
  | k+1,a1,b1,f1,c1,d1,e1,x6058,x6060=>(Cs.f a1).bind fun t6915=>(if x6060<t6915 then ((Eb.f K b1 x6060).bind fun t6920=>(if t6920=true then (Au.l52 K k a1 b1 f1 c1 d1 e1 x6058 (w64 (x6060+1))) else ((Gd.f).bind fun t6925=>(Au.l69 K k a1 b1 f1 c1 d1 e1 x6058 x6060 t6925 0)))) else (Au.l70 K k a1 b1 f1 c1 d1 e1 x6058 0))
def Au.l69 (K:Nat):Nat→(List (List Ab))→(List Int)→(List (List Ab))→(List Av)→(List Int)→Int→(List (List Ab))→Int→(List Ab)→Int→Option (List (List Ab))
  | 0,_,_,_,_,_,_,_,_,_,_=>none
  | k+1,a1,c1,f1,d1,b1,e1,x6058,x6060,x6954,x6955=>if x6955<4 then (if 0≤x6060∧x6060<(a1.length:Int) then (if 0≤x6955∧x6955<((a1.getD x6060.toNat []).length:Int) then (bnd ((a1.getD x6060.toNat []).getD x6955.toNat Bj) (fun e6991=>if 0≤e6991.Tet then ((Eb.f K c1 e6991.Tet).bind fun t7002=>(if t7002=true then (Au.l69 K k a1 c1 f1 d1 b1 e1 x6058 x6060 x6954 (w64 (x6955+1))) else (if 0≤e6991.Tet∧e6991.Tet<(b1.length:Int) then (if 0≤x6955∧x6955<(x6954.length:Int) then (Au.l69 K k a1 c1 f1 d1 b1 e1 x6058 x6060 (x6954.set x6955.toNat (⟨b1.getD e6991.Tet.toNat 0,e6991.Perm⟩:Ab)) (w64 (x6955+1))) else none) else none))) else (Au.l69 K k a1 c1 f1 d1 b1 e1 x6058 x6060 x6954 (w64 (x6955+1))))) else none) else none) else (if (x6058.length+1) * 24≤140737488355328 then (Au.l52 K k a1 c1 f1 d1 b1 e1 (x6058++[x6954]) (w64 (x6060+1))) else none)
def Au.l70 (K:Nat):Nat→(List (List Ab))→(List Int)→(List (List Ab))→(List Av)→(List Int)→Int→(List (List Ab))→Int→Option (List (List Ab))
  | 0,_,_,_,_,_,_,_,_=>none
  | k+1,d1,e1,f1,a1,b1,c1,x7270,x7272=>if x7272<(f1.length:Int) then ((Gd.f).bind fun t7522=>(Au.l75 K k d1 e1 f1 a1 b1 c1 x7270 x7272 t7522 0)) else (Au.l76 K k d1 e1 a1 b1 c1 x7270 0)
def Au.l75 (K:Nat):Nat→(List (List Ab))→(List Int)→(List (List Ab))→(List Av)→(List Int)→Int→(List (List Ab))→Int→(List Ab)→Int→Option (List (List Ab))
  | 0,_,_,_,_,_,_,_,_,_,_=>none
  | k+1,e1,f1,a1,c1,d1,b1,x7270,x7272,x7538,x7539=>if x7539<4 then (if 0≤x7272∧x7272<(a1.length:Int) then (if 0≤x7539∧x7539<((a1.getD x7272.toNat []).length:Int) then (bnd ((a1.getD x7272.toNat []).getD x7539.toNat Bj) (fun e7562=>if 0≤e7562.Tet then (if 0≤x7539∧x7539<(x7538.length:Int) then (Au.l75 K k e1 f1 a1 c1 d1 b1 x7270 x7272 (x7538.set x7539.toNat (⟨w64 (b1+e7562.Tet),e7562.Perm⟩:Ab)) (w64 (x7539+1))) else none) else (Au.l75 K k e1 f1 a1 c1 d1 b1 x7270 x7272 x7538 (w64 (x7539+1))))) else none) else none) else (if (x7270.length+1) * 24≤140737488355328 then (Au.l70 K k e1 f1 a1 c1 d1 b1 (x7270++[x7538]) (w64 (x7272+1))) else none)
def Au.l76 (K:Nat):Nat→(List (List Ab))→(List Int)→(List Av)→(List Int)→Int→(List (List Ab))→Int→Option (List (List Ab))
  | 0,_,_,_,_,_,_,_=>none
  | k+1,c1,e1,a1,d1,b1,x7641,x7642=>if x7642<(a1.length:Int) then (if 0≤x7642∧x7642<(a1.length:Int) then (bnd (a1.getD x7642.toNat Mt) (fun e7708=>if 0≤e7708.tet∧e7708.tet<(c1.length:Int) then (if 0≤e7708.Cg∧e7708.Cg<((c1.getD e7708.tet.toNat []).length:Int) then (bnd ((c1.getD e7708.tet.toNat []).getD e7708.Cg.toNat Bj) (fun e7715=>if e7715.Tet<0 then (Au.l76 K k c1 e1 a1 d1 b1 x7641 (w64 (x7642+1))) else ((Bq.f K e7708.perm e7708.Cg).bind fun t7721=>((Dx.f K e7708.perm).bind fun t7725=>((G5.f K t7725 e7715.Perm).bind fun t7729=>((Eb.f K e1 e7715.Tet).bind fun t7733=>(if t7733=true then ((Bq.f K e7715.Perm e7708.Cg).bind fun t7738=>((Ga.f K a1 e7715.Tet t7738).bind fun t7742=>(if 0≤t7742∧t7742<(a1.length:Int) then (bnd (a1.getD t7742.toNat Mt) (fun e7747=>(G5.f K t7729 e7747.perm).bind fun t7752=>((Iu.f K x7641 (w64 (b1+e7708.to)) t7721 (w64 (b1+e7747.to)) t7752).bind fun t7756=>(if t7756.length=x7641.length then (Au.l76 K k c1 e1 a1 d1 b1 t7756 (w64 (x7642+1))) else none)))) else none))) else (if 0≤e7715.Tet∧e7715.Tet<(d1.length:Int) then ((Iu.f K x7641 (w64 (b1+e7708.to)) t7721 (d1.getD e7715.Tet.toNat 0) t7729).bind fun t7763=>(if t7763.length=x7641.length then (Au.l76 K k c1 e1 a1 d1 b1 t7763 (w64 (x7642+1))) else none)) else none)))))))) else none) else none)) else none) else (some x7641)
end
def Au.f (K:Nat) (a1:List (List Ab)) (d1:List Int) (c1:List (List Ab)) (b1:List Av):Option (List (List Ab)):=Au.l1 K K a1 d1 c1 b1 ([]:List Int) 0 0
abbrev Au.post (w0:World) (L:List Cy) (r1:List (List Ab)) (en:Ending) (w:World):Prop:=∃ (A_r0:Option Addr) (c_r1:Nat) (y_r2:Nat→(Ty.slice 107 Ad).Lay),en=.returned (.agg [.slice A_r0 r1.length c_r1].toArray)∧St w0 w (Own (Ty.slice 107 Ad) 77 A_r0 c_r1 y_r2 r1::L)
def I5.f (K:Nat) (a1:List (List Ab)) (c1:Int) (b1:Int) (d1:Int):Option ((List (List Ab)) × Int):=D7 (H6.f K a1 c1 b1 d1) (fun t7 t8 t9 t10=>(if t10=0 then ((Au.f K a1 t7 t8 t9).bind fun t25=>(some (t25,0))) else (some (([]:List (List Ab)),t10))))
abbrev I5.post (w0:World) (L:List Cy) (r1:List (List Ab)) (r2:Int) (en:Ending) (w:World):Prop:=∃ (A_r0:Option Addr) (c_r1:Nat) (y_r2:Nat→(Ty.slice 107 Ad).Lay),en=.returned (.tuple #[.agg [.slice A_r0 r1.length c_r1].toArray,.int .i64 r2])∧St w0 w (Own (Ty.slice 107 Ad) 77 A_r0 c_r1 y_r2 r1::L)
def Fy.f (faces:List Ab):Option (Bool):=some (!(decide ((faces.length:Int)=4)))
abbrev Fy.post:=Kk
def Az.l1 (K:Nat):Nat→(List (List Ab))→Int→Option (Int)
  | 0,_,_=>none
  | k+1,s,x8=>if x8<(s.length:Int) then (if 0≤x8∧x8<(s.length:Int) then ((Fy.f (s.getD x8.toNat [])).bind fun t18=>(if t18=true then (some x8) else (Az.l1 K k s (w64 (x8+1))))) else none) else (some (-1))
def Az.f (K:Nat) (s:List (List Ab)):Option (Int):=Az.l1 K K s 0
abbrev Az.post:=Iy
def Cf.f (K:Nat) (s:List (List Ab)):Option (Bool):=(Az.f K s).bind fun t1=>(some (decide (0≤t1)))
abbrev Cf.post:=Kk
def Bw.f (list:List (List Ab)):Option (Int):=some (list.length:Int)
abbrev Bw.post:=Iy
def Hr.f (x:Int) (low:Int) (high:Int):Option (Bool):=if low≤x then (some (decide (x≤high))) else (some false)
abbrev Hr.post:=Kk
def Dv.f (list:List (List Ab)) (i:Int):Option (Bool):=(Bw.f list).bind fun t1=>((Hr.f i 0 (w64 (t1 - 1))).bind fun t5=>(some t5))
abbrev Dv.post:=Kk
def Je.f (p:Int):Option (Bool):=(Hr.f p 0 23).bind fun t1=>(some t1)
abbrev Je.post:=Kk
def Gp.f (s:List Int) (i:Int) (j_:Int):Option (List Int):=if 0≤i∧i≤j_ then (if j_≤(s.length:Int) then (if i=j_ then (some s) else (if 0≤i∧i≤(s.length:Int) then (if 0≤j_∧j_≤(s.length:Int) then (if i.toNat≤j_.toNat then (if 0≤((((over s i.toNat (s.drop j_.toNat)).take (i.toNat+(s.length - j_.toNat))).drop 0).length:Int)∧((((over s i.toNat (s.drop j_.toNat)).take (i.toNat+(s.length - j_.toNat))).drop 0).length:Int)≤(s.length:Int) then (if 0≤(s.length:Int)∧(s.length:Int)≤((over s i.toNat (s.drop j_.toNat)).length:Int) then (if (i.toNat+(s.length - j_.toNat))≤(over (over s i.toNat (s.drop j_.toNat)) (((((over s i.toNat (s.drop j_.toNat)).take (i.toNat+(s.length - j_.toNat))).drop 0).length:Int).toNat) (List.replicate (((over s i.toNat (s.drop j_.toNat)).take ((s.length:Int).toNat)).drop (((((over s i.toNat (s.drop j_.toNat)).take (i.toNat+(s.length - j_.toNat))).drop 0).length:Int).toNat)).length 0)).length then (some (((over (over s i.toNat (s.drop j_.toNat)) (((((over s i.toNat (s.drop j_.toNat)).take (i.toNat+(s.length - j_.toNat))).drop 0).length:Int).toNat) (List.replicate (((over s i.toNat (s.drop j_.toNat)).take ((s.length:Int).toNat)).drop (((((over s i.toNat (s.drop j_.toNat)).take (i.toNat+(s.length - j_.toNat))).drop 0).length:Int).toNat)).length 0)).take (i.toNat+(s.length - j_.toNat))).drop 0)) else none) else none) else none) else none) else none) else none)) else none) else none
abbrev Gp.post (w0:World) (L:List Cy) (r1:List Int) (en:Ending) (w:World):Prop:=∃ (A_r0:Option Addr) (c_r1:Nat),en=.returned (.slice A_r0 r1.length c_r1)∧St w0 w (Own (Ar .i64) 2 A_r0 c_r1 (fun _=>()) r1::L)
def Ct.l1 (K:Nat):Nat→Int→Int→(List Int)→Int→Int→Int→Int→Option (Int × Int × Int × Int)
  | 0,_,_,_,_,_,_,_=>none
  | k+1,a1,d1,b1,x24,e1,c1,f1=>if x24<4 then (if 0≤x24∧x24<(([6,2,1,1]:List Int).length:Int) then (if ([6,2,1,1]:List Int).getD x24.toNat 0=0 then none else (if 0≤w64 (a1.tdiv (([6,2,1,1]:List Int).getD x24.toNat 0))∧w64 (a1.tdiv (([6,2,1,1]:List Int).getD x24.toNat 0))<(b1.length:Int) then (if 0≤x24∧x24<4 then ((Gp.f b1 (w64 (a1.tdiv (([6,2,1,1]:List Int).getD x24.toNat 0))) (w64 ((w64 (a1.tdiv (([6,2,1,1]:List Int).getD x24.toNat 0)))+1))).bind fun t60=>(Ct.l1 K k (a1.tmod (([6,2,1,1]:List Int).getD x24.toNat 0)) (se 0 x24 (b1.getD ((w64 (a1.tdiv (([6,2,1,1]:List Int).getD x24.toNat 0))).toNat) 0) d1) t60 (w64 (x24+1)) (se 1 x24 (b1.getD ((w64 (a1.tdiv (([6,2,1,1]:List Int).getD x24.toNat 0))).toNat) 0) e1) (se 2 x24 (b1.getD ((w64 (a1.tdiv (([6,2,1,1]:List Int).getD x24.toNat 0))).toNat) 0) c1) (se 3 x24 (b1.getD ((w64 (a1.tdiv (([6,2,1,1]:List Int).getD x24.toNat 0))).toNat) 0) f1))) else none) else none)) else none) else (some (d1,e1,c1,f1))
def Ct.f (K:Nat) (p:Int):Option (Int × Int × Int × Int):=Ct.l1 K K p 0 ([0,1,2,3]:List Int) 0 0 0 0
abbrev Ct.post (w0:World) (L:List Cy) (r1 r2:Int) (r3 r4:Int) (en:Ending) (w:World):Prop:=en=.returned (.agg [.int .i64 r1,.int .i64 r2,.int .i64 r3,.int .i64 r4].toArray)∧St w0 w (L)
def F5.f (K:Nat) (b1:Int) (a1:Int) (Cg:Int):Option (Int):=D7 (Ct.f K a1) (fun t3 t4 t5 t6=>(if 0≤Cg∧Cg<4 then (some (([t3,t4,t5,t6]:List Int).getD Cg.toNat 0)) else none))
abbrev F5.post:=Iy
mutual
def Cu.l1 (K:Nat):Nat→Int→Int→Int→Int→Int→Int→Option (Int)
  | 0,_,_,_,_,_,_=>none
  | k+1,b1,a1,c1,e1,d1,x19=>if x19<4 then (if 0≤x19∧x19<(([6,2,1,1]:List Int).length:Int) then (if 0≤x19∧x19<4 then (if 0≤x19∧x19≤4 then (Cu.l4 K k b1 a1 c1 e1 d1 x19 (([b1,a1,c1,e1]:List Int).getD x19.toNat 0) 0) else none) else none) else none) else (some d1)
def Cu.l4 (K:Nat):Nat→Int→Int→Int→Int→Int→Int→Int→Int→Option (Int)
  | 0,_,_,_,_,_,_,_,_=>none
  | k+1,b1,a1,c1,d1,e1,x19,f1,x43=>if x43<((([b1,a1,c1,d1]:List Int).take x19.toNat).length:Int) then (if 0≤x43∧x43<((([b1,a1,c1,d1]:List Int).take x19.toNat).length:Int) then (if (([b1,a1,c1,d1]:List Int).take x19.toNat).getD x43.toNat 0<(([b1,a1,c1,d1]:List Int).getD x19.toNat 0) then (Cu.l4 K k b1 a1 c1 d1 e1 x19 (w64 (f1 - 1)) (w64 (x43+1))) else (Cu.l4 K k b1 a1 c1 d1 e1 x19 f1 (w64 (x43+1)))) else none) else (Cu.l1 K k b1 a1 c1 d1 (w64 (e1+(w64 (f1 * (([6,2,1,1]:List Int).getD x19.toNat 0))))) (w64 (x19+1)))
end
def Cu.f (K:Nat) (d1:Int) (b1:Int) (a1:Int) (c1:Int):Option (Int):=Cu.l1 K K d1 b1 a1 c1 0 0
abbrev Cu.post:=Iy
def Fa.l1 (K:Nat):Nat→Int→Int→Int→Int→Int→Int→Int→Int→Int→Option (Int)
  | 0,_,_,_,_,_,_,_,_,_=>none
  | k+1,t3,t4,t5,t6,c1,b1,a1,d1,x16=>if x16<4 then (if 0≤x16∧x16<4 then (if 0≤([t3,t4,t5,t6]:List Int).getD x16.toNat 0∧([t3,t4,t5,t6]:List Int).getD x16.toNat 0<4 then (Fa.l1 K k t3 t4 t5 t6 (se 0 (([t3,t4,t5,t6]:List Int).getD x16.toNat 0) x16 c1) (se 1 (([t3,t4,t5,t6]:List Int).getD x16.toNat 0) x16 b1) (se 2 (([t3,t4,t5,t6]:List Int).getD x16.toNat 0) x16 a1) (se 3 (([t3,t4,t5,t6]:List Int).getD x16.toNat 0) x16 d1) (w64 (x16+1))) else none) else none) else ((Cu.f K c1 b1 a1 d1).bind fun t29=>(some t29))
def Fa.f (K:Nat) (p:Int):Option (Int):=D7 (Ct.f K p) (fun t3 t4 t5 t6=>(Fa.l1 K K t3 t4 t5 t6 0 0 0 0 0))
abbrev Fa.post:=Iy
def F7.f (K:Nat) (b1:Int) (a1:Int) (tet:Int):Option (Int × Int):=(Fa.f K a1).bind fun t5=>(some (tet,t5))
abbrev F7.post (w0:World) (L:List Cy) (r1 r2:Int) (en:Ending) (w:World):Prop:=en=.returned (.agg [.int .i64 r1,.int .i64 r2].toArray)∧St w0 w (L)
def Ef.f (K:Nat) (a1:List (List Ab)) (tet:Int) (f:Int):Option (Bool):=if 0≤tet∧tet<(a1.length:Int) then (if 0≤f∧f<((a1.getD tet.toNat []).length:Int) then (bnd ((a1.getD tet.toNat []).getD f.toNat Bj) (fun e5=>if e5.Tet=(-1) then (some (decide (e5.Perm=0))) else ((Dv.f a1 e5.Tet).bind fun t20=>(if t20=true then ((Je.f e5.Perm).bind fun t25=>(if t25=true then ((F5.f K e5.Tet e5.Perm f).bind fun t30=>(if 0≤e5.Tet∧e5.Tet<(a1.length:Int) then (if 0≤t30∧t30<((a1.getD e5.Tet.toNat []).length:Int) then (bnd ((a1.getD e5.Tet.toNat []).getD t30.toNat Bj) (fun e36=>Ew (F7.f K e5.Tet e5.Perm tet) (fun t38 t39=>(if (e36.Tet,e36.Perm)=(t38,t39) then (if e5.Tet=tet then (some (!(decide (t30=f)))) else (some true)) else (some false))))) else none) else none)) else (some false))) else (some false))))) else none) else none
abbrev Ef.post:=Kk
mutual
def Bp.l1 (K:Nat):Nat→(List (List Ab))→Int→Int→Option (Bool)
  | 0,_,_,_=>none
  | k+1,a1,t14,x37=>if x37<t14 then (Bp.l4 K k a1 t14 x37 0) else (some true)
def Bp.l4 (K:Nat):Nat→(List (List Ab))→Int→Int→Int→Option (Bool)
  | 0,_,_,_,_=>none
  | k+1,a1,t14,x37,x63=>if x63<4 then ((Ef.f K a1 x37 x63).bind fun t71=>(if t71=true then (Bp.l4 K k a1 t14 x37 (w64 (x63+1))) else (some false))) else (Bp.l1 K k a1 t14 (w64 (x37+1)))
end
def Bp.f (K:Nat) (a1:List (List Ab)):Option (Bool):=if 8<(a1.length:Int) then (some false) else ((Cf.f K a1).bind fun t9=>(if t9=true then (some false) else ((Bw.f a1).bind fun t14=>(Bp.l1 K K a1 t14 0))))
abbrev Bp.post:=Kk
def Dh.f (s:List Ab):Option (List Ab):=if (([]:List Ab).length+s.length) * 16≤140737488355328 then (some (([]:List Ab)++s)) else none
abbrev Dh.post (w0:World) (L:List Cy) (r1:List Ab) (en:Ending) (w:World):Prop:=∃ (A_r0:Option Addr) (c_r1:Nat),en=.returned (.slice A_r0 r1.length c_r1)∧St w0 w (Own Ad 107 A_r0 c_r1 (fun _=>()) r1::L)
def Cr.l1 (K:Nat):Nat→(List (List Ab))→(List (List Ab))→Int→Option (List (List Ab))
  | 0,_,_,_=>none
  | k+1,a1,b1,x28=>if x28<(a1.length:Int) then (if 0≤x28∧x28<(a1.length:Int) then ((Dh.f (a1.getD x28.toNat [])).bind fun t48=>(if (b1.length+1) * 24≤140737488355328 then (Cr.l1 K k a1 (b1++[t48]) (w64 (x28+1))) else none)) else none) else (some b1)
def Cr.f (K:Nat) (a1:List (List Ab)):Option (List (List Ab)):=Cr.l1 K K a1 ([]:List (List Ab)) 0
abbrev Cr.post (w0:World) (L:List Cy) (r1:List (List Ab)) (en:Ending) (w:World):Prop:=∃ (A_r0:Option Addr) (c_r1:Nat) (y_r2:Nat→(Ty.slice 107 Ad).Lay),en=.returned (.agg [.slice A_r0 r1.length c_r1].toArray)∧St w0 w (Own (Ty.slice 107 Ad) 77 A_r0 c_r1 y_r2 r1::L)
def F6.j1 (K:Nat):Nat→Int→Bool→Option (Int)
  | 0,_,_=>none
  | k+1,kind,x2=>if x2=true then (some 4) else (if kind=2 then (some 6) else (if kind=3 then (some 1) else (some 0)))
def F6.f (K:Nat) (kind:Int):Option (Int):=if kind=1 then (F6.j1 K K kind (decide (kind=1))) else (F6.j1 K K kind (decide (kind=4)))
abbrev F6.post:=Iy
def Bi.f (a1:Int) (b1:Int):Option (Bool):=some (decide (a1<0))
abbrev Bi.post:=Kk
def Gj.f (news:Int) (old:List Int):Option ((List Int) × (List (Gq × Eg)) × Int × (List Gi)):=some (old,([]:List (Gq × Eg)),news,([]:List Gi))
abbrev Gj.post (w0:World) (L:List Cy) (r1:List Int) (r2:List (Gq × Eg)) (r3:Int) (r4:List Gi) (en:Ending) (w:World):Prop:=∃ (b_r0:Nat) (A_r1:Option Addr) (c_r2 b_r3:Nat) (A_r4:Option Addr) (c_r5:Nat),en=.returned (.pointer (some ⟨b_r0,0,none⟩))∧St w0 w (Box b_r0 104 [.slice A_r1 r1.length c_r2,.map (some b_r3),.int .i64 r3,.slice A_r4 r4.length c_r5]::Own (Ar .i64) 2 A_r1 c_r2 (fun _=>()) r1::Ir b_r3 Gh Ey r2::Own Ip 131 A_r4 c_r5 (fun _=>()) r4::L)
def Eo.l1 (K:Nat):Nat→Int→(List Int)→Int→Option (List Int)
  | 0,_,_,_=>none
  | k+1,n_,a1,x11=>if x11<n_ then (if (a1.length+1) * 8≤140737488355328 then (Eo.l1 K k n_ (a1++[x11]) (w64 (x11+1))) else none) else (some a1)
def Eo.f (K:Nat) (n_:Int):Option (List Int):=Eo.l1 K K n_ ([]:List Int) 0
abbrev Eo.post (w0:World) (L:List Cy) (r1:List Int) (en:Ending) (w:World):Prop:=∃ (A_r0:Option Addr) (c_r1:Nat),en=.returned (.slice A_r0 r1.length c_r1)∧St w0 w (Own (Ar .i64) 2 A_r0 c_r1 (fun _=>()) r1::L)
def Ch.l1 (K:Nat):Nat→(List Int)→Int→Int→Option (Int)
  | 0,_,_,_=>none
  | k+1,s,v,x4=>if x4<(s.length:Int) then (if 0≤x4∧x4<(s.length:Int) then (if v=s.getD x4.toNat 0 then (some x4) else (Ch.l1 K k s v (w64 (x4+1)))) else none) else (some (-1))
def Ch.f (K:Nat) (s:List Int) (v:Int):Option (Int):=Ch.l1 K K s v 0
abbrev Ch.post:=Iy
def Dk.f (K:Nat) (s:List Int) (v:Int):Option (Bool):=(Ch.f K s v).bind fun t1=>(some (decide (0≤t1)))
abbrev Dk.post:=Kk
def Gt.f (K:Nat) (v:Int) (a1:List Int):Option (Bool):=(Dk.f K a1 v).bind fun t1=>(some t1)
abbrev Gt.post (w0:World) (L:List Cy) (v0_2:List Int) (b_v0:Nat) (A_a:Option Addr) (c_a:Nat) (r1:Bool) (en:Ending) (w:World):Prop:=en=.returned (.bool r1)∧St w0 w (Box b_v0 56 [.slice A_a v0_2.length c_a]::L)
def Ca.l1 (K:Nat):Nat→(List Int)→(List Int)→Int→Option (Int)
  | 0,_,_,_=>none
  | k+1,s,a1,x8=>if x8<(s.length:Int) then (if 0≤x8∧x8<(s.length:Int) then ((Gt.f K (s.getD x8.toNat 0) a1).bind fun t18=>(if t18=true then (some x8) else (Ca.l1 K k s a1 (w64 (x8+1))))) else none) else (some (-1))
def Ca.f (K:Nat) (s:List Int) (a1:List Int):Option (Int):=Ca.l1 K K s a1 0
abbrev Ca.post (w0:World) (L:List Cy) (cap_2:List Int) (b_cap:Nat) (A_b:Option Addr) (c_b:Nat) (r1:Int) (en:Ending) (w:World):Prop:=en=.returned (.int .i64 r1)∧St w0 w (Box b_cap 56 [.slice A_b cap_2.length c_b]::L)
def Bt.l1 (K:Nat):Nat→(List Int)→(List Int)→Int→Int→Option (List Int)
  | 0,_,_,_,_=>none
  | k+1,c1,x19,a1,b1=>if b1<(x19.length:Int) then (if 0≤b1∧b1<(x19.length:Int) then ((Gt.f K (x19.getD b1.toNat 0) c1).bind fun t37=>(if t37=true then (Bt.l1 K k c1 x19 a1 (w64 (b1+1))) else (if 0≤a1∧a1<(x19.length:Int) then (Bt.l1 K k c1 (x19.set a1.toNat (x19.getD b1.toNat 0)) (w64 (a1+1)) (w64 (b1+1))) else none))) else none) else (if 0≤a1∧a1≤(x19.length:Int) then (if 0≤a1∧a1≤((over x19 a1.toNat (List.replicate ((x19.take x19.length).drop a1.toNat).length 0)).length:Int) then (some (((over x19 a1.toNat (List.replicate ((x19.take x19.length).drop a1.toNat).length 0)).take a1.toNat).drop 0)) else none) else none)
def Bt.f (K:Nat) (s:List Int) (a1:List Int):Option (List Int):=(Ca.f K s a1).bind fun t1=>(if t1=(-1) then (some s) else (Bt.l1 K K a1 s t1 (w64 (t1+1))))
abbrev Bt.post (w0:World) (L:List Cy) (cap_2:List Int) (b_cap:Nat) (A_b:Option Addr) (c_b:Nat) (r1:List Int) (en:Ending) (w:World):Prop:=∃ (A_r0:Option Addr) (c_r1:Nat),en=.returned (.slice A_r0 r1.length c_r1)∧St w0 w (Own (Ar .i64) 2 A_r0 c_r1 (fun _=>()) r1::Box b_cap 56 [.slice A_b cap_2.length c_b]::L)
def Fb.f (K:Nat) (not:List Int):Option (List Int):=(Eo.f K 4).bind fun t3=>((Bt.f K t3 not).bind fun t9=>(some t9))
abbrev Fb.post (w0:World) (L:List Cy) (r1:List Int) (en:Ending) (w:World):Prop:=∃ (A_r0:Option Addr) (c_r1:Nat),en=.returned (.slice A_r0 r1.length c_r1)∧St w0 w (Own (Ar .i64) 2 A_r0 c_r1 (fun _=>()) r1::L)
def Fj.f (K:Nat) (g1:List Int) (c1:List (Gq × Eg)) (f1:Int) (h1:List Gi) (tet:Int) (Cg:Int) (to:Int) (b1:Int) (a1:Int) (d1:Int) (e1:Int):Option (List (Gq × Eg)):=(Cu.f K b1 a1 d1 e1).bind fun t3=>(some (Ns c1 (⟨tet,Cg⟩:Gq) (⟨to,t3⟩:Eg)))
abbrev Fj.post (w0:World) (L:List Cy) (c_old:List Int) (c_news:Int) (c_inner:List Gi) (b_c:Nat) (A_a:Option Addr) (c_a b_c_outer:Nat) (A_b:Option Addr) (c_b:Nat) (r1:List (Gq × Eg)) (en:Ending) (w:World):Prop:=en=.returned (.tuple #[])∧St w0 w (Box b_c 104 [.slice A_a c_old.length c_a,.map (some b_c_outer),.int .i64 c_news,.slice A_b c_inner.length c_b]::Ir b_c_outer Gh Ey r1::L)
def Gv.f (K:Nat) (i:Int) (j_:Int):Option (Int):=if 0≤i∧i<4 then (if 0≤j_∧j_<4 then ((Cu.f K (se 0 j_ i (se 0 i j_ 0)) (se 1 j_ i (se 1 i j_ 1)) (se 2 j_ i (se 2 i j_ 2)) (se 3 j_ i (se 3 i j_ 3))).bind fun t8=>(some t8)) else none) else none
abbrev Gv.post:=Iy
def Cc.l1 (K:Nat):Nat→Int→Int→Ab→(List Int)→Int→Int→Int→Int→Int→(List Int)→(List (Gq × Eg))→(List Gi)→Int→Option (Option (List Int × List (Gq × Eg) × Int × List Gi))
  | 0,_,_,_,_,_,_,_,_,_,_,_,_,_=>none
  | k+1,a_,f,e5,t23,t25,t36,t37,t38,t39,t45,b1,a1,x103=>if x103<3 then (if 0≤x103∧x103<(t45.length:Int) then (if 0≤(w64 (x103+1)).tmod 3∧(w64 (x103+1)).tmod 3<(t45.length:Int) then (if 0≤(w64 (x103+2)).tmod 3∧(w64 (x103+2)).tmod 3<(t45.length:Int) then (if 0≤f∧f<4 then (if 0≤t45.getD x103.toNat 0∧t45.getD x103.toNat 0<4 then (if 0≤t45.getD (((w64 (x103+1)).tmod 3).toNat) 0∧t45.getD (((w64 (x103+1)).tmod 3).toNat) 0<4 then (if 0≤t45.getD (((w64 (x103+2)).tmod 3).toNat) 0∧t45.getD (((w64 (x103+2)).tmod 3).toNat) 0<4 then (if 0≤(([t36,t37,t38,t39]:List Int).getD f.toNat 0)∧(([t36,t37,t38,t39]:List Int).getD f.toNat 0)<4 then (if 0≤(([t36,t37,t38,t39]:List Int).getD (t45.getD x103.toNat 0).toNat 0)∧(([t36,t37,t38,t39]:List Int).getD (t45.getD x103.toNat 0).toNat 0)<4 then (if 0≤(([t36,t37,t38,t39]:List Int).getD (t45.getD (((w64 (x103+1)).tmod 3).toNat) 0).toNat 0)∧(([t36,t37,t38,t39]:List Int).getD (t45.getD (((w64 (x103+1)).tmod 3).toNat) 0).toNat 0)<4 then (if 0≤(([t36,t37,t38,t39]:List Int).getD (t45.getD (((w64 (x103+2)).tmod 3).toNat) 0).toNat 0)∧(([t36,t37,t38,t39]:List Int).getD (t45.getD (((w64 (x103+2)).tmod 3).toNat) 0).toNat 0)<4 then ((Fj.f K t23 b1 t25 a1 a_ (t45.getD x103.toNat 0) x103 (se 0 (t45.getD (((w64 (x103+2)).tmod 3).toNat) 0) 3 (se 0 (t45.getD (((w64 (x103+1)).tmod 3).toNat) 0) 2 (se 0 (t45.getD x103.toNat 0) 1 (se 0 f 0 0)))) (se 1 (t45.getD (((w64 (x103+2)).tmod 3).toNat) 0) 3 (se 1 (t45.getD (((w64 (x103+1)).tmod 3).toNat) 0) 2 (se 1 (t45.getD x103.toNat 0) 1 (se 1 f 0 0)))) (se 2 (t45.getD (((w64 (x103+2)).tmod 3).toNat) 0) 3 (se 2 (t45.getD (((w64 (x103+1)).tmod 3).toNat) 0) 2 (se 2 (t45.getD x103.toNat 0) 1 (se 2 f 0 0)))) (se 3 (t45.getD (((w64 (x103+2)).tmod 3).toNat) 0) 3 (se 3 (t45.getD (((w64 (x103+1)).tmod 3).toNat) 0) 2 (se 3 (t45.getD x103.toNat 0) 1 (se 3 f 0 0))))).bind fun t177=>((Fj.f K t23 t177 t25 a1 e5.Tet (([t36,t37,t38,t39]:List Int).getD (t45.getD x103.toNat 0).toNat 0) x103 (se 0 (([t36,t37,t38,t39]:List Int).getD (t45.getD (((w64 (x103+2)).tmod 3).toNat) 0).toNat 0) 3 (se 0 (([t36,t37,t38,t39]:List Int).getD (t45.getD (((w64 (x103+1)).tmod 3).toNat) 0).toNat 0) 2 (se 0 (([t36,t37,t38,t39]:List Int).getD (t45.getD x103.toNat 0).toNat 0) 0 (se 0 (([t36,t37,t38,t39]:List Int).getD f.toNat 0) 1 0)))) (se 1 (([t36,t37,t38,t39]:List Int).getD (t45.getD (((w64 (x103+2)).tmod 3).toNat) 0).toNat 0) 3 (se 1 (([t36,t37,t38,t39]:List Int).getD (t45.getD (((w64 (x103+1)).tmod 3).toNat) 0).toNat 0) 2 (se 1 (([t36,t37,t38,t39]:List Int).getD (t45.getD x103.toNat 0).toNat 0) 0 (se 1 (([t36,t37,t38,t39]:List Int).getD f.toNat 0) 1 0)))) (se 2 (([t36,t37,t38,t39]:List Int).getD (t45.getD (((w64 (x103+2)).tmod 3).toNat) 0).toNat 0) 3 (se 2 (([t36,t37,t38,t39]:List Int).getD (t45.getD (((w64 (x103+1)).tmod 3).toNat) 0).toNat 0) 2 (se 2 (([t36,t37,t38,t39]:List Int).getD (t45.getD x103.toNat 0).toNat 0) 0 (se 2 (([t36,t37,t38,t39]:List Int).getD f.toNat 0) 1 0)))) (se 3 (([t36,t37,t38,t39]:List Int).getD (t45.getD (((w64 (x103+2)).tmod 3).toNat) 0).toNat 0) 3 (se 3 (([t36,t37,t38,t39]:List Int).getD (t45.getD (((w64 (x103+1)).tmod 3).toNat) 0).toNat 0) 2 (se 3 (([t36,t37,t38,t39]:List Int).getD (t45.getD x103.toNat 0).toNat 0) 0 (se 3 (([t36,t37,t38,t39]:List Int).getD f.toNat 0) 1 0))))).bind fun t181=>((Gv.f K 2 3).bind fun t185=>(if (a1.length+1) * 32≤140737488355328 then (Cc.l1 K k a_ f e5 t23 t25 t36 t37 t38 t39 t45 t181 (a1++[(⟨x103,2,(w64 (x103+1)).tmod 3,t185⟩:Gi)]) (w64 (x103+1))) else none)))) else none) else none) else none) else none) else none) else none) else none) else none) else none) else none) else none) else (some (some (t23,b1,t25,a1)))
def Cc.f (K:Nat) (a1:List (List Ab)) (a_:Int) (f:Int):Option (Option (List Int × List (Gq × Eg) × Int × List Gi)):=if 0≤a_∧a_<(a1.length:Int) then (if 0≤f∧f<((a1.getD a_.toNat []).length:Int) then (bnd ((a1.getD a_.toNat []).getD f.toNat Bj) (fun e5=>(Bi.f e5.Tet e5.Perm).bind fun t15=>(if t15=true then (some none) else (if e5.Tet=a_ then (some none) else (D7 (Gj.f 3 ([a_,e5.Tet]:List Int)) (fun t23 t24 t25 t26=>(D7 (Ct.f K e5.Perm) (fun t36 t37 t38 t39=>((Fb.f K ([f]:List Int)).bind fun t45=>(Cc.l1 K K a_ f e5 t23 t25 t36 t37 t38 t39 t45 t24 t26 0)))))))))) else none) else none
abbrev Cc.post (w0:World) (L:List Cy) (r1:Option (List Int × List (Gq × Eg) × Int × List Gi)) (en:Ending) (w:World):Prop:=∃ (b_r0:Nat) (A_r1:Option Addr) (c_r2 b_r3:Nat) (A_r4:Option Addr) (c_r5:Nat),en=.returned (.pointer (r1.map fun _=>⟨b_r0,0,none⟩))∧St w0 w (Yz r1 (fun x=>[Box b_r0 104 [.slice A_r1 x.1.length c_r2,.map (some b_r3),.int .i64 x.2.2.1,.slice A_r4 x.2.2.2.length c_r5],Own (Ar .i64) 2 A_r1 c_r2 (fun _=>()) x.1,Ir b_r3 Gh Ey x.2.1,Own Ip 131 A_r4 c_r5 (fun _=>()) x.2.2.2])::L)
def Gm.l1 (K:Nat):Nat→Int→Int→Option (Int × Int)
  | 0,_,_=>none
  | k+1,e_2,x3=>if x3<4 then (if e_2<w64 (3 - x3) then (some (x3,w64 ((w64 (x3+1))+e_2))) else (Gm.l1 K k (w64 (e_2 - (w64 (3 - x3)))) (w64 (x3+1)))) else (some ((-1),(-1)))
def Gm.f (K:Nat) (e_:Int):Option (Int × Int):=Gm.l1 K K e_ 0
abbrev Gm.post (w0:World) (L:List Cy) (r1 r2:Int) (en:Ending) (w:World):Prop:=en=.returned (.tuple #[.int .i64 r1,.int .i64 r2])∧St w0 w (L)
def Ha.j1 (K:Nat):Nat→Int→Int→Option (Int)
  | 0,_,_=>none
  | k+1,a_2,b_3=>some (w64 ((w64 ((w64 ((w64 ((w64 (a_2 * (w64 (7 - a_2)))).tdiv 2))+b_3)) - a_2)) - 1))
def Ha.f (K:Nat) (a_:Int) (b_:Int):Option (Int):=if b_<a_ then (Ha.j1 K K b_ a_) else (Ha.j1 K K a_ b_)
abbrev Ha.post:=Iy
def Gf.l1 (K:Nat):Nat→(List Int)→Int→Int→(List Int)→Int→Option (List Int)
  | 0,_,_,_,_,_=>none
  | k+1,sets,i,k_,x9,x10=>if x10<(sets.length:Int) then (if 0≤x10∧x10<(x9.length:Int) then (if x9.getD x10.toNat 0=sets.getD k_.toNat 0 then (Gf.l1 K k sets i k_ (x9.set x10.toNat (sets.getD i.toNat 0)) (w64 (x10+1))) else (Gf.l1 K k sets i k_ x9 (w64 (x10+1)))) else none) else (some x9)
def Gf.f (K:Nat) (sets:List Int) (i:Int) (k_:Int):Option (List Int):=if 0≤k_∧k_<(sets.length:Int) then (if 0≤i∧i<(sets.length:Int) then (Gf.l1 K K sets i k_ sets 0) else none) else none
abbrev Gf.post (w0:World) (L:List Cy) (A_a:Option Addr) (c_a:Nat) (r1:List Int) (en:Ending) (w:World):Prop:=en=.returned (.tuple #[])∧St w0 w (Own (Ar .i64) 2 A_a c_a (fun _=>()) r1::L)
def Bd.l1 (K:Nat):Nat→Int→Int→Int→Int→Int→Int→Int→(List Int)→Int→Option (List Int)
  | 0,_,_,_,_,_,_,_,_,_=>none
  | k+1,tet,f,e1,b1,a1,c1,d1,x24,x25=>if x25<6 then (Ew (Gm.f K x25) (fun t47 t48=>(if t47=f then (Bd.l1 K k tet f e1 b1 a1 c1 d1 x24 (w64 (x25+1))) else (if t48=f then (Bd.l1 K k tet f e1 b1 a1 c1 d1 x24 (w64 (x25+1))) else (if 0≤t47∧t47<4 then (if 0≤t48∧t48<4 then ((Ha.f K (([b1,a1,c1,d1]:List Int).getD t47.toNat 0) (([b1,a1,c1,d1]:List Int).getD t48.toNat 0)).bind fun t57=>((Gf.f K x24 (w64 ((w64 (6 * tet))+x25)) (w64 ((w64 (6 * e1))+t57))).bind fun t61=>(if t61.length=x24.length then (Bd.l1 K k tet f e1 b1 a1 c1 d1 t61 (w64 (x25+1))) else none))) else none) else none))))) else (some x24)
def Bd.f (K:Nat) (tet:Int) (f:Int) (a1:Int) (g1:Int) (d1:Int) (c1:Int) (e1:Int) (f1:Int) (b1:List Int):Option (List Int):=Bd.l1 K K tet f a1 d1 c1 e1 f1 b1 0
abbrev Bd.post (w0:World) (L:List Cy) (b_v0:Nat) (A_a:Option Addr) (c_a:Nat) (r1:List Int) (en:Ending) (w:World):Prop:=en=.returned (.tuple #[])∧St w0 w (Box b_v0 56 [.slice A_a r1.length c_a]::Own (Ar .i64) 2 A_a c_a (fun _=>()) r1::L)
mutual
def Ah.l1 (K:Nat):Nat→(List (List Ab))→(List Int)→Int→Option (List Int)
  | 0,_,_,_=>none
  | k+1,a1,x79,x80=>if x80<(a1.length:Int) then (if 0≤x80∧x80<(a1.length:Int) then (Ah.l4 K k a1 x80 x79 0) else none) else (some x79)
def Ah.l4 (K:Nat):Nat→(List (List Ab))→Int→(List Int)→Int→Option (List Int)
  | 0,_,_,_,_=>none
  | k+1,a1,x80,x183,x184=>if x184<((a1.getD x80.toNat []).length:Int) then (if 0≤x184∧x184<((a1.getD x80.toNat []).length:Int) then (bnd ((a1.getD x80.toNat []).getD x184.toNat Bj) (fun e211=>(Bi.f e211.Tet e211.Perm).bind fun t216=>(if t216=true then (Ah.l4 K k a1 x80 x183 (w64 (x184+1))) else (D7 (Ct.f K e211.Perm) (fun t221 t222 t223 t224=>((Bd.f K x80 x184 e211.Tet e211.Perm t221 t222 t223 t224 x183).bind fun t228=>(if t228.length=x183.length then (Ah.l4 K k a1 x80 t228 (w64 (x184+1))) else none))))))) else none) else (Ah.l1 K k a1 x183 (w64 (x80+1)))
end
def Ah.f (K:Nat) (a1:List (List Ab)) (b1:List Int):Option (List Int):=Ah.l1 K K a1 b1 0
abbrev Ah.post (w0:World) (L:List Cy) (b_cap:Nat) (A_b:Option Addr) (c_b:Nat) (r1:List Int) (en:Ending) (w:World):Prop:=en=.returned (.tuple #[])∧St w0 w (Box b_cap 56 [.slice A_b r1.length c_b]::Own (Ar .i64) 2 A_b c_b (fun _=>()) r1::L)
mutual
def Dc.l1 (K:Nat):Nat→(List Int)→(List (Int × Int))→(List Int)→Int→Option (List Int)
  | 0,_,_,_,_=>none
  | k+1,roots,a1,b1,x20=>if x20<(roots.length:Int) then (if 0≤x20∧x20<(roots.length:Int) then (if ((Kb a1 (roots.getD x20.toNat 0)).isSome)=true then (Dc.j4 K k roots b1 x20 a1) else (Dc.j4 K k roots b1 x20 (Kw a1 (roots.getD x20.toNat 0) (a1.length:Int)))) else none) else (some b1)
def Dc.j4 (K:Nat):Nat→(List Int)→(List Int)→Int→(List (Int × Int))→Option (List Int)
  | 0,_,_,_,_=>none
  | k+1,roots,b1,x20,a1=>if (b1.length+1) * 8≤140737488355328 then (Dc.l1 K k roots a1 (b1++[(Kb a1 (roots.getD x20.toNat 0)).getD 0]) (w64 (x20+1))) else none
end
def Dc.f (K:Nat) (roots:List Int):Option (List Int):=Dc.l1 K K roots ([]:List (Int × Int)) ([]:List Int) 0
abbrev Dc.post (w0:World) (L:List Cy) (r1:List Int) (en:Ending) (w:World):Prop:=∃ (A_r0:Option Addr) (c_r1:Nat),en=.returned (.slice A_r0 r1.length c_r1)∧St w0 w (Own (Ar .i64) 2 A_r0 c_r1 (fun _=>()) r1::L)
def Bl.f (K:Nat) (a1:List (List Ab)):Option (List Int):=(Bw.f a1).bind fun t3=>((Eo.f K (w64 (6 * t3))).bind fun t7=>((Ah.f K a1 t7).bind fun t16=>(if t16.length=t7.length then ((Dc.f K t16).bind fun t21=>(some t21)) else none)))
abbrev Bl.post (w0:World) (L:List Cy) (r1:List Int) (en:Ending) (w:World):Prop:=∃ (A_r0:Option Addr) (c_r1:Nat),en=.returned (.slice A_r0 r1.length c_r1)∧St w0 w (Own (Ar .i64) 2 A_r0 c_r1 (fun _=>()) r1::L)
def Cz.l2 (K:Nat):Nat→(List Int)→Int→Int→Option (Int)
  | 0,_,_,_=>none
  | k+1,x,m_6,i_7=>if i_7<(x.length:Int) then (if 0≤i_7∧i_7<(x.length:Int) then (Cz.l2 K k x (if x.getD i_7.toNat 0 > m_6 then x.getD i_7.toNat 0 else m_6) (w64 (i_7+1))) else none) else (some m_6)
def Cz.f (K:Nat) (x:List Int):Option (Int):=if (x.length:Int)<1 then (none) else (if 0≤(0:Int)∧(0:Int)<(x.length:Int) then (Cz.l2 K K x (x.getD 0 0) 1) else none)
abbrev Cz.post:=Iy
def Ho.f (K:Nat) (classes:List Int):Option (Int):=if (classes.length:Int)=0 then (some 0) else ((Cz.f K classes).bind fun t2=>(some (w64 (t2+1))))
abbrev Ho.post:=Iy
def Ka.f (x:Int):Option (Int):=if x<0 then (some (-1)) else (some 1)
abbrev Ka.post:=Iy
def Cv.f (next:Int) (same:Int) (b1:List Int) (a1:List Int) (c1:Int) (d1:List (Int × Bool)) (e1:List Int):Option ((List Int) × (List Int) × (List (Int × Bool))):=if 0≤c1∧c1<(a1.length:Int) then (if 0≤a1.getD c1.toNat 0∧a1.getD c1.toNat 0<(b1.length:Int) then (if 0≤next∧next<(b1.length:Int) then (if b1.getD next.toNat 0=0 then (if (a1.length+1) * 8≤140737488355328 then (some ((b1.set next.toNat (w64 ((b1.getD ((a1.getD c1.toNat 0).toNat) 0) * same))),(a1++[next]),d1)) else none) else (if b1.getD next.toNat 0=w64 (0 - (w64 ((b1.getD ((a1.getD c1.toNat 0).toNat) 0) * same))) then (if 0≤next∧next<(e1.length:Int) then (some (b1,a1,(Ns d1 (e1.getD next.toNat 0) true))) else none) else (some (b1,a1,d1)))) else none) else none) else none
abbrev Cv.post (w0:World) (L:List Cy) (v2_2:Int) (v4_2:List Int) (b_v0:Nat) (A_a:Option Addr) (c_a b_v1:Nat) (b_v2 b_v3:Nat) (b_v3_2 b_v4:Nat) (A_c:Option Addr) (c_c:Nat) (r1 r2:List Int) (r3:List (Int × Bool)) (en:Ending) (w:World):Prop:=∃ (A_r0:Option Addr) (c_r1:Nat),en=.returned (.tuple #[])∧St w0 w (Box b_v0 56 [.slice A_a r1.length c_a]::Own (Ar .i64) 2 A_a c_a (fun _=>()) r1::Box b_v1 56 [.slice A_r0 r2.length c_r1]::Own (Ar .i64) 2 A_r0 c_r1 (fun _=>()) r2::Box b_v2 3 [.int .i64 v2_2]::Box b_v3 199 [.map (some b_v3_2)]::Ir b_v3_2 (Value.int .i64) Value.bool r3::Box b_v4 56 [.slice A_c v4_2.length c_c]::L)
def Al.l1 (K:Nat):Nat→(List (List Ab))→Int→Int→(List Int)→Int→Int→(List Int)→(List Int)→(List Int)→(List (Int × Bool))→Int→Option ((List Int) × (List Int) × (List (Int × Bool)))
  | 0,_,_,_,_,_,_,_,_,_,_,_=>none
  | k+1,a1,id,c1,b1,t3,t4,t10,x59,x62,x63,x64=>if x64<(t10.length:Int) then (if 0≤x64∧x64<(t10.length:Int) then (if 0≤w64 (id.tdiv 6)∧w64 (id.tdiv 6)<(a1.length:Int) then (if 0≤t10.getD x64.toNat 0∧t10.getD x64.toNat 0<((a1.getD ((w64 (id.tdiv 6)).toNat) []).length:Int) then (bnd ((a1.getD ((w64 (id.tdiv 6)).toNat) []).getD ((t10.getD x64.toNat 0).toNat) Bj) (fun e112=>(Bi.f e112.Tet e112.Perm).bind fun t117=>(if t117=true then (Al.l1 K k a1 id c1 b1 t3 t4 t10 x59 x62 x63 (w64 (x64+1))) else (D7 (Ct.f K e112.Perm) (fun t122 t123 t124 t125=>(if 0≤t3∧t3<4 then (if 0≤t4∧t4<4 then ((Ha.f K (([t122,t123,t124,t125]:List Int).getD t3.toNat 0) (([t122,t123,t124,t125]:List Int).getD t4.toNat 0)).bind fun t134=>((Ka.f (w64 ((([t122,t123,t124,t125]:List Int).getD t4.toNat 0) - (([t122,t123,t124,t125]:List Int).getD t3.toNat 0)))).bind fun t138=>(Jk (Cv.f (w64 ((w64 (6 * e112.Tet))+t134)) t138 x59 x62 c1 x63 b1) (fun t142 t143 t144=>(if t142.length=x59.length then (Al.l1 K k a1 id c1 b1 t3 t4 t10 t142 t143 t144 (w64 (x64+1))) else none))))) else none) else none)))))) else none) else none) else none) else (some (x59,x62,x63))
def Al.f (K:Nat) (c1:List (List Ab)) (id:Int) (b1:List Int) (e1:List Int) (a1:Int) (d1:List (Int × Bool)) (f1:List Int):Option ((List Int) × (List Int) × (List (Int × Bool))):=Ew (Gm.f K (id.tmod 6)) (fun t3 t4=>((Fb.f K ([t3,t4]:List Int)).bind fun t10=>(Al.l1 K K c1 id a1 f1 t3 t4 t10 b1 e1 d1 0)))
abbrev Al.post (w0:World) (L:List Cy) (cap_6:Int) (cap_10:List Int) (b_cap:Nat) (A_b:Option Addr) (c_b b_cap_3:Nat) (b_cap_5 b_cap_7:Nat) (b_cap_8 b_cap_9:Nat) (A_d:Option Addr) (c_d:Nat) (r1 r2:List Int) (r3:List (Int × Bool)) (en:Ending) (w:World):Prop:=∃ (A_r0:Option Addr) (c_r1:Nat),en=.returned (.tuple #[])∧St w0 w (Box b_cap 56 [.slice A_b r1.length c_b]::Own (Ar .i64) 2 A_b c_b (fun _=>()) r1::Box b_cap_3 56 [.slice A_r0 r2.length c_r1]::Own (Ar .i64) 2 A_r0 c_r1 (fun _=>()) r2::Box b_cap_5 3 [.int .i64 cap_6]::Box b_cap_7 199 [.map (some b_cap_8)]::Ir b_cap_8 (Value.int .i64) Value.bool r3::Box b_cap_9 56 [.slice A_d cap_10.length c_d]::L)
mutual
def Am.l1 (K:Nat):Nat→(List (List Ab))→Int→(List Int)→(List Int)→(List (Int × Bool))→Int→Option (List Int)
  | 0,_,_,_,_,_,_=>none
  | k+1,c1,t3,t14,a1,b1,x117=>if x117<w64 (6 * t3) then (if 0≤x117∧x117<(a1.length:Int) then (if a1.getD x117.toNat 0=0 then (Am.l6 K k c1 t3 t14 x117 (a1.set x117.toNat 1) b1 ([x117]:List Int) 0) else (Am.l1 K k c1 t3 t14 a1 b1 (w64 (x117+1)))) else none) else (Am.l7 K k t14 a1 b1 a1 0)
def Am.l6 (K:Nat):Nat→(List (List Ab))→Int→(List Int)→Int→(List Int)→(List (Int × Bool))→(List Int)→Int→Option (List Int)
  | 0,_,_,_,_,_,_,_,_=>none
  | k+1,c1,t3,t14,x117,d1,e1,b1,a1=>if a1<(b1.length:Int) then (if 0≤a1∧a1<(b1.length:Int) then (Jk (Al.f K c1 (b1.getD a1.toNat 0) d1 b1 a1 e1 t14) (fun t259 t260 t261=>(if t259.length=d1.length then (Am.l6 K k c1 t3 t14 x117 t259 t261 t260 (w64 (a1+1))) else none))) else none) else (Am.l1 K k c1 t3 t14 d1 e1 (w64 (x117+1)))
def Am.l7 (K:Nat):Nat→(List Int)→(List Int)→(List (Int × Bool))→(List Int)→Int→Option (List Int)
  | 0,_,_,_,_,_=>none
  | k+1,t14,b1,c1,a1,x279=>if x279<(b1.length:Int) then (if 0≤x279∧x279<(t14.length:Int) then (if ((Jn c1 (t14.getD x279.toNat 0)).getD false)=true then (if 0≤x279∧x279<(a1.length:Int) then (Am.l7 K k t14 b1 c1 (a1.set x279.toNat 0) (w64 (x279+1))) else none) else (Am.l7 K k t14 b1 c1 a1 (w64 (x279+1)))) else none) else (some a1)
end
def Am.f (K:Nat) (a1:List (List Ab)):Option (List Int):=(Bw.f a1).bind fun t3=>(if 0≤w64 (6 * t3) then (if (w64 (6 * t3)).toNat * 8≤281474976710656 then ((Bl.f K a1).bind fun t14=>(Am.l1 K K a1 t3 t14 (List.replicate (w64 (6 * t3)).toNat (0:Int)) ([]:List (Int × Bool)) 0)) else none) else none)
abbrev Am.post (w0:World) (L:List Cy) (r1:List Int) (en:Ending) (w:World):Prop:=∃ (A_r0:Option Addr) (c_r1:Nat),en=.returned (.slice A_r0 r1.length c_r1)∧St w0 w (Own (Ar .i64) 2 A_r0 c_r1 (fun _=>()) r1::L)
def Bu.l1 (K:Nat):Nat→(List Int)→(List Int)→(List Bool)→Int→Option (List Bool)
  | 0,_,_,_,_=>none
  | k+1,t3,t17,a1,x29=>if x29<(t17.length:Int) then (if 0≤x29∧x29<(t17.length:Int) then (if 0≤x29∧x29<(t3.length:Int) then (if 0≤t3.getD x29.toNat 0∧t3.getD x29.toNat 0<(a1.length:Int) then (Bu.l1 K k t3 t17 (a1.set ((t3.getD x29.toNat 0).toNat) (decide (t17.getD x29.toNat 0=0))) (w64 (x29+1))) else none) else none) else none) else (some a1)
def Bu.f (K:Nat) (a1:List (List Ab)):Option (List Bool):=(Bl.f K a1).bind fun t3=>((Ho.f K t3).bind fun t9=>(if 0≤t9 then (if t9.toNat * 1≤281474976710656 then ((Am.f K a1).bind fun t17=>(Bu.l1 K K t3 t17 (List.replicate t9.toNat false) 0)) else none) else none))
abbrev Bu.post (w0:World) (L:List Cy) (r1:List Bool) (en:Ending) (w:World):Prop:=∃ (A_r0:Option Addr) (c_r1:Nat),en=.returned (.slice A_r0 r1.length c_r1)∧St w0 w (Own Hz 4 A_r0 c_r1 (fun _=>()) r1::L)
mutual
def Ap.l1 (K:Nat):Nat→(List (List Ab))→(List Int)→(List Bool)→Int→Option (List Bool)
  | 0,_,_,_,_=>none
  | k+1,b1,t3,a1,x77=>if x77<(t3.length:Int) then (if 0≤x77∧x77<(t3.length:Int) then (Ew (Gm.f K (x77.tmod 6)) (fun t139 t140=>((Fb.f K ([t139,t140]:List Int)).bind fun t146=>(Ap.l4 K k b1 t3 x77 t146 a1 0)))) else none) else (some a1)
def Ap.l4 (K:Nat):Nat→(List (List Ab))→(List Int)→Int→(List Int)→(List Bool)→Int→Option (List Bool)
  | 0,_,_,_,_,_,_=>none
  | k+1,a1,t3,x77,t146,b1,x167=>if x167<(t146.length:Int) then (if 0≤x167∧x167<(t146.length:Int) then (if 0≤t3.getD x77.toNat 0∧t3.getD x77.toNat 0<(b1.length:Int) then (if (b1.getD ((t3.getD x77.toNat 0).toNat) false)=true then (Ap.l4 K k a1 t3 x77 t146 (b1.set ((t3.getD x77.toNat 0).toNat) true) (w64 (x167+1))) else (if 0≤w64 (x77.tdiv 6)∧w64 (x77.tdiv 6)<(a1.length:Int) then (if 0≤t146.getD x167.toNat 0∧t146.getD x167.toNat 0<((a1.getD ((w64 (x77.tdiv 6)).toNat) []).length:Int) then (bnd ((a1.getD ((w64 (x77.tdiv 6)).toNat) []).getD ((t146.getD x167.toNat 0).toNat) Bj) (fun e189=>(Bi.f e189.Tet e189.Perm).bind fun t191=>(Ap.l4 K k a1 t3 x77 t146 (b1.set ((t3.getD x77.toNat 0).toNat) t191) (w64 (x167+1))))) else none) else none)) else none) else none) else (Ap.l1 K k a1 t3 b1 (w64 (x77+1)))
end
def Ap.f (K:Nat) (a1:List (List Ab)):Option (List Bool):=(Bl.f K a1).bind fun t3=>((Ho.f K t3).bind fun t9=>(if 0≤t9 then (if t9.toNat * 1≤281474976710656 then (Ap.l1 K K a1 t3 (List.replicate t9.toNat false) 0) else none) else none))
abbrev Ap.post (w0:World) (L:List Cy) (r1:List Bool) (en:Ending) (w:World):Prop:=∃ (A_r0:Option Addr) (c_r1:Nat),en=.returned (.slice A_r0 r1.length c_r1)∧St w0 w (Own Hz 4 A_r0 c_r1 (fun _=>()) r1::L)
mutual
def Bo.l1 (K:Nat):Nat→(List (List Ab))→Int→(List Int)→Int→Int→Option (Int × Int)
  | 0,_,_,_,_,_=>none
  | k+1,a1,b1,t5,t19,x151=>if x151<t19 then (Bo.l4 K k a1 b1 t5 t19 x151 0) else (some (0,0))
def Bo.l4 (K:Nat):Nat→(List (List Ab))→Int→(List Int)→Int→Int→Int→Option (Int × Int)
  | 0,_,_,_,_,_,_=>none
  | k+1,a1,b1,t5,t19,x151,x322=>if x322<24 then (D7 (Ct.f K x322) (fun t366 t367 t368 t369=>((Ha.f K t366 t367).bind fun t390=>(if 0≤w64 ((w64 (6 * x151))+t390)∧w64 ((w64 (6 * x151))+t390)<(t5.length:Int) then (if t5.getD ((w64 ((w64 (6 * x151))+t390)).toNat) 0=b1 then (if 0≤x151∧x151<(a1.length:Int) then (if 0≤t369∧t369<((a1.getD x151.toNat []).length:Int) then (bnd ((a1.getD x151.toNat []).getD t369.toNat Bj) (fun e399=>(Bi.f e399.Tet e399.Perm).bind fun t401=>(if t401=true then (some (x151,x322)) else (Bo.l4 K k a1 b1 t5 t19 x151 (w64 (x322+1)))))) else none) else none) else (Bo.l4 K k a1 b1 t5 t19 x151 (w64 (x322+1)))) else none)))) else (Bo.l1 K k a1 b1 t5 t19 (w64 (x151+1)))
end
def Bo.f (K:Nat) (b1:List (List Ab)) (a1:Int):Option (Int × Int):=(Bl.f K b1).bind fun t5=>((Ap.f K b1).bind fun t11=>(if 0≤a1∧a1<(t11.length:Int) then (if (t11.getD a1.toNat false)=true then ((Bw.f b1).bind fun t19=>(Bo.l1 K K b1 a1 t5 t19 0)) else ((Ch.f K t5 a1).bind fun t408=>(Ew (Gm.f K (t408.tmod 6)) (fun t412 t413=>((Fb.f K ([t412,t413]:List Int)).bind fun t419=>(if 0≤(0:Int)∧(0:Int)<(t419.length:Int) then (if 0≤(1:Int)∧(1:Int)<(t419.length:Int) then ((Cu.f K t412 t413 (t419.getD 0 0) (t419.getD 1 0)).bind fun t429=>(some (w64 (t408.tdiv 6),t429))) else none) else none)))))) else none))
abbrev Bo.post (w0:World) (L:List Cy) (r1 r2:Int) (en:Ending) (w:World):Prop:=en=.returned (.agg [.int .i64 r1,.int .i64 r2].toArray)∧St w0 w (L)
def F3.f (K:Nat) (b1:List (List Ab)) (a1:Int) (c1:Int):Option (Int × Int × Bool):=D7 (Ct.f K c1) (fun t7 t8 t9 t10=>(if 0≤a1∧a1<(b1.length:Int) then (if 0≤t9∧t9<((b1.getD a1.toNat []).length:Int) then (bnd ((b1.getD a1.toNat []).getD t9.toNat Bj) (fun e19=>(Bi.f e19.Tet e19.Perm).bind fun t24=>(if t24=true then (some (0,0,false)) else (D7 (Ct.f K e19.Perm) (fun t30 t31 t32 t33=>(if 0≤t7∧t7<4 then (if 0≤t8∧t8<4 then (if 0≤t10∧t10<4 then (if 0≤t9∧t9<4 then ((Cu.f K (([t30,t31,t32,t33]:List Int).getD t7.toNat 0) (([t30,t31,t32,t33]:List Int).getD t8.toNat 0) (([t30,t31,t32,t33]:List Int).getD t10.toNat 0) (([t30,t31,t32,t33]:List Int).getD t9.toNat 0)).bind fun t44=>(some (e19.Tet,t44,true))) else none) else none) else none) else none)))))) else none) else none))
abbrev F3.post (w0:World) (L:List Cy) (r1 r2:Int) (r3:Bool) (en:Ending) (w:World):Prop:=en=.returned (.tuple #[.agg [.int .i64 r1,.int .i64 r2].toArray,.bool r3])∧St w0 w (L)
def Co.l1 (K:Nat):Nat→(List (List Ab))→Int→Int→(List Ab)→Option (List Ab)
  | 0,_,_,_,_=>none
  | k+1,b1,t3,t4,a1=>if 0≤w64 ((a1.length:Int) - 1)∧w64 ((a1.length:Int) - 1)<(a1.length:Int) then (bnd (a1.getD ((w64 ((a1.length:Int) - 1)).toNat) Bj) (fun e62=>Jk (F3.f K b1 e62.Tet e62.Perm) (fun t64 t65 t66=>(if t66=true then (if (t64,t65)=(t3,t4) then (some a1) else (if (a1.length+1) * 16≤140737488355328 then (Co.l1 K k b1 t3 t4 (a1++[(⟨t64,t65⟩:Ab)])) else none)) else (some a1))))) else none
def Co.f (K:Nat) (a1:List (List Ab)) (b1:Int):Option (List Ab):=Ew (Bo.f K a1 b1) (fun t3 t4=>(Co.l1 K K a1 t3 t4 ([(⟨t3,t4⟩:Ab)]:List Ab)))
abbrev Co.post (w0:World) (L:List Cy) (r1:List Ab) (en:Ending) (w:World):Prop:=∃ (A_r0:Option Addr) (c_r1:Nat),en=.returned (.slice A_r0 r1.length c_r1)∧St w0 w (Own Ad 167 A_r0 c_r1 (fun _=>()) r1::L)
def Bn.l1 (K:Nat):Nat→(List Ab)→(List Int)→Int→(List Gi)→(List (Gq × Eg))→Int→Option (Option (List Int × List (Gq × Eg) × Int × List Gi))
  | 0,_,_,_,_,_,_=>none
  | k+1,t41,t79,t81,t82,x133,x134=>if x134<(t41.length:Int) then (if 0≤x134∧x134<(t41.length:Int) then (bnd (t41.getD x134.toNat Bj) (fun e181=>D7 (Ct.f K e181.Perm) (fun t186 t187 t188 t189=>(if 0≤t186∧t186<4 then (if 0≤t187∧t187<4 then (if 0≤t188∧t188<4 then (if 0≤t189∧t189<4 then ((Fj.f K t79 x133 t81 t82 e181.Tet t187 0 (se 0 t189 (w64 (1+((w64 (x134+1)).tmod 3))) (se 0 t188 (w64 (1+x134)) (se 0 t187 (w64 (1+((w64 (x134+2)).tmod 3))) (se 0 t186 0 0)))) (se 1 t189 (w64 (1+((w64 (x134+1)).tmod 3))) (se 1 t188 (w64 (1+x134)) (se 1 t187 (w64 (1+((w64 (x134+2)).tmod 3))) (se 1 t186 0 0)))) (se 2 t189 (w64 (1+((w64 (x134+1)).tmod 3))) (se 2 t188 (w64 (1+x134)) (se 2 t187 (w64 (1+((w64 (x134+2)).tmod 3))) (se 2 t186 0 0)))) (se 3 t189 (w64 (1+((w64 (x134+1)).tmod 3))) (se 3 t188 (w64 (1+x134)) (se 3 t187 (w64 (1+((w64 (x134+2)).tmod 3))) (se 3 t186 0 0))))).bind fun t212=>((Fj.f K t79 t212 t81 t82 e181.Tet t186 1 (se 0 t189 (w64 (1+((w64 (x134+1)).tmod 3))) (se 0 t188 (w64 (1+x134)) (se 0 t187 0 (se 0 t186 (w64 (1+((w64 (x134+2)).tmod 3))) 0)))) (se 1 t189 (w64 (1+((w64 (x134+1)).tmod 3))) (se 1 t188 (w64 (1+x134)) (se 1 t187 0 (se 1 t186 (w64 (1+((w64 (x134+2)).tmod 3))) 0)))) (se 2 t189 (w64 (1+((w64 (x134+1)).tmod 3))) (se 2 t188 (w64 (1+x134)) (se 2 t187 0 (se 2 t186 (w64 (1+((w64 (x134+2)).tmod 3))) 0)))) (se 3 t189 (w64 (1+((w64 (x134+1)).tmod 3))) (se 3 t188 (w64 (1+x134)) (se 3 t187 0 (se 3 t186 (w64 (1+((w64 (x134+2)).tmod 3))) 0))))).bind fun t216=>(Bn.l1 K k t41 t79 t81 t82 t216 (w64 (x134+1))))) else none) else none) else none) else none)))) else none) else (some (some (t79,x133,t81,([(⟨0,0,1,0⟩:Gi)]:List Gi))))
def Bn.f (K:Nat) (a1:List (List Ab)) (o:Int) (A:Int):Option (Option (List Int × List (Gq × Eg) × Int × List Gi)):=(Bl.f K a1).bind fun t3=>(if 0≤w64 ((w64 (6 * o))+A)∧w64 ((w64 (6 * o))+A)<(t3.length:Int) then ((Bu.f K a1).bind fun t25=>(if 0≤t3.getD ((w64 ((w64 (6 * o))+A)).toNat) 0∧t3.getD ((w64 ((w64 (6 * o))+A)).toNat) 0<(t25.length:Int) then (if (t25.getD ((t3.getD ((w64 ((w64 (6 * o))+A)).toNat) 0).toNat) false)=true then (some none) else ((Ap.f K a1).bind fun t33=>(if 0≤t3.getD ((w64 ((w64 (6 * o))+A)).toNat) 0∧t3.getD ((w64 ((w64 (6 * o))+A)).toNat) 0<(t33.length:Int) then (if (t33.getD ((t3.getD ((w64 ((w64 (6 * o))+A)).toNat) 0).toNat) false)=true then (some none) else ((Co.f K a1 (t3.getD ((w64 ((w64 (6 * o))+A)).toNat) 0)).bind fun t41=>(if (t41.length:Int)=3 then (if 0≤(0:Int)∧(0:Int)<(t41.length:Int) then (bnd (t41.getD 0 Bj) (fun e62=>if 0≤(1:Int)∧(1:Int)<(t41.length:Int) then (bnd (t41.getD 1 Bj) (fun e66=>if e62.Tet=e66.Tet then (some none) else (if 0≤(2:Int)∧(2:Int)<(t41.length:Int) then (bnd (t41.getD 2 Bj) (fun e70=>if e66.Tet=e70.Tet then (some none) else (if e70.Tet=e62.Tet then (some none) else (D7 (Gj.f 2 ([e62.Tet,e66.Tet,e70.Tet]:List Int)) (fun t79 t80 t81 t82=>(Bn.l1 K K t41 t79 t81 t82 t80 0)))))) else none))) else none)) else none) else (some none)))) else none))) else none)) else none)
abbrev Bn.post (w0:World) (L:List Cy) (r1:Option (List Int × List (Gq × Eg) × Int × List Gi)) (en:Ending) (w:World):Prop:=∃ (b_r0:Nat) (A_r1:Option Addr) (c_r2 b_r3:Nat) (A_r4:Option Addr) (c_r5:Nat),en=.returned (.pointer (r1.map fun _=>⟨b_r0,0,none⟩))∧St w0 w (Yz r1 (fun x=>[Box b_r0 104 [.slice A_r1 x.1.length c_r2,.map (some b_r3),.int .i64 x.2.2.1,.slice A_r4 x.2.2.2.length c_r5],Own (Ar .i64) 2 A_r1 c_r2 (fun _=>()) x.1,Ir b_r3 Gh Ey x.2.1,Own Ip 131 A_r4 c_r5 (fun _=>()) x.2.2.2])::L)
mutual
def Er.l1 (K:Nat):Nat→Int→(List Int)→Int→(List (Gq × Eg))→Int→(List Gi)→Option ((List Int) × (List (Gq × Eg)) × Int × (List Gi))
  | 0,_,_,_,_,_,_=>none
  | k+1,tet,t3,t5,b1,x28,a1=>if x28<4 then (D7 (Ct.f K 0) (fun t137 t138 t139 t140=>((Fj.f K t3 b1 t5 a1 tet x28 x28 t137 t138 t139 t140).bind fun t144=>(Er.l5 K k tet t3 t5 x28 t144 a1 0)))) else (some (t3,b1,t5,a1))
def Er.l5 (K:Nat):Nat→Int→(List Int)→Int→Int→(List (Gq × Eg))→(List Gi)→Int→Option ((List Int) × (List (Gq × Eg)) × Int × (List Gi))
  | 0,_,_,_,_,_,_,_=>none
  | k+1,tet,t3,t5,x28,t144,a1,x163=>if x163<x28 then ((Gv.f K x28 x163).bind fun t177=>(if (a1.length+1) * 32≤140737488355328 then (Er.l5 K k tet t3 t5 x28 t144 (a1++[(⟨x28,x163,x163,t177⟩:Gi)]) (w64 (x163+1))) else none)) else (Er.l1 K k tet t3 t5 t144 (w64 (x28+1)) a1)
end
def Er.f (K:Nat) (tet:Int):Option ((List Int) × (List (Gq × Eg)) × Int × (List Gi)):=D7 (Gj.f 4 ([tet]:List Int)) (fun t3 t4 t5 t6=>(Er.l1 K K tet t3 t5 t4 0 t6))
abbrev Er.post (w0:World) (L:List Cy) (r1:List Int) (r2:List (Gq × Eg)) (r3:Int) (r4:List Gi) (en:Ending) (w:World):Prop:=∃ (b_r0:Nat) (A_r1:Option Addr) (c_r2 b_r3:Nat) (A_r4:Option Addr) (c_r5:Nat),en=.returned (.pointer (some ⟨b_r0,0,none⟩))∧St w0 w (Box b_r0 104 [.slice A_r1 r1.length c_r2,.map (some b_r3),.int .i64 r3,.slice A_r4 r4.length c_r5]::Own (Ar .i64) 2 A_r1 c_r2 (fun _=>()) r1::Ir b_r3 Gh Ey r2::Own Ip 131 A_r4 c_r5 (fun _=>()) r4::L)
def Ev.l1 (K:Nat):Nat→Int→Int→Int→Int→Int→Int→Int→Int→Int→Int→Int→Int→Int→Option (Int)
  | 0,_,_,_,_,_,_,_,_,_,_,_,_,_=>none
  | k+1,t1,t2,t3,t4,t8,t9,t10,t11,d1,x26,c1,b1,a1=>if x26<4 then (if 0≤x26∧x26<4 then (if 0≤([t1,t2,t3,t4]:List Int).getD x26.toNat 0∧([t1,t2,t3,t4]:List Int).getD x26.toNat 0<4 then (Ev.l1 K k t1 t2 t3 t4 t8 t9 t10 t11 (se 0 x26 (([t8,t9,t10,t11]:List Int).getD (([t1,t2,t3,t4]:List Int).getD x26.toNat 0).toNat 0) d1) (w64 (x26+1)) (se 1 x26 (([t8,t9,t10,t11]:List Int).getD (([t1,t2,t3,t4]:List Int).getD x26.toNat 0).toNat 0) c1) (se 2 x26 (([t8,t9,t10,t11]:List Int).getD (([t1,t2,t3,t4]:List Int).getD x26.toNat 0).toNat 0) b1) (se 3 x26 (([t8,t9,t10,t11]:List Int).getD (([t1,t2,t3,t4]:List Int).getD x26.toNat 0).toNat 0) a1)) else none) else none) else ((Cu.f K d1 c1 b1 a1).bind fun t50=>(some t50))
def Ev.f (K:Nat) (p:Int) (q:Int):Option (Int):=D7 (Ct.f K p) (fun t1 t2 t3 t4=>(D7 (Ct.f K q) (fun t8 t9 t10 t11=>(Ev.l1 K K t1 t2 t3 t4 t8 t9 t10 t11 0 0 0 0 0))))
abbrev Ev.post:=Iy
mutual
def Ai.l1 (K:Nat):Nat→(List (List Ab))→Int→Int→(List Int)→Int→Int→Int→Int→Int→Int→Int→Int→Int→Option (Int × Int × Int × Int × Int × Int × Int × Int × Bool)
  | 0,_,_,_,_,_,_,_,_,_,_,_,_,_=>none
  | k+1,a1,tet,k_,t11,i1,h1,b1,g1,f1,e1,c1,d1,x552=>if x552<(t11.length:Int) then (if 0≤x552∧x552<(t11.length:Int) then (if 0≤tet∧tet<(a1.length:Int) then (if 0≤t11.getD x552.toNat 0∧t11.getD x552.toNat 0<((a1.getD tet.toNat []).length:Int) then (bnd ((a1.getD tet.toNat []).getD ((t11.getD x552.toNat 0).toNat) Bj) (fun e1084=>(Bi.f e1084.Tet e1084.Perm).bind fun t1089=>(if t1089=true then (some (i1,h1,b1,g1,f1,e1,c1,d1,false)) else ((Fa.f K e1084.Perm).bind fun t1095=>((Gv.f K k_ (t11.getD x552.toNat 0)).bind fun t1099=>((Ev.f K t1095 t1099).bind fun t1103=>(if 0≤t11.getD x552.toNat 0∧t11.getD x552.toNat 0<4 then (Ai.l1 K k a1 tet k_ t11 (se 0 (t11.getD x552.toNat 0) e1084.Tet i1) (se 0 (t11.getD x552.toNat 0) t1103 h1) (se 1 (t11.getD x552.toNat 0) e1084.Tet b1) (se 1 (t11.getD x552.toNat 0) t1103 g1) (se 2 (t11.getD x552.toNat 0) e1084.Tet f1) (se 2 (t11.getD x552.toNat 0) t1103 e1) (se 3 (t11.getD x552.toNat 0) e1084.Tet c1) (se 3 (t11.getD x552.toNat 0) t1103 d1) (w64 (x552+1))) else none))))))) else none) else none) else none) else (Ai.l10 K k a1 i1 h1 b1 g1 f1 e1 c1 d1 0)
def Ai.l10 (K:Nat):Nat→(List (List Ab))→Int→Int→Int→Int→Int→Int→Int→Int→Int→Option (Int × Int × Int × Int × Int × Int × Int × Int × Bool)
  | 0,_,_,_,_,_,_,_,_,_,_=>none
  | k+1,i1,h1,g1,a1,f1,e1,d1,b1,c1,x1232=>if x1232<4 then (Ai.l13 K k i1 h1 g1 a1 f1 e1 d1 b1 c1 x1232 0) else (some (h1,g1,a1,f1,e1,d1,b1,c1,true))
def Ai.l13 (K:Nat):Nat→(List (List Ab))→Int→Int→Int→Int→Int→Int→Int→Int→Int→Int→Option (Int × Int × Int × Int × Int × Int × Int × Int × Bool)
  | 0,_,_,_,_,_,_,_,_,_,_,_=>none
  | k+1,i1,d1,h1,a1,g1,c1,f1,b1,e1,x1232,x1481=>if x1481<4 then (if x1232=x1481 then (Ai.l13 K k i1 d1 h1 a1 g1 c1 f1 b1 e1 x1232 (w64 (x1481+1))) else (if 0≤x1232∧x1232<4 then ((Fa.f K (([h1,g1,f1,e1]:List Int).getD x1232.toNat 0)).bind fun t1547=>(D7 (Ct.f K t1547) (fun t1551 t1552 t1553 t1554=>(if 0≤x1481∧x1481<4 then (if 0≤(([d1,a1,c1,b1]:List Int).getD x1232.toNat 0)∧(([d1,a1,c1,b1]:List Int).getD x1232.toNat 0)<(i1.length:Int) then (if 0≤([t1551,t1552,t1553,t1554]:List Int).getD x1481.toNat 0∧([t1551,t1552,t1553,t1554]:List Int).getD x1481.toNat 0<((i1.getD ((([d1,a1,c1,b1]:List Int).getD x1232.toNat 0).toNat) []).length:Int) then (bnd ((i1.getD ((([d1,a1,c1,b1]:List Int).getD x1232.toNat 0).toNat) []).getD ((([t1551,t1552,t1553,t1554]:List Int).getD x1481.toNat 0).toNat) Bj) (fun e1561=>if e1561.Tet=(([d1,a1,c1,b1]:List Int).getD x1481.toNat 0) then (if (([d1,a1,c1,b1]:List Int).getD x1232.toNat 0)=(([d1,a1,c1,b1]:List Int).getD x1481.toNat 0) then (some (d1,h1,a1,g1,c1,f1,b1,e1,false)) else ((Fa.f K (([h1,g1,f1,e1]:List Int).getD x1232.toNat 0)).bind fun t1587=>((Ev.f K t1587 e1561.Perm).bind fun t1591=>((Ev.f K t1591 (([h1,g1,f1,e1]:List Int).getD x1481.toNat 0)).bind fun t1595=>((Gv.f K x1232 x1481).bind fun t1599=>(if t1595=t1599 then (Ai.l13 K k i1 d1 h1 a1 g1 c1 f1 b1 e1 x1232 (w64 (x1481+1))) else (some (d1,h1,a1,g1,c1,f1,b1,e1,false)))))))) else (some (d1,h1,a1,g1,c1,f1,b1,e1,false)))) else none) else none) else none)))) else none)) else (Ai.l10 K k i1 d1 h1 a1 g1 c1 f1 b1 e1 (w64 (x1232+1)))
end
def Ai.f (K:Nat) (a1:List (List Ab)) (tet:Int) (k_:Int):Option (Int × Int × Int × Int × Int × Int × Int × Int × Bool):=if 0≤k_∧k_<4 then ((Fb.f K ([k_]:List Int)).bind fun t11=>(Ai.l1 K K a1 tet k_ t11 (se 0 k_ tet 0) (se 0 k_ 0 0) (se 1 k_ tet 0) (se 1 k_ 0 0) (se 2 k_ tet 0) (se 2 k_ 0 0) (se 3 k_ tet 0) (se 3 k_ 0 0) 0)) else none
abbrev Ai.post (w0:World) (L:List Cy) (r1 r2:Int) (r3 r4:Int) (r5 r6:Int) (r7 r8:Int) (r9:Bool) (en:Ending) (w:World):Prop:=en=.returned (.tuple #[.agg [.int .i64 r1,.int .i64 r2,.int .i64 r3,.int .i64 r4,.int .i64 r5,.int .i64 r6,.int .i64 r7,.int .i64 r8].toArray,.bool r9])∧St w0 w (L)
def Bz.l1 (K:Nat):Nat→Int→Int→Int→Int→Int→Int→Int→Int→Int→(List Gi)→(List Int)→(List (Gq × Eg))→Int→Option (Option (List Int × List (Gq × Eg) × Int × List Gi))
  | 0,_,_,_,_,_,_,_,_,_,_,_,_,_=>none
  | k+1,t3,t4,t5,t6,t7,t8,t9,t10,t21,t22,a1,b1,x68=>if x68<4 then (if 0≤x68∧x68<4 then (if (a1.length+1) * 8≤140737488355328 then ((Fa.f K (([t4,t6,t8,t10]:List Int).getD x68.toNat 0)).bind fun t115=>(D7 (Ct.f K t115) (fun t119 t120 t121 t122=>(D7 (Ct.f K (([t4,t6,t8,t10]:List Int).getD x68.toNat 0)) (fun t126 t127 t128 t129=>((Fj.f K (a1++[(([t3,t5,t7,t9]:List Int).getD x68.toNat 0)]) b1 t21 t22 (([t3,t5,t7,t9]:List Int).getD x68.toNat 0) (([t119,t120,t121,t122]:List Int).getD x68.toNat 0) 0 t126 t127 t128 t129).bind fun t133=>(Bz.l1 K k t3 t4 t5 t6 t7 t8 t9 t10 t21 t22 (a1++[(([t3,t5,t7,t9]:List Int).getD x68.toNat 0)]) t133 (w64 (x68+1))))))))) else none) else none) else (some (some (a1,b1,t21,t22)))
def Bz.f (K:Nat) (a1:List (List Ab)) (tet:Int) (k_:Int):Option (Option (List Int × List (Gq × Eg) × Int × List Gi)):=Ru (Ai.f K a1 tet k_) (fun t3 t4 t5 t6 t7 t8 t9 t10 t11=>(if t11=true then (D7 (Gj.f 1 ([]:List Int)) (fun t19 t20 t21 t22=>(Bz.l1 K K t3 t4 t5 t6 t7 t8 t9 t10 t21 t22 t19 t20 0))) else (some none)))
abbrev Bz.post (w0:World) (L:List Cy) (r1:Option (List Int × List (Gq × Eg) × Int × List Gi)) (en:Ending) (w:World):Prop:=∃ (b_r0:Nat) (A_r1:Option Addr) (c_r2 b_r3:Nat) (A_r4:Option Addr) (c_r5:Nat),en=.returned (.pointer (r1.map fun _=>⟨b_r0,0,none⟩))∧St w0 w (Yz r1 (fun x=>[Box b_r0 104 [.slice A_r1 x.1.length c_r2,.map (some b_r3),.int .i64 x.2.2.1,.slice A_r4 x.2.2.2.length c_r5],Own (Ar .i64) 2 A_r1 c_r2 (fun _=>()) x.1,Ir b_r3 Gh Ey x.2.1,Own Ip 131 A_r4 c_r5 (fun _=>()) x.2.2.2])::L)
def Ee.f (K:Nat) (b1:List (List Ab)) (c1:Int) (a1:Int) (d1:Int):Option (Option (List Int × List (Gq × Eg) × Int × List Gi)):=if c1=1 then ((Cc.f K b1 a1 d1).bind fun t6=>(some t6)) else (if c1=2 then ((Bn.f K b1 a1 d1).bind fun t17=>(some t17)) else (if c1=3 then (D7 (Er.f K a1) (fun t28 t29 t30 t31=>(some (some (t28,t29,t30,t31))))) else ((Bz.f K b1 a1 d1).bind fun t41=>(some t41))))
abbrev Ee.post (w0:World) (L:List Cy) (r1:Option (List Int × List (Gq × Eg) × Int × List Gi)) (en:Ending) (w:World):Prop:=∃ (b_r0:Nat) (A_r1:Option Addr) (c_r2 b_r3:Nat) (A_r4:Option Addr) (c_r5:Nat),en=.returned (.pointer (r1.map fun _=>⟨b_r0,0,none⟩))∧St w0 w (Yz r1 (fun x=>[Box b_r0 104 [.slice A_r1 x.1.length c_r2,.map (some b_r3),.int .i64 x.2.2.1,.slice A_r4 x.2.2.2.length c_r5],Own (Ar .i64) 2 A_r1 c_r2 (fun _=>()) x.1,Ir b_r3 Gh Ey x.2.1,Own Ip 131 A_r4 c_r5 (fun _=>()) x.2.2.2])::L)
def D5.f (K:Nat) (a1:List (List Ab)) (c1:Int) (b1:Int) (d1:Int):Option ((Option (List Int × List (Gq × Eg) × Int × List Gi)) × Int):=(Dv.f a1 b1).bind fun t18=>(if t18=true then ((F6.f K c1).bind fun t23=>((Hr.f d1 0 (w64 (t23 - 1))).bind fun t27=>(if t27=true then ((Ee.f K a1 c1 b1 d1).bind fun t32=>(gV t32 (some (none,5)) (fun x43=>if 8<w64 ((w64 ((a1.length:Int) - (x43.1.length:Int)))+x43.2.2.1) then (some (none,3)) else (some (some (x43.1,x43.2.1,x43.2.2.1,x43.2.2.2),0))))) else (some (none,2))))) else (some (none,2)))
abbrev D5.post (w0:World) (L:List Cy) (r1:Option (List Int × List (Gq × Eg) × Int × List Gi)) (r2:Int) (en:Ending) (w:World):Prop:=∃ (b_r0:Nat) (A_r1:Option Addr) (c_r2 b_r3:Nat) (A_r4:Option Addr) (c_r5:Nat),en=.returned (.tuple #[.pointer (r1.map fun _=>⟨b_r0,0,none⟩),.int .i64 r2])∧St w0 w (Yz r1 (fun x=>[Box b_r0 104 [.slice A_r1 x.1.length c_r2,.map (some b_r3),.int .i64 x.2.2.1,.slice A_r4 x.2.2.2.length c_r5],Own (Ar .i64) 2 A_r1 c_r2 (fun _=>()) x.1,Ir b_r3 Gh Ey x.2.1,Own Ip 131 A_r4 c_r5 (fun _=>()) x.2.2.2])::L)
def Jq.f:Option (Int × Int):=some ((-1),0)
abbrev Jq.post (w0:World) (L:List Cy) (r1 r2:Int) (en:Ending) (w:World):Prop:=en=.returned (.agg [.int .i64 r1,.int .i64 r2].toArray)∧St w0 w (L)
def I7.f (x:Int) (y:Int):Option (Int × Int):=some (IntKind.wrap .u64 ((IntKind.wrap .u64 ((IntKind.wrap .u64 ((x / 2 ^ 32) * (y / 2 ^ 32)))+((IntKind.wrap .u64 ((IntKind.wrap .u64 ((x / 2 ^ 32) * (Go.bits .and .u64 y 4294967295)))+((IntKind.wrap .u64 ((Go.bits .and .u64 x 4294967295) * (Go.bits .and .u64 y 4294967295))) / 2 ^ 32))) / 2 ^ 32)))+((IntKind.wrap .u64 ((Go.bits .and .u64 (IntKind.wrap .u64 ((IntKind.wrap .u64 ((x / 2 ^ 32) * (Go.bits .and .u64 y 4294967295)))+((IntKind.wrap .u64 ((Go.bits .and .u64 x 4294967295) * (Go.bits .and .u64 y 4294967295))) / 2 ^ 32))) 4294967295)+(IntKind.wrap .u64 ((Go.bits .and .u64 x 4294967295) * (y / 2 ^ 32))))) / 2 ^ 32)),IntKind.wrap .u64 (x * y))
abbrev I7.post (w0:World) (L:List Cy) (r1 r2:Int) (en:Ending) (w:World):Prop:=en=.returned (.tuple #[.int .u64 r1,.int .u64 r2])∧St w0 w (L)
def Jr.f (x:Int) (y:Int):Option (Int × Int):=Ew (I7.f x y) (fun t1 t2=>(some (t1,t2)))
abbrev Jr.post (w0:World) (L:List Cy) (r1 r2:Int) (en:Ending) (w:World):Prop:=en=.returned (.tuple #[.int .u64 r1,.int .u64 r2])∧St w0 w (L)
mutual
def Bh.j2 (K:Nat):Nat→(List Ab)→Int→Bool→Option (List Ab)
  | 0,_,_,_=>none
  | k+1,x,t4,x10=>if x10=true then (none) else (if 0≤w64 (t4) then (if (w64 (t4)).toNat * 16≤281474976710656 then (Bh.l4 K k (over (List.replicate (w64 (t4)).toNat Bj) 0 (x.take ((List.replicate (w64 (t4)).toNat Bj).length))) (((x).take ((List.replicate (w64 (t4)).toNat Bj).length)).length:Int)) else none) else none)
def Bh.l4 (K:Nat):Nat→(List Ab)→Int→Option (List Ab)
  | 0,_,_=>none
  | k+1,a1,b1=>if b1<(a1.length:Int) then (if 0≤b1∧b1≤(a1.length:Int) then (Bh.l4 K k (over a1 b1.toNat (((a1.take b1.toNat).drop 0).take (((a1.take a1.length).drop b1.toNat).length))) (w64 (b1+(((((a1.take b1.toNat).drop 0)).take (((a1.take a1.length).drop b1.toNat).length)).length:Int)))) else none) else (some a1)
end
def Bh.f (K:Nat) (x:List Ab) (count:Int):Option (List Ab):=if count<0 then (none) else (Ew (Jr.f (IntKind.wrap .u64 ((x.length:Int))) (IntKind.wrap .u64 (count))) (fun t3 t4=>(if 0<t3 then (Bh.j2 K K x t4 true) else (Bh.j2 K K x t4 (decide (9223372036854775807<t4))))))
abbrev Bh.post (w0:World) (L:List Cy) (r1:List Ab) (en:Ending) (w:World):Prop:=∃ (A_r0:Option Addr) (c_r1:Nat),en=.returned (.slice A_r0 r1.length c_r1)∧St w0 w (Own Ad 107 A_r0 c_r1 (fun _=>()) r1::L)
def G8.f (K:Nat) (a1:List (List Ab)):Option (List (List Ab)):=(Cr.f K a1).bind fun t5=>(Ew (Jq.f) (fun t15 t16=>((Bh.f K ([(⟨t15,t16⟩:Ab)]:List Ab) 4).bind fun t22=>(if (t5.length+1) * 24≤140737488355328 then (some (t5++[t22])) else none))))
abbrev G8.post (w0:World) (L:List Cy) (r1:List (List Ab)) (en:Ending) (w:World):Prop:=∃ (A_r0:Option Addr) (c_r1:Nat) (y_r2:Nat→(Ty.slice 107 Ad).Lay),en=.returned (.agg [.slice A_r0 r1.length c_r1].toArray)∧St w0 w (Own (Ty.slice 107 Ad) 77 A_r0 c_r1 y_r2 r1::L)
def C9.f (tet:Int) (f:Int) (d1:List Int) (a1:List (Gq × Eg)) (e1:Int) (f1:List Gi) (c1:Int) (b1:List Int):Option (Int × Int):=bnd ((Jn a1 (⟨tet,f⟩:Gq)).getD Qd) (fun e3=>if ((Jn a1 (⟨tet,f⟩:Gq)).isSome)=true then (some (w64 (c1+e3.tet),e3.perm)) else (if 0≤tet∧tet<(b1.length:Int) then (some (b1.getD tet.toNat 0,0)) else none))
abbrev C9.post (w0:World) (L:List Cy) (v0_old:List Int) (v0_outer:List (Gq × Eg)) (v0_news:Int) (v0_inner:List Gi) (v1_2:Int) (v2_2:List Int) (b_v0 b_v0_2:Nat) (A_a:Option Addr) (c_a b_v0_outer:Nat) (A_b:Option Addr) (c_b b_v1 b_v2:Nat) (A_c:Option Addr) (c_c:Nat) (r1 r2:Int) (en:Ending) (w:World):Prop:=en=.returned (.agg [.int .i64 r1,.int .i64 r2].toArray)∧St w0 w (Box b_v0 70 [.pointer (some ⟨b_v0_2,0,none⟩)]::Box b_v0_2 104 [.slice A_a v0_old.length c_a,.map (some b_v0_outer),.int .i64 v0_news,.slice A_b v0_inner.length c_b]::Ir b_v0_outer Gh Ey v0_outer::Box b_v1 2 [.int .i64 v1_2]::Box b_v2 56 [.slice A_c v2_2.length c_c]::L)
def Gl.f (K:Nat) (a1:List (List Ab)) (a_:Int) (f:Int) (b_:Int) (p:Int):Option (List (List Ab)):=if 0≤a_∧a_<(a1.length:Int) then (if 0≤f∧f<((a1.getD a_.toNat []).length:Int) then (if 0≤b_∧b_<((a1.set a_.toNat ((a1.getD a_.toNat []).set f.toNat (⟨b_,p⟩:Ab))).length:Int) then ((F5.f K b_ p f).bind fun t12=>(Ew (F7.f K b_ p a_) (fun t16 t17=>(if 0≤t12∧t12<(((a1.set a_.toNat ((a1.getD a_.toNat []).set f.toNat (⟨b_,p⟩:Ab))).getD b_.toNat []).length:Int) then (some ((a1.set a_.toNat ((a1.getD a_.toNat []).set f.toNat (⟨b_,p⟩:Ab))).set b_.toNat (((a1.set a_.toNat ((a1.getD a_.toNat []).set f.toNat (⟨b_,p⟩:Ab))).getD b_.toNat []).set t12.toNat (⟨t16,t17⟩:Ab)))) else none)))) else none) else none) else none
abbrev Gl.post (w0:World) (L:List Cy) (A_a:Option Addr) (c_a:Nat) (y_a:Nat→(Ty.slice 107 Ad).Lay) (r1:List (List Ab)) (en:Ending) (w:World):Prop:=en=.returned (.tuple #[])∧St w0 w (Own (Ty.slice 107 Ad) 77 A_a c_a y_a r1::L)
mutual
def Ae.l1 (K:Nat):Nat→(List (List Ab))→(List Int)→(List (Gq × Eg))→Int→(List Gi)→(List (List Ab))→(List Int)→Int→Option (List (List Ab))
  | 0,_,_,_,_,_,_,_,_=>none
  | k+1,a1,d1,e1,f1,g1,b1,c1,x2736=>if x2736<(a1.length:Int) then (if 0≤x2736∧x2736<(a1.length:Int) then ((Dk.f K d1 x2736).bind fun t5605=>(if t5605=true then (Ae.l1 K k a1 d1 e1 f1 g1 b1 c1 (w64 (x2736+1))) else ((Bw.f b1).bind fun t5610=>(if 0≤x2736∧x2736<(c1.length:Int) then ((Dh.f (a1.getD x2736.toNat [])).bind fun t5617=>(if (b1.length+1) * 24≤140737488355328 then (Ae.l1 K k a1 d1 e1 f1 g1 (b1++[t5617]) (c1.set x2736.toNat t5610) (w64 (x2736+1))) else none)) else none)))) else none) else ((Bw.f b1).bind fun t5631=>(Ae.Vz K k a1 d1 e1 f1 g1 c1 t5631 b1 0))
def Ae.Vz (K:Nat):Nat→(List (List Ab))→(List Int)→(List (Gq × Eg))→Int→(List Gi)→(List Int)→Int→(List (List Ab))→Int→Option (List (List Ab))
  | 0,_,_,_,_,_,_,_,_,_=>none
  | k+1,b1,g1,c1,a1,d1,f1,t5631,e1,x6584=>if x6584<a1 then ((G8.f K e1).bind fun t7528=>(Ae.Vz K k b1 g1 c1 a1 d1 f1 t5631 t7528 (w64 (x6584+1)))) else ((Bw.f b1).bind fun t7536=>(Ae.Uo K k b1 g1 c1 a1 d1 f1 t5631 t7536 e1 0))
def Ae.Uo (K:Nat):Nat→(List (List Ab))→(List Int)→(List (Gq × Eg))→Int→(List Gi)→(List Int)→Int→Int→(List (List Ab))→Int→Option (List (List Ab))
  | 0,_,_,_,_,_,_,_,_,_,_=>none
  | k+1,e1,g1,c1,d1,a1,f1,t5631,t7536,b1,x7850=>if x7850<t7536 then (Ae.Tx K k e1 g1 c1 d1 a1 f1 t5631 t7536 x7850 b1 0) else (Ae.Xg K k a1 t5631 b1 0)
def Ae.Tx (K:Nat):Nat→(List (List Ab))→(List Int)→(List (Gq × Eg))→Int→(List Gi)→(List Int)→Int→Int→Int→(List (List Ab))→Int→Option (List (List Ab))
  | 0,_,_,_,_,_,_,_,_,_,_,_=>none
  | k+1,a1,c1,b1,d1,f1,g1,t5631,t7536,x7850,e1,x8249=>if x8249<4 then (if 0≤x7850∧x7850<(a1.length:Int) then (if 0≤x8249∧x8249<((a1.getD x7850.toNat []).length:Int) then (bnd ((a1.getD x7850.toNat []).getD x8249.toNat Bj) (fun e8342=>bnd ((Jn b1 (⟨x7850,x8249⟩:Gq)).getD Qd) (fun e8347=>(Bi.f e8342.Tet e8342.Perm).bind fun t8418=>(if t8418=true then (Ae.Un K k a1 c1 b1 d1 f1 g1 t5631 t7536 x7850 e1 x8249 e8342 true) else ((Dk.f K c1 x7850).bind fun t8423=>(if t8423=true then (Ae.Un K k a1 c1 b1 d1 f1 g1 t5631 t7536 x7850 e1 x8249 e8342 (!((Jn b1 (⟨x7850,x8249⟩:Gq)).isSome))) else (Ae.Un K k a1 c1 b1 d1 f1 g1 t5631 t7536 x7850 e1 x8249 e8342 false))))))) else none) else none) else (Ae.Uo K k a1 c1 b1 d1 f1 g1 t5631 t7536 e1 (w64 (x7850+1)))
def Ae.Un (K:Nat):Nat→(List (List Ab))→(List Int)→(List (Gq × Eg))→Int→(List Gi)→(List Int)→Int→Int→Int→(List (List Ab))→Int→Ab→Bool→Option (List (List Ab))
  | 0,_,_,_,_,_,_,_,_,_,_,_,_,_=>none
  | k+1,g1,f1,b1,c1,d1,e1,t5631,t7536,x7850,a1,x8249,e8342,x8372=>if x8372=true then (Ae.Tx K k g1 f1 b1 c1 d1 e1 t5631 t7536 x7850 a1 (w64 (x8249+1))) else (Ew (C9.f x7850 x8249 f1 b1 c1 d1 t5631 e1) (fun t8374 t8375=>((F5.f K e8342.Tet e8342.Perm x8249).bind fun t8379=>(Ew (C9.f e8342.Tet t8379 f1 b1 c1 d1 t5631 e1) (fun t8383 t8384=>(D7 (Ct.f K t8375) (fun t8394 t8395 t8396 t8397=>(if 0≤x8249∧x8249<4 then (if 0≤t8374∧t8374<(a1.length:Int) then ((Fa.f K t8375).bind fun t8404=>((Ev.f K t8404 e8342.Perm).bind fun t8408=>((Ev.f K t8408 t8384).bind fun t8412=>(if 0≤([t8394,t8395,t8396,t8397]:List Int).getD x8249.toNat 0∧([t8394,t8395,t8396,t8397]:List Int).getD x8249.toNat 0<((a1.getD t8374.toNat []).length:Int) then (Ae.Tx K k g1 f1 b1 c1 d1 e1 t5631 t7536 x7850 (a1.set t8374.toNat ((a1.getD t8374.toNat []).set ((([t8394,t8395,t8396,t8397]:List Int).getD x8249.toNat 0).toNat) (⟨t8383,t8412⟩:Ab))) (w64 (x8249+1))) else none)))) else none) else none))))))))
def Ae.Xg (K:Nat):Nat→(List Gi)→Int→(List (List Ab))→Int→Option (List (List Ab))
  | 0,_,_,_,_=>none
  | k+1,a1,t5631,b1,x8442=>if x8442<(a1.length:Int) then (if 0≤x8442∧x8442<(a1.length:Int) then (bnd (a1.getD x8442.toNat fM) (fun e8458=>(Gl.f K b1 (w64 (t5631+e8458.e0)) e8458.e1 (w64 (t5631+e8458.e2)) e8458.e3).bind fun t8463=>(if t8463.length=b1.length then (Ae.Xg K k a1 t5631 t8463 (w64 (x8442+1))) else none))) else none) else (some b1)
end
def Ae.f (K:Nat) (a1:List (List Ab)) (e1:List Int) (b1:List (Gq × Eg)) (c1:Int) (d1:List Gi):Option (List (List Ab)):=if 0≤(a1.length:Int) then (if (a1.length:Int).toNat * 8≤281474976710656 then (Ae.l1 K K a1 e1 b1 c1 d1 ([]:List (List Ab)) (List.replicate (a1.length:Int).toNat (0:Int)) 0) else none) else none
abbrev Ae.post (w0:World) (L:List Cy) (o_old:List Int) (o_outer:List (Gq × Eg)) (o_news:Int) (o_inner:List Gi) (b_o:Nat) (A_b:Option Addr) (c_b b_o_outer:Nat) (A_c:Option Addr) (c_c:Nat) (r1:List (List Ab)) (en:Ending) (w:World):Prop:=∃ (A_r0:Option Addr) (c_r1:Nat) (y_r2:Nat→(Ty.slice 107 Ad).Lay),en=.returned (.agg [.slice A_r0 r1.length c_r1].toArray)∧St w0 w (Own (Ty.slice 107 Ad) 77 A_r0 c_r1 y_r2 r1::Box b_o 104 [.slice A_b o_old.length c_b,.map (some b_o_outer),.int .i64 o_news,.slice A_c o_inner.length c_c]::Ir b_o_outer Gh Ey o_outer::L)
def I4.f (K:Nat) (a1:List (List Ab)) (c1:Int) (b1:Int) (d1:Int):Option ((List (List Ab)) × Int):=(Bp.f K a1).bind fun t7=>(if t7=true then (Ew (D5.f K a1 c1 b1 d1) (fun t12 t13=>(if t13=0 then (gV t12 none (fun x24=>(Ae.f K a1 x24.1 x24.2.1 x24.2.2.1 x24.2.2.2).bind fun t26=>(some (t26,0)))) else (some (([]:List (List Ab)),t13))))) else (some (([]:List (List Ab)),1)))
abbrev I4.post (w0:World) (L:List Cy) (r1:List (List Ab)) (r2:Int) (en:Ending) (w:World):Prop:=∃ (A_r0:Option Addr) (c_r1:Nat) (y_r2:Nat→(Ty.slice 107 Ad).Lay),en=.returned (.tuple #[.agg [.slice A_r0 r1.length c_r1].toArray,.int .i64 r2])∧St w0 w (Own (Ty.slice 107 Ad) 77 A_r0 c_r1 y_r2 r1::L)
def Jy.f (b1:Int) (d1:Int) (a1:Int) (c1:Int):Option (Bool):=if b1=a1 then (if d1=c1 then (some true) else (some false)) else (some false)
abbrev Jy.post:=Kk
def Gb.l1 (K:Nat):Nat→(List Ab)→(List Ab)→Int→Option (Bool)
  | 0,_,_,_=>none
  | k+1,a_,b_,a1=>if a1<(a_.length:Int) then (if 0≤a1∧a1<(a_.length:Int) then (bnd (a_.getD a1.toNat Bj) (fun e29=>if 0≤a1∧a1<(b_.length:Int) then (bnd (b_.getD a1.toNat Bj) (fun e32=>(Jy.f e29.Tet e29.Perm e32.Tet e32.Perm).bind fun t34=>(if t34=true then (Gb.l1 K k a_ b_ (w64 (a1+1))) else (some false)))) else none)) else none) else (some true)
def Gb.f (K:Nat) (a_:List Ab) (b_:List Ab):Option (Bool):=if (a_.length:Int)=(b_.length:Int) then (Gb.l1 K K a_ b_ 0) else (some false)
abbrev Gb.post:=Kk
def Fw.l1 (K:Nat):Nat→(List (List Ab))→(List (List Ab))→Int→Option (Bool)
  | 0,_,_,_=>none
  | k+1,a_,b_,a1=>if a1<(a_.length:Int) then (if 0≤a1∧a1<(a_.length:Int) then (if 0≤a1∧a1<(b_.length:Int) then ((Gb.f K (a_.getD a1.toNat []) (b_.getD a1.toNat [])).bind fun t22=>(if t22=true then (Fw.l1 K k a_ b_ (w64 (a1+1))) else (some false))) else none) else none) else (some true)
def Fw.f (K:Nat) (a_:List (List Ab)) (b_:List (List Ab)):Option (Bool):=if (a_.length:Int)=(b_.length:Int) then (Fw.l1 K K a_ b_ 0) else (some false)
abbrev Fw.post:=Kk
def Da.f (K:Nat) (b1:List (List Ab)) (a1:List (List Ab)):Option (Bool):=(Fw.f K b1 a1).bind fun t5=>(if t5=true then (some true) else (some false))
abbrev Da.post:=Kk
def Jw.f (c1:Int) (d1:Int) (b1:Int) (f1:Int) (a1:Int) (e1:Int):Option (Bool):=if c1=f1 then (if d1=a1 then (if b1=e1 then (some true) else (some false)) else (some false)) else (some false)
abbrev Jw.post:=Kk
def Eu.l1 (K:Nat):Nat→(List Dg)→(List Dg)→Int→Option (Bool)
  | 0,_,_,_=>none
  | k+1,a_,b_,a1=>if a1<(a_.length:Int) then (if 0≤a1∧a1<(a_.length:Int) then (bnd (a_.getD a1.toNat G6) (fun e29=>if 0≤a1∧a1<(b_.length:Int) then (bnd (b_.getD a1.toNat G6) (fun e32=>(Jw.f e29.Kind e29.Tet e29.Index e32.Kind e32.Tet e32.Index).bind fun t34=>(if t34=true then (Eu.l1 K k a_ b_ (w64 (a1+1))) else (some false)))) else none)) else none) else (some true)
def Eu.f (K:Nat) (a_:List Dg) (b_:List Dg):Option (Bool):=if (a_.length:Int)=(b_.length:Int) then (Eu.l1 K K a_ b_ 0) else (some false)
abbrev Eu.post:=Kk
def E5.l1 (K:Nat):Nat→(List Ab)→Int→Int→Option (Int × (List Ab))
  | 0,_,_,_=>none
  | k+1,x10,b1,a1=>if a1<(x10.length:Int) then (if 0≤a1∧a1<(x10.length:Int) then (bnd (x10.getD a1.toNat Bj) (fun e25=>if 0≤a1∧a1<((x10.set a1.toNat ({ e25 with Tet:=b1 })).length:Int) then (bnd ((x10.set a1.toNat ({ e25 with Tet:=b1 })).getD a1.toNat Bj) (fun e29=>E5.l1 K k ((x10.set a1.toNat ({ e25 with Tet:=b1 })).set a1.toNat ({ e29 with Perm:=w64 (b1+1) })) (w64 ((w64 (b1+1))+1)) (w64 (a1+1)))) else none)) else none) else (some (b1,x10))
def E5.f (K:Nat) (a_:List Ab) (k_:Int):Option (Int × (List Ab)):=E5.l1 K K a_ k_ 0
abbrev E5.post (w0:World) (L:List Cy) (A_a:Option Addr) (c_a:Nat) (r1:Int) (r2:List Ab) (en:Ending) (w:World):Prop:=en=.returned (.int .i64 r1)∧St w0 w (Own Ad 107 A_a c_a (fun _=>()) r2::L)
def Fx.l1 (K:Nat):Nat→(List (List Ab))→Int→Int→Option (Int × (List (List Ab)))
  | 0,_,_,_=>none
  | k+1,x9,b1,a1=>if a1<(x9.length:Int) then (if 0≤a1∧a1<(x9.length:Int) then (Ew (E5.f K (x9.getD a1.toNat []) b1) (fun t22 t23=>(if t23.length=(x9.getD a1.toNat []).length then (Fx.l1 K k (x9.set a1.toNat t23) t22 (w64 (a1+1))) else none))) else none) else (some (b1,x9))
def Fx.f (K:Nat) (a_:List (List Ab)) (k_:Int):Option (Int × (List (List Ab))):=Fx.l1 K K a_ k_ 0
abbrev Fx.post (w0:World) (L:List Cy) (A_a:Option Addr) (c_a:Nat) (y_a:Nat→(Ty.slice 107 Ad).Lay) (r1:Int) (r2:List (List Ab)) (en:Ending) (w:World):Prop:=en=.returned (.int .i64 r1)∧St w0 w (Own (Ty.slice 107 Ad) 77 A_a c_a y_a r2::L)
def Fz.f (K:Nat) (a1:List (List Ab)) (k_:Int):Option (Int × (List (List Ab))):=Ew (Fx.f K a1 k_) (fun t3 t4=>(if t4.length=a1.length then (some (t3,t4)) else none))
abbrev Fz.post (w0:World) (L:List Cy) (A_a:Option Addr) (c_a:Nat) (y_a:Nat→(Ty.slice 107 Ad).Lay) (r1:Int) (r2:List (List Ab)) (en:Ending) (w:World):Prop:=en=.returned (.int .i64 r1)∧St w0 w (Own (Ty.slice 107 Ad) 77 A_a c_a y_a r2::L)
def Fg.l1 (K:Nat):Nat→(List Dg)→Int→Int→Option (Int × (List Dg))
  | 0,_,_,_=>none
  | k+1,x14,b1,a1=>if a1<(x14.length:Int) then (if 0≤a1∧a1<(x14.length:Int) then (bnd (x14.getD a1.toNat G6) (fun e33=>if 0≤a1∧a1<((x14.set a1.toNat ({ e33 with Kind:=b1 })).length:Int) then (bnd ((x14.set a1.toNat ({ e33 with Kind:=b1 })).getD a1.toNat G6) (fun e37=>if 0≤a1∧a1<(((x14.set a1.toNat ({ e33 with Kind:=b1 })).set a1.toNat ({ e37 with Tet:=w64 (b1+1) })).length:Int) then (bnd (((x14.set a1.toNat ({ e33 with Kind:=b1 })).set a1.toNat ({ e37 with Tet:=w64 (b1+1) })).getD a1.toNat G6) (fun e41=>Fg.l1 K k (((x14.set a1.toNat ({ e33 with Kind:=b1 })).set a1.toNat ({ e37 with Tet:=w64 (b1+1) })).set a1.toNat ({ e41 with Index:=w64 ((w64 (b1+1))+1) })) (w64 ((w64 ((w64 (b1+1))+1))+1)) (w64 (a1+1)))) else none)) else none)) else none) else (some (b1,x14))
def Fg.f (K:Nat) (a_:List Dg) (k_:Int):Option (Int × (List Dg)):=Fg.l1 K K a_ k_ 0
abbrev Fg.post (w0:World) (L:List Cy) (A_a:Option Addr) (c_a:Nat) (r1:Int) (r2:List Dg) (en:Ending) (w:World):Prop:=en=.returned (.int .i64 r1)∧St w0 w (Own Ej 33 A_a c_a (fun _=>()) r2::L)
def Ez.l1 (K:Nat):Nat→(List Ab)→Int→Int→Option (Int)
  | 0,_,_,_=>none
  | k+1,a_,k_7,i_8=>if i_8<(a_.length:Int) then (if 0≤i_8∧i_8<(a_.length:Int) then (bnd (a_.getD i_8.toNat Bj) (fun e17=>if e17.Tet=k_7 then (if e17.Perm=w64 (k_7+1) then (Ez.l1 K k a_ (w64 ((w64 (k_7+1))+1)) (w64 (i_8+1))) else (some (-1))) else (some (-1)))) else none) else (some k_7)
def Ez.f (K:Nat) (a_:List Ab) (k_:Int):Option (Int):=Ez.l1 K K a_ k_ 0
abbrev Ez.post:=Iy
def Fp.l1 (K:Nat):Nat→(List (List Ab))→Int→Int→Option (Int)
  | 0,_,_,_=>none
  | k+1,a_,k_8,i_9=>if i_9<(a_.length:Int) then (if 0≤i_9∧i_9<(a_.length:Int) then ((Ez.f K (a_.getD i_9.toNat []) k_8).bind fun t19=>(if t19<0 then (some (-1)) else (Fp.l1 K k a_ t19 (w64 (i_9+1))))) else none) else (some k_8)
def Fp.f (K:Nat) (a_:List (List Ab)) (k_:Int):Option (Int):=Fp.l1 K K a_ k_ 0
abbrev Fp.post:=Iy
def F4.f (K:Nat) (a1:List (List Ab)) (k_:Int):Option (Int):=(Fp.f K a1 k_).bind fun t3=>(if t3<0 then (some (-1)) else (some t3))
abbrev F4.post:=Iy
def Jd.f (d1:List (List Int)) (e1:List (List Int)) (f1:List (List Int)) (c1:Int) (a1:Int) (b1:Int):Option (Int):=if c1=1 then (if 0≤a1∧a1<(f1.length:Int) then (if 0≤b1∧b1<((f1.getD a1.toNat []).length:Int) then (some ((f1.getD a1.toNat []).getD b1.toNat 0)) else none) else none) else (if c1=2 then (if 0≤a1∧a1<(e1.length:Int) then (if 0≤b1∧b1<((e1.getD a1.toNat []).length:Int) then (some ((e1.getD a1.toNat []).getD b1.toNat 0)) else none) else none) else (if c1=3 then (some a1) else (if 0≤a1∧a1<(d1.length:Int) then (if 0≤b1∧b1<((d1.getD a1.toNat []).length:Int) then (some ((d1.getD a1.toNat []).getD b1.toNat 0)) else none) else none)))
abbrev Jd.post:=Iy
def Hq.f (K:Nat) (b1:List (List Ab)) (c1:Int) (a1:Int) (d1:Int):Option (Int):=D7 (H6.f K b1 c1 a1 d1) (fun t5 t6 t7 t8=>(some t8))
abbrev Hq.post:=Iy
mutual
def Br.l1 (K:Nat):Nat→(List (List Ab))→(List (List Int))→(List (List Int))→(List (List Int))→(List Dg)→Int→Option (List Dg)
  | 0,_,_,_,_,_,_=>none
  | k+1,c1,t5,t6,t7,b1,a1=>if a1≤4 then (Br.l10 K k c1 t5 t6 t7 a1 b1 ([]:List Int) 0) else (some b1)
def Br.l10 (K:Nat):Nat→(List (List Ab))→(List (List Int))→(List (List Int))→(List (List Int))→Int→(List Dg)→(List Int)→Int→Option (List Dg)
  | 0,_,_,_,_,_,_,_,_=>none
  | k+1,a1,t5,t6,t7,d1,c1,e1,b1=>(Cs.f a1).bind fun t1187=>(if b1<t1187 then (Br.l13 K k a1 t5 t6 t7 d1 b1 c1 e1 0) else (Br.l1 K k a1 t5 t6 t7 c1 (w64 (d1+1))))
def Br.l13 (K:Nat):Nat→(List (List Ab))→(List (List Int))→(List (List Int))→(List (List Int))→Int→Int→(List Dg)→(List Int)→Int→Option (List Dg)
  | 0,_,_,_,_,_,_,_,_,_=>none
  | k+1,e1,t5,t6,t7,a1,b1,f1,d1,c1=>(E9.f K a1).bind fun t1285=>(if c1≤t1285 then ((Jd.f t5 t6 t7 a1 b1 c1).bind fun t1293=>((Eb.f K d1 t1293).bind fun t1306=>(if t1306=true then (Br.l13 K k e1 t5 t6 t7 a1 b1 f1 d1 (w64 (c1+1))) else ((Hq.f K e1 a1 b1 c1).bind fun t1311=>(if t1311=0 then (if (f1.length+1) * 24≤140737488355328 then (if (d1.length+1) * 8≤140737488355328 then (Br.l13 K k e1 t5 t6 t7 a1 b1 (f1++[(⟨a1,b1,c1⟩:Dg)]) (d1++[t1293]) (w64 (c1+1))) else none) else none) else (Br.l13 K k e1 t5 t6 t7 a1 b1 f1 d1 (w64 (c1+1)))))))) else (Br.l10 K k e1 t5 t6 t7 a1 f1 d1 (w64 (b1+1))))
end
def Br.f (K:Nat) (a1:List (List Ab)):Option (List Dg):=D7 (Bf.f K a1) (fun t5 t6 t7 t8=>(Br.l1 K K a1 t5 t6 t7 ([]:List Dg) 1))
abbrev Br.post (w0:World) (L:List Cy) (r1:List Dg) (en:Ending) (w:World):Prop:=∃ (A_r0:Option Addr) (c_r1:Nat),en=.returned (.slice A_r0 r1.length c_r1)∧St w0 w (Own Ej 33 A_r0 c_r1 (fun _=>()) r1::L)
def Cx.f (K:Nat) (tet:Int) (f:Int) (b1:Int) (g1:Int) (d1:Int) (c1:Int) (e1:Int) (f1:Int) (a1:List Int):Option (List Int):=if 0≤f∧f<4 then ((Gf.f K a1 (w64 ((w64 (4 * tet))+f)) (w64 ((w64 (4 * b1))+(([d1,c1,e1,f1]:List Int).getD f.toNat 0)))).bind fun t6=>(if t6.length=a1.length then (some t6) else none)) else none
abbrev Cx.post (w0:World) (L:List Cy) (b_v0:Nat) (A_a:Option Addr) (c_a:Nat) (r1:List Int) (en:Ending) (w:World):Prop:=en=.returned (.tuple #[])∧St w0 w (Box b_v0 56 [.slice A_a r1.length c_a]::Own (Ar .i64) 2 A_a c_a (fun _=>()) r1::L)
mutual
def Ag.l1 (K:Nat):Nat→(List (List Ab))→(List Int)→Int→Option (List Int)
  | 0,_,_,_=>none
  | k+1,a1,x79,x80=>if x80<(a1.length:Int) then (if 0≤x80∧x80<(a1.length:Int) then (Ag.l4 K k a1 x80 x79 0) else none) else (some x79)
def Ag.l4 (K:Nat):Nat→(List (List Ab))→Int→(List Int)→Int→Option (List Int)
  | 0,_,_,_,_=>none
  | k+1,a1,x80,x183,x184=>if x184<((a1.getD x80.toNat []).length:Int) then (if 0≤x184∧x184<((a1.getD x80.toNat []).length:Int) then (bnd ((a1.getD x80.toNat []).getD x184.toNat Bj) (fun e211=>(Bi.f e211.Tet e211.Perm).bind fun t216=>(if t216=true then (Ag.l4 K k a1 x80 x183 (w64 (x184+1))) else (D7 (Ct.f K e211.Perm) (fun t221 t222 t223 t224=>((Cx.f K x80 x184 e211.Tet e211.Perm t221 t222 t223 t224 x183).bind fun t228=>(if t228.length=x183.length then (Ag.l4 K k a1 x80 t228 (w64 (x184+1))) else none))))))) else none) else (Ag.l1 K k a1 x183 (w64 (x80+1)))
end
def Ag.f (K:Nat) (a1:List (List Ab)) (b1:List Int):Option (List Int):=Ag.l1 K K a1 b1 0
abbrev Ag.post (w0:World) (L:List Cy) (b_cap:Nat) (A_b:Option Addr) (c_b:Nat) (r1:List Int) (en:Ending) (w:World):Prop:=en=.returned (.tuple #[])∧St w0 w (Box b_cap 56 [.slice A_b r1.length c_b]::Own (Ar .i64) 2 A_b c_b (fun _=>()) r1::L)
def Dy.f (K:Nat) (a1:List (List Ab)):Option (List Int):=(Bw.f a1).bind fun t3=>((Eo.f K (w64 (4 * t3))).bind fun t7=>((Ag.f K a1 t7).bind fun t16=>(if t16.length=t7.length then ((Dc.f K t16).bind fun t21=>(some t21)) else none)))
abbrev Dy.post (w0:World) (L:List Cy) (r1:List Int) (en:Ending) (w:World):Prop:=∃ (A_r0:Option Addr) (c_r1:Nat),en=.returned (.slice A_r0 r1.length c_r1)∧St w0 w (Own (Ar .i64) 2 A_r0 c_r1 (fun _=>()) r1::L)
def Bc.l1 (K:Nat):Nat→Int→Int→Int→Int→Int→Int→(List Int)→(List Int)→Int→Option (List Int)
  | 0,_,_,_,_,_,_,_,_,_=>none
  | k+1,tet,a1,c1,b1,d1,e1,t7,x21,x22=>if x22<(t7.length:Int) then (if 0≤x22∧x22<(t7.length:Int) then (if 0≤t7.getD x22.toNat 0∧t7.getD x22.toNat 0<4 then ((Gf.f K x21 (w64 ((w64 (4 * tet))+(t7.getD x22.toNat 0))) (w64 ((w64 (4 * a1))+(([c1,b1,d1,e1]:List Int).getD (t7.getD x22.toNat 0).toNat 0)))).bind fun t34=>(if t34.length=x21.length then (Bc.l1 K k tet a1 c1 b1 d1 e1 t7 t34 (w64 (x22+1))) else none)) else none) else none) else (some x21)
def Bc.f (K:Nat) (tet:Int) (f:Int) (a1:Int) (g1:Int) (d1:Int) (c1:Int) (e1:Int) (f1:Int) (b1:List Int):Option (List Int):=(Fb.f K ([f]:List Int)).bind fun t7=>(Bc.l1 K K tet a1 d1 c1 e1 f1 t7 b1 0)
abbrev Bc.post (w0:World) (L:List Cy) (b_v0:Nat) (A_a:Option Addr) (c_a:Nat) (r1:List Int) (en:Ending) (w:World):Prop:=en=.returned (.tuple #[])∧St w0 w (Box b_v0 56 [.slice A_a r1.length c_a]::Own (Ar .i64) 2 A_a c_a (fun _=>()) r1::L)
mutual
def Af.l1 (K:Nat):Nat→(List (List Ab))→(List Int)→Int→Option (List Int)
  | 0,_,_,_=>none
  | k+1,a1,x79,x80=>if x80<(a1.length:Int) then (if 0≤x80∧x80<(a1.length:Int) then (Af.l4 K k a1 x80 x79 0) else none) else (some x79)
def Af.l4 (K:Nat):Nat→(List (List Ab))→Int→(List Int)→Int→Option (List Int)
  | 0,_,_,_,_=>none
  | k+1,a1,x80,x183,x184=>if x184<((a1.getD x80.toNat []).length:Int) then (if 0≤x184∧x184<((a1.getD x80.toNat []).length:Int) then (bnd ((a1.getD x80.toNat []).getD x184.toNat Bj) (fun e211=>(Bi.f e211.Tet e211.Perm).bind fun t216=>(if t216=true then (Af.l4 K k a1 x80 x183 (w64 (x184+1))) else (D7 (Ct.f K e211.Perm) (fun t221 t222 t223 t224=>((Bc.f K x80 x184 e211.Tet e211.Perm t221 t222 t223 t224 x183).bind fun t228=>(if t228.length=x183.length then (Af.l4 K k a1 x80 t228 (w64 (x184+1))) else none))))))) else none) else (Af.l1 K k a1 x183 (w64 (x80+1)))
end
def Af.f (K:Nat) (a1:List (List Ab)) (b1:List Int):Option (List Int):=Af.l1 K K a1 b1 0
abbrev Af.post (w0:World) (L:List Cy) (b_cap:Nat) (A_b:Option Addr) (c_b:Nat) (r1:List Int) (en:Ending) (w:World):Prop:=en=.returned (.tuple #[])∧St w0 w (Box b_cap 56 [.slice A_b r1.length c_b]::Own (Ar .i64) 2 A_b c_b (fun _=>()) r1::L)
def Dt.f (K:Nat) (a1:List (List Ab)):Option (List Int):=(Bw.f a1).bind fun t3=>((Eo.f K (w64 (4 * t3))).bind fun t7=>((Af.f K a1 t7).bind fun t16=>(if t16.length=t7.length then ((Dc.f K t16).bind fun t21=>(some t21)) else none)))
abbrev Dt.post (w0:World) (L:List Cy) (r1:List Int) (en:Ending) (w:World):Prop:=∃ (A_r0:Option Addr) (c_r1:Nat),en=.returned (.slice A_r0 r1.length c_r1)∧St w0 w (Own (Ar .i64) 2 A_r0 c_r1 (fun _=>()) r1::L)
def Fh.f (K:Nat) (c1:List (List Ab)) (d1:Int) (a1:Int) (b1:Int):Option (Int):=if d1=1 then ((Dy.f K c1).bind fun t6=>(if 0≤w64 ((w64 (4 * a1))+b1)∧w64 ((w64 (4 * a1))+b1)<(t6.length:Int) then (some (t6.getD ((w64 ((w64 (4 * a1))+b1)).toNat) 0)) else none)) else (if d1=2 then ((Bl.f K c1).bind fun t14=>(if 0≤w64 ((w64 (6 * a1))+b1)∧w64 ((w64 (6 * a1))+b1)<(t14.length:Int) then (some (t14.getD ((w64 ((w64 (6 * a1))+b1)).toNat) 0)) else none)) else (if d1=3 then (some a1) else ((Dt.f K c1).bind fun t22=>(if 0≤w64 ((w64 (4 * a1))+b1)∧w64 ((w64 (4 * a1))+b1)<(t22.length:Int) then (some (t22.getD ((w64 ((w64 (4 * a1))+b1)).toNat) 0)) else none))))
abbrev Fh.post:=Iy
mutual
def Ak.l1 (K:Nat):Nat→(List (List Ab))→(List Dg)→(List (Gq × Bool))→Int→Option (List Dg)
  | 0,_,_,_,_=>none
  | k+1,a1,b1,d1,c1=>if c1≤4 then ((Bw.f a1).bind fun t648=>(Ak.l10 K k a1 c1 t648 b1 d1 0)) else (some b1)
def Ak.l10 (K:Nat):Nat→(List (List Ab))→Int→Int→(List Dg)→(List (Gq × Bool))→Int→Option (List Dg)
  | 0,_,_,_,_,_,_=>none
  | k+1,c1,a1,t648,d1,b1,x759=>if x759<t648 then ((F6.f K a1).bind fun t864=>(Ak.l13 K k c1 a1 t648 x759 t864 d1 b1 0)) else (Ak.l1 K k c1 d1 b1 (w64 (a1+1)))
def Ak.l13 (K:Nat):Nat→(List (List Ab))→Int→Int→Int→Int→(List Dg)→(List (Gq × Bool))→Int→Option (List Dg)
  | 0,_,_,_,_,_,_,_,_=>none
  | k+1,b1,a1,t648,x759,t864,d1,c1,x903=>if x903<t864 then (Ew (D5.f K b1 a1 x759 x903) (fun t939 t940=>(if t940=0 then ((Fh.f K b1 a1 x759 x903).bind fun t951=>(if ((Jn c1 (⟨a1,t951⟩:Gq)).getD false)=true then (Ak.l13 K k b1 a1 t648 x759 t864 d1 c1 (w64 (x903+1))) else (if (d1.length+1) * 24≤140737488355328 then (Ak.l13 K k b1 a1 t648 x759 t864 (d1++[(⟨a1,x759,x903⟩:Dg)]) (Ns c1 (⟨a1,t951⟩:Gq) true) (w64 (x903+1))) else none))) else (Ak.l13 K k b1 a1 t648 x759 t864 d1 c1 (w64 (x903+1)))))) else (Ak.l10 K k b1 a1 t648 d1 c1 (w64 (x759+1)))
end
def Ak.f (K:Nat) (a1:List (List Ab)):Option (List Dg):=Ak.l1 K K a1 ([]:List Dg) ([]:List (Gq × Bool)) 1
abbrev Ak.post (w0:World) (L:List Cy) (r1:List Dg) (en:Ending) (w:World):Prop:=∃ (A_r0:Option Addr) (c_r1:Nat),en=.returned (.slice A_r0 r1.length c_r1)∧St w0 w (Own Ej 33 A_r0 c_r1 (fun _=>()) r1::L)
def El.l1 (K:Nat):Nat→(List Dg)→Int→Int→Option (Int)
  | 0,_,_,_=>none
  | k+1,a_,k_8,i_9=>if i_9<(a_.length:Int) then (if 0≤i_9∧i_9<(a_.length:Int) then (bnd (a_.getD i_9.toNat G6) (fun e19=>if e19.Kind=k_8 then (if e19.Tet=w64 (k_8+1) then (if e19.Index=w64 ((w64 (k_8+1))+1) then (El.l1 K k a_ (w64 ((w64 ((w64 (k_8+1))+1))+1)) (w64 (i_9+1))) else (some (-1))) else (some (-1))) else (some (-1)))) else none) else (some k_8)
def El.f (K:Nat) (a_:List Dg) (k_:Int):Option (Int):=El.l1 K K a_ k_ 0
abbrev El.post:=Iy
def Hm.f (K:Nat) (a1:List (List Ab)):Option (List Dg):=(Aj.f K a1).bind fun t3=>(if t3=true then ((Br.f K a1).bind fun t8=>(some t8)) else (some ([]:List Dg)))
abbrev Hm.post (w0:World) (L:List Cy) (r1:List Dg) (en:Ending) (w:World):Prop:=∃ (A_r0:Option Addr) (c_r1:Nat),en=.returned (.slice A_r0 r1.length c_r1)∧St w0 w (Own Ej 33 A_r0 c_r1 (fun _=>()) r1::L)
def Dw.l1 (K:Nat):Nat→(List Dg)→Int→Int→Option (Int × Int × Int × Bool)
  | 0,_,_,_=>none
  | k+1,list,kind,a1=>if a1<(list.length:Int) then (if 0≤a1∧a1<(list.length:Int) then (bnd (list.getD a1.toNat G6) (fun e20=>if e20.Kind=kind then (some (e20.Kind,e20.Tet,e20.Index,true)) else (Dw.l1 K k list kind (w64 (a1+1))))) else none) else (some (0,0,0,false))
def Dw.f (K:Nat) (list:List Dg) (kind:Int):Option (Int × Int × Int × Bool):=Dw.l1 K K list kind 0
abbrev Dw.post (w0:World) (L:List Cy) (r1 r2 r3:Int) (r4:Bool) (en:Ending) (w:World):Prop:=en=.returned (.tuple #[.agg [.int .i64 r1,.int .i64 r2,.int .i64 r3].toArray,.bool r4])∧St w0 w (L)
mutual
def Cq.l1 (K:Nat):Nat→(List (List Ab))→(List Dg)→Option ((List (List Ab)) × (List Dg))
  | 0,_,_=>none
  | k+1,a1,b1=>(Hm.f K a1).bind fun t144=>(D7 (Dw.f K t144 4) (fun t150 t151 t152 t153=>(if t153=true then (Cq.j4 K k a1 b1 t150 t151 t152 t153) else (D7 (Dw.f K t144 2) (fun t196 t197 t198 t199=>(Cq.j4 K k a1 b1 t196 t197 t198 t199))))))
def Cq.j4 (K:Nat):Nat→(List (List Ab))→(List Dg)→Int→Int→Int→Bool→Option ((List (List Ab)) × (List Dg))
  | 0,_,_,_,_,_,_=>none
  | k+1,b1,a1,d1,c1,e1,f1=>if f1=true then (Ew (I5.f K b1 d1 c1 e1) (fun t174 t175=>(if t175=0 then (if (a1.length+1) * 24≤140737488355328 then (Cq.l1 K k t174 (a1++[(⟨d1,c1,e1⟩:Dg)])) else none) else (some (b1,a1))))) else (some (b1,a1))
end
def Cq.f (K:Nat) (a1:List (List Ab)):Option ((List (List Ab)) × (List Dg)):=(Gy.f K a1).bind fun t5=>(Cq.l1 K K t5 ([]:List Dg))
abbrev Cq.post (w0:World) (L:List Cy) (r1:List (List Ab)) (r2:List Dg) (en:Ending) (w:World):Prop:=∃ (A_r0:Option Addr) (c_r1:Nat) (y_r2:Nat→(Ty.slice 107 Ad).Lay) (A_r3:Option Addr) (c_r4:Nat),en=.returned (.tuple #[.agg [.slice A_r0 r1.length c_r1].toArray,.slice A_r3 r2.length c_r4])∧St w0 w (Own (Ty.slice 107 Ad) 77 A_r0 c_r1 y_r2 r1::Own Ej 33 A_r3 c_r4 (fun _=>()) r2::L)
def Hl.f (K:Nat) (a1:List (List Ab)):Option ((List (List Ab)) × (List Dg) × Int):=(Aj.f K a1).bind fun t5=>(if t5=true then (Ew (Cq.f K a1) (fun t10 t11=>(some (t10,t11,0)))) else (some (([]:List (List Ab)),([]:List Dg),1)))
abbrev Hl.post (w0:World) (L:List Cy) (r1:List (List Ab)) (r2:List Dg) (r3:Int) (en:Ending) (w:World):Prop:=∃ (A_r0:Option Addr) (c_r1:Nat) (y_r2:Nat→(Ty.slice 107 Ad).Lay) (A_r3:Option Addr) (c_r4:Nat),en=.returned (.tuple #[.agg [.slice A_r0 r1.length c_r1].toArray,.slice A_r3 r2.length c_r4,.int .i64 r3])∧St w0 w (Own (Ty.slice 107 Ad) 77 A_r0 c_r1 y_r2 r1::Own Ej 33 A_r3 c_r4 (fun _=>()) r2::L)
def Et.f (a1:Int) (b1:Int) (c1:Int):Option (Bool):=some (decide (a1=4))
abbrev Et.post:=Kk
def Aw.l1 (K:Nat):Nat→(List Dg)→Int→Option (Int)
  | 0,_,_=>none
  | k+1,s,x10=>if x10<(s.length:Int) then (if 0≤x10∧x10<(s.length:Int) then (bnd (s.getD x10.toNat G6) (fun e22=>(Et.f e22.Kind e22.Tet e22.Index).bind fun t24=>(if t24=true then (some x10) else (Aw.l1 K k s (w64 (x10+1)))))) else none) else (some (-1))
def Aw.f (K:Nat) (s:List Dg):Option (Int):=Aw.l1 K K s 0
abbrev Aw.post:=Iy
def Es.f (a1:Int) (b1:Int) (c1:Int):Option (Bool):=some (decide (a1=2))
abbrev Es.post:=Kk
def Ay.l1 (K:Nat):Nat→(List Dg)→Int→Option (Int)
  | 0,_,_=>none
  | k+1,s,x10=>if x10<(s.length:Int) then (if 0≤x10∧x10<(s.length:Int) then (bnd (s.getD x10.toNat G6) (fun e22=>(Es.f e22.Kind e22.Tet e22.Index).bind fun t24=>(if t24=true then (some x10) else (Ay.l1 K k s (w64 (x10+1)))))) else none) else (some (-1))
def Ay.f (K:Nat) (s:List Dg):Option (Int):=Ay.l1 K K s 0
abbrev Ay.post:=Iy
mutual
def Bg.l1 (K:Nat):Nat→(List (List Ab))→(List Dg)→Option ((List (List Ab)) × (List Dg))
  | 0,_,_=>none
  | k+1,a1,b1=>(Ak.f K a1).bind fun t96=>((Aw.f K t96).bind fun t102=>(if t102<0 then ((Ay.f K t96).bind fun t134=>(Bg.j4 K k a1 b1 t96 t134)) else (Bg.j4 K k a1 b1 t96 t102)))
def Bg.j4 (K:Nat):Nat→(List (List Ab))→(List Dg)→(List Dg)→Int→Option ((List (List Ab)) × (List Dg))
  | 0,_,_,_,_=>none
  | k+1,c1,b1,t96,a1=>if a1<0 then (some (c1,b1)) else (if 0≤a1∧a1<(t96.length:Int) then (bnd (t96.getD a1.toNat G6) (fun e116=>Ew (I4.f K c1 e116.Kind e116.Tet e116.Index) (fun t118 t119=>(if (b1.length+1) * 24≤140737488355328 then (Bg.l1 K k t118 (b1++[(⟨e116.Kind,e116.Tet,e116.Index⟩:Dg)])) else none)))) else none)
end
def Bg.f (K:Nat) (a1:List (List Ab)):Option ((List (List Ab)) × (List Dg)):=Bg.l1 K K a1 ([]:List Dg)
abbrev Bg.post (w0:World) (L:List Cy) (r1:List (List Ab)) (r2:List Dg) (en:Ending) (w:World):Prop:=∃ (A_r0:Option Addr) (c_r1:Nat) (y_r2:Nat→(Ty.slice 107 Ad).Lay) (A_r3:Option Addr) (c_r4:Nat),en=.returned (.tuple #[.agg [.slice A_r0 r1.length c_r1].toArray,.slice A_r3 r2.length c_r4])∧St w0 w (Own (Ty.slice 107 Ad) 77 A_r0 c_r1 y_r2 r1::Own Ej 33 A_r3 c_r4 (fun _=>()) r2::L)
def Gw.f (K:Nat) (a1:List (List Ab)):Option ((List (List Ab)) × (List Dg) × Int):=(Bp.f K a1).bind fun t5=>(if t5=true then ((Cr.f K a1).bind fun t10=>(Ew (Bg.f K t10) (fun t17 t18=>(some (t17,t18,0))))) else (some (([]:List (List Ab)),([]:List Dg),1)))
abbrev Gw.post (w0:World) (L:List Cy) (r1:List (List Ab)) (r2:List Dg) (r3:Int) (en:Ending) (w:World):Prop:=∃ (A_r0:Option Addr) (c_r1:Nat) (y_r2:Nat→(Ty.slice 107 Ad).Lay) (A_r3:Option Addr) (c_r4:Nat),en=.returned (.tuple #[.agg [.slice A_r0 r1.length c_r1].toArray,.slice A_r3 r2.length c_r4,.int .i64 r3])∧St w0 w (Own (Ty.slice 107 Ad) 77 A_r0 c_r1 y_r2 r1::Own Ej 33 A_r3 c_r4 (fun _=>()) r2::L)
def F8.f (K:Nat) (a1:List (List Ab)):Option (Bool):=(Gr.f K a1 1048576).bind fun t3=>(if t3<0 then (some true) else ((Eh.f K a1).bind fun t8=>(Jk (Hl.f K t8) (fun t15 t16 t17=>((Eh.f K a1).bind fun t29=>(Jk (Gw.f K t29) (fun t39 t40 t41=>((Da.f K t39 t15).bind fun t63=>(if t63=true then ((Eu.f K t40 t16).bind fun t68=>(if t68=true then (if t41=t17 then ((Eh.f K a1).bind fun t74=>((Da.f K t29 t74).bind fun t81=>(if t81=true then (Ew (Fz.f K t29 1) (fun t86 t87=>(if t87.length=t29.length then (if t86<0 then (some false) else ((Da.f K t39 t15).bind fun t104=>(if t104=true then ((Eu.f K t40 t16).bind fun t109=>(if t109=true then (Ew (Fz.f K t39 1) (fun t114 t115=>(if t115.length=t39.length then (Ew (Fg.f K t40 t114) (fun t120 t121=>(if t121.length=t40.length then ((F4.f K t115 1).bind fun t126=>(if t126<0 then (some false) else ((El.f K t121 t126).bind fun t131=>(if t131<0 then (some false) else (if t131=t120 then ((Eh.f K a1).bind fun t137=>(Jk (Gw.f K t137) (fun t144 t145 t146=>((Da.f K t144 t15).bind fun t168=>(if t168=true then ((Eu.f K t145 t16).bind fun t173=>(if t173=true then (if t146=t17 then ((F4.f K t115 1).bind fun t179=>(if t179<0 then (some false) else ((El.f K t121 t179).bind fun t184=>(if t184<0 then (some false) else (if t184=t120 then (some true) else (some false)))))) else (some false)) else (some false))) else (some false)))))) else (some false)))))) else none))) else none))) else (some false))) else (some false)))) else none))) else (some false)))) else (some false)) else (some false))) else (some false))))))))))
abbrev F8.post:=Kk
end Go.Proofs.YtbjfinndngafoaaGreat
