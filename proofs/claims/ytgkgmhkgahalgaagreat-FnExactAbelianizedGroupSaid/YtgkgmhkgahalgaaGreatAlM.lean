import Derived.Test.YtgkgmhkgahalgaaGreatSlW
set_option linter.unusedVariables false
set_option linter.unusedSimpArgs false
namespace Go.Proofs.YtgkgmhkgahalgaaGreat
open Go.RowKit
structure Am where
 Tet:Int
 Perm:Int
 deriving DecidableEq
def Eo:Am:=⟨0,0⟩
def Ak:Ty Am:=Ty.flat 2 (fun x=>[.int .i64 x.Tet,.int .i64 x.Perm]) (fun _=>rfl) (fun x u h=>by simp only [List.mem_cons,List.not_mem_nil,or_false] at h; rcases h with rfl | rfl<;>rfl)
structure Qc where
 e0:Int
 e1:Int
 deriving DecidableEq
def iU:Qc:=⟨0,0⟩
def Qy:Ty Qc:=Ty.flat 2 (fun x=>[.int .i64 x.e0,.int .i64 x.e1]) (fun _=>rfl) (fun x u h=>by simp only [List.mem_cons,List.not_mem_nil,or_false] at h; rcases h with rfl | rfl<;>rfl)
def Ko.f (a_:List Am) (left:Int):Option (Int):=if w64 (left - (a_.length:Int))<0 then (some (-1)) else (some (w64 (left - (a_.length:Int))))
abbrev Ko.post:=J5
def Fa.l1 (K:Nat):Nat→(List (List Am))→Int→Int→Option (Int)
 |0,_,_,_=>none
 |k+1,a_,b1,a1=>if a1<(a_.length:Int) then (if 0≤a1∧a1<(a_.length:Int) then ((Ko.f (a_.getD a1.toNat []) b1).bind fun t20=>(if t20<0 then (some (-1)) else (Fa.l1 K k a_ t20 (w64 (a1+1))))) else none) else (some b1)
def Fa.f (K:Nat) (a_:List (List Am)) (left:Int):Option (Int):=if w64 (left - (a_.length:Int))<0 then (some (-1)) else (Fa.l1 K K a_ (w64 (left - (a_.length:Int))) 0)
abbrev Fa.post:=J5
def G9.f (K:Nat) (a1:List (List Am)) (left:Int):Option (Int):=(Fa.f K a1 left).bind fun t3=>(if t3<0 then (some (-1)) else (some t3))
abbrev G9.post:=J5
def Kv.f (a1:Int) (b1:Int):Option (Int × Int):=some (a1,b1)
abbrev Kv.post (w0:World) (L:List Dc) (r1 r2:Int) (en:Ending) (w:World):Prop:=en=.returned (.agg [.int .i64 r1,.int .i64 r2].toArray)∧St w0 w (L)
def Gj.l1 (K:Nat):Nat→(List Am)→(List Am)→Int→Option (List Am)
 |0,_,_,_=>none
 |k+1,a_,b1,a1=>if a1<(a_.length:Int) then (if 0≤a1∧a1<(a_.length:Int) then (bnd (a_.getD a1.toNat Eo) (fun e31=>Dw (Kv.f e31.Tet e31.Perm) (fun t33 t34=>(if 0≤a1∧a1<(b1.length:Int) then (Gj.l1 K k a_ (b1.set a1.toNat (⟨t33,t34⟩:Am)) (w64 (a1+1))) else none)))) else none) else (some b1)
def Gj.f (K:Nat) (a_:List Am):Option (List Am):=if 0≤(a_.length:Int) then (if (a_.length:Int).toNat*16≤281474976710656 then (Gj.l1 K K a_ (List.replicate (a_.length:Int).toNat Eo) 0) else none) else none
abbrev Gj.post (w0:World) (L:List Dc) (r1:List Am) (en:Ending) (w:World):Prop:=∃ (A_r0:Option Addr) (c_r1:Nat),en=.returned (.slice A_r0 r1.length c_r1)∧St w0 w (Own Ak 83 A_r0 c_r1 (fun _=>()) r1::L)
def Fj.l1 (K:Nat):Nat→(List (List Am))→(List (List Am))→Int→Option (List (List Am))
 |0,_,_,_=>none
 |k+1,a_,b1,a1=>if a1<(a_.length:Int) then (if 0≤a1∧a1<(a_.length:Int) then ((Gj.f K (a_.getD a1.toNat [])).bind fun t32=>(if 0≤a1∧a1<(b1.length:Int) then (Fj.l1 K k a_ (b1.set a1.toNat t32) (w64 (a1+1))) else none)) else none) else (some b1)
def Fj.f (K:Nat) (a_:List (List Am)):Option (List (List Am)):=if 0≤(a_.length:Int) then (if (a_.length:Int).toNat*24≤281474976710656 then (Fj.l1 K K a_ (List.replicate (a_.length:Int).toNat ([]:List Am)) 0) else none) else none
abbrev Fj.post (w0:World) (L:List Dc) (r1:List (List Am)) (en:Ending) (w:World):Prop:=∃ (A_r0:Option Addr) (c_r1:Nat) (y_r2:Nat→(Ty.slice 83 Ak).Lay),en=.returned (.slice A_r0 r1.length c_r1)∧St w0 w (Own (Ty.slice 83 Ak) 81 A_r0 c_r1 y_r2 r1::L)
def Ep.f (K:Nat) (a1:List (List Am)):Option (List (List Am)):=(Fj.f K a1).bind fun t7=>(some t7)
abbrev Ep.post (w0:World) (L:List Dc) (r1:List (List Am)) (en:Ending) (w:World):Prop:=∃ (A_r0:Option Addr) (c_r1:Nat) (y_r2:Nat→(Ty.slice 83 Ak).Lay),en=.returned (.agg [.slice A_r0 r1.length c_r1].toArray)∧St w0 w (Own (Ty.slice 83 Ak) 81 A_r0 c_r1 y_r2 r1::L)
def Dn.f (a1:List (List Am)):Option (Int):=some (a1.length:Int)
abbrev Dn.post:=J5
def Kq.f (n_:Int) (low:Int) (high:Int):Option (Bool):=if low≤n_ then (some (decide (n_≤high))) else (some false)
abbrev Kq.post:=Ka
def Jv.f (p:Int):Option (Bool):=if 0≤p then (some (decide (p<24))) else (some false)
abbrev Jv.post:=Ka
def F8.l1 (K:Nat):Nat→Int→(List Int)→(List Int)→Int→Int→Option (List Int)
 |0,_,_,_,_,_=>none
 |k+1,b1,c1,e1,a1,d1=>if 0≤d1 then (if a1=0 then none else (if 0≤w64 (b1.tdiv a1)∧w64 (b1.tdiv a1)<(c1.length:Int) then (if (e1.length+1)*8≤140737488355328 then (if 0≤w64 (b1.tdiv a1)∧w64 (b1.tdiv a1)≤(c1.length:Int) then (if (([]:List Int).length+((c1.take ((w64 (b1.tdiv a1)).toNat)).drop 0).length)*8≤140737488355328 then (if 0≤w64 ((w64 (b1.tdiv a1))+1)∧w64 ((w64 (b1.tdiv a1))+1)≤(c1.length:Int) then (if ((([]:List Int)++((c1.take ((w64 (b1.tdiv a1)).toNat)).drop 0)).length+((c1.take c1.length).drop ((w64 ((w64 (b1.tdiv a1))+1)).toNat)).length)*8≤140737488355328 then (if 0<d1 then (if d1=0 then none else (F8.l1 K k (b1.tmod a1) ((([]:List Int)++((c1.take ((w64 (b1.tdiv a1)).toNat)).drop 0))++((c1.take c1.length).drop ((w64 ((w64 (b1.tdiv a1))+1)).toNat))) (e1++[c1.getD ((w64 (b1.tdiv a1)).toNat) 0]) (w64 (a1.tdiv d1)) (w64 (d1 - 1)))) else (F8.l1 K k (b1.tmod a1) ((([]:List Int)++((c1.take ((w64 (b1.tdiv a1)).toNat)).drop 0))++((c1.take c1.length).drop ((w64 ((w64 (b1.tdiv a1))+1)).toNat))) (e1++[c1.getD ((w64 (b1.tdiv a1)).toNat) 0]) a1 (w64 (d1 - 1)))) else none) else none) else none) else none) else none) else none)) else (some e1)
def F8.f (K:Nat) (p:Int):Option (List Int):=F8.l1 K K p ([0,1,2,3]:List Int) ([]:List Int) 6 3
abbrev F8.post (w0:World) (L:List Dc) (r1:List Int) (en:Ending) (w:World):Prop:=∃ (A_r0:Option Addr) (c_r1:Nat),en=.returned (.slice A_r0 r1.length c_r1)∧St w0 w (Own (Ac .i64) 2 A_r0 c_r1 (fun _=>()) r1::L)
def Ct.f (K:Nat) (p:Int) (k_:Int):Option (Int):=(F8.f K p).bind fun t1=>(if 0≤k_∧k_<(t1.length:Int) then (some (t1.getD k_.toNat 0)) else none)
abbrev Ct.post:=J5
mutual
def D7.l1 (K:Nat):Nat→(List Int)→Int→Int→Int→Option (Int)
 |0,_,_,_,_=>none
 |k+1,a_,p_4,a1,i_6=>if i_6<3 then (if 0≤i_6∧i_6<(a_.length:Int) then (D7.l4 K k a_ p_4 a1 i_6 (a_.getD i_6.toNat 0) 0) else none) else (some p_4)
def D7.l4 (K:Nat):Nat→(List Int)→Int→Int→Int→Int→Int→Option (Int)
 |0,_,_,_,_,_,_=>none
 |k+1,a_,p_4,b1,i_6,c1,a1=>if a1<i_6 then (if 0≤a1∧a1<(a_.length:Int) then (if a_.getD a1.toNat 0<a_.getD i_6.toNat 0 then (D7.l4 K k a_ p_4 b1 i_6 (w64 (c1 - 1)) (w64 (a1+1))) else (D7.l4 K k a_ p_4 b1 i_6 c1 (w64 (a1+1)))) else none) else (if w64 (3 - i_6)=0 then none else (D7.l1 K k a_ (w64 (p_4+(w64 (b1*c1)))) (w64 (b1.tdiv (w64 (3 - i_6)))) (w64 (i_6+1))))
end
def D7.f (K:Nat) (a_:List Int):Option (Int):=D7.l1 K K a_ 0 6 0
abbrev D7.post:=J5
def Gv.l1 (K:Nat):Nat→(List Int)→(List Int)→Int→Option (Int)
 |0,_,_,_=>none
 |k+1,t1,b1,a1=>if a1<4 then (if 0≤a1∧a1<(t1.length:Int) then (if 0≤t1.getD a1.toNat 0∧t1.getD a1.toNat 0<(b1.length:Int) then (Gv.l1 K k t1 (b1.set ((t1.getD a1.toNat 0).toNat) a1) (w64 (a1+1))) else none) else none) else ((D7.f K b1).bind fun t26=>(some t26))
def Gv.f (K:Nat) (p:Int):Option (Int):=(F8.f K p).bind fun t1=>(Gv.l1 K K t1 ([0,0,0,0]:List Int) 0)
abbrev Gv.post:=J5
mutual
def Af.l1 (K:Nat):Nat→(List (List Am))→Int→Option (Bool)
 |0,_,_=>none
 |k+1,b1,a1=>if a1<(b1.length:Int) then (if 0≤a1∧a1<(b1.length:Int) then (if ((b1.getD a1.toNat []).length:Int)=4 then (Af.l1 K k b1 (w64 (a1+1))) else (some false)) else none) else (Af.l28 K k b1 0)
def Af.l28 (K:Nat):Nat→(List (List Am))→Int→Option (Bool)
 |0,_,_=>none
 |k+1,a1,b1=>(Dn.f a1).bind fun t1453=>(if b1<t1453 then (Af.l37 K k a1 b1 0) else (some true))
def Af.l37 (K:Nat):Nat→(List (List Am))→Int→Int→Option (Bool)
 |0,_,_,_=>none
 |k+1,c1,a1,b1=>if b1<4 then (if 0≤a1∧a1<(c1.length:Int) then (if 0≤b1∧b1<((c1.getD a1.toNat []).length:Int) then (bnd ((c1.getD a1.toNat []).getD b1.toNat Eo) (fun e1577=>if e1577.Tet=(-1) then (Af.j40 K k c1 a1 b1 e1577 (decide (e1577.Perm=0))) else (Af.j40 K k c1 a1 b1 e1577 false))) else none) else none) else (Af.l28 K k c1 (w64 (a1+1)))
def Af.j40 (K:Nat):Nat→(List (List Am))→Int→Int→Am→Bool→Option (Bool)
 |0,_,_,_,_,_=>none
 |k+1,a1,c1,b1,e1577,x1584=>if x1584=true then (Af.l37 K k a1 c1 (w64 (b1+1))) else ((Dn.f a1).bind fun t1599=>((Kq.f e1577.Tet 0 (w64 (t1599 - 1))).bind fun t1603=>(if t1603=true then ((Jv.f e1577.Perm).bind fun t1608=>(if t1608=true then ((Ct.f K e1577.Perm b1).bind fun t1613=>((Gv.f K e1577.Perm).bind fun t1617=>(if 0≤e1577.Tet∧e1577.Tet<(a1.length:Int) then (if 0≤t1613∧t1613<((a1.getD e1577.Tet.toNat []).length:Int) then (bnd ((a1.getD e1577.Tet.toNat []).getD t1613.toNat Eo) (fun e1626=>if (e1626.Tet,e1626.Perm)=(c1,t1617) then (if e1577.Tet=c1 then (if t1613=b1 then (some false) else (Af.l37 K k a1 c1 (w64 (b1+1)))) else (Af.l37 K k a1 c1 (w64 (b1+1)))) else (some false))) else none) else none))) else (some false))) else (some false))))
end
def Af.f (K:Nat) (a1:List (List Am)):Option (Bool):=(Dn.f a1).bind fun t3=>(if 8<t3 then (some false) else (Af.l1 K K a1 0))
abbrev Af.post:=Ka
mutual
def Bl.l1 (K:Nat):Nat→(List (List Am))→(List Int)→Int→Option (List Int)
 |0,_,_,_=>none
 |k+1,c1,b1,a1=>if a1<(b1.length:Int) then (if 0≤a1∧a1<(b1.length:Int) then (Bl.l1 K k c1 (b1.set a1.toNat (-1)) (w64 (a1+1))) else none) else (Bl.l28 K k c1 b1 0 0)
def Bl.l28 (K:Nat):Nat→(List (List Am))→(List Int)→Int→Int→Option (List Int)
 |0,_,_,_,_=>none
 |k+1,c1,b1,d1,a1=>(Dn.f c1).bind fun t1707=>(if a1<t1707 then (if 0≤a1∧a1<(b1.length:Int) then (if 0≤b1.getD a1.toNat 0 then (Bl.l28 K k c1 b1 d1 (w64 (a1+1))) else (Bl.l37 K k c1 d1 a1 (b1.set a1.toNat d1) ([a1]:List Int) 0)) else none) else (some b1))
def Bl.l37 (K:Nat):Nat→(List (List Am))→Int→Int→(List Int)→(List Int)→Int→Option (List Int)
 |0,_,_,_,_,_,_=>none
 |k+1,e1,c1,d1,a1,f1,b1=>if b1<(f1.length:Int) then (Bl.l40 K k e1 c1 d1 b1 a1 f1 0) else (Bl.l28 K k e1 a1 (w64 (c1+1)) (w64 (d1+1)))
def Bl.l40 (K:Nat):Nat→(List (List Am))→Int→Int→Int→(List Int)→(List Int)→Int→Option (List Int)
 |0,_,_,_,_,_,_,_=>none
 |k+1,d1,f1,g1,a1,e1,b1,c1=>if c1<4 then (if 0≤a1∧a1<(b1.length:Int) then (if 0≤b1.getD a1.toNat 0∧b1.getD a1.toNat 0<(d1.length:Int) then (if 0≤c1∧c1<((d1.getD ((b1.getD a1.toNat 0).toNat) []).length:Int) then (bnd ((d1.getD ((b1.getD a1.toNat 0).toNat) []).getD c1.toNat Eo) (fun e1902=>if 0≤e1902.Tet then (if 0≤e1902.Tet∧e1902.Tet<(e1.length:Int) then (if e1.getD e1902.Tet.toNat 0<0 then (if (b1.length+1)*8≤140737488355328 then (Bl.l40 K k d1 f1 g1 a1 (e1.set e1902.Tet.toNat f1) (b1++[e1902.Tet]) (w64 (c1+1))) else none) else (Bl.l40 K k d1 f1 g1 a1 e1 b1 (w64 (c1+1)))) else none) else (Bl.l40 K k d1 f1 g1 a1 e1 b1 (w64 (c1+1))))) else none) else none) else none) else (Bl.l37 K k d1 f1 g1 e1 b1 (w64 (a1+1)))
end
def Bl.f (K:Nat) (a1:List (List Am)):Option (List Int):=if 0≤(a1.length:Int) then (if (a1.length:Int).toNat*8≤281474976710656 then (Bl.l1 K K a1 (List.replicate (a1.length:Int).toNat (0:Int)) 0) else none) else none
abbrev Bl.post (w0:World) (L:List Dc) (r1:List Int) (en:Ending) (w:World):Prop:=∃ (A_r0:Option Addr) (c_r1:Nat),en=.returned (.slice A_r0 r1.length c_r1)∧St w0 w (Own (Ac .i64) 2 A_r0 c_r1 (fun _=>()) r1::L)
def Et.l1 (K:Nat):Nat→(List Int)→Int→Option (Bool)
 |0,_,_=>none
 |k+1,t3,a1=>if a1<(t3.length:Int) then (if 0≤a1∧a1<(t3.length:Int) then (if 0<t3.getD a1.toNat 0 then (some false) else (Et.l1 K k t3 (w64 (a1+1)))) else none) else (some true)
def Et.f (K:Nat) (a1:List (List Am)):Option (Bool):=(Bl.f K a1).bind fun t3=>(Et.l1 K K t3 0)
abbrev Et.post:=Ka
def Ha.f (e_:Int):Option (Int × Int):=if 0≤e_∧e_<(([0,0,0,1,1,2]:List Int).length:Int) then (if 0≤e_∧e_<(([1,2,3,2,3,3]:List Int).length:Int) then (some (([0,0,0,1,1,2]:List Int).getD e_.toNat 0,([1,2,3,2,3,3]:List Int).getD e_.toNat 0)) else none) else none
abbrev Ha.post (w0:World) (L:List Dc) (r1 r2:Int) (en:Ending) (w:World):Prop:=en=.returned (.tuple #[.int .i64 r1,.int .i64 r2])∧St w0 w (L)
def E8.l1 (K:Nat):Nat→Int→Int→Int→Option (Int)
 |0,_,_,_=>none
 |k+1,a_,b_,e_9=>if e_9<6 then (Dw (Ha.f e_9) (fun t20 t21=>(if t20=(if b_<a_ then b_ else a_) then (if t21=(if b_ > a_ then b_ else a_) then (some e_9) else (E8.l1 K k a_ b_ (w64 (e_9+1)))) else (E8.l1 K k a_ b_ (w64 (e_9+1)))))) else (some (-1))
def E8.f (K:Nat) (a_:Int) (b_:Int):Option (Int):=E8.l1 K K a_ b_ 0
abbrev E8.post:=J5
mutual
def Ai.l1 (K:Nat):Nat→(List (List Am))→Int→(List Int)→(List Bool)→Int→Option (List (List Int))
 |0,_,_,_,_,_=>none
 |k+1,d1,t3,b1,c1,a1=>if a1<w64 (6*t3) then (if 0≤a1∧a1<(b1.length:Int) then (if b1.getD a1.toNat 0=0 then (Ai.l57 K k d1 t3 c1 a1 (b1.set a1.toNat 1) ([a1]:List Int) false 0) else (Ai.l1 K k d1 t3 b1 c1 (w64 (a1+1)))) else none) else (Ai.l82 K k t3 b1 c1 ([]:List (List Int)) 0)
def Ai.l57 (K:Nat):Nat→(List (List Am))→Int→(List Bool)→Int→(List Int)→(List Int)→Bool→Int→Option (List (List Int))
 |0,_,_,_,_,_,_,_,_=>none
 |k+1,a1,t3,c1,d1,b1,x1530,x1531,x1532=>if x1532<(x1530.length:Int) then (if 0≤x1532∧x1532<(x1530.length:Int) then (Dw (Ha.f ((x1530.getD x1532.toNat 0).tmod 6)) (fun t1719 t1720=>(Ai.l74 K k a1 t3 c1 d1 x1530 x1532 t1719 t1720 b1 x1530 x1531 0))) else none) else (Ai.l81 K k a1 t3 d1 b1 x1530 x1531 c1 0)
def Ai.l74 (K:Nat):Nat→(List (List Am))→Int→(List Bool)→Int→(List Int)→Int→Int→Int→(List Int)→(List Int)→Bool→Int→Option (List (List Int))
 |0,_,_,_,_,_,_,_,_,_,_,_,_=>none
 |k+1,a1,t3,c1,d1,x1530,x1532,t1719,t1720,b1,x1778,x1779,x1780=>if x1780<4 then (if 0≤w64 ((x1530.getD x1532.toNat 0).tdiv 6)∧w64 ((x1530.getD x1532.toNat 0).tdiv 6)<(a1.length:Int) then (if 0≤x1780∧x1780<((a1.getD ((w64 ((x1530.getD x1532.toNat 0).tdiv 6)).toNat) []).length:Int) then (bnd ((a1.getD ((w64 ((x1530.getD x1532.toNat 0).tdiv 6)).toNat) []).getD x1780.toNat Eo) (fun e1837=>if e1837.Tet<0 then (Ai.l74 K k a1 t3 c1 d1 x1530 x1532 t1719 t1720 b1 x1778 x1779 (w64 (x1780+1))) else (if x1780=t1719 then (Ai.l74 K k a1 t3 c1 d1 x1530 x1532 t1719 t1720 b1 x1778 x1779 (w64 (x1780+1))) else (if x1780=t1720 then (Ai.l74 K k a1 t3 c1 d1 x1530 x1532 t1719 t1720 b1 x1778 x1779 (w64 (x1780+1))) else ((Ct.f K e1837.Perm t1719).bind fun t1847=>((Ct.f K e1837.Perm t1720).bind fun t1851=>((E8.f K t1847 t1851).bind fun t1855=>(if 0≤x1532∧x1532<(x1778.length:Int) then (if 0≤x1778.getD x1532.toNat 0∧x1778.getD x1532.toNat 0<(b1.length:Int) then (if t1851<t1847 then (Ai.j79 K k a1 t3 c1 d1 x1530 x1532 t1719 t1720 b1 x1778 x1779 x1780 e1837 t1855 (w64 (0 - (b1.getD ((x1778.getD x1532.toNat 0).toNat) 0)))) else (Ai.j79 K k a1 t3 c1 d1 x1530 x1532 t1719 t1720 b1 x1778 x1779 x1780 e1837 t1855 (b1.getD ((x1778.getD x1532.toNat 0).toNat) 0))) else none) else none)))))))) else none) else none) else (Ai.l57 K k a1 t3 c1 d1 b1 x1778 x1779 (w64 (x1532+1)))
def Ai.j79 (K:Nat):Nat→(List (List Am))→Int→(List Bool)→Int→(List Int)→Int→Int→Int→(List Int)→(List Int)→Bool→Int→Am→Int→Int→Option (List (List Int))
 |0,_,_,_,_,_,_,_,_,_,_,_,_,_,_,_=>none
 |k+1,b1,t3,c1,d1,x1530,x1532,t1719,t1720,a1,x1778,x1779,x1780,e1837,t1855,x1862=>if 0≤w64 ((w64 (6*e1837.Tet))+t1855)∧w64 ((w64 (6*e1837.Tet))+t1855)<(a1.length:Int) then (if a1.getD ((w64 ((w64 (6*e1837.Tet))+t1855)).toNat) 0=0 then (if (x1778.length+1)*8≤140737488355328 then (Ai.j80 K k b1 t3 c1 d1 x1530 x1532 t1719 t1720 x1779 x1780 e1837 t1855 x1862 (a1.set ((w64 ((w64 (6*e1837.Tet))+t1855)).toNat) x1862) (x1778++[w64 ((w64 (6*e1837.Tet))+t1855)])) else none) else (Ai.j80 K k b1 t3 c1 d1 x1530 x1532 t1719 t1720 x1779 x1780 e1837 t1855 x1862 a1 x1778)) else none
def Ai.j80 (K:Nat):Nat→(List (List Am))→Int→(List Bool)→Int→(List Int)→Int→Int→Int→Bool→Int→Am→Int→Int→(List Int)→(List Int)→Option (List (List Int))
 |0,_,_,_,_,_,_,_,_,_,_,_,_,_,_,_=>none
 |k+1,b1,t3,c1,d1,x1530,x1532,t1719,t1720,x1779,x1780,e1837,t1855,x1862,a1,x1875=>if x1779=true then (Ai.l74 K k b1 t3 c1 d1 x1530 x1532 t1719 t1720 a1 x1875 true (w64 (x1780+1))) else (if 0≤w64 ((w64 (6*e1837.Tet))+t1855)∧w64 ((w64 (6*e1837.Tet))+t1855)<(a1.length:Int) then (Ai.l74 K k b1 t3 c1 d1 x1530 x1532 t1719 t1720 a1 x1875 (!(decide (a1.getD ((w64 ((w64 (6*e1837.Tet))+t1855)).toNat) 0=x1862))) (w64 (x1780+1))) else none)
def Ai.l81 (K:Nat):Nat→(List (List Am))→Int→Int→(List Int)→(List Int)→Bool→(List Bool)→Int→Option (List (List Int))
 |0,_,_,_,_,_,_,_,_=>none
 |k+1,b1,t3,d1,c1,x1530,x1531,a1,x1892=>if x1892<(x1530.length:Int) then (if 0≤x1892∧x1892<(x1530.length:Int) then (if 0≤x1530.getD x1892.toNat 0∧x1530.getD x1892.toNat 0<(a1.length:Int) then (Ai.l81 K k b1 t3 d1 c1 x1530 x1531 (a1.set ((x1530.getD x1892.toNat 0).toNat) x1531) (w64 (x1892+1))) else none) else none) else (Ai.l1 K k b1 t3 c1 a1 (w64 (d1+1)))
def Ai.l82 (K:Nat):Nat→Int→(List Int)→(List Bool)→(List (List Int))→Int→Option (List (List Int))
 |0,_,_,_,_,_=>none
 |k+1,t3,b1,a1,x1981,x1983=>if x1983<w64 (6*t3) then (Ai.l85 K k t3 b1 a1 x1981 x1983 ([]:List Int) x1983) else (some x1981)
def Ai.l85 (K:Nat):Nat→Int→(List Int)→(List Bool)→(List (List Int))→Int→(List Int)→Int→Option (List (List Int))
 |0,_,_,_,_,_,_,_=>none
 |k+1,t3,b1,a1,x1981,x1983,x2088,x2089=>if x2089<w64 (x1983+6) then (if 0≤x2089∧x2089<(a1.length:Int) then (if (a1.getD x2089.toNat false)=true then (if (x2088.length+1)*8≤140737488355328 then (Ai.l85 K k t3 b1 a1 x1981 x1983 (x2088++[0]) (w64 (x2089+1))) else none) else (if 0≤x2089∧x2089<(b1.length:Int) then (if (x2088.length+1)*8≤140737488355328 then (Ai.l85 K k t3 b1 a1 x1981 x1983 (x2088++[b1.getD x2089.toNat 0]) (w64 (x2089+1))) else none) else none)) else none) else (if (x1981.length+1)*24≤140737488355328 then (Ai.l82 K k t3 b1 a1 (x1981++[x2088]) (w64 (x1983+6))) else none)
end
def Ai.f (K:Nat) (a1:List (List Am)):Option (List (List Int)):=(Dn.f a1).bind fun t3=>(if 0≤w64 (6*t3) then (if (w64 (6*t3)).toNat*8≤281474976710656 then (if (w64 (6*t3)).toNat*1≤281474976710656 then (Ai.l1 K K a1 t3 (List.replicate (w64 (6*t3)).toNat (0:Int)) (List.replicate (w64 (6*t3)).toNat false) 0) else none) else none) else none)
abbrev Ai.post (w0:World) (L:List Dc) (r1:List (List Int)) (en:Ending) (w:World):Prop:=∃ (A_r0:Option Addr) (c_r1:Nat) (y_r2:Nat→(Ty.slice 2 (Ac .i64)).Lay),en=.returned (.slice A_r0 r1.length c_r1)∧St w0 w (Own (Ty.slice 2 (Ac .i64)) 26 A_r0 c_r1 y_r2 r1::L)
mutual
def C9.l1 (K:Nat):Nat→(List (List Int))→Int→Option (Bool)
 |0,_,_=>none
 |k+1,t3,a1=>if a1<(t3.length:Int) then (C9.l4 K k t3 a1 0) else (some false)
def C9.l4 (K:Nat):Nat→(List (List Int))→Int→Int→Option (Bool)
 |0,_,_,_=>none
 |k+1,t3,a1,b1=>if b1<6 then (if 0≤a1∧a1<(t3.length:Int) then (if 0≤b1∧b1<((t3.getD a1.toNat []).length:Int) then (if (t3.getD a1.toNat []).getD b1.toNat 0=0 then (some true) else (C9.l4 K k t3 a1 (w64 (b1+1)))) else none) else none) else (C9.l1 K k t3 (w64 (a1+1)))
end
def C9.f (K:Nat) (a1:List (List Am)):Option (Bool):=(Ai.f K a1).bind fun t3=>(C9.l1 K K t3 0)
abbrev C9.post:=Ka
def Jt.f (K:Nat) (a1:List (List Am)):Option (Int):=(Af.f K a1).bind fun t3=>(if t3=true then (if (a1.length:Int)=0 then (some 5) else ((Et.f K a1).bind fun t9=>(if t9=true then ((C9.f K a1).bind fun t14=>(if t14=true then (some 5) else (some 0))) else (some 5)))) else (some 1))
abbrev Jt.post:=J5
mutual
def Dm.l1 (K:Nat):Nat→(List (List Am))→(List Bool)→(List Bool)→(List Int)→Int→Option (List Bool)
 |0,_,_,_,_,_=>none
 |k+1,d1,a1,e1,b1,c1=>if c1<(b1.length:Int) then (Dm.l4 K k d1 c1 a1 e1 b1 0) else (some a1)
def Dm.l4 (K:Nat):Nat→(List (List Am))→Int→(List Bool)→(List Bool)→(List Int)→Int→Option (List Bool)
 |0,_,_,_,_,_,_=>none
 |k+1,d1,a1,e1,f1,b1,c1=>if c1<4 then (if 0≤a1∧a1<(b1.length:Int) then (if 0≤b1.getD a1.toNat 0∧b1.getD a1.toNat 0<(d1.length:Int) then (if 0≤c1∧c1<((d1.getD ((b1.getD a1.toNat 0).toNat) []).length:Int) then (bnd ((d1.getD ((b1.getD a1.toNat 0).toNat) []).getD c1.toNat Eo) (fun e316=>if e316.Tet<0 then (Dm.l4 K k d1 a1 e1 f1 b1 (w64 (c1+1))) else (if 0≤e316.Tet∧e316.Tet<(f1.length:Int) then (if (f1.getD e316.Tet.toNat false)=true then (Dm.l4 K k d1 a1 e1 f1 b1 (w64 (c1+1))) else (if (b1.length+1)*8≤140737488355328 then (if 0≤a1∧a1<((b1++[e316.Tet]).length:Int) then (if 0≤w64 ((w64 (4*((b1++[e316.Tet]).getD a1.toNat 0)))+c1)∧w64 ((w64 (4*((b1++[e316.Tet]).getD a1.toNat 0)))+c1)<(e1.length:Int) then ((Ct.f K e316.Perm c1).bind fun t337=>(if 0≤w64 ((w64 (4*e316.Tet))+t337)∧w64 ((w64 (4*e316.Tet))+t337)<((e1.set ((w64 ((w64 (4*((b1++[e316.Tet]).getD a1.toNat 0)))+c1)).toNat) true).length:Int) then (Dm.l4 K k d1 a1 ((e1.set ((w64 ((w64 (4*((b1++[e316.Tet]).getD a1.toNat 0)))+c1)).toNat) true).set ((w64 ((w64 (4*e316.Tet))+t337)).toNat) true) (f1.set e316.Tet.toNat true) (b1++[e316.Tet]) (w64 (c1+1))) else none)) else none) else none) else none)) else none))) else none) else none) else none) else (Dm.l1 K k d1 e1 f1 b1 (w64 (a1+1)))
end
def Dm.f (K:Nat) (a1:List (List Am)):Option (List Bool):=(Dn.f a1).bind fun t3=>(if 0≤w64 (4*t3) then (if (w64 (4*t3)).toNat*1≤281474976710656 then ((Dn.f a1).bind fun t11=>(if 0≤t11 then (if t11.toNat*1≤281474976710656 then (if 0≤(0:Int)∧(0:Int)<((List.replicate t11.toNat false).length:Int) then (Dm.l1 K K a1 (List.replicate (w64 (4*t3)).toNat false) ((List.replicate t11.toNat false).set 0 true) ([0]:List Int) 0) else none) else none) else none)) else none) else none)
abbrev Dm.post (w0:World) (L:List Dc) (r1:List Bool) (en:Ending) (w:World):Prop:=∃ (A_r0:Option Addr) (c_r1:Nat),en=.returned (.slice A_r0 r1.length c_r1)∧St w0 w (Own Fy 4 A_r0 c_r1 (fun _=>()) r1::L)
mutual
def Bq.l1 (K:Nat):Nat→(List (List Am))→(List Bool)→(List (List Int))→Int→Option ((List (List Int)) × Int)
 |0,_,_,_,_=>none
 |k+1,a1,t3,b1,c1=>(Dn.f a1).bind fun t596=>(if c1<t596 then (if (b1.length+1)*24≤140737488355328 then (Bq.l1 K k a1 t3 (b1++[([0,0,0,0]:List Int)]) (w64 (c1+1))) else none) else (Bq.l10 K k a1 t3 b1 0 0))
def Bq.l10 (K:Nat):Nat→(List (List Am))→(List Bool)→(List (List Int))→Int→Int→Option ((List (List Int)) × Int)
 |0,_,_,_,_,_=>none
 |k+1,a1,t3,d1,b1,c1=>(Dn.f a1).bind fun t795=>(if c1<t795 then (Bq.l13 K k a1 t3 c1 d1 b1 0) else (some (d1,b1)))
def Bq.l13 (K:Nat):Nat→(List (List Am))→(List Bool)→Int→(List (List Int))→Int→Int→Option ((List (List Int)) × Int)
 |0,_,_,_,_,_,_=>none
 |k+1,e1,t3,a1,c1,d1,b1=>if b1<4 then (if 0≤a1∧a1<(e1.length:Int) then (if 0≤b1∧b1<((e1.getD a1.toNat []).length:Int) then (bnd ((e1.getD a1.toNat []).getD b1.toNat Eo) (fun e861=>if e861.Tet<0 then (Bq.l13 K k e1 t3 a1 c1 d1 (w64 (b1+1))) else (if 0≤w64 ((w64 (4*a1))+b1)∧w64 ((w64 (4*a1))+b1)<(t3.length:Int) then (if (t3.getD ((w64 ((w64 (4*a1))+b1)).toNat) false)=true then (Bq.l13 K k e1 t3 a1 c1 d1 (w64 (b1+1))) else (if 0≤a1∧a1<(c1.length:Int) then (if 0≤b1∧b1<((c1.getD a1.toNat []).length:Int) then (if (c1.getD a1.toNat []).getD b1.toNat 0=0 then (if 0≤e861.Tet∧e861.Tet<((c1.set a1.toNat ((c1.getD a1.toNat []).set b1.toNat (w64 (d1+1)))).length:Int) then ((Ct.f K e861.Perm b1).bind fun t880=>(if 0≤t880∧t880<(((c1.set a1.toNat ((c1.getD a1.toNat []).set b1.toNat (w64 (d1+1)))).getD e861.Tet.toNat []).length:Int) then (Bq.l13 K k e1 t3 a1 ((c1.set a1.toNat ((c1.getD a1.toNat []).set b1.toNat (w64 (d1+1)))).set e861.Tet.toNat (((c1.set a1.toNat ((c1.getD a1.toNat []).set b1.toNat (w64 (d1+1)))).getD e861.Tet.toNat []).set t880.toNat (w64 (0 - (w64 (d1+1)))))) (w64 (d1+1)) (w64 (b1+1))) else none)) else none) else (Bq.l13 K k e1 t3 a1 c1 d1 (w64 (b1+1)))) else none) else none)) else none))) else none) else none) else (Bq.l10 K k e1 t3 c1 d1 (w64 (a1+1)))
end
def Bq.f (K:Nat) (a1:List (List Am)):Option ((List (List Int)) × Int):=(Dm.f K a1).bind fun t3=>(Bq.l1 K K a1 t3 ([]:List (List Int)) 0)
abbrev Bq.post (w0:World) (L:List Dc) (r1:List (List Int)) (r2:Int) (en:Ending) (w:World):Prop:=∃ (A_r0:Option Addr) (c_r1:Nat) (y_r2:Nat→(Ty.slice 2 (Ac .i64)).Lay),en=.returned (.tuple #[.slice A_r0 r1.length c_r1,.int .i64 r2])∧St w0 w (Own (Ty.slice 2 (Ac .i64)) 26 A_r0 c_r1 y_r2 r1::L)
def Er.l1 (K:Nat):Nat→Int→(List Int)→Int→Option (List Int)
 |0,_,_,_=>none
 |k+1,n_,a1,b1=>if b1<n_ then (if (a1.length+1)*8≤140737488355328 then (Er.l1 K k n_ (a1++[b1]) (w64 (b1+1))) else none) else (some a1)
def Er.f (K:Nat) (n_:Int):Option (List Int):=Er.l1 K K n_ ([]:List Int) 0
abbrev Er.post (w0:World) (L:List Dc) (r1:List Int) (en:Ending) (w:World):Prop:=∃ (A_r0:Option Addr) (c_r1:Nat),en=.returned (.slice A_r0 r1.length c_r1)∧St w0 w (Own (Ac .i64) 2 A_r0 c_r1 (fun _=>()) r1::L)
def Ec.l1 (K:Nat):Nat→(List Int)→Int→Int→(List Int)→Int→Option (List Int)
 |0,_,_,_,_,_=>none
 |k+1,marks,i,k_,x11,a1=>if a1<(x11.length:Int) then (if 0≤a1∧a1<(x11.length:Int) then (if x11.getD a1.toNat 0=(if marks.getD k_.toNat 0 > marks.getD i.toNat 0 then marks.getD k_.toNat 0 else marks.getD i.toNat 0) then (Ec.l1 K k marks i k_ (x11.set a1.toNat (if marks.getD k_.toNat 0<marks.getD i.toNat 0 then marks.getD k_.toNat 0 else marks.getD i.toNat 0)) (w64 (a1+1))) else (Ec.l1 K k marks i k_ x11 (w64 (a1+1)))) else none) else (some x11)
def Ec.f (K:Nat) (marks:List Int) (i:Int) (k_:Int):Option (List Int):=if 0≤i∧i<(marks.length:Int) then (if 0≤k_∧k_<(marks.length:Int) then (Ec.l1 K K marks i k_ marks 0) else none) else none
abbrev Ec.post (w0:World) (L:List Dc) (A_a:Option Addr) (c_a:Nat) (r1:List Int) (en:Ending) (w:World):Prop:=en=.returned (.tuple #[])∧St w0 w (Own (Ac .i64) 2 A_a c_a (fun _=>()) r1::L)
mutual
def Ch.l1 (K:Nat):Nat→(List Int)→Int→(List Int)→Int→Int→Option ((List (List Int)) × Int)
 |0,_,_,_,_,_=>none
 |k+1,marks,width,b1,c1,a1=>if a1<(marks.length:Int) then (if 0≤a1∧a1<(marks.length:Int) then (if marks.getD a1.toNat 0=a1 then (if 0≤a1∧a1<(b1.length:Int) then (Ch.l1 K k marks width (b1.set a1.toNat c1) (w64 (c1+1)) (w64 (a1+1))) else none) else (Ch.l1 K k marks width b1 c1 (w64 (a1+1)))) else none) else (Ch.l7 K k marks width b1 c1 ([]:List (List Int)) 0)
def Ch.l7 (K:Nat):Nat→(List Int)→Int→(List Int)→Int→(List (List Int))→Int→Option ((List (List Int)) × Int)
 |0,_,_,_,_,_,_=>none
 |k+1,marks,width,d1,c1,b1,a1=>if a1<(marks.length:Int) then (Ch.l10 K k marks width d1 c1 b1 a1 ([]:List Int) a1) else (some (b1,c1))
def Ch.l10 (K:Nat):Nat→(List Int)→Int→(List Int)→Int→(List (List Int))→Int→(List Int)→Int→Option ((List (List Int)) × Int)
 |0,_,_,_,_,_,_,_,_=>none
 |k+1,marks,width,b1,f1,e1,c1,d1,a1=>if a1<w64 (c1+width) then (if 0≤a1∧a1<(marks.length:Int) then (if 0≤marks.getD a1.toNat 0∧marks.getD a1.toNat 0<(b1.length:Int) then (if (d1.length+1)*8≤140737488355328 then (Ch.l10 K k marks width b1 f1 e1 c1 (d1++[b1.getD ((marks.getD a1.toNat 0).toNat) 0]) (w64 (a1+1))) else none) else none) else none) else (if (e1.length+1)*24≤140737488355328 then (Ch.l7 K k marks width b1 f1 (e1++[d1]) (w64 (c1+width))) else none)
end
def Ch.f (K:Nat) (marks:List Int) (width:Int):Option ((List (List Int)) × Int):=if 0≤(marks.length:Int) then (if (marks.length:Int).toNat*8≤281474976710656 then (Ch.l1 K K marks width (List.replicate (marks.length:Int).toNat (0:Int)) 0 0) else none) else none
abbrev Ch.post (w0:World) (L:List Dc) (r1:List (List Int)) (r2:Int) (en:Ending) (w:World):Prop:=∃ (A_r0:Option Addr) (c_r1:Nat) (y_r2:Nat→(Ty.slice 2 (Ac .i64)).Lay),en=.returned (.tuple #[.slice A_r0 r1.length c_r1,.int .i64 r2])∧St w0 w (Own (Ty.slice 2 (Ac .i64)) 26 A_r0 c_r1 y_r2 r1::L)
mutual
def Bb.l1 (K:Nat):Nat→(List (List Am))→Int→(List Int)→(List Int)→(List Int)→Int→Option ((List (List Int)) × (List (List Int)) × (List (List Int)) × (List Int))
 |0,_,_,_,_,_,_=>none
 |k+1,c1,t5,b1,a1,x782,x783=>if x783<t5 then (Bb.l24 K k c1 t5 x783 b1 a1 x782 0) else (Dw (Ch.f K b1 4) (fun t2256 t2257=>(if 0≤(0:Int)∧(0:Int)<(([0,0,0,t5]:List Int).length:Int) then (Dw (Ch.f K a1 6) (fun t2267 t2268=>(if 0≤(1:Int)∧(1:Int)<((([0,0,0,t5]:List Int).set 0 t2257).length:Int) then (Dw (Ch.f K x782 4) (fun t2278 t2279=>(if 0≤(2:Int)∧(2:Int)<(((([0,0,0,t5]:List Int).set 0 t2257).set 1 t2268).length:Int) then (some (t2256,t2267,t2278,(((([0,0,0,t5]:List Int).set 0 t2257).set 1 t2268).set 2 t2279))) else none))) else none))) else none)))
def Bb.l24 (K:Nat):Nat→(List (List Am))→Int→Int→(List Int)→(List Int)→(List Int)→Int→Option ((List (List Int)) × (List (List Int)) × (List (List Int)) × (List Int))
 |0,_,_,_,_,_,_,_=>none
 |k+1,a1,t5,x783,c1,b1,x1829,x1830=>if x1830<4 then (if 0≤x783∧x783<(a1.length:Int) then (if 0≤x1830∧x1830<((a1.getD x783.toNat []).length:Int) then (bnd ((a1.getD x783.toNat []).getD x1830.toNat Eo) (fun e2044=>if e2044.Tet<0 then (Bb.l24 K k a1 t5 x783 c1 b1 x1829 (w64 (x1830+1))) else ((Ct.f K e2044.Perm x1830).bind fun t2050=>((Ec.f K x1829 (w64 ((w64 (4*x783))+x1830)) (w64 ((w64 (4*e2044.Tet))+t2050))).bind fun t2054=>(if t2054.length=x1829.length then (Bb.l32 K k a1 t5 x783 b1 x1830 e2044 t2054 c1 0) else none))))) else none) else none) else (Bb.l1 K k a1 t5 c1 b1 x1829 (w64 (x783+1)))
def Bb.l32 (K:Nat):Nat→(List (List Am))→Int→Int→(List Int)→Int→Am→(List Int)→(List Int)→Int→Option ((List (List Int)) × (List (List Int)) × (List (List Int)) × (List Int))
 |0,_,_,_,_,_,_,_,_,_=>none
 |k+1,b1,t5,x783,c1,x1830,e2044,t2054,a1,x2070=>if x2070<4 then (if x2070=x1830 then (Bb.l32 K k b1 t5 x783 c1 x1830 e2044 t2054 a1 (w64 (x2070+1))) else ((Ct.f K e2044.Perm x2070).bind fun t2163=>((Ec.f K a1 (w64 ((w64 (4*x783))+x2070)) (w64 ((w64 (4*e2044.Tet))+t2163))).bind fun t2167=>(if t2167.length=a1.length then (Bb.l32 K k b1 t5 x783 c1 x1830 e2044 t2054 t2167 (w64 (x2070+1))) else none)))) else (Bb.l34 K k b1 t5 x783 x1830 e2044 t2054 a1 c1 0)
def Bb.l34 (K:Nat):Nat→(List (List Am))→Int→Int→Int→Am→(List Int)→(List Int)→(List Int)→Int→Option ((List (List Int)) × (List (List Int)) × (List (List Int)) × (List Int))
 |0,_,_,_,_,_,_,_,_,_=>none
 |k+1,b1,t5,x783,x1830,e2044,t2054,c1,a1,x2198=>if x2198<6 then (Dw (Ha.f x2198) (fun t2226 t2227=>(if t2226=x1830 then (Bb.l34 K k b1 t5 x783 x1830 e2044 t2054 c1 a1 (w64 (x2198+1))) else (if t2227=x1830 then (Bb.l34 K k b1 t5 x783 x1830 e2044 t2054 c1 a1 (w64 (x2198+1))) else ((Ct.f K e2044.Perm t2226).bind fun t2234=>((Ct.f K e2044.Perm t2227).bind fun t2238=>((E8.f K t2234 t2238).bind fun t2242=>((Ec.f K a1 (w64 ((w64 (6*x783))+x2198)) (w64 ((w64 (6*e2044.Tet))+t2242))).bind fun t2246=>(if t2246.length=a1.length then (Bb.l34 K k b1 t5 x783 x1830 e2044 t2054 c1 t2246 (w64 (x2198+1))) else none))))))))) else (Bb.l24 K k b1 t5 x783 c1 a1 t2054 (w64 (x1830+1)))
end
def Bb.f (K:Nat) (a1:List (List Am)):Option ((List (List Int)) × (List (List Int)) × (List (List Int)) × (List Int)):=(Dn.f a1).bind fun t5=>((Er.f K (w64 (4*t5))).bind fun t9=>((Er.f K (w64 (6*t5))).bind fun t15=>((Er.f K (w64 (4*t5))).bind fun t21=>(Bb.l1 K K a1 t5 t9 t15 t21 0))))
abbrev Bb.post (w0:World) (L:List Dc) (r1:List (List Int)) (r2:List (List Int)) (r3:List (List Int)) (r4:List Int) (en:Ending) (w:World):Prop:=∃ (A_r0:Option Addr) (c_r1:Nat) (y_r2:Nat→(Ty.slice 2 (Ac .i64)).Lay) (A_r3:Option Addr) (c_r4:Nat) (y_r5:Nat→(Ty.slice 2 (Ac .i64)).Lay) (A_r6:Option Addr) (c_r7:Nat) (y_r8:Nat→(Ty.slice 2 (Ac .i64)).Lay) (A_r9:Option Addr) (c_r10:Nat),en=.returned (.tuple #[.agg [.slice A_r0 r1.length c_r1,.slice A_r3 r2.length c_r4,.slice A_r6 r3.length c_r7].toArray,.slice A_r9 r4.length c_r10])∧St w0 w (Own (Ty.slice 2 (Ac .i64)) 26 A_r0 c_r1 y_r2 r1::Own (Ty.slice 2 (Ac .i64)) 26 A_r3 c_r4 y_r5 r2::Own (Ty.slice 2 (Ac .i64)) 26 A_r6 c_r7 y_r8 r3::Own (Ac .i64) 2 A_r9 c_r10 (fun _=>()) r4::L)
mutual
def Cw.l1 (K:Nat):Nat→(List (List Am))→(List (List Int))→Int→Option (List (List Int))
 |0,_,_,_=>none
 |k+1,a1,c1,b1=>if b1<(a1.length:Int) then (Cw.l4 K k a1 b1 c1 0) else (some c1)
def Cw.l4 (K:Nat):Nat→(List (List Am))→Int→(List (List Int))→Int→Option (List (List Int))
 |0,_,_,_,_=>none
 |k+1,c1,a1,d1,b1=>if b1<4 then (if 0≤a1∧a1<(c1.length:Int) then (if 0≤b1∧b1<((c1.getD a1.toNat []).length:Int) then (bnd ((c1.getD a1.toNat []).getD b1.toNat Eo) (fun e148=>if e148.Tet<0 then (if (d1.length+1)*24≤140737488355328 then (Cw.l4 K k c1 a1 (d1++[([a1,b1]:List Int)]) (w64 (b1+1))) else none) else (Cw.l4 K k c1 a1 d1 (w64 (b1+1))))) else none) else none) else (Cw.l1 K k c1 d1 (w64 (a1+1)))
end
def Cw.f (K:Nat) (a1:List (List Am)):Option (List (List Int)):=Cw.l1 K K a1 ([]:List (List Int)) 0
abbrev Cw.post (w0:World) (L:List Dc) (r1:List (List Int)) (en:Ending) (w:World):Prop:=∃ (A_r0:Option Addr) (c_r1:Nat) (y_r2:Nat→(Ty.slice 2 (Ac .i64)).Lay),en=.returned (.slice A_r0 r1.length c_r1)∧St w0 w (Own (Ty.slice 2 (Ac .i64)) 26 A_r0 c_r1 y_r2 r1::L)
def Dt.l1 (K:Nat):Nat→(List Bool)→(List Int)→Int→Option (List Int)
 |0,_,_,_=>none
 |k+1,flags,b1,a1=>if a1<(flags.length:Int) then (if 0≤a1∧a1<(flags.length:Int) then (if (flags.getD a1.toNat false)=true then (if (b1.length+1)*8≤140737488355328 then (Dt.l1 K k flags (b1++[a1]) (w64 (a1+1))) else none) else (Dt.l1 K k flags b1 (w64 (a1+1)))) else none) else (some b1)
def Dt.f (K:Nat) (flags:List Bool):Option (List Int):=Dt.l1 K K flags ([]:List Int) 0
abbrev Dt.post (w0:World) (L:List Dc) (r1:List Int) (en:Ending) (w:World):Prop:=∃ (A_r0:Option Addr) (c_r1:Nat),en=.returned (.slice A_r0 r1.length c_r1)∧St w0 w (Own (Ac .i64) 2 A_r0 c_r1 (fun _=>()) r1::L)
mutual
def Au.l1 (K:Nat):Nat→(List (List Int))→(List (List Int))→(List (List Int))→(List (List Int))→(List Bool)→(List Bool)→(List Bool)→Int→Option ((List Int) × (List Int) × (List Int))
 |0,_,_,_,_,_,_,_,_=>none
 |k+1,t8,t9,t10,t44,c1,d1,b1,a1=>if a1<(t44.length:Int) then (if 0≤a1∧a1<(t44.length:Int) then (if 0≤(0:Int)∧(0:Int)<((t44.getD a1.toNat []).length:Int) then (if 0≤(1:Int)∧(1:Int)<((t44.getD a1.toNat []).length:Int) then (if 0≤(t44.getD a1.toNat []).getD 0 0∧(t44.getD a1.toNat []).getD 0 0<(t10.length:Int) then (if 0≤(t44.getD a1.toNat []).getD 1 0∧(t44.getD a1.toNat []).getD 1 0<((t10.getD (((t44.getD a1.toNat []).getD 0 0).toNat) []).length:Int) then (if 0≤(t10.getD (((t44.getD a1.toNat []).getD 0 0).toNat) []).getD (((t44.getD a1.toNat []).getD 1 0).toNat) 0∧(t10.getD (((t44.getD a1.toNat []).getD 0 0).toNat) []).getD (((t44.getD a1.toNat []).getD 1 0).toNat) 0<(b1.length:Int) then (Au.l8 K k t8 t9 t10 t44 d1 b1 a1 c1 0) else none) else none) else none) else none) else none) else none) else ((Dt.f K c1).bind fun t412=>((Dt.f K d1).bind fun t418=>((Dt.f K b1).bind fun t424=>(some (t412,t418,t424)))))
def Au.l8 (K:Nat):Nat→(List (List Int))→(List (List Int))→(List (List Int))→(List (List Int))→(List Bool)→(List Bool)→Int→(List Bool)→Int→Option ((List Int) × (List Int) × (List Int))
 |0,_,_,_,_,_,_,_,_,_=>none
 |k+1,t8,t9,t10,t44,e1,d1,a1,c1,b1=>if b1<4 then (if b1=(t44.getD a1.toNat []).getD 1 0 then (Au.l8 K k t8 t9 t10 t44 e1 d1 a1 c1 (w64 (b1+1))) else (if 0≤(t44.getD a1.toNat []).getD 0 0∧(t44.getD a1.toNat []).getD 0 0<(t8.length:Int) then (if 0≤b1∧b1<((t8.getD (((t44.getD a1.toNat []).getD 0 0).toNat) []).length:Int) then (if 0≤(t8.getD (((t44.getD a1.toNat []).getD 0 0).toNat) []).getD b1.toNat 0∧(t8.getD (((t44.getD a1.toNat []).getD 0 0).toNat) []).getD b1.toNat 0<(c1.length:Int) then (Au.l8 K k t8 t9 t10 t44 e1 d1 a1 (c1.set (((t8.getD (((t44.getD a1.toNat []).getD 0 0).toNat) []).getD b1.toNat 0).toNat) true) (w64 (b1+1))) else none) else none) else none)) else (Au.l10 K k t8 t9 t10 t44 d1 a1 c1 e1 0)
def Au.l10 (K:Nat):Nat→(List (List Int))→(List (List Int))→(List (List Int))→(List (List Int))→(List Bool)→Int→(List Bool)→(List Bool)→Int→Option ((List Int) × (List Int) × (List Int))
 |0,_,_,_,_,_,_,_,_,_=>none
 |k+1,t8,t9,t10,t44,e1,a1,d1,c1,b1=>if b1<6 then (Dw (Ha.f b1) (fun t400 t401=>(if t400=(t44.getD a1.toNat []).getD 1 0 then (Au.l10 K k t8 t9 t10 t44 e1 a1 d1 c1 (w64 (b1+1))) else (if t401=(t44.getD a1.toNat []).getD 1 0 then (Au.l10 K k t8 t9 t10 t44 e1 a1 d1 c1 (w64 (b1+1))) else (if 0≤(t44.getD a1.toNat []).getD 0 0∧(t44.getD a1.toNat []).getD 0 0<(t9.length:Int) then (if 0≤b1∧b1<((t9.getD (((t44.getD a1.toNat []).getD 0 0).toNat) []).length:Int) then (if 0≤(t9.getD (((t44.getD a1.toNat []).getD 0 0).toNat) []).getD b1.toNat 0∧(t9.getD (((t44.getD a1.toNat []).getD 0 0).toNat) []).getD b1.toNat 0<(c1.length:Int) then (Au.l10 K k t8 t9 t10 t44 e1 a1 d1 (c1.set (((t9.getD (((t44.getD a1.toNat []).getD 0 0).toNat) []).getD b1.toNat 0).toNat) true) (w64 (b1+1))) else none) else none) else none))))) else (Au.l1 K k t8 t9 t10 t44 d1 c1 (e1.set (((t10.getD (((t44.getD a1.toNat []).getD 0 0).toNat) []).getD (((t44.getD a1.toNat []).getD 1 0).toNat) 0).toNat) true) (w64 (a1+1)))
end
def Au.f (K:Nat) (a1:List (List Am)):Option ((List Int) × (List Int) × (List Int)):=(Af.f K a1).bind fun t3=>(if t3=true then (Hm (Bb.f K a1) (fun t8 t9 t10 t11=>(if 0≤(0:Int)∧(0:Int)<(t11.length:Int) then (if 0≤t11.getD 0 0 then (if (t11.getD 0 0).toNat*1≤281474976710656 then (if 0≤(1:Int)∧(1:Int)<(t11.length:Int) then (if 0≤t11.getD 1 0 then (if (t11.getD 1 0).toNat*1≤281474976710656 then (if 0≤(2:Int)∧(2:Int)<(t11.length:Int) then (if 0≤t11.getD 2 0 then (if (t11.getD 2 0).toNat*1≤281474976710656 then ((Cw.f K a1).bind fun t44=>(Au.l1 K K t8 t9 t10 t44 (List.replicate (t11.getD 0 0).toNat false) (List.replicate (t11.getD 1 0).toNat false) (List.replicate (t11.getD 2 0).toNat false) 0)) else none) else none) else none) else none) else none) else none) else none) else none) else none))) else (some (([]:List Int),([]:List Int),([]:List Int))))
abbrev Au.post (w0:World) (L:List Dc) (r1 r2 r3:List Int) (en:Ending) (w:World):Prop:=∃ (A_r0:Option Addr) (c_r1:Nat) (A_r2:Option Addr) (c_r3:Nat) (A_r4:Option Addr) (c_r5:Nat),en=.returned (.tuple #[.slice A_r0 r1.length c_r1,.slice A_r2 r2.length c_r3,.slice A_r4 r3.length c_r5])∧St w0 w (Own (Ac .i64) 2 A_r0 c_r1 (fun _=>()) r1::Own (Ac .i64) 2 A_r2 c_r3 (fun _=>()) r2::Own (Ac .i64) 2 A_r4 c_r5 (fun _=>()) r3::L)
def Gx.l1 (K:Nat):Nat→(List Int)→Int→Int→Option (Bool)
 |0,_,_,_=>none
 |k+1,list,n_,i_4=>if i_4<(list.length:Int) then (if 0≤i_4∧i_4<(list.length:Int) then (if list.getD i_4.toNat 0=n_ then (some true) else (Gx.l1 K k list n_ (w64 (i_4+1)))) else none) else (some false)
def Gx.f (K:Nat) (list:List Int) (n_:Int):Option (Bool):=Gx.l1 K K list n_ 0
abbrev Gx.post:=Ka
mutual
def Dx.l1 (K:Nat):Nat→Int→(List (List Int))→Int→Option (Int × Int)
 |0,_,_,_=>none
 |k+1,b1,t4,a1=>if a1<(t4.length:Int) then (Dx.l4 K k b1 t4 a1 0) else (some ((-1),(-1)))
def Dx.l4 (K:Nat):Nat→Int→(List (List Int))→Int→Int→Option (Int × Int)
 |0,_,_,_,_=>none
 |k+1,c1,t4,a1,b1=>if b1<6 then (if 0≤a1∧a1<(t4.length:Int) then (if 0≤b1∧b1<((t4.getD a1.toNat []).length:Int) then (if (t4.getD a1.toNat []).getD b1.toNat 0=c1 then (some (a1,b1)) else (Dx.l4 K k c1 t4 a1 (w64 (b1+1)))) else none) else none) else (Dx.l1 K k c1 t4 (w64 (a1+1)))
end
def Dx.f (K:Nat) (a1:List (List Am)) (b1:Int):Option (Int × Int):=Hm (Bb.f K a1) (fun t3 t4 t5 t6=>(Dx.l1 K K b1 t4 0))
abbrev Dx.post (w0:World) (L:List Dc) (r1 r2:Int) (en:Ending) (w:World):Prop:=en=.returned (.tuple #[.int .i64 r1,.int .i64 r2])∧St w0 w (L)
mutual
def Cu.l1 (K:Nat):Nat→(List Int)→(List Int)→Int→Option (Int × Bool)
 |0,_,_,_=>none
 |k+1,b1,to,a1=>if a1<(b1.length:Int) then (if 0≤a1∧a1<(b1.length:Int) then (if b1.getD a1.toNat 0<0 then (some (0,false)) else (if 3<b1.getD a1.toNat 0 then (some (0,false)) else (if 0≤a1∧a1<(to.length:Int) then (if to.getD a1.toNat 0<0 then (some (0,false)) else (if 3<to.getD a1.toNat 0 then (some (0,false)) else (Cu.l1 K k b1 to (w64 (a1+1))))) else none))) else none) else (Cu.l9 K k b1 to 0)
def Cu.l9 (K:Nat):Nat→(List Int)→(List Int)→Int→Option (Int × Bool)
 |0,_,_,_=>none
 |k+1,b1,to,a1=>if a1<24 then (Cu.l12 K k b1 to a1 true 0) else (some (0,false))
def Cu.l12 (K:Nat):Nat→(List Int)→(List Int)→Int→Bool→Int→Option (Int × Bool)
 |0,_,_,_,_,_=>none
 |k+1,b1,to,c1,d1,a1=>if a1<(b1.length:Int) then (if d1=true then (if 0≤a1∧a1<(b1.length:Int) then ((Ct.f K c1 (b1.getD a1.toNat 0)).bind fun t201=>(if 0≤a1∧a1<(to.length:Int) then (Cu.l12 K k b1 to c1 (decide (t201=to.getD a1.toNat 0)) (w64 (a1+1))) else none)) else none) else (Cu.l12 K k b1 to c1 false (w64 (a1+1)))) else (if d1=true then (some (c1,true)) else (Cu.l9 K k b1 to (w64 (c1+1))))
end
def Cu.f (K:Nat) (a1:List Int) (to:List Int):Option (Int × Bool):=if (a1.length:Int)=(to.length:Int) then (Cu.l1 K K a1 to 0) else (some (0,false))
abbrev Cu.post (w0:World) (L:List Dc) (r1:Int) (r2:Bool) (en:Ending) (w:World):Prop:=en=.returned (.tuple #[.int .i64 r1,.bool r2])∧St w0 w (L)
mutual
def Dr.l1 (K:Nat):Nat→(List (List Am))→Int→(List (List Int))→Int→Option (Int × Int)
 |0,_,_,_,_=>none
 |k+1,a1,b1,t6,c1=>(Dn.f a1).bind fun t305=>(if c1<t305 then (Dr.l4 K k a1 b1 t6 c1 0) else (Dw (Dx.f K a1 b1) (fun t424 t425=>(Dw (Ha.f t425) (fun t429 t430=>(Dw (Cu.f K ([0,1]:List Int) ([t429,t430]:List Int)) (fun t438 t439=>(some (t424,t438)))))))))
def Dr.l4 (K:Nat):Nat→(List (List Am))→Int→(List (List Int))→Int→Int→Option (Int × Int)
 |0,_,_,_,_,_=>none
 |k+1,c1,d1,t6,a1,b1=>if b1<24 then ((Ct.f K b1 0).bind fun t387=>((Ct.f K b1 1).bind fun t391=>((E8.f K t387 t391).bind fun t395=>(if 0≤a1∧a1<(t6.length:Int) then (if 0≤t395∧t395<((t6.getD a1.toNat []).length:Int) then (if (t6.getD a1.toNat []).getD t395.toNat 0=d1 then (if 0≤a1∧a1<(c1.length:Int) then ((Ct.f K b1 3).bind fun t415=>(if 0≤t415∧t415<((c1.getD a1.toNat []).length:Int) then (bnd ((c1.getD a1.toNat []).getD t415.toNat Eo) (fun e420=>if e420.Tet<0 then (some (a1,b1)) else (Dr.l4 K k c1 d1 t6 a1 (w64 (b1+1))))) else none)) else none) else (Dr.l4 K k c1 d1 t6 a1 (w64 (b1+1)))) else none) else none)))) else (Dr.l1 K k c1 d1 t6 (w64 (a1+1)))
end
def Dr.f (K:Nat) (a1:List (List Am)) (b1:Int):Option (Int × Int):=Hm (Bb.f K a1) (fun t5 t6 t7 t8=>(Dr.l1 K K a1 b1 t6 0))
abbrev Dr.post (w0:World) (L:List Dc) (r1 r2:Int) (en:Ending) (w:World):Prop:=en=.returned (.agg [.int .i64 r1,.int .i64 r2].toArray)∧St w0 w (L)
def Ee.l1 (K:Nat):Nat→Int→Am→(List Int)→Int→Option (Int × Int × Bool)
 |0,_,_,_,_=>none
 |k+1,c1,e13,b1,a1=>if a1<4 then (if 0≤a1∧a1<(([0,1,3,2]:List Int).length:Int) then ((Ct.f K c1 (([0,1,3,2]:List Int).getD a1.toNat 0)).bind fun t69=>((Ct.f K e13.Perm t69).bind fun t73=>(if (b1.length+1)*8≤140737488355328 then (Ee.l1 K k c1 e13 (b1++[t73]) (w64 (a1+1))) else none))) else none) else ((D7.f K b1).bind fun t83=>(some (e13.Tet,t83,true)))
def Ee.f (K:Nat) (b1:List (List Am)) (a1:Int) (c1:Int):Option (Int × Int × Bool):=if 0≤a1∧a1<(b1.length:Int) then ((Ct.f K c1 2).bind fun t8=>(if 0≤t8∧t8<((b1.getD a1.toNat []).length:Int) then (bnd ((b1.getD a1.toNat []).getD t8.toNat Eo) (fun e13=>if e13.Tet<0 then (some (0,0,false)) else (Ee.l1 K K c1 e13 ([]:List Int) 0))) else none)) else none
abbrev Ee.post (w0:World) (L:List Dc) (r1 r2:Int) (r3:Bool) (en:Ending) (w:World):Prop:=en=.returned (.tuple #[.agg [.int .i64 r1,.int .i64 r2].toArray,.bool r3])∧St w0 w (L)
def Gs.l1 (K:Nat):Nat→(List (List Am))→Int→Int→(List Am)→Option (List Am)
 |0,_,_,_,_=>none
 |k+1,b1,t3,t4,a1=>if 0≤w64 ((a1.length:Int) - 1)∧w64 ((a1.length:Int) - 1)<(a1.length:Int) then (bnd (a1.getD ((w64 ((a1.length:Int) - 1)).toNat) Eo) (fun e62=>Gy (Ee.f K b1 e62.Tet e62.Perm) (fun t64 t65 t66=>(if t66=true then (if (t64,t65)=(t3,t4) then (some a1) else (if (a1.length+1)*16≤140737488355328 then (Gs.l1 K k b1 t3 t4 (a1++[(⟨t64,t65⟩:Am)])) else none)) else (some a1))))) else none
def Gs.f (K:Nat) (a1:List (List Am)) (b1:Int):Option (List Am):=Dw (Dr.f K a1 b1) (fun t3 t4=>(Gs.l1 K K a1 t3 t4 ([(⟨t3,t4⟩:Am)]:List Am)))
abbrev Gs.post (w0:World) (L:List Dc) (r1:List Am) (en:Ending) (w:World):Prop:=∃ (A_r0:Option Addr) (c_r1:Nat),en=.returned (.slice A_r0 r1.length c_r1)∧St w0 w (Own Ak 176 A_r0 c_r1 (fun _=>()) r1::L)
def Fv.l1 (K:Nat):Nat→(List (List Int))→(List Am)→(List Int)→Int→Option (List Int)
 |0,_,_,_,_=>none
 |k+1,t3,t11,b1,a1=>if a1<(t11.length:Int) then (if 0≤a1∧a1<(t11.length:Int) then (bnd (t11.getD a1.toNat Eo) (fun e66=>if 0≤e66.Tet∧e66.Tet<(t3.length:Int) then ((Ct.f K e66.Perm 2).bind fun t71=>(if 0≤t71∧t71<((t3.getD e66.Tet.toNat []).length:Int) then (if (t3.getD e66.Tet.toNat []).getD t71.toNat 0=0 then (Fv.l1 K k t3 t11 b1 (w64 (a1+1))) else (if (b1.length+1)*8≤140737488355328 then (Fv.l1 K k t3 t11 (b1++[(t3.getD e66.Tet.toNat []).getD t71.toNat 0]) (w64 (a1+1))) else none)) else none)) else none)) else none) else (some b1)
def Fv.f (K:Nat) (a1:List (List Am)) (b1:Int):Option (List Int):=Dw (Bq.f K a1) (fun t3 t4=>((Gs.f K a1 b1).bind fun t11=>(Fv.l1 K K t3 t11 ([]:List Int) 0)))
abbrev Fv.post (w0:World) (L:List Dc) (r1:List Int) (en:Ending) (w:World):Prop:=∃ (A_r0:Option Addr) (c_r1:Nat),en=.returned (.slice A_r0 r1.length c_r1)∧St w0 w (Own (Ac .i64) 2 A_r0 c_r1 (fun _=>()) r1::L)
mutual
def De.l1 (K:Nat):Nat→(List Int)→(List Int)→Int→Option (List Int)
 |0,_,_,_=>none
 |k+1,w_,a1,b1=>if b1<(w_.length:Int) then (if 0<(a1.length:Int) then (if 0≤w64 ((a1.length:Int) - 1)∧w64 ((a1.length:Int) - 1)<(a1.length:Int) then (if 0≤b1∧b1<(w_.length:Int) then (De.j4 K k w_ a1 b1 (decide (a1.getD ((w64 ((a1.length:Int) - 1)).toNat) 0=w64 (0 - (w_.getD b1.toNat 0))))) else none) else none) else (De.j4 K k w_ a1 b1 false)) else (some a1)
def De.j4 (K:Nat):Nat→(List Int)→(List Int)→Int→Bool→Option (List Int)
 |0,_,_,_,_=>none
 |k+1,w_,a1,b1,x59=>if x59=true then (if 0≤w64 ((a1.length:Int) - 1)∧w64 ((a1.length:Int) - 1)≤(a1.length:Int) then (De.l1 K k w_ ((a1.take ((w64 ((a1.length:Int) - 1)).toNat)).drop 0) (w64 (b1+1))) else none) else (if 0≤b1∧b1<(w_.length:Int) then (if (a1.length+1)*8≤140737488355328 then (De.l1 K k w_ (a1++[w_.getD b1.toNat 0]) (w64 (b1+1))) else none) else none)
end
def De.f (K:Nat) (w_:List Int):Option (List Int):=De.l1 K K w_ ([]:List Int) 0
abbrev De.post (w0:World) (L:List Dc) (r1:List Int) (en:Ending) (w:World):Prop:=∃ (A_r0:Option Addr) (c_r1:Nat),en=.returned (.slice A_r0 r1.length c_r1)∧St w0 w (Own (Ac .i64) 2 A_r0 c_r1 (fun _=>()) r1::L)
def Eh.l1 (K:Nat):Nat→(List (List Am))→Int→(List Int)→(List Int)→(List (List Int))→Int→Option (Int × (List (List Int)))
 |0,_,_,_,_,_,_=>none
 |k+1,c1,t6,t19,t38,b1,a1=>if 0≤(1:Int)∧(1:Int)<(t19.length:Int) then (if a1<t19.getD 1 0 then ((Gx.f K t38 a1).bind fun t128=>(if t128=true then (Eh.l1 K k c1 t6 t19 t38 b1 (w64 (a1+1))) else ((Fv.f K c1 a1).bind fun t133=>((De.f K t133).bind fun t139=>(if 0<(t139.length:Int) then (if (([]:List (List Int)).length+b1.length)*24≤140737488355328 then (if (b1.length+1)*24≤140737488355328 then (Eh.l1 K k c1 t6 t19 t38 (b1++[t139]) (w64 (a1+1))) else none) else none) else (Eh.l1 K k c1 t6 t19 t38 b1 (w64 (a1+1)))))))) else (some (t6,b1))) else none
def Eh.f (K:Nat) (a1:List (List Am)):Option (Int × (List (List Int))):=Dw (Bq.f K a1) (fun t5 t6=>(Hm (Bb.f K a1) (fun t16 t17 t18 t19=>(Gy (Au.f K a1) (fun t37 t38 t39=>(Eh.l1 K K a1 t6 t19 t38 ([]:List (List Int)) 0))))))
abbrev Eh.post (w0:World) (L:List Dc) (r1:Int) (r2:List (List Int)) (en:Ending) (w:World):Prop:=∃ (A_r0:Option Addr) (c_r1:Nat) (y_r2:Nat→(Ty.slice 2 (Ac .i64)).Lay),en=.returned (.agg [.int .i64 r1,.slice A_r0 r2.length c_r1].toArray)∧St w0 w (Own (Ty.slice 2 (Ac .i64)) 26 A_r0 c_r1 y_r2 r2::L)
def Hu.f (K:Nat) (a1:List (List Am)):Option (Int × (List (List Int)) × Int):=(Jt.f K a1).bind fun t5=>(if t5=0 then (Dw (Eh.f K a1) (fun t10 t11=>(some (t10,t11,0)))) else (some (0,([]:List (List Int)),t5)))
abbrev Hu.post (w0:World) (L:List Dc) (r1:Int) (r2:List (List Int)) (r3:Int) (en:Ending) (w:World):Prop:=∃ (A_r0:Option Addr) (c_r1:Nat) (y_r2:Nat→(Ty.slice 2 (Ac .i64)).Lay),en=.returned (.tuple #[.agg [.int .i64 r1,.slice A_r0 r2.length c_r1].toArray,.int .i64 r3])∧St w0 w (Own (Ty.slice 2 (Ac .i64)) 26 A_r0 c_r1 y_r2 r2::L)
def Jp.f (rows:Int) (columns:Int):Option (Int × Int × (List Int)):=if 0≤w64 (rows*columns) then (if (w64 (rows*columns)).toNat*8≤281474976710656 then (some (rows,columns,(List.replicate (w64 (rows*columns)).toNat (0:Int)))) else none) else none
abbrev Jp.post (w0:World) (L:List Dc) (r1 r2:Int) (r3:List Int) (en:Ending) (w:World):Prop:=∃ (A_r0:Option Addr) (c_r1:Nat),en=.returned (.agg [.int .i64 r1,.int .i64 r2,.slice A_r0 r3.length c_r1].toArray)∧St w0 w (Own (Ac .i64) 2 A_r0 c_r1 (fun _=>()) r3::L)
def J2.f (c1:Int) (a1:Int) (b1:List Int) (row:Int) (column:Int) (n_:Int):Option (List Int):=if 0≤w64 ((w64 (row*a1))+column)∧w64 ((w64 (row*a1))+column)<(b1.length:Int) then (some (b1.set ((w64 ((w64 (row*a1))+column)).toNat) (w64 ((b1.getD ((w64 ((w64 (row*a1))+column)).toNat) 0)+n_)))) else none
abbrev J2.post (w0:World) (L:List Dc) (A_a:Option Addr) (c_a:Nat) (r1:List Int) (en:Ending) (w:World):Prop:=en=.returned (.tuple #[])∧St w0 w (Own (Ac .i64) 2 A_a c_a (fun _=>()) r1::L)
def I4.f (n_:Int) (low:Int) (high:Int):Option (Bool):=if low≤n_ then (some (decide (n_≤high))) else (some false)
abbrev I4.post:=Ka
def Fh.l1 (K:Nat):Nat→(List Int)→Int→Option (Bool)
 |0,_,_=>none
 |k+1,b1,a1=>if a1<(b1.length:Int) then (if 0≤a1∧a1<(b1.length:Int) then ((I4.f (b1.getD a1.toNat 0) (-1000000000000) 1000000000000).bind fun t41=>(if t41=true then (Fh.l1 K k b1 (w64 (a1+1))) else (some false))) else none) else (some true)
def Fh.f (K:Nat) (a1:Int) (c1:Int) (b1:List Int):Option (Bool):=(I4.f a1 0 48).bind fun t13=>(if t13=true then ((I4.f c1 0 48).bind fun t18=>(if t18=true then (if (b1.length:Int)=w64 (a1*c1) then (Fh.l1 K K b1 0) else (some false)) else (some false))) else (some false))
abbrev Fh.post:=Ka
def E5.l1 (K:Nat):Nat→Int→Int→Int→(List Int)→Int→Option (Int × Int × (List Int))
 |0,_,_,_,_,_=>none
 |k+1,n_,t3,t4,b1,a1=>if a1<n_ then (if 0≤w64 ((w64 (a1*n_))+a1)∧w64 ((w64 (a1*n_))+a1)<(b1.length:Int) then (E5.l1 K k n_ t3 t4 (b1.set ((w64 ((w64 (a1*n_))+a1)).toNat) 1) (w64 (a1+1))) else none) else (some (t3,t4,b1))
def E5.f (K:Nat) (n_:Int):Option (Int × Int × (List Int)):=Gy (Jp.f n_ n_) (fun t3 t4 t5=>(E5.l1 K K n_ t3 t4 t5 0))
abbrev E5.post (w0:World) (L:List Dc) (r1 r2:Int) (r3:List Int) (en:Ending) (w:World):Prop:=∃ (A_r0:Option Addr) (c_r1:Nat),en=.returned (.agg [.int .i64 r1,.int .i64 r2,.slice A_r0 r3.length c_r1].toArray)∧St w0 w (Own (Ac .i64) 2 A_r0 c_r1 (fun _=>()) r3::L)
def Cy.f (c1:Int) (a1:Int) (b1:List Int) (row:Int) (column:Int):Option (Int):=if 0≤w64 ((w64 (row*a1))+column)∧w64 ((w64 (row*a1))+column)<(b1.length:Int) then (some (b1.getD ((w64 ((w64 (row*a1))+column)).toNat) 0)) else none
abbrev Cy.post:=J5
def Ie.f (n_:Int):Option (Int):=some (if w64 (0 - n_) > n_ then w64 (0 - n_) else n_)
abbrev Ie.post:=J5
def Ex.l1 (K:Nat):Nat→Int→Int→Int→Int→(List Int)→Int→Option (List Int)
 |0,_,_,_,_,_,_=>none
 |k+1,c1,b1,a_,b_,x17,a1=>if a1<b1 then ((Cy.f c1 b1 x17 a_ a1).bind fun t34=>((Cy.f c1 b1 x17 b_ a1).bind fun t38=>(if 0≤w64 ((w64 (a_*b1))+a1)∧w64 ((w64 (a_*b1))+a1)<(x17.length:Int) then (if 0≤w64 ((w64 (b_*b1))+a1)∧w64 ((w64 (b_*b1))+a1)<((x17.set ((w64 ((w64 (a_*b1))+a1)).toNat) t38).length:Int) then (Ex.l1 K k c1 b1 a_ b_ ((x17.set ((w64 ((w64 (a_*b1))+a1)).toNat) t38).set ((w64 ((w64 (b_*b1))+a1)).toNat) t34) (w64 (a1+1))) else none) else none))) else (some x17)
def Ex.f (K:Nat) (a1:Int) (c1:Int) (b1:List Int) (a_:Int) (b_:Int):Option (List Int):=Ex.l1 K K a1 c1 a_ b_ b1 0
abbrev Ex.post (w0:World) (L:List Dc) (A_a:Option Addr) (c_a:Nat) (r1:List Int) (en:Ending) (w:World):Prop:=en=.returned (.tuple #[])∧St w0 w (Own (Ac .i64) 2 A_a c_a (fun _=>()) r1::L)
def D9.l1 (K:Nat):Nat→Int→Int→Int→Int→(List Int)→Int→Option (List Int)
 |0,_,_,_,_,_,_=>none
 |k+1,c1,b1,a_,b_,x17,a1=>if a1<c1 then ((Cy.f c1 b1 x17 a1 a_).bind fun t34=>((Cy.f c1 b1 x17 a1 b_).bind fun t38=>(if 0≤w64 ((w64 (a1*b1))+a_)∧w64 ((w64 (a1*b1))+a_)<(x17.length:Int) then (if 0≤w64 ((w64 (a1*b1))+b_)∧w64 ((w64 (a1*b1))+b_)<((x17.set ((w64 ((w64 (a1*b1))+a_)).toNat) t38).length:Int) then (D9.l1 K k c1 b1 a_ b_ ((x17.set ((w64 ((w64 (a1*b1))+a_)).toNat) t38).set ((w64 ((w64 (a1*b1))+b_)).toNat) t34) (w64 (a1+1))) else none) else none))) else (some x17)
def D9.f (K:Nat) (a1:Int) (c1:Int) (b1:List Int) (a_:Int) (b_:Int):Option (List Int):=D9.l1 K K a1 c1 a_ b_ b1 0
abbrev D9.post (w0:World) (L:List Dc) (A_a:Option Addr) (c_a:Nat) (r1:List Int) (en:Ending) (w:World):Prop:=en=.returned (.tuple #[])∧St w0 w (Own (Ac .i64) 2 A_a c_a (fun _=>()) r1::L)
mutual
def Bn.l1 (K:Nat):Nat→Int→Int→(List Int)→Int→Int→(List Int)→Int→Int→(List Int)→Int→Int→(List Int)→Int→Int→(List Int)→Int→Int→Int→Int→Option (Bool × (List Int) × (List Int) × (List Int) × (List Int) × (List Int))
 |0,_,_,_,_,_,_,_,_,_,_,_,_,_,_,_,_,_,_,_=>none
 |k+1,a1,b1,e1,n1,o1,h1,k1,m1,g1,p1,q1,d1,r1,s1,f1,o,c1,i1,x78=>if x78<a1 then (Bn.l8 K k a1 b1 e1 n1 o1 h1 k1 m1 g1 p1 q1 d1 r1 s1 f1 o x78 c1 i1 o) else (if c1<0 then (some (false,e1,h1,g1,d1,f1)) else ((Ex.f K a1 b1 e1 c1 o).bind fun t474=>(if t474.length=e1.length then ((Ex.f K n1 o1 h1 c1 o).bind fun t479=>(if t479.length=h1.length then ((D9.f K k1 m1 g1 c1 o).bind fun t484=>(if t484.length=g1.length then ((D9.f K a1 b1 t474 i1 o).bind fun t489=>(if t489.length=t474.length then ((D9.f K p1 q1 d1 i1 o).bind fun t494=>(if t494.length=d1.length then ((Ex.f K r1 s1 f1 i1 o).bind fun t499=>(if t499.length=f1.length then ((Cy.f a1 b1 t489 o o).bind fun t504=>(if t504<0 then (Bn.l9 K k a1 b1 n1 o1 k1 m1 o t479 t484 t494 t499 t489 0) else (some (true,t489,t479,t484,t494,t499)))) else none)) else none)) else none)) else none)) else none)) else none)))
def Bn.l8 (K:Nat):Nat→Int→Int→(List Int)→Int→Int→(List Int)→Int→Int→(List Int)→Int→Int→(List Int)→Int→Int→(List Int)→Int→Int→Int→Int→Int→Option (Bool × (List Int) × (List Int) × (List Int) × (List Int) × (List Int))
 |0,_,_,_,_,_,_,_,_,_,_,_,_,_,_,_,_,_,_,_,_=>none
 |k+1,c1,a1,b1,q1,r1,n1,g1,p1,m1,d1,f1,e1,i1,o1,k1,o,x78,h1,s1,x412=>if x412<a1 then ((Cy.f c1 a1 b1 x78 x412).bind fun t444=>((Ie.f t444).bind fun t448=>(if 0<t448 then (if h1<0 then (Bn.l8 K k c1 a1 b1 q1 r1 n1 g1 p1 m1 d1 f1 e1 i1 o1 k1 o x78 x78 x412 (w64 (x412+1))) else ((Cy.f c1 a1 b1 h1 s1).bind fun t464=>((Ie.f t464).bind fun t468=>(if t448<t468 then (Bn.l8 K k c1 a1 b1 q1 r1 n1 g1 p1 m1 d1 f1 e1 i1 o1 k1 o x78 x78 x412 (w64 (x412+1))) else (Bn.l8 K k c1 a1 b1 q1 r1 n1 g1 p1 m1 d1 f1 e1 i1 o1 k1 o x78 h1 s1 (w64 (x412+1))))))) else (Bn.l8 K k c1 a1 b1 q1 r1 n1 g1 p1 m1 d1 f1 e1 i1 o1 k1 o x78 h1 s1 (w64 (x412+1)))))) else (Bn.l1 K k c1 a1 b1 q1 r1 n1 g1 p1 m1 d1 f1 e1 i1 o1 k1 o h1 s1 (w64 (x78+1)))
def Bn.l9 (K:Nat):Nat→Int→Int→Int→Int→Int→Int→Int→(List Int)→(List Int)→(List Int)→(List Int)→(List Int)→Int→Option (Bool × (List Int) × (List Int) × (List Int) × (List Int) × (List Int))
 |0,_,_,_,_,_,_,_,_,_,_,_,_,_=>none
 |k+1,c1,a1,e1,f1,b1,d1,o,t479,t484,t494,t499,x565,x566=>if x566<a1 then ((Cy.f c1 a1 x565 o x566).bind fun t624=>(if 0≤w64 ((w64 (o*a1))+x566)∧w64 ((w64 (o*a1))+x566)<(x565.length:Int) then (Bn.l9 K k c1 a1 e1 f1 b1 d1 o t479 t484 t494 t499 (x565.set ((w64 ((w64 (o*a1))+x566)).toNat) (w64 (0 - t624))) (w64 (x566+1))) else none)) else (Bn.l12 K k e1 f1 b1 d1 o t494 t499 x565 t479 t484 0)
def Bn.l12 (K:Nat):Nat→Int→Int→Int→Int→Int→(List Int)→(List Int)→(List Int)→(List Int)→(List Int)→Int→Option (Bool × (List Int) × (List Int) × (List Int) × (List Int) × (List Int))
 |0,_,_,_,_,_,_,_,_,_,_,_=>none
 |k+1,d1,a1,c1,b1,o,t494,t499,x565,x646,x647,x648=>if x648<a1 then ((Cy.f d1 a1 x646 o x648).bind fun t665=>(if 0≤w64 ((w64 (o*a1))+x648)∧w64 ((w64 (o*a1))+x648)<(x646.length:Int) then ((Cy.f c1 b1 x647 x648 o).bind fun t672=>(if 0≤w64 ((w64 (x648*b1))+o)∧w64 ((w64 (x648*b1))+o)<(x647.length:Int) then (Bn.l12 K k d1 a1 c1 b1 o t494 t499 x565 (x646.set ((w64 ((w64 (o*a1))+x648)).toNat) (w64 (0 - t665))) (x647.set ((w64 ((w64 (x648*b1))+o)).toNat) (w64 (0 - t672))) (w64 (x648+1))) else none)) else none)) else (some (true,x565,x646,x647,t494,t499))
end
def Bn.f (K:Nat) (g1:Int) (a1:Int) (e1:List Int) (p1:Int) (q1:Int) (m1:List Int) (f1:Int) (o1:Int) (k1:List Int) (b1:Int) (d1:Int) (c1:List Int) (h1:Int) (n1:Int) (i1:List Int) (r1:Bool) (o:Int):Option (Bool × (List Int) × (List Int) × (List Int) × (List Int) × (List Int)):=Bn.l1 K K g1 a1 e1 p1 q1 m1 f1 o1 k1 b1 d1 c1 h1 n1 i1 o (-1) (-1) o
abbrev Bn.post (w0:World) (L:List Dc) (t_d_Rows t_d_Columns:Int) (t_l_Rows t_l_Columns:Int) (t_li_Rows t_li_Columns:Int) (t_r_Rows t_r_Columns:Int) (t_ri_Rows t_ri_Columns:Int) (t_bad:Bool) (b_t:Nat) (A_a:Option Addr) (c_a:Nat) (A_b:Option Addr) (c_b:Nat) (A_c:Option Addr) (c_c:Nat) (A_d:Option Addr) (c_d:Nat) (A_e:Option Addr) (c_e:Nat) (r1:Bool) (r2 r3:List Int) (r4 r5 r6:List Int) (en:Ending) (w:World):Prop:=en=.returned (.bool r1)∧St w0 w (Box b_t 124 [.int .i64 t_d_Rows,.int .i64 t_d_Columns,.slice A_a r2.length c_a,.int .i64 t_l_Rows,.int .i64 t_l_Columns,.slice A_b r3.length c_b,.int .i64 t_li_Rows,.int .i64 t_li_Columns,.slice A_c r4.length c_c,.int .i64 t_r_Rows,.int .i64 t_r_Columns,.slice A_d r5.length c_d,.int .i64 t_ri_Rows,.int .i64 t_ri_Columns,.slice A_e r6.length c_e,.bool t_bad]::Own (Ac .i64) 2 A_a c_a (fun _=>()) r2::Own (Ac .i64) 2 A_b c_b (fun _=>()) r3::Own (Ac .i64) 2 A_c c_c (fun _=>()) r4::Own (Ac .i64) 2 A_d c_d (fun _=>()) r5::Own (Ac .i64) 2 A_e c_e (fun _=>()) r6::L)
def Jl.f (a_:Int) (b_:Int):Option (Int):=if b_=0 then none else (if a_.tmod b_<0 then (some (w64 ((w64 (a_.tdiv b_)) - 1))) else (some (w64 (a_.tdiv b_))))
abbrev Jl.post:=J5
def Jq.f (a_:Int) (b_:Int) (most:Int):Option (Int × Bool):=if a_=0 then (some (w64 (a_*b_),true)) else ((Ie.f b_).bind fun t12=>((Ie.f a_).bind fun t16=>(if t16=0 then none else (if w64 (most.tdiv t16)<t12 then (some (0,false)) else (some (w64 (a_*b_),true))))))
abbrev Jq.post (w0:World) (L:List Dc) (r1:Int) (r2:Bool) (en:Ending) (w:World):Prop:=en=.returned (.tuple #[.int .i64 r1,.bool r2])∧St w0 w (L)
def Jw.f (a_:Int) (q:Int) (x:Int):Option (Int):=Dw (Jq.f q x 2000000000000) (fun t1 t2=>(if t2=true then (some (w64 (a_ - t1))) else (some 3000000000000)))
abbrev Jw.post:=J5
def J3.f (c1:Bool) (d1:Int) (b1:Int) (a1:List Int) (i:Int) (j_:Int) (x:Int):Option (Bool × (List Int)):=(Ie.f x).bind fun t3=>(if 1000000000000<t3 then (some (true,a1)) else (if 0≤w64 ((w64 (i*b1))+j_)∧w64 ((w64 (i*b1))+j_)<(a1.length:Int) then (some (c1,(a1.set ((w64 ((w64 (i*b1))+j_)).toNat) x))) else none))
abbrev J3.post (w0:World) (L:List Dc) (b_w_:Nat) (o0_b_w_ o1_b_w_:Value) (o2_b_w_ o3_b_w_:Value) (o4_b_w_ o5_b_w_:Value) (o6_b_w_ o7_b_w_:Value) (o8_b_w_ o9_b_w_:Value) (o10_b_w_ o11_b_w_:Value) (o12_b_w_ o13_b_w_ o14_b_w_:Value) (A_a:Option Addr) (c_a:Nat) (r1:Bool) (r2:List Int) (en:Ending) (w:World):Prop:=en=.returned (.tuple #[])∧St w0 w (Box b_w_ 124 [o0_b_w_,o1_b_w_,o2_b_w_,o3_b_w_,o4_b_w_,o5_b_w_,o6_b_w_,o7_b_w_,o8_b_w_,o9_b_w_,o10_b_w_,o11_b_w_,o12_b_w_,o13_b_w_,o14_b_w_,.bool r1]::Own (Ac .i64) 2 A_a c_a (fun _=>()) r2::L)
def Ea.l1 (K:Nat):Nat→Int→Int→Int→Int→Int→Bool→(List Int)→Int→Option (Bool × (List Int))
 |0,_,_,_,_,_,_,_,_=>none
 |k+1,c1,b1,i,k_,q,x24,x25,a1=>if a1<b1 then (if x24=true then (some (x24,x25)) else ((Cy.f c1 b1 x25 i a1).bind fun t51=>((Cy.f c1 b1 x25 k_ a1).bind fun t55=>((Jw.f t51 q t55).bind fun t59=>(Dw (J3.f x24 c1 b1 x25 i a1 t59) (fun t63 t64=>(if t64.length=x25.length then (Ea.l1 K k c1 b1 i k_ q t63 t64 (w64 (a1+1))) else none))))))) else (some (x24,x25))
def Ea.f (K:Nat) (b1:Bool) (a1:Int) (d1:Int) (c1:List Int) (i:Int) (k_:Int) (q:Int):Option (Bool × (List Int)):=Ea.l1 K K a1 d1 i k_ q b1 c1 0
abbrev Ea.post (w0:World) (L:List Dc) (b_w_:Nat) (o0_b_w_ o1_b_w_:Value) (o2_b_w_ o3_b_w_:Value) (o4_b_w_ o5_b_w_:Value) (o6_b_w_ o7_b_w_:Value) (o8_b_w_ o9_b_w_:Value) (o10_b_w_ o11_b_w_:Value) (o12_b_w_ o13_b_w_ o14_b_w_:Value) (A_a:Option Addr) (c_a:Nat) (r1:Bool) (r2:List Int) (en:Ending) (w:World):Prop:=en=.returned (.tuple #[])∧St w0 w (Box b_w_ 124 [o0_b_w_,o1_b_w_,o2_b_w_,o3_b_w_,o4_b_w_,o5_b_w_,o6_b_w_,o7_b_w_,o8_b_w_,o9_b_w_,o10_b_w_,o11_b_w_,o12_b_w_,o13_b_w_,o14_b_w_,.bool r1]::Own (Ac .i64) 2 A_a c_a (fun _=>()) r2::L)
def Dg.l1 (K:Nat):Nat→Int→Int→Int→Int→Int→Bool→(List Int)→Int→Option (Bool × (List Int))
 |0,_,_,_,_,_,_,_,_=>none
 |k+1,a1,c1,j_,k_,q,x24,x25,b1=>if b1<a1 then (if x24=true then (some (x24,x25)) else ((Cy.f a1 c1 x25 b1 j_).bind fun t51=>((Cy.f a1 c1 x25 b1 k_).bind fun t55=>((Jw.f t51 q t55).bind fun t59=>(Dw (J3.f x24 a1 c1 x25 b1 j_ t59) (fun t63 t64=>(if t64.length=x25.length then (Dg.l1 K k a1 c1 j_ k_ q t63 t64 (w64 (b1+1))) else none))))))) else (some (x24,x25))
def Dg.f (K:Nat) (b1:Bool) (a1:Int) (d1:Int) (c1:List Int) (j_:Int) (k_:Int) (q:Int):Option (Bool × (List Int)):=Dg.l1 K K a1 d1 j_ k_ q b1 c1 0
abbrev Dg.post (w0:World) (L:List Dc) (b_w_:Nat) (o0_b_w_ o1_b_w_:Value) (o2_b_w_ o3_b_w_:Value) (o4_b_w_ o5_b_w_:Value) (o6_b_w_ o7_b_w_:Value) (o8_b_w_ o9_b_w_:Value) (o10_b_w_ o11_b_w_:Value) (o12_b_w_ o13_b_w_ o14_b_w_:Value) (A_a:Option Addr) (c_a:Nat) (r1:Bool) (r2:List Int) (en:Ending) (w:World):Prop:=en=.returned (.tuple #[])∧St w0 w (Box b_w_ 124 [o0_b_w_,o1_b_w_,o2_b_w_,o3_b_w_,o4_b_w_,o5_b_w_,o6_b_w_,o7_b_w_,o8_b_w_,o9_b_w_,o10_b_w_,o11_b_w_,o12_b_w_,o13_b_w_,o14_b_w_,.bool r1]::Own (Ac .i64) 2 A_a c_a (fun _=>()) r2::L)
def I5.f (K:Nat) (k1:Int) (f1:Int) (a1:List Int) (h1:Int) (g1:Int) (b1:List Int) (e1:Int) (i1:Int) (c1:List Int) (m1:Int) (r1:Int) (q1:List Int) (o1:Int) (p1:Int) (n1:List Int) (d1:Bool) (i:Int) (k_:Int) (q:Int):Option (Bool × (List Int) × (List Int) × (List Int)):=if q=0 then (some (d1,a1,b1,c1)) else (Dw (Ea.f K d1 k1 f1 a1 i k_ q) (fun t2 t3=>(if t3.length=a1.length then (Dw (Ea.f K t2 h1 g1 b1 i k_ q) (fun t8 t9=>(if t9.length=b1.length then (Dw (Dg.f K t8 e1 i1 c1 k_ i (w64 (0 - q))) (fun t14 t15=>(if t15.length=c1.length then (some (t14,t3,t9,t15)) else none))) else none))) else none)))
abbrev I5.post (w0:World) (L:List Dc) (w_d_Rows w_d_Columns:Int) (w_l_Rows w_l_Columns:Int) (w_li_Rows w_li_Columns:Int) (w_r_Rows w_r_Columns:Int) (w_r_Entries:List Int) (w_ri_Rows w_ri_Columns:Int) (w_ri_Entries:List Int) (b_w_:Nat) (A_a:Option Addr) (c_a:Nat) (A_b:Option Addr) (c_b:Nat) (A_c:Option Addr) (c_c:Nat) (A_d:Option Addr) (c_d:Nat) (A_e:Option Addr) (c_e:Nat) (r1:Bool) (r2 r3 r4:List Int) (en:Ending) (w:World):Prop:=en=.returned (.tuple #[])∧St w0 w (Box b_w_ 124 [.int .i64 w_d_Rows,.int .i64 w_d_Columns,.slice A_a r2.length c_a,.int .i64 w_l_Rows,.int .i64 w_l_Columns,.slice A_b r3.length c_b,.int .i64 w_li_Rows,.int .i64 w_li_Columns,.slice A_c r4.length c_c,.int .i64 w_r_Rows,.int .i64 w_r_Columns,.slice A_d w_r_Entries.length c_d,.int .i64 w_ri_Rows,.int .i64 w_ri_Columns,.slice A_e w_ri_Entries.length c_e,.bool r1]::Own (Ac .i64) 2 A_a c_a (fun _=>()) r2::Own (Ac .i64) 2 A_b c_b (fun _=>()) r3::Own (Ac .i64) 2 A_c c_c (fun _=>()) r4::L)
def Iu.f (K:Nat) (k1:Int) (g1:Int) (a1:List Int) (q1:Int) (n1:Int) (o1:List Int) (m1:Int) (r1:Int) (p1:List Int) (e1:Int) (i1:Int) (c1:List Int) (f1:Int) (h1:Int) (b1:List Int) (d1:Bool) (j_:Int) (k_:Int) (q:Int):Option (Bool × (List Int) × (List Int) × (List Int)):=if q=0 then (some (d1,a1,c1,b1)) else (Dw (Dg.f K d1 k1 g1 a1 j_ k_ q) (fun t2 t3=>(if t3.length=a1.length then (Dw (Dg.f K t2 e1 i1 c1 j_ k_ q) (fun t8 t9=>(if t9.length=c1.length then (Dw (Ea.f K t8 f1 h1 b1 k_ j_ (w64 (0 - q))) (fun t14 t15=>(if t15.length=b1.length then (some (t14,t3,t9,t15)) else none))) else none))) else none)))
abbrev Iu.post (w0:World) (L:List Dc) (w_d_Rows w_d_Columns:Int) (w_l_Rows w_l_Columns:Int) (w_l_Entries:List Int) (w_li_Rows w_li_Columns:Int) (w_li_Entries:List Int) (w_r_Rows w_r_Columns:Int) (w_ri_Rows w_ri_Columns:Int) (b_w_:Nat) (A_a:Option Addr) (c_a:Nat) (A_b:Option Addr) (c_b:Nat) (A_c:Option Addr) (c_c:Nat) (A_d:Option Addr) (c_d:Nat) (A_e:Option Addr) (c_e:Nat) (r1:Bool) (r2 r3 r4:List Int) (en:Ending) (w:World):Prop:=en=.returned (.tuple #[])∧St w0 w (Box b_w_ 124 [.int .i64 w_d_Rows,.int .i64 w_d_Columns,.slice A_a r2.length c_a,.int .i64 w_l_Rows,.int .i64 w_l_Columns,.slice A_b w_l_Entries.length c_b,.int .i64 w_li_Rows,.int .i64 w_li_Columns,.slice A_c w_li_Entries.length c_c,.int .i64 w_r_Rows,.int .i64 w_r_Columns,.slice A_d r3.length c_d,.int .i64 w_ri_Rows,.int .i64 w_ri_Columns,.slice A_e r4.length c_e,.bool r1]::Own (Ac .i64) 2 A_a c_a (fun _=>()) r2::Own (Ac .i64) 2 A_d c_d (fun _=>()) r3::Own (Ac .i64) 2 A_e c_e (fun _=>()) r4::L)
mutual
def Dv.l1 (K:Nat):Nat→Int→Int→(List Int)→Int→Int→Option (Bool)
 |0,_,_,_,_,_=>none
 |k+1,a1,b1,c1,k_,d1=>if d1<a1 then ((Cy.f a1 b1 c1 d1 k_).bind fun t53=>(if t53=0 then (Dv.l1 K k a1 b1 c1 k_ (w64 (d1+1))) else (some false))) else (Dv.l4 K k a1 b1 c1 k_ (w64 (k_+1)))
def Dv.l4 (K:Nat):Nat→Int→Int→(List Int)→Int→Int→Option (Bool)
 |0,_,_,_,_,_=>none
 |k+1,d1,a1,c1,k_,b1=>if b1<a1 then ((Cy.f d1 a1 c1 k_ b1).bind fun t72=>(if t72=0 then (Dv.l4 K k d1 a1 c1 k_ (w64 (b1+1))) else (some false))) else (some true)
end
def Dv.f (K:Nat) (c1:Int) (b1:Int) (a1:List Int) (p1:Int) (i1:Int) (m1:List Int) (h1:Int) (q1:Int) (n1:List Int) (d1:Int) (r1:Int) (o1:List Int) (f1:Int) (k1:Int) (e1:List Int) (g1:Bool) (k_:Int):Option (Bool):=Dv.l1 K K c1 b1 a1 k_ (w64 (k_+1))
abbrev Dv.post (w0:World) (L:List Dc) (w_d_Rows w_d_Columns:Int) (w_d_Entries:List Int) (w_l_Rows w_l_Columns:Int) (w_l_Entries:List Int) (w_li_Rows w_li_Columns:Int) (w_li_Entries:List Int) (w_r_Rows w_r_Columns:Int) (w_r_Entries:List Int) (w_ri_Rows w_ri_Columns:Int) (w_ri_Entries:List Int) (w_bad:Bool) (b_w_:Nat) (A_a:Option Addr) (c_a:Nat) (A_b:Option Addr) (c_b:Nat) (A_c:Option Addr) (c_c:Nat) (A_d:Option Addr) (c_d:Nat) (A_e:Option Addr) (c_e:Nat) (r1:Bool) (en:Ending) (w:World):Prop:=en=.returned (.bool r1)∧St w0 w (Box b_w_ 124 [.int .i64 w_d_Rows,.int .i64 w_d_Columns,.slice A_a w_d_Entries.length c_a,.int .i64 w_l_Rows,.int .i64 w_l_Columns,.slice A_b w_l_Entries.length c_b,.int .i64 w_li_Rows,.int .i64 w_li_Columns,.slice A_c w_li_Entries.length c_c,.int .i64 w_r_Rows,.int .i64 w_r_Columns,.slice A_d w_r_Entries.length c_d,.int .i64 w_ri_Rows,.int .i64 w_ri_Columns,.slice A_e w_ri_Entries.length c_e,.bool w_bad]::L)
mutual
def Dy.l1 (K:Nat):Nat→Int→Int→(List Int)→Int→Int→Option (Int)
 |0,_,_,_,_,_=>none
 |k+1,b1,c1,d1,k_,a1=>if a1<b1 then (Dy.l4 K k b1 c1 d1 k_ a1 (w64 (k_+1))) else (some (-1))
def Dy.l4 (K:Nat):Nat→Int→Int→(List Int)→Int→Int→Int→Option (Int)
 |0,_,_,_,_,_,_=>none
 |k+1,d1,a1,b1,k_,c1,e1=>if e1<a1 then ((Cy.f d1 a1 b1 c1 e1).bind fun t97=>((Cy.f d1 a1 b1 k_ k_).bind fun t101=>(if t101=0 then none else (if t97.tmod t101=0 then (Dy.l4 K k d1 a1 b1 k_ c1 (w64 (e1+1))) else (some c1))))) else (Dy.l1 K k d1 a1 b1 k_ (w64 (c1+1)))
end
def Dy.f (K:Nat) (c1:Int) (b1:Int) (a1:List Int) (p1:Int) (i1:Int) (m1:List Int) (h1:Int) (q1:Int) (n1:List Int) (d1:Int) (r1:Int) (o1:List Int) (f1:Int) (k1:Int) (e1:List Int) (g1:Bool) (k_:Int):Option (Int):=Dy.l1 K K c1 b1 a1 k_ (w64 (k_+1))
abbrev Dy.post (w0:World) (L:List Dc) (w_d_Rows w_d_Columns:Int) (w_d_Entries:List Int) (w_l_Rows w_l_Columns:Int) (w_l_Entries:List Int) (w_li_Rows w_li_Columns:Int) (w_li_Entries:List Int) (w_r_Rows w_r_Columns:Int) (w_r_Entries:List Int) (w_ri_Rows w_ri_Columns:Int) (w_ri_Entries:List Int) (w_bad:Bool) (b_w_:Nat) (A_a:Option Addr) (c_a:Nat) (A_b:Option Addr) (c_b:Nat) (A_c:Option Addr) (c_c:Nat) (A_d:Option Addr) (c_d:Nat) (A_e:Option Addr) (c_e:Nat) (r1:Int) (en:Ending) (w:World):Prop:=en=.returned (.int .i64 r1)∧St w0 w (Box b_w_ 124 [.int .i64 w_d_Rows,.int .i64 w_d_Columns,.slice A_a w_d_Entries.length c_a,.int .i64 w_l_Rows,.int .i64 w_l_Columns,.slice A_b w_l_Entries.length c_b,.int .i64 w_li_Rows,.int .i64 w_li_Columns,.slice A_c w_li_Entries.length c_c,.int .i64 w_r_Rows,.int .i64 w_r_Columns,.slice A_d w_r_Entries.length c_d,.int .i64 w_ri_Rows,.int .i64 w_ri_Columns,.slice A_e w_ri_Entries.length c_e,.bool w_bad]::L)
mutual
def Ci.l1 (K:Nat):Nat→Int→Int→Int→Int→Int→Int→Int→Int→Int→Int→Int→(List Int)→(List Int)→(List Int)→(List Int)→(List Int)→Bool→Int→Option (Bool × Bool × Bool × (List Int) × (List Int) × (List Int) × (List Int) × (List Int))
 |0,_,_,_,_,_,_,_,_,_,_,_,_,_,_,_,_,_,_=>none
 |k+1,b1,a1,i1,g1,f1,k1,d1,m1,e1,h1,k_,t5,t6,x203,x204,x205,x206,c1=>if c1<b1 then (if x206=true then (Ci.l6 K k a1 k_ t5 t6 x203 x204 x205 x206) else ((Cy.f b1 a1 x203 c1 k_).bind fun t402=>((Cy.f b1 a1 x203 k_ k_).bind fun t406=>((Jl.f t402 t406).bind fun t410=>(Hm (I5.f K b1 a1 x203 i1 g1 x204 f1 k1 x205 d1 m1 t5 e1 h1 t6 x206 c1 k_ t410) (fun t414 t415 t416 t417=>(if t415.length=x203.length then (if t416.length=x204.length then (if t417.length=x205.length then (Ci.l1 K k b1 a1 i1 g1 f1 k1 d1 m1 e1 h1 k_ t5 t6 t415 t416 t417 t414 (w64 (c1+1))) else none) else none) else none))))))) else (Ci.l7 K k b1 a1 i1 g1 f1 k1 d1 m1 e1 h1 k_ x204 x205 x203 t5 t6 x206 (w64 (k_+1)))
def Ci.l6 (K:Nat):Nat→Int→Int→(List Int)→(List Int)→(List Int)→(List Int)→(List Int)→Bool→Option (Bool × Bool × Bool × (List Int) × (List Int) × (List Int) × (List Int) × (List Int))
 |0,_,_,_,_,_,_,_,_=>none
 |k+1,a1,k_,t5,t6,x203,x204,x205,x206=>if w64 (k_+1)<a1 then (some (false,false,x206,x203,x204,x205,t5,t6)) else (some (false,false,x206,x203,x204,x205,t5,t6))
def Ci.l7 (K:Nat):Nat→Int→Int→Int→Int→Int→Int→Int→Int→Int→Int→Int→(List Int)→(List Int)→(List Int)→(List Int)→(List Int)→Bool→Int→Option (Bool × Bool × Bool × (List Int) × (List Int) × (List Int) × (List Int) × (List Int))
 |0,_,_,_,_,_,_,_,_,_,_,_,_,_,_,_,_,_,_=>none
 |k+1,b1,a1,h1,f1,e1,i1,c1,k1,d1,g1,k_,x204,x205,x475,x476,x477,x478,m1=>if m1<a1 then (if x478=true then (some (false,false,x478,x475,x204,x205,x476,x477)) else ((Cy.f b1 a1 x475 k_ m1).bind fun t534=>((Cy.f b1 a1 x475 k_ k_).bind fun t538=>((Jl.f t534 t538).bind fun t542=>(Hm (Iu.f K b1 a1 x475 h1 f1 x204 e1 i1 x205 c1 k1 x476 d1 g1 x477 x478 m1 k_ t542) (fun t546 t547 t548 t549=>(if t547.length=x475.length then (if t548.length=x476.length then (if t549.length=x477.length then (Ci.l7 K k b1 a1 h1 f1 e1 i1 c1 k1 d1 g1 k_ x204 x205 t547 t548 t549 t546 (w64 (m1+1))) else none) else none) else none))))))) else (if x478=true then (some (false,false,x478,x475,x204,x205,x476,x477)) else ((Dv.f K b1 a1 x475 h1 f1 x204 e1 i1 x205 c1 k1 x476 d1 g1 x477 x478 k_).bind fun t562=>(if t562=true then ((Dy.f K b1 a1 x475 h1 f1 x204 e1 i1 x205 c1 k1 x476 d1 g1 x477 x478 k_).bind fun t567=>(if t567<0 then (some (true,false,x478,x475,x204,x205,x476,x477)) else (Hm (I5.f K b1 a1 x475 h1 f1 x204 e1 i1 x205 c1 k1 x476 d1 g1 x477 x478 k_ t567 (-1)) (fun t572 t573 t574 t575=>(if t573.length=x475.length then (if t574.length=x204.length then (if t575.length=x205.length then (some (false,false,t572,t573,t574,t575,x476,x477)) else none) else none) else none))))) else (some (false,false,x478,x475,x204,x205,x476,x477)))))
end
def Ci.f (K:Nat) (r1:Int) (g1:Int) (b1:List Int) (o1:Int) (h1:Int) (k1:List Int) (f1:Int) (p1:Int) (m1:List Int) (c1:Int) (q1:Int) (n1:List Int) (e1:Int) (i1:Int) (d1:List Int) (a1:Bool) (k_:Int):Option (Bool × Bool × Bool × (List Int) × (List Int) × (List Int) × (List Int) × (List Int)):=M5 (Bn.f K r1 g1 b1 o1 h1 k1 f1 p1 m1 c1 q1 n1 e1 i1 d1 a1 k_) (fun t1 t2 t3 t4 t5 t6=>(if t2.length=b1.length then (if t3.length=k1.length then (if t4.length=m1.length then (if t5.length=n1.length then (if t6.length=d1.length then (if t1=true then (Ci.l1 K K r1 g1 o1 h1 f1 p1 c1 q1 e1 i1 k_ t5 t6 t2 t3 t4 a1 (w64 (k_+1))) else (some (true,true,a1,t2,t3,t4,t5,t6))) else none) else none) else none) else none) else none))
abbrev Ci.post (w0:World) (L:List Dc) (w_d_Rows w_d_Columns:Int) (w_l_Rows w_l_Columns:Int) (w_li_Rows w_li_Columns:Int) (w_r_Rows w_r_Columns:Int) (w_ri_Rows w_ri_Columns:Int) (b_w_:Nat) (A_a:Option Addr) (c_a:Nat) (A_b:Option Addr) (c_b:Nat) (A_c:Option Addr) (c_c:Nat) (A_d:Option Addr) (c_d:Nat) (A_e:Option Addr) (c_e:Nat) (r1 r2 r3:Bool) (r4 r5:List Int) (r6 r7 r8:List Int) (en:Ending) (w:World):Prop:=en=.returned (.tuple #[.bool r1,.bool r2])∧St w0 w (Box b_w_ 124 [.int .i64 w_d_Rows,.int .i64 w_d_Columns,.slice A_a r4.length c_a,.int .i64 w_l_Rows,.int .i64 w_l_Columns,.slice A_b r5.length c_b,.int .i64 w_li_Rows,.int .i64 w_li_Columns,.slice A_c r6.length c_c,.int .i64 w_r_Rows,.int .i64 w_r_Columns,.slice A_d r7.length c_d,.int .i64 w_ri_Rows,.int .i64 w_ri_Columns,.slice A_e r8.length c_e,.bool r3]::Own (Ac .i64) 2 A_a c_a (fun _=>()) r4::Own (Ac .i64) 2 A_b c_b (fun _=>()) r5::Own (Ac .i64) 2 A_c c_c (fun _=>()) r6::Own (Ac .i64) 2 A_d c_d (fun _=>()) r7::Own (Ac .i64) 2 A_e c_e (fun _=>()) r8::L)
mutual
def Dj.l1 (K:Nat):Nat→Int→Int→Int→Int→Int→Int→Int→Int→Int→Int→(List Int)→(List Int)→(List Int)→(List Int)→(List Int)→Bool→Int→Option (Int × Int × (List Int) × Int × Int × (List Int) × Int × Int × (List Int) × Int × Int × (List Int) × Int × Int × (List Int) × Bool)
 |0,_,_,_,_,_,_,_,_,_,_,_,_,_,_,_,_,_=>none
 |k+1,a1,b1,t9,t10,t17,t18,t25,t26,t33,t34,i1,c1,d1,g1,f1,h1,e1=>if e1<(if b1<a1 then b1 else a1) then (Dj.l4 K k a1 b1 t9 t10 t17 t18 t25 t26 t33 t34 e1 i1 c1 d1 g1 f1 h1 false false) else (some (a1,b1,i1,t9,t10,c1,t17,t18,d1,t25,t26,g1,t33,t34,f1,h1))
def Dj.l4 (K:Nat):Nat→Int→Int→Int→Int→Int→Int→Int→Int→Int→Int→Int→(List Int)→(List Int)→(List Int)→(List Int)→(List Int)→Bool→Bool→Bool→Option (Int × Int × (List Int) × Int × Int × (List Int) × Int × Int × (List Int) × Int × Int × (List Int) × Int × Int × (List Int) × Bool)
 |0,_,_,_,_,_,_,_,_,_,_,_,_,_,_,_,_,_,_,_=>none
 |k+1,d1,g1,t9,t10,t17,t18,t25,t26,t33,t34,i1,c1,f1,h1,e1,b1,a1,m1,k1=>if m1=true then (if k1=true then (some (d1,g1,c1,t9,t10,f1,t17,t18,h1,t25,t26,e1,t33,t34,b1,a1)) else (if a1=true then (some (d1,g1,c1,t9,t10,f1,t17,t18,h1,t25,t26,e1,t33,t34,b1,a1)) else (Dj.l1 K k d1 g1 t9 t10 t17 t18 t25 t26 t33 t34 c1 f1 h1 e1 b1 a1 (w64 (i1+1))))) else (if a1=true then (if k1=true then (some (d1,g1,c1,t9,t10,f1,t17,t18,h1,t25,t26,e1,t33,t34,b1,a1)) else (some (d1,g1,c1,t9,t10,f1,t17,t18,h1,t25,t26,e1,t33,t34,b1,a1))) else (Wi (Ci.f K d1 g1 c1 t9 t10 f1 t17 t18 h1 t25 t26 e1 t33 t34 b1 a1 i1) (fun t243 t244 t245 t246 t247 t248 t249 t250=>(if t246.length=c1.length then (if t247.length=f1.length then (if t248.length=h1.length then (if t249.length=e1.length then (if t250.length=b1.length then (Dj.l4 K k d1 g1 t9 t10 t17 t18 t25 t26 t33 t34 i1 t246 t247 t248 t249 t250 t245 t243 t244) else none) else none) else none) else none) else none))))
end
def Dj.f (K:Nat) (a1:Int) (b1:Int) (c1:List Int):Option (Int × Int × (List Int) × Int × Int × (List Int) × Int × Int × (List Int) × Int × Int × (List Int) × Int × Int × (List Int) × Bool):=if (([]:List Int).length+c1.length)*8≤140737488355328 then (Gy (E5.f K a1) (fun t9 t10 t11=>(Gy (E5.f K a1) (fun t17 t18 t19=>(Gy (E5.f K b1) (fun t25 t26 t27=>(Gy (E5.f K b1) (fun t33 t34 t35=>(Dj.l1 K K a1 b1 t9 t10 t17 t18 t25 t26 t33 t34 (([]:List Int)++c1) t11 t19 t27 t35 false 0))))))))) else none
abbrev Dj.post (w0:World) (L:List Dc) (r1 r2:Int) (r3:List Int) (r4 r5:Int) (r6:List Int) (r7 r8:Int) (r9:List Int) (r10 r11:Int) (r12:List Int) (r13 r14:Int) (r15:List Int) (r16:Bool) (en:Ending) (w:World):Prop:=∃ (b_r0:Nat) (A_r1:Option Addr) (c_r2:Nat) (A_r3:Option Addr) (c_r4:Nat) (A_r5:Option Addr) (c_r6:Nat) (A_r7:Option Addr) (c_r8:Nat) (A_r9:Option Addr) (c_r10:Nat),en=.returned (.pointer (some ⟨b_r0,0,none⟩))∧St w0 w (Box b_r0 124 [.int .i64 r1,.int .i64 r2,.slice A_r1 r3.length c_r2,.int .i64 r4,.int .i64 r5,.slice A_r3 r6.length c_r4,.int .i64 r7,.int .i64 r8,.slice A_r5 r9.length c_r6,.int .i64 r10,.int .i64 r11,.slice A_r7 r12.length c_r8,.int .i64 r13,.int .i64 r14,.slice A_r9 r15.length c_r10,.bool r16]::Own (Ac .i64) 2 A_r1 c_r2 (fun _=>()) r3::Own (Ac .i64) 2 A_r3 c_r4 (fun _=>()) r6::Own (Ac .i64) 2 A_r5 c_r6 (fun _=>()) r9::Own (Ac .i64) 2 A_r7 c_r8 (fun _=>()) r12::Own (Ac .i64) 2 A_r9 c_r10 (fun _=>()) r15::L)
def D5.l1 (K:Nat):Nat→Int→Int→Int→Int→(List Int)→Bool→(List Int)→Int→Option ((List Int) × Bool)
 |0,_,_,_,_,_,_,_,_=>none
 |k+1,c1,d1,t3,t4,t5,t18,b1,a1=>if a1<(if d1<c1 then d1 else c1) then (if t18=true then (some (b1,!t18)) else ((Cy.f t3 t4 t5 a1 a1).bind fun t70=>(if t70=0 then (D5.l1 K k c1 d1 t3 t4 t5 t18 b1 (w64 (a1+1))) else (if (b1.length+1)*8≤140737488355328 then (D5.l1 K k c1 d1 t3 t4 t5 t18 (b1++[t70]) (w64 (a1+1))) else none)))) else (some (b1,!t18))
def D5.f (K:Nat) (a1:Int) (b1:Int) (c1:List Int):Option ((List Int) × Bool):=M4 (Dj.f K a1 b1 c1) (fun t3 t4 t5 t6 t7 t8 t9 t10 t11 t12 t13 t14 t15 t16 t17 t18=>(D5.l1 K K a1 b1 t3 t4 t5 t18 ([]:List Int) 0))
abbrev D5.post (w0:World) (L:List Dc) (r1:List Int) (r2:Bool) (en:Ending) (w:World):Prop:=∃ (A_r0:Option Addr) (c_r1:Nat),en=.returned (.tuple #[.slice A_r0 r1.length c_r1,.bool r2])∧St w0 w (Own (Ac .i64) 2 A_r0 c_r1 (fun _=>()) r1::L)
def Hr.f (K:Nat) (a1:Int) (c1:Int) (b1:List Int):Option ((List Int) × Int):=(Fh.f K a1 c1 b1).bind fun t3=>(if t3=true then (Dw (D5.f K a1 c1 b1) (fun t8 t9=>(if t9=true then (some (t8,0)) else (some (([]:List Int),3))))) else (some (([]:List Int),1)))
abbrev Hr.post (w0:World) (L:List Dc) (r1:List Int) (r2:Int) (en:Ending) (w:World):Prop:=∃ (A_r0:Option Addr) (c_r1:Nat),en=.returned (.tuple #[.slice A_r0 r1.length c_r1,.int .i64 r2])∧St w0 w (Own (Ac .i64) 2 A_r0 c_r1 (fun _=>()) r1::L)
def Ev.l1 (K:Nat):Nat→(List Int)→(List Int)→Int→Option (List Int)
 |0,_,_,_=>none
 |k+1,factors,b1,a1=>if a1<(factors.length:Int) then (if 0≤a1∧a1<(factors.length:Int) then (if 1<factors.getD a1.toNat 0 then (if (b1.length+1)*8≤140737488355328 then (Ev.l1 K k factors (b1++[factors.getD a1.toNat 0]) (w64 (a1+1))) else none) else (Ev.l1 K k factors b1 (w64 (a1+1)))) else none) else (some b1)
def Ev.f (K:Nat) (factors:List Int):Option (List Int):=Ev.l1 K K factors ([]:List Int) 0
abbrev Ev.post (w0:World) (L:List Dc) (r1:List Int) (en:Ending) (w:World):Prop:=∃ (A_r0:Option Addr) (c_r1:Nat),en=.returned (.slice A_r0 r1.length c_r1)∧St w0 w (Own (Ac .i64) 2 A_r0 c_r1 (fun _=>()) r1::L)
def Jd.f (K:Nat) (a1:Int) (c1:Int) (b1:List Int):Option (Int × (List Int) × Int):=Dw (Hr.f K a1 c1 b1) (fun t5 t6=>(if t6=0 then ((Ev.f K t5).bind fun t13=>(some (w64 (a1 - (t5.length:Int)),t13,0))) else (some (0,([]:List Int),t6))))
abbrev Jd.post (w0:World) (L:List Dc) (r1:Int) (r2:List Int) (r3:Int) (en:Ending) (w:World):Prop:=∃ (A_r0:Option Addr) (c_r1:Nat),en=.returned (.tuple #[.agg [.int .i64 r1,.slice A_r0 r2.length c_r1].toArray,.int .i64 r3])∧St w0 w (Own (Ac .i64) 2 A_r0 c_r1 (fun _=>()) r2::L)
mutual
def Bz.l1 (K:Nat):Nat→(List (List Int))→Int→Int→(List Int)→Int→Option (Int × (List Int) × Int)
 |0,_,_,_,_,_=>none
 |k+1,t6,t18,t19,a1,b1=>if b1<(t6.length:Int) then (Bz.l4 K k t6 t18 t19 b1 a1 0) else (Gy (Jd.f K t18 t19 a1) (fun t184 t185 t186=>(some (t184,t185,t186))))
def Bz.l4 (K:Nat):Nat→(List (List Int))→Int→Int→Int→(List Int)→Int→Option (Int × (List Int) × Int)
 |0,_,_,_,_,_,_=>none
 |k+1,t6,t18,t19,a1,c1,b1=>if 0≤a1∧a1<(t6.length:Int) then (if b1<((t6.getD a1.toNat []).length:Int) then (if 0≤b1∧b1<((t6.getD a1.toNat []).length:Int) then (if 0<(t6.getD a1.toNat []).getD b1.toNat 0 then ((J2.f t18 t19 c1 (w64 (((t6.getD a1.toNat []).getD b1.toNat 0) - 1)) a1 1).bind fun t174=>(if t174.length=c1.length then (Bz.l4 K k t6 t18 t19 a1 t174 (w64 (b1+1))) else none)) else ((J2.f t18 t19 c1 (w64 ((w64 (0 - ((t6.getD a1.toNat []).getD b1.toNat 0))) - 1)) a1 (-1)).bind fun t179=>(if t179.length=c1.length then (Bz.l4 K k t6 t18 t19 a1 t179 (w64 (b1+1))) else none))) else none) else (Bz.l1 K k t6 t18 t19 c1 (w64 (a1+1)))) else none
end
def Bz.f (K:Nat) (a1:List (List Am)):Option (Int × (List Int) × Int):=Gy (Hu.f K a1) (fun t5 t6 t7=>(if t7=0 then (Gy (Jp.f t5 (t6.length:Int)) (fun t18 t19 t20=>(Bz.l1 K K t6 t18 t19 t20 0))) else (some (0,([]:List Int),t7))))
abbrev Bz.post (w0:World) (L:List Dc) (r1:Int) (r2:List Int) (r3:Int) (en:Ending) (w:World):Prop:=∃ (A_r0:Option Addr) (c_r1:Nat),en=.returned (.tuple #[.agg [.int .i64 r1,.slice A_r0 r2.length c_r1].toArray,.int .i64 r3])∧St w0 w (Own (Ac .i64) 2 A_r0 c_r1 (fun _=>()) r2::L)
def F4.f (faces:List Am):Option (Bool):=some (!(decide ((faces.length:Int)=4)))
abbrev F4.post:=Ka
def Aq.l1 (K:Nat):Nat→(List (List Am))→Int→Option (Int)
 |0,_,_=>none
 |k+1,s,x8=>if x8<(s.length:Int) then (if 0≤x8∧x8<(s.length:Int) then ((F4.f (s.getD x8.toNat [])).bind fun t18=>(if t18=true then (some x8) else (Aq.l1 K k s (w64 (x8+1))))) else none) else (some (-1))
def Aq.f (K:Nat) (s:List (List Am)):Option (Int):=Aq.l1 K K s 0
abbrev Aq.post:=J5
def Cj.f (K:Nat) (s:List (List Am)):Option (Bool):=(Aq.f K s).bind fun t1=>(some (decide (0≤t1)))
abbrev Cj.post:=Ka
def Dq.f (list:List (List Am)):Option (Int):=some (list.length:Int)
abbrev Dq.post:=J5
def Fu.f (x:Int) (low:Int) (high:Int):Option (Bool):=if low≤x then (some (decide (x≤high))) else (some false)
abbrev Fu.post:=Ka
def Ez.f (list:List (List Am)) (i:Int):Option (Bool):=(Dq.f list).bind fun t1=>((Fu.f i 0 (w64 (t1 - 1))).bind fun t5=>(some t5))
abbrev Ez.post:=Ka
def Kb.f (p:Int):Option (Bool):=(Fu.f p 0 23).bind fun t1=>(some t1)
abbrev Kb.post:=Ka
def G5.f (s:List Int) (i:Int) (j_:Int):Option (List Int):=if 0≤i∧i≤j_ then (if j_≤(s.length:Int) then (if i=j_ then (some s) else (if 0≤i∧i≤(s.length:Int) then (if 0≤j_∧j_≤(s.length:Int) then (if i.toNat≤j_.toNat then (if 0≤((((over s i.toNat (s.drop j_.toNat)).take (i.toNat+(s.length - j_.toNat))).drop 0).length:Int)∧((((over s i.toNat (s.drop j_.toNat)).take (i.toNat+(s.length - j_.toNat))).drop 0).length:Int)≤(s.length:Int) then (if 0≤(s.length:Int)∧(s.length:Int)≤((over s i.toNat (s.drop j_.toNat)).length:Int) then (if (i.toNat+(s.length - j_.toNat))≤(over (over s i.toNat (s.drop j_.toNat)) (((((over s i.toNat (s.drop j_.toNat)).take (i.toNat+(s.length - j_.toNat))).drop 0).length:Int).toNat) (List.replicate (((over s i.toNat (s.drop j_.toNat)).take ((s.length:Int).toNat)).drop (((((over s i.toNat (s.drop j_.toNat)).take (i.toNat+(s.length - j_.toNat))).drop 0).length:Int).toNat)).length 0)).length then (some (((over (over s i.toNat (s.drop j_.toNat)) (((((over s i.toNat (s.drop j_.toNat)).take (i.toNat+(s.length - j_.toNat))).drop 0).length:Int).toNat) (List.replicate (((over s i.toNat (s.drop j_.toNat)).take ((s.length:Int).toNat)).drop (((((over s i.toNat (s.drop j_.toNat)).take (i.toNat+(s.length - j_.toNat))).drop 0).length:Int).toNat)).length 0)).take (i.toNat+(s.length - j_.toNat))).drop 0)) else none) else none) else none) else none) else none) else none)) else none) else none
abbrev G5.post (w0:World) (L:List Dc) (r1:List Int) (en:Ending) (w:World):Prop:=∃ (A_r0:Option Addr) (c_r1:Nat),en=.returned (.slice A_r0 r1.length c_r1)∧St w0 w (Own (Ac .i64) 2 A_r0 c_r1 (fun _=>()) r1::L)
def Ej.l1 (K:Nat):Nat→Int→Int→(List Int)→Int→Int→Int→Int→Option (Int × Int × Int × Int)
 |0,_,_,_,_,_,_,_=>none
 |k+1,a1,d1,b1,x24,e1,c1,f1=>if x24<4 then (if 0≤x24∧x24<(([6,2,1,1]:List Int).length:Int) then (if ([6,2,1,1]:List Int).getD x24.toNat 0=0 then none else (if 0≤w64 (a1.tdiv (([6,2,1,1]:List Int).getD x24.toNat 0))∧w64 (a1.tdiv (([6,2,1,1]:List Int).getD x24.toNat 0))<(b1.length:Int) then (if 0≤x24∧x24<4 then ((G5.f b1 (w64 (a1.tdiv (([6,2,1,1]:List Int).getD x24.toNat 0))) (w64 ((w64 (a1.tdiv (([6,2,1,1]:List Int).getD x24.toNat 0)))+1))).bind fun t60=>(Ej.l1 K k (a1.tmod (([6,2,1,1]:List Int).getD x24.toNat 0)) (se 0 x24 (b1.getD ((w64 (a1.tdiv (([6,2,1,1]:List Int).getD x24.toNat 0))).toNat) 0) d1) t60 (w64 (x24+1)) (se 1 x24 (b1.getD ((w64 (a1.tdiv (([6,2,1,1]:List Int).getD x24.toNat 0))).toNat) 0) e1) (se 2 x24 (b1.getD ((w64 (a1.tdiv (([6,2,1,1]:List Int).getD x24.toNat 0))).toNat) 0) c1) (se 3 x24 (b1.getD ((w64 (a1.tdiv (([6,2,1,1]:List Int).getD x24.toNat 0))).toNat) 0) f1))) else none) else none)) else none) else (some (d1,e1,c1,f1))
def Ej.f (K:Nat) (p:Int):Option (Int × Int × Int × Int):=Ej.l1 K K p 0 ([0,1,2,3]:List Int) 0 0 0 0
abbrev Ej.post (w0:World) (L:List Dc) (r1 r2:Int) (r3 r4:Int) (en:Ending) (w:World):Prop:=en=.returned (.agg [.int .i64 r1,.int .i64 r2,.int .i64 r3,.int .i64 r4].toArray)∧St w0 w (L)
def G7.f (K:Nat) (b1:Int) (a1:Int) (Fg:Int):Option (Int):=Hm (Ej.f K a1) (fun t3 t4 t5 t6=>(if 0≤Fg∧Fg<4 then (some (([t3,t4,t5,t6]:List Int).getD Fg.toNat 0)) else none))
abbrev G7.post:=J5
mutual
def Dz.l1 (K:Nat):Nat→Int→Int→Int→Int→Int→Int→Option (Int)
 |0,_,_,_,_,_,_=>none
 |k+1,b1,a1,c1,e1,d1,x19=>if x19<4 then (if 0≤x19∧x19<(([6,2,1,1]:List Int).length:Int) then (if 0≤x19∧x19<4 then (if 0≤x19∧x19≤4 then (Dz.l4 K k b1 a1 c1 e1 d1 x19 (([b1,a1,c1,e1]:List Int).getD x19.toNat 0) 0) else none) else none) else none) else (some d1)
def Dz.l4 (K:Nat):Nat→Int→Int→Int→Int→Int→Int→Int→Int→Option (Int)
 |0,_,_,_,_,_,_,_,_=>none
 |k+1,b1,a1,c1,d1,e1,x19,f1,x43=>if x43<((([b1,a1,c1,d1]:List Int).take x19.toNat).length:Int) then (if 0≤x43∧x43<((([b1,a1,c1,d1]:List Int).take x19.toNat).length:Int) then (if (([b1,a1,c1,d1]:List Int).take x19.toNat).getD x43.toNat 0<(([b1,a1,c1,d1]:List Int).getD x19.toNat 0) then (Dz.l4 K k b1 a1 c1 d1 e1 x19 (w64 (f1 - 1)) (w64 (x43+1))) else (Dz.l4 K k b1 a1 c1 d1 e1 x19 f1 (w64 (x43+1)))) else none) else (Dz.l1 K k b1 a1 c1 d1 (w64 (e1+(w64 (f1*(([6,2,1,1]:List Int).getD x19.toNat 0))))) (w64 (x19+1)))
end
def Dz.f (K:Nat) (d1:Int) (b1:Int) (a1:Int) (c1:Int):Option (Int):=Dz.l1 K K d1 b1 a1 c1 0 0
abbrev Dz.post:=J5
def Io.l1 (K:Nat):Nat→Int→Int→Int→Int→Int→Int→Int→Int→Int→Option (Int)
 |0,_,_,_,_,_,_,_,_,_=>none
 |k+1,t3,t4,t5,t6,c1,b1,a1,d1,x16=>if x16<4 then (if 0≤x16∧x16<4 then (if 0≤([t3,t4,t5,t6]:List Int).getD x16.toNat 0∧([t3,t4,t5,t6]:List Int).getD x16.toNat 0<4 then (Io.l1 K k t3 t4 t5 t6 (se 0 (([t3,t4,t5,t6]:List Int).getD x16.toNat 0) x16 c1) (se 1 (([t3,t4,t5,t6]:List Int).getD x16.toNat 0) x16 b1) (se 2 (([t3,t4,t5,t6]:List Int).getD x16.toNat 0) x16 a1) (se 3 (([t3,t4,t5,t6]:List Int).getD x16.toNat 0) x16 d1) (w64 (x16+1))) else none) else none) else ((Dz.f K c1 b1 a1 d1).bind fun t29=>(some t29))
def Io.f (K:Nat) (p:Int):Option (Int):=Hm (Ej.f K p) (fun t3 t4 t5 t6=>(Io.l1 K K t3 t4 t5 t6 0 0 0 0 0))
abbrev Io.post:=J5
def Hf.f (K:Nat) (b1:Int) (a1:Int) (tet:Int):Option (Int × Int):=(Io.f K a1).bind fun t5=>(some (tet,t5))
abbrev Hf.post (w0:World) (L:List Dc) (r1 r2:Int) (en:Ending) (w:World):Prop:=en=.returned (.agg [.int .i64 r1,.int .i64 r2].toArray)∧St w0 w (L)
def Eg.f (K:Nat) (a1:List (List Am)) (tet:Int) (f:Int):Option (Bool):=if 0≤tet∧tet<(a1.length:Int) then (if 0≤f∧f<((a1.getD tet.toNat []).length:Int) then (bnd ((a1.getD tet.toNat []).getD f.toNat Eo) (fun e5=>if e5.Tet=(-1) then (some (decide (e5.Perm=0))) else ((Ez.f a1 e5.Tet).bind fun t20=>(if t20=true then ((Kb.f e5.Perm).bind fun t25=>(if t25=true then ((G7.f K e5.Tet e5.Perm f).bind fun t30=>(if 0≤e5.Tet∧e5.Tet<(a1.length:Int) then (if 0≤t30∧t30<((a1.getD e5.Tet.toNat []).length:Int) then (bnd ((a1.getD e5.Tet.toNat []).getD t30.toNat Eo) (fun e36=>Dw (Hf.f K e5.Tet e5.Perm tet) (fun t38 t39=>(if (e36.Tet,e36.Perm)=(t38,t39) then (if e5.Tet=tet then (some (!(decide (t30=f)))) else (some true)) else (some false))))) else none) else none)) else (some false))) else (some false))))) else none) else none
abbrev Eg.post:=Ka
mutual
def Br.l1 (K:Nat):Nat→(List (List Am))→Int→Int→Option (Bool)
 |0,_,_,_=>none
 |k+1,a1,t14,x37=>if x37<t14 then (Br.l4 K k a1 t14 x37 0) else (some true)
def Br.l4 (K:Nat):Nat→(List (List Am))→Int→Int→Int→Option (Bool)
 |0,_,_,_,_=>none
 |k+1,a1,t14,x37,x63=>if x63<4 then ((Eg.f K a1 x37 x63).bind fun t71=>(if t71=true then (Br.l4 K k a1 t14 x37 (w64 (x63+1))) else (some false))) else (Br.l1 K k a1 t14 (w64 (x37+1)))
end
def Br.f (K:Nat) (a1:List (List Am)):Option (Bool):=if 8<(a1.length:Int) then (some false) else ((Cj.f K a1).bind fun t9=>(if t9=true then (some false) else ((Dq.f a1).bind fun t14=>(Br.l1 K K a1 t14 0))))
abbrev Br.post:=Ka
def Es.l1 (K:Nat):Nat→Int→(List Int)→Int→Option (List Int)
 |0,_,_,_=>none
 |k+1,n_,a1,x11=>if x11<n_ then (if (a1.length+1)*8≤140737488355328 then (Es.l1 K k n_ (a1++[x11]) (w64 (x11+1))) else none) else (some a1)
def Es.f (K:Nat) (n_:Int):Option (List Int):=Es.l1 K K n_ ([]:List Int) 0
abbrev Es.post (w0:World) (L:List Dc) (r1:List Int) (en:Ending) (w:World):Prop:=∃ (A_r0:Option Addr) (c_r1:Nat),en=.returned (.slice A_r0 r1.length c_r1)∧St w0 w (Own (Ac .i64) 2 A_r0 c_r1 (fun _=>()) r1::L)
def Bo.f (a1:Int) (b1:Int):Option (Bool):=some (decide (a1<0))
abbrev Bo.post:=Ka
def Gl.l1 (K:Nat):Nat→(List Int)→Int→Int→(List Int)→Int→Option (List Int)
 |0,_,_,_,_,_=>none
 |k+1,sets,i,k_,x9,x10=>if x10<(sets.length:Int) then (if 0≤x10∧x10<(x9.length:Int) then (if x9.getD x10.toNat 0=sets.getD k_.toNat 0 then (Gl.l1 K k sets i k_ (x9.set x10.toNat (sets.getD i.toNat 0)) (w64 (x10+1))) else (Gl.l1 K k sets i k_ x9 (w64 (x10+1)))) else none) else (some x9)
def Gl.f (K:Nat) (sets:List Int) (i:Int) (k_:Int):Option (List Int):=if 0≤k_∧k_<(sets.length:Int) then (if 0≤i∧i<(sets.length:Int) then (Gl.l1 K K sets i k_ sets 0) else none) else none
abbrev Gl.post (w0:World) (L:List Dc) (A_a:Option Addr) (c_a:Nat) (r1:List Int) (en:Ending) (w:World):Prop:=en=.returned (.tuple #[])∧St w0 w (Own (Ac .i64) 2 A_a c_a (fun _=>()) r1::L)
mutual
def Dk.l1 (K:Nat):Nat→(List Int)→(List (Int × Int))→(List Int)→Int→Option (List Int)
 |0,_,_,_,_=>none
 |k+1,roots,a1,b1,x20=>if x20<(roots.length:Int) then (if 0≤x20∧x20<(roots.length:Int) then (if ((K5 a1 (roots.getD x20.toNat 0)).isSome)=true then (Dk.j4 K k roots b1 x20 a1) else (Dk.j4 K k roots b1 x20 (Lp a1 (roots.getD x20.toNat 0) (a1.length:Int)))) else none) else (some b1)
def Dk.j4 (K:Nat):Nat→(List Int)→(List Int)→Int→(List (Int × Int))→Option (List Int)
 |0,_,_,_,_=>none
 |k+1,roots,b1,x20,a1=>if (b1.length+1)*8≤140737488355328 then (Dk.l1 K k roots a1 (b1++[(K5 a1 (roots.getD x20.toNat 0)).getD 0]) (w64 (x20+1))) else none
end
def Dk.f (K:Nat) (roots:List Int):Option (List Int):=Dk.l1 K K roots ([]:List (Int × Int)) ([]:List Int) 0
abbrev Dk.post (w0:World) (L:List Dc) (r1:List Int) (en:Ending) (w:World):Prop:=∃ (A_r0:Option Addr) (c_r1:Nat),en=.returned (.slice A_r0 r1.length c_r1)∧St w0 w (Own (Ac .i64) 2 A_r0 c_r1 (fun _=>()) r1::L)
mutual
def Ar.l1 (K:Nat):Nat→(List (List Am))→(List Int)→Int→Option (List Int)
 |0,_,_,_=>none
 |k+1,a1,b1,x75=>if x75<(a1.length:Int) then (if 0≤x75∧x75<(a1.length:Int) then (Ar.l4 K k a1 x75 b1 0) else none) else ((Dk.f K b1).bind fun t192=>(some t192))
def Ar.l4 (K:Nat):Nat→(List (List Am))→Int→(List Int)→Int→Option (List Int)
 |0,_,_,_,_=>none
 |k+1,a1,x75,b1,x157=>if x157<((a1.getD x75.toNat []).length:Int) then (if 0≤x157∧x157<((a1.getD x75.toNat []).length:Int) then (bnd ((a1.getD x75.toNat []).getD x157.toNat Eo) (fun e177=>(Bo.f e177.Tet e177.Perm).bind fun t182=>(if t182=true then (Ar.l4 K k a1 x75 b1 (w64 (x157+1))) else ((Gl.f K b1 x75 e177.Tet).bind fun t187=>(if t187.length=b1.length then (Ar.l4 K k a1 x75 t187 (w64 (x157+1))) else none))))) else none) else (Ar.l1 K k a1 b1 (w64 (x75+1)))
end
def Ar.f (K:Nat) (a1:List (List Am)):Option (List Int):=(Dq.f a1).bind fun t3=>((Es.f K t3).bind fun t7=>(Ar.l1 K K a1 t7 0))
abbrev Ar.post (w0:World) (L:List Dc) (r1:List Int) (en:Ending) (w:World):Prop:=∃ (A_r0:Option Addr) (c_r1:Nat),en=.returned (.slice A_r0 r1.length c_r1)∧St w0 w (Own (Ac .i64) 2 A_r0 c_r1 (fun _=>()) r1::L)
def Dh.l2 (K:Nat):Nat→(List Int)→Int→Int→Option (Int)
 |0,_,_,_=>none
 |k+1,x,m_6,i_7=>if i_7<(x.length:Int) then (if 0≤i_7∧i_7<(x.length:Int) then (Dh.l2 K k x (if x.getD i_7.toNat 0 > m_6 then x.getD i_7.toNat 0 else m_6) (w64 (i_7+1))) else none) else (some m_6)
def Dh.f (K:Nat) (x:List Int):Option (Int):=if (x.length:Int)<1 then (none) else (if 0≤(0:Int)∧(0:Int)<(x.length:Int) then (Dh.l2 K K x (x.getD 0 0) 1) else none)
abbrev Dh.post:=J5
def Gd.f (K:Nat) (classes:List Int):Option (Int):=if (classes.length:Int)=0 then (some 0) else ((Dh.f K classes).bind fun t2=>(some (w64 (t2+1))))
abbrev Gd.post:=J5
def Gw.l1 (K:Nat):Nat→Int→Int→Option (Int × Int)
 |0,_,_=>none
 |k+1,e_2,x3=>if x3<4 then (if e_2<w64 (3 - x3) then (some (x3,w64 ((w64 (x3+1))+e_2))) else (Gw.l1 K k (w64 (e_2 - (w64 (3 - x3)))) (w64 (x3+1)))) else (some ((-1),(-1)))
def Gw.f (K:Nat) (e_:Int):Option (Int × Int):=Gw.l1 K K e_ 0
abbrev Gw.post (w0:World) (L:List Dc) (r1 r2:Int) (en:Ending) (w:World):Prop:=en=.returned (.tuple #[.int .i64 r1,.int .i64 r2])∧St w0 w (L)
def Ih.j1 (K:Nat):Nat→Int→Int→Option (Int)
 |0,_,_=>none
 |k+1,a_2,b_3=>some (w64 ((w64 ((w64 ((w64 ((w64 (a_2*(w64 (7 - a_2)))).tdiv 2))+b_3)) - a_2)) - 1))
def Ih.f (K:Nat) (a_:Int) (b_:Int):Option (Int):=if b_<a_ then (Ih.j1 K K b_ a_) else (Ih.j1 K K a_ b_)
abbrev Ih.post:=J5
def Aw.l1 (K:Nat):Nat→Int→Int→Int→Int→Int→Int→Int→(List Int)→Int→Option (List Int)
 |0,_,_,_,_,_,_,_,_,_=>none
 |k+1,tet,f,e1,b1,a1,c1,d1,x24,x25=>if x25<6 then (Dw (Gw.f K x25) (fun t47 t48=>(if t47=f then (Aw.l1 K k tet f e1 b1 a1 c1 d1 x24 (w64 (x25+1))) else (if t48=f then (Aw.l1 K k tet f e1 b1 a1 c1 d1 x24 (w64 (x25+1))) else (if 0≤t47∧t47<4 then (if 0≤t48∧t48<4 then ((Ih.f K (([b1,a1,c1,d1]:List Int).getD t47.toNat 0) (([b1,a1,c1,d1]:List Int).getD t48.toNat 0)).bind fun t57=>((Gl.f K x24 (w64 ((w64 (6*tet))+x25)) (w64 ((w64 (6*e1))+t57))).bind fun t61=>(if t61.length=x24.length then (Aw.l1 K k tet f e1 b1 a1 c1 d1 t61 (w64 (x25+1))) else none))) else none) else none))))) else (some x24)
def Aw.f (K:Nat) (tet:Int) (f:Int) (a1:Int) (g1:Int) (d1:Int) (c1:Int) (e1:Int) (f1:Int) (b1:List Int):Option (List Int):=Aw.l1 K K tet f a1 d1 c1 e1 f1 b1 0
abbrev Aw.post (w0:World) (L:List Dc) (b_v0:Nat) (A_a:Option Addr) (c_a:Nat) (r1:List Int) (en:Ending) (w:World):Prop:=en=.returned (.tuple #[])∧St w0 w (Box b_v0 26 [.slice A_a r1.length c_a]::Own (Ac .i64) 2 A_a c_a (fun _=>()) r1::L)
mutual
def Ae.l1 (K:Nat):Nat→(List (List Am))→(List Int)→Int→Option (List Int)
 |0,_,_,_=>none
 |k+1,a1,x79,x80=>if x80<(a1.length:Int) then (if 0≤x80∧x80<(a1.length:Int) then (Ae.l4 K k a1 x80 x79 0) else none) else (some x79)
def Ae.l4 (K:Nat):Nat→(List (List Am))→Int→(List Int)→Int→Option (List Int)
 |0,_,_,_,_=>none
 |k+1,a1,x80,x183,x184=>if x184<((a1.getD x80.toNat []).length:Int) then (if 0≤x184∧x184<((a1.getD x80.toNat []).length:Int) then (bnd ((a1.getD x80.toNat []).getD x184.toNat Eo) (fun e211=>(Bo.f e211.Tet e211.Perm).bind fun t216=>(if t216=true then (Ae.l4 K k a1 x80 x183 (w64 (x184+1))) else (Hm (Ej.f K e211.Perm) (fun t221 t222 t223 t224=>((Aw.f K x80 x184 e211.Tet e211.Perm t221 t222 t223 t224 x183).bind fun t228=>(if t228.length=x183.length then (Ae.l4 K k a1 x80 t228 (w64 (x184+1))) else none))))))) else none) else (Ae.l1 K k a1 x183 (w64 (x80+1)))
end
def Ae.f (K:Nat) (a1:List (List Am)) (b1:List Int):Option (List Int):=Ae.l1 K K a1 b1 0
abbrev Ae.post (w0:World) (L:List Dc) (b_cap:Nat) (A_b:Option Addr) (c_b:Nat) (r1:List Int) (en:Ending) (w:World):Prop:=en=.returned (.tuple #[])∧St w0 w (Box b_cap 26 [.slice A_b r1.length c_b]::Own (Ac .i64) 2 A_b c_b (fun _=>()) r1::L)
def Co.f (K:Nat) (a1:List (List Am)):Option (List Int):=(Dq.f a1).bind fun t3=>((Es.f K (w64 (6*t3))).bind fun t7=>((Ae.f K a1 t7).bind fun t16=>(if t16.length=t7.length then ((Dk.f K t16).bind fun t21=>(some t21)) else none)))
abbrev Co.post (w0:World) (L:List Dc) (r1:List Int) (en:Ending) (w:World):Prop:=∃ (A_r0:Option Addr) (c_r1:Nat),en=.returned (.slice A_r0 r1.length c_r1)∧St w0 w (Own (Ac .i64) 2 A_r0 c_r1 (fun _=>()) r1::L)
def Ca.l1 (K:Nat):Nat→(List Int)→Int→Int→Option (Int)
 |0,_,_,_=>none
 |k+1,s,v,x4=>if x4<(s.length:Int) then (if 0≤x4∧x4<(s.length:Int) then (if v=s.getD x4.toNat 0 then (some x4) else (Ca.l1 K k s v (w64 (x4+1)))) else none) else (some (-1))
def Ca.f (K:Nat) (s:List Int) (v:Int):Option (Int):=Ca.l1 K K s v 0
abbrev Ca.post:=J5
def Gh.f (K:Nat) (s:List Int) (v:Int):Option (Bool):=(Ca.f K s v).bind fun t1=>(some (decide (0≤t1)))
abbrev Gh.post:=Ka
def He.f (K:Nat) (v:Int) (a1:List Int):Option (Bool):=(Gh.f K a1 v).bind fun t1=>(some t1)
abbrev He.post (w0:World) (L:List Dc) (v0_2:List Int) (b_v0:Nat) (A_a:Option Addr) (c_a:Nat) (r1:Bool) (en:Ending) (w:World):Prop:=en=.returned (.bool r1)∧St w0 w (Box b_v0 26 [.slice A_a v0_2.length c_a]::L)
def Cf.l1 (K:Nat):Nat→(List Int)→(List Int)→Int→Option (Int)
 |0,_,_,_=>none
 |k+1,s,a1,x8=>if x8<(s.length:Int) then (if 0≤x8∧x8<(s.length:Int) then ((He.f K (s.getD x8.toNat 0) a1).bind fun t18=>(if t18=true then (some x8) else (Cf.l1 K k s a1 (w64 (x8+1))))) else none) else (some (-1))
def Cf.f (K:Nat) (s:List Int) (a1:List Int):Option (Int):=Cf.l1 K K s a1 0
abbrev Cf.post (w0:World) (L:List Dc) (cap_2:List Int) (b_cap:Nat) (A_b:Option Addr) (c_b:Nat) (r1:Int) (en:Ending) (w:World):Prop:=en=.returned (.int .i64 r1)∧St w0 w (Box b_cap 26 [.slice A_b cap_2.length c_b]::L)
def Bw.l1 (K:Nat):Nat→(List Int)→(List Int)→Int→Int→Option (List Int)
 |0,_,_,_,_=>none
 |k+1,c1,x19,a1,b1=>if b1<(x19.length:Int) then (if 0≤b1∧b1<(x19.length:Int) then ((He.f K (x19.getD b1.toNat 0) c1).bind fun t37=>(if t37=true then (Bw.l1 K k c1 x19 a1 (w64 (b1+1))) else (if 0≤a1∧a1<(x19.length:Int) then (Bw.l1 K k c1 (x19.set a1.toNat (x19.getD b1.toNat 0)) (w64 (a1+1)) (w64 (b1+1))) else none))) else none) else (if 0≤a1∧a1≤(x19.length:Int) then (if 0≤a1∧a1≤((over x19 a1.toNat (List.replicate ((x19.take x19.length).drop a1.toNat).length 0)).length:Int) then (some (((over x19 a1.toNat (List.replicate ((x19.take x19.length).drop a1.toNat).length 0)).take a1.toNat).drop 0)) else none) else none)
def Bw.f (K:Nat) (s:List Int) (a1:List Int):Option (List Int):=(Cf.f K s a1).bind fun t1=>(if t1=(-1) then (some s) else (Bw.l1 K K a1 s t1 (w64 (t1+1))))
abbrev Bw.post (w0:World) (L:List Dc) (cap_2:List Int) (b_cap:Nat) (A_b:Option Addr) (c_b:Nat) (r1:List Int) (en:Ending) (w:World):Prop:=∃ (A_r0:Option Addr) (c_r1:Nat),en=.returned (.slice A_r0 r1.length c_r1)∧St w0 w (Own (Ac .i64) 2 A_r0 c_r1 (fun _=>()) r1::Box b_cap 26 [.slice A_b cap_2.length c_b]::L)
def Ic.f (K:Nat) (not:List Int):Option (List Int):=(Es.f K 4).bind fun t3=>((Bw.f K t3 not).bind fun t9=>(some t9))
abbrev Ic.post (w0:World) (L:List Dc) (r1:List Int) (en:Ending) (w:World):Prop:=∃ (A_r0:Option Addr) (c_r1:Nat),en=.returned (.slice A_r0 r1.length c_r1)∧St w0 w (Own (Ac .i64) 2 A_r0 c_r1 (fun _=>()) r1::L)
def J6.f (x:Int):Option (Int):=if x<0 then (some (-1)) else (some 1)
abbrev J6.post:=J5
def Da.f (next:Int) (same:Int) (b1:List Int) (a1:List Int) (c1:Int) (d1:List (Int × Bool)) (e1:List Int):Option ((List Int) × (List Int) × (List (Int × Bool))):=if 0≤c1∧c1<(a1.length:Int) then (if 0≤a1.getD c1.toNat 0∧a1.getD c1.toNat 0<(b1.length:Int) then (if 0≤next∧next<(b1.length:Int) then (if b1.getD next.toNat 0=0 then (if (a1.length+1)*8≤140737488355328 then (some ((b1.set next.toNat (w64 ((b1.getD ((a1.getD c1.toNat 0).toNat) 0)*same))),(a1++[next]),d1)) else none) else (if b1.getD next.toNat 0=w64 (0 - (w64 ((b1.getD ((a1.getD c1.toNat 0).toNat) 0)*same))) then (if 0≤next∧next<(e1.length:Int) then (some (b1,a1,(Qs d1 (e1.getD next.toNat 0) true))) else none) else (some (b1,a1,d1)))) else none) else none) else none
abbrev Da.post (w0:World) (L:List Dc) (v2_2:Int) (v4_2:List Int) (b_v0:Nat) (A_a:Option Addr) (c_a b_v1:Nat) (b_v2 b_v3:Nat) (b_v3_2 b_v4:Nat) (A_c:Option Addr) (c_c:Nat) (r1 r2:List Int) (r3:List (Int × Bool)) (en:Ending) (w:World):Prop:=∃ (A_r0:Option Addr) (c_r1:Nat),en=.returned (.tuple #[])∧St w0 w (Box b_v0 26 [.slice A_a r1.length c_a]::Own (Ac .i64) 2 A_a c_a (fun _=>()) r1::Box b_v1 26 [.slice A_r0 r2.length c_r1]::Own (Ac .i64) 2 A_r0 c_r1 (fun _=>()) r2::Box b_v2 3 [.int .i64 v2_2]::Box b_v3 162 [.map (some b_v3_2)]::O9 b_v3_2 (Value.int .i64) Value.bool r3::Box b_v4 26 [.slice A_c v4_2.length c_c]::L)
def Ag.l1 (K:Nat):Nat→(List (List Am))→Int→Int→(List Int)→Int→Int→(List Int)→(List Int)→(List Int)→(List (Int × Bool))→Int→Option ((List Int) × (List Int) × (List (Int × Bool)))
 |0,_,_,_,_,_,_,_,_,_,_,_=>none
 |k+1,a1,id,c1,b1,t3,t4,t10,x59,x62,x63,x64=>if x64<(t10.length:Int) then (if 0≤x64∧x64<(t10.length:Int) then (if 0≤w64 (id.tdiv 6)∧w64 (id.tdiv 6)<(a1.length:Int) then (if 0≤t10.getD x64.toNat 0∧t10.getD x64.toNat 0<((a1.getD ((w64 (id.tdiv 6)).toNat) []).length:Int) then (bnd ((a1.getD ((w64 (id.tdiv 6)).toNat) []).getD ((t10.getD x64.toNat 0).toNat) Eo) (fun e112=>(Bo.f e112.Tet e112.Perm).bind fun t117=>(if t117=true then (Ag.l1 K k a1 id c1 b1 t3 t4 t10 x59 x62 x63 (w64 (x64+1))) else (Hm (Ej.f K e112.Perm) (fun t122 t123 t124 t125=>(if 0≤t3∧t3<4 then (if 0≤t4∧t4<4 then ((Ih.f K (([t122,t123,t124,t125]:List Int).getD t3.toNat 0) (([t122,t123,t124,t125]:List Int).getD t4.toNat 0)).bind fun t134=>((J6.f (w64 ((([t122,t123,t124,t125]:List Int).getD t4.toNat 0) - (([t122,t123,t124,t125]:List Int).getD t3.toNat 0)))).bind fun t138=>(Gy (Da.f (w64 ((w64 (6*e112.Tet))+t134)) t138 x59 x62 c1 x63 b1) (fun t142 t143 t144=>(if t142.length=x59.length then (Ag.l1 K k a1 id c1 b1 t3 t4 t10 t142 t143 t144 (w64 (x64+1))) else none))))) else none) else none)))))) else none) else none) else none) else (some (x59,x62,x63))
def Ag.f (K:Nat) (c1:List (List Am)) (id:Int) (b1:List Int) (e1:List Int) (a1:Int) (d1:List (Int × Bool)) (f1:List Int):Option ((List Int) × (List Int) × (List (Int × Bool))):=Dw (Gw.f K (id.tmod 6)) (fun t3 t4=>((Ic.f K ([t3,t4]:List Int)).bind fun t10=>(Ag.l1 K K c1 id a1 f1 t3 t4 t10 b1 e1 d1 0)))
abbrev Ag.post (w0:World) (L:List Dc) (cap_6:Int) (cap_10:List Int) (b_cap:Nat) (A_b:Option Addr) (c_b b_cap_3:Nat) (b_cap_5 b_cap_7:Nat) (b_cap_8 b_cap_9:Nat) (A_d:Option Addr) (c_d:Nat) (r1 r2:List Int) (r3:List (Int × Bool)) (en:Ending) (w:World):Prop:=∃ (A_r0:Option Addr) (c_r1:Nat),en=.returned (.tuple #[])∧St w0 w (Box b_cap 26 [.slice A_b r1.length c_b]::Own (Ac .i64) 2 A_b c_b (fun _=>()) r1::Box b_cap_3 26 [.slice A_r0 r2.length c_r1]::Own (Ac .i64) 2 A_r0 c_r1 (fun _=>()) r2::Box b_cap_5 3 [.int .i64 cap_6]::Box b_cap_7 162 [.map (some b_cap_8)]::O9 b_cap_8 (Value.int .i64) Value.bool r3::Box b_cap_9 26 [.slice A_d cap_10.length c_d]::L)
mutual
def Ah.l1 (K:Nat):Nat→(List (List Am))→Int→(List Int)→(List Int)→(List (Int × Bool))→Int→Option (List Int)
 |0,_,_,_,_,_,_=>none
 |k+1,c1,t3,t14,a1,b1,x117=>if x117<w64 (6*t3) then (if 0≤x117∧x117<(a1.length:Int) then (if a1.getD x117.toNat 0=0 then (Ah.l6 K k c1 t3 t14 x117 (a1.set x117.toNat 1) b1 ([x117]:List Int) 0) else (Ah.l1 K k c1 t3 t14 a1 b1 (w64 (x117+1)))) else none) else (Ah.l7 K k t14 a1 b1 a1 0)
def Ah.l6 (K:Nat):Nat→(List (List Am))→Int→(List Int)→Int→(List Int)→(List (Int × Bool))→(List Int)→Int→Option (List Int)
 |0,_,_,_,_,_,_,_,_=>none
 |k+1,c1,t3,t14,x117,d1,e1,b1,a1=>if a1<(b1.length:Int) then (if 0≤a1∧a1<(b1.length:Int) then (Gy (Ag.f K c1 (b1.getD a1.toNat 0) d1 b1 a1 e1 t14) (fun t259 t260 t261=>(if t259.length=d1.length then (Ah.l6 K k c1 t3 t14 x117 t259 t261 t260 (w64 (a1+1))) else none))) else none) else (Ah.l1 K k c1 t3 t14 d1 e1 (w64 (x117+1)))
def Ah.l7 (K:Nat):Nat→(List Int)→(List Int)→(List (Int × Bool))→(List Int)→Int→Option (List Int)
 |0,_,_,_,_,_=>none
 |k+1,t14,b1,c1,a1,x279=>if x279<(b1.length:Int) then (if 0≤x279∧x279<(t14.length:Int) then (if ((Mi c1 (t14.getD x279.toNat 0)).getD false)=true then (if 0≤x279∧x279<(a1.length:Int) then (Ah.l7 K k t14 b1 c1 (a1.set x279.toNat 0) (w64 (x279+1))) else none) else (Ah.l7 K k t14 b1 c1 a1 (w64 (x279+1)))) else none) else (some a1)
end
def Ah.f (K:Nat) (a1:List (List Am)):Option (List Int):=(Dq.f a1).bind fun t3=>(if 0≤w64 (6*t3) then (if (w64 (6*t3)).toNat*8≤281474976710656 then ((Co.f K a1).bind fun t14=>(Ah.l1 K K a1 t3 t14 (List.replicate (w64 (6*t3)).toNat (0:Int)) ([]:List (Int × Bool)) 0)) else none) else none)
abbrev Ah.post (w0:World) (L:List Dc) (r1:List Int) (en:Ending) (w:World):Prop:=∃ (A_r0:Option Addr) (c_r1:Nat),en=.returned (.slice A_r0 r1.length c_r1)∧St w0 w (Own (Ac .i64) 2 A_r0 c_r1 (fun _=>()) r1::L)
def Cb.l1 (K:Nat):Nat→(List Int)→(List Int)→(List Bool)→Int→Option (List Bool)
 |0,_,_,_,_=>none
 |k+1,t3,t17,a1,x29=>if x29<(t17.length:Int) then (if 0≤x29∧x29<(t17.length:Int) then (if 0≤x29∧x29<(t3.length:Int) then (if 0≤t3.getD x29.toNat 0∧t3.getD x29.toNat 0<(a1.length:Int) then (Cb.l1 K k t3 t17 (a1.set ((t3.getD x29.toNat 0).toNat) (decide (t17.getD x29.toNat 0=0))) (w64 (x29+1))) else none) else none) else none) else (some a1)
def Cb.f (K:Nat) (a1:List (List Am)):Option (List Bool):=(Co.f K a1).bind fun t3=>((Gd.f K t3).bind fun t9=>(if 0≤t9 then (if t9.toNat*1≤281474976710656 then ((Ah.f K a1).bind fun t17=>(Cb.l1 K K t3 t17 (List.replicate t9.toNat false) 0)) else none) else none))
abbrev Cb.post (w0:World) (L:List Dc) (r1:List Bool) (en:Ending) (w:World):Prop:=∃ (A_r0:Option Addr) (c_r1:Nat),en=.returned (.slice A_r0 r1.length c_r1)∧St w0 w (Own Fy 4 A_r0 c_r1 (fun _=>()) r1::L)
def Dl.l1 (K:Nat):Nat→(List Bool)→Bool→Int→Option (Int)
 |0,_,_,_=>none
 |k+1,s,v,x4=>if x4<(s.length:Int) then (if 0≤x4∧x4<(s.length:Int) then (if (v == (s.getD x4.toNat false))=true then (some x4) else (Dl.l1 K k s v (w64 (x4+1)))) else none) else (some (-1))
def Dl.f (K:Nat) (s:List Bool) (v:Bool):Option (Int):=Dl.l1 K K s v 0
abbrev Dl.post:=J5
def Fw.f (K:Nat) (s:List Bool) (v:Bool):Option (Bool):=(Dl.f K s v).bind fun t1=>(some (decide (0≤t1)))
abbrev Fw.post:=Ka
def Fz.f (K:Nat) (a1:List (List Am)):Option (Bool):=if 0<(a1.length:Int) then ((Ar.f K a1).bind fun t4=>((Gd.f K t4).bind fun t10=>(if t10=1 then ((Cb.f K a1).bind fun t15=>((Fw.f K t15 true).bind fun t21=>(some (!t21)))) else (some false)))) else (some false)
abbrev Fz.post:=Ka
def I8.f (K:Nat) (a1:List (List Am)):Option (Int):=(Br.f K a1).bind fun t3=>(if t3=true then ((Fz.f K a1).bind fun t8=>(if t8=true then (some 0) else (some 5))) else (some 1))
abbrev I8.post:=J5
def Df.f (K:Nat) (tet:Int) (f:Int) (b1:Int) (g1:Int) (d1:Int) (c1:Int) (e1:Int) (f1:Int) (a1:List Int):Option (List Int):=if 0≤f∧f<4 then ((Gl.f K a1 (w64 ((w64 (4*tet))+f)) (w64 ((w64 (4*b1))+(([d1,c1,e1,f1]:List Int).getD f.toNat 0)))).bind fun t6=>(if t6.length=a1.length then (some t6) else none)) else none
abbrev Df.post (w0:World) (L:List Dc) (b_v0:Nat) (A_a:Option Addr) (c_a:Nat) (r1:List Int) (en:Ending) (w:World):Prop:=en=.returned (.tuple #[])∧St w0 w (Box b_v0 26 [.slice A_a r1.length c_a]::Own (Ac .i64) 2 A_a c_a (fun _=>()) r1::L)
mutual
def Ad.l1 (K:Nat):Nat→(List (List Am))→(List Int)→Int→Option (List Int)
 |0,_,_,_=>none
 |k+1,a1,x79,x80=>if x80<(a1.length:Int) then (if 0≤x80∧x80<(a1.length:Int) then (Ad.l4 K k a1 x80 x79 0) else none) else (some x79)
def Ad.l4 (K:Nat):Nat→(List (List Am))→Int→(List Int)→Int→Option (List Int)
 |0,_,_,_,_=>none
 |k+1,a1,x80,x183,x184=>if x184<((a1.getD x80.toNat []).length:Int) then (if 0≤x184∧x184<((a1.getD x80.toNat []).length:Int) then (bnd ((a1.getD x80.toNat []).getD x184.toNat Eo) (fun e211=>(Bo.f e211.Tet e211.Perm).bind fun t216=>(if t216=true then (Ad.l4 K k a1 x80 x183 (w64 (x184+1))) else (Hm (Ej.f K e211.Perm) (fun t221 t222 t223 t224=>((Df.f K x80 x184 e211.Tet e211.Perm t221 t222 t223 t224 x183).bind fun t228=>(if t228.length=x183.length then (Ad.l4 K k a1 x80 t228 (w64 (x184+1))) else none))))))) else none) else (Ad.l1 K k a1 x183 (w64 (x80+1)))
end
def Ad.f (K:Nat) (a1:List (List Am)) (b1:List Int):Option (List Int):=Ad.l1 K K a1 b1 0
abbrev Ad.post (w0:World) (L:List Dc) (b_cap:Nat) (A_b:Option Addr) (c_b:Nat) (r1:List Int) (en:Ending) (w:World):Prop:=en=.returned (.tuple #[])∧St w0 w (Box b_cap 26 [.slice A_b r1.length c_b]::Own (Ac .i64) 2 A_b c_b (fun _=>()) r1::L)
def Ef.f (K:Nat) (a1:List (List Am)):Option (List Int):=(Dq.f a1).bind fun t3=>((Es.f K (w64 (4*t3))).bind fun t7=>((Ad.f K a1 t7).bind fun t16=>(if t16.length=t7.length then ((Dk.f K t16).bind fun t21=>(some t21)) else none)))
abbrev Ef.post (w0:World) (L:List Dc) (r1:List Int) (en:Ending) (w:World):Prop:=∃ (A_r0:Option Addr) (c_r1:Nat),en=.returned (.slice A_r0 r1.length c_r1)∧St w0 w (Own (Ac .i64) 2 A_r0 c_r1 (fun _=>()) r1::L)
mutual
def Bc.l1 (K:Nat):Nat→(List (List Am))→(List Bool)→(List Int)→(List Qc)→Int→Option (List Qc)
 |0,_,_,_,_,_=>none
 |k+1,d1,e1,a1,c1,b1=>if b1<(a1.length:Int) then (if 0≤b1∧b1<(a1.length:Int) then (if 0≤a1.getD b1.toNat 0∧a1.getD b1.toNat 0<(d1.length:Int) then (Bc.l4 K k d1 a1 b1 e1 a1 c1 0) else none) else none) else (some c1)
def Bc.l4 (K:Nat):Nat→(List (List Am))→(List Int)→Int→(List Bool)→(List Int)→(List Qc)→Int→Option (List Qc)
 |0,_,_,_,_,_,_,_=>none
 |k+1,b1,d1,a1,e1,c1,f1,x292=>if x292<((b1.getD ((d1.getD a1.toNat 0).toNat) []).length:Int) then (if 0≤x292∧x292<((b1.getD ((d1.getD a1.toNat 0).toNat) []).length:Int) then (bnd ((b1.getD ((d1.getD a1.toNat 0).toNat) []).getD x292.toNat Eo) (fun e329=>(Bo.f e329.Tet e329.Perm).bind fun t340=>(if t340=true then (Bc.l4 K k b1 d1 a1 e1 c1 f1 (w64 (x292+1))) else (if 0≤e329.Tet∧e329.Tet<(e1.length:Int) then (if (e1.getD e329.Tet.toNat false)=true then (Bc.l4 K k b1 d1 a1 e1 c1 f1 (w64 (x292+1))) else (if (c1.length+1)*8≤140737488355328 then (if 0≤a1∧a1<((c1++[e329.Tet]).length:Int) then (if (f1.length+1)*16≤140737488355328 then (Bc.l4 K k b1 d1 a1 (e1.set e329.Tet.toNat true) (c1++[e329.Tet]) (f1++[(⟨(c1++[e329.Tet]).getD a1.toNat 0,x292⟩:Qc)]) (w64 (x292+1))) else none) else none) else none)) else none)))) else none) else (Bc.l1 K k b1 e1 c1 f1 (w64 (a1+1)))
end
def Bc.f (K:Nat) (a1:List (List Am)):Option (List Qc):=if 0≤(a1.length:Int) then (if (a1.length:Int).toNat*1≤281474976710656 then (if 0≤(0:Int)∧(0:Int)<((List.replicate (a1.length:Int).toNat false).length:Int) then (Bc.l1 K K a1 ((List.replicate (a1.length:Int).toNat false).set 0 true) ([0]:List Int) ([]:List Qc) 0) else none) else none) else none
abbrev Bc.post (w0:World) (L:List Dc) (r1:List Qc) (en:Ending) (w:World):Prop:=∃ (A_r0:Option Addr) (c_r1:Nat),en=.returned (.slice A_r0 r1.length c_r1)∧St w0 w (Own Qy 152 A_r0 c_r1 (fun _=>()) r1::L)
mutual
def Ap.l1 (K:Nat):Nat→(List (List Am))→(List Int)→(List Qc)→(List Bool)→Int→Option (List (List Int))
 |0,_,_,_,_,_=>none
 |k+1,b1,t3,t17,a1,x141=>if x141<(t17.length:Int) then (if 0≤x141∧x141<(t17.length:Int) then (bnd (t17.getD x141.toNat iU) (fun e261=>if 0≤w64 ((w64 (4*e261.e0))+e261.e1)∧w64 ((w64 (4*e261.e0))+e261.e1)<(t3.length:Int) then (if 0≤t3.getD ((w64 ((w64 (4*e261.e0))+e261.e1)).toNat) 0∧t3.getD ((w64 ((w64 (4*e261.e0))+e261.e1)).toNat) 0<(a1.length:Int) then (Ap.l1 K k b1 t3 t17 (a1.set ((t3.getD ((w64 ((w64 (4*e261.e0))+e261.e1)).toNat) 0).toNat) true) (w64 (x141+1))) else none) else none)) else none) else (Ap.l4 K k b1 t3 a1 ([]:List (List Int)) 0)
def Ap.l4 (K:Nat):Nat→(List (List Am))→(List Int)→(List Bool)→(List (List Int))→Int→Option (List (List Int))
 |0,_,_,_,_,_=>none
 |k+1,a1,t3,b1,c1,x307=>if x307<(b1.length:Int) then (if 0≤x307∧x307<(b1.length:Int) then ((Ca.f K t3 x307).bind fun t344=>(if (b1.getD x307.toNat false)=true then (Ap.l4 K k a1 t3 b1 c1 (w64 (x307+1))) else (if 0≤w64 (t344.tdiv 4)∧w64 (t344.tdiv 4)<(a1.length:Int) then (if 0≤t344.tmod 4∧t344.tmod 4<((a1.getD ((w64 (t344.tdiv 4)).toNat) []).length:Int) then (bnd ((a1.getD ((w64 (t344.tdiv 4)).toNat) []).getD ((t344.tmod 4).toNat) Eo) (fun e360=>(Bo.f e360.Tet e360.Perm).bind fun t362=>(if t362=true then (Ap.l4 K k a1 t3 b1 c1 (w64 (x307+1))) else (if (c1.length+1)*24≤140737488355328 then (Ap.l4 K k a1 t3 b1 (c1++[([w64 (t344.tdiv 4),t344.tmod 4]:List Int)]) (w64 (x307+1))) else none)))) else none) else none))) else none) else (some c1)
end
def Ap.f (K:Nat) (a1:List (List Am)):Option (List (List Int)):=(Ef.f K a1).bind fun t3=>((Gd.f K t3).bind fun t9=>(if 0≤t9 then (if t9.toNat*1≤281474976710656 then ((Bc.f K a1).bind fun t17=>(Ap.l1 K K a1 t3 t17 (List.replicate t9.toNat false) 0)) else none) else none))
abbrev Ap.post (w0:World) (L:List Dc) (r1:List (List Int)) (en:Ending) (w:World):Prop:=∃ (A_r0:Option Addr) (c_r1:Nat) (y_r2:Nat→(Ty.slice 2 (Ac .i64)).Lay),en=.returned (.slice A_r0 r1.length c_r1)∧St w0 w (Own (Ty.slice 2 (Ac .i64)) 26 A_r0 c_r1 y_r2 r1::L)
def I1.f (list:List (List Int)):Option (Int):=some (list.length:Int)
abbrev I1.post:=J5
mutual
def Ay.l1 (K:Nat):Nat→(List (List Am))→(List (List Int))→Int→Option (List (List Int))
 |0,_,_,_=>none
 |k+1,a1,b1,x94=>if x94<((List.replicate (a1.length:Int).toNat ([]:List Int)).length:Int) then (if (4:Int).toNat*8≤281474976710656 then (if 0≤x94∧x94<(b1.length:Int) then (Ay.l1 K k a1 (b1.set x94.toNat (List.replicate (4:Int).toNat (0:Int))) (w64 (x94+1))) else none) else none) else ((Ap.f K a1).bind fun t187=>(Ay.l4 K k a1 t187 b1 0))
def Ay.l4 (K:Nat):Nat→(List (List Am))→(List (List Int))→(List (List Int))→Int→Option (List (List Int))
 |0,_,_,_,_=>none
 |k+1,b1,t187,a1,x218=>if x218<(t187.length:Int) then (if 0≤x218∧x218<(t187.length:Int) then (if 0≤(0:Int)∧(0:Int)<((t187.getD x218.toNat []).length:Int) then (if 0≤(t187.getD x218.toNat []).getD 0 0∧(t187.getD x218.toNat []).getD 0 0<(b1.length:Int) then (if 0≤(1:Int)∧(1:Int)<((t187.getD x218.toNat []).length:Int) then (if 0≤(t187.getD x218.toNat []).getD 1 0∧(t187.getD x218.toNat []).getD 1 0<((b1.getD (((t187.getD x218.toNat []).getD 0 0).toNat) []).length:Int) then (bnd ((b1.getD (((t187.getD x218.toNat []).getD 0 0).toNat) []).getD (((t187.getD x218.toNat []).getD 1 0).toNat) Eo) (fun e248=>if 0≤(t187.getD x218.toNat []).getD 0 0∧(t187.getD x218.toNat []).getD 0 0<(a1.length:Int) then (if 0≤(t187.getD x218.toNat []).getD 1 0∧(t187.getD x218.toNat []).getD 1 0<((a1.getD (((t187.getD x218.toNat []).getD 0 0).toNat) []).length:Int) then (if 0≤e248.Tet∧e248.Tet<((a1.set (((t187.getD x218.toNat []).getD 0 0).toNat) ((a1.getD (((t187.getD x218.toNat []).getD 0 0).toNat) []).set (((t187.getD x218.toNat []).getD 1 0).toNat) (w64 (x218+1)))).length:Int) then ((G7.f K e248.Tet e248.Perm ((t187.getD x218.toNat []).getD 1 0)).bind fun t259=>(if 0≤t259∧t259<(((a1.set (((t187.getD x218.toNat []).getD 0 0).toNat) ((a1.getD (((t187.getD x218.toNat []).getD 0 0).toNat) []).set (((t187.getD x218.toNat []).getD 1 0).toNat) (w64 (x218+1)))).getD e248.Tet.toNat []).length:Int) then (Ay.l4 K k b1 t187 ((a1.set (((t187.getD x218.toNat []).getD 0 0).toNat) ((a1.getD (((t187.getD x218.toNat []).getD 0 0).toNat) []).set (((t187.getD x218.toNat []).getD 1 0).toNat) (w64 (x218+1)))).set e248.Tet.toNat (((a1.set (((t187.getD x218.toNat []).getD 0 0).toNat) ((a1.getD (((t187.getD x218.toNat []).getD 0 0).toNat) []).set (((t187.getD x218.toNat []).getD 1 0).toNat) (w64 (x218+1)))).getD e248.Tet.toNat []).set t259.toNat (w64 (0 - (w64 (x218+1)))))) (w64 (x218+1))) else none)) else none) else none) else none)) else none) else none) else none) else none) else none) else (some a1)
end
def Ay.f (K:Nat) (a1:List (List Am)):Option (List (List Int)):=if 0≤(a1.length:Int) then (if (a1.length:Int).toNat*24≤281474976710656 then (Ay.l1 K K a1 (List.replicate (a1.length:Int).toNat ([]:List Int)) 0) else none) else none
abbrev Ay.post (w0:World) (L:List Dc) (r1:List (List Int)) (en:Ending) (w:World):Prop:=∃ (A_r0:Option Addr) (c_r1:Nat) (y_r2:Nat→(Ty.slice 2 (Ac .i64)).Lay),en=.returned (.slice A_r0 r1.length c_r1)∧St w0 w (Own (Ty.slice 2 (Ac .i64)) 26 A_r0 c_r1 y_r2 r1::L)
mutual
def Al.l1 (K:Nat):Nat→(List (List Am))→(List Int)→(List Bool)→Int→Option (List Bool)
 |0,_,_,_,_=>none
 |k+1,b1,t3,a1,x77=>if x77<(t3.length:Int) then (if 0≤x77∧x77<(t3.length:Int) then (Dw (Gw.f K (x77.tmod 6)) (fun t139 t140=>((Ic.f K ([t139,t140]:List Int)).bind fun t146=>(Al.l4 K k b1 t3 x77 t146 a1 0)))) else none) else (some a1)
def Al.l4 (K:Nat):Nat→(List (List Am))→(List Int)→Int→(List Int)→(List Bool)→Int→Option (List Bool)
 |0,_,_,_,_,_,_=>none
 |k+1,a1,t3,x77,t146,b1,x167=>if x167<(t146.length:Int) then (if 0≤x167∧x167<(t146.length:Int) then (if 0≤t3.getD x77.toNat 0∧t3.getD x77.toNat 0<(b1.length:Int) then (if (b1.getD ((t3.getD x77.toNat 0).toNat) false)=true then (Al.l4 K k a1 t3 x77 t146 (b1.set ((t3.getD x77.toNat 0).toNat) true) (w64 (x167+1))) else (if 0≤w64 (x77.tdiv 6)∧w64 (x77.tdiv 6)<(a1.length:Int) then (if 0≤t146.getD x167.toNat 0∧t146.getD x167.toNat 0<((a1.getD ((w64 (x77.tdiv 6)).toNat) []).length:Int) then (bnd ((a1.getD ((w64 (x77.tdiv 6)).toNat) []).getD ((t146.getD x167.toNat 0).toNat) Eo) (fun e189=>(Bo.f e189.Tet e189.Perm).bind fun t191=>(Al.l4 K k a1 t3 x77 t146 (b1.set ((t3.getD x77.toNat 0).toNat) t191) (w64 (x167+1))))) else none) else none)) else none) else none) else (Al.l1 K k a1 t3 b1 (w64 (x77+1)))
end
def Al.f (K:Nat) (a1:List (List Am)):Option (List Bool):=(Co.f K a1).bind fun t3=>((Gd.f K t3).bind fun t9=>(if 0≤t9 then (if t9.toNat*1≤281474976710656 then (Al.l1 K K a1 t3 (List.replicate t9.toNat false) 0) else none) else none))
abbrev Al.post (w0:World) (L:List Dc) (r1:List Bool) (en:Ending) (w:World):Prop:=∃ (A_r0:Option Addr) (c_r1:Nat),en=.returned (.slice A_r0 r1.length c_r1)∧St w0 w (Own Fy 4 A_r0 c_r1 (fun _=>()) r1::L)
mutual
def Bj.l1 (K:Nat):Nat→(List (List Am))→Int→(List Int)→Int→Int→Option (Int × Int)
 |0,_,_,_,_,_=>none
 |k+1,a1,b1,t5,t19,x151=>if x151<t19 then (Bj.l4 K k a1 b1 t5 t19 x151 0) else (some (0,0))
def Bj.l4 (K:Nat):Nat→(List (List Am))→Int→(List Int)→Int→Int→Int→Option (Int × Int)
 |0,_,_,_,_,_,_=>none
 |k+1,a1,b1,t5,t19,x151,x322=>if x322<24 then (Hm (Ej.f K x322) (fun t366 t367 t368 t369=>((Ih.f K t366 t367).bind fun t390=>(if 0≤w64 ((w64 (6*x151))+t390)∧w64 ((w64 (6*x151))+t390)<(t5.length:Int) then (if t5.getD ((w64 ((w64 (6*x151))+t390)).toNat) 0=b1 then (if 0≤x151∧x151<(a1.length:Int) then (if 0≤t369∧t369<((a1.getD x151.toNat []).length:Int) then (bnd ((a1.getD x151.toNat []).getD t369.toNat Eo) (fun e399=>(Bo.f e399.Tet e399.Perm).bind fun t401=>(if t401=true then (some (x151,x322)) else (Bj.l4 K k a1 b1 t5 t19 x151 (w64 (x322+1)))))) else none) else none) else (Bj.l4 K k a1 b1 t5 t19 x151 (w64 (x322+1)))) else none)))) else (Bj.l1 K k a1 b1 t5 t19 (w64 (x151+1)))
end
def Bj.f (K:Nat) (b1:List (List Am)) (a1:Int):Option (Int × Int):=(Co.f K b1).bind fun t5=>((Al.f K b1).bind fun t11=>(if 0≤a1∧a1<(t11.length:Int) then (if (t11.getD a1.toNat false)=true then ((Dq.f b1).bind fun t19=>(Bj.l1 K K b1 a1 t5 t19 0)) else ((Ca.f K t5 a1).bind fun t408=>(Dw (Gw.f K (t408.tmod 6)) (fun t412 t413=>((Ic.f K ([t412,t413]:List Int)).bind fun t419=>(if 0≤(0:Int)∧(0:Int)<(t419.length:Int) then (if 0≤(1:Int)∧(1:Int)<(t419.length:Int) then ((Dz.f K t412 t413 (t419.getD 0 0) (t419.getD 1 0)).bind fun t429=>(some (w64 (t408.tdiv 6),t429))) else none) else none)))))) else none))
abbrev Bj.post (w0:World) (L:List Dc) (r1 r2:Int) (en:Ending) (w:World):Prop:=en=.returned (.agg [.int .i64 r1,.int .i64 r2].toArray)∧St w0 w (L)
def F5.f (K:Nat) (b1:List (List Am)) (a1:Int) (c1:Int):Option (Int × Int × Bool):=Hm (Ej.f K c1) (fun t7 t8 t9 t10=>(if 0≤a1∧a1<(b1.length:Int) then (if 0≤t9∧t9<((b1.getD a1.toNat []).length:Int) then (bnd ((b1.getD a1.toNat []).getD t9.toNat Eo) (fun e19=>(Bo.f e19.Tet e19.Perm).bind fun t24=>(if t24=true then (some (0,0,false)) else (Hm (Ej.f K e19.Perm) (fun t30 t31 t32 t33=>(if 0≤t7∧t7<4 then (if 0≤t8∧t8<4 then (if 0≤t10∧t10<4 then (if 0≤t9∧t9<4 then ((Dz.f K (([t30,t31,t32,t33]:List Int).getD t7.toNat 0) (([t30,t31,t32,t33]:List Int).getD t8.toNat 0) (([t30,t31,t32,t33]:List Int).getD t10.toNat 0) (([t30,t31,t32,t33]:List Int).getD t9.toNat 0)).bind fun t44=>(some (e19.Tet,t44,true))) else none) else none) else none) else none)))))) else none) else none))
abbrev F5.post (w0:World) (L:List Dc) (r1 r2:Int) (r3:Bool) (en:Ending) (w:World):Prop:=en=.returned (.tuple #[.agg [.int .i64 r1,.int .i64 r2].toArray,.bool r3])∧St w0 w (L)
def Di.l1 (K:Nat):Nat→(List (List Am))→Int→Int→(List Am)→Option (List Am)
 |0,_,_,_,_=>none
 |k+1,b1,t3,t4,a1=>if 0≤w64 ((a1.length:Int) - 1)∧w64 ((a1.length:Int) - 1)<(a1.length:Int) then (bnd (a1.getD ((w64 ((a1.length:Int) - 1)).toNat) Eo) (fun e62=>Gy (F5.f K b1 e62.Tet e62.Perm) (fun t64 t65 t66=>(if t66=true then (if (t64,t65)=(t3,t4) then (some a1) else (if (a1.length+1)*16≤140737488355328 then (Di.l1 K k b1 t3 t4 (a1++[(⟨t64,t65⟩:Am)])) else none)) else (some a1))))) else none
def Di.f (K:Nat) (a1:List (List Am)) (b1:Int):Option (List Am):=Dw (Bj.f K a1 b1) (fun t3 t4=>(Di.l1 K K a1 t3 t4 ([(⟨t3,t4⟩:Am)]:List Am)))
abbrev Di.post (w0:World) (L:List Dc) (r1:List Am) (en:Ending) (w:World):Prop:=∃ (A_r0:Option Addr) (c_r1:Nat),en=.returned (.slice A_r0 r1.length c_r1)∧St w0 w (Own Ak 176 A_r0 c_r1 (fun _=>()) r1::L)
def Cg.l1 (K:Nat):Nat→(List (List Int))→(List Am)→(List Int)→Int→Option (List Int)
 |0,_,_,_,_=>none
 |k+1,letters,t3,a1,x35=>if x35<(t3.length:Int) then (if 0≤x35∧x35<(t3.length:Int) then (bnd (t3.getD x35.toNat Eo) (fun e61=>if 0≤e61.Tet∧e61.Tet<(letters.length:Int) then (Hm (Ej.f K e61.Perm) (fun t67 t68 t69 t70=>(if 0≤t69∧t69<((letters.getD e61.Tet.toNat []).length:Int) then (if (letters.getD e61.Tet.toNat []).getD t69.toNat 0=0 then (Cg.l1 K k letters t3 a1 (w64 (x35+1))) else (if (a1.length+1)*8≤140737488355328 then (Cg.l1 K k letters t3 (a1++[(letters.getD e61.Tet.toNat []).getD t69.toNat 0]) (w64 (x35+1))) else none)) else none))) else none)) else none) else (some a1)
def Cg.f (K:Nat) (a1:List (List Am)) (b1:Int) (letters:List (List Int)):Option (List Int):=(Di.f K a1 b1).bind fun t3=>(Cg.l1 K K letters t3 ([]:List Int) 0)
abbrev Cg.post (w0:World) (L:List Dc) (r1:List Int) (en:Ending) (w:World):Prop:=∃ (A_r0:Option Addr) (c_r1:Nat),en=.returned (.slice A_r0 r1.length c_r1)∧St w0 w (Own (Ac .i64) 2 A_r0 c_r1 (fun _=>()) r1::L)
def Cc.l1 (K:Nat):Nat→(List (List Am))→(List (List Int))→(List Bool)→(List (List Int))→Int→Option (List (List Int))
 |0,_,_,_,_,_=>none
 |k+1,b1,t3,t10,a1,x36=>if x36<(t10.length:Int) then (if 0≤x36∧x36<(t10.length:Int) then (if (t10.getD x36.toNat false)=true then (Cc.l1 K k b1 t3 t10 a1 (w64 (x36+1))) else ((Cg.f K b1 x36 t3).bind fun t56=>(if (a1.length+1)*24≤140737488355328 then (Cc.l1 K k b1 t3 t10 (a1++[t56]) (w64 (x36+1))) else none))) else none) else (some a1)
def Cc.f (K:Nat) (a1:List (List Am)):Option (List (List Int)):=(Ay.f K a1).bind fun t3=>((Al.f K a1).bind fun t10=>(Cc.l1 K K a1 t3 t10 ([]:List (List Int)) 0))
abbrev Cc.post (w0:World) (L:List Dc) (r1:List (List Int)) (en:Ending) (w:World):Prop:=∃ (A_r0:Option Addr) (c_r1:Nat) (y_r2:Nat→(Ty.slice 2 (Ac .i64)).Lay),en=.returned (.slice A_r0 r1.length c_r1)∧St w0 w (Own (Ty.slice 2 (Ac .i64)) 26 A_r0 c_r1 y_r2 r1::L)
def Fb.l1 (K:Nat):Nat→(List Int)→(List Int)→Int→Option (List Int)
 |0,_,_,_=>none
 |k+1,w_,a1,x12=>if x12<(w_.length:Int) then (if 0≤x12∧x12<(w_.length:Int) then (if 0<(a1.length:Int) then (if 0≤w64 ((a1.length:Int) - 1)∧w64 ((a1.length:Int) - 1)<(a1.length:Int) then (if a1.getD ((w64 ((a1.length:Int) - 1)).toNat) 0=w64 (0 - (w_.getD x12.toNat 0)) then (if 0≤w64 ((a1.length:Int) - 1)∧w64 ((a1.length:Int) - 1)≤(a1.length:Int) then (Fb.l1 K k w_ ((a1.take ((w64 ((a1.length:Int) - 1)).toNat)).drop 0) (w64 (x12+1))) else none) else (if (a1.length+1)*8≤140737488355328 then (Fb.l1 K k w_ (a1++[w_.getD x12.toNat 0]) (w64 (x12+1))) else none)) else none) else (if (a1.length+1)*8≤140737488355328 then (Fb.l1 K k w_ (a1++[w_.getD x12.toNat 0]) (w64 (x12+1))) else none)) else none) else (some a1)
def Fb.f (K:Nat) (w_:List Int):Option (List Int):=Fb.l1 K K w_ ([]:List Int) 0
abbrev Fb.post (w0:World) (L:List Dc) (r1:List Int) (en:Ending) (w:World):Prop:=∃ (A_r0:Option Addr) (c_r1:Nat),en=.returned (.slice A_r0 r1.length c_r1)∧St w0 w (Own (Ac .i64) 2 A_r0 c_r1 (fun _=>()) r1::L)
def Cm.l1 (K:Nat):Nat→Int→(List (List Int))→(List (List Int))→Int→Option (Int × (List (List Int)))
 |0,_,_,_,_=>none
 |k+1,t12,t19,a1,x48=>if x48<(t19.length:Int) then (if 0≤x48∧x48<(t19.length:Int) then ((Fb.f K (t19.getD x48.toNat [])).bind fun t69=>(if 0<(t69.length:Int) then (if (a1.length+1)*24≤140737488355328 then (Cm.l1 K k t12 t19 (a1++[t69]) (w64 (x48+1))) else none) else (Cm.l1 K k t12 t19 a1 (w64 (x48+1))))) else none) else (some (t12,a1))
def Cm.f (K:Nat) (a1:List (List Am)):Option (Int × (List (List Int))):=(Ap.f K a1).bind fun t5=>((I1.f t5).bind fun t12=>((Cc.f K a1).bind fun t19=>(Cm.l1 K K t12 t19 ([]:List (List Int)) 0)))
abbrev Cm.post (w0:World) (L:List Dc) (r1:Int) (r2:List (List Int)) (en:Ending) (w:World):Prop:=∃ (A_r0:Option Addr) (c_r1:Nat) (y_r2:Nat→(Ty.slice 2 (Ac .i64)).Lay),en=.returned (.agg [.int .i64 r1,.slice A_r0 r2.length c_r1].toArray)∧St w0 w (Own (Ty.slice 2 (Ac .i64)) 26 A_r0 c_r1 y_r2 r2::L)
def Ik.f (rows:Int) (columns:Int):Option (Int × Int × (List Int)):=if 0≤w64 (rows*columns) then (if (w64 (rows*columns)).toNat*8≤281474976710656 then (some (rows,columns,(List.replicate (w64 (rows*columns)).toNat (0:Int)))) else none) else none
abbrev Ik.post (w0:World) (L:List Dc) (r1 r2:Int) (r3:List Int) (en:Ending) (w:World):Prop:=∃ (A_r0:Option Addr) (c_r1:Nat),en=.returned (.agg [.int .i64 r1,.int .i64 r2,.slice A_r0 r3.length c_r1].toArray)∧St w0 w (Own (Ac .i64) 2 A_r0 c_r1 (fun _=>()) r3::L)
def Jg.f (x:Int):Option (Int):=if x<0 then (some (w64 (0 - x))) else (some x)
abbrev Jg.post:=J5
def Bp.f (c1:Int) (a1:Int) (b1:List Int) (row:Int) (column:Int):Option (Int):=if 0≤w64 ((w64 (row*a1))+column)∧w64 ((w64 (row*a1))+column)<(b1.length:Int) then (some (w64 ((w64 (row*a1))+column))) else none
abbrev Bp.post (w0:World) (L:List Dc) (A_a:Option Addr) (r1:Int) (en:Ending) (w:World):Prop:=en=.returned (.pointer (some (ea A_a (r1.toNat*1))))∧St w0 w (L)
def Hg.f (list:List Int):Option (Int):=some (list.length:Int)
abbrev Hg.post:=J5
def I6.f (x:Int):Option (Bool):=(Fu.f x (-1000000000000) 1000000000000).bind fun t1=>(some (!t1))
abbrev I6.post:=Ka
def Bh.l1 (K:Nat):Nat→(List Int)→Int→Option (Int)
 |0,_,_=>none
 |k+1,s,x8=>if x8<(s.length:Int) then (if 0≤x8∧x8<(s.length:Int) then ((I6.f (s.getD x8.toNat 0)).bind fun t18=>(if t18=true then (some x8) else (Bh.l1 K k s (w64 (x8+1))))) else none) else (some (-1))
def Bh.f (K:Nat) (s:List Int):Option (Int):=Bh.l1 K K s 0
abbrev Bh.post:=J5
def Dp.f (K:Nat) (s:List Int):Option (Bool):=(Bh.f K s).bind fun t1=>(some (decide (0≤t1)))
abbrev Dp.post:=Ka
def Ju.f (K:Nat) (a1:Int) (c1:Int) (b1:List Int):Option (Bool):=(Fu.f a1 0 48).bind fun t3=>(if t3=true then ((Fu.f c1 0 48).bind fun t8=>(if t8=true then ((Hg.f b1).bind fun t13=>(if t13=w64 (a1*c1) then ((Dp.f K b1).bind fun t18=>(some (!t18))) else (some false))) else (some false))) else (some false))
abbrev Ju.post:=Ka
def Eb.l1 (K:Nat):Nat→Int→Int→Int→(List Int)→Int→Option (Int × Int × (List Int))
 |0,_,_,_,_,_=>none
 |k+1,n_,t3,t4,a1,x23=>if x23<n_ then ((Bp.f t3 t4 a1 x23 x23).bind fun t33=>(if 0≤t33∧t33<(a1.length:Int) then (Eb.l1 K k n_ t3 t4 (a1.set t33.toNat 1) (w64 (x23+1))) else none)) else (some (t3,t4,a1))
def Eb.f (K:Nat) (n_:Int):Option (Int × Int × (List Int)):=Gy (Ik.f n_ n_) (fun t3 t4 t5=>(Eb.l1 K K n_ t3 t4 t5 0))
abbrev Eb.post (w0:World) (L:List Dc) (r1 r2:Int) (r3:List Int) (en:Ending) (w:World):Prop:=∃ (A_r0:Option Addr) (c_r1:Nat),en=.returned (.agg [.int .i64 r1,.int .i64 r2,.slice A_r0 r3.length c_r1].toArray)∧St w0 w (Own (Ac .i64) 2 A_r0 c_r1 (fun _=>()) r3::L)
def Gn.f (s:List Int):Option (List Int):=if (([]:List Int).length+s.length)*8≤140737488355328 then (some (([]:List Int)++s)) else none
abbrev Gn.post (w0:World) (L:List Dc) (r1:List Int) (en:Ending) (w:World):Prop:=∃ (A_r0:Option Addr) (c_r1:Nat),en=.returned (.slice A_r0 r1.length c_r1)∧St w0 w (Own (Ac .i64) 2 A_r0 c_r1 (fun _=>()) r1::L)
def Jc.f (a1:Int) (c1:Int) (b1:List Int):Option (Int × Int × (List Int)):=(Gn.f b1).bind fun t5=>(some (a1,c1,t5))
abbrev Jc.post (w0:World) (L:List Dc) (r1 r2:Int) (r3:List Int) (en:Ending) (w:World):Prop:=∃ (A_r0:Option Addr) (c_r1:Nat),en=.returned (.agg [.int .i64 r1,.int .i64 r2,.slice A_r0 r3.length c_r1].toArray)∧St w0 w (Own (Ac .i64) 2 A_r0 c_r1 (fun _=>()) r3::L)
def Ja.f (K:Nat) (a1:Int) (b1:Int) (c1:List Int):Option (Int × Int × (List Int) × Int × Int × (List Int) × Int × Int × (List Int) × Int × Int × (List Int) × Int × Int × (List Int) × Bool):=Gy (Eb.f K a1) (fun t3 t4 t5=>(Gy (Eb.f K a1) (fun t11 t12 t13=>(Gy (Jc.f a1 b1 c1) (fun t19 t20 t21=>(Gy (Eb.f K b1) (fun t27 t28 t29=>(Gy (Eb.f K b1) (fun t35 t36 t37=>(some (t3,t4,t5,t11,t12,t13,t19,t20,t21,t27,t28,t29,t35,t36,t37,false)))))))))))
abbrev Ja.post (w0:World) (L:List Dc) (r1 r2:Int) (r3:List Int) (r4 r5:Int) (r6:List Int) (r7 r8:Int) (r9:List Int) (r10 r11:Int) (r12:List Int) (r13 r14:Int) (r15:List Int) (r16:Bool) (en:Ending) (w:World):Prop:=∃ (b_r0:Nat) (A_r1:Option Addr) (c_r2:Nat) (A_r3:Option Addr) (c_r4:Nat) (A_r5:Option Addr) (c_r6:Nat) (A_r7:Option Addr) (c_r8:Nat) (A_r9:Option Addr) (c_r10:Nat),en=.returned (.pointer (some ⟨b_r0,0,none⟩))∧St w0 w (Box b_r0 168 [.int .i64 r1,.int .i64 r2,.slice A_r1 r3.length c_r2,.int .i64 r4,.int .i64 r5,.slice A_r3 r6.length c_r4,.int .i64 r7,.int .i64 r8,.slice A_r5 r9.length c_r6,.int .i64 r10,.int .i64 r11,.slice A_r7 r12.length c_r8,.int .i64 r13,.int .i64 r14,.slice A_r9 r15.length c_r10,.bool r16]::Own (Ac .i64) 2 A_r1 c_r2 (fun _=>()) r3::Own (Ac .i64) 2 A_r3 c_r4 (fun _=>()) r6::Own (Ac .i64) 2 A_r5 c_r6 (fun _=>()) r9::Own (Ac .i64) 2 A_r7 c_r8 (fun _=>()) r12::Own (Ac .i64) 2 A_r9 c_r10 (fun _=>()) r15::L)
mutual
def Bi.l1 (K:Nat):Nat→Int→Int→(List Int)→Int→Int→Int→Bool→Int→Option (Int × Int × Bool)
 |0,_,_,_,_,_,_,_,_=>none
 |k+1,b1,g1,f1,k_,d1,e1,a1,c1=>if c1<b1 then (Bi.l4 K k b1 g1 f1 k_ c1 d1 e1 a1 k_) else (some (d1,e1,a1))
def Bi.l4 (K:Nat):Nat→Int→Int→(List Int)→Int→Int→Int→Int→Bool→Int→Option (Int × Int × Bool)
 |0,_,_,_,_,_,_,_,_,_=>none
 |k+1,e1,c1,a1,k_,b1,h1,f1,g1,d1=>if d1<c1 then ((Bp.f e1 c1 a1 b1 d1).bind fun t267=>(if 0≤t267∧t267<(a1.length:Int) then ((Jg.f (a1.getD t267.toNat 0)).bind fun t272=>(if t272=0 then (Bi.l4 K k e1 c1 a1 k_ b1 h1 f1 g1 (w64 (d1+1))) else (if g1=true then ((Bp.f e1 c1 a1 h1 f1).bind fun t289=>(if 0≤t289∧t289<(a1.length:Int) then ((Jg.f (a1.getD t289.toNat 0)).bind fun t294=>(if t272<t294 then (Bi.l4 K k e1 c1 a1 k_ b1 b1 d1 true (w64 (d1+1))) else (Bi.l4 K k e1 c1 a1 k_ b1 h1 f1 g1 (w64 (d1+1))))) else none)) else (Bi.l4 K k e1 c1 a1 k_ b1 b1 d1 true (w64 (d1+1)))))) else none)) else (Bi.l1 K k e1 c1 a1 k_ h1 f1 g1 (w64 (b1+1)))
end
def Bi.f (K:Nat) (h1:Int) (q1:Int) (g1:List Int) (f1:Int) (k1:Int) (r1:List Int) (a1:Int) (c1:Int) (b1:List Int) (i1:Int) (e1:Int) (p1:List Int) (o1:Int) (d1:Int) (m1:List Int) (n1:Bool) (k_:Int):Option (Int × Int × Bool):=Bi.l1 K K a1 c1 b1 k_ 0 0 false k_
abbrev Bi.post (w0:World) (L:List Dc) (r_Reduction_Left_Rows r_Reduction_Left_Columns:Int) (r_Reduction_Left_Entries:List Int) (r_Reduction_LeftInverse_Rows r_Reduction_LeftInverse_Columns:Int) (r_Reduction_LeftInverse_Entries:List Int) (r_Reduction_Diagonal_Rows r_Reduction_Diagonal_Columns:Int) (r_Reduction_Diagonal_Entries:List Int) (r_Reduction_Right_Rows r_Reduction_Right_Columns:Int) (r_Reduction_Right_Entries:List Int) (r_Reduction_RightInverse_Rows r_Reduction_RightInverse_Columns:Int) (r_Reduction_RightInverse_Entries:List Int) (r_bad:Bool) (b_r:Nat) (A_a:Option Addr) (c_a:Nat) (A_b:Option Addr) (c_b:Nat) (A_c:Option Addr) (c_c:Nat) (A_d:Option Addr) (c_d:Nat) (A_e:Option Addr) (c_e:Nat) (r1 r2:Int) (r3:Bool) (en:Ending) (w:World):Prop:=en=.returned (.tuple #[.int .i64 r1,.int .i64 r2,.bool r3])∧St w0 w (Box b_r 168 [.int .i64 r_Reduction_Left_Rows,.int .i64 r_Reduction_Left_Columns,.slice A_a r_Reduction_Left_Entries.length c_a,.int .i64 r_Reduction_LeftInverse_Rows,.int .i64 r_Reduction_LeftInverse_Columns,.slice A_b r_Reduction_LeftInverse_Entries.length c_b,.int .i64 r_Reduction_Diagonal_Rows,.int .i64 r_Reduction_Diagonal_Columns,.slice A_c r_Reduction_Diagonal_Entries.length c_c,.int .i64 r_Reduction_Right_Rows,.int .i64 r_Reduction_Right_Columns,.slice A_d r_Reduction_Right_Entries.length c_d,.int .i64 r_Reduction_RightInverse_Rows,.int .i64 r_Reduction_RightInverse_Columns,.slice A_e r_Reduction_RightInverse_Entries.length c_e,.bool r_bad]::L)
def Ed.l1 (K:Nat):Nat→Int→Int→Int→Int→(List Int)→Int→Option (List Int)
 |0,_,_,_,_,_,_=>none
 |k+1,b1,a1,i,k_,x17,x18=>if x18<a1 then ((Bp.f b1 a1 x17 i x18).bind fun t34=>(if 0≤t34∧t34<(x17.length:Int) then ((Bp.f b1 a1 x17 k_ x18).bind fun t39=>(if 0≤t39∧t39<(x17.length:Int) then (if 0≤t39∧t39<((x17.set t34.toNat (x17.getD t39.toNat 0)).length:Int) then (Ed.l1 K k b1 a1 i k_ ((x17.set t34.toNat (x17.getD t39.toNat 0)).set t39.toNat (x17.getD t34.toNat 0)) (w64 (x18+1))) else none) else none)) else none)) else (some x17)
def Ed.f (K:Nat) (a1:Int) (c1:Int) (b1:List Int) (i:Int) (k_:Int):Option (List Int):=Ed.l1 K K a1 c1 i k_ b1 0
abbrev Ed.post (w0:World) (L:List Dc) (A_a:Option Addr) (c_a:Nat) (r1:List Int) (en:Ending) (w:World):Prop:=en=.returned (.tuple #[])∧St w0 w (Own (Ac .i64) 2 A_a c_a (fun _=>()) r1::L)
def Du.l1 (K:Nat):Nat→Int→Int→Int→Int→(List Int)→Int→Option (List Int)
 |0,_,_,_,_,_,_=>none
 |k+1,a1,b1,j_,k_,x17,x18=>if x18<a1 then ((Bp.f a1 b1 x17 x18 j_).bind fun t34=>(if 0≤t34∧t34<(x17.length:Int) then ((Bp.f a1 b1 x17 x18 k_).bind fun t39=>(if 0≤t39∧t39<(x17.length:Int) then (if 0≤t39∧t39<((x17.set t34.toNat (x17.getD t39.toNat 0)).length:Int) then (Du.l1 K k a1 b1 j_ k_ ((x17.set t34.toNat (x17.getD t39.toNat 0)).set t39.toNat (x17.getD t34.toNat 0)) (w64 (x18+1))) else none) else none)) else none)) else (some x17)
def Du.f (K:Nat) (a1:Int) (c1:Int) (b1:List Int) (j_:Int) (k_:Int):Option (List Int):=Du.l1 K K a1 c1 j_ k_ b1 0
abbrev Du.post (w0:World) (L:List Dc) (A_a:Option Addr) (c_a:Nat) (r1:List Int) (en:Ending) (w:World):Prop:=en=.returned (.tuple #[])∧St w0 w (Own (Ac .i64) 2 A_a c_a (fun _=>()) r1::L)
def Gf.f (c1:Int) (a1:Int) (b1:List Int) (i:Int):Option (Int × Int):=if 0≤w64 (i*a1)∧w64 (i*a1)≤w64 ((w64 (i+1))*a1) then (if 0≤w64 ((w64 (i+1))*a1)∧w64 ((w64 (i+1))*a1)≤(b1.length:Int) then (some (w64 (i*a1),w64 ((w64 (i+1))*a1))) else none) else none
abbrev Gf.post (w0:World) (L:List Dc) (m_Entries:List Int) (A_a:Option Addr) (c_a:Nat) (r1 r2:Int) (en:Ending) (w:World):Prop:=en=.returned (.slice (Jn A_a r1.toNat c_a 1) ((m_Entries.take r2.toNat).drop r1.toNat).length (c_a - r1.toNat))∧St w0 w (L)
mutual
def Bg.l1 (K:Nat):Nat→Int→Int→Int→(List Int)→(List Int)→(List Int)→(List Int)→(List Int)→Int→Int→Int→Int→(List Int)→Int→Option (Bool × (List Int) × (List Int) × (List Int) × (List Int) × (List Int))
 |0,_,_,_,_,_,_,_,_,_,_,_,_,_,_=>none
 |k+1,a1,b1,o,t13,t18,t23,t28,t33,t44,t45,t51,t52,x196,x197=>if t45.toNat≤x196.length then (if x197<(((t23.take t45.toNat).drop t44.toNat).length:Int) then (if 0≤x197∧x197<(((x196.take t45.toNat).drop t44.toNat).length:Int) then (if t45.toNat≤(x196.set (t44.toNat+x197.toNat) (w64 (0 - (((x196.take t45.toNat).drop t44.toNat).getD x197.toNat 0)))).length then (Bg.l1 K k a1 b1 o t13 t18 t23 t28 t33 t44 t45 t51 t52 (x196.set (t44.toNat+x197.toNat) (w64 (0 - (((x196.take t45.toNat).drop t44.toNat).getD x197.toNat 0)))) (w64 (x197+1))) else none) else none) else (if t52.toNat≤t13.length then (Bg.l10 K k a1 b1 o t13 t18 t28 t33 t51 t52 x196 t13 0) else none)) else none
def Bg.l10 (K:Nat):Nat→Int→Int→Int→(List Int)→(List Int)→(List Int)→(List Int)→Int→Int→(List Int)→(List Int)→Int→Option (Bool × (List Int) × (List Int) × (List Int) × (List Int) × (List Int))
 |0,_,_,_,_,_,_,_,_,_,_,_,_=>none
 |k+1,a1,b1,o,t13,t18,t28,t33,t51,t52,x196,x382,x383=>if t52.toNat≤x382.length then (if x383<(((t13.take t52.toNat).drop t51.toNat).length:Int) then (if 0≤x383∧x383<(((x382.take t52.toNat).drop t51.toNat).length:Int) then (if t52.toNat≤(x382.set (t51.toNat+x383.toNat) (w64 (0 - (((x382.take t52.toNat).drop t51.toNat).getD x383.toNat 0)))).length then (Bg.l10 K k a1 b1 o t13 t18 t28 t33 t51 t52 x196 (x382.set (t51.toNat+x383.toNat) (w64 (0 - (((x382.take t52.toNat).drop t51.toNat).getD x383.toNat 0)))) (w64 (x383+1))) else none) else none) else (Bg.l13 K k a1 b1 o t28 t33 x196 x382 t18 0)) else none
def Bg.l13 (K:Nat):Nat→Int→Int→Int→(List Int)→(List Int)→(List Int)→(List Int)→(List Int)→Int→Option (Bool × (List Int) × (List Int) × (List Int) × (List Int) × (List Int))
 |0,_,_,_,_,_,_,_,_,_=>none
 |k+1,a1,b1,o,t28,t33,x196,x382,x444,x445=>if x445<a1 then ((Bp.f a1 b1 x444 x445 o).bind fun t459=>(if 0≤t459∧t459<(x444.length:Int) then ((Bp.f a1 b1 x444 x445 o).bind fun t464=>(if 0≤t464∧t464<(x444.length:Int) then (Bg.l13 K k a1 b1 o t28 t33 x196 x382 (x444.set t459.toNat (w64 (0 - (x444.getD t464.toNat 0)))) (w64 (x445+1))) else none)) else none)) else (some (true,x382,x444,x196,t28,t33))
end
def Bg.f (K:Nat) (k1:Int) (m1:Int) (d1:List Int) (h1:Int) (i1:Int) (e1:List Int) (a1:Int) (b1:Int) (c1:List Int) (p1:Int) (n1:Int) (f1:List Int) (q1:Int) (o1:Int) (g1:List Int) (r1:Bool) (o:Int):Option (Bool × (List Int) × (List Int) × (List Int) × (List Int) × (List Int)):=Gy (Bi.f K k1 m1 d1 h1 i1 e1 a1 b1 c1 p1 n1 f1 q1 o1 g1 r1 o) (fun t1 t2 t3=>(if t3=true then ((Ed.f K a1 b1 c1 t1 o).bind fun t8=>(if t8.length=c1.length then ((Ed.f K k1 m1 d1 t1 o).bind fun t13=>(if t13.length=d1.length then ((Du.f K h1 i1 e1 t1 o).bind fun t18=>(if t18.length=e1.length then ((Du.f K a1 b1 t8 t2 o).bind fun t23=>(if t23.length=t8.length then ((Du.f K p1 n1 f1 t2 o).bind fun t28=>(if t28.length=f1.length then ((Ed.f K q1 o1 g1 t2 o).bind fun t33=>(if t33.length=g1.length then ((Bp.f a1 b1 t23 o o).bind fun t38=>(if 0≤t38∧t38<(t23.length:Int) then (if t23.getD t38.toNat 0<0 then (Dw (Gf.f a1 b1 t23 o) (fun t44 t45=>(if 0≤t44∧t44≤t45 then (if 0≤t45∧t45≤(t23.length:Int) then (Dw (Gf.f k1 m1 t13 o) (fun t51 t52=>(if 0≤t51∧t51≤t52 then (if 0≤t52∧t52≤(t13.length:Int) then (Bg.l1 K K h1 i1 o t13 t18 t23 t28 t33 t44 t45 t51 t52 t23 0) else none) else none))) else none) else none))) else (some (true,t13,t18,t23,t28,t33))) else none)) else none)) else none)) else none)) else none)) else none)) else none)) else (some (false,d1,e1,c1,f1,g1))))
abbrev Bg.post (w0:World) (L:List Dc) (t_Reduction_Left_Rows t_Reduction_Left_Columns:Int) (t_Reduction_LeftInverse_Rows t_Reduction_LeftInverse_Columns:Int) (t_Reduction_Diagonal_Rows t_Reduction_Diagonal_Columns:Int) (t_Reduction_Right_Rows t_Reduction_Right_Columns:Int) (t_Reduction_RightInverse_Rows t_Reduction_RightInverse_Columns:Int) (t_bad:Bool) (b_t:Nat) (A_a:Option Addr) (c_a:Nat) (A_b:Option Addr) (c_b:Nat) (A_c:Option Addr) (c_c:Nat) (A_d:Option Addr) (c_d:Nat) (A_e:Option Addr) (c_e:Nat) (r1:Bool) (r2 r3:List Int) (r4 r5 r6:List Int) (en:Ending) (w:World):Prop:=en=.returned (.bool r1)∧St w0 w (Box b_t 168 [.int .i64 t_Reduction_Left_Rows,.int .i64 t_Reduction_Left_Columns,.slice A_a r2.length c_a,.int .i64 t_Reduction_LeftInverse_Rows,.int .i64 t_Reduction_LeftInverse_Columns,.slice A_b r3.length c_b,.int .i64 t_Reduction_Diagonal_Rows,.int .i64 t_Reduction_Diagonal_Columns,.slice A_c r4.length c_c,.int .i64 t_Reduction_Right_Rows,.int .i64 t_Reduction_Right_Columns,.slice A_d r5.length c_d,.int .i64 t_Reduction_RightInverse_Rows,.int .i64 t_Reduction_RightInverse_Columns,.slice A_e r6.length c_e,.bool t_bad]::Own (Ac .i64) 2 A_a c_a (fun _=>()) r2::Own (Ac .i64) 2 A_b c_b (fun _=>()) r3::Own (Ac .i64) 2 A_c c_c (fun _=>()) r4::Own (Ac .i64) 2 A_d c_d (fun _=>()) r5::Own (Ac .i64) 2 A_e c_e (fun _=>()) r6::L)
def Hy.f (a_:Int) (b_:Int):Option (Int):=if b_=0 then none else (if a_.tmod b_<0 then (some (w64 ((w64 (a_.tdiv b_)) - 1))) else (some (w64 (a_.tdiv b_))))
abbrev Hy.post:=J5
def J8.f (a_:Int) (b_:Int) (most:Int):Option (Int × Bool):=if a_=0 then (some (w64 (a_*b_),true)) else ((Jg.f b_).bind fun t12=>((Jg.f a_).bind fun t16=>(if t16=0 then none else (if w64 (most.tdiv t16)<t12 then (some (0,false)) else (some (w64 (a_*b_),true))))))
abbrev J8.post (w0:World) (L:List Dc) (r1:Int) (r2:Bool) (en:Ending) (w:World):Prop:=en=.returned (.tuple #[.int .i64 r1,.bool r2])∧St w0 w (L)
def G8.f (b1:Bool) (entry:List Int) (a1:Int) (x:Int) (by_:Int):Option (Bool × (List Int)):=Dw (J8.f x by_ 2000000000000) (fun t1 t2=>(if 0≤a1∧a1<(entry.length:Int) then (if t2=true then (if 0≤a1∧a1<((entry.set a1.toNat (w64 ((entry.getD a1.toNat 0)+t1))).length:Int) then ((Jg.f ((entry.set a1.toNat (w64 ((entry.getD a1.toNat 0)+t1))).getD a1.toNat 0)).bind fun t16=>(if 1000000000000<t16 then (some (true,((entry.set a1.toNat (w64 ((entry.getD a1.toNat 0)+t1))).set a1.toNat 0))) else (some (b1,(entry.set a1.toNat (w64 ((entry.getD a1.toNat 0)+t1))))))) else none) else (if 0≤a1∧a1<((entry.set a1.toNat (w64 ((entry.getD a1.toNat 0)+t1))).length:Int) then (some (true,((entry.set a1.toNat (w64 ((entry.getD a1.toNat 0)+t1))).set a1.toNat 0))) else none)) else none))
abbrev G8.post (w0:World) (L:List Dc) (b_r:Nat) (o0_b_r o1_b_r:Value) (o2_b_r o3_b_r:Value) (o4_b_r o5_b_r:Value) (o6_b_r o7_b_r:Value) (o8_b_r o9_b_r:Value) (o10_b_r o11_b_r:Value) (o12_b_r o13_b_r o14_b_r:Value) (A_a:Option Addr) (c_a:Nat) (r1:Bool) (r2:List Int) (en:Ending) (w:World):Prop:=en=.returned (.tuple #[])∧St w0 w (Box b_r 168 [o0_b_r,o1_b_r,o2_b_r,o3_b_r,o4_b_r,o5_b_r,o6_b_r,o7_b_r,o8_b_r,o9_b_r,o10_b_r,o11_b_r,o12_b_r,o13_b_r,o14_b_r,.bool r1]::Own (Ac .i64) 2 A_a c_a (fun _=>()) r2::L)
def Cz.l1 (K:Nat):Nat→Int→Int→Int→Int→Int→Bool→(List Int)→Int→Option (Bool × (List Int))
 |0,_,_,_,_,_,_,_,_=>none
 |k+1,b1,a1,to,c1,by_,x20,x21,x22=>if x22<a1 then ((Bp.f b1 a1 x21 to x22).bind fun t41=>(if 0≤t41∧t41<(x21.length:Int) then ((Bp.f b1 a1 x21 c1 x22).bind fun t46=>(if 0≤t46∧t46<(x21.length:Int) then (Dw (G8.f x20 x21 t41 (x21.getD t46.toNat 0) by_) (fun t51 t52=>(if t52.length=x21.length then (Cz.l1 K k b1 a1 to c1 by_ t51 t52 (w64 (x22+1))) else none))) else none)) else none)) else (some (x20,x21))
def Cz.f (K:Nat) (c1:Bool) (a1:Int) (d1:Int) (b1:List Int) (to:Int) (e1:Int) (by_:Int):Option (Bool × (List Int)):=Cz.l1 K K a1 d1 to e1 by_ c1 b1 0
abbrev Cz.post (w0:World) (L:List Dc) (b_r:Nat) (o0_b_r o1_b_r:Value) (o2_b_r o3_b_r:Value) (o4_b_r o5_b_r:Value) (o6_b_r o7_b_r:Value) (o8_b_r o9_b_r:Value) (o10_b_r o11_b_r:Value) (o12_b_r o13_b_r o14_b_r:Value) (A_a:Option Addr) (c_a:Nat) (r1:Bool) (r2:List Int) (en:Ending) (w:World):Prop:=en=.returned (.tuple #[])∧St w0 w (Box b_r 168 [o0_b_r,o1_b_r,o2_b_r,o3_b_r,o4_b_r,o5_b_r,o6_b_r,o7_b_r,o8_b_r,o9_b_r,o10_b_r,o11_b_r,o12_b_r,o13_b_r,o14_b_r,.bool r1]::Own (Ac .i64) 2 A_a c_a (fun _=>()) r2::L)
def Cq.l1 (K:Nat):Nat→Int→Int→Int→Int→Int→Bool→(List Int)→Int→Option (Bool × (List Int))
 |0,_,_,_,_,_,_,_,_=>none
 |k+1,a1,b1,to,c1,by_,x20,x21,x22=>if x22<a1 then ((Bp.f a1 b1 x21 x22 to).bind fun t41=>(if 0≤t41∧t41<(x21.length:Int) then ((Bp.f a1 b1 x21 x22 c1).bind fun t46=>(if 0≤t46∧t46<(x21.length:Int) then (Dw (G8.f x20 x21 t41 (x21.getD t46.toNat 0) by_) (fun t51 t52=>(if t52.length=x21.length then (Cq.l1 K k a1 b1 to c1 by_ t51 t52 (w64 (x22+1))) else none))) else none)) else none)) else (some (x20,x21))
def Cq.f (K:Nat) (c1:Bool) (a1:Int) (d1:Int) (b1:List Int) (to:Int) (e1:Int) (by_:Int):Option (Bool × (List Int)):=Cq.l1 K K a1 d1 to e1 by_ c1 b1 0
abbrev Cq.post (w0:World) (L:List Dc) (b_r:Nat) (o0_b_r o1_b_r:Value) (o2_b_r o3_b_r:Value) (o4_b_r o5_b_r:Value) (o6_b_r o7_b_r:Value) (o8_b_r o9_b_r:Value) (o10_b_r o11_b_r:Value) (o12_b_r o13_b_r o14_b_r:Value) (A_a:Option Addr) (c_a:Nat) (r1:Bool) (r2:List Int) (en:Ending) (w:World):Prop:=en=.returned (.tuple #[])∧St w0 w (Box b_r 168 [o0_b_r,o1_b_r,o2_b_r,o3_b_r,o4_b_r,o5_b_r,o6_b_r,o7_b_r,o8_b_r,o9_b_r,o10_b_r,o11_b_r,o12_b_r,o13_b_r,o14_b_r,.bool r1]::Own (Ac .i64) 2 A_a c_a (fun _=>()) r2::L)
def En.f (K:Nat) (h1:Int) (m1:Int) (c1:List Int) (f1:Int) (i1:Int) (d1:List Int) (e1:Int) (g1:Int) (b1:List Int) (p1:Int) (o1:Int) (s1:List Int) (r1:Int) (n1:Int) (q1:List Int) (k1:Bool) (to:Int) (a1:Int) (by_:Int):Option (Bool × (List Int) × (List Int) × (List Int)):=Dw (Cz.f K k1 e1 g1 b1 to a1 by_) (fun t1 t2=>(if t2.length=b1.length then (Dw (Cz.f K t1 h1 m1 c1 to a1 by_) (fun t7 t8=>(if t8.length=c1.length then (Dw (Cq.f K t7 f1 i1 d1 a1 to (w64 (0 - by_))) (fun t13 t14=>(if t14.length=d1.length then (some (t13,t8,t14,t2)) else none))) else none))) else none))
abbrev En.post (w0:World) (L:List Dc) (r_Reduction_Left_Rows r_Reduction_Left_Columns:Int) (r_Reduction_LeftInverse_Rows r_Reduction_LeftInverse_Columns:Int) (r_Reduction_Diagonal_Rows r_Reduction_Diagonal_Columns:Int) (r_Reduction_Right_Rows r_Reduction_Right_Columns:Int) (r_Reduction_Right_Entries:List Int) (r_Reduction_RightInverse_Rows r_Reduction_RightInverse_Columns:Int) (r_Reduction_RightInverse_Entries:List Int) (b_r:Nat) (A_a:Option Addr) (c_a:Nat) (A_b:Option Addr) (c_b:Nat) (A_c:Option Addr) (c_c:Nat) (A_d:Option Addr) (c_d:Nat) (A_e:Option Addr) (c_e:Nat) (r1:Bool) (r2 r3 r4:List Int) (en:Ending) (w:World):Prop:=en=.returned (.tuple #[])∧St w0 w (Box b_r 168 [.int .i64 r_Reduction_Left_Rows,.int .i64 r_Reduction_Left_Columns,.slice A_a r2.length c_a,.int .i64 r_Reduction_LeftInverse_Rows,.int .i64 r_Reduction_LeftInverse_Columns,.slice A_b r3.length c_b,.int .i64 r_Reduction_Diagonal_Rows,.int .i64 r_Reduction_Diagonal_Columns,.slice A_c r4.length c_c,.int .i64 r_Reduction_Right_Rows,.int .i64 r_Reduction_Right_Columns,.slice A_d r_Reduction_Right_Entries.length c_d,.int .i64 r_Reduction_RightInverse_Rows,.int .i64 r_Reduction_RightInverse_Columns,.slice A_e r_Reduction_RightInverse_Entries.length c_e,.bool r1]::Own (Ac .i64) 2 A_a c_a (fun _=>()) r2::Own (Ac .i64) 2 A_b c_b (fun _=>()) r3::Own (Ac .i64) 2 A_c c_c (fun _=>()) r4::L)
def Fq.f (K:Nat) (p1:Int) (r1:Int) (o1:List Int) (n1:Int) (q1:Int) (s1:List Int) (f1:Int) (h1:Int) (b1:List Int) (i1:Int) (g1:Int) (d1:List Int) (m1:Int) (e1:Int) (c1:List Int) (k1:Bool) (to:Int) (a1:Int) (by_:Int):Option (Bool × (List Int) × (List Int) × (List Int)):=Dw (Cq.f K k1 f1 h1 b1 to a1 by_) (fun t1 t2=>(if t2.length=b1.length then (Dw (Cq.f K t1 i1 g1 d1 to a1 by_) (fun t7 t8=>(if t8.length=d1.length then (Dw (Cz.f K t7 m1 e1 c1 a1 to (w64 (0 - by_))) (fun t13 t14=>(if t14.length=c1.length then (some (t13,t2,t8,t14)) else none))) else none))) else none))
abbrev Fq.post (w0:World) (L:List Dc) (r_Reduction_Left_Rows r_Reduction_Left_Columns:Int) (r_Reduction_Left_Entries:List Int) (r_Reduction_LeftInverse_Rows r_Reduction_LeftInverse_Columns:Int) (r_Reduction_LeftInverse_Entries:List Int) (r_Reduction_Diagonal_Rows r_Reduction_Diagonal_Columns:Int) (r_Reduction_Right_Rows r_Reduction_Right_Columns:Int) (r_Reduction_RightInverse_Rows r_Reduction_RightInverse_Columns:Int) (b_r:Nat) (A_a:Option Addr) (c_a:Nat) (A_b:Option Addr) (c_b:Nat) (A_c:Option Addr) (c_c:Nat) (A_d:Option Addr) (c_d:Nat) (A_e:Option Addr) (c_e:Nat) (r1:Bool) (r2 r3 r4:List Int) (en:Ending) (w:World):Prop:=en=.returned (.tuple #[])∧St w0 w (Box b_r 168 [.int .i64 r_Reduction_Left_Rows,.int .i64 r_Reduction_Left_Columns,.slice A_a r_Reduction_Left_Entries.length c_a,.int .i64 r_Reduction_LeftInverse_Rows,.int .i64 r_Reduction_LeftInverse_Columns,.slice A_b r_Reduction_LeftInverse_Entries.length c_b,.int .i64 r_Reduction_Diagonal_Rows,.int .i64 r_Reduction_Diagonal_Columns,.slice A_c r2.length c_c,.int .i64 r_Reduction_Right_Rows,.int .i64 r_Reduction_Right_Columns,.slice A_d r3.length c_d,.int .i64 r_Reduction_RightInverse_Rows,.int .i64 r_Reduction_RightInverse_Columns,.slice A_e r4.length c_e,.bool r1]::Own (Ac .i64) 2 A_c c_c (fun _=>()) r2::Own (Ac .i64) 2 A_d c_d (fun _=>()) r3::Own (Ac .i64) 2 A_e c_e (fun _=>()) r4::L)
mutual
def Bf.l1 (K:Nat):Nat→Int→Int→Int→Int→Int→Int→Int→Int→(List Int)→Int→Int→(List Int)→Int→(List Int)→(List Int)→(List Int)→Bool→Int→Option (Bool × (List Int) × (List Int) × (List Int) × (List Int) × (List Int))
 |0,_,_,_,_,_,_,_,_,_,_,_,_,_,_,_,_,_,_=>none
 |k+1,i1,o1,h1,m1,a1,b1,k1,g1,e1,n1,f1,c1,k_,x125,x126,x127,x128,d1=>if d1<a1 then (if x128=true then (Bf.l6 K k b1 e1 c1 k_ x125 x126 x127 x128) else ((Bp.f a1 b1 x127 d1 k_).bind fun t258=>(if 0≤t258∧t258<(x127.length:Int) then ((Bp.f a1 b1 x127 k_ k_).bind fun t263=>(if 0≤t263∧t263<(x127.length:Int) then ((Hy.f (x127.getD t258.toNat 0) (x127.getD t263.toNat 0)).bind fun t268=>(if t268=0 then (Bf.l1 K k i1 o1 h1 m1 a1 b1 k1 g1 e1 n1 f1 c1 k_ x125 x126 x127 x128 (w64 (d1+1))) else (Hm (En.f K i1 o1 x125 h1 m1 x126 a1 b1 x127 k1 g1 e1 n1 f1 c1 x128 d1 k_ (w64 (0 - t268))) (fun t273 t274 t275 t276=>(if t274.length=x125.length then (if t275.length=x126.length then (if t276.length=x127.length then (Bf.l1 K k i1 o1 h1 m1 a1 b1 k1 g1 e1 n1 f1 c1 k_ t274 t275 t276 t273 (w64 (d1+1))) else none) else none) else none))))) else none)) else none))) else (Bf.l7 K k i1 o1 h1 m1 a1 b1 k1 g1 n1 f1 k_ x125 x126 x127 e1 c1 x128 (w64 (k_+1)))
def Bf.l6 (K:Nat):Nat→Int→(List Int)→(List Int)→Int→(List Int)→(List Int)→(List Int)→Bool→Option (Bool × (List Int) × (List Int) × (List Int) × (List Int) × (List Int))
 |0,_,_,_,_,_,_,_,_=>none
 |k+1,c1,a1,b1,k_,x125,x126,x127,x128=>if w64 (k_+1)<c1 then (some (x128,x125,x126,x127,a1,b1)) else (some (x128,x125,x126,x127,a1,b1))
def Bf.l7 (K:Nat):Nat→Int→Int→Int→Int→Int→Int→Int→Int→Int→Int→Int→(List Int)→(List Int)→(List Int)→(List Int)→(List Int)→Bool→Int→Option (Bool × (List Int) × (List Int) × (List Int) × (List Int) × (List Int))
 |0,_,_,_,_,_,_,_,_,_,_,_,_,_,_,_,_,_,_=>none
 |k+1,g1,m1,f1,i1,b1,a1,h1,e1,k1,d1,k_,x125,x126,x311,x312,x313,x314,c1=>if c1<a1 then (if x314=true then (some (x314,x125,x126,x311,x312,x313)) else ((Bp.f b1 a1 x311 k_ c1).bind fun t347=>(if 0≤t347∧t347<(x311.length:Int) then ((Bp.f b1 a1 x311 k_ k_).bind fun t352=>(if 0≤t352∧t352<(x311.length:Int) then ((Hy.f (x311.getD t347.toNat 0) (x311.getD t352.toNat 0)).bind fun t357=>(if t357=0 then (Bf.l7 K k g1 m1 f1 i1 b1 a1 h1 e1 k1 d1 k_ x125 x126 x311 x312 x313 x314 (w64 (c1+1))) else (Hm (Fq.f K g1 m1 x125 f1 i1 x126 b1 a1 x311 h1 e1 x312 k1 d1 x313 x314 c1 k_ (w64 (0 - t357))) (fun t362 t363 t364 t365=>(if t363.length=x311.length then (if t364.length=x312.length then (if t365.length=x313.length then (Bf.l7 K k g1 m1 f1 i1 b1 a1 h1 e1 k1 d1 k_ x125 x126 t363 t364 t365 t362 (w64 (c1+1))) else none) else none) else none))))) else none)) else none))) else (some (x314,x125,x126,x311,x312,x313))
end
def Bf.f (K:Nat) (h1:Int) (q1:Int) (f1:List Int) (e1:Int) (k1:Int) (r1:List Int) (b1:Int) (g1:Int) (c1:List Int) (i1:Int) (d1:Int) (p1:List Int) (o1:Int) (a1:Int) (m1:List Int) (n1:Bool) (k_:Int):Option (Bool × (List Int) × (List Int) × (List Int) × (List Int) × (List Int)):=Bf.l1 K K h1 q1 e1 k1 b1 g1 i1 d1 p1 o1 a1 m1 k_ f1 r1 c1 n1 (w64 (k_+1))
abbrev Bf.post (w0:World) (L:List Dc) (r_Reduction_Left_Rows r_Reduction_Left_Columns:Int) (r_Reduction_LeftInverse_Rows r_Reduction_LeftInverse_Columns:Int) (r_Reduction_Diagonal_Rows r_Reduction_Diagonal_Columns:Int) (r_Reduction_Right_Rows r_Reduction_Right_Columns:Int) (r_Reduction_RightInverse_Rows r_Reduction_RightInverse_Columns:Int) (b_r:Nat) (A_a:Option Addr) (c_a:Nat) (A_b:Option Addr) (c_b:Nat) (A_c:Option Addr) (c_c:Nat) (A_d:Option Addr) (c_d:Nat) (A_e:Option Addr) (c_e:Nat) (r1:Bool) (r2 r3:List Int) (r4 r5 r6:List Int) (en:Ending) (w:World):Prop:=en=.returned (.tuple #[])∧St w0 w (Box b_r 168 [.int .i64 r_Reduction_Left_Rows,.int .i64 r_Reduction_Left_Columns,.slice A_a r2.length c_a,.int .i64 r_Reduction_LeftInverse_Rows,.int .i64 r_Reduction_LeftInverse_Columns,.slice A_b r3.length c_b,.int .i64 r_Reduction_Diagonal_Rows,.int .i64 r_Reduction_Diagonal_Columns,.slice A_c r4.length c_c,.int .i64 r_Reduction_Right_Rows,.int .i64 r_Reduction_Right_Columns,.slice A_d r5.length c_d,.int .i64 r_Reduction_RightInverse_Rows,.int .i64 r_Reduction_RightInverse_Columns,.slice A_e r6.length c_e,.bool r1]::Own (Ac .i64) 2 A_a c_a (fun _=>()) r2::Own (Ac .i64) 2 A_b c_b (fun _=>()) r3::Own (Ac .i64) 2 A_c c_c (fun _=>()) r4::Own (Ac .i64) 2 A_d c_d (fun _=>()) r5::Own (Ac .i64) 2 A_e c_e (fun _=>()) r6::L)
def Gm.f (x:Int):Option (Bool):=some (!(decide (x=0)))
abbrev Gm.post:=Ka
def Az.l1 (K:Nat):Nat→(List Int)→Int→Option (Int)
 |0,_,_=>none
 |k+1,s,x8=>if x8<(s.length:Int) then (if 0≤x8∧x8<(s.length:Int) then ((Gm.f (s.getD x8.toNat 0)).bind fun t18=>(if t18=true then (some x8) else (Az.l1 K k s (w64 (x8+1))))) else none) else (some (-1))
def Az.f (K:Nat) (s:List Int):Option (Int):=Az.l1 K K s 0
abbrev Az.post:=J5
def Cs.f (K:Nat) (s:List Int):Option (Bool):=(Az.f K s).bind fun t1=>(some (decide (0≤t1)))
abbrev Cs.post:=Ka
def Db.l1 (K:Nat):Nat→Int→Int→(List Int)→Int→Int→Option (Bool)
 |0,_,_,_,_,_=>none
 |k+1,b1,c1,a1,k_,d1=>if d1<b1 then ((Bp.f b1 c1 a1 d1 k_).bind fun t44=>(if 0≤t44∧t44<(a1.length:Int) then (if a1.getD t44.toNat 0=0 then (Db.l1 K k b1 c1 a1 k_ (w64 (d1+1))) else (some false)) else none)) else (Dw (Gf.f b1 c1 a1 k_) (fun t50 t51=>(if 0≤t50∧t50≤t51 then (if 0≤t51∧t51≤(a1.length:Int) then (if 0≤w64 (k_+1)∧w64 (k_+1)≤(((a1.take t51.toNat).drop t50.toNat).length:Int) then ((Cs.f K ((((a1.take t51.toNat).drop t50.toNat).take (((a1.take t51.toNat).drop t50.toNat).length)).drop ((w64 (k_+1)).toNat))).bind fun t58=>(some (!t58))) else none) else none) else none)))
def Db.f (K:Nat) (h1:Int) (q1:Int) (g1:List Int) (f1:Int) (k1:Int) (r1:List Int) (a1:Int) (c1:Int) (b1:List Int) (i1:Int) (e1:Int) (p1:List Int) (o1:Int) (d1:Int) (m1:List Int) (n1:Bool) (k_:Int):Option (Bool):=Db.l1 K K a1 c1 b1 k_ (w64 (k_+1))
abbrev Db.post (w0:World) (L:List Dc) (r_Reduction_Left_Rows r_Reduction_Left_Columns:Int) (r_Reduction_Left_Entries:List Int) (r_Reduction_LeftInverse_Rows r_Reduction_LeftInverse_Columns:Int) (r_Reduction_LeftInverse_Entries:List Int) (r_Reduction_Diagonal_Rows r_Reduction_Diagonal_Columns:Int) (r_Reduction_Diagonal_Entries:List Int) (r_Reduction_Right_Rows r_Reduction_Right_Columns:Int) (r_Reduction_Right_Entries:List Int) (r_Reduction_RightInverse_Rows r_Reduction_RightInverse_Columns:Int) (r_Reduction_RightInverse_Entries:List Int) (r_bad:Bool) (b_r:Nat) (A_a:Option Addr) (c_a:Nat) (A_b:Option Addr) (c_b:Nat) (A_c:Option Addr) (c_c:Nat) (A_d:Option Addr) (c_d:Nat) (A_e:Option Addr) (c_e:Nat) (r1:Bool) (en:Ending) (w:World):Prop:=en=.returned (.bool r1)∧St w0 w (Box b_r 168 [.int .i64 r_Reduction_Left_Rows,.int .i64 r_Reduction_Left_Columns,.slice A_a r_Reduction_Left_Entries.length c_a,.int .i64 r_Reduction_LeftInverse_Rows,.int .i64 r_Reduction_LeftInverse_Columns,.slice A_b r_Reduction_LeftInverse_Entries.length c_b,.int .i64 r_Reduction_Diagonal_Rows,.int .i64 r_Reduction_Diagonal_Columns,.slice A_c r_Reduction_Diagonal_Entries.length c_c,.int .i64 r_Reduction_Right_Rows,.int .i64 r_Reduction_Right_Columns,.slice A_d r_Reduction_Right_Entries.length c_d,.int .i64 r_Reduction_RightInverse_Rows,.int .i64 r_Reduction_RightInverse_Columns,.slice A_e r_Reduction_RightInverse_Entries.length c_e,.bool r_bad]::L)
def Eu.f (x:Int) (d1:Int) (c1:Int) (a1:List Int) (b1:Int):Option (Bool):=(Bp.f d1 c1 a1 b1 b1).bind fun t1=>(if 0≤t1∧t1<(a1.length:Int) then (if a1.getD t1.toNat 0=0 then none else (some (!(decide (x.tmod (a1.getD t1.toNat 0)=0))))) else none)
abbrev Eu.post (w0:World) (L:List Dc) (v0_Rows v0_Columns:Int) (v0_Entries:List Int) (v1_2:Int) (b_v0:Nat) (A_a:Option Addr) (c_a b_v1:Nat) (r1:Bool) (en:Ending) (w:World):Prop:=en=.returned (.bool r1)∧St w0 w (Box b_v0 57 [.int .i64 v0_Rows,.int .i64 v0_Columns,.slice A_a v0_Entries.length c_a]::Box b_v1 2 [.int .i64 v1_2]::L)
def Av.l1 (K:Nat):Nat→(List Int)→Int→Int→(List Int)→Int→Int→Option (Int)
 |0,_,_,_,_,_,_=>none
 |k+1,s,a1,d1,c1,b1,x8=>if x8<(s.length:Int) then (if 0≤x8∧x8<(s.length:Int) then ((Eu.f (s.getD x8.toNat 0) a1 d1 c1 b1).bind fun t18=>(if t18=true then (some x8) else (Av.l1 K k s a1 d1 c1 b1 (w64 (x8+1))))) else none) else (some (-1))
def Av.f (K:Nat) (s:List Int) (a1:Int) (d1:Int) (c1:List Int) (b1:Int):Option (Int):=Av.l1 K K s a1 d1 c1 b1 0
abbrev Av.post (w0:World) (L:List Dc) (cap_Rows cap_Columns:Int) (cap_Entries:List Int) (cap_3:Int) (b_cap:Nat) (A_b:Option Addr) (c_b b_cap_2:Nat) (r1:Int) (en:Ending) (w:World):Prop:=en=.returned (.int .i64 r1)∧St w0 w (Box b_cap 57 [.int .i64 cap_Rows,.int .i64 cap_Columns,.slice A_b cap_Entries.length c_b]::Box b_cap_2 2 [.int .i64 cap_3]::L)
def Ck.f (K:Nat) (s:List Int) (a1:Int) (d1:Int) (c1:List Int) (b1:Int):Option (Bool):=(Av.f K s a1 d1 c1 b1).bind fun t1=>(some (decide (0≤t1)))
abbrev Ck.post (w0:World) (L:List Dc) (cap_Rows cap_Columns:Int) (cap_Entries:List Int) (cap_3:Int) (b_cap:Nat) (A_b:Option Addr) (c_b b_cap_2:Nat) (r1:Bool) (en:Ending) (w:World):Prop:=en=.returned (.bool r1)∧St w0 w (Box b_cap 57 [.int .i64 cap_Rows,.int .i64 cap_Columns,.slice A_b cap_Entries.length c_b]::Box b_cap_2 2 [.int .i64 cap_3]::L)
def Cr.l1 (K:Nat):Nat→Int→Int→(List Int)→Int→Int→Option (Int)
 |0,_,_,_,_,_=>none
 |k+1,b1,d1,a1,k_,c1=>if c1<b1 then (Dw (Gf.f b1 d1 a1 c1) (fun t36 t37=>(if 0≤t36∧t36≤t37 then (if 0≤t37∧t37≤(a1.length:Int) then (if 0≤w64 (k_+1)∧w64 (k_+1)≤(((a1.take t37.toNat).drop t36.toNat).length:Int) then ((Ck.f K ((((a1.take t37.toNat).drop t36.toNat).take (((a1.take t37.toNat).drop t36.toNat).length)).drop ((w64 (k_+1)).toNat)) b1 d1 a1 k_).bind fun t44=>(if t44=true then (some c1) else (Cr.l1 K k b1 d1 a1 k_ (w64 (c1+1))))) else none) else none) else none))) else (some (-1))
def Cr.f (K:Nat) (h1:Int) (q1:Int) (g1:List Int) (f1:Int) (k1:Int) (r1:List Int) (a1:Int) (c1:Int) (b1:List Int) (i1:Int) (e1:Int) (p1:List Int) (o1:Int) (d1:Int) (m1:List Int) (n1:Bool) (k_:Int):Option (Int):=Cr.l1 K K a1 c1 b1 k_ (w64 (k_+1))
abbrev Cr.post (w0:World) (L:List Dc) (r_Reduction_Left_Rows r_Reduction_Left_Columns:Int) (r_Reduction_Left_Entries:List Int) (r_Reduction_LeftInverse_Rows r_Reduction_LeftInverse_Columns:Int) (r_Reduction_LeftInverse_Entries:List Int) (r_Reduction_Diagonal_Rows r_Reduction_Diagonal_Columns:Int) (r_Reduction_Diagonal_Entries:List Int) (r_Reduction_Right_Rows r_Reduction_Right_Columns:Int) (r_Reduction_Right_Entries:List Int) (r_Reduction_RightInverse_Rows r_Reduction_RightInverse_Columns:Int) (r_Reduction_RightInverse_Entries:List Int) (r_bad:Bool) (b_r:Nat) (A_a:Option Addr) (c_a:Nat) (A_b:Option Addr) (c_b:Nat) (A_c:Option Addr) (c_c:Nat) (A_d:Option Addr) (c_d:Nat) (A_e:Option Addr) (c_e:Nat) (r1:Int) (en:Ending) (w:World):Prop:=en=.returned (.int .i64 r1)∧St w0 w (Box b_r 168 [.int .i64 r_Reduction_Left_Rows,.int .i64 r_Reduction_Left_Columns,.slice A_a r_Reduction_Left_Entries.length c_a,.int .i64 r_Reduction_LeftInverse_Rows,.int .i64 r_Reduction_LeftInverse_Columns,.slice A_b r_Reduction_LeftInverse_Entries.length c_b,.int .i64 r_Reduction_Diagonal_Rows,.int .i64 r_Reduction_Diagonal_Columns,.slice A_c r_Reduction_Diagonal_Entries.length c_c,.int .i64 r_Reduction_Right_Rows,.int .i64 r_Reduction_Right_Columns,.slice A_d r_Reduction_Right_Entries.length c_d,.int .i64 r_Reduction_RightInverse_Rows,.int .i64 r_Reduction_RightInverse_Columns,.slice A_e r_Reduction_RightInverse_Entries.length c_e,.bool r_bad]::L)
def D6.l1 (K:Nat):Nat→Int→Int→Int→Int→Int→Int→Int→Int→Int→Int→(List Int)→(List Int)→(List Int)→(List Int)→(List Int)→Bool→Int→Option (Bool × (List Int) × (List Int) × (List Int) × (List Int) × (List Int))
 |0,_,_,_,_,_,_,_,_,_,_,_,_,_,_,_,_,_=>none
 |k+1,g1,m1,f1,i1,a1,b1,h1,e1,k1,d1,x59,x60,x61,x62,x63,x64,c1=>if x64=true then (some (x64,x59,x60,x61,x62,x63)) else (if c1<(if b1<a1 then b1 else a1) then (M5 (Bg.f K g1 m1 x59 f1 i1 x60 a1 b1 x61 h1 e1 x62 k1 d1 x63 x64 c1) (fun t127 t128 t129 t130 t131 t132=>(if t128.length=x59.length then (if t129.length=x60.length then (if t130.length=x61.length then (if t131.length=x62.length then (if t132.length=x63.length then (if t127=true then (M5 (Bf.f K g1 m1 t128 f1 i1 t129 a1 b1 t130 h1 e1 t131 k1 d1 t132 x64 c1) (fun t142 t143 t144 t145 t146 t147=>(if t143.length=t128.length then (if t144.length=t129.length then (if t145.length=t130.length then (if t146.length=t131.length then (if t147.length=t132.length then (if t142=true then (D6.l1 K k g1 m1 f1 i1 a1 b1 h1 e1 k1 d1 t143 t144 t145 t146 t147 t142 c1) else ((Db.f K g1 m1 t143 f1 i1 t144 a1 b1 t145 h1 e1 t146 k1 d1 t147 t142 c1).bind fun t162=>(if t162=true then ((Cr.f K g1 m1 t143 f1 i1 t144 a1 b1 t145 h1 e1 t146 k1 d1 t147 t142 c1).bind fun t167=>(if 0≤t167 then (Hm (En.f K g1 m1 t143 f1 i1 t144 a1 b1 t145 h1 e1 t146 k1 d1 t147 t142 c1 t167 1) (fun t172 t173 t174 t175=>(if t173.length=t143.length then (if t174.length=t144.length then (if t175.length=t145.length then (D6.l1 K k g1 m1 f1 i1 a1 b1 h1 e1 k1 d1 t173 t174 t175 t146 t147 t172 c1) else none) else none) else none))) else (D6.l1 K k g1 m1 f1 i1 a1 b1 h1 e1 k1 d1 t143 t144 t145 t146 t147 t142 (w64 (c1+1))))) else (D6.l1 K k g1 m1 f1 i1 a1 b1 h1 e1 k1 d1 t143 t144 t145 t146 t147 t142 c1)))) else none) else none) else none) else none) else none))) else (some (x64,t128,t129,t130,t131,t132))) else none) else none) else none) else none) else none))) else (some (x64,x59,x60,x61,x62,x63)))
def D6.f (K:Nat) (h1:Int) (q1:Int) (f1:List Int) (e1:Int) (k1:Int) (r1:List Int) (b1:Int) (g1:Int) (c1:List Int) (i1:Int) (d1:Int) (p1:List Int) (o1:Int) (a1:Int) (m1:List Int) (n1:Bool):Option (Bool × (List Int) × (List Int) × (List Int) × (List Int) × (List Int)):=D6.l1 K K h1 q1 e1 k1 b1 g1 i1 d1 o1 a1 f1 r1 c1 p1 m1 n1 0
abbrev D6.post (w0:World) (L:List Dc) (r_Reduction_Left_Rows r_Reduction_Left_Columns:Int) (r_Reduction_LeftInverse_Rows r_Reduction_LeftInverse_Columns:Int) (r_Reduction_Diagonal_Rows r_Reduction_Diagonal_Columns:Int) (r_Reduction_Right_Rows r_Reduction_Right_Columns:Int) (r_Reduction_RightInverse_Rows r_Reduction_RightInverse_Columns:Int) (b_r:Nat) (A_a:Option Addr) (c_a:Nat) (A_b:Option Addr) (c_b:Nat) (A_c:Option Addr) (c_c:Nat) (A_d:Option Addr) (c_d:Nat) (A_e:Option Addr) (c_e:Nat) (r1:Bool) (r2 r3:List Int) (r4 r5 r6:List Int) (en:Ending) (w:World):Prop:=en=.returned (.tuple #[])∧St w0 w (Box b_r 168 [.int .i64 r_Reduction_Left_Rows,.int .i64 r_Reduction_Left_Columns,.slice A_a r2.length c_a,.int .i64 r_Reduction_LeftInverse_Rows,.int .i64 r_Reduction_LeftInverse_Columns,.slice A_b r3.length c_b,.int .i64 r_Reduction_Diagonal_Rows,.int .i64 r_Reduction_Diagonal_Columns,.slice A_c r4.length c_c,.int .i64 r_Reduction_Right_Rows,.int .i64 r_Reduction_Right_Columns,.slice A_d r5.length c_d,.int .i64 r_Reduction_RightInverse_Rows,.int .i64 r_Reduction_RightInverse_Columns,.slice A_e r6.length c_e,.bool r1]::Own (Ac .i64) 2 A_a c_a (fun _=>()) r2::Own (Ac .i64) 2 A_b c_b (fun _=>()) r3::Own (Ac .i64) 2 A_c c_c (fun _=>()) r4::Own (Ac .i64) 2 A_d c_d (fun _=>()) r5::Own (Ac .i64) 2 A_e c_e (fun _=>()) r6::L)
def Kz.f (K:Nat) (a1:Int) (c1:Int) (b1:List Int):Option (Int × Int × (List Int) × Int × Int × (List Int) × Int × Int × (List Int) × Int × Int × (List Int) × Int × Int × (List Int) × Int):=M4 (Ja.f K a1 c1 b1) (fun t5 t6 t7 t8 t9 t10 t11 t12 t13 t14 t15 t16 t17 t18 t19 t20=>(M5 (D6.f K t5 t6 t7 t8 t9 t10 t11 t12 t13 t14 t15 t16 t17 t18 t19 t20) (fun t35 t36 t37 t38 t39 t40=>(if t36.length=t7.length then (if t37.length=t10.length then (if t38.length=t13.length then (if t39.length=t16.length then (if t40.length=t19.length then (if t35=true then (some (0,0,([]:List Int),0,0,([]:List Int),0,0,([]:List Int),0,0,([]:List Int),0,0,([]:List Int),3)) else (some (t5,t6,t36,t8,t9,t37,t11,t12,t38,t14,t15,t39,t17,t18,t40,0))) else none) else none) else none) else none) else none))))
abbrev Kz.post (w0:World) (L:List Dc) (r1 r2:Int) (r3:List Int) (r4 r5:Int) (r6:List Int) (r7 r8:Int) (r9:List Int) (r10 r11:Int) (r12:List Int) (r13 r14:Int) (r15:List Int) (r16:Int) (en:Ending) (w:World):Prop:=∃ (A_r0:Option Addr) (c_r1:Nat) (A_r2:Option Addr) (c_r3:Nat) (A_r4:Option Addr) (c_r5:Nat) (A_r6:Option Addr) (c_r7:Nat) (A_r8:Option Addr) (c_r9:Nat),en=.returned (.tuple #[.agg [.int .i64 r1,.int .i64 r2,.slice A_r0 r3.length c_r1,.int .i64 r4,.int .i64 r5,.slice A_r2 r6.length c_r3,.int .i64 r7,.int .i64 r8,.slice A_r4 r9.length c_r5,.int .i64 r10,.int .i64 r11,.slice A_r6 r12.length c_r7,.int .i64 r13,.int .i64 r14,.slice A_r8 r15.length c_r9].toArray,.int .i64 r16])∧St w0 w (Own (Ac .i64) 2 A_r0 c_r1 (fun _=>()) r3::Own (Ac .i64) 2 A_r2 c_r3 (fun _=>()) r6::Own (Ac .i64) 2 A_r4 c_r5 (fun _=>()) r9::Own (Ac .i64) 2 A_r6 c_r7 (fun _=>()) r12::Own (Ac .i64) 2 A_r8 c_r9 (fun _=>()) r15::L)
def Fs.l1 (K:Nat):Nat→Int→Int→Int→Int→(List Int)→(List Int)→Int→Option ((List Int) × Int)
 |0,_,_,_,_,_,_,_=>none
 |k+1,a1,c1,t9,t10,t11,b1,x52=>if x52<(if c1<a1 then c1 else a1) then ((Bp.f t9 t10 t11 x52 x52).bind fun t67=>(if 0≤t67∧t67<(t11.length:Int) then (if t11.getD t67.toNat 0=0 then (Fs.l1 K k a1 c1 t9 t10 t11 b1 (w64 (x52+1))) else (if (b1.length+1)*8≤140737488355328 then (Fs.l1 K k a1 c1 t9 t10 t11 (b1++[t11.getD t67.toNat 0]) (w64 (x52+1))) else none)) else none)) else (some (b1,0))
def Fs.f (K:Nat) (a1:Int) (b1:Int) (c1:List Int):Option ((List Int) × Int):=M4 (Kz.f K a1 b1 c1) (fun t3 t4 t5 t6 t7 t8 t9 t10 t11 t12 t13 t14 t15 t16 t17 t18=>(if t18=0 then (Fs.l1 K K a1 b1 t9 t10 t11 ([]:List Int) 0) else (some (([]:List Int),t18))))
abbrev Fs.post (w0:World) (L:List Dc) (r1:List Int) (r2:Int) (en:Ending) (w:World):Prop:=∃ (A_r0:Option Addr) (c_r1:Nat),en=.returned (.tuple #[.slice A_r0 r1.length c_r1,.int .i64 r2])∧St w0 w (Own (Ac .i64) 2 A_r0 c_r1 (fun _=>()) r1::L)
def Hw.f (K:Nat) (a1:Int) (c1:Int) (b1:List Int):Option ((List Int) × Int):=(Ju.f K a1 c1 b1).bind fun t3=>(if t3=true then (Dw (Fs.f K a1 c1 b1) (fun t8 t9=>(some (t8,t9)))) else (some (([]:List Int),1)))
abbrev Hw.post (w0:World) (L:List Dc) (r1:List Int) (r2:Int) (en:Ending) (w:World):Prop:=∃ (A_r0:Option Addr) (c_r1:Nat),en=.returned (.tuple #[.slice A_r0 r1.length c_r1,.int .i64 r2])∧St w0 w (Own (Ac .i64) 2 A_r0 c_r1 (fun _=>()) r1::L)
def Hz.f (n_:Int):Option (Bool):=some (decide (n_=1))
abbrev Hz.post:=Ka
def Be.l1 (K:Nat):Nat→(List Int)→Int→Option (Int)
 |0,_,_=>none
 |k+1,s,x8=>if x8<(s.length:Int) then (if 0≤x8∧x8<(s.length:Int) then ((Hz.f (s.getD x8.toNat 0)).bind fun t18=>(if t18=true then (some x8) else (Be.l1 K k s (w64 (x8+1))))) else none) else (some (-1))
def Be.f (K:Nat) (s:List Int):Option (Int):=Be.l1 K K s 0
abbrev Be.post:=J5
def Ba.l1 (K:Nat):Nat→(List Int)→Int→Int→Option (List Int)
 |0,_,_,_=>none
 |k+1,x19,a1,b1=>if b1<(x19.length:Int) then (if 0≤b1∧b1<(x19.length:Int) then ((Hz.f (x19.getD b1.toNat 0)).bind fun t37=>(if t37=true then (Ba.l1 K k x19 a1 (w64 (b1+1))) else (if 0≤a1∧a1<(x19.length:Int) then (Ba.l1 K k (x19.set a1.toNat (x19.getD b1.toNat 0)) (w64 (a1+1)) (w64 (b1+1))) else none))) else none) else (if 0≤a1∧a1≤(x19.length:Int) then (if 0≤a1∧a1≤((over x19 a1.toNat (List.replicate ((x19.take x19.length).drop a1.toNat).length 0)).length:Int) then (some (((over x19 a1.toNat (List.replicate ((x19.take x19.length).drop a1.toNat).length 0)).take a1.toNat).drop 0)) else none) else none)
def Ba.f (K:Nat) (s:List Int):Option (List Int):=(Be.f K s).bind fun t1=>(if t1=(-1) then (some s) else (Ba.l1 K K s t1 (w64 (t1+1))))
abbrev Ba.post (w0:World) (L:List Dc) (r1:List Int) (en:Ending) (w:World):Prop:=∃ (A_r0:Option Addr) (c_r1:Nat),en=.returned (.slice A_r0 r1.length c_r1)∧St w0 w (Own (Ac .i64) 2 A_r0 c_r1 (fun _=>()) r1::L)
def J9.f (K:Nat) (list:List Int):Option (List Int):=(Ba.f K list).bind fun t1=>(some t1)
abbrev J9.post (w0:World) (L:List Dc) (r1:List Int) (en:Ending) (w:World):Prop:=∃ (A_r0:Option Addr) (c_r1:Nat),en=.returned (.slice A_r0 r1.length c_r1)∧St w0 w (Own (Ac .i64) 2 A_r0 c_r1 (fun _=>()) r1::L)
def Jb.f (K:Nat) (a1:Int) (c1:Int) (b1:List Int):Option (Int × (List Int) × Int):=Dw (Hw.f K a1 c1 b1) (fun t5 t6=>(if t6=0 then ((Hg.f t5).bind fun t13=>((J9.f K t5).bind fun t17=>(some (w64 (a1 - t13),t17,0)))) else (some (0,([]:List Int),t6))))
abbrev Jb.post (w0:World) (L:List Dc) (r1:Int) (r2:List Int) (r3:Int) (en:Ending) (w:World):Prop:=∃ (A_r0:Option Addr) (c_r1:Nat),en=.returned (.tuple #[.agg [.int .i64 r1,.slice A_r0 r2.length c_r1].toArray,.int .i64 r3])∧St w0 w (Own (Ac .i64) 2 A_r0 c_r1 (fun _=>()) r2::L)
mutual
def Bu.l1 (K:Nat):Nat→(List (List Int))→Int→Int→(List Int)→Int→Option (Int × (List Int) × Int)
 |0,_,_,_,_,_=>none
 |k+1,t11,t25,t26,a1,x98=>if x98<(t11.length:Int) then (if 0≤x98∧x98<(t11.length:Int) then (Bu.l4 K k t11 t25 t26 x98 a1 0) else none) else (Gy (Jb.f K t25 t26 a1) (fun t212 t213 t214=>(some (t212,t213,t214))))
def Bu.l4 (K:Nat):Nat→(List (List Int))→Int→Int→Int→(List Int)→Int→Option (Int × (List Int) × Int)
 |0,_,_,_,_,_,_=>none
 |k+1,t11,t25,t26,x98,a1,x179=>if x179<((t11.getD x98.toNat []).length:Int) then (if 0≤x179∧x179<((t11.getD x98.toNat []).length:Int) then ((Jg.f ((t11.getD x98.toNat []).getD x179.toNat 0)).bind fun t198=>((Bp.f t25 t26 a1 (w64 (t198 - 1)) x98).bind fun t202=>(if 0≤t202∧t202<(a1.length:Int) then ((J6.f ((t11.getD x98.toNat []).getD x179.toNat 0)).bind fun t207=>(Bu.l4 K k t11 t25 t26 x98 (a1.set t202.toNat (w64 ((a1.getD t202.toNat 0)+t207))) (w64 (x179+1)))) else none))) else none) else (Bu.l1 K k t11 t25 t26 a1 (w64 (x98+1)))
end
def Bu.f (K:Nat) (a1:List (List Am)):Option (Int × (List Int) × Int):=(I8.f K a1).bind fun t5=>(if t5=0 then (Dw (Cm.f K a1) (fun t10 t11=>((I1.f t11).bind fun t21=>(Gy (Ik.f t10 t21) (fun t25 t26 t27=>(Bu.l1 K K t11 t25 t26 t27 0)))))) else (some (0,([]:List Int),t5)))
abbrev Bu.post (w0:World) (L:List Dc) (r1:Int) (r2:List Int) (r3:Int) (en:Ending) (w:World):Prop:=∃ (A_r0:Option Addr) (c_r1:Nat),en=.returned (.tuple #[.agg [.int .i64 r1,.slice A_r0 r2.length c_r1].toArray,.int .i64 r3])∧St w0 w (Own (Ac .i64) 2 A_r0 c_r1 (fun _=>()) r2::L)
def F9.l1 (K:Nat):Nat→(List Int)→(List Int)→Int→Option (Bool)
 |0,_,_,_=>none
 |k+1,a_,b_,i_6=>if i_6<(a_.length:Int) then (if 0≤i_6∧i_6<(a_.length:Int) then (if 0≤i_6∧i_6<(b_.length:Int) then (if a_.getD i_6.toNat 0=b_.getD i_6.toNat 0 then (F9.l1 K k a_ b_ (w64 (i_6+1))) else (some false)) else none) else none) else (some true)
def F9.f (K:Nat) (a_:List Int) (b_:List Int):Option (Bool):=if (a_.length:Int)=(b_.length:Int) then (F9.l1 K K a_ b_ 0) else (some false)
abbrev F9.post:=Ka
def Em.f (K:Nat) (c1:Int) (b1:List Int) (d1:Int) (a1:List Int):Option (Bool):=if c1=d1 then ((F9.f K b1 a1).bind fun t6=>(if t6=true then (some true) else (some false))) else (some false)
abbrev Em.post:=Ka
def Ku.f (b1:Int) (d1:Int) (a1:Int) (c1:Int):Option (Bool):=if b1=a1 then (if d1=c1 then (some true) else (some false)) else (some false)
abbrev Ku.post:=Ka
def Gi.l1 (K:Nat):Nat→(List Am)→(List Am)→Int→Option (Bool)
 |0,_,_,_=>none
 |k+1,a_,b_,a1=>if a1<(a_.length:Int) then (if 0≤a1∧a1<(a_.length:Int) then (bnd (a_.getD a1.toNat Eo) (fun e29=>if 0≤a1∧a1<(b_.length:Int) then (bnd (b_.getD a1.toNat Eo) (fun e32=>(Ku.f e29.Tet e29.Perm e32.Tet e32.Perm).bind fun t34=>(if t34=true then (Gi.l1 K k a_ b_ (w64 (a1+1))) else (some false)))) else none)) else none) else (some true)
def Gi.f (K:Nat) (a_:List Am) (b_:List Am):Option (Bool):=if (a_.length:Int)=(b_.length:Int) then (Gi.l1 K K a_ b_ 0) else (some false)
abbrev Gi.post:=Ka
def Fp.l1 (K:Nat):Nat→(List (List Am))→(List (List Am))→Int→Option (Bool)
 |0,_,_,_=>none
 |k+1,a_,b_,a1=>if a1<(a_.length:Int) then (if 0≤a1∧a1<(a_.length:Int) then (if 0≤a1∧a1<(b_.length:Int) then ((Gi.f K (a_.getD a1.toNat []) (b_.getD a1.toNat [])).bind fun t22=>(if t22=true then (Fp.l1 K k a_ b_ (w64 (a1+1))) else (some false))) else none) else none) else (some true)
def Fp.f (K:Nat) (a_:List (List Am)) (b_:List (List Am)):Option (Bool):=if (a_.length:Int)=(b_.length:Int) then (Fp.l1 K K a_ b_ 0) else (some false)
abbrev Fp.post:=Ka
def Ig.f (K:Nat) (b1:List (List Am)) (a1:List (List Am)):Option (Bool):=(Fp.f K b1 a1).bind fun t5=>(if t5=true then (some true) else (some false))
abbrev Ig.post:=Ka
def Fe.l1 (K:Nat):Nat→(List Am)→Int→Int→Option (Int × (List Am))
 |0,_,_,_=>none
 |k+1,x10,b1,a1=>if a1<(x10.length:Int) then (if 0≤a1∧a1<(x10.length:Int) then (bnd (x10.getD a1.toNat Eo) (fun e25=>if 0≤a1∧a1<((x10.set a1.toNat ({ e25 with Tet:=b1 })).length:Int) then (bnd ((x10.set a1.toNat ({ e25 with Tet:=b1 })).getD a1.toNat Eo) (fun e29=>Fe.l1 K k ((x10.set a1.toNat ({ e25 with Tet:=b1 })).set a1.toNat ({ e29 with Perm:=w64 (b1+1) })) (w64 ((w64 (b1+1))+1)) (w64 (a1+1)))) else none)) else none) else (some (b1,x10))
def Fe.f (K:Nat) (a_:List Am) (k_:Int):Option (Int × (List Am)):=Fe.l1 K K a_ k_ 0
abbrev Fe.post (w0:World) (L:List Dc) (A_a:Option Addr) (c_a:Nat) (r1:Int) (r2:List Am) (en:Ending) (w:World):Prop:=en=.returned (.int .i64 r1)∧St w0 w (Own Ak 83 A_a c_a (fun _=>()) r2::L)
def Ey.l1 (K:Nat):Nat→(List (List Am))→Int→Int→Option (Int × (List (List Am)))
 |0,_,_,_=>none
 |k+1,x9,b1,a1=>if a1<(x9.length:Int) then (if 0≤a1∧a1<(x9.length:Int) then (Dw (Fe.f K (x9.getD a1.toNat []) b1) (fun t22 t23=>(if t23.length=(x9.getD a1.toNat []).length then (Ey.l1 K k (x9.set a1.toNat t23) t22 (w64 (a1+1))) else none))) else none) else (some (b1,x9))
def Ey.f (K:Nat) (a_:List (List Am)) (k_:Int):Option (Int × (List (List Am))):=Ey.l1 K K a_ k_ 0
abbrev Ey.post (w0:World) (L:List Dc) (A_a:Option Addr) (c_a:Nat) (y_a:Nat→(Ty.slice 83 Ak).Lay) (r1:Int) (r2:List (List Am)) (en:Ending) (w:World):Prop:=en=.returned (.int .i64 r1)∧St w0 w (Own (Ty.slice 83 Ak) 81 A_a c_a y_a r2::L)
def Hd.f (K:Nat) (a1:List (List Am)) (k_:Int):Option (Int × (List (List Am))):=Dw (Ey.f K a1 k_) (fun t3 t4=>(if t4.length=a1.length then (some (t3,t4)) else none))
abbrev Hd.post (w0:World) (L:List Dc) (A_a:Option Addr) (c_a:Nat) (y_a:Nat→(Ty.slice 83 Ak).Lay) (r1:Int) (r2:List (List Am)) (en:Ending) (w:World):Prop:=en=.returned (.int .i64 r1)∧St w0 w (Own (Ty.slice 83 Ak) 81 A_a c_a y_a r2::L)
def Ei.l1 (K:Nat):Nat→(List Int)→Int→Int→Option (Int × (List Int))
 |0,_,_,_=>none
 |k+1,x4,k_5,i_6=>if i_6<(x4.length:Int) then (if 0≤i_6∧i_6<(x4.length:Int) then (Ei.l1 K k (x4.set i_6.toNat k_5) (w64 (k_5+1)) (w64 (i_6+1))) else none) else (some (k_5,x4))
def Ei.f (K:Nat) (a_:List Int) (k_:Int):Option (Int × (List Int)):=Ei.l1 K K a_ k_ 0
abbrev Ei.post (w0:World) (L:List Dc) (A_a:Option Addr) (c_a:Nat) (r1:Int) (r2:List Int) (en:Ending) (w:World):Prop:=en=.returned (.int .i64 r1)∧St w0 w (Own (Ac .i64) 2 A_a c_a (fun _=>()) r2::L)
def Ht.f (K:Nat) (b1:Int) (a1:List Int) (k_:Int):Option (Int × (List Int)):=Dw (Ei.f K a1 k_) (fun t3 t4=>(if t4.length=a1.length then (some (t3,t4)) else none))
abbrev Ht.post (w0:World) (L:List Dc) (A_a:Option Addr) (c_a:Nat) (r1:Int) (r2:List Int) (en:Ending) (w:World):Prop:=en=.returned (.int .i64 r1)∧St w0 w (Own (Ac .i64) 2 A_a c_a (fun _=>()) r2::L)
def El.l1 (K:Nat):Nat→(List Int)→Int→Int→Option (Int)
 |0,_,_,_=>none
 |k+1,a_,k_4,i_5=>if i_5<(a_.length:Int) then (if 0≤i_5∧i_5<(a_.length:Int) then (if a_.getD i_5.toNat 0=k_4 then (El.l1 K k a_ (w64 (k_4+1)) (w64 (i_5+1))) else (some (-1))) else none) else (some k_4)
def El.f (K:Nat) (a_:List Int) (k_:Int):Option (Int):=El.l1 K K a_ k_ 0
abbrev El.post:=J5
def Ga.f (K:Nat) (b1:Int) (a1:List Int) (k_:Int):Option (Int):=(El.f K a1 k_).bind fun t3=>(if t3<0 then (some (-1)) else (some t3))
abbrev Ga.post:=J5
def Ff.f (K:Nat) (a1:List (List Am)):Option (Bool):=(G9.f K a1 1048576).bind fun t3=>(if t3<0 then (some true) else ((Ep.f K a1).bind fun t8=>(Gy (Bz.f K t8) (fun t15 t16 t17=>((Ep.f K a1).bind fun t26=>(Gy (Bu.f K t26) (fun t36 t37 t38=>((Em.f K t36 t37 t15 t16).bind fun t52=>(if t52=true then (if t38=t17 then ((Ep.f K a1).bind fun t58=>((Ig.f K t26 t58).bind fun t65=>(if t65=true then (Dw (Hd.f K t26 1) (fun t70 t71=>(if t71.length=t26.length then (if t70<0 then (some false) else ((Em.f K t36 t37 t15 t16).bind fun t83=>(if t83=true then (Dw (Ht.f K t36 t37 1) (fun t88 t89=>(if t89.length=t37.length then ((Ga.f K t36 t89 1).bind fun t94=>(if t94<0 then (some false) else (if t94=t88 then ((Ep.f K a1).bind fun t100=>(Gy (Bu.f K t100) (fun t107 t108 t109=>((Em.f K t107 t108 t15 t16).bind fun t123=>(if t123=true then (if t109=t17 then ((Ga.f K t36 t89 1).bind fun t129=>(if t129<0 then (some false) else (if t129=t88 then (some true) else (some false)))) else (some false)) else (some false)))))) else (some false)))) else none))) else (some false)))) else none))) else (some false)))) else (some false)) else (some false))))))))))
abbrev Ff.post:=Ka
end Go.Proofs.YtgkgmhkgahalgaaGreat
