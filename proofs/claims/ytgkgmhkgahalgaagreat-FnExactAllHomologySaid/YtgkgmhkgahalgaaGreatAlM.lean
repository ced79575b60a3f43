/-
  What the functions compute, as functions of lists.
-/
import Derived.Test.YtgkgmhkgahalgaaGreatSlV
set_option linter.unusedVariables false
set_option linter.unusedSimpArgs false
namespace Go.Proofs.YtgkgmhkgahalgaaGreat
open Go.RowKit
structure Aw where
  Tet:Int
  Perm:Int
  deriving DecidableEq
def Hy:Aw:=⟨0,0⟩
def Bb:Ty Aw:=Ty.flat 2 (fun x=>[.int .i64 x.Tet,.int .i64 x.Perm]) (fun _=>rfl) (fun x u h=>by simp only [List.mem_cons,List.not_mem_nil,or_false] at h; rcases h with rfl | rfl <;> rfl)
structure Ch where
  Rank:Int
  Ic:List Int
def Dx:Ch:=⟨0,[]⟩
abbrev Cx:Ty Ch:=Ty.iso (Ty.pair (Ad .i64) (Ty.slice 2 (Ad .i64))) (fun x=>(x.Rank,x.Ic)) 2 rfl
abbrev K3:Cx.Lay:=((),⟨none,0,(fun _=>())⟩)
theorem Nz {w0 w:World} {L:List Df} {Rank:Int} {Ic:List Int} {A1:Option Addr} {c1:Nat} {y1:Nat→(Ad .i64).Lay} (h:St w0 w (Own (Ad .i64) 2 A1 c1 y1 Ic::L)):St w0 w (Elt Cx ((),⟨A1,c1,y1⟩) ⟨Rank,Ic⟩::L):=show St w0 w (Elt (Ty.pair (Ad .i64) (Ty.slice 2 (Ad .i64))) ((),⟨A1,c1,y1⟩) (Rank,Ic)::L) from (St.Aaj h Av)
def Lg:Fld Cx (Ty.slice 2 (Ad .i64)):=Fld.iso (Fld.snd Fld.id) (fun x y=>{ x with Ic:=y }) (fun _ _=>rfl)
def Kc.f (a_:List Aw) (left:Int):Option (Int):=if w64 (left - (a_.length:Int))<0 then (some (-1)) else (some (w64 (left - (a_.length:Int))))
abbrev Kc.post:=Jq
def Fv.l1 (K:Nat):Nat→(List (List Aw))→Int→Int→Option (Int)
  | 0,_,_,_=>none
  | k+1,a_,b1,a1=>if a1<(a_.length:Int) then (if 0≤a1∧a1<(a_.length:Int) then ((Kc.f (a_.getD a1.toNat []) b1).bind fun t20=>(if t20<0 then (some (-1)) else (Fv.l1 K k a_ t20 (w64 (a1+1))))) else none) else (some b1)
def Fv.f (K:Nat) (a_:List (List Aw)) (left:Int):Option (Int):=if w64 (left - (a_.length:Int))<0 then (some (-1)) else (Fv.l1 K K a_ (w64 (left - (a_.length:Int))) 0)
abbrev Fv.post:=Jq
def Gz.f (K:Nat) (a1:List (List Aw)) (left:Int):Option (Int):=(Fv.f K a1 left).bind fun t3=>(if t3<0 then (some (-1)) else (some t3))
abbrev Gz.post:=Jq
def Kl.f (a1:Int) (b1:Int):Option (Int × Int):=some (a1,b1)
abbrev Kl.post (w0:World) (L:List Df) (r1 r2:Int) (en:Ending) (w:World):Prop:=en=.returned (.agg [.int .i64 r1,.int .i64 r2].toArray)∧St w0 w (L)
def Gm.l1 (K:Nat):Nat→(List Aw)→(List Aw)→Int→Option (List Aw)
  | 0,_,_,_=>none
  | k+1,a_,b1,a1=>if a1<(a_.length:Int) then (if 0≤a1∧a1<(a_.length:Int) then (bnd (a_.getD a1.toNat Hy) (fun e31=>Dz (Kl.f e31.Tet e31.Perm) (fun t33 t34=>(if 0≤a1∧a1<(b1.length:Int) then (Gm.l1 K k a_ (b1.set a1.toNat (⟨t33,t34⟩:Aw)) (w64 (a1+1))) else none)))) else none) else (some b1)
def Gm.f (K:Nat) (a_:List Aw):Option (List Aw):=if 0≤(a_.length:Int) then (if (a_.length:Int).toNat * 16≤281474976710656 then (Gm.l1 K K a_ (List.replicate (a_.length:Int).toNat Hy) 0) else none) else none
abbrev Gm.post (w0:World) (L:List Df) (r1:List Aw) (en:Ending) (w:World):Prop:=∃ (A_r0:Option Addr) (c_r1:Nat),en=.returned (.slice A_r0 r1.length c_r1)∧St w0 w (Own Bb 83 A_r0 c_r1 (fun _=>()) r1::L)
def Fy.l1 (K:Nat):Nat→(List (List Aw))→(List (List Aw))→Int→Option (List (List Aw))
  | 0,_,_,_=>none
  | k+1,a_,b1,a1=>if a1<(a_.length:Int) then (if 0≤a1∧a1<(a_.length:Int) then ((Gm.f K (a_.getD a1.toNat [])).bind fun t32=>(if 0≤a1∧a1<(b1.length:Int) then (Fy.l1 K k a_ (b1.set a1.toNat t32) (w64 (a1+1))) else none)) else none) else (some b1)
def Fy.f (K:Nat) (a_:List (List Aw)):Option (List (List Aw)):=if 0≤(a_.length:Int) then (if (a_.length:Int).toNat * 24≤281474976710656 then (Fy.l1 K K a_ (List.replicate (a_.length:Int).toNat ([]:List Aw)) 0) else none) else none
abbrev Fy.post (w0:World) (L:List Df) (r1:List (List Aw)) (en:Ending) (w:World):Prop:=∃ (A_r0:Option Addr) (c_r1:Nat) (y_r2:Nat→(Ty.slice 83 Bb).Lay),en=.returned (.slice A_r0 r1.length c_r1)∧St w0 w (Own (Ty.slice 83 Bb) 81 A_r0 c_r1 y_r2 r1::L)
def Ev.f (K:Nat) (a1:List (List Aw)):Option (List (List Aw)):=(Fy.f K a1).bind fun t7=>(some t7)
abbrev Ev.post (w0:World) (L:List Df) (r1:List (List Aw)) (en:Ending) (w:World):Prop:=∃ (A_r0:Option Addr) (c_r1:Nat) (y_r2:Nat→(Ty.slice 83 Bb).Lay),en=.returned (.agg [.slice A_r0 r1.length c_r1].toArray)∧St w0 w (Own (Ty.slice 83 Bb) 81 A_r0 c_r1 y_r2 r1::L)
def D7.f (a1:List (List Aw)):Option (Int):=some (a1.length:Int)
abbrev D7.post:=Jq
def Jt.f (n_:Int) (low:Int) (high:Int):Option (Bool):=if low≤n_ then (some (decide (n_≤high))) else (some false)
abbrev Jt.post:=Js
def Jo.f (p:Int):Option (Bool):=if 0≤p then (some (decide (p<24))) else (some false)
abbrev Jo.post:=Js
def F9.l1 (K:Nat):Nat→Int→(List Int)→(List Int)→Int→Int→Option (List Int)
  | 0,_,_,_,_,_=>none
  | k+1,b1,c1,e1,a1,d1=>if 0≤d1 then (if a1=0 then none else (if 0≤w64 (b1.tdiv a1)∧w64 (b1.tdiv a1)<(c1.length:Int) then (if (e1.length+1) * 8≤140737488355328 then (if 0≤w64 (b1.tdiv a1)∧w64 (b1.tdiv a1)≤(c1.length:Int) then (if (([]:List Int).length+((c1.take ((w64 (b1.tdiv a1)).toNat)).drop 0).length) * 8≤140737488355328 then (if 0≤w64 ((w64 (b1.tdiv a1))+1)∧w64 ((w64 (b1.tdiv a1))+1)≤(c1.length:Int) then (if ((([]:List Int)++((c1.take ((w64 (b1.tdiv a1)).toNat)).drop 0)).length+((c1.take c1.length).drop ((w64 ((w64 (b1.tdiv a1))+1)).toNat)).length) * 8≤140737488355328 then (if 0<d1 then (if d1=0 then none else (F9.l1 K k (b1.tmod a1) ((([]:List Int)++((c1.take ((w64 (b1.tdiv a1)).toNat)).drop 0))++((c1.take c1.length).drop ((w64 ((w64 (b1.tdiv a1))+1)).toNat))) (e1++[c1.getD ((w64 (b1.tdiv a1)).toNat) 0]) (w64 (a1.tdiv d1)) (w64 (d1 - 1)))) else (F9.l1 K k (b1.tmod a1) ((([]:List Int)++((c1.take ((w64 (b1.tdiv a1)).toNat)).drop 0))++((c1.take c1.length).drop ((w64 ((w64 (b1.tdiv a1))+1)).toNat))) (e1++[c1.getD ((w64 (b1.tdiv a1)).toNat) 0]) a1 (w64 (d1 - 1)))) else none) else none) else none) else none) else none) else none)) else (some e1)
def F9.f (K:Nat) (p:Int):Option (List Int):=F9.l1 K K p ([0,1,2,3]:List Int) ([]:List Int) 6 3
abbrev F9.post (w0:World) (L:List Df) (r1:List Int) (en:Ending) (w:World):Prop:=∃ (A_r0:Option Addr) (c_r1:Nat),en=.returned (.slice A_r0 r1.length c_r1)∧St w0 w (Own (Ad .i64) 2 A_r0 c_r1 (fun _=>()) r1::L)
def Ef.f (K:Nat) (p:Int) (k_:Int):Option (Int):=(F9.f K p).bind fun t1=>(if 0≤k_∧k_<(t1.length:Int) then (some (t1.getD k_.toNat 0)) else none)
abbrev Ef.post:=Jq
mutual
def Ff.l1 (K:Nat):Nat→(List Int)→Int→Int→Int→Option (Int)
  | 0,_,_,_,_=>none
  | k+1,a_,p_4,a1,i_6=>if i_6<3 then (if 0≤i_6∧i_6<(a_.length:Int) then (Ff.l4 K k a_ p_4 a1 i_6 (a_.getD i_6.toNat 0) 0) else none) else (some p_4)
def Ff.l4 (K:Nat):Nat→(List Int)→Int→Int→Int→Int→Int→Option (Int)
  | 0,_,_,_,_,_,_=>none
  | k+1,a_,p_4,b1,i_6,c1,a1=>if a1<i_6 then (if 0≤a1∧a1<(a_.length:Int) then (if a_.getD a1.toNat 0<a_.getD i_6.toNat 0 then (Ff.l4 K k a_ p_4 b1 i_6 (w64 (c1 - 1)) (w64 (a1+1))) else (Ff.l4 K k a_ p_4 b1 i_6 c1 (w64 (a1+1)))) else none) else (if w64 (3 - i_6)=0 then none else (Ff.l1 K k a_ (w64 (p_4+(w64 (b1 * c1)))) (w64 (b1.tdiv (w64 (3 - i_6)))) (w64 (i_6+1))))
end
def Ff.f (K:Nat) (a_:List Int):Option (Int):=Ff.l1 K K a_ 0 6 0
abbrev Ff.post:=Jq
def Gc.l1 (K:Nat):Nat→(List Int)→(List Int)→Int→Option (Int)
  | 0,_,_,_=>none
  | k+1,t1,b1,a1=>if a1<4 then (if 0≤a1∧a1<(t1.length:Int) then (if 0≤t1.getD a1.toNat 0∧t1.getD a1.toNat 0<(b1.length:Int) then (Gc.l1 K k t1 (b1.set ((t1.getD a1.toNat 0).toNat) a1) (w64 (a1+1))) else none) else none) else ((Ff.f K b1).bind fun t26=>(some t26))
def Gc.f (K:Nat) (p:Int):Option (Int):=(F9.f K p).bind fun t1=>(Gc.l1 K K t1 ([0,0,0,0]:List Int) 0)
abbrev Gc.post:=Jq
mutual
def Al.l1 (K:Nat):Nat→(List (List Aw))→Int→Option (Bool)
  | 0,_,_=>none
  | k+1,b1,a1=>if a1<(b1.length:Int) then (if 0≤a1∧a1<(b1.length:Int) then (if ((b1.getD a1.toNat []).length:Int)=4 then (Al.l1 K k b1 (w64 (a1+1))) else (some false)) else none) else (Al.l28 K k b1 0)
def Al.l28 (K:Nat):Nat→(List (List Aw))→Int→Option (Bool)
  | 0,_,_=>none
  | k+1,a1,b1=>(D7.f a1).bind fun t1453=>(if b1<t1453 then (Al.l37 K k a1 b1 0) else (some true))
def Al.l37 (K:Nat):Nat→(List (List Aw))→Int→Int→Option (Bool)
  | 0,_,_,_=>none
  | k+1,c1,a1,b1=>if b1<4 then (if 0≤a1∧a1<(c1.length:Int) then (if 0≤b1∧b1<((c1.getD a1.toNat []).length:Int) then (bnd ((c1.getD a1.toNat []).getD b1.toNat Hy) (fun e1577=>if e1577.Tet=(-1) then (Al.j40 K k c1 a1 b1 e1577 (decide (e1577.Perm=0))) else (Al.j40 K k c1 a1 b1 e1577 false))) else none) else none) else (Al.l28 K k c1 (w64 (a1+1)))
def Al.j40 (K:Nat):Nat→(List (List Aw))→Int→Int→Aw→Bool→Option (Bool)
  | 0,_,_,_,_,_=>none
  | k+1,a1,c1,b1,e1577,x1584=>if x1584=true then (Al.l37 K k a1 c1 (w64 (b1+1))) else ((D7.f a1).bind fun t1599=>((Jt.f e1577.Tet 0 (w64 (t1599 - 1))).bind fun t1603=>(if t1603=true then ((Jo.f e1577.Perm).bind fun t1608=>(if t1608=true then ((Ef.f K e1577.Perm b1).bind fun t1613=>((Gc.f K e1577.Perm).bind fun t1617=>(if 0≤e1577.Tet∧e1577.Tet<(a1.length:Int) then (if 0≤t1613∧t1613<((a1.getD e1577.Tet.toNat []).length:Int) then (bnd ((a1.getD e1577.Tet.toNat []).getD t1613.toNat Hy) (fun e1626=>if (e1626.Tet,e1626.Perm)=(c1,t1617) then (if e1577.Tet=c1 then (if t1613=b1 then (some false) else (Al.l37 K k a1 c1 (w64 (b1+1)))) else (Al.l37 K k a1 c1 (w64 (b1+1)))) else (some false))) else none) else none))) else (some false))) else (some false))))
end
def Al.f (K:Nat) (a1:List (List Aw)):Option (Bool):=(D7.f a1).bind fun t3=>(if 8<t3 then (some false) else (Al.l1 K K a1 0))
abbrev Al.post:=Js
def H7.f (e_:Int):Option (Int × Int):=if 0≤e_∧e_<(([0,0,0,1,1,2]:List Int).length:Int) then (if 0≤e_∧e_<(([1,2,3,2,3,3]:List Int).length:Int) then (some (([0,0,0,1,1,2]:List Int).getD e_.toNat 0,([1,2,3,2,3,3]:List Int).getD e_.toNat 0)) else none) else none
abbrev H7.post (w0:World) (L:List Df) (r1 r2:Int) (en:Ending) (w:World):Prop:=en=.returned (.tuple #[.int .i64 r1,.int .i64 r2])∧St w0 w (L)
def Eu.l1 (K:Nat):Nat→Int→Int→Int→Option (Int)
  | 0,_,_,_=>none
  | k+1,a_,b_,e_9=>if e_9<6 then (Dz (H7.f e_9) (fun t20 t21=>(if t20=(if b_<a_ then b_ else a_) then (if t21=(if b_ > a_ then b_ else a_) then (some e_9) else (Eu.l1 K k a_ b_ (w64 (e_9+1)))) else (Eu.l1 K k a_ b_ (w64 (e_9+1)))))) else (some (-1))
def Eu.f (K:Nat) (a_:Int) (b_:Int):Option (Int):=Eu.l1 K K a_ b_ 0
abbrev Eu.post:=Jq
mutual
def Am.l1 (K:Nat):Nat→(List (List Aw))→Int→(List Int)→(List Bool)→Int→Option (List (List Int))
  | 0,_,_,_,_,_=>none
  | k+1,d1,t3,b1,c1,a1=>if a1<w64 (6 * t3) then (if 0≤a1∧a1<(b1.length:Int) then (if b1.getD a1.toNat 0=0 then (Am.l57 K k d1 t3 c1 a1 (b1.set a1.toNat 1) ([a1]:List Int) false 0) else (Am.l1 K k d1 t3 b1 c1 (w64 (a1+1)))) else none) else (Am.l82 K k t3 b1 c1 ([]:List (List Int)) 0)
def Am.l57 (K:Nat):Nat→(List (List Aw))→Int→(List Bool)→Int→(List Int)→(List Int)→Bool→Int→Option (List (List Int))
  | 0,_,_,_,_,_,_,_,_=>none
  | k+1,a1,t3,c1,d1,b1,x1530,x1531,x1532=>if x1532<(x1530.length:Int) then (if 0≤x1532∧x1532<(x1530.length:Int) then (Dz (H7.f ((x1530.getD x1532.toNat 0).tmod 6)) (fun t1719 t1720=>(Am.l74 K k a1 t3 c1 d1 x1530 x1532 t1719 t1720 b1 x1530 x1531 0))) else none) else (Am.l81 K k a1 t3 d1 b1 x1530 x1531 c1 0)
def Am.l74 (K:Nat):Nat→(List (List Aw))→Int→(List Bool)→Int→(List Int)→Int→Int→Int→(List Int)→(List Int)→Bool→Int→Option (List (List Int))
  | 0,_,_,_,_,_,_,_,_,_,_,_,_=>none
  | k+1,a1,t3,c1,d1,x1530,x1532,t1719,t1720,b1,x1778,x1779,x1780=>if x1780<4 then (if 0≤w64 ((x1530.getD x1532.toNat 0).tdiv 6)∧w64 ((x1530.getD x1532.toNat 0).tdiv 6)<(a1.length:Int) then (if 0≤x1780∧x1780<((a1.getD ((w64 ((x1530.getD x1532.toNat 0).tdiv 6)).toNat) []).length:Int) then (bnd ((a1.getD ((w64 ((x1530.getD x1532.toNat 0).tdiv 6)).toNat) []).getD x1780.toNat Hy) (fun e1837=>if e1837.Tet<0 then (Am.l74 K k a1 t3 c1 d1 x1530 x1532 t1719 t1720 b1 x1778 x1779 (w64 (x1780+1))) else (if x1780=t1719 then (Am.l74 K k a1 t3 c1 d1 x1530 x1532 t1719 t1720 b1 x1778 x1779 (w64 (x1780+1))) else (if x1780=t1720 then (Am.l74 K k a1 t3 c1 d1 x1530 x1532 t1719 t1720 b1 x1778 x1779 (w64 (x1780+1))) else ((Ef.f K e1837.Perm t1719).bind fun t1847=>((Ef.f K e1837.Perm t1720).bind fun t1851=>((Eu.f K t1847 t1851).bind fun t1855=>(if 0≤x1532∧x1532<(x1778.length:Int) then (if 0≤x1778.getD x1532.toNat 0∧x1778.getD x1532.toNat 0<(b1.length:Int) then (if t1851<t1847 then (Am.j79 K k a1 t3 c1 d1 x1530 x1532 t1719 t1720 b1 x1778 x1779 x1780 e1837 t1855 (w64 (0 - (b1.getD ((x1778.getD x1532.toNat 0).toNat) 0)))) else (Am.j79 K k a1 t3 c1 d1 x1530 x1532 t1719 t1720 b1 x1778 x1779 x1780 e1837 t1855 (b1.getD ((x1778.getD x1532.toNat 0).toNat) 0))) else none) else none)))))))) else none) else none) else (Am.l57 K k a1 t3 c1 d1 b1 x1778 x1779 (w64 (x1532+1)))
def Am.j79 (K:Nat):Nat→(List (List Aw))→Int→(List Bool)→Int→(List Int)→Int→Int→Int→(List Int)→(List Int)→Bool→Int→Aw→Int→Int→Option (List (List Int))
  | 0,_,_,_,_,_,_,_,_,_,_,_,_,_,_,_=>none
  | k+1,b1,t3,c1,d1,x1530,x1532,t1719,t1720,a1,x1778,x1779,x1780,e1837,t1855,x1862=>if 0≤w64 ((w64 (6 * e1837.Tet))+t1855)∧w64 ((w64 (6 * e1837.Tet))+t1855)<(a1.length:Int) then (if a1.getD ((w64 ((w64 (6 * e1837.Tet))+t1855)).toNat) 0=0 then (if (x1778.length+1) * 8≤140737488355328 then (Am.j80 K k b1 t3 c1 d1 x1530 x1532 t1719 t1720 x1779 x1780 e1837 t1855 x1862 (a1.set ((w64 ((w64 (6 * e1837.Tet))+t1855)).toNat) x1862) (x1778++[w64 ((w64 (6 * e1837.Tet))+t1855)])) else none) else (Am.j80 K k b1 t3 c1 d1 x1530 x1532 t1719 t1720 x1779 x1780 e1837 t1855 x1862 a1 x1778)) else none
def Am.j80 (K:Nat):Nat→(List (List Aw))→Int→(List Bool)→Int→(List Int)→Int→Int→Int→Bool→Int→Aw→Int→Int→(List Int)→(List Int)→Option (List (List Int))
  | 0,_,_,_,_,_,_,_,_,_,_,_,_,_,_,_=>none
  | k+1,b1,t3,c1,d1,x1530,x1532,t1719,t1720,x1779,x1780,e1837,t1855,x1862,a1,x1875=>if x1779=true then (Am.l74 K k b1 t3 c1 d1 x1530 x1532 t1719 t1720 a1 x1875 true (w64 (x1780+1))) else (if 0≤w64 ((w64 (6 * e1837.Tet))+t1855)∧w64 ((w64 (6 * e1837.Tet))+t1855)<(a1.length:Int) then (Am.l74 K k b1 t3 c1 d1 x1530 x1532 t1719 t1720 a1 x1875 (!(decide (a1.getD ((w64 ((w64 (6 * e1837.Tet))+t1855)).toNat) 0=x1862))) (w64 (x1780+1))) else none)
def Am.l81 (K:Nat):Nat→(List (List Aw))→Int→Int→(List Int)→(List Int)→Bool→(List Bool)→Int→Option (List (List Int))
  | 0,_,_,_,_,_,_,_,_=>none
  | k+1,b1,t3,d1,c1,x1530,x1531,a1,x1892=>if x1892<(x1530.length:Int) then (if 0≤x1892∧x1892<(x1530.length:Int) then (if 0≤x1530.getD x1892.toNat 0∧x1530.getD x1892.toNat 0<(a1.length:Int) then (Am.l81 K k b1 t3 d1 c1 x1530 x1531 (a1.set ((x1530.getD x1892.toNat 0).toNat) x1531) (w64 (x1892+1))) else none) else none) else (Am.l1 K k b1 t3 c1 a1 (w64 (d1+1)))
def Am.l82 (K:Nat):Nat→Int→(List Int)→(List Bool)→(List (List Int))→Int→Option (List (List Int))
  | 0,_,_,_,_,_=>none
  | k+1,t3,b1,a1,x1981,x1983=>if x1983<w64 (6 * t3) then (Am.l85 K k t3 b1 a1 x1981 x1983 ([]:List Int) x1983) else (some x1981)
def Am.l85 (K:Nat):Nat→Int→(List Int)→(List Bool)→(List (List Int))→Int→(List Int)→Int→Option (List (List Int))
  | 0,_,_,_,_,_,_,_=>none
  | k+1,t3,b1,a1,x1981,x1983,x2088,x2089=>if x2089<w64 (x1983+6) then (if 0≤x2089∧x2089<(a1.length:Int) then (if (a1.getD x2089.toNat false)=true then (if (x2088.length+1) * 8≤140737488355328 then (Am.l85 K k t3 b1 a1 x1981 x1983 (x2088++[0]) (w64 (x2089+1))) else none) else (if 0≤x2089∧x2089<(b1.length:Int) then (if (x2088.length+1) * 8≤140737488355328 then (Am.l85 K k t3 b1 a1 x1981 x1983 (x2088++[b1.getD x2089.toNat 0]) (w64 (x2089+1))) else none) else none)) else none) else (if (x1981.length+1) * 24≤140737488355328 then (Am.l82 K k t3 b1 a1 (x1981++[x2088]) (w64 (x1983+6))) else none)
end
def Am.f (K:Nat) (a1:List (List Aw)):Option (List (List Int)):=(D7.f a1).bind fun t3=>(if 0≤w64 (6 * t3) then (if (w64 (6 * t3)).toNat * 8≤281474976710656 then (if (w64 (6 * t3)).toNat * 1≤281474976710656 then (Am.l1 K K a1 t3 (List.replicate (w64 (6 * t3)).toNat (0:Int)) (List.replicate (w64 (6 * t3)).toNat false) 0) else none) else none) else none)
abbrev Am.post (w0:World) (L:List Df) (r1:List (List Int)) (en:Ending) (w:World):Prop:=∃ (A_r0:Option Addr) (c_r1:Nat) (y_r2:Nat→(Ty.slice 2 (Ad .i64)).Lay),en=.returned (.slice A_r0 r1.length c_r1)∧St w0 w (Own (Ty.slice 2 (Ad .i64)) 26 A_r0 c_r1 y_r2 r1::L)
mutual
def C9.l1 (K:Nat):Nat→(List (List Int))→Int→Option (Bool)
  | 0,_,_=>none
  | k+1,t3,a1=>if a1<(t3.length:Int) then (C9.l4 K k t3 a1 0) else (some false)
def C9.l4 (K:Nat):Nat→(List (List Int))→Int→Int→Option (Bool)
  | 0,_,_,_=>none
  | k+1,t3,a1,b1=>if b1<6 then (if 0≤a1∧a1<(t3.length:Int) then (if 0≤b1∧b1<((t3.getD a1.toNat []).length:Int) then (if (t3.getD a1.toNat []).getD b1.toNat 0=0 then (some true) else (C9.l4 K k t3 a1 (w64 (b1+1)))) else none) else none) else (C9.l1 K k t3 (w64 (a1+1)))
end
def C9.f (K:Nat) (a1:List (List Aw)):Option (Bool):=(Am.f K a1).bind fun t3=>(C9.l1 K K t3 0)
abbrev C9.post:=Js
def Ex.l1 (K:Nat):Nat→Int→(List Int)→Int→Option (List Int)
  | 0,_,_,_=>none
  | k+1,n_,a1,b1=>if b1<n_ then (if (a1.length+1) * 8≤140737488355328 then (Ex.l1 K k n_ (a1++[b1]) (w64 (b1+1))) else none) else (some a1)
def Ex.f (K:Nat) (n_:Int):Option (List Int):=Ex.l1 K K n_ ([]:List Int) 0
abbrev Ex.post (w0:World) (L:List Df) (r1:List Int) (en:Ending) (w:World):Prop:=∃ (A_r0:Option Addr) (c_r1:Nat),en=.returned (.slice A_r0 r1.length c_r1)∧St w0 w (Own (Ad .i64) 2 A_r0 c_r1 (fun _=>()) r1::L)
def Ed.l1 (K:Nat):Nat→(List Int)→Int→Int→(List Int)→Int→Option (List Int)
  | 0,_,_,_,_,_=>none
  | k+1,marks,i,k_,x11,a1=>if a1<(x11.length:Int) then (if 0≤a1∧a1<(x11.length:Int) then (if x11.getD a1.toNat 0=(if marks.getD k_.toNat 0 > marks.getD i.toNat 0 then marks.getD k_.toNat 0 else marks.getD i.toNat 0) then (Ed.l1 K k marks i k_ (x11.set a1.toNat (if marks.getD k_.toNat 0<marks.getD i.toNat 0 then marks.getD k_.toNat 0 else marks.getD i.toNat 0)) (w64 (a1+1))) else (Ed.l1 K k marks i k_ x11 (w64 (a1+1)))) else none) else (some x11)
def Ed.f (K:Nat) (marks:List Int) (i:Int) (k_:Int):Option (List Int):=if 0≤i∧i<(marks.length:Int) then (if 0≤k_∧k_<(marks.length:Int) then (Ed.l1 K K marks i k_ marks 0) else none) else none
abbrev Ed.post (w0:World) (L:List Df) (A_a:Option Addr) (c_a:Nat) (r1:List Int) (en:Ending) (w:World):Prop:=en=.returned (.tuple #[])∧St w0 w (Own (Ad .i64) 2 A_a c_a (fun _=>()) r1::L)
mutual
def Cg.l1 (K:Nat):Nat→(List Int)→Int→(List Int)→Int→Int→Option ((List (List Int)) × Int)
  | 0,_,_,_,_,_=>none
  | k+1,marks,width,b1,c1,a1=>if a1<(marks.length:Int) then (if 0≤a1∧a1<(marks.length:Int) then (if marks.getD a1.toNat 0=a1 then (if 0≤a1∧a1<(b1.length:Int) then (Cg.l1 K k marks width (b1.set a1.toNat c1) (w64 (c1+1)) (w64 (a1+1))) else none) else (Cg.l1 K k marks width b1 c1 (w64 (a1+1)))) else none) else (Cg.l7 K k marks width b1 c1 ([]:List (List Int)) 0)
def Cg.l7 (K:Nat):Nat→(List Int)→Int→(List Int)→Int→(List (List Int))→Int→Option ((List (List Int)) × Int)
  | 0,_,_,_,_,_,_=>none
  | k+1,marks,width,d1,c1,b1,a1=>if a1<(marks.length:Int) then (Cg.l10 K k marks width d1 c1 b1 a1 ([]:List Int) a1) else (some (b1,c1))
def Cg.l10 (K:Nat):Nat→(List Int)→Int→(List Int)→Int→(List (List Int))→Int→(List Int)→Int→Option ((List (List Int)) × Int)
  | 0,_,_,_,_,_,_,_,_=>none
  | k+1,marks,width,b1,f1,e1,c1,d1,a1=>if a1<w64 (c1+width) then (if 0≤a1∧a1<(marks.length:Int) then (if 0≤marks.getD a1.toNat 0∧marks.getD a1.toNat 0<(b1.length:Int) then (if (d1.length+1) * 8≤140737488355328 then (Cg.l10 K k marks width b1 f1 e1 c1 (d1++[b1.getD ((marks.getD a1.toNat 0).toNat) 0]) (w64 (a1+1))) else none) else none) else none) else (if (e1.length+1) * 24≤140737488355328 then (Cg.l7 K k marks width b1 f1 (e1++[d1]) (w64 (c1+width))) else none)
end
def Cg.f (K:Nat) (marks:List Int) (width:Int):Option ((List (List Int)) × Int):=if 0≤(marks.length:Int) then (if (marks.length:Int).toNat * 8≤281474976710656 then (Cg.l1 K K marks width (List.replicate (marks.length:Int).toNat (0:Int)) 0 0) else none) else none
abbrev Cg.post (w0:World) (L:List Df) (r1:List (List Int)) (r2:Int) (en:Ending) (w:World):Prop:=∃ (A_r0:Option Addr) (c_r1:Nat) (y_r2:Nat→(Ty.slice 2 (Ad .i64)).Lay),en=.returned (.tuple #[.slice A_r0 r1.length c_r1,.int .i64 r2])∧St w0 w (Own (Ty.slice 2 (Ad .i64)) 26 A_r0 c_r1 y_r2 r1::L)
mutual
def Bl.l1 (K:Nat):Nat→(List (List Aw))→Int→(List Int)→(List Int)→(List Int)→Int→Option ((List (List Int)) × (List (List Int)) × (List (List Int)) × (List Int))
  | 0,_,_,_,_,_,_=>none
  | k+1,c1,t5,b1,a1,x782,x783=>if x783<t5 then (Bl.l24 K k c1 t5 x783 b1 a1 x782 0) else (Dz (Cg.f K b1 4) (fun t2256 t2257=>(if 0≤(0:Int)∧(0:Int)<(([0,0,0,t5]:List Int).length:Int) then (Dz (Cg.f K a1 6) (fun t2267 t2268=>(if 0≤(1:Int)∧(1:Int)<((([0,0,0,t5]:List Int).set 0 t2257).length:Int) then (Dz (Cg.f K x782 4) (fun t2278 t2279=>(if 0≤(2:Int)∧(2:Int)<(((([0,0,0,t5]:List Int).set 0 t2257).set 1 t2268).length:Int) then (some (t2256,t2267,t2278,(((([0,0,0,t5]:List Int).set 0 t2257).set 1 t2268).set 2 t2279))) else none))) else none))) else none)))
def Bl.l24 (K:Nat):Nat→(List (List Aw))→Int→Int→(List Int)→(List Int)→(List Int)→Int→Option ((List (List Int)) × (List (List Int)) × (List (List Int)) × (List Int))
  | 0,_,_,_,_,_,_,_=>none
  | k+1,a1,t5,x783,c1,b1,x1829,x1830=>if x1830<4 then (if 0≤x783∧x783<(a1.length:Int) then (if 0≤x1830∧x1830<((a1.getD x783.toNat []).length:Int) then (bnd ((a1.getD x783.toNat []).getD x1830.toNat Hy) (fun e2044=>if e2044.Tet<0 then (Bl.l24 K k a1 t5 x783 c1 b1 x1829 (w64 (x1830+1))) else ((Ef.f K e2044.Perm x1830).bind fun t2050=>((Ed.f K x1829 (w64 ((w64 (4 * x783))+x1830)) (w64 ((w64 (4 * e2044.Tet))+t2050))).bind fun t2054=>(if t2054.length=x1829.length then (Bl.l32 K k a1 t5 x783 b1 x1830 e2044 t2054 c1 0) else none))))) else none) else none) else (Bl.l1 K k a1 t5 c1 b1 x1829 (w64 (x783+1)))
def Bl.l32 (K:Nat):Nat→(List (List Aw))→Int→Int→(List Int)→Int→Aw→(List Int)→(List Int)→Int→Option ((List (List Int)) × (List (List Int)) × (List (List Int)) × (List Int))
  | 0,_,_,_,_,_,_,_,_,_=>none
  | k+1,b1,t5,x783,c1,x1830,e2044,t2054,a1,x2070=>if x2070<4 then (if x2070=x1830 then (Bl.l32 K k b1 t5 x783 c1 x1830 e2044 t2054 a1 (w64 (x2070+1))) else ((Ef.f K e2044.Perm x2070).bind fun t2163=>((Ed.f K a1 (w64 ((w64 (4 * x783))+x2070)) (w64 ((w64 (4 * e2044.Tet))+t2163))).bind fun t2167=>(if t2167.length=a1.length then (Bl.l32 K k b1 t5 x783 c1 x1830 e2044 t2054 t2167 (w64 (x2070+1))) else none)))) else (Bl.l34 K k b1 t5 x783 x1830 e2044 t2054 a1 c1 0)
def Bl.l34 (K:Nat):Nat→(List (List Aw))→Int→Int→Int→Aw→(List Int)→(List Int)→(List Int)→Int→Option ((List (List Int)) × (List (List Int)) × (List (List Int)) × (List Int))
  | 0,_,_,_,_,_,_,_,_,_=>none
  | k+1,b1,t5,x783,x1830,e2044,t2054,c1,a1,x2198=>if x2198<6 then (Dz (H7.f x2198) (fun t2226 t2227=>(if t2226=x1830 then (Bl.l34 K k b1 t5 x783 x1830 e2044 t2054 c1 a1 (w64 (x2198+1))) else (if t2227=x1830 then (Bl.l34 K k b1 t5 x783 x1830 e2044 t2054 c1 a1 (w64 (x2198+1))) else ((Ef.f K e2044.Perm t2226).bind fun t2234=>((Ef.f K e2044.Perm t2227).bind fun t2238=>((Eu.f K t2234 t2238).bind fun t2242=>((Ed.f K a1 (w64 ((w64 (6 * x783))+x2198)) (w64 ((w64 (6 * e2044.Tet))+t2242))).bind fun t2246=>(if t2246.length=a1.length then (Bl.l34 K k b1 t5 x783 x1830 e2044 t2054 c1 t2246 (w64 (x2198+1))) else none))))))))) else (Bl.l24 K k b1 t5 x783 c1 a1 t2054 (w64 (x1830+1)))
end
def Bl.f (K:Nat) (a1:List (List Aw)):Option ((List (List Int)) × (List (List Int)) × (List (List Int)) × (List Int)):=(D7.f a1).bind fun t5=>((Ex.f K (w64 (4 * t5))).bind fun t9=>((Ex.f K (w64 (6 * t5))).bind fun t15=>((Ex.f K (w64 (4 * t5))).bind fun t21=>(Bl.l1 K K a1 t5 t9 t15 t21 0))))
abbrev Bl.post (w0:World) (L:List Df) (r1:List (List Int)) (r2:List (List Int)) (r3:List (List Int)) (r4:List Int) (en:Ending) (w:World):Prop:=∃ (A_r0:Option Addr) (c_r1:Nat) (y_r2:Nat→(Ty.slice 2 (Ad .i64)).Lay) (A_r3:Option Addr) (c_r4:Nat) (y_r5:Nat→(Ty.slice 2 (Ad .i64)).Lay) (A_r6:Option Addr) (c_r7:Nat) (y_r8:Nat→(Ty.slice 2 (Ad .i64)).Lay) (A_r9:Option Addr) (c_r10:Nat),en=.returned (.tuple #[.agg [.slice A_r0 r1.length c_r1,.slice A_r3 r2.length c_r4,.slice A_r6 r3.length c_r7].toArray,.slice A_r9 r4.length c_r10])∧St w0 w (Own (Ty.slice 2 (Ad .i64)) 26 A_r0 c_r1 y_r2 r1::Own (Ty.slice 2 (Ad .i64)) 26 A_r3 c_r4 y_r5 r2::Own (Ty.slice 2 (Ad .i64)) 26 A_r6 c_r7 y_r8 r3::Own (Ad .i64) 2 A_r9 c_r10 (fun _=>()) r4::L)
def Hu.f (rows:Int) (columns:Int):Option (Int × Int × (List Int)):=if 0≤w64 (rows * columns) then (if (w64 (rows * columns)).toNat * 8≤281474976710656 then (some (rows,columns,(List.replicate (w64 (rows * columns)).toNat (0:Int)))) else none) else none
abbrev Hu.post (w0:World) (L:List Df) (r1 r2:Int) (r3:List Int) (en:Ending) (w:World):Prop:=∃ (A_r0:Option Addr) (c_r1:Nat),en=.returned (.agg [.int .i64 r1,.int .i64 r2,.slice A_r0 r3.length c_r1].toArray)∧St w0 w (Own (Ad .i64) 2 A_r0 c_r1 (fun _=>()) r3::L)
def Fh.l1 (K:Nat):Nat→Int→(List Int)→Int→Option (List Int)
  | 0,_,_,_=>none
  | k+1,f,b1,a1=>if a1<4 then (if a1=f then (Fh.l1 K k f b1 (w64 (a1+1))) else (if (b1.length+1) * 8≤140737488355328 then (Fh.l1 K k f (b1++[a1]) (w64 (a1+1))) else none)) else (some b1)
def Fh.f (K:Nat) (f:Int):Option (List Int):=Fh.l1 K K f ([]:List Int) 0
abbrev Fh.post (w0:World) (L:List Df) (r1:List Int) (en:Ending) (w:World):Prop:=∃ (A_r0:Option Addr) (c_r1:Nat),en=.returned (.slice A_r0 r1.length c_r1)∧St w0 w (Own (Ad .i64) 2 A_r0 c_r1 (fun _=>()) r1::L)
mutual
def Aj.l1 (K:Nat):Nat→(List (List Aw))→(List (List Int))→Int→Option (List (List Int))
  | 0,_,_,_=>none
  | k+1,a1,b1,c1=>(D7.f a1).bind fun t1548=>(if c1<t1548 then (Aj.l76 K k a1 b1 c1 ([1,1,1,1]:List Int) 0) else (some b1))
def Aj.l76 (K:Nat):Nat→(List (List Aw))→(List (List Int))→Int→(List Int)→Int→Option (List (List Int))
  | 0,_,_,_,_,_=>none
  | k+1,c1,d1,a1,e1,b1=>if b1<4 then (if 0≤a1∧a1<(c1.length:Int) then (if 0≤b1∧b1<((c1.getD a1.toNat []).length:Int) then (bnd ((c1.getD a1.toNat []).getD b1.toNat Hy) (fun e2064=>if e2064.Tet<0 then (Aj.l76 K k c1 d1 a1 e1 (w64 (b1+1))) else ((Ef.f K e2064.Perm b1).bind fun t2070=>(if a1<e2064.Tet then (Aj.Rt K k c1 d1 a1 e1 b1 e2064 t2070 true) else (if e2064.Tet=a1 then (Aj.Rt K k c1 d1 a1 e1 b1 e2064 t2070 (decide (b1<t2070))) else (Aj.Rt K k c1 d1 a1 e1 b1 e2064 t2070 false)))))) else none) else none) else (if (d1.length+1) * 24≤140737488355328 then (Aj.l1 K k c1 (d1++[e1]) (w64 (a1+1))) else none)
def Aj.Rt (K:Nat):Nat→(List (List Aw))→(List (List Int))→Int→(List Int)→Int→Aw→Int→Bool→Option (List (List Int))
  | 0,_,_,_,_,_,_,_,_=>none
  | k+1,c1,a1,e1,b1,d1,e2064,t2070,x2078=>if x2078=true then (Aj.l76 K k c1 a1 e1 b1 (w64 (d1+1))) else ((Fh.f K t2070).bind fun t2082=>(Aj.V4 K k c1 a1 e1 b1 d1 e2064 t2082 ([]:List Int) 0))
def Aj.V4 (K:Nat):Nat→(List (List Aw))→(List (List Int))→Int→(List Int)→Int→Aw→(List Int)→(List Int)→Int→Option (List (List Int))
  | 0,_,_,_,_,_,_,_,_,_=>none
  | k+1,e1,c1,g1,d1,f1,e2064,t2082,b1,a1=>if a1<3 then ((Gc.f K e2064.Perm).bind fun t2209=>(if 0≤a1∧a1<(t2082.length:Int) then ((Ef.f K t2209 (t2082.getD a1.toNat 0)).bind fun t2215=>(if (b1.length+1) * 8≤140737488355328 then (Aj.V4 K k e1 c1 g1 d1 f1 e2064 t2082 (b1++[t2215]) (w64 (a1+1))) else none)) else none)) else (Aj.Vz K k e1 c1 g1 f1 b1 0 d1)
def Aj.Vz (K:Nat):Nat→(List (List Aw))→(List (List Int))→Int→Int→(List Int)→Int→(List Int)→Option (List (List Int))
  | 0,_,_,_,_,_,_,_=>none
  | k+1,c1,a1,e1,d1,g1,f1,b1=>if f1<3 then (Aj.Tn K k c1 a1 e1 d1 g1 f1 b1 0) else (Aj.l76 K k c1 a1 e1 b1 (w64 (d1+1)))
def Aj.Tn (K:Nat):Nat→(List (List Aw))→(List (List Int))→Int→Int→(List Int)→Int→(List Int)→Int→Option (List (List Int))
  | 0,_,_,_,_,_,_,_,_=>none
  | k+1,g1,f1,h1,a1,b1,c1,e1,d1=>if d1<c1 then (if 0≤d1∧d1<(b1.length:Int) then (if 0≤c1∧c1<(b1.length:Int) then (if b1.getD c1.toNat 0<b1.getD d1.toNat 0 then (if 0≤a1∧a1<(e1.length:Int) then (Aj.Tn K k g1 f1 h1 a1 b1 c1 (e1.set a1.toNat (w64 (0 - (e1.getD a1.toNat 0)))) (w64 (d1+1))) else none) else (Aj.Tn K k g1 f1 h1 a1 b1 c1 e1 (w64 (d1+1)))) else none) else none) else (Aj.Vz K k g1 f1 h1 a1 b1 (w64 (c1+1)) e1)
end
def Aj.f (K:Nat) (a1:List (List Aw)):Option (List (List Int)):=Aj.l1 K K a1 ([]:List (List Int)) 0
abbrev Aj.post (w0:World) (L:List Df) (r1:List (List Int)) (en:Ending) (w:World):Prop:=∃ (A_r0:Option Addr) (c_r1:Nat) (y_r2:Nat→(Ty.slice 2 (Ad .i64)).Lay),en=.returned (.slice A_r0 r1.length c_r1)∧St w0 w (Own (Ty.slice 2 (Ad .i64)) 26 A_r0 c_r1 y_r2 r1::L)
def Fx.l1 (K:Nat):Nat→(List Int)→Int→Int→Option (Bool)
  | 0,_,_,_=>none
  | k+1,list,n_,i_4=>if i_4<(list.length:Int) then (if 0≤i_4∧i_4<(list.length:Int) then (if list.getD i_4.toNat 0=n_ then (some true) else (Fx.l1 K k list n_ (w64 (i_4+1)))) else none) else (some false)
def Fx.f (K:Nat) (list:List Int) (n_:Int):Option (Bool):=Fx.l1 K K list n_ 0
abbrev Fx.post:=Js
def Ga.f (c1:Int) (a1:Int) (b1:List Int) (row:Int) (column:Int) (n_:Int):Option (List Int):=if 0≤w64 ((w64 (row * a1))+column)∧w64 ((w64 (row * a1))+column)<(b1.length:Int) then (some (b1.set ((w64 ((w64 (row * a1))+column)).toNat) (w64 ((b1.getD ((w64 ((w64 (row * a1))+column)).toNat) 0)+n_)))) else none
abbrev Ga.post (w0:World) (L:List Df) (A_a:Option Addr) (c_a:Nat) (r1:List Int) (en:Ending) (w:World):Prop:=en=.returned (.tuple #[])∧St w0 w (Own (Ad .i64) 2 A_a c_a (fun _=>()) r1::L)
mutual
def Ac.l1 (K:Nat):Nat→(List (List Aw))→Int→(List (List Int))→(List (List Int))→(List (List Int))→Int→Int→(List (List Int))→(List (List Int))→(List Int)→(List Int)→(List Int)→Int→Option (Int × Int × (List Int))
  | 0,_,_,_,_,_,_,_,_,_,_,_,_,_=>none
  | k+1,a1,o,t5,t6,t7,t40,t41,t51,t58,x2691,x2694,x2697,x2698=>(D7.f a1).bind fun t5321=>(if x2698<t5321 then (Ac.Tm K k a1 o t5 t6 t7 t40 t41 t51 t58 x2697 x2698 x2691 x2694 0) else (some (t40,t41,x2691)))
def Ac.Tm (K:Nat):Nat→(List (List Aw))→Int→(List (List Int))→(List (List Int))→(List (List Int))→Int→Int→(List (List Int))→(List (List Int))→(List Int)→Int→(List Int)→(List Int)→Int→Option (Int × Int × (List Int))
  | 0,_,_,_,_,_,_,_,_,_,_,_,_,_,_=>none
  | k+1,a1,o,t5,t6,t7,t40,t41,t51,t58,x2697,x2698,x5861,x5864,x5865=>if x5865<6 then (if o=1 then (if 0≤x2698∧x2698<(t6.length:Int) then (if 0≤x5865∧x5865<((t6.getD x2698.toNat []).length:Int) then ((Fx.f K x5864 ((t6.getD x2698.toNat []).getD x5865.toNat 0)).bind fun t6909=>(if t6909=true then (Ac.Tm K k a1 o t5 t6 t7 t40 t41 t51 t58 x2697 x2698 x5861 x5864 (w64 (x5865+1))) else (if (x5864.length+1) * 8≤140737488355328 then (Dz (H7.f x5865) (fun t6920 t6921=>(if 0≤x2698∧x2698<(t5.length:Int) then (if 0≤t6921∧t6921<((t5.getD x2698.toNat []).length:Int) then ((Ga.f t40 t41 x5861 ((t5.getD x2698.toNat []).getD t6921.toNat 0) ((t6.getD x2698.toNat []).getD x5865.toNat 0) 1).bind fun t6928=>(if t6928.length=x5861.length then (if 0≤t6920∧t6920<((t5.getD x2698.toNat []).length:Int) then ((Ga.f t40 t41 t6928 ((t5.getD x2698.toNat []).getD t6920.toNat 0) ((t6.getD x2698.toNat []).getD x5865.toNat 0) (-1)).bind fun t6935=>(if t6935.length=t6928.length then (Ac.Tm K k a1 o t5 t6 t7 t40 t41 t51 t58 x2697 x2698 t6935 (x5864++[(t6.getD x2698.toNat []).getD x5865.toNat 0]) (w64 (x5865+1))) else none)) else none) else none)) else none) else none))) else none))) else none) else none) else (Ac.Tj K k a1 o t5 t6 t7 t40 t41 t51 t58 x2698 x5864 x5861 x2697 0)) else (Ac.dD K k a1 o t5 t6 t7 t40 t41 t51 t58 x2698 x5864 x5861 x2697 0)
def Ac.Tj (K:Nat):Nat→(List (List Aw))→Int→(List (List Int))→(List (List Int))→(List (List Int))→Int→Int→(List (List Int))→(List (List Int))→Int→(List Int)→(List Int)→(List Int)→Int→Option (Int × Int × (List Int))
  | 0,_,_,_,_,_,_,_,_,_,_,_,_,_,_=>none
  | k+1,a1,o,t5,t6,t7,t40,t41,t51,t58,x2698,x5864,x7072,x7075,x7076=>if x7076<4 then (if o=2 then (if 0≤x2698∧x2698<(t7.length:Int) then (if 0≤x7076∧x7076<((t7.getD x2698.toNat []).length:Int) then ((Fx.f K x7075 ((t7.getD x2698.toNat []).getD x7076.toNat 0)).bind fun t7264=>(if t7264=true then (Ac.Tj K k a1 o t5 t6 t7 t40 t41 t51 t58 x2698 x5864 x7072 x7075 (w64 (x7076+1))) else (if (x7075.length+1) * 8≤140737488355328 then ((Fh.f K x7076).bind fun t7275=>(Ac.Zt K k a1 o t5 t6 t7 t40 t41 t51 t58 x2698 x5864 x7075 x7076 t7275 x7072 0)) else none))) else none) else none) else (Ac.Xo K k a1 o t5 t6 t7 t40 t41 t51 t58 x2698 x5864 x7075 x7072 0)) else (Ac.gX K k a1 o t5 t6 t7 t40 t41 t51 t58 x2698 x5864 x7075 x7072 0)
def Ac.Zt (K:Nat):Nat→(List (List Aw))→Int→(List (List Int))→(List (List Int))→(List (List Int))→Int→Int→(List (List Int))→(List (List Int))→Int→(List Int)→(List Int)→Int→(List Int)→(List Int)→Int→Option (Int × Int × (List Int))
  | 0,_,_,_,_,_,_,_,_,_,_,_,_,_,_,_,_=>none
  | k+1,a1,o,t5,t6,t7,t40,t41,t51,t58,x2698,x5864,x7075,x7076,t7275,x7299,x7300=>if x7300<3 then (if 0≤(w64 (x7300+1)).tmod 3∧(w64 (x7300+1)).tmod 3<(t7275.length:Int) then (if 0≤(w64 (x7300+2)).tmod 3∧(w64 (x7300+2)).tmod 3<(t7275.length:Int) then ((Eu.f K (t7275.getD (((w64 (x7300+1)).tmod 3).toNat) 0) (t7275.getD (((w64 (x7300+2)).tmod 3).toNat) 0)).bind fun t7328=>(if 0≤x2698∧x2698<(t51.length:Int) then (if 0≤t7328∧t7328<((t51.getD x2698.toNat []).length:Int) then (if x7300=1 then (Ac.bX K k a1 o t5 t6 t7 t40 t41 t51 t58 x2698 x5864 x7075 x7076 t7275 x7299 x7300 t7328 (w64 (0 - ((t51.getD x2698.toNat []).getD t7328.toNat 0)))) else (Ac.bX K k a1 o t5 t6 t7 t40 t41 t51 t58 x2698 x5864 x7075 x7076 t7275 x7299 x7300 t7328 ((t51.getD x2698.toNat []).getD t7328.toNat 0))) else none) else none)) else none) else none) else (Ac.Tj K k a1 o t5 t6 t7 t40 t41 t51 t58 x2698 x5864 x7299 (x7075++[(t7.getD x2698.toNat []).getD x7076.toNat 0]) (w64 (x7076+1)))
def Ac.bX (K:Nat):Nat→(List (List Aw))→Int→(List (List Int))→(List (List Int))→(List (List Int))→Int→Int→(List (List Int))→(List (List Int))→Int→(List Int)→(List Int)→Int→(List Int)→(List Int)→Int→Int→Int→Option (Int × Int × (List Int))
  | 0,_,_,_,_,_,_,_,_,_,_,_,_,_,_,_,_,_,_=>none
  | k+1,a1,o,t5,t6,t7,t40,t41,t51,t58,x2698,x5864,x7075,x7076,t7275,x7299,x7300,t7328,x7335=>if 0≤x2698∧x2698<(t6.length:Int) then (if 0≤t7328∧t7328<((t6.getD x2698.toNat []).length:Int) then ((Ga.f t40 t41 x7299 ((t6.getD x2698.toNat []).getD t7328.toNat 0) ((t7.getD x2698.toNat []).getD x7076.toNat 0) x7335).bind fun t7339=>(if t7339.length=x7299.length then (Ac.Zt K k a1 o t5 t6 t7 t40 t41 t51 t58 x2698 x5864 x7075 x7076 t7275 t7339 (w64 (x7300+1))) else none)) else none) else none
def Ac.Xo (K:Nat):Nat→(List (List Aw))→Int→(List (List Int))→(List (List Int))→(List (List Int))→Int→Int→(List (List Int))→(List (List Int))→Int→(List Int)→(List Int)→(List Int)→Int→Option (Int × Int × (List Int))
  | 0,_,_,_,_,_,_,_,_,_,_,_,_,_,_=>none
  | k+1,a1,o,t5,t6,t7,t40,t41,t51,t58,x2698,x5864,x7075,x7359,x7360=>if x7360<4 then (if o=3 then (if 0≤x2698∧x2698<(t58.length:Int) then (if 0≤x7360∧x7360<((t58.getD x2698.toNat []).length:Int) then (if x7360.tmod 2=1 then (Ac.aV K k a1 o t5 t6 t7 t40 t41 t51 t58 x2698 x5864 x7075 x7359 x7360 (w64 (0 - ((t58.getD x2698.toNat []).getD x7360.toNat 0)))) else (Ac.aV K k a1 o t5 t6 t7 t40 t41 t51 t58 x2698 x5864 x7075 x7359 x7360 ((t58.getD x2698.toNat []).getD x7360.toNat 0))) else none) else none) else (Ac.l1 K k a1 o t5 t6 t7 t40 t41 t51 t58 x7359 x5864 x7075 (w64 (x2698+1)))) else (Ac.l1 K k a1 o t5 t6 t7 t40 t41 t51 t58 x7359 x5864 x7075 (w64 (x2698+1)))
def Ac.aV (K:Nat):Nat→(List (List Aw))→Int→(List (List Int))→(List (List Int))→(List (List Int))→Int→Int→(List (List Int))→(List (List Int))→Int→(List Int)→(List Int)→(List Int)→Int→Int→Option (Int × Int × (List Int))
  | 0,_,_,_,_,_,_,_,_,_,_,_,_,_,_,_=>none
  | k+1,a1,o,t5,t6,t7,t40,t41,t51,t58,x2698,x5864,x7075,x7359,x7360,x7383=>if 0≤x2698∧x2698<(t7.length:Int) then (if 0≤x7360∧x7360<((t7.getD x2698.toNat []).length:Int) then ((Ga.f t40 t41 x7359 ((t7.getD x2698.toNat []).getD x7360.toNat 0) x2698 x7383).bind fun t7387=>(if t7387.length=x7359.length then (Ac.Xo K k a1 o t5 t6 t7 t40 t41 t51 t58 x2698 x5864 x7075 t7387 (w64 (x7360+1))) else none)) else none) else none
def Ac.gX (K:Nat):Nat→(List (List Aw))→Int→(List (List Int))→(List (List Int))→(List (List Int))→Int→Int→(List (List Int))→(List (List Int))→Int→(List Int)→(List Int)→(List Int)→Int→Option (Int × Int × (List Int))
  | 0,_,_,_,_,_,_,_,_,_,_,_,_,_,_=>none
  | k+1,a1,o,t5,t6,t7,t40,t41,t51,t58,x2698,x5864,x7075,x7407,x7408=>if x7408<4 then (if o=3 then (if 0≤x2698∧x2698<(t58.length:Int) then (if 0≤x7408∧x7408<((t58.getD x2698.toNat []).length:Int) then (if x7408.tmod 2=1 then (Ac.jT K k a1 o t5 t6 t7 t40 t41 t51 t58 x2698 x5864 x7075 x7407 x7408 (w64 (0 - ((t58.getD x2698.toNat []).getD x7408.toNat 0)))) else (Ac.jT K k a1 o t5 t6 t7 t40 t41 t51 t58 x2698 x5864 x7075 x7407 x7408 ((t58.getD x2698.toNat []).getD x7408.toNat 0))) else none) else none) else (Ac.l1 K k a1 o t5 t6 t7 t40 t41 t51 t58 x7407 x5864 x7075 (w64 (x2698+1)))) else (Ac.l1 K k a1 o t5 t6 t7 t40 t41 t51 t58 x7407 x5864 x7075 (w64 (x2698+1)))
def Ac.jT (K:Nat):Nat→(List (List Aw))→Int→(List (List Int))→(List (List Int))→(List (List Int))→Int→Int→(List (List Int))→(List (List Int))→Int→(List Int)→(List Int)→(List Int)→Int→Int→Option (Int × Int × (List Int))
  | 0,_,_,_,_,_,_,_,_,_,_,_,_,_,_,_=>none
  | k+1,a1,o,t5,t6,t7,t40,t41,t51,t58,x2698,x5864,x7075,x7407,x7408,x7431=>if 0≤x2698∧x2698<(t7.length:Int) then (if 0≤x7408∧x7408<((t7.getD x2698.toNat []).length:Int) then ((Ga.f t40 t41 x7407 ((t7.getD x2698.toNat []).getD x7408.toNat 0) x2698 x7431).bind fun t7435=>(if t7435.length=x7407.length then (Ac.gX K k a1 o t5 t6 t7 t40 t41 t51 t58 x2698 x5864 x7075 t7435 (w64 (x7408+1))) else none)) else none) else none
def Ac.dD (K:Nat):Nat→(List (List Aw))→Int→(List (List Int))→(List (List Int))→(List (List Int))→Int→Int→(List (List Int))→(List (List Int))→Int→(List Int)→(List Int)→(List Int)→Int→Option (Int × Int × (List Int))
  | 0,_,_,_,_,_,_,_,_,_,_,_,_,_,_=>none
  | k+1,a1,o,t5,t6,t7,t40,t41,t51,t58,x2698,x5864,x7573,x7576,x7577=>if x7577<4 then (if o=2 then (if 0≤x2698∧x2698<(t7.length:Int) then (if 0≤x7577∧x7577<((t7.getD x2698.toNat []).length:Int) then ((Fx.f K x7576 ((t7.getD x2698.toNat []).getD x7577.toNat 0)).bind fun t7765=>(if t7765=true then (Ac.dD K k a1 o t5 t6 t7 t40 t41 t51 t58 x2698 x5864 x7573 x7576 (w64 (x7577+1))) else (if (x7576.length+1) * 8≤140737488355328 then ((Fh.f K x7577).bind fun t7776=>(Ac.iP K k a1 o t5 t6 t7 t40 t41 t51 t58 x2698 x5864 x7576 x7577 t7776 x7573 0)) else none))) else none) else none) else (Ac.gJ K k a1 o t5 t6 t7 t40 t41 t51 t58 x2698 x5864 x7576 x7573 0)) else (Ac.kI K k a1 o t5 t6 t7 t40 t41 t51 t58 x2698 x5864 x7576 x7573 0)
def Ac.iP (K:Nat):Nat→(List (List Aw))→Int→(List (List Int))→(List (List Int))→(List (List Int))→Int→Int→(List (List Int))→(List (List Int))→Int→(List Int)→(List Int)→Int→(List Int)→(List Int)→Int→Option (Int × Int × (List Int))
  | 0,_,_,_,_,_,_,_,_,_,_,_,_,_,_,_,_=>none
  | k+1,a1,o,t5,t6,t7,t40,t41,t51,t58,x2698,x5864,x7576,x7577,t7776,x7800,x7801=>if x7801<3 then (if 0≤(w64 (x7801+1)).tmod 3∧(w64 (x7801+1)).tmod 3<(t7776.length:Int) then (if 0≤(w64 (x7801+2)).tmod 3∧(w64 (x7801+2)).tmod 3<(t7776.length:Int) then ((Eu.f K (t7776.getD (((w64 (x7801+1)).tmod 3).toNat) 0) (t7776.getD (((w64 (x7801+2)).tmod 3).toNat) 0)).bind fun t7829=>(if 0≤x2698∧x2698<(t51.length:Int) then (if 0≤t7829∧t7829<((t51.getD x2698.toNat []).length:Int) then (if x7801=1 then (Ac.jB K k a1 o t5 t6 t7 t40 t41 t51 t58 x2698 x5864 x7576 x7577 t7776 x7800 x7801 t7829 (w64 (0 - ((t51.getD x2698.toNat []).getD t7829.toNat 0)))) else (Ac.jB K k a1 o t5 t6 t7 t40 t41 t51 t58 x2698 x5864 x7576 x7577 t7776 x7800 x7801 t7829 ((t51.getD x2698.toNat []).getD t7829.toNat 0))) else none) else none)) else none) else none) else (Ac.dD K k a1 o t5 t6 t7 t40 t41 t51 t58 x2698 x5864 x7800 (x7576++[(t7.getD x2698.toNat []).getD x7577.toNat 0]) (w64 (x7577+1)))
def Ac.jB (K:Nat):Nat→(List (List Aw))→Int→(List (List Int))→(List (List Int))→(List (List Int))→Int→Int→(List (List Int))→(List (List Int))→Int→(List Int)→(List Int)→Int→(List Int)→(List Int)→Int→Int→Int→Option (Int × Int × (List Int))
  | 0,_,_,_,_,_,_,_,_,_,_,_,_,_,_,_,_,_,_=>none
  | k+1,a1,o,t5,t6,t7,t40,t41,t51,t58,x2698,x5864,x7576,x7577,t7776,x7800,x7801,t7829,x7836=>if 0≤x2698∧x2698<(t6.length:Int) then (if 0≤t7829∧t7829<((t6.getD x2698.toNat []).length:Int) then ((Ga.f t40 t41 x7800 ((t6.getD x2698.toNat []).getD t7829.toNat 0) ((t7.getD x2698.toNat []).getD x7577.toNat 0) x7836).bind fun t7840=>(if t7840.length=x7800.length then (Ac.iP K k a1 o t5 t6 t7 t40 t41 t51 t58 x2698 x5864 x7576 x7577 t7776 t7840 (w64 (x7801+1))) else none)) else none) else none
def Ac.gJ (K:Nat):Nat→(List (List Aw))→Int→(List (List Int))→(List (List Int))→(List (List Int))→Int→Int→(List (List Int))→(List (List Int))→Int→(List Int)→(List Int)→(List Int)→Int→Option (Int × Int × (List Int))
  | 0,_,_,_,_,_,_,_,_,_,_,_,_,_,_=>none
  | k+1,a1,o,t5,t6,t7,t40,t41,t51,t58,x2698,x5864,x7576,x7860,x7861=>if x7861<4 then (if o=3 then (if 0≤x2698∧x2698<(t58.length:Int) then (if 0≤x7861∧x7861<((t58.getD x2698.toNat []).length:Int) then (if x7861.tmod 2=1 then (Ac.mR K k a1 o t5 t6 t7 t40 t41 t51 t58 x2698 x5864 x7576 x7860 x7861 (w64 (0 - ((t58.getD x2698.toNat []).getD x7861.toNat 0)))) else (Ac.mR K k a1 o t5 t6 t7 t40 t41 t51 t58 x2698 x5864 x7576 x7860 x7861 ((t58.getD x2698.toNat []).getD x7861.toNat 0))) else none) else none) else (Ac.l1 K k a1 o t5 t6 t7 t40 t41 t51 t58 x7860 x5864 x7576 (w64 (x2698+1)))) else (Ac.l1 K k a1 o t5 t6 t7 t40 t41 t51 t58 x7860 x5864 x7576 (w64 (x2698+1)))
def Ac.mR (K:Nat):Nat→(List (List Aw))→Int→(List (List Int))→(List (List Int))→(List (List Int))→Int→Int→(List (List Int))→(List (List Int))→Int→(List Int)→(List Int)→(List Int)→Int→Int→Option (Int × Int × (List Int))
  | 0,_,_,_,_,_,_,_,_,_,_,_,_,_,_,_=>none
  | k+1,a1,o,t5,t6,t7,t40,t41,t51,t58,x2698,x5864,x7576,x7860,x7861,x7884=>if 0≤x2698∧x2698<(t7.length:Int) then (if 0≤x7861∧x7861<((t7.getD x2698.toNat []).length:Int) then ((Ga.f t40 t41 x7860 ((t7.getD x2698.toNat []).getD x7861.toNat 0) x2698 x7884).bind fun t7888=>(if t7888.length=x7860.length then (Ac.gJ K k a1 o t5 t6 t7 t40 t41 t51 t58 x2698 x5864 x7576 t7888 (w64 (x7861+1))) else none)) else none) else none
def Ac.kI (K:Nat):Nat→(List (List Aw))→Int→(List (List Int))→(List (List Int))→(List (List Int))→Int→Int→(List (List Int))→(List (List Int))→Int→(List Int)→(List Int)→(List Int)→Int→Option (Int × Int × (List Int))
  | 0,_,_,_,_,_,_,_,_,_,_,_,_,_,_=>none
  | k+1,a1,o,t5,t6,t7,t40,t41,t51,t58,x2698,x5864,x7576,x7908,x7909=>if x7909<4 then (if o=3 then (if 0≤x2698∧x2698<(t58.length:Int) then (if 0≤x7909∧x7909<((t58.getD x2698.toNat []).length:Int) then (if x7909.tmod 2=1 then (Ac.lJ K k a1 o t5 t6 t7 t40 t41 t51 t58 x2698 x5864 x7576 x7908 x7909 (w64 (0 - ((t58.getD x2698.toNat []).getD x7909.toNat 0)))) else (Ac.lJ K k a1 o t5 t6 t7 t40 t41 t51 t58 x2698 x5864 x7576 x7908 x7909 ((t58.getD x2698.toNat []).getD x7909.toNat 0))) else none) else none) else (Ac.l1 K k a1 o t5 t6 t7 t40 t41 t51 t58 x7908 x5864 x7576 (w64 (x2698+1)))) else (Ac.l1 K k a1 o t5 t6 t7 t40 t41 t51 t58 x7908 x5864 x7576 (w64 (x2698+1)))
def Ac.lJ (K:Nat):Nat→(List (List Aw))→Int→(List (List Int))→(List (List Int))→(List (List Int))→Int→Int→(List (List Int))→(List (List Int))→Int→(List Int)→(List Int)→(List Int)→Int→Int→Option (Int × Int × (List Int))
  | 0,_,_,_,_,_,_,_,_,_,_,_,_,_,_,_=>none
  | k+1,a1,o,t5,t6,t7,t40,t41,t51,t58,x2698,x5864,x7576,x7908,x7909,x7932=>if 0≤x2698∧x2698<(t7.length:Int) then (if 0≤x7909∧x7909<((t7.getD x2698.toNat []).length:Int) then ((Ga.f t40 t41 x7908 ((t7.getD x2698.toNat []).getD x7909.toNat 0) x2698 x7932).bind fun t7936=>(if t7936.length=x7908.length then (Ac.kI K k a1 o t5 t6 t7 t40 t41 t51 t58 x2698 x5864 x7576 t7936 (w64 (x7909+1))) else none)) else none) else none
end
def Ac.f (K:Nat) (a1:List (List Aw)) (o:Int):Option (Int × Int × (List Int)):=Gs (Bl.f K a1) (fun t5 t6 t7 t8=>(if 0≤(0:Int)∧(0:Int)<(t8.length:Int) then (if 0≤(1:Int)∧(1:Int)<(t8.length:Int) then (if 0≤(2:Int)∧(2:Int)<(t8.length:Int) then (if 0≤(3:Int)∧(3:Int)<(t8.length:Int) then (if 0≤o∧o<(([0,t8.getD 0 0,t8.getD 1 0,t8.getD 2 0,t8.getD 3 0,0]:List Int).length:Int) then (if 0≤w64 (o+1)∧w64 (o+1)<(([0,t8.getD 0 0,t8.getD 1 0,t8.getD 2 0,t8.getD 3 0,0]:List Int).length:Int) then (Fe (Hu.f (([0,t8.getD 0 0,t8.getD 1 0,t8.getD 2 0,t8.getD 3 0,0]:List Int).getD o.toNat 0) (([0,t8.getD 0 0,t8.getD 1 0,t8.getD 2 0,t8.getD 3 0,0]:List Int).getD ((w64 (o+1)).toNat) 0)) (fun t40 t41 t42=>((Am.f K a1).bind fun t51=>((Aj.f K a1).bind fun t58=>(Ac.l1 K K a1 o t5 t6 t7 t40 t41 t51 t58 t42 ([]:List Int) ([]:List Int) 0))))) else none) else none) else none) else none) else none) else none))
abbrev Ac.post (w0:World) (L:List Df) (r1 r2:Int) (r3:List Int) (en:Ending) (w:World):Prop:=∃ (A_r0:Option Addr) (c_r1:Nat),en=.returned (.agg [.int .i64 r1,.int .i64 r2,.slice A_r0 r3.length c_r1].toArray)∧St w0 w (Own (Ad .i64) 2 A_r0 c_r1 (fun _=>()) r3::L)
def Ik.f (n_:Int) (low:Int) (high:Int):Option (Bool):=if low≤n_ then (some (decide (n_≤high))) else (some false)
abbrev Ik.post:=Js
def Eg.l1 (K:Nat):Nat→(List Int)→Int→Option (Bool)
  | 0,_,_=>none
  | k+1,b1,a1=>if a1<(b1.length:Int) then (if 0≤a1∧a1<(b1.length:Int) then ((Ik.f (b1.getD a1.toNat 0) (-1000000000000) 1000000000000).bind fun t41=>(if t41=true then (Eg.l1 K k b1 (w64 (a1+1))) else (some false))) else none) else (some true)
def Eg.f (K:Nat) (a1:Int) (c1:Int) (b1:List Int):Option (Bool):=(Ik.f a1 0 48).bind fun t13=>(if t13=true then ((Ik.f c1 0 48).bind fun t18=>(if t18=true then (if (b1.length:Int)=w64 (a1 * c1) then (Eg.l1 K K b1 0) else (some false)) else (some false))) else (some false))
abbrev Eg.post:=Js
def Cv.f (c1:Int) (a1:Int) (b1:List Int) (row:Int) (column:Int):Option (Int):=if 0≤w64 ((w64 (row * a1))+column)∧w64 ((w64 (row * a1))+column)<(b1.length:Int) then (some (b1.getD ((w64 ((w64 (row * a1))+column)).toNat) 0)) else none
abbrev Cv.post:=Jq
def G6.f (n_:Int):Option (Int):=some (if w64 (0 - n_) > n_ then w64 (0 - n_) else n_)
abbrev G6.post:=Jq
def Ir.f (a_:Int) (b_:Int) (most:Int):Option (Int × Bool):=if a_=0 then (some (w64 (a_ * b_),true)) else ((G6.f b_).bind fun t12=>((G6.f a_).bind fun t16=>(if t16=0 then none else (if w64 (most.tdiv t16)<t12 then (some (0,false)) else (some (w64 (a_ * b_),true))))))
abbrev Ir.post (w0:World) (L:List Df) (r1:Int) (r2:Bool) (en:Ending) (w:World):Prop:=en=.returned (.tuple #[.int .i64 r1,.bool r2])∧St w0 w (L)
mutual
def Bq.l1 (K:Nat):Nat→Int→Int→(List Int)→Int→Int→(List Int)→Int→Int→(List Int)→Int→Option (Int × Int × (List Int) × Bool)
  | 0,_,_,_,_,_,_,_,_,_,_=>none
  | k+1,c1,g1,h1,f1,d1,e1,t7,t8,b1,a1=>if a1<c1 then (Bq.l10 K k c1 g1 h1 f1 d1 e1 t7 t8 a1 b1 0) else (some (t7,t8,b1,true))
def Bq.l10 (K:Nat):Nat→Int→Int→(List Int)→Int→Int→(List Int)→Int→Int→Int→(List Int)→Int→Option (Int × Int × (List Int) × Bool)
  | 0,_,_,_,_,_,_,_,_,_,_,_=>none
  | k+1,i1,g1,h1,f1,a1,e1,t7,t8,b1,d1,c1=>if c1<a1 then (Bq.l13 K k i1 g1 h1 f1 a1 e1 t7 t8 b1 d1 c1 0 0 0) else (Bq.l1 K k i1 g1 h1 f1 a1 e1 t7 t8 d1 (w64 (b1+1)))
def Bq.l13 (K:Nat):Nat→Int→Int→(List Int)→Int→Int→(List Int)→Int→Int→Int→(List Int)→Int→Int→Int→Int→Option (Int × Int × (List Int) × Bool)
  | 0,_,_,_,_,_,_,_,_,_,_,_,_,_,_=>none
  | k+1,k1,e1,i1,h1,b1,g1,t7,t8,a1,f1,c1,m1,n1,d1=>if d1<e1 then ((Cv.f k1 e1 i1 a1 d1).bind fun t718=>((Cv.f h1 b1 g1 d1 c1).bind fun t722=>(Dz (Ir.f t718 t722 1000000000000) (fun t726 t727=>((G6.f t726).bind fun t731=>(if t727=true then (if 1000000000000<w64 (n1+t731) then (some (0,0,([]:List Int),false)) else (Bq.l13 K k k1 e1 i1 h1 b1 g1 t7 t8 a1 f1 c1 (w64 (m1+t726)) (w64 (n1+t731)) (w64 (d1+1)))) else (some (0,0,([]:List Int),false)))))))) else (if 0≤w64 ((w64 (a1 * b1))+c1)∧w64 ((w64 (a1 * b1))+c1)<(f1.length:Int) then (Bq.l10 K k k1 e1 i1 h1 b1 g1 t7 t8 a1 (f1.set ((w64 ((w64 (a1 * b1))+c1)).toNat) m1) (w64 (c1+1))) else none)
end
def Bq.f (K:Nat) (b1:Int) (e1:Int) (f1:List Int) (d1:Int) (a1:Int) (c1:List Int):Option (Int × Int × (List Int) × Bool):=Fe (Hu.f b1 a1) (fun t7 t8 t9=>(Bq.l1 K K b1 e1 f1 d1 a1 c1 t7 t8 t9 0))
abbrev Bq.post (w0:World) (L:List Df) (r1 r2:Int) (r3:List Int) (r4:Bool) (en:Ending) (w:World):Prop:=∃ (A_r0:Option Addr) (c_r1:Nat),en=.returned (.tuple #[.agg [.int .i64 r1,.int .i64 r2,.slice A_r0 r3.length c_r1].toArray,.bool r4])∧St w0 w (Own (Ad .i64) 2 A_r0 c_r1 (fun _=>()) r3::L)
def F5.l1 (K:Nat):Nat→(List Int)→(List Int)→Int→Option (Bool)
  | 0,_,_,_=>none
  | k+1,b1,c1,a1=>if a1<(b1.length:Int) then (if 0≤a1∧a1<(b1.length:Int) then (if 0≤a1∧a1<(c1.length:Int) then (if b1.getD a1.toNat 0=c1.getD a1.toNat 0 then (F5.l1 K k b1 c1 (w64 (a1+1))) else (some false)) else none) else none) else (some true)
def F5.f (K:Nat) (f1:Int) (e1:Int) (b1:List Int) (d1:Int) (c1:Int) (a1:List Int):Option (Bool):=if f1=d1 then (if e1=c1 then (if (b1.length:Int)=(a1.length:Int) then (F5.l1 K K b1 a1 0) else (some false)) else (some false)) else (some false)
abbrev F5.post:=Js
def Fq.l1 (K:Nat):Nat→Int→Int→Int→(List Int)→Int→Option (Int × Int × (List Int))
  | 0,_,_,_,_,_=>none
  | k+1,n_,t3,t4,b1,a1=>if a1<n_ then (if 0≤w64 ((w64 (a1 * n_))+a1)∧w64 ((w64 (a1 * n_))+a1)<(b1.length:Int) then (Fq.l1 K k n_ t3 t4 (b1.set ((w64 ((w64 (a1 * n_))+a1)).toNat) 1) (w64 (a1+1))) else none) else (some (t3,t4,b1))
def Fq.f (K:Nat) (n_:Int):Option (Int × Int × (List Int)):=Fe (Hu.f n_ n_) (fun t3 t4 t5=>(Fq.l1 K K n_ t3 t4 t5 0))
abbrev Fq.post (w0:World) (L:List Df) (r1 r2:Int) (r3:List Int) (en:Ending) (w:World):Prop:=∃ (A_r0:Option Addr) (c_r1:Nat),en=.returned (.agg [.int .i64 r1,.int .i64 r2,.slice A_r0 r3.length c_r1].toArray)∧St w0 w (Own (Ad .i64) 2 A_r0 c_r1 (fun _=>()) r3::L)
def E8.l1 (K:Nat):Nat→Int→Int→Int→Int→(List Int)→Int→Option (List Int)
  | 0,_,_,_,_,_,_=>none
  | k+1,c1,b1,a_,b_,x17,a1=>if a1<b1 then ((Cv.f c1 b1 x17 a_ a1).bind fun t34=>((Cv.f c1 b1 x17 b_ a1).bind fun t38=>(if 0≤w64 ((w64 (a_ * b1))+a1)∧w64 ((w64 (a_ * b1))+a1)<(x17.length:Int) then (if 0≤w64 ((w64 (b_ * b1))+a1)∧w64 ((w64 (b_ * b1))+a1)<((x17.set ((w64 ((w64 (a_ * b1))+a1)).toNat) t38).length:Int) then (E8.l1 K k c1 b1 a_ b_ ((x17.set ((w64 ((w64 (a_ * b1))+a1)).toNat) t38).set ((w64 ((w64 (b_ * b1))+a1)).toNat) t34) (w64 (a1+1))) else none) else none))) else (some x17)
def E8.f (K:Nat) (a1:Int) (c1:Int) (b1:List Int) (a_:Int) (b_:Int):Option (List Int):=E8.l1 K K a1 c1 a_ b_ b1 0
abbrev E8.post (w0:World) (L:List Df) (A_a:Option Addr) (c_a:Nat) (r1:List Int) (en:Ending) (w:World):Prop:=en=.returned (.tuple #[])∧St w0 w (Own (Ad .i64) 2 A_a c_a (fun _=>()) r1::L)
def D8.l1 (K:Nat):Nat→Int→Int→Int→Int→(List Int)→Int→Option (List Int)
  | 0,_,_,_,_,_,_=>none
  | k+1,c1,b1,a_,b_,x17,a1=>if a1<c1 then ((Cv.f c1 b1 x17 a1 a_).bind fun t34=>((Cv.f c1 b1 x17 a1 b_).bind fun t38=>(if 0≤w64 ((w64 (a1 * b1))+a_)∧w64 ((w64 (a1 * b1))+a_)<(x17.length:Int) then (if 0≤w64 ((w64 (a1 * b1))+b_)∧w64 ((w64 (a1 * b1))+b_)<((x17.set ((w64 ((w64 (a1 * b1))+a_)).toNat) t38).length:Int) then (D8.l1 K k c1 b1 a_ b_ ((x17.set ((w64 ((w64 (a1 * b1))+a_)).toNat) t38).set ((w64 ((w64 (a1 * b1))+b_)).toNat) t34) (w64 (a1+1))) else none) else none))) else (some x17)
def D8.f (K:Nat) (a1:Int) (c1:Int) (b1:List Int) (a_:Int) (b_:Int):Option (List Int):=D8.l1 K K a1 c1 a_ b_ b1 0
abbrev D8.post (w0:World) (L:List Df) (A_a:Option Addr) (c_a:Nat) (r1:List Int) (en:Ending) (w:World):Prop:=en=.returned (.tuple #[])∧St w0 w (Own (Ad .i64) 2 A_a c_a (fun _=>()) r1::L)
mutual
def Bp.l1 (K:Nat):Nat→Int→Int→(List Int)→Int→Int→(List Int)→Int→Int→(List Int)→Int→Int→(List Int)→Int→Int→(List Int)→Int→Int→Int→Int→Option (Bool × (List Int) × (List Int) × (List Int) × (List Int) × (List Int))
  | 0,_,_,_,_,_,_,_,_,_,_,_,_,_,_,_,_,_,_,_=>none
  | k+1,a1,b1,e1,n1,o1,h1,k1,m1,g1,p1,q1,d1,r1,s1,f1,o,c1,i1,x78=>if x78<a1 then (Bp.l8 K k a1 b1 e1 n1 o1 h1 k1 m1 g1 p1 q1 d1 r1 s1 f1 o x78 c1 i1 o) else (if c1<0 then (some (false,e1,h1,g1,d1,f1)) else ((E8.f K a1 b1 e1 c1 o).bind fun t474=>(if t474.length=e1.length then ((E8.f K n1 o1 h1 c1 o).bind fun t479=>(if t479.length=h1.length then ((D8.f K k1 m1 g1 c1 o).bind fun t484=>(if t484.length=g1.length then ((D8.f K a1 b1 t474 i1 o).bind fun t489=>(if t489.length=t474.length then ((D8.f K p1 q1 d1 i1 o).bind fun t494=>(if t494.length=d1.length then ((E8.f K r1 s1 f1 i1 o).bind fun t499=>(if t499.length=f1.length then ((Cv.f a1 b1 t489 o o).bind fun t504=>(if t504<0 then (Bp.l9 K k a1 b1 n1 o1 k1 m1 o t479 t484 t494 t499 t489 0) else (some (true,t489,t479,t484,t494,t499)))) else none)) else none)) else none)) else none)) else none)) else none)))
def Bp.l8 (K:Nat):Nat→Int→Int→(List Int)→Int→Int→(List Int)→Int→Int→(List Int)→Int→Int→(List Int)→Int→Int→(List Int)→Int→Int→Int→Int→Int→Option (Bool × (List Int) × (List Int) × (List Int) × (List Int) × (List Int))
  | 0,_,_,_,_,_,_,_,_,_,_,_,_,_,_,_,_,_,_,_,_=>none
  | k+1,c1,a1,b1,q1,r1,n1,g1,p1,m1,d1,f1,e1,i1,o1,k1,o,x78,h1,s1,x412=>if x412<a1 then ((Cv.f c1 a1 b1 x78 x412).bind fun t444=>((G6.f t444).bind fun t448=>(if 0<t448 then (if h1<0 then (Bp.l8 K k c1 a1 b1 q1 r1 n1 g1 p1 m1 d1 f1 e1 i1 o1 k1 o x78 x78 x412 (w64 (x412+1))) else ((Cv.f c1 a1 b1 h1 s1).bind fun t464=>((G6.f t464).bind fun t468=>(if t448<t468 then (Bp.l8 K k c1 a1 b1 q1 r1 n1 g1 p1 m1 d1 f1 e1 i1 o1 k1 o x78 x78 x412 (w64 (x412+1))) else (Bp.l8 K k c1 a1 b1 q1 r1 n1 g1 p1 m1 d1 f1 e1 i1 o1 k1 o x78 h1 s1 (w64 (x412+1))))))) else (Bp.l8 K k c1 a1 b1 q1 r1 n1 g1 p1 m1 d1 f1 e1 i1 o1 k1 o x78 h1 s1 (w64 (x412+1)))))) else (Bp.l1 K k c1 a1 b1 q1 r1 n1 g1 p1 m1 d1 f1 e1 i1 o1 k1 o h1 s1 (w64 (x78+1)))
def Bp.l9 (K:Nat):Nat→Int→Int→Int→Int→Int→Int→Int→(List Int)→(List Int)→(List Int)→(List Int)→(List Int)→Int→Option (Bool × (List Int) × (List Int) × (List Int) × (List Int) × (List Int))
  | 0,_,_,_,_,_,_,_,_,_,_,_,_,_=>none
  | k+1,c1,a1,e1,f1,b1,d1,o,t479,t484,t494,t499,x565,x566=>if x566<a1 then ((Cv.f c1 a1 x565 o x566).bind fun t624=>(if 0≤w64 ((w64 (o * a1))+x566)∧w64 ((w64 (o * a1))+x566)<(x565.length:Int) then (Bp.l9 K k c1 a1 e1 f1 b1 d1 o t479 t484 t494 t499 (x565.set ((w64 ((w64 (o * a1))+x566)).toNat) (w64 (0 - t624))) (w64 (x566+1))) else none)) else (Bp.l12 K k e1 f1 b1 d1 o t494 t499 x565 t479 t484 0)
def Bp.l12 (K:Nat):Nat→Int→Int→Int→Int→Int→(List Int)→(List Int)→(List Int)→(List Int)→(List Int)→Int→Option (Bool × (List Int) × (List Int) × (List Int) × (List Int) × (List Int))
  | 0,_,_,_,_,_,_,_,_,_,_,_=>none
  | k+1,d1,a1,c1,b1,o,t494,t499,x565,x646,x647,x648=>if x648<a1 then ((Cv.f d1 a1 x646 o x648).bind fun t665=>(if 0≤w64 ((w64 (o * a1))+x648)∧w64 ((w64 (o * a1))+x648)<(x646.length:Int) then ((Cv.f c1 b1 x647 x648 o).bind fun t672=>(if 0≤w64 ((w64 (x648 * b1))+o)∧w64 ((w64 (x648 * b1))+o)<(x647.length:Int) then (Bp.l12 K k d1 a1 c1 b1 o t494 t499 x565 (x646.set ((w64 ((w64 (o * a1))+x648)).toNat) (w64 (0 - t665))) (x647.set ((w64 ((w64 (x648 * b1))+o)).toNat) (w64 (0 - t672))) (w64 (x648+1))) else none)) else none)) else (some (true,x565,x646,x647,t494,t499))
end
def Bp.f (K:Nat) (g1:Int) (a1:Int) (e1:List Int) (p1:Int) (q1:Int) (m1:List Int) (f1:Int) (o1:Int) (k1:List Int) (b1:Int) (d1:Int) (c1:List Int) (h1:Int) (n1:Int) (i1:List Int) (r1:Bool) (o:Int):Option (Bool × (List Int) × (List Int) × (List Int) × (List Int) × (List Int)):=Bp.l1 K K g1 a1 e1 p1 q1 m1 f1 o1 k1 b1 d1 c1 h1 n1 i1 o (-1) (-1) o
abbrev Bp.post (w0:World) (L:List Df) (t_d_Rows t_d_Columns:Int) (t_l_Rows t_l_Columns:Int) (t_li_Rows t_li_Columns:Int) (t_r_Rows t_r_Columns:Int) (t_ri_Rows t_ri_Columns:Int) (t_bad:Bool) (b_t:Nat) (A_a:Option Addr) (c_a:Nat) (A_b:Option Addr) (c_b:Nat) (A_c:Option Addr) (c_c:Nat) (A_d:Option Addr) (c_d:Nat) (A_e:Option Addr) (c_e:Nat) (r1:Bool) (r2 r3:List Int) (r4 r5 r6:List Int) (en:Ending) (w:World):Prop:=en=.returned (.bool r1)∧St w0 w (Box b_t 124 [.int .i64 t_d_Rows,.int .i64 t_d_Columns,.slice A_a r2.length c_a,.int .i64 t_l_Rows,.int .i64 t_l_Columns,.slice A_b r3.length c_b,.int .i64 t_li_Rows,.int .i64 t_li_Columns,.slice A_c r4.length c_c,.int .i64 t_r_Rows,.int .i64 t_r_Columns,.slice A_d r5.length c_d,.int .i64 t_ri_Rows,.int .i64 t_ri_Columns,.slice A_e r6.length c_e,.bool t_bad]::Own (Ad .i64) 2 A_a c_a (fun _=>()) r2::Own (Ad .i64) 2 A_b c_b (fun _=>()) r3::Own (Ad .i64) 2 A_c c_c (fun _=>()) r4::Own (Ad .i64) 2 A_d c_d (fun _=>()) r5::Own (Ad .i64) 2 A_e c_e (fun _=>()) r6::L)
def Ja.f (a_:Int) (b_:Int):Option (Int):=if b_=0 then none else (if a_.tmod b_<0 then (some (w64 ((w64 (a_.tdiv b_)) - 1))) else (some (w64 (a_.tdiv b_))))
abbrev Ja.post:=Jq
def Jp.f (a_:Int) (q:Int) (x:Int):Option (Int):=Dz (Ir.f q x 2000000000000) (fun t1 t2=>(if t2=true then (some (w64 (a_ - t1))) else (some 3000000000000)))
abbrev Jp.post:=Jq
def Jr.f (c1:Bool) (d1:Int) (b1:Int) (a1:List Int) (i:Int) (j_:Int) (x:Int):Option (Bool × (List Int)):=(G6.f x).bind fun t3=>(if 1000000000000<t3 then (some (true,a1)) else (if 0≤w64 ((w64 (i * b1))+j_)∧w64 ((w64 (i * b1))+j_)<(a1.length:Int) then (some (c1,(a1.set ((w64 ((w64 (i * b1))+j_)).toNat) x))) else none))
abbrev Jr.post (w0:World) (L:List Df) (b_w_:Nat) (o0_b_w_ o1_b_w_:Value) (o2_b_w_ o3_b_w_:Value) (o4_b_w_ o5_b_w_:Value) (o6_b_w_ o7_b_w_:Value) (o8_b_w_ o9_b_w_:Value) (o10_b_w_ o11_b_w_:Value) (o12_b_w_ o13_b_w_ o14_b_w_:Value) (A_a:Option Addr) (c_a:Nat) (r1:Bool) (r2:List Int) (en:Ending) (w:World):Prop:=en=.returned (.tuple #[])∧St w0 w (Box b_w_ 124 [o0_b_w_,o1_b_w_,o2_b_w_,o3_b_w_,o4_b_w_,o5_b_w_,o6_b_w_,o7_b_w_,o8_b_w_,o9_b_w_,o10_b_w_,o11_b_w_,o12_b_w_,o13_b_w_,o14_b_w_,.bool r1]::Own (Ad .i64) 2 A_a c_a (fun _=>()) r2::L)
def Ea.l1 (K:Nat):Nat→Int→Int→Int→Int→Int→Bool→(List Int)→Int→Option (Bool × (List Int))
  | 0,_,_,_,_,_,_,_,_=>none
  | k+1,c1,b1,i,k_,q,x24,x25,a1=>if a1<b1 then (if x24=true then (some (x24,x25)) else ((Cv.f c1 b1 x25 i a1).bind fun t51=>((Cv.f c1 b1 x25 k_ a1).bind fun t55=>((Jp.f t51 q t55).bind fun t59=>(Dz (Jr.f x24 c1 b1 x25 i a1 t59) (fun t63 t64=>(if t64.length=x25.length then (Ea.l1 K k c1 b1 i k_ q t63 t64 (w64 (a1+1))) else none))))))) else (some (x24,x25))
def Ea.f (K:Nat) (b1:Bool) (a1:Int) (d1:Int) (c1:List Int) (i:Int) (k_:Int) (q:Int):Option (Bool × (List Int)):=Ea.l1 K K a1 d1 i k_ q b1 c1 0
abbrev Ea.post (w0:World) (L:List Df) (b_w_:Nat) (o0_b_w_ o1_b_w_:Value) (o2_b_w_ o3_b_w_:Value) (o4_b_w_ o5_b_w_:Value) (o6_b_w_ o7_b_w_:Value) (o8_b_w_ o9_b_w_:Value) (o10_b_w_ o11_b_w_:Value) (o12_b_w_ o13_b_w_ o14_b_w_:Value) (A_a:Option Addr) (c_a:Nat) (r1:Bool) (r2:List Int) (en:Ending) (w:World):Prop:=en=.returned (.tuple #[])∧St w0 w (Box b_w_ 124 [o0_b_w_,o1_b_w_,o2_b_w_,o3_b_w_,o4_b_w_,o5_b_w_,o6_b_w_,o7_b_w_,o8_b_w_,o9_b_w_,o10_b_w_,o11_b_w_,o12_b_w_,o13_b_w_,o14_b_w_,.bool r1]::Own (Ad .i64) 2 A_a c_a (fun _=>()) r2::L)
def Dj.l1 (K:Nat):Nat→Int→Int→Int→Int→Int→Bool→(List Int)→Int→Option (Bool × (List Int))
  | 0,_,_,_,_,_,_,_,_=>none
  | k+1,a1,c1,j_,k_,q,x24,x25,b1=>if b1<a1 then (if x24=true then (some (x24,x25)) else ((Cv.f a1 c1 x25 b1 j_).bind fun t51=>((Cv.f a1 c1 x25 b1 k_).bind fun t55=>((Jp.f t51 q t55).bind fun t59=>(Dz (Jr.f x24 a1 c1 x25 b1 j_ t59) (fun t63 t64=>(if t64.length=x25.length then (Dj.l1 K k a1 c1 j_ k_ q t63 t64 (w64 (b1+1))) else none))))))) else (some (x24,x25))
def Dj.f (K:Nat) (b1:Bool) (a1:Int) (d1:Int) (c1:List Int) (j_:Int) (k_:Int) (q:Int):Option (Bool × (List Int)):=Dj.l1 K K a1 d1 j_ k_ q b1 c1 0
abbrev Dj.post (w0:World) (L:List Df) (b_w_:Nat) (o0_b_w_ o1_b_w_:Value) (o2_b_w_ o3_b_w_:Value) (o4_b_w_ o5_b_w_:Value) (o6_b_w_ o7_b_w_:Value) (o8_b_w_ o9_b_w_:Value) (o10_b_w_ o11_b_w_:Value) (o12_b_w_ o13_b_w_ o14_b_w_:Value) (A_a:Option Addr) (c_a:Nat) (r1:Bool) (r2:List Int) (en:Ending) (w:World):Prop:=en=.returned (.tuple #[])∧St w0 w (Box b_w_ 124 [o0_b_w_,o1_b_w_,o2_b_w_,o3_b_w_,o4_b_w_,o5_b_w_,o6_b_w_,o7_b_w_,o8_b_w_,o9_b_w_,o10_b_w_,o11_b_w_,o12_b_w_,o13_b_w_,o14_b_w_,.bool r1]::Own (Ad .i64) 2 A_a c_a (fun _=>()) r2::L)
def Im.f (K:Nat) (k1:Int) (f1:Int) (a1:List Int) (h1:Int) (g1:Int) (b1:List Int) (e1:Int) (i1:Int) (c1:List Int) (m1:Int) (r1:Int) (q1:List Int) (o1:Int) (p1:Int) (n1:List Int) (d1:Bool) (i:Int) (k_:Int) (q:Int):Option (Bool × (List Int) × (List Int) × (List Int)):=if q=0 then (some (d1,a1,b1,c1)) else (Dz (Ea.f K d1 k1 f1 a1 i k_ q) (fun t2 t3=>(if t3.length=a1.length then (Dz (Ea.f K t2 h1 g1 b1 i k_ q) (fun t8 t9=>(if t9.length=b1.length then (Dz (Dj.f K t8 e1 i1 c1 k_ i (w64 (0 - q))) (fun t14 t15=>(if t15.length=c1.length then (some (t14,t3,t9,t15)) else none))) else none))) else none)))
abbrev Im.post (w0:World) (L:List Df) (w_d_Rows w_d_Columns:Int) (w_l_Rows w_l_Columns:Int) (w_li_Rows w_li_Columns:Int) (w_r_Rows w_r_Columns:Int) (w_r_Entries:List Int) (w_ri_Rows w_ri_Columns:Int) (w_ri_Entries:List Int) (b_w_:Nat) (A_a:Option Addr) (c_a:Nat) (A_b:Option Addr) (c_b:Nat) (A_c:Option Addr) (c_c:Nat) (A_d:Option Addr) (c_d:Nat) (A_e:Option Addr) (c_e:Nat) (r1:Bool) (r2 r3 r4:List Int) (en:Ending) (w:World):Prop:=en=.returned (.tuple #[])∧St w0 w (Box b_w_ 124 [.int .i64 w_d_Rows,.int .i64 w_d_Columns,.slice A_a r2.length c_a,.int .i64 w_l_Rows,.int .i64 w_l_Columns,.slice A_b r3.length c_b,.int .i64 w_li_Rows,.int .i64 w_li_Columns,.slice A_c r4.length c_c,.int .i64 w_r_Rows,.int .i64 w_r_Columns,.slice A_d w_r_Entries.length c_d,.int .i64 w_ri_Rows,.int .i64 w_ri_Columns,.slice A_e w_ri_Entries.length c_e,.bool r1]::Own (Ad .i64) 2 A_a c_a (fun _=>()) r2::Own (Ad .i64) 2 A_b c_b (fun _=>()) r3::Own (Ad .i64) 2 A_c c_c (fun _=>()) r4::L)
def Ig.f (K:Nat) (k1:Int) (g1:Int) (a1:List Int) (q1:Int) (n1:Int) (o1:List Int) (m1:Int) (r1:Int) (p1:List Int) (e1:Int) (i1:Int) (c1:List Int) (f1:Int) (h1:Int) (b1:List Int) (d1:Bool) (j_:Int) (k_:Int) (q:Int):Option (Bool × (List Int) × (List Int) × (List Int)):=if q=0 then (some (d1,a1,c1,b1)) else (Dz (Dj.f K d1 k1 g1 a1 j_ k_ q) (fun t2 t3=>(if t3.length=a1.length then (Dz (Dj.f K t2 e1 i1 c1 j_ k_ q) (fun t8 t9=>(if t9.length=c1.length then (Dz (Ea.f K t8 f1 h1 b1 k_ j_ (w64 (0 - q))) (fun t14 t15=>(if t15.length=b1.length then (some (t14,t3,t9,t15)) else none))) else none))) else none)))
abbrev Ig.post (w0:World) (L:List Df) (w_d_Rows w_d_Columns:Int) (w_l_Rows w_l_Columns:Int) (w_l_Entries:List Int) (w_li_Rows w_li_Columns:Int) (w_li_Entries:List Int) (w_r_Rows w_r_Columns:Int) (w_ri_Rows w_ri_Columns:Int) (b_w_:Nat) (A_a:Option Addr) (c_a:Nat) (A_b:Option Addr) (c_b:Nat) (A_c:Option Addr) (c_c:Nat) (A_d:Option Addr) (c_d:Nat) (A_e:Option Addr) (c_e:Nat) (r1:Bool) (r2 r3 r4:List Int) (en:Ending) (w:World):Prop:=en=.returned (.tuple #[])∧St w0 w (Box b_w_ 124 [.int .i64 w_d_Rows,.int .i64 w_d_Columns,.slice A_a r2.length c_a,.int .i64 w_l_Rows,.int .i64 w_l_Columns,.slice A_b w_l_Entries.length c_b,.int .i64 w_li_Rows,.int .i64 w_li_Columns,.slice A_c w_li_Entries.length c_c,.int .i64 w_r_Rows,.int .i64 w_r_Columns,.slice A_d r3.length c_d,.int .i64 w_ri_Rows,.int .i64 w_ri_Columns,.slice A_e r4.length c_e,.bool r1]::Own (Ad .i64) 2 A_a c_a (fun _=>()) r2::Own (Ad .i64) 2 A_d c_d (fun _=>()) r3::Own (Ad .i64) 2 A_e c_e (fun _=>()) r4::L)
mutual
def Dw.l1 (K:Nat):Nat→Int→Int→(List Int)→Int→Int→Option (Bool)
  | 0,_,_,_,_,_=>none
  | k+1,a1,b1,c1,k_,d1=>if d1<a1 then ((Cv.f a1 b1 c1 d1 k_).bind fun t53=>(if t53=0 then (Dw.l1 K k a1 b1 c1 k_ (w64 (d1+1))) else (some false))) else (Dw.l4 K k a1 b1 c1 k_ (w64 (k_+1)))
def Dw.l4 (K:Nat):Nat→Int→Int→(List Int)→Int→Int→Option (Bool)
  | 0,_,_,_,_,_=>none
  | k+1,d1,a1,c1,k_,b1=>if b1<a1 then ((Cv.f d1 a1 c1 k_ b1).bind fun t72=>(if t72=0 then (Dw.l4 K k d1 a1 c1 k_ (w64 (b1+1))) else (some false))) else (some true)
end
def Dw.f (K:Nat) (c1:Int) (b1:Int) (a1:List Int) (p1:Int) (i1:Int) (m1:List Int) (h1:Int) (q1:Int) (n1:List Int) (d1:Int) (r1:Int) (o1:List Int) (f1:Int) (k1:Int) (e1:List Int) (g1:Bool) (k_:Int):Option (Bool):=Dw.l1 K K c1 b1 a1 k_ (w64 (k_+1))
abbrev Dw.post (w0:World) (L:List Df) (w_d_Rows w_d_Columns:Int) (w_d_Entries:List Int) (w_l_Rows w_l_Columns:Int) (w_l_Entries:List Int) (w_li_Rows w_li_Columns:Int) (w_li_Entries:List Int) (w_r_Rows w_r_Columns:Int) (w_r_Entries:List Int) (w_ri_Rows w_ri_Columns:Int) (w_ri_Entries:List Int) (w_bad:Bool) (b_w_:Nat) (A_a:Option Addr) (c_a:Nat) (A_b:Option Addr) (c_b:Nat) (A_c:Option Addr) (c_c:Nat) (A_d:Option Addr) (c_d:Nat) (A_e:Option Addr) (c_e:Nat) (r1:Bool) (en:Ending) (w:World):Prop:=en=.returned (.bool r1)∧St w0 w (Box b_w_ 124 [.int .i64 w_d_Rows,.int .i64 w_d_Columns,.slice A_a w_d_Entries.length c_a,.int .i64 w_l_Rows,.int .i64 w_l_Columns,.slice A_b w_l_Entries.length c_b,.int .i64 w_li_Rows,.int .i64 w_li_Columns,.slice A_c w_li_Entries.length c_c,.int .i64 w_r_Rows,.int .i64 w_r_Columns,.slice A_d w_r_Entries.length c_d,.int .i64 w_ri_Rows,.int .i64 w_ri_Columns,.slice A_e w_ri_Entries.length c_e,.bool w_bad]::L)
mutual
def Dy.l1 (K:Nat):Nat→Int→Int→(List Int)→Int→Int→Option (Int)
  | 0,_,_,_,_,_=>none
  | k+1,b1,c1,d1,k_,a1=>if a1<b1 then (Dy.l4 K k b1 c1 d1 k_ a1 (w64 (k_+1))) else (some (-1))
def Dy.l4 (K:Nat):Nat→Int→Int→(List Int)→Int→Int→Int→Option (Int)
  | 0,_,_,_,_,_,_=>none
  | k+1,d1,a1,b1,k_,c1,e1=>if e1<a1 then ((Cv.f d1 a1 b1 c1 e1).bind fun t97=>((Cv.f d1 a1 b1 k_ k_).bind fun t101=>(if t101=0 then none else (if t97.tmod t101=0 then (Dy.l4 K k d1 a1 b1 k_ c1 (w64 (e1+1))) else (some c1))))) else (Dy.l1 K k d1 a1 b1 k_ (w64 (c1+1)))
end
def Dy.f (K:Nat) (c1:Int) (b1:Int) (a1:List Int) (p1:Int) (i1:Int) (m1:List Int) (h1:Int) (q1:Int) (n1:List Int) (d1:Int) (r1:Int) (o1:List Int) (f1:Int) (k1:Int) (e1:List Int) (g1:Bool) (k_:Int):Option (Int):=Dy.l1 K K c1 b1 a1 k_ (w64 (k_+1))
abbrev Dy.post (w0:World) (L:List Df) (w_d_Rows w_d_Columns:Int) (w_d_Entries:List Int) (w_l_Rows w_l_Columns:Int) (w_l_Entries:List Int) (w_li_Rows w_li_Columns:Int) (w_li_Entries:List Int) (w_r_Rows w_r_Columns:Int) (w_r_Entries:List Int) (w_ri_Rows w_ri_Columns:Int) (w_ri_Entries:List Int) (w_bad:Bool) (b_w_:Nat) (A_a:Option Addr) (c_a:Nat) (A_b:Option Addr) (c_b:Nat) (A_c:Option Addr) (c_c:Nat) (A_d:Option Addr) (c_d:Nat) (A_e:Option Addr) (c_e:Nat) (r1:Int) (en:Ending) (w:World):Prop:=en=.returned (.int .i64 r1)∧St w0 w (Box b_w_ 124 [.int .i64 w_d_Rows,.int .i64 w_d_Columns,.slice A_a w_d_Entries.length c_a,.int .i64 w_l_Rows,.int .i64 w_l_Columns,.slice A_b w_l_Entries.length c_b,.int .i64 w_li_Rows,.int .i64 w_li_Columns,.slice A_c w_li_Entries.length c_c,.int .i64 w_r_Rows,.int .i64 w_r_Columns,.slice A_d w_r_Entries.length c_d,.int .i64 w_ri_Rows,.int .i64 w_ri_Columns,.slice A_e w_ri_Entries.length c_e,.bool w_bad]::L)
mutual
def Ci.l1 (K:Nat):Nat→Int→Int→Int→Int→Int→Int→Int→Int→Int→Int→Int→(List Int)→(List Int)→(List Int)→(List Int)→(List Int)→Bool→Int→Option (Bool × Bool × Bool × (List Int) × (List Int) × (List Int) × (List Int) × (List Int))
  | 0,_,_,_,_,_,_,_,_,_,_,_,_,_,_,_,_,_,_=>none
  | k+1,b1,a1,i1,g1,f1,k1,d1,m1,e1,h1,k_,t5,t6,x203,x204,x205,x206,c1=>if c1<b1 then (if x206=true then (Ci.l6 K k a1 k_ t5 t6 x203 x204 x205 x206) else ((Cv.f b1 a1 x203 c1 k_).bind fun t402=>((Cv.f b1 a1 x203 k_ k_).bind fun t406=>((Ja.f t402 t406).bind fun t410=>(Gs (Im.f K b1 a1 x203 i1 g1 x204 f1 k1 x205 d1 m1 t5 e1 h1 t6 x206 c1 k_ t410) (fun t414 t415 t416 t417=>(if t415.length=x203.length then (if t416.length=x204.length then (if t417.length=x205.length then (Ci.l1 K k b1 a1 i1 g1 f1 k1 d1 m1 e1 h1 k_ t5 t6 t415 t416 t417 t414 (w64 (c1+1))) else none) else none) else none))))))) else (Ci.l7 K k b1 a1 i1 g1 f1 k1 d1 m1 e1 h1 k_ x204 x205 x203 t5 t6 x206 (w64 (k_+1)))
def Ci.l6 (K:Nat):Nat→Int→Int→(List Int)→(List Int)→(List Int)→(List Int)→(List Int)→Bool→Option (Bool × Bool × Bool × (List Int) × (List Int) × (List Int) × (List Int) × (List Int))
  | 0,_,_,_,_,_,_,_,_=>none
  | k+1,a1,k_,t5,t6,x203,x204,x205,x206=>if w64 (k_+1)<a1 then (some (false,false,x206,x203,x204,x205,t5,t6)) else (some (false,false,x206,x203,x204,x205,t5,t6))
def Ci.l7 (K:Nat):Nat→Int→Int→Int→Int→Int→Int→Int→Int→Int→Int→Int→(List Int)→(List Int)→(List Int)→(List Int)→(List Int)→Bool→Int→Option (Bool × Bool × Bool × (List Int) × (List Int) × (List Int) × (List Int) × (List Int))
  | 0,_,_,_,_,_,_,_,_,_,_,_,_,_,_,_,_,_,_=>none
  | k+1,b1,a1,h1,f1,e1,i1,c1,k1,d1,g1,k_,x204,x205,x475,x476,x477,x478,m1=>if m1<a1 then (if x478=true then (some (false,false,x478,x475,x204,x205,x476,x477)) else ((Cv.f b1 a1 x475 k_ m1).bind fun t534=>((Cv.f b1 a1 x475 k_ k_).bind fun t538=>((Ja.f t534 t538).bind fun t542=>(Gs (Ig.f K b1 a1 x475 h1 f1 x204 e1 i1 x205 c1 k1 x476 d1 g1 x477 x478 m1 k_ t542) (fun t546 t547 t548 t549=>(if t547.length=x475.length then (if t548.length=x476.length then (if t549.length=x477.length then (Ci.l7 K k b1 a1 h1 f1 e1 i1 c1 k1 d1 g1 k_ x204 x205 t547 t548 t549 t546 (w64 (m1+1))) else none) else none) else none))))))) else (if x478=true then (some (false,false,x478,x475,x204,x205,x476,x477)) else ((Dw.f K b1 a1 x475 h1 f1 x204 e1 i1 x205 c1 k1 x476 d1 g1 x477 x478 k_).bind fun t562=>(if t562=true then ((Dy.f K b1 a1 x475 h1 f1 x204 e1 i1 x205 c1 k1 x476 d1 g1 x477 x478 k_).bind fun t567=>(if t567<0 then (some (true,false,x478,x475,x204,x205,x476,x477)) else (Gs (Im.f K b1 a1 x475 h1 f1 x204 e1 i1 x205 c1 k1 x476 d1 g1 x477 x478 k_ t567 (-1)) (fun t572 t573 t574 t575=>(if t573.length=x475.length then (if t574.length=x204.length then (if t575.length=x205.length then (some (false,false,t572,t573,t574,t575,x476,x477)) else none) else none) else none))))) else (some (false,false,x478,x475,x204,x205,x476,x477)))))
end
def Ci.f (K:Nat) (r1:Int) (g1:Int) (b1:List Int) (o1:Int) (h1:Int) (k1:List Int) (f1:Int) (p1:Int) (m1:List Int) (c1:Int) (q1:Int) (n1:List Int) (e1:Int) (i1:Int) (d1:List Int) (a1:Bool) (k_:Int):Option (Bool × Bool × Bool × (List Int) × (List Int) × (List Int) × (List Int) × (List Int)):=Mj (Bp.f K r1 g1 b1 o1 h1 k1 f1 p1 m1 c1 q1 n1 e1 i1 d1 a1 k_) (fun t1 t2 t3 t4 t5 t6=>(if t2.length=b1.length then (if t3.length=k1.length then (if t4.length=m1.length then (if t5.length=n1.length then (if t6.length=d1.length then (if t1=true then (Ci.l1 K K r1 g1 o1 h1 f1 p1 c1 q1 e1 i1 k_ t5 t6 t2 t3 t4 a1 (w64 (k_+1))) else (some (true,true,a1,t2,t3,t4,t5,t6))) else none) else none) else none) else none) else none))
abbrev Ci.post (w0:World) (L:List Df) (w_d_Rows w_d_Columns:Int) (w_l_Rows w_l_Columns:Int) (w_li_Rows w_li_Columns:Int) (w_r_Rows w_r_Columns:Int) (w_ri_Rows w_ri_Columns:Int) (b_w_:Nat) (A_a:Option Addr) (c_a:Nat) (A_b:Option Addr) (c_b:Nat) (A_c:Option Addr) (c_c:Nat) (A_d:Option Addr) (c_d:Nat) (A_e:Option Addr) (c_e:Nat) (r1 r2 r3:Bool) (r4 r5:List Int) (r6 r7 r8:List Int) (en:Ending) (w:World):Prop:=en=.returned (.tuple #[.bool r1,.bool r2])∧St w0 w (Box b_w_ 124 [.int .i64 w_d_Rows,.int .i64 w_d_Columns,.slice A_a r4.length c_a,.int .i64 w_l_Rows,.int .i64 w_l_Columns,.slice A_b r5.length c_b,.int .i64 w_li_Rows,.int .i64 w_li_Columns,.slice A_c r6.length c_c,.int .i64 w_r_Rows,.int .i64 w_r_Columns,.slice A_d r7.length c_d,.int .i64 w_ri_Rows,.int .i64 w_ri_Columns,.slice A_e r8.length c_e,.bool r3]::Own (Ad .i64) 2 A_a c_a (fun _=>()) r4::Own (Ad .i64) 2 A_b c_b (fun _=>()) r5::Own (Ad .i64) 2 A_c c_c (fun _=>()) r6::Own (Ad .i64) 2 A_d c_d (fun _=>()) r7::Own (Ad .i64) 2 A_e c_e (fun _=>()) r8::L)
mutual
def Dl.l1 (K:Nat):Nat→Int→Int→Int→Int→Int→Int→Int→Int→Int→Int→(List Int)→(List Int)→(List Int)→(List Int)→(List Int)→Bool→Int→Option (Int × Int × (List Int) × Int × Int × (List Int) × Int × Int × (List Int) × Int × Int × (List Int) × Int × Int × (List Int) × Bool)
  | 0,_,_,_,_,_,_,_,_,_,_,_,_,_,_,_,_,_=>none
  | k+1,a1,b1,t9,t10,t17,t18,t25,t26,t33,t34,i1,c1,d1,g1,f1,h1,e1=>if e1<(if b1<a1 then b1 else a1) then (Dl.l4 K k a1 b1 t9 t10 t17 t18 t25 t26 t33 t34 e1 i1 c1 d1 g1 f1 h1 false false) else (some (a1,b1,i1,t9,t10,c1,t17,t18,d1,t25,t26,g1,t33,t34,f1,h1))
def Dl.l4 (K:Nat):Nat→Int→Int→Int→Int→Int→Int→Int→Int→Int→Int→Int→(List Int)→(List Int)→(List Int)→(List Int)→(List Int)→Bool→Bool→Bool→Option (Int × Int × (List Int) × Int × Int × (List Int) × Int × Int × (List Int) × Int × Int × (List Int) × Int × Int × (List Int) × Bool)
  | 0,_,_,_,_,_,_,_,_,_,_,_,_,_,_,_,_,_,_,_=>none
  | k+1,d1,g1,t9,t10,t17,t18,t25,t26,t33,t34,i1,c1,f1,h1,e1,b1,a1,m1,k1=>if m1=true then (if k1=true then (some (d1,g1,c1,t9,t10,f1,t17,t18,h1,t25,t26,e1,t33,t34,b1,a1)) else (if a1=true then (some (d1,g1,c1,t9,t10,f1,t17,t18,h1,t25,t26,e1,t33,t34,b1,a1)) else (Dl.l1 K k d1 g1 t9 t10 t17 t18 t25 t26 t33 t34 c1 f1 h1 e1 b1 a1 (w64 (i1+1))))) else (if a1=true then (if k1=true then (some (d1,g1,c1,t9,t10,f1,t17,t18,h1,t25,t26,e1,t33,t34,b1,a1)) else (some (d1,g1,c1,t9,t10,f1,t17,t18,h1,t25,t26,e1,t33,t34,b1,a1))) else (Ww (Ci.f K d1 g1 c1 t9 t10 f1 t17 t18 h1 t25 t26 e1 t33 t34 b1 a1 i1) (fun t243 t244 t245 t246 t247 t248 t249 t250=>(if t246.length=c1.length then (if t247.length=f1.length then (if t248.length=h1.length then (if t249.length=e1.length then (if t250.length=b1.length then (Dl.l4 K k d1 g1 t9 t10 t17 t18 t25 t26 t33 t34 i1 t246 t247 t248 t249 t250 t245 t243 t244) else none) else none) else none) else none) else none))))
end
def Dl.f (K:Nat) (a1:Int) (b1:Int) (c1:List Int):Option (Int × Int × (List Int) × Int × Int × (List Int) × Int × Int × (List Int) × Int × Int × (List Int) × Int × Int × (List Int) × Bool):=if (([]:List Int).length+c1.length) * 8≤140737488355328 then (Fe (Fq.f K a1) (fun t9 t10 t11=>(Fe (Fq.f K a1) (fun t17 t18 t19=>(Fe (Fq.f K b1) (fun t25 t26 t27=>(Fe (Fq.f K b1) (fun t33 t34 t35=>(Dl.l1 K K a1 b1 t9 t10 t17 t18 t25 t26 t33 t34 (([]:List Int)++c1) t11 t19 t27 t35 false 0))))))))) else none
abbrev Dl.post (w0:World) (L:List Df) (r1 r2:Int) (r3:List Int) (r4 r5:Int) (r6:List Int) (r7 r8:Int) (r9:List Int) (r10 r11:Int) (r12:List Int) (r13 r14:Int) (r15:List Int) (r16:Bool) (en:Ending) (w:World):Prop:=∃ (b_r0:Nat) (A_r1:Option Addr) (c_r2:Nat) (A_r3:Option Addr) (c_r4:Nat) (A_r5:Option Addr) (c_r6:Nat) (A_r7:Option Addr) (c_r8:Nat) (A_r9:Option Addr) (c_r10:Nat),en=.returned (.pointer (some ⟨b_r0,0,none⟩))∧St w0 w (Box b_r0 124 [.int .i64 r1,.int .i64 r2,.slice A_r1 r3.length c_r2,.int .i64 r4,.int .i64 r5,.slice A_r3 r6.length c_r4,.int .i64 r7,.int .i64 r8,.slice A_r5 r9.length c_r6,.int .i64 r10,.int .i64 r11,.slice A_r7 r12.length c_r8,.int .i64 r13,.int .i64 r14,.slice A_r9 r15.length c_r10,.bool r16]::Own (Ad .i64) 2 A_r1 c_r2 (fun _=>()) r3::Own (Ad .i64) 2 A_r3 c_r4 (fun _=>()) r6::Own (Ad .i64) 2 A_r5 c_r6 (fun _=>()) r9::Own (Ad .i64) 2 A_r7 c_r8 (fun _=>()) r12::Own (Ad .i64) 2 A_r9 c_r10 (fun _=>()) r15::L)
def Dr.l1 (K:Nat):Nat→Int→Int→Int→Int→(List Int)→Bool→(List Int)→Int→Option ((List Int) × Bool)
  | 0,_,_,_,_,_,_,_,_=>none
  | k+1,c1,d1,t3,t4,t5,t18,b1,a1=>if a1<(if d1<c1 then d1 else c1) then (if t18=true then (some (b1,!t18)) else ((Cv.f t3 t4 t5 a1 a1).bind fun t70=>(if t70=0 then (Dr.l1 K k c1 d1 t3 t4 t5 t18 b1 (w64 (a1+1))) else (if (b1.length+1) * 8≤140737488355328 then (Dr.l1 K k c1 d1 t3 t4 t5 t18 (b1++[t70]) (w64 (a1+1))) else none)))) else (some (b1,!t18))
def Dr.f (K:Nat) (a1:Int) (b1:Int) (c1:List Int):Option ((List Int) × Bool):=Mh (Dl.f K a1 b1 c1) (fun t3 t4 t5 t6 t7 t8 t9 t10 t11 t12 t13 t14 t15 t16 t17 t18=>(Dr.l1 K K a1 b1 t3 t4 t5 t18 ([]:List Int) 0))
abbrev Dr.post (w0:World) (L:List Df) (r1:List Int) (r2:Bool) (en:Ending) (w:World):Prop:=∃ (A_r0:Option Addr) (c_r1:Nat),en=.returned (.tuple #[.slice A_r0 r1.length c_r1,.bool r2])∧St w0 w (Own (Ad .i64) 2 A_r0 c_r1 (fun _=>()) r1::L)
def Ei.l1 (K:Nat):Nat→(List Int)→(List Int)→Int→Option (List Int)
  | 0,_,_,_=>none
  | k+1,factors,b1,a1=>if a1<(factors.length:Int) then (if 0≤a1∧a1<(factors.length:Int) then (if 1<factors.getD a1.toNat 0 then (if (b1.length+1) * 8≤140737488355328 then (Ei.l1 K k factors (b1++[factors.getD a1.toNat 0]) (w64 (a1+1))) else none) else (Ei.l1 K k factors b1 (w64 (a1+1)))) else none) else (some b1)
def Ei.f (K:Nat) (factors:List Int):Option (List Int):=Ei.l1 K K factors ([]:List Int) 0
abbrev Ei.post (w0:World) (L:List Df) (r1:List Int) (en:Ending) (w:World):Prop:=∃ (A_r0:Option Addr) (c_r1:Nat),en=.returned (.slice A_r0 r1.length c_r1)∧St w0 w (Own (Ad .i64) 2 A_r0 c_r1 (fun _=>()) r1::L)
def I4.f (K:Nat) (a1:Int) (b1:Int) (f1:List Int) (c1:Int) (d1:Int) (e1:List Int):Option (Int × (List Int) × Int):=(Eg.f K a1 b1 f1).bind fun t16=>(if t16=true then ((Eg.f K c1 d1 e1).bind fun t21=>(if t21=true then (if d1=a1 then (Gs (Bq.f K c1 d1 e1 a1 b1 f1) (fun t27 t28 t29 t30=>(if t30=true then (Fe (Hu.f c1 b1) (fun t40 t41 t42=>((F5.f K t27 t28 t29 t40 t41 t42).bind fun t48=>(if t48=true then (Dz (Dr.f K a1 b1 f1) (fun t53 t54=>(Dz (Dr.f K c1 d1 e1) (fun t60 t61=>(if t54=true then (if t61=true then ((Ei.f K t53).bind fun t70=>(some (w64 ((w64 (a1 - (t53.length:Int))) - (t60.length:Int)),t70,0))) else (some (0,([]:List Int),3))) else (some (0,([]:List Int),3))))))) else (some (0,([]:List Int),5)))))) else (some (0,([]:List Int),3))))) else (some (0,([]:List Int),2))) else (some (0,([]:List Int),1)))) else (some (0,([]:List Int),1)))
abbrev I4.post (w0:World) (L:List Df) (r1:Int) (r2:List Int) (r3:Int) (en:Ending) (w:World):Prop:=∃ (A_r0:Option Addr) (c_r1:Nat),en=.returned (.tuple #[.agg [.int .i64 r1,.slice A_r0 r2.length c_r1].toArray,.int .i64 r3])∧St w0 w (Own (Ad .i64) 2 A_r0 c_r1 (fun _=>()) r2::L)
def I5.f (K:Nat) (a1:List (List Aw)) (k_:Int):Option (Int × (List Int) × Int):=(Al.f K a1).bind fun t5=>(if t5=true then ((Jt.f k_ 0 3).bind fun t10=>(if t10=true then ((C9.f K a1).bind fun t15=>(if t15=true then (some (0,([]:List Int),5)) else (Fe (Ac.f K a1 (w64 (k_+1))) (fun t21 t22 t23=>(Fe (Ac.f K a1 k_) (fun t29 t30 t31=>(Fe (I4.f K t21 t22 t23 t29 t30 t31) (fun t37 t38 t39=>(some (t37,t38,t39)))))))))) else (some (0,([]:List Int),2)))) else (some (0,([]:List Int),1)))
abbrev I5.post (w0:World) (L:List Df) (r1:Int) (r2:List Int) (r3:Int) (en:Ending) (w:World):Prop:=∃ (A_r0:Option Addr) (c_r1:Nat),en=.returned (.tuple #[.agg [.int .i64 r1,.slice A_r0 r2.length c_r1].toArray,.int .i64 r3])∧St w0 w (Own (Ad .i64) 2 A_r0 c_r1 (fun _=>()) r2::L)
def F4.f (faces:List Aw):Option (Bool):=some (!(decide ((faces.length:Int)=4)))
abbrev F4.post:=Js
def Ao.l1 (K:Nat):Nat→(List (List Aw))→Int→Option (Int)
  | 0,_,_=>none
  | k+1,s,x8=>if x8<(s.length:Int) then (if 0≤x8∧x8<(s.length:Int) then ((F4.f (s.getD x8.toNat [])).bind fun t18=>(if t18=true then (some x8) else (Ao.l1 K k s (w64 (x8+1))))) else none) else (some (-1))
def Ao.f (K:Nat) (s:List (List Aw)):Option (Int):=Ao.l1 K K s 0
abbrev Ao.post:=Jq
def Cj.f (K:Nat) (s:List (List Aw)):Option (Bool):=(Ao.f K s).bind fun t1=>(some (decide (0≤t1)))
abbrev Cj.post:=Js
def Dh.f (list:List (List Aw)):Option (Int):=some (list.length:Int)
abbrev Dh.post:=Jq
def Fs.f (x:Int) (low:Int) (high:Int):Option (Bool):=if low≤x then (some (decide (x≤high))) else (some false)
abbrev Fs.post:=Js
def Fp.f (list:List (List Aw)) (i:Int):Option (Bool):=(Dh.f list).bind fun t1=>((Fs.f i 0 (w64 (t1 - 1))).bind fun t5=>(some t5))
abbrev Fp.post:=Js
def J5.f (p:Int):Option (Bool):=(Fs.f p 0 23).bind fun t1=>(some t1)
abbrev J5.post:=Js
def Gv.f (s:List Int) (i:Int) (j_:Int):Option (List Int):=if 0≤i∧i≤j_ then (if j_≤(s.length:Int) then (if i=j_ then (some s) else (if 0≤i∧i≤(s.length:Int) then (if 0≤j_∧j_≤(s.length:Int) then (if i.toNat≤j_.toNat then (if 0≤((((over s i.toNat (s.drop j_.toNat)).take (i.toNat+(s.length - j_.toNat))).drop 0).length:Int)∧((((over s i.toNat (s.drop j_.toNat)).take (i.toNat+(s.length - j_.toNat))).drop 0).length:Int)≤(s.length:Int) then (if 0≤(s.length:Int)∧(s.length:Int)≤((over s i.toNat (s.drop j_.toNat)).length:Int) then (if (i.toNat+(s.length - j_.toNat))≤(over (over s i.toNat (s.drop j_.toNat)) (((((over s i.toNat (s.drop j_.toNat)).take (i.toNat+(s.length - j_.toNat))).drop 0).length:Int).toNat) (List.replicate (((over s i.toNat (s.drop j_.toNat)).take ((s.length:Int).toNat)).drop (((((over s i.toNat (s.drop j_.toNat)).take (i.toNat+(s.length - j_.toNat))).drop 0).length:Int).toNat)).length 0)).length then (some (((over (over s i.toNat (s.drop j_.toNat)) (((((over s i.toNat (s.drop j_.toNat)).take (i.toNat+(s.length - j_.toNat))).drop 0).length:Int).toNat) (List.replicate (((over s i.toNat (s.drop j_.toNat)).take ((s.length:Int).toNat)).drop (((((over s i.toNat (s.drop j_.toNat)).take (i.toNat+(s.length - j_.toNat))).drop 0).length:Int).toNat)).length 0)).take (i.toNat+(s.length - j_.toNat))).drop 0)) else none) else none) else none) else none) else none) else none)) else none) else none
abbrev Gv.post (w0:World) (L:List Df) (r1:List Int) (en:Ending) (w:World):Prop:=∃ (A_r0:Option Addr) (c_r1:Nat),en=.returned (.slice A_r0 r1.length c_r1)∧St w0 w (Own (Ad .i64) 2 A_r0 c_r1 (fun _=>()) r1::L)
def Em.l1 (K:Nat):Nat→Int→Int→(List Int)→Int→Int→Int→Int→Option (Int × Int × Int × Int)
  | 0,_,_,_,_,_,_,_=>none
  | k+1,a1,d1,b1,x24,e1,c1,f1=>if x24<4 then (if 0≤x24∧x24<(([6,2,1,1]:List Int).length:Int) then (if ([6,2,1,1]:List Int).getD x24.toNat 0=0 then none else (if 0≤w64 (a1.tdiv (([6,2,1,1]:List Int).getD x24.toNat 0))∧w64 (a1.tdiv (([6,2,1,1]:List Int).getD x24.toNat 0))<(b1.length:Int) then (if 0≤x24∧x24<4 then ((Gv.f b1 (w64 (a1.tdiv (([6,2,1,1]:List Int).getD x24.toNat 0))) (w64 ((w64 (a1.tdiv (([6,2,1,1]:List Int).getD x24.toNat 0)))+1))).bind fun t60=>(Em.l1 K k (a1.tmod (([6,2,1,1]:List Int).getD x24.toNat 0)) (se 0 x24 (b1.getD ((w64 (a1.tdiv (([6,2,1,1]:List Int).getD x24.toNat 0))).toNat) 0) d1) t60 (w64 (x24+1)) (se 1 x24 (b1.getD ((w64 (a1.tdiv (([6,2,1,1]:List Int).getD x24.toNat 0))).toNat) 0) e1) (se 2 x24 (b1.getD ((w64 (a1.tdiv (([6,2,1,1]:List Int).getD x24.toNat 0))).toNat) 0) c1) (se 3 x24 (b1.getD ((w64 (a1.tdiv (([6,2,1,1]:List Int).getD x24.toNat 0))).toNat) 0) f1))) else none) else none)) else none) else (some (d1,e1,c1,f1))
def Em.f (K:Nat) (p:Int):Option (Int × Int × Int × Int):=Em.l1 K K p 0 ([0,1,2,3]:List Int) 0 0 0 0
abbrev Em.post (w0:World) (L:List Df) (r1 r2:Int) (r3 r4:Int) (en:Ending) (w:World):Prop:=en=.returned (.agg [.int .i64 r1,.int .i64 r2,.int .i64 r3,.int .i64 r4].toArray)∧St w0 w (L)
def Hz.f (K:Nat) (b1:Int) (a1:Int) (Gx:Int):Option (Int):=Gs (Em.f K a1) (fun t3 t4 t5 t6=>(if 0≤Gx∧Gx<4 then (some (([t3,t4,t5,t6]:List Int).getD Gx.toNat 0)) else none))
abbrev Hz.post:=Jq
mutual
def Fa.l1 (K:Nat):Nat→Int→Int→Int→Int→Int→Int→Option (Int)
  | 0,_,_,_,_,_,_=>none
  | k+1,b1,a1,c1,e1,d1,x19=>if x19<4 then (if 0≤x19∧x19<(([6,2,1,1]:List Int).length:Int) then (if 0≤x19∧x19<4 then (if 0≤x19∧x19≤4 then (Fa.l4 K k b1 a1 c1 e1 d1 x19 (([b1,a1,c1,e1]:List Int).getD x19.toNat 0) 0) else none) else none) else none) else (some d1)
def Fa.l4 (K:Nat):Nat→Int→Int→Int→Int→Int→Int→Int→Int→Option (Int)
  | 0,_,_,_,_,_,_,_,_=>none
  | k+1,b1,a1,c1,d1,e1,x19,f1,x43=>if x43<((([b1,a1,c1,d1]:List Int).take x19.toNat).length:Int) then (if 0≤x43∧x43<((([b1,a1,c1,d1]:List Int).take x19.toNat).length:Int) then (if (([b1,a1,c1,d1]:List Int).take x19.toNat).getD x43.toNat 0<(([b1,a1,c1,d1]:List Int).getD x19.toNat 0) then (Fa.l4 K k b1 a1 c1 d1 e1 x19 (w64 (f1 - 1)) (w64 (x43+1))) else (Fa.l4 K k b1 a1 c1 d1 e1 x19 f1 (w64 (x43+1)))) else none) else (Fa.l1 K k b1 a1 c1 d1 (w64 (e1+(w64 (f1 * (([6,2,1,1]:List Int).getD x19.toNat 0))))) (w64 (x19+1)))
end
def Fa.f (K:Nat) (d1:Int) (b1:Int) (a1:Int) (c1:Int):Option (Int):=Fa.l1 K K d1 b1 a1 c1 0 0
abbrev Fa.post:=Jq
def H5.l1 (K:Nat):Nat→Int→Int→Int→Int→Int→Int→Int→Int→Int→Option (Int)
  | 0,_,_,_,_,_,_,_,_,_=>none
  | k+1,t3,t4,t5,t6,c1,b1,a1,d1,x16=>if x16<4 then (if 0≤x16∧x16<4 then (if 0≤([t3,t4,t5,t6]:List Int).getD x16.toNat 0∧([t3,t4,t5,t6]:List Int).getD x16.toNat 0<4 then (H5.l1 K k t3 t4 t5 t6 (se 0 (([t3,t4,t5,t6]:List Int).getD x16.toNat 0) x16 c1) (se 1 (([t3,t4,t5,t6]:List Int).getD x16.toNat 0) x16 b1) (se 2 (([t3,t4,t5,t6]:List Int).getD x16.toNat 0) x16 a1) (se 3 (([t3,t4,t5,t6]:List Int).getD x16.toNat 0) x16 d1) (w64 (x16+1))) else none) else none) else ((Fa.f K c1 b1 a1 d1).bind fun t29=>(some t29))
def H5.f (K:Nat) (p:Int):Option (Int):=Gs (Em.f K p) (fun t3 t4 t5 t6=>(H5.l1 K K t3 t4 t5 t6 0 0 0 0 0))
abbrev H5.post:=Jq
def G8.f (K:Nat) (b1:Int) (a1:Int) (tet:Int):Option (Int × Int):=(H5.f K a1).bind fun t5=>(some (tet,t5))
abbrev G8.post (w0:World) (L:List Df) (r1 r2:Int) (en:Ending) (w:World):Prop:=en=.returned (.agg [.int .i64 r1,.int .i64 r2].toArray)∧St w0 w (L)
def Eo.f (K:Nat) (a1:List (List Aw)) (tet:Int) (f:Int):Option (Bool):=if 0≤tet∧tet<(a1.length:Int) then (if 0≤f∧f<((a1.getD tet.toNat []).length:Int) then (bnd ((a1.getD tet.toNat []).getD f.toNat Hy) (fun e5=>if e5.Tet=(-1) then (some (decide (e5.Perm=0))) else ((Fp.f a1 e5.Tet).bind fun t20=>(if t20=true then ((J5.f e5.Perm).bind fun t25=>(if t25=true then ((Hz.f K e5.Tet e5.Perm f).bind fun t30=>(if 0≤e5.Tet∧e5.Tet<(a1.length:Int) then (if 0≤t30∧t30<((a1.getD e5.Tet.toNat []).length:Int) then (bnd ((a1.getD e5.Tet.toNat []).getD t30.toNat Hy) (fun e36=>Dz (G8.f K e5.Tet e5.Perm tet) (fun t38 t39=>(if (e36.Tet,e36.Perm)=(t38,t39) then (if e5.Tet=tet then (some (!(decide (t30=f)))) else (some true)) else (some false))))) else none) else none)) else (some false))) else (some false))))) else none) else none
abbrev Eo.post:=Js
mutual
def Bw.l1 (K:Nat):Nat→(List (List Aw))→Int→Int→Option (Bool)
  | 0,_,_,_=>none
  | k+1,a1,t14,x37=>if x37<t14 then (Bw.l4 K k a1 t14 x37 0) else (some true)
def Bw.l4 (K:Nat):Nat→(List (List Aw))→Int→Int→Int→Option (Bool)
  | 0,_,_,_,_=>none
  | k+1,a1,t14,x37,x63=>if x63<4 then ((Eo.f K a1 x37 x63).bind fun t71=>(if t71=true then (Bw.l4 K k a1 t14 x37 (w64 (x63+1))) else (some false))) else (Bw.l1 K k a1 t14 (w64 (x37+1)))
end
def Bw.f (K:Nat) (a1:List (List Aw)):Option (Bool):=if 8<(a1.length:Int) then (some false) else ((Cj.f K a1).bind fun t9=>(if t9=true then (some false) else ((Dh.f a1).bind fun t14=>(Bw.l1 K K a1 t14 0))))
abbrev Bw.post:=Js
def Ey.l1 (K:Nat):Nat→Int→(List Int)→Int→Option (List Int)
  | 0,_,_,_=>none
  | k+1,n_,a1,x11=>if x11<n_ then (if (a1.length+1) * 8≤140737488355328 then (Ey.l1 K k n_ (a1++[x11]) (w64 (x11+1))) else none) else (some a1)
def Ey.f (K:Nat) (n_:Int):Option (List Int):=Ey.l1 K K n_ ([]:List Int) 0
abbrev Ey.post (w0:World) (L:List Df) (r1:List Int) (en:Ending) (w:World):Prop:=∃ (A_r0:Option Addr) (c_r1:Nat),en=.returned (.slice A_r0 r1.length c_r1)∧St w0 w (Own (Ad .i64) 2 A_r0 c_r1 (fun _=>()) r1::L)
def Ct.f (a1:Int) (b1:Int):Option (Bool):=some (decide (a1<0))
abbrev Ct.post:=Js
def Ib.l1 (K:Nat):Nat→Int→Int→Option (Int × Int)
  | 0,_,_=>none
  | k+1,e_2,x3=>if x3<4 then (if e_2<w64 (3 - x3) then (some (x3,w64 ((w64 (x3+1))+e_2))) else (Ib.l1 K k (w64 (e_2 - (w64 (3 - x3)))) (w64 (x3+1)))) else (some ((-1),(-1)))
def Ib.f (K:Nat) (e_:Int):Option (Int × Int):=Ib.l1 K K e_ 0
abbrev Ib.post (w0:World) (L:List Df) (r1 r2:Int) (en:Ending) (w:World):Prop:=en=.returned (.tuple #[.int .i64 r1,.int .i64 r2])∧St w0 w (L)
def Ht.j1 (K:Nat):Nat→Int→Int→Option (Int)
  | 0,_,_=>none
  | k+1,a_2,b_3=>some (w64 ((w64 ((w64 ((w64 ((w64 (a_2 * (w64 (7 - a_2)))).tdiv 2))+b_3)) - a_2)) - 1))
def Ht.f (K:Nat) (a_:Int) (b_:Int):Option (Int):=if b_<a_ then (Ht.j1 K K b_ a_) else (Ht.j1 K K a_ b_)
abbrev Ht.post:=Jq
def Gn.l1 (K:Nat):Nat→(List Int)→Int→Int→(List Int)→Int→Option (List Int)
  | 0,_,_,_,_,_=>none
  | k+1,sets,i,k_,x9,x10=>if x10<(sets.length:Int) then (if 0≤x10∧x10<(x9.length:Int) then (if x9.getD x10.toNat 0=sets.getD k_.toNat 0 then (Gn.l1 K k sets i k_ (x9.set x10.toNat (sets.getD i.toNat 0)) (w64 (x10+1))) else (Gn.l1 K k sets i k_ x9 (w64 (x10+1)))) else none) else (some x9)
def Gn.f (K:Nat) (sets:List Int) (i:Int) (k_:Int):Option (List Int):=if 0≤k_∧k_<(sets.length:Int) then (if 0≤i∧i<(sets.length:Int) then (Gn.l1 K K sets i k_ sets 0) else none) else none
abbrev Gn.post (w0:World) (L:List Df) (A_a:Option Addr) (c_a:Nat) (r1:List Int) (en:Ending) (w:World):Prop:=en=.returned (.tuple #[])∧St w0 w (Own (Ad .i64) 2 A_a c_a (fun _=>()) r1::L)
def Ay.l1 (K:Nat):Nat→Int→Int→Int→Int→Int→Int→Int→(List Int)→Int→Option (List Int)
  | 0,_,_,_,_,_,_,_,_,_=>none
  | k+1,tet,f,e1,b1,a1,c1,d1,x24,x25=>if x25<6 then (Dz (Ib.f K x25) (fun t47 t48=>(if t47=f then (Ay.l1 K k tet f e1 b1 a1 c1 d1 x24 (w64 (x25+1))) else (if t48=f then (Ay.l1 K k tet f e1 b1 a1 c1 d1 x24 (w64 (x25+1))) else (if 0≤t47∧t47<4 then (if 0≤t48∧t48<4 then ((Ht.f K (([b1,a1,c1,d1]:List Int).getD t47.toNat 0) (([b1,a1,c1,d1]:List Int).getD t48.toNat 0)).bind fun t57=>((Gn.f K x24 (w64 ((w64 (6 * tet))+x25)) (w64 ((w64 (6 * e1))+t57))).bind fun t61=>(if t61.length=x24.length then (Ay.l1 K k tet f e1 b1 a1 c1 d1 t61 (w64 (x25+1))) else none))) else none) else none))))) else (some x24)
def Ay.f (K:Nat) (tet:Int) (f:Int) (a1:Int) (g1:Int) (d1:Int) (c1:Int) (e1:Int) (f1:Int) (b1:List Int):Option (List Int):=Ay.l1 K K tet f a1 d1 c1 e1 f1 b1 0
abbrev Ay.post (w0:World) (L:List Df) (b_v0:Nat) (A_a:Option Addr) (c_a:Nat) (r1:List Int) (en:Ending) (w:World):Prop:=en=.returned (.tuple #[])∧St w0 w (Box b_v0 26 [.slice A_a r1.length c_a]::Own (Ad .i64) 2 A_a c_a (fun _=>()) r1::L)
mutual
def Ag.l1 (K:Nat):Nat→(List (List Aw))→(List Int)→Int→Option (List Int)
  | 0,_,_,_=>none
  | k+1,a1,x79,x80=>if x80<(a1.length:Int) then (if 0≤x80∧x80<(a1.length:Int) then (Ag.l4 K k a1 x80 x79 0) else none) else (some x79)
def Ag.l4 (K:Nat):Nat→(List (List Aw))→Int→(List Int)→Int→Option (List Int)
  | 0,_,_,_,_=>none
  | k+1,a1,x80,x183,x184=>if x184<((a1.getD x80.toNat []).length:Int) then (if 0≤x184∧x184<((a1.getD x80.toNat []).length:Int) then (bnd ((a1.getD x80.toNat []).getD x184.toNat Hy) (fun e211=>(Ct.f e211.Tet e211.Perm).bind fun t216=>(if t216=true then (Ag.l4 K k a1 x80 x183 (w64 (x184+1))) else (Gs (Em.f K e211.Perm) (fun t221 t222 t223 t224=>((Ay.f K x80 x184 e211.Tet e211.Perm t221 t222 t223 t224 x183).bind fun t228=>(if t228.length=x183.length then (Ag.l4 K k a1 x80 t228 (w64 (x184+1))) else none))))))) else none) else (Ag.l1 K k a1 x183 (w64 (x80+1)))
end
def Ag.f (K:Nat) (a1:List (List Aw)) (b1:List Int):Option (List Int):=Ag.l1 K K a1 b1 0
abbrev Ag.post (w0:World) (L:List Df) (b_cap:Nat) (A_b:Option Addr) (c_b:Nat) (r1:List Int) (en:Ending) (w:World):Prop:=en=.returned (.tuple #[])∧St w0 w (Box b_cap 26 [.slice A_b r1.length c_b]::Own (Ad .i64) 2 A_b c_b (fun _=>()) r1::L)
mutual
def Dn.l1 (K:Nat):Nat→(List Int)→(List (Int × Int))→(List Int)→Int→Option (List Int)
  | 0,_,_,_,_=>none
  | k+1,roots,a1,b1,x20=>if x20<(roots.length:Int) then (if 0≤x20∧x20<(roots.length:Int) then (if ((Ko a1 (roots.getD x20.toNat 0)).isSome)=true then (Dn.j4 K k roots b1 x20 a1) else (Dn.j4 K k roots b1 x20 (Ld a1 (roots.getD x20.toNat 0) (a1.length:Int)))) else none) else (some b1)
def Dn.j4 (K:Nat):Nat→(List Int)→(List Int)→Int→(List (Int × Int))→Option (List Int)
  | 0,_,_,_,_=>none
  | k+1,roots,b1,x20,a1=>if (b1.length+1) * 8≤140737488355328 then (Dn.l1 K k roots a1 (b1++[(Ko a1 (roots.getD x20.toNat 0)).getD 0]) (w64 (x20+1))) else none
end
def Dn.f (K:Nat) (roots:List Int):Option (List Int):=Dn.l1 K K roots ([]:List (Int × Int)) ([]:List Int) 0
abbrev Dn.post (w0:World) (L:List Df) (r1:List Int) (en:Ending) (w:World):Prop:=∃ (A_r0:Option Addr) (c_r1:Nat),en=.returned (.slice A_r0 r1.length c_r1)∧St w0 w (Own (Ad .i64) 2 A_r0 c_r1 (fun _=>()) r1::L)
def Bv.f (K:Nat) (a1:List (List Aw)):Option (List Int):=(Dh.f a1).bind fun t3=>((Ey.f K (w64 (6 * t3))).bind fun t7=>((Ag.f K a1 t7).bind fun t16=>(if t16.length=t7.length then ((Dn.f K t16).bind fun t21=>(some t21)) else none)))
abbrev Bv.post (w0:World) (L:List Df) (r1:List Int) (en:Ending) (w:World):Prop:=∃ (A_r0:Option Addr) (c_r1:Nat),en=.returned (.slice A_r0 r1.length c_r1)∧St w0 w (Own (Ad .i64) 2 A_r0 c_r1 (fun _=>()) r1::L)
def Dk.l2 (K:Nat):Nat→(List Int)→Int→Int→Option (Int)
  | 0,_,_,_=>none
  | k+1,x,m_6,i_7=>if i_7<(x.length:Int) then (if 0≤i_7∧i_7<(x.length:Int) then (Dk.l2 K k x (if x.getD i_7.toNat 0 > m_6 then x.getD i_7.toNat 0 else m_6) (w64 (i_7+1))) else none) else (some m_6)
def Dk.f (K:Nat) (x:List Int):Option (Int):=if (x.length:Int)<1 then (none) else (if 0≤(0:Int)∧(0:Int)<(x.length:Int) then (Dk.l2 K K x (x.getD 0 0) 1) else none)
abbrev Dk.post:=Jq
def D5.f (K:Nat) (classes:List Int):Option (Int):=if (classes.length:Int)=0 then (some 0) else ((Dk.f K classes).bind fun t2=>(some (w64 (t2+1))))
abbrev D5.post:=Jq
def Cm.l1 (K:Nat):Nat→(List Int)→Int→Int→Option (Int)
  | 0,_,_,_=>none
  | k+1,s,v,x4=>if x4<(s.length:Int) then (if 0≤x4∧x4<(s.length:Int) then (if v=s.getD x4.toNat 0 then (some x4) else (Cm.l1 K k s v (w64 (x4+1)))) else none) else (some (-1))
def Cm.f (K:Nat) (s:List Int) (v:Int):Option (Int):=Cm.l1 K K s v 0
abbrev Cm.post:=Jq
def Gi.f (K:Nat) (s:List Int) (v:Int):Option (Bool):=(Cm.f K s v).bind fun t1=>(some (decide (0≤t1)))
abbrev Gi.post:=Js
def G7.f (K:Nat) (v:Int) (a1:List Int):Option (Bool):=(Gi.f K a1 v).bind fun t1=>(some t1)
abbrev G7.post (w0:World) (L:List Df) (v0_2:List Int) (b_v0:Nat) (A_a:Option Addr) (c_a:Nat) (r1:Bool) (en:Ending) (w:World):Prop:=en=.returned (.bool r1)∧St w0 w (Box b_v0 26 [.slice A_a v0_2.length c_a]::L)
def Cf.l1 (K:Nat):Nat→(List Int)→(List Int)→Int→Option (Int)
  | 0,_,_,_=>none
  | k+1,s,a1,x8=>if x8<(s.length:Int) then (if 0≤x8∧x8<(s.length:Int) then ((G7.f K (s.getD x8.toNat 0) a1).bind fun t18=>(if t18=true then (some x8) else (Cf.l1 K k s a1 (w64 (x8+1))))) else none) else (some (-1))
def Cf.f (K:Nat) (s:List Int) (a1:List Int):Option (Int):=Cf.l1 K K s a1 0
abbrev Cf.post (w0:World) (L:List Df) (cap_2:List Int) (b_cap:Nat) (A_b:Option Addr) (c_b:Nat) (r1:Int) (en:Ending) (w:World):Prop:=en=.returned (.int .i64 r1)∧St w0 w (Box b_cap 26 [.slice A_b cap_2.length c_b]::L)
def Bz.l1 (K:Nat):Nat→(List Int)→(List Int)→Int→Int→Option (List Int)
  | 0,_,_,_,_=>none
  | k+1,c1,x19,a1,b1=>if b1<(x19.length:Int) then (if 0≤b1∧b1<(x19.length:Int) then ((G7.f K (x19.getD b1.toNat 0) c1).bind fun t37=>(if t37=true then (Bz.l1 K k c1 x19 a1 (w64 (b1+1))) else (if 0≤a1∧a1<(x19.length:Int) then (Bz.l1 K k c1 (x19.set a1.toNat (x19.getD b1.toNat 0)) (w64 (a1+1)) (w64 (b1+1))) else none))) else none) else (if 0≤a1∧a1≤(x19.length:Int) then (if 0≤a1∧a1≤((over x19 a1.toNat (List.replicate ((x19.take x19.length).drop a1.toNat).length 0)).length:Int) then (some (((over x19 a1.toNat (List.replicate ((x19.take x19.length).drop a1.toNat).length 0)).take a1.toNat).drop 0)) else none) else none)
def Bz.f (K:Nat) (s:List Int) (a1:List Int):Option (List Int):=(Cf.f K s a1).bind fun t1=>(if t1=(-1) then (some s) else (Bz.l1 K K a1 s t1 (w64 (t1+1))))
abbrev Bz.post (w0:World) (L:List Df) (cap_2:List Int) (b_cap:Nat) (A_b:Option Addr) (c_b:Nat) (r1:List Int) (en:Ending) (w:World):Prop:=∃ (A_r0:Option Addr) (c_r1:Nat),en=.returned (.slice A_r0 r1.length c_r1)∧St w0 w (Own (Ad .i64) 2 A_r0 c_r1 (fun _=>()) r1::Box b_cap 26 [.slice A_b cap_2.length c_b]::L)
def Gp.f (K:Nat) (not:List Int):Option (List Int):=(Ey.f K 4).bind fun t3=>((Bz.f K t3 not).bind fun t9=>(some t9))
abbrev Gp.post (w0:World) (L:List Df) (r1:List Int) (en:Ending) (w:World):Prop:=∃ (A_r0:Option Addr) (c_r1:Nat),en=.returned (.slice A_r0 r1.length c_r1)∧St w0 w (Own (Ad .i64) 2 A_r0 c_r1 (fun _=>()) r1::L)
def Kn.f (x:Int):Option (Int):=if x<0 then (some (-1)) else (some 1)
abbrev Kn.post:=Jq
def Dc.f (next:Int) (same:Int) (b1:List Int) (a1:List Int) (c1:Int) (d1:List (Int × Bool)) (e1:List Int):Option ((List Int) × (List Int) × (List (Int × Bool))):=if 0≤c1∧c1<(a1.length:Int) then (if 0≤a1.getD c1.toNat 0∧a1.getD c1.toNat 0<(b1.length:Int) then (if 0≤next∧next<(b1.length:Int) then (if b1.getD next.toNat 0=0 then (if (a1.length+1) * 8≤140737488355328 then (some ((b1.set next.toNat (w64 ((b1.getD ((a1.getD c1.toNat 0).toNat) 0) * same))),(a1++[next]),d1)) else none) else (if b1.getD next.toNat 0=w64 (0 - (w64 ((b1.getD ((a1.getD c1.toNat 0).toNat) 0) * same))) then (if 0≤next∧next<(e1.length:Int) then (some (b1,a1,(Qr d1 (e1.getD next.toNat 0) true))) else none) else (some (b1,a1,d1)))) else none) else none) else none
abbrev Dc.post (w0:World) (L:List Df) (v2_2:Int) (v4_2:List Int) (b_v0:Nat) (A_a:Option Addr) (c_a b_v1:Nat) (b_v2 b_v3:Nat) (b_v3_2 b_v4:Nat) (A_c:Option Addr) (c_c:Nat) (r1 r2:List Int) (r3:List (Int × Bool)) (en:Ending) (w:World):Prop:=∃ (A_r0:Option Addr) (c_r1:Nat),en=.returned (.tuple #[])∧St w0 w (Box b_v0 26 [.slice A_a r1.length c_a]::Own (Ad .i64) 2 A_a c_a (fun _=>()) r1::Box b_v1 26 [.slice A_r0 r2.length c_r1]::Own (Ad .i64) 2 A_r0 c_r1 (fun _=>()) r2::Box b_v2 3 [.int .i64 v2_2]::Box b_v3 162 [.map (some b_v3_2)]::O5 b_v3_2 (Value.int .i64) Value.bool r3::Box b_v4 26 [.slice A_c v4_2.length c_c]::L)
def Ak.l1 (K:Nat):Nat→(List (List Aw))→Int→Int→(List Int)→Int→Int→(List Int)→(List Int)→(List Int)→(List (Int × Bool))→Int→Option ((List Int) × (List Int) × (List (Int × Bool)))
  | 0,_,_,_,_,_,_,_,_,_,_,_=>none
  | k+1,a1,id,c1,b1,t3,t4,t10,x59,x62,x63,x64=>if x64<(t10.length:Int) then (if 0≤x64∧x64<(t10.length:Int) then (if 0≤w64 (id.tdiv 6)∧w64 (id.tdiv 6)<(a1.length:Int) then (if 0≤t10.getD x64.toNat 0∧t10.getD x64.toNat 0<((a1.getD ((w64 (id.tdiv 6)).toNat) []).length:Int) then (bnd ((a1.getD ((w64 (id.tdiv 6)).toNat) []).getD ((t10.getD x64.toNat 0).toNat) Hy) (fun e112=>(Ct.f e112.Tet e112.Perm).bind fun t117=>(if t117=true then (Ak.l1 K k a1 id c1 b1 t3 t4 t10 x59 x62 x63 (w64 (x64+1))) else (Gs (Em.f K e112.Perm) (fun t122 t123 t124 t125=>(if 0≤t3∧t3<4 then (if 0≤t4∧t4<4 then ((Ht.f K (([t122,t123,t124,t125]:List Int).getD t3.toNat 0) (([t122,t123,t124,t125]:List Int).getD t4.toNat 0)).bind fun t134=>((Kn.f (w64 ((([t122,t123,t124,t125]:List Int).getD t4.toNat 0) - (([t122,t123,t124,t125]:List Int).getD t3.toNat 0)))).bind fun t138=>(Fe (Dc.f (w64 ((w64 (6 * e112.Tet))+t134)) t138 x59 x62 c1 x63 b1) (fun t142 t143 t144=>(if t142.length=x59.length then (Ak.l1 K k a1 id c1 b1 t3 t4 t10 t142 t143 t144 (w64 (x64+1))) else none))))) else none) else none)))))) else none) else none) else none) else (some (x59,x62,x63))
def Ak.f (K:Nat) (c1:List (List Aw)) (id:Int) (b1:List Int) (e1:List Int) (a1:Int) (d1:List (Int × Bool)) (f1:List Int):Option ((List Int) × (List Int) × (List (Int × Bool))):=Dz (Ib.f K (id.tmod 6)) (fun t3 t4=>((Gp.f K ([t3,t4]:List Int)).bind fun t10=>(Ak.l1 K K c1 id a1 f1 t3 t4 t10 b1 e1 d1 0)))
abbrev Ak.post (w0:World) (L:List Df) (cap_6:Int) (cap_10:List Int) (b_cap:Nat) (A_b:Option Addr) (c_b b_cap_3:Nat) (b_cap_5 b_cap_7:Nat) (b_cap_8 b_cap_9:Nat) (A_d:Option Addr) (c_d:Nat) (r1 r2:List Int) (r3:List (Int × Bool)) (en:Ending) (w:World):Prop:=∃ (A_r0:Option Addr) (c_r1:Nat),en=.returned (.tuple #[])∧St w0 w (Box b_cap 26 [.slice A_b r1.length c_b]::Own (Ad .i64) 2 A_b c_b (fun _=>()) r1::Box b_cap_3 26 [.slice A_r0 r2.length c_r1]::Own (Ad .i64) 2 A_r0 c_r1 (fun _=>()) r2::Box b_cap_5 3 [.int .i64 cap_6]::Box b_cap_7 162 [.map (some b_cap_8)]::O5 b_cap_8 (Value.int .i64) Value.bool r3::Box b_cap_9 26 [.slice A_d cap_10.length c_d]::L)
mutual
def Ai.l1 (K:Nat):Nat→(List (List Aw))→Int→(List Int)→(List Int)→(List (Int × Bool))→Int→Option (List Int)
  | 0,_,_,_,_,_,_=>none
  | k+1,c1,t3,t14,a1,b1,x117=>if x117<w64 (6 * t3) then (if 0≤x117∧x117<(a1.length:Int) then (if a1.getD x117.toNat 0=0 then (Ai.l6 K k c1 t3 t14 x117 (a1.set x117.toNat 1) b1 ([x117]:List Int) 0) else (Ai.l1 K k c1 t3 t14 a1 b1 (w64 (x117+1)))) else none) else (Ai.l7 K k t14 a1 b1 a1 0)
def Ai.l6 (K:Nat):Nat→(List (List Aw))→Int→(List Int)→Int→(List Int)→(List (Int × Bool))→(List Int)→Int→Option (List Int)
  | 0,_,_,_,_,_,_,_,_=>none
  | k+1,c1,t3,t14,x117,d1,e1,b1,a1=>if a1<(b1.length:Int) then (if 0≤a1∧a1<(b1.length:Int) then (Fe (Ak.f K c1 (b1.getD a1.toNat 0) d1 b1 a1 e1 t14) (fun t259 t260 t261=>(if t259.length=d1.length then (Ai.l6 K k c1 t3 t14 x117 t259 t261 t260 (w64 (a1+1))) else none))) else none) else (Ai.l1 K k c1 t3 t14 d1 e1 (w64 (x117+1)))
def Ai.l7 (K:Nat):Nat→(List Int)→(List Int)→(List (Int × Bool))→(List Int)→Int→Option (List Int)
  | 0,_,_,_,_,_=>none
  | k+1,t14,b1,c1,a1,x279=>if x279<(b1.length:Int) then (if 0≤x279∧x279<(t14.length:Int) then (if ((Lv c1 (t14.getD x279.toNat 0)).getD false)=true then (if 0≤x279∧x279<(a1.length:Int) then (Ai.l7 K k t14 b1 c1 (a1.set x279.toNat 0) (w64 (x279+1))) else none) else (Ai.l7 K k t14 b1 c1 a1 (w64 (x279+1)))) else none) else (some a1)
end
def Ai.f (K:Nat) (a1:List (List Aw)):Option (List Int):=(Dh.f a1).bind fun t3=>(if 0≤w64 (6 * t3) then (if (w64 (6 * t3)).toNat * 8≤281474976710656 then ((Bv.f K a1).bind fun t14=>(Ai.l1 K K a1 t3 t14 (List.replicate (w64 (6 * t3)).toNat (0:Int)) ([]:List (Int × Bool)) 0)) else none) else none)
abbrev Ai.post (w0:World) (L:List Df) (r1:List Int) (en:Ending) (w:World):Prop:=∃ (A_r0:Option Addr) (c_r1:Nat),en=.returned (.slice A_r0 r1.length c_r1)∧St w0 w (Own (Ad .i64) 2 A_r0 c_r1 (fun _=>()) r1::L)
def Cb.l1 (K:Nat):Nat→(List Int)→(List Int)→(List Bool)→Int→Option (List Bool)
  | 0,_,_,_,_=>none
  | k+1,t3,t17,a1,x29=>if x29<(t17.length:Int) then (if 0≤x29∧x29<(t17.length:Int) then (if 0≤x29∧x29<(t3.length:Int) then (if 0≤t3.getD x29.toNat 0∧t3.getD x29.toNat 0<(a1.length:Int) then (Cb.l1 K k t3 t17 (a1.set ((t3.getD x29.toNat 0).toNat) (decide (t17.getD x29.toNat 0=0))) (w64 (x29+1))) else none) else none) else none) else (some a1)
def Cb.f (K:Nat) (a1:List (List Aw)):Option (List Bool):=(Bv.f K a1).bind fun t3=>((D5.f K t3).bind fun t9=>(if 0≤t9 then (if t9.toNat * 1≤281474976710656 then ((Ai.f K a1).bind fun t17=>(Cb.l1 K K t3 t17 (List.replicate t9.toNat false) 0)) else none) else none))
abbrev Cb.post (w0:World) (L:List Df) (r1:List Bool) (en:Ending) (w:World):Prop:=∃ (A_r0:Option Addr) (c_r1:Nat),en=.returned (.slice A_r0 r1.length c_r1)∧St w0 w (Own Lt 4 A_r0 c_r1 (fun _=>()) r1::L)
def Dp.l1 (K:Nat):Nat→(List Bool)→Bool→Int→Option (Int)
  | 0,_,_,_=>none
  | k+1,s,v,x4=>if x4<(s.length:Int) then (if 0≤x4∧x4<(s.length:Int) then (if (v == (s.getD x4.toNat false))=true then (some x4) else (Dp.l1 K k s v (w64 (x4+1)))) else none) else (some (-1))
def Dp.f (K:Nat) (s:List Bool) (v:Bool):Option (Int):=Dp.l1 K K s v 0
abbrev Dp.post:=Jq
def Fg.f (K:Nat) (s:List Bool) (v:Bool):Option (Bool):=(Dp.f K s v).bind fun t1=>(some (decide (0≤t1)))
abbrev Fg.post:=Js
def J3.f (K:Nat) (a1:List (List Aw)) (k_:Int) (least:Int):Option (Int):=(Bw.f K a1).bind fun t3=>(if t3=true then ((Fs.f k_ least 3).bind fun t8=>(if t8=true then ((Cb.f K a1).bind fun t13=>((Fg.f K t13 true).bind fun t19=>(if t19=true then (some 5) else (some 0)))) else (some 2))) else (some 1))
abbrev J3.post:=Jq
def Ar.l1 (K:Nat):Nat→Int→Int→Int→Int→Int→Int→(List Int)→(List Int)→Int→Option (List Int)
  | 0,_,_,_,_,_,_,_,_,_=>none
  | k+1,tet,a1,c1,b1,d1,e1,t7,x21,x22=>if x22<(t7.length:Int) then (if 0≤x22∧x22<(t7.length:Int) then (if 0≤t7.getD x22.toNat 0∧t7.getD x22.toNat 0<4 then ((Gn.f K x21 (w64 ((w64 (4 * tet))+(t7.getD x22.toNat 0))) (w64 ((w64 (4 * a1))+(([c1,b1,d1,e1]:List Int).getD (t7.getD x22.toNat 0).toNat 0)))).bind fun t34=>(if t34.length=x21.length then (Ar.l1 K k tet a1 c1 b1 d1 e1 t7 t34 (w64 (x22+1))) else none)) else none) else none) else (some x21)
def Ar.f (K:Nat) (tet:Int) (f:Int) (a1:Int) (g1:Int) (d1:Int) (c1:Int) (e1:Int) (f1:Int) (b1:List Int):Option (List Int):=(Gp.f K ([f]:List Int)).bind fun t7=>(Ar.l1 K K tet a1 d1 c1 e1 f1 t7 b1 0)
abbrev Ar.post (w0:World) (L:List Df) (b_v0:Nat) (A_a:Option Addr) (c_a:Nat) (r1:List Int) (en:Ending) (w:World):Prop:=en=.returned (.tuple #[])∧St w0 w (Box b_v0 26 [.slice A_a r1.length c_a]::Own (Ad .i64) 2 A_a c_a (fun _=>()) r1::L)
mutual
def Ae.l1 (K:Nat):Nat→(List (List Aw))→(List Int)→Int→Option (List Int)
  | 0,_,_,_=>none
  | k+1,a1,x79,x80=>if x80<(a1.length:Int) then (if 0≤x80∧x80<(a1.length:Int) then (Ae.l4 K k a1 x80 x79 0) else none) else (some x79)
def Ae.l4 (K:Nat):Nat→(List (List Aw))→Int→(List Int)→Int→Option (List Int)
  | 0,_,_,_,_=>none
  | k+1,a1,x80,x183,x184=>if x184<((a1.getD x80.toNat []).length:Int) then (if 0≤x184∧x184<((a1.getD x80.toNat []).length:Int) then (bnd ((a1.getD x80.toNat []).getD x184.toNat Hy) (fun e211=>(Ct.f e211.Tet e211.Perm).bind fun t216=>(if t216=true then (Ae.l4 K k a1 x80 x183 (w64 (x184+1))) else (Gs (Em.f K e211.Perm) (fun t221 t222 t223 t224=>((Ar.f K x80 x184 e211.Tet e211.Perm t221 t222 t223 t224 x183).bind fun t228=>(if t228.length=x183.length then (Ae.l4 K k a1 x80 t228 (w64 (x184+1))) else none))))))) else none) else (Ae.l1 K k a1 x183 (w64 (x80+1)))
end
def Ae.f (K:Nat) (a1:List (List Aw)) (b1:List Int):Option (List Int):=Ae.l1 K K a1 b1 0
abbrev Ae.post (w0:World) (L:List Df) (b_cap:Nat) (A_b:Option Addr) (c_b:Nat) (r1:List Int) (en:Ending) (w:World):Prop:=en=.returned (.tuple #[])∧St w0 w (Box b_cap 26 [.slice A_b r1.length c_b]::Own (Ad .i64) 2 A_b c_b (fun _=>()) r1::L)
def Dm.f (K:Nat) (a1:List (List Aw)):Option (List Int):=(Dh.f a1).bind fun t3=>((Ey.f K (w64 (4 * t3))).bind fun t7=>((Ae.f K a1 t7).bind fun t16=>(if t16.length=t7.length then ((Dn.f K t16).bind fun t21=>(some t21)) else none)))
abbrev Dm.post (w0:World) (L:List Df) (r1:List Int) (en:Ending) (w:World):Prop:=∃ (A_r0:Option Addr) (c_r1:Nat),en=.returned (.slice A_r0 r1.length c_r1)∧St w0 w (Own (Ad .i64) 2 A_r0 c_r1 (fun _=>()) r1::L)
def Di.f (K:Nat) (tet:Int) (f:Int) (b1:Int) (g1:Int) (d1:Int) (c1:Int) (e1:Int) (f1:Int) (a1:List Int):Option (List Int):=if 0≤f∧f<4 then ((Gn.f K a1 (w64 ((w64 (4 * tet))+f)) (w64 ((w64 (4 * b1))+(([d1,c1,e1,f1]:List Int).getD f.toNat 0)))).bind fun t6=>(if t6.length=a1.length then (some t6) else none)) else none
abbrev Di.post (w0:World) (L:List Df) (b_v0:Nat) (A_a:Option Addr) (c_a:Nat) (r1:List Int) (en:Ending) (w:World):Prop:=en=.returned (.tuple #[])∧St w0 w (Box b_v0 26 [.slice A_a r1.length c_a]::Own (Ad .i64) 2 A_a c_a (fun _=>()) r1::L)
mutual
def Af.l1 (K:Nat):Nat→(List (List Aw))→(List Int)→Int→Option (List Int)
  | 0,_,_,_=>none
  | k+1,a1,x79,x80=>if x80<(a1.length:Int) then (if 0≤x80∧x80<(a1.length:Int) then (Af.l4 K k a1 x80 x79 0) else none) else (some x79)
def Af.l4 (K:Nat):Nat→(List (List Aw))→Int→(List Int)→Int→Option (List Int)
  | 0,_,_,_,_=>none
  | k+1,a1,x80,x183,x184=>if x184<((a1.getD x80.toNat []).length:Int) then (if 0≤x184∧x184<((a1.getD x80.toNat []).length:Int) then (bnd ((a1.getD x80.toNat []).getD x184.toNat Hy) (fun e211=>(Ct.f e211.Tet e211.Perm).bind fun t216=>(if t216=true then (Af.l4 K k a1 x80 x183 (w64 (x184+1))) else (Gs (Em.f K e211.Perm) (fun t221 t222 t223 t224=>((Di.f K x80 x184 e211.Tet e211.Perm t221 t222 t223 t224 x183).bind fun t228=>(if t228.length=x183.length then (Af.l4 K k a1 x80 t228 (w64 (x184+1))) else none))))))) else none) else (Af.l1 K k a1 x183 (w64 (x80+1)))
end
def Af.f (K:Nat) (a1:List (List Aw)) (b1:List Int):Option (List Int):=Af.l1 K K a1 b1 0
abbrev Af.post (w0:World) (L:List Df) (b_cap:Nat) (A_b:Option Addr) (c_b:Nat) (r1:List Int) (en:Ending) (w:World):Prop:=en=.returned (.tuple #[])∧St w0 w (Box b_cap 26 [.slice A_b r1.length c_b]::Own (Ad .i64) 2 A_b c_b (fun _=>()) r1::L)
def Cz.f (K:Nat) (a1:List (List Aw)):Option (List Int):=(Dh.f a1).bind fun t3=>((Ey.f K (w64 (4 * t3))).bind fun t7=>((Af.f K a1 t7).bind fun t16=>(if t16.length=t7.length then ((Dn.f K t16).bind fun t21=>(some t21)) else none)))
abbrev Cz.post (w0:World) (L:List Df) (r1:List Int) (en:Ending) (w:World):Prop:=∃ (A_r0:Option Addr) (c_r1:Nat),en=.returned (.slice A_r0 r1.length c_r1)∧St w0 w (Own (Ad .i64) 2 A_r0 c_r1 (fun _=>()) r1::L)
def Ep.f (K:Nat) (a1:List (List Aw)):Option (List Int):=(Dm.f K a1).bind fun t3=>((D5.f K t3).bind fun t9=>((Bv.f K a1).bind fun t13=>((D5.f K t13).bind fun t19=>((Cz.f K a1).bind fun t23=>((D5.f K t23).bind fun t29=>((Dh.f a1).bind fun t33=>(some ([t9,t19,t29,t33]:List Int))))))))
abbrev Ep.post (w0:World) (L:List Df) (r1:List Int) (en:Ending) (w:World):Prop:=∃ (A_r0:Option Addr) (c_r1:Nat),en=.returned (.slice A_r0 r1.length c_r1)∧St w0 w (Own (Ad .i64) 2 A_r0 c_r1 (fun _=>()) r1::L)
def Ee.f (rows:Int) (columns:Int):Option (Int × Int × (List Int)):=if 0≤w64 (rows * columns) then (if (w64 (rows * columns)).toNat * 8≤281474976710656 then (some (rows,columns,(List.replicate (w64 (rows * columns)).toNat (0:Int)))) else none) else none
abbrev Ee.post (w0:World) (L:List Df) (r1 r2:Int) (r3:List Int) (en:Ending) (w:World):Prop:=∃ (A_r0:Option Addr) (c_r1:Nat),en=.returned (.agg [.int .i64 r1,.int .i64 r2,.slice A_r0 r3.length c_r1].toArray)∧St w0 w (Own (Ad .i64) 2 A_r0 c_r1 (fun _=>()) r3::L)
def Be.f (c1:Int) (a1:Int) (b1:List Int) (row:Int) (column:Int):Option (Int):=if 0≤w64 ((w64 (row * a1))+column)∧w64 ((w64 (row * a1))+column)<(b1.length:Int) then (some (w64 ((w64 (row * a1))+column))) else none
abbrev Be.post (w0:World) (L:List Df) (A_a:Option Addr) (r1:Int) (en:Ending) (w:World):Prop:=en=.returned (.pointer (some (ea A_a (r1.toNat * 1))))∧St w0 w (L)
def Br.l1 (K:Nat):Nat→(List Int)→(List Int)→Int→Int→(List Int)→Int→Option (Int × Int × (List Int))
  | 0,_,_,_,_,_,_=>none
  | k+1,t5,t11,t25,t26,a1,x64=>if x64<t26 then ((Cm.f K t11 x64).bind fun t93=>(Dz (Ib.f K (t93.tmod 6)) (fun t97 t98=>(if 0≤w64 ((w64 (4 * (w64 (t93.tdiv 6))))+t98)∧w64 ((w64 (4 * (w64 (t93.tdiv 6))))+t98)<(t5.length:Int) then ((Be.f t25 t26 a1 (t5.getD ((w64 ((w64 (4 * (w64 (t93.tdiv 6))))+t98)).toNat) 0) x64).bind fun t104=>(if 0≤t104∧t104<(a1.length:Int) then (if 0≤w64 ((w64 (4 * (w64 (t93.tdiv 6))))+t97)∧w64 ((w64 (4 * (w64 (t93.tdiv 6))))+t97)<(t5.length:Int) then ((Be.f t25 t26 (a1.set t104.toNat (w64 ((a1.getD t104.toNat 0)+1))) (t5.getD ((w64 ((w64 (4 * (w64 (t93.tdiv 6))))+t97)).toNat) 0) x64).bind fun t112=>(if 0≤t112∧t112<((a1.set t104.toNat (w64 ((a1.getD t104.toNat 0)+1))).length:Int) then (Br.l1 K k t5 t11 t25 t26 ((a1.set t104.toNat (w64 ((a1.getD t104.toNat 0)+1))).set t112.toNat (w64 (((a1.set t104.toNat (w64 ((a1.getD t104.toNat 0)+1))).getD t112.toNat 0) - 1))) (w64 (x64+1))) else none)) else none) else none)) else none)))) else (some (t25,t26,a1))
def Br.f (K:Nat) (a1:List (List Aw)):Option (Int × Int × (List Int)):=(Dm.f K a1).bind fun t5=>((Bv.f K a1).bind fun t11=>((D5.f K t5).bind fun t17=>((D5.f K t11).bind fun t21=>(Fe (Ee.f t17 t21) (fun t25 t26 t27=>(Br.l1 K K t5 t11 t25 t26 t27 0))))))
abbrev Br.post (w0:World) (L:List Df) (r1 r2:Int) (r3:List Int) (en:Ending) (w:World):Prop:=∃ (A_r0:Option Addr) (c_r1:Nat),en=.returned (.agg [.int .i64 r1,.int .i64 r2,.slice A_r0 r3.length c_r1].toArray)∧St w0 w (Own (Ad .i64) 2 A_r0 c_r1 (fun _=>()) r3::L)
def Kg.f (i:Int):Option (Int):=some (w64 (1 - (w64 (2 * (i.tmod 2)))))
abbrev Kg.post:=Jq
mutual
def Aq.l1 (K:Nat):Nat→(List Int)→(List Int)→(List Int)→Int→Int→(List Int)→Int→Option (Int × Int × (List Int))
  | 0,_,_,_,_,_,_,_=>none
  | k+1,t5,t11,t17,t31,t32,a1,x155=>if x155<t32 then ((Cm.f K t11 x155).bind fun t269=>((Gp.f K ([t269.tmod 4]:List Int)).bind fun t275=>(Aq.l4 K k t5 t11 t17 t31 t32 x155 t269 t275 a1 0))) else (some (t31,t32,a1))
def Aq.l4 (K:Nat):Nat→(List Int)→(List Int)→(List Int)→Int→Int→Int→Int→(List Int)→(List Int)→Int→Option (Int × Int × (List Int))
  | 0,_,_,_,_,_,_,_,_,_,_=>none
  | k+1,t5,t11,t17,t31,t32,x155,t269,t275,a1,x314=>if x314<(t275.length:Int) then (if 0≤x314∧x314<(t275.length:Int) then ((Gp.f K ([t269.tmod 4,t275.getD x314.toNat 0]:List Int)).bind fun t351=>(if 0≤(0:Int)∧(0:Int)<(t351.length:Int) then (if 0≤(1:Int)∧(1:Int)<(t351.length:Int) then ((Ht.f K (t351.getD 0 0) (t351.getD 1 0)).bind fun t361=>(if 0≤w64 ((w64 (6 * (w64 (t269.tdiv 4))))+t361)∧w64 ((w64 (6 * (w64 (t269.tdiv 4))))+t361)<(t5.length:Int) then ((Be.f t31 t32 a1 (t5.getD ((w64 ((w64 (6 * (w64 (t269.tdiv 4))))+t361)).toNat) 0) x155).bind fun t367=>(if 0≤t367∧t367<(a1.length:Int) then ((Kg.f x314).bind fun t372=>(if 0≤w64 ((w64 (6 * (w64 (t269.tdiv 4))))+t361)∧w64 ((w64 (6 * (w64 (t269.tdiv 4))))+t361)<(t17.length:Int) then (Aq.l4 K k t5 t11 t17 t31 t32 x155 t269 t275 (a1.set t367.toNat (w64 ((a1.getD t367.toNat 0)+(w64 (t372 * (t17.getD ((w64 ((w64 (6 * (w64 (t269.tdiv 4))))+t361)).toNat) 0)))))) (w64 (x314+1))) else none)) else none)) else none)) else none) else none)) else none) else (Aq.l1 K k t5 t11 t17 t31 t32 a1 (w64 (x155+1)))
end
def Aq.f (K:Nat) (a1:List (List Aw)):Option (Int × Int × (List Int)):=(Bv.f K a1).bind fun t5=>((Cz.f K a1).bind fun t11=>((Ai.f K a1).bind fun t17=>((D5.f K t5).bind fun t23=>((D5.f K t11).bind fun t27=>(Fe (Ee.f t23 t27) (fun t31 t32 t33=>(Aq.l1 K K t5 t11 t17 t31 t32 t33 0)))))))
abbrev Aq.post (w0:World) (L:List Df) (r1 r2:Int) (r3:List Int) (en:Ending) (w:World):Prop:=∃ (A_r0:Option Addr) (c_r1:Nat),en=.returned (.agg [.int .i64 r1,.int .i64 r2,.slice A_r0 r3.length c_r1].toArray)∧St w0 w (Own (Ad .i64) 2 A_r0 c_r1 (fun _=>()) r3::L)
def Jw.f (x:Int) (y:Int):Option (Int × Int):=some (IntKind.wrap .u64 ((IntKind.wrap .u64 ((IntKind.wrap .u64 ((x / 2 ^ 32) * (y / 2 ^ 32)))+((IntKind.wrap .u64 ((IntKind.wrap .u64 ((x / 2 ^ 32) * (Go.bits .and .u64 y 4294967295)))+((IntKind.wrap .u64 ((Go.bits .and .u64 x 4294967295) * (Go.bits .and .u64 y 4294967295))) / 2 ^ 32))) / 2 ^ 32)))+((IntKind.wrap .u64 ((Go.bits .and .u64 (IntKind.wrap .u64 ((IntKind.wrap .u64 ((x / 2 ^ 32) * (Go.bits .and .u64 y 4294967295)))+((IntKind.wrap .u64 ((Go.bits .and .u64 x 4294967295) * (Go.bits .and .u64 y 4294967295))) / 2 ^ 32))) 4294967295)+(IntKind.wrap .u64 ((Go.bits .and .u64 x 4294967295) * (y / 2 ^ 32))))) / 2 ^ 32)),IntKind.wrap .u64 (x * y))
abbrev Jw.post (w0:World) (L:List Df) (r1 r2:Int) (en:Ending) (w:World):Prop:=en=.returned (.tuple #[.int .u64 r1,.int .u64 r2])∧St w0 w (L)
def Ke.f (x:Int) (y:Int):Option (Int × Int):=Dz (Jw.f x y) (fun t1 t2=>(some (t1,t2)))
abbrev Ke.post (w0:World) (L:List Df) (r1 r2:Int) (en:Ending) (w:World):Prop:=en=.returned (.tuple #[.int .u64 r1,.int .u64 r2])∧St w0 w (L)
mutual
def Cc.j2 (K:Nat):Nat→(List Int)→Int→Bool→Option (List Int)
  | 0,_,_,_=>none
  | k+1,x,t4,x10=>if x10=true then (none) else (if 0≤w64 (t4) then (if (w64 (t4)).toNat * 8≤281474976710656 then (Cc.l4 K k (over (List.replicate (w64 (t4)).toNat (0:Int)) 0 (x.take ((List.replicate (w64 (t4)).toNat (0:Int)).length))) (((x).take ((List.replicate (w64 (t4)).toNat (0:Int)).length)).length:Int)) else none) else none)
def Cc.l4 (K:Nat):Nat→(List Int)→Int→Option (List Int)
  | 0,_,_=>none
  | k+1,a1,b1=>if b1<(a1.length:Int) then (if 0≤b1∧b1≤(a1.length:Int) then (Cc.l4 K k (over a1 b1.toNat (((a1.take b1.toNat).drop 0).take (((a1.take a1.length).drop b1.toNat).length))) (w64 (b1+(((((a1.take b1.toNat).drop 0)).take (((a1.take a1.length).drop b1.toNat).length)).length:Int)))) else none) else (some a1)
end
def Cc.f (K:Nat) (x:List Int) (count:Int):Option (List Int):=if count<0 then (none) else (Dz (Ke.f (IntKind.wrap .u64 ((x.length:Int))) (IntKind.wrap .u64 (count))) (fun t3 t4=>(if 0<t3 then (Cc.j2 K K x t4 true) else (Cc.j2 K K x t4 (decide (9223372036854775807<t4))))))
abbrev Cc.post (w0:World) (L:List Df) (r1:List Int) (en:Ending) (w:World):Prop:=∃ (A_r0:Option Addr) (c_r1:Nat),en=.returned (.slice A_r0 r1.length c_r1)∧St w0 w (Own (Ad .i64) 2 A_r0 c_r1 (fun _=>()) r1::L)
mutual
def Fu.l1 (K:Nat):Nat→(List Int)→(List Int)→Int→Option (List Int)
  | 0,_,_,_=>none
  | k+1,list,a1,x27=>if x27<(list.length:Int) then (if 0≤x27∧x27<(list.length:Int) then (Fu.l4 K k list a1 x27 0 0) else none) else (some a1)
def Fu.l4 (K:Nat):Nat→(List Int)→(List Int)→Int→Int→Int→Option (List Int)
  | 0,_,_,_,_,_=>none
  | k+1,list,a1,x27,b1,x71=>if x71<(list.length:Int) then (if 0≤x71∧x71<(list.length:Int) then (if list.getD x71.toNat 0<list.getD x27.toNat 0 then (Fu.l4 K k list a1 x27 (w64 (b1+1)) (w64 (x71+1))) else (Fu.l4 K k list a1 x27 b1 (w64 (x71+1)))) else none) else (if (a1.length+1) * 8≤140737488355328 then (Fu.l1 K k list (a1++[b1]) (w64 (x27+1))) else none)
end
def Fu.f (K:Nat) (list:List Int):Option (List Int):=Fu.l1 K K list ([]:List Int) 0
abbrev Fu.post (w0:World) (L:List Df) (r1:List Int) (en:Ending) (w:World):Prop:=∃ (A_r0:Option Addr) (c_r1:Nat),en=.returned (.slice A_r0 r1.length c_r1)∧St w0 w (Own (Ad .i64) 2 A_r0 c_r1 (fun _=>()) r1::L)
mutual
def Gb.l1 (K:Nat):Nat→Int→Int→Int→Int→Int→Int→Option (Int)
  | 0,_,_,_,_,_,_=>none
  | k+1,t1,t2,t3,t4,a1,x24=>if x24<4 then (if 0≤x24∧x24<4 then (if 0≤x24∧x24≤4 then (Gb.l4 K k t1 t2 t3 t4 x24 a1 0) else none) else none) else (some a1)
def Gb.l4 (K:Nat):Nat→Int→Int→Int→Int→Int→Int→Int→Option (Int)
  | 0,_,_,_,_,_,_,_=>none
  | k+1,t1,t2,t3,t4,x24,a1,x46=>if x46<((([t1,t2,t3,t4]:List Int).take x24.toNat).length:Int) then (if 0≤x46∧x46<((([t1,t2,t3,t4]:List Int).take x24.toNat).length:Int) then (if ([t1,t2,t3,t4]:List Int).getD x24.toNat 0<(([t1,t2,t3,t4]:List Int).take x24.toNat).getD x46.toNat 0 then (Gb.l4 K k t1 t2 t3 t4 x24 (w64 (0 - a1)) (w64 (x46+1))) else (Gb.l4 K k t1 t2 t3 t4 x24 a1 (w64 (x46+1)))) else none) else (Gb.l1 K k t1 t2 t3 t4 a1 (w64 (x24+1)))
end
def Gb.f (K:Nat) (p:Int):Option (Int):=Gs (Em.f K p) (fun t1 t2 t3 t4=>(Gb.l1 K K t1 t2 t3 t4 1 0))
abbrev Gb.post:=Jq
def Az.l1 (K:Nat):Nat→Int→Int→Int→Int→Int→Int→(List Int)→(List Int)→(List Int)→Int→Option (List Int)
  | 0,_,_,_,_,_,_,_,_,_,_=>none
  | k+1,f,e1,b1,a1,c1,d1,f1,t9,g1,x51=>if x51<(t9.length:Int) then (if 0≤x51∧x51<(t9.length:Int) then (if 0≤t9.getD x51.toNat 0∧t9.getD x51.toNat 0<4 then (if (g1.length+1) * 8≤140737488355328 then (Az.l1 K k f e1 b1 a1 c1 d1 f1 t9 (g1++[(([b1,a1,c1,d1]:List Int).getD (t9.getD x51.toNat 0).toNat 0)]) (w64 (x51+1))) else none) else none) else none) else ((Fu.f K g1).bind fun t94=>(if (t94.length+1) * 8≤140737488355328 then (if 4≤(t94++[3]).length then ((Fa.f K ((t94++[3]).getD 0 0) ((t94++[3]).getD 1 0) ((t94++[3]).getD 2 0) ((t94++[3]).getD 3 0)).bind fun t107=>((Gb.f K t107).bind fun t111=>(if 0≤w64 ((w64 (4 * e1))+(([b1,a1,c1,d1]:List Int).getD f.toNat 0))∧w64 ((w64 (4 * e1))+(([b1,a1,c1,d1]:List Int).getD f.toNat 0))<(f1.length:Int) then (some (f1.set ((w64 ((w64 (4 * e1))+(([b1,a1,c1,d1]:List Int).getD f.toNat 0))).toNat) t111)) else none))) else none) else none))
def Az.f (K:Nat) (tet:Int) (f:Int) (a1:Int) (g1:Int) (d1:Int) (c1:Int) (e1:Int) (f1:Int) (b1:List Int):Option (List Int):=if 0≤f∧f<4 then (if w64 ((w64 (4 * tet))+f)<w64 ((w64 (4 * a1))+(([d1,c1,e1,f1]:List Int).getD f.toNat 0)) then ((Gp.f K ([f]:List Int)).bind fun t9=>(Az.l1 K K f a1 d1 c1 e1 f1 b1 t9 ([]:List Int) 0)) else (some b1)) else none
abbrev Az.post (w0:World) (L:List Df) (b_v0:Nat) (A_a:Option Addr) (c_a:Nat) (r1:List Int) (en:Ending) (w:World):Prop:=en=.returned (.tuple #[])∧St w0 w (Box b_v0 26 [.slice A_a r1.length c_a]::Own (Ad .i64) 2 A_a c_a (fun _=>()) r1::L)
mutual
def Ah.l1 (K:Nat):Nat→(List (List Aw))→(List Int)→Int→Option (List Int)
  | 0,_,_,_=>none
  | k+1,a1,x79,x80=>if x80<(a1.length:Int) then (if 0≤x80∧x80<(a1.length:Int) then (Ah.l4 K k a1 x80 x79 0) else none) else (some x79)
def Ah.l4 (K:Nat):Nat→(List (List Aw))→Int→(List Int)→Int→Option (List Int)
  | 0,_,_,_,_=>none
  | k+1,a1,x80,x183,x184=>if x184<((a1.getD x80.toNat []).length:Int) then (if 0≤x184∧x184<((a1.getD x80.toNat []).length:Int) then (bnd ((a1.getD x80.toNat []).getD x184.toNat Hy) (fun e211=>(Ct.f e211.Tet e211.Perm).bind fun t216=>(if t216=true then (Ah.l4 K k a1 x80 x183 (w64 (x184+1))) else (Gs (Em.f K e211.Perm) (fun t221 t222 t223 t224=>((Az.f K x80 x184 e211.Tet e211.Perm t221 t222 t223 t224 x183).bind fun t228=>(if t228.length=x183.length then (Ah.l4 K k a1 x80 t228 (w64 (x184+1))) else none))))))) else none) else (Ah.l1 K k a1 x183 (w64 (x80+1)))
end
def Ah.f (K:Nat) (a1:List (List Aw)) (b1:List Int):Option (List Int):=Ah.l1 K K a1 b1 0
abbrev Ah.post (w0:World) (L:List Df) (b_cap:Nat) (A_b:Option Addr) (c_b:Nat) (r1:List Int) (en:Ending) (w:World):Prop:=en=.returned (.tuple #[])∧St w0 w (Box b_cap 26 [.slice A_b r1.length c_b]::Own (Ad .i64) 2 A_b c_b (fun _=>()) r1::L)
def D9.f (K:Nat) (a1:List (List Aw)):Option (List Int):=(Cc.f K ([1]:List Int) (w64 (4 * (a1.length:Int)))).bind fun t5=>((Ah.f K a1 t5).bind fun t14=>(if t14.length=t5.length then (some t14) else none))
abbrev D9.post (w0:World) (L:List Df) (r1:List Int) (en:Ending) (w:World):Prop:=∃ (A_r0:Option Addr) (c_r1:Nat),en=.returned (.slice A_r0 r1.length c_r1)∧St w0 w (Own (Ad .i64) 2 A_r0 c_r1 (fun _=>()) r1::L)
def Bu.l1 (K:Nat):Nat→(List Int)→(List Int)→Int→Int→(List Int)→Int→Option (Int × Int × (List Int))
  | 0,_,_,_,_,_,_=>none
  | k+1,t5,t11,t25,t26,a1,x52=>if x52<(t5.length:Int) then (if 0≤x52∧x52<(t5.length:Int) then ((Be.f t25 t26 a1 (t5.getD x52.toNat 0) (w64 (x52.tdiv 4))).bind fun t70=>(if 0≤t70∧t70<(a1.length:Int) then ((Kg.f (x52.tmod 4)).bind fun t75=>(if 0≤x52∧x52<(t11.length:Int) then (Bu.l1 K k t5 t11 t25 t26 (a1.set t70.toNat (w64 ((a1.getD t70.toNat 0)+(w64 (t75 * (t11.getD x52.toNat 0)))))) (w64 (x52+1))) else none)) else none)) else none) else (some (t25,t26,a1))
def Bu.f (K:Nat) (a1:List (List Aw)):Option (Int × Int × (List Int)):=(Cz.f K a1).bind fun t5=>((D9.f K a1).bind fun t11=>((D5.f K t5).bind fun t17=>((Dh.f a1).bind fun t21=>(Fe (Ee.f t17 t21) (fun t25 t26 t27=>(Bu.l1 K K t5 t11 t25 t26 t27 0))))))
abbrev Bu.post (w0:World) (L:List Df) (r1 r2:Int) (r3:List Int) (en:Ending) (w:World):Prop:=∃ (A_r0:Option Addr) (c_r1:Nat),en=.returned (.agg [.int .i64 r1,.int .i64 r2,.slice A_r0 r3.length c_r1].toArray)∧St w0 w (Own (Ad .i64) 2 A_r0 c_r1 (fun _=>()) r3::L)
def Cr.f (K:Nat) (a1:List (List Aw)) (k_:Int):Option (Int × Int × (List Int)):=if k_=0 then ((Ep.f K a1).bind fun t6=>(if 0≤(0:Int)∧(0:Int)<(t6.length:Int) then (Fe (Ee.f 0 (t6.getD 0 0)) (fun t13 t14 t15=>(some (t13,t14,t15)))) else none)) else (if k_=1 then (Fe (Br.f K a1) (fun t23 t24 t25=>(some (t23,t24,t25)))) else (if k_=2 then (Fe (Aq.f K a1) (fun t33 t34 t35=>(some (t33,t34,t35)))) else (if k_=3 then (Fe (Bu.f K a1) (fun t43 t44 t45=>(some (t43,t44,t45)))) else ((Ep.f K a1).bind fun t52=>(if 0≤(3:Int)∧(3:Int)<(t52.length:Int) then (Fe (Ee.f (t52.getD 3 0) 0) (fun t59 t60 t61=>(some (t59,t60,t61)))) else none)))))
abbrev Cr.post (w0:World) (L:List Df) (r1 r2:Int) (r3:List Int) (en:Ending) (w:World):Prop:=∃ (A_r0:Option Addr) (c_r1:Nat),en=.returned (.agg [.int .i64 r1,.int .i64 r2,.slice A_r0 r3.length c_r1].toArray)∧St w0 w (Own (Ad .i64) 2 A_r0 c_r1 (fun _=>()) r3::L)
def Er.f (list:List Int):Option (Int):=some (list.length:Int)
abbrev Er.post:=Jq
def Io.f (x:Int):Option (Bool):=(Fs.f x (-1000000000000) 1000000000000).bind fun t1=>(some (!t1))
abbrev Io.post:=Js
def Bn.l1 (K:Nat):Nat→(List Int)→Int→Option (Int)
  | 0,_,_=>none
  | k+1,s,x8=>if x8<(s.length:Int) then (if 0≤x8∧x8<(s.length:Int) then ((Io.f (s.getD x8.toNat 0)).bind fun t18=>(if t18=true then (some x8) else (Bn.l1 K k s (w64 (x8+1))))) else none) else (some (-1))
def Bn.f (K:Nat) (s:List Int):Option (Int):=Bn.l1 K K s 0
abbrev Bn.post:=Jq
def Dq.f (K:Nat) (s:List Int):Option (Bool):=(Bn.f K s).bind fun t1=>(some (decide (0≤t1)))
abbrev Dq.post:=Js
def Hq.f (K:Nat) (a1:Int) (c1:Int) (b1:List Int):Option (Bool):=(Fs.f a1 0 48).bind fun t3=>(if t3=true then ((Fs.f c1 0 48).bind fun t8=>(if t8=true then ((Er.f b1).bind fun t13=>(if t13=w64 (a1 * c1) then ((Dq.f K b1).bind fun t18=>(some (!t18))) else (some false))) else (some false))) else (some false))
abbrev Hq.post:=Js
def Jc.f (x:Int):Option (Int):=if x<0 then (some (w64 (0 - x))) else (some x)
abbrev Jc.post:=Jq
def Jb.f (a_:Int) (b_:Int) (most:Int):Option (Int × Bool):=if a_=0 then (some (w64 (a_ * b_),true)) else ((Jc.f b_).bind fun t12=>((Jc.f a_).bind fun t16=>(if t16=0 then none else (if w64 (most.tdiv t16)<t12 then (some (0,false)) else (some (w64 (a_ * b_),true))))))
abbrev Jb.post (w0:World) (L:List Df) (r1:Int) (r2:Bool) (en:Ending) (w:World):Prop:=en=.returned (.tuple #[.int .i64 r1,.bool r2])∧St w0 w (L)
def Gt.l1 (K:Nat):Nat→Int→Int→(List Int)→Int→Int→(List Int)→Int→Int→Int→Int→Int→Option (Int × Bool)
  | 0,_,_,_,_,_,_,_,_,_,_,_=>none
  | k+1,h1,c1,b1,f1,d1,a1,i,j_,e1,g1,x29=>if x29<c1 then ((Be.f h1 c1 b1 i x29).bind fun t53=>(if 0≤t53∧t53<(b1.length:Int) then ((Be.f f1 d1 a1 x29 j_).bind fun t58=>(if 0≤t58∧t58<(a1.length:Int) then (Dz (Jb.f (b1.getD t53.toNat 0) (a1.getD t58.toNat 0) 1000000000000) (fun t63 t64=>((Jc.f t63).bind fun t68=>(if t64=true then (if 1000000000000<w64 (g1+t68) then (some (0,false)) else (Gt.l1 K k h1 c1 b1 f1 d1 a1 i j_ (w64 (e1+t63)) (w64 (g1+t68)) (w64 (x29+1)))) else (some (0,false)))))) else none)) else none)) else (some (e1,true))
def Gt.f (K:Nat) (f1:Int) (d1:Int) (e1:List Int) (c1:Int) (a1:Int) (b1:List Int) (i:Int) (j_:Int):Option (Int × Bool):=Gt.l1 K K f1 d1 e1 c1 a1 b1 i j_ 0 0 0
abbrev Gt.post (w0:World) (L:List Df) (r1:Int) (r2:Bool) (en:Ending) (w:World):Prop:=en=.returned (.tuple #[.int .i64 r1,.bool r2])∧St w0 w (L)
mutual
def Ca.l1 (K:Nat):Nat→Int→Int→(List Int)→Int→Int→(List Int)→Int→Int→(List Int)→Int→Option (Int × Int × (List Int) × Int)
  | 0,_,_,_,_,_,_,_,_,_,_=>none
  | k+1,b1,f1,g1,e1,c1,d1,t27,t28,a1,x85=>if x85<b1 then (Ca.l4 K k b1 f1 g1 e1 c1 d1 t27 t28 x85 a1 0) else (some (t27,t28,a1,0))
def Ca.l4 (K:Nat):Nat→Int→Int→(List Int)→Int→Int→(List Int)→Int→Int→Int→(List Int)→Int→Option (Int × Int × (List Int) × Int)
  | 0,_,_,_,_,_,_,_,_,_,_,_=>none
  | k+1,g1,e1,f1,d1,a1,c1,t27,t28,x85,b1,x148=>if x148<a1 then (Dz (Gt.f K g1 e1 f1 d1 a1 c1 x85 x148) (fun t164 t165=>(if t165=true then ((Be.f t27 t28 b1 x85 x148).bind fun t170=>(if 0≤t170∧t170<(b1.length:Int) then (Ca.l4 K k g1 e1 f1 d1 a1 c1 t27 t28 x85 (b1.set t170.toNat t164) (w64 (x148+1))) else none)) else (some (0,0,([]:List Int),3))))) else (Ca.l1 K k g1 e1 f1 d1 a1 c1 t27 t28 b1 (w64 (x85+1)))
end
def Ca.f (K:Nat) (d1:Int) (c1:Int) (f1:List Int) (b1:Int) (a1:Int) (e1:List Int):Option (Int × Int × (List Int) × Int):=(Hq.f K d1 c1 f1).bind fun t16=>(if t16=true then ((Hq.f K b1 a1 e1).bind fun t21=>(if t21=true then (if c1=b1 then (Fe (Ee.f d1 a1) (fun t27 t28 t29=>(Ca.l1 K K d1 c1 f1 b1 a1 e1 t27 t28 t29 0))) else (some (0,0,([]:List Int),2))) else (some (0,0,([]:List Int),1)))) else (some (0,0,([]:List Int),1)))
abbrev Ca.post (w0:World) (L:List Df) (r1 r2:Int) (r3:List Int) (r4:Int) (en:Ending) (w:World):Prop:=∃ (A_r0:Option Addr) (c_r1:Nat),en=.returned (.tuple #[.agg [.int .i64 r1,.int .i64 r2,.slice A_r0 r3.length c_r1].toArray,.int .i64 r4])∧St w0 w (Own (Ad .i64) 2 A_r0 c_r1 (fun _=>()) r3::L)
def H6.f (x:Int):Option (Bool):=some (!(decide (x=0)))
abbrev H6.post:=Js
def Bh.l1 (K:Nat):Nat→(List Int)→Int→Option (Int)
  | 0,_,_=>none
  | k+1,s,x8=>if x8<(s.length:Int) then (if 0≤x8∧x8<(s.length:Int) then ((H6.f (s.getD x8.toNat 0)).bind fun t18=>(if t18=true then (some x8) else (Bh.l1 K k s (w64 (x8+1))))) else none) else (some (-1))
def Bh.f (K:Nat) (s:List Int):Option (Int):=Bh.l1 K K s 0
abbrev Bh.post:=Jq
def C8.f (K:Nat) (s:List Int):Option (Bool):=(Bh.f K s).bind fun t1=>(some (decide (0≤t1)))
abbrev C8.post:=Js
def Ec.l1 (K:Nat):Nat→Int→Int→Int→(List Int)→Int→Option (Int × Int × (List Int))
  | 0,_,_,_,_,_=>none
  | k+1,n_,t3,t4,a1,x23=>if x23<n_ then ((Be.f t3 t4 a1 x23 x23).bind fun t33=>(if 0≤t33∧t33<(a1.length:Int) then (Ec.l1 K k n_ t3 t4 (a1.set t33.toNat 1) (w64 (x23+1))) else none)) else (some (t3,t4,a1))
def Ec.f (K:Nat) (n_:Int):Option (Int × Int × (List Int)):=Fe (Ee.f n_ n_) (fun t3 t4 t5=>(Ec.l1 K K n_ t3 t4 t5 0))
abbrev Ec.post (w0:World) (L:List Df) (r1 r2:Int) (r3:List Int) (en:Ending) (w:World):Prop:=∃ (A_r0:Option Addr) (c_r1:Nat),en=.returned (.agg [.int .i64 r1,.int .i64 r2,.slice A_r0 r3.length c_r1].toArray)∧St w0 w (Own (Ad .i64) 2 A_r0 c_r1 (fun _=>()) r3::L)
def Gr.f (s:List Int):Option (List Int):=if (([]:List Int).length+s.length) * 8≤140737488355328 then (some (([]:List Int)++s)) else none
abbrev Gr.post (w0:World) (L:List Df) (r1:List Int) (en:Ending) (w:World):Prop:=∃ (A_r0:Option Addr) (c_r1:Nat),en=.returned (.slice A_r0 r1.length c_r1)∧St w0 w (Own (Ad .i64) 2 A_r0 c_r1 (fun _=>()) r1::L)
def I1.f (a1:Int) (c1:Int) (b1:List Int):Option (Int × Int × (List Int)):=(Gr.f b1).bind fun t5=>(some (a1,c1,t5))
abbrev I1.post (w0:World) (L:List Df) (r1 r2:Int) (r3:List Int) (en:Ending) (w:World):Prop:=∃ (A_r0:Option Addr) (c_r1:Nat),en=.returned (.agg [.int .i64 r1,.int .i64 r2,.slice A_r0 r3.length c_r1].toArray)∧St w0 w (Own (Ad .i64) 2 A_r0 c_r1 (fun _=>()) r3::L)
def Iy.f (K:Nat) (a1:Int) (b1:Int) (c1:List Int):Option (Int × Int × (List Int) × Int × Int × (List Int) × Int × Int × (List Int) × Int × Int × (List Int) × Int × Int × (List Int) × Bool):=Fe (Ec.f K a1) (fun t3 t4 t5=>(Fe (Ec.f K a1) (fun t11 t12 t13=>(Fe (I1.f a1 b1 c1) (fun t19 t20 t21=>(Fe (Ec.f K b1) (fun t27 t28 t29=>(Fe (Ec.f K b1) (fun t35 t36 t37=>(some (t3,t4,t5,t11,t12,t13,t19,t20,t21,t27,t28,t29,t35,t36,t37,false)))))))))))
abbrev Iy.post (w0:World) (L:List Df) (r1 r2:Int) (r3:List Int) (r4 r5:Int) (r6:List Int) (r7 r8:Int) (r9:List Int) (r10 r11:Int) (r12:List Int) (r13 r14:Int) (r15:List Int) (r16:Bool) (en:Ending) (w:World):Prop:=∃ (b_r0:Nat) (A_r1:Option Addr) (c_r2:Nat) (A_r3:Option Addr) (c_r4:Nat) (A_r5:Option Addr) (c_r6:Nat) (A_r7:Option Addr) (c_r8:Nat) (A_r9:Option Addr) (c_r10:Nat),en=.returned (.pointer (some ⟨b_r0,0,none⟩))∧St w0 w (Box b_r0 168 [.int .i64 r1,.int .i64 r2,.slice A_r1 r3.length c_r2,.int .i64 r4,.int .i64 r5,.slice A_r3 r6.length c_r4,.int .i64 r7,.int .i64 r8,.slice A_r5 r9.length c_r6,.int .i64 r10,.int .i64 r11,.slice A_r7 r12.length c_r8,.int .i64 r13,.int .i64 r14,.slice A_r9 r15.length c_r10,.bool r16]::Own (Ad .i64) 2 A_r1 c_r2 (fun _=>()) r3::Own (Ad .i64) 2 A_r3 c_r4 (fun _=>()) r6::Own (Ad .i64) 2 A_r5 c_r6 (fun _=>()) r9::Own (Ad .i64) 2 A_r7 c_r8 (fun _=>()) r12::Own (Ad .i64) 2 A_r9 c_r10 (fun _=>()) r15::L)
mutual
def Bo.l1 (K:Nat):Nat→Int→Int→(List Int)→Int→Int→Int→Bool→Int→Option (Int × Int × Bool)
  | 0,_,_,_,_,_,_,_,_=>none
  | k+1,b1,g1,f1,k_,d1,e1,a1,c1=>if c1<b1 then (Bo.l4 K k b1 g1 f1 k_ c1 d1 e1 a1 k_) else (some (d1,e1,a1))
def Bo.l4 (K:Nat):Nat→Int→Int→(List Int)→Int→Int→Int→Int→Bool→Int→Option (Int × Int × Bool)
  | 0,_,_,_,_,_,_,_,_,_=>none
  | k+1,e1,c1,a1,k_,b1,h1,f1,g1,d1=>if d1<c1 then ((Be.f e1 c1 a1 b1 d1).bind fun t267=>(if 0≤t267∧t267<(a1.length:Int) then ((Jc.f (a1.getD t267.toNat 0)).bind fun t272=>(if t272=0 then (Bo.l4 K k e1 c1 a1 k_ b1 h1 f1 g1 (w64 (d1+1))) else (if g1=true then ((Be.f e1 c1 a1 h1 f1).bind fun t289=>(if 0≤t289∧t289<(a1.length:Int) then ((Jc.f (a1.getD t289.toNat 0)).bind fun t294=>(if t272<t294 then (Bo.l4 K k e1 c1 a1 k_ b1 b1 d1 true (w64 (d1+1))) else (Bo.l4 K k e1 c1 a1 k_ b1 h1 f1 g1 (w64 (d1+1))))) else none)) else (Bo.l4 K k e1 c1 a1 k_ b1 b1 d1 true (w64 (d1+1)))))) else none)) else (Bo.l1 K k e1 c1 a1 k_ h1 f1 g1 (w64 (b1+1)))
end
def Bo.f (K:Nat) (h1:Int) (q1:Int) (g1:List Int) (f1:Int) (k1:Int) (r1:List Int) (a1:Int) (c1:Int) (b1:List Int) (i1:Int) (e1:Int) (p1:List Int) (o1:Int) (d1:Int) (m1:List Int) (n1:Bool) (k_:Int):Option (Int × Int × Bool):=Bo.l1 K K a1 c1 b1 k_ 0 0 false k_
abbrev Bo.post (w0:World) (L:List Df) (r_Reduction_Left_Rows r_Reduction_Left_Columns:Int) (r_Reduction_Left_Entries:List Int) (r_Reduction_LeftInverse_Rows r_Reduction_LeftInverse_Columns:Int) (r_Reduction_LeftInverse_Entries:List Int) (r_Reduction_Diagonal_Rows r_Reduction_Diagonal_Columns:Int) (r_Reduction_Diagonal_Entries:List Int) (r_Reduction_Right_Rows r_Reduction_Right_Columns:Int) (r_Reduction_Right_Entries:List Int) (r_Reduction_RightInverse_Rows r_Reduction_RightInverse_Columns:Int) (r_Reduction_RightInverse_Entries:List Int) (r_bad:Bool) (b_r:Nat) (A_a:Option Addr) (c_a:Nat) (A_b:Option Addr) (c_b:Nat) (A_c:Option Addr) (c_c:Nat) (A_d:Option Addr) (c_d:Nat) (A_e:Option Addr) (c_e:Nat) (r1 r2:Int) (r3:Bool) (en:Ending) (w:World):Prop:=en=.returned (.tuple #[.int .i64 r1,.int .i64 r2,.bool r3])∧St w0 w (Box b_r 168 [.int .i64 r_Reduction_Left_Rows,.int .i64 r_Reduction_Left_Columns,.slice A_a r_Reduction_Left_Entries.length c_a,.int .i64 r_Reduction_LeftInverse_Rows,.int .i64 r_Reduction_LeftInverse_Columns,.slice A_b r_Reduction_LeftInverse_Entries.length c_b,.int .i64 r_Reduction_Diagonal_Rows,.int .i64 r_Reduction_Diagonal_Columns,.slice A_c r_Reduction_Diagonal_Entries.length c_c,.int .i64 r_Reduction_Right_Rows,.int .i64 r_Reduction_Right_Columns,.slice A_d r_Reduction_Right_Entries.length c_d,.int .i64 r_Reduction_RightInverse_Rows,.int .i64 r_Reduction_RightInverse_Columns,.slice A_e r_Reduction_RightInverse_Entries.length c_e,.bool r_bad]::L)
def Eh.l1 (K:Nat):Nat→Int→Int→Int→Int→(List Int)→Int→Option (List Int)
  | 0,_,_,_,_,_,_=>none
  | k+1,b1,a1,i,k_,x17,x18=>if x18<a1 then ((Be.f b1 a1 x17 i x18).bind fun t34=>(if 0≤t34∧t34<(x17.length:Int) then ((Be.f b1 a1 x17 k_ x18).bind fun t39=>(if 0≤t39∧t39<(x17.length:Int) then (if 0≤t39∧t39<((x17.set t34.toNat (x17.getD t39.toNat 0)).length:Int) then (Eh.l1 K k b1 a1 i k_ ((x17.set t34.toNat (x17.getD t39.toNat 0)).set t39.toNat (x17.getD t34.toNat 0)) (w64 (x18+1))) else none) else none)) else none)) else (some x17)
def Eh.f (K:Nat) (a1:Int) (c1:Int) (b1:List Int) (i:Int) (k_:Int):Option (List Int):=Eh.l1 K K a1 c1 i k_ b1 0
abbrev Eh.post (w0:World) (L:List Df) (A_a:Option Addr) (c_a:Nat) (r1:List Int) (en:Ending) (w:World):Prop:=en=.returned (.tuple #[])∧St w0 w (Own (Ad .i64) 2 A_a c_a (fun _=>()) r1::L)
def Dv.l1 (K:Nat):Nat→Int→Int→Int→Int→(List Int)→Int→Option (List Int)
  | 0,_,_,_,_,_,_=>none
  | k+1,a1,b1,j_,k_,x17,x18=>if x18<a1 then ((Be.f a1 b1 x17 x18 j_).bind fun t34=>(if 0≤t34∧t34<(x17.length:Int) then ((Be.f a1 b1 x17 x18 k_).bind fun t39=>(if 0≤t39∧t39<(x17.length:Int) then (if 0≤t39∧t39<((x17.set t34.toNat (x17.getD t39.toNat 0)).length:Int) then (Dv.l1 K k a1 b1 j_ k_ ((x17.set t34.toNat (x17.getD t39.toNat 0)).set t39.toNat (x17.getD t34.toNat 0)) (w64 (x18+1))) else none) else none)) else none)) else (some x17)
def Dv.f (K:Nat) (a1:Int) (c1:Int) (b1:List Int) (j_:Int) (k_:Int):Option (List Int):=Dv.l1 K K a1 c1 j_ k_ b1 0
abbrev Dv.post (w0:World) (L:List Df) (A_a:Option Addr) (c_a:Nat) (r1:List Int) (en:Ending) (w:World):Prop:=en=.returned (.tuple #[])∧St w0 w (Own (Ad .i64) 2 A_a c_a (fun _=>()) r1::L)
def Gh.f (c1:Int) (a1:Int) (b1:List Int) (i:Int):Option (Int × Int):=if 0≤w64 (i * a1)∧w64 (i * a1)≤w64 ((w64 (i+1)) * a1) then (if 0≤w64 ((w64 (i+1)) * a1)∧w64 ((w64 (i+1)) * a1)≤(b1.length:Int) then (some (w64 (i * a1),w64 ((w64 (i+1)) * a1))) else none) else none
abbrev Gh.post (w0:World) (L:List Df) (m_Entries:List Int) (A_a:Option Addr) (c_a:Nat) (r1 r2:Int) (en:Ending) (w:World):Prop:=en=.returned (.slice (Jl A_a r1.toNat c_a 1) ((m_Entries.take r2.toNat).drop r1.toNat).length (c_a - r1.toNat))∧St w0 w (L)
mutual
def Bj.l1 (K:Nat):Nat→Int→Int→Int→(List Int)→(List Int)→(List Int)→(List Int)→(List Int)→Int→Int→Int→Int→(List Int)→Int→Option (Bool × (List Int) × (List Int) × (List Int) × (List Int) × (List Int))
  | 0,_,_,_,_,_,_,_,_,_,_,_,_,_,_=>none
  | k+1,a1,b1,o,t13,t18,t23,t28,t33,t44,t45,t51,t52,x196,x197=>if t45.toNat≤x196.length then (if x197<(((t23.take t45.toNat).drop t44.toNat).length:Int) then (if 0≤x197∧x197<(((x196.take t45.toNat).drop t44.toNat).length:Int) then (if t45.toNat≤(x196.set (t44.toNat+x197.toNat) (w64 (0 - (((x196.take t45.toNat).drop t44.toNat).getD x197.toNat 0)))).length then (Bj.l1 K k a1 b1 o t13 t18 t23 t28 t33 t44 t45 t51 t52 (x196.set (t44.toNat+x197.toNat) (w64 (0 - (((x196.take t45.toNat).drop t44.toNat).getD x197.toNat 0)))) (w64 (x197+1))) else none) else none) else (if t52.toNat≤t13.length then (Bj.l10 K k a1 b1 o t13 t18 t28 t33 t51 t52 x196 t13 0) else none)) else none
def Bj.l10 (K:Nat):Nat→Int→Int→Int→(List Int)→(List Int)→(List Int)→(List Int)→Int→Int→(List Int)→(List Int)→Int→Option (Bool × (List Int) × (List Int) × (List Int) × (List Int) × (List Int))
  | 0,_,_,_,_,_,_,_,_,_,_,_,_=>none
  | k+1,a1,b1,o,t13,t18,t28,t33,t51,t52,x196,x382,x383=>if t52.toNat≤x382.length then (if x383<(((t13.take t52.toNat).drop t51.toNat).length:Int) then (if 0≤x383∧x383<(((x382.take t52.toNat).drop t51.toNat).length:Int) then (if t52.toNat≤(x382.set (t51.toNat+x383.toNat) (w64 (0 - (((x382.take t52.toNat).drop t51.toNat).getD x383.toNat 0)))).length then (Bj.l10 K k a1 b1 o t13 t18 t28 t33 t51 t52 x196 (x382.set (t51.toNat+x383.toNat) (w64 (0 - (((x382.take t52.toNat).drop t51.toNat).getD x383.toNat 0)))) (w64 (x383+1))) else none) else none) else (Bj.l13 K k a1 b1 o t28 t33 x196 x382 t18 0)) else none
def Bj.l13 (K:Nat):Nat→Int→Int→Int→(List Int)→(List Int)→(List Int)→(List Int)→(List Int)→Int→Option (Bool × (List Int) × (List Int) × (List Int) × (List Int) × (List Int))
  | 0,_,_,_,_,_,_,_,_,_=>none
  | k+1,a1,b1,o,t28,t33,x196,x382,x444,x445=>if x445<a1 then ((Be.f a1 b1 x444 x445 o).bind fun t459=>(if 0≤t459∧t459<(x444.length:Int) then ((Be.f a1 b1 x444 x445 o).bind fun t464=>(if 0≤t464∧t464<(x444.length:Int) then (Bj.l13 K k a1 b1 o t28 t33 x196 x382 (x444.set t459.toNat (w64 (0 - (x444.getD t464.toNat 0)))) (w64 (x445+1))) else none)) else none)) else (some (true,x382,x444,x196,t28,t33))
end
def Bj.f (K:Nat) (k1:Int) (m1:Int) (d1:List Int) (h1:Int) (i1:Int) (e1:List Int) (a1:Int) (b1:Int) (c1:List Int) (p1:Int) (n1:Int) (f1:List Int) (q1:Int) (o1:Int) (g1:List Int) (r1:Bool) (o:Int):Option (Bool × (List Int) × (List Int) × (List Int) × (List Int) × (List Int)):=Fe (Bo.f K k1 m1 d1 h1 i1 e1 a1 b1 c1 p1 n1 f1 q1 o1 g1 r1 o) (fun t1 t2 t3=>(if t3=true then ((Eh.f K a1 b1 c1 t1 o).bind fun t8=>(if t8.length=c1.length then ((Eh.f K k1 m1 d1 t1 o).bind fun t13=>(if t13.length=d1.length then ((Dv.f K h1 i1 e1 t1 o).bind fun t18=>(if t18.length=e1.length then ((Dv.f K a1 b1 t8 t2 o).bind fun t23=>(if t23.length=t8.length then ((Dv.f K p1 n1 f1 t2 o).bind fun t28=>(if t28.length=f1.length then ((Eh.f K q1 o1 g1 t2 o).bind fun t33=>(if t33.length=g1.length then ((Be.f a1 b1 t23 o o).bind fun t38=>(if 0≤t38∧t38<(t23.length:Int) then (if t23.getD t38.toNat 0<0 then (Dz (Gh.f a1 b1 t23 o) (fun t44 t45=>(if 0≤t44∧t44≤t45 then (if 0≤t45∧t45≤(t23.length:Int) then (Dz (Gh.f k1 m1 t13 o) (fun t51 t52=>(if 0≤t51∧t51≤t52 then (if 0≤t52∧t52≤(t13.length:Int) then (Bj.l1 K K h1 i1 o t13 t18 t23 t28 t33 t44 t45 t51 t52 t23 0) else none) else none))) else none) else none))) else (some (true,t13,t18,t23,t28,t33))) else none)) else none)) else none)) else none)) else none)) else none)) else none)) else (some (false,d1,e1,c1,f1,g1))))
abbrev Bj.post (w0:World) (L:List Df) (t_Reduction_Left_Rows t_Reduction_Left_Columns:Int) (t_Reduction_LeftInverse_Rows t_Reduction_LeftInverse_Columns:Int) (t_Reduction_Diagonal_Rows t_Reduction_Diagonal_Columns:Int) (t_Reduction_Right_Rows t_Reduction_Right_Columns:Int) (t_Reduction_RightInverse_Rows t_Reduction_RightInverse_Columns:Int) (t_bad:Bool) (b_t:Nat) (A_a:Option Addr) (c_a:Nat) (A_b:Option Addr) (c_b:Nat) (A_c:Option Addr) (c_c:Nat) (A_d:Option Addr) (c_d:Nat) (A_e:Option Addr) (c_e:Nat) (r1:Bool) (r2 r3:List Int) (r4 r5 r6:List Int) (en:Ending) (w:World):Prop:=en=.returned (.bool r1)∧St w0 w (Box b_t 168 [.int .i64 t_Reduction_Left_Rows,.int .i64 t_Reduction_Left_Columns,.slice A_a r2.length c_a,.int .i64 t_Reduction_LeftInverse_Rows,.int .i64 t_Reduction_LeftInverse_Columns,.slice A_b r3.length c_b,.int .i64 t_Reduction_Diagonal_Rows,.int .i64 t_Reduction_Diagonal_Columns,.slice A_c r4.length c_c,.int .i64 t_Reduction_Right_Rows,.int .i64 t_Reduction_Right_Columns,.slice A_d r5.length c_d,.int .i64 t_Reduction_RightInverse_Rows,.int .i64 t_Reduction_RightInverse_Columns,.slice A_e r6.length c_e,.bool t_bad]::Own (Ad .i64) 2 A_a c_a (fun _=>()) r2::Own (Ad .i64) 2 A_b c_b (fun _=>()) r3::Own (Ad .i64) 2 A_c c_c (fun _=>()) r4::Own (Ad .i64) 2 A_d c_d (fun _=>()) r5::Own (Ad .i64) 2 A_e c_e (fun _=>()) r6::L)
def He.f (a_:Int) (b_:Int):Option (Int):=if b_=0 then none else (if a_.tmod b_<0 then (some (w64 ((w64 (a_.tdiv b_)) - 1))) else (some (w64 (a_.tdiv b_))))
abbrev He.post:=Jq
def Gy.f (b1:Bool) (entry:List Int) (a1:Int) (x:Int) (by_:Int):Option (Bool × (List Int)):=Dz (Jb.f x by_ 2000000000000) (fun t1 t2=>(if 0≤a1∧a1<(entry.length:Int) then (if t2=true then (if 0≤a1∧a1<((entry.set a1.toNat (w64 ((entry.getD a1.toNat 0)+t1))).length:Int) then ((Jc.f ((entry.set a1.toNat (w64 ((entry.getD a1.toNat 0)+t1))).getD a1.toNat 0)).bind fun t16=>(if 1000000000000<t16 then (some (true,((entry.set a1.toNat (w64 ((entry.getD a1.toNat 0)+t1))).set a1.toNat 0))) else (some (b1,(entry.set a1.toNat (w64 ((entry.getD a1.toNat 0)+t1))))))) else none) else (if 0≤a1∧a1<((entry.set a1.toNat (w64 ((entry.getD a1.toNat 0)+t1))).length:Int) then (some (true,((entry.set a1.toNat (w64 ((entry.getD a1.toNat 0)+t1))).set a1.toNat 0))) else none)) else none))
abbrev Gy.post (w0:World) (L:List Df) (b_r:Nat) (o0_b_r o1_b_r:Value) (o2_b_r o3_b_r:Value) (o4_b_r o5_b_r:Value) (o6_b_r o7_b_r:Value) (o8_b_r o9_b_r:Value) (o10_b_r o11_b_r:Value) (o12_b_r o13_b_r o14_b_r:Value) (A_a:Option Addr) (c_a:Nat) (r1:Bool) (r2:List Int) (en:Ending) (w:World):Prop:=en=.returned (.tuple #[])∧St w0 w (Box b_r 168 [o0_b_r,o1_b_r,o2_b_r,o3_b_r,o4_b_r,o5_b_r,o6_b_r,o7_b_r,o8_b_r,o9_b_r,o10_b_r,o11_b_r,o12_b_r,o13_b_r,o14_b_r,.bool r1]::Own (Ad .i64) 2 A_a c_a (fun _=>()) r2::L)
def Da.l1 (K:Nat):Nat→Int→Int→Int→Int→Int→Bool→(List Int)→Int→Option (Bool × (List Int))
  | 0,_,_,_,_,_,_,_,_=>none
  | k+1,b1,a1,to,c1,by_,x20,x21,x22=>if x22<a1 then ((Be.f b1 a1 x21 to x22).bind fun t41=>(if 0≤t41∧t41<(x21.length:Int) then ((Be.f b1 a1 x21 c1 x22).bind fun t46=>(if 0≤t46∧t46<(x21.length:Int) then (Dz (Gy.f x20 x21 t41 (x21.getD t46.toNat 0) by_) (fun t51 t52=>(if t52.length=x21.length then (Da.l1 K k b1 a1 to c1 by_ t51 t52 (w64 (x22+1))) else none))) else none)) else none)) else (some (x20,x21))
def Da.f (K:Nat) (c1:Bool) (a1:Int) (d1:Int) (b1:List Int) (to:Int) (e1:Int) (by_:Int):Option (Bool × (List Int)):=Da.l1 K K a1 d1 to e1 by_ c1 b1 0
abbrev Da.post (w0:World) (L:List Df) (b_r:Nat) (o0_b_r o1_b_r:Value) (o2_b_r o3_b_r:Value) (o4_b_r o5_b_r:Value) (o6_b_r o7_b_r:Value) (o8_b_r o9_b_r:Value) (o10_b_r o11_b_r:Value) (o12_b_r o13_b_r o14_b_r:Value) (A_a:Option Addr) (c_a:Nat) (r1:Bool) (r2:List Int) (en:Ending) (w:World):Prop:=en=.returned (.tuple #[])∧St w0 w (Box b_r 168 [o0_b_r,o1_b_r,o2_b_r,o3_b_r,o4_b_r,o5_b_r,o6_b_r,o7_b_r,o8_b_r,o9_b_r,o10_b_r,o11_b_r,o12_b_r,o13_b_r,o14_b_r,.bool r1]::Own (Ad .i64) 2 A_a c_a (fun _=>()) r2::L)
def Co.l1 (K:Nat):Nat→Int→Int→Int→Int→Int→Bool→(List Int)→Int→Option (Bool × (List Int))
  | 0,_,_,_,_,_,_,_,_=>none
  | k+1,a1,b1,to,c1,by_,x20,x21,x22=>if x22<a1 then ((Be.f a1 b1 x21 x22 to).bind fun t41=>(if 0≤t41∧t41<(x21.length:Int) then ((Be.f a1 b1 x21 x22 c1).bind fun t46=>(if 0≤t46∧t46<(x21.length:Int) then (Dz (Gy.f x20 x21 t41 (x21.getD t46.toNat 0) by_) (fun t51 t52=>(if t52.length=x21.length then (Co.l1 K k a1 b1 to c1 by_ t51 t52 (w64 (x22+1))) else none))) else none)) else none)) else (some (x20,x21))
def Co.f (K:Nat) (c1:Bool) (a1:Int) (d1:Int) (b1:List Int) (to:Int) (e1:Int) (by_:Int):Option (Bool × (List Int)):=Co.l1 K K a1 d1 to e1 by_ c1 b1 0
abbrev Co.post (w0:World) (L:List Df) (b_r:Nat) (o0_b_r o1_b_r:Value) (o2_b_r o3_b_r:Value) (o4_b_r o5_b_r:Value) (o6_b_r o7_b_r:Value) (o8_b_r o9_b_r:Value) (o10_b_r o11_b_r:Value) (o12_b_r o13_b_r o14_b_r:Value) (A_a:Option Addr) (c_a:Nat) (r1:Bool) (r2:List Int) (en:Ending) (w:World):Prop:=en=.returned (.tuple #[])∧St w0 w (Box b_r 168 [o0_b_r,o1_b_r,o2_b_r,o3_b_r,o4_b_r,o5_b_r,o6_b_r,o7_b_r,o8_b_r,o9_b_r,o10_b_r,o11_b_r,o12_b_r,o13_b_r,o14_b_r,.bool r1]::Own (Ad .i64) 2 A_a c_a (fun _=>()) r2::L)
def Et.f (K:Nat) (h1:Int) (m1:Int) (c1:List Int) (f1:Int) (i1:Int) (d1:List Int) (e1:Int) (g1:Int) (b1:List Int) (p1:Int) (o1:Int) (s1:List Int) (r1:Int) (n1:Int) (q1:List Int) (k1:Bool) (to:Int) (a1:Int) (by_:Int):Option (Bool × (List Int) × (List Int) × (List Int)):=Dz (Da.f K k1 e1 g1 b1 to a1 by_) (fun t1 t2=>(if t2.length=b1.length then (Dz (Da.f K t1 h1 m1 c1 to a1 by_) (fun t7 t8=>(if t8.length=c1.length then (Dz (Co.f K t7 f1 i1 d1 a1 to (w64 (0 - by_))) (fun t13 t14=>(if t14.length=d1.length then (some (t13,t8,t14,t2)) else none))) else none))) else none))
abbrev Et.post (w0:World) (L:List Df) (r_Reduction_Left_Rows r_Reduction_Left_Columns:Int) (r_Reduction_LeftInverse_Rows r_Reduction_LeftInverse_Columns:Int) (r_Reduction_Diagonal_Rows r_Reduction_Diagonal_Columns:Int) (r_Reduction_Right_Rows r_Reduction_Right_Columns:Int) (r_Reduction_Right_Entries:List Int) (r_Reduction_RightInverse_Rows r_Reduction_RightInverse_Columns:Int) (r_Reduction_RightInverse_Entries:List Int) (b_r:Nat) (A_a:Option Addr) (c_a:Nat) (A_b:Option Addr) (c_b:Nat) (A_c:Option Addr) (c_c:Nat) (A_d:Option Addr) (c_d:Nat) (A_e:Option Addr) (c_e:Nat) (r1:Bool) (r2 r3 r4:List Int) (en:Ending) (w:World):Prop:=en=.returned (.tuple #[])∧St w0 w (Box b_r 168 [.int .i64 r_Reduction_Left_Rows,.int .i64 r_Reduction_Left_Columns,.slice A_a r2.length c_a,.int .i64 r_Reduction_LeftInverse_Rows,.int .i64 r_Reduction_LeftInverse_Columns,.slice A_b r3.length c_b,.int .i64 r_Reduction_Diagonal_Rows,.int .i64 r_Reduction_Diagonal_Columns,.slice A_c r4.length c_c,.int .i64 r_Reduction_Right_Rows,.int .i64 r_Reduction_Right_Columns,.slice A_d r_Reduction_Right_Entries.length c_d,.int .i64 r_Reduction_RightInverse_Rows,.int .i64 r_Reduction_RightInverse_Columns,.slice A_e r_Reduction_RightInverse_Entries.length c_e,.bool r1]::Own (Ad .i64) 2 A_a c_a (fun _=>()) r2::Own (Ad .i64) 2 A_b c_b (fun _=>()) r3::Own (Ad .i64) 2 A_c c_c (fun _=>()) r4::L)
def F3.f (K:Nat) (p1:Int) (r1:Int) (o1:List Int) (n1:Int) (q1:Int) (s1:List Int) (f1:Int) (h1:Int) (b1:List Int) (i1:Int) (g1:Int) (d1:List Int) (m1:Int) (e1:Int) (c1:List Int) (k1:Bool) (to:Int) (a1:Int) (by_:Int):Option (Bool × (List Int) × (List Int) × (List Int)):=Dz (Co.f K k1 f1 h1 b1 to a1 by_) (fun t1 t2=>(if t2.length=b1.length then (Dz (Co.f K t1 i1 g1 d1 to a1 by_) (fun t7 t8=>(if t8.length=d1.length then (Dz (Da.f K t7 m1 e1 c1 a1 to (w64 (0 - by_))) (fun t13 t14=>(if t14.length=c1.length then (some (t13,t2,t8,t14)) else none))) else none))) else none))
abbrev F3.post (w0:World) (L:List Df) (r_Reduction_Left_Rows r_Reduction_Left_Columns:Int) (r_Reduction_Left_Entries:List Int) (r_Reduction_LeftInverse_Rows r_Reduction_LeftInverse_Columns:Int) (r_Reduction_LeftInverse_Entries:List Int) (r_Reduction_Diagonal_Rows r_Reduction_Diagonal_Columns:Int) (r_Reduction_Right_Rows r_Reduction_Right_Columns:Int) (r_Reduction_RightInverse_Rows r_Reduction_RightInverse_Columns:Int) (b_r:Nat) (A_a:Option Addr) (c_a:Nat) (A_b:Option Addr) (c_b:Nat) (A_c:Option Addr) (c_c:Nat) (A_d:Option Addr) (c_d:Nat) (A_e:Option Addr) (c_e:Nat) (r1:Bool) (r2 r3 r4:List Int) (en:Ending) (w:World):Prop:=en=.returned (.tuple #[])∧St w0 w (Box b_r 168 [.int .i64 r_Reduction_Left_Rows,.int .i64 r_Reduction_Left_Columns,.slice A_a r_Reduction_Left_Entries.length c_a,.int .i64 r_Reduction_LeftInverse_Rows,.int .i64 r_Reduction_LeftInverse_Columns,.slice A_b r_Reduction_LeftInverse_Entries.length c_b,.int .i64 r_Reduction_Diagonal_Rows,.int .i64 r_Reduction_Diagonal_Columns,.slice A_c r2.length c_c,.int .i64 r_Reduction_Right_Rows,.int .i64 r_Reduction_Right_Columns,.slice A_d r3.length c_d,.int .i64 r_Reduction_RightInverse_Rows,.int .i64 r_Reduction_RightInverse_Columns,.slice A_e r4.length c_e,.bool r1]::Own (Ad .i64) 2 A_c c_c (fun _=>()) r2::Own (Ad .i64) 2 A_d c_d (fun _=>()) r3::Own (Ad .i64) 2 A_e c_e (fun _=>()) r4::L)
mutual
def Bi.l1 (K:Nat):Nat→Int→Int→Int→Int→Int→Int→Int→Int→(List Int)→Int→Int→(List Int)→Int→(List Int)→(List Int)→(List Int)→Bool→Int→Option (Bool × (List Int) × (List Int) × (List Int) × (List Int) × (List Int))
  | 0,_,_,_,_,_,_,_,_,_,_,_,_,_,_,_,_,_,_=>none
  | k+1,i1,o1,h1,m1,a1,b1,k1,g1,e1,n1,f1,c1,k_,x125,x126,x127,x128,d1=>if d1<a1 then (if x128=true then (Bi.l6 K k b1 e1 c1 k_ x125 x126 x127 x128) else ((Be.f a1 b1 x127 d1 k_).bind fun t258=>(if 0≤t258∧t258<(x127.length:Int) then ((Be.f a1 b1 x127 k_ k_).bind fun t263=>(if 0≤t263∧t263<(x127.length:Int) then ((He.f (x127.getD t258.toNat 0) (x127.getD t263.toNat 0)).bind fun t268=>(if t268=0 then (Bi.l1 K k i1 o1 h1 m1 a1 b1 k1 g1 e1 n1 f1 c1 k_ x125 x126 x127 x128 (w64 (d1+1))) else (Gs (Et.f K i1 o1 x125 h1 m1 x126 a1 b1 x127 k1 g1 e1 n1 f1 c1 x128 d1 k_ (w64 (0 - t268))) (fun t273 t274 t275 t276=>(if t274.length=x125.length then (if t275.length=x126.length then (if t276.length=x127.length then (Bi.l1 K k i1 o1 h1 m1 a1 b1 k1 g1 e1 n1 f1 c1 k_ t274 t275 t276 t273 (w64 (d1+1))) else none) else none) else none))))) else none)) else none))) else (Bi.l7 K k i1 o1 h1 m1 a1 b1 k1 g1 n1 f1 k_ x125 x126 x127 e1 c1 x128 (w64 (k_+1)))
def Bi.l6 (K:Nat):Nat→Int→(List Int)→(List Int)→Int→(List Int)→(List Int)→(List Int)→Bool→Option (Bool × (List Int) × (List Int) × (List Int) × (List Int) × (List Int))
  | 0,_,_,_,_,_,_,_,_=>none
  | k+1,c1,a1,b1,k_,x125,x126,x127,x128=>if w64 (k_+1)<c1 then (some (x128,x125,x126,x127,a1,b1)) else (some (x128,x125,x126,x127,a1,b1))
def Bi.l7 (K:Nat):Nat→Int→Int→Int→Int→Int→Int→Int→Int→Int→Int→Int→(List Int)→(List Int)→(List Int)→(List Int)→(List Int)→Bool→Int→Option (Bool × (List Int) × (List Int) × (List Int) × (List Int) × (List Int))
  | 0,_,_,_,_,_,_,_,_,_,_,_,_,_,_,_,_,_,_=>none
  | k+1,g1,m1,f1,i1,b1,a1,h1,e1,k1,d1,k_,x125,x126,x311,x312,x313,x314,c1=>if c1<a1 then (if x314=true then (some (x314,x125,x126,x311,x312,x313)) else ((Be.f b1 a1 x311 k_ c1).bind fun t347=>(if 0≤t347∧t347<(x311.length:Int) then ((Be.f b1 a1 x311 k_ k_).bind fun t352=>(if 0≤t352∧t352<(x311.length:Int) then ((He.f (x311.getD t347.toNat 0) (x311.getD t352.toNat 0)).bind fun t357=>(if t357=0 then (Bi.l7 K k g1 m1 f1 i1 b1 a1 h1 e1 k1 d1 k_ x125 x126 x311 x312 x313 x314 (w64 (c1+1))) else (Gs (F3.f K g1 m1 x125 f1 i1 x126 b1 a1 x311 h1 e1 x312 k1 d1 x313 x314 c1 k_ (w64 (0 - t357))) (fun t362 t363 t364 t365=>(if t363.length=x311.length then (if t364.length=x312.length then (if t365.length=x313.length then (Bi.l7 K k g1 m1 f1 i1 b1 a1 h1 e1 k1 d1 k_ x125 x126 t363 t364 t365 t362 (w64 (c1+1))) else none) else none) else none))))) else none)) else none))) else (some (x314,x125,x126,x311,x312,x313))
end
def Bi.f (K:Nat) (h1:Int) (q1:Int) (f1:List Int) (e1:Int) (k1:Int) (r1:List Int) (b1:Int) (g1:Int) (c1:List Int) (i1:Int) (d1:Int) (p1:List Int) (o1:Int) (a1:Int) (m1:List Int) (n1:Bool) (k_:Int):Option (Bool × (List Int) × (List Int) × (List Int) × (List Int) × (List Int)):=Bi.l1 K K h1 q1 e1 k1 b1 g1 i1 d1 p1 o1 a1 m1 k_ f1 r1 c1 n1 (w64 (k_+1))
abbrev Bi.post (w0:World) (L:List Df) (r_Reduction_Left_Rows r_Reduction_Left_Columns:Int) (r_Reduction_LeftInverse_Rows r_Reduction_LeftInverse_Columns:Int) (r_Reduction_Diagonal_Rows r_Reduction_Diagonal_Columns:Int) (r_Reduction_Right_Rows r_Reduction_Right_Columns:Int) (r_Reduction_RightInverse_Rows r_Reduction_RightInverse_Columns:Int) (b_r:Nat) (A_a:Option Addr) (c_a:Nat) (A_b:Option Addr) (c_b:Nat) (A_c:Option Addr) (c_c:Nat) (A_d:Option Addr) (c_d:Nat) (A_e:Option Addr) (c_e:Nat) (r1:Bool) (r2 r3:List Int) (r4 r5 r6:List Int) (en:Ending) (w:World):Prop:=en=.returned (.tuple #[])∧St w0 w (Box b_r 168 [.int .i64 r_Reduction_Left_Rows,.int .i64 r_Reduction_Left_Columns,.slice A_a r2.length c_a,.int .i64 r_Reduction_LeftInverse_Rows,.int .i64 r_Reduction_LeftInverse_Columns,.slice A_b r3.length c_b,.int .i64 r_Reduction_Diagonal_Rows,.int .i64 r_Reduction_Diagonal_Columns,.slice A_c r4.length c_c,.int .i64 r_Reduction_Right_Rows,.int .i64 r_Reduction_Right_Columns,.slice A_d r5.length c_d,.int .i64 r_Reduction_RightInverse_Rows,.int .i64 r_Reduction_RightInverse_Columns,.slice A_e r6.length c_e,.bool r1]::Own (Ad .i64) 2 A_a c_a (fun _=>()) r2::Own (Ad .i64) 2 A_b c_b (fun _=>()) r3::Own (Ad .i64) 2 A_c c_c (fun _=>()) r4::Own (Ad .i64) 2 A_d c_d (fun _=>()) r5::Own (Ad .i64) 2 A_e c_e (fun _=>()) r6::L)
def Gq.f (x:Int):Option (Bool):=some (!(decide (x=0)))
abbrev Gq.post:=Js
def Ba.l1 (K:Nat):Nat→(List Int)→Int→Option (Int)
  | 0,_,_=>none
  | k+1,s,x8=>if x8<(s.length:Int) then (if 0≤x8∧x8<(s.length:Int) then ((Gq.f (s.getD x8.toNat 0)).bind fun t18=>(if t18=true then (some x8) else (Ba.l1 K k s (w64 (x8+1))))) else none) else (some (-1))
def Ba.f (K:Nat) (s:List Int):Option (Int):=Ba.l1 K K s 0
abbrev Ba.post:=Jq
def Cs.f (K:Nat) (s:List Int):Option (Bool):=(Ba.f K s).bind fun t1=>(some (decide (0≤t1)))
abbrev Cs.post:=Js
def Dg.l1 (K:Nat):Nat→Int→Int→(List Int)→Int→Int→Option (Bool)
  | 0,_,_,_,_,_=>none
  | k+1,b1,c1,a1,k_,d1=>if d1<b1 then ((Be.f b1 c1 a1 d1 k_).bind fun t44=>(if 0≤t44∧t44<(a1.length:Int) then (if a1.getD t44.toNat 0=0 then (Dg.l1 K k b1 c1 a1 k_ (w64 (d1+1))) else (some false)) else none)) else (Dz (Gh.f b1 c1 a1 k_) (fun t50 t51=>(if 0≤t50∧t50≤t51 then (if 0≤t51∧t51≤(a1.length:Int) then (if 0≤w64 (k_+1)∧w64 (k_+1)≤(((a1.take t51.toNat).drop t50.toNat).length:Int) then ((Cs.f K ((((a1.take t51.toNat).drop t50.toNat).take (((a1.take t51.toNat).drop t50.toNat).length)).drop ((w64 (k_+1)).toNat))).bind fun t58=>(some (!t58))) else none) else none) else none)))
def Dg.f (K:Nat) (h1:Int) (q1:Int) (g1:List Int) (f1:Int) (k1:Int) (r1:List Int) (a1:Int) (c1:Int) (b1:List Int) (i1:Int) (e1:Int) (p1:List Int) (o1:Int) (d1:Int) (m1:List Int) (n1:Bool) (k_:Int):Option (Bool):=Dg.l1 K K a1 c1 b1 k_ (w64 (k_+1))
abbrev Dg.post (w0:World) (L:List Df) (r_Reduction_Left_Rows r_Reduction_Left_Columns:Int) (r_Reduction_Left_Entries:List Int) (r_Reduction_LeftInverse_Rows r_Reduction_LeftInverse_Columns:Int) (r_Reduction_LeftInverse_Entries:List Int) (r_Reduction_Diagonal_Rows r_Reduction_Diagonal_Columns:Int) (r_Reduction_Diagonal_Entries:List Int) (r_Reduction_Right_Rows r_Reduction_Right_Columns:Int) (r_Reduction_Right_Entries:List Int) (r_Reduction_RightInverse_Rows r_Reduction_RightInverse_Columns:Int) (r_Reduction_RightInverse_Entries:List Int) (r_bad:Bool) (b_r:Nat) (A_a:Option Addr) (c_a:Nat) (A_b:Option Addr) (c_b:Nat) (A_c:Option Addr) (c_c:Nat) (A_d:Option Addr) (c_d:Nat) (A_e:Option Addr) (c_e:Nat) (r1:Bool) (en:Ending) (w:World):Prop:=en=.returned (.bool r1)∧St w0 w (Box b_r 168 [.int .i64 r_Reduction_Left_Rows,.int .i64 r_Reduction_Left_Columns,.slice A_a r_Reduction_Left_Entries.length c_a,.int .i64 r_Reduction_LeftInverse_Rows,.int .i64 r_Reduction_LeftInverse_Columns,.slice A_b r_Reduction_LeftInverse_Entries.length c_b,.int .i64 r_Reduction_Diagonal_Rows,.int .i64 r_Reduction_Diagonal_Columns,.slice A_c r_Reduction_Diagonal_Entries.length c_c,.int .i64 r_Reduction_Right_Rows,.int .i64 r_Reduction_Right_Columns,.slice A_d r_Reduction_Right_Entries.length c_d,.int .i64 r_Reduction_RightInverse_Rows,.int .i64 r_Reduction_RightInverse_Columns,.slice A_e r_Reduction_RightInverse_Entries.length c_e,.bool r_bad]::L)
def Ez.f (x:Int) (d1:Int) (c1:Int) (a1:List Int) (b1:Int):Option (Bool):=(Be.f d1 c1 a1 b1 b1).bind fun t1=>(if 0≤t1∧t1<(a1.length:Int) then (if a1.getD t1.toNat 0=0 then none else (some (!(decide (x.tmod (a1.getD t1.toNat 0)=0))))) else none)
abbrev Ez.post (w0:World) (L:List Df) (v0_Rows v0_Columns:Int) (v0_Entries:List Int) (v1_2:Int) (b_v0:Nat) (A_a:Option Addr) (c_a b_v1:Nat) (r1:Bool) (en:Ending) (w:World):Prop:=en=.returned (.bool r1)∧St w0 w (Box b_v0 57 [.int .i64 v0_Rows,.int .i64 v0_Columns,.slice A_a v0_Entries.length c_a]::Box b_v1 2 [.int .i64 v1_2]::L)
def Au.l1 (K:Nat):Nat→(List Int)→Int→Int→(List Int)→Int→Int→Option (Int)
  | 0,_,_,_,_,_,_=>none
  | k+1,s,a1,d1,c1,b1,x8=>if x8<(s.length:Int) then (if 0≤x8∧x8<(s.length:Int) then ((Ez.f (s.getD x8.toNat 0) a1 d1 c1 b1).bind fun t18=>(if t18=true then (some x8) else (Au.l1 K k s a1 d1 c1 b1 (w64 (x8+1))))) else none) else (some (-1))
def Au.f (K:Nat) (s:List Int) (a1:Int) (d1:Int) (c1:List Int) (b1:Int):Option (Int):=Au.l1 K K s a1 d1 c1 b1 0
abbrev Au.post (w0:World) (L:List Df) (cap_Rows cap_Columns:Int) (cap_Entries:List Int) (cap_3:Int) (b_cap:Nat) (A_b:Option Addr) (c_b b_cap_2:Nat) (r1:Int) (en:Ending) (w:World):Prop:=en=.returned (.int .i64 r1)∧St w0 w (Box b_cap 57 [.int .i64 cap_Rows,.int .i64 cap_Columns,.slice A_b cap_Entries.length c_b]::Box b_cap_2 2 [.int .i64 cap_3]::L)
def Ck.f (K:Nat) (s:List Int) (a1:Int) (d1:Int) (c1:List Int) (b1:Int):Option (Bool):=(Au.f K s a1 d1 c1 b1).bind fun t1=>(some (decide (0≤t1)))
abbrev Ck.post (w0:World) (L:List Df) (cap_Rows cap_Columns:Int) (cap_Entries:List Int) (cap_3:Int) (b_cap:Nat) (A_b:Option Addr) (c_b b_cap_2:Nat) (r1:Bool) (en:Ending) (w:World):Prop:=en=.returned (.bool r1)∧St w0 w (Box b_cap 57 [.int .i64 cap_Rows,.int .i64 cap_Columns,.slice A_b cap_Entries.length c_b]::Box b_cap_2 2 [.int .i64 cap_3]::L)
def Cq.l1 (K:Nat):Nat→Int→Int→(List Int)→Int→Int→Option (Int)
  | 0,_,_,_,_,_=>none
  | k+1,b1,d1,a1,k_,c1=>if c1<b1 then (Dz (Gh.f b1 d1 a1 c1) (fun t36 t37=>(if 0≤t36∧t36≤t37 then (if 0≤t37∧t37≤(a1.length:Int) then (if 0≤w64 (k_+1)∧w64 (k_+1)≤(((a1.take t37.toNat).drop t36.toNat).length:Int) then ((Ck.f K ((((a1.take t37.toNat).drop t36.toNat).take (((a1.take t37.toNat).drop t36.toNat).length)).drop ((w64 (k_+1)).toNat)) b1 d1 a1 k_).bind fun t44=>(if t44=true then (some c1) else (Cq.l1 K k b1 d1 a1 k_ (w64 (c1+1))))) else none) else none) else none))) else (some (-1))
def Cq.f (K:Nat) (h1:Int) (q1:Int) (g1:List Int) (f1:Int) (k1:Int) (r1:List Int) (a1:Int) (c1:Int) (b1:List Int) (i1:Int) (e1:Int) (p1:List Int) (o1:Int) (d1:Int) (m1:List Int) (n1:Bool) (k_:Int):Option (Int):=Cq.l1 K K a1 c1 b1 k_ (w64 (k_+1))
abbrev Cq.post (w0:World) (L:List Df) (r_Reduction_Left_Rows r_Reduction_Left_Columns:Int) (r_Reduction_Left_Entries:List Int) (r_Reduction_LeftInverse_Rows r_Reduction_LeftInverse_Columns:Int) (r_Reduction_LeftInverse_Entries:List Int) (r_Reduction_Diagonal_Rows r_Reduction_Diagonal_Columns:Int) (r_Reduction_Diagonal_Entries:List Int) (r_Reduction_Right_Rows r_Reduction_Right_Columns:Int) (r_Reduction_Right_Entries:List Int) (r_Reduction_RightInverse_Rows r_Reduction_RightInverse_Columns:Int) (r_Reduction_RightInverse_Entries:List Int) (r_bad:Bool) (b_r:Nat) (A_a:Option Addr) (c_a:Nat) (A_b:Option Addr) (c_b:Nat) (A_c:Option Addr) (c_c:Nat) (A_d:Option Addr) (c_d:Nat) (A_e:Option Addr) (c_e:Nat) (r1:Int) (en:Ending) (w:World):Prop:=en=.returned (.int .i64 r1)∧St w0 w (Box b_r 168 [.int .i64 r_Reduction_Left_Rows,.int .i64 r_Reduction_Left_Columns,.slice A_a r_Reduction_Left_Entries.length c_a,.int .i64 r_Reduction_LeftInverse_Rows,.int .i64 r_Reduction_LeftInverse_Columns,.slice A_b r_Reduction_LeftInverse_Entries.length c_b,.int .i64 r_Reduction_Diagonal_Rows,.int .i64 r_Reduction_Diagonal_Columns,.slice A_c r_Reduction_Diagonal_Entries.length c_c,.int .i64 r_Reduction_Right_Rows,.int .i64 r_Reduction_Right_Columns,.slice A_d r_Reduction_Right_Entries.length c_d,.int .i64 r_Reduction_RightInverse_Rows,.int .i64 r_Reduction_RightInverse_Columns,.slice A_e r_Reduction_RightInverse_Entries.length c_e,.bool r_bad]::L)
def D6.l1 (K:Nat):Nat→Int→Int→Int→Int→Int→Int→Int→Int→Int→Int→(List Int)→(List Int)→(List Int)→(List Int)→(List Int)→Bool→Int→Option (Bool × (List Int) × (List Int) × (List Int) × (List Int) × (List Int))
  | 0,_,_,_,_,_,_,_,_,_,_,_,_,_,_,_,_,_=>none
  | k+1,g1,m1,f1,i1,a1,b1,h1,e1,k1,d1,x59,x60,x61,x62,x63,x64,c1=>if x64=true then (some (x64,x59,x60,x61,x62,x63)) else (if c1<(if b1<a1 then b1 else a1) then (Mj (Bj.f K g1 m1 x59 f1 i1 x60 a1 b1 x61 h1 e1 x62 k1 d1 x63 x64 c1) (fun t127 t128 t129 t130 t131 t132=>(if t128.length=x59.length then (if t129.length=x60.length then (if t130.length=x61.length then (if t131.length=x62.length then (if t132.length=x63.length then (if t127=true then (Mj (Bi.f K g1 m1 t128 f1 i1 t129 a1 b1 t130 h1 e1 t131 k1 d1 t132 x64 c1) (fun t142 t143 t144 t145 t146 t147=>(if t143.length=t128.length then (if t144.length=t129.length then (if t145.length=t130.length then (if t146.length=t131.length then (if t147.length=t132.length then (if t142=true then (D6.l1 K k g1 m1 f1 i1 a1 b1 h1 e1 k1 d1 t143 t144 t145 t146 t147 t142 c1) else ((Dg.f K g1 m1 t143 f1 i1 t144 a1 b1 t145 h1 e1 t146 k1 d1 t147 t142 c1).bind fun t162=>(if t162=true then ((Cq.f K g1 m1 t143 f1 i1 t144 a1 b1 t145 h1 e1 t146 k1 d1 t147 t142 c1).bind fun t167=>(if 0≤t167 then (Gs (Et.f K g1 m1 t143 f1 i1 t144 a1 b1 t145 h1 e1 t146 k1 d1 t147 t142 c1 t167 1) (fun t172 t173 t174 t175=>(if t173.length=t143.length then (if t174.length=t144.length then (if t175.length=t145.length then (D6.l1 K k g1 m1 f1 i1 a1 b1 h1 e1 k1 d1 t173 t174 t175 t146 t147 t172 c1) else none) else none) else none))) else (D6.l1 K k g1 m1 f1 i1 a1 b1 h1 e1 k1 d1 t143 t144 t145 t146 t147 t142 (w64 (c1+1))))) else (D6.l1 K k g1 m1 f1 i1 a1 b1 h1 e1 k1 d1 t143 t144 t145 t146 t147 t142 c1)))) else none) else none) else none) else none) else none))) else (some (x64,t128,t129,t130,t131,t132))) else none) else none) else none) else none) else none))) else (some (x64,x59,x60,x61,x62,x63)))
def D6.f (K:Nat) (h1:Int) (q1:Int) (f1:List Int) (e1:Int) (k1:Int) (r1:List Int) (b1:Int) (g1:Int) (c1:List Int) (i1:Int) (d1:Int) (p1:List Int) (o1:Int) (a1:Int) (m1:List Int) (n1:Bool):Option (Bool × (List Int) × (List Int) × (List Int) × (List Int) × (List Int)):=D6.l1 K K h1 q1 e1 k1 b1 g1 i1 d1 o1 a1 f1 r1 c1 p1 m1 n1 0
abbrev D6.post (w0:World) (L:List Df) (r_Reduction_Left_Rows r_Reduction_Left_Columns:Int) (r_Reduction_LeftInverse_Rows r_Reduction_LeftInverse_Columns:Int) (r_Reduction_Diagonal_Rows r_Reduction_Diagonal_Columns:Int) (r_Reduction_Right_Rows r_Reduction_Right_Columns:Int) (r_Reduction_RightInverse_Rows r_Reduction_RightInverse_Columns:Int) (b_r:Nat) (A_a:Option Addr) (c_a:Nat) (A_b:Option Addr) (c_b:Nat) (A_c:Option Addr) (c_c:Nat) (A_d:Option Addr) (c_d:Nat) (A_e:Option Addr) (c_e:Nat) (r1:Bool) (r2 r3:List Int) (r4 r5 r6:List Int) (en:Ending) (w:World):Prop:=en=.returned (.tuple #[])∧St w0 w (Box b_r 168 [.int .i64 r_Reduction_Left_Rows,.int .i64 r_Reduction_Left_Columns,.slice A_a r2.length c_a,.int .i64 r_Reduction_LeftInverse_Rows,.int .i64 r_Reduction_LeftInverse_Columns,.slice A_b r3.length c_b,.int .i64 r_Reduction_Diagonal_Rows,.int .i64 r_Reduction_Diagonal_Columns,.slice A_c r4.length c_c,.int .i64 r_Reduction_Right_Rows,.int .i64 r_Reduction_Right_Columns,.slice A_d r5.length c_d,.int .i64 r_Reduction_RightInverse_Rows,.int .i64 r_Reduction_RightInverse_Columns,.slice A_e r6.length c_e,.bool r1]::Own (Ad .i64) 2 A_a c_a (fun _=>()) r2::Own (Ad .i64) 2 A_b c_b (fun _=>()) r3::Own (Ad .i64) 2 A_c c_c (fun _=>()) r4::Own (Ad .i64) 2 A_d c_d (fun _=>()) r5::Own (Ad .i64) 2 A_e c_e (fun _=>()) r6::L)
def Km.f (K:Nat) (a1:Int) (c1:Int) (b1:List Int):Option (Int × Int × (List Int) × Int × Int × (List Int) × Int × Int × (List Int) × Int × Int × (List Int) × Int × Int × (List Int) × Int):=Mh (Iy.f K a1 c1 b1) (fun t5 t6 t7 t8 t9 t10 t11 t12 t13 t14 t15 t16 t17 t18 t19 t20=>(Mj (D6.f K t5 t6 t7 t8 t9 t10 t11 t12 t13 t14 t15 t16 t17 t18 t19 t20) (fun t35 t36 t37 t38 t39 t40=>(if t36.length=t7.length then (if t37.length=t10.length then (if t38.length=t13.length then (if t39.length=t16.length then (if t40.length=t19.length then (if t35=true then (some (0,0,([]:List Int),0,0,([]:List Int),0,0,([]:List Int),0,0,([]:List Int),0,0,([]:List Int),3)) else (some (t5,t6,t36,t8,t9,t37,t11,t12,t38,t14,t15,t39,t17,t18,t40,0))) else none) else none) else none) else none) else none))))
abbrev Km.post (w0:World) (L:List Df) (r1 r2:Int) (r3:List Int) (r4 r5:Int) (r6:List Int) (r7 r8:Int) (r9:List Int) (r10 r11:Int) (r12:List Int) (r13 r14:Int) (r15:List Int) (r16:Int) (en:Ending) (w:World):Prop:=∃ (A_r0:Option Addr) (c_r1:Nat) (A_r2:Option Addr) (c_r3:Nat) (A_r4:Option Addr) (c_r5:Nat) (A_r6:Option Addr) (c_r7:Nat) (A_r8:Option Addr) (c_r9:Nat),en=.returned (.tuple #[.agg [.int .i64 r1,.int .i64 r2,.slice A_r0 r3.length c_r1,.int .i64 r4,.int .i64 r5,.slice A_r2 r6.length c_r3,.int .i64 r7,.int .i64 r8,.slice A_r4 r9.length c_r5,.int .i64 r10,.int .i64 r11,.slice A_r6 r12.length c_r7,.int .i64 r13,.int .i64 r14,.slice A_r8 r15.length c_r9].toArray,.int .i64 r16])∧St w0 w (Own (Ad .i64) 2 A_r0 c_r1 (fun _=>()) r3::Own (Ad .i64) 2 A_r2 c_r3 (fun _=>()) r6::Own (Ad .i64) 2 A_r4 c_r5 (fun _=>()) r9::Own (Ad .i64) 2 A_r6 c_r7 (fun _=>()) r12::Own (Ad .i64) 2 A_r8 c_r9 (fun _=>()) r15::L)
def Es.l1 (K:Nat):Nat→Int→Int→Int→Int→(List Int)→(List Int)→Int→Option ((List Int) × Int)
  | 0,_,_,_,_,_,_,_=>none
  | k+1,a1,c1,t9,t10,t11,b1,x52=>if x52<(if c1<a1 then c1 else a1) then ((Be.f t9 t10 t11 x52 x52).bind fun t67=>(if 0≤t67∧t67<(t11.length:Int) then (if t11.getD t67.toNat 0=0 then (Es.l1 K k a1 c1 t9 t10 t11 b1 (w64 (x52+1))) else (if (b1.length+1) * 8≤140737488355328 then (Es.l1 K k a1 c1 t9 t10 t11 (b1++[t11.getD t67.toNat 0]) (w64 (x52+1))) else none)) else none)) else (some (b1,0))
def Es.f (K:Nat) (a1:Int) (b1:Int) (c1:List Int):Option ((List Int) × Int):=Mh (Km.f K a1 b1 c1) (fun t3 t4 t5 t6 t7 t8 t9 t10 t11 t12 t13 t14 t15 t16 t17 t18=>(if t18=0 then (Es.l1 K K a1 b1 t9 t10 t11 ([]:List Int) 0) else (some (([]:List Int),t18))))
abbrev Es.post (w0:World) (L:List Df) (r1:List Int) (r2:Int) (en:Ending) (w:World):Prop:=∃ (A_r0:Option Addr) (c_r1:Nat),en=.returned (.tuple #[.slice A_r0 r1.length c_r1,.int .i64 r2])∧St w0 w (Own (Ad .i64) 2 A_r0 c_r1 (fun _=>()) r1::L)
def Hl.f (n_:Int):Option (Bool):=some (decide (n_=1))
abbrev Hl.post:=Js
def Bg.l1 (K:Nat):Nat→(List Int)→Int→Option (Int)
  | 0,_,_=>none
  | k+1,s,x8=>if x8<(s.length:Int) then (if 0≤x8∧x8<(s.length:Int) then ((Hl.f (s.getD x8.toNat 0)).bind fun t18=>(if t18=true then (some x8) else (Bg.l1 K k s (w64 (x8+1))))) else none) else (some (-1))
def Bg.f (K:Nat) (s:List Int):Option (Int):=Bg.l1 K K s 0
abbrev Bg.post:=Jq
def Bc.l1 (K:Nat):Nat→(List Int)→Int→Int→Option (List Int)
  | 0,_,_,_=>none
  | k+1,x19,a1,b1=>if b1<(x19.length:Int) then (if 0≤b1∧b1<(x19.length:Int) then ((Hl.f (x19.getD b1.toNat 0)).bind fun t37=>(if t37=true then (Bc.l1 K k x19 a1 (w64 (b1+1))) else (if 0≤a1∧a1<(x19.length:Int) then (Bc.l1 K k (x19.set a1.toNat (x19.getD b1.toNat 0)) (w64 (a1+1)) (w64 (b1+1))) else none))) else none) else (if 0≤a1∧a1≤(x19.length:Int) then (if 0≤a1∧a1≤((over x19 a1.toNat (List.replicate ((x19.take x19.length).drop a1.toNat).length 0)).length:Int) then (some (((over x19 a1.toNat (List.replicate ((x19.take x19.length).drop a1.toNat).length 0)).take a1.toNat).drop 0)) else none) else none)
def Bc.f (K:Nat) (s:List Int):Option (List Int):=(Bg.f K s).bind fun t1=>(if t1=(-1) then (some s) else (Bc.l1 K K s t1 (w64 (t1+1))))
abbrev Bc.post (w0:World) (L:List Df) (r1:List Int) (en:Ending) (w:World):Prop:=∃ (A_r0:Option Addr) (c_r1:Nat),en=.returned (.slice A_r0 r1.length c_r1)∧St w0 w (Own (Ad .i64) 2 A_r0 c_r1 (fun _=>()) r1::L)
def Je.f (K:Nat) (list:List Int):Option (List Int):=(Bc.f K list).bind fun t1=>(some t1)
abbrev Je.post (w0:World) (L:List Df) (r1:List Int) (en:Ending) (w:World):Prop:=∃ (A_r0:Option Addr) (c_r1:Nat),en=.returned (.slice A_r0 r1.length c_r1)∧St w0 w (Own (Ad .i64) 2 A_r0 c_r1 (fun _=>()) r1::L)
def Iu.f (K:Nat) (a1:Int) (b1:Int) (e1:List Int) (d1:Int) (f1:Int) (c1:List Int):Option (Int × (List Int) × Int):=Gs (Ca.f K d1 f1 c1 a1 b1 e1) (fun t7 t8 t9 t10=>(if t10=0 then ((C8.f K t9).bind fun t20=>(if t20=true then (some (0,([]:List Int),5)) else (Dz (Es.f K a1 b1 e1) (fun t26 t27=>(Dz (Es.f K d1 f1 c1) (fun t33 t34=>(if t27=0 then (if t34=0 then ((Er.f t26).bind fun t43=>((Er.f t33).bind fun t47=>((Je.f K t26).bind fun t51=>(some (w64 ((w64 (a1 - t43)) - t47),t51,0))))) else (some (0,([]:List Int),3))) else (some (0,([]:List Int),3))))))))) else (some (0,([]:List Int),t10))))
abbrev Iu.post (w0:World) (L:List Df) (r1:Int) (r2:List Int) (r3:Int) (en:Ending) (w:World):Prop:=∃ (A_r0:Option Addr) (c_r1:Nat),en=.returned (.tuple #[.agg [.int .i64 r1,.slice A_r0 r2.length c_r1].toArray,.int .i64 r3])∧St w0 w (Own (Ad .i64) 2 A_r0 c_r1 (fun _=>()) r2::L)
def Iz.f (K:Nat) (a1:List (List Aw)) (k_:Int):Option (Int × (List Int) × Int):=(J3.f K a1 k_ 0).bind fun t5=>(if t5=0 then (Fe (Cr.f K a1 (w64 (k_+1))) (fun t10 t11 t12=>(Fe (Cr.f K a1 k_) (fun t18 t19 t20=>(Fe (Iu.f K t10 t11 t12 t18 t19 t20) (fun t26 t27 t28=>(some (t26,t27,t28)))))))) else (some (0,([]:List Int),t5)))
abbrev Iz.post (w0:World) (L:List Df) (r1:Int) (r2:List Int) (r3:Int) (en:Ending) (w:World):Prop:=∃ (A_r0:Option Addr) (c_r1:Nat),en=.returned (.tuple #[.agg [.int .i64 r1,.slice A_r0 r2.length c_r1].toArray,.int .i64 r3])∧St w0 w (Own (Ad .i64) 2 A_r0 c_r1 (fun _=>()) r2::L)
def Gd.l1 (K:Nat):Nat→(List Int)→(List Int)→Int→Option (Bool)
  | 0,_,_,_=>none
  | k+1,a_,b_,i_6=>if i_6<(a_.length:Int) then (if 0≤i_6∧i_6<(a_.length:Int) then (if 0≤i_6∧i_6<(b_.length:Int) then (if a_.getD i_6.toNat 0=b_.getD i_6.toNat 0 then (Gd.l1 K k a_ b_ (w64 (i_6+1))) else (some false)) else none) else none) else (some true)
def Gd.f (K:Nat) (a_:List Int) (b_:List Int):Option (Bool):=if (a_.length:Int)=(b_.length:Int) then (Gd.l1 K K a_ b_ 0) else (some false)
abbrev Gd.post:=Js
def Hd.f (K:Nat) (c1:Int) (b1:List Int) (d1:Int) (a1:List Int):Option (Bool):=if c1=d1 then ((Gd.f K b1 a1).bind fun t6=>(if t6=true then (some true) else (some false))) else (some false)
abbrev Hd.post:=Js
def Kk.f (b1:Int) (d1:Int) (a1:Int) (c1:Int):Option (Bool):=if b1=a1 then (if d1=c1 then (some true) else (some false)) else (some false)
abbrev Kk.post:=Js
def Gl.l1 (K:Nat):Nat→(List Aw)→(List Aw)→Int→Option (Bool)
  | 0,_,_,_=>none
  | k+1,a_,b_,a1=>if a1<(a_.length:Int) then (if 0≤a1∧a1<(a_.length:Int) then (bnd (a_.getD a1.toNat Hy) (fun e29=>if 0≤a1∧a1<(b_.length:Int) then (bnd (b_.getD a1.toNat Hy) (fun e32=>(Kk.f e29.Tet e29.Perm e32.Tet e32.Perm).bind fun t34=>(if t34=true then (Gl.l1 K k a_ b_ (w64 (a1+1))) else (some false)))) else none)) else none) else (some true)
def Gl.f (K:Nat) (a_:List Aw) (b_:List Aw):Option (Bool):=if (a_.length:Int)=(b_.length:Int) then (Gl.l1 K K a_ b_ 0) else (some false)
abbrev Gl.post:=Js
def Fz.l1 (K:Nat):Nat→(List (List Aw))→(List (List Aw))→Int→Option (Bool)
  | 0,_,_,_=>none
  | k+1,a_,b_,a1=>if a1<(a_.length:Int) then (if 0≤a1∧a1<(a_.length:Int) then (if 0≤a1∧a1<(b_.length:Int) then ((Gl.f K (a_.getD a1.toNat []) (b_.getD a1.toNat [])).bind fun t22=>(if t22=true then (Fz.l1 K k a_ b_ (w64 (a1+1))) else (some false))) else none) else none) else (some true)
def Fz.f (K:Nat) (a_:List (List Aw)) (b_:List (List Aw)):Option (Bool):=if (a_.length:Int)=(b_.length:Int) then (Fz.l1 K K a_ b_ 0) else (some false)
abbrev Fz.post:=Js
def Hr.f (K:Nat) (b1:List (List Aw)) (a1:List (List Aw)):Option (Bool):=(Fz.f K b1 a1).bind fun t5=>(if t5=true then (some true) else (some false))
abbrev Hr.post:=Js
def Fw.l1 (K:Nat):Nat→(List Aw)→Int→Int→Option (Int × (List Aw))
  | 0,_,_,_=>none
  | k+1,x10,b1,a1=>if a1<(x10.length:Int) then (if 0≤a1∧a1<(x10.length:Int) then (bnd (x10.getD a1.toNat Hy) (fun e25=>if 0≤a1∧a1<((x10.set a1.toNat ({ e25 with Tet:=b1 })).length:Int) then (bnd ((x10.set a1.toNat ({ e25 with Tet:=b1 })).getD a1.toNat Hy) (fun e29=>Fw.l1 K k ((x10.set a1.toNat ({ e25 with Tet:=b1 })).set a1.toNat ({ e29 with Perm:=w64 (b1+1) })) (w64 ((w64 (b1+1))+1)) (w64 (a1+1)))) else none)) else none) else (some (b1,x10))
def Fw.f (K:Nat) (a_:List Aw) (k_:Int):Option (Int × (List Aw)):=Fw.l1 K K a_ k_ 0
abbrev Fw.post (w0:World) (L:List Df) (A_a:Option Addr) (c_a:Nat) (r1:Int) (r2:List Aw) (en:Ending) (w:World):Prop:=en=.returned (.int .i64 r1)∧St w0 w (Own Bb 83 A_a c_a (fun _=>()) r2::L)
def E9.l1 (K:Nat):Nat→(List (List Aw))→Int→Int→Option (Int × (List (List Aw)))
  | 0,_,_,_=>none
  | k+1,x9,b1,a1=>if a1<(x9.length:Int) then (if 0≤a1∧a1<(x9.length:Int) then (Dz (Fw.f K (x9.getD a1.toNat []) b1) (fun t22 t23=>(if t23.length=(x9.getD a1.toNat []).length then (E9.l1 K k (x9.set a1.toNat t23) t22 (w64 (a1+1))) else none))) else none) else (some (b1,x9))
def E9.f (K:Nat) (a_:List (List Aw)) (k_:Int):Option (Int × (List (List Aw))):=E9.l1 K K a_ k_ 0
abbrev E9.post (w0:World) (L:List Df) (A_a:Option Addr) (c_a:Nat) (y_a:Nat→(Ty.slice 83 Bb).Lay) (r1:Int) (r2:List (List Aw)) (en:Ending) (w:World):Prop:=en=.returned (.int .i64 r1)∧St w0 w (Own (Ty.slice 83 Bb) 81 A_a c_a y_a r2::L)
def G5.f (K:Nat) (a1:List (List Aw)) (k_:Int):Option (Int × (List (List Aw))):=Dz (E9.f K a1 k_) (fun t3 t4=>(if t4.length=a1.length then (some (t3,t4)) else none))
abbrev G5.post (w0:World) (L:List Df) (A_a:Option Addr) (c_a:Nat) (y_a:Nat→(Ty.slice 83 Bb).Lay) (r1:Int) (r2:List (List Aw)) (en:Ending) (w:World):Prop:=en=.returned (.int .i64 r1)∧St w0 w (Own (Ty.slice 83 Bb) 81 A_a c_a y_a r2::L)
def E5.l1 (K:Nat):Nat→(List Int)→Int→Int→Option (Int × (List Int))
  | 0,_,_,_=>none
  | k+1,x4,k_5,i_6=>if i_6<(x4.length:Int) then (if 0≤i_6∧i_6<(x4.length:Int) then (E5.l1 K k (x4.set i_6.toNat k_5) (w64 (k_5+1)) (w64 (i_6+1))) else none) else (some (k_5,x4))
def E5.f (K:Nat) (a_:List Int) (k_:Int):Option (Int × (List Int)):=E5.l1 K K a_ k_ 0
abbrev E5.post (w0:World) (L:List Df) (A_a:Option Addr) (c_a:Nat) (r1:Int) (r2:List Int) (en:Ending) (w:World):Prop:=en=.returned (.int .i64 r1)∧St w0 w (Own (Ad .i64) 2 A_a c_a (fun _=>()) r2::L)
def Fb.l1 (K:Nat):Nat→(List Int)→Int→Int→Option (Int)
  | 0,_,_,_=>none
  | k+1,a_,k_4,i_5=>if i_5<(a_.length:Int) then (if 0≤i_5∧i_5<(a_.length:Int) then (if a_.getD i_5.toNat 0=k_4 then (Fb.l1 K k a_ (w64 (k_4+1)) (w64 (i_5+1))) else (some (-1))) else none) else (some k_4)
def Fb.f (K:Nat) (a_:List Int) (k_:Int):Option (Int):=Fb.l1 K K a_ k_ 0
abbrev Fb.post:=Jq
def El.l1 (K:Nat):Nat→(List (List Aw))→(List Ch)→Int→Option ((List Ch) × Int)
  | 0,_,_,_=>none
  | k+1,c1,a1,b1=>if b1<4 then (Fe (I5.f K c1 b1) (fun t50 t51 t52=>(if t52=0 then (if (a1.length+1) * 32≤140737488355328 then (El.l1 K k c1 (a1++[(⟨t50,t51⟩:Ch)]) (w64 (b1+1))) else none) else (some (([]:List Ch),t52))))) else (some (a1,0))
def El.f (K:Nat) (a1:List (List Aw)):Option ((List Ch) × Int):=El.l1 K K a1 ([]:List Ch) 0
abbrev El.post (w0:World) (L:List Df) (r1:List Ch) (r2:Int) (en:Ending) (w:World):Prop:=∃ (A_r0:Option Addr) (c_r1:Nat) (y_r2:Nat→Cx.Lay),en=.returned (.tuple #[.slice A_r0 r1.length c_r1,.int .i64 r2])∧St w0 w (Own Cx 28 A_r0 c_r1 y_r2 r1::L)
def Ml.l1 (K:Nat):Nat→(List Int)→(List Int)→Int→Option (Bool)
  | 0,_,_,_=>none
  | k+1,a_,b_,i_6=>if i_6<(a_.length:Int) then (if 0≤i_6∧i_6<(a_.length:Int) then (if 0≤i_6∧i_6<(b_.length:Int) then (if a_.getD i_6.toNat 0=b_.getD i_6.toNat 0 then (Ml.l1 K k a_ b_ (w64 (i_6+1))) else (some false)) else none) else none) else (some true)
def Ml.f (K:Nat) (a_:List Int) (b_:List Int):Option (Bool):=if (a_.length:Int)=(b_.length:Int) then (Ml.l1 K K a_ b_ 0) else (some false)
def Qy.l1 (K:Nat):Nat→(List Ch)→(List Ch)→Int→Option (Bool)
  | 0,_,_,_=>none
  | k+1,t5,t13,a1=>if a1<4 then (if 0≤a1∧a1<(t5.length:Int) then (bnd (t5.getD a1.toNat Dx) (fun e61=>if 0≤a1∧a1<(t13.length:Int) then (bnd (t13.getD a1.toNat Dx) (fun e65=>if e61.Rank=e65.Rank then ((Ml.f K e61.Ic e65.Ic).bind fun t70=>(if t70=true then (Qy.l1 K k t5 t13 (w64 (a1+1))) else (some false))) else (some false))) else none)) else none) else (some true)
def Eb.l1 (K:Nat):Nat→(List (List Aw))→(List Ch)→Int→Option ((List Ch) × Int)
  | 0,_,_,_=>none
  | k+1,b1,a1,x26=>if x26<4 then (Fe (Iz.f K b1 x26) (fun t48 t49 t50=>(if t50=0 then (if (a1.length+1) * 32≤140737488355328 then (Eb.l1 K k b1 (a1++[(⟨t48,t49⟩:Ch)]) (w64 (x26+1))) else none) else (some (([]:List Ch),t50))))) else (some (a1,0))
def Eb.f (K:Nat) (a1:List (List Aw)):Option ((List Ch) × Int):=Eb.l1 K K a1 ([]:List Ch) 0
abbrev Eb.post (w0:World) (L:List Df) (r1:List Ch) (r2:Int) (en:Ending) (w:World):Prop:=∃ (A_r0:Option Addr) (c_r1:Nat) (y_r2:Nat→Cx.Lay),en=.returned (.tuple #[.slice A_r0 r1.length c_r1,.int .i64 r2])∧St w0 w (Own Cx 28 A_r0 c_r1 y_r2 r1::L)
def Cu.l1 (K:Nat):Nat→(List Ch)→(List Ch)→Int→Option (Bool)
  | 0,_,_,_=>none
  | k+1,a_,b_,a1=>if a1<(a_.length:Int) then (if 0≤a1∧a1<(a_.length:Int) then (bnd (a_.getD a1.toNat Dx) (fun e29=>if 0≤a1∧a1<(b_.length:Int) then (bnd (b_.getD a1.toNat Dx) (fun e32=>(Hd.f K e29.Rank e29.Ic e32.Rank e32.Ic).bind fun t34=>(if t34=true then (Cu.l1 K k a_ b_ (w64 (a1+1))) else (some false)))) else none)) else none) else (some true)
def Cu.f (K:Nat) (a_:List Ch) (b_:List Ch):Option (Bool):=if (a_.length:Int)=(b_.length:Int) then (Cu.l1 K K a_ b_ 0) else (some false)
abbrev Cu.post:=Js
def Db.l1 (K:Nat):Nat→(List Ch)→Int→Int→Option (Int × (List Ch))
  | 0,_,_,_=>none
  | k+1,x15,b1,a1=>if a1<(x15.length:Int) then (if 0≤a1∧a1<(x15.length:Int) then (bnd (x15.getD a1.toNat Dx) (fun e35=>if 0≤a1∧a1<((x15.set a1.toNat ({ e35 with Rank:=b1 })).length:Int) then (bnd ((x15.set a1.toNat ({ e35 with Rank:=b1 })).getD a1.toNat Dx) (fun e38=>Dz (E5.f K e38.Ic (w64 (b1+1))) (fun t40 t41=>(if t41.length=e38.Ic.length then (Db.l1 K k ((x15.set a1.toNat ({ e35 with Rank:=b1 })).set a1.toNat { e38 with Ic:=t41 }) t40 (w64 (a1+1))) else none)))) else none)) else none) else (some (b1,x15))
def Db.f (K:Nat) (a_:List Ch) (k_:Int):Option (Int × (List Ch)):=Db.l1 K K a_ k_ 0
abbrev Db.post (w0:World) (L:List Df) (A_a:Option Addr) (c_a:Nat) (y_a:Nat→Cx.Lay) (r1:Int) (r2:List Ch) (en:Ending) (w:World):Prop:=en=.returned (.int .i64 r1)∧St w0 w (Own Cx 28 A_a c_a y_a r2::L)
def Cw.l1 (K:Nat):Nat→(List Ch)→Int→Int→Option (Int)
  | 0,_,_,_=>none
  | k+1,a_,b1,a1=>if a1<(a_.length:Int) then (if 0≤a1∧a1<(a_.length:Int) then (bnd (a_.getD a1.toNat Dx) (fun e25=>if e25.Rank=b1 then ((Fb.f K e25.Ic (w64 (b1+1))).bind fun t28=>(if t28<0 then (some (-1)) else (Cw.l1 K k a_ t28 (w64 (a1+1))))) else (some (-1)))) else none) else (some b1)
def Cw.f (K:Nat) (a_:List Ch) (k_:Int):Option (Int):=Cw.l1 K K a_ k_ 0
abbrev Cw.post:=Jq
def Gu.f (K:Nat) (a1:List (List Aw)):Option (Bool):=(Gz.f K a1 1048576).bind fun t3=>(if t3<0 then (some true) else ((Ev.f K a1).bind fun t8=>(Dz (El.f K t8) (fun t15 t16=>((Ev.f K a1).bind fun t23=>(Dz (Eb.f K t23) (fun t33 t34=>((Cu.f K t33 t15).bind fun t46=>(if t46=true then (if t34=t16 then ((Ev.f K a1).bind fun t52=>((Hr.f K t23 t52).bind fun t59=>(if t59=true then (Dz (G5.f K t23 1) (fun t64 t65=>(if t65.length=t23.length then (if t64<0 then (some false) else ((Cu.f K t33 t15).bind fun t77=>(if t77=true then (Dz (Db.f K t33 1) (fun t82 t83=>(if t83.length=t33.length then ((Cw.f K t83 1).bind fun t88=>(if t88<0 then (some false) else (if t88=t82 then ((Ev.f K a1).bind fun t94=>(Dz (Eb.f K t94) (fun t101 t102=>((Cu.f K t101 t15).bind fun t114=>(if t114=true then (if t102=t16 then ((Cw.f K t83 1).bind fun t120=>(if t120<0 then (some false) else (if t120=t82 then (some true) else (some false)))) else (some false)) else (some false)))))) else (some false)))) else none))) else (some false)))) else none))) else (some false)))) else (some false)) else (some false))))))))))
abbrev Gu.post:=Js
end Go.Proofs.YtgkgmhkgahalgaaGreat
