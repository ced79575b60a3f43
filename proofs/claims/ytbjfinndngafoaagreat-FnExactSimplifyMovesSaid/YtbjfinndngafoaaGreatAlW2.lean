/-
  The walks through the functions: a call comes to what its list function says.
-/
import Derived.Test.YtbjfinndngafoaaGreatAlF
import Derived.Test.YtbjfinndngafoaaGreatAlW1
set_option linter.unusedVariables false
set_option linter.unusedSimpArgs false
namespace Go.Proofs.YtbjfinndngafoaaGreat
open Go.RowKit
open Tryz
variable {w0 w:World} {L:List Cy} {K:Nat} {A_a A_b A_c A_d A_e A_f A_g A_h A_i A_j A_k A_l A_m A_n A_o A_p A_q A_r A_s A_t A_u A_v A_w A_x A_y A_z:Option Addr} {c_a c_b c_c c_d c_e c_f c_g c_h c_i c_j c_k c_l c_m c_n c_o c_p c_q c_r c_s c_t c_u c_v c_w c_x c_y c_z:Nat}
set_option maxRecDepth 20000
set_option maxHeartbeats 40000000
theorem Ao.calls {d1:List (List Ab)} {y_a:Nat→(Ty.slice 107 Ad).Lay} {r1:List (List Int)} (HS:St w0 w (L)) (r_a:Ce w0 L (Ty.slice 107 Ad) A_a c_a y_a d1) (H:Ao.f K d1=some r1) :
    Calls prog 133 #[.agg [sV A_a d1 c_a].toArray] w (Ao.post w0 L r1):=by
  unfold Ao.f at H
  refine cG func133 Z ?_
  refine sQ (rG (bA HS Z fun b1 wd2 HS=>aS Z (nL (sQ ?_))))
  obtain ⟨t3,h4,H⟩:=bI H
  refine rG (lW 0 HS Z Dq (fJ Og Z (Cs.calls HS (rD 1 r_a) h4) (fun _ wd5 ⟨h6,HS⟩=>⟨_,h6,(aS Z (nL (sQ ?_)))⟩)))
  obtain ⟨c7,H⟩:=iN H
  obtain ⟨c8,H⟩:=iN H
  refine rG (pS 2 Z (GO.make (T:=(Ar .i64)) 0 () HS Ba Z Z Z U56 Ml Z Z Z c7 c8 Z fun b9 wd10 HS=>aS Z (nL (sQ ?_))))
  obtain ⟨c11,H⟩:=iN H
  refine rG (pS 2 Z (GO.make (T:=Hz) false () HS Ba Z Z Z Mq dM Z Z Z c7 c11 Z fun b12 wd13 HS=>aS Z (nL (rN 5 Z ?_))))
  refine G.name (fun q2 j3=>?_)
  have o3:∀ y1,y1≤K→∀ (e1:List Int) (a1:List Bool) (c1:Int) (w:World),Ao.l1 K y1 d1 t3 e1 a1 c1=some r1→St w0 w (Box b1 31 [sV A_a d1 c_a]::Own (Ar .i64) 2 (sb b9) ((w64 (6 * t3)).toNat) uu e1::Own Hz 4 (sb b12) ((w64 (6 * t3)).toNat) uu a1::L)→G prog 133 189 [(1,pT b1),(3,I t3),(4,sV (sb b9) e1 ((w64 (6 * t3)).toNat)),(5,sV (sb b12) a1 ((w64 (6 * t3)).toNat)),(6,I c1)] q2 w (Ao.post w0 L r1):=by
   refine lp (fun _ _ _ w H _=>by rw [Ao.l1] at H; cases H) fun m1 s3 k2 e1 a1 c1 w H HS=>?_
   rw [Ao.l1] at H
   subst j3
   refine rN 3 Z ?_
   rcases iS H with ⟨c1352,H⟩ | ⟨c1352,H⟩
   ·
    refine nB Z (tF c1352) (rN 2 Z (rG (GO.Cw (el:=56) ([]) HS Z Z (fun _=>by kernel_rfl) Z fun b1901 wd1902 HS=>?_)))
    replace HS:=HS.Zh (T:=(Ty.slice 2 (Ar .i64))) (j:=0) Z (fun _=>⟨none,0,uu⟩)
    refine GO.H7 (t:=155) (m:=([]:List (List Int)).length) (c':=0) Z Z Z (aS Z (nL (rN 5 Z ?_)))
    refine G.name (fun s2 f3=>?_)
    have v2:∀ v1,v1≤m1→∀ (A1979:Option Addr) (c1980:Nat) (x1981:List (List Int)) (y1982:Nat→(Ty.slice 2 (Ar .i64)).Lay) (x1983:Int) (w:World),Ao.l82 K v1 t3 e1 a1 x1981 x1983=some r1→St w0 w (Own (Ar .i64) 2 (sb b9) ((w64 (6 * t3)).toNat) uu e1::Own Hz 4 (sb b12) ((w64 (6 * t3)).toNat) uu a1::Own (Ty.slice 2 (Ar .i64)) 56 A1979 c1980 y1982 x1981::L)→G prog 133 189 [(3,I t3),(4,sV (sb b9) e1 ((w64 (6 * t3)).toNat)),(5,sV (sb b12) a1 ((w64 (6 * t3)).toNat)),(20,sV A1979 x1981 c1980),(21,I x1983)] s2 w (Ao.post w0 L r1):=by
     refine lp (fun _ _ _ _ _ w H _=>by rw [Ao.l82] at H; cases H) fun e2 r3 c3 A1979 c1980 x1981 y1982 x1983 w H HS=>?_
     rw [Ao.l82] at H
     subst f3
     refine rN 3 Z ?_
     rcases iS H with ⟨c2060,H⟩ | ⟨c2060,H⟩
     ·
      refine nB Z (tF c2060) (rN 3 Z ?_)
      obtain rfl:=sI H
      exact rT _ func133 Z Z ⟨_,_,_,Z,(HS.pk 3 [2] Z)⟩
     refine yB Z (tT c2060) (rN 4 Z (rG (GO.Cw (el:=2) ([]) HS Z Z (fun _=>by kernel_rfl) Z fun b2061 wd2062 HS=>?_)))
     replace HS:=HS.Fq (T:=(Ar .i64)) (j:=0) Z Ba uu ([]:List Int) Z (Il Z)
     refine GO.H7 (t:=162) (m:=([]:List Int).length) (c':=([]:List Int).length) Z Z Z (aS Z (nL (rN 5 Z ?_)))
     refine G.name (fun k3 g3=>?_)
     have i3:∀ z1,z1≤e2→∀ (A2086:Option Addr) (c2087:Nat) (x2088:List Int) (x2089:Int) (w:World),Ao.l85 K z1 t3 e1 a1 x1981 x1983 x2088 x2089=some r1→St w0 w (Own (Ar .i64) 2 (sb b9) ((w64 (6 * t3)).toNat) uu e1::Own Hz 4 (sb b12) ((w64 (6 * t3)).toNat) uu a1::Own (Ty.slice 2 (Ar .i64)) 56 A1979 c1980 y1982 x1981::Own (Ar .i64) 2 A2086 c2087 uu x2088::L)→G prog 133 189 [(3,I t3),(4,sV (sb b9) e1 ((w64 (6 * t3)).toNat)),(5,sV (sb b12) a1 ((w64 (6 * t3)).toNat)),(20,sV A1979 x1981 c1980),(21,I x1983),(22,sV A2086 x2088 c2087),(23,I x2089)] k3 w (Ao.post w0 L r1):=by
      refine lp (fun _ _ _ _ w H _=>by rw [Ao.l85] at H; cases H) fun q1 m2 g2 A2086 c2087 x2088 x2089 w H HS=>?_
      rw [Ao.l85] at H
      subst g3
      refine rN 3 Z ?_
      rcases iS H with ⟨c2113,H⟩ | ⟨c2113,H⟩
      ·
       refine nB Z (tF c2113) (G.exit Z ?_)
       obtain ⟨c2134,H⟩:=iN H
       refine rG (pS 2 Z (GO.Cw (el:=56) ([sV A2086 x2088 c2087]) HS Z Z (fun _=>by kernel_rfl) Z fun b2129 wd2130 HS=>?_))
       replace HS:=HS.pk 5 [3,0,4,1,2] Z
       refine GO.Ul (S:=(Ar .i64)) (u:=2) HS Z Z Z M8 jC Z Z c2134 Z fun A2132 c2133 y2135 wd2131 HS=>aS Z (nL (rN 3 Z (gW (c3 q1 (Nat.le_of_succ_le m2) _ _ _ _ _ _ H (HS.pk 4 [2,3,0] Z)) Z)))
      refine yB Z (tT c2113) (rN 4 Z ?_)
      obtain ⟨c2114,H⟩:=iN H
      refine rG (pS 2 Z (iX Z Mq sz4 (fun _=>⟨_,_,Z⟩) c2114 (GO.Cj (T:=Hz) (n:=x2089.toNat) (o:=0) HS (ro 1 Z) Z Z (getD_some (d:=false) (ltN c2114)) Z Z na4 Z (nL ?_))))
      rcases iE H with ⟨c2115,H⟩ | ⟨c2115,H⟩
      ·
       refine yB Z c2115 ?_
       obtain ⟨c2121,H⟩:=iN H
       refine rG (mV Z (GO.Cw (el:=2) ([I 0]) HS Z Z (fun _=>by kernel_rfl) Z fun b2116 wd2117 HS=>GO.app1 (T:=(Ar .i64)) (j:=4) (jb:=0) 0 HS Z Z Ba Z Z Z U56 Ml Z Z Z c2121 Z fun A2119 c2120 wd2118 HS=>aS Z (nL (rN 3 Z (gW (g2 q1 (lR _) _ _ _ _ _ H (HS.pk 5 [1,2,3,4] Z)) Z)))))
      refine nB Z (Db c2115) ?_
      obtain ⟨c2122,H⟩:=iN H
      obtain ⟨c2128,H⟩:=iN H
      refine rG (pS 3 Z (iX Z U56 sz2 (fun _=>⟨_,_,Z⟩) c2122 (GO.Cj (T:=(Ar .i64)) (n:=x2089.toNat) (o:=0) HS (ro 0 Z) Z Z (getD_some (d:=0) (ltN c2122)) Z Z na2 Z (GO.Cw (el:=2) ([I (e1.getD x2089.toNat 0)]) HS Z Z (fun _=>by kernel_rfl) Z fun b2123 wd2124 HS=>GO.app1 (T:=(Ar .i64)) (j:=4) (jb:=0) (e1.getD x2089.toNat 0) HS Z Z Ba Z Z Z U56 Ml Z Z Z c2128 Z fun A2126 c2127 wd2125 HS=>aS Z (nL (rN 3 Z (gW (g2 q1 (lR _) _ _ _ _ _ H (HS.pk 5 [1,2,3,4] Z)) Z)))))))
     exact gW (i3 e2 (lR _) _ _ _ _ _ H (HS.pk 4 [1,2,3,0] Z)) Z
    exact gW (v2 m1 (lR _) _ _ _ _ _ _ H (HS.pk 4 [2,3,0] Z)) Z
   refine yB Z (tT c1352) (rN 5 Z ?_)
   obtain ⟨c1353,H⟩:=iN H
   refine rG (pS 2 Z (iX Z U56 sz2 (fun _=>⟨_,_,Z⟩) c1353 (GO.Cj (T:=(Ar .i64)) (n:=c1.toNat) (o:=0) HS (ro 1 Z) Z Z (getD_some (d:=0) (ltN c1353)) Z Z na2 Z (GO.neq Z Z Z Z (nL ?_)))))
   rcases iS H with ⟨c1354,H⟩ | ⟨c1354,H⟩
   ·
    refine yB Z (nF c1354) (rN 3 Z (gW (k2 m1 (lR _) _ _ _ _ H HS) Z))
   refine nB Z (nT c1354) (rN 2 Z (rG (pS 2 Z (iX Z U56 sz2 (fun _=>⟨_,_,Z⟩) c1353 (GO.Ii (T:=(Ar .i64)) (j:=1) (n:=c1.toNat) (o:=0) (vs:=[I 1]) 1 HS Z Ba Z Z Z Z (htN na2 Z) Z (getD_some (d:=0) (ltN c1353)) Z Z fun wd1355 HS=>nL (G.len (t:=4) (m:=(e1.set c1.toNat 1).length) Z (by simp only [List.length_set] <;> rfl) (sQ (rG (mV Z (GO.Cw (el:=2) ([I c1]) HS Z Z (fun _=>by kernel_rfl) Z fun b1356 wd1357 HS=>?_))))))))))
   replace HS:=HS.Fq (T:=(Ar .i64)) (j:=0) Z Ba uu ([c1]:List Int) Z (Il Z)
   refine GO.H7 (t:=47) (m:=([c1]:List Int).length) (c':=([c1]:List Int).length) Z Z Z (aS Z (nL (rN 7 Z ?_)))
   refine G.name (fun t2 y2=>?_)
   have a3:∀ d2,d2≤m1→∀ (g1:List Int) (A1528:Option Addr) (c1529:Nat) (x1530:List Int) (x1531:Bool) (x1532:Int) (w:World),Ao.l57 K d2 d1 t3 a1 c1 g1 x1530 x1531 x1532=some r1→St w0 w (Box b1 31 [sV A_a d1 c_a]::Own (Ar .i64) 2 (sb b9) ((w64 (6 * t3)).toNat) uu g1::Own Hz 4 (sb b12) ((w64 (6 * t3)).toNat) uu a1::Own (Ar .i64) 2 A1528 c1529 uu x1530::L)→G prog 133 189 [(1,pT b1),(3,I t3),(4,sV (sb b9) g1 ((w64 (6 * t3)).toNat)),(5,sV (sb b12) a1 ((w64 (6 * t3)).toNat)),(6,I c1),(7,sV A1528 x1530 c1529),(8,.bool x1531),(9,I x1532)] t2 w (Ao.post w0 L r1):=by
    refine lp (fun _ _ _ _ _ _ w H _=>by rw [Ao.l57] at H; cases H) fun o1 p2 z2 g1 A1528 c1529 x1530 x1531 x1532 w H HS=>?_
    rw [Ao.l57] at H
    subst y2
    refine rN 2 Z (rG (pS 2 Z (lS Z Z U56 Z (GO.lss Z Z Z Z (nL ?_)))))
    rcases iS H with ⟨c1717,H⟩ | ⟨c1717,H⟩
    ·
     refine nB Z (tF c1717) (rN 5 Z ?_)
     refine G.name (fun m3 e3=>?_)
     have x2:∀ b2,b2≤o1→∀ (k1:List Bool) (x1892:Int) (w:World),Ao.l81 K b2 d1 t3 c1 g1 x1530 x1531 k1 x1892=some r1→St w0 w (Box b1 31 [sV A_a d1 c_a]::Own (Ar .i64) 2 (sb b9) ((w64 (6 * t3)).toNat) uu g1::Own Hz 4 (sb b12) ((w64 (6 * t3)).toNat) uu k1::Own (Ar .i64) 2 A1528 c1529 uu x1530::L)→G prog 133 189 [(1,pT b1),(3,I t3),(4,sV (sb b9) g1 ((w64 (6 * t3)).toNat)),(5,sV (sb b12) k1 ((w64 (6 * t3)).toNat)),(6,I c1),(7,sV A1528 x1530 c1529),(8,.bool x1531),(19,I x1892)] m3 w (Ao.post w0 L r1):=by
      refine lp (fun _ _ w H _=>by rw [Ao.l81] at H; cases H) fun c2 u2 o2 k1 x1892 w H HS=>?_
      rw [Ao.l81] at H
      subst e3
      refine rN 2 Z (rG (pS 2 Z (lS Z Z U56 Z (GO.lss Z Z Z Z (nL ?_)))))
      rcases iS H with ⟨c1897,H⟩ | ⟨c1897,H⟩
      ·
       refine nB Z (tF c1897) (rN 4 Z (gW (k2 c2 (Nat.le_trans (Nat.le_of_succ_le u2) (Nat.le_of_succ_le p2)) _ _ _ _ H (HS.pk 4 [0,1,2] Z)) Z))
      refine yB Z (tT c1897) (rN 3 Z ?_)
      obtain ⟨c1898,H⟩:=iN H
      obtain ⟨c1899,H⟩:=iN H
      refine rG (pS 3 Z (iX Z U56 sz2 (rk (ro 3 Z) HS) c1898 (GO.Cj (T:=(Ar .i64)) (n:=x1892.toNat) (o:=0) HS (ro 3 Z) Z Z (getD_some (d:=0) (ltN c1898)) Z Z na2 Z (mV Z (iX Z Mq sz4 (fun _=>⟨_,_,Z⟩) c1899 (GO.Ii (T:=Hz) (j:=2) (n:=(x1530.getD x1892.toNat 0).toNat) (o:=0) (vs:=[.bool x1531]) x1531 HS Z Ba Z Z Z Z (htN na4 Z) Z (getD_some (d:=false) (ltN c1899)) Z Z fun wd1900 HS=>nL (G.len (t:=5) (m:=(k1.set ((x1530.getD x1892.toNat 0).toNat) x1531).length) Z (by simp only [List.length_set] <;> rfl) (rN 3 Z (gW (o2 c2 (lR _) _ _ _ H HS) Z)))))))))
     exact gW (x2 o1 (lR _) _ _ _ H HS) Z
    refine yB Z (tT c1717) (rN 4 Z ?_)
    obtain ⟨c1718,H⟩:=iN H
    refine rG (pS 2 Z (iX Z U56 sz2 (rk (ro 3 Z) HS) c1718 (GO.Cj (T:=(Ar .i64)) (n:=x1532.toNat) (o:=0) HS (ro 3 Z) Z Z (getD_some (d:=0) (ltN c1718)) Z Z na2 Z (GO.quo Z Z Z (by decide) Z (aS Z (nL (sQ ?_)))))))
    obtain ⟨t1719,t1720,h1721,H⟩:=Ea H
    refine rG (pS 2 Z (iX Z U56 sz2 (rk (ro 3 Z) HS) c1718 (GO.Cj (T:=(Ar .i64)) (n:=x1532.toNat) (o:=0) HS (ro 3 Z) Z Z (getD_some (d:=0) (ltN c1718)) Z Z na2 Z (GO.rem Z Z Z (by decide) Z (fJ Tg Z (Gs.calls HS  h1721) (fun _ wd1722 ⟨h1723,HS⟩=>⟨_,h1723,(pS 5 Z (nL (rN 4 Z ?_)))⟩))))))
    refine G.name (fun r2 n2=>?_)
    have d3:∀ s1,s1≤o1→∀ (f1:List Int) (A1776:Option Addr) (c1777:Nat) (x1778:List Int) (x1779:Bool) (x1780:Int) (w:World),Ao.l74 K s1 d1 t3 a1 c1 x1530 x1532 t1719 t1720 f1 x1778 x1779 x1780=some r1→St w0 w (Box b1 31 [sV A_a d1 c_a]::Own (Ar .i64) 2 (sb b9) ((w64 (6 * t3)).toNat) uu f1::Own Hz 4 (sb b12) ((w64 (6 * t3)).toNat) uu a1::Own (Ar .i64) 2 A1776 c1777 uu x1778::L)→G prog 133 189 [(1,pT b1),(3,I t3),(4,sV (sb b9) f1 ((w64 (6 * t3)).toNat)),(5,sV (sb b12) a1 ((w64 (6 * t3)).toNat)),(6,I c1),(7,sV A1776 x1778 c1777),(8,.bool x1779),(9,I x1532),(10,I (w64 ((x1530.getD x1532.toNat 0).tdiv 6))),(11,I t1719),(12,I t1720),(13,I x1780)] r2 w (Ao.post w0 L r1):=by
     refine lp (fun _ _ _ _ _ _ w H _=>by rw [Ao.l74] at H; cases H) fun h1 b3 i1 f1 A1776 c1777 x1778 x1779 x1780 w H HS=>?_
     rw [Ao.l74] at H
     subst n2
     refine rN 3 Z ?_
     rcases iS H with ⟨c1834,H⟩ | ⟨c1834,H⟩
     ·
      refine nB Z (tF c1834) (rN 4 Z (gW (z2 h1 (Nat.le_of_succ_le b3) _ _ _ _ _ _ _ H HS) Z))
     refine yB Z (tT c1834) (rN 4 Z ?_)
     obtain ⟨c1835,H⟩:=iN H
     obtain ⟨c1836,H⟩:=iN H
     obtain ⟨e1837,h1838,H⟩:=Di H
     refine rG (fL b1 0 Du Z (lB 0 HS Z Gu Z (mV Z (iX Z U29 Jg (rk (rD 4 r_a) HS) c1835 (GO.Cj (T:=(Ty.slice 107 Ad)) (n:=(w64 ((x1530.getD x1532.toNat 0).tdiv 6)).toNat) (o:=0) HS (rD 4 r_a) Z Z (getD_some (d:=[]) (ltN c1835)) Z Z Jh Z (mV Z (GO.ix Z Z Z U77 G9 ((Ce.elem (rD 4 r_a) c1835.1 c1835.2) _ HS).2.2.1 c1836.1 c1836.2 Z (GO.Hw (T:=Ad) (n:=x1780.toNat) HS (Ce.elem (rD 4 r_a) c1835.1 c1835.2) Z Z (Cn (ltN c1836) h1838) D9 Z (GO.alloc HS Z Jz Z Z fun b1839 wd1840 HS=>sW 0 HS Z D9 Z fun wd1841 HS=>nL (rN 2 Z ?_))))))))))
     rcases iE H with ⟨c1844,H⟩ | ⟨c1844,H⟩
     ·
      refine rG (fL b1839 0 Dp Z (lB 0 HS Z na2 Z (pS 2 Z (kN 83 Z (tT c1844) (oF Z (oF Z (oF Z (pS 2 Z (oF Z (oF Z (oF Z (GO.Iz Z Z Z Z Z (nL (rN 4 Z ?_))))))))))))))
      exact gW (i1 h1 (lR _) _ _ _ _ _ _ _ H (HS.pk 5 [1,2,3,4] Z)) Z
     rcases iE H with ⟨c1845,H⟩ | ⟨c1845,H⟩
     ·
      refine rG (fL b1839 0 Dp Z (lB 0 HS Z na2 Z (pS 2 Z (kN 83 Z (tF c1844) (oN Z (mV Z (bK (oN Z (mV Z (bK (oN Z (GO.eql Z Z Z Z (bK (pS 2 Z ?_))))))))))))))
      refine kN 88 Z (tT c1845) (oF Z (oF Z (oF Z (GO.Iz Z Z Z Z Z (nL (rN 4 Z (gW (i1 h1 (lR _) _ _ _ _ _ _ _ H (HS.pk 5 [1,2,3,4] Z)) Z)))))))
     refine rG (fL b1839 0 Dp Z (lB 0 HS Z na2 Z (pS 2 Z (kN 83 Z (tF c1844) (oN Z (mV Z (bK (oN Z (mV Z (bK (oN Z (GO.eql Z Z Z Z (bK (pS 2 Z ?_))))))))))))))
     refine kN 88 Z (tF c1845) (oN Z (mV Z (bK (oN Z (mV Z (bK (oN Z (GO.eql Z Z Z Z (bK (GO.Jm Z Z Z Z Z (nL ?_)))))))))))
     rcases iE H with ⟨c1846,H⟩ | ⟨c1846,H⟩
     ·
      refine yB Z (tT c1846) (rN 3 Z (gW (i1 h1 (lR _) _ _ _ _ _ _ _ H (HS.pk 5 [1,2,3,4] Z)) Z))
     refine nB Z (tF c1846) (rN 2 Z ?_)
     obtain ⟨t1847,h1848,H⟩:=bI H
     obtain ⟨t1851,h1852,H⟩:=bI H
     refine G.H8 mixed (fun w=>St w0 w (Box b1839 107 [I e1837.Tet,I e1837.Perm]::L)) [1,5] [0,2,4,6,1,5,3,7,8,9] [] (by kernel_rfl) (by kernel_rfl) (HS.drew.pk 5 [0] Z) ?_
     replace HS:=HS.drew
     refine qL Z Z (fun _ _ g=>fL b1839 1 Gn Z g) Z (GX.ps 1 Z (qL Z Z (fun _ _ g=>fL b1839 1 Gn Z g) Z (GX.ps 1 Z (GX.ls Z Z Z (HS.pk 5 [0] Z) (fun _ HS _ g=>lB 0 HS Z na2 Z g) Z (GX.ls Z Z Z (HS.pk 5 [0] Z) (fun _ HS _ g=>lB 0 HS Z na2 Z g) Z (GX.l2 Z (fJ Jt Z (Bq.calls HS  h1848) (fun _ wd1849 ⟨h1850,HS⟩=>⟨_,h1850,(GX.fin (HS.pk 5 [0] Z) (GX.l2 Z (fJ Jt Z (Bq.calls HS  h1852) (fun _ wd1853 ⟨h1854,HS⟩=>⟨_,h1854,(GX.fin (HS.pk 5 [0] Z) (GX.ps 2 Z (GX.nil (sQ ?_))))⟩))))⟩))))))))
     obtain ⟨t1855,h1856,H⟩:=bI H
     refine G.H8 mixed (fun w=>St w0 w (Box b1839 107 [I e1837.Tet,I e1837.Perm]::L)) [1] [0,3,4,1,2,5,6,7] [] (by kernel_rfl) (by kernel_rfl) (HS.drew.pk 5 [0] Z) ?_
     replace HS:=HS.drew
     refine qL Z Z (fun _ _ g=>fL b1839 0 Dp Z g) Z (GX.ps 2 Z (GX.ls Z Z Z (HS.pk 5 [0] Z) (fun _ HS _ g=>lB 0 HS Z na2 Z g) Z (GX.ps 1 Z (GX.l2 Z (fJ Z4 Z (E8.calls HS  h1856) (fun _ wd1857 ⟨h1858,HS⟩=>⟨_,h1858,(GX.fin (HS.pk 5 [0] Z) (GX.ps 2 Z (GX.nil (sQ ?_))))⟩))))))
     obtain ⟨c1859,H⟩:=iN H
     obtain ⟨c1860,H⟩:=iN H
     refine rG (pS 3 Z (iX Z U56 sz2 (rk (ro 4 Z) HS) c1859 (GO.Cj (T:=(Ar .i64)) (n:=x1532.toNat) (o:=0) HS (ro 4 Z) Z Z (getD_some (d:=0) (ltN c1859)) Z Z na2 Z (iX Z U56 sz2 (fun _=>⟨_,_,Z⟩) c1860 (GO.Cj (T:=(Ar .i64)) (n:=(x1778.getD x1532.toNat 0).toNat) (o:=0) HS (ro 2 Z) Z Z (getD_some (d:=0) (ltN c1860)) Z Z na2 Z (aS Z (nL (rN 3 Z ?_))))))))
     refine G.Ov (fun n3 p3=>?_)
     have t1:∀ a2,a2≤h1→∀ (x1862:Int) (w:World),Ao.j79 K a2 d1 t3 a1 c1 x1530 x1532 t1719 t1720 f1 x1778 x1779 x1780 e1837 t1855 x1862=some r1→St w0 w (Box b1 31 [sV A_a d1 c_a]::Own (Ar .i64) 2 (sb b9) ((w64 (6 * t3)).toNat) uu f1::Own Hz 4 (sb b12) ((w64 (6 * t3)).toNat) uu a1::Own (Ar .i64) 2 A1776 c1777 uu x1778::L)→G prog 133 189 [(1,pT b1),(3,I t3),(4,sV (sb b9) f1 ((w64 (6 * t3)).toNat)),(5,sV (sb b12) a1 ((w64 (6 * t3)).toNat)),(6,I c1),(7,sV A1776 x1778 c1777),(8,.bool x1779),(9,I x1532),(10,I (w64 ((x1530.getD x1532.toNat 0).tdiv 6))),(11,I t1719),(12,I t1720),(13,I x1780),(17,I (w64 ((w64 (6 * e1837.Tet))+t1855))),(18,I x1862),(84,I x1780),(85,I t1719),(86,.bool (decide (x1780=t1719))),(89,I x1780),(90,I t1720),(91,.bool (decide (x1780=t1720)))] n3 w (Ao.post w0 L r1):=by
      refine jp (fun _ w H _=>by rw [Ao.j79] at H; cases H) fun p1 u1 x1862 w H HS=>?_
      rw [Ao.j79] at H
      subst p3
      refine rN 2 Z ?_
      obtain ⟨c1863,H⟩:=iN H
      refine rG (pS 2 Z (iX Z U56 sz2 (fun _=>⟨_,_,Z⟩) c1863 (GO.Cj (T:=(Ar .i64)) (n:=(w64 ((w64 (6 * e1837.Tet))+t1855)).toNat) (o:=0) HS (ro 1 Z) Z Z (getD_some (d:=0) (ltN c1863)) Z Z na2 Z (GO.eql Z Z Z Z (nL ?_)))))
      refine G.Ov (fun q3 h3=>?_)
      have x1:∀ f2,f2≤p1→∀ (n1:List Int) (A1873:Option Addr) (c1874:Nat) (x1875:List Int) (w:World),Ao.j80 K f2 d1 t3 a1 c1 x1530 x1532 t1719 t1720 x1779 x1780 e1837 t1855 x1862 n1 x1875=some r1→St w0 w (Box b1 31 [sV A_a d1 c_a]::Own (Ar .i64) 2 (sb b9) ((w64 (6 * t3)).toNat) uu n1::Own Hz 4 (sb b12) ((w64 (6 * t3)).toNat) uu a1::Own (Ar .i64) 2 A1873 c1874 uu x1875::L)→G prog 133 189 [(1,pT b1),(3,I t3),(4,sV (sb b9) n1 ((w64 (6 * t3)).toNat)),(5,sV (sb b12) a1 ((w64 (6 * t3)).toNat)),(6,I c1),(7,sV A1873 x1875 c1874),(8,.bool x1779),(9,I x1532),(10,I (w64 ((x1530.getD x1532.toNat 0).tdiv 6))),(11,I t1719),(12,I t1720),(13,I x1780),(17,I (w64 ((w64 (6 * e1837.Tet))+t1855))),(18,I x1862),(84,I x1780),(85,I t1719),(86,.bool (decide (x1780=t1719))),(89,I x1780),(90,I t1720),(91,.bool (decide (x1780=t1720)))] q3 w (Ao.post w0 L r1):=by
       refine jp (fun _ _ _ _ w H _=>by rw [Ao.j80] at H; cases H) fun h2 i2 n1 A1873 c1874 x1875 w H HS=>?_
       rw [Ao.j80] at H
       subst h3
       rcases iE H with ⟨c1876,H⟩ | ⟨c1876,H⟩
       ·
        refine rG (pS 2 Z (kN 134 Z c1876 (oF Z (oF Z (oF Z (oF Z (oF Z (oF Z (pS 2 Z (nL (rN 3 Z (gW (i1 h2 (Nat.le_trans (Nat.le_of_succ_le i2) (Nat.le_of_succ_le u1)) _ _ _ _ _ _ _ H HS) Z))))))))))))
       obtain ⟨c1877,H⟩:=iN H
       refine rG (pS 2 Z (kN 134 Z (Db c1876) (oN Z (mV Z (bK (oN Z (mV Z (bK (oN Z (iX Z U56 sz2 (fun _=>⟨_,_,Z⟩) c1877 (bK (oN Z (GO.Cj (T:=(Ar .i64)) (n:=(w64 ((w64 (6 * e1837.Tet))+t1855)).toNat) (o:=0) HS (ro 1 Z) Z Z (getD_some (d:=0) (ltN c1877)) Z Z na2 Z (bK ?_))))))))))))))
       refine oN Z (mV Z (bK (oN Z (GO.neq Z Z Z Z (bK (pS 2 Z (nL (rN 3 Z (gW (i1 h2 (Nat.le_trans (Nat.le_of_succ_le i2) (Nat.le_of_succ_le u1)) _ _ _ _ _ _ _ H HS) Z)))))))))
      rcases iS H with ⟨c1878,H⟩ | ⟨c1878,H⟩
      ·
       refine nB Z (tF c1878) (G.skip (gW (x1 p1 (lR _) _ _ _ _ _ H HS) Z))
      refine yB Z (tT c1878) (sQ (rG (pS 3 Z (iX Z U56 sz2 (fun _=>⟨_,_,Z⟩) c1863 (GO.Ii (T:=(Ar .i64)) (j:=1) (n:=(w64 ((w64 (6 * e1837.Tet))+t1855)).toNat) (o:=0) (vs:=[I x1862]) x1862 HS Z Ba Z Z Z Z (htN na2 Z) Z (getD_some (d:=0) (ltN c1863)) Z Z fun wd1879 HS=>nL (G.len (t:=4) (m:=(f1.set ((w64 ((w64 (6 * e1837.Tet))+t1855)).toNat) x1862).length) Z (by simp only [List.length_set] <;> rfl) ?_))))))
      obtain ⟨c1885,H⟩:=iN H
      refine rG (pS 2 Z (GO.Cw (el:=2) ([I (w64 ((w64 (6 * e1837.Tet))+t1855))]) HS Z Z (fun _=>by kernel_rfl) Z fun b1880 wd1881 HS=>GO.app1 (T:=(Ar .i64)) (j:=4) (jb:=0) (w64 ((w64 (6 * e1837.Tet))+t1855)) HS Z Z Ba Z Z Z U56 Ml Z Z Z c1885 Z fun A1883 c1884 wd1882 HS=>aS Z (nL (gW (x1 p1 (lR _) _ _ _ _ _ H (HS.pk 5 [1,2,3,4] Z)) Z))))
     rcases iS H with ⟨c1886,H⟩ | ⟨c1886,H⟩
     ·
      refine nB Z (tF c1886) (G.skip (gW (t1 h1 (lR _) _ _ H (HS.pk 5 [1,2,3,4] Z)) Z))
     refine yB Z (tT c1886) (rG (mV Z (GO.neg Z Z Z (aS Z (nL (gW (t1 h1 (lR _) _ _ H (HS.pk 5 [1,2,3,4] Z)) Z))))))
    exact gW (d3 o1 (lR _) _ _ _ _ _ _ _ H HS) Z
   exact gW (a3 m1 (lR _) _ _ _ _ _ _ _ H (HS.pk 4 [1,2,3,0] Z)) Z
  exact gW (o3 K (lR _) _ _ _ _ H (HS.pk 3 [2,1,0] Z)) Z
theorem Eb.calls {list:List Int} {n_:Int} {r1:Bool} (HS:St w0 w (L)) (r_a:Ce w0 L (Ar .i64) A_a c_a uu list) (H:Eb.f K list n_=some r1) :
    Calls prog 80 #[sV A_a list c_a,I n_] w (Eb.post w0 L r1):=by
  unfold Eb.f at H
  refine cG func80 Z ?_
  refine rN 7 Z ?_
  refine G.name (fun e1 c1=>?_)
  have d1:∀ a1,a1≤K→∀ (i_4:Int) (w:World),Eb.l1 K a1 list n_ i_4=some r1→St w0 w (L)→G prog 80 18 [(0,sV A_a list c_a),(1,I n_),(5,I i_4)] e1 w (Eb.post w0 L r1):=by
   refine lp (fun _ w H _=>by rw [Eb.l1] at H; cases H) fun b1 g1 f1 i_4 w H HS=>?_
   rw [Eb.l1] at H
   subst c1
   refine rN 2 Z (rG (pS 2 Z (lS Z Z U56 Z (GO.lss Z Z Z Z (nL ?_)))))
   rcases iS H with ⟨c8,H⟩ | ⟨c8,H⟩
   ·
    refine nB Z (tF c8) (rN 3 Z ?_)
    obtain rfl:=sI H
    exact rT _ func80 Z Z ⟨Z,HS⟩
   refine yB Z (tT c8) (rN 4 Z ?_)
   obtain ⟨c9,H⟩:=iN H
   refine rG (pS 2 Z (iX Z U56 sz2 (rk r_a HS) c9 (GO.Cj (T:=(Ar .i64)) (n:=i_4.toNat) (o:=0) HS r_a Z Z (getD_some (d:=0) (ltN c9)) Z Z na2 Z (pS 2 Z (nL ?_)))))
   rcases iE H with ⟨c10,H⟩ | ⟨c10,H⟩
   ·
    refine yB Z (tT c10) (rN 2 Z ?_)
    obtain rfl:=sI H
    exact rT _ func80 Z Z ⟨Z,HS⟩
   refine nB Z (tF c10) (rN 4 Z (gW (f1 b1 (lR _) _ _ H HS) Z))
  exact gW (d1 K (lR _) _ _ H HS) Z
theorem Dj.calls {e1:List (List Ab)} {a1:Int} {y_a:Nat→(Ty.slice 107 Ad).Lay} {r1 r2:Int} (HS:St w0 w (L)) (r_a:Ce w0 L (Ty.slice 107 Ad) A_a c_a y_a e1) (H:Dj.f K e1 a1=some (r1,r2)) :
    Calls prog 166 #[.agg [sV A_a e1 c_a].toArray,I a1] w (Dj.post w0 L r1 r2):=by
  unfold Dj.f at H
  refine cG func166 Z ?_
  refine sQ (rG (bA HS Z fun b1 wd2 HS=>pS 2 Z (nL (sQ ?_))))
  obtain ⟨t3,t4,t5,t6,h7,H⟩:=D8 H
  refine rG (lW 0 HS Z Dq (fJ Ym Z (Bf.calls HS (rD 1 r_a) h7) (fun _ wd19 ⟨A8,c9,y10,A11,c12,y13,A14,c15,y16,A17,c18,h20,HS⟩=>⟨_,h20,(pS 3 Z (GO.alloc HS Z Ue Z Z fun b21 wd22 HS=>sW 0 HS Z Pm Z fun wd23 HS=>aS Z (nL (rN 5 Z ?_))))⟩)))
  refine G.name (fun t1 o1=>?_)
  have s1:∀ h1,h1≤K→∀ (c1:Int) (w:World),Dj.l1 K h1 a1 t4 c1=some (r1,r2)→St w0 w (Box b21 111 [sV A8 t3 c9,sV A11 t4 c12,sV A14 t5 c15]::Own (Ty.slice 2 (Ar .i64)) 56 A8 c9 y10 t3::Own (Ty.slice 2 (Ar .i64)) 56 A11 c12 y13 t4::Own (Ty.slice 2 (Ar .i64)) 56 A14 c15 y16 t5::L)→G prog 166 38 [(1,I a1),(6,pT b21),(8,I c1)] t1 w (Dj.post w0 L r1 r2):=by
   refine lp (fun _ w H _=>by rw [Dj.l1] at H; cases H) fun f1 v1 u1 c1 w H HS=>?_
   rw [Dj.l1] at H
   subst o1
   refine rN 2 Z (rG (mV Z (fL b21 1 Lj Z (lB 0 HS Z Lx Z (lS Z Z M8 Z (GO.lss Z Z Z Z (nL ?_)))))))
   rcases iS H with ⟨c51,H⟩ | ⟨c51,H⟩
   ·
    refine nB Z (tF c51) (rN 3 Z ?_)
    obtain ⟨rfl,rfl⟩:=H9 H
    exact G.Hy _ _ func166 Z Z Z ⟨Z,(HS.pk 4 [] Z)⟩
   refine yB Z (tT c51) (rN 7 Z ?_)
   refine G.name (fun p1 q1=>?_)
   have k1:∀ i1,i1≤f1→∀ (d1:Int) (w:World),Dj.l4 K i1 a1 t4 c1 d1=some (r1,r2)→St w0 w (Box b21 111 [sV A8 t3 c9,sV A11 t4 c12,sV A14 t5 c15]::Own (Ty.slice 2 (Ar .i64)) 56 A8 c9 y10 t3::Own (Ty.slice 2 (Ar .i64)) 56 A11 c12 y13 t4::Own (Ty.slice 2 (Ar .i64)) 56 A14 c15 y16 t5::L)→G prog 166 38 [(1,I a1),(6,pT b21),(8,I c1),(9,I d1)] p1 w (Dj.post w0 L r1 r2):=by
    refine lp (fun _ w H _=>by rw [Dj.l4] at H; cases H) fun g1 m1 n1 d1 w H HS=>?_
    rw [Dj.l4] at H
    subst q1
    refine rN 3 Z ?_
    rcases iS H with ⟨c60,H⟩ | ⟨c60,H⟩
    ·
     refine nB Z (tF c60) (rN 4 Z (gW (u1 g1 (Nat.le_of_succ_le m1) _ _ H HS) Z))
    refine yB Z (tT c60) (rN 4 Z ?_)
    obtain ⟨c61,H⟩:=iN H
    obtain ⟨c62,H⟩:=iN H
    refine rG (fL b21 1 Lj Z (lB 0 HS Z Lx Z (mV Z (iX Z M8 Pp (rk (ro 2 Z) HS) c61 (GO.Cj (T:=(Ty.slice 2 (Ar .i64))) (n:=c1.toNat) (o:=0) HS (ro 2 Z) Z Z (getD_some (d:=[]) (ltN c61)) Z Z Ih Z (mV Z (GO.ix Z Z Z U56 sz2 ((Ce.elem (ro 2 Z) c61.1 c61.2) _ HS).2.2.1 c62.1 c62.2 Z (GO.Cj (T:=(Ar .i64)) (n:=d1.toNat) (o:=0) HS (Ce.elem (ro 2 Z) c61.1 c61.2) Z Z (getD_some (d:=0) (ltN c62)) Z Z na2 Z (pS 2 Z (nL ?_))))))))))
    rcases iS H with ⟨c63,H⟩ | ⟨c63,H⟩
    ·
     refine nB Z (tF c63) (rN 4 Z (gW (n1 g1 (lR _) _ _ H HS) Z))
    refine yB Z (tT c63) (rN 2 Z ?_)
    obtain ⟨rfl,rfl⟩:=H9 H
    exact G.Hy _ _ func166 Z Z Z ⟨Z,(HS.pk 4 [] Z)⟩
   exact gW (k1 f1 (lR _) _ _ H HS) Z
  exact gW (s1 K (lR _) _ _ H (HS.pk 6 [0,1,2,3] Z)) Z
theorem Ck.calls {b1 to:List Int} {r1:Int} {r2:Bool} (HS:St w0 w (L)) (r_a:Ce w0 L (Ar .i64) A_a c_a uu b1) (r_b:Ce w0 L (Ar .i64) A_b c_b uu to) (H:Ck.f K b1 to=some (r1,r2)) :
    Calls prog 167 #[sV A_a b1 c_a,sV A_b to c_b] w (Ck.post w0 L r1 r2):=by
  unfold Ck.f at H
  refine cG func167 Z ?_
  refine rN 4 Z (rG (mV Z (lS Z Z U56 Z (mV Z (lS Z Z U56 Z (GO.neq Z Z Z Z (nL ?_)))))))
  rcases iS H with ⟨c1,H⟩ | ⟨c1,H⟩
  ·
   refine yB Z (nF c1) (rN 2 Z ?_)
   obtain ⟨rfl,rfl⟩:=H9 H
   exact G.Hy _ _ func167 Z Z Z ⟨Z,HS⟩
  refine nB Z (nT c1) (rN 6 Z ?_)
  refine G.name (fun q1 z1=>?_)
  have a2:∀ k1,k1≤K→∀ (a1:Int) (w:World),Ck.l1 K k1 b1 to a1=some (r1,r2)→St w0 w (L)→G prog 167 73 [(0,sV A_a b1 c_a),(1,sV A_b to c_b),(6,I a1)] q1 w (Ck.post w0 L r1 r2):=by
   refine lp (fun _ w H _=>by rw [Ck.l1] at H; cases H) fun g1 e2 c2 a1 w H HS=>?_
   rw [Ck.l1] at H
   subst z1
   refine rN 2 Z (rG (pS 2 Z (lS Z Z U56 Z (GO.lss Z Z Z Z (nL ?_)))))
   rcases iS H with ⟨c111,H⟩ | ⟨c111,H⟩
   ·
    refine nB Z (tF c111) (rN 6 Z ?_)
    refine G.name (fun x1 y1=>?_)
    have v1:∀ o1,o1≤g1→∀ (d1:Int) (w:World),Ck.l9 K o1 b1 to d1=some (r1,r2)→St w0 w (L)→G prog 167 73 [(0,sV A_a b1 c_a),(1,sV A_b to c_b),(7,I d1)] x1 w (Ck.post w0 L r1 r2):=by
     refine lp (fun _ w H _=>by rw [Ck.l9] at H; cases H) fun n1 d2 u1 d1 w H HS=>?_
     rw [Ck.l9] at H
     subst y1
     refine rN 3 Z ?_
     rcases iS H with ⟨c179,H⟩ | ⟨c179,H⟩
     ·
      refine nB Z (tF c179) (rN 3 Z ?_)
      obtain ⟨rfl,rfl⟩:=H9 H
      exact G.Hy _ _ func167 Z Z Z ⟨Z,HS⟩
     refine yB Z (tT c179) (rN 10 Z ?_)
     refine G.name (fun p1 b2=>?_)
     have s1:∀ m1,m1≤n1→∀ (f1:Bool) (e1:Int) (w:World),Ck.l12 K m1 b1 to d1 f1 e1=some (r1,r2)→St w0 w (L)→G prog 167 73 [(0,sV A_a b1 c_a),(1,sV A_b to c_b),(7,I d1),(8,.bool f1),(9,I e1)] p1 w (Ck.post w0 L r1 r2):=by
      refine lp (fun _ _ w H _=>by rw [Ck.l12] at H; cases H) fun h1 t1 i1 f1 e1 w H HS=>?_
      rw [Ck.l12] at H
      subst b2
      refine rN 2 Z (rG (pS 2 Z (lS Z Z U56 Z (GO.lss Z Z Z Z (nL ?_)))))
      rcases iS H with ⟨c198,H⟩ | ⟨c198,H⟩
      ·
       refine nB Z (tF c198) (rN 3 Z ?_)
       rcases iE H with ⟨c206,H⟩ | ⟨c206,H⟩
       ·
        refine yB Z c206 (rN 2 Z ?_)
        obtain ⟨rfl,rfl⟩:=H9 H
        exact G.Hy _ _ func167 Z Z Z ⟨Z,HS⟩
       refine nB Z (Db c206) (rN 4 Z (gW (u1 h1 (Nat.le_of_succ_le t1) _ _ H HS) Z))
      refine yB Z (tT c198) (rN 3 Z ?_)
      rcases iS H with ⟨c199,H⟩ | ⟨c199,H⟩
      ·
       refine G.H8 mixed (fun w=>St w0 w (L)) [6,11] [0,1,2,3,4,5,8,9,10,6,11,7,12,13,14] [] (by kernel_rfl) (by kernel_rfl) HS.drew ?_
       replace HS:=HS.drew
       refine GX.ps 1 Z (qL Z Z (fun _ _ g=>mV Z (kN 58 Z (Db c199) g)) Z (qL Z Z (fun _ _ g=>oF Z g) Z (qL Z Z (fun _ _ g=>oF Z g) Z (qL Z Z (fun _ _ g=>oF Z g) Z (qL Z Z (fun _ _ g=>oF Z g) Z (qL Z Z (fun _ _ g=>oF Z g) Z (qL Z Z (fun _ _ g=>oF Z g) Z (qL Z Z (fun _ _ g=>oF Z g) Z (GX.ls Z Z Z HS (fun _ HS _ g=>oF Z g) Z (GX.ls Z Z Z HS (fun _ HS _ g=>oF Z g) Z (GX.l2 Z (oF Z (GX.fin HS (qL Z Z (fun _ _ g=>oF Z g) Z ?_))))))))))))))
       refine GX.ps 2 Z (GX.nil (rN 3 Z (gW (i1 h1 (lR _) _ _ _ H HS) Z)))
      obtain ⟨c200,H⟩:=iN H
      obtain ⟨t201,h202,H⟩:=bI H
      obtain ⟨c205,H⟩:=iN H
      refine G.H8 mixed (fun w=>St w0 w (L)) [6,11] [0,1,2,3,4,5,8,9,10,6,11,7,12,13,14] [] (by kernel_rfl) (by kernel_rfl) HS.drew ?_
      replace HS:=HS.drew
      refine GX.ps 1 Z (qL Z Z (fun _ _ g=>mV Z (kN 58 Z c199 g)) Z (qL Z Z (fun _ _ g=>oN Z (mV Z (bK g))) Z (qL Z Z (fun _ _ g=>oN Z (mV Z (bK g))) Z (qL Z Z (fun _ _ g=>oN Z (mV Z (bK g))) Z (qL Z Z (fun _ _ g=>oN Z (iX Z U56 sz2 (rk r_a HS) c200 (bK g))) Z (qL Z Z (fun _ _ g=>oN Z (mV Z (bK g))) Z (qL Z Z (fun _ _ g=>oN Z (mV Z (bK g))) Z (qL Z Z (fun _ _ g=>oN Z (iX Z U56 sz2 (rk r_b HS) c205 (bK g))) Z (GX.ls Z Z Z HS (fun _ HS _ g=>oN Z (GO.Cj (T:=(Ar .i64)) (n:=e1.toNat) (o:=0) HS r_a Z Z (getD_some (d:=0) (ltN c200)) Z Z na2 Z (bK g))) Z (GX.ls Z Z Z HS (fun _ HS _ g=>oN Z (GO.Cj (T:=(Ar .i64)) (n:=e1.toNat) (o:=0) HS r_b Z Z (getD_some (d:=0) (ltN c205)) Z Z na2 Z (bK g))) Z (GX.l2 Z (oN Z (fJ Jt Z (Bq.calls HS  h202) (fun _ wd203 ⟨h204,HS⟩=>⟨_,h204,(bK ?_)⟩))))))))))))))
      refine GX.fin HS (qL Z Z (fun _ _ g=>oN Z (GO.eql Z Z Z Z (bK g))) Z (GX.ps 2 Z (GX.nil (rN 3 Z (gW (i1 h1 (lR _) _ _ _ H HS) Z)))))
     exact gW (s1 n1 (lR _) _ _ _ H HS) Z
    exact gW (v1 g1 (lR _) _ _ H HS) Z
   refine yB Z (tT c111) (rN 4 Z ?_)
   obtain ⟨c117,H⟩:=iN H
   rcases iE H with ⟨c118,H⟩ | ⟨c118,H⟩
   ·
    refine rG (pS 2 Z (iX Z U56 sz2 (rk r_a HS) c117 (GO.Cj (T:=(Ar .i64)) (n:=a1.toNat) (o:=0) HS r_a Z Z (getD_some (d:=0) (ltN c117)) Z Z na2 Z (pS 2 Z (kN 26 Z (tT c118) (oF Z (oF Z (oF Z (oF Z (oF Z (pS 2 Z (oF Z (oF Z (oF Z ?_))))))))))))))
    refine oF Z (oF Z (pS 2 Z (oF Z (oF Z (oF Z (oF Z (oF Z (GO.Iz Z Z Z Z Z (nL (rN 3 Z ?_))))))))))
    obtain ⟨rfl,rfl⟩:=H9 H
    exact G.Hy _ _ func167 Z Z Z ⟨Z,HS⟩
   rcases iE H with ⟨c119,H⟩ | ⟨c119,H⟩
   ·
    refine rG (pS 2 Z (iX Z U56 sz2 (rk r_a HS) c117 (GO.Cj (T:=(Ar .i64)) (n:=a1.toNat) (o:=0) HS r_a Z Z (getD_some (d:=0) (ltN c117)) Z Z na2 Z (pS 2 Z (kN 26 Z (tF c118) (oN Z (mV Z (bK (oN Z (mV Z (bK (oN Z (iX Z U56 sz2 (rk r_a HS) c117 (bK ?_))))))))))))))
    refine oN Z (GO.Cj (T:=(Ar .i64)) (n:=a1.toNat) (o:=0) HS r_a Z Z (getD_some (d:=0) (ltN c117)) Z Z na2 Z (bK (oN Z (GO.gtr Z Z Z Z (bK (pS 2 Z (kN 33 Z (tT c119) (oF Z (oF Z (oF Z (oF Z (oF Z (pS 2 Z (oF Z ?_))))))))))))))
    refine oF Z (oF Z (oF Z (oF Z (GO.Iz Z Z Z Z Z (nL (rN 3 Z ?_))))))
    obtain ⟨rfl,rfl⟩:=H9 H
    exact G.Hy _ _ func167 Z Z Z ⟨Z,HS⟩
   obtain ⟨c120,H⟩:=iN H
   rcases iE H with ⟨c121,H⟩ | ⟨c121,H⟩
   ·
    refine rG (pS 2 Z (iX Z U56 sz2 (rk r_a HS) c117 (GO.Cj (T:=(Ar .i64)) (n:=a1.toNat) (o:=0) HS r_a Z Z (getD_some (d:=0) (ltN c117)) Z Z na2 Z (pS 2 Z (kN 26 Z (tF c118) (oN Z (mV Z (bK (oN Z (mV Z (bK (oN Z (iX Z U56 sz2 (rk r_a HS) c117 (bK ?_))))))))))))))
    refine oN Z (GO.Cj (T:=(Ar .i64)) (n:=a1.toNat) (o:=0) HS r_a Z Z (getD_some (d:=0) (ltN c117)) Z Z na2 Z (bK (oN Z (GO.gtr Z Z Z Z (bK (pS 2 Z (kN 33 Z (tF c119) (oN Z (mV Z (bK (oN Z (mV Z (bK (oN Z ?_))))))))))))))
    refine iX Z U56 sz2 (rk r_b HS) c120 (bK (oN Z (GO.Cj (T:=(Ar .i64)) (n:=a1.toNat) (o:=0) HS r_b Z Z (getD_some (d:=0) (ltN c120)) Z Z na2 Z (bK (oN Z (GO.lss Z Z Z Z (bK (pS 2 Z (kN 40 Z (tT c121) (oF Z (oF Z (oF Z (oF Z (oF Z ?_))))))))))))))
    refine GO.Iz Z Z Z Z Z (nL (rN 3 Z ?_))
    obtain ⟨rfl,rfl⟩:=H9 H
    exact G.Hy _ _ func167 Z Z Z ⟨Z,HS⟩
   refine rG (pS 2 Z (iX Z U56 sz2 (rk r_a HS) c117 (GO.Cj (T:=(Ar .i64)) (n:=a1.toNat) (o:=0) HS r_a Z Z (getD_some (d:=0) (ltN c117)) Z Z na2 Z (pS 2 Z (kN 26 Z (tF c118) (oN Z (mV Z (bK (oN Z (mV Z (bK (oN Z (iX Z U56 sz2 (rk r_a HS) c117 (bK ?_))))))))))))))
   refine oN Z (GO.Cj (T:=(Ar .i64)) (n:=a1.toNat) (o:=0) HS r_a Z Z (getD_some (d:=0) (ltN c117)) Z Z na2 Z (bK (oN Z (GO.gtr Z Z Z Z (bK (pS 2 Z (kN 33 Z (tF c119) (oN Z (mV Z (bK (oN Z (mV Z (bK (oN Z ?_))))))))))))))
   refine iX Z U56 sz2 (rk r_b HS) c120 (bK (oN Z (GO.Cj (T:=(Ar .i64)) (n:=a1.toNat) (o:=0) HS r_b Z Z (getD_some (d:=0) (ltN c120)) Z Z na2 Z (bK (oN Z (GO.lss Z Z Z Z (bK (pS 2 Z (kN 40 Z (tF c121) (oN Z (mV Z (bK (oN Z (mV Z ?_))))))))))))))
   refine bK (oN Z (iX Z U56 sz2 (rk r_b HS) c120 (bK (oN Z (GO.Cj (T:=(Ar .i64)) (n:=a1.toNat) (o:=0) HS r_b Z Z (getD_some (d:=0) (ltN c120)) Z Z na2 Z (bK (oN Z (GO.gtr Z Z Z Z (bK (GO.Jm Z Z Z Z Z (nL ?_)))))))))))
   rcases iE H with ⟨c122,H⟩ | ⟨c122,H⟩
   ·
    refine yB Z (tT c122) (rN 2 Z ?_)
    obtain ⟨rfl,rfl⟩:=H9 H
    exact G.Hy _ _ func167 Z Z Z ⟨Z,HS⟩
   refine nB Z (tF c122) (rN 4 Z (gW (c2 g1 (lR _) _ _ H HS) Z))
  exact gW (a2 K (lR _) _ _ H HS) Z
theorem De.calls {c1:List (List Ab)} {d1:Int} {y_a:Nat→(Ty.slice 107 Ad).Lay} {r1 r2:Int} (HS:St w0 w (L)) (r_a:Ce w0 L (Ty.slice 107 Ad) A_a c_a y_a c1) (H:De.f K c1 d1=some (r1,r2)) :
    Calls prog 156 #[.agg [sV A_a c1 c_a].toArray,I d1] w (De.post w0 L r1 r2):=by
  unfold De.f at H
  refine cG func156 Z ?_
  refine sQ (rG (bA HS Z fun b1 wd2 HS=>GO.alloc HS Z Pk Z Z fun b3 wd4 HS=>nL (sQ ?_)))
  obtain ⟨t5,t6,t7,t8,h9,H⟩:=D8 H
  refine rG (lW 1 HS Z Dq (fJ Ym Z (Bf.calls HS (rD 2 r_a) h9) (fun _ wd21 ⟨A10,c11,y12,A13,c14,y15,A16,c17,y18,A19,c20,h22,HS⟩=>⟨_,h22,(pS 3 Z (GO.alloc HS Z Ue Z Z fun b23 wd24 HS=>sW 0 HS Z Pm Z fun wd25 HS=>aS Z (nL (rN 5 Z ?_))))⟩)))
  refine G.name (fun t1 o1=>?_)
  have q1:∀ i1,i1≤K→∀ (a1:Int) (w:World),De.l1 K i1 c1 d1 t6 a1=some (r1,r2)→St w0 w (Box b1 31 [sV A_a c1 c_a]::Box b3 167 [I 0,I 0]::Box b23 111 [sV A10 t5 c11,sV A13 t6 c14,sV A16 t7 c17]::Own (Ty.slice 2 (Ar .i64)) 56 A10 c11 y12 t5::Own (Ty.slice 2 (Ar .i64)) 56 A13 c14 y15 t6::Own (Ty.slice 2 (Ar .i64)) 56 A16 c17 y18 t7::L)→G prog 156 84 [(1,I d1),(2,pT b1),(4,pT b3),(5,pT b23),(7,I a1)] t1 w (De.post w0 L r1 r2):=by
   refine lp (fun _ w H _=>by rw [De.l1] at H; cases H) fun h1 v1 u1 a1 w H HS=>?_
   rw [De.l1] at H
   subst o1
   refine rN 2 Z ?_
   obtain ⟨t305,h306,H⟩:=bI H
   refine rG (mV Z (lW 0 HS Z Dq (fJ Og Z (Cs.calls HS (rD 6 r_a) h306) (fun _ wd307 ⟨h308,HS⟩=>⟨_,h308,(GO.lss Z Z Z Z (nL ?_))⟩))))
   rcases iS H with ⟨c309,H⟩ | ⟨c309,H⟩
   ·
    refine nB Z (tF c309) (rN 2 Z ?_)
    obtain ⟨t424,t425,h426,H⟩:=Ea H
    refine rG (lW 0 HS Z Dq (mV Z (fJ sH Z (Dj.calls HS (rD 6 r_a) h426) (fun _ wd427 ⟨h428,HS⟩=>⟨_,h428,(pS 5 Z (nL (sQ ?_)))⟩))))
    obtain ⟨t429,t430,h431,H⟩:=Ea H
    refine rG (mV Z (fJ Tg Z (Gs.calls HS  h431) (fun _ wd432 ⟨h433,HS⟩=>⟨_,h433,(pS 5 Z (nL (sQ ?_)))⟩)))
    obtain ⟨t438,t439,h440,H⟩:=Ea H
    refine rG (GO.Cw (el:=2) ([I 0,I 1]) HS Z Z (fun _=>by kernel_rfl) Z fun b434 wd435 HS=>pS 2 Z (GO.Cw (el:=2) ([I t429,I t430]) HS Z Z (fun _=>by kernel_rfl) Z fun b436 wd437 HS=>?_))
    replace HS:=HS.Fq (T:=(Ar .i64)) (j:=1) Z Ba uu ([0,1]:List Int) Z (Il Z)
    refine GO.H7 (t:=74) (m:=([0,1]:List Int).length) (c':=([0,1]:List Int).length) Z Z Z ?_
    replace HS:=HS.Fq (T:=(Ar .i64)) (j:=0) Z Ba uu ([t429,t430]:List Int) Z (Il Z)
    refine GO.H7 (t:=77) (m:=([t429,t430]:List Int).length) (c':=([t429,t430]:List Int).length) Z Z Z (fJ rQ Z (Ck.calls HS (ro 1 Z) (ro 0 Z) h440) (fun _ wd441 ⟨h442,HS⟩=>⟨_,h442,(pS 5 Z (nL (sQ (rG (pS 2 Z (GO.Dr (.agg [I t424,I t438].toArray) Z Z (fun _=>by kernel_rfl) Z (sW 3 HS Z Iq Z fun wd443 HS=>nL ?_)))))))⟩))
    obtain ⟨rfl,rfl⟩:=H9 H
    exact rT _ func156 Z (Gz.Hu (j:=3) (vs:=[I t424,I t438]) HS Z Z Z Iq) ⟨Z,(HS.pk 8 [] Z)⟩
   refine yB Z (tT c309) (rN 7 Z ?_)
   refine G.name (fun p1 s1=>?_)
   have m1:∀ k1,k1≤h1→∀ (e1:Int) (w:World),De.l4 K k1 c1 d1 t6 a1 e1=some (r1,r2)→St w0 w (Box b1 31 [sV A_a c1 c_a]::Box b3 167 [I 0,I 0]::Box b23 111 [sV A10 t5 c11,sV A13 t6 c14,sV A16 t7 c17]::Own (Ty.slice 2 (Ar .i64)) 56 A10 c11 y12 t5::Own (Ty.slice 2 (Ar .i64)) 56 A13 c14 y15 t6::Own (Ty.slice 2 (Ar .i64)) 56 A16 c17 y18 t7::L)→G prog 156 84 [(1,I d1),(2,pT b1),(4,pT b3),(5,pT b23),(7,I a1),(8,I e1)] p1 w (De.post w0 L r1 r2):=by
    refine lp (fun _ w H _=>by rw [De.l4] at H; cases H) fun f1 n1 g1 e1 w H HS=>?_
    rw [De.l4] at H
    subst s1
    refine rN 3 Z ?_
    rcases iS H with ⟨c386,H⟩ | ⟨c386,H⟩
    ·
     refine nB Z (tF c386) (rN 4 Z (gW (u1 f1 (Nat.le_of_succ_le n1) _ _ H HS) Z))
    refine yB Z (tT c386) (rN 4 Z ?_)
    obtain ⟨t387,h388,H⟩:=bI H
    obtain ⟨t391,h392,H⟩:=bI H
    obtain ⟨t395,h396,H⟩:=bI H
    refine rG (mV Z (fJ Jt Z (Bq.calls HS  h388) (fun _ wd389 ⟨h390,HS⟩=>⟨_,h390,(mV Z (fJ Jt Z (Bq.calls HS  h392) (fun _ wd393 ⟨h394,HS⟩=>⟨_,h394,(fJ Z4 Z (E8.calls HS  h396) (fun _ wd397 ⟨h398,HS⟩=>⟨_,h398,(aS Z (nL (sQ ?_)))⟩))⟩)))⟩)))
    obtain ⟨c410,H⟩:=iN H
    have h411:=(rk (ro 4 Z) HS)
    obtain ⟨c412,H⟩:=iN H
    rcases iS H with ⟨c413,H⟩ | ⟨c413,H⟩
    ·
     refine G.H8 mixed (fun w=>St w0 w (Box b23 111 [sV A10 t5 c11,sV A13 t6 c14,sV A16 t7 c17]::Own (Ty.slice 2 (Ar .i64)) 56 A13 c14 y15 t6::L)) [1,4,7,12,15,20] [0,2,5,8,1,3,4,6,7,9,10,11,13,16,12,14,15,17,18,19,20,21,22] [] (by kernel_rfl) (by kernel_rfl) (HS.drew.pk 6 [2,4] Z) ?_
     replace HS:=HS.drew
     refine qL Z Z (fun _ _ g=>fL b23 1 Lj Z g) Z (GX.ps 3 Z (GX.ls Z Z Z (HS.pk 6 [2,4] Z) (fun _ HS _ g=>lB 0 HS Z Lx Z g) Z (qL Z Z (fun _ _ g=>iX Z M8 Pp h411 c410 g) Z (GX.ls Z Z Z (HS.pk 6 [2,4] Z) (fun _ HS _ g=>GO.Cj (T:=(Ty.slice 2 (Ar .i64))) (n:=a1.toNat) (o:=0) HS (ro 1 Z) Z Z (getD_some (d:=[]) (ltN c410)) Z Z Ih Z g) Z (qL Z Z (fun _ _ g=>GO.ix Z Z Z U56 sz2 ((Ce.elem (ro 4 Z) c410.1 c410.2) _ HS).2.2.1 c412.1 c412.2 Z g) Z (GX.ls Z Z Z (HS.pk 6 [2,4] Z) (fun _ HS _ g=>GO.Cj (T:=(Ar .i64)) (n:=t395.toNat) (o:=0) HS (Ce.elem (ro 1 Z) c410.1 c410.2) Z Z (getD_some (d:=0) (ltN c412)) Z Z na2 Z g) Z (GX.ps 1 Z (qL Z Z (fun _ _ g=>mV Z (kN 46 Z (tF c413) g)) Z (qL Z Z (fun _ _ g=>oF Z g) Z (qL Z Z (fun _ _ g=>oF Z g) Z (qL Z Z (fun _ _ g=>oF Z g) Z (GX.ls Z Z Z (HS.pk 6 [2,4] Z) (fun _ HS _ g=>oF Z g) Z (qL Z Z (fun _ _ g=>oF Z g) Z (GX.ls Z Z Z (HS.pk 6 [2,4] Z) (fun _ HS _ g=>oF Z g) Z ?_))))))))))))))
     refine GX.l2 Z (oF Z (GX.fin (HS.pk 6 [2,4] Z) (qL Z Z (fun _ _ g=>oF Z g) Z (qL Z Z (fun _ _ g=>oF Z g) Z (GX.ls Z Z Z (HS.pk 6 [2,4] Z) (fun _ HS _ g=>oF Z g) Z (qL Z Z (fun _ _ g=>oF Z g) Z (GX.ps 1 Z (GX.nil (rN 5 Z (gW (g1 f1 (lR _) _ _ H HS) Z))))))))))
    obtain ⟨c414,H⟩:=iN H
    obtain ⟨t415,h416,H⟩:=bI H
    obtain ⟨c419,H⟩:=iN H
    obtain ⟨e420,h421,H⟩:=Di H
    refine G.H8 mixed (fun w=>St w0 w (Box b1 31 [sV A_a c1 c_a]::Box b23 111 [sV A10 t5 c11,sV A13 t6 c14,sV A16 t7 c17]::Own (Ty.slice 2 (Ar .i64)) 56 A13 c14 y15 t6::L)) [1,4,7,12,15,20] [0,2,5,8,1,3,4,6,7,9,10,11,13,16,12,14,15,17,18,19,20,21,22] [] (by kernel_rfl) (by kernel_rfl) (HS.drew.pk 6 [0,2,4] Z) ?_
    replace HS:=HS.drew
    refine qL Z Z (fun _ _ g=>fL b23 1 Lj Z g) Z (GX.ps 3 Z (GX.ls Z Z Z (HS.pk 6 [0,2,4] Z) (fun _ HS _ g=>lB 1 HS Z Lx Z g) Z (qL Z Z (fun _ _ g=>iX Z M8 Pp h411 c410 g) Z (GX.ls Z Z Z (HS.pk 6 [0,2,4] Z) (fun _ HS _ g=>GO.Cj (T:=(Ty.slice 2 (Ar .i64))) (n:=a1.toNat) (o:=0) HS (ro 2 Z) Z Z (getD_some (d:=[]) (ltN c410)) Z Z Ih Z g) Z (qL Z Z (fun _ _ g=>GO.ix Z Z Z U56 sz2 ((Ce.elem (ro 4 Z) c410.1 c410.2) _ HS).2.2.1 c412.1 c412.2 Z g) Z (GX.ls Z Z Z (HS.pk 6 [0,2,4] Z) (fun _ HS _ g=>GO.Cj (T:=(Ar .i64)) (n:=t395.toNat) (o:=0) HS (Ce.elem (ro 2 Z) c410.1 c410.2) Z Z (getD_some (d:=0) (ltN c412)) Z Z na2 Z g) Z (GX.ps 1 Z (qL Z Z (fun _ _ g=>mV Z (kN 46 Z (tT c413) g)) Z (qL Z Z (fun _ _ g=>oN Z (fL b1 0 Du Z (bK g))) Z (qL Z Z (fun _ _ g=>oN Z (mV Z (bK g))) Z (qL Z Z (fun _ _ g=>oN Z (mV Z (bK g))) Z (GX.ls Z Z Z (HS.pk 6 [0,2,4] Z) (fun _ HS _ g=>oN Z (lB 0 HS Z Gu Z (bK g))) Z (qL Z Z (fun _ _ g=>oN Z (iX Z U29 Jg (rk (rD 6 r_a) HS) c414 (bK g))) Z (GX.ls Z Z Z (HS.pk 6 [0,2,4] Z) (fun _ HS _ g=>oN Z (GO.Cj (T:=(Ty.slice 107 Ad)) (n:=a1.toNat) (o:=0) HS (rD 3 r_a) Z Z (getD_some (d:=[]) (ltN c414)) Z Z Jh Z (bK g))) Z ?_))))))))))))))
    refine GX.l2 Z (oN Z (fJ Jt Z (Bq.calls HS  h416) (fun _ wd417 ⟨h418,HS⟩=>⟨_,h418,(bK (GX.fin (HS.pk 6 [0,2,4] Z) (qL Z Z (fun _ _ g=>oN Z (GO.ix Z Z Z U77 G9 ((Ce.elem (rD 6 r_a) c414.1 c414.2) _ HS).2.2.1 c419.1 c419.2 Z (bK g))) Z (qL Z Z (fun _ _ g=>oN Z (GO.fld (ea ((y_a a1.toNat).A) (t415.toNat * 2)) Z Z Dp Z Z (bK g))) Z (GX.ls Z Z Z (HS.pk 6 [0,2,4] Z) (fun _ HS _ g=>oN Z (GO.Cj (T:=Ad) (n:=t415.toNat) (o:=0) HS (Ce.elem (rD 3 r_a) c414.1 c414.2) Z Z (Cn (ltN c419) h421) Z Z na2 Z (bK g))) Z (qL Z Z (fun _ _ g=>oN Z (GO.lss Z Z Z Z (bK g))) Z (GX.ps 1 Z (GX.nil ?_))))))))⟩)))
    rcases iS H with ⟨c422,H⟩ | ⟨c422,H⟩
    ·
     refine nB Z (tF c422) (rN 4 Z (gW (g1 f1 (lR _) _ _ H HS) Z))
    refine yB Z (tT c422) (sQ (rG (pS 2 Z (GO.Dr (.agg [I a1,I e1].toArray) Z Z (fun _=>by kernel_rfl) Z (sW 1 HS Z Iq Z fun wd423 HS=>nL ?_)))))
    obtain ⟨rfl,rfl⟩:=H9 H
    exact rT _ func156 Z (Gz.Hu (j:=1) (vs:=[I a1,I e1]) HS Z Z Z Iq) ⟨Z,(HS.pk 6 [] Z)⟩
   exact gW (m1 h1 (lR _) _ _ H HS) Z
  exact gW (q1 K (lR _) _ _ H (HS.pk 7 [6,5,0,1,2,3] Z)) Z
theorem Ed.calls {d1:List (List Ab)} {a1 c1:Int} {y_a:Nat→(Ty.slice 107 Ad).Lay} {r1 r2:Int} {r3:Bool} (HS:St w0 w (L)) (r_a:Ce w0 L (Ty.slice 107 Ad) A_a c_a y_a d1) (H:Ed.f K d1 a1 c1=some (r1,r2,r3)) :
    Calls prog 157 #[.agg [sV A_a d1 c_a].toArray,.agg [I a1,I c1].toArray] w (Ed.post w0 L r1 r2 r3):=by
  unfold Ed.f at H
  refine cG func157 Z ?_
  refine sQ (rG (bA HS Z fun b1 wd2 HS=>bA HS Z fun b3 wd4 HS=>GO.alloc HS Z Pk Z Z fun b5 wd6 HS=>aS Z (nL (sQ ?_))))
  obtain ⟨c7,H⟩:=iN H
  obtain ⟨t8,h9,H⟩:=bI H
  obtain ⟨c12,H⟩:=iN H
  obtain ⟨e13,h14,H⟩:=Di H
  refine G.K7 mixed (by decide) (fun b a w=>∃ (b15:Nat) (e1:Cy),RS 49 [(2,pT b1),(3,pT b3),(4,pT b5)] [rv 10 (pT b1),rv 11 (sV A_a d1 c_a),rv 12 (pT b3),rv 13 (I a1),rv 14 (.pointer (some (ea A_a (a1.toNat * 1)))),rv 15 (sV ((y_a a1.toNat).A) (d1.getD a1.toNat []) ((y_a a1.toNat).c)),rv 16 (.pointer (some ⟨b3,1,none⟩)),rv 17 (I c1),rv 18 (I t8),rv 19 (.pointer (some (ea ((y_a a1.toNat).A) (t8.toNat * 2)))),rv 20 (.agg [I e13.Tet,I e13.Perm].toArray),rv 6 (pT b15),none] b a∧St w0 w (Box b5 167 [I 0,I 0]::Box b3 167 [I a1,I c1]::Box b1 31 [sV A_a d1 c_a]::e1::L)∧(b 11=true→b 12=false→e1=Box b15 107 [I 0,I 0])∧(b 12=true→e1=Box b15 107 [I e13.Tet,I e13.Perm])) ?_ ?_ ?_
  · exact fun a hs=>⟨0,Emp,hs.init Z,(HS.drew.emp.pk 4 [1,2,3,0] Z),fun h=>Bool.noConfusion h,fun h=>Bool.noConfusion h⟩
  ·
   intro j b a w hj
   refine exI fun b15=>exI fun e1=>anI fun hs=>fun hM q=>?_
   have HS:=hM.1
   match j,hj with
   | 0,_ =>
    refine hs.at q [] [] (fL b1 0 Du Z (hs.fin q Z fun _ hs=>⟨_,_,hs,hM⟩))
   | 1,_ =>
    refine hs.at q [0] [] (lB 2 HS Z Gu Z (hs.fin q Z fun _ hs=>⟨_,_,hs,hM⟩))
   | 2,_ =>
    refine hs.at q [] [] (fL b3 0 Gx Z (hs.fin q Z fun _ hs=>⟨_,_,hs,hM⟩))
   | 3,_ =>
    refine hs.at q [2] [] (lB 1 HS Z na2 Z (hs.fin q Z fun _ hs=>⟨_,_,hs,hM⟩))
   | 4,_ =>
    refine hs.at q [1,3] [] (iX Z U29 Jg (rk (rD 4 r_a) HS) c7 (hs.fin q Z fun _ hs=>⟨_,_,hs,hM⟩))
   | 5,_ =>
    refine hs.at q [4] [] (GO.Cj (T:=(Ty.slice 107 Ad)) (n:=a1.toNat) (o:=0) HS (rD 4 r_a) Z Z (getD_some (d:=[]) (ltN c7)) Z Z Jh Z (hs.fin q Z fun _ hs=>⟨_,_,hs,hM⟩))
   | 6,_ =>
    refine hs.at q [] [] (fL b3 1 M0 Z (hs.fin q Z fun _ hs=>⟨_,_,hs,hM⟩))
   | 7,_ =>
    refine hs.at q [6] [] (lB 1 HS Z na2 Z (hs.fin q Z fun _ hs=>⟨_,_,hs,hM⟩))
   | 8,_ =>
    refine hs.at q [7] [] (fJ Jt Z (Bq.calls HS  h9) (fun _ wd10 ⟨h11,HS⟩=>⟨_,h11,(hs.fin q Z fun _ hs=>⟨_,_,hs,HS,hM.2⟩)⟩))
   | 9,_ =>
    refine hs.at q [5,8] [] (GO.ix Z Z Z U77 G9 ((Ce.elem (rD 4 r_a) c7.1 c7.2) _ HS).2.2.1 c12.1 c12.2 Z (hs.fin q Z fun _ hs=>⟨_,_,hs,hM⟩))
   | 10,_ =>
    refine hs.at q [9] [] (GO.Hw (T:=Ad) (n:=t8.toNat) HS (Ce.elem (rD 4 r_a) c7.1 c7.2) Z Z (Cn (ltN c12) h14) D9 Z (hs.fin q Z fun _ hs=>⟨_,_,hs,hM⟩))
   | 11,_ =>
    refine (anI fun HS=>anI fun i1=>fun h1=>?_) hM
    refine hs.at q [] [] (GO.alloc HS Z Jz Z Z fun b15 wd16 HS=>hs.Oj q [11] (fun _ hs=>⟨b15,Box b15 107 [I 0,I 0],hs,HS.pk 5 [1,2,3,0] Z,fun _ _=>Z,fun hh=>(q.no 12 hh).elim⟩) Z Z)
   | 12,_ =>
    refine (anI fun HS=>anI fun i1=>fun h1=>?_) hM
    have hb11:=q.on 11
    obtain rfl:=i1 hb11 q.hb
    refine hs.at q [11,10] [] (sW 3 HS Z D9 Z fun wd17 HS=>hs.We q Z fun _ hs=>⟨b15,Box b15 107 [I e13.Tet,I e13.Perm],hs,HS,fun _ h=>Bool.noConfusion h,fun _=>Z⟩)
   | k+13,hj=>exact absurd hj (Nat.not_lt.2 (Nat.le_add_left 13 k))
  ·
   intro b a w hall
   refine exI fun b15=>exI fun e1=>anI fun hs=>anI fun HS=>anI fun i1=>fun h1=>?_
   obtain rfl:=h1 (hall 12 (by decide))
   refine G.at (hs.all hall) (rN 2 Z (rG (fL b15 0 Dp Z (lB 3 HS Z na2 Z (GO.lss Z Z Z Z (nL ?_))))))
   rcases iE H with ⟨c18,H⟩ | ⟨c18,H⟩
   ·
    refine yB Z (tT c18) (sQ (rG (GO.Dr (.agg [I 0,I 0].toArray) Z Z (fun _=>by kernel_rfl) Z (sW 0 HS Z Iq Z fun wd19 HS=>aS Z (nL ?_)))))
    obtain ⟨rfl,rfl,rfl⟩:=Mm H
    exact G.Hy _ _ func157 Z (Gz.Hu (j:=0) (vs:=[I 0,I 0]) HS Z Z Z Iq) Z ⟨Z,(HS.pk 4 [] Z)⟩
   refine nB Z (tF c18) (rN 2 Z (rG (GO.Cw (el:=2) ([]) HS Z Z (fun _=>by kernel_rfl) Z fun b20 wd21 HS=>?_)))
   replace HS:=HS.Fq (T:=(Ar .i64)) (j:=0) Z Ba uu ([]:List Int) Z (Il Z)
   refine GO.H7 (t:=25) (m:=([]:List Int).length) (c':=([]:List Int).length) Z Z Z (aS Z (nL (sQ (rG (GO.Cw (el:=2) ([I 0,I 1,I 3,I 2]) HS Z Z (fun _=>by kernel_rfl) Z fun b22 wd23 HS=>?_)))))
   replace HS:=HS.Fq (T:=(Ar .i64)) (j:=0) Z Ba uu ([0,1,3,2]:List Int) Z (Il Z)
   refine GO.H7 (t:=26) (m:=([0,1,3,2]:List Int).length) (c':=([0,1,3,2]:List Int).length) Z Z Z (aS Z (nL (rN 5 Z ?_)))
   refine G.name (fun p1 n1=>?_)
   have o1:∀ k1,k1≤K→∀ (A40:Option Addr) (c41:Nat) (f1:List Int) (g1:Int) (w:World),Ed.l1 K k1 c1 e13 f1 g1=some (r1,r2,r3)→St w0 w (Box b3 167 [I a1,I c1]::Box b5 167 [I 0,I 0]::Box b15 107 [I e13.Tet,I e13.Perm]::Own (Ar .i64) 2 A40 c41 uu f1::Own (Ar .i64) 2 (sb b22) (([0,1,3,2]:List Int).length) uu ([0,1,3,2]:List Int)::L)→G prog 157 49 [(3,pT b3),(4,pT b5),(6,pT b15),(7,sV A40 f1 c41),(8,sV (sb b22) ([0,1,3,2]:List Int) (([0,1,3,2]:List Int).length)),(9,I g1)] p1 w (Ed.post w0 L r1 r2 r3):=by
    refine lp (fun _ _ _ _ w H _=>by rw [Ed.l1] at H; cases H) fun m1 s1 q1 A40 c41 f1 g1 w H HS=>?_
    rw [Ed.l1] at H
    subst n1
    refine rN 3 Z ?_
    rcases iS H with ⟨c66,H⟩ | ⟨c66,H⟩
    ·
     refine nB Z (tF c66) (rN 2 Z ?_)
     obtain ⟨t83,h84,H⟩:=bI H
     refine G.H8 mixed (fun w=>St w0 w (Box b15 107 [I e13.Tet,I e13.Perm]::L)) [1] [0,2,1,3,4,5,6] [] (by kernel_rfl) (by kernel_rfl) (HS.drew.pk 5 [2] Z) ?_
     replace HS:=HS.drew
     refine qL Z Z (fun _ _ g=>fL b15 0 Dp Z g) Z (GX.ps 1 Z (GX.ls Z Z Z (HS.pk 5 [2] Z) (fun _ HS _ g=>lB 0 HS Z na2 Z g) Z (GX.l2 Z (fJ Sj Z (C8.calls HS (ro 3 Z) h84) (fun _ wd85 ⟨h86,HS⟩=>⟨_,h86,(GX.fin (HS.pk 5 [2] Z) (qL Z Z (fun _ _ g=>GO.Dr (.agg [I e13.Tet,I t83].toArray) Z Z (fun _=>by kernel_rfl) Z g) Z (GX.l2 Z (sW 1 HS Z Iq Z fun wd87 HS=>GX.fin (HS.pk 5 [2] Z) (GX.ps 1 Z (GX.nil ?_))))))⟩)))))
     obtain ⟨rfl,rfl,rfl⟩:=Mm H
     exact G.Hy _ _ func157 Z (Gz.Hu (j:=1) (vs:=[I e13.Tet,I t83]) HS Z Z Z Iq) Z ⟨Z,(HS.pk 5 [] Z)⟩
    refine yB Z (tT c66) (rN 3 Z ?_)
    obtain ⟨c67,H⟩:=iN H
    have h68:=(rk (ro 4 Z) HS)
    obtain ⟨t69,h70,H⟩:=bI H
    obtain ⟨t73,h74,H⟩:=bI H
    obtain ⟨c82,H⟩:=iN H
    refine G.H8 mixed (fun w=>St w0 w (Box b3 167 [I a1,I c1]::Box b15 107 [I e13.Tet,I e13.Perm]::Own (Ar .i64) 2 (sb b22) (([0,1,3,2]:List Int).length) uu ([0,1,3,2]:List Int)::L)) [2,4,8] [0,1,3,5,6,7,2,4,8,9,10,11,12,13] [] (by kernel_rfl) (by kernel_rfl) (HS.drew.pk 5 [0,2,4] Z) ?_
    replace HS:=HS.drew
    refine GX.ps 1 Z (qL Z Z (fun _ _ g=>fL b15 1 Gn Z g) Z (qL Z Z (fun _ _ g=>fL b3 1 M0 Z g) Z (GX.ps 2 Z (qL Z Z (fun _ _ g=>iX Z U56 sz2 h68 c67 g) Z (GX.ls Z Z Z (HS.pk 5 [0,2,4] Z) (fun _ HS _ g=>lB 1 HS Z na2 Z g) Z (GX.ls Z Z Z (HS.pk 5 [0,2,4] Z) (fun _ HS _ g=>lB 0 HS Z na2 Z g) Z (GX.ls Z Z Z (HS.pk 5 [0,2,4] Z) (fun _ HS _ g=>GO.Cj (T:=(Ar .i64)) (n:=g1.toNat) (o:=0) HS (ro 2 Z) Z Z (getD_some (d:=0) (ltN c67)) Z Z na2 Z g) Z (GX.l2 Z (fJ Jt Z (Bq.calls HS  h70) (fun _ wd71 ⟨h72,HS⟩=>⟨_,h72,(GX.fin (HS.pk 5 [0,2,4] Z) (GX.l2 Z (fJ Jt Z (Bq.calls HS  h74) (fun _ wd75 ⟨h76,HS⟩=>⟨_,h76,(GX.fin (HS.pk 5 [0,2,4] Z) (GX.l2 Z ?_))⟩))))⟩))))))))))
    refine GO.Cw (el:=2) ([I t73]) HS Z Z (fun _=>by kernel_rfl) Z fun b77 wd78 HS=>GX.fin (HS.pk 6 [1,3,5] Z) (GX.l2 Z (GO.app1 (T:=(Ar .i64)) (j:=4) (jb:=0) t73 HS Z Z Ba Z Z Z U56 Ml Z Z Z c82 Z fun A80 c81 wd79 HS=>GX.fin (HS.pk 6 [1,3,5] Z) (GX.ps 1 Z (GX.nil (rN 3 Z (gW (q1 m1 (lR _) _ _ _ _ _ H (HS.pk 6 [1,2,3,4,5] Z)) Z))))))
   exact gW (o1 K (lR _) _ _ _ _ _ H (HS.pk 6 [3,2,5,1,0] Z)) Z
theorem F9.calls {c1:List (List Ab)} {g1:Int} {y_a:Nat→(Ty.slice 107 Ad).Lay} {r1:List Ab} (HS:St w0 w (L)) (r_a:Ce w0 L (Ty.slice 107 Ad) A_a c_a y_a c1) (H:F9.f K c1 g1=some r1) :
    Calls prog 134 #[.agg [sV A_a c1 c_a].toArray,I g1] w (F9.post w0 L r1):=by
  unfold F9.f at H
  refine cG func134 Z ?_
  refine sQ (rG (bA HS Z fun b1 wd2 HS=>aS Z (nL (sQ ?_))))
  obtain ⟨t3,t4,h5,H⟩:=Ea H
  refine rG (lW 0 HS Z Dq (mV Z (fJ rZ Z (De.calls HS (rD 1 r_a) h5) (fun _ wd6 ⟨h7,HS⟩=>⟨_,h7,(GO.alloc HS Z Pk Z Z fun b8 wd9 HS=>sW 0 HS Z Iq Z fun wd10 HS=>nL (sQ (rG (lW 0 HS Z Iq (GO.Cw (el:=167) ([I t3,I t4]) HS Z Z (fun _=>by kernel_rfl) Z fun b11 wd12 HS=>?_)))))⟩))))
  replace HS:=HS.Fq (T:=Ad) (j:=0) Z Ba uu ([(⟨t3,t4⟩:Ab)]:List Ab) Z (Il Z)
  refine GO.H7 (t:=13) (m:=([(⟨t3,t4⟩:Ab)]:List Ab).length) (c':=([(⟨t3,t4⟩:Ab)]:List Ab).length) Z Z Z (aS Z (nL (rN 2 Z ?_)))
  refine G.name (fun n1 k1=>?_)
  have m1:∀ h1,h1≤K→∀ (A35:Option Addr) (c36:Nat) (a1:List Ab) (w:World),F9.l1 K h1 c1 t3 t4 a1=some r1→St w0 w (Box b1 31 [sV A_a c1 c_a]::Box b8 167 [I t3,I t4]::Own Ad 167 A35 c36 uu a1::L)→G prog 134 37 [(2,pT b1),(5,pT b8),(6,sV A35 a1 c36)] n1 w (F9.post w0 L r1):=by
   refine lp (fun _ _ _ w H _=>by rw [F9.l1] at H; cases H) fun i1 p1 o1 A35 c36 a1 w H HS=>?_
   rw [F9.l1] at H
   subst k1
   refine rN 2 Z ?_
   obtain ⟨c60,H⟩:=iN H
   have h61:=(rk (ro 2 Z) HS)
   obtain ⟨e62,h63,H⟩:=Di H
   obtain ⟨t64,t65,t66,h67,H⟩:=J3 H
   refine G.K7 mixed (by decide) (fun b a w=>∃ (b70:Nat) (d1:Cy),RS 37 [(2,pT b1),(5,pT b8),(6,sV A35 a1 c36)] [rv 15 (.agg [sV A_a c1 c_a].toArray),rv 16 (sV A35 a1 c36),rv 17 (sV A35 a1 c36),rv 18 (I (a1.length:Int)),rv 19 (I (w64 ((a1.length:Int) - 1))),rv 20 (.pointer (some (ea A35 (((w64 ((a1.length:Int) - 1)).toNat) * 2)))),rv 21 (.agg [I e62.Tet,I e62.Perm].toArray),rv 22 (.tuple #[.agg [I t64,I t65].toArray,.bool t66]),rv 14 (.tuple #[.agg [I t64,I t65].toArray,.bool t66]),rv 23 (.agg [I t64,I t65].toArray),rv 24 (.bool t66),rv 7 (pT b70),none,rv 8 (.bool t66)] b a∧St w0 w (Box b1 31 [sV A_a c1 c_a]::Box b8 167 [I t3,I t4]::Own Ad 167 A35 c36 uu a1::d1::L)∧(b 11=true→b 12=false→d1=Box b70 167 [I 0,I 0])∧(b 12=true→d1=Box b70 167 [I t64,I t65])) ?_ ?_ ?_
   · exact fun a hs=>⟨0,Emp,hs.init Z,(HS.drew.emp.pk 4 [1,2,3,0] Z),fun h=>Bool.noConfusion h,fun h=>Bool.noConfusion h⟩
   ·
    intro j b a w hj
    refine exI fun b70=>exI fun d1=>anI fun hs=>fun hM q=>?_
    have HS:=hM.1
    match j,hj with
    | 0,_ =>
     refine hs.at q [] [] (lW 0 HS Z Dq (hs.fin q Z fun _ hs=>⟨_,_,hs,hM⟩))
    | 1,_ =>
     refine hs.at q [] [] (mV Z (hs.fin q Z fun _ hs=>⟨_,_,hs,hM⟩))
    | 2,_ =>
     refine hs.at q [] [] (mV Z (hs.fin q Z fun _ hs=>⟨_,_,hs,hM⟩))
    | 3,_ =>
     refine hs.at q [2] [] (lS Z Z Jp Z (hs.fin q Z fun _ hs=>⟨_,_,hs,HS,hM.2⟩))
    | 4,_ =>
     refine hs.at q [3] [] (GO.sub Z Z Z Z (hs.fin q Z fun _ hs=>⟨_,_,hs,hM⟩))
    | 5,_ =>
     refine hs.at q [1,4] [] (iX Z Jp Ji h61 c60 (hs.fin q Z fun _ hs=>⟨_,_,hs,hM⟩))
    | 6,_ =>
     refine hs.at q [5] [] (GO.Hw (T:=Ad) (n:=(w64 ((a1.length:Int) - 1)).toNat) HS (ro 2 Z) Z Z (Cn (ltN c60) h63) Iq Z (hs.fin q Z fun _ hs=>⟨_,_,hs,hM⟩))
    | 7,_ =>
     refine hs.at q [0,6] [] (fJ qI Z (Ed.calls HS (rD 4 r_a) h67) (fun _ wd68 ⟨h69,HS⟩=>⟨_,h69,(hs.fin q Z fun _ hs=>⟨_,_,hs,HS,hM.2⟩)⟩))
    | 8,_ =>
     refine hs.at q [7] [] (mV Z (hs.fin q Z fun _ hs=>⟨_,_,hs,hM⟩))
    | 9,_ =>
     refine hs.at q [8] [] (GO.extract Z Z Z Z (hs.fin q Z fun _ hs=>⟨_,_,hs,hM⟩))
    | 10,_ =>
     refine hs.at q [8] [] (GO.extract Z Z Z Z (hs.fin q Z fun _ hs=>⟨_,_,hs,hM⟩))
    | 11,_ =>
     refine (anI fun HS=>anI fun e1=>fun f1=>?_) hM
     refine hs.at q [] [] (GO.alloc HS Z Pk Z Z fun b70 wd71 HS=>hs.Oj q [11] (fun _ hs=>⟨b70,Box b70 167 [I 0,I 0],hs,HS.pk 5 [1,2,3,0] Z,fun _ _=>Z,fun hh=>(q.no 12 hh).elim⟩) Z Z)
    | 12,_ =>
     refine (anI fun HS=>anI fun e1=>fun f1=>?_) hM
     have hb11:=q.on 11
     obtain rfl:=e1 hb11 q.hb
     refine hs.at q [11,9] [] (sW 3 HS Z Iq Z fun wd72 HS=>hs.We q Z fun _ hs=>⟨b70,Box b70 167 [I t64,I t65],hs,HS,fun _ h=>Bool.noConfusion h,fun _=>Z⟩)
    | 13,_ =>
     refine hs.at q [10] [] (aS Z (hs.fin q Z fun _ hs=>⟨_,_,hs,hM⟩))
    | k+14,hj=>exact absurd hj (Nat.not_lt.2 (Nat.le_add_left 14 k))
   ·
    intro b a w hall
    refine exI fun b70=>exI fun d1=>anI fun hs=>anI fun HS=>anI fun e1=>fun f1=>?_
    obtain rfl:=f1 (hall 12 (by decide))
    refine G.at (hs.all hall) (rN 2 Z ?_)
    rcases iS H with ⟨c74,H⟩ | ⟨c74,H⟩
    ·
     refine rG (pS 3 Z (kN 27 Z (congrArg Bool.not (Db c74)) (oF Z (oF Z (oF Z (GO.Iz Z Z Z Z Z (nL (rN 3 Z ?_))))))))
     obtain rfl:=sI H
     exact rT _ func134 Z Z ⟨_,_,Z,(HS.pk 4 [2] Z)⟩
    refine rG (pS 3 Z (kN 27 Z (congrArg Bool.not c74) (oN Z (lW 3 HS Z Iq (bK (oN Z (lW 1 HS Z Iq (bK (oN Z (GO.iC Z Z Z nX (fun _=>oW) Z (bK (GO.Jm Z Z Z Z Z (nL ?_)))))))))))))
    rcases iE H with ⟨c75,H⟩ | ⟨c75,H⟩
    ·
     refine yB Z (tT c75) (rN 2 Z ?_)
     obtain rfl:=sI H
     exact rT _ func134 Z Z ⟨_,_,Z,(HS.pk 4 [2] Z)⟩
    refine nB Z (tF c75) (G.skip ?_)
    obtain ⟨c81,H⟩:=iN H
    refine rG (mV Z (lW 3 HS Z Iq (GO.Cw (el:=167) ([I t64,I t65]) HS Z Z (fun _=>by kernel_rfl) Z fun b76 wd77 HS=>GO.app1 (T:=Ad) (j:=3) (jb:=0) (⟨t64,t65⟩:Ab) HS Z Z Ba Z Z Z Jp fD Z Z Z c81 Z fun A79 c80 wd78 HS=>aS Z (nL (rN 2 Z (gW (o1 i1 (lR _) _ _ _ _ H (HS.pk 5 [1,2,3] Z)) Z))))))
  exact gW (m1 K (lR _) _ _ _ _ H (HS.pk 3 [2,1,0] Z)) Z
theorem Bv.calls {a1:List (List Ab)} {o A:Int} {y_a:Nat→(Ty.slice 107 Ad).Lay} {r1:List Int} {r2:List (List Ab)} {r3:List Av} {r4:Bool} (HS:St w0 w (L)) (r_a:Ce w0 L (Ty.slice 107 Ad) A_a c_a y_a a1) (H:Bv.f K a1 o A=some (r1,r2,r3,r4)) :
    Calls prog 104 #[.agg [sV A_a a1 c_a].toArray,I o,I A] w (Bv.post w0 L r1 r2 r3 r4):=by
  unfold Bv.f at H
  refine cG func104 Z ?_
  refine sQ (rG (bA HS Z fun b1 wd2 HS=>GO.alloc HS Z Qr Z Z fun b3 wd4 HS=>aS Z (nL (sQ ?_))))
  obtain ⟨t5,t6,t7,t8,h9,H⟩:=D8 H
  refine rG (lW 1 HS Z Dq (fJ Ym Z (Bf.calls HS (rD 2 r_a) h9) (fun _ wd21 ⟨A10,c11,y12,A13,c14,y15,A16,c17,y18,A19,c20,h22,HS⟩=>⟨_,h22,(pS 3 Z (GO.alloc HS Z Ue Z Z fun b23 wd24 HS=>sW 0 HS Z Pm Z fun wd25 HS=>aS Z (nL (sQ ?_))))⟩)))
  obtain ⟨c26,H⟩:=iN H
  obtain ⟨c27,H⟩:=iN H
  refine rG (fL b23 1 Lj Z (lB 0 HS Z Lx Z (mV Z (iX Z M8 Pp (rk (ro 2 Z) HS) c26 (GO.Cj (T:=(Ty.slice 2 (Ar .i64))) (n:=o.toNat) (o:=0) HS (ro 2 Z) Z Z (getD_some (d:=[]) (ltN c26)) Z Z Ih Z (mV Z (GO.ix Z Z Z U56 sz2 ((Ce.elem (ro 2 Z) c26.1 c26.2) _ HS).2.2.1 c27.1 c27.2 Z (GO.Cj (T:=(Ar .i64)) (n:=A.toNat) (o:=0) HS (Ce.elem (ro 2 Z) c26.1 c26.2) Z Z (getD_some (d:=0) (ltN c27)) Z Z na2 Z (aS Z (nL (rN 7 Z ?_)))))))))))
  refine G.name (fun i1 u1=>?_)
  have v1:∀ f1,f1≤K→∀ (x43 x44:Int) (w:World),Bv.l1 K f1 a1 o A t6 x43 x44=some (r1,r2,r3,r4)→St w0 w (Box b1 31 [sV A_a a1 c_a]::Box b3 65 [.slice none 0 0,.slice none 0 0,.slice none 0 0]::Box b23 111 [sV A10 t5 c11,sV A13 t6 c14,sV A16 t7 c17]::Own (Ty.slice 2 (Ar .i64)) 56 A10 c11 y12 t5::Own (Ty.slice 2 (Ar .i64)) 56 A13 c14 y15 t6::Own (Ty.slice 2 (Ar .i64)) 56 A16 c17 y18 t7::L)→G prog 104 213 [(1,I o),(2,I A),(3,pT b1),(6,pT b3),(8,pT b23),(10,I ((t6.getD o.toNat []).getD A.toNat 0)),(11,I x43),(12,I x44)] i1 w (Bv.post w0 L r1 r2 r3 r4):=by
   refine lp (fun _ _ w H _=>by rw [Bv.l1] at H; cases H) fun c1 a2 x1 x43 x44 w H HS=>?_
   rw [Bv.l1] at H
   subst u1
   refine rN 2 Z (rG (mV Z (fL b23 1 Lj Z (lB 2 HS Z Lx Z (lS Z Z M8 Z (GO.lss Z Z Z Z (nL ?_)))))))
   rcases iE H with ⟨c344,H⟩ | ⟨c344,H⟩
   ·
    refine yB Z (tT c344) (rN 7 Z ?_)
    refine G.name (fun n1 k1=>?_)
    have s1:∀ g1,g1≤c1→∀ (x348 x349:Int) (w:World),Bv.l5 K g1 a1 o A t6 x44 x348 x349=some (r1,r2,r3,r4)→St w0 w (Box b1 31 [sV A_a a1 c_a]::Box b3 65 [.slice none 0 0,.slice none 0 0,.slice none 0 0]::Box b23 111 [sV A10 t5 c11,sV A13 t6 c14,sV A16 t7 c17]::Own (Ty.slice 2 (Ar .i64)) 56 A10 c11 y12 t5::Own (Ty.slice 2 (Ar .i64)) 56 A13 c14 y15 t6::Own (Ty.slice 2 (Ar .i64)) 56 A16 c17 y18 t7::L)→G prog 104 213 [(1,I o),(2,I A),(3,pT b1),(6,pT b3),(8,pT b23),(10,I ((t6.getD o.toNat []).getD A.toNat 0)),(11,I x348),(12,I x44),(13,I x349)] n1 w (Bv.post w0 L r1 r2 r3 r4):=by
     refine lp (fun _ _ w H _=>by rw [Bv.l5] at H; cases H) fun d1 o1 e1 x348 x349 w H HS=>?_
     rw [Bv.l5] at H
     subst k1
     refine rN 3 Z ?_
     rcases iS H with ⟨c354,H⟩ | ⟨c354,H⟩
     ·
      refine nB Z (tF c354) (rN 4 Z (gW (x1 d1 (Nat.le_of_succ_le o1) _ _ _ H HS) Z))
     refine yB Z (tT c354) (rN 4 Z ?_)
     obtain ⟨c355,H⟩:=iN H
     obtain ⟨c356,H⟩:=iN H
     refine rG (fL b23 1 Lj Z (lB 2 HS Z Lx Z (mV Z (iX Z M8 Pp (rk (ro 4 Z) HS) c355 (GO.Cj (T:=(Ty.slice 2 (Ar .i64))) (n:=x44.toNat) (o:=0) HS (ro 4 Z) Z Z (getD_some (d:=[]) (ltN c355)) Z Z Ih Z (mV Z (GO.ix Z Z Z U56 sz2 ((Ce.elem (ro 4 Z) c355.1 c355.2) _ HS).2.2.1 c356.1 c356.2 Z (GO.Cj (T:=(Ar .i64)) (n:=x349.toNat) (o:=0) HS (Ce.elem (ro 4 Z) c355.1 c355.2) Z Z (getD_some (d:=0) (ltN c356)) Z Z na2 Z (pS 2 Z (nL ?_))))))))))
     rcases iS H with ⟨c357,H⟩ | ⟨c357,H⟩
     ·
      refine nB Z (tF c357) (rN 4 Z (gW (e1 d1 (lR _) _ _ _ H HS) Z))
     refine yB Z (tT c357) (rN 4 Z (gW (e1 d1 (lR _) _ _ _ H HS) Z))
    exact gW (s1 c1 (lR _) _ _ _ H HS) Z
   refine nB Z (tF c344) (rN 4 Z ?_)
   rcases iS H with ⟨c358,H⟩ | ⟨c358,H⟩
   ·
    refine yB Z (nF c358) (sQ (rG (GO.Dr (.agg [.slice none 0 0,.slice none 0 0,.slice none 0 0].toArray) Z Z (fun _=>by kernel_rfl) Z (sW 1 HS Z Ht Z fun wd642 HS=>aS Z (nL ?_)))))
    replace HS:=HS.Dm (Ar .i64) 2 uu
    replace HS:=HS.Dm (Ty.slice 107 Ad) 77 (fun _=>⟨none,0,uu⟩)
    replace HS:=HS.Dm Ci 122 uu
    obtain ⟨rfl,rfl,rfl,rfl⟩:=I8 H
    exact G.Hy _ _ func104 Z (Gz.Hu (j:=4) (vs:=[.slice none 0 0,.slice none 0 0,.slice none 0 0]) HS Z Z Z Ht) Z ⟨_,_,_,_,_,_,_,Z,(HS.pk 9 [2,1,0] Z)⟩
   refine nB Z (nT c358) (rN 2 Z ?_)
   obtain ⟨t359,t360,t361,h362,H⟩:=J3 H
   refine rG (lW 0 HS Z Dq (fJ rO Z (Bb.calls HS (rD 6 r_a) h362) (fun _ wd369 ⟨A363,c364,A365,c366,A367,c368,h370,HS⟩=>⟨_,h370,(pS 7 Z (nL (rN 2 Z ?_)))⟩)))
   obtain ⟨t385,h386,H⟩:=bI H
   obtain ⟨c392,H⟩:=iN H
   obtain ⟨c393,H⟩:=iN H
   rcases iE H with ⟨c394,H⟩ | ⟨c394,H⟩
   ·
    refine rG (lW 3 HS Z Dq (fJ jT Z (Ao.calls HS (rD 9 r_a) h386) (fun _ wd390 ⟨A387,c388,y389,h391,HS⟩=>⟨_,h391,(mV Z (iX Z M8 Pp (rk (ro 0 Z) HS) c392 (GO.Cj (T:=(Ty.slice 2 (Ar .i64))) (n:=o.toNat) (o:=0) HS (ro 0 Z) Z Z (getD_some (d:=[]) (ltN c392)) Z Z Ih Z (mV Z (GO.ix Z Z Z U56 sz2 ((Ce.elem (ro 0 Z) c392.1 c392.2) _ HS).2.2.1 c393.1 c393.2 Z (GO.Cj (T:=(Ar .i64)) (n:=A.toNat) (o:=0) HS (Ce.elem (ro 0 Z) c392.1 c392.2) Z Z (getD_some (d:=0) (ltN c393)) Z Z na2 Z (pS 2 Z (kN 80 Z (tT c394) (oF Z (oF Z (oF Z (GO.Iz Z Z Z Z Z ?_))))))))))))⟩)))
    refine nL (rN 2 Z (rG (GO.Dr (.agg [.slice none 0 0,.slice none 0 0,.slice none 0 0].toArray) Z Z (fun _=>by kernel_rfl) Z (sW 5 HS Z Ht Z fun wd395 HS=>aS Z (nL ?_)))))
    replace HS:=HS.Dm (Ar .i64) 2 uu
    replace HS:=HS.Dm (Ty.slice 107 Ad) 77 (fun _=>⟨none,0,uu⟩)
    replace HS:=HS.Dm Ci 122 uu
    obtain ⟨rfl,rfl,rfl,rfl⟩:=I8 H
    exact G.Hy _ _ func104 Z (Gz.Hu (j:=8) (vs:=[.slice none 0 0,.slice none 0 0,.slice none 0 0]) HS Z Z Z Ht) Z ⟨_,_,_,_,_,_,_,Z,(HS.pk 13 [2,1,0] Z)⟩
   obtain ⟨t396,h397,H⟩:=bI H
   refine rG (lW 3 HS Z Dq (fJ jT Z (Ao.calls HS (rD 9 r_a) h386) (fun _ wd390 ⟨A387,c388,y389,h391,HS⟩=>⟨_,h391,(mV Z (iX Z M8 Pp (rk (ro 0 Z) HS) c392 (GO.Cj (T:=(Ty.slice 2 (Ar .i64))) (n:=o.toNat) (o:=0) HS (ro 0 Z) Z Z (getD_some (d:=[]) (ltN c392)) Z Z Ih Z (mV Z (GO.ix Z Z Z U56 sz2 ((Ce.elem (ro 0 Z) c392.1 c392.2) _ HS).2.2.1 c393.1 c393.2 Z (GO.Cj (T:=(Ar .i64)) (n:=A.toNat) (o:=0) HS (Ce.elem (ro 0 Z) c392.1 c392.2) Z Z (getD_some (d:=0) (ltN c393)) Z Z na2 Z (pS 2 Z (kN 80 Z (tF c394) (oN Z (mV Z (bK (oN Z ?_))))))))))))⟩)))
   refine mV Z (bK (oN Z (fJ Uc Z (Eb.calls HS (ro 2 Z) h397) (fun _ wd398 ⟨h399,HS⟩=>⟨_,h399,(bK (GO.Jm Z Z Z Z Z (nL ?_)))⟩))))
   rcases iE H with ⟨c400,H⟩ | ⟨c400,H⟩
   ·
    refine yB Z c400 (sQ (rG (GO.Dr (.agg [.slice none 0 0,.slice none 0 0,.slice none 0 0].toArray) Z Z (fun _=>by kernel_rfl) Z (sW 5 HS Z Ht Z fun wd401 HS=>aS Z (nL ?_)))))
    replace HS:=HS.Dm (Ar .i64) 2 uu
    replace HS:=HS.Dm (Ty.slice 107 Ad) 77 (fun _=>⟨none,0,uu⟩)
    replace HS:=HS.Dm Ci 122 uu
    obtain ⟨rfl,rfl,rfl,rfl⟩:=I8 H
    exact G.Hy _ _ func104 Z (Gz.Hu (j:=8) (vs:=[.slice none 0 0,.slice none 0 0,.slice none 0 0]) HS Z Z Z Ht) Z ⟨_,_,_,_,_,_,_,Z,(HS.pk 13 [2,1,0] Z)⟩
   refine nB Z (Db c400) (rN 2 Z ?_)
   obtain ⟨t402,h403,H⟩:=bI H
   refine rG (lW 4 HS Z Dq (mV Z (fJ qW Z (F9.calls HS (rD 10 r_a) h403) (fun _ wd406 ⟨A404,c405,h407,HS⟩=>⟨_,h407,(aS Z (nL (rN 2 Z ?_)))⟩))))
   rcases iS H with ⟨c420,H⟩ | ⟨c420,H⟩
   ·
    refine G.lex mixed [0,1,2,3,4,5,6,8,9,10,7,11,12,13,14,15,16,17,19,20,21,18,22,23,24,25,26,27,28,30,31,32,29,33,34,35] (by kernel_rfl) ?_
    replace HS:=HS.drew
    refine GX.ps 1 Z (GX.l1 Z Z Z (fun _ g=>lS Z Z Jp Z g) Z (GX.ps 1 Z (qL Z Z (fun _ _ g=>mV Z (kN 92 Z (nF c420) g)) Z (qL Z Z (fun _ _ g=>oF Z g) Z (qL Z Z (fun _ _ g=>oF Z g) Z (qL Z Z (fun _ _ g=>oF Z g) Z (qL Z Z (fun _ _ g=>oF Z g) Z (qL Z Z (fun _ _ g=>oF Z g) Z (qL Z Z (fun _ _ g=>oF Z g) Z (GX.l1 Z Z Z (fun _ g=>oF Z g) Z (GX.l1 Z Z Z (fun _ g=>oF Z g) Z (qL Z Z (fun _ _ g=>oF Z g) Z (GX.ps 2 Z (qL Z Z (fun _ _ g=>oF Z g) Z ?_))))))))))))))
    refine qL Z Z (fun _ _ g=>oF Z g) Z (qL Z Z (fun _ _ g=>oF Z g) Z (qL Z Z (fun _ _ g=>oF Z g) Z (qL Z Z (fun _ _ g=>oF Z g) Z (qL Z Z (fun _ _ g=>oF Z g) Z (GX.l1 Z Z Z (fun _ g=>oF Z g) Z (GX.l1 Z Z Z (fun _ g=>oF Z g) Z (qL Z Z (fun _ _ g=>oF Z g) Z (GX.ps 2 Z (qL Z Z (fun _ _ g=>oF Z g) Z (qL Z Z (fun _ _ g=>oF Z g) Z (qL Z Z (fun _ _ g=>oF Z g) Z (qL Z Z (fun _ _ g=>oF Z g) Z (qL Z Z (fun _ _ g=>oF Z g) Z (qL Z Z (fun _ _ g=>oF Z g) Z ?_))))))))))))))
    refine GX.l1 Z Z Z (fun _ g=>oF Z g) Z (GX.l1 Z Z Z (fun _ g=>oF Z g) Z (qL Z Z (fun _ _ g=>oF Z g) Z (GX.ps 1 Z (GX.nil (rN 2 Z (rG (GO.Dr (.agg [.slice none 0 0,.slice none 0 0,.slice none 0 0].toArray) Z Z (fun _=>by kernel_rfl) Z (sW 6 HS Z Ht Z fun wd641 HS=>aS Z (nL ?_)))))))))
    replace HS:=HS.Dm (Ar .i64) 2 uu
    replace HS:=HS.Dm (Ty.slice 107 Ad) 77 (fun _=>⟨none,0,uu⟩)
    replace HS:=HS.Dm Ci 122 uu
    obtain ⟨rfl,rfl,rfl,rfl⟩:=I8 H
    exact G.Hy _ _ func104 Z (Gz.Hu (j:=9) (vs:=[.slice none 0 0,.slice none 0 0,.slice none 0 0]) HS Z Z Z Ht) Z ⟨_,_,_,_,_,_,_,Z,(HS.pk 14 [2,1,0] Z)⟩
   obtain ⟨c421,H⟩:=iN H
   have h422:=(rk (ro 0 Z) HS)
   obtain ⟨e423,h424,H⟩:=Di H
   obtain ⟨c425,H⟩:=iN H
   have h426:=(rk (ro 0 Z) HS)
   obtain ⟨e427,h428,H⟩:=Di H
   rcases iE H with ⟨c429,H⟩ | ⟨c429,H⟩
   ·
    refine G.lex mixed [0,1,2,3,4,5,6,8,9,10,7,11,12,13,14,15,16,17,19,20,21,18,22,23,24,25,26,27,28,30,31,32,29,33,34,35] (by kernel_rfl) ?_
    replace HS:=HS.drew
    refine GX.ps 1 Z (GX.l1 Z Z Z (fun _ g=>lS Z Z Jp Z g) Z (GX.ps 1 Z (qL Z Z (fun _ _ g=>mV Z (kN 92 Z (nT c420) g)) Z (qL Z Z (fun _ _ g=>oN Z (mV Z (bK g))) Z (qL Z Z (fun _ _ g=>oN Z (iX Z Jp Ji h422 c421 (bK g))) Z (qL Z Z (fun _ _ g=>oN Z (GO.fld (ea A404 (0 * 2)) Z Z Gx Z Z (bK g))) Z (qL Z Z (fun _ _ g=>oN Z (mV Z (bK g))) Z (qL Z Z (fun _ _ g=>oN Z (iX Z Jp Ji h426 c425 (bK g))) Z (qL Z Z (fun _ _ g=>oN Z (GO.fld (ea A404 (1 * 2)) Z Z Gx Z Z (bK g))) Z (GX.l1 Z Z Z (fun _ g=>oN Z (GO.Cj (T:=Ad) (n:=0) (o:=0) HS (ro 0 Z) Z Z (Cn (ltN c421) h424) Z Z na2 Z (bK g))) Z (GX.l1 Z Z Z (fun _ g=>oN Z (GO.Cj (T:=Ad) (n:=1) (o:=0) HS (ro 0 Z) Z Z (Cn (ltN c425) h428) Z Z na2 Z (bK g))) Z (qL Z Z (fun _ _ g=>oN Z (GO.eql Z Z Z Z (bK g))) Z (GX.ps 1 Z (qL Z Z (fun _ _ g=>mV Z (kN 103 Z (tT c429) g)) Z ?_))))))))))))))
    refine qL Z Z (fun _ _ g=>oF Z g) Z (qL Z Z (fun _ _ g=>oF Z g) Z (qL Z Z (fun _ _ g=>oF Z g) Z (qL Z Z (fun _ _ g=>oF Z g) Z (qL Z Z (fun _ _ g=>oF Z g) Z (qL Z Z (fun _ _ g=>oF Z g) Z (GX.l1 Z Z Z (fun _ g=>oF Z g) Z (GX.l1 Z Z Z (fun _ g=>oF Z g) Z (qL Z Z (fun _ _ g=>oF Z g) Z (GX.ps 2 Z (qL Z Z (fun _ _ g=>oF Z g) Z (qL Z Z (fun _ _ g=>oF Z g) Z (qL Z Z (fun _ _ g=>oF Z g) Z (qL Z Z (fun _ _ g=>oF Z g) Z (qL Z Z (fun _ _ g=>oF Z g) Z ?_))))))))))))))
    refine qL Z Z (fun _ _ g=>oF Z g) Z (GX.l1 Z Z Z (fun _ g=>oF Z g) Z (GX.l1 Z Z Z (fun _ g=>oF Z g) Z (qL Z Z (fun _ _ g=>oF Z g) Z (GX.ps 1 Z (GX.nil (rN 2 Z (rG (GO.Dr (.agg [.slice none 0 0,.slice none 0 0,.slice none 0 0].toArray) Z Z (fun _=>by kernel_rfl) Z (sW 6 HS Z Ht Z fun wd430 HS=>aS Z (nL ?_))))))))))
    replace HS:=HS.Dm (Ar .i64) 2 uu
    replace HS:=HS.Dm (Ty.slice 107 Ad) 77 (fun _=>⟨none,0,uu⟩)
    replace HS:=HS.Dm Ci 122 uu
    obtain ⟨rfl,rfl,rfl,rfl⟩:=I8 H
    exact G.Hy _ _ func104 Z (Gz.Hu (j:=9) (vs:=[.slice none 0 0,.slice none 0 0,.slice none 0 0]) HS Z Z Z Ht) Z ⟨_,_,_,_,_,_,_,Z,(HS.pk 14 [2,1,0] Z)⟩
   obtain ⟨c431,H⟩:=iN H
   obtain ⟨e432,h433,H⟩:=Di H
   rcases iE H with ⟨c434,H⟩ | ⟨c434,H⟩
   ·
    refine G.lex mixed [0,1,2,3,4,5,6,8,9,10,7,11,12,13,14,15,16,17,19,20,21,18,22,23,24,25,26,27,28,30,31,32,29,33,34,35] (by kernel_rfl) ?_
    replace HS:=HS.drew
    refine GX.ps 1 Z (GX.l1 Z Z Z (fun _ g=>lS Z Z Jp Z g) Z (GX.ps 1 Z (qL Z Z (fun _ _ g=>mV Z (kN 92 Z (nT c420) g)) Z (qL Z Z (fun _ _ g=>oN Z (mV Z (bK g))) Z (qL Z Z (fun _ _ g=>oN Z (iX Z Jp Ji h422 c421 (bK g))) Z (qL Z Z (fun _ _ g=>oN Z (GO.fld (ea A404 (0 * 2)) Z Z Gx Z Z (bK g))) Z (qL Z Z (fun _ _ g=>oN Z (mV Z (bK g))) Z (qL Z Z (fun _ _ g=>oN Z (iX Z Jp Ji h426 c425 (bK g))) Z (qL Z Z (fun _ _ g=>oN Z (GO.fld (ea A404 (1 * 2)) Z Z Gx Z Z (bK g))) Z (GX.l1 Z Z Z (fun _ g=>oN Z (GO.Cj (T:=Ad) (n:=0) (o:=0) HS (ro 0 Z) Z Z (Cn (ltN c421) h424) Z Z na2 Z (bK g))) Z (GX.l1 Z Z Z (fun _ g=>oN Z (GO.Cj (T:=Ad) (n:=1) (o:=0) HS (ro 0 Z) Z Z (Cn (ltN c425) h428) Z Z na2 Z (bK g))) Z (qL Z Z (fun _ _ g=>oN Z (GO.eql Z Z Z Z (bK g))) Z (GX.ps 1 Z (qL Z Z (fun _ _ g=>mV Z (kN 103 Z (tF c429) g)) Z ?_))))))))))))))
    refine qL Z Z (fun _ _ g=>oN Z (mV Z (bK g))) Z (qL Z Z (fun _ _ g=>oN Z (iX Z Jp Ji (rk (ro 0 Z) HS) c425 (bK g))) Z (qL Z Z (fun _ _ g=>oN Z (GO.fld (ea A404 (1 * 2)) Z Z Gx Z Z (bK g))) Z (qL Z Z (fun _ _ g=>oN Z (mV Z (bK g))) Z (qL Z Z (fun _ _ g=>oN Z (iX Z Jp Ji (rk (ro 0 Z) HS) c431 (bK g))) Z (qL Z Z (fun _ _ g=>oN Z (GO.fld (ea A404 (2 * 2)) Z Z Gx Z Z (bK g))) Z (GX.l1 Z Z Z (fun _ g=>oN Z (GO.Cj (T:=Ad) (n:=1) (o:=0) HS (ro 0 Z) Z Z (Cn (ltN c425) h428) Z Z na2 Z (bK g))) Z (GX.l1 Z Z Z (fun _ g=>oN Z (GO.Cj (T:=Ad) (n:=2) (o:=0) HS (ro 0 Z) Z Z (Cn (ltN c431) h433) Z Z na2 Z (bK g))) Z (qL Z Z (fun _ _ g=>oN Z (GO.eql Z Z Z Z (bK g))) Z (GX.ps 1 Z (qL Z Z (fun _ _ g=>mV Z (kN 114 Z (tT c434) g)) Z (qL Z Z (fun _ _ g=>oF Z g) Z (qL Z Z (fun _ _ g=>oF Z g) Z (qL Z Z (fun _ _ g=>oF Z g) Z (qL Z Z (fun _ _ g=>oF Z g) Z ?_))))))))))))))
    refine qL Z Z (fun _ _ g=>oF Z g) Z (qL Z Z (fun _ _ g=>oF Z g) Z (GX.l1 Z Z Z (fun _ g=>oF Z g) Z (GX.l1 Z Z Z (fun _ g=>oF Z g) Z (qL Z Z (fun _ _ g=>oF Z g) Z (GX.ps 1 Z (GX.nil (rN 2 Z (rG (GO.Dr (.agg [.slice none 0 0,.slice none 0 0,.slice none 0 0].toArray) Z Z (fun _=>by kernel_rfl) Z (sW 6 HS Z Ht Z fun wd435 HS=>aS Z (nL ?_)))))))))))
    replace HS:=HS.Dm (Ar .i64) 2 uu
    replace HS:=HS.Dm (Ty.slice 107 Ad) 77 (fun _=>⟨none,0,uu⟩)
    replace HS:=HS.Dm Ci 122 uu
    obtain ⟨rfl,rfl,rfl,rfl⟩:=I8 H
    exact G.Hy _ _ func104 Z (Gz.Hu (j:=9) (vs:=[.slice none 0 0,.slice none 0 0,.slice none 0 0]) HS Z Z Z Ht) Z ⟨_,_,_,_,_,_,_,Z,(HS.pk 14 [2,1,0] Z)⟩
   refine G.lex mixed [0,1,2,3,4,5,6,8,9,10,7,11,12,13,14,15,16,17,19,20,21,18,22,23,24,25,26,27,28,30,31,32,29,33,34,35] (by kernel_rfl) ?_
   replace HS:=HS.drew
   refine GX.ps 1 Z (GX.l1 Z Z Z (fun _ g=>lS Z Z Jp Z g) Z (GX.ps 1 Z (qL Z Z (fun _ _ g=>mV Z (kN 92 Z (nT c420) g)) Z (qL Z Z (fun _ _ g=>oN Z (mV Z (bK g))) Z (qL Z Z (fun _ _ g=>oN Z (iX Z Jp Ji h422 c421 (bK g))) Z (qL Z Z (fun _ _ g=>oN Z (GO.fld (ea A404 (0 * 2)) Z Z Gx Z Z (bK g))) Z (qL Z Z (fun _ _ g=>oN Z (mV Z (bK g))) Z (qL Z Z (fun _ _ g=>oN Z (iX Z Jp Ji h426 c425 (bK g))) Z (qL Z Z (fun _ _ g=>oN Z (GO.fld (ea A404 (1 * 2)) Z Z Gx Z Z (bK g))) Z (GX.l1 Z Z Z (fun _ g=>oN Z (GO.Cj (T:=Ad) (n:=0) (o:=0) HS (ro 0 Z) Z Z (Cn (ltN c421) h424) Z Z na2 Z (bK g))) Z (GX.l1 Z Z Z (fun _ g=>oN Z (GO.Cj (T:=Ad) (n:=1) (o:=0) HS (ro 0 Z) Z Z (Cn (ltN c425) h428) Z Z na2 Z (bK g))) Z (qL Z Z (fun _ _ g=>oN Z (GO.eql Z Z Z Z (bK g))) Z (GX.ps 1 Z (qL Z Z (fun _ _ g=>mV Z (kN 103 Z (tF c429) g)) Z ?_))))))))))))))
   refine qL Z Z (fun _ _ g=>oN Z (mV Z (bK g))) Z (qL Z Z (fun _ _ g=>oN Z (iX Z Jp Ji (rk (ro 0 Z) HS) c425 (bK g))) Z (qL Z Z (fun _ _ g=>oN Z (GO.fld (ea A404 (1 * 2)) Z Z Gx Z Z (bK g))) Z (qL Z Z (fun _ _ g=>oN Z (mV Z (bK g))) Z (qL Z Z (fun _ _ g=>oN Z (iX Z Jp Ji (rk (ro 0 Z) HS) c431 (bK g))) Z (qL Z Z (fun _ _ g=>oN Z (GO.fld (ea A404 (2 * 2)) Z Z Gx Z Z (bK g))) Z (GX.l1 Z Z Z (fun _ g=>oN Z (GO.Cj (T:=Ad) (n:=1) (o:=0) HS (ro 0 Z) Z Z (Cn (ltN c425) h428) Z Z na2 Z (bK g))) Z (GX.l1 Z Z Z (fun _ g=>oN Z (GO.Cj (T:=Ad) (n:=2) (o:=0) HS (ro 0 Z) Z Z (Cn (ltN c431) h433) Z Z na2 Z (bK g))) Z (qL Z Z (fun _ _ g=>oN Z (GO.eql Z Z Z Z (bK g))) Z (GX.ps 1 Z (qL Z Z (fun _ _ g=>mV Z (kN 114 Z (tF c434) g)) Z (qL Z Z (fun _ _ g=>oN Z (mV Z (bK g))) Z (qL Z Z (fun _ _ g=>oN Z (iX Z Jp Ji (rk (ro 0 Z) HS) c421 (bK g))) Z (qL Z Z (fun _ _ g=>oN Z (GO.fld (ea A404 (0 * 2)) Z Z Gx Z Z (bK g))) Z (qL Z Z (fun _ _ g=>oN Z (mV Z (bK g))) Z ?_))))))))))))))
   refine qL Z Z (fun _ _ g=>oN Z (iX Z Jp Ji (rk (ro 0 Z) HS) c431 (bK g))) Z (qL Z Z (fun _ _ g=>oN Z (GO.fld (ea A404 (2 * 2)) Z Z Gx Z Z (bK g))) Z (GX.l1 Z Z Z (fun _ g=>oN Z (GO.Cj (T:=Ad) (n:=0) (o:=0) HS (ro 0 Z) Z Z (Cn (ltN c421) h424) Z Z na2 Z (bK g))) Z (GX.l1 Z Z Z (fun _ g=>oN Z (GO.Cj (T:=Ad) (n:=2) (o:=0) HS (ro 0 Z) Z Z (Cn (ltN c431) h433) Z Z na2 Z (bK g))) Z (qL Z Z (fun _ _ g=>oN Z (GO.eql Z Z Z Z (bK g))) Z (GX.ps 1 Z (GX.nil ?_))))))
   rcases iE H with ⟨c436,H⟩ | ⟨c436,H⟩
   ·
    refine yB Z (tT c436) (sQ (rG (GO.Dr (.agg [.slice none 0 0,.slice none 0 0,.slice none 0 0].toArray) Z Z (fun _=>by kernel_rfl) Z (sW 6 HS Z Ht Z fun wd437 HS=>aS Z (nL ?_)))))
    replace HS:=HS.Dm (Ar .i64) 2 uu
    replace HS:=HS.Dm (Ty.slice 107 Ad) 77 (fun _=>⟨none,0,uu⟩)
    replace HS:=HS.Dm Ci 122 uu
    obtain ⟨rfl,rfl,rfl,rfl⟩:=I8 H
    exact G.Hy _ _ func104 Z (Gz.Hu (j:=9) (vs:=[.slice none 0 0,.slice none 0 0,.slice none 0 0]) HS Z Z Z Ht) Z ⟨_,_,_,_,_,_,_,Z,(HS.pk 14 [2,1,0] Z)⟩
   refine nB Z (tF c436) (rN 2 Z ?_)
   obtain ⟨t438,h439,H⟩:=bI H
   obtain ⟨t444,h445,H⟩:=bI H
   refine rG (fJ Ti Z (Gd.calls HS  h439) (fun _ wd442 ⟨A440,c441,h443,HS⟩=>⟨_,h443,(fJ Ti Z (Gd.calls HS  h445) (fun _ wd448 ⟨A446,c447,h449,HS⟩=>⟨_,h449,(GO.Cw (el:=77) ([sV A440 t438 c441,sV A446 t444 c447]) HS Z Z (fun _=>by kernel_rfl) Z fun b450 wd451 HS=>?_)⟩))⟩))
   obtain ⟨y452,HS⟩:=oK (St.qA (St.jK (St.jK (St.oI (T:=(Ty.slice 107 Ad)) 2 (fun k=>match k with | 0=>⟨A440,c441,uu⟩ | _=>⟨A446,c447,uu⟩) (HS.pk 14 [1,2,0,3,4,5,6,7,8,9,10,11,12,13] Z)))) Z (Il Z))
   refine GO.H7 (t:=128) (m:=([t438,t444]:List (List Ab)).length) (c':=([t438,t444]:List (List Ab)).length) Z Z Z (GO.Dr (.agg [.slice none 0 0,sV (sb b450) ([t438,t444]:List (List Ab)) (([t438,t444]:List (List Ab)).length),.slice none 0 0].toArray) Z Z (fun _=>by kernel_rfl) Z (GO.alloc HS Z Qr Z Z fun b453 wd454 HS=>sW 0 HS Z Ht Z fun wd455 HS=>nL (sQ ?_)))
   obtain ⟨c456,H⟩:=iN H
   obtain ⟨c457,H⟩:=iN H
   refine rG (fL b453 1 N8 Z (lB 0 HS Z Gu Z (iX Z U29 Jg (fun _=>⟨_,_,Z⟩) c456 (GO.Cj (T:=(Ty.slice 107 Ad)) (n:=0) (o:=0) HS (ro 1 Z) Z Z (getD_some (d:=[]) (ltN c456)) Z Z Jh Z (GO.Dr (.agg [I 1,I 0].toArray) Z Z (fun _=>by kernel_rfl) Z (GO.ix Z Z Z U77 G9 ((Ce.elem (ro 1 Z) c456.1 c456.2) _ HS).2.2.1 c457.1 c457.2 Z ?_))))))
   replace HS:=HS.pk 13 [1,0,2,3,4,5,6,7,8,9,10,11,12] Z
   refine GO.Tq (S:=Ad) (k:=0) (n:=0) (o:=0) (vs:=[I 1,I 0]) (⟨1,0⟩:Ab) HS Ba Z Z Z Z (htA D9) Z (ltN c456) (getD_some (d:=Bj) (ltN c457)) Z Z fun wd458 HS=>nL ?_
   replace HS:=HS.K3 (j:=1) (cs':=[.slice none 0 0,sV (sb b450) (([t438,t444]:List (List Ab)).set 0 ((([t438,t444]:List (List Ab)).getD 0 []).set 0 (⟨1,0⟩:Ab))) (([t438,t444]:List (List Ab)).length),.slice none 0 0]) Z (by simp only [sV,List.length_set] <;> rfl)
   refine sQ ?_
   obtain ⟨c459,H⟩:=iN H
   obtain ⟨c460,H⟩:=iN H
   refine rG (fL b453 1 N8 Z (lB 1 HS Z Gu Z (iX Z U29 Jg (fun _=>⟨_,_,Z⟩) c459 (GO.Cj (T:=(Ty.slice 107 Ad)) (n:=1) (o:=0) HS (ro 0 Z) Z Z (getD_some (d:=[]) (ltN c459)) Z Z Jh Z (GO.Dr (.agg [I 0,I 0].toArray) Z Z (fun _=>by kernel_rfl) Z (GO.ix Z Z Z U77 G9 ((Ce.elem (ro 0 Z) c459.1 c459.2) _ HS).2.2.1 c460.1 c460.2 Z (GO.Tq (S:=Ad) (k:=1) (n:=0) (o:=0) (vs:=[I 0,I 0]) (⟨0,0⟩:Ab) HS Ba Z Z Z Z (htA D9) Z (ltN c459) (getD_some (d:=Bj) (ltN c460)) Z Z fun wd461 HS=>nL ?_)))))))
   replace HS:=HS.K3 (j:=1) (cs':=[.slice none 0 0,sV (sb b450) ((([t438,t444]:List (List Ab)).set 0 ((([t438,t444]:List (List Ab)).getD 0 []).set 0 (⟨1,0⟩:Ab))).set 1 (((([t438,t444]:List (List Ab)).set 0 ((([t438,t444]:List (List Ab)).getD 0 []).set 0 (⟨1,0⟩:Ab))).getD 1 []).set 0 (⟨0,0⟩:Ab))) (([t438,t444]:List (List Ab)).length),.slice none 0 0]) Z (by simp only [sV,List.length_set] <;> rfl)
   refine rN 5 Z ?_
   refine G.name (fun p1 t1=>?_)
   have m1:∀ h1,h1≤c1→∀ (A516:Option Addr) (c517:Nat) (x518:List Int) (A519:Option Addr) (c520:Nat) (x521:List Av) (x522:Int) (w:World),Bv.l6 K h1 t402 t438 t444 x518 x521 x522=some (r1,r2,r3,r4)→St w0 w (Box b3 65 [.slice none 0 0,.slice none 0 0,.slice none 0 0]::Own Ad 167 A404 c405 uu t402::Box b453 65 [sV A516 x518 c517,sV (sb b450) ((([t438,t444]:List (List Ab)).set 0 ((([t438,t444]:List (List Ab)).getD 0 []).set 0 (⟨1,0⟩:Ab))).set 1 (((([t438,t444]:List (List Ab)).set 0 ((([t438,t444]:List (List Ab)).getD 0 []).set 0 (⟨1,0⟩:Ab))).getD 1 []).set 0 (⟨0,0⟩:Ab))) (([t438,t444]:List (List Ab)).length),sV A519 x521 c520]::Own (Ar .i64) 2 A516 c517 uu x518::Own (Ty.slice 107 Ad) 77 (sb b450) (([t438,t444]:List (List Ab)).length) y452 ((([t438,t444]:List (List Ab)).set 0 ((([t438,t444]:List (List Ab)).getD 0 []).set 0 (⟨1,0⟩:Ab))).set 1 (((([t438,t444]:List (List Ab)).set 0 ((([t438,t444]:List (List Ab)).getD 0 []).set 0 (⟨1,0⟩:Ab))).getD 1 []).set 0 (⟨0,0⟩:Ab)))::Own Ci 122 A519 c520 uu x521::L)→G prog 104 213 [(6,pT b3),(17,sV A404 t402 c405),(18,pT b453),(19,I x522)] p1 w (Bv.post w0 L r1 r2 r3 r4):=by
    refine lp (fun _ _ _ _ _ _ _ w H _=>by rw [Bv.l6] at H; cases H) fun q1 z1 y1 A516 c517 x518 A519 c520 x521 x522 w H HS=>?_
    rw [Bv.l6] at H
    subst t1
    refine rN 3 Z ?_
    rcases iS H with ⟨c582,H⟩ | ⟨c582,H⟩
    ·
     refine nB Z (tF c582) (rN 2 Z (rG (lW 2 HS Z Ht (sW 0 HS Z Ht Z fun wd640 HS=>aS Z (nL ?_)))))
     obtain ⟨rfl,rfl,rfl,rfl⟩:=I8 H
     exact G.Hy _ _ func104 Z (Gz.Hu (j:=0) (vs:=[sV A516 x518 c517,sV (sb b450) ((([t438,t444]:List (List Ab)).set 0 ((([t438,t444]:List (List Ab)).getD 0 []).set 0 (⟨1,0⟩:Ab))).set 1 (((([t438,t444]:List (List Ab)).set 0 ((([t438,t444]:List (List Ab)).getD 0 []).set 0 (⟨1,0⟩:Ab))).getD 1 []).set 0 (⟨0,0⟩:Ab))) (([t438,t444]:List (List Ab)).length),sV A519 x521 c520]) HS Z Z Z Ht) Z ⟨_,_,_,_,_,_,_,Z,(HS.pk 6 [3,4,5] Z)⟩
    refine yB Z (tT c582) (rN 4 Z ?_)
    obtain ⟨c583,H⟩:=iN H
    obtain ⟨e584,h585,H⟩:=Di H
    refine rG (pS 2 Z (iX Z Jp Ji (rk (ro 1 Z) HS) c583 (GO.Hw (T:=Ad) (n:=x522.toNat) HS (ro 1 Z) Z Z (Cn (ltN c583) h585) Iq Z (GO.alloc HS Z Pk Z Z fun b586 wd587 HS=>sW 0 HS Z Iq Z fun wd588 HS=>nL (sQ ?_)))))
    obtain ⟨c594,H⟩:=iN H
    refine rG (fL b453 0 P8 Z (lB 3 HS Z Ih Z (fL b586 0 Gx Z (lB 0 HS Z na2 Z (GO.Cw (el:=2) ([I e584.Tet]) HS Z Z (fun _=>by kernel_rfl) Z fun b589 wd590 HS=>GO.app1 (T:=(Ar .i64)) (j:=5) (jb:=0) e584.Tet HS Z Z Ba Z Z Z U56 Ml Z Z Z c594 Z fun A592 c593 wd591 HS=>fL b453 0 P8 Z (GO.Ie (j:=4) (vs:=[sV A592 (x518++[e584.Tet]) c593]) ([sV A592 (x518++[e584.Tet]) c593,sV (sb b450) ((([t438,t444]:List (List Ab)).set 0 ((([t438,t444]:List (List Ab)).getD 0 []).set 0 (⟨1,0⟩:Ab))).set 1 (((([t438,t444]:List (List Ab)).set 0 ((([t438,t444]:List (List Ab)).getD 0 []).set 0 (⟨1,0⟩:Ab))).getD 1 []).set 0 (⟨0,0⟩:Ab))) (([t438,t444]:List (List Ab)).length),sV A519 x521 c520]) HS Z Z Z Z Z (htN Ih Z) Z Z Z fun wd595 HS=>nL (sQ ?_)))))))
    obtain ⟨t596,h597,H⟩:=bI H
    obtain ⟨t600,h601,H⟩:=bI H
    obtain ⟨t604,h605,H⟩:=bI H
    obtain ⟨t608,h609,H⟩:=bI H
    refine G.H8 mixed (fun w=>St w0 w (Box b586 167 [I e584.Tet,I e584.Perm]::L)) [1,4,7,10] [0,3,6,9,1,4,7,10,2,5,8,11,12,13,14,15] [] (by kernel_rfl) (by kernel_rfl) (HS.drew.pk 8 [1] Z) ?_
    replace HS:=HS.drew
    refine qL Z Z (fun _ _ g=>fL b586 1 M0 Z g) Z (qL Z Z (fun _ _ g=>fL b586 1 M0 Z g) Z (qL Z Z (fun _ _ g=>fL b586 1 M0 Z g) Z (qL Z Z (fun _ _ g=>fL b586 1 M0 Z g) Z (GX.ls Z Z Z (HS.pk 8 [1] Z) (fun _ HS _ g=>lB 0 HS Z na2 Z g) Z (GX.ls Z Z Z (HS.pk 8 [1] Z) (fun _ HS _ g=>lB 0 HS Z na2 Z g) Z (GX.ls Z Z Z (HS.pk 8 [1] Z) (fun _ HS _ g=>lB 0 HS Z na2 Z g) Z (GX.ls Z Z Z (HS.pk 8 [1] Z) (fun _ HS _ g=>lB 0 HS Z na2 Z g) Z (GX.l2 Z (fJ Jt Z (Bq.calls HS  h597) (fun _ wd598 ⟨h599,HS⟩=>⟨_,h599,(GX.fin (HS.pk 8 [1] Z) (GX.l2 Z (fJ Jt Z (Bq.calls HS  h601) (fun _ wd602 ⟨h603,HS⟩=>⟨_,h603,(GX.fin (HS.pk 8 [1] Z) (GX.l2 Z ?_))⟩))))⟩))))))))))
    refine fJ Jt Z (Bq.calls HS  h605) (fun _ wd606 ⟨h607,HS⟩=>⟨_,h607,(GX.fin (HS.pk 8 [1] Z) (GX.l2 Z (fJ Jt Z (Bq.calls HS  h609) (fun _ wd610 ⟨h611,HS⟩=>⟨_,h611,(GX.fin (HS.pk 8 [1] Z) (GX.ps 4 Z (GX.nil (sQ (rG (pS 4 Z (GO.rem Z Z Z (by decide) Z (pS 3 Z (GO.rem Z Z Z (by decide) Z (GO.add Z Z Z Z (GO.Cw (el:=2) ([I 0,I (w64 (1+x522)),I (w64 (1+((w64 (x522+1)).tmod 3))),I (w64 (1+((w64 (x522+2)).tmod 3)))]) HS Z Z (fun _=>by kernel_rfl) Z fun b612 wd613 HS=>?_)))))))))))⟩))))⟩)
    replace HS:=HS.Fq (T:=(Ar .i64)) (j:=0) Z Ba uu ([0,w64 (1+x522),w64 (1+((w64 (x522+1)).tmod 3)),w64 (1+((w64 (x522+2)).tmod 3))]:List Int) Z (Il Z)
    refine GO.H7 (t:=179) (m:=([0,w64 (1+x522),w64 (1+((w64 (x522+1)).tmod 3)),w64 (1+((w64 (x522+2)).tmod 3))]:List Int).length) (c':=([0,w64 (1+x522),w64 (1+((w64 (x522+1)).tmod 3)),w64 (1+((w64 (x522+2)).tmod 3))]:List Int).length) Z Z Z (aS Z (nL (sQ ?_)))
    obtain ⟨t616,h617,H⟩:=bI H
    obtain ⟨c625,H⟩:=iN H
    refine G.H8 mixed (fun w=>St w0 w (Box b586 167 [I e584.Tet,I e584.Perm]::Box b453 65 [sV A592 (x518++[e584.Tet]) c593,sV (sb b450) ((([t438,t444]:List (List Ab)).set 0 ((([t438,t444]:List (List Ab)).getD 0 []).set 0 (⟨1,0⟩:Ab))).set 1 (((([t438,t444]:List (List Ab)).set 0 ((([t438,t444]:List (List Ab)).getD 0 []).set 0 (⟨1,0⟩:Ab))).getD 1 []).set 0 (⟨0,0⟩:Ab))) (([t438,t444]:List (List Ab)).length),sV A519 x521 c520]::L)) [1,3] [0,2,4,5,6,7,8,10,1,3,9,11,12,13,14,15,16] [16] (by kernel_rfl) (by kernel_rfl) (HS.drew.pk 9 [2,5] Z) ?_
    replace HS:=HS.drew
    refine qL Z Z (fun _ _ g=>fL b453 2 Ko Z g) Z (qL Z Z (fun _ _ g=>fL b586 0 Gx Z g) Z (GX.ps 6 Z (GX.ls Z Z Z (HS.pk 9 [2,5] Z) (fun _ HS _ g=>lB 1 HS Z Pf Z g) Z (GX.ls Z Z Z (HS.pk 9 [2,5] Z) (fun _ HS _ g=>lB 0 HS Z na2 Z g) Z (GX.l2 Z (GO.Cw (el:=2) ([I t596,I t604,I t608,I t600]) HS Z Z (fun _=>by kernel_rfl) Z fun b614 wd615 HS=>GX.fin (HS.pk 10 [3,6] Z) (GX.l2 Z ?_)))))))
    replace HS:=HS.Fq (T:=(Ar .i64)) (j:=0) Z Ba uu ([t596,t604,t608,t600]:List Int) Z (Il Z)
    refine GO.H7 (t:=189) (m:=([t596,t604,t608,t600]:List Int).length) (c':=([t596,t604,t608,t600]:List Int).length) Z Z Z (fJ Wl Z (Fe.calls HS (ro 0 Z) (ro 1 Z) h617) (fun _ wd618 ⟨h619,HS⟩=>⟨_,h619,(GX.fin (HS.pk 10 [3,6] Z) (qL Z Z (fun _ _ g=>GO.Dr (.agg [I e584.Tet,I t600,I 0,I t616].toArray) Z Z (fun _=>by kernel_rfl) Z g) Z (GX.l2 Z (GO.Cw (el:=122) ([I e584.Tet,I t600,I 0,I t616]) HS Z Z (fun _=>by kernel_rfl) Z fun b620 wd621 HS=>GX.fin (HS.pk 11 [4,7] Z) (GX.l2 Z (GO.app1 (T:=Ci) (j:=10) (jb:=0) (⟨e584.Tet,t600,0,t616⟩:Av) HS Z Z Ba Z Z Z U63 Q3 Z Z Z c625 Z fun A623 c624 wd622 HS=>GX.fin (HS.pk 11 [4,7] Z) (qL Z Z (fun _ _ g=>fL b453 2 Ko Z g) Z (GX.l2 Z (GO.Ie (j:=7) (vs:=[sV A623 (x521++[(⟨e584.Tet,t600,0,t616⟩:Av)]) c624]) ([sV A592 (x518++[e584.Tet]) c593,sV (sb b450) ((([t438,t444]:List (List Ab)).set 0 ((([t438,t444]:List (List Ab)).getD 0 []).set 0 (⟨1,0⟩:Ab))).set 1 (((([t438,t444]:List (List Ab)).set 0 ((([t438,t444]:List (List Ab)).getD 0 []).set 0 (⟨1,0⟩:Ab))).getD 1 []).set 0 (⟨0,0⟩:Ab))) (([t438,t444]:List (List Ab)).length),sV A623 (x521++[(⟨e584.Tet,t600,0,t616⟩:Av)]) c624]) HS Z Z Z Z Z (htN Pf Z) Z Z Z fun wd626 HS=>GX.Qt Z (GX.nil ?_))))))))))⟩))
    obtain ⟨t629,h630,H⟩:=bI H
    obtain ⟨c638,H⟩:=iN H
    refine G.H8 mixed (fun w=>St w0 w (Box b586 167 [I e584.Tet,I e584.Perm]::Box b453 65 [sV A592 (x518++[e584.Tet]) c593,sV (sb b450) ((([t438,t444]:List (List Ab)).set 0 ((([t438,t444]:List (List Ab)).getD 0 []).set 0 (⟨1,0⟩:Ab))).set 1 (((([t438,t444]:List (List Ab)).set 0 ((([t438,t444]:List (List Ab)).getD 0 []).set 0 (⟨1,0⟩:Ab))).getD 1 []).set 0 (⟨0,0⟩:Ab))) (([t438,t444]:List (List Ab)).length),sV A623 (x521++[(⟨e584.Tet,t600,0,t616⟩:Av)]) c624]::L)) [1,3] [0,2,4,5,6,7,8,10,1,3,9,11,12,13,14,15,16] [16] (by kernel_rfl) (by kernel_rfl) (HS.drew.pk 11 [4,7] Z) ?_
    replace HS:=HS.drew
    refine qL Z Z (fun _ _ g=>fL b453 2 Ko Z g) Z (qL Z Z (fun _ _ g=>fL b586 0 Gx Z g) Z (GX.ps 6 Z (GX.ls Z Z Z (HS.pk 11 [4,7] Z) (fun _ HS _ g=>lB 1 HS Z Pf Z g) Z (GX.ls Z Z Z (HS.pk 11 [4,7] Z) (fun _ HS _ g=>lB 0 HS Z na2 Z g) Z (GX.l2 Z (GO.Cw (el:=2) ([I t600,I t604,I t608,I t596]) HS Z Z (fun _=>by kernel_rfl) Z fun b627 wd628 HS=>GX.fin (HS.pk 12 [5,8] Z) (GX.l2 Z ?_)))))))
    replace HS:=HS.Fq (T:=(Ar .i64)) (j:=0) Z Ba uu ([t600,t604,t608,t596]:List Int) Z (Il Z)
    refine GO.H7 (t:=205) (m:=([t600,t604,t608,t596]:List Int).length) (c':=([t600,t604,t608,t596]:List Int).length) Z Z Z (fJ Wl Z (Fe.calls HS (ro 0 Z) (ro 3 Z) h630) (fun _ wd631 ⟨h632,HS⟩=>⟨_,h632,(GX.fin (HS.pk 12 [5,8] Z) (qL Z Z (fun _ _ g=>GO.Dr (.agg [I e584.Tet,I t596,I 1,I t629].toArray) Z Z (fun _=>by kernel_rfl) Z g) Z (GX.l2 Z (GO.Cw (el:=122) ([I e584.Tet,I t596,I 1,I t629]) HS Z Z (fun _=>by kernel_rfl) Z fun b633 wd634 HS=>GX.fin (HS.pk 13 [6,9] Z) (GX.l2 Z (GO.app1 (T:=Ci) (j:=12) (jb:=0) (⟨e584.Tet,t596,1,t629⟩:Av) HS Z Z Ba Z Z Z U63 Q3 Z Z Z c638 Z fun A636 c637 wd635 HS=>GX.fin (HS.pk 13 [6,9] Z) (qL Z Z (fun _ _ g=>fL b453 2 Ko Z g) Z (GX.l2 Z (GO.Ie (j:=9) (vs:=[sV A636 ((x521++[(⟨e584.Tet,t600,0,t616⟩:Av)])++[(⟨e584.Tet,t596,1,t629⟩:Av)]) c637]) ([sV A592 (x518++[e584.Tet]) c593,sV (sb b450) ((([t438,t444]:List (List Ab)).set 0 ((([t438,t444]:List (List Ab)).getD 0 []).set 0 (⟨1,0⟩:Ab))).set 1 (((([t438,t444]:List (List Ab)).set 0 ((([t438,t444]:List (List Ab)).getD 0 []).set 0 (⟨1,0⟩:Ab))).getD 1 []).set 0 (⟨0,0⟩:Ab))) (([t438,t444]:List (List Ab)).length),sV A636 ((x521++[(⟨e584.Tet,t600,0,t616⟩:Av)])++[(⟨e584.Tet,t596,1,t629⟩:Av)]) c637]) HS Z Z Z Z Z (htN Pf Z) Z Z Z fun wd639 HS=>GX.Qt Z (GX.nil ?_))))))))))⟩))
    refine rN 3 Z (gW (y1 q1 (lR _) _ _ _ _ _ _ _ _ H (HS.pk 13 [7,8,9,10,11,12] Z)) Z)
   replace HS:=HS.Dm (Ar .i64) 2 uu
   replace HS:=HS.Dm Ci 122 uu
   exact gW (m1 c1 (lR _) _ _ _ _ _ _ _ _ H (HS.pk 15 [10,4,3,1,2,0] Z)) Z
  exact gW (v1 K (lR _) _ _ _ H (HS.pk 7 [6,5,0,1,2,3] Z)) Z
theorem Gg.calls {i j_ r1:Int} (HS:St w0 w (L)) (H:Gg.f K i j_=some r1) :
    Calls prog 135 #[I i,I j_] w (Gg.post w0 L r1):=by
  unfold Gg.f at H
  refine cG func135 Z ?_
  refine rN 3 Z (rG (GO.Cw (el:=2) ([I 0,I 1,I 2,I 3]) HS Z Z (fun _=>by kernel_rfl) Z fun b1 wd2 HS=>?_))
  replace HS:=HS.Fq (T:=(Ar .i64)) (j:=0) Z Ba uu ([0,1,2,3]:List Int) Z (Il Z)
  refine GO.H7 (t:=6) (m:=([0,1,2,3]:List Int).length) (c':=([0,1,2,3]:List Int).length) Z Z Z (aS Z (nL (sQ ?_)))
  obtain ⟨c3,H⟩:=iN H
  refine rG (pS 3 Z (iX Z U56 sz2 (fun _=>⟨_,_,Z⟩) c3 (GO.Ii (T:=(Ar .i64)) (j:=0) (n:=i.toNat) (o:=0) (vs:=[I j_]) j_ HS Z Ba Z Z Z Z (htN na2 Z) Z (getD_some (d:=0) (ltN c3)) Z Z fun wd4 HS=>nL (G.len (t:=5) (m:=(([0,1,2,3]:List Int).set i.toNat j_).length) Z (by simp only [List.length_set] <;> rfl) (sQ ?_)))))
  obtain ⟨c5,H⟩:=iN H
  refine rG (pS 3 Z (iX Z U56 sz2 (fun _=>⟨_,_,Z⟩) c5 (GO.Ii (T:=(Ar .i64)) (j:=0) (n:=j_.toNat) (o:=0) (vs:=[I i]) i HS Z Ba Z Z Z Z (htN na2 Z) Z (getD_some (d:=0) (ltN c5)) Z Z fun wd6 HS=>nL (G.len (t:=5) (m:=((([0,1,2,3]:List Int).set i.toNat j_).set j_.toNat i).length) Z (by simp only [List.length_set] <;> rfl) (sQ ?_)))))
  obtain ⟨t7,h8,H⟩:=bI H
  refine rG (mV Z (fJ Sj Z (C8.calls HS (ro 0 Z) h8) (fun _ wd9 ⟨h10,HS⟩=>⟨_,h10,(aS Z (nL ?_))⟩)))
  obtain rfl:=sI H
  exact rT _ func135 Z Z ⟨Z,(HS.pk 1 [] Z)⟩
theorem Dz.calls {a_:Int} {r1:List Int} {r2:List (List Ab)} {r3:List Av} (HS:St w0 w (L)) (H:Dz.f K a_=some (r1,r2,r3)) :
    Calls prog 105 #[I a_] w (Dz.post w0 L r1 r2 r3):=by
  unfold Dz.f at H
  refine cG func105 Z ?_
  refine sQ (rG (GO.alloc HS Z Qr Z Z fun b1 wd2 HS=>nL (sQ (rG (mV Z (GO.Cw (el:=2) ([I a_]) HS Z Z (fun _=>by kernel_rfl) Z fun b3 wd4 HS=>?_))))))
  replace HS:=HS.Fq (T:=(Ar .i64)) (j:=0) Z Ba uu ([a_]:List Int) Z (Il Z)
  refine GO.H7 (t:=8) (m:=([a_]:List Int).length) (c':=([a_]:List Int).length) Z Z Z (GO.Dr (.agg [sV (sb b3) ([a_]:List Int) (([a_]:List Int).length),.slice none 0 0,.slice none 0 0].toArray) Z Z (fun _=>by kernel_rfl) Z (GO.alloc HS Z Qr Z Z fun b5 wd6 HS=>sW 0 HS Z Ht Z fun wd7 HS=>nL (rN 5 Z ?_)))
  refine G.name (fun q1 t1=>?_)
  have u1:∀ h1,h1≤K→∀ (A85:Option Addr) (c86:Nat) (d1:List (List Ab)) (y88:Nat→(Ty.slice 107 Ad).Lay) (A89:Option Addr) (c90:Nat) (c1:List Av) (a1:Int) (w:World),Dz.l1 K h1 a_ d1 c1 a1=some (r1,r2,r3)→St w0 w (Box b1 65 [.slice none 0 0,.slice none 0 0,.slice none 0 0]::Box b5 65 [sV (sb b3) ([a_]:List Int) (([a_]:List Int).length),sV A85 d1 c86,sV A89 c1 c90]::Own (Ar .i64) 2 (sb b3) (([a_]:List Int).length) uu ([a_]:List Int)::Own (Ty.slice 107 Ad) 77 A85 c86 y88 d1::Own Ci 122 A89 c90 uu c1::L)→G prog 105 46 [(0,I a_),(2,pT b1),(3,pT b5),(4,I a1)] q1 w (Dz.post w0 L r1 r2 r3):=by
   refine lp (fun _ _ _ _ _ _ _ _ w H _=>by rw [Dz.l1] at H; cases H) fun k1 x1 v1 A85 c86 d1 y88 A89 c90 c1 a1 w H HS=>?_
   rw [Dz.l1] at H
   subst t1
   refine rN 3 Z ?_
   rcases iS H with ⟨c156,H⟩ | ⟨c156,H⟩
   ·
    refine nB Z (tF c156) (rN 2 Z (rG (lW 1 HS Z Ht (sW 0 HS Z Ht Z fun wd218 HS=>nL ?_))))
    obtain ⟨rfl,rfl,rfl⟩:=Mm H
    exact rT _ func105 Z (Gz.Hu (j:=0) (vs:=[sV (sb b3) ([a_]:List Int) (([a_]:List Int).length),sV A85 d1 c86,sV A89 c1 c90]) HS Z Z Z Ht) ⟨_,_,_,_,_,_,_,Z,(HS.pk 5 [2,3,4] Z)⟩
   refine yB Z (tT c156) (rN 4 Z ?_)
   obtain ⟨t157,h158,H⟩:=bI H
   refine rG (fJ Ti Z (Gd.calls HS  h158) (fun _ wd161 ⟨A159,c160,h162,HS⟩=>⟨_,h162,(aS Z (nL (rN 5 Z ?_)))⟩))
   refine G.name (fun s1 p1=>?_)
   have n1:∀ m1,m1≤k1→∀ (f1:List Ab) (e1:Int) (w:World),Dz.l4 K m1 a_ d1 c1 a1 f1 e1=some (r1,r2,r3)→St w0 w (Box b1 65 [.slice none 0 0,.slice none 0 0,.slice none 0 0]::Box b5 65 [sV (sb b3) ([a_]:List Int) (([a_]:List Int).length),sV A85 d1 c86,sV A89 c1 c90]::Own (Ar .i64) 2 (sb b3) (([a_]:List Int).length) uu ([a_]:List Int)::Own (Ty.slice 107 Ad) 77 A85 c86 y88 d1::Own Ci 122 A89 c90 uu c1::Own Ad 107 A159 c160 uu f1::L)→G prog 105 46 [(0,I a_),(2,pT b1),(3,pT b5),(4,I a1),(5,sV A159 f1 c160),(6,I e1)] s1 w (Dz.post w0 L r1 r2 r3):=by
    refine lp (fun _ _ w H _=>by rw [Dz.l4] at H; cases H) fun g1 o1 i1 f1 e1 w H HS=>?_
    rw [Dz.l4] at H
    subst p1
    refine rN 3 Z ?_
    rcases iE H with ⟨c195,H⟩ | ⟨c195,H⟩
    ·
     refine yB Z (tT c195) (rN 5 Z ?_)
     rcases iE H with ⟨c196,H⟩ | ⟨c196,H⟩
     ·
      refine nB Z (nT c196) (rN 4 Z (gW (i1 g1 (lR _) _ _ _ H HS) Z))
     refine yB Z (nF c196) ?_
     obtain ⟨t197,h198,H⟩:=bI H
     obtain ⟨c201,H⟩:=iN H
     refine rG (pS 5 Z (fJ Zc Z (Gg.calls HS  h198) (fun _ wd199 ⟨h200,HS⟩=>⟨_,h200,(GO.Dr (.agg [I e1,I t197].toArray) Z Z (fun _=>by kernel_rfl) Z (iX Z U77 G9 (rk (ro 5 Z) HS) c201 (GO.Ii (T:=Ad) (j:=5) (n:=e1.toNat) (o:=0) (vs:=[I e1,I t197]) (⟨e1,t197⟩:Ab) HS Z Ba Z Z Z Z (htA D9) Z (getD_some (d:=Bj) (ltN c201)) Z Z fun wd202 HS=>nL (G.len (t:=5) (m:=(f1.set e1.toNat (⟨e1,t197⟩:Ab)).length) Z (by simp only [List.length_set] <;> rfl) (rN 3 Z (gW (i1 g1 (lR _) _ _ _ H HS) Z))))))⟩)))
    refine nB Z (tF c195) (rN 2 Z ?_)
    obtain ⟨c208,H⟩:=iN H
    refine rG (fL b5 1 N8 Z (lB 1 HS Z Gu Z (mV Z (GO.Cw (el:=77) ([sV A159 f1 c160]) HS Z Z (fun _=>by kernel_rfl) Z fun b203 wd204 HS=>?_))))
    replace HS:=HS.pk 7 [4,0,6,1,2,3,5] Z
    refine GO.Ul (S:=Ad) (u:=107) HS Z Z Z U29 Qb Z Z c208 Z fun A206 c207 y209 wd205 HS=>fL b5 1 N8 Z (GO.Ie (j:=3) (vs:=[sV A206 (d1++[f1]) c207]) ([sV (sb b3) ([a_]:List Int) (([a_]:List Int).length),sV A206 (d1++[f1]) c207,sV A89 c1 c90]) HS Z Z Z Z Z (htN Gu Z) Z Z Z fun wd210 HS=>nL ?_)
    obtain ⟨c216,H⟩:=iN H
    refine rG (fL b5 2 Ko Z (lB 3 HS Z Pf Z (pS 3 Z (GO.Dr (.agg [I a_,I a1,I a1,I 0].toArray) Z Z (fun _=>by kernel_rfl) Z (GO.Cw (el:=122) ([I a_,I a1,I a1,I 0]) HS Z Z (fun _=>by kernel_rfl) Z fun b211 wd212 HS=>GO.app1 (T:=Ci) (j:=6) (jb:=0) (⟨a_,a1,a1,0⟩:Av) HS Z Z Ba Z Z Z U63 Q3 Z Z Z c216 Z fun A214 c215 wd213 HS=>fL b5 2 Ko Z (GO.Ie (j:=4) (vs:=[sV A214 (c1++[(⟨a_,a1,a1,0⟩:Av)]) c215]) ([sV (sb b3) ([a_]:List Int) (([a_]:List Int).length),sV A206 (d1++[f1]) c207,sV A214 (c1++[(⟨a_,a1,a1,0⟩:Av)]) c215]) HS Z Z Z Z Z (htN Pf Z) Z Z Z fun wd217 HS=>nL (rN 3 Z (gW (v1 g1 (Nat.le_of_succ_le o1) _ _ _ _ _ _ _ _ _ H (HS.pk 7 [3,4,5,1,6] Z)) Z))))))))
   exact gW (n1 k1 (lR _) _ _ _ H (HS.pk 6 [1,2,3,4,5,0] Z)) Z
  replace HS:=HS.Dm (Ty.slice 107 Ad) 77 (fun _=>⟨none,0,uu⟩)
  replace HS:=HS.Dm Ci 122 uu
  exact gW (u1 K (lR _) _ _ _ _ _ _ _ _ _ H (HS.pk 5 [4,2,3,1,0] Z)) Z
theorem G5.calls {p q r1:Int} (HS:St w0 w (L)) (H:G5.f K p q=some r1) :
    Calls prog 84 #[I p,I q] w (G5.post w0 L r1):=by
  unfold G5.f at H
  refine cG func84 Z ?_
  refine rN 3 Z ?_
  obtain ⟨t1,h2,H⟩:=bI H
  refine rG (mV Z (fJ Xi Z (Ec.calls HS  h2) (fun _ wd5 ⟨A3,c4,h6,HS⟩=>⟨_,h6,(aS Z (nL (sQ ?_)))⟩)))
  obtain ⟨t7,h8,H⟩:=bI H
  refine rG (mV Z (fJ Xi Z (Ec.calls HS  h8) (fun _ wd11 ⟨A9,c10,h12,HS⟩=>⟨_,h12,(aS Z (nL (sQ ?_)))⟩)))
  obtain ⟨c13,H⟩:=iN H
  have h14:=(rk (ro 1 Z) HS)
  obtain ⟨c15,H⟩:=iN H
  have h16:=(rk (ro 0 Z) HS)
  obtain ⟨c17,H⟩:=iN H
  have h18:=(rk (ro 1 Z) HS)
  obtain ⟨c19,H⟩:=iN H
  have h20:=(rk (ro 0 Z) HS)
  obtain ⟨c21,H⟩:=iN H
  have h22:=(rk (ro 1 Z) HS)
  obtain ⟨c23,H⟩:=iN H
  have h24:=(rk (ro 0 Z) HS)
  obtain ⟨c25,H⟩:=iN H
  have h26:=(rk (ro 1 Z) HS)
  obtain ⟨c27,H⟩:=iN H
  have h28:=(rk (ro 0 Z) HS)
  obtain ⟨t31,h32,H⟩:=bI H
  refine G.lex mixed [0,1,2,6,7,8,12,13,14,18,19,20,3,4,5,9,10,11,15,16,17,21,22,23,24,25,26] (by kernel_rfl) ?_
  replace HS:=HS.drew
  refine GX.ps 2 Z (qL Z Z (fun _ _ g=>iX Z U56 sz2 h14 c13 g) Z (GX.ps 2 Z (qL Z Z (fun _ _ g=>iX Z U56 sz2 h18 c17 g) Z (GX.ps 2 Z (qL Z Z (fun _ _ g=>iX Z U56 sz2 h22 c21 g) Z (GX.ps 2 Z (qL Z Z (fun _ _ g=>iX Z U56 sz2 h26 c25 g) Z (GX.l1 Z Z Z (fun _ g=>GO.Cj (T:=(Ar .i64)) (n:=0) (o:=0) HS (ro 1 Z) Z Z (getD_some (d:=0) (ltN c13)) Z Z na2 Z g) Z (qL Z Z (fun _ _ g=>iX Z U56 sz2 h16 c15 g) Z (GX.l1 Z Z Z (fun _ g=>GO.Cj (T:=(Ar .i64)) (n:=(t1.getD 0 0).toNat) (o:=0) HS (ro 0 Z) Z Z (getD_some (d:=0) (ltN c15)) Z Z na2 Z g) Z (GX.l1 Z Z Z (fun _ g=>GO.Cj (T:=(Ar .i64)) (n:=1) (o:=0) HS (ro 1 Z) Z Z (getD_some (d:=0) (ltN c17)) Z Z na2 Z g) Z (qL Z Z (fun _ _ g=>iX Z U56 sz2 h20 c19 g) Z (GX.l1 Z Z Z (fun _ g=>GO.Cj (T:=(Ar .i64)) (n:=(t1.getD 1 0).toNat) (o:=0) HS (ro 0 Z) Z Z (getD_some (d:=0) (ltN c19)) Z Z na2 Z g) Z (GX.l1 Z Z Z (fun _ g=>GO.Cj (T:=(Ar .i64)) (n:=2) (o:=0) HS (ro 1 Z) Z Z (getD_some (d:=0) (ltN c21)) Z Z na2 Z g) Z ?_))))))))))))))
  refine qL Z Z (fun _ _ g=>iX Z U56 sz2 h24 c23 g) Z (GX.l1 Z Z Z (fun _ g=>GO.Cj (T:=(Ar .i64)) (n:=(t1.getD 2 0).toNat) (o:=0) HS (ro 0 Z) Z Z (getD_some (d:=0) (ltN c23)) Z Z na2 Z g) Z (GX.l1 Z Z Z (fun _ g=>GO.Cj (T:=(Ar .i64)) (n:=3) (o:=0) HS (ro 1 Z) Z Z (getD_some (d:=0) (ltN c25)) Z Z na2 Z g) Z (qL Z Z (fun _ _ g=>iX Z U56 sz2 h28 c27 g) Z (GX.l1 Z Z Z (fun _ g=>GO.Cj (T:=(Ar .i64)) (n:=(t1.getD 3 0).toNat) (o:=0) HS (ro 0 Z) Z Z (getD_some (d:=0) (ltN c27)) Z Z na2 Z g) Z (GX.l2 Z (GO.Cw (el:=2) ([I (t7.getD ((t1.getD 0 0).toNat) 0),I (t7.getD ((t1.getD 1 0).toNat) 0),I (t7.getD ((t1.getD 2 0).toNat) 0),I (t7.getD ((t1.getD 3 0).toNat) 0)]) HS Z Z (fun _=>by kernel_rfl) Z fun b29 wd30 HS=>GX.fin tv (GX.l2 Z ?_)))))))
  replace HS:=HS.Fq (T:=(Ar .i64)) (j:=0) Z Ba uu ([t7.getD ((t1.getD 0 0).toNat) 0,t7.getD ((t1.getD 1 0).toNat) 0,t7.getD ((t1.getD 2 0).toNat) 0,t7.getD ((t1.getD 3 0).toNat) 0]:List Int) Z (Il Z)
  refine GO.H7 (t:=35) (m:=([t7.getD ((t1.getD 0 0).toNat) 0,t7.getD ((t1.getD 1 0).toNat) 0,t7.getD ((t1.getD 2 0).toNat) 0,t7.getD ((t1.getD 3 0).toNat) 0]:List Int).length) (c':=([t7.getD ((t1.getD 0 0).toNat) 0,t7.getD ((t1.getD 1 0).toNat) 0,t7.getD ((t1.getD 2 0).toNat) 0,t7.getD ((t1.getD 3 0).toNat) 0]:List Int).length) Z Z Z (fJ Sj Z (C8.calls HS (ro 0 Z) h32) (fun _ wd33 ⟨h34,HS⟩=>⟨_,h34,(GX.fin tv (GX.ps 1 Z (GX.nil ?_)))⟩))
  obtain rfl:=sI H
  exact rT _ func84 Z Z ⟨Z,(HS.pk 3 [] Z)⟩
theorem Aq.calls {a1:List (List Ab)} {o A:Int} {y_a:Nat→(Ty.slice 107 Ad).Lay} {r1:List Int} {r2:List (List Ab)} {r3:List Av} {r4:Bool} (HS:St w0 w (L)) (r_a:Ce w0 L (Ty.slice 107 Ad) A_a c_a y_a a1) (H:Aq.f K a1 o A=some (r1,r2,r3,r4)) :
    Calls prog 106 #[.agg [sV A_a a1 c_a].toArray,I o,I A] w (Aq.post w0 L r1 r2 r3 r4):=by
  unfold Aq.f at H
  refine cG func106 Z ?_
  refine sQ (rG (bA HS Z fun b1 wd2 HS=>GO.alloc HS Z Qr Z Z fun b3 wd4 HS=>aS Z (nL (sQ (rG (GO.Cw (el:=2) ([I 0,I 0,I 0,I 0]) HS Z Z (fun _=>by kernel_rfl) Z fun b5 wd6 HS=>?_))))))
  replace HS:=HS.Fq (T:=(Ar .i64)) (j:=0) Z Ba uu ([0,0,0,0]:List Int) Z (Il Z)
  refine GO.H7 (t:=17) (m:=([0,0,0,0]:List Int).length) (c':=([0,0,0,0]:List Int).length) Z Z Z (aS Z (nL (sQ (rG (GO.Cw (el:=2) ([I 0,I 0,I 0,I 0]) HS Z Z (fun _=>by kernel_rfl) Z fun b7 wd8 HS=>?_)))))
  replace HS:=HS.Fq (T:=(Ar .i64)) (j:=0) Z Ba uu ([0,0,0,0]:List Int) Z (Il Z)
  refine GO.H7 (t:=18) (m:=([0,0,0,0]:List Int).length) (c':=([0,0,0,0]:List Int).length) Z Z Z (aS Z (nL (sQ ?_)))
  obtain ⟨c9,H⟩:=iN H
  refine rG (pS 3 Z (iX Z U56 sz2 (fun _=>⟨_,_,Z⟩) c9 (GO.Ii (T:=(Ar .i64)) (j:=1) (n:=A.toNat) (o:=0) (vs:=[I o]) o HS Z Ba Z Z Z Z (htN na2 Z) Z (getD_some (d:=0) (ltN c9)) Z Z fun wd10 HS=>nL (G.len (t:=8) (m:=(([0,0,0,0]:List Int).set A.toNat o).length) Z (by simp only [List.length_set] <;> rfl) (rN 5 Z ?_)))))
  refine G.name (fun v1 f2=>?_)
  have g2:∀ m1,m1≤K→∀ (x37 x38:List Int) (x39:Int) (w:World),Aq.l1 K m1 a1 o A x37 x38 x39=some (r1,r2,r3,r4)→St w0 w (Box b1 31 [sV A_a a1 c_a]::Box b3 65 [.slice none 0 0,.slice none 0 0,.slice none 0 0]::Own (Ar .i64) 2 (sb b5) (([0,0,0,0]:List Int).length) uu x37::Own (Ar .i64) 2 (sb b7) (([0,0,0,0]:List Int).length) uu x38::L)→G prog 106 153 [(1,I o),(2,I A),(3,pT b1),(6,pT b3),(8,sV (sb b5) x37 (([0,0,0,0]:List Int).length)),(9,sV (sb b7) x38 (([0,0,0,0]:List Int).length)),(10,I x39)] v1 w (Aq.post w0 L r1 r2 r3 r4):=by
   refine lp (fun _ _ _ w H _=>by rw [Aq.l1] at H; cases H) fun d1 m2 p1 x37 x38 x39 w H HS=>?_
   rw [Aq.l1] at H
   subst f2
   refine rN 3 Z ?_
   rcases iE H with ⟨c807,H⟩ | ⟨c807,H⟩
   ·
    refine yB Z (tT c807) (rN 6 Z ?_)
    rcases iE H with ⟨c808,H⟩ | ⟨c808,H⟩
    ·
     refine yB Z (tT c808) (rN 3 Z (gW (p1 d1 (lR _) _ _ _ _ H HS) Z))
    refine nB Z (tF c808) (rN 2 Z ?_)
    obtain ⟨c809,H⟩:=iN H
    obtain ⟨c810,H⟩:=iN H
    obtain ⟨e811,h812,H⟩:=Di H
    refine rG (fL b1 0 Du Z (lB 0 HS Z Gu Z (mV Z (iX Z U29 Jg (rk (rD 4 r_a) HS) c809 (GO.Cj (T:=(Ty.slice 107 Ad)) (n:=o.toNat) (o:=0) HS (rD 4 r_a) Z Z (getD_some (d:=[]) (ltN c809)) Z Z Jh Z (mV Z (GO.ix Z Z Z U77 G9 ((Ce.elem (rD 4 r_a) c809.1 c809.2) _ HS).2.2.1 c810.1 c810.2 Z (GO.Hw (T:=Ad) (n:=x39.toNat) HS (Ce.elem (rD 4 r_a) c809.1 c809.2) Z Z (Cn (ltN c810) h812) D9 Z (GO.alloc HS Z Jz Z Z fun b813 wd814 HS=>sW 0 HS Z D9 Z fun wd815 HS=>nL (rN 2 Z (rG (fL b813 0 Dp Z ?_))))))))))))
    refine lB 0 HS Z na2 Z (GO.lss Z Z Z Z (nL ?_))
    rcases iE H with ⟨c816,H⟩ | ⟨c816,H⟩
    ·
     refine yB Z (tT c816) (sQ (rG (GO.Dr (.agg [.slice none 0 0,.slice none 0 0,.slice none 0 0].toArray) Z Z (fun _=>by kernel_rfl) Z (sW 2 HS Z Ht Z fun wd817 HS=>aS Z (nL ?_)))))
     replace HS:=HS.Dm (Ar .i64) 2 uu
     replace HS:=HS.Dm (Ty.slice 107 Ad) 77 (fun _=>⟨none,0,uu⟩)
     replace HS:=HS.Dm Ci 122 uu
     obtain ⟨rfl,rfl,rfl,rfl⟩:=I8 H
     exact G.Hy _ _ func106 Z (Gz.Hu (j:=5) (vs:=[.slice none 0 0,.slice none 0 0,.slice none 0 0]) HS Z Z Z Ht) Z ⟨_,_,_,_,_,_,_,Z,(HS.pk 8 [2,1,0] Z)⟩
    refine nB Z (tF c816) (rN 2 Z ?_)
    obtain ⟨c818,H⟩:=iN H
    refine rG (pS 2 Z (fL b813 0 Dp Z (lB 0 HS Z na2 Z (iX Z U56 sz2 (fun _=>⟨_,_,Z⟩) c818 (GO.Ii (T:=(Ar .i64)) (j:=3) (n:=x39.toNat) (o:=0) (vs:=[I e811.Tet]) e811.Tet HS Z Ba Z Z Z Z (htN na2 Z) Z (getD_some (d:=0) (ltN c818)) Z Z fun wd819 HS=>nL (G.len (t:=8) (m:=(x37.set x39.toNat e811.Tet).length) Z (by simp only [List.length_set] <;> rfl) ?_))))))
    obtain ⟨t820,h821,H⟩:=bI H
    obtain ⟨t824,h825,H⟩:=bI H
    obtain ⟨t828,h829,H⟩:=bI H
    obtain ⟨c832,H⟩:=iN H
    refine rG (pS 2 Z (fL b813 1 Gn Z (lB 0 HS Z na2 Z (fJ T9 Z (Dx.calls HS  h821) (fun _ wd822 ⟨h823,HS⟩=>⟨_,h823,(pS 2 Z (fJ Zc Z (Gg.calls HS  h825) (fun _ wd826 ⟨h827,HS⟩=>⟨_,h827,(fJ Yc Z (G5.calls HS  h829) (fun _ wd830 ⟨h831,HS⟩=>⟨_,h831,(iX Z U56 sz2 (fun _=>⟨_,_,Z⟩) c832 (GO.Ii (T:=(Ar .i64)) (j:=4) (n:=x39.toNat) (o:=0) (vs:=[I t828]) t828 HS Z Ba Z Z Z Z (htN na2 Z) Z (getD_some (d:=0) (ltN c832)) Z Z fun wd833 HS=>nL (G.len (t:=9) (m:=(x38.set x39.toNat t828).length) Z (by simp only [List.length_set] <;> rfl) (rN 3 Z (gW (p1 d1 (lR _) _ _ _ _ H (HS.pk 5 [1,2,3,4] Z)) Z)))))⟩))⟩)))⟩)))))
   refine nB Z (tF c807) (rN 6 Z ?_)
   refine G.name (fun c2 u1=>?_)
   have z1:∀ i1,i1≤d1→∀ (x979:Int) (w:World),Aq.l8 K i1 a1 x37 x38 x979=some (r1,r2,r3,r4)→St w0 w (Box b1 31 [sV A_a a1 c_a]::Box b3 65 [.slice none 0 0,.slice none 0 0,.slice none 0 0]::Own (Ar .i64) 2 (sb b5) (([0,0,0,0]:List Int).length) uu x37::Own (Ar .i64) 2 (sb b7) (([0,0,0,0]:List Int).length) uu x38::L)→G prog 106 153 [(3,pT b1),(6,pT b3),(8,sV (sb b5) x37 (([0,0,0,0]:List Int).length)),(9,sV (sb b7) x38 (([0,0,0,0]:List Int).length)),(12,I x979)] c2 w (Aq.post w0 L r1 r2 r3 r4):=by
    refine lp (fun _ w H _=>by rw [Aq.l8] at H; cases H) fun e1 k2 e2 x979 w H HS=>?_
    rw [Aq.l8] at H
    subst u1
    refine rN 3 Z ?_
    rcases iS H with ⟨c1277,H⟩ | ⟨c1277,H⟩
    ·
     refine nB Z (tF c1277) (rN 2 Z ?_)
     obtain ⟨t1494,h1495,H⟩:=bI H
     refine rG (mV Z (fJ Ti Z (Gd.calls HS  h1495) (fun _ wd1498 ⟨A1496,c1497,h1499,HS⟩=>⟨_,h1499,(GO.Cw (el:=77) ([sV A1496 t1494 c1497]) HS Z Z (fun _=>by kernel_rfl) Z fun b1500 wd1501 HS=>?_)⟩)))
     obtain ⟨y1502,HS⟩:=oK (St.qA (St.jK (St.oI (T:=(Ty.slice 107 Ad)) 1 (fun _=>⟨A1496,c1497,uu⟩) (HS.pk 6 [1,0,2,3,4,5] Z))) Z (Il Z))
     refine GO.H7 (t:=125) (m:=([t1494]:List (List Ab)).length) (c':=([t1494]:List (List Ab)).length) Z Z Z (GO.Dr (.agg [sV (sb b5) x37 (([0,0,0,0]:List Int).length),sV (sb b1500) ([t1494]:List (List Ab)) (([t1494]:List (List Ab)).length),.slice none 0 0].toArray) Z Z (fun _=>by kernel_rfl) Z (GO.alloc HS Z Qr Z Z fun b1503 wd1504 HS=>sW 0 HS Z Ht Z fun wd1505 HS=>nL (rN 5 Z ?_)))
     refine G.name (fun y1 d2=>?_)
     have h2:∀ o1,o1≤e1→∀ (A1526:Option Addr) (c1527:Nat) (x1528:List Av) (x1529:Int) (w:World),Aq.l13 K o1 x37 x38 t1494 x1528 x1529=some (r1,r2,r3,r4)→St w0 w (Box b3 65 [.slice none 0 0,.slice none 0 0,.slice none 0 0]::Own (Ar .i64) 2 (sb b5) (([0,0,0,0]:List Int).length) uu x37::Own (Ar .i64) 2 (sb b7) (([0,0,0,0]:List Int).length) uu x38::Box b1503 65 [sV (sb b5) x37 (([0,0,0,0]:List Int).length),sV (sb b1500) ([t1494]:List (List Ab)) (([t1494]:List (List Ab)).length),sV A1526 x1528 c1527]::Own (Ty.slice 107 Ad) 77 (sb b1500) (([t1494]:List (List Ab)).length) y1502 ([t1494]:List (List Ab))::Own Ci 122 A1526 c1527 uu x1528::L)→G prog 106 153 [(6,pT b3),(8,sV (sb b5) x37 (([0,0,0,0]:List Int).length)),(9,sV (sb b7) x38 (([0,0,0,0]:List Int).length)),(15,pT b1503),(16,I x1529)] y1 w (Aq.post w0 L r1 r2 r3 r4):=by
      refine lp (fun _ _ _ _ w H _=>by rw [Aq.l13] at H; cases H) fun s1 i2 x1 A1526 c1527 x1528 x1529 w H HS=>?_
      rw [Aq.l13] at H
      subst d2
      refine rN 3 Z ?_
      rcases iS H with ⟨c1552,H⟩ | ⟨c1552,H⟩
      ·
       refine nB Z (tF c1552) (rN 2 Z (rG (lW 3 HS Z Ht (sW 0 HS Z Ht Z fun wd1573 HS=>aS Z (nL ?_)))))
       obtain ⟨rfl,rfl,rfl,rfl⟩:=I8 H
       exact G.Hy _ _ func106 Z (Gz.Hu (j:=0) (vs:=[sV (sb b5) x37 (([0,0,0,0]:List Int).length),sV (sb b1500) ([t1494]:List (List Ab)) (([t1494]:List (List Ab)).length),sV A1526 x1528 c1527]) HS Z Z Z Ht) Z ⟨_,_,_,_,_,_,_,Z,(HS.pk 6 [1,4,5] Z)⟩
      refine yB Z (tT c1552) (rN 3 Z ?_)
      obtain ⟨c1553,H⟩:=iN H
      have h1554:=(rk (ro 1 Z) HS)
      obtain ⟨c1555,H⟩:=iN H
      have h1556:=(rk (ro 2 Z) HS)
      obtain ⟨t1557,h1558,H⟩:=bI H
      obtain ⟨t1561,h1562,H⟩:=bI H
      have h1565:=(rk (ro 2 Z) HS)
      obtain ⟨c1571,H⟩:=iN H
      refine G.H8 mixed (fun w=>St w0 w (Own (Ar .i64) 2 (sb b5) (([0,0,0,0]:List Int).length) uu x37::Own (Ar .i64) 2 (sb b7) (([0,0,0,0]:List Int).length) uu x38::Box b1503 65 [sV (sb b5) x37 (([0,0,0,0]:List Int).length),sV (sb b1500) ([t1494]:List (List Ab)) (([t1494]:List (List Ab)).length),sV A1526 x1528 c1527]::L)) [1,5,9,16] [0,2,3,4,6,7,8,11,13,14,15,1,5,9,16,10,12,17,18,19,20,21] [21] (by kernel_rfl) (by kernel_rfl) (HS.drew.pk 6 [1,2,3] Z) ?_
      replace HS:=HS.drew
      refine qL Z Z (fun _ _ g=>fL b1503 2 Ko Z g) Z (GX.ps 2 Z (qL Z Z (fun _ _ g=>iX Z U56 sz2 h1554 c1553 g) Z (GX.ps 2 Z (qL Z Z (fun _ _ g=>iX Z U56 sz2 h1556 c1555 g) Z (GX.ps 3 Z (qL Z Z (fun _ _ g=>iX Z U56 sz2 h1565 c1555 g) Z (GX.ls Z Z Z (HS.pk 6 [1,2,3] Z) (fun _ HS _ g=>lB 2 HS Z Pf Z g) Z (GX.ls Z Z Z (HS.pk 6 [1,2,3] Z) (fun _ HS _ g=>GO.Cj (T:=(Ar .i64)) (n:=x1529.toNat) (o:=0) HS (ro 0 Z) Z Z (getD_some (d:=0) (ltN c1553)) Z Z na2 Z g) Z (GX.ls Z Z Z (HS.pk 6 [1,2,3] Z) (fun _ HS _ g=>GO.Cj (T:=(Ar .i64)) (n:=x1529.toNat) (o:=0) HS (ro 1 Z) Z Z (getD_some (d:=0) (ltN c1555)) Z Z na2 Z g) Z (GX.ls Z Z Z (HS.pk 6 [1,2,3] Z) (fun _ HS _ g=>GO.Cj (T:=(Ar .i64)) (n:=x1529.toNat) (o:=0) HS (ro 1 Z) Z Z (getD_some (d:=0) (ltN c1555)) Z Z na2 Z g) Z (GX.l2 Z (fJ T9 Z (Dx.calls HS  h1558) (fun _ wd1559 ⟨h1560,HS⟩=>⟨_,h1560,(GX.fin (HS.pk 6 [1,2,3] Z) (GX.l2 Z ?_))⟩)))))))))))))
      refine fJ Jt Z (Bq.calls HS  h1562) (fun _ wd1563 ⟨h1564,HS⟩=>⟨_,h1564,(GX.fin (HS.pk 6 [1,2,3] Z) (qL Z Z (fun _ _ g=>GO.Dr (.agg [I (x37.getD x1529.toNat 0),I t1561,I 0,I (x38.getD x1529.toNat 0)].toArray) Z Z (fun _=>by kernel_rfl) Z g) Z (GX.l2 Z (GO.Cw (el:=122) ([I (x37.getD x1529.toNat 0),I t1561,I 0,I (x38.getD x1529.toNat 0)]) HS Z Z (fun _=>by kernel_rfl) Z fun b1566 wd1567 HS=>GX.fin (HS.pk 7 [2,3,4] Z) (GX.l2 Z (GO.app1 (T:=Ci) (j:=6) (jb:=0) (⟨x37.getD x1529.toNat 0,t1561,0,x38.getD x1529.toNat 0⟩:Av) HS Z Z Ba Z Z Z U63 Q3 Z Z Z c1571 Z fun A1569 c1570 wd1568 HS=>GX.fin (HS.pk 7 [2,3,4] Z) (qL Z Z (fun _ _ g=>fL b1503 2 Ko Z g) Z (GX.l2 Z (GO.Ie (j:=4) (vs:=[sV A1569 (x1528++[(⟨x37.getD x1529.toNat 0,t1561,0,x38.getD x1529.toNat 0⟩:Av)]) c1570]) ([sV (sb b5) x37 (([0,0,0,0]:List Int).length),sV (sb b1500) ([t1494]:List (List Ab)) (([t1494]:List (List Ab)).length),sV A1569 (x1528++[(⟨x37.getD x1529.toNat 0,t1561,0,x38.getD x1529.toNat 0⟩:Av)]) c1570]) HS Z Z Z Z Z (htN Pf Z) Z Z Z fun wd1572 HS=>GX.Qt Z (GX.nil (rN 3 Z ?_)))))))))))⟩)
      exact gW (x1 s1 (lR _) _ _ _ _ _ H (HS.pk 7 [1,2,3,4,5,6] Z)) Z
     replace HS:=HS.Dm Ci 122 uu
     exact gW (h2 e1 (lR _) _ _ _ _ _ H (HS.pk 7 [4,5,6,1,2,0] Z)) Z
    refine yB Z (tT c1277) (rN 7 Z ?_)
    refine G.name (fun t1 q1=>?_)
    have a2:∀ n1,n1≤e1→∀ (x1349:Int) (w:World),Aq.l12 K n1 a1 x37 x38 x979 x1349=some (r1,r2,r3,r4)→St w0 w (Box b1 31 [sV A_a a1 c_a]::Box b3 65 [.slice none 0 0,.slice none 0 0,.slice none 0 0]::Own (Ar .i64) 2 (sb b5) (([0,0,0,0]:List Int).length) uu x37::Own (Ar .i64) 2 (sb b7) (([0,0,0,0]:List Int).length) uu x38::L)→G prog 106 153 [(3,pT b1),(6,pT b3),(8,sV (sb b5) x37 (([0,0,0,0]:List Int).length)),(9,sV (sb b7) x38 (([0,0,0,0]:List Int).length)),(12,I x979),(13,I x1349)] t1 w (Aq.post w0 L r1 r2 r3 r4):=by
     refine lp (fun _ w H _=>by rw [Aq.l12] at H; cases H) fun h1 b2 k1 x1349 w H HS=>?_
     rw [Aq.l12] at H
     subst q1
     refine rN 3 Z ?_
     rcases iS H with ⟨c1422,H⟩ | ⟨c1422,H⟩
     ·
      refine nB Z (tF c1422) (rN 4 Z (gW (e2 h1 (Nat.le_of_succ_le b2) _ _ H HS) Z))
     refine yB Z (tT c1422) (rN 6 Z ?_)
     rcases iE H with ⟨c1423,H⟩ | ⟨c1423,H⟩
     ·
      refine yB Z (tT c1423) (rN 3 Z (gW (k1 h1 (lR _) _ _ H HS) Z))
     refine nB Z (tF c1423) (rN 2 Z ?_)
     obtain ⟨c1424,H⟩:=iN H
     have h1425:=(rk (ro 2 Z) HS)
     obtain ⟨c1426,H⟩:=iN H
     obtain ⟨c1427,H⟩:=iN H
     have h1428:=(rk (ro 3 Z) HS)
     obtain ⟨t1429,h1430,H⟩:=bI H
     obtain ⟨t1433,h1434,H⟩:=bI H
     obtain ⟨c1437,H⟩:=iN H
     obtain ⟨e1438,h1439,H⟩:=Di H
     refine G.K7 mixed (by decide) (fun b a w=>∃ (b1440:Nat) (c1:Cy),RS 153 [(3,pT b1),(6,pT b3),(8,sV (sb b5) x37 (([0,0,0,0]:List Int).length)),(9,sV (sb b7) x38 (([0,0,0,0]:List Int).length)),(12,I x979),(13,I x1349)] [rv 68 (pT b1),rv 69 (sV A_a a1 c_a),rv 70 (sV (sb b5) x37 (([0,0,0,0]:List Int).length)),rv 71 (I x979),rv 72 (.pointer (some (ea (sb b5) (x979.toNat * 1)))),rv 73 (I (x37.getD x979.toNat 0)),rv 74 (.pointer (some (ea A_a (((x37.getD x979.toNat 0).toNat) * 1)))),rv 75 (sV ((y_a ((x37.getD x979.toNat 0).toNat)).A) (a1.getD ((x37.getD x979.toNat 0).toNat) []) ((y_a ((x37.getD x979.toNat 0).toNat)).c)),rv 76 (sV (sb b7) x38 (([0,0,0,0]:List Int).length)),rv 77 (I x979),rv 78 (.pointer (some (ea (sb b7) (x979.toNat * 1)))),rv 79 (I (x38.getD x979.toNat 0)),rv 80 (I t1429),rv 81 (I x1349),rv 82 (I t1433),rv 83 (.pointer (some (ea ((y_a ((x37.getD x979.toNat 0).toNat)).A) (t1433.toNat * 2)))),rv 84 (.agg [I e1438.Tet,I e1438.Perm].toArray),rv 14 (pT b1440),none] b a∧St w0 w (Box b1 31 [sV A_a a1 c_a]::Box b3 65 [.slice none 0 0,.slice none 0 0,.slice none 0 0]::Own (Ar .i64) 2 (sb b5) (([0,0,0,0]:List Int).length) uu x37::Own (Ar .i64) 2 (sb b7) (([0,0,0,0]:List Int).length) uu x38::c1::L)∧(b 17=true→b 18=false→c1=Box b1440 107 [I 0,I 0])∧(b 18=true→c1=Box b1440 107 [I e1438.Tet,I e1438.Perm])) ?_ ?_ ?_
     · exact fun a hs=>⟨0,Emp,hs.init Z,(HS.drew.emp.pk 5 [1,2,3,4,0] Z),fun h=>Bool.noConfusion h,fun h=>Bool.noConfusion h⟩
     ·
      intro j b a w hj
      refine exI fun b1440=>exI fun c1=>anI fun hs=>fun hM q=>?_
      have HS:=hM.1
      match j,hj with
      | 0,_ =>
       refine hs.at q [] [] (fL b1 0 Du Z (hs.fin q Z fun _ hs=>⟨_,_,hs,hM⟩))
      | 1,_ =>
       refine hs.at q [0] [] (lB 0 HS Z Gu Z (hs.fin q Z fun _ hs=>⟨_,_,hs,hM⟩))
      | 2,_ =>
       refine hs.at q [] [] (mV Z (hs.fin q Z fun _ hs=>⟨_,_,hs,hM⟩))
      | 3,_ =>
       refine hs.at q [] [] (mV Z (hs.fin q Z fun _ hs=>⟨_,_,hs,hM⟩))
      | 4,_ =>
       refine hs.at q [2,3] [] (iX Z U56 sz2 h1425 c1424 (hs.fin q Z fun _ hs=>⟨_,_,hs,hM⟩))
      | 5,_ =>
       refine hs.at q [4] [] (GO.Cj (T:=(Ar .i64)) (n:=x979.toNat) (o:=0) HS (ro 2 Z) Z Z (getD_some (d:=0) (ltN c1424)) Z Z na2 Z (hs.fin q Z fun _ hs=>⟨_,_,hs,hM⟩))
      | 6,_ =>
       refine hs.at q [1,5] [] (iX Z U29 Jg (rk (rD 5 r_a) HS) c1426 (hs.fin q Z fun _ hs=>⟨_,_,hs,hM⟩))
      | 7,_ =>
       refine hs.at q [6] [] (GO.Cj (T:=(Ty.slice 107 Ad)) (n:=(x37.getD x979.toNat 0).toNat) (o:=0) HS (rD 5 r_a) Z Z (getD_some (d:=[]) (ltN c1426)) Z Z Jh Z (hs.fin q Z fun _ hs=>⟨_,_,hs,hM⟩))
      | 8,_ =>
       refine hs.at q [] [] (mV Z (hs.fin q Z fun _ hs=>⟨_,_,hs,hM⟩))
      | 9,_ =>
       refine hs.at q [] [] (mV Z (hs.fin q Z fun _ hs=>⟨_,_,hs,hM⟩))
      | 10,_ =>
       refine hs.at q [8,9] [] (iX Z U56 sz2 h1428 c1427 (hs.fin q Z fun _ hs=>⟨_,_,hs,hM⟩))
      | 11,_ =>
       refine hs.at q [10] [] (GO.Cj (T:=(Ar .i64)) (n:=x979.toNat) (o:=0) HS (ro 3 Z) Z Z (getD_some (d:=0) (ltN c1427)) Z Z na2 Z (hs.fin q Z fun _ hs=>⟨_,_,hs,hM⟩))
      | 12,_ =>
       refine hs.at q [11] [] (fJ T9 Z (Dx.calls HS  h1430) (fun _ wd1431 ⟨h1432,HS⟩=>⟨_,h1432,(hs.fin q Z fun _ hs=>⟨_,_,hs,HS,hM.2⟩)⟩))
      | 13,_ =>
       refine hs.at q [] [] (mV Z (hs.fin q Z fun _ hs=>⟨_,_,hs,hM⟩))
      | 14,_ =>
       refine hs.at q [12,13] [] (fJ Jt Z (Bq.calls HS  h1434) (fun _ wd1435 ⟨h1436,HS⟩=>⟨_,h1436,(hs.fin q Z fun _ hs=>⟨_,_,hs,HS,hM.2⟩)⟩))
      | 15,_ =>
       refine hs.at q [7,14] [] (GO.ix Z Z Z U77 G9 ((Ce.elem (rD 5 r_a) c1426.1 c1426.2) _ HS).2.2.1 c1437.1 c1437.2 Z (hs.fin q Z fun _ hs=>⟨_,_,hs,hM⟩))
      | 16,_ =>
       refine hs.at q [15] [] (GO.Hw (T:=Ad) (n:=t1433.toNat) HS (Ce.elem (rD 5 r_a) c1426.1 c1426.2) Z Z (Cn (ltN c1437) h1439) D9 Z (hs.fin q Z fun _ hs=>⟨_,_,hs,hM⟩))
      | 17,_ =>
       refine (anI fun HS=>anI fun g1=>fun f1=>?_) hM
       refine hs.at q [] [] (GO.alloc HS Z Jz Z Z fun b1440 wd1441 HS=>hs.Oj q [17] (fun _ hs=>⟨b1440,Box b1440 107 [I 0,I 0],hs,HS.pk 6 [1,2,3,4,0] Z,fun _ _=>Z,fun hh=>(q.no 18 hh).elim⟩) Z Z)
      | 18,_ =>
       refine (anI fun HS=>anI fun g1=>fun f1=>?_) hM
       have hb17:=q.on 17
       obtain rfl:=g1 hb17 q.hb
       refine hs.at q [17,16] [] (sW 4 HS Z D9 Z fun wd1442 HS=>hs.We q Z fun _ hs=>⟨b1440,Box b1440 107 [I e1438.Tet,I e1438.Perm],hs,HS,fun _ h=>Bool.noConfusion h,fun _=>Z⟩)
      | k+19,hj=>exact absurd hj (Nat.not_lt.2 (Nat.le_add_left 19 k))
     ·
      intro b a w hall
      refine exI fun b1440=>exI fun c1=>anI fun hs=>anI fun HS=>anI fun g1=>fun f1=>?_
      obtain rfl:=f1 (hall 18 (by decide))
      refine G.at (hs.all hall) (sQ ?_)
      have h1468:=(rk (ro 2 Z) HS)
      obtain ⟨c1469,H⟩:=iN H
      have h1470:=(rk (ro 2 Z) HS)
      rcases iE H with ⟨c1471,H⟩ | ⟨c1471,H⟩
      ·
       refine G.H8 mixed (fun w=>St w0 w (Own (Ar .i64) 2 (sb b5) (([0,0,0,0]:List Int).length) uu x37::L)) [3,7,11,15,22,25,30] [0,1,2,4,5,6,3,7,8,9,10,12,13,14,11,15,16,17,18,19,20,21,24,27,28,29,32,33,22,25,30,23,26,31,34,35,36] [] (by kernel_rfl) (by kernel_rfl) (HS.drew.pk 5 [2] Z) ?_
       replace HS:=HS.drew
       refine GX.ps 2 Z (qL Z Z (fun _ _ g=>iX Z U56 sz2 h1468 c1424 g) Z (GX.ps 2 Z (qL Z Z (fun _ _ g=>iX Z U56 sz2 h1470 c1469 g) Z (GX.ls Z Z Z (HS.pk 5 [2] Z) (fun _ HS _ g=>GO.Cj (T:=(Ar .i64)) (n:=x979.toNat) (o:=0) HS (ro 0 Z) Z Z (getD_some (d:=0) (ltN c1424)) Z Z na2 Z g) Z (GX.ls Z Z Z (HS.pk 5 [2] Z) (fun _ HS _ g=>GO.Cj (T:=(Ar .i64)) (n:=x1349.toNat) (o:=0) HS (ro 0 Z) Z Z (getD_some (d:=0) (ltN c1469)) Z Z na2 Z g) Z (GX.ps 1 Z (qL Z Z (fun _ _ g=>mV Z (kN 94 Z (tT c1471) g)) Z (qL Z Z (fun _ _ g=>oF Z g) Z (qL Z Z (fun _ _ g=>oF Z g) Z (qL Z Z (fun _ _ g=>oF Z g) Z (qL Z Z (fun _ _ g=>oF Z g) Z (GX.ls Z Z Z (HS.pk 5 [2] Z) (fun _ HS _ g=>oF Z g) Z (GX.ls Z Z Z (HS.pk 5 [2] Z) (fun _ HS _ g=>oF Z g) Z (qL Z Z (fun _ _ g=>oF Z g) Z ?_))))))))))))))
       refine GX.ps 2 Z (qL Z Z (fun _ _ g=>oF Z g) Z (qL Z Z (fun _ _ g=>oF Z g) Z (qL Z Z (fun _ _ g=>oF Z g) Z (qL Z Z (fun _ _ g=>oF Z g) Z (qL Z Z (fun _ _ g=>oF Z g) Z (qL Z Z (fun _ _ g=>oF Z g) Z (qL Z Z (fun _ _ g=>oF Z g) Z (qL Z Z (fun _ _ g=>oF Z g) Z (qL Z Z (fun _ _ g=>oF Z g) Z (GX.ls Z Z Z (HS.pk 5 [2] Z) (fun _ HS _ g=>oF Z g) Z (GX.ls Z Z Z (HS.pk 5 [2] Z) (fun _ HS _ g=>oF Z g) Z (GX.ls Z Z Z (HS.pk 5 [2] Z) (fun _ HS _ g=>oF Z g) Z (GX.l2 Z (oF Z ?_))))))))))))))
       refine GX.fin (HS.pk 5 [2] Z) (GX.l2 Z (oF Z (GX.fin (HS.pk 5 [2] Z) (GX.l2 Z (oF Z (GX.fin (HS.pk 5 [2] Z) (GX.l2 Z (oF Z (GX.fin (HS.pk 5 [2] Z) (qL Z Z (fun _ _ g=>oF Z g) Z (GX.ps 1 Z (GX.nil (rN 2 Z (rG ?_))))))))))))))
       refine GO.Dr (.agg [.slice none 0 0,.slice none 0 0,.slice none 0 0].toArray) Z Z (fun _=>by kernel_rfl) Z (sW 1 HS Z Ht Z fun wd1472 HS=>aS Z (nL ?_))
       replace HS:=HS.Dm (Ar .i64) 2 uu
       replace HS:=HS.Dm (Ty.slice 107 Ad) 77 (fun _=>⟨none,0,uu⟩)
       replace HS:=HS.Dm Ci 122 uu
       obtain ⟨rfl,rfl,rfl,rfl⟩:=I8 H
       exact G.Hy _ _ func106 Z (Gz.Hu (j:=4) (vs:=[.slice none 0 0,.slice none 0 0,.slice none 0 0]) HS Z Z Z Ht) Z ⟨_,_,_,_,_,_,_,Z,(HS.pk 8 [2,1,0] Z)⟩
      rcases iS H with ⟨c1473,H⟩ | ⟨c1473,H⟩
      ·
       refine G.H8 mixed (fun w=>St w0 w (Own (Ar .i64) 2 (sb b5) (([0,0,0,0]:List Int).length) uu x37::Box b1440 107 [I e1438.Tet,I e1438.Perm]::L)) [3,7,11,15,22,25,30] [0,1,2,4,5,6,3,7,8,9,10,12,13,14,11,15,16,17,18,19,20,21,24,27,28,29,32,33,22,25,30,23,26,31,34,35,36] [] (by kernel_rfl) (by kernel_rfl) (HS.drew.pk 5 [2,4] Z) ?_
       replace HS:=HS.drew
       refine GX.ps 2 Z (qL Z Z (fun _ _ g=>iX Z U56 sz2 h1468 c1424 g) Z (GX.ps 2 Z (qL Z Z (fun _ _ g=>iX Z U56 sz2 h1470 c1469 g) Z (GX.ls Z Z Z (HS.pk 5 [2,4] Z) (fun _ HS _ g=>GO.Cj (T:=(Ar .i64)) (n:=x979.toNat) (o:=0) HS (ro 0 Z) Z Z (getD_some (d:=0) (ltN c1424)) Z Z na2 Z g) Z (GX.ls Z Z Z (HS.pk 5 [2,4] Z) (fun _ HS _ g=>GO.Cj (T:=(Ar .i64)) (n:=x1349.toNat) (o:=0) HS (ro 0 Z) Z Z (getD_some (d:=0) (ltN c1469)) Z Z na2 Z g) Z (GX.ps 1 Z (qL Z Z (fun _ _ g=>mV Z (kN 94 Z (tF c1471) g)) Z (qL Z Z (fun _ _ g=>oN Z (fL b1440 0 Dp Z (bK g))) Z (qL Z Z (fun _ _ g=>oN Z (mV Z (bK g))) Z (qL Z Z (fun _ _ g=>oN Z (mV Z (bK g))) Z (qL Z Z (fun _ _ g=>oN Z (iX Z U56 sz2 (fun _=>⟨_,_,Z⟩) c1469 (bK g))) Z (GX.ls Z Z Z (HS.pk 5 [2,4] Z) (fun _ HS _ g=>oN Z (lB 1 HS Z na2 Z (bK g))) Z (GX.ls Z Z Z (HS.pk 5 [2,4] Z) (fun _ HS _ g=>oN Z (GO.Cj (T:=(Ar .i64)) (n:=x1349.toNat) (o:=0) HS (ro 0 Z) Z Z (getD_some (d:=0) (ltN c1469)) Z Z na2 Z (bK g))) Z (qL Z Z (fun _ _ g=>oN Z (GO.neq Z Z Z Z (bK g))) Z ?_))))))))))))))
       refine GX.ps 1 Z (qL Z Z (fun _ _ g=>mV Z (kN 103 Z (nF c1473) g)) Z (qL Z Z (fun _ _ g=>oF Z g) Z (qL Z Z (fun _ _ g=>oF Z g) Z (qL Z Z (fun _ _ g=>oF Z g) Z (qL Z Z (fun _ _ g=>oF Z g) Z (qL Z Z (fun _ _ g=>oF Z g) Z (qL Z Z (fun _ _ g=>oF Z g) Z (qL Z Z (fun _ _ g=>oF Z g) Z (qL Z Z (fun _ _ g=>oF Z g) Z (qL Z Z (fun _ _ g=>oF Z g) Z (GX.ls Z Z Z (HS.pk 5 [2,4] Z) (fun _ HS _ g=>oF Z g) Z (GX.ls Z Z Z (HS.pk 5 [2,4] Z) (fun _ HS _ g=>oF Z g) Z (GX.ls Z Z Z (HS.pk 5 [2,4] Z) (fun _ HS _ g=>oF Z g) Z (GX.l2 Z ?_))))))))))))))
       refine oF Z (GX.fin (HS.pk 5 [2,4] Z) (GX.l2 Z (oF Z (GX.fin (HS.pk 5 [2,4] Z) (GX.l2 Z (oF Z (GX.fin (HS.pk 5 [2,4] Z) (GX.l2 Z (oF Z (GX.fin (HS.pk 5 [2,4] Z) (qL Z Z (fun _ _ g=>oF Z g) Z (GX.ps 1 Z (GX.nil (rN 2 Z ?_))))))))))))))
       refine rG (GO.Dr (.agg [.slice none 0 0,.slice none 0 0,.slice none 0 0].toArray) Z Z (fun _=>by kernel_rfl) Z (sW 1 HS Z Ht Z fun wd1493 HS=>aS Z (nL ?_)))
       replace HS:=HS.Dm (Ar .i64) 2 uu
       replace HS:=HS.Dm (Ty.slice 107 Ad) 77 (fun _=>⟨none,0,uu⟩)
       replace HS:=HS.Dm Ci 122 uu
       obtain ⟨rfl,rfl,rfl,rfl⟩:=I8 H
       exact G.Hy _ _ func106 Z (Gz.Hu (j:=4) (vs:=[.slice none 0 0,.slice none 0 0,.slice none 0 0]) HS Z Z Z Ht) Z ⟨_,_,_,_,_,_,_,Z,(HS.pk 8 [2,1,0] Z)⟩
      obtain ⟨t1474,h1475,H⟩:=bI H
      obtain ⟨t1478,h1479,H⟩:=bI H
      obtain ⟨c1482,H⟩:=iN H
      obtain ⟨t1483,h1484,H⟩:=bI H
      obtain ⟨t1487,h1488,H⟩:=bI H
      refine G.H8 mixed (fun w=>St w0 w (Own (Ar .i64) 2 (sb b5) (([0,0,0,0]:List Int).length) uu x37::Own (Ar .i64) 2 (sb b7) (([0,0,0,0]:List Int).length) uu x38::Box b1440 107 [I e1438.Tet,I e1438.Perm]::L)) [3,7,11,15,22,25,30] [0,1,2,4,5,6,3,7,8,9,10,12,13,14,11,15,16,17,18,19,20,21,24,27,28,29,32,33,22,25,30,23,26,31,34,35,36] [] (by kernel_rfl) (by kernel_rfl) (HS.drew.pk 5 [2,3,4] Z) ?_
      replace HS:=HS.drew
      refine GX.ps 2 Z (qL Z Z (fun _ _ g=>iX Z U56 sz2 h1468 c1424 g) Z (GX.ps 2 Z (qL Z Z (fun _ _ g=>iX Z U56 sz2 h1470 c1469 g) Z (GX.ls Z Z Z (HS.pk 5 [2,3,4] Z) (fun _ HS _ g=>GO.Cj (T:=(Ar .i64)) (n:=x979.toNat) (o:=0) HS (ro 0 Z) Z Z (getD_some (d:=0) (ltN c1424)) Z Z na2 Z g) Z (GX.ls Z Z Z (HS.pk 5 [2,3,4] Z) (fun _ HS _ g=>GO.Cj (T:=(Ar .i64)) (n:=x1349.toNat) (o:=0) HS (ro 0 Z) Z Z (getD_some (d:=0) (ltN c1469)) Z Z na2 Z g) Z (GX.ps 1 Z (qL Z Z (fun _ _ g=>mV Z (kN 94 Z (tF c1471) g)) Z (qL Z Z (fun _ _ g=>oN Z (fL b1440 0 Dp Z (bK g))) Z (qL Z Z (fun _ _ g=>oN Z (mV Z (bK g))) Z (qL Z Z (fun _ _ g=>oN Z (mV Z (bK g))) Z (qL Z Z (fun _ _ g=>oN Z (iX Z U56 sz2 (fun _=>⟨_,_,Z⟩) c1469 (bK g))) Z (GX.ls Z Z Z (HS.pk 5 [2,3,4] Z) (fun _ HS _ g=>oN Z (lB 2 HS Z na2 Z (bK g))) Z (GX.ls Z Z Z (HS.pk 5 [2,3,4] Z) (fun _ HS _ g=>oN Z (GO.Cj (T:=(Ar .i64)) (n:=x1349.toNat) (o:=0) HS (ro 0 Z) Z Z (getD_some (d:=0) (ltN c1469)) Z Z na2 Z (bK g))) Z (qL Z Z (fun _ _ g=>oN Z (GO.neq Z Z Z Z (bK g))) Z ?_))))))))))))))
      refine GX.ps 1 Z (qL Z Z (fun _ _ g=>mV Z (kN 103 Z (nT c1473) g)) Z (qL Z Z (fun _ _ g=>oN Z (mV Z (bK g))) Z (qL Z Z (fun _ _ g=>oN Z (mV Z (bK g))) Z (qL Z Z (fun _ _ g=>oN Z (iX Z U56 sz2 (fun _=>⟨_,_,Z⟩) c1427 (bK g))) Z (qL Z Z (fun _ _ g=>oN Z (fL b1440 1 Gn Z (bK g))) Z (qL Z Z (fun _ _ g=>oN Z (mV Z (bK g))) Z (qL Z Z (fun _ _ g=>oN Z (mV Z (bK g))) Z (qL Z Z (fun _ _ g=>oN Z (iX Z U56 sz2 (fun _=>⟨_,_,Z⟩) c1482 (bK g))) Z (qL Z Z (fun _ _ g=>oN Z (mV Z (bK g))) Z (qL Z Z (fun _ _ g=>oN Z (mV Z (bK g))) Z (GX.ls Z Z Z (HS.pk 5 [2,3,4] Z) (fun _ HS _ g=>oN Z (GO.Cj (T:=(Ar .i64)) (n:=x979.toNat) (o:=0) HS (ro 1 Z) Z Z (getD_some (d:=0) (ltN c1427)) Z Z na2 Z (bK g))) Z (GX.ls Z Z Z (HS.pk 5 [2,3,4] Z) (fun _ HS _ g=>oN Z (lB 2 HS Z na2 Z (bK g))) Z (GX.ls Z Z Z (HS.pk 5 [2,3,4] Z) (fun _ HS _ g=>oN Z (GO.Cj (T:=(Ar .i64)) (n:=x1349.toNat) (o:=0) HS (ro 1 Z) Z Z (getD_some (d:=0) (ltN c1482)) Z Z na2 Z (bK g))) Z (GX.l2 Z ?_))))))))))))))
      refine oN Z (fJ T9 Z (Dx.calls HS  h1475) (fun _ wd1476 ⟨h1477,HS⟩=>⟨_,h1477,(bK (GX.fin (HS.pk 5 [2,3,4] Z) (GX.l2 Z (oN Z (fJ Yc Z (G5.calls HS  h1479) (fun _ wd1480 ⟨h1481,HS⟩=>⟨_,h1481,(bK (GX.fin (HS.pk 5 [2,3,4] Z) (GX.l2 Z (oN Z (fJ Yc Z (G5.calls HS  h1484) (fun _ wd1485 ⟨h1486,HS⟩=>⟨_,h1486,(bK (GX.fin (HS.pk 5 [2,3,4] Z) (GX.l2 Z ?_)))⟩))))))⟩))))))⟩))
      refine oN Z (fJ Zc Z (Gg.calls HS  h1488) (fun _ wd1489 ⟨h1490,HS⟩=>⟨_,h1490,(bK (GX.fin (HS.pk 5 [2,3,4] Z) (qL Z Z (fun _ _ g=>oN Z (GO.neq Z Z Z Z (bK g))) Z (GX.ps 1 Z (GX.nil ?_)))))⟩))
      rcases iE H with ⟨c1491,H⟩ | ⟨c1491,H⟩
      ·
       refine nB Z (nT c1491) (rN 4 Z (gW (k1 h1 (lR _) _ _ H (HS.pk 5 [0,1,2,3] Z)) Z))
      refine yB Z (nF c1491) (sQ (rG (GO.Dr (.agg [.slice none 0 0,.slice none 0 0,.slice none 0 0].toArray) Z Z (fun _=>by kernel_rfl) Z (sW 1 HS Z Ht Z fun wd1492 HS=>aS Z (nL ?_)))))
      replace HS:=HS.Dm (Ar .i64) 2 uu
      replace HS:=HS.Dm (Ty.slice 107 Ad) 77 (fun _=>⟨none,0,uu⟩)
      replace HS:=HS.Dm Ci 122 uu
      obtain ⟨rfl,rfl,rfl,rfl⟩:=I8 H
      exact G.Hy _ _ func106 Z (Gz.Hu (j:=4) (vs:=[.slice none 0 0,.slice none 0 0,.slice none 0 0]) HS Z Z Z Ht) Z ⟨_,_,_,_,_,_,_,Z,(HS.pk 8 [2,1,0] Z)⟩
    exact gW (a2 e1 (lR _) _ _ H HS) Z
   exact gW (z1 d1 (lR _) _ _ H HS) Z
  exact gW (g2 K (lR _) _ _ _ _ H (HS.pk 4 [3,2,1,0] Z)) Z
theorem Ig.calls {a1:List (List Ab)} {d1 c1 e1:Int} {y_a:Nat→(Ty.slice 107 Ad).Lay} {r1:List Int} {r2:List (List Ab)} {r3:List Av} {r4:Bool} (HS:St w0 w (L)) (r_a:Ce w0 L (Ty.slice 107 Ad) A_a c_a y_a a1) (H:Ig.f K a1 d1 c1 e1=some (r1,r2,r3,r4)) :
    Calls prog 65 #[.agg [sV A_a a1 c_a].toArray,.agg [I d1,I c1,I e1].toArray] w (Ig.post w0 L r1 r2 r3 r4):=by
  unfold Ig.f at H
  refine cG func65 Z ?_
  refine sQ (rG (bA HS Z fun b1 wd2 HS=>bA HS Z fun b3 wd4 HS=>GO.alloc HS Z Qr Z Z fun b5 wd6 HS=>aS Z (nL (rN 2 Z (rG (fL b3 0 Kn Z (lB 1 HS Z na2 Z (nL (rN 3 Z ?_)))))))))
  rcases iE H with ⟨c7,H⟩ | ⟨c7,H⟩
  ·
   refine yB Z (tT c7) (sQ ?_)
   obtain ⟨t8,t9,t10,t11,h12,H⟩:=D8 H
   refine rG (lW 2 HS Z Dq (fL b3 1 Ja Z (lB 1 HS Z na2 Z (fL b3 2 Kc Z (lB 1 HS Z na2 Z (fJ sJ Z (Dl.calls HS (rD 3 r_a) h12) (fun _ wd20 ⟨A13,c14,A15,c16,y17,A18,c19,h21,HS⟩=>⟨_,h21,(pS 2 Z (sW 3 HS Z Ht Z fun wd22 HS=>aS Z (nL ?_)))⟩)))))))
   obtain ⟨rfl,rfl,rfl,rfl⟩:=I8 H
   exact G.Hy _ _ func65 Z (Gz.Hu (j:=3) (vs:=[sV A13 t8 c14,sV A15 t9 c16,sV A18 t10 c19]) HS Z Z Z Ht) Z ⟨_,_,_,_,_,_,_,Z,(HS.pk 6 [0,1,2] Z)⟩
  refine nB Z (tF c7) (rN 2 Z ?_)
  rcases iE H with ⟨c23,H⟩ | ⟨c23,H⟩
  ·
   refine yB Z (tT c23) (sQ ?_)
   obtain ⟨t24,t25,t26,t27,h28,H⟩:=D8 H
   refine rG (lW 2 HS Z Dq (fL b3 1 Ja Z (lB 1 HS Z na2 Z (fL b3 2 Kc Z (lB 1 HS Z na2 Z (fJ qO Z (Bv.calls HS (rD 3 r_a) h28) (fun _ wd36 ⟨A29,c30,A31,c32,y33,A34,c35,h37,HS⟩=>⟨_,h37,(pS 2 Z (sW 3 HS Z Ht Z fun wd38 HS=>aS Z (nL ?_)))⟩)))))))
   obtain ⟨rfl,rfl,rfl,rfl⟩:=I8 H
   exact G.Hy _ _ func65 Z (Gz.Hu (j:=3) (vs:=[sV A29 t24 c30,sV A31 t25 c32,sV A34 t26 c35]) HS Z Z Z Ht) Z ⟨_,_,_,_,_,_,_,Z,(HS.pk 6 [0,1,2] Z)⟩
  refine nB Z (tF c23) (rN 2 Z ?_)
  rcases iE H with ⟨c39,H⟩ | ⟨c39,H⟩
  ·
   refine yB Z (tT c39) (sQ ?_)
   obtain ⟨t40,t41,t42,h43,H⟩:=J3 H
   refine rG (fL b3 1 Ja Z (lB 1 HS Z na2 Z (fJ rA Z (Dz.calls HS  h43) (fun _ wd51 ⟨A44,c45,A46,c47,y48,A49,c50,h52,HS⟩=>⟨_,h52,(sW 3 HS Z Ht Z fun wd53 HS=>aS Z (nL ?_))⟩))))
   obtain ⟨rfl,rfl,rfl,rfl⟩:=I8 H
   exact G.Hy _ _ func65 Z (Gz.Hu (j:=3) (vs:=[sV A44 t40 c45,sV A46 t41 c47,sV A49 t42 c50]) HS Z Z Z Ht) Z ⟨_,_,_,_,_,_,_,Z,(HS.pk 6 [0,1,2] Z)⟩
  refine nB Z (tF c39) (rN 3 Z ?_)
  obtain ⟨t54,t55,t56,t57,h58,H⟩:=D8 H
  refine rG (lW 2 HS Z Dq (fL b3 1 Ja Z (lB 1 HS Z na2 Z (fL b3 2 Kc Z (lB 1 HS Z na2 Z (fJ rE Z (Aq.calls HS (rD 3 r_a) h58) (fun _ wd66 ⟨A59,c60,A61,c62,y63,A64,c65,h67,HS⟩=>⟨_,h67,(pS 2 Z (sW 3 HS Z Ht Z fun wd68 HS=>aS Z (nL ?_)))⟩)))))))
  obtain ⟨rfl,rfl,rfl,rfl⟩:=I8 H
  exact G.Hy _ _ func65 Z (Gz.Hu (j:=3) (vs:=[sV A59 t54 c60,sV A61 t55 c62,sV A64 t56 c65]) HS Z Z Z Ht) Z ⟨_,_,_,_,_,_,_,Z,(HS.pk 6 [0,1,2] Z)⟩
end Go.Proofs.YtbjfinndngafoaaGreat
