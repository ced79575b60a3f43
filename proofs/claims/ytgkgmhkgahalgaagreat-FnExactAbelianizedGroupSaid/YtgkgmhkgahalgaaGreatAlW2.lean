import Derived.Test.YtgkgmhkgahalgaaGreatAlF
import Derived.Test.YtgkgmhkgahalgaaGreatAlW1
set_option linter.unusedVariables false
set_option linter.unusedSimpArgs false
namespace Go.Proofs.YtgkgmhkgahalgaaGreat
open Go.RowKit
open Tryz
variable {w0 w:World} {L:List Dc} {K:Nat} {A_a A_b A_c A_d A_e A_f A_g A_h A_i A_j A_k A_l A_m A_n A_o A_p A_q A_r A_s A_t A_u A_v A_w A_x A_y A_z:Option Addr} {c_a c_b c_c c_d c_e c_f c_g c_h c_i c_j c_k c_l c_m c_n c_o c_p c_q c_r c_s c_t c_u c_v c_w c_x c_y c_z:Nat}
set_option maxRecDepth 20000
set_option maxHeartbeats 40000000
theorem Dx.calls {e1:List (List Am)} {a1:Int} {y_a:Nat→(Ty.slice 83 Ak).Lay} {r1 r2:Int} (HS:St w0 w (L)) (r_a:Bv w0 L (Ty.slice 83 Ak) A_a c_a y_a e1) (H:Dx.f K e1 a1=some (r1,r2)) :
   Calls prog 218 #[.agg [sV A_a e1 c_a].toArray,I a1] w (Dx.post w0 L r1 r2):=by
 unfold Dx.f at H
 refine cG func218 Z ?_
 refine sQ (rG (bA HS Z fun b1 wd2 HS=>pS 2 Z (nL (sQ ?_))))
 obtain ⟨t3,t4,t5,t6,h7,H⟩:=Ii H
 refine rG (lW 0 HS Z Iy (fJ dN Z (Bb.calls HS (rD 1 r_a) h7) (fun _ wd19 ⟨A8,c9,y10,A11,c12,y13,A14,c15,y16,A17,c18,h20,HS⟩=>⟨_,h20,(pS 3 Z (GO.alloc HS Z gJ Z Z fun b21 wd22 HS=>sW 0 HS Z Zn Z fun wd23 HS=>aS Z (nL (rN 5 Z ?_))))⟩)))
 refine G.name (fun t1 o1=>?_)
 have s1:∀ h1,h1≤K→∀ (c1:Int) (w:World),Dx.l1 K h1 a1 t4 c1=some (r1,r2)→St w0 w (Box b21 95 [sV A8 t3 c9,sV A11 t4 c12,sV A14 t5 c15]::Own (Ty.slice 2 (Ac .i64)) 26 A8 c9 y10 t3::Own (Ty.slice 2 (Ac .i64)) 26 A11 c12 y13 t4::Own (Ty.slice 2 (Ac .i64)) 26 A14 c15 y16 t5::L)→G prog 218 38 [(1,I a1),(6,pT b21),(8,I c1)] t1 w (Dx.post w0 L r1 r2):=by
  refine lp (fun _ w H _=>by rw [Dx.l1] at H; cases H) fun f1 v1 u1 c1 w H HS=>?_
  rw [Dx.l1] at H
  subst o1
  refine rN 2 Z (rG (mV Z (fL b21 1 Rs Z (lB 0 HS Z Ob Z (lS Z Z U65 Z (GO.lss Z Z Z Z (nL ?_)))))))
  rcases iS H with ⟨c51,H⟩|⟨c51,H⟩
  ·
   refine nB Z (tF c51) (rN 3 Z ?_)
   obtain ⟨rfl,rfl⟩:=H8 H
   exact G.Jr _ _ func218 Z Z Z ⟨Z,(HS.pk 4 [] Z)⟩
  refine yB Z (tT c51) (rN 7 Z ?_)
  refine G.name (fun p1 q1=>?_)
  have k1:∀ i1,i1≤f1→∀ (d1:Int) (w:World),Dx.l4 K i1 a1 t4 c1 d1=some (r1,r2)→St w0 w (Box b21 95 [sV A8 t3 c9,sV A11 t4 c12,sV A14 t5 c15]::Own (Ty.slice 2 (Ac .i64)) 26 A8 c9 y10 t3::Own (Ty.slice 2 (Ac .i64)) 26 A11 c12 y13 t4::Own (Ty.slice 2 (Ac .i64)) 26 A14 c15 y16 t5::L)→G prog 218 38 [(1,I a1),(6,pT b21),(8,I c1),(9,I d1)] p1 w (Dx.post w0 L r1 r2):=by
   refine lp (fun _ w H _=>by rw [Dx.l4] at H; cases H) fun g1 m1 n1 d1 w H HS=>?_
   rw [Dx.l4] at H
   subst q1
   refine rN 3 Z ?_
   rcases iS H with ⟨c60,H⟩|⟨c60,H⟩
   ·
    refine nB Z (tF c60) (rN 4 Z (gW (u1 g1 (Nat.le_of_succ_le m1) _ _ H HS) Z))
   refine yB Z (tT c60) (rN 4 Z ?_)
   obtain ⟨c61,H⟩:=iN H
   obtain ⟨c62,H⟩:=iN H
   refine rG (fL b21 1 Rs Z (lB 0 HS Z Ob Z (mV Z (iX Z U65 Na (rk (ro 2 Z) HS) c61 (GO.C8 (T:=(Ty.slice 2 (Ac .i64))) (n:=c1.toNat) (o:=0) HS (ro 2 Z) Z Z (getD_some (d:=[]) (ltN c61)) Z Z Ip Z (mV Z (GO.ix Z Z Z U26 sz2 ((Bv.elem (ro 2 Z) c61.1 c61.2) _ HS).2.2.1 c62.1 c62.2 Z (GO.C8 (T:=(Ac .i64)) (n:=d1.toNat) (o:=0) HS (Bv.elem (ro 2 Z) c61.1 c61.2) Z Z (getD_some (d:=0) (ltN c62)) Z Z na2 Z (pS 2 Z (nL ?_))))))))))
   rcases iS H with ⟨c63,H⟩|⟨c63,H⟩
   ·
    refine nB Z (tF c63) (rN 4 Z (gW (n1 g1 (lR _) _ _ H HS) Z))
   refine yB Z (tT c63) (rN 2 Z ?_)
   obtain ⟨rfl,rfl⟩:=H8 H
   exact G.Jr _ _ func218 Z Z Z ⟨Z,(HS.pk 4 [] Z)⟩
  exact gW (k1 f1 (lR _) _ _ H HS) Z
 exact gW (s1 K (lR _) _ _ H (HS.pk 6 [0,1,2,3] Z)) Z
theorem Cu.calls {b1 to:List Int} {r1:Int} {r2:Bool} (HS:St w0 w (L)) (r_a:Bv w0 L (Ac .i64) A_a c_a uu b1) (r_b:Bv w0 L (Ac .i64) A_b c_b uu to) (H:Cu.f K b1 to=some (r1,r2)) :
   Calls prog 219 #[sV A_a b1 c_a,sV A_b to c_b] w (Cu.post w0 L r1 r2):=by
 unfold Cu.f at H
 refine cG func219 Z ?_
 refine rN 4 Z (rG (mV Z (lS Z Z U26 Z (mV Z (lS Z Z U26 Z (GO.neq Z Z Z Z (nL ?_)))))))
 rcases iS H with ⟨c1,H⟩|⟨c1,H⟩
 ·
  refine yB Z (nF c1) (rN 2 Z ?_)
  obtain ⟨rfl,rfl⟩:=H8 H
  exact G.Jr _ _ func219 Z Z Z ⟨Z,HS⟩
 refine nB Z (nT c1) (rN 6 Z ?_)
 refine G.name (fun q1 z1=>?_)
 have a2:∀ k1,k1≤K→∀ (a1:Int) (w:World),Cu.l1 K k1 b1 to a1=some (r1,r2)→St w0 w (L)→G prog 219 73 [(0,sV A_a b1 c_a),(1,sV A_b to c_b),(6,I a1)] q1 w (Cu.post w0 L r1 r2):=by
  refine lp (fun _ w H _=>by rw [Cu.l1] at H; cases H) fun g1 e2 c2 a1 w H HS=>?_
  rw [Cu.l1] at H
  subst z1
  refine rN 2 Z (rG (pS 2 Z (lS Z Z U26 Z (GO.lss Z Z Z Z (nL ?_)))))
  rcases iS H with ⟨c111,H⟩|⟨c111,H⟩
  ·
   refine nB Z (tF c111) (rN 6 Z ?_)
   refine G.name (fun x1 y1=>?_)
   have v1:∀ o1,o1≤g1→∀ (d1:Int) (w:World),Cu.l9 K o1 b1 to d1=some (r1,r2)→St w0 w (L)→G prog 219 73 [(0,sV A_a b1 c_a),(1,sV A_b to c_b),(7,I d1)] x1 w (Cu.post w0 L r1 r2):=by
    refine lp (fun _ w H _=>by rw [Cu.l9] at H; cases H) fun n1 d2 u1 d1 w H HS=>?_
    rw [Cu.l9] at H
    subst y1
    refine rN 3 Z ?_
    rcases iS H with ⟨c179,H⟩|⟨c179,H⟩
    ·
     refine nB Z (tF c179) (rN 3 Z ?_)
     obtain ⟨rfl,rfl⟩:=H8 H
     exact G.Jr _ _ func219 Z Z Z ⟨Z,HS⟩
    refine yB Z (tT c179) (rN 10 Z ?_)
    refine G.name (fun p1 b2=>?_)
    have s1:∀ m1,m1≤n1→∀ (f1:Bool) (e1:Int) (w:World),Cu.l12 K m1 b1 to d1 f1 e1=some (r1,r2)→St w0 w (L)→G prog 219 73 [(0,sV A_a b1 c_a),(1,sV A_b to c_b),(7,I d1),(8,.bool f1),(9,I e1)] p1 w (Cu.post w0 L r1 r2):=by
     refine lp (fun _ _ w H _=>by rw [Cu.l12] at H; cases H) fun h1 t1 i1 f1 e1 w H HS=>?_
     rw [Cu.l12] at H
     subst b2
     refine rN 2 Z (rG (pS 2 Z (lS Z Z U26 Z (GO.lss Z Z Z Z (nL ?_)))))
     rcases iS H with ⟨c198,H⟩|⟨c198,H⟩
     ·
      refine nB Z (tF c198) (rN 3 Z ?_)
      rcases iE H with ⟨c206,H⟩|⟨c206,H⟩
      ·
       refine yB Z c206 (rN 2 Z ?_)
       obtain ⟨rfl,rfl⟩:=H8 H
       exact G.Jr _ _ func219 Z Z Z ⟨Z,HS⟩
      refine nB Z (Cv c206) (rN 4 Z (gW (u1 h1 (Nat.le_of_succ_le t1) _ _ H HS) Z))
     refine yB Z (tT c198) (rN 3 Z ?_)
     rcases iS H with ⟨c199,H⟩|⟨c199,H⟩
     ·
      refine G.Jk mixed (fun w=>St w0 w (L)) [6,11] [0,1,2,3,4,5,8,9,10,6,11,7,12,13,14] [] (by kernel_rfl) (by kernel_rfl) HS.drew ?_
      replace HS:=HS.drew
      refine GX.ps 1 Z (qL Z Z (fun _ _ g=>mV Z (kN 58 Z (Cv c199) g)) Z (qL Z Z (fun _ _ g=>oF Z g) Z (qL Z Z (fun _ _ g=>oF Z g) Z (qL Z Z (fun _ _ g=>oF Z g) Z (qL Z Z (fun _ _ g=>oF Z g) Z (qL Z Z (fun _ _ g=>oF Z g) Z (qL Z Z (fun _ _ g=>oF Z g) Z (qL Z Z (fun _ _ g=>oF Z g) Z (GX.ls Z Z Z HS (fun _ HS _ g=>oF Z g) Z (GX.ls Z Z Z HS (fun _ HS _ g=>oF Z g) Z (GX.l2 Z (oF Z (GX.fin HS (qL Z Z (fun _ _ g=>oF Z g) Z ?_))))))))))))))
      refine GX.ps 2 Z (GX.nil (rN 3 Z (gW (i1 h1 (lR _) _ _ _ H HS) Z)))
     obtain ⟨c200,H⟩:=iN H
     obtain ⟨t201,h202,H⟩:=bI H
     obtain ⟨c205,H⟩:=iN H
     refine G.Jk mixed (fun w=>St w0 w (L)) [6,11] [0,1,2,3,4,5,8,9,10,6,11,7,12,13,14] [] (by kernel_rfl) (by kernel_rfl) HS.drew ?_
     replace HS:=HS.drew
     refine GX.ps 1 Z (qL Z Z (fun _ _ g=>mV Z (kN 58 Z c199 g)) Z (qL Z Z (fun _ _ g=>oN Z (mV Z (bK g))) Z (qL Z Z (fun _ _ g=>oN Z (mV Z (bK g))) Z (qL Z Z (fun _ _ g=>oN Z (mV Z (bK g))) Z (qL Z Z (fun _ _ g=>oN Z (iX Z U26 sz2 (rk r_a HS) c200 (bK g))) Z (qL Z Z (fun _ _ g=>oN Z (mV Z (bK g))) Z (qL Z Z (fun _ _ g=>oN Z (mV Z (bK g))) Z (qL Z Z (fun _ _ g=>oN Z (iX Z U26 sz2 (rk r_b HS) c205 (bK g))) Z (GX.ls Z Z Z HS (fun _ HS _ g=>oN Z (GO.C8 (T:=(Ac .i64)) (n:=e1.toNat) (o:=0) HS r_a Z Z (getD_some (d:=0) (ltN c200)) Z Z na2 Z (bK g))) Z (GX.ls Z Z Z HS (fun _ HS _ g=>oN Z (GO.C8 (T:=(Ac .i64)) (n:=e1.toNat) (o:=0) HS r_b Z Z (getD_some (d:=0) (ltN c205)) Z Z na2 Z (bK g))) Z (GX.l2 Z (oN Z (fJ Mr Z (Ct.calls HS  h202) (fun _ wd203 ⟨h204,HS⟩=>⟨_,h204,(bK ?_)⟩))))))))))))))
     refine GX.fin HS (qL Z Z (fun _ _ g=>oN Z (GO.eql Z Z Z Z (bK g))) Z (GX.ps 2 Z (GX.nil (rN 3 Z (gW (i1 h1 (lR _) _ _ _ H HS) Z)))))
    exact gW (s1 n1 (lR _) _ _ _ H HS) Z
   exact gW (v1 g1 (lR _) _ _ H HS) Z
  refine yB Z (tT c111) (rN 4 Z ?_)
  obtain ⟨c117,H⟩:=iN H
  rcases iE H with ⟨c118,H⟩|⟨c118,H⟩
  ·
   refine rG (pS 2 Z (iX Z U26 sz2 (rk r_a HS) c117 (GO.C8 (T:=(Ac .i64)) (n:=a1.toNat) (o:=0) HS r_a Z Z (getD_some (d:=0) (ltN c117)) Z Z na2 Z (pS 2 Z (kN 26 Z (tT c118) (oF Z (oF Z (oF Z (oF Z (oF Z (pS 2 Z (oF Z (oF Z (oF Z ?_))))))))))))))
   refine oF Z (oF Z (pS 2 Z (oF Z (oF Z (oF Z (oF Z (oF Z (GO.Gq Z Z Z Z Z (nL (rN 3 Z ?_))))))))))
   obtain ⟨rfl,rfl⟩:=H8 H
   exact G.Jr _ _ func219 Z Z Z ⟨Z,HS⟩
  rcases iE H with ⟨c119,H⟩|⟨c119,H⟩
  ·
   refine rG (pS 2 Z (iX Z U26 sz2 (rk r_a HS) c117 (GO.C8 (T:=(Ac .i64)) (n:=a1.toNat) (o:=0) HS r_a Z Z (getD_some (d:=0) (ltN c117)) Z Z na2 Z (pS 2 Z (kN 26 Z (tF c118) (oN Z (mV Z (bK (oN Z (mV Z (bK (oN Z (iX Z U26 sz2 (rk r_a HS) c117 (bK ?_))))))))))))))
   refine oN Z (GO.C8 (T:=(Ac .i64)) (n:=a1.toNat) (o:=0) HS r_a Z Z (getD_some (d:=0) (ltN c117)) Z Z na2 Z (bK (oN Z (GO.gtr Z Z Z Z (bK (pS 2 Z (kN 33 Z (tT c119) (oF Z (oF Z (oF Z (oF Z (oF Z (pS 2 Z (oF Z ?_))))))))))))))
   refine oF Z (oF Z (oF Z (oF Z (GO.Gq Z Z Z Z Z (nL (rN 3 Z ?_))))))
   obtain ⟨rfl,rfl⟩:=H8 H
   exact G.Jr _ _ func219 Z Z Z ⟨Z,HS⟩
  obtain ⟨c120,H⟩:=iN H
  rcases iE H with ⟨c121,H⟩|⟨c121,H⟩
  ·
   refine rG (pS 2 Z (iX Z U26 sz2 (rk r_a HS) c117 (GO.C8 (T:=(Ac .i64)) (n:=a1.toNat) (o:=0) HS r_a Z Z (getD_some (d:=0) (ltN c117)) Z Z na2 Z (pS 2 Z (kN 26 Z (tF c118) (oN Z (mV Z (bK (oN Z (mV Z (bK (oN Z (iX Z U26 sz2 (rk r_a HS) c117 (bK ?_))))))))))))))
   refine oN Z (GO.C8 (T:=(Ac .i64)) (n:=a1.toNat) (o:=0) HS r_a Z Z (getD_some (d:=0) (ltN c117)) Z Z na2 Z (bK (oN Z (GO.gtr Z Z Z Z (bK (pS 2 Z (kN 33 Z (tF c119) (oN Z (mV Z (bK (oN Z (mV Z (bK (oN Z ?_))))))))))))))
   refine iX Z U26 sz2 (rk r_b HS) c120 (bK (oN Z (GO.C8 (T:=(Ac .i64)) (n:=a1.toNat) (o:=0) HS r_b Z Z (getD_some (d:=0) (ltN c120)) Z Z na2 Z (bK (oN Z (GO.lss Z Z Z Z (bK (pS 2 Z (kN 40 Z (tT c121) (oF Z (oF Z (oF Z (oF Z (oF Z ?_))))))))))))))
   refine GO.Gq Z Z Z Z Z (nL (rN 3 Z ?_))
   obtain ⟨rfl,rfl⟩:=H8 H
   exact G.Jr _ _ func219 Z Z Z ⟨Z,HS⟩
  refine rG (pS 2 Z (iX Z U26 sz2 (rk r_a HS) c117 (GO.C8 (T:=(Ac .i64)) (n:=a1.toNat) (o:=0) HS r_a Z Z (getD_some (d:=0) (ltN c117)) Z Z na2 Z (pS 2 Z (kN 26 Z (tF c118) (oN Z (mV Z (bK (oN Z (mV Z (bK (oN Z (iX Z U26 sz2 (rk r_a HS) c117 (bK ?_))))))))))))))
  refine oN Z (GO.C8 (T:=(Ac .i64)) (n:=a1.toNat) (o:=0) HS r_a Z Z (getD_some (d:=0) (ltN c117)) Z Z na2 Z (bK (oN Z (GO.gtr Z Z Z Z (bK (pS 2 Z (kN 33 Z (tF c119) (oN Z (mV Z (bK (oN Z (mV Z (bK (oN Z ?_))))))))))))))
  refine iX Z U26 sz2 (rk r_b HS) c120 (bK (oN Z (GO.C8 (T:=(Ac .i64)) (n:=a1.toNat) (o:=0) HS r_b Z Z (getD_some (d:=0) (ltN c120)) Z Z na2 Z (bK (oN Z (GO.lss Z Z Z Z (bK (pS 2 Z (kN 40 Z (tF c121) (oN Z (mV Z (bK (oN Z (mV Z ?_))))))))))))))
  refine bK (oN Z (iX Z U26 sz2 (rk r_b HS) c120 (bK (oN Z (GO.C8 (T:=(Ac .i64)) (n:=a1.toNat) (o:=0) HS r_b Z Z (getD_some (d:=0) (ltN c120)) Z Z na2 Z (bK (oN Z (GO.gtr Z Z Z Z (bK (GO.Iw Z Z Z Z Z (nL ?_)))))))))))
  rcases iE H with ⟨c122,H⟩|⟨c122,H⟩
  ·
   refine yB Z (tT c122) (rN 2 Z ?_)
   obtain ⟨rfl,rfl⟩:=H8 H
   exact G.Jr _ _ func219 Z Z Z ⟨Z,HS⟩
  refine nB Z (tF c122) (rN 4 Z (gW (c2 g1 (lR _) _ _ H HS) Z))
 exact gW (a2 K (lR _) _ _ H HS) Z
theorem Dr.calls {c1:List (List Am)} {d1:Int} {y_a:Nat→(Ty.slice 83 Ak).Lay} {r1 r2:Int} (HS:St w0 w (L)) (r_a:Bv w0 L (Ty.slice 83 Ak) A_a c_a y_a c1) (H:Dr.f K c1 d1=some (r1,r2)) :
   Calls prog 196 #[.agg [sV A_a c1 c_a].toArray,I d1] w (Dr.post w0 L r1 r2):=by
 unfold Dr.f at H
 refine cG func196 Z ?_
 refine sQ (rG (bA HS Z fun b1 wd2 HS=>GO.alloc HS Z Q7 Z Z fun b3 wd4 HS=>nL (sQ ?_)))
 obtain ⟨t5,t6,t7,t8,h9,H⟩:=Ii H
 refine rG (lW 1 HS Z Iy (fJ dN Z (Bb.calls HS (rD 2 r_a) h9) (fun _ wd21 ⟨A10,c11,y12,A13,c14,y15,A16,c17,y18,A19,c20,h22,HS⟩=>⟨_,h22,(pS 3 Z (GO.alloc HS Z gJ Z Z fun b23 wd24 HS=>sW 0 HS Z Zn Z fun wd25 HS=>aS Z (nL (rN 5 Z ?_))))⟩)))
 refine G.name (fun t1 o1=>?_)
 have q1:∀ i1,i1≤K→∀ (a1:Int) (w:World),Dr.l1 K i1 c1 d1 t6 a1=some (r1,r2)→St w0 w (Box b1 33 [sV A_a c1 c_a]::Box b3 176 [I 0,I 0]::Box b23 95 [sV A10 t5 c11,sV A13 t6 c14,sV A16 t7 c17]::Own (Ty.slice 2 (Ac .i64)) 26 A10 c11 y12 t5::Own (Ty.slice 2 (Ac .i64)) 26 A13 c14 y15 t6::Own (Ty.slice 2 (Ac .i64)) 26 A16 c17 y18 t7::L)→G prog 196 84 [(1,I d1),(2,pT b1),(4,pT b3),(5,pT b23),(7,I a1)] t1 w (Dr.post w0 L r1 r2):=by
  refine lp (fun _ w H _=>by rw [Dr.l1] at H; cases H) fun h1 v1 u1 a1 w H HS=>?_
  rw [Dr.l1] at H
  subst o1
  refine rN 2 Z ?_
  obtain ⟨t305,h306,H⟩:=bI H
  refine rG (mV Z (lW 0 HS Z Iy (fJ O7 Z (Dn.calls HS (rD 6 r_a) h306) (fun _ wd307 ⟨h308,HS⟩=>⟨_,h308,(GO.lss Z Z Z Z (nL ?_))⟩))))
  rcases iS H with ⟨c309,H⟩|⟨c309,H⟩
  ·
   refine nB Z (tF c309) (rN 2 Z ?_)
   obtain ⟨t424,t425,h426,H⟩:=Cx H
   refine rG (lW 0 HS Z Iy (mV Z (fJ vB Z (Dx.calls HS (rD 6 r_a) h426) (fun _ wd427 ⟨h428,HS⟩=>⟨_,h428,(pS 5 Z (nL (sQ ?_)))⟩))))
   obtain ⟨t429,t430,h431,H⟩:=Cx H
   refine rG (mV Z (fJ Yx Z (Ha.calls HS  h431) (fun _ wd432 ⟨h433,HS⟩=>⟨_,h433,(pS 5 Z (nL (sQ ?_)))⟩)))
   obtain ⟨t438,t439,h440,H⟩:=Cx H
   refine rG (GO.D8 (el:=2) ([I 0,I 1]) HS Z Z (fun _=>by kernel_rfl) Z fun b434 wd435 HS=>pS 2 Z (GO.D8 (el:=2) ([I t429,I t430]) HS Z Z (fun _=>by kernel_rfl) Z fun b436 wd437 HS=>?_))
   replace HS:=HS.Ib (T:=(Ac .i64)) (j:=1) Z Ao uu ([0,1]:List Int) Z (Ky Z)
   refine GO.Ke (t:=74) (m:=([0,1]:List Int).length) (c':=([0,1]:List Int).length) Z Z Z ?_
   replace HS:=HS.Ib (T:=(Ac .i64)) (j:=0) Z Ao uu ([t429,t430]:List Int) Z (Ky Z)
   refine GO.Ke (t:=77) (m:=([t429,t430]:List Int).length) (c':=([t429,t430]:List Int).length) Z Z Z (fJ uF Z (Cu.calls HS (ro 1 Z) (ro 0 Z) h440) (fun _ wd441 ⟨h442,HS⟩=>⟨_,h442,(pS 5 Z (nL (sQ (rG (pS 2 Z (GO.Je (.agg [I t424,I t438].toArray) Z Z (fun _=>by kernel_rfl) Z (sW 3 HS Z J4 Z fun wd443 HS=>nL ?_)))))))⟩))
   obtain ⟨rfl,rfl⟩:=H8 H
   exact rT _ func196 Z (Kc.Lh (j:=3) (vs:=[I t424,I t438]) HS Z Z Z J4) ⟨Z,(HS.pk 8 [] Z)⟩
  refine yB Z (tT c309) (rN 7 Z ?_)
  refine G.name (fun p1 s1=>?_)
  have m1:∀ k1,k1≤h1→∀ (e1:Int) (w:World),Dr.l4 K k1 c1 d1 t6 a1 e1=some (r1,r2)→St w0 w (Box b1 33 [sV A_a c1 c_a]::Box b3 176 [I 0,I 0]::Box b23 95 [sV A10 t5 c11,sV A13 t6 c14,sV A16 t7 c17]::Own (Ty.slice 2 (Ac .i64)) 26 A10 c11 y12 t5::Own (Ty.slice 2 (Ac .i64)) 26 A13 c14 y15 t6::Own (Ty.slice 2 (Ac .i64)) 26 A16 c17 y18 t7::L)→G prog 196 84 [(1,I d1),(2,pT b1),(4,pT b3),(5,pT b23),(7,I a1),(8,I e1)] p1 w (Dr.post w0 L r1 r2):=by
   refine lp (fun _ w H _=>by rw [Dr.l4] at H; cases H) fun f1 n1 g1 e1 w H HS=>?_
   rw [Dr.l4] at H
   subst s1
   refine rN 3 Z ?_
   rcases iS H with ⟨c386,H⟩|⟨c386,H⟩
   ·
    refine nB Z (tF c386) (rN 4 Z (gW (u1 f1 (Nat.le_of_succ_le n1) _ _ H HS) Z))
   refine yB Z (tT c386) (rN 4 Z ?_)
   obtain ⟨t387,h388,H⟩:=bI H
   obtain ⟨t391,h392,H⟩:=bI H
   obtain ⟨t395,h396,H⟩:=bI H
   refine rG (mV Z (fJ Mr Z (Ct.calls HS  h388) (fun _ wd389 ⟨h390,HS⟩=>⟨_,h390,(mV Z (fJ Mr Z (Ct.calls HS  h392) (fun _ wd393 ⟨h394,HS⟩=>⟨_,h394,(fJ lM Z (E8.calls HS  h396) (fun _ wd397 ⟨h398,HS⟩=>⟨_,h398,(aS Z (nL (sQ ?_)))⟩))⟩)))⟩)))
   obtain ⟨c410,H⟩:=iN H
   have h411:=(rk (ro 4 Z) HS)
   obtain ⟨c412,H⟩:=iN H
   rcases iS H with ⟨c413,H⟩|⟨c413,H⟩
   ·
    refine G.Jk mixed (fun w=>St w0 w (Box b23 95 [sV A10 t5 c11,sV A13 t6 c14,sV A16 t7 c17]::Own (Ty.slice 2 (Ac .i64)) 26 A13 c14 y15 t6::L)) [1,4,7,12,15,20] [0,2,5,8,1,3,4,6,7,9,10,11,13,16,12,14,15,17,18,19,20,21,22] [] (by kernel_rfl) (by kernel_rfl) (HS.drew.pk 6 [2,4] Z) ?_
    replace HS:=HS.drew
    refine qL Z Z (fun _ _ g=>fL b23 1 Rs Z g) Z (GX.ps 3 Z (GX.ls Z Z Z (HS.pk 6 [2,4] Z) (fun _ HS _ g=>lB 0 HS Z Ob Z g) Z (qL Z Z (fun _ _ g=>iX Z U65 Na h411 c410 g) Z (GX.ls Z Z Z (HS.pk 6 [2,4] Z) (fun _ HS _ g=>GO.C8 (T:=(Ty.slice 2 (Ac .i64))) (n:=a1.toNat) (o:=0) HS (ro 1 Z) Z Z (getD_some (d:=[]) (ltN c410)) Z Z Ip Z g) Z (qL Z Z (fun _ _ g=>GO.ix Z Z Z U26 sz2 ((Bv.elem (ro 4 Z) c410.1 c410.2) _ HS).2.2.1 c412.1 c412.2 Z g) Z (GX.ls Z Z Z (HS.pk 6 [2,4] Z) (fun _ HS _ g=>GO.C8 (T:=(Ac .i64)) (n:=t395.toNat) (o:=0) HS (Bv.elem (ro 1 Z) c410.1 c410.2) Z Z (getD_some (d:=0) (ltN c412)) Z Z na2 Z g) Z (GX.ps 1 Z (qL Z Z (fun _ _ g=>mV Z (kN 46 Z (tF c413) g)) Z (qL Z Z (fun _ _ g=>oF Z g) Z (qL Z Z (fun _ _ g=>oF Z g) Z (qL Z Z (fun _ _ g=>oF Z g) Z (GX.ls Z Z Z (HS.pk 6 [2,4] Z) (fun _ HS _ g=>oF Z g) Z (qL Z Z (fun _ _ g=>oF Z g) Z (GX.ls Z Z Z (HS.pk 6 [2,4] Z) (fun _ HS _ g=>oF Z g) Z ?_))))))))))))))
    refine GX.l2 Z (oF Z (GX.fin (HS.pk 6 [2,4] Z) (qL Z Z (fun _ _ g=>oF Z g) Z (qL Z Z (fun _ _ g=>oF Z g) Z (GX.ls Z Z Z (HS.pk 6 [2,4] Z) (fun _ HS _ g=>oF Z g) Z (qL Z Z (fun _ _ g=>oF Z g) Z (GX.ps 1 Z (GX.nil (rN 5 Z (gW (g1 f1 (lR _) _ _ H HS) Z))))))))))
   obtain ⟨c414,H⟩:=iN H
   obtain ⟨t415,h416,H⟩:=bI H
   obtain ⟨c419,H⟩:=iN H
   obtain ⟨e420,h421,H⟩:=Gp H
   refine G.Jk mixed (fun w=>St w0 w (Box b1 33 [sV A_a c1 c_a]::Box b23 95 [sV A10 t5 c11,sV A13 t6 c14,sV A16 t7 c17]::Own (Ty.slice 2 (Ac .i64)) 26 A13 c14 y15 t6::L)) [1,4,7,12,15,20] [0,2,5,8,1,3,4,6,7,9,10,11,13,16,12,14,15,17,18,19,20,21,22] [] (by kernel_rfl) (by kernel_rfl) (HS.drew.pk 6 [0,2,4] Z) ?_
   replace HS:=HS.drew
   refine qL Z Z (fun _ _ g=>fL b23 1 Rs Z g) Z (GX.ps 3 Z (GX.ls Z Z Z (HS.pk 6 [0,2,4] Z) (fun _ HS _ g=>lB 1 HS Z Ob Z g) Z (qL Z Z (fun _ _ g=>iX Z U65 Na h411 c410 g) Z (GX.ls Z Z Z (HS.pk 6 [0,2,4] Z) (fun _ HS _ g=>GO.C8 (T:=(Ty.slice 2 (Ac .i64))) (n:=a1.toNat) (o:=0) HS (ro 2 Z) Z Z (getD_some (d:=[]) (ltN c410)) Z Z Ip Z g) Z (qL Z Z (fun _ _ g=>GO.ix Z Z Z U26 sz2 ((Bv.elem (ro 4 Z) c410.1 c410.2) _ HS).2.2.1 c412.1 c412.2 Z g) Z (GX.ls Z Z Z (HS.pk 6 [0,2,4] Z) (fun _ HS _ g=>GO.C8 (T:=(Ac .i64)) (n:=t395.toNat) (o:=0) HS (Bv.elem (ro 2 Z) c410.1 c410.2) Z Z (getD_some (d:=0) (ltN c412)) Z Z na2 Z g) Z (GX.ps 1 Z (qL Z Z (fun _ _ g=>mV Z (kN 46 Z (tT c413) g)) Z (qL Z Z (fun _ _ g=>oN Z (fL b1 0 F3 Z (bK g))) Z (qL Z Z (fun _ _ g=>oN Z (mV Z (bK g))) Z (qL Z Z (fun _ _ g=>oN Z (mV Z (bK g))) Z (GX.ls Z Z Z (HS.pk 6 [0,2,4] Z) (fun _ HS _ g=>oN Z (lB 0 HS Z Jo Z (bK g))) Z (qL Z Z (fun _ _ g=>oN Z (iX Z U31 Lm (rk (rD 6 r_a) HS) c414 (bK g))) Z (GX.ls Z Z Z (HS.pk 6 [0,2,4] Z) (fun _ HS _ g=>oN Z (GO.C8 (T:=(Ty.slice 83 Ak)) (n:=a1.toNat) (o:=0) HS (rD 3 r_a) Z Z (getD_some (d:=[]) (ltN c414)) Z Z Lj Z (bK g))) Z ?_))))))))))))))
   refine GX.l2 Z (oN Z (fJ Mr Z (Ct.calls HS  h416) (fun _ wd417 ⟨h418,HS⟩=>⟨_,h418,(bK (GX.fin (HS.pk 6 [0,2,4] Z) (qL Z Z (fun _ _ g=>oN Z (GO.ix Z Z Z U81 Ls ((Bv.elem (rD 6 r_a) c414.1 c414.2) _ HS).2.2.1 c419.1 c419.2 Z (bK g))) Z (qL Z Z (fun _ _ g=>oN Z (GO.fld (ea ((y_a a1.toNat).A) (t415.toNat*2)) Z Z F6 Z Z (bK g))) Z (GX.ls Z Z Z (HS.pk 6 [0,2,4] Z) (fun _ HS _ g=>oN Z (GO.C8 (T:=Ak) (n:=t415.toNat) (o:=0) HS (Bv.elem (rD 3 r_a) c414.1 c414.2) Z Z (Gt (ltN c419) h421) Z Z na2 Z (bK g))) Z (qL Z Z (fun _ _ g=>oN Z (GO.lss Z Z Z Z (bK g))) Z (GX.ps 1 Z (GX.nil ?_))))))))⟩)))
   rcases iS H with ⟨c422,H⟩|⟨c422,H⟩
   ·
    refine nB Z (tF c422) (rN 4 Z (gW (g1 f1 (lR _) _ _ H HS) Z))
   refine yB Z (tT c422) (sQ (rG (pS 2 Z (GO.Je (.agg [I a1,I e1].toArray) Z Z (fun _=>by kernel_rfl) Z (sW 1 HS Z J4 Z fun wd423 HS=>nL ?_)))))
   obtain ⟨rfl,rfl⟩:=H8 H
   exact rT _ func196 Z (Kc.Lh (j:=1) (vs:=[I a1,I e1]) HS Z Z Z J4) ⟨Z,(HS.pk 6 [] Z)⟩
  exact gW (m1 h1 (lR _) _ _ H HS) Z
 exact gW (q1 K (lR _) _ _ H (HS.pk 7 [6,5,0,1,2,3] Z)) Z
theorem Ee.calls {d1:List (List Am)} {a1 c1:Int} {y_a:Nat→(Ty.slice 83 Ak).Lay} {r1 r2:Int} {r3:Bool} (HS:St w0 w (L)) (r_a:Bv w0 L (Ty.slice 83 Ak) A_a c_a y_a d1) (H:Ee.f K d1 a1 c1=some (r1,r2,r3)) :
   Calls prog 197 #[.agg [sV A_a d1 c_a].toArray,.agg [I a1,I c1].toArray] w (Ee.post w0 L r1 r2 r3):=by
 unfold Ee.f at H
 refine cG func197 Z ?_
 refine sQ (rG (bA HS Z fun b1 wd2 HS=>bA HS Z fun b3 wd4 HS=>GO.alloc HS Z Q7 Z Z fun b5 wd6 HS=>aS Z (nL (sQ ?_))))
 obtain ⟨c7,H⟩:=iN H
 obtain ⟨t8,h9,H⟩:=bI H
 obtain ⟨c12,H⟩:=iN H
 obtain ⟨e13,h14,H⟩:=Gp H
 refine G.Pk mixed (by decide) (fun b a w=>∃ (b15:Nat) (e1:Dc),RS 49 [(2,pT b1),(3,pT b3),(4,pT b5)] [rv 10 (pT b1),rv 11 (sV A_a d1 c_a),rv 12 (pT b3),rv 13 (I a1),rv 14 (.pointer (some (ea A_a (a1.toNat*1)))),rv 15 (sV ((y_a a1.toNat).A) (d1.getD a1.toNat []) ((y_a a1.toNat).c)),rv 16 (.pointer (some ⟨b3,1,none⟩)),rv 17 (I c1),rv 18 (I t8),rv 19 (.pointer (some (ea ((y_a a1.toNat).A) (t8.toNat*2)))),rv 20 (.agg [I e13.Tet,I e13.Perm].toArray),rv 6 (pT b15),none] b a∧St w0 w (Box b5 176 [I 0,I 0]::Box b3 176 [I a1,I c1]::Box b1 33 [sV A_a d1 c_a]::e1::L)∧(b 11=true→b 12=false→e1=Box b15 83 [I 0,I 0])∧(b 12=true→e1=Box b15 83 [I e13.Tet,I e13.Perm])) ?_ ?_ ?_
 · exact fun a hs=>⟨0,Emp,hs.init Z,(HS.drew.emp.pk 4 [1,2,3,0] Z),fun h=>Bool.noConfusion h,fun h=>Bool.noConfusion h⟩
 ·
  intro j b a w hj
  refine exI fun b15=>exI fun e1=>anI fun hs=>fun hM q=>?_
  have HS:=hM.1
  match j,hj with
  | 0,_ =>
   refine hs.at q [] [] (fL b1 0 F3 Z (hs.fin q Z fun _ hs=>⟨_,_,hs,hM⟩))
  | 1,_ =>
   refine hs.at q [0] [] (lB 2 HS Z Jo Z (hs.fin q Z fun _ hs=>⟨_,_,hs,hM⟩))
  | 2,_ =>
   refine hs.at q [] [] (fL b3 0 Tv Z (hs.fin q Z fun _ hs=>⟨_,_,hs,hM⟩))
  | 3,_ =>
   refine hs.at q [2] [] (lB 1 HS Z na2 Z (hs.fin q Z fun _ hs=>⟨_,_,hs,hM⟩))
  | 4,_ =>
   refine hs.at q [1,3] [] (iX Z U31 Lm (rk (rD 4 r_a) HS) c7 (hs.fin q Z fun _ hs=>⟨_,_,hs,hM⟩))
  | 5,_ =>
   refine hs.at q [4] [] (GO.C8 (T:=(Ty.slice 83 Ak)) (n:=a1.toNat) (o:=0) HS (rD 4 r_a) Z Z (getD_some (d:=[]) (ltN c7)) Z Z Lj Z (hs.fin q Z fun _ hs=>⟨_,_,hs,hM⟩))
  | 6,_ =>
   refine hs.at q [] [] (fL b3 1 Rk Z (hs.fin q Z fun _ hs=>⟨_,_,hs,hM⟩))
  | 7,_ =>
   refine hs.at q [6] [] (lB 1 HS Z na2 Z (hs.fin q Z fun _ hs=>⟨_,_,hs,hM⟩))
  | 8,_ =>
   refine hs.at q [7] [] (fJ Mr Z (Ct.calls HS  h9) (fun _ wd10 ⟨h11,HS⟩=>⟨_,h11,(hs.fin q Z fun _ hs=>⟨_,_,hs,HS,hM.2⟩)⟩))
  | 9,_ =>
   refine hs.at q [5,8] [] (GO.ix Z Z Z U81 Ls ((Bv.elem (rD 4 r_a) c7.1 c7.2) _ HS).2.2.1 c12.1 c12.2 Z (hs.fin q Z fun _ hs=>⟨_,_,hs,hM⟩))
  | 10,_ =>
   refine hs.at q [9] [] (GO.Kk (T:=Ak) (n:=t8.toNat) HS (Bv.elem (rD 4 r_a) c7.1 c7.2) Z Z (Gt (ltN c12) h14) Jf Z (hs.fin q Z fun _ hs=>⟨_,_,hs,hM⟩))
  | 11,_ =>
   refine (anI fun HS=>anI fun i1=>fun h1=>?_) hM
   refine hs.at q [] [] (GO.alloc HS Z Pb Z Z fun b15 wd16 HS=>hs.Za q [11] (fun _ hs=>⟨b15,Box b15 83 [I 0,I 0],hs,HS.pk 5 [1,2,3,0] Z,fun _ _=>Z,fun hh=>(q.no 12 hh).elim⟩) Z Z)
  | 12,_ =>
   refine (anI fun HS=>anI fun i1=>fun h1=>?_) hM
   have hb11:=q.on 11
   obtain rfl:=i1 hb11 q.hb
   refine hs.at q [11,10] [] (sW 3 HS Z Jf Z fun wd17 HS=>hs.oI q Z fun _ hs=>⟨b15,Box b15 83 [I e13.Tet,I e13.Perm],hs,HS,fun _ h=>Bool.noConfusion h,fun _=>Z⟩)
  | k+13,hj=>exact absurd hj (Nat.not_lt.2 (Nat.le_add_left 13 k))
 ·
  intro b a w hall
  refine exI fun b15=>exI fun e1=>anI fun hs=>anI fun HS=>anI fun i1=>fun h1=>?_
  obtain rfl:=h1 (hall 12 (by decide))
  refine G.at (hs.all hall) (rN 2 Z (rG (fL b15 0 F6 Z (lB 3 HS Z na2 Z (GO.lss Z Z Z Z (nL ?_))))))
  rcases iE H with ⟨c18,H⟩|⟨c18,H⟩
  ·
   refine yB Z (tT c18) (sQ (rG (GO.Je (.agg [I 0,I 0].toArray) Z Z (fun _=>by kernel_rfl) Z (sW 0 HS Z J4 Z fun wd19 HS=>aS Z (nL ?_)))))
   obtain ⟨rfl,rfl,rfl⟩:=Kw H
   exact G.Jr _ _ func197 Z (Kc.Lh (j:=0) (vs:=[I 0,I 0]) HS Z Z Z J4) Z ⟨Z,(HS.pk 4 [] Z)⟩
  refine nB Z (tF c18) (rN 2 Z (rG (GO.D8 (el:=2) ([]) HS Z Z (fun _=>by kernel_rfl) Z fun b20 wd21 HS=>?_)))
  replace HS:=HS.Ib (T:=(Ac .i64)) (j:=0) Z Ao uu ([]:List Int) Z (Ky Z)
  refine GO.Ke (t:=25) (m:=([]:List Int).length) (c':=([]:List Int).length) Z Z Z (aS Z (nL (sQ (rG (GO.D8 (el:=2) ([I 0,I 1,I 3,I 2]) HS Z Z (fun _=>by kernel_rfl) Z fun b22 wd23 HS=>?_)))))
  replace HS:=HS.Ib (T:=(Ac .i64)) (j:=0) Z Ao uu ([0,1,3,2]:List Int) Z (Ky Z)
  refine GO.Ke (t:=26) (m:=([0,1,3,2]:List Int).length) (c':=([0,1,3,2]:List Int).length) Z Z Z (aS Z (nL (rN 5 Z ?_)))
  refine G.name (fun p1 n1=>?_)
  have o1:∀ k1,k1≤K→∀ (A40:Option Addr) (c41:Nat) (f1:List Int) (g1:Int) (w:World),Ee.l1 K k1 c1 e13 f1 g1=some (r1,r2,r3)→St w0 w (Box b3 176 [I a1,I c1]::Box b5 176 [I 0,I 0]::Box b15 83 [I e13.Tet,I e13.Perm]::Own (Ac .i64) 2 A40 c41 uu f1::Own (Ac .i64) 2 (sb b22) (([0,1,3,2]:List Int).length) uu ([0,1,3,2]:List Int)::L)→G prog 197 49 [(3,pT b3),(4,pT b5),(6,pT b15),(7,sV A40 f1 c41),(8,sV (sb b22) ([0,1,3,2]:List Int) (([0,1,3,2]:List Int).length)),(9,I g1)] p1 w (Ee.post w0 L r1 r2 r3):=by
   refine lp (fun _ _ _ _ w H _=>by rw [Ee.l1] at H; cases H) fun m1 s1 q1 A40 c41 f1 g1 w H HS=>?_
   rw [Ee.l1] at H
   subst n1
   refine rN 3 Z ?_
   rcases iS H with ⟨c66,H⟩|⟨c66,H⟩
   ·
    refine nB Z (tF c66) (rN 2 Z ?_)
    obtain ⟨t83,h84,H⟩:=bI H
    refine G.Jk mixed (fun w=>St w0 w (Box b15 83 [I e13.Tet,I e13.Perm]::L)) [1] [0,2,1,3,4,5,6] [] (by kernel_rfl) (by kernel_rfl) (HS.drew.pk 5 [2] Z) ?_
    replace HS:=HS.drew
    refine qL Z Z (fun _ _ g=>fL b15 0 F6 Z g) Z (GX.ps 1 Z (GX.ls Z Z Z (HS.pk 5 [2] Z) (fun _ HS _ g=>lB 0 HS Z na2 Z g) Z (GX.l2 Z (fJ kJ Z (D7.calls HS (ro 3 Z) h84) (fun _ wd85 ⟨h86,HS⟩=>⟨_,h86,(GX.fin (HS.pk 5 [2] Z) (qL Z Z (fun _ _ g=>GO.Je (.agg [I e13.Tet,I t83].toArray) Z Z (fun _=>by kernel_rfl) Z g) Z (GX.l2 Z (sW 1 HS Z J4 Z fun wd87 HS=>GX.fin (HS.pk 5 [2] Z) (GX.ps 1 Z (GX.nil ?_))))))⟩)))))
    obtain ⟨rfl,rfl,rfl⟩:=Kw H
    exact G.Jr _ _ func197 Z (Kc.Lh (j:=1) (vs:=[I e13.Tet,I t83]) HS Z Z Z J4) Z ⟨Z,(HS.pk 5 [] Z)⟩
   refine yB Z (tT c66) (rN 3 Z ?_)
   obtain ⟨c67,H⟩:=iN H
   have h68:=(rk (ro 4 Z) HS)
   obtain ⟨t69,h70,H⟩:=bI H
   obtain ⟨t73,h74,H⟩:=bI H
   obtain ⟨c82,H⟩:=iN H
   refine G.Jk mixed (fun w=>St w0 w (Box b3 176 [I a1,I c1]::Box b15 83 [I e13.Tet,I e13.Perm]::Own (Ac .i64) 2 (sb b22) (([0,1,3,2]:List Int).length) uu ([0,1,3,2]:List Int)::L)) [2,4,8] [0,1,3,5,6,7,2,4,8,9,10,11,12,13] [] (by kernel_rfl) (by kernel_rfl) (HS.drew.pk 5 [0,2,4] Z) ?_
   replace HS:=HS.drew
   refine GX.ps 1 Z (qL Z Z (fun _ _ g=>fL b15 1 J7 Z g) Z (qL Z Z (fun _ _ g=>fL b3 1 Rk Z g) Z (GX.ps 2 Z (qL Z Z (fun _ _ g=>iX Z U26 sz2 h68 c67 g) Z (GX.ls Z Z Z (HS.pk 5 [0,2,4] Z) (fun _ HS _ g=>lB 1 HS Z na2 Z g) Z (GX.ls Z Z Z (HS.pk 5 [0,2,4] Z) (fun _ HS _ g=>lB 0 HS Z na2 Z g) Z (GX.ls Z Z Z (HS.pk 5 [0,2,4] Z) (fun _ HS _ g=>GO.C8 (T:=(Ac .i64)) (n:=g1.toNat) (o:=0) HS (ro 2 Z) Z Z (getD_some (d:=0) (ltN c67)) Z Z na2 Z g) Z (GX.l2 Z (fJ Mr Z (Ct.calls HS  h70) (fun _ wd71 ⟨h72,HS⟩=>⟨_,h72,(GX.fin (HS.pk 5 [0,2,4] Z) (GX.l2 Z (fJ Mr Z (Ct.calls HS  h74) (fun _ wd75 ⟨h76,HS⟩=>⟨_,h76,(GX.fin (HS.pk 5 [0,2,4] Z) (GX.l2 Z ?_))⟩))))⟩))))))))))
   refine GO.D8 (el:=2) ([I t73]) HS Z Z (fun _=>by kernel_rfl) Z fun b77 wd78 HS=>GX.fin (HS.pk 6 [1,3,5] Z) (GX.l2 Z (GO.app1 (T:=(Ac .i64)) (j:=4) (jb:=0) t73 HS Z Z Ao Z Z Z U26 Lf Z Z Z c82 Z fun A80 c81 wd79 HS=>GX.fin (HS.pk 6 [1,3,5] Z) (GX.ps 1 Z (GX.nil (rN 3 Z (gW (q1 m1 (lR _) _ _ _ _ _ H (HS.pk 6 [1,2,3,4,5] Z)) Z))))))
  exact gW (o1 K (lR _) _ _ _ _ _ H (HS.pk 6 [3,2,5,1,0] Z)) Z
theorem Gs.calls {c1:List (List Am)} {g1:Int} {y_a:Nat→(Ty.slice 83 Ak).Lay} {r1:List Am} (HS:St w0 w (L)) (r_a:Bv w0 L (Ty.slice 83 Ak) A_a c_a y_a c1) (H:Gs.f K c1 g1=some r1) :
   Calls prog 178 #[.agg [sV A_a c1 c_a].toArray,I g1] w (Gs.post w0 L r1):=by
 unfold Gs.f at H
 refine cG func178 Z ?_
 refine sQ (rG (bA HS Z fun b1 wd2 HS=>aS Z (nL (sQ ?_))))
 obtain ⟨t3,t4,h5,H⟩:=Cx H
 refine rG (lW 0 HS Z Iy (mV Z (fJ vU Z (Dr.calls HS (rD 1 r_a) h5) (fun _ wd6 ⟨h7,HS⟩=>⟨_,h7,(GO.alloc HS Z Q7 Z Z fun b8 wd9 HS=>sW 0 HS Z J4 Z fun wd10 HS=>nL (sQ (rG (lW 0 HS Z J4 (GO.D8 (el:=176) ([I t3,I t4]) HS Z Z (fun _=>by kernel_rfl) Z fun b11 wd12 HS=>?_)))))⟩))))
 replace HS:=HS.Ib (T:=Ak) (j:=0) Z Ao uu ([(⟨t3,t4⟩:Am)]:List Am) Z (Ky Z)
 refine GO.Ke (t:=13) (m:=([(⟨t3,t4⟩:Am)]:List Am).length) (c':=([(⟨t3,t4⟩:Am)]:List Am).length) Z Z Z (aS Z (nL (rN 2 Z ?_)))
 refine G.name (fun n1 k1=>?_)
 have m1:∀ h1,h1≤K→∀ (A35:Option Addr) (c36:Nat) (a1:List Am) (w:World),Gs.l1 K h1 c1 t3 t4 a1=some r1→St w0 w (Box b1 33 [sV A_a c1 c_a]::Box b8 176 [I t3,I t4]::Own Ak 176 A35 c36 uu a1::L)→G prog 178 37 [(2,pT b1),(5,pT b8),(6,sV A35 a1 c36)] n1 w (Gs.post w0 L r1):=by
  refine lp (fun _ _ _ w H _=>by rw [Gs.l1] at H; cases H) fun i1 p1 o1 A35 c36 a1 w H HS=>?_
  rw [Gs.l1] at H
  subst k1
  refine rN 2 Z ?_
  obtain ⟨c60,H⟩:=iN H
  have h61:=(rk (ro 2 Z) HS)
  obtain ⟨e62,h63,H⟩:=Gp H
  obtain ⟨t64,t65,t66,h67,H⟩:=Gb H
  refine G.Pk mixed (by decide) (fun b a w=>∃ (b70:Nat) (d1:Dc),RS 37 [(2,pT b1),(5,pT b8),(6,sV A35 a1 c36)] [rv 15 (.agg [sV A_a c1 c_a].toArray),rv 16 (sV A35 a1 c36),rv 17 (sV A35 a1 c36),rv 18 (I (a1.length:Int)),rv 19 (I (w64 ((a1.length:Int) - 1))),rv 20 (.pointer (some (ea A35 (((w64 ((a1.length:Int) - 1)).toNat)*2)))),rv 21 (.agg [I e62.Tet,I e62.Perm].toArray),rv 22 (.tuple #[.agg [I t64,I t65].toArray,.bool t66]),rv 14 (.tuple #[.agg [I t64,I t65].toArray,.bool t66]),rv 23 (.agg [I t64,I t65].toArray),rv 24 (.bool t66),rv 7 (pT b70),none,rv 8 (.bool t66)] b a∧St w0 w (Box b1 33 [sV A_a c1 c_a]::Box b8 176 [I t3,I t4]::Own Ak 176 A35 c36 uu a1::d1::L)∧(b 11=true→b 12=false→d1=Box b70 176 [I 0,I 0])∧(b 12=true→d1=Box b70 176 [I t64,I t65])) ?_ ?_ ?_
  · exact fun a hs=>⟨0,Emp,hs.init Z,(HS.drew.emp.pk 4 [1,2,3,0] Z),fun h=>Bool.noConfusion h,fun h=>Bool.noConfusion h⟩
  ·
   intro j b a w hj
   refine exI fun b70=>exI fun d1=>anI fun hs=>fun hM q=>?_
   have HS:=hM.1
   match j,hj with
   | 0,_ =>
    refine hs.at q [] [] (lW 0 HS Z Iy (hs.fin q Z fun _ hs=>⟨_,_,hs,hM⟩))
   | 1,_ =>
    refine hs.at q [] [] (mV Z (hs.fin q Z fun _ hs=>⟨_,_,hs,hM⟩))
   | 2,_ =>
    refine hs.at q [] [] (mV Z (hs.fin q Z fun _ hs=>⟨_,_,hs,hM⟩))
   | 3,_ =>
    refine hs.at q [2] [] (lS Z Z Uw Z (hs.fin q Z fun _ hs=>⟨_,_,hs,HS,hM.2⟩))
   | 4,_ =>
    refine hs.at q [3] [] (GO.sub Z Z Z Z (hs.fin q Z fun _ hs=>⟨_,_,hs,hM⟩))
   | 5,_ =>
    refine hs.at q [1,4] [] (iX Z Uw Zf h61 c60 (hs.fin q Z fun _ hs=>⟨_,_,hs,hM⟩))
   | 6,_ =>
    refine hs.at q [5] [] (GO.Kk (T:=Ak) (n:=(w64 ((a1.length:Int) - 1)).toNat) HS (ro 2 Z) Z Z (Gt (ltN c60) h63) J4 Z (hs.fin q Z fun _ hs=>⟨_,_,hs,hM⟩))
   | 7,_ =>
    refine hs.at q [0,6] [] (fJ sP Z (Ee.calls HS (rD 4 r_a) h67) (fun _ wd68 ⟨h69,HS⟩=>⟨_,h69,(hs.fin q Z fun _ hs=>⟨_,_,hs,HS,hM.2⟩)⟩))
   | 8,_ =>
    refine hs.at q [7] [] (mV Z (hs.fin q Z fun _ hs=>⟨_,_,hs,hM⟩))
   | 9,_ =>
    refine hs.at q [8] [] (GO.extract Z Z Z Z (hs.fin q Z fun _ hs=>⟨_,_,hs,hM⟩))
   | 10,_ =>
    refine hs.at q [8] [] (GO.extract Z Z Z Z (hs.fin q Z fun _ hs=>⟨_,_,hs,hM⟩))
   | 11,_ =>
    refine (anI fun HS=>anI fun e1=>fun f1=>?_) hM
    refine hs.at q [] [] (GO.alloc HS Z Q7 Z Z fun b70 wd71 HS=>hs.Za q [11] (fun _ hs=>⟨b70,Box b70 176 [I 0,I 0],hs,HS.pk 5 [1,2,3,0] Z,fun _ _=>Z,fun hh=>(q.no 12 hh).elim⟩) Z Z)
   | 12,_ =>
    refine (anI fun HS=>anI fun e1=>fun f1=>?_) hM
    have hb11:=q.on 11
    obtain rfl:=e1 hb11 q.hb
    refine hs.at q [11,9] [] (sW 3 HS Z J4 Z fun wd72 HS=>hs.oI q Z fun _ hs=>⟨b70,Box b70 176 [I t64,I t65],hs,HS,fun _ h=>Bool.noConfusion h,fun _=>Z⟩)
   | 13,_ =>
    refine hs.at q [10] [] (aS Z (hs.fin q Z fun _ hs=>⟨_,_,hs,hM⟩))
   | k+14,hj=>exact absurd hj (Nat.not_lt.2 (Nat.le_add_left 14 k))
  ·
   intro b a w hall
   refine exI fun b70=>exI fun d1=>anI fun hs=>anI fun HS=>anI fun e1=>fun f1=>?_
   obtain rfl:=f1 (hall 12 (by decide))
   refine G.at (hs.all hall) (rN 2 Z ?_)
   rcases iS H with ⟨c74,H⟩|⟨c74,H⟩
   ·
    refine rG (pS 3 Z (kN 27 Z (congrArg Bool.not (Cv c74)) (oF Z (oF Z (oF Z (GO.Gq Z Z Z Z Z (nL (rN 3 Z ?_))))))))
    obtain rfl:=sI H
    exact rT _ func178 Z Z ⟨_,_,Z,(HS.pk 4 [2] Z)⟩
   refine rG (pS 3 Z (kN 27 Z (congrArg Bool.not c74) (oN Z (lW 3 HS Z J4 (bK (oN Z (lW 1 HS Z J4 (bK (oN Z (GO.kR Z Z Z qM (fun _=>rF) Z (bK (GO.Iw Z Z Z Z Z (nL ?_)))))))))))))
   rcases iE H with ⟨c75,H⟩|⟨c75,H⟩
   ·
    refine yB Z (tT c75) (rN 2 Z ?_)
    obtain rfl:=sI H
    exact rT _ func178 Z Z ⟨_,_,Z,(HS.pk 4 [2] Z)⟩
   refine nB Z (tF c75) (G.skip ?_)
   obtain ⟨c81,H⟩:=iN H
   refine rG (mV Z (lW 3 HS Z J4 (GO.D8 (el:=176) ([I t64,I t65]) HS Z Z (fun _=>by kernel_rfl) Z fun b76 wd77 HS=>GO.app1 (T:=Ak) (j:=3) (jb:=0) (⟨t64,t65⟩:Am) HS Z Z Ao Z Z Z Uw lV Z Z Z c81 Z fun A79 c80 wd78 HS=>aS Z (nL (rN 2 Z (gW (o1 i1 (lR _) _ _ _ _ H (HS.pk 5 [1,2,3] Z)) Z))))))
 exact gW (m1 K (lR _) _ _ _ _ H (HS.pk 3 [2,1,0] Z)) Z
theorem Fv.calls {d1:List (List Am)} {e1:Int} {y_a:Nat→(Ty.slice 83 Ak).Lay} {r1:List Int} (HS:St w0 w (L)) (r_a:Bv w0 L (Ty.slice 83 Ak) A_a c_a y_a d1) (H:Fv.f K d1 e1=some r1) :
   Calls prog 139 #[.agg [sV A_a d1 c_a].toArray,I e1] w (Fv.post w0 L r1):=by
 unfold Fv.f at H
 refine cG func139 Z ?_
 refine sQ (rG (bA HS Z fun b1 wd2 HS=>aS Z (nL (sQ ?_))))
 obtain ⟨t3,t4,h5,H⟩:=Cx H
 refine rG (lW 0 HS Z Iy (fJ iO Z (Bq.calls HS (rD 1 r_a) h5) (fun _ wd9 ⟨A6,c7,y8,h10,HS⟩=>⟨_,h10,(pS 5 Z (nL (sQ ?_)))⟩)))
 obtain ⟨t11,h12,H⟩:=bI H
 refine rG (lW 1 HS Z Iy (mV Z (fJ vQ Z (Gs.calls HS (rD 2 r_a) h12) (fun _ wd15 ⟨A13,c14,h16,HS⟩=>⟨_,h16,(aS Z (nL (sQ (rG (GO.D8 (el:=2) ([]) HS Z Z (fun _=>by kernel_rfl) Z fun b17 wd18 HS=>?_)))))⟩))))
 replace HS:=HS.Ib (T:=(Ac .i64)) (j:=0) Z Ao uu ([]:List Int) Z (Ky Z)
 refine GO.Ke (t:=19) (m:=([]:List Int).length) (c':=([]:List Int).length) Z Z Z (aS Z (nL (rN 5 Z ?_)))
 refine G.name (fun m1 i1=>?_)
 have k1:∀ g1,g1≤K→∀ (A39:Option Addr) (c40:Nat) (c1:List Int) (a1:Int) (w:World),Fv.l1 K g1 t3 t11 c1 a1=some r1→St w0 w (Own (Ty.slice 2 (Ac .i64)) 26 A6 c7 y8 t3::Own Ak 176 A13 c14 uu t11::Own (Ac .i64) 2 A39 c40 uu c1::L)→G prog 139 49 [(5,sV A6 t3 c7),(7,sV A13 t11 c14),(8,sV A39 c1 c40),(9,I a1)] m1 w (Fv.post w0 L r1):=by
  refine lp (fun _ _ _ _ w H _=>by rw [Fv.l1] at H; cases H) fun f1 n1 h1 A39 c40 c1 a1 w H HS=>?_
  rw [Fv.l1] at H
  subst i1
  refine rN 2 Z (rG (pS 2 Z (lS Z Z Uw Z (GO.lss Z Z Z Z (nL ?_)))))
  rcases iS H with ⟨c63,H⟩|⟨c63,H⟩
  ·
   refine nB Z (tF c63) (rN 3 Z ?_)
   obtain rfl:=sI H
   exact rT _ func139 Z Z ⟨_,_,Z,(HS.pk 3 [2] Z)⟩
  refine yB Z (tT c63) (rN 4 Z ?_)
  obtain ⟨c64,H⟩:=iN H
  have h65:=(rk (ro 1 Z) HS)
  obtain ⟨e66,h67,H⟩:=Gp H
  obtain ⟨c68,H⟩:=iN H
  have h69:=(rk (ro 0 Z) HS)
  have h70:=(rk (ro 1 Z) HS)
  obtain ⟨t71,h72,H⟩:=bI H
  obtain ⟨c75,H⟩:=iN H
  refine G.Jk mixed (fun w=>St w0 w (Own (Ty.slice 2 (Ac .i64)) 26 A6 c7 y8 t3::Own Ak 176 A13 c14 uu t11::L)) [5,7,12,15] [0,1,2,3,4,8,9,10,11,5,6,7,12,13,14,15,16] [] (by kernel_rfl) (by kernel_rfl) (HS.drew.pk 3 [0,1] Z) ?_
  replace HS:=HS.drew
  refine GX.ps 3 Z (qL Z Z (fun _ _ g=>iX Z Uw Zf h65 c64 g) Z (qL Z Z (fun _ _ g=>GO.fld (ea A13 (a1.toNat*2)) Z Z Tv Z Z g) Z (GX.ps 2 Z (qL Z Z (fun _ _ g=>iX Z Uw Zf h70 c64 g) Z (qL Z Z (fun _ _ g=>GO.fld (ea A13 (a1.toNat*2+1)) Z Z Rk (aV _ _ _) Z g) Z (GX.ls Z Z Z (HS.pk 3 [0,1] Z) (fun _ HS _ g=>GO.C8 (T:=Ak) (n:=a1.toNat) (o:=0) HS (ro 1 Z) Z Z (Gt (ltN c64) h67) Z Z na2 Z g) Z (qL Z Z (fun _ _ g=>iX Z U65 Na h69 c68 g) Z (GX.ls Z Z Z (HS.pk 3 [0,1] Z) (fun _ HS _ g=>GO.C8 (T:=(Ty.slice 2 (Ac .i64))) (n:=e66.Tet.toNat) (o:=0) HS (ro 0 Z) Z Z (getD_some (d:=[]) (ltN c68)) Z Z Ip Z g) Z (GX.ls Z Z Z (HS.pk 3 [0,1] Z) (fun _ HS _ g=>GO.C8 (T:=Ak) (n:=a1.toNat) (o:=1) HS (ro 1 Z) Z Z (Gt (ltN c64) h67) Z Z na2 Z g) Z (GX.l2 Z (fJ Mr Z (Ct.calls HS  h72) (fun _ wd73 ⟨h74,HS⟩=>⟨_,h74,(GX.fin (HS.pk 3 [0,1] Z) (qL Z Z (fun _ _ g=>GO.ix Z Z Z U26 sz2 ((Bv.elem (ro 0 Z) c68.1 c68.2) _ HS).2.2.1 c75.1 c75.2 Z g) Z (GX.ls Z Z Z (HS.pk 3 [0,1] Z) (fun _ HS _ g=>GO.C8 (T:=(Ac .i64)) (n:=t71.toNat) (o:=0) HS (Bv.elem (ro 0 Z) c68.1 c68.2) Z Z (getD_some (d:=0) (ltN c75)) Z Z na2 Z g) Z ?_)))⟩))))))))))))
  refine GX.ps 1 Z (GX.nil (rN 2 Z ?_))
  rcases iE H with ⟨c76,H⟩|⟨c76,H⟩
  ·
   refine nB Z (nT c76) (rN 4 Z (gW (h1 f1 (lR _) _ _ _ _ _ H HS) Z))
  refine yB Z (nF c76) ?_
  obtain ⟨c82,H⟩:=iN H
  refine rG (pS 2 Z (GO.D8 (el:=2) ([I ((t3.getD e66.Tet.toNat []).getD t71.toNat 0)]) HS Z Z (fun _=>by kernel_rfl) Z fun b77 wd78 HS=>GO.app1 (T:=(Ac .i64)) (j:=3) (jb:=0) ((t3.getD e66.Tet.toNat []).getD t71.toNat 0) HS Z Z Ao Z Z Z U26 Lf Z Z Z c82 Z fun A80 c81 wd79 HS=>aS Z (nL (rN 3 Z (gW (h1 f1 (lR _) _ _ _ _ _ H (HS.pk 4 [1,2,3] Z)) Z)))))
 exact gW (k1 K (lR _) _ _ _ _ _ H (HS.pk 4 [2,1,0] Z)) Z
theorem De.calls {w_:List Int} {r1:List Int} (HS:St w0 w (L)) (r_a:Bv w0 L (Ac .i64) A_a c_a uu w_) (H:De.f K w_=some r1) :
   Calls prog 138 #[sV A_a w_ c_a] w (De.post w0 L r1):=by
 unfold De.f at H
 refine cG func138 Z ?_
 refine rN 3 Z (rG (GO.D8 (el:=2) ([]) HS Z Z (fun _=>by kernel_rfl) Z fun b1 wd2 HS=>?_))
 replace HS:=HS.Ib (T:=(Ac .i64)) (j:=0) Z Ao uu ([]:List Int) Z (Ky Z)
 refine GO.Ke (t:=6) (m:=([]:List Int).length) (c':=([]:List Int).length) Z Z Z (aS Z (nL (rN 5 Z ?_)))
 refine G.name (fun q1 m1=>?_)
 have o1:∀ h1,h1≤K→∀ (A25:Option Addr) (c26:Nat) (a1:List Int) (c1:Int) (w:World),De.l1 K h1 w_ a1 c1=some r1→St w0 w (Own (Ac .i64) 2 A25 c26 uu a1::L)→G prog 138 42 [(0,sV A_a w_ c_a),(3,sV A25 a1 c26),(4,I c1)] q1 w (De.post w0 L r1):=by
  refine lp (fun _ _ _ _ w H _=>by rw [De.l1] at H; cases H) fun d1 s1 i1 A25 c26 a1 c1 w H HS=>?_
  rw [De.l1] at H
  subst m1
  refine rN 2 Z (rG (pS 2 Z (lS Z Z U26 Z (GO.lss Z Z Z Z (nL ?_)))))
  rcases iS H with ⟨c51,H⟩|⟨c51,H⟩
  ·
   refine nB Z (tF c51) (rN 3 Z ?_)
   obtain rfl:=sI H
   exact rT _ func138 Z Z ⟨_,_,Z,HS⟩
  refine yB Z (tT c51) (rN 4 Z (rG (mV Z (lS Z Z U26 Z (aS Z (nL (sQ ?_)))))))
  refine G.Wd (fun p1 n1=>?_)
  have g1:∀ k1,k1≤d1→∀ (x59:Bool) (w:World),De.j4 K k1 w_ a1 c1 x59=some r1→St w0 w (Own (Ac .i64) 2 A25 c26 uu a1::L)→G prog 138 42 [(0,sV A_a w_ c_a),(3,sV A25 a1 c26),(4,I c1),(5,I (a1.length:Int)),(29,.bool x59)] p1 w (De.post w0 L r1):=by
   refine jp (fun _ w H _=>by rw [De.j4] at H; cases H) fun f1 e1 x59 w H HS=>?_
   rw [De.j4] at H
   subst n1
   rcases iE H with ⟨c60,H⟩|⟨c60,H⟩
   ·
    refine yB Z c60 ?_
    obtain ⟨c61,H⟩:=iN H
    refine rG (pS 3 Z (GO.slH (T:=(Ac .i64)) HS (ro 0 Z) Z Z Z U26 sz2 c61.1 c61.2 Z (aS Z (nL (rN 3 Z ?_)))))
    replace HS:=HS.jH (A':=(Jn A25 0 c26 1)) (c':=(c26 - 0)) (j:=0) (m:=(w64 ((a1.length:Int) - 1)).toNat) Z Ao (leN c61) (Og _ _ _) Z
    exact gW (i1 f1 (Nat.le_of_succ_le e1) _ _ _ _ _ H HS) Z
   refine nB Z (Cv c60) ?_
   obtain ⟨c62,H⟩:=iN H
   obtain ⟨c68,H⟩:=iN H
   refine rG (pS 3 Z (iX Z U26 sz2 (rk (rD 1 r_a) HS) c62 (GO.C8 (T:=(Ac .i64)) (n:=c1.toNat) (o:=0) HS (rD 1 r_a) Z Z (getD_some (d:=0) (ltN c62)) Z Z na2 Z (GO.D8 (el:=2) ([I (w_.getD c1.toNat 0)]) HS Z Z (fun _=>by kernel_rfl) Z fun b63 wd64 HS=>GO.app1 (T:=(Ac .i64)) (j:=1) (jb:=0) (w_.getD c1.toNat 0) HS Z Z Ao Z Z Z U26 Lf Z Z Z c68 Z fun A66 c67 wd65 HS=>aS Z (nL (rN 3 Z (gW (i1 f1 (Nat.le_of_succ_le e1) _ _ _ _ _ H (HS.pk 2 [1] Z)) Z)))))))
  rcases iS H with ⟨c69,H⟩|⟨c69,H⟩
  ·
   refine G.lex mixed [0,1,2,3,4,5,6,8,9,10,7,11,12,13,14] (by kernel_rfl) ?_
   replace HS:=HS.drew
   refine GX.ps 2 Z (qL Z Z (fun _ _ g=>mV Z (kN 17 Z (tF c69) g)) Z (qL Z Z (fun _ _ g=>oF Z g) Z (qL Z Z (fun _ _ g=>oF Z g) Z (qL Z Z (fun _ _ g=>oF Z g) Z (qL Z Z (fun _ _ g=>oF Z g) Z (qL Z Z (fun _ _ g=>oF Z g) Z (qL Z Z (fun _ _ g=>oF Z g) Z (qL Z Z (fun _ _ g=>oF Z g) Z (GX.l1 Z Z Z (fun _ g=>oF Z g) Z (GX.l1 Z Z Z (fun _ g=>oF Z g) Z (qL Z Z (fun _ _ g=>oF Z g) Z (qL Z Z (fun _ _ g=>oF Z g) Z (GX.ps 1 Z (GX.nil ?_))))))))))))))
   exact gW (g1 d1 (lR _) _ _ H HS) Z
  obtain ⟨c70,H⟩:=iN H
  have h71:=(rk (ro 0 Z) HS)
  obtain ⟨c72,H⟩:=iN H
  refine G.lex mixed [0,1,2,3,4,5,6,8,9,10,7,11,12,13,14] (by kernel_rfl) ?_
  replace HS:=HS.drew
  refine GX.ps 2 Z (qL Z Z (fun _ _ g=>mV Z (kN 17 Z (tT c69) g)) Z (qL Z Z (fun _ _ g=>oN Z (mV Z (bK g))) Z (qL Z Z (fun _ _ g=>oN Z (mV Z (bK g))) Z (qL Z Z (fun _ _ g=>oN Z (GO.sub Z Z Z Z (bK g))) Z (qL Z Z (fun _ _ g=>oN Z (iX Z U26 sz2 h71 c70 (bK g))) Z (qL Z Z (fun _ _ g=>oN Z (mV Z (bK g))) Z (qL Z Z (fun _ _ g=>oN Z (mV Z (bK g))) Z (qL Z Z (fun _ _ g=>oN Z (iX Z U26 sz2 (rk (rD 1 r_a) HS) c72 (bK g))) Z (GX.l1 Z Z Z (fun _ g=>oN Z (GO.C8 (T:=(Ac .i64)) (n:=(w64 ((a1.length:Int) - 1)).toNat) (o:=0) HS (ro 0 Z) Z Z (getD_some (d:=0) (ltN c70)) Z Z na2 Z (bK g))) Z (GX.l1 Z Z Z (fun _ g=>oN Z (GO.C8 (T:=(Ac .i64)) (n:=c1.toNat) (o:=0) HS (rD 1 r_a) Z Z (getD_some (d:=0) (ltN c72)) Z Z na2 Z (bK g))) Z (qL Z Z (fun _ _ g=>oN Z (GO.neg Z Z Z (bK g))) Z (qL Z Z (fun _ _ g=>oN Z (GO.eql Z Z Z Z (bK g))) Z (GX.ps 1 Z (GX.nil ?_))))))))))))))
  exact gW (g1 d1 (lR _) _ _ H HS) Z
 exact gW (o1 K (lR _) _ _ _ _ _ H HS) Z
theorem Eh.calls {c1:List (List Am)} {y_a:Nat→(Ty.slice 83 Ak).Lay} {r1:Int} {r2:List (List Int)} (HS:St w0 w (L)) (r_a:Bv w0 L (Ty.slice 83 Ak) A_a c_a y_a c1) (H:Eh.f K c1=some (r1,r2)) :
   Calls prog 94 #[.agg [sV A_a c1 c_a].toArray] w (Eh.post w0 L r1 r2):=by
 unfold Eh.f at H
 refine cG func94 Z ?_
 refine sQ (rG (bA HS Z fun b1 wd2 HS=>GO.alloc HS Z bG Z Z fun b3 wd4 HS=>nL (sQ ?_)))
 obtain ⟨t5,t6,h7,H⟩:=Cx H
 refine rG (lW 1 HS Z Iy (fJ iO Z (Bq.calls HS (rD 2 r_a) h7) (fun _ wd11 ⟨A8,c9,y10,h12,HS⟩=>⟨_,h12,(pS 5 Z (nL (sQ (rG (mV Z (GO.Je (.agg [I t6,.slice none 0 0].toArray) Z Z (fun _=>by kernel_rfl) Z (GO.alloc HS Z bG Z Z fun b13 wd14 HS=>sW 0 HS Z Q4 Z fun wd15 HS=>nL (sQ ?_))))))))⟩)))
 obtain ⟨t16,t17,t18,t19,h20,H⟩:=Ii H
 refine rG (lW 3 HS Z Iy (fJ dN Z (Bb.calls HS (rD 4 r_a) h20) (fun _ wd32 ⟨A21,c22,y23,A24,c25,y26,A27,c28,y29,A30,c31,h33,HS⟩=>⟨_,h33,(pS 3 Z (GO.alloc HS Z gJ Z Z fun b34 wd35 HS=>sW 0 HS Z Zn Z fun wd36 HS=>aS Z (nL (sQ ?_))))⟩)))
 obtain ⟨t37,t38,t39,h40,H⟩:=Gb H
 refine rG (lW 8 HS Z Iy (fJ tJ Z (Au.calls HS (rD 9 r_a) h40) (fun _ wd47 ⟨A41,c42,A43,c44,A45,c46,h48,HS⟩=>⟨_,h48,(pS 7 Z (nL (rN 5 Z ?_)))⟩)))
 refine G.name (fun k1 h1=>?_)
 have i1:∀ g1,g1≤K→∀ (A85:Option Addr) (c86:Nat) (a1:List (List Int)) (y88:Nat→(Ty.slice 2 (Ac .i64)).Lay) (d1:Int) (w:World),Eh.l1 K g1 c1 t6 t19 t38 a1 d1=some (r1,r2)→St w0 w (Box b1 33 [sV A_a c1 c_a]::Box b3 67 [I 0,.slice none 0 0]::Box b13 67 [I t6,sV A85 a1 c86]::Own (Ty.slice 2 (Ac .i64)) 26 A85 c86 y88 a1::Own (Ac .i64) 2 A30 c31 uu t19::Own (Ac .i64) 2 A43 c44 uu t38::L)→G prog 94 57 [(1,pT b1),(2,pT b3),(5,pT b13),(7,sV A30 t19 c31),(9,sV A43 t38 c44),(11,I d1)] k1 w (Eh.post w0 L r1 r2):=by
  refine lp (fun _ _ _ _ _ w H _=>by rw [Eh.l1] at H; cases H) fun e1 m1 f1 A85 c86 a1 y88 d1 w H HS=>?_
  rw [Eh.l1] at H
  subst h1
  refine rN 2 Z ?_
  obtain ⟨c126,H⟩:=iN H
  refine rG (pS 2 Z (iX Z U26 sz2 (rk (ro 4 Z) HS) c126 (GO.C8 (T:=(Ac .i64)) (n:=1) (o:=0) HS (ro 4 Z) Z Z (getD_some (d:=0) (ltN c126)) Z Z na2 Z (GO.lss Z Z Z Z (nL ?_)))))
  rcases iS H with ⟨c127,H⟩|⟨c127,H⟩
  ·
   refine nB Z (tF c127) (rN 2 Z (rG (lW 2 HS Z Q4 (sW 1 HS Z Q4 Z fun wd161 HS=>nL ?_))))
   obtain ⟨rfl,rfl⟩:=H8 H
   exact rT _ func94 Z (Kc.Lh (j:=1) (vs:=[I t6,sV A85 a1 c86]) HS Z Z Z Q4) ⟨_,_,_,Z,(HS.pk 6 [3] Z)⟩
  refine yB Z (tT c127) (rN 5 Z ?_)
  obtain ⟨t128,h129,H⟩:=bI H
  refine rG (pS 2 Z (fJ xR Z (Gx.calls HS (ro 5 Z) h129) (fun _ wd130 ⟨h131,HS⟩=>⟨_,h131,(nL ?_)⟩)))
  rcases iE H with ⟨c132,H⟩|⟨c132,H⟩
  ·
   refine yB Z c132 (rN 3 Z (gW (f1 e1 (lR _) _ _ _ _ _ _ H HS) Z))
  refine nB Z (Cv c132) (rN 2 Z ?_)
  obtain ⟨t133,h134,H⟩:=bI H
  obtain ⟨t139,h140,H⟩:=bI H
  refine rG (lW 0 HS Z Iy (mV Z (fJ uL Z (Fv.calls HS (rD 6 r_a) h134) (fun _ wd137 ⟨A135,c136,h138,HS⟩=>⟨_,h138,(fJ uK Z (De.calls HS (ro 0 Z) h140) (fun _ wd143 ⟨A141,c142,h144,HS⟩=>⟨_,h144,(aS Z (nL (sQ (rG (mV Z (lS Z Z U26 Z (GO.gtr Z Z Z Z (nL ?_))))))))⟩))⟩))))
  rcases iS H with ⟨c145,H⟩|⟨c145,H⟩
  ·
   refine nB Z (tF c145) (rN 4 Z (gW (f1 e1 (lR _) _ _ _ _ _ _ H (HS.pk 8 [2,3,4,5,6,7] Z)) Z))
  refine yB Z (tT c145) ?_
  obtain ⟨c151,H⟩:=iN H
  obtain ⟨c158,H⟩:=iN H
  refine rG (GO.D8 (el:=26) ([]) HS Z Z (fun _=>by kernel_rfl) Z fun b146 wd147 HS=>fL b13 1 Ny Z (lB 5 HS Z Ob Z ?_))
  replace HS:=HS.Un (T:=(Ty.slice 2 (Ac .i64))) (j:=0) Z (fun _=>⟨none,0,uu⟩)
  refine GO.Ke (t:=48) (m:=([]:List (List Int)).length) (c':=0) Z Z Z ?_
  replace HS:=HS.pk 9 [0,6,1,2,3,4,5,7,8] Z
  refine GO.yH (T:=(Ty.slice 2 (Ac .i64))) [] ⟨none,0,uu⟩ HS Z Z Z U65 Qi Z Z Z c151 Z fun A149 c150 y152 wd148 HS=>mV Z (GO.D8 (el:=26) ([sV A141 t139 c142]) HS Z Z (fun _=>by kernel_rfl) Z fun b153 wd154 HS=>?_)
  replace HS:=HS.pk 9 [1,0,2,3,4,5,6,7,8] Z
  refine GO.Z6 (S:=(Ac .i64)) (u:=2) HS Z Z Z U65 Qi Z Z c158 Z fun A156 c157 y159 wd155 HS=>fL b13 1 Ny Z (GO.K7 (j:=5) (vs:=[sV A156 (a1++[t139]) c157]) ([I t6,sV A156 (a1++[t139]) c157]) HS Z Z Z Z Z (htN Ob Z) Z Z Z fun wd160 HS=>nL (rN 3 Z (gW (f1 e1 (lR _) _ _ _ _ _ _ H (HS.pk 8 [3,4,5,0,6,7] Z)) Z)))
 replace HS:=HS.Jz (Ty.slice 2 (Ac .i64)) 26 (fun _=>⟨none,0,uu⟩)
 exact gW (i1 K (lR _) _ _ _ _ _ _ H (HS.pk 13 [12,11,9,0,8,2] Z)) Z
theorem Hu.calls {a1:List (List Am)} {y_a:Nat→(Ty.slice 83 Ak).Lay} {r1:Int} {r2:List (List Int)} {r3:Int} (HS:St w0 w (L)) (r_a:Bv w0 L (Ty.slice 83 Ak) A_a c_a y_a a1) (H:Hu.f K a1=some (r1,r2,r3)) :
   Calls prog 46 #[.agg [sV A_a a1 c_a].toArray] w (Hu.post w0 L r1 r2 r3):=by
 unfold Hu.f at H
 refine cG func46 Z ?_
 refine sQ (rG (bA HS Z fun b1 wd2 HS=>GO.alloc HS Z bG Z Z fun b3 wd4 HS=>aS Z (nL (sQ ?_))))
 obtain ⟨t5,h6,H⟩:=bI H
 refine rG (lW 1 HS Z Iy (fJ xA Z (Jt.calls HS (rD 2 r_a) h6) (fun _ wd7 ⟨h8,HS⟩=>⟨_,h8,(aS Z (nL (rN 3 Z ?_)))⟩)))
 rcases iS H with ⟨c9,H⟩|⟨c9,H⟩
 ·
  refine yB Z (nF c9) (sQ (rG (GO.Je (.agg [I 0,.slice none 0 0].toArray) Z Z (fun _=>by kernel_rfl) Z (mV Z (sW 0 HS Z Q4 Z fun wd19 HS=>aS Z (nL ?_))))))
  replace HS:=HS.Jz (Ty.slice 2 (Ac .i64)) 26 (fun _=>⟨none,0,uu⟩)
  obtain ⟨rfl,rfl,rfl⟩:=Kw H
  exact G.Jr _ _ func46 Z (Kc.Lh (j:=1) (vs:=[I 0,.slice none 0 0]) HS Z Z Z Q4) Z ⟨_,_,_,Z,(HS.pk 3 [0] Z)⟩
 refine nB Z (nT c9) (rN 2 Z ?_)
 obtain ⟨t10,t11,h12,H⟩:=Cx H
 refine rG (lW 1 HS Z Iy (fJ xD Z (Eh.calls HS (rD 2 r_a) h12) (fun _ wd16 ⟨A13,c14,y15,h17,HS⟩=>⟨_,h17,(sW 1 HS Z Q4 Z fun wd18 HS=>aS Z (nL ?_))⟩)))
 obtain ⟨rfl,rfl,rfl⟩:=Kw H
 exact G.Jr _ _ func46 Z (Kc.Lh (j:=1) (vs:=[I t10,sV A13 t11 c14]) HS Z Z Z Q4) Z ⟨_,_,_,Z,(HS.pk 3 [0] Z)⟩
theorem Jp.calls {rows columns:Int} {r1 r2:Int} {r3:List Int} (HS:St w0 w (L)) (H:Jp.f rows columns=some (r1,r2,r3)) :
  Calls prog 47 #[I rows,I columns] w (Jp.post w0 L r1 r2 r3):=by
 unfold Jp.f at H
 refine cG func47 Z ?_
 refine sQ (rG (GO.alloc HS Z R8 Z Z fun b1 wd2 HS=>nL (sQ ?_)))
 obtain ⟨c3,H⟩:=iN H
 obtain ⟨c4,H⟩:=iN H
 refine rG (pS 5 Z (GO.make (T:=(Ac .i64)) 0 () HS Ao Z Z Z U26 Lf Z Z Z c3 c4 Z fun b5 wd6 HS=>GO.Je (.agg [I rows,I columns,sV (sb b5) (List.replicate (w64 (rows*columns)).toNat (0:Int)) ((w64 (rows*columns)).toNat)].toArray) Z Z (fun _=>by kernel_rfl) Z (sW 1 HS Z Fx Z fun wd7 HS=>nL ?_)))
 obtain ⟨rfl,rfl,rfl⟩:=Kw H
 exact rT _ func47 Z (Kc.Lh (j:=1) (vs:=[I rows,I columns,sV (sb b5) (List.replicate (w64 (rows*columns)).toNat (0:Int)) ((w64 (rows*columns)).toNat)]) HS Z Z Z Fx) ⟨_,_,Z,(HS.pk 2 [0] Z)⟩
theorem J2.calls {d1 a1:Int} {c1:List Int} {row column n_:Int} {r1:List Int} (HS:St w0 w (Own (Ac .i64) 2 A_a c_a uu c1::L)) (H:J2.f d1 a1 c1 row column n_=some r1) :
  Calls prog 48 #[.agg [I d1,I a1,sV A_a c1 c_a].toArray,I row,I column,I n_] w (J2.post w0 L A_a c_a r1):=by
 unfold J2.f at H
 refine cG func48 Z ?_
 refine sQ (rG (bA HS Z fun b1 wd2 HS=>nL ?_))
 obtain ⟨c3,H⟩:=iN H
 refine rG (fL b1 2 Km Z (lB 0 HS Z Ip Z (mV Z (fL b1 1 Gg Z (lB 0 HS Z na2 Z (pS 3 Z (iX Z U26 sz2 (rk (ro 1 Z) HS) c3 (GO.C8 (T:=(Ac .i64)) (n:=(w64 ((w64 (row*a1))+column)).toNat) (o:=0) HS (ro 1 Z) Z Z (getD_some (d:=0) (ltN c3)) Z Z na2 Z (pS 2 Z (iX Z U26 sz2 (rk (ro 1 Z) HS) c3 (GO.Hl (T:=(Ac .i64)) (j:=1) (n:=(w64 ((w64 (row*a1))+column)).toNat) (o:=0) (vs:=[I (w64 ((c1.getD ((w64 ((w64 (row*a1))+column)).toNat) 0)+n_))]) (w64 ((c1.getD ((w64 ((w64 (row*a1))+column)).toNat) 0)+n_)) HS Z Ao Z Z Z Z (htN na2 Z) Z (getD_some (d:=0) (ltN c3)) Z Z fun wd4 HS=>nL ?_)))))))))))
 replace HS:=HS.G6 (j:=0) (cs':=[I d1,I a1,sV A_a (c1.set ((w64 ((w64 (row*a1))+column)).toNat) (w64 ((c1.getD ((w64 ((w64 (row*a1))+column)).toNat) 0)+n_))) c_a]) Z (by simp only [sV,List.length_set]<;>rfl)
 obtain rfl:=sI H
 exact G.K6 func48 Z ⟨Z,(HS.pk 2 [1] Z)⟩
theorem I4.calls {n_ low high:Int} {r1:Bool} (HS:St w0 w (L)) (H:I4.f n_ low high=some r1) :
   Calls prog 103 #[I n_,I low,I high] w (I4.post w0 L r1):=by
 unfold I4.f at H
 refine cG func103 Z ?_
 refine rN 3 Z ?_
 rcases iS H with ⟨c1,H⟩|⟨c1,H⟩
 ·
  refine rG (pS 4 Z (kN 10 Z (tF c1) (oF Z (oF Z (oF Z (pS 2 Z (nL ?_)))))))
  obtain rfl:=sI H
  exact rT _ func103 Z Z ⟨Z,HS⟩
 refine rG (pS 4 Z (kN 10 Z (tT c1) (oN Z (mV Z (bK (oN Z (mV Z (bK (oN Z (GO.leq Z Z Z Z (bK (pS 2 Z (nL ?_)))))))))))))
 obtain rfl:=sI H
 exact rT _ func103 Z Z ⟨Z,HS⟩
theorem Fh.calls {d1 e1:Int} {a1:List Int} {r1:Bool} (HS:St w0 w (L)) (r_a:Bv w0 L (Ac .i64) A_a c_a uu a1) (H:Fh.f K d1 e1 a1=some r1) :
   Calls prog 64 #[.agg [I d1,I e1,sV A_a a1 c_a].toArray] w (Fh.post w0 L r1):=by
 unfold Fh.f at H
 refine cG func64 Z ?_
 refine sQ (rG (bA HS Z fun b1 wd2 HS=>aS Z (nL (rN 2 Z ?_))))
 obtain ⟨t13,h14,H⟩:=bI H
 rcases iS H with ⟨c17,H⟩|⟨c17,H⟩
 ·
  refine rG (fL b1 0 Im Z (lB 0 HS Z na2 Z (fJ R5 Z (I4.calls HS  h14) (fun _ wd15 ⟨h16,HS⟩=>⟨_,h16,(pS 2 Z (kN 8 Z (congrArg Bool.not (Cv c17)) (oF Z (oF Z (oF Z (oF Z (pS 2 Z (oF Z (oF Z (oF Z (oF Z ?_)))))))))))⟩))))
  refine oF Z (oF Z (oF Z (oF Z (oF Z (GO.Gq Z Z Z Z Z (nL (rN 3 Z ?_)))))))
  obtain rfl:=sI H
  exact rT _ func64 Z Z ⟨Z,(HS.pk 1 [] Z)⟩
 obtain ⟨t18,h19,H⟩:=bI H
 rcases iS H with ⟨c22,H⟩|⟨c22,H⟩
 ·
  refine rG (fL b1 0 Im Z (lB 0 HS Z na2 Z (fJ R5 Z (I4.calls HS  h14) (fun _ wd15 ⟨h16,HS⟩=>⟨_,h16,(pS 2 Z (kN 8 Z (congrArg Bool.not c17) (oN Z (fL b1 1 Gg Z (bK (oN Z (lB 0 HS Z na2 Z (bK (oN Z (fJ R5 Z (I4.calls HS  h19) (fun _ wd20 ⟨h21,HS⟩=>⟨_,h21,(bK ?_)⟩)))))))))))⟩))))
  refine oN Z (GO.not Z Z Z (bK (pS 2 Z (kN 14 Z (congrArg Bool.not (Cv c22)) (oF Z (oF Z (oF Z (oF Z (oF Z (oF Z (oF Z (oF Z (oF Z (GO.Gq Z Z Z Z Z ?_))))))))))))))
  refine nL (rN 3 Z ?_)
  obtain rfl:=sI H
  exact rT _ func64 Z Z ⟨Z,(HS.pk 1 [] Z)⟩
 refine rG (fL b1 0 Im Z (lB 0 HS Z na2 Z (fJ R5 Z (I4.calls HS  h14) (fun _ wd15 ⟨h16,HS⟩=>⟨_,h16,(pS 2 Z (kN 8 Z (congrArg Bool.not c17) (oN Z (fL b1 1 Gg Z (bK (oN Z (lB 0 HS Z na2 Z (bK (oN Z (fJ R5 Z (I4.calls HS  h19) (fun _ wd20 ⟨h21,HS⟩=>⟨_,h21,(bK ?_)⟩)))))))))))⟩))))
 refine oN Z (GO.not Z Z Z (bK (pS 2 Z (kN 14 Z (congrArg Bool.not c22) (oN Z (fL b1 2 Km Z (bK (oN Z (lB 0 HS Z Ip Z (bK (oN Z (lS Z Z U26 Z (bK (oN Z ?_))))))))))))))
 refine fL b1 0 Im Z (bK (oN Z (lB 0 HS Z na2 Z (bK (oN Z (fL b1 1 Gg Z (bK (oN Z (lB 0 HS Z na2 Z (bK (oN Z (GO.mul Z Z Z Z (bK (oN Z ?_))))))))))))))
 refine GO.neq Z Z Z Z (bK (GO.Iw Z Z Z Z Z (nL ?_)))
 rcases iS H with ⟨c23,H⟩|⟨c23,H⟩
 ·
  refine yB Z (nF c23) (rN 2 Z ?_)
  obtain rfl:=sI H
  exact rT _ func64 Z Z ⟨Z,(HS.pk 1 [] Z)⟩
 refine nB Z (nT c23) (rN 6 Z ?_)
 refine G.name (fun k1 h1=>?_)
 have i1:∀ f1,f1≤K→∀ (c1:Int) (w:World),Fh.l1 K f1 a1 c1=some r1→St w0 w (Box b1 57 [I d1,I e1,sV A_a a1 c_a]::L)→G prog 64 39 [(1,pT b1),(3,I c1)] k1 w (Fh.post w0 L r1):=by
  refine lp (fun _ w H _=>by rw [Fh.l1] at H; cases H) fun g1 n1 m1 c1 w H HS=>?_
  rw [Fh.l1] at H
  subst h1
  refine rN 2 Z (rG (mV Z (fL b1 2 Km Z (lB 0 HS Z Ip Z (lS Z Z U26 Z (GO.lss Z Z Z Z (nL ?_)))))))
  rcases iS H with ⟨c39,H⟩|⟨c39,H⟩
  ·
   refine nB Z (tF c39) (rN 3 Z ?_)
   obtain rfl:=sI H
   exact rT _ func64 Z Z ⟨Z,(HS.pk 1 [] Z)⟩
  refine yB Z (tT c39) (rN 4 Z ?_)
  obtain ⟨c40,H⟩:=iN H
  obtain ⟨t41,h42,H⟩:=bI H
  refine rG (fL b1 2 Km Z (lB 0 HS Z Ip Z (mV Z (iX Z U26 sz2 (rk (rD 1 r_a) HS) c40 (GO.C8 (T:=(Ac .i64)) (n:=c1.toNat) (o:=0) HS (rD 1 r_a) Z Z (getD_some (d:=0) (ltN c40)) Z Z na2 Z (fJ R5 Z (I4.calls HS  h42) (fun _ wd43 ⟨h44,HS⟩=>⟨_,h44,(GO.not Z Z Z (nL ?_))⟩)))))))
  rcases iS H with ⟨c45,H⟩|⟨c45,H⟩
  ·
   refine yB Z (congrArg Bool.not (Cv c45)) (rN 2 Z ?_)
   obtain rfl:=sI H
   exact rT _ func64 Z Z ⟨Z,(HS.pk 1 [] Z)⟩
  refine nB Z (congrArg Bool.not c45) (rN 4 Z (gW (m1 g1 (lR _) _ _ H HS) Z))
 exact gW (i1 K (lR _) _ _ H HS) Z
theorem E5.calls {n_ r1 r2:Int} {r3:List Int} (HS:St w0 w (L)) (H:E5.f K n_=some (r1,r2,r3)) :
   Calls prog 146 #[I n_] w (E5.post w0 L r1 r2 r3):=by
 unfold E5.f at H
 refine cG func146 Z ?_
 refine sQ (rG (GO.alloc HS Z R8 Z Z fun b1 wd2 HS=>nL (sQ ?_)))
 obtain ⟨t3,t4,t5,h6,H⟩:=Gb H
 refine rG (pS 2 Z (fJ qI Z (Jp.calls HS  h6) (fun _ wd9 ⟨A7,c8,h10,HS⟩=>⟨_,h10,(GO.alloc HS Z R8 Z Z fun b11 wd12 HS=>sW 0 HS Z Fx Z fun wd13 HS=>nL (rN 5 Z ?_))⟩)))
 refine G.name (fun i1 f1=>?_)
 have g1:∀ d1,d1≤K→∀ (c1:List Int) (a1:Int) (w:World),E5.l1 K d1 n_ t3 t4 c1 a1=some (r1,r2,r3)→St w0 w (Box b1 57 [I 0,I 0,.slice none 0 0]::Box b11 57 [I t3,I t4,sV A7 c1 c8]::Own (Ac .i64) 2 A7 c8 uu c1::L)→G prog 146 22 [(0,I n_),(2,pT b1),(3,pT b11),(4,I a1)] i1 w (E5.post w0 L r1 r2 r3):=by
  refine lp (fun _ _ w H _=>by rw [E5.l1] at H; cases H) fun e1 k1 h1 c1 a1 w H HS=>?_
  rw [E5.l1] at H
  subst f1
  refine rN 3 Z ?_
  rcases iS H with ⟨c24,H⟩|⟨c24,H⟩
  ·
   refine nB Z (tF c24) (rN 2 Z (rG (lW 1 HS Z Fx (sW 0 HS Z Fx Z fun wd27 HS=>nL ?_))))
   obtain ⟨rfl,rfl,rfl⟩:=Kw H
   exact rT _ func146 Z (Kc.Lh (j:=0) (vs:=[I t3,I t4,sV A7 c1 c8]) HS Z Z Z Fx) ⟨_,_,Z,(HS.pk 3 [2] Z)⟩
  refine yB Z (tT c24) (rN 3 Z ?_)
  obtain ⟨c25,H⟩:=iN H
  refine rG (fL b11 2 Km Z (lB 1 HS Z Ip Z (pS 5 Z (iX Z U26 sz2 (rk (ro 2 Z) HS) c25 (GO.Hl (T:=(Ac .i64)) (j:=2) (n:=(w64 ((w64 (a1*n_))+a1)).toNat) (o:=0) (vs:=[I 1]) 1 HS Z Ao Z Z Z Z (htN na2 Z) Z (getD_some (d:=0) (ltN c25)) Z Z fun wd26 HS=>nL ?_)))))
  replace HS:=HS.G6 (j:=1) (cs':=[I t3,I t4,sV A7 (c1.set ((w64 ((w64 (a1*n_))+a1)).toNat) 1) c8]) Z (by simp only [sV,List.length_set]<;>rfl)
  refine rN 3 Z (gW (h1 e1 (lR _) _ _ _ H HS) Z)
 exact gW (g1 K (lR _) _ _ _ H (HS.pk 3 [2,0,1] Z)) Z
theorem Cy.calls {d1 c1:Int} {a1:List Int} {row column:Int} {r1:Int} (HS:St w0 w (L)) (r_a:Bv w0 L (Ac .i64) A_a c_a uu a1) (H:Cy.f d1 c1 a1 row column=some r1) :
  Calls prog 105 #[.agg [I d1,I c1,sV A_a a1 c_a].toArray,I row,I column] w (Cy.post w0 L r1):=by
 unfold Cy.f at H
 refine cG func105 Z ?_
 refine sQ (rG (bA HS Z fun b1 wd2 HS=>aS Z (nL (sQ ?_))))
 obtain ⟨c3,H⟩:=iN H
 refine rG (fL b1 2 Km Z (lB 0 HS Z Ip Z (mV Z (fL b1 1 Gg Z (lB 0 HS Z na2 Z (pS 3 Z (iX Z U26 sz2 (rk (rD 1 r_a) HS) c3 (GO.C8 (T:=(Ac .i64)) (n:=(w64 ((w64 (row*c1))+column)).toNat) (o:=0) HS (rD 1 r_a) Z Z (getD_some (d:=0) (ltN c3)) Z Z na2 Z (aS Z (nL ?_))))))))))
 obtain rfl:=sI H
 exact rT _ func105 Z Z ⟨Z,(HS.pk 1 [] Z)⟩
theorem Ie.calls {n_ r1:Int} (HS:St w0 w (L)) (H:Ie.f n_=some r1) :
  Calls prog 106 #[I n_] w (Ie.post w0 L r1):=by
 unfold Ie.f at H
 refine cG func106 Z ?_
 refine rN 3 Z (rG (pS 2 Z (GO.neg Z Z Z (GO.max2 Z Z Z Z (aS Z (nL ?_))))))
 obtain rfl:=sI H
 exact rT _ func106 Z Z ⟨Z,HS⟩
theorem Ex.calls {d1 a1:Int} {e1:List Int} {a_ b_:Int} {r1:List Int} (HS:St w0 w (Own (Ac .i64) 2 A_a c_a uu e1::L)) (H:Ex.f K d1 a1 e1 a_ b_=some r1) :
   Calls prog 201 #[.agg [I d1,I a1,sV A_a e1 c_a].toArray,I a_,I b_] w (Ex.post w0 L A_a c_a r1):=by
 unfold Ex.f at H
 refine cG func201 Z ?_
 refine sQ (rG (bA HS Z fun b1 wd2 HS=>nL (rN 4 Z ?_)))
 refine G.name (fun m1 h1=>?_)
 have i1:∀ f1,f1≤K→∀ (x17:List Int) (c1:Int) (w:World),Ex.l1 K f1 d1 a1 a_ b_ x17 c1=some r1→St w0 w (Own (Ac .i64) 2 A_a c_a uu x17::Box b1 57 [I d1,I a1,sV A_a x17 c_a]::L)→G prog 201 41 [(1,I a_),(2,I b_),(3,pT b1),(6,I c1)] m1 w (Ex.post w0 L A_a c_a r1):=by
  refine lp (fun _ _ w H _=>by rw [Ex.l1] at H; cases H) fun g1 n1 k1 x17 c1 w H HS=>?_
  rw [Ex.l1] at H
  subst h1
  refine rN 2 Z (rG (mV Z (fL b1 1 Gg Z (lB 1 HS Z na2 Z (GO.lss Z Z Z Z (nL ?_))))))
  rcases iS H with ⟨c33,H⟩|⟨c33,H⟩
  ·
   refine nB Z (tF c33) (G.exit Z ?_)
   obtain rfl:=sI H
   exact G.K6 func201 Z ⟨Z,(HS.pk 2 [0] Z)⟩
  refine yB Z (tT c33) (rN 4 Z ?_)
  obtain ⟨t34,h35,H⟩:=bI H
  refine rG (lW 1 HS Z Fx (pS 2 Z (fJ Kg Z (Cy.calls HS (ro 0 Z) h35) (fun _ wd36 ⟨h37,HS⟩=>⟨_,h37,(aS Z (nL (sQ ?_)))⟩))))
  obtain ⟨t38,h39,H⟩:=bI H
  obtain ⟨c42,H⟩:=iN H
  have h43:=(rk (ro 0 Z) HS)
  refine G.Jk mixed (fun w=>St w0 w (Box b1 57 [I d1,I a1,sV A_a x17 c_a]::L)) [1,4,8] [0,2,3,6,9,10,1,4,5,7,8,11,12,13] [] (by kernel_rfl) (by kernel_rfl) (HS.drew.pk 2 [1] Z) ?_
  replace HS:=HS.drew
  refine qL Z Z (fun _ _ g=>fL b1 2 Km Z g) Z (GX.ps 1 Z (qL Z Z (fun _ _ g=>fL b1 1 Gg Z g) Z (GX.ps 3 Z (GX.ls Z Z Z (HS.pk 2 [1] Z) (fun _ HS _ g=>lB 0 HS Z Ip Z g) Z (GX.ls Z Z Z (HS.pk 2 [1] Z) (fun _ HS _ g=>lB 0 HS Z na2 Z g) Z (GX.ps 2 Z (GX.ls Z Z Z (HS.pk 2 [1] Z) (fun _ HS _ g=>lW 0 HS Z Fx g) Z (GX.l2 Z (fJ Kg Z (Cy.calls HS (ro 0 Z) h39) (fun _ wd40 ⟨h41,HS⟩=>⟨_,h41,(GX.fin (HS.pk 2 [1] Z) (qL Z Z (fun _ _ g=>iX Z U26 sz2 h43 c42 g) Z (GX.l2 Z (GO.Hl (T:=(Ac .i64)) (j:=0) (n:=(w64 ((w64 (a_*a1))+c1)).toNat) (o:=0) (vs:=[I t38]) t38 HS Z Ao Z Z Z Z (htN na2 Z) Z (getD_some (d:=0) (ltN c42)) Z Z fun wd44 HS=>GX.fin (HS.pk 2 [1] Z) ?_))))⟩))))))))))
  refine GX.nil ?_
  replace HS:=HS.G6 (j:=1) (cs':=[I d1,I a1,sV A_a (x17.set ((w64 ((w64 (a_*a1))+c1)).toNat) t38) c_a]) Z (by simp only [sV,List.length_set]<;>rfl)
  obtain ⟨c45,H⟩:=iN H
  refine rG (fL b1 2 Km Z (lB 1 HS Z Ip Z (mV Z (fL b1 1 Gg Z (lB 1 HS Z na2 Z (pS 4 Z (iX Z U26 sz2 (rk (ro 0 Z) HS) c45 (GO.Hl (T:=(Ac .i64)) (j:=0) (n:=(w64 ((w64 (b_*a1))+c1)).toNat) (o:=0) (vs:=[I t34]) t34 HS Z Ao Z Z Z Z (htN na2 Z) Z (getD_some (d:=0) (ltN c45)) Z Z fun wd46 HS=>nL ?_))))))))
  replace HS:=HS.G6 (j:=1) (cs':=[I d1,I a1,sV A_a ((x17.set ((w64 ((w64 (a_*a1))+c1)).toNat) t38).set ((w64 ((w64 (b_*a1))+c1)).toNat) t34) c_a]) Z (by simp only [sV,List.length_set]<;>rfl)
  refine rN 3 Z (gW (k1 g1 (lR _) _ _ _ H HS) Z)
 exact gW (i1 K (lR _) _ _ _ H (HS.pk 2 [1,0] Z)) Z
theorem D9.calls {d1 a1:Int} {e1:List Int} {a_ b_:Int} {r1:List Int} (HS:St w0 w (Own (Ac .i64) 2 A_a c_a uu e1::L)) (H:D9.f K d1 a1 e1 a_ b_=some r1) :
   Calls prog 202 #[.agg [I d1,I a1,sV A_a e1 c_a].toArray,I a_,I b_] w (D9.post w0 L A_a c_a r1):=by
 unfold D9.f at H
 refine cG func202 Z ?_
 refine sQ (rG (bA HS Z fun b1 wd2 HS=>nL (rN 4 Z ?_)))
 refine G.name (fun k1 h1=>?_)
 have i1:∀ f1,f1≤K→∀ (x17:List Int) (c1:Int) (w:World),D9.l1 K f1 d1 a1 a_ b_ x17 c1=some r1→St w0 w (Own (Ac .i64) 2 A_a c_a uu x17::Box b1 57 [I d1,I a1,sV A_a x17 c_a]::L)→G prog 202 41 [(1,I a_),(2,I b_),(3,pT b1),(6,I c1)] k1 w (D9.post w0 L A_a c_a r1):=by
  refine lp (fun _ _ w H _=>by rw [D9.l1] at H; cases H) fun g1 n1 m1 x17 c1 w H HS=>?_
  rw [D9.l1] at H
  subst h1
  refine rN 2 Z (rG (mV Z (fL b1 0 Im Z (lB 1 HS Z na2 Z (GO.lss Z Z Z Z (nL ?_))))))
  rcases iS H with ⟨c33,H⟩|⟨c33,H⟩
  ·
   refine nB Z (tF c33) (G.exit Z ?_)
   obtain rfl:=sI H
   exact G.K6 func202 Z ⟨Z,(HS.pk 2 [0] Z)⟩
  refine yB Z (tT c33) (rN 4 Z ?_)
  obtain ⟨t34,h35,H⟩:=bI H
  refine rG (lW 1 HS Z Fx (pS 2 Z (fJ Kg Z (Cy.calls HS (ro 0 Z) h35) (fun _ wd36 ⟨h37,HS⟩=>⟨_,h37,(aS Z (nL (sQ ?_)))⟩))))
  obtain ⟨t38,h39,H⟩:=bI H
  obtain ⟨c42,H⟩:=iN H
  have h43:=(rk (ro 0 Z) HS)
  refine G.Jk mixed (fun w=>St w0 w (Box b1 57 [I d1,I a1,sV A_a x17 c_a]::L)) [1,4,8] [0,2,3,6,9,10,1,4,5,7,8,11,12,13] [] (by kernel_rfl) (by kernel_rfl) (HS.drew.pk 2 [1] Z) ?_
  replace HS:=HS.drew
  refine qL Z Z (fun _ _ g=>fL b1 2 Km Z g) Z (GX.ps 1 Z (qL Z Z (fun _ _ g=>fL b1 1 Gg Z g) Z (GX.ps 3 Z (GX.ls Z Z Z (HS.pk 2 [1] Z) (fun _ HS _ g=>lB 0 HS Z Ip Z g) Z (GX.ls Z Z Z (HS.pk 2 [1] Z) (fun _ HS _ g=>lB 0 HS Z na2 Z g) Z (GX.ps 2 Z (GX.ls Z Z Z (HS.pk 2 [1] Z) (fun _ HS _ g=>lW 0 HS Z Fx g) Z (GX.l2 Z (fJ Kg Z (Cy.calls HS (ro 0 Z) h39) (fun _ wd40 ⟨h41,HS⟩=>⟨_,h41,(GX.fin (HS.pk 2 [1] Z) (qL Z Z (fun _ _ g=>iX Z U26 sz2 h43 c42 g) Z (GX.l2 Z (GO.Hl (T:=(Ac .i64)) (j:=0) (n:=(w64 ((w64 (c1*a1))+a_)).toNat) (o:=0) (vs:=[I t38]) t38 HS Z Ao Z Z Z Z (htN na2 Z) Z (getD_some (d:=0) (ltN c42)) Z Z fun wd44 HS=>GX.fin (HS.pk 2 [1] Z) ?_))))⟩))))))))))
  refine GX.nil ?_
  replace HS:=HS.G6 (j:=1) (cs':=[I d1,I a1,sV A_a (x17.set ((w64 ((w64 (c1*a1))+a_)).toNat) t38) c_a]) Z (by simp only [sV,List.length_set]<;>rfl)
  obtain ⟨c45,H⟩:=iN H
  refine rG (fL b1 2 Km Z (lB 1 HS Z Ip Z (mV Z (fL b1 1 Gg Z (lB 1 HS Z na2 Z (pS 4 Z (iX Z U26 sz2 (rk (ro 0 Z) HS) c45 (GO.Hl (T:=(Ac .i64)) (j:=0) (n:=(w64 ((w64 (c1*a1))+b_)).toNat) (o:=0) (vs:=[I t34]) t34 HS Z Ao Z Z Z Z (htN na2 Z) Z (getD_some (d:=0) (ltN c45)) Z Z fun wd46 HS=>nL ?_))))))))
  replace HS:=HS.G6 (j:=1) (cs':=[I d1,I a1,sV A_a ((x17.set ((w64 ((w64 (c1*a1))+a_)).toNat) t38).set ((w64 ((w64 (c1*a1))+b_)).toNat) t34) c_a]) Z (by simp only [sV,List.length_set]<;>rfl)
  refine rN 3 Z (gW (m1 g1 (lR _) _ _ _ H HS) Z)
 exact gW (i1 K (lR _) _ _ _ H (HS.pk 2 [1,0] Z)) Z
theorem Bn.calls {c1 a1:Int} {p1:List Int} {f1 b1:Int} {s1:List Int} {e1 d1:Int} {q1:List Int} {g1 i1:Int} {o1:List Int} {h1 k1:Int} {n1:List Int} {m1:Bool} {o:Int} {b_t:Nat} {r1:Bool} {r2 r3:List Int} {r4 r5 r6:List Int} (HS:St w0 w (Box b_t 124 [I c1,I a1,sV A_a p1 c_a,I f1,I b1,sV A_b s1 c_b,I e1,I d1,sV A_c q1 c_c,I g1,I i1,sV A_d o1 c_d,I h1,I k1,sV A_e n1 c_e,.bool m1]::Own (Ac .i64) 2 A_a c_a uu p1::Own (Ac .i64) 2 A_b c_b uu s1::Own (Ac .i64) 2 A_c c_c uu q1::Own (Ac .i64) 2 A_d c_d uu o1::Own (Ac .i64) 2 A_e c_e uu n1::L)) (H:Bn.f K c1 a1 p1 f1 b1 s1 e1 d1 q1 g1 i1 o1 h1 k1 n1 m1 o=some (r1,r2,r3,r4,r5,r6)) :
   Calls prog 181 #[pT b_t,I o] w (Bn.post w0 L c1 a1 f1 b1 e1 d1 g1 i1 h1 k1 m1 b_t A_a c_a A_b c_b A_c c_c A_d c_d A_e c_e r1 r2 r3 r4 r5 r6):=by
 unfold Bn.f at H
 refine cG func181 Z ?_
 refine rN 9 Z ?_
 refine G.name (fun j2 x2=>?_)
 have y2:∀ d2,d2≤K→∀ (y1 x1 x78:Int) (w:World),Bn.l1 K d2 c1 a1 p1 f1 b1 s1 e1 d1 q1 g1 i1 o1 h1 k1 n1 o y1 x1 x78=some (r1,r2,r3,r4,r5,r6)→St w0 w (Box b_t 124 [I c1,I a1,sV A_a p1 c_a,I f1,I b1,sV A_b s1 c_b,I e1,I d1,sV A_c q1 c_c,I g1,I i1,sV A_d o1 c_d,I h1,I k1,sV A_e n1 c_e,.bool m1]::Own (Ac .i64) 2 A_a c_a uu p1::Own (Ac .i64) 2 A_b c_b uu s1::Own (Ac .i64) 2 A_c c_c uu q1::Own (Ac .i64) 2 A_d c_d uu o1::Own (Ac .i64) 2 A_e c_e uu n1::L)→G prog 181 199 [(0,pT b_t),(1,I o),(5,I y1),(6,I x1),(7,I x78)] j2 w (Bn.post w0 L c1 a1 f1 b1 e1 d1 g1 i1 h1 k1 m1 b_t A_a c_a A_b c_b A_c c_c A_d c_d A_e c_e r1 r2 r3 r4 r5 r6):=by
  refine lp (fun _ _ _ w H _=>by rw [Bn.l1] at H; cases H) fun v1 c3 z2 y1 x1 x78 w H HS=>?_
  rw [Bn.l1] at H
  subst x2
  refine rN 2 Z (rG (pS 2 Z (GO.Ew Z Z Z (fL b_t 0 Ia Z (fL b_t 0 Im Z (lB 0 HS Z na2 Z (GO.lss Z Z Z Z (nL ?_))))))))
  rcases iE H with ⟨c379,H⟩|⟨c379,H⟩
  ·
   refine yB Z (tT c379) (rN 7 Z ?_)
   refine G.name (fun s2 k2=>?_)
   have n2:∀ c2,c2≤v1→∀ (b2 a2 x412:Int) (w:World),Bn.l8 K c2 c1 a1 p1 f1 b1 s1 e1 d1 q1 g1 i1 o1 h1 k1 n1 o x78 b2 a2 x412=some (r1,r2,r3,r4,r5,r6)→St w0 w (Box b_t 124 [I c1,I a1,sV A_a p1 c_a,I f1,I b1,sV A_b s1 c_b,I e1,I d1,sV A_c q1 c_c,I g1,I i1,sV A_d o1 c_d,I h1,I k1,sV A_e n1 c_e,.bool m1]::Own (Ac .i64) 2 A_a c_a uu p1::Own (Ac .i64) 2 A_b c_b uu s1::Own (Ac .i64) 2 A_c c_c uu q1::Own (Ac .i64) 2 A_d c_d uu o1::Own (Ac .i64) 2 A_e c_e uu n1::L)→G prog 181 199 [(0,pT b_t),(1,I o),(5,I b2),(6,I a2),(7,I x78),(8,I x412)] s2 w (Bn.post w0 L c1 a1 f1 b1 e1 d1 g1 i1 h1 k1 m1 b_t A_a c_a A_b c_b A_c c_c A_d c_d A_e c_e r1 r2 r3 r4 r5 r6):=by
    refine lp (fun _ _ _ w H _=>by rw [Bn.l8] at H; cases H) fun t1 m2 u1 b2 a2 x412 w H HS=>?_
    rw [Bn.l8] at H
    subst k2
    refine rN 2 Z (rG (pS 2 Z (GO.Ew Z Z Z (fL b_t 0 Ia Z (fL b_t 1 Gg Z (lB 0 HS Z na2 Z (GO.lss Z Z Z Z (nL ?_))))))))
    rcases iS H with ⟨c443,H⟩|⟨c443,H⟩
    ·
     refine nB Z (tF c443) (rN 4 Z (gW (z2 t1 (Nat.le_of_succ_le m2) _ _ _ _ H HS) Z))
    refine yB Z (tT c443) (rN 4 Z ?_)
    obtain ⟨t444,h445,H⟩:=bI H
    obtain ⟨t448,h449,H⟩:=bI H
    refine rG (mV Z (GO.Ew Z Z Z (fL b_t 0 Ia Z (GO.Gc (j:=0) ([I c1,I a1,sV A_a p1 c_a]) HS Z Z Z Z Fx Z (pS 2 Z (fJ Kg Z (Cy.calls HS (ro 1 Z) h445) (fun _ wd446 ⟨h447,HS⟩=>⟨_,h447,(fJ Um Z (Ie.calls HS  h449) (fun _ wd450 ⟨h451,HS⟩=>⟨_,h451,(aS Z (nL (sQ ?_)))⟩))⟩)))))))
    rcases iS H with ⟨c462,H⟩|⟨c462,H⟩
    ·
     refine rG (pS 3 Z (kN 42 Z (tF c462) (oF Z (oF Z (oF Z (GO.Mv Z Z Z Z Z Z (GO.Mv Z Z Z Z Z Z (GO.Mv Z Z Z Z Z Z (GO.Mv Z Z Z Z Z Z (GO.Mv Z Z Z Z Z Z (GO.Mv Z Z Z Z Z Z (GO.Mv Z Z Z Z Z Z (GO.Mv Z Z Z Z Z Z (GO.Mv Z Z Z Z Z Z ?_))))))))))))))
     refine GO.Mv Z Z Z Z Z Z (oF Z (GO.Iw Z Z Z Z Z (nL (rN 5 Z (gW (u1 t1 (lR _) _ _ _ _ H HS) Z)))))
    rcases iE H with ⟨c463,H⟩|⟨c463,H⟩
    ·
     refine rG (pS 3 Z (kN 42 Z (tT c462) (oN Z (mV Z (bK (oN Z (GO.lss Z Z Z Z (bK (oN Z (mV Z (bK (kN 45 Z (tT c463) (oF Z (oF Z ?_))))))))))))))
     refine oF Z (oF Z (oF Z (oF Z (oF Z (oF Z (oF Z (oF Z (oN Z (GO.Gq Z Z Z Z Z (bK (GO.Gq Z Z Z Z Z (nL (rN 5 Z (gW (u1 t1 (lR _) _ _ _ _ H HS) Z))))))))))))))
    obtain ⟨t464,h465,H⟩:=bI H
    obtain ⟨t468,h469,H⟩:=bI H
    refine rG (pS 3 Z (kN 42 Z (tT c462) (oN Z (mV Z (bK (oN Z (GO.lss Z Z Z Z (bK (oN Z (mV Z (bK (kN 45 Z (tF c463) (oN Z (mV Z ?_))))))))))))))
    refine bK (oN Z (mV Z (bK (oN Z (GO.Ew Z Z Z (bK (oN Z (fL b_t 0 Ia Z (bK (oN Z (GO.Gc (j:=0) ([I c1,I a1,sV A_a p1 c_a]) HS Z Z Z Z Fx Z (bK (oN Z (mV Z ?_))))))))))))))
    refine bK (oN Z (mV Z (bK (oN Z (fJ Kg Z (Cy.calls HS (ro 1 Z) h465) (fun _ wd466 ⟨h467,HS⟩=>⟨_,h467,(bK (oN Z (fJ Um Z (Ie.calls HS  h469) (fun _ wd470 ⟨h471,HS⟩=>⟨_,h471,(bK (oN Z (GO.lss Z Z Z Z (bK (oN Z (GO.Iw Z Z Z Z Z ?_))))))⟩))))⟩))))))
    refine bK (GO.Gq Z Z Z Z Z (nL ?_))
    rcases iS H with ⟨c472,H⟩|⟨c472,H⟩
    ·
     refine nB Z (tF c472) (rN 4 Z (gW (u1 t1 (lR _) _ _ _ _ H HS) Z))
    refine yB Z (tT c472) (rN 4 Z (gW (u1 t1 (lR _) _ _ _ _ H HS) Z))
   exact gW (n2 v1 (lR _) _ _ _ _ H HS) Z
  refine nB Z (tF c379) (rN 4 Z ?_)
  rcases iE H with ⟨c473,H⟩|⟨c473,H⟩
  ·
   refine yB Z (tT c473) (rN 2 Z ?_)
   obtain ⟨rfl,rfl,rfl,rfl,rfl,rfl⟩:=Oo H
   exact rT _ func181 Z Z ⟨Z,HS⟩
  refine nB Z (tF c473) (rN 2 Z ?_)
  obtain ⟨t474,h475,H⟩:=bI H
  obtain ⟨c476,H⟩:=iN H
  refine rG (mV Z (GO.Ew Z Z Z (fL b_t 0 Ia Z (GO.Gc (j:=0) ([I c1,I a1,sV A_a p1 c_a]) HS Z Z Z Z Fx Z (pS 2 Z ?_)))))
  replace HS:=HS.pk 6 [1,0,2,3,4,5] Z
  refine fJ bX Z (Ex.calls HS  h475) (fun _ wd477 ⟨h478,HS⟩=>⟨_,h478,(nL ?_)⟩)
  replace HS:=HS.G6 (j:=1) (cs':=[I c1,I a1,sV A_a t474 c_a,I f1,I b1,sV A_b s1 c_b,I e1,I d1,sV A_c q1 c_c,I g1,I i1,sV A_d o1 c_d,I h1,I k1,sV A_e n1 c_e,.bool m1]) Z (by simp only [sV,List.length_set,c476]<;>rfl)
  refine sQ ?_
  obtain ⟨t479,h480,H⟩:=bI H
  obtain ⟨c481,H⟩:=iN H
  refine rG (mV Z (GO.Ew Z Z Z (fL b_t 3 Qb Z (GO.Gc (j:=1) ([I f1,I b1,sV A_b s1 c_b]) HS Z Z Z Z Fx Z (pS 2 Z ?_)))))
  replace HS:=HS.pk 6 [2,0,1,3,4,5] Z
  refine fJ bX Z (Ex.calls HS  h480) (fun _ wd482 ⟨h483,HS⟩=>⟨_,h483,(nL ?_)⟩)
  replace HS:=HS.G6 (j:=2) (cs':=[I c1,I a1,sV A_a t474 c_a,I f1,I b1,sV A_b t479 c_b,I e1,I d1,sV A_c q1 c_c,I g1,I i1,sV A_d o1 c_d,I h1,I k1,sV A_e n1 c_e,.bool m1]) Z (by simp only [sV,List.length_set,c481]<;>rfl)
  refine sQ ?_
  obtain ⟨t484,h485,H⟩:=bI H
  obtain ⟨c486,H⟩:=iN H
  refine rG (mV Z (GO.Ew Z Z Z (fL b_t 6 Rm Z (GO.Gc (j:=2) ([I e1,I d1,sV A_c q1 c_c]) HS Z Z Z Z Fx Z (pS 2 Z ?_)))))
  replace HS:=HS.pk 6 [3,0,1,2,4,5] Z
  refine fJ bB Z (D9.calls HS  h485) (fun _ wd487 ⟨h488,HS⟩=>⟨_,h488,(nL ?_)⟩)
  replace HS:=HS.G6 (j:=3) (cs':=[I c1,I a1,sV A_a t474 c_a,I f1,I b1,sV A_b t479 c_b,I e1,I d1,sV A_c t484 c_c,I g1,I i1,sV A_d o1 c_d,I h1,I k1,sV A_e n1 c_e,.bool m1]) Z (by simp only [sV,List.length_set,c486]<;>rfl)
  refine sQ ?_
  obtain ⟨t489,h490,H⟩:=bI H
  obtain ⟨c491,H⟩:=iN H
  refine rG (mV Z (GO.Ew Z Z Z (fL b_t 0 Ia Z (GO.Gc (j:=3) ([I c1,I a1,sV A_a t474 c_a]) HS Z Z Z Z Fx Z (pS 2 Z ?_)))))
  replace HS:=HS.pk 6 [2,0,1,3,4,5] Z
  refine fJ bB Z (D9.calls HS  h490) (fun _ wd492 ⟨h493,HS⟩=>⟨_,h493,(nL ?_)⟩)
  replace HS:=HS.G6 (j:=3) (cs':=[I c1,I a1,sV A_a t489 c_a,I f1,I b1,sV A_b t479 c_b,I e1,I d1,sV A_c t484 c_c,I g1,I i1,sV A_d o1 c_d,I h1,I k1,sV A_e n1 c_e,.bool m1]) Z (by simp only [sV,List.length_set,c491]<;>rfl)
  refine sQ ?_
  obtain ⟨t494,h495,H⟩:=bI H
  obtain ⟨c496,H⟩:=iN H
  refine rG (mV Z (GO.Ew Z Z Z (fL b_t 9 dO Z (GO.Gc (j:=3) ([I g1,I i1,sV A_d o1 c_d]) HS Z Z Z Z Fx Z (pS 2 Z ?_)))))
  replace HS:=HS.pk 6 [4,0,1,2,3,5] Z
  refine fJ bB Z (D9.calls HS  h495) (fun _ wd497 ⟨h498,HS⟩=>⟨_,h498,(nL ?_)⟩)
  replace HS:=HS.G6 (j:=4) (cs':=[I c1,I a1,sV A_a t489 c_a,I f1,I b1,sV A_b t479 c_b,I e1,I d1,sV A_c t484 c_c,I g1,I i1,sV A_d t494 c_d,I h1,I k1,sV A_e n1 c_e,.bool m1]) Z (by simp only [sV,List.length_set,c496]<;>rfl)
  refine sQ ?_
  obtain ⟨t499,h500,H⟩:=bI H
  obtain ⟨c501,H⟩:=iN H
  refine rG (mV Z (GO.Ew Z Z Z (fL b_t 12 fA Z (GO.Gc (j:=4) ([I h1,I k1,sV A_e n1 c_e]) HS Z Z Z Z Fx Z (pS 2 Z ?_)))))
  replace HS:=HS.pk 6 [5,0,1,2,3,4] Z
  refine fJ bX Z (Ex.calls HS  h500) (fun _ wd502 ⟨h503,HS⟩=>⟨_,h503,(nL ?_)⟩)
  replace HS:=HS.G6 (j:=5) (cs':=[I c1,I a1,sV A_a t489 c_a,I f1,I b1,sV A_b t479 c_b,I e1,I d1,sV A_c t484 c_c,I g1,I i1,sV A_d t494 c_d,I h1,I k1,sV A_e t499 c_e,.bool m1]) Z (by simp only [sV,List.length_set,c501]<;>rfl)
  refine rN 2 Z ?_
  obtain ⟨t504,h505,H⟩:=bI H
  refine rG (mV Z (GO.Ew Z Z Z (fL b_t 0 Ia Z (GO.Gc (j:=5) ([I c1,I a1,sV A_a t489 c_a]) HS Z Z Z Z Fx Z (pS 2 Z (fJ Kg Z (Cy.calls HS (ro 2 Z) h505) (fun _ wd506 ⟨h507,HS⟩=>⟨_,h507,(GO.lss Z Z Z Z (nL ?_))⟩)))))))
  rcases iS H with ⟨c508,H⟩|⟨c508,H⟩
  ·
   refine nB Z (tF c508) (rN 3 Z ?_)
   obtain ⟨rfl,rfl,rfl,rfl,rfl,rfl⟩:=Oo H
   exact rT _ func181 Z Z ⟨Z,(HS.pk 6 [5,2,4,3,1,0] Z)⟩
  refine yB Z (tT c508) (rN 5 Z ?_)
  refine G.name (fun t2 u2=>?_)
  have q2:∀ f2,f2≤v1→∀ (x565:List Int) (x566:Int) (w:World),Bn.l9 K f2 c1 a1 f1 b1 e1 d1 o t479 t484 t494 t499 x565 x566=some (r1,r2,r3,r4,r5,r6)→St w0 w (Box b_t 124 [I c1,I a1,sV A_a x565 c_a,I f1,I b1,sV A_b t479 c_b,I e1,I d1,sV A_c t484 c_c,I g1,I i1,sV A_d t494 c_d,I h1,I k1,sV A_e t499 c_e,.bool m1]::Own (Ac .i64) 2 A_a c_a uu x565::Own (Ac .i64) 2 A_b c_b uu t479::Own (Ac .i64) 2 A_c c_c uu t484::Own (Ac .i64) 2 A_d c_d uu t494::Own (Ac .i64) 2 A_e c_e uu t499::L)→G prog 181 199 [(0,pT b_t),(1,I o),(10,I x566)] t2 w (Bn.post w0 L c1 a1 f1 b1 e1 d1 g1 i1 h1 k1 m1 b_t A_a c_a A_b c_b A_c c_c A_d c_d A_e c_e r1 r2 r3 r4 r5 r6):=by
   refine lp (fun _ _ w H _=>by rw [Bn.l9] at H; cases H) fun z1 a3 p2 x565 x566 w H HS=>?_
   rw [Bn.l9] at H
   subst u2
   refine rN 2 Z (rG (pS 2 Z (GO.Ew Z Z Z (fL b_t 0 Ia Z (fL b_t 1 Gg Z (lB 0 HS Z na2 Z (GO.lss Z Z Z Z (nL ?_))))))))
   rcases iE H with ⟨c623,H⟩|⟨c623,H⟩
   ·
    refine yB Z (tT c623) (rN 3 Z ?_)
    obtain ⟨t624,h625,H⟩:=bI H
    obtain ⟨c628,H⟩:=iN H
    have h629:=(rk (ro 1 Z) HS)
    refine G.Jk mixed (fun w=>St w0 w (Box b_t 124 [I c1,I a1,sV A_a x565 c_a,I f1,I b1,sV A_b t479 c_b,I e1,I d1,sV A_c t484 c_c,I g1,I i1,sV A_d t494 c_d,I h1,I k1,sV A_e t499 c_e,.bool m1]::L)) [4,10,17] [0,1,2,3,5,6,7,8,9,12,14,15,16,18,19,4,10,11,13,17,20,21,22,23] [] (by kernel_rfl) (by kernel_rfl) (HS.drew.pk 6 [0] Z) ?_
    replace HS:=HS.drew
    refine GX.ps 1 Z (qL Z Z (fun _ _ g=>GO.Ew Z Z Z g) Z (qL Z Z (fun _ _ g=>fL b_t 0 Ia Z g) Z (qL Z Z (fun _ _ g=>fL b_t 2 Km Z g) Z (GX.ps 2 Z (qL Z Z (fun _ _ g=>GO.Ew Z Z Z g) Z (qL Z Z (fun _ _ g=>fL b_t 0 Ia Z g) Z (qL Z Z (fun _ _ g=>fL b_t 1 Gg Z g) Z (GX.ps 2 Z (qL Z Z (fun _ _ g=>GO.Ew Z Z Z g) Z (qL Z Z (fun _ _ g=>fL b_t 0 Ia Z g) Z (GX.ps 2 Z (GX.ls Z Z Z (HS.pk 6 [0] Z) (fun _ HS _ g=>lB 0 HS Z Ip Z g) Z (GX.ls Z Z Z (HS.pk 6 [0] Z) (fun _ HS _ g=>lB 0 HS Z na2 Z g) Z (GX.ps 2 Z ?_))))))))))))))
    refine GX.ls Z Z Z (HS.pk 6 [0] Z) (fun _ HS _ g=>GO.Gc (j:=0) ([I c1,I a1,sV A_a x565 c_a]) HS Z Z Z Z Fx Z g) Z (GX.l2 Z (fJ Kg Z (Cy.calls HS (ro 1 Z) h625) (fun _ wd626 ⟨h627,HS⟩=>⟨_,h627,(GX.fin (HS.pk 6 [0] Z) (qL Z Z (fun _ _ g=>GO.neg Z Z Z g) Z (qL Z Z (fun _ _ g=>iX Z U26 sz2 h629 c628 g) Z (GX.l2 Z (GO.Hl (T:=(Ac .i64)) (j:=1) (n:=(w64 ((w64 (o*a1))+x566)).toNat) (o:=0) (vs:=[I (w64 (0 - t624))]) (w64 (0 - t624)) HS Z Ao Z Z Z Z (htN na2 Z) Z (getD_some (d:=0) (ltN c628)) Z Z fun wd630 HS=>GX.fin (HS.pk 6 [0] Z) (GX.nil ?_))))))⟩)))
    replace HS:=HS.G6 (j:=0) (cs':=[I c1,I a1,sV A_a (x565.set ((w64 ((w64 (o*a1))+x566)).toNat) (w64 (0 - t624))) c_a,I f1,I b1,sV A_b t479 c_b,I e1,I d1,sV A_c t484 c_c,I g1,I i1,sV A_d t494 c_d,I h1,I k1,sV A_e t499 c_e,.bool m1]) Z (by simp only [sV,List.length_set]<;>rfl)
    refine rN 3 Z (gW (p2 z1 (lR _) _ _ _ H HS) Z)
   refine nB Z (tF c623) (rN 5 Z ?_)
   refine G.name (fun i2 g2=>?_)
   have o2:∀ e2,e2≤z1→∀ (x646 x647:List Int) (x648:Int) (w:World),Bn.l12 K e2 f1 b1 e1 d1 o t494 t499 x565 x646 x647 x648=some (r1,r2,r3,r4,r5,r6)→St w0 w (Box b_t 124 [I c1,I a1,sV A_a x565 c_a,I f1,I b1,sV A_b x646 c_b,I e1,I d1,sV A_c x647 c_c,I g1,I i1,sV A_d t494 c_d,I h1,I k1,sV A_e t499 c_e,.bool m1]::Own (Ac .i64) 2 A_a c_a uu x565::Own (Ac .i64) 2 A_b c_b uu x646::Own (Ac .i64) 2 A_c c_c uu x647::Own (Ac .i64) 2 A_d c_d uu t494::Own (Ac .i64) 2 A_e c_e uu t499::L)→G prog 181 199 [(0,pT b_t),(1,I o),(11,I x648)] i2 w (Bn.post w0 L c1 a1 f1 b1 e1 d1 g1 i1 h1 k1 m1 b_t A_a c_a A_b c_b A_c c_c A_d c_d A_e c_e r1 r2 r3 r4 r5 r6):=by
    refine lp (fun _ _ _ w H _=>by rw [Bn.l12] at H; cases H) fun v2 b3 h2 x646 x647 x648 w H HS=>?_
    rw [Bn.l12] at H
    subst g2
    refine rN 2 Z (rG (pS 2 Z (GO.Ew Z Z Z (fL b_t 3 Qb Z (fL b_t 4 Gg Z (lB 0 HS Z na2 Z (GO.lss Z Z Z Z (nL ?_))))))))
    rcases iS H with ⟨c664,H⟩|⟨c664,H⟩
    ·
     refine nB Z (tF c664) (rN 3 Z ?_)
     obtain ⟨rfl,rfl,rfl,rfl,rfl,rfl⟩:=Oo H
     exact rT _ func181 Z Z ⟨Z,HS⟩
    refine yB Z (tT c664) (rN 4 Z ?_)
    obtain ⟨t665,h666,H⟩:=bI H
    obtain ⟨c669,H⟩:=iN H
    have h670:=(rk (ro 2 Z) HS)
    refine G.Jk mixed (fun w=>St w0 w (Box b_t 124 [I c1,I a1,sV A_a x565 c_a,I f1,I b1,sV A_b x646 c_b,I e1,I d1,sV A_c x647 c_c,I g1,I i1,sV A_d t494 c_d,I h1,I k1,sV A_e t499 c_e,.bool m1]::L)) [4,10,17] [0,1,2,3,5,6,7,8,9,12,14,15,16,18,19,4,10,11,13,17,20,21,22,23] [] (by kernel_rfl) (by kernel_rfl) (HS.drew.pk 6 [0] Z) ?_
    replace HS:=HS.drew
    refine GX.ps 1 Z (qL Z Z (fun _ _ g=>GO.Ew Z Z Z g) Z (qL Z Z (fun _ _ g=>fL b_t 3 Qb Z g) Z (qL Z Z (fun _ _ g=>fL b_t 5 Km Z g) Z (GX.ps 2 Z (qL Z Z (fun _ _ g=>GO.Ew Z Z Z g) Z (qL Z Z (fun _ _ g=>fL b_t 3 Qb Z g) Z (qL Z Z (fun _ _ g=>fL b_t 4 Gg Z g) Z (GX.ps 2 Z (qL Z Z (fun _ _ g=>GO.Ew Z Z Z g) Z (qL Z Z (fun _ _ g=>fL b_t 3 Qb Z g) Z (GX.ps 2 Z (GX.ls Z Z Z (HS.pk 6 [0] Z) (fun _ HS _ g=>lB 0 HS Z Ip Z g) Z (GX.ls Z Z Z (HS.pk 6 [0] Z) (fun _ HS _ g=>lB 0 HS Z na2 Z g) Z (GX.ps 2 Z ?_))))))))))))))
    refine GX.ls Z Z Z (HS.pk 6 [0] Z) (fun _ HS _ g=>GO.Gc (j:=0) ([I f1,I b1,sV A_b x646 c_b]) HS Z Z Z Z Fx Z g) Z (GX.l2 Z (fJ Kg Z (Cy.calls HS (ro 2 Z) h666) (fun _ wd667 ⟨h668,HS⟩=>⟨_,h668,(GX.fin (HS.pk 6 [0] Z) (qL Z Z (fun _ _ g=>GO.neg Z Z Z g) Z (qL Z Z (fun _ _ g=>iX Z U26 sz2 h670 c669 g) Z (GX.l2 Z (GO.Hl (T:=(Ac .i64)) (j:=2) (n:=(w64 ((w64 (o*b1))+x648)).toNat) (o:=0) (vs:=[I (w64 (0 - t665))]) (w64 (0 - t665)) HS Z Ao Z Z Z Z (htN na2 Z) Z (getD_some (d:=0) (ltN c669)) Z Z fun wd671 HS=>GX.fin (HS.pk 6 [0] Z) (GX.nil ?_))))))⟩)))
    replace HS:=HS.G6 (j:=0) (cs':=[I c1,I a1,sV A_a x565 c_a,I f1,I b1,sV A_b (x646.set ((w64 ((w64 (o*b1))+x648)).toNat) (w64 (0 - t665))) c_b,I e1,I d1,sV A_c x647 c_c,I g1,I i1,sV A_d t494 c_d,I h1,I k1,sV A_e t499 c_e,.bool m1]) Z (by simp only [sV,List.length_set]<;>rfl)
    obtain ⟨t672,h673,H⟩:=bI H
    obtain ⟨c676,H⟩:=iN H
    have h677:=(rk (ro 3 Z) HS)
    refine G.Jk mixed (fun w=>St w0 w (Box b_t 124 [I c1,I a1,sV A_a x565 c_a,I f1,I b1,sV A_b (x646.set ((w64 ((w64 (o*b1))+x648)).toNat) (w64 (0 - t665))) c_b,I e1,I d1,sV A_c x647 c_c,I g1,I i1,sV A_d t494 c_d,I h1,I k1,sV A_e t499 c_e,.bool m1]::L)) [4,10,17] [0,1,2,3,5,6,7,8,9,12,14,15,16,18,19,4,10,11,13,17,20,21,22,23] [] (by kernel_rfl) (by kernel_rfl) (HS.drew.pk 6 [0] Z) ?_
    replace HS:=HS.drew
    refine GX.ps 1 Z (qL Z Z (fun _ _ g=>GO.Ew Z Z Z g) Z (qL Z Z (fun _ _ g=>fL b_t 6 Rm Z g) Z (qL Z Z (fun _ _ g=>fL b_t 8 Km Z g) Z (GX.ps 2 Z (qL Z Z (fun _ _ g=>GO.Ew Z Z Z g) Z (qL Z Z (fun _ _ g=>fL b_t 6 Rm Z g) Z (qL Z Z (fun _ _ g=>fL b_t 7 Gg Z g) Z (GX.ps 2 Z (qL Z Z (fun _ _ g=>GO.Ew Z Z Z g) Z (qL Z Z (fun _ _ g=>fL b_t 6 Rm Z g) Z (GX.ps 2 Z (GX.ls Z Z Z (HS.pk 6 [0] Z) (fun _ HS _ g=>lB 0 HS Z Ip Z g) Z (GX.ls Z Z Z (HS.pk 6 [0] Z) (fun _ HS _ g=>lB 0 HS Z na2 Z g) Z (GX.ps 2 Z ?_))))))))))))))
    refine GX.ls Z Z Z (HS.pk 6 [0] Z) (fun _ HS _ g=>GO.Gc (j:=0) ([I e1,I d1,sV A_c x647 c_c]) HS Z Z Z Z Fx Z g) Z (GX.l2 Z (fJ Kg Z (Cy.calls HS (ro 3 Z) h673) (fun _ wd674 ⟨h675,HS⟩=>⟨_,h675,(GX.fin (HS.pk 6 [0] Z) (qL Z Z (fun _ _ g=>GO.neg Z Z Z g) Z (qL Z Z (fun _ _ g=>iX Z U26 sz2 h677 c676 g) Z (GX.l2 Z (GO.Hl (T:=(Ac .i64)) (j:=3) (n:=(w64 ((w64 (x648*d1))+o)).toNat) (o:=0) (vs:=[I (w64 (0 - t672))]) (w64 (0 - t672)) HS Z Ao Z Z Z Z (htN na2 Z) Z (getD_some (d:=0) (ltN c676)) Z Z fun wd678 HS=>GX.fin (HS.pk 6 [0] Z) (GX.nil ?_))))))⟩)))
    replace HS:=HS.G6 (j:=0) (cs':=[I c1,I a1,sV A_a x565 c_a,I f1,I b1,sV A_b (x646.set ((w64 ((w64 (o*b1))+x648)).toNat) (w64 (0 - t665))) c_b,I e1,I d1,sV A_c (x647.set ((w64 ((w64 (x648*d1))+o)).toNat) (w64 (0 - t672))) c_c,I g1,I i1,sV A_d t494 c_d,I h1,I k1,sV A_e t499 c_e,.bool m1]) Z (by simp only [sV,List.length_set]<;>rfl)
    refine rN 3 Z (gW (h2 v2 (lR _) _ _ _ _ H HS) Z)
   exact gW (o2 z1 (lR _) _ _ _ _ H HS) Z
  exact gW (q2 v1 (lR _) _ _ _ H (HS.pk 6 [5,2,4,3,1,0] Z)) Z
 exact gW (y2 K (lR _) _ _ _ _ H HS) Z
theorem Jl.calls {a_ b_ r1:Int} (HS:St w0 w (L)) (H:Jl.f a_ b_=some r1) :
   Calls prog 183 #[I a_,I b_] w (Jl.post w0 L r1):=by
 unfold Jl.f at H
 refine cG func183 Z ?_
 refine rN 3 Z ?_
 obtain ⟨c1,H⟩:=Ll H
 refine rG (pS 2 Z (GO.quo Z Z Z c1 Z (aS Z (nL (rN 2 Z (rG (pS 2 Z (GO.rem Z Z Z c1 Z (GO.lss Z Z Z Z (nL ?_))))))))))
 rcases iS H with ⟨c2,H⟩|⟨c2,H⟩
 ·
  refine nB Z (tF c2) (rN 3 Z ?_)
  obtain rfl:=sI H
  exact rT _ func183 Z Z ⟨Z,HS⟩
 refine yB Z (tT c2) (rN 3 Z ?_)
 obtain rfl:=sI H
 exact rT _ func183 Z Z ⟨Z,HS⟩
theorem Jq.calls {a_ b_:Int} {most r1:Int} {r2:Bool} (HS:St w0 w (L)) (H:Jq.f a_ b_ most=some (r1,r2)) :
   Calls prog 104 #[I a_,I b_,I most] w (Jq.post w0 L r1 r2):=by
 unfold Jq.f at H
 refine cG func104 Z ?_
 refine rN 4 Z ?_
 rcases iE H with ⟨c11,H⟩|⟨c11,H⟩
 ·
  refine rG (pS 3 Z (kN 10 Z (nT c11) (oF Z (oF Z (oF Z (oF Z (oF Z (oF Z (oF Z (GO.Iw Z Z Z Z Z (nL (rN 4 Z ?_))))))))))))
  obtain ⟨rfl,rfl⟩:=H8 H
  exact G.Jr _ _ func104 Z Z Z ⟨Z,HS⟩
 obtain ⟨t12,h13,H⟩:=bI H
 obtain ⟨t16,h17,H⟩:=bI H
 obtain ⟨c20,H⟩:=Ll H
 refine rG (pS 3 Z (kN 10 Z (nF c11) (oN Z (mV Z (bK (oN Z (fJ Um Z (Ie.calls HS  h13) (fun _ wd14 ⟨h15,HS⟩=>⟨_,h15,(bK (oN Z (mV Z (bK (oN Z (mV Z (bK ?_)))))))⟩))))))))
 refine oN Z (fJ Um Z (Ie.calls HS  h17) (fun _ wd18 ⟨h19,HS⟩=>⟨_,h19,(bK (oN Z (GO.quo Z Z Z c20 Z (bK (oN Z (GO.gtr Z Z Z Z (bK (GO.Gq Z Z Z Z Z (nL ?_)))))))))⟩))
 rcases iE H with ⟨c21,H⟩|⟨c21,H⟩
 ·
  refine yB Z (tT c21) (rN 2 Z ?_)
  obtain ⟨rfl,rfl⟩:=H8 H
  exact G.Jr _ _ func104 Z Z Z ⟨Z,HS⟩
 refine nB Z (tF c21) (rN 3 Z ?_)
 obtain ⟨rfl,rfl⟩:=H8 H
 exact G.Jr _ _ func104 Z Z Z ⟨Z,HS⟩
theorem Jw.calls {a_ q:Int} {x r1:Int} (HS:St w0 w (L)) (H:Jw.f a_ q x=some r1) :
   Calls prog 221 #[I a_,I q,I x] w (Jw.post w0 L r1):=by
 unfold Jw.f at H
 refine cG func221 Z ?_
 refine rN 3 Z ?_
 obtain ⟨t1,t2,h3,H⟩:=Cx H
 refine rG (pS 2 Z (fJ sO Z (Jq.calls HS  h3) (fun _ wd4 ⟨h5,HS⟩=>⟨_,h5,(pS 5 Z (nL (rN 3 Z ?_)))⟩)))
 rcases iS H with ⟨c6,H⟩|⟨c6,H⟩
 ·
  refine yB Z (congrArg Bool.not (Cv c6)) (rN 2 Z ?_)
  obtain rfl:=sI H
  exact rT _ func221 Z Z ⟨Z,HS⟩
 refine nB Z (congrArg Bool.not c6) (rN 3 Z ?_)
 obtain rfl:=sI H
 exact rT _ func221 Z Z ⟨Z,HS⟩
theorem J3.calls {y1:Bool} {f1 a1:Int} {d1:List Int} {i j_ x:Int} {c1:Nat} {g1 k1:Value} {s1 x1:Value} {n1 m1:Value} {v1 p1:Value} {t1 q1:Value} {o1 u1:Value} {e1 h1 i1:Value} {r1:Bool} {r2:List Int} (HS:St w0 w (Box c1 124 [g1,k1,s1,x1,n1,m1,v1,p1,t1,q1,o1,u1,e1,h1,i1,.bool y1]::Own (Ac .i64) 2 A_a c_a uu d1::L)) (H:J3.f y1 f1 a1 d1 i j_ x=some (r1,r2)) :
   Calls prog 220 #[pT c1,.agg [I f1,I a1,sV A_a d1 c_a].toArray,I i,I j_,I x] w (J3.post w0 L c1 g1 k1 s1 x1 n1 m1 v1 p1 t1 q1 o1 u1 e1 h1 i1 A_a c_a r1 r2):=by
 unfold J3.f at H
 refine cG func220 Z ?_
 refine sQ (rG (bA HS Z fun b1 wd2 HS=>nL (rN 2 Z ?_)))
 obtain ⟨t3,h4,H⟩:=bI H
 refine rG (mV Z (fJ Um Z (Ie.calls HS  h4) (fun _ wd5 ⟨h6,HS⟩=>⟨_,h6,(GO.gtr Z Z Z Z (nL ?_))⟩)))
 rcases iE H with ⟨c7,H⟩|⟨c7,H⟩
 ·
  refine yB Z (tT c7) (sQ (rG (mV Z (GO.Ew Z Z Z (fL c1 15 Kn Z (GO.K7 (j:=1) (vs:=[.bool true]) ([g1,k1,s1,x1,n1,m1,v1,p1,t1,q1,o1,u1,e1,h1,i1,.bool true]) HS Z Z Z Z Z (htN na4 Z) Z Z Z fun wd8 HS=>nL ?_))))))
  obtain ⟨rfl,rfl⟩:=H8 H
  exact G.yZ func220 Z ⟨Z,(HS.pk 3 [1,2] Z)⟩
 refine nB Z (tF c7) (G.skip ?_)
 obtain ⟨c9,H⟩:=iN H
 refine rG (fL b1 2 Km Z (lB 0 HS Z Ip Z (mV Z (fL b1 1 Gg Z (lB 0 HS Z na2 Z (pS 4 Z (iX Z U26 sz2 (rk (ro 2 Z) HS) c9 (GO.Hl (T:=(Ac .i64)) (j:=2) (n:=(w64 ((w64 (i*a1))+j_)).toNat) (o:=0) (vs:=[I x]) x HS Z Ao Z Z Z Z (htN na2 Z) Z (getD_some (d:=0) (ltN c9)) Z Z fun wd10 HS=>nL ?_))))))))
 replace HS:=HS.G6 (j:=0) (cs':=[I f1,I a1,sV A_a (d1.set ((w64 ((w64 (i*a1))+j_)).toNat) x) c_a]) Z (by simp only [sV,List.length_set]<;>rfl)
 obtain ⟨rfl,rfl⟩:=H8 H
 exact G.K6 func220 Z ⟨Z,(HS.pk 3 [1,2] Z)⟩
theorem Ea.calls {z1:Bool} {c1 d1:Int} {x1:List Int} {i k_ q:Int} {a1:Nat} {f1 i1:Value} {q1 v1:Value} {m1 k1:Value} {u1 o1:Value} {s1 p1:Value} {n1 t1:Value} {e1 g1 h1:Value} {r1:Bool} {r2:List Int} (HS:St w0 w (Box a1 124 [f1,i1,q1,v1,m1,k1,u1,o1,s1,p1,n1,t1,e1,g1,h1,.bool z1]::Own (Ac .i64) 2 A_a c_a uu x1::L)) (H:Ea.f K z1 c1 d1 x1 i k_ q=some (r1,r2)) :
   Calls prog 203 #[pT a1,.agg [I c1,I d1,sV A_a x1 c_a].toArray,I i,I k_,I q] w (Ea.post w0 L a1 f1 i1 q1 v1 m1 k1 u1 o1 s1 p1 n1 t1 e1 g1 h1 A_a c_a r1 r2):=by
 unfold Ea.f at H
 refine cG func203 Z ?_
 refine sQ (rG (bA HS Z fun b1 wd2 HS=>nL (rN 4 Z ?_)))
 refine G.name (fun b2 d2=>?_)
 have e2:∀ a2,a2≤K→∀ (x24:Bool) (x25:List Int) (y1:Int) (w:World),Ea.l1 K a2 c1 d1 i k_ q x24 x25 y1=some (r1,r2)→St w0 w (Box a1 124 [f1,i1,q1,v1,m1,k1,u1,o1,s1,p1,n1,t1,e1,g1,h1,.bool x24]::Own (Ac .i64) 2 A_a c_a uu x25::Box b1 57 [I c1,I d1,sV A_a x25 c_a]::L)→G prog 203 39 [(0,pT a1),(2,I i),(3,I k_),(4,I q),(6,pT b1),(10,I y1)] b2 w (Ea.post w0 L a1 f1 i1 q1 v1 m1 k1 u1 o1 s1 p1 n1 t1 e1 g1 h1 A_a c_a r1 r2):=by
  refine lp (fun _ _ _ w H _=>by rw [Ea.l1] at H; cases H) fun c2 g2 f2 x24 x25 y1 w H HS=>?_
  rw [Ea.l1] at H
  subst d2
  refine rN 2 Z ?_
  rcases iS H with ⟨c49,H⟩|⟨c49,H⟩
  ·
   refine rG (mV Z (fL b1 1 Gg Z (lB 2 HS Z na2 Z (pS 2 Z (kN 15 Z (tF c49) (oF Z (oF Z (oF Z (oF Z (oF Z (GO.Iw Z Z Z Z Z (nL (rN 2 Z ?_)))))))))))))
   obtain ⟨rfl,rfl⟩:=H8 H
   exact G.K6 func203 Z ⟨Z,(HS.pk 3 [0,1] Z)⟩
  refine rG (mV Z (fL b1 1 Gg Z (lB 2 HS Z na2 Z (pS 2 Z (kN 15 Z (tT c49) (oN Z (mV Z (bK (oN Z (GO.Ew Z Z Z (bK (oN Z (fL a1 15 Kn Z (bK ?_))))))))))))))
  refine oN Z (lB 0 HS Z na4 Z (bK (oN Z (GO.not Z Z Z (bK (GO.Gq Z Z Z Z Z (nL ?_)))))))
  rcases iE H with ⟨c50,H⟩|⟨c50,H⟩
  ·
   refine nB Z (congrArg Bool.not c50) (G.exit Z ?_)
   obtain ⟨rfl,rfl⟩:=H8 H
   exact G.K6 func203 Z ⟨Z,(HS.pk 3 [0,1] Z)⟩
  refine yB Z (congrArg Bool.not (Cv c50)) (rN 3 Z ?_)
  obtain ⟨t51,h52,H⟩:=bI H
  obtain ⟨t55,h56,H⟩:=bI H
  obtain ⟨t59,h60,H⟩:=bI H
  obtain ⟨t63,t64,h65,H⟩:=Cx H
  obtain ⟨c66,H⟩:=iN H
  refine G.Jk mixed (fun w=>St w0 w (Box b1 57 [I c1,I d1,sV A_a x25 c_a]::L)) [1,4,9] [0,2,3,5,6,8,10,11,1,4,9,7,12,13,14] [] (by kernel_rfl) (by kernel_rfl) (HS.drew.pk 3 [2] Z) ?_
  replace HS:=HS.drew
  refine GX.ps 8 Z (GX.ls Z Z Z (HS.pk 3 [2] Z) (fun _ HS _ g=>lW 0 HS Z Fx g) Z (GX.ls Z Z Z (HS.pk 3 [2] Z) (fun _ HS _ g=>lW 0 HS Z Fx g) Z (GX.ls Z Z Z (HS.pk 3 [2] Z) (fun _ HS _ g=>lW 0 HS Z Fx g) Z (GX.l2 Z (fJ Kg Z (Cy.calls HS (ro 1 Z) h52) (fun _ wd53 ⟨h54,HS⟩=>⟨_,h54,(GX.fin (HS.pk 3 [2] Z) (GX.l2 Z (fJ Kg Z (Cy.calls HS (ro 1 Z) h56) (fun _ wd57 ⟨h58,HS⟩=>⟨_,h58,(GX.fin (HS.pk 3 [2] Z) (GX.l2 Z (fJ kC Z (Jw.calls HS  h60) (fun _ wd61 ⟨h62,HS⟩=>⟨_,h62,(GX.fin (HS.pk 3 [2] Z) (GX.l2 Z ?_))⟩))))⟩))))⟩))))))
  replace HS:=HS.pk 3 [0,1,2] Z
  refine fJ lK Z (J3.calls HS  h65) (fun _ wd67 ⟨h68,HS⟩=>⟨_,h68,(GX.fin (HS.pk 3 [2] Z) (GX.nil ?_))⟩)
  replace HS:=HS.G6 (j:=2) (cs':=[I c1,I d1,sV A_a t64 c_a]) Z (by simp only [sV,List.length_set,c66]<;>rfl)
  refine rN 3 Z (gW (f2 c2 (lR _) _ _ _ _ H HS) Z)
 exact gW (e2 K (lR _) _ _ _ _ H (HS.pk 3 [1,2,0] Z)) Z
theorem Dg.calls {z1:Bool} {c1 d1:Int} {y1:List Int} {j_ k_ q:Int} {a1:Nat} {f1 i1:Value} {q1 v1:Value} {m1 k1:Value} {u1 o1:Value} {s1 p1:Value} {n1 t1:Value} {e1 g1 h1:Value} {r1:Bool} {r2:List Int} (HS:St w0 w (Box a1 124 [f1,i1,q1,v1,m1,k1,u1,o1,s1,p1,n1,t1,e1,g1,h1,.bool z1]::Own (Ac .i64) 2 A_a c_a uu y1::L)) (H:Dg.f K z1 c1 d1 y1 j_ k_ q=some (r1,r2)) :
   Calls prog 204 #[pT a1,.agg [I c1,I d1,sV A_a y1 c_a].toArray,I j_,I k_,I q] w (Dg.post w0 L a1 f1 i1 q1 v1 m1 k1 u1 o1 s1 p1 n1 t1 e1 g1 h1 A_a c_a r1 r2):=by
 unfold Dg.f at H
 refine cG func204 Z ?_
 refine sQ (rG (bA HS Z fun b1 wd2 HS=>nL (rN 4 Z ?_)))
 refine G.name (fun b2 d2=>?_)
 have e2:∀ a2,a2≤K→∀ (x24:Bool) (x25:List Int) (x1:Int) (w:World),Dg.l1 K a2 c1 d1 j_ k_ q x24 x25 x1=some (r1,r2)→St w0 w (Box a1 124 [f1,i1,q1,v1,m1,k1,u1,o1,s1,p1,n1,t1,e1,g1,h1,.bool x24]::Own (Ac .i64) 2 A_a c_a uu x25::Box b1 57 [I c1,I d1,sV A_a x25 c_a]::L)→G prog 204 39 [(0,pT a1),(2,I j_),(3,I k_),(4,I q),(6,pT b1),(10,I x1)] b2 w (Dg.post w0 L a1 f1 i1 q1 v1 m1 k1 u1 o1 s1 p1 n1 t1 e1 g1 h1 A_a c_a r1 r2):=by
  refine lp (fun _ _ _ w H _=>by rw [Dg.l1] at H; cases H) fun c2 g2 f2 x24 x25 x1 w H HS=>?_
  rw [Dg.l1] at H
  subst d2
  refine rN 2 Z ?_
  rcases iS H with ⟨c49,H⟩|⟨c49,H⟩
  ·
   refine rG (mV Z (fL b1 0 Im Z (lB 2 HS Z na2 Z (pS 2 Z (kN 15 Z (tF c49) (oF Z (oF Z (oF Z (oF Z (oF Z (GO.Iw Z Z Z Z Z (nL (rN 2 Z ?_)))))))))))))
   obtain ⟨rfl,rfl⟩:=H8 H
   exact G.K6 func204 Z ⟨Z,(HS.pk 3 [0,1] Z)⟩
  refine rG (mV Z (fL b1 0 Im Z (lB 2 HS Z na2 Z (pS 2 Z (kN 15 Z (tT c49) (oN Z (mV Z (bK (oN Z (GO.Ew Z Z Z (bK (oN Z (fL a1 15 Kn Z (bK ?_))))))))))))))
  refine oN Z (lB 0 HS Z na4 Z (bK (oN Z (GO.not Z Z Z (bK (GO.Gq Z Z Z Z Z (nL ?_)))))))
  rcases iE H with ⟨c50,H⟩|⟨c50,H⟩
  ·
   refine nB Z (congrArg Bool.not c50) (G.exit Z ?_)
   obtain ⟨rfl,rfl⟩:=H8 H
   exact G.K6 func204 Z ⟨Z,(HS.pk 3 [0,1] Z)⟩
  refine yB Z (congrArg Bool.not (Cv c50)) (rN 3 Z ?_)
  obtain ⟨t51,h52,H⟩:=bI H
  obtain ⟨t55,h56,H⟩:=bI H
  obtain ⟨t59,h60,H⟩:=bI H
  obtain ⟨t63,t64,h65,H⟩:=Cx H
  obtain ⟨c66,H⟩:=iN H
  refine G.Jk mixed (fun w=>St w0 w (Box b1 57 [I c1,I d1,sV A_a x25 c_a]::L)) [1,4,9] [0,2,3,5,6,8,10,11,1,4,9,7,12,13,14] [] (by kernel_rfl) (by kernel_rfl) (HS.drew.pk 3 [2] Z) ?_
  replace HS:=HS.drew
  refine GX.ps 8 Z (GX.ls Z Z Z (HS.pk 3 [2] Z) (fun _ HS _ g=>lW 0 HS Z Fx g) Z (GX.ls Z Z Z (HS.pk 3 [2] Z) (fun _ HS _ g=>lW 0 HS Z Fx g) Z (GX.ls Z Z Z (HS.pk 3 [2] Z) (fun _ HS _ g=>lW 0 HS Z Fx g) Z (GX.l2 Z (fJ Kg Z (Cy.calls HS (ro 1 Z) h52) (fun _ wd53 ⟨h54,HS⟩=>⟨_,h54,(GX.fin (HS.pk 3 [2] Z) (GX.l2 Z (fJ Kg Z (Cy.calls HS (ro 1 Z) h56) (fun _ wd57 ⟨h58,HS⟩=>⟨_,h58,(GX.fin (HS.pk 3 [2] Z) (GX.l2 Z (fJ kC Z (Jw.calls HS  h60) (fun _ wd61 ⟨h62,HS⟩=>⟨_,h62,(GX.fin (HS.pk 3 [2] Z) (GX.l2 Z ?_))⟩))))⟩))))⟩))))))
  replace HS:=HS.pk 3 [0,1,2] Z
  refine fJ lK Z (J3.calls HS  h65) (fun _ wd67 ⟨h68,HS⟩=>⟨_,h68,(GX.fin (HS.pk 3 [2] Z) (GX.nil ?_))⟩)
  replace HS:=HS.G6 (j:=2) (cs':=[I c1,I d1,sV A_a t64 c_a]) Z (by simp only [sV,List.length_set,c66]<;>rfl)
  refine rN 3 Z (gW (f2 c2 (lR _) _ _ _ _ H HS) Z)
 exact gW (e2 K (lR _) _ _ _ _ H (HS.pk 3 [1,2,0] Z)) Z
theorem I5.calls {i1 d1:Int} {t1:List Int} {g1 e1:Int} {s1:List Int} {b1 h1:Int} {p1:List Int} {k1 q1:Int} {f1:List Int} {m1 o1:Int} {a1:List Int} {u1:Bool} {i k_ q:Int} {n1:Nat} {r1:Bool} {r2 r3 r4:List Int} (HS:St w0 w (Box n1 124 [I i1,I d1,sV A_a t1 c_a,I g1,I e1,sV A_b s1 c_b,I b1,I h1,sV A_c p1 c_c,I k1,I q1,sV A_d f1 c_d,I m1,I o1,sV A_e a1 c_e,.bool u1]::Own (Ac .i64) 2 A_a c_a uu t1::Own (Ac .i64) 2 A_b c_b uu s1::Own (Ac .i64) 2 A_c c_c uu p1::L)) (r_d:Bv w0 L (Ac .i64) A_d c_d uu f1) (r_e:Bv w0 L (Ac .i64) A_e c_e uu a1) (H:I5.f K i1 d1 t1 g1 e1 s1 b1 h1 p1 k1 q1 f1 m1 o1 a1 u1 i k_ q=some (r1,r2,r3,r4)) :
   Calls prog 182 #[pT n1,I i,I k_,I q] w (I5.post w0 L i1 d1 g1 e1 b1 h1 k1 q1 f1 m1 o1 a1 n1 A_a c_a A_b c_b A_c c_c A_d c_d A_e c_e r1 r2 r3 r4):=by
 unfold I5.f at H
 refine cG func182 Z ?_
 refine rN 2 Z ?_
 rcases iE H with ⟨c1,H⟩|⟨c1,H⟩
 ·
  refine nB Z (nT c1) (G.skip ?_)
  obtain ⟨rfl,rfl,rfl,rfl⟩:=Sl H
  exact G.K6 func182 Z ⟨Z,HS⟩
 refine yB Z (nF c1) (sQ ?_)
 obtain ⟨t2,t3,h4,H⟩:=Cx H
 obtain ⟨c5,H⟩:=iN H
 refine rG (pS 2 Z (GO.Ew Z Z Z (fL n1 0 Ia Z (GO.Gc (j:=0) ([I i1,I d1,sV A_a t1 c_a]) HS Z Z Z Z Fx Z (pS 3 Z ?_)))))
 replace HS:=HS.pk 4 [0,1,2,3] Z
 refine fJ bW Z (Ea.calls HS  h4) (fun _ wd6 ⟨h7,HS⟩=>⟨_,h7,(nL ?_)⟩)
 replace HS:=HS.G6 (j:=0) (cs':=[I i1,I d1,sV A_a t3 c_a,I g1,I e1,sV A_b s1 c_b,I b1,I h1,sV A_c p1 c_c,I k1,I q1,sV A_d f1 c_d,I m1,I o1,sV A_e a1 c_e,.bool t2]) Z (by simp only [sV,List.length_set,c5]<;>rfl)
 refine sQ ?_
 obtain ⟨t8,t9,h10,H⟩:=Cx H
 obtain ⟨c11,H⟩:=iN H
 refine rG (pS 2 Z (GO.Ew Z Z Z (fL n1 3 Qb Z (GO.Gc (j:=0) ([I g1,I e1,sV A_b s1 c_b]) HS Z Z Z Z Fx Z (pS 3 Z ?_)))))
 replace HS:=HS.pk 4 [0,2,1,3] Z
 refine fJ bW Z (Ea.calls HS  h10) (fun _ wd12 ⟨h13,HS⟩=>⟨_,h13,(nL ?_)⟩)
 replace HS:=HS.G6 (j:=0) (cs':=[I i1,I d1,sV A_a t3 c_a,I g1,I e1,sV A_b t9 c_b,I b1,I h1,sV A_c p1 c_c,I k1,I q1,sV A_d f1 c_d,I m1,I o1,sV A_e a1 c_e,.bool t8]) Z (by simp only [sV,List.length_set,c11]<;>rfl)
 obtain ⟨t14,t15,h16,H⟩:=Cx H
 obtain ⟨c17,H⟩:=iN H
 refine rG (pS 2 Z (GO.Ew Z Z Z (fL n1 6 Rm Z (GO.Gc (j:=0) ([I b1,I h1,sV A_c p1 c_c]) HS Z Z Z Z Fx Z (pS 3 Z (GO.neg Z Z Z ?_))))))
 replace HS:=HS.pk 4 [0,3,1,2] Z
 refine fJ aX Z (Dg.calls HS  h16) (fun _ wd18 ⟨h19,HS⟩=>⟨_,h19,(nL ?_)⟩)
 replace HS:=HS.G6 (j:=0) (cs':=[I i1,I d1,sV A_a t3 c_a,I g1,I e1,sV A_b t9 c_b,I b1,I h1,sV A_c t15 c_c,I k1,I q1,sV A_d f1 c_d,I m1,I o1,sV A_e a1 c_e,.bool t14]) Z (by simp only [sV,List.length_set,c17]<;>rfl)
 obtain ⟨rfl,rfl,rfl,rfl⟩:=Sl H
 exact G.K6 func182 Z ⟨Z,(HS.pk 4 [0,3,2,1] Z)⟩
theorem Iu.calls {i1 d1:Int} {t1:List Int} {p1 o1:Int} {f1:List Int} {n1 q1:Int} {g1:List Int} {a1 h1:Int} {s1:List Int} {b1 e1:Int} {k1:List Int} {u1:Bool} {j_ k_ q:Int} {m1:Nat} {r1:Bool} {r2 r3 r4:List Int} (HS:St w0 w (Box m1 124 [I i1,I d1,sV A_a t1 c_a,I p1,I o1,sV A_b f1 c_b,I n1,I q1,sV A_c g1 c_c,I a1,I h1,sV A_d s1 c_d,I b1,I e1,sV A_e k1 c_e,.bool u1]::Own (Ac .i64) 2 A_a c_a uu t1::Own (Ac .i64) 2 A_d c_d uu s1::Own (Ac .i64) 2 A_e c_e uu k1::L)) (r_b:Bv w0 L (Ac .i64) A_b c_b uu f1) (r_c:Bv w0 L (Ac .i64) A_c c_c uu g1) (H:Iu.f K i1 d1 t1 p1 o1 f1 n1 q1 g1 a1 h1 s1 b1 e1 k1 u1 j_ k_ q=some (r1,r2,r3,r4)) :
   Calls prog 184 #[pT m1,I j_,I k_,I q] w (Iu.post w0 L i1 d1 p1 o1 f1 n1 q1 g1 a1 h1 b1 e1 m1 A_a c_a A_b c_b A_c c_c A_d c_d A_e c_e r1 r2 r3 r4):=by
 unfold Iu.f at H
 refine cG func184 Z ?_
 refine rN 2 Z ?_
 rcases iE H with ⟨c1,H⟩|⟨c1,H⟩
 ·
  refine nB Z (nT c1) (G.skip ?_)
  obtain ⟨rfl,rfl,rfl,rfl⟩:=Sl H
  exact G.K6 func184 Z ⟨Z,HS⟩
 refine yB Z (nF c1) (sQ ?_)
 obtain ⟨t2,t3,h4,H⟩:=Cx H
 obtain ⟨c5,H⟩:=iN H
 refine rG (pS 2 Z (GO.Ew Z Z Z (fL m1 0 Ia Z (GO.Gc (j:=0) ([I i1,I d1,sV A_a t1 c_a]) HS Z Z Z Z Fx Z (pS 3 Z ?_)))))
 replace HS:=HS.pk 4 [0,1,2,3] Z
 refine fJ aX Z (Dg.calls HS  h4) (fun _ wd6 ⟨h7,HS⟩=>⟨_,h7,(nL ?_)⟩)
 replace HS:=HS.G6 (j:=0) (cs':=[I i1,I d1,sV A_a t3 c_a,I p1,I o1,sV A_b f1 c_b,I n1,I q1,sV A_c g1 c_c,I a1,I h1,sV A_d s1 c_d,I b1,I e1,sV A_e k1 c_e,.bool t2]) Z (by simp only [sV,List.length_set,c5]<;>rfl)
 refine sQ ?_
 obtain ⟨t8,t9,h10,H⟩:=Cx H
 obtain ⟨c11,H⟩:=iN H
 refine rG (pS 2 Z (GO.Ew Z Z Z (fL m1 9 dO Z (GO.Gc (j:=0) ([I a1,I h1,sV A_d s1 c_d]) HS Z Z Z Z Fx Z (pS 3 Z ?_)))))
 replace HS:=HS.pk 4 [0,2,1,3] Z
 refine fJ aX Z (Dg.calls HS  h10) (fun _ wd12 ⟨h13,HS⟩=>⟨_,h13,(nL ?_)⟩)
 replace HS:=HS.G6 (j:=0) (cs':=[I i1,I d1,sV A_a t3 c_a,I p1,I o1,sV A_b f1 c_b,I n1,I q1,sV A_c g1 c_c,I a1,I h1,sV A_d t9 c_d,I b1,I e1,sV A_e k1 c_e,.bool t8]) Z (by simp only [sV,List.length_set,c11]<;>rfl)
 obtain ⟨t14,t15,h16,H⟩:=Cx H
 obtain ⟨c17,H⟩:=iN H
 refine rG (pS 2 Z (GO.Ew Z Z Z (fL m1 12 fA Z (GO.Gc (j:=0) ([I b1,I e1,sV A_e k1 c_e]) HS Z Z Z Z Fx Z (pS 3 Z (GO.neg Z Z Z ?_))))))
 replace HS:=HS.pk 4 [0,3,1,2] Z
 refine fJ bW Z (Ea.calls HS  h16) (fun _ wd18 ⟨h19,HS⟩=>⟨_,h19,(nL ?_)⟩)
 replace HS:=HS.G6 (j:=0) (cs':=[I i1,I d1,sV A_a t3 c_a,I p1,I o1,sV A_b f1 c_b,I n1,I q1,sV A_c g1 c_c,I a1,I h1,sV A_d t9 c_d,I b1,I e1,sV A_e t15 c_e,.bool t14]) Z (by simp only [sV,List.length_set,c17]<;>rfl)
 obtain ⟨rfl,rfl,rfl,rfl⟩:=Sl H
 exact G.K6 func184 Z ⟨Z,(HS.pk 4 [0,3,2,1] Z)⟩
theorem Dv.calls {d1 c1:Int} {b1:List Int} {s1 q1:Int} {g1:List Int} {t1 m1:Int} {h1:List Int} {i1 p1:Int} {e1:List Int} {k1 o1:Int} {f1:List Int} {n1:Bool} {k_:Int} {a1:Nat} {r1:Bool} (HS:St w0 w (Box a1 124 [I d1,I c1,sV A_a b1 c_a,I s1,I q1,sV A_b g1 c_b,I t1,I m1,sV A_c h1 c_c,I i1,I p1,sV A_d e1 c_d,I k1,I o1,sV A_e f1 c_e,.bool n1]::L)) (r_a:Bv w0 L (Ac .i64) A_a c_a uu b1) (r_b:Bv w0 L (Ac .i64) A_b c_b uu g1) (r_c:Bv w0 L (Ac .i64) A_c c_c uu h1) (r_d:Bv w0 L (Ac .i64) A_d c_d uu e1) (r_e:Bv w0 L (Ac .i64) A_e c_e uu f1) (H:Dv.f K d1 c1 b1 s1 q1 g1 t1 m1 h1 i1 p1 e1 k1 o1 f1 n1 k_=some r1) :
   Calls prog 185 #[pT a1,I k_] w (Dv.post w0 L d1 c1 b1 s1 q1 g1 t1 m1 h1 i1 p1 e1 k1 o1 f1 n1 a1 A_a c_a A_b c_b A_c c_c A_d c_d A_e c_e r1):=by
 unfold Dv.f at H
 refine cG func185 Z ?_
 refine rN 7 Z ?_
 refine G.name (fun d2 g2=>?_)
 have h2:∀ y1,y1≤K→∀ (u1:Int) (w:World),Dv.l1 K y1 d1 c1 b1 k_ u1=some r1→St w0 w (Box a1 124 [I d1,I c1,sV A_a b1 c_a,I s1,I q1,sV A_b g1 c_b,I t1,I m1,sV A_c h1 c_c,I i1,I p1,sV A_d e1 c_d,I k1,I o1,sV A_e f1 c_e,.bool n1]::L)→G prog 185 45 [(0,pT a1),(1,I k_),(5,I u1)] d2 w (Dv.post w0 L d1 c1 b1 s1 q1 g1 t1 m1 h1 i1 p1 e1 k1 o1 f1 n1 a1 A_a c_a A_b c_b A_c c_c A_d c_d A_e c_e r1):=by
  refine lp (fun _ w H _=>by rw [Dv.l1] at H; cases H) fun x1 k2 i2 u1 w H HS=>?_
  rw [Dv.l1] at H
  subst g2
  refine rN 2 Z (rG (pS 2 Z (GO.Ew Z Z Z (fL a1 0 Ia Z (fL a1 0 Im Z (lB 0 HS Z na2 Z (GO.lss Z Z Z Z (nL ?_))))))))
  rcases iE H with ⟨c52,H⟩|⟨c52,H⟩
  ·
   refine yB Z (tT c52) (rN 4 Z ?_)
   obtain ⟨t53,h54,H⟩:=bI H
   refine rG (mV Z (GO.Ew Z Z Z (fL a1 0 Ia Z (GO.Gc (j:=0) ([I d1,I c1,sV A_a b1 c_a]) HS Z Z Z Z Fx Z (pS 2 Z (fJ Kg Z (Cy.calls HS (rD 1 r_a) h54) (fun _ wd55 ⟨h56,HS⟩=>⟨_,h56,(GO.neq Z Z Z Z (nL ?_))⟩)))))))
   rcases iS H with ⟨c57,H⟩|⟨c57,H⟩
   ·
    refine yB Z (nF c57) (rN 2 Z ?_)
    obtain rfl:=sI H
    exact rT _ func185 Z Z ⟨Z,HS⟩
   refine nB Z (nT c57) (rN 4 Z (gW (i2 x1 (lR _) _ _ H HS) Z))
  refine nB Z (tF c52) (rN 6 Z ?_)
  refine G.name (fun f2 c2=>?_)
  have a2:∀ z1,z1≤x1→∀ (v1:Int) (w:World),Dv.l4 K z1 d1 c1 b1 k_ v1=some r1→St w0 w (Box a1 124 [I d1,I c1,sV A_a b1 c_a,I s1,I q1,sV A_b g1 c_b,I t1,I m1,sV A_c h1 c_c,I i1,I p1,sV A_d e1 c_d,I k1,I o1,sV A_e f1 c_e,.bool n1]::L)→G prog 185 45 [(0,pT a1),(1,I k_),(6,I v1)] f2 w (Dv.post w0 L d1 c1 b1 s1 q1 g1 t1 m1 h1 i1 p1 e1 k1 o1 f1 n1 a1 A_a c_a A_b c_b A_c c_c A_d c_d A_e c_e r1):=by
   refine lp (fun _ w H _=>by rw [Dv.l4] at H; cases H) fun b2 j2 e2 v1 w H HS=>?_
   rw [Dv.l4] at H
   subst c2
   refine rN 2 Z (rG (pS 2 Z (GO.Ew Z Z Z (fL a1 0 Ia Z (fL a1 1 Gg Z (lB 0 HS Z na2 Z (GO.lss Z Z Z Z (nL ?_))))))))
   rcases iS H with ⟨c71,H⟩|⟨c71,H⟩
   ·
    refine nB Z (tF c71) (rN 3 Z ?_)
    obtain rfl:=sI H
    exact rT _ func185 Z Z ⟨Z,HS⟩
   refine yB Z (tT c71) (rN 4 Z ?_)
   obtain ⟨t72,h73,H⟩:=bI H
   refine rG (mV Z (GO.Ew Z Z Z (fL a1 0 Ia Z (GO.Gc (j:=0) ([I d1,I c1,sV A_a b1 c_a]) HS Z Z Z Z Fx Z (pS 2 Z (fJ Kg Z (Cy.calls HS (rD 1 r_a) h73) (fun _ wd74 ⟨h75,HS⟩=>⟨_,h75,(GO.neq Z Z Z Z (nL ?_))⟩)))))))
   rcases iS H with ⟨c76,H⟩|⟨c76,H⟩
   ·
    refine yB Z (nF c76) (rN 2 Z ?_)
    obtain rfl:=sI H
    exact rT _ func185 Z Z ⟨Z,HS⟩
   refine nB Z (nT c76) (rN 4 Z (gW (e2 b2 (lR _) _ _ H HS) Z))
  exact gW (a2 x1 (lR _) _ _ H HS) Z
 exact gW (h2 K (lR _) _ _ H HS) Z
theorem Dy.calls {d1 c1:Int} {b1:List Int} {s1 q1:Int} {g1:List Int} {t1 m1:Int} {h1:List Int} {i1 p1:Int} {e1:List Int} {k1 o1:Int} {f1:List Int} {n1:Bool} {k_:Int} {a1:Nat} {r1:Int} (HS:St w0 w (Box a1 124 [I d1,I c1,sV A_a b1 c_a,I s1,I q1,sV A_b g1 c_b,I t1,I m1,sV A_c h1 c_c,I i1,I p1,sV A_d e1 c_d,I k1,I o1,sV A_e f1 c_e,.bool n1]::L)) (r_a:Bv w0 L (Ac .i64) A_a c_a uu b1) (r_b:Bv w0 L (Ac .i64) A_b c_b uu g1) (r_c:Bv w0 L (Ac .i64) A_c c_c uu h1) (r_d:Bv w0 L (Ac .i64) A_d c_d uu e1) (r_e:Bv w0 L (Ac .i64) A_e c_e uu f1) (H:Dy.f K d1 c1 b1 s1 q1 g1 t1 m1 h1 i1 p1 e1 k1 o1 f1 n1 k_=some r1) :
   Calls prog 186 #[pT a1,I k_] w (Dy.post w0 L d1 c1 b1 s1 q1 g1 t1 m1 h1 i1 p1 e1 k1 o1 f1 n1 a1 A_a c_a A_b c_b A_c c_c A_d c_d A_e c_e r1):=by
 unfold Dy.f at H
 refine cG func186 Z ?_
 refine rN 7 Z ?_
 refine G.name (fun e2 h2=>?_)
 have i2:∀ y1,y1≤K→∀ (u1:Int) (w:World),Dy.l1 K y1 d1 c1 b1 k_ u1=some r1→St w0 w (Box a1 124 [I d1,I c1,sV A_a b1 c_a,I s1,I q1,sV A_b g1 c_b,I t1,I m1,sV A_c h1 c_c,I i1,I p1,sV A_d e1 c_d,I k1,I o1,sV A_e f1 c_e,.bool n1]::L)→G prog 186 46 [(0,pT a1),(1,I k_),(5,I u1)] e2 w (Dy.post w0 L d1 c1 b1 s1 q1 g1 t1 m1 h1 i1 p1 e1 k1 o1 f1 n1 a1 A_a c_a A_b c_b A_c c_c A_d c_d A_e c_e r1):=by
  refine lp (fun _ w H _=>by rw [Dy.l1] at H; cases H) fun z1 k2 j2 u1 w H HS=>?_
  rw [Dy.l1] at H
  subst h2
  refine rN 2 Z (rG (pS 2 Z (GO.Ew Z Z Z (fL a1 0 Ia Z (fL a1 0 Im Z (lB 0 HS Z na2 Z (GO.lss Z Z Z Z (nL ?_))))))))
  rcases iS H with ⟨c72,H⟩|⟨c72,H⟩
  ·
   refine nB Z (tF c72) (rN 3 Z ?_)
   obtain rfl:=sI H
   exact rT _ func186 Z Z ⟨Z,HS⟩
  refine yB Z (tT c72) (rN 7 Z ?_)
  refine G.name (fun g2 d2=>?_)
  have b2:∀ a2,a2≤z1→∀ (v1:Int) (w:World),Dy.l4 K a2 d1 c1 b1 k_ u1 v1=some r1→St w0 w (Box a1 124 [I d1,I c1,sV A_a b1 c_a,I s1,I q1,sV A_b g1 c_b,I t1,I m1,sV A_c h1 c_c,I i1,I p1,sV A_d e1 c_d,I k1,I o1,sV A_e f1 c_e,.bool n1]::L)→G prog 186 46 [(0,pT a1),(1,I k_),(5,I u1),(6,I v1)] g2 w (Dy.post w0 L d1 c1 b1 s1 q1 g1 t1 m1 h1 i1 p1 e1 k1 o1 f1 n1 a1 A_a c_a A_b c_b A_c c_c A_d c_d A_e c_e r1):=by
   refine lp (fun _ w H _=>by rw [Dy.l4] at H; cases H) fun x1 c2 f2 v1 w H HS=>?_
   rw [Dy.l4] at H
   subst d2
   refine rN 2 Z (rG (pS 2 Z (GO.Ew Z Z Z (fL a1 0 Ia Z (fL a1 1 Gg Z (lB 0 HS Z na2 Z (GO.lss Z Z Z Z (nL ?_))))))))
   rcases iS H with ⟨c96,H⟩|⟨c96,H⟩
   ·
    refine nB Z (tF c96) (rN 4 Z (gW (j2 x1 (Nat.le_of_succ_le c2) _ _ H HS) Z))
   refine yB Z (tT c96) (rN 4 Z ?_)
   obtain ⟨t97,h98,H⟩:=bI H
   obtain ⟨t101,h102,H⟩:=bI H
   obtain ⟨c105,H⟩:=Ll H
   refine G.Jk mixed (fun w=>St w0 w (Box a1 124 [I d1,I c1,sV A_a b1 c_a,I s1,I q1,sV A_b g1 c_b,I t1,I m1,sV A_c h1 c_c,I i1,I p1,sV A_d e1 c_d,I k1,I o1,sV A_e f1 c_e,.bool n1]::L)) [3,10] [0,1,2,4,5,7,8,9,11,12,3,10,6,13,14,15] [] (by kernel_rfl) (by kernel_rfl) HS.drew ?_
   replace HS:=HS.drew
   refine GX.ps 1 Z (qL Z Z (fun _ _ g=>GO.Ew Z Z Z g) Z (qL Z Z (fun _ _ g=>fL a1 0 Ia Z g) Z (GX.ps 3 Z (qL Z Z (fun _ _ g=>GO.Ew Z Z Z g) Z (qL Z Z (fun _ _ g=>fL a1 0 Ia Z g) Z (GX.ps 2 Z (GX.ls Z Z Z HS (fun _ HS _ g=>GO.Gc (j:=0) ([I d1,I c1,sV A_a b1 c_a]) HS Z Z Z Z Fx Z g) Z (GX.ls Z Z Z HS (fun _ HS _ g=>GO.Gc (j:=0) ([I d1,I c1,sV A_a b1 c_a]) HS Z Z Z Z Fx Z g) Z (GX.l2 Z (fJ Kg Z (Cy.calls HS (rD 1 r_a) h98) (fun _ wd99 ⟨h100,HS⟩=>⟨_,h100,(GX.fin HS (GX.l2 Z (fJ Kg Z (Cy.calls HS (rD 1 r_a) h102) (fun _ wd103 ⟨h104,HS⟩=>⟨_,h104,(GX.fin HS ?_)⟩))))⟩)))))))))))
   refine qL Z Z (fun _ _ g=>GO.rem Z Z Z c105 Z g) Z (GX.ps 1 Z (GX.nil ?_))
   rcases iS H with ⟨c106,H⟩|⟨c106,H⟩
   ·
    refine yB Z (nF c106) (rN 2 Z ?_)
    obtain rfl:=sI H
    exact rT _ func186 Z Z ⟨Z,HS⟩
   refine nB Z (nT c106) (rN 4 Z (gW (f2 x1 (lR _) _ _ H HS) Z))
  exact gW (b2 z1 (lR _) _ _ H HS) Z
 exact gW (i2 K (lR _) _ _ H HS) Z
theorem Ci.calls {c1 b1:Int} {o1:List Int} {k1 i1:Int} {u1:List Int} {m1 f1:Int} {x1:List Int} {d1 h1:Int} {p1:List Int} {e1 g1:Int} {s1:List Int} {z1:Bool} {k_:Int} {a1:Nat} {r1 r2 r3:Bool} {r4 r5:List Int} {r6 r7 r8:List Int} (HS:St w0 w (Box a1 124 [I c1,I b1,sV A_a o1 c_a,I k1,I i1,sV A_b u1 c_b,I m1,I f1,sV A_c x1 c_c,I d1,I h1,sV A_d p1 c_d,I e1,I g1,sV A_e s1 c_e,.bool z1]::Own (Ac .i64) 2 A_a c_a uu o1::Own (Ac .i64) 2 A_b c_b uu u1::Own (Ac .i64) 2 A_c c_c uu x1::Own (Ac .i64) 2 A_d c_d uu p1::Own (Ac .i64) 2 A_e c_e uu s1::L)) (H:Ci.f K c1 b1 o1 k1 i1 u1 m1 f1 x1 d1 h1 p1 e1 g1 s1 z1 k_=some (r1,r2,r3,r4,r5,r6,r7,r8)) :
   Calls prog 147 #[pT a1,I k_] w (Ci.post w0 L c1 b1 k1 i1 m1 f1 d1 h1 e1 g1 a1 A_a c_a A_b c_b A_c c_c A_d c_d A_e c_e r1 r2 r3 r4 r5 r6 r7 r8):=by
 unfold Ci.f at H
 refine cG func147 Z ?_
 refine rN 4 Z ?_
 obtain ⟨t1,t2,t3,t4,t5,t6,h7,H⟩:=Ou H
 obtain ⟨c8,H⟩:=iN H
 obtain ⟨c9,H⟩:=iN H
 obtain ⟨c10,H⟩:=iN H
 obtain ⟨c11,H⟩:=iN H
 obtain ⟨c12,H⟩:=iN H
 refine rG (pS 2 Z ?_)
 replace HS:=HS.pk 6 [0,1,2,3,4,5] Z
 refine fJ sK Z (Bn.calls HS  h7) (fun _ wd13 ⟨h14,HS⟩=>⟨_,h14,(GO.not Z Z Z (nL ?_))⟩)
 rcases iS H with ⟨c15,H⟩|⟨c15,H⟩
 ·
  refine yB Z (congrArg Bool.not (Cv c15)) (rN 2 Z ?_)
  obtain ⟨rfl,rfl,rfl,rfl,rfl,rfl,rfl,rfl⟩:=Sn H
  exact G.Jr _ _ func147 Z Z Z ⟨Z,HS⟩
 refine nB Z (congrArg Bool.not c15) (rN 6 Z ?_)
 refine G.name (fun c2 k2=>?_)
 have n2:∀ a2,a2≤K→∀ (x203 x204 x205:List Int) (x206:Bool) (q1:Int) (w:World),Ci.l1 K a2 c1 b1 k1 i1 m1 f1 d1 h1 e1 g1 k_ t5 t6 x203 x204 x205 x206 q1=some (r1,r2,r3,r4,r5,r6,r7,r8)→St w0 w (Box a1 124 [I c1,I b1,sV A_a x203 c_a,I k1,I i1,sV A_b x204 c_b,I m1,I f1,sV A_c x205 c_c,I d1,I h1,sV A_d t5 c_d,I e1,I g1,sV A_e t6 c_e,.bool x206]::Own (Ac .i64) 2 A_a c_a uu x203::Own (Ac .i64) 2 A_b c_b uu x204::Own (Ac .i64) 2 A_c c_c uu x205::Own (Ac .i64) 2 A_d c_d uu t5::Own (Ac .i64) 2 A_e c_e uu t6::L)→G prog 147 106 [(0,pT a1),(1,I k_),(6,I q1)] c2 w (Ci.post w0 L c1 b1 k1 i1 m1 f1 d1 h1 e1 g1 a1 A_a c_a A_b c_b A_c c_c A_d c_d A_e c_e r1 r2 r3 r4 r5 r6 r7 r8):=by
  refine lp (fun _ _ _ _ _ w H _=>by rw [Ci.l1] at H; cases H) fun n1 u2 o2 x203 x204 x205 x206 q1 w H HS=>?_
  rw [Ci.l1] at H
  subst k2
  refine rN 2 Z ?_
  rcases iE H with ⟨c396,H⟩|⟨c396,H⟩
  ·
   refine rG (pS 2 Z (GO.Ew Z Z Z (fL a1 0 Ia Z (fL a1 0 Im Z (lB 0 HS Z na2 Z (pS 2 Z (kN 22 Z (tT c396) (oN Z (mV Z (bK (oN Z (GO.Ew Z Z Z (bK (oN Z ?_))))))))))))))
   refine fL a1 15 Kn Z (bK (oN Z (lB 0 HS Z na4 Z (bK (oN Z (GO.not Z Z Z (bK (GO.Gq Z Z Z Z Z (nL ?_)))))))))
   rcases iS H with ⟨c397,H⟩|⟨c397,H⟩
   ·
    refine yB Z (congrArg Bool.not (Cv c397)) (rN 3 Z ?_)
    obtain ⟨t402,h403,H⟩:=bI H
    obtain ⟨t406,h407,H⟩:=bI H
    obtain ⟨t410,h411,H⟩:=bI H
    obtain ⟨t414,t415,t416,t417,h418,H⟩:=Ii H
    obtain ⟨c419,H⟩:=iN H
    obtain ⟨c420,H⟩:=iN H
    obtain ⟨c421,H⟩:=iN H
    refine G.Jk mixed (fun w=>St w0 w (Box a1 124 [I c1,I b1,sV A_a x203 c_a,I k1,I i1,sV A_b x204 c_b,I m1,I f1,sV A_c x205 c_c,I d1,I h1,sV A_d t5 c_d,I e1,I g1,sV A_e t6 c_e,.bool x206]::L)) [6,13] [0,1,2,3,4,5,7,8,10,11,12,14,15,6,13,9,16,17,18] [18] (by kernel_rfl) (by kernel_rfl) (HS.drew.pk 6 [0] Z) ?_
    replace HS:=HS.drew
    refine GX.ps 4 Z (qL Z Z (fun _ _ g=>GO.Ew Z Z Z g) Z (qL Z Z (fun _ _ g=>fL a1 0 Ia Z g) Z (GX.ps 3 Z (qL Z Z (fun _ _ g=>GO.Ew Z Z Z g) Z (qL Z Z (fun _ _ g=>fL a1 0 Ia Z g) Z (GX.ps 2 Z (GX.ls Z Z Z (HS.pk 6 [0] Z) (fun _ HS _ g=>GO.Gc (j:=0) ([I c1,I b1,sV A_a x203 c_a]) HS Z Z Z Z Fx Z g) Z (GX.ls Z Z Z (HS.pk 6 [0] Z) (fun _ HS _ g=>GO.Gc (j:=0) ([I c1,I b1,sV A_a x203 c_a]) HS Z Z Z Z Fx Z g) Z (GX.l2 Z (fJ Kg Z (Cy.calls HS (ro 1 Z) h403) (fun _ wd404 ⟨h405,HS⟩=>⟨_,h405,(GX.fin (HS.pk 6 [0] Z) (GX.l2 Z (fJ Kg Z (Cy.calls HS (ro 1 Z) h407) (fun _ wd408 ⟨h409,HS⟩=>⟨_,h409,(GX.fin (HS.pk 6 [0] Z) ?_)⟩))))⟩)))))))))))
    refine GX.l2 Z (fJ mM Z (Jl.calls HS  h411) (fun _ wd412 ⟨h413,HS⟩=>⟨_,h413,(GX.fin (HS.pk 6 [0] Z) (GX.l2 Z ?_))⟩))
    replace HS:=HS.pk 6 [0,1,2,3,4,5] Z
    refine fJ kK Z (I5.calls HS (ro 0 Z) (ro 1 Z) h418) (fun _ wd422 ⟨h423,HS⟩=>⟨_,h423,(GX.Y2 Z (GX.nil (rN 3 Z (gW (o2 n1 (lR _) _ _ _ _ _ _ H HS) Z))))⟩)
   refine nB Z (congrArg Bool.not c397) (rN 6 Z ?_)
   refine G.name (fun f2 h2=>?_)
   have e2:∀ b2,b2≤n1→∀ (w:World),Ci.l6 K b2 b1 k_ t5 t6 x203 x204 x205 x206=some (r1,r2,r3,r4,r5,r6,r7,r8)→St w0 w (Box a1 124 [I c1,I b1,sV A_a x203 c_a,I k1,I i1,sV A_b x204 c_b,I m1,I f1,sV A_c x205 c_c,I d1,I h1,sV A_d t5 c_d,I e1,I g1,sV A_e t6 c_e,.bool x206]::Own (Ac .i64) 2 A_a c_a uu x203::Own (Ac .i64) 2 A_b c_b uu x204::Own (Ac .i64) 2 A_c c_c uu x205::Own (Ac .i64) 2 A_d c_d uu t5::Own (Ac .i64) 2 A_e c_e uu t6::L)→G prog 147 106 [(0,pT a1),(1,I k_),(7,I (w64 (k_+1)))] f2 w (Ci.post w0 L c1 b1 k1 i1 m1 f1 d1 h1 e1 g1 a1 A_a c_a A_b c_b A_c c_c A_d c_d A_e c_e r1 r2 r3 r4 r5 r6 r7 r8):=by
    refine lp (fun w H _=>by rw [Ci.l6] at H; cases H) fun q2 s2 v2 w H HS=>?_
    rw [Ci.l6] at H
    subst h2
    refine rN 2 Z ?_
    rcases iS H with ⟨c401,H⟩|⟨c401,H⟩
    ·
     refine rG (pS 2 Z (GO.Ew Z Z Z (fL a1 0 Ia Z (fL a1 1 Gg Z (lB 0 HS Z na2 Z (pS 2 Z (kN 59 Z (tF c401) (oF Z (oF Z (oF Z (oF Z (oF Z (GO.Iw Z Z Z Z Z (nL ?_))))))))))))))
     refine rN 4 Z (rG (mV Z (GO.Ew Z Z Z (fL a1 15 Kn Z (lB 0 HS Z na4 Z (mV Z (kN 91 Z c397 (oF Z (oF Z (oF Z (oF Z (GO.Gq Z Z Z Z Z (nL (rN 3 Z ?_))))))))))))))
     obtain ⟨rfl,rfl,rfl,rfl,rfl,rfl,rfl,rfl⟩:=Sn H
     exact G.Jr _ _ func147 Z Z Z ⟨Z,HS⟩
    refine rG (pS 2 Z (GO.Ew Z Z Z (fL a1 0 Ia Z (fL a1 1 Gg Z (lB 0 HS Z na2 Z (pS 2 Z (kN 59 Z (tT c401) (oN Z (mV Z (bK (oN Z (GO.Ew Z Z Z (bK (oN Z ?_))))))))))))))
    refine fL a1 15 Kn Z (bK (oN Z (lB 0 HS Z na4 Z (bK (oN Z (GO.not Z Z Z (bK (GO.Gq Z Z Z Z Z (nL (nB Z (congrArg Bool.not c397) (rN 3 Z (rG (mV Z (GO.Ew Z Z Z ?_))))))))))))))
    refine fL a1 15 Kn Z (lB 0 HS Z na4 Z (mV Z (kN 91 Z c397 (oF Z (oF Z (oF Z (oF Z (GO.Gq Z Z Z Z Z (nL (rN 3 Z ?_))))))))))
    obtain ⟨rfl,rfl,rfl,rfl,rfl,rfl,rfl,rfl⟩:=Sn H
    exact G.Jr _ _ func147 Z Z Z ⟨Z,HS⟩
   exact gW (e2 n1 (lR _)  _ H HS) Z
  refine rG (pS 2 Z (GO.Ew Z Z Z (fL a1 0 Ia Z (fL a1 0 Im Z (lB 0 HS Z na2 Z (pS 2 Z (kN 22 Z (tF c396) (oF Z (oF Z (oF Z (oF Z (oF Z (GO.Iw Z Z Z Z Z (nL ?_))))))))))))))
  refine rN 7 Z ?_
  refine G.name (fun d2 i2=>?_)
  have m2:∀ y1,y1≤n1→∀ (x475 x476 x477:List Int) (x478:Bool) (v1:Int) (w:World),Ci.l7 K y1 c1 b1 k1 i1 m1 f1 d1 h1 e1 g1 k_ x204 x205 x475 x476 x477 x478 v1=some (r1,r2,r3,r4,r5,r6,r7,r8)→St w0 w (Box a1 124 [I c1,I b1,sV A_a x475 c_a,I k1,I i1,sV A_b x204 c_b,I m1,I f1,sV A_c x205 c_c,I d1,I h1,sV A_d x476 c_d,I e1,I g1,sV A_e x477 c_e,.bool x478]::Own (Ac .i64) 2 A_a c_a uu x475::Own (Ac .i64) 2 A_b c_b uu x204::Own (Ac .i64) 2 A_c c_c uu x205::Own (Ac .i64) 2 A_d c_d uu x476::Own (Ac .i64) 2 A_e c_e uu x477::L)→G prog 147 106 [(0,pT a1),(1,I k_),(7,I v1)] d2 w (Ci.post w0 L c1 b1 k1 i1 m1 f1 d1 h1 e1 g1 a1 A_a c_a A_b c_b A_c c_c A_d c_d A_e c_e r1 r2 r3 r4 r5 r6 r7 r8):=by
   refine lp (fun _ _ _ _ _ w H _=>by rw [Ci.l7] at H; cases H) fun j2 p2 g2 x475 x476 x477 x478 v1 w H HS=>?_
   rw [Ci.l7] at H
   subst i2
   refine rN 2 Z ?_
   rcases iE H with ⟨c532,H⟩|⟨c532,H⟩
   ·
    refine rG (pS 2 Z (GO.Ew Z Z Z (fL a1 0 Ia Z (fL a1 1 Gg Z (lB 0 HS Z na2 Z (pS 2 Z (kN 59 Z (tT c532) (oN Z (mV Z (bK (oN Z (GO.Ew Z Z Z (bK (oN Z ?_))))))))))))))
    refine fL a1 15 Kn Z (bK (oN Z (lB 0 HS Z na4 Z (bK (oN Z (GO.not Z Z Z (bK (GO.Gq Z Z Z Z Z (nL ?_)))))))))
    rcases iE H with ⟨c533,H⟩|⟨c533,H⟩
    ·
     refine nB Z (congrArg Bool.not c533) (rN 3 Z (rG (mV Z (GO.Ew Z Z Z (fL a1 15 Kn Z (lB 0 HS Z na4 Z (mV Z (kN 91 Z c533 (oF Z (oF Z (oF Z (oF Z (GO.Gq Z Z Z Z Z (nL ?_))))))))))))))
     refine rN 3 Z ?_
     obtain ⟨rfl,rfl,rfl,rfl,rfl,rfl,rfl,rfl⟩:=Sn H
     exact G.Jr _ _ func147 Z Z Z ⟨Z,HS⟩
    refine yB Z (congrArg Bool.not (Cv c533)) (rN 3 Z ?_)
    obtain ⟨t534,h535,H⟩:=bI H
    obtain ⟨t538,h539,H⟩:=bI H
    obtain ⟨t542,h543,H⟩:=bI H
    obtain ⟨t546,t547,t548,t549,h550,H⟩:=Ii H
    obtain ⟨c551,H⟩:=iN H
    obtain ⟨c552,H⟩:=iN H
    obtain ⟨c553,H⟩:=iN H
    refine G.Jk mixed (fun w=>St w0 w (Box a1 124 [I c1,I b1,sV A_a x475 c_a,I k1,I i1,sV A_b x204 c_b,I m1,I f1,sV A_c x205 c_c,I d1,I h1,sV A_d x476 c_d,I e1,I g1,sV A_e x477 c_e,.bool x478]::L)) [6,13] [0,1,2,3,4,5,7,8,10,11,12,14,15,6,13,9,16,17,18] [18] (by kernel_rfl) (by kernel_rfl) (HS.drew.pk 6 [0] Z) ?_
    replace HS:=HS.drew
    refine GX.ps 4 Z (qL Z Z (fun _ _ g=>GO.Ew Z Z Z g) Z (qL Z Z (fun _ _ g=>fL a1 0 Ia Z g) Z (GX.ps 3 Z (qL Z Z (fun _ _ g=>GO.Ew Z Z Z g) Z (qL Z Z (fun _ _ g=>fL a1 0 Ia Z g) Z (GX.ps 2 Z (GX.ls Z Z Z (HS.pk 6 [0] Z) (fun _ HS _ g=>GO.Gc (j:=0) ([I c1,I b1,sV A_a x475 c_a]) HS Z Z Z Z Fx Z g) Z (GX.ls Z Z Z (HS.pk 6 [0] Z) (fun _ HS _ g=>GO.Gc (j:=0) ([I c1,I b1,sV A_a x475 c_a]) HS Z Z Z Z Fx Z g) Z (GX.l2 Z (fJ Kg Z (Cy.calls HS (ro 1 Z) h535) (fun _ wd536 ⟨h537,HS⟩=>⟨_,h537,(GX.fin (HS.pk 6 [0] Z) (GX.l2 Z (fJ Kg Z (Cy.calls HS (ro 1 Z) h539) (fun _ wd540 ⟨h541,HS⟩=>⟨_,h541,(GX.fin (HS.pk 6 [0] Z) ?_)⟩))))⟩)))))))))))
    refine GX.l2 Z (fJ mM Z (Jl.calls HS  h543) (fun _ wd544 ⟨h545,HS⟩=>⟨_,h545,(GX.fin (HS.pk 6 [0] Z) (GX.l2 Z ?_))⟩))
    replace HS:=HS.pk 6 [0,1,4,5,2,3] Z
    refine fJ vF Z (Iu.calls HS (ro 0 Z) (ro 1 Z) h550) (fun _ wd554 ⟨h555,HS⟩=>⟨_,h555,(GX.Y2 Z (GX.nil (rN 3 Z (gW (g2 j2 (lR _) _ _ _ _ _ _ H (HS.pk 6 [0,1,4,5,2,3] Z)) Z))))⟩)
   refine rG (pS 2 Z (GO.Ew Z Z Z (fL a1 0 Ia Z (fL a1 1 Gg Z (lB 0 HS Z na2 Z (pS 2 Z (kN 59 Z (tF c532) (oF Z (oF Z (oF Z (oF Z (oF Z (GO.Iw Z Z Z Z Z (nL ?_))))))))))))))
   refine rN 4 Z ?_
   rcases iE H with ⟨c561,H⟩|⟨c561,H⟩
   ·
    refine rG (mV Z (GO.Ew Z Z Z (fL a1 15 Kn Z (lB 0 HS Z na4 Z (mV Z (kN 91 Z c561 (oF Z (oF Z (oF Z (oF Z (GO.Gq Z Z Z Z Z (nL (rN 3 Z ?_)))))))))))))
    obtain ⟨rfl,rfl,rfl,rfl,rfl,rfl,rfl,rfl⟩:=Sn H
    exact G.Jr _ _ func147 Z Z Z ⟨Z,HS⟩
   obtain ⟨t562,h563,H⟩:=bI H
   refine rG (mV Z (GO.Ew Z Z Z (fL a1 15 Kn Z (lB 0 HS Z na4 Z (mV Z (kN 91 Z (Cv c561) (oN Z (mV Z (bK (oN Z (mV Z (bK (oN Z ?_)))))))))))))
   replace HS:=HS.pk 6 [0,1,2,3,4,5] Z
   refine fJ tC Z (Dv.calls HS (ro 0 Z) (ro 1 Z) (ro 2 Z) (ro 3 Z) (ro 4 Z) h563) (fun _ wd564 ⟨h565,HS⟩=>⟨_,h565,(bK (oN Z (GO.not Z Z Z (bK (GO.Iw Z Z Z Z Z (nL ?_))))))⟩)
   rcases iS H with ⟨c566,H⟩|⟨c566,H⟩
   ·
    refine yB Z (congrArg Bool.not (Cv c566)) (rN 2 Z ?_)
    obtain ⟨rfl,rfl,rfl,rfl,rfl,rfl,rfl,rfl⟩:=Sn H
    exact G.Jr _ _ func147 Z Z Z ⟨Z,HS⟩
   refine nB Z (congrArg Bool.not c566) (rN 2 Z ?_)
   obtain ⟨t567,h568,H⟩:=bI H
   refine rG (pS 2 Z ?_)
   replace HS:=HS.pk 6 [0,1,2,3,4,5] Z
   refine fJ uN Z (Dy.calls HS (ro 0 Z) (ro 1 Z) (ro 2 Z) (ro 3 Z) (ro 4 Z) h568) (fun _ wd569 ⟨h570,HS⟩=>⟨_,h570,(aS Z (nL (rN 3 Z ?_)))⟩)
   rcases iE H with ⟨c571,H⟩|⟨c571,H⟩
   ·
    refine yB Z (tT c571) (rN 2 Z ?_)
    obtain ⟨rfl,rfl,rfl,rfl,rfl,rfl,rfl,rfl⟩:=Sn H
    exact G.Jr _ _ func147 Z Z Z ⟨Z,HS⟩
   refine nB Z (tF c571) (rN 2 Z ?_)
   obtain ⟨t572,t573,t574,t575,h576,H⟩:=Ii H
   obtain ⟨c577,H⟩:=iN H
   obtain ⟨c578,H⟩:=iN H
   obtain ⟨c579,H⟩:=iN H
   refine rG (pS 3 Z ?_)
   replace HS:=HS.pk 6 [0,1,2,3,4,5] Z
   refine fJ kK Z (I5.calls HS (ro 0 Z) (ro 1 Z) h576) (fun _ wd580 ⟨h581,HS⟩=>⟨_,h581,(nL (rN 2 Z ?_))⟩)
   obtain ⟨rfl,rfl,rfl,rfl,rfl,rfl,rfl,rfl⟩:=Sn H
   exact G.Jr _ _ func147 Z Z Z ⟨Z,HS⟩
  exact gW (m2 n1 (lR _) _ _ _ _ _ _ H HS) Z
 exact gW (n2 K (lR _) _ _ _ _ _ _ H HS) Z
end Go.Proofs.YtgkgmhkgahalgaaGreat
