import Derived.Test.YtgkgmhkgahalgaaGreatAlF
import Derived.Test.YtgkgmhkgahalgaaGreatAlW2
set_option linter.unusedVariables false
set_option linter.unusedSimpArgs false
namespace Go.Proofs.YtgkgmhkgahalgaaGreat
open Go.RowKit
open Tryz
variable {w0 w:World} {L:List Dc} {K:Nat} {A_a A_b A_c A_d A_e A_f A_g A_h A_i A_j A_k A_l A_m A_n A_o A_p A_q A_r A_s A_t A_u A_v A_w A_x A_y A_z:Option Addr} {c_a c_b c_c c_d c_e c_f c_g c_h c_i c_j c_k c_l c_m c_n c_o c_p c_q c_r c_s c_t c_u c_v c_w c_x c_y c_z:Nat}
set_option maxRecDepth 20000
set_option maxHeartbeats 40000000
theorem Dj.calls {a1 c1:Int} {d1:List Int} {r1 r2:Int} {r3:List Int} {r4 r5:Int} {r6:List Int} {r7 r8:Int} {r9:List Int} {r10 r11:Int} {r12:List Int} {r13 r14:Int} {r15:List Int} {r16:Bool} (HS:St w0 w (L)) (r_a:Bv w0 L (Ac .i64) A_a c_a uu d1) (H:Dj.f K a1 c1 d1=some (r1,r2,r3,r4,r5,r6,r7,r8,r9,r10,r11,r12,r13,r14,r15,r16)) :
   Calls prog 107 #[.agg [I a1,I c1,sV A_a d1 c_a].toArray] w (Dj.post w0 L r1 r2 r3 r4 r5 r6 r7 r8 r9 r10 r11 r12 r13 r14 r15 r16):=by
 unfold Dj.f at H
 refine cG func107 Z ?_
 refine sQ (rG (bA HS Z fun b1 wd2 HS=>aS Z (nL (sQ ?_))))
 obtain ⟨c8,H⟩:=iN H
 obtain ⟨t9,t10,t11,h12,H⟩:=Gb H
 obtain ⟨t17,t18,t19,h20,H⟩:=Gb H
 obtain ⟨t25,t26,t27,h28,H⟩:=Gb H
 obtain ⟨t33,t34,t35,h36,H⟩:=Gb H
 refine G.Jk mixed (fun w=>St w0 w (Box b1 57 [I a1,I c1,sV A_a d1 c_a]::L)) [1,3,6,10,13,16,19] [0,2,5,9,12,15,18,1,3,6,10,13,16,19,4,7,8,11,14,17,20,21,22,23] [] (by kernel_rfl) (by kernel_rfl) HS.drew ?_
 replace HS:=HS.drew
 refine qL Z Z (fun _ _ g=>fL b1 0 Im Z g) Z (qL Z Z (fun _ _ g=>fL b1 1 Gg Z g) Z (qL Z Z (fun _ _ g=>fL b1 2 Km Z g) Z (qL Z Z (fun _ _ g=>fL b1 0 Im Z g) Z (qL Z Z (fun _ _ g=>fL b1 0 Im Z g) Z (qL Z Z (fun _ _ g=>fL b1 1 Gg Z g) Z (qL Z Z (fun _ _ g=>fL b1 1 Gg Z g) Z (GX.ls Z Z Z HS (fun _ HS _ g=>lB 0 HS Z na2 Z g) Z (GX.ls Z Z Z HS (fun _ HS _ g=>lB 0 HS Z na2 Z g) Z (GX.ls Z Z Z HS (fun _ HS _ g=>lB 0 HS Z Ip Z g) Z (GX.ls Z Z Z HS (fun _ HS _ g=>lB 0 HS Z na2 Z g) Z (GX.ls Z Z Z HS (fun _ HS _ g=>lB 0 HS Z na2 Z g) Z (GX.ls Z Z Z HS (fun _ HS _ g=>lB 0 HS Z na2 Z g) Z (GX.ls Z Z Z HS (fun _ HS _ g=>lB 0 HS Z na2 Z g) Z (GX.l2 Z ?_))))))))))))))
 refine GO.D8 (el:=2) ([]) HS Z Z (fun _=>by kernel_rfl) Z fun b3 wd4 HS=>GX.fin (HS.pk 2 [1] Z) (GX.l2 Z ?_)
 replace HS:=HS.Ib (T:=(Ac .i64)) (j:=0) Z Ao uu ([]:List Int) Z (Ky Z)
 refine GO.Ke (t:=11) (m:=([]:List Int).length) (c':=([]:List Int).length) Z Z Z (GO.kH (T:=(Ac .i64)) (j:=0) HS Z (rD 2 r_a) Ao Z Z Z U26 Lf Z Z Z c8 Z (fun _=>Z) fun A6 c7 wd5 HS=>GX.fin (HS.pk 2 [1] Z) (qL Z Z (fun _ _ g=>GO.Je (.agg [I a1,I c1,sV A6 (([]:List Int)++d1) c7].toArray) Z Z (fun _=>by kernel_rfl) Z g) Z (GX.l2 Z (fJ Ye Z (E5.calls HS  h12) (fun _ wd15 ⟨A13,c14,h16,HS⟩=>⟨_,h16,(GX.fin (HS.pk 3 [2] Z) (GX.l2 Z (fJ Ye Z (E5.calls HS  h20) (fun _ wd23 ⟨A21,c22,h24,HS⟩=>⟨_,h24,(GX.fin (HS.pk 4 [3] Z) (GX.l2 Z (fJ Ye Z (E5.calls HS  h28) (fun _ wd31 ⟨A29,c30,h32,HS⟩=>⟨_,h32,(GX.fin (HS.pk 5 [4] Z) (GX.l2 Z (fJ Ye Z (E5.calls HS  h36) (fun _ wd39 ⟨A37,c38,h40,HS⟩=>⟨_,h40,?_⟩))))⟩))))⟩))))⟩)))))
 refine GX.fin (HS.pk 6 [5] Z) (qL Z Z (fun _ _ g=>GO.Je (.agg [I a1,I c1,sV A6 (([]:List Int)++d1) c7,I t9,I t10,sV A13 t11 c14,I t17,I t18,sV A21 t19 c22,I t25,I t26,sV A29 t27 c30,I t33,I t34,sV A37 t35 c38,.bool false].toArray) Z Z (fun _=>by kernel_rfl) Z g) Z (GX.l2 Z (bA HS Z fun b41 wd42 HS=>GX.fin (HS.pk 7 [6] Z) (GX.ps 1 Z (GX.nil (rN 5 Z ?_))))))
 refine G.name (fun e2 h2=>?_)
 have i2:∀ y1,y1≤K→∀ (p1 g1:List Int) (k1 h1 n1:List Int) (u1:Bool) (e1:Int) (w:World),Dj.l1 K y1 a1 c1 t9 t10 t17 t18 t25 t26 t33 t34 p1 g1 k1 h1 n1 u1 e1=some (r1,r2,r3,r4,r5,r6,r7,r8,r9,r10,r11,r12,r13,r14,r15,r16)→St w0 w (Box b1 57 [I a1,I c1,sV A_a d1 c_a]::Box b41 124 [I a1,I c1,sV A6 p1 c7,I t9,I t10,sV A13 g1 c14,I t17,I t18,sV A21 k1 c22,I t25,I t26,sV A29 h1 c30,I t33,I t34,sV A37 n1 c38,.bool u1]::Own (Ac .i64) 2 A6 c7 uu p1::Own (Ac .i64) 2 A13 c14 uu g1::Own (Ac .i64) 2 A21 c22 uu k1::Own (Ac .i64) 2 A29 c30 uu h1::Own (Ac .i64) 2 A37 c38 uu n1::L)→G prog 107 62 [(1,pT b1),(3,pT b41),(4,I e1)] e2 w (Dj.post w0 L r1 r2 r3 r4 r5 r6 r7 r8 r9 r10 r11 r12 r13 r14 r15 r16):=by
  refine lp (fun _ _ _ _ _ _ _ w H _=>by rw [Dj.l1] at H; cases H) fun z1 k2 j2 p1 g1 k1 h1 n1 u1 e1 w H HS=>?_
  rw [Dj.l1] at H
  subst h2
  refine rN 2 Z (rG (mV Z (fL b1 0 Im Z (lB 0 HS Z na2 Z (fL b1 1 Gg Z (lB 0 HS Z na2 Z (GO.min2 Z Z Z Z (GO.lss Z Z Z Z (nL ?_)))))))))
  rcases iS H with ⟨c189,H⟩|⟨c189,H⟩
  ·
   refine nB Z (tF c189) (rN 3 Z ?_)
   obtain ⟨rfl,rfl,rfl,rfl,rfl,rfl,rfl,rfl,rfl,rfl,rfl,rfl,rfl,rfl,rfl,rfl⟩:=Pz H
   exact rT _ func107 Z Z ⟨_,_,_,_,_,_,_,_,_,_,_,Z,(HS.pk 7 [1,2,3,4,5,6] Z)⟩
  refine yB Z (tT c189) (rN 8 Z ?_)
  refine G.name (fun g2 d2=>?_)
  have b2:∀ a2,a2≤z1→∀ (i1 o1:List Int) (q1 m1 f1:List Int) (t1 s1 v1:Bool) (w:World),Dj.l4 K a2 a1 c1 t9 t10 t17 t18 t25 t26 t33 t34 e1 i1 o1 q1 m1 f1 t1 s1 v1=some (r1,r2,r3,r4,r5,r6,r7,r8,r9,r10,r11,r12,r13,r14,r15,r16)→St w0 w (Box b1 57 [I a1,I c1,sV A_a d1 c_a]::Box b41 124 [I a1,I c1,sV A6 i1 c7,I t9,I t10,sV A13 o1 c14,I t17,I t18,sV A21 q1 c22,I t25,I t26,sV A29 m1 c30,I t33,I t34,sV A37 f1 c38,.bool t1]::Own (Ac .i64) 2 A6 c7 uu i1::Own (Ac .i64) 2 A13 c14 uu o1::Own (Ac .i64) 2 A21 c22 uu q1::Own (Ac .i64) 2 A29 c30 uu m1::Own (Ac .i64) 2 A37 c38 uu f1::L)→G prog 107 62 [(1,pT b1),(3,pT b41),(4,I e1),(5,.bool s1),(6,.bool v1)] g2 w (Dj.post w0 L r1 r2 r3 r4 r5 r6 r7 r8 r9 r10 r11 r12 r13 r14 r15 r16):=by
   refine lp (fun _ _ _ _ _ _ _ _ w H _=>by rw [Dj.l4] at H; cases H) fun x1 c2 f2 i1 o1 q1 m1 f1 t1 s1 v1 w H HS=>?_
   rw [Dj.l4] at H
   subst d2
   refine rN 2 Z ?_
   rcases iE H with ⟨c238,H⟩|⟨c238,H⟩
   ·
    refine rG (pS 3 Z (kN 41 Z (congrArg Bool.not c238) (oF Z (oF Z (oF Z (oF Z (oF Z (GO.Iw Z Z Z Z Z (nL (rN 3 Z ?_))))))))))
    rcases iE H with ⟨c239,H⟩|⟨c239,H⟩
    ·
     refine rG (pS 2 Z (kN 55 Z c239 (oF Z (oF Z (oF Z (oF Z (GO.Gq Z Z Z Z Z (nL (rN 4 Z ?_)))))))))
     obtain ⟨rfl,rfl,rfl,rfl,rfl,rfl,rfl,rfl,rfl,rfl,rfl,rfl,rfl,rfl,rfl,rfl⟩:=Pz H
     exact rT _ func107 Z Z ⟨_,_,_,_,_,_,_,_,_,_,_,Z,(HS.pk 7 [1,2,3,4,5,6] Z)⟩
    refine rG (pS 2 Z (kN 55 Z (Cv c239) (oN Z (mV Z (bK (oN Z (GO.Ew Z Z Z (bK (oN Z (fL b41 15 Kn Z (bK (oN Z (lB 1 HS Z na4 Z (bK ?_))))))))))))))
    refine GO.Iw Z Z Z Z Z (nL ?_)
    rcases iS H with ⟨c240,H⟩|⟨c240,H⟩
    ·
     refine nB Z (Cv c240) (rN 4 Z (gW (j2 x1 (Nat.le_of_succ_le c2) _ _ _ _ _ _ _ _ H HS) Z))
    refine yB Z c240 (rN 3 Z ?_)
    obtain ⟨rfl,rfl,rfl,rfl,rfl,rfl,rfl,rfl,rfl,rfl,rfl,rfl,rfl,rfl,rfl,rfl⟩:=Pz H
    exact rT _ func107 Z Z ⟨_,_,_,_,_,_,_,_,_,_,_,Z,(HS.pk 7 [1,2,3,4,5,6] Z)⟩
   refine rG (pS 3 Z (kN 41 Z (congrArg Bool.not (Cv c238)) (oN Z (mV Z (bK (oN Z (GO.Ew Z Z Z (bK (oN Z (fL b41 15 Kn Z (bK (oN Z (lB 1 HS Z na4 Z (bK ?_))))))))))))))
   refine oN Z (GO.not Z Z Z (bK (GO.Gq Z Z Z Z Z (nL ?_))))
   rcases iS H with ⟨c241,H⟩|⟨c241,H⟩
   ·
    refine yB Z (congrArg Bool.not (Cv c241)) (rN 2 Z ?_)
    obtain ⟨t243,t244,t245,t246,t247,t248,t249,t250,h251,H⟩:=cZ H
    obtain ⟨c252,H⟩:=iN H
    obtain ⟨c253,H⟩:=iN H
    obtain ⟨c254,H⟩:=iN H
    obtain ⟨c255,H⟩:=iN H
    obtain ⟨c256,H⟩:=iN H
    refine rG (pS 2 Z ?_)
    replace HS:=HS.pk 7 [1,2,3,4,5,6,0] Z
    refine fJ wB Z (Ci.calls HS  h251) (fun _ wd257 ⟨h258,HS⟩=>⟨_,h258,(pS 5 Z (nL (rN 2 Z (gW (f2 x1 (lR _) _ _ _ _ _ _ _ _ _ H (HS.pk 7 [6,0,1,2,3,4,5] Z)) Z))))⟩)
   refine nB Z (congrArg Bool.not c241) (rN 2 Z ?_)
   rcases iE H with ⟨c242,H⟩|⟨c242,H⟩
   ·
    refine rG (pS 2 Z (kN 55 Z c242 (oF Z (oF Z (oF Z (oF Z (GO.Gq Z Z Z Z Z (nL (rN 4 Z ?_)))))))))
    obtain ⟨rfl,rfl,rfl,rfl,rfl,rfl,rfl,rfl,rfl,rfl,rfl,rfl,rfl,rfl,rfl,rfl⟩:=Pz H
    exact rT _ func107 Z Z ⟨_,_,_,_,_,_,_,_,_,_,_,Z,(HS.pk 7 [1,2,3,4,5,6] Z)⟩
   refine rG (pS 2 Z (kN 55 Z (Cv c242) (oN Z (mV Z (bK (oN Z (GO.Ew Z Z Z (bK (oN Z (fL b41 15 Kn Z (bK (oN Z (lB 1 HS Z na4 Z (bK ?_))))))))))))))
   refine GO.Iw Z Z Z Z Z (nL (yB Z c241 (rN 3 Z ?_)))
   obtain ⟨rfl,rfl,rfl,rfl,rfl,rfl,rfl,rfl,rfl,rfl,rfl,rfl,rfl,rfl,rfl,rfl⟩:=Pz H
   exact rT _ func107 Z Z ⟨_,_,_,_,_,_,_,_,_,_,_,Z,(HS.pk 7 [1,2,3,4,5,6] Z)⟩
  exact gW (b2 z1 (lR _) _ _ _ _ _ _ _ _ _ H HS) Z
 exact gW (i2 K (lR _) _ _ _ _ _ _ _ _ H (HS.pk 7 [6,0,5,4,3,2,1] Z)) Z
theorem D5.calls {a1 e1:Int} {c1:List Int} {r1:List Int} {r2:Bool} (HS:St w0 w (L)) (r_a:Bv w0 L (Ac .i64) A_a c_a uu c1) (H:D5.f K a1 e1 c1=some (r1,r2)) :
   Calls prog 67 #[.agg [I a1,I e1,sV A_a c1 c_a].toArray] w (D5.post w0 L r1 r2):=by
 unfold D5.f at H
 refine cG func67 Z ?_
 refine sQ (rG (bA HS Z fun b1 wd2 HS=>pS 2 Z (nL (sQ ?_))))
 obtain ⟨t3,t4,t5,t6,t7,t8,t9,t10,t11,t12,t13,t14,t15,t16,t17,t18,h19,H⟩:=Pg H
 refine rG (lW 0 HS Z Fx (fJ vS Z (Dj.calls HS (rD 1 r_a) h19) (fun _ wd31 ⟨b20,A21,c22,A23,c24,A25,c26,A27,c28,A29,c30,h32,HS⟩=>⟨_,h32,(aS Z (nL (sQ (rG (GO.D8 (el:=2) ([]) HS Z Z (fun _=>by kernel_rfl) Z fun b33 wd34 HS=>?_)))))⟩)))
 replace HS:=HS.Ib (T:=(Ac .i64)) (j:=0) Z Ao uu ([]:List Int) Z (Ky Z)
 refine GO.Ke (t:=10) (m:=([]:List Int).length) (c':=([]:List Int).length) Z Z Z (aS Z (nL (rN 5 Z ?_)))
 refine G.name (fun n1 k1=>?_)
 have m1:∀ h1,h1≤K→∀ (A49:Option Addr) (c50:Nat) (d1:List Int) (f1:Int) (w:World),D5.l1 K h1 a1 e1 t3 t4 t5 t18 d1 f1=some (r1,r2)→St w0 w (Box b1 57 [I a1,I e1,sV A_a c1 c_a]::Box b20 124 [I t3,I t4,sV A21 t5 c22,I t6,I t7,sV A23 t8 c24,I t9,I t10,sV A25 t11 c26,I t12,I t13,sV A27 t14 c28,I t15,I t16,sV A29 t17 c30,.bool t18]::Own (Ac .i64) 2 A21 c22 uu t5::Own (Ac .i64) 2 A23 c24 uu t8::Own (Ac .i64) 2 A25 c26 uu t11::Own (Ac .i64) 2 A27 c28 uu t14::Own (Ac .i64) 2 A29 c30 uu t17::Own (Ac .i64) 2 A49 c50 uu d1::L)→G prog 67 46 [(1,pT b1),(4,pT b20),(5,sV A49 d1 c50),(6,I f1)] n1 w (D5.post w0 L r1 r2):=by
  refine lp (fun _ _ _ _ w H _=>by rw [D5.l1] at H; cases H) fun g1 o1 i1 A49 c50 d1 f1 w H HS=>?_
  rw [D5.l1] at H
  subst k1
  refine rN 2 Z ?_
  rcases iS H with ⟨c68,H⟩|⟨c68,H⟩
  ·
   refine rG (mV Z (fL b1 0 Im Z (lB 0 HS Z na2 Z (fL b1 1 Gg Z (lB 0 HS Z na2 Z (GO.min2 Z Z Z Z (pS 2 Z (kN 18 Z (tF c68) (oF Z (oF Z (oF Z (oF Z (oF Z (GO.Iw Z Z Z Z Z ?_))))))))))))))
   refine nL (rN 3 Z (G.lex mixed [0,1,2,3,6,4,5,7] (by kernel_rfl) ?_))
   replace HS:=HS.drew
   refine GX.ps 2 Z (qL Z Z (fun _ _ g=>GO.Ew Z Z Z g) Z (qL Z Z (fun _ _ g=>fL b20 15 Kn Z g) Z (GX.ps 1 Z (GX.l1 Z Z Z (fun _ g=>lB 1 HS Z na4 Z g) Z (GX.ps 2 Z (GX.nil ?_))))))
   obtain ⟨rfl,rfl⟩:=H8 H
   exact G.Jr _ _ func67 Z Z Z ⟨_,_,Z,(HS.pk 8 [7] Z)⟩
  refine rG (mV Z (fL b1 0 Im Z (lB 0 HS Z na2 Z (fL b1 1 Gg Z (lB 0 HS Z na2 Z (GO.min2 Z Z Z Z (pS 2 Z (kN 18 Z (tT c68) (oN Z (mV Z (bK (oN Z (GO.Ew Z Z Z (bK ?_))))))))))))))
  refine oN Z (fL b20 15 Kn Z (bK (oN Z (lB 1 HS Z na4 Z (bK (oN Z (GO.not Z Z Z (bK (GO.Gq Z Z Z Z Z (nL ?_))))))))))
  rcases iE H with ⟨c69,H⟩|⟨c69,H⟩
  ·
   refine nB Z (congrArg Bool.not c69) (rN 2 Z (G.lex mixed [0,1,2,3,6,4,5,7] (by kernel_rfl) ?_))
   replace HS:=HS.drew
   refine GX.ps 2 Z (qL Z Z (fun _ _ g=>GO.Ew Z Z Z g) Z (qL Z Z (fun _ _ g=>fL b20 15 Kn Z g) Z (GX.ps 1 Z (GX.l1 Z Z Z (fun _ g=>lB 1 HS Z na4 Z g) Z (GX.ps 2 Z (GX.nil ?_))))))
   obtain ⟨rfl,rfl⟩:=H8 H
   exact G.Jr _ _ func67 Z Z Z ⟨_,_,Z,(HS.pk 8 [7] Z)⟩
  refine yB Z (congrArg Bool.not (Cv c69)) (rN 4 Z ?_)
  obtain ⟨t70,h71,H⟩:=bI H
  refine rG (mV Z (GO.Ew Z Z Z (fL b20 0 Ia Z (GO.Gc (j:=1) ([I t3,I t4,sV A21 t5 c22]) HS Z Z Z Z Fx Z (pS 2 Z (fJ Kg Z (Cy.calls HS (ro 2 Z) h71) (fun _ wd72 ⟨h73,HS⟩=>⟨_,h73,(aS Z (nL (rN 2 Z ?_)))⟩)))))))
  rcases iE H with ⟨c74,H⟩|⟨c74,H⟩
  ·
   refine nB Z (nT c74) (rN 4 Z (gW (i1 g1 (lR _) _ _ _ _ _ H HS) Z))
  refine yB Z (nF c74) ?_
  obtain ⟨c80,H⟩:=iN H
  refine rG (pS 2 Z (GO.D8 (el:=2) ([I t70]) HS Z Z (fun _=>by kernel_rfl) Z fun b75 wd76 HS=>GO.app1 (T:=(Ac .i64)) (j:=8) (jb:=0) t70 HS Z Z Ao Z Z Z U26 Lf Z Z Z c80 Z fun A78 c79 wd77 HS=>aS Z (nL (rN 3 Z (gW (i1 g1 (lR _) _ _ _ _ _ H (HS.pk 9 [1,2,3,4,5,6,7,8] Z)) Z)))))
 exact gW (m1 K (lR _) _ _ _ _ _ H (HS.pk 8 [7,1,2,3,4,5,6,0] Z)) Z
theorem Hr.calls {c1 d1:Int} {a1:List Int} {r1:List Int} {r2:Int} (HS:St w0 w (L)) (r_a:Bv w0 L (Ac .i64) A_a c_a uu a1) (H:Hr.f K c1 d1 a1=some (r1,r2)) :
   Calls prog 95 #[.agg [I c1,I d1,sV A_a a1 c_a].toArray] w (Hr.post w0 L r1 r2):=by
 unfold Hr.f at H
 refine cG func95 Z ?_
 refine sQ (rG (bA HS Z fun b1 wd2 HS=>pS 2 Z (nL (rN 2 Z ?_))))
 obtain ⟨t3,h4,H⟩:=bI H
 refine rG (lW 0 HS Z Fx (fJ yJ Z (Fh.calls HS (rD 1 r_a) h4) (fun _ wd5 ⟨h6,HS⟩=>⟨_,h6,(GO.not Z Z Z (nL ?_))⟩)))
 rcases iS H with ⟨c7,H⟩|⟨c7,H⟩
 ·
  refine yB Z (congrArg Bool.not (Cv c7)) (sQ (rG (GO.D8 (el:=2) ([]) HS Z Z (fun _=>by kernel_rfl) Z fun b18 wd19 HS=>?_)))
  replace HS:=HS.Ib (T:=(Ac .i64)) (j:=0) Z Ao uu ([]:List Int) Z (Ky Z)
  refine GO.Ke (t:=9) (m:=([]:List Int).length) (c':=([]:List Int).length) Z Z Z (pS 2 Z (nL ?_))
  obtain ⟨rfl,rfl⟩:=H8 H
  exact G.Jr _ _ func95 Z Z Z ⟨_,_,Z,(HS.pk 2 [0] Z)⟩
 refine nB Z (congrArg Bool.not c7) (rN 2 Z ?_)
 obtain ⟨t8,t9,h10,H⟩:=Cx H
 refine rG (lW 0 HS Z Fx (fJ zH Z (D5.calls HS (rD 1 r_a) h10) (fun _ wd13 ⟨A11,c12,h14,HS⟩=>⟨_,h14,(pS 5 Z (nL (rN 3 Z ?_)))⟩)))
 rcases iE H with ⟨c15,H⟩|⟨c15,H⟩
 ·
  refine nB Z (congrArg Bool.not c15) (rN 3 Z ?_)
  obtain ⟨rfl,rfl⟩:=H8 H
  exact G.Jr _ _ func95 Z Z Z ⟨_,_,Z,(HS.pk 2 [0] Z)⟩
 refine yB Z (congrArg Bool.not (Cv c15)) (sQ (rG (GO.D8 (el:=2) ([]) HS Z Z (fun _=>by kernel_rfl) Z fun b16 wd17 HS=>?_)))
 replace HS:=HS.Ib (T:=(Ac .i64)) (j:=0) Z Ao uu ([]:List Int) Z (Ky Z)
 refine GO.Ke (t:=17) (m:=([]:List Int).length) (c':=([]:List Int).length) Z Z Z (pS 2 Z (nL ?_))
 obtain ⟨rfl,rfl⟩:=H8 H
 exact G.Jr _ _ func95 Z Z Z ⟨_,_,Z,(HS.pk 3 [0] Z)⟩
theorem Ev.calls {factors:List Int} {r1:List Int} (HS:St w0 w (L)) (r_a:Bv w0 L (Ac .i64) A_a c_a uu factors) (H:Ev.f K factors=some r1) :
   Calls prog 68 #[sV A_a factors c_a] w (Ev.post w0 L r1):=by
 unfold Ev.f at H
 refine cG func68 Z ?_
 refine rN 3 Z (rG (GO.D8 (el:=2) ([]) HS Z Z (fun _=>by kernel_rfl) Z fun b1 wd2 HS=>?_))
 replace HS:=HS.Ib (T:=(Ac .i64)) (j:=0) Z Ao uu ([]:List Int) Z (Ky Z)
 refine GO.Ke (t:=5) (m:=([]:List Int).length) (c':=([]:List Int).length) Z Z Z (aS Z (nL (rN 5 Z ?_)))
 refine G.name (fun i1 g1=>?_)
 have h1:∀ e1,e1≤K→∀ (A12:Option Addr) (c13:Nat) (c1:List Int) (a1:Int) (w:World),Ev.l1 K e1 factors c1 a1=some r1→St w0 w (Own (Ac .i64) 2 A12 c13 uu c1::L)→G prog 68 25 [(0,sV A_a factors c_a),(3,sV A12 c1 c13),(4,I a1)] i1 w (Ev.post w0 L r1):=by
  refine lp (fun _ _ _ _ w H _=>by rw [Ev.l1] at H; cases H) fun d1 k1 f1 A12 c13 c1 a1 w H HS=>?_
  rw [Ev.l1] at H
  subst g1
  refine rN 2 Z (rG (pS 2 Z (lS Z Z U26 Z (GO.lss Z Z Z Z (nL ?_)))))
  rcases iS H with ⟨c25,H⟩|⟨c25,H⟩
  ·
   refine nB Z (tF c25) (rN 3 Z ?_)
   obtain rfl:=sI H
   exact rT _ func68 Z Z ⟨_,_,Z,HS⟩
  refine yB Z (tT c25) (rN 4 Z ?_)
  obtain ⟨c26,H⟩:=iN H
  refine rG (pS 2 Z (iX Z U26 sz2 (rk (rD 1 r_a) HS) c26 (GO.C8 (T:=(Ac .i64)) (n:=a1.toNat) (o:=0) HS (rD 1 r_a) Z Z (getD_some (d:=0) (ltN c26)) Z Z na2 Z (GO.gtr Z Z Z Z (nL ?_)))))
  rcases iS H with ⟨c27,H⟩|⟨c27,H⟩
  ·
   refine nB Z (tF c27) (rN 4 Z (gW (f1 d1 (lR _) _ _ _ _ _ H HS) Z))
  refine yB Z (tT c27) ?_
  obtain ⟨c33,H⟩:=iN H
  refine rG (pS 3 Z (iX Z U26 sz2 (rk (rD 1 r_a) HS) c26 (GO.C8 (T:=(Ac .i64)) (n:=a1.toNat) (o:=0) HS (rD 1 r_a) Z Z (getD_some (d:=0) (ltN c26)) Z Z na2 Z (GO.D8 (el:=2) ([I (factors.getD a1.toNat 0)]) HS Z Z (fun _=>by kernel_rfl) Z fun b28 wd29 HS=>GO.app1 (T:=(Ac .i64)) (j:=1) (jb:=0) (factors.getD a1.toNat 0) HS Z Z Ao Z Z Z U26 Lf Z Z Z c33 Z fun A31 c32 wd30 HS=>aS Z (nL (rN 3 Z (gW (f1 d1 (lR _) _ _ _ _ _ H (HS.pk 2 [1] Z)) Z)))))))
 exact gW (h1 K (lR _) _ _ _ _ _ H HS) Z
theorem Jd.calls {a1 d1:Int} {c1:List Int} {r1:Int} {r2:List Int} {r3:Int} (HS:St w0 w (L)) (r_a:Bv w0 L (Ac .i64) A_a c_a uu c1) (H:Jd.f K a1 d1 c1=some (r1,r2,r3)) :
   Calls prog 49 #[.agg [I a1,I d1,sV A_a c1 c_a].toArray] w (Jd.post w0 L r1 r2 r3):=by
 unfold Jd.f at H
 refine cG func49 Z ?_
 refine sQ (rG (bA HS Z fun b1 wd2 HS=>GO.alloc HS Z bR Z Z fun b3 wd4 HS=>aS Z (nL (sQ ?_))))
 obtain ⟨t5,t6,h7,H⟩:=Cx H
 refine rG (lW 1 HS Z Fx (fJ xG Z (Hr.calls HS (rD 2 r_a) h7) (fun _ wd10 ⟨A8,c9,h11,HS⟩=>⟨_,h11,(pS 5 Z (nL (rN 3 Z ?_)))⟩)))
 rcases iS H with ⟨c12,H⟩|⟨c12,H⟩
 ·
  refine yB Z (nF c12) (sQ (rG (GO.Je (.agg [I 0,.slice none 0 0].toArray) Z Z (fun _=>by kernel_rfl) Z (mV Z (sW 1 HS Z Le Z fun wd20 HS=>aS Z (nL ?_))))))
  replace HS:=HS.Jz (Ac .i64) 2 uu
  obtain ⟨rfl,rfl,rfl⟩:=Kw H
  exact G.Jr _ _ func49 Z (Kc.Lh (j:=2) (vs:=[I 0,.slice none 0 0]) HS Z Z Z Le) Z ⟨_,_,Z,(HS.pk 4 [0] Z)⟩
 refine nB Z (nT c12) (rN 2 Z ?_)
 obtain ⟨t13,h14,H⟩:=bI H
 refine G.Jk mixed (fun w=>St w0 w (Box b1 57 [I a1,I d1,sV A_a c1 c_a]::L)) [1,3] [0,2,5,1,3,4,6,7,8,9] [] (by kernel_rfl) (by kernel_rfl) (HS.drew.pk 3 [2] Z) ?_
 replace HS:=HS.drew
 refine qL Z Z (fun _ _ g=>fL b1 0 Im Z g) Z (GX.ps 2 Z (GX.ls Z Z Z (HS.pk 3 [2] Z) (fun _ HS _ g=>lB 0 HS Z na2 Z g) Z (GX.ls Z Z Z (HS.pk 3 [2] Z) (fun _ HS _ g=>lS Z Z U26 Z g) Z (GX.ps 1 Z (GX.l2 Z (fJ Aam Z (Ev.calls HS (ro 0 Z) h14) (fun _ wd17 ⟨A15,c16,h18,HS⟩=>⟨_,h18,(GX.fin (HS.pk 4 [3] Z) (qL Z Z (fun _ _ g=>GO.Je (.agg [I (w64 (a1 - (t5.length:Int))),sV A15 t13 c16].toArray) Z Z (fun _=>by kernel_rfl) Z g) Z (GX.l2 Z (sW 2 HS Z Le Z fun wd19 HS=>GX.fin (HS.pk 4 [3] Z) (GX.ps 1 Z (GX.nil ?_))))))⟩)))))))
 obtain ⟨rfl,rfl,rfl⟩:=Kw H
 exact G.Jr _ _ func49 Z (Kc.Lh (j:=2) (vs:=[I (w64 (a1 - (t5.length:Int))),sV A15 t13 c16]) HS Z Z Z Le) Z ⟨_,_,Z,(HS.pk 4 [0] Z)⟩
theorem Bz.calls {g1:List (List Am)} {y_a:Nat→(Ty.slice 83 Ak).Lay} {r1:Int} {r2:List Int} {r3:Int} (HS:St w0 w (L)) (r_a:Bv w0 L (Ty.slice 83 Ak) A_a c_a y_a g1) (H:Bz.f K g1=some (r1,r2,r3)) :
   Calls prog 29 #[.agg [sV A_a g1 c_a].toArray] w (Bz.post w0 L r1 r2 r3):=by
 unfold Bz.f at H
 refine cG func29 Z ?_
 refine sQ (rG (bA HS Z fun b1 wd2 HS=>GO.alloc HS Z bR Z Z fun b3 wd4 HS=>aS Z (nL (sQ ?_))))
 obtain ⟨t5,t6,t7,h8,H⟩:=Gb H
 refine rG (lW 1 HS Z Iy (fJ Aal Z (Hu.calls HS (rD 2 r_a) h8) (fun _ wd12 ⟨A9,c10,y11,h13,HS⟩=>⟨_,h13,(pS 3 Z (GO.alloc HS Z bG Z Z fun b14 wd15 HS=>sW 0 HS Z Q4 Z fun wd16 HS=>aS Z (nL (rN 3 Z ?_))))⟩)))
 rcases iS H with ⟨c17,H⟩|⟨c17,H⟩
 ·
  refine yB Z (nF c17) (sQ (rG (GO.Je (.agg [I 0,.slice none 0 0].toArray) Z Z (fun _=>by kernel_rfl) Z (mV Z (sW 2 HS Z Le Z fun wd193 HS=>aS Z (nL ?_))))))
  replace HS:=HS.Jz (Ac .i64) 2 uu
  obtain ⟨rfl,rfl,rfl⟩:=Kw H
  exact G.Jr _ _ func29 Z (Kc.Lh (j:=3) (vs:=[I 0,.slice none 0 0]) HS Z Z Z Le) Z ⟨_,_,Z,(HS.pk 5 [0] Z)⟩
 refine nB Z (nT c17) (rN 2 Z ?_)
 obtain ⟨t18,t19,t20,h21,H⟩:=Gb H
 refine rG (fL b14 0 lD Z (lB 0 HS Z na2 Z (fL b14 1 Ny Z (lB 0 HS Z Ob Z (lS Z Z U65 Z (fJ qI Z (Jp.calls HS  h21) (fun _ wd24 ⟨A22,c23,h25,HS⟩=>⟨_,h25,(GO.alloc HS Z R8 Z Z fun b26 wd27 HS=>sW 0 HS Z Fx Z fun wd28 HS=>nL (rN 5 Z ?_))⟩)))))))
 refine G.name (fun q1 t1=>?_)
 have u1:∀ h1,h1≤K→∀ (d1:List Int) (a1:Int) (w:World),Bz.l1 K h1 t6 t18 t19 d1 a1=some (r1,r2,r3)→St w0 w (Box b3 28 [I 0,.slice none 0 0]::Box b14 67 [I t5,sV A9 t6 c10]::Own (Ty.slice 2 (Ac .i64)) 26 A9 c10 y11 t6::Box b26 57 [I t18,I t19,sV A22 d1 c23]::Own (Ac .i64) 2 A22 c23 uu d1::L)→G prog 29 67 [(2,pT b3),(4,pT b14),(6,pT b26),(7,I a1)] q1 w (Bz.post w0 L r1 r2 r3):=by
  refine lp (fun _ _ w H _=>by rw [Bz.l1] at H; cases H) fun k1 x1 v1 d1 a1 w H HS=>?_
  rw [Bz.l1] at H
  subst t1
  refine rN 2 Z (rG (mV Z (fL b14 1 Ny Z (lB 1 HS Z Ob Z (lS Z Z U65 Z (GO.lss Z Z Z Z (nL ?_)))))))
  rcases iS H with ⟨c139,H⟩|⟨c139,H⟩
  ·
   refine nB Z (tF c139) (rN 2 Z ?_)
   obtain ⟨t184,t185,t186,h187,H⟩:=Gb H
   refine rG (lW 3 HS Z Fx (fJ zY Z (Jd.calls HS (ro 4 Z) h187) (fun _ wd190 ⟨A188,c189,h191,HS⟩=>⟨_,h191,(pS 2 Z (sW 1 HS Z Le Z fun wd192 HS=>aS Z (nL ?_)))⟩)))
   obtain ⟨rfl,rfl,rfl⟩:=Kw H
   exact G.Jr _ _ func29 Z (Kc.Lh (j:=1) (vs:=[I t184,sV A188 t185 c189]) HS Z Z Z Le) Z ⟨_,_,Z,(HS.pk 6 [0] Z)⟩
  refine yB Z (tT c139) (rN 7 Z ?_)
  refine G.name (fun s1 p1=>?_)
  have n1:∀ m1,m1≤k1→∀ (c1:List Int) (e1:Int) (w:World),Bz.l4 K m1 t6 t18 t19 a1 c1 e1=some (r1,r2,r3)→St w0 w (Box b3 28 [I 0,.slice none 0 0]::Box b14 67 [I t5,sV A9 t6 c10]::Own (Ty.slice 2 (Ac .i64)) 26 A9 c10 y11 t6::Box b26 57 [I t18,I t19,sV A22 c1 c23]::Own (Ac .i64) 2 A22 c23 uu c1::L)→G prog 29 67 [(2,pT b3),(4,pT b14),(6,pT b26),(7,I a1),(8,I e1)] s1 w (Bz.post w0 L r1 r2 r3):=by
   refine lp (fun _ _ w H _=>by rw [Bz.l4] at H; cases H) fun f1 o1 i1 c1 e1 w H HS=>?_
   rw [Bz.l4] at H
   subst p1
   refine rN 2 Z ?_
   obtain ⟨c170,H⟩:=iN H
   refine rG (mV Z (fL b14 1 Ny Z (lB 1 HS Z Ob Z (mV Z (iX Z U65 Na (rk (ro 2 Z) HS) c170 (GO.C8 (T:=(Ty.slice 2 (Ac .i64))) (n:=a1.toNat) (o:=0) HS (ro 2 Z) Z Z (getD_some (d:=[]) (ltN c170)) Z Z Ip Z (lS Z Z U26 Z (GO.lss Z Z Z Z (nL ?_)))))))))
   rcases iS H with ⟨c171,H⟩|⟨c171,H⟩
   ·
    refine nB Z (tF c171) (rN 4 Z (gW (v1 f1 (Nat.le_of_succ_le o1) _ _ _ H HS) Z))
   refine yB Z (tT c171) (rN 4 Z ?_)
   obtain ⟨c172,H⟩:=iN H
   refine rG (fL b14 1 Ny Z (lB 1 HS Z Ob Z (mV Z (iX Z U65 Na (rk (ro 2 Z) HS) c170 (GO.C8 (T:=(Ty.slice 2 (Ac .i64))) (n:=a1.toNat) (o:=0) HS (ro 2 Z) Z Z (getD_some (d:=[]) (ltN c170)) Z Z Ip Z (mV Z (GO.ix Z Z Z U26 sz2 ((Bv.elem (ro 2 Z) c170.1 c170.2) _ HS).2.2.1 c172.1 c172.2 Z (GO.C8 (T:=(Ac .i64)) (n:=e1.toNat) (o:=0) HS (Bv.elem (ro 2 Z) c170.1 c170.2) Z Z (getD_some (d:=0) (ltN c172)) Z Z na2 Z (aS Z (nL (rN 2 Z ?_)))))))))))
   rcases iE H with ⟨c173,H⟩|⟨c173,H⟩
   ·
    refine yB Z (tT c173) ?_
    obtain ⟨t174,h175,H⟩:=bI H
    obtain ⟨c176,H⟩:=iN H
    refine rG (lW 3 HS Z Fx (pS 3 Z ?_))
    replace HS:=HS.pk 5 [4,0,1,2,3] Z
    refine fJ rE Z (J2.calls HS  h175) (fun _ wd177 ⟨h178,HS⟩=>⟨_,h178,(nL ?_)⟩)
    replace HS:=HS.G6 (j:=4) (cs':=[I t18,I t19,sV A22 t174 c23]) Z (by simp only [sV,List.length_set,c176]<;>rfl)
    refine rN 3 Z (gW (i1 f1 (lR _) _ _ _ H (HS.pk 5 [1,2,3,4,0] Z)) Z)
   refine nB Z (tF c173) ?_
   obtain ⟨t179,h180,H⟩:=bI H
   obtain ⟨c181,H⟩:=iN H
   refine rG (lW 3 HS Z Fx (mV Z (GO.neg Z Z Z (pS 2 Z ?_))))
   replace HS:=HS.pk 5 [4,0,1,2,3] Z
   refine fJ rE Z (J2.calls HS  h180) (fun _ wd182 ⟨h183,HS⟩=>⟨_,h183,(nL ?_)⟩)
   replace HS:=HS.G6 (j:=4) (cs':=[I t18,I t19,sV A22 t179 c23]) Z (by simp only [sV,List.length_set,c181]<;>rfl)
   refine rN 3 Z (gW (i1 f1 (lR _) _ _ _ H (HS.pk 5 [1,2,3,4,0] Z)) Z)
  exact gW (n1 k1 (lR _) _ _ _ H HS) Z
 exact gW (u1 K (lR _) _ _ _ H (HS.pk 6 [4,2,3,0,1] Z)) Z
theorem F4.calls {faces:List Am} {r1:Bool} (HS:St w0 w (L)) (r_a:Bv w0 L Ak A_a c_a uu faces) (H:F4.f faces=some r1) :
  Calls prog 113 #[sV A_a faces c_a] w (F4.post w0 L r1):=by
 unfold F4.f at H
 refine cG func113 Z ?_
 refine rN 3 Z (rG (mV Z (lS Z Z U81 Z (pS 2 Z (nL ?_)))))
 obtain rfl:=sI H
 exact rT _ func113 Z Z ⟨Z,HS⟩
theorem Aq.calls {s:List (List Am)} {y_a:Nat→(Ty.slice 83 Ak).Lay} {r1:Int} (HS:St w0 w (L)) (r_a:Bv w0 L (Ty.slice 83 Ak) A_a c_a y_a s) (H:Aq.f K s=some r1) :
   Calls prog 148 #[sV A_a s c_a,.func (.func 113) #[] #[]] w (Aq.post w0 L r1):=by
 unfold Aq.f at H
 refine cG func148 Z ?_
 refine rN 4 Z (rG (mV Z (lS Z Z U31 Z (mV Z (nL (rN 2 Z ?_))))))
 refine G.name (fun e1 c1=>?_)
 have d1:∀ a1,a1≤K→∀ (x8:Int) (w:World),Aq.l1 K a1 s x8=some r1→St w0 w (L)→G prog 148 19 [(0,sV A_a s c_a),(1,.func (.func 113) #[] #[]),(7,I (s.length:Int)),(8,I x8)] e1 w (Aq.post w0 L r1):=by
  refine lp (fun _ w H _=>by rw [Aq.l1] at H; cases H) fun b1 g1 f1 x8 w H HS=>?_
  rw [Aq.l1] at H
  subst c1
  refine rN 3 Z ?_
  rcases iS H with ⟨c16,H⟩|⟨c16,H⟩
  ·
   refine nB Z (tF c16) (rN 3 Z ?_)
   obtain rfl:=sI H
   exact rT _ func148 Z Z ⟨Z,HS⟩
  refine yB Z (tT c16) (rN 6 Z ?_)
  obtain ⟨c17,H⟩:=iN H
  obtain ⟨t18,h19,H⟩:=bI H
  refine rG (pS 3 Z (iX Z U31 Lm (rk r_a HS) c17 (GO.C8 (T:=(Ty.slice 83 Ak)) (n:=x8.toNat) (o:=0) HS r_a Z Z (getD_some (d:=[]) (ltN c17)) Z Z Lj Z (GO.clo Z Z func113 gY.2.1 gY.2.2 Z Z (F4.calls HS (Bv.elem r_a c17.1 c17.2) h19) (fun _ wd20 ⟨h21,HS⟩=>⟨_,h21,(nL ?_)⟩)))))
  rcases iE H with ⟨c22,H⟩|⟨c22,H⟩
  ·
   refine yB Z c22 (rN 2 Z ?_)
   obtain rfl:=sI H
   exact rT _ func148 Z Z ⟨Z,HS⟩
  refine nB Z (Cv c22) (rN 4 Z (gW (f1 b1 (lR _) _ _ H HS) Z))
 exact gW (d1 K (lR _) _ _ H HS) Z
theorem Cj.calls {s:List (List Am)} {y_a:Nat→(Ty.slice 83 Ak).Lay} {r1:Bool} (HS:St w0 w (L)) (r_a:Bv w0 L (Ty.slice 83 Ak) A_a c_a y_a s) (H:Cj.f K s=some r1) :
  Calls prog 112 #[sV A_a s c_a,.func (.func 113) #[] #[]] w (Cj.post w0 L r1):=by
 unfold Cj.f at H
 refine cG func112 Z ?_
 refine rN 3 Z ?_
 obtain ⟨t1,h2,H⟩:=bI H
 refine rG (pS 2 Z (fJ uH Z (Aq.calls HS r_a h2) (fun _ wd3 ⟨h4,HS⟩=>⟨_,h4,(pS 2 Z (nL ?_))⟩)))
 obtain rfl:=sI H
 exact rT _ func112 Z Z ⟨Z,HS⟩
theorem Dq.calls {list:List (List Am)} {y_a:Nat→(Ty.slice 83 Ak).Lay} {r1:Int} (HS:St w0 w (L)) (r_a:Bv w0 L (Ty.slice 83 Ak) A_a c_a y_a list) (H:Dq.f list=some r1) :
  Calls prog 114 #[sV A_a list c_a] w (Dq.post w0 L r1):=by
 unfold Dq.f at H
 refine cG func114 Z ?_
 refine rN 3 Z (rG (mV Z (lS Z Z U31 Z (aS Z (nL ?_)))))
 obtain rfl:=sI H
 exact rT _ func114 Z Z ⟨Z,HS⟩
theorem Fu.calls {x low high:Int} {r1:Bool} (HS:St w0 w (L)) (H:Fu.f x low high=some r1) :
   Calls prog 77 #[I x,I low,I high] w (Fu.post w0 L r1):=by
 unfold Fu.f at H
 refine cG func77 Z ?_
 refine rN 3 Z ?_
 rcases iS H with ⟨c1,H⟩|⟨c1,H⟩
 ·
  refine rG (pS 4 Z (kN 10 Z (tF c1) (oF Z (oF Z (oF Z (pS 2 Z (nL ?_)))))))
  obtain rfl:=sI H
  exact rT _ func77 Z Z ⟨Z,HS⟩
 refine rG (pS 4 Z (kN 10 Z (tT c1) (oN Z (mV Z (bK (oN Z (mV Z (bK (oN Z (GO.leq Z Z Z Z (bK (pS 2 Z (nL ?_)))))))))))))
 obtain rfl:=sI H
 exact rT _ func77 Z Z ⟨Z,HS⟩
theorem Ez.calls {list:List (List Am)} {i:Int} {y_a:Nat→(Ty.slice 83 Ak).Lay} {r1:Bool} (HS:St w0 w (L)) (r_a:Bv w0 L (Ty.slice 83 Ak) A_a c_a y_a list) (H:Ez.f list i=some r1) :
  Calls prog 149 #[sV A_a list c_a,I i] w (Ez.post w0 L r1):=by
 unfold Ez.f at H
 refine cG func149 Z ?_
 refine rN 3 Z ?_
 obtain ⟨t1,h2,H⟩:=bI H
 obtain ⟨t5,h6,H⟩:=bI H
 refine rG (pS 2 Z (fJ Qw Z (Dq.calls HS r_a h2) (fun _ wd3 ⟨h4,HS⟩=>⟨_,h4,(GO.sub Z Z Z Z (fJ Qg Z (Fu.calls HS  h6) (fun _ wd7 ⟨h8,HS⟩=>⟨_,h8,(aS Z (nL ?_))⟩)))⟩)))
 obtain rfl:=sI H
 exact rT _ func149 Z Z ⟨Z,HS⟩
theorem Kb.calls {p:Int} {r1:Bool} (HS:St w0 w (L)) (H:Kb.f p=some r1) :
  Calls prog 150 #[I p] w (Kb.post w0 L r1):=by
 unfold Kb.f at H
 refine cG func150 Z ?_
 refine rN 3 Z ?_
 obtain ⟨t1,h2,H⟩:=bI H
 refine rG (mV Z (fJ Qg Z (Fu.calls HS  h2) (fun _ wd3 ⟨h4,HS⟩=>⟨_,h4,(aS Z (nL ?_))⟩)))
 obtain rfl:=sI H
 exact rT _ func150 Z Z ⟨Z,HS⟩
theorem G5.calls {s:List Int} {i j_:Int} {r1:List Int} (HS:St w0 w (Own (Ac .i64) 2 A_a c_a uu s::L)) (H:G5.f s i j_=some r1) :
   Calls prog 200 #[sV A_a s c_a,I i,I j_] w (G5.post w0 L r1):=by
 unfold G5.f at H
 refine cG func200 Z ?_
 refine rN 3 Z ?_
 obtain ⟨c1,H⟩:=iN H
 obtain ⟨c2,H⟩:=iN H
 refine rG (pS 4 Z (lS Z Z U26 Z (GO.slM Z Z Z Z Z U26 sz2 c1 c2 (Int.ofNat_le.2 ((ro 0 Z) _ HS).1) Z (nL (rN 3 Z ?_)))))
 rcases iE H with ⟨c3,H⟩|⟨c3,H⟩
 ·
  refine yB Z (tT c3) (rN 2 Z ?_)
  obtain rfl:=sI H
  exact rT _ func200 Z Z ⟨_,_,Z,HS⟩
 refine nB Z (tF c3) (rN 2 Z (rG (mV Z (lS Z Z U26 Z (aS Z (nL (sQ ?_)))))))
 obtain ⟨c4,H⟩:=iN H
 obtain ⟨c5,H⟩:=iN H
 obtain ⟨c7,H⟩:=iN H
 have h8:=gP c7 (leN c5)
 refine G.lex mixed [0,1,3,4,2,5,6,7] (by kernel_rfl) ?_
 replace HS:=HS.drew
 refine GX.ps 4 Z (GX.l1 Z Z Z (fun _ g=>GO.slH (T:=(Ac .i64)) HS (ro 0 Z) Z Z Z U26 sz2 c4.1 c4.2 Z g) Z (GX.l1 Z Z Z (fun _ g=>GO.slL (T:=(Ac .i64)) HS (ro 0 Z) Z Z Z U26 sz2 c5.1 c5.2 Z g) Z (GX.l2 Z (GO.uY (T:=(Ac .i64)) (j:=0) (i1:=i.toNat) (l1:=j_.toNat) HS Z Ao (fun _ _=>Z) Z Z Z (by rw [List.drop_zero,List.length_take]; exact Nat.min_eq_left (leN c4)) (by rw [List.length_drop,List.take_length]) U26 Lf c7 (leN c5) Z fun wd6 HS=>GX.fin tv (GX.ps 1 Z (GX.nil (sQ ?_)))))))
 obtain ⟨c9,H⟩:=iN H
 obtain ⟨c10,H⟩:=iN H
 have h12:=Rw (xs:=(over s i.toNat (s.drop j_.toNat))) (z:=0) (fE (Tg c9) (leN c10))
 refine rG (pS 2 Z (lS Z Z U26 Z (mV Z (GO.zX (T:=(Ac .i64)) (xs:=(over s i.toNat (s.drop j_.toNat))) ((ro 0 Z) _ HS).1 Z Z Z Z U26 sz2 c9 c10 Z (GO.aF (T:=(Ac .i64)) (j:=0) (l:=((((over s i.toNat (s.drop j_.toNat)).take (i.toNat+(s.length - j_.toNat))).drop 0).length:Int).toNat) 0 () HS Z Ao Z Z U26 zr2 Z Z (qC (leN c10) ((ro 0 Z) _ HS).1) (fE (Tg c9) (leN c10)) (fun _=>Z) fun wd11 HS=>nL ?_)))))
 obtain ⟨c13,H⟩:=iN H
 refine G.len (t:=0) (m:=(((over (over s i.toNat (s.drop j_.toNat)) (((((over s i.toNat (s.drop j_.toNat)).take (i.toNat+(s.length - j_.toNat))).drop 0).length:Int).toNat) (List.replicate (((over s i.toNat (s.drop j_.toNat)).take ((s.length:Int).toNat)).drop (((((over s i.toNat (s.drop j_.toNat)).take (i.toNat+(s.length - j_.toNat))).drop 0).length:Int).toNat)).length 0)).take (i.toNat+(s.length - j_.toNat))).drop 0).length) Z (rR h12) (rN 2 Z ?_)
 replace HS:=HS.Xy (A':=(Jn A_a 0 c_a 1)) (c':=(c_a - 0)) (j:=0) (l:=0) (h:=(i.toNat+(s.length - j_.toNat))) (m:=c_a) Z (Nat.zero_le _) c13 (Nat.le_trans c13 ((ro 0 Z) _ HS).1) (lR _) Z Z
 obtain rfl:=sI H
 exact rT _ func200 Z Z ⟨_,_,Z,HS⟩
theorem Ej.calls {p r1:Int} {r2 r3 r4:Int} (HS:St w0 w (L)) (H:Ej.f K p=some (r1,r2,r3,r4)) :
   Calls prog 180 #[I p] w (Ej.post w0 L r1 r2 r3 r4):=by
 unfold Ej.f at H
 refine cG func180 Z ?_
 refine sQ (rG (GO.alloc HS Z Ug Z Z fun b1 wd2 HS=>nL (sQ (rG (GO.alloc HS Z Ug Z Z fun b3 wd4 HS=>nL (sQ (rG (GO.D8 (el:=2) ([I 0,I 1,I 2,I 3]) HS Z Z (fun _=>by kernel_rfl) Z fun b5 wd6 HS=>?_))))))))
 replace HS:=HS.Ib (T:=(Ac .i64)) (j:=0) Z Ao uu ([0,1,2,3]:List Int) Z (Ky Z)
 refine GO.Ke (t:=8) (m:=([0,1,2,3]:List Int).length) (c':=([0,1,2,3]:List Int).length) Z Z Z (aS Z (nL (rN 2 Z (rG (GO.D8 (el:=2) ([I 6,I 2,I 1,I 1]) HS Z Z (fun _=>by kernel_rfl) Z fun b7 wd8 HS=>lS Z Z U26 Z (mV Z (nL (rN 2 Z ?_))))))))
 replace HS:=HS.Ib (T:=(Ac .i64)) (j:=0) Z Ao uu ([6,2,1,1]:List Int) Z (Ky Z)
 refine G.Ke (t:=9) (m:=([6,2,1,1]:List Int).length) (c':=([6,2,1,1]:List Int).length) Z Z Z ?_
 refine G.name (fun n1 k1=>?_)
 have m1:∀ h1,h1≤K→∀ (c1 e1:Int) (A21:Option Addr) (c22:Nat) (a1:List Int) (x24 f1:Int) (d1 g1:Int) (w:World),Ej.l1 K h1 c1 e1 a1 x24 f1 d1 g1=some (r1,r2,r3,r4)→St w0 w (Box b1 160 [I 0,I 0,I 0,I 0]::Box b3 160 [I e1,I f1,I d1,I g1]::Own (Ac .i64) 2 A21 c22 uu a1::Own (Ac .i64) 2 (sb b7) (([6,2,1,1]:List Int).length) uu ([6,2,1,1]:List Int)::L)→G prog 180 35 [(0,I c1),(2,pT b1),(3,pT b3),(4,sV A21 a1 c22),(9,sV (sb b7) ([6,2,1,1]:List Int) (([6,2,1,1]:List Int).length)),(10,I 4),(11,I x24)] n1 w (Ej.post w0 L r1 r2 r3 r4):=by
  refine lp (fun _ _ _ _ _ _ _ _ _ w H _=>by rw [Ej.l1] at H; cases H) fun i1 p1 o1 c1 e1 A21 c22 a1 x24 f1 d1 g1 w H HS=>?_
  rw [Ej.l1] at H
  subst k1
  refine rN 3 Z ?_
  rcases iS H with ⟨c54,H⟩|⟨c54,H⟩
  ·
   refine nB Z (tF c54) (rN 2 Z (rG (lW 1 HS Z S9 (sW 0 HS Z S9 Z fun wd66 HS=>nL ?_))))
   obtain ⟨rfl,rfl,rfl,rfl⟩:=Sl H
   exact rT _ func180 Z (Kc.Lh (j:=0) (vs:=[I e1,I f1,I d1,I g1]) HS Z Z Z S9) ⟨Z,(HS.pk 4 [] Z)⟩
  refine yB Z (tT c54) (rN 4 Z ?_)
  obtain ⟨c55,H⟩:=iN H
  refine rG (mV Z (iX Z U26 sz2 (fun _=>⟨_,_,Z⟩) c55 (GO.C8 (T:=(Ac .i64)) (n:=x24.toNat) (o:=0) HS (ro 3 Z) Z Z (getD_some (d:=0) (ltN c55)) Z Z na2 Z (pS 2 Z (nL (sQ ?_))))))
  obtain ⟨c56,H⟩:=Ll H
  refine rG (pS 2 Z (GO.quo Z Z Z c56 Z (aS Z (nL (sQ (rG (pS 2 Z (GO.rem Z Z Z c56 Z (aS Z (nL (sQ ?_)))))))))))
  obtain ⟨c57,H⟩:=iN H
  obtain ⟨c58,H⟩:=iN H
  refine rG (pS 3 Z (iX Z U26 sz2 (rk (ro 2 Z) HS) c57 (GO.C8 (T:=(Ac .i64)) (n:=(w64 (c1.tdiv (([6,2,1,1]:List Int).getD x24.toNat 0))).toNat) (o:=0) HS (ro 2 Z) Z Z (getD_some (d:=0) (ltN c57)) Z Z na2 Z (GO.ixW Z Z Z L8 sz2 c58 Z (GO.stW (j:=1) (o:=0) (sz:=1) (vs:=[I (a1.getD ((w64 (c1.tdiv (([6,2,1,1]:List Int).getD x24.toNat 0))).toNat) 0)]) (fun u_=>[I (se 0 u_ (a1.getD ((w64 (c1.tdiv (([6,2,1,1]:List Int).getD x24.toNat 0))).toNat) 0) e1),I (se 1 u_ (a1.getD ((w64 (c1.tdiv (([6,2,1,1]:List Int).getD x24.toNat 0))).toNat) 0) f1),I (se 2 u_ (a1.getD ((w64 (c1.tdiv (([6,2,1,1]:List Int).getD x24.toNat 0))).toNat) 0) d1),I (se 3 u_ (a1.getD ((w64 (c1.tdiv (([6,2,1,1]:List Int).getD x24.toNat 0))).toNat) 0) g1)]) HS Z Z Z Z Z c58 (htN na2 Z) Z Z (four Z Z Z Z) fun wd59 HS=>nL ?_)))))
  obtain ⟨t60,h61,H⟩:=bI H
  refine rG (pS 4 Z ?_)
  replace HS:=HS.pk 4 [2,0,1,3] Z
  refine fJ uU Z (G5.calls HS  h61) (fun _ wd64 ⟨A62,c63,h65,HS⟩=>⟨_,h65,(aS Z (nL (rN 3 Z (gW (o1 i1 (lR _) _ _ _ _ _ _ _ _ _ _ H (HS.pk 4 [1,2,0,3] Z)) Z))))⟩)
 exact gW (m1 K (lR _) _ _ _ _ _ _ _ _ _ _ H (HS.pk 4 [3,2,1,0] Z)) Z
theorem G7.calls {a1 c1:Int} {Fg r1:Int} (HS:St w0 w (L)) (H:G7.f K a1 c1 Fg=some r1) :
  Calls prog 151 #[.agg [I a1,I c1].toArray,I Fg] w (G7.post w0 L r1):=by
 unfold G7.f at H
 refine cG func151 Z ?_
 refine sQ (rG (bA HS Z fun b1 wd2 HS=>aS Z (nL (sQ ?_))))
 obtain ⟨t3,t4,t5,t6,h7,H⟩:=Ii H
 obtain ⟨c10,H⟩:=iN H
 refine rG (fL b1 1 J7 Z (lB 0 HS Z na2 Z (fJ Oz Z (Ej.calls HS  h7) (fun _ wd8 ⟨h9,HS⟩=>⟨_,h9,(mV Z (GO.mR ([t3,t4,t5,t6]:List Int) Z Z Z L8 U2 sz2 Z c10.1 c10.2 Z (aS Z (nL ?_))))⟩))))
 obtain rfl:=sI H
 exact rT _ func151 Z Z ⟨Z,(HS.pk 1 [] Z)⟩
theorem Dz.calls {a1 c1:Int} {d1 e1 r1:Int} (HS:St w0 w (L)) (H:Dz.f K a1 c1 d1 e1=some r1) :
   Calls prog 172 #[.agg [I a1,I c1,I d1,I e1].toArray] w (Dz.post w0 L r1):=by
 unfold Dz.f at H
 refine cG func172 Z ?_
 refine sQ (rG (bA HS Z fun b1 wd2 HS=>aS Z (nL (rN 4 Z (rG (GO.D8 (el:=2) ([I 6,I 2,I 1,I 1]) HS Z Z (fun _=>by kernel_rfl) Z fun b3 wd4 HS=>lS Z Z U26 Z (mV Z (nL (rN 2 Z ?_)))))))))
 replace HS:=HS.Ib (T:=(Ac .i64)) (j:=0) Z Ao uu ([6,2,1,1]:List Int) Z (Ky Z)
 refine G.Ke (t:=9) (m:=([6,2,1,1]:List Int).length) (c':=([6,2,1,1]:List Int).length) Z Z Z ?_
 refine G.name (fun s1 u1=>?_)
 have v1:∀ i1,i1≤K→∀ (f1 x19:Int) (w:World),Dz.l1 K i1 a1 c1 d1 e1 f1 x19=some r1→St w0 w (Box b1 160 [I a1,I c1,I d1,I e1]::Own (Ac .i64) 2 (sb b3) (([6,2,1,1]:List Int).length) uu ([6,2,1,1]:List Int)::L)→G prog 172 41 [(1,pT b1),(3,I f1),(9,sV (sb b3) ([6,2,1,1]:List Int) (([6,2,1,1]:List Int).length)),(10,I 4),(11,I x19)] s1 w (Dz.post w0 L r1):=by
  refine lp (fun _ _ w H _=>by rw [Dz.l1] at H; cases H) fun m1 y1 x1 f1 x19 w H HS=>?_
  rw [Dz.l1] at H
  subst u1
  refine rN 3 Z ?_
  rcases iS H with ⟨c35,H⟩|⟨c35,H⟩
  ·
   refine nB Z (tF c35) (rN 3 Z ?_)
   obtain rfl:=sI H
   exact rT _ func172 Z Z ⟨Z,(HS.pk 2 [] Z)⟩
  refine yB Z (tT c35) (rN 4 Z ?_)
  obtain ⟨c36,H⟩:=iN H
  refine rG (mV Z (iX Z U26 sz2 (fun _=>⟨_,_,Z⟩) c36 (GO.C8 (T:=(Ac .i64)) (n:=x19.toNat) (o:=0) HS (ro 1 Z) Z Z (getD_some (d:=0) (ltN c36)) Z Z na2 Z (pS 2 Z (nL (sQ ?_))))))
  obtain ⟨c37,H⟩:=iN H
  refine rG (mV Z (GO.ixW Z Z Z L8 sz2 c37 Z (GO.ldW (j:=0) ([a1,c1,d1,e1]:List Int) HS Z Z Z c37 Z Z na2 Z (aS Z (nL (rN 2 Z ?_))))))
  obtain ⟨c38,H⟩:=iN H
  refine rG (mV Z (GO.rU (m:=(([a1,c1,d1,e1]:List Int).take x19.toNat).length) Z Z Z L8 sz2 c38 (pJ (leN c38)) Z (lS Z Z U26 Z (mV Z (nL (rN 2 Z ?_))))))
  refine G.name (fun t1 q1=>?_)
  have o1:∀ n1,n1≤m1→∀ (h1 x43:Int) (w:World),Dz.l4 K n1 a1 c1 d1 e1 f1 x19 h1 x43=some r1→St w0 w (Box b1 160 [I a1,I c1,I d1,I e1]::Own (Ac .i64) 2 (sb b3) (([6,2,1,1]:List Int).length) uu ([6,2,1,1]:List Int)::L)→G prog 172 41 [(1,pT b1),(3,I f1),(4,I x19),(5,I (([6,2,1,1]:List Int).getD x19.toNat 0)),(6,I h1),(9,sV (sb b3) ([6,2,1,1]:List Int) (([6,2,1,1]:List Int).length)),(10,I 4),(11,I x19),(20,sV (sb b1) (([a1,c1,d1,e1]:List Int).take x19.toNat) 4),(21,I ((([a1,c1,d1,e1]:List Int).take x19.toNat).length:Int)),(22,I x43)] t1 w (Dz.post w0 L r1):=by
   refine lp (fun _ _ w H _=>by rw [Dz.l4] at H; cases H) fun g1 p1 k1 h1 x43 w H HS=>?_
   rw [Dz.l4] at H
   subst q1
   refine rN 3 Z ?_
   rcases iS H with ⟨c47,H⟩|⟨c47,H⟩
   ·
    refine nB Z (tF c47) (rN 5 Z (gW (x1 g1 (Nat.le_of_succ_le p1) _ _ _ H HS) Z))
   refine yB Z (tT c47) (rN 4 Z ?_)
   obtain ⟨c48,H⟩:=iN H
   refine rG (iX Z U26 sz2 (fun _=>⟨_,_,Z⟩) c48 (GO.C8 (T:=(Ac .i64)) (n:=x43.toNat) (o:=0) HS (Bv.take (Bv.box (j:=0) uu ([a1,c1,d1,e1]:List Int) Z Z Z Z (fun _ _ _ _ _=>tv)) (leN c38)) Z Z (getD_some (d:=0) (ltN c48)) Z Z na2 Z (aS Z (nL (sQ (rG (pS 2 Z (GO.ixW Z Z Z L8 sz2 c37 Z (GO.ldW (j:=0) ([a1,c1,d1,e1]:List Int) HS Z Z Z c37 Z Z na2 Z (GO.lss Z Z Z Z (nL ?_)))))))))))
   rcases iS H with ⟨c49,H⟩|⟨c49,H⟩
   ·
    refine nB Z (tF c49) (rN 4 Z (gW (k1 g1 (lR _) _ _ _ H HS) Z))
   refine yB Z (tT c49) (rN 4 Z (gW (k1 g1 (lR _) _ _ _ H HS) Z))
  exact gW (o1 m1 (lR _) _ _ _ H HS) Z
 exact gW (v1 K (lR _) _ _ _ H (HS.pk 2 [1,0] Z)) Z
theorem Io.calls {p r1:Int} (HS:St w0 w (L)) (H:Io.f K p=some r1) :
   Calls prog 187 #[I p] w (Io.post w0 L r1):=by
 unfold Io.f at H
 refine cG func187 Z ?_
 refine rN 3 Z (rG (GO.alloc HS Z Ug Z Z fun b1 wd2 HS=>nL (rN 2 Z ?_)))
 obtain ⟨t3,t4,t5,t6,h7,H⟩:=Ii H
 refine rG (mV Z (fJ Oz Z (Ej.calls HS  h7) (fun _ wd8 ⟨h9,HS⟩=>⟨_,h9,(mV Z (nL (rN 2 Z ?_)))⟩)))
 refine G.name (fun k1 h1=>?_)
 have i1:∀ f1,f1≤K→∀ (e1 c1:Int) (d1 a1 x16:Int) (w:World),Io.l1 K f1 t3 t4 t5 t6 e1 c1 d1 a1 x16=some r1→St w0 w (Box b1 160 [I e1,I c1,I d1,I a1]::L)→G prog 187 18 [(3,pT b1),(7,.agg [I t3,I t4,I t5,I t6].toArray),(8,I x16)] k1 w (Io.post w0 L r1):=by
  refine lp (fun _ _ _ _ _ w H _=>by rw [Io.l1] at H; cases H) fun g1 n1 m1 e1 c1 d1 a1 x16 w H HS=>?_
  rw [Io.l1] at H
  subst h1
  refine rN 3 Z ?_
  rcases iS H with ⟨c25,H⟩|⟨c25,H⟩
  ·
   refine nB Z (tF c25) (rN 2 Z ?_)
   obtain ⟨t29,h30,H⟩:=bI H
   refine rG (lW 0 HS Z S9 (fJ bN Z (Dz.calls HS  h30) (fun _ wd31 ⟨h32,HS⟩=>⟨_,h32,(aS Z (nL ?_))⟩)))
   obtain rfl:=sI H
   exact rT _ func187 Z Z ⟨Z,(HS.pk 1 [] Z)⟩
  refine yB Z (tT c25) (rN 4 Z ?_)
  obtain ⟨c26,H⟩:=iN H
  refine rG (mV Z (GO.mR ([t3,t4,t5,t6]:List Int) Z Z Z L8 U2 sz2 Z c26.1 c26.2 Z (pS 2 Z (nL ?_))))
  obtain ⟨c27,H⟩:=iN H
  refine rG (pS 2 Z (GO.ixW Z Z Z L8 sz2 c27 Z (GO.stW (j:=0) (o:=0) (sz:=1) (vs:=[I x16]) (fun u_=>[I (se 0 u_ x16 e1),I (se 1 u_ x16 c1),I (se 2 u_ x16 d1),I (se 3 u_ x16 a1)]) HS Z Z Z Z Z c27 (htN na2 Z) Z Z (four Z Z Z Z) fun wd28 HS=>nL (rN 3 Z (gW (m1 g1 (lR _) _ _ _ _ _ _ H HS) Z)))))
 exact gW (i1 K (lR _) _ _ _ _ _ _ H HS) Z
theorem Hf.calls {a1 c1:Int} {tet r1 r2:Int} (HS:St w0 w (L)) (H:Hf.f K a1 c1 tet=some (r1,r2)) :
  Calls prog 152 #[.agg [I a1,I c1].toArray,I tet] w (Hf.post w0 L r1 r2):=by
 unfold Hf.f at H
 refine cG func152 Z ?_
 refine sQ (rG (bA HS Z fun b1 wd2 HS=>GO.alloc HS Z Pb Z Z fun b3 wd4 HS=>nL (sQ ?_)))
 obtain ⟨t5,h6,H⟩:=bI H
 refine rG (mV Z (fL b1 1 J7 Z (lB 1 HS Z na2 Z (fJ uJ Z (Io.calls HS  h6) (fun _ wd7 ⟨h8,HS⟩=>⟨_,h8,(GO.Je (.agg [I tet,I t5].toArray) Z Z (fun _=>by kernel_rfl) Z (sW 0 HS Z Jf Z fun wd9 HS=>nL ?_))⟩)))))
 obtain ⟨rfl,rfl⟩:=H8 H
 exact rT _ func152 Z (Kc.Lh (j:=0) (vs:=[I tet,I t5]) HS Z Z Z Jf) ⟨Z,(HS.pk 2 [] Z)⟩
theorem Eg.calls {a1:List (List Am)} {tet f:Int} {y_a:Nat→(Ty.slice 83 Ak).Lay} {r1:Bool} (HS:St w0 w (L)) (r_a:Bv w0 L (Ty.slice 83 Ak) A_a c_a y_a a1) (H:Eg.f K a1 tet f=some r1) :
   Calls prog 115 #[.agg [sV A_a a1 c_a].toArray,I tet,I f] w (Eg.post w0 L r1):=by
 unfold Eg.f at H
 refine cG func115 Z ?_
 refine sQ (rG (bA HS Z fun b1 wd2 HS=>aS Z (nL (sQ ?_))))
 obtain ⟨c3,H⟩:=iN H
 obtain ⟨c4,H⟩:=iN H
 obtain ⟨e5,h6,H⟩:=Gp H
 refine rG (fL b1 0 F3 Z (lB 0 HS Z Jo Z (mV Z (iX Z U31 Lm (rk (rD 1 r_a) HS) c3 (GO.C8 (T:=(Ty.slice 83 Ak)) (n:=tet.toNat) (o:=0) HS (rD 1 r_a) Z Z (getD_some (d:=[]) (ltN c3)) Z Z Lj Z (mV Z (GO.ix Z Z Z U81 Ls ((Bv.elem (rD 1 r_a) c3.1 c3.2) _ HS).2.2.1 c4.1 c4.2 Z (GO.Kk (T:=Ak) (n:=f.toNat) HS (Bv.elem (rD 1 r_a) c3.1 c3.2) Z Z (Gt (ltN c4) h6) Jf Z (GO.alloc HS Z Pb Z Z fun b7 wd8 HS=>sW 0 HS Z Jf Z fun wd9 HS=>nL (rN 2 Z (rG (fL b7 0 F6 Z ?_))))))))))))
 refine lB 0 HS Z na2 Z (GO.eql Z Z Z Z (nL ?_))
 rcases iE H with ⟨c10,H⟩|⟨c10,H⟩
 ·
  refine yB Z (tT c10) (sQ (rG (fL b7 1 J7 Z (lB 0 HS Z na2 Z (pS 2 Z (nL ?_))))))
  obtain rfl:=sI H
  exact rT _ func115 Z Z ⟨Z,(HS.pk 2 [] Z)⟩
 refine nB Z (tF c10) (rN 3 Z ?_)
 obtain ⟨t20,h21,H⟩:=bI H
 rcases iS H with ⟨c24,H⟩|⟨c24,H⟩
 ·
  refine rG (fL b1 0 F3 Z (lB 1 HS Z Jo Z (fL b7 0 F6 Z (lB 0 HS Z na2 Z (fJ lT Z (Ez.calls HS (rD 2 r_a) h21) (fun _ wd22 ⟨h23,HS⟩=>⟨_,h23,(pS 2 Z (kN 29 Z (congrArg Bool.not (Cv c24)) (oF Z (oF Z (oF Z (oF Z (GO.Gq Z Z Z Z Z (nL (rN 3 Z ?_)))))))))⟩))))))
  obtain rfl:=sI H
  exact rT _ func115 Z Z ⟨Z,(HS.pk 2 [] Z)⟩
 obtain ⟨t25,h26,H⟩:=bI H
 refine rG (fL b1 0 F3 Z (lB 1 HS Z Jo Z (fL b7 0 F6 Z (lB 0 HS Z na2 Z (fJ lT Z (Ez.calls HS (rD 2 r_a) h21) (fun _ wd22 ⟨h23,HS⟩=>⟨_,h23,(pS 2 Z (kN 29 Z (congrArg Bool.not c24) (oN Z (fL b7 1 J7 Z (bK (oN Z (lB 0 HS Z na2 Z (bK (oN Z ?_)))))))))⟩))))))
 refine fJ vD Z (Kb.calls HS  h26) (fun _ wd27 ⟨h28,HS⟩=>⟨_,h28,(bK (oN Z (GO.not Z Z Z (bK (GO.Iw Z Z Z Z Z (nL ?_))))))⟩)
 rcases iS H with ⟨c29,H⟩|⟨c29,H⟩
 ·
  refine yB Z (congrArg Bool.not (Cv c29)) (rN 2 Z ?_)
  obtain rfl:=sI H
  exact rT _ func115 Z Z ⟨Z,(HS.pk 2 [] Z)⟩
 refine nB Z (congrArg Bool.not c29) (rN 2 Z ?_)
 obtain ⟨t30,h31,H⟩:=bI H
 refine rG (lW 0 HS Z Jf (mV Z (fJ mY Z (G7.calls HS  h31) (fun _ wd32 ⟨h33,HS⟩=>⟨_,h33,(aS Z (nL (sQ ?_)))⟩))))
 obtain ⟨c34,H⟩:=iN H
 obtain ⟨c35,H⟩:=iN H
 obtain ⟨e36,h37,H⟩:=Gp H
 obtain ⟨t38,t39,h40,H⟩:=Cx H
 rcases iS H with ⟨c43,H⟩|⟨c43,H⟩
 ·
  refine G.Jk mixed (fun w=>St w0 w (Box b7 83 [I e5.Tet,I e5.Perm]::Box b1 33 [sV A_a a1 c_a]::L)) [1,3,5,8,9,15] [0,2,6,10,1,3,4,5,7,8,9,11,12,13,14,16,15,17,18,19,20,21,22,23,24] [] (by kernel_rfl) (by kernel_rfl) HS.drew ?_
  replace HS:=HS.drew
  refine qL Z Z (fun _ _ g=>fL b1 0 F3 Z g) Z (qL Z Z (fun _ _ g=>fL b7 0 F6 Z g) Z (GX.ps 2 Z (GX.ls Z Z Z HS (fun _ HS _ g=>lB 1 HS Z Jo Z g) Z (GX.ls Z Z Z HS (fun _ HS _ g=>lB 0 HS Z na2 Z g) Z (qL Z Z (fun _ _ g=>iX Z U31 Lm (rk (rD 2 r_a) HS) c34 g) Z (GX.ls Z Z Z HS (fun _ HS _ g=>GO.C8 (T:=(Ty.slice 83 Ak)) (n:=e5.Tet.toNat) (o:=0) HS (rD 2 r_a) Z Z (getD_some (d:=[]) (ltN c34)) Z Z Lj Z g) Z (qL Z Z (fun _ _ g=>GO.ix Z Z Z U81 Ls ((Bv.elem (rD 2 r_a) c34.1 c34.2) _ HS).2.2.1 c35.1 c35.2 Z g) Z (GX.ls Z Z Z HS (fun _ HS _ g=>GO.Kk (T:=Ak) (n:=t30.toNat) HS (Bv.elem (rD 2 r_a) c34.1 c34.2) Z Z (Gt (ltN c35) h37) Jf Z g) Z (GX.ls Z Z Z HS (fun _ HS _ g=>lW 0 HS Z Jf g) Z (GX.l2 Z (fJ aO Z (Hf.calls HS  h40) (fun _ wd41 ⟨h42,HS⟩=>⟨_,h42,(GX.fin HS (qL Z Z (fun _ _ g=>GO.kR Z Z Z fP (fun _=>gM) Z g) Z (qL Z Z (fun _ _ g=>mV Z (kN 51 Z (tF c43) g)) Z ?_)))⟩))))))))))))
  refine qL Z Z (fun _ _ g=>oF Z g) Z (qL Z Z (fun _ _ g=>oF Z g) Z (GX.ls Z Z Z HS (fun _ HS _ g=>oF Z g) Z (qL Z Z (fun _ _ g=>oF Z g) Z (qL Z Z (fun _ _ g=>oF Z g) Z (qL Z Z (fun _ _ g=>GO.Mv Z Z Z Z Z Z g) Z (qL Z Z (fun _ _ g=>GO.Mv Z Z Z Z Z Z g) Z (qL Z Z (fun _ _ g=>GO.Mv Z Z Z Z Z Z g) Z (qL Z Z (fun _ _ g=>oF Z g) Z (GX.ps 2 Z (GX.nil ?_))))))))))
  obtain rfl:=sI H
  exact rT _ func115 Z Z ⟨Z,(HS.pk 2 [] Z)⟩
 rcases iS H with ⟨c44,H⟩|⟨c44,H⟩
 ·
  refine G.Jk mixed (fun w=>St w0 w (Box b7 83 [I e5.Tet,I e5.Perm]::Box b1 33 [sV A_a a1 c_a]::L)) [1,3,5,8,9,15] [0,2,6,10,1,3,4,5,7,8,9,11,12,13,14,16,15,17,18,19,20,21,22,23,24] [] (by kernel_rfl) (by kernel_rfl) HS.drew ?_
  replace HS:=HS.drew
  refine qL Z Z (fun _ _ g=>fL b1 0 F3 Z g) Z (qL Z Z (fun _ _ g=>fL b7 0 F6 Z g) Z (GX.ps 2 Z (GX.ls Z Z Z HS (fun _ HS _ g=>lB 1 HS Z Jo Z g) Z (GX.ls Z Z Z HS (fun _ HS _ g=>lB 0 HS Z na2 Z g) Z (qL Z Z (fun _ _ g=>iX Z U31 Lm (rk (rD 2 r_a) HS) c34 g) Z (GX.ls Z Z Z HS (fun _ HS _ g=>GO.C8 (T:=(Ty.slice 83 Ak)) (n:=e5.Tet.toNat) (o:=0) HS (rD 2 r_a) Z Z (getD_some (d:=[]) (ltN c34)) Z Z Lj Z g) Z (qL Z Z (fun _ _ g=>GO.ix Z Z Z U81 Ls ((Bv.elem (rD 2 r_a) c34.1 c34.2) _ HS).2.2.1 c35.1 c35.2 Z g) Z (GX.ls Z Z Z HS (fun _ HS _ g=>GO.Kk (T:=Ak) (n:=t30.toNat) HS (Bv.elem (rD 2 r_a) c34.1 c34.2) Z Z (Gt (ltN c35) h37) Jf Z g) Z (GX.ls Z Z Z HS (fun _ HS _ g=>lW 0 HS Z Jf g) Z (GX.l2 Z (fJ aO Z (Hf.calls HS  h40) (fun _ wd41 ⟨h42,HS⟩=>⟨_,h42,(GX.fin HS (qL Z Z (fun _ _ g=>GO.kR Z Z Z fP (fun _=>gM) Z g) Z (qL Z Z (fun _ _ g=>mV Z (kN 51 Z (tT c43) g)) Z ?_)))⟩))))))))))))
  refine qL Z Z (fun _ _ g=>oN Z (fL b7 0 F6 Z (bK g))) Z (qL Z Z (fun _ _ g=>oN Z (mV Z (bK g))) Z (GX.ls Z Z Z HS (fun _ HS _ g=>oN Z (lB 0 HS Z na2 Z (bK g))) Z (qL Z Z (fun _ _ g=>oN Z (GO.neq Z Z Z Z (bK g))) Z (qL Z Z (fun _ _ g=>oN Z (mV Z (bK (kN 56 Z (nF c44) g)))) Z (qL Z Z (fun _ _ g=>oF Z g) Z (qL Z Z (fun _ _ g=>oF Z g) Z (qL Z Z (fun _ _ g=>oF Z g) Z (qL Z Z (fun _ _ g=>oN Z (GO.Gq Z Z Z Z Z (bK g))) Z (GX.ps 2 Z (GX.nil ?_))))))))))
  obtain rfl:=sI H
  exact rT _ func115 Z Z ⟨Z,(HS.pk 2 [] Z)⟩
 refine G.Jk mixed (fun w=>St w0 w (Box b7 83 [I e5.Tet,I e5.Perm]::Box b1 33 [sV A_a a1 c_a]::L)) [1,3,5,8,9,15] [0,2,6,10,1,3,4,5,7,8,9,11,12,13,14,16,15,17,18,19,20,21,22,23,24] [] (by kernel_rfl) (by kernel_rfl) HS.drew ?_
 replace HS:=HS.drew
 refine qL Z Z (fun _ _ g=>fL b1 0 F3 Z g) Z (qL Z Z (fun _ _ g=>fL b7 0 F6 Z g) Z (GX.ps 2 Z (GX.ls Z Z Z HS (fun _ HS _ g=>lB 1 HS Z Jo Z g) Z (GX.ls Z Z Z HS (fun _ HS _ g=>lB 0 HS Z na2 Z g) Z (qL Z Z (fun _ _ g=>iX Z U31 Lm (rk (rD 2 r_a) HS) c34 g) Z (GX.ls Z Z Z HS (fun _ HS _ g=>GO.C8 (T:=(Ty.slice 83 Ak)) (n:=e5.Tet.toNat) (o:=0) HS (rD 2 r_a) Z Z (getD_some (d:=[]) (ltN c34)) Z Z Lj Z g) Z (qL Z Z (fun _ _ g=>GO.ix Z Z Z U81 Ls ((Bv.elem (rD 2 r_a) c34.1 c34.2) _ HS).2.2.1 c35.1 c35.2 Z g) Z (GX.ls Z Z Z HS (fun _ HS _ g=>GO.Kk (T:=Ak) (n:=t30.toNat) HS (Bv.elem (rD 2 r_a) c34.1 c34.2) Z Z (Gt (ltN c35) h37) Jf Z g) Z (GX.ls Z Z Z HS (fun _ HS _ g=>lW 0 HS Z Jf g) Z (GX.l2 Z (fJ aO Z (Hf.calls HS  h40) (fun _ wd41 ⟨h42,HS⟩=>⟨_,h42,(GX.fin HS (qL Z Z (fun _ _ g=>GO.kR Z Z Z fP (fun _=>gM) Z g) Z (qL Z Z (fun _ _ g=>mV Z (kN 51 Z (tT c43) g)) Z ?_)))⟩))))))))))))
 refine qL Z Z (fun _ _ g=>oN Z (fL b7 0 F6 Z (bK g))) Z (qL Z Z (fun _ _ g=>oN Z (mV Z (bK g))) Z (GX.ls Z Z Z HS (fun _ HS _ g=>oN Z (lB 0 HS Z na2 Z (bK g))) Z (qL Z Z (fun _ _ g=>oN Z (GO.neq Z Z Z Z (bK g))) Z (qL Z Z (fun _ _ g=>oN Z (mV Z (bK (kN 56 Z (nT c44) g)))) Z (qL Z Z (fun _ _ g=>oN Z (mV Z (bK g))) Z (qL Z Z (fun _ _ g=>oN Z (mV Z (bK g))) Z (qL Z Z (fun _ _ g=>oN Z (GO.neq Z Z Z Z (bK g))) Z (qL Z Z (fun _ _ g=>oN Z (GO.Iw Z Z Z Z Z (bK g))) Z (GX.ps 2 Z (GX.nil ?_))))))))))
 obtain rfl:=sI H
 exact rT _ func115 Z Z ⟨Z,(HS.pk 2 [] Z)⟩
theorem Br.calls {a1:List (List Am)} {y_a:Nat→(Ty.slice 83 Ak).Lay} {r1:Bool} (HS:St w0 w (L)) (r_a:Bv w0 L (Ty.slice 83 Ak) A_a c_a y_a a1) (H:Br.f K a1=some r1) :
   Calls prog 76 #[.agg [sV A_a a1 c_a].toArray] w (Br.post w0 L r1):=by
 unfold Br.f at H
 refine cG func76 Z ?_
 refine sQ (rG (bA HS Z fun b1 wd2 HS=>aS Z (nL (rN 2 Z ?_))))
 rcases iE H with ⟨c8,H⟩|⟨c8,H⟩
 ·
  refine rG (fL b1 0 F3 Z (lB 0 HS Z Jo Z (lS Z Z U31 Z (pS 2 Z (kN 9 Z (tT c8) (oF Z (oF Z (oF Z (GO.Gq Z Z Z Z Z (nL (rN 3 Z ?_)))))))))))
  obtain rfl:=sI H
  exact rT _ func76 Z Z ⟨Z,(HS.pk 1 [] Z)⟩
 obtain ⟨t9,h10,H⟩:=bI H
 refine rG (fL b1 0 F3 Z (lB 0 HS Z Jo Z (lS Z Z U31 Z (pS 2 Z (kN 9 Z (tF c8) (oN Z (fL b1 0 F3 Z (bK (oN Z (lB 0 HS Z Jo Z (bK (oN Z (fJ wH Z (Cj.calls HS (rD 1 r_a) h10) (fun _ wd11 ⟨h12,HS⟩=>⟨_,h12,(bK ?_)⟩))))))))))))))
 refine GO.Iw Z Z Z Z Z (nL ?_)
 rcases iE H with ⟨c13,H⟩|⟨c13,H⟩
 ·
  refine yB Z c13 (rN 2 Z ?_)
  obtain rfl:=sI H
  exact rT _ func76 Z Z ⟨Z,(HS.pk 1 [] Z)⟩
 refine nB Z (Cv c13) (rN 3 Z ?_)
 obtain ⟨t14,h15,H⟩:=bI H
 refine rG (fL b1 0 F3 Z (lB 0 HS Z Jo Z (fJ Qw Z (Dq.calls HS (rD 1 r_a) h15) (fun _ wd16 ⟨h17,HS⟩=>⟨_,h17,(mV Z (nL (rN 2 Z ?_)))⟩))))
 refine G.name (fun p1 k1=>?_)
 have o1:∀ e1,e1≤K→∀ (x37:Int) (w:World),Br.l1 K e1 a1 t14 x37=some r1→St w0 w (Box b1 33 [sV A_a a1 c_a]::L)→G prog 76 30 [(1,pT b1),(16,I t14),(17,I x37)] p1 w (Br.post w0 L r1):=by
  refine lp (fun _ w H _=>by rw [Br.l1] at H; cases H) fun c1 s1 q1 x37 w H HS=>?_
  rw [Br.l1] at H
  subst k1
  refine rN 3 Z ?_
  rcases iS H with ⟨c57,H⟩|⟨c57,H⟩
  ·
   refine nB Z (tF c57) (rN 3 Z ?_)
   obtain rfl:=sI H
   exact rT _ func76 Z Z ⟨Z,(HS.pk 1 [] Z)⟩
  refine yB Z (tT c57) (rN 9 Z ?_)
  refine G.name (fun m1 n1=>?_)
  have g1:∀ f1,f1≤c1→∀ (x63:Int) (w:World),Br.l4 K f1 a1 t14 x37 x63=some r1→St w0 w (Box b1 33 [sV A_a a1 c_a]::L)→G prog 76 30 [(1,pT b1),(3,I x37),(16,I t14),(17,I x37),(20,I x63)] m1 w (Br.post w0 L r1):=by
   refine lp (fun _ w H _=>by rw [Br.l4] at H; cases H) fun d1 h1 i1 x63 w H HS=>?_
   rw [Br.l4] at H
   subst n1
   refine rN 3 Z ?_
   rcases iS H with ⟨c70,H⟩|⟨c70,H⟩
   ·
    refine nB Z (tF c70) (rN 4 Z (gW (q1 d1 (Nat.le_of_succ_le h1) _ _ H HS) Z))
   refine yB Z (tT c70) (rN 6 Z ?_)
   obtain ⟨t71,h72,H⟩:=bI H
   refine rG (lW 0 HS Z Iy (pS 2 Z (fJ vX Z (Eg.calls HS (rD 1 r_a) h72) (fun _ wd73 ⟨h74,HS⟩=>⟨_,h74,(GO.not Z Z Z (nL ?_))⟩))))
   rcases iS H with ⟨c75,H⟩|⟨c75,H⟩
   ·
    refine yB Z (congrArg Bool.not (Cv c75)) (rN 2 Z ?_)
    obtain rfl:=sI H
    exact rT _ func76 Z Z ⟨Z,(HS.pk 1 [] Z)⟩
   refine nB Z (congrArg Bool.not c75) (rN 4 Z (gW (i1 d1 (lR _) _ _ H HS) Z))
  exact gW (g1 c1 (lR _) _ _ H HS) Z
 exact gW (o1 K (lR _) _ _ H HS) Z
theorem Es.calls {n_:Int} {r1:List Int} (HS:St w0 w (L)) (H:Es.f K n_=some r1) :
   Calls prog 153 #[I n_] w (Es.post w0 L r1):=by
 unfold Es.f at H
 refine cG func153 Z ?_
 refine rN 9 Z ?_
 refine G.name (fun f1 d1=>?_)
 have e1:∀ b1,b1≤K→∀ (A8:Option Addr) (c9:Nat) (a1:List Int) (x11:Int) (w:World),Es.l1 K b1 n_ a1 x11=some r1→St w0 w (Own (Ac .i64) 2 A8 c9 uu a1::L)→G prog 153 15 [(3,sV A8 a1 c9),(5,I n_),(6,I x11)] f1 w (Es.post w0 L r1):=by
  refine lp (fun _ _ _ _ w H _=>by rw [Es.l1] at H; cases H) fun c1 h1 g1 A8 c9 a1 x11 w H HS=>?_
  rw [Es.l1] at H
  subst d1
  refine rN 3 Z ?_
  rcases iS H with ⟨c19,H⟩|⟨c19,H⟩
  ·
   refine nB Z (tF c19) (rN 3 Z ?_)
   obtain rfl:=sI H
   exact rT _ func153 Z Z ⟨_,_,Z,HS⟩
  refine yB Z (tT c19) (rN 5 Z ?_)
  obtain ⟨c25,H⟩:=iN H
  refine rG (pS 2 Z (GO.D8 (el:=2) ([I x11]) HS Z Z (fun _=>by kernel_rfl) Z fun b20 wd21 HS=>GO.app1 (T:=(Ac .i64)) (j:=1) (jb:=0) x11 HS Z Z Ao Z Z Z U26 Lf Z Z Z c25 Z fun A23 c24 wd22 HS=>aS Z (nL (rN 3 Z (gW (g1 c1 (lR _) _ _ _ _ _ H (HS.pk 2 [1] Z)) Z)))))
 replace HS:=HS.Jz (Ac .i64) 2 uu
 exact gW (e1 K (lR _) _ _ _ _ _ H HS) Z
theorem Bo.calls {a1 c1:Int} {r1:Bool} (HS:St w0 w (L)) (H:Bo.f a1 c1=some r1) :
  Calls prog 142 #[.agg [I a1,I c1].toArray] w (Bo.post w0 L r1):=by
 unfold Bo.f at H
 refine cG func142 Z ?_
 refine sQ (rG (bA HS Z fun b1 wd2 HS=>aS Z (nL (sQ (rG (fL b1 0 F6 Z (lB 0 HS Z na2 Z (pS 2 Z (nL ?_)))))))))
 obtain rfl:=sI H
 exact rT _ func142 Z Z ⟨Z,(HS.pk 1 [] Z)⟩
theorem Gl.calls {sets:List Int} {i k_:Int} {r1:List Int} (HS:St w0 w (Own (Ac .i64) 2 A_a c_a uu sets::L)) (H:Gl.f K sets i k_=some r1) :
   Calls prog 156 #[sV A_a sets c_a,I i,I k_] w (Gl.post w0 L A_a c_a r1):=by
 unfold Gl.f at H
 refine cG func156 Z ?_
 refine sQ ?_
 obtain ⟨c1,H⟩:=iN H
 have h2:=(rk (ro 0 Z) HS)
 obtain ⟨c3,H⟩:=iN H
 have h4:=(rk (ro 0 Z) HS)
 refine G.lex mixed [0,1,2,4,5,6,3,8,7,9] (by kernel_rfl) ?_
 replace HS:=HS.drew
 refine GX.ps 2 Z (qL Z Z (fun _ _ g=>iX Z U26 sz2 h2 c1 g) Z (GX.ps 2 Z (qL Z Z (fun _ _ g=>iX Z U26 sz2 h4 c3 g) Z (GX.l1 Z Z Z (fun _ g=>GO.C8 (T:=(Ac .i64)) (n:=k_.toNat) (o:=0) HS (ro 0 Z) Z Z (getD_some (d:=0) (ltN c1)) Z Z na2 Z g) Z (GX.ps 1 Z (GX.l1 Z Z Z (fun _ g=>GO.C8 (T:=(Ac .i64)) (n:=i.toNat) (o:=0) HS (ro 0 Z) Z Z (getD_some (d:=0) (ltN c3)) Z Z na2 Z g) Z (GX.ps 1 Z (GX.nil (sQ (rG (mV Z (lS Z Z U26 Z (mV Z (nL ?_))))))))))))))
 refine rN 2 Z ?_
 refine G.name (fun g1 e1=>?_)
 have f1:∀ b1,b1≤K→∀ (x9:List Int) (x10:Int) (w:World),Gl.l1 K b1 sets i k_ x9 x10=some r1→St w0 w (Own (Ac .i64) 2 A_a c_a uu x9::L)→G prog 156 33 [(0,sV A_a x9 c_a),(6,I (sets.getD k_.toNat 0)),(7,I (sets.getD i.toNat 0)),(18,sV A_a x9 c_a),(19,I (sets.length:Int)),(20,I x10)] g1 w (Gl.post w0 L A_a c_a r1):=by
  refine lp (fun _ _ w H _=>by rw [Gl.l1] at H; cases H) fun a1 h1 d1 x9 x10 w H HS=>?_
  rw [Gl.l1] at H
  subst e1
  refine rN 3 Z ?_
  rcases iS H with ⟨c15,H⟩|⟨c15,H⟩
  ·
   refine nB Z (tF c15) (G.exit Z ?_)
   obtain rfl:=sI H
   exact G.K6 func156 Z ⟨Z,HS⟩
  refine yB Z (tT c15) (rN 4 Z ?_)
  obtain ⟨c16,H⟩:=iN H
  refine rG (mV Z (iX Z U26 sz2 (rk (ro 0 Z) HS) c16 (GO.C8 (T:=(Ac .i64)) (n:=x10.toNat) (o:=0) HS (ro 0 Z) Z Z (getD_some (d:=0) (ltN c16)) Z Z na2 Z (pS 2 Z (nL (rN 2 Z ?_))))))
  rcases iS H with ⟨c17,H⟩|⟨c17,H⟩
  ·
   refine nB Z (tF c17) (rN 4 Z (gW (d1 a1 (lR _) _ _ _ H HS) Z))
  refine yB Z (tT c17) (rG (pS 3 Z (iX Z U26 sz2 (rk (ro 0 Z) HS) c16 (GO.Hl (T:=(Ac .i64)) (j:=0) (n:=x10.toNat) (o:=0) (vs:=[I (sets.getD i.toNat 0)]) (sets.getD i.toNat 0) HS Z Ao Z Z Z Z (htN na2 Z) Z (getD_some (d:=0) (ltN c16)) Z Z fun wd18 HS=>nL (G.len (t:=0) (m:=(x9.set x10.toNat (sets.getD i.toNat 0)).length) Z (by simp only [List.length_set]<;>rfl) (G.len (t:=18) (m:=(x9.set x10.toNat (sets.getD i.toNat 0)).length) Z (by simp only [List.length_set]<;>rfl) (rN 3 Z (gW (d1 a1 (lR _) _ _ _ H HS) Z))))))))
 exact gW (f1 K (lR _) _ _ _ H HS) Z
theorem Dk.calls {roots:List Int} {r1:List Int} (HS:St w0 w (L)) (r_a:Bv w0 L (Ac .i64) A_a c_a uu roots) (H:Dk.f K roots=some r1) :
   Calls prog 157 #[sV A_a roots c_a] w (Dk.post w0 L r1):=by
 unfold Dk.f at H
 refine cG func157 Z ?_
 refine rN 3 Z (rG (GO.Yd .i64 .i64 HS Z Z fun b1 wd2 HS=>aS Z (nL (rN 4 Z (rG (mV Z (lS Z Z U26 Z (mV Z (nL (rN 2 Z ?_))))))))))
 refine G.name (fun q1 m1=>?_)
 have o1:∀ g1,g1≤K→∀ (e1:List (Int × Int)) (A17:Option Addr) (c18:Nat) (a1:List Int) (x20:Int) (w:World),Dk.l1 K g1 roots e1 a1 x20=some r1→St w0 w (Q9 b1 .i64 .i64 e1::Own (Ac .i64) 2 A17 c18 uu a1::L)→G prog 157 36 [(3,.map (some b1)),(4,sV A17 a1 c18),(10,sV A_a roots c_a),(11,I (roots.length:Int)),(12,I x20)] q1 w (Dk.post w0 L r1):=by
  refine lp (fun _ _ _ _ _ w H _=>by rw [Dk.l1] at H; cases H) fun d1 t1 s1 e1 A17 c18 a1 x20 w H HS=>?_
  rw [Dk.l1] at H
  subst m1
  refine rN 3 Z ?_
  rcases iS H with ⟨c34,H⟩|⟨c34,H⟩
  ·
   refine nB Z (tF c34) (rN 3 Z ?_)
   obtain rfl:=sI H
   exact rT _ func157 Z Z ⟨_,_,Z,(HS.pk 2 [1] Z)⟩
  refine yB Z (tT c34) (rN 4 Z ?_)
  obtain ⟨c35,H⟩:=iN H
  refine rG (iX Z U26 sz2 (rk (rD 2 r_a) HS) c35 (GO.C8 (T:=(Ac .i64)) (n:=x20.toNat) (o:=0) HS (rD 2 r_a) Z Z (getD_some (d:=0) (ltN c35)) Z Z na2 Z (aS Z (nL (rN 2 Z (rG (pS 2 Z (GO.pQ (j:=0) HS Z Z Z Z oV U2 zr2 Z (pS 5 Z (nL (rN 2 Z ?_)))))))))))
  refine G.Wd (fun p1 n1=>?_)
  have f1:∀ h1,h1≤d1→∀ (c1:List (Int × Int)) (w:World),Dk.j4 K h1 roots a1 x20 c1=some r1→St w0 w (Q9 b1 .i64 .i64 c1::Own (Ac .i64) 2 A17 c18 uu a1::L)→G prog 157 36 [(3,.map (some b1)),(4,sV A17 a1 c18),(6,I (roots.getD x20.toNat 0)),(10,sV A_a roots c_a),(11,I (roots.length:Int)),(12,I x20)] p1 w (Dk.post w0 L r1):=by
   refine jp (fun _ w H _=>by rw [Dk.j4] at H; cases H) fun k1 i1 c1 w H HS=>?_
   rw [Dk.j4] at H
   subst n1
   obtain ⟨c44,H⟩:=iN H
   refine rG (pS 3 Z (GO.yO (j:=0) HS Z Z Z Z oV U2 zr2 Z (GO.D8 (el:=2) ([I ((K5 c1 (roots.getD x20.toNat 0)).getD 0)]) HS Z Z (fun _=>by kernel_rfl) Z fun b39 wd40 HS=>GO.app1 (T:=(Ac .i64)) (j:=2) (jb:=0) ((K5 c1 (roots.getD x20.toNat 0)).getD 0) HS Z Z Ao Z Z Z U26 Lf Z Z Z c44 Z fun A42 c43 wd41 HS=>aS Z (nL (rN 3 Z (gW (s1 k1 (Nat.le_of_succ_le i1) _ _ _ _ _ _ H (HS.pk 3 [1,2] Z)) Z))))))
  rcases iE H with ⟨c45,H⟩|⟨c45,H⟩
  ·
   refine nB Z (congrArg Bool.not c45) (G.skip (gW (f1 d1 (lR _) _ _ H HS) Z))
  refine yB Z (congrArg Bool.not (Cv c45)) (rG (pS 3 Z (GO.xH (j:=0) HS Z Z Z oV Z (GO.wR (j:=0) HS Z Z Z Z Z oV U2 fun wd46 HS=>nL (gW (f1 d1 (lR _) _ _ H HS) Z)))))
 replace HS:=HS.Jz (Ac .i64) 2 uu
 exact gW (o1 K (lR _) _ _ _ _ _ _ H (HS.pk 2 [1,0] Z)) Z
theorem Ar.calls {a1:List (List Am)} {y_a:Nat→(Ty.slice 83 Ak).Lay} {r1:List Int} (HS:St w0 w (L)) (r_a:Bv w0 L (Ty.slice 83 Ak) A_a c_a y_a a1) (H:Ar.f K a1=some r1) :
   Calls prog 140 #[.agg [sV A_a a1 c_a].toArray] w (Ar.post w0 L r1):=by
 unfold Ar.f at H
 refine cG func140 Z ?_
 refine sQ (rG (bA HS Z fun b1 wd2 HS=>aS Z (nL (sQ ?_))))
 obtain ⟨t3,h4,H⟩:=bI H
 obtain ⟨t7,h8,H⟩:=bI H
 refine rG (fL b1 0 F3 Z (lB 0 HS Z Jo Z (fJ Qw Z (Dq.calls HS (rD 1 r_a) h4) (fun _ wd5 ⟨h6,HS⟩=>⟨_,h6,(fJ Xj Z (Es.calls HS  h8) (fun _ wd11 ⟨A9,c10,h12,HS⟩=>⟨_,h12,(aS Z (nL (rN 2 Z (rG (fL b1 0 F3 Z (lB 1 HS Z Jo Z (lS Z Z U31 Z (mV Z (nL (rN 2 Z ?_))))))))))⟩))⟩))))
 refine G.name (fun s1 n1=>?_)
 have q1:∀ h1,h1≤K→∀ (c1:List Int) (x75:Int) (w:World),Ar.l1 K h1 a1 c1 x75=some r1→St w0 w (Own (Ac .i64) 2 A9 c10 uu c1::L)→G prog 140 38 [(3,sV A9 c1 c10),(13,sV A_a a1 c_a),(14,I (a1.length:Int)),(15,I x75)] s1 w (Ar.post w0 L r1):=by
  refine lp (fun _ _ w H _=>by rw [Ar.l1] at H; cases H) fun g1 u1 t1 c1 x75 w H HS=>?_
  rw [Ar.l1] at H
  subst n1
  refine rN 3 Z ?_
  rcases iS H with ⟨c137,H⟩|⟨c137,H⟩
  ·
   refine nB Z (tF c137) (rN 2 Z ?_)
   obtain ⟨t192,h193,H⟩:=bI H
   refine rG (mV Z (fJ aD Z (Dk.calls HS (ro 0 Z) h193) (fun _ wd196 ⟨A194,c195,h197,HS⟩=>⟨_,h197,(aS Z (nL ?_))⟩)))
   obtain rfl:=sI H
   exact rT _ func140 Z Z ⟨_,_,Z,(HS.pk 2 [0] Z)⟩
  refine yB Z (tT c137) (rN 4 Z ?_)
  obtain ⟨c138,H⟩:=iN H
  refine rG (mV Z (iX Z U31 Lm (rk (rD 1 r_a) HS) c138 (GO.C8 (T:=(Ty.slice 83 Ak)) (n:=x75.toNat) (o:=0) HS (rD 1 r_a) Z Z (getD_some (d:=[]) (ltN c138)) Z Z Lj Z (pS 2 Z (nL (sQ (rG (mV Z (lS Z Z U81 Z (mV Z (nL (rN 2 Z ?_))))))))))))
  refine G.name (fun o1 p1=>?_)
  have k1:∀ i1,i1≤g1→∀ (d1:List Int) (x157:Int) (w:World),Ar.l4 K i1 a1 x75 d1 x157=some r1→St w0 w (Own (Ac .i64) 2 A9 c10 uu d1::L)→G prog 140 38 [(3,sV A9 d1 c10),(4,I x75),(13,sV A_a a1 c_a),(14,I (a1.length:Int)),(15,I x75),(20,sV ((y_a x75.toNat).A) (a1.getD x75.toNat []) ((y_a x75.toNat).c)),(21,I ((a1.getD x75.toNat []).length:Int)),(22,I x157)] o1 w (Ar.post w0 L r1):=by
   refine lp (fun _ _ w H _=>by rw [Ar.l4] at H; cases H) fun e1 m1 f1 d1 x157 w H HS=>?_
   rw [Ar.l4] at H
   subst p1
   refine rN 3 Z ?_
   rcases iS H with ⟨c175,H⟩|⟨c175,H⟩
   ·
    refine nB Z (tF c175) (rN 4 Z (gW (t1 e1 (Nat.le_of_succ_le m1) _ _ _ H HS) Z))
   refine yB Z (tT c175) (rN 4 Z ?_)
   obtain ⟨c176,H⟩:=iN H
   obtain ⟨e177,h178,H⟩:=Gp H
   refine rG (GO.ix Z Z Z U81 Ls ((Bv.elem (rD 1 r_a) c138.1 c138.2) _ HS).2.2.1 c176.1 c176.2 Z (GO.Kk (T:=Ak) (n:=x157.toNat) HS (Bv.elem (rD 1 r_a) c138.1 c138.2) Z Z (Gt (ltN c176) h178) Jf Z (GO.alloc HS Z Pb Z Z fun b179 wd180 HS=>sW 0 HS Z Jf Z fun wd181 HS=>nL (sQ ?_))))
   obtain ⟨t182,h183,H⟩:=bI H
   refine rG (lW 0 HS Z Jf (fJ Nv Z (Bo.calls HS  h183) (fun _ wd184 ⟨h185,HS⟩=>⟨_,h185,(GO.not Z Z Z (nL ?_))⟩)))
   rcases iE H with ⟨c186,H⟩|⟨c186,H⟩
   ·
    refine nB Z (congrArg Bool.not c186) (rN 4 Z (gW (f1 e1 (lR _) _ _ _ H (HS.pk 2 [1] Z)) Z))
   refine yB Z (congrArg Bool.not (Cv c186)) ?_
   obtain ⟨t187,h188,H⟩:=bI H
   obtain ⟨c189,H⟩:=iN H
   refine rG (pS 2 Z (fL b179 0 F6 Z (lB 0 HS Z na2 Z ?_)))
   replace HS:=HS.pk 2 [1,0] Z
   refine fJ bF Z (Gl.calls HS  h188) (fun _ wd190 ⟨h191,HS⟩=>⟨_,h191,(nL (G.len (t:=3) (m:=t187.length) Z (by simp only [List.length_set,c189]<;>rfl) (rN 3 Z (gW (f1 e1 (lR _) _ _ _ H (HS.pk 2 [0] Z)) Z))))⟩)
  exact gW (k1 g1 (lR _) _ _ _ H HS) Z
 exact gW (q1 K (lR _) _ _ _ H (HS.pk 2 [0] Z)) Z
theorem Dh.calls {x:List Int} {r1:Int} (HS:St w0 w (L)) (r_a:Bv w0 L (Ac .i64) A_a c_a uu x) (H:Dh.f K x=some r1) :
   Calls prog 158 #[sV A_a x c_a] w (Dh.post w0 L r1):=by
 unfold Dh.f at H
 refine cG func158 Z ?_
 refine rN 4 Z (rG (mV Z (lS Z Z U26 Z (GO.lss Z Z Z Z (nL ?_)))))
 rcases iE H with ⟨c2,H⟩|⟨c2,H⟩
 ·
  refine yB Z (tT c2) ?_
  cases H
 refine nB Z (tF c2) (rN 2 Z ?_)
 obtain ⟨c3,H⟩:=iN H
 refine rG (mV Z (iX Z U26 sz2 (rk r_a HS) c3 (GO.C8 (T:=(Ac .i64)) (n:=0) (o:=0) HS r_a Z Z (getD_some (d:=0) (ltN c3)) Z Z na2 Z (aS Z (nL (rN 5 Z ?_))))))
 refine G.name (fun f1 c1=>?_)
 have d1:∀ a1,a1≤K→∀ (m_6 i_7:Int) (w:World),Dh.l2 K a1 x m_6 i_7=some r1→St w0 w (L)→G prog 158 25 [(0,sV A_a x c_a),(3,I m_6),(4,I i_7)] f1 w (Dh.post w0 L r1):=by
  refine lp (fun _ _ w H _=>by rw [Dh.l2] at H; cases H) fun e1 g1 b1 m_6 i_7 w H HS=>?_
  rw [Dh.l2] at H
  subst c1
  refine rN 2 Z (rG (pS 2 Z (lS Z Z U26 Z (GO.lss Z Z Z Z (nL ?_)))))
  rcases iS H with ⟨c10,H⟩|⟨c10,H⟩
  ·
   refine nB Z (tF c10) (rN 3 Z ?_)
   obtain rfl:=sI H
   exact rT _ func158 Z Z ⟨Z,HS⟩
  refine yB Z (tT c10) (rN 3 Z ?_)
  obtain ⟨c11,H⟩:=iN H
  refine rG (pS 3 Z (iX Z U26 sz2 (rk r_a HS) c11 (GO.C8 (T:=(Ac .i64)) (n:=i_7.toNat) (o:=0) HS r_a Z Z (getD_some (d:=0) (ltN c11)) Z Z na2 Z (GO.max2 Z Z Z Z (aS Z (nL (rN 3 Z (gW (b1 e1 (lR _) _ _ _ H HS) Z))))))))
 exact gW (d1 K (lR _) _ _ _ H HS) Z
theorem Gd.calls {classes:List Int} {r1:Int} (HS:St w0 w (L)) (r_a:Bv w0 L (Ac .i64) A_a c_a uu classes) (H:Gd.f K classes=some r1) :
   Calls prog 118 #[sV A_a classes c_a] w (Gd.post w0 L r1):=by
 unfold Gd.f at H
 refine cG func118 Z ?_
 refine rN 4 Z (rG (mV Z (lS Z Z U26 Z (GO.eql Z Z Z Z (nL ?_)))))
 rcases iE H with ⟨c1,H⟩|⟨c1,H⟩
 ·
  refine yB Z (tT c1) (rN 2 Z ?_)
  obtain rfl:=sI H
  exact rT _ func118 Z Z ⟨Z,HS⟩
 refine nB Z (tF c1) (rN 2 Z ?_)
 obtain ⟨t2,h3,H⟩:=bI H
 refine rG (mV Z (fJ vN Z (Dh.calls HS r_a h3) (fun _ wd4 ⟨h5,HS⟩=>⟨_,h5,(pS 2 Z (nL ?_))⟩)))
 obtain rfl:=sI H
 exact rT _ func118 Z Z ⟨Z,HS⟩
theorem Gw.calls {e_ r1 r2:Int} (HS:St w0 w (L)) (H:Gw.f K e_=some (r1,r2)) :
   Calls prog 129 #[I e_] w (Gw.post w0 L r1 r2):=by
 unfold Gw.f at H
 refine cG func129 Z ?_
 refine rN 7 Z ?_
 refine G.name (fun e1 c1=>?_)
 have d1:∀ a1,a1≤K→∀ (e_2 x3:Int) (w:World),Gw.l1 K a1 e_2 x3=some (r1,r2)→St w0 w (L)→G prog 129 23 [(0,I e_2),(6,I x3)] e1 w (Gw.post w0 L r1 r2):=by
  refine lp (fun _ _ w H _=>by rw [Gw.l1] at H; cases H) fun b1 g1 f1 e_2 x3 w H HS=>?_
  rw [Gw.l1] at H
  subst c1
  refine rN 3 Z ?_
  rcases iS H with ⟨c6,H⟩|⟨c6,H⟩
  ·
   refine nB Z (tF c6) (rN 3 Z ?_)
   obtain ⟨rfl,rfl⟩:=H8 H
   exact G.Jr _ _ func129 Z Z Z ⟨Z,HS⟩
  refine yB Z (tT c6) (rN 9 Z ?_)
  rcases iE H with ⟨c7,H⟩|⟨c7,H⟩
  ·
   refine yB Z (tT c7) (rN 2 Z ?_)
   obtain ⟨rfl,rfl⟩:=H8 H
   exact G.Jr _ _ func129 Z Z Z ⟨Z,HS⟩
  refine nB Z (tF c7) (rN 4 Z (gW (f1 b1 (lR _) _ _ _ H HS) Z))
 exact gW (d1 K (lR _) _ _ _ H HS) Z
theorem Ih.calls {a_ b_ r1:Int} (HS:St w0 w (L)) (H:Ih.f K a_ b_=some r1) :
   Calls prog 131 #[I a_,I b_] w (Ih.post w0 L r1):=by
 unfold Ih.f at H
 refine cG func131 Z ?_
 refine rN 5 Z ?_
 refine G.Wd (fun c1 d1=>?_)
 have a1:∀ b1,b1≤K→∀ (a_2 b_3:Int) (w:World),Ih.j1 K b1 a_2 b_3=some r1→St w0 w (L)→G prog 131 20 [(0,I a_2),(1,I b_3)] c1 w (Ih.post w0 L r1):=by
  refine jp (fun _ _ w H _=>by rw [Ih.j1] at H; cases H) fun f1 e1 a_2 b_3 w H HS=>?_
  rw [Ih.j1] at H
  subst d1
  refine sQ (rG (pS 4 Z (GO.quo Z Z Z (by decide) Z (pS 6 Z (nL ?_)))))
  obtain rfl:=sI H
  exact rT _ func131 Z Z ⟨Z,HS⟩
 rcases iS H with ⟨c4,H⟩|⟨c4,H⟩
 ·
  refine nB Z (tF c4) (G.skip (gW (a1 K (lR _) _ _ _ H HS) Z))
 refine yB Z (tT c4) (rN 1 Z (gW (a1 K (lR _) _ _ _ H HS) Z))
theorem Aw.calls {tet f:Int} {g1 h1:Int} {c1 a1:Int} {d1 f1:Int} {k1:List Int} {e1:Nat} {r1:List Int} (HS:St w0 w (Box e1 26 [sV A_a k1 c_a]::Own (Ac .i64) 2 A_a c_a uu k1::L)) (H:Aw.f K tet f g1 h1 c1 a1 d1 f1 k1=some r1) :
   Calls prog 155 #[I tet,I f,.agg [I g1,I h1].toArray,.agg [I c1,I a1,I d1,I f1].toArray,pT e1] w (Aw.post w0 L e1 A_a c_a r1):=by
 unfold Aw.f at H
 refine cG func155 Z ?_
 refine sQ (rG (bA HS Z fun b1 wd2 HS=>bA HS Z fun b3 wd4 HS=>nL (rN 4 Z ?_)))
 refine G.name (fun q1 o1=>?_)
 have p1:∀ n1,n1≤K→∀ (x24:List Int) (x25:Int) (w:World),Aw.l1 K n1 tet f g1 c1 a1 d1 f1 x24 x25=some r1→St w0 w (Box e1 26 [sV A_a x24 c_a]::Own (Ac .i64) 2 A_a c_a uu x24::Box b1 83 [I g1,I h1]::Box b3 160 [I c1,I a1,I d1,I f1]::L)→G prog 155 46 [(0,I tet),(1,I f),(4,pT e1),(7,pT b1),(8,pT b3),(12,I x25)] q1 w (Aw.post w0 L e1 A_a c_a r1):=by
  refine lp (fun _ _ w H _=>by rw [Aw.l1] at H; cases H) fun i1 s1 m1 x24 x25 w H HS=>?_
  rw [Aw.l1] at H
  subst o1
  refine rN 3 Z ?_
  rcases iS H with ⟨c46,H⟩|⟨c46,H⟩
  ·
   refine nB Z (tF c46) (G.exit Z ?_)
   obtain rfl:=sI H
   exact G.K6 func155 Z ⟨Z,(HS.pk 4 [0,1] Z)⟩
  refine yB Z (tT c46) (rN 6 Z ?_)
  obtain ⟨t47,t48,h49,H⟩:=Cx H
  refine rG (mV Z (fJ Xc Z (Gw.calls HS  h49) (fun _ wd50 ⟨h51,HS⟩=>⟨_,h51,(pS 5 Z (nL (sQ ?_)))⟩)))
  rcases iE H with ⟨c53,H⟩|⟨c53,H⟩
  ·
   refine rG (pS 4 Z (kN 23 Z (nT c53) (oF Z (oF Z (oF Z (GO.Iw Z Z Z Z Z (nL (rN 5 Z (gW (m1 i1 (lR _) _ _ _ H HS) Z)))))))))
  refine rG (pS 4 Z (kN 23 Z (nF c53) (oN Z (mV Z (bK (oN Z (mV Z (bK (oN Z (GO.neq Z Z Z Z (bK (GO.Gq Z Z Z Z Z (nL ?_)))))))))))))
  rcases iE H with ⟨c54,H⟩|⟨c54,H⟩
  ·
   refine nB Z (nT c54) (rN 4 Z (gW (m1 i1 (lR _) _ _ _ H HS) Z))
  refine yB Z (nF c54) ?_
  obtain ⟨c55,H⟩:=iN H
  obtain ⟨c56,H⟩:=iN H
  obtain ⟨t57,h58,H⟩:=bI H
  obtain ⟨t61,h62,H⟩:=bI H
  obtain ⟨c63,H⟩:=iN H
  refine G.Jk mixed (fun w=>St w0 w (Box e1 26 [sV A_a x24 c_a]::Box b1 83 [I g1,I h1]::Box b3 160 [I c1,I a1,I d1,I f1]::L)) [0,6,10,13] [1,2,3,4,5,8,9,11,12,0,6,7,10,13,14,15,16] [] (by kernel_rfl) (by kernel_rfl) (HS.drew.pk 4 [0,2,3] Z) ?_
  replace HS:=HS.drew
  refine GX.ps 4 Z (qL Z Z (fun _ _ g=>fL b1 0 F6 Z g) Z (GX.ps 1 Z (qL Z Z (fun _ _ g=>GO.ixW Z Z Z L8 sz2 c55 Z g) Z (GX.ps 1 Z (qL Z Z (fun _ _ g=>GO.ixW Z Z Z L8 sz2 c56 Z g) Z (GX.ls Z Z Z (HS.pk 4 [0,2,3] Z) (fun _ HS _ g=>lB 0 HS Z Ip Z g) Z (GX.ls Z Z Z (HS.pk 4 [0,2,3] Z) (fun _ HS _ g=>lB 1 HS Z na2 Z g) Z (GX.ps 1 Z (GX.ls Z Z Z (HS.pk 4 [0,2,3] Z) (fun _ HS _ g=>GO.ldW (j:=2) ([c1,a1,d1,f1]:List Int) HS Z Z Z c55 Z Z na2 Z g) Z (GX.ls Z Z Z (HS.pk 4 [0,2,3] Z) (fun _ HS _ g=>GO.ldW (j:=2) ([c1,a1,d1,f1]:List Int) HS Z Z Z c56 Z Z na2 Z g) Z (GX.l2 Z (fJ Xz Z (Ih.calls HS  h58) (fun _ wd59 ⟨h60,HS⟩=>⟨_,h60,(GX.fin (HS.pk 4 [0,2,3] Z) (GX.ps 1 Z ?_))⟩)))))))))))))
  refine GX.l2 Z ?_
  replace HS:=HS.pk 4 [1,0,2,3] Z
  refine fJ bF Z (Gl.calls HS  h62) (fun _ wd64 ⟨h65,HS⟩=>⟨_,h65,(GX.fin (HS.pk 4 [1,2,3] Z) (GX.nil ?_))⟩)
  replace HS:=HS.G6 (j:=1) (cs':=[sV A_a t61 c_a]) Z (by simp only [sV,List.length_set,c63]<;>rfl)
  refine rN 3 Z (gW (m1 i1 (lR _) _ _ _ H (HS.pk 4 [1,0,2,3] Z)) Z)
 exact gW (p1 K (lR _) _ _ _ H (HS.pk 4 [2,3,1,0] Z)) Z
theorem Ae.calls {a1:List (List Am)} {d1:List Int} {y_a:Nat→(Ty.slice 83 Ak).Lay} {c1:Nat} {r1:List Int} (HS:St w0 w (Box c1 26 [sV A_b d1 c_b]::Own (Ac .i64) 2 A_b c_b uu d1::L)) (r_a:Bv w0 L (Ty.slice 83 Ak) A_a c_a y_a a1) (H:Ae.f K a1 d1=some r1) :
   Calls prog 154 #[.agg [sV A_a a1 c_a].toArray,.func (.func 155) #[] #[pT c1]] w (Ae.post w0 L c1 A_b c_b r1):=by
 unfold Ae.f at H
 refine cG func154 Z ?_
 refine sQ (rG (bA HS Z fun b1 wd2 HS=>nL (sQ (rG (fL b1 0 F3 Z (lB 0 HS Z Jo Z (lS Z Z U31 Z (mV Z (nL (rN 2 Z ?_))))))))))
 refine G.name (fun s1 n1=>?_)
 have q1:∀ h1,h1≤K→∀ (x79:List Int) (x80:Int) (w:World),Ae.l1 K h1 a1 x79 x80=some r1→St w0 w (Box c1 26 [sV A_b x79 c_b]::Own (Ac .i64) 2 A_b c_b uu x79::L)→G prog 154 36 [(1,.func (.func 155) #[] #[pT c1]),(9,sV A_a a1 c_a),(10,I (a1.length:Int)),(11,I x80)] s1 w (Ae.post w0 L c1 A_b c_b r1):=by
  refine lp (fun _ _ w H _=>by rw [Ae.l1] at H; cases H) fun g1 u1 t1 x79 x80 w H HS=>?_
  rw [Ae.l1] at H
  subst n1
  refine rN 3 Z ?_
  rcases iS H with ⟨c157,H⟩|⟨c157,H⟩
  ·
   refine nB Z (tF c157) (G.exit Z ?_)
   obtain rfl:=sI H
   exact G.K6 func154 Z ⟨Z,HS⟩
  refine yB Z (tT c157) (rN 4 Z ?_)
  obtain ⟨c158,H⟩:=iN H
  refine rG (mV Z (iX Z U31 Lm (rk (rD 2 r_a) HS) c158 (GO.C8 (T:=(Ty.slice 83 Ak)) (n:=x80.toNat) (o:=0) HS (rD 2 r_a) Z Z (getD_some (d:=[]) (ltN c158)) Z Z Lj Z (pS 2 Z (nL (sQ (rG (mV Z (lS Z Z U81 Z (mV Z (nL (rN 2 Z ?_))))))))))))
  refine G.name (fun o1 p1=>?_)
  have k1:∀ i1,i1≤g1→∀ (x183:List Int) (x184:Int) (w:World),Ae.l4 K i1 a1 x80 x183 x184=some r1→St w0 w (Box c1 26 [sV A_b x183 c_b]::Own (Ac .i64) 2 A_b c_b uu x183::L)→G prog 154 36 [(1,.func (.func 155) #[] #[pT c1]),(4,I x80),(9,sV A_a a1 c_a),(10,I (a1.length:Int)),(11,I x80),(16,sV ((y_a x80.toNat).A) (a1.getD x80.toNat []) ((y_a x80.toNat).c)),(17,I ((a1.getD x80.toNat []).length:Int)),(18,I x184)] o1 w (Ae.post w0 L c1 A_b c_b r1):=by
   refine lp (fun _ _ w H _=>by rw [Ae.l4] at H; cases H) fun e1 m1 f1 x183 x184 w H HS=>?_
   rw [Ae.l4] at H
   subst p1
   refine rN 3 Z ?_
   rcases iS H with ⟨c209,H⟩|⟨c209,H⟩
   ·
    refine nB Z (tF c209) (rN 4 Z (gW (t1 e1 (Nat.le_of_succ_le m1) _ _ _ H HS) Z))
   refine yB Z (tT c209) (rN 4 Z ?_)
   obtain ⟨c210,H⟩:=iN H
   obtain ⟨e211,h212,H⟩:=Gp H
   refine rG (mV Z (GO.ix Z Z Z U81 Ls ((Bv.elem (rD 2 r_a) c158.1 c158.2) _ HS).2.2.1 c210.1 c210.2 Z (GO.Kk (T:=Ak) (n:=x184.toNat) HS (Bv.elem (rD 2 r_a) c158.1 c158.2) Z Z (Gt (ltN c210) h212) Jf Z (GO.alloc HS Z Pb Z Z fun b213 wd214 HS=>aS Z (sW 0 HS Z Jf Z fun wd215 HS=>nL (sQ ?_))))))
   obtain ⟨t216,h217,H⟩:=bI H
   refine rG (lW 0 HS Z Jf (fJ Nv Z (Bo.calls HS  h217) (fun _ wd218 ⟨h219,HS⟩=>⟨_,h219,(GO.not Z Z Z (nL ?_))⟩)))
   rcases iE H with ⟨c220,H⟩|⟨c220,H⟩
   ·
    refine nB Z (congrArg Bool.not c220) (rN 4 Z (gW (f1 e1 (lR _) _ _ _ H (HS.pk 3 [1,2] Z)) Z))
   refine yB Z (congrArg Bool.not (Cv c220)) ?_
   obtain ⟨t221,t222,t223,t224,h225,H⟩:=Ii H
   obtain ⟨t228,h229,H⟩:=bI H
   obtain ⟨c230,H⟩:=iN H
   refine G.Jk mixed (fun w=>St w0 w (Box b213 83 [I e211.Tet,I e211.Perm]::L)) [3,5] [0,1,2,4,3,5,6,7] [] (by kernel_rfl) (by kernel_rfl) (HS.drew.pk 3 [0] Z) ?_
   replace HS:=HS.drew
   refine GX.ps 3 Z (qL Z Z (fun _ _ g=>fL b213 1 J7 Z g) Z (GX.ls Z Z Z (HS.pk 3 [0] Z) (fun _ HS _ g=>lW 0 HS Z Jf g) Z (GX.ls Z Z Z (HS.pk 3 [0] Z) (fun _ HS _ g=>lB 0 HS Z na2 Z g) Z (GX.l2 Z (fJ Oz Z (Ej.calls HS  h225) (fun _ wd226 ⟨h227,HS⟩=>⟨_,h227,(GX.fin (HS.pk 3 [0] Z) (GX.l2 Z ?_))⟩))))))
   replace HS:=HS.pk 3 [1,2,0] Z
   refine GO.clo Z Z func155 kE.2.1 kE.2.2 Z Z (Aw.calls HS  h229) (fun _ wd231 ⟨h232,HS⟩=>⟨_,h232,(GX.fin (HS.pk 3 [2] Z) (GX.nil (rN 3 Z (gW (f1 e1 (lR _) _ _ _ H (HS.pk 3 [0,1] Z)) Z))))⟩)
  exact gW (k1 g1 (lR _) _ _ _ H HS) Z
 exact gW (q1 K (lR _) _ _ _ H (HS.pk 3 [1,2] Z)) Z
theorem Co.calls {a1:List (List Am)} {y_a:Nat→(Ty.slice 83 Ak).Lay} {r1:List Int} (HS:St w0 w (L)) (r_a:Bv w0 L (Ty.slice 83 Ak) A_a c_a y_a a1) (H:Co.f K a1=some r1) :
  Calls prog 117 #[.agg [sV A_a a1 c_a].toArray] w (Co.post w0 L r1):=by
 unfold Co.f at H
 refine cG func117 Z ?_
 refine sQ (rG (bA HS Z fun b1 wd2 HS=>aS Z (nL (sQ ?_))))
 obtain ⟨t3,h4,H⟩:=bI H
 obtain ⟨t7,h8,H⟩:=bI H
 refine rG (fL b1 0 F3 Z (lB 0 HS Z Jo Z (fJ Qw Z (Dq.calls HS (rD 1 r_a) h4) (fun _ wd5 ⟨h6,HS⟩=>⟨_,h6,(GO.mul Z Z Z Z (fJ Xj Z (Es.calls HS  h8) (fun _ wd11 ⟨A9,c10,h12,HS⟩=>⟨_,h12,(GO.alloc HS Z jN Z Z fun b13 wd14 HS=>GO.K7 (j:=0) (vs:=[sV A9 t7 c10]) ([sV A9 t7 c10]) HS Z Z Z Z Z (htN Ip Z) Z Z Z fun wd15 HS=>nL (sQ ?_))⟩)))⟩))))
 obtain ⟨t16,h17,H⟩:=bI H
 obtain ⟨c18,H⟩:=iN H
 refine rG (lW 2 HS Z Iy (GO.U9 Z Z Z Z ?_))
 replace HS:=HS.pk 3 [0,1,2] Z
 refine fJ kF Z (Ae.calls HS (rD 1 r_a) h17) (fun _ wd19 ⟨h20,HS⟩=>⟨_,h20,(nL (sQ ?_))⟩)
 obtain ⟨t21,h22,H⟩:=bI H
 refine rG (lB 0 HS Z Ip Z (fJ aD Z (Dk.calls HS (ro 1 Z) h22) (fun _ wd25 ⟨A23,c24,h26,HS⟩=>⟨_,h26,(aS Z (nL ?_))⟩)))
 obtain rfl:=sI H
 exact rT _ func117 Z Z ⟨_,_,Z,(HS.pk 4 [0] Z)⟩
theorem Ca.calls {s:List Int} {v:Int} {r1:Int} (HS:St w0 w (L)) (r_a:Bv w0 L (Ac .i64) A_a c_a uu s) (H:Ca.f K s v=some r1) :
   Calls prog 128 #[sV A_a s c_a,I v] w (Ca.post w0 L r1):=by
 unfold Ca.f at H
 refine cG func128 Z ?_
 refine rN 4 Z (rG (mV Z (lS Z Z U26 Z (mV Z (nL (rN 2 Z ?_))))))
 refine G.name (fun e1 c1=>?_)
 have d1:∀ a1,a1≤K→∀ (x4:Int) (w:World),Ca.l1 K a1 s v x4=some r1→St w0 w (L)→G prog 128 19 [(0,sV A_a s c_a),(1,I v),(7,I (s.length:Int)),(8,I x4)] e1 w (Ca.post w0 L r1):=by
  refine lp (fun _ w H _=>by rw [Ca.l1] at H; cases H) fun b1 g1 f1 x4 w H HS=>?_
  rw [Ca.l1] at H
  subst c1
  refine rN 3 Z ?_
  rcases iS H with ⟨c8,H⟩|⟨c8,H⟩
  ·
   refine nB Z (tF c8) (rN 3 Z ?_)
   obtain rfl:=sI H
   exact rT _ func128 Z Z ⟨Z,HS⟩
  refine yB Z (tT c8) (rN 6 Z ?_)
  obtain ⟨c9,H⟩:=iN H
  refine rG (pS 3 Z (iX Z U26 sz2 (rk r_a HS) c9 (GO.C8 (T:=(Ac .i64)) (n:=x4.toNat) (o:=0) HS r_a Z Z (getD_some (d:=0) (ltN c9)) Z Z na2 Z (GO.eql Z Z Z Z (nL ?_)))))
  rcases iE H with ⟨c10,H⟩|⟨c10,H⟩
  ·
   refine yB Z (tT c10) (rN 2 Z ?_)
   obtain rfl:=sI H
   exact rT _ func128 Z Z ⟨Z,HS⟩
  refine nB Z (tF c10) (rN 4 Z (gW (f1 b1 (lR _) _ _ H HS) Z))
 exact gW (d1 K (lR _) _ _ H HS) Z
theorem Gh.calls {s:List Int} {v:Int} {r1:Bool} (HS:St w0 w (L)) (r_a:Bv w0 L (Ac .i64) A_a c_a uu s) (H:Gh.f K s v=some r1) :
  Calls prog 168 #[sV A_a s c_a,I v] w (Gh.post w0 L r1):=by
 unfold Gh.f at H
 refine cG func168 Z ?_
 refine rN 3 Z ?_
 obtain ⟨t1,h2,H⟩:=bI H
 refine rG (pS 2 Z (fJ aG Z (Ca.calls HS r_a h2) (fun _ wd3 ⟨h4,HS⟩=>⟨_,h4,(pS 2 Z (nL ?_))⟩)))
 obtain rfl:=sI H
 exact rT _ func168 Z Z ⟨Z,HS⟩
theorem He.calls {v:Int} {a1:List Int} {b1:Nat} {r1:Bool} (HS:St w0 w (Box b1 26 [sV A_a a1 c_a]::L)) (r_a:Bv w0 L (Ac .i64) A_a c_a uu a1) (H:He.f K v a1=some r1) :
  Calls prog 167 #[I v,pT b1] w (He.post w0 L a1 b1 A_a c_a r1):=by
 unfold He.f at H
 refine cG func167 Z ?_
 refine rN 3 Z ?_
 obtain ⟨t1,h2,H⟩:=bI H
 refine rG (lB 0 HS Z Ip Z (mV Z (fJ uB Z (Gh.calls HS (rD 1 r_a) h2) (fun _ wd3 ⟨h4,HS⟩=>⟨_,h4,(aS Z (nL ?_))⟩))))
 obtain rfl:=sI H
 exact rT _ func167 Z Z ⟨Z,HS⟩
theorem Cf.calls {s a1:List Int} {A_a:Option Addr} {c_a b1:Nat} {r1:Int} (HS:St w0 w (Box b1 26 [sV A_b a1 c_b]::L)) (r_a:Bv w0 L (Ac .i64) A_a c_a uu s) (r_b:Bv w0 L (Ac .i64) A_b c_b uu a1) (H:Cf.f K s a1=some r1) :
   Calls prog 122 #[sV A_a s c_a,.func (.func 167) #[] #[pT b1]] w (Cf.post w0 L a1 b1 A_b c_b r1):=by
 unfold Cf.f at H
 refine cG func122 Z ?_
 refine rN 4 Z (rG (mV Z (lS Z Z U26 Z (mV Z (nL (rN 2 Z ?_))))))
 refine G.name (fun g1 e1=>?_)
 have f1:∀ c1,c1≤K→∀ (x8:Int) (w:World),Cf.l1 K c1 s a1 x8=some r1→St w0 w (Box b1 26 [sV A_b a1 c_b]::L)→G prog 122 19 [(0,sV A_a s c_a),(1,.func (.func 167) #[] #[pT b1]),(7,I (s.length:Int)),(8,I x8)] g1 w (Cf.post w0 L a1 b1 A_b c_b r1):=by
  refine lp (fun _ w H _=>by rw [Cf.l1] at H; cases H) fun d1 i1 h1 x8 w H HS=>?_
  rw [Cf.l1] at H
  subst e1
  refine rN 3 Z ?_
  rcases iS H with ⟨c16,H⟩|⟨c16,H⟩
  ·
   refine nB Z (tF c16) (rN 3 Z ?_)
   obtain rfl:=sI H
   exact rT _ func122 Z Z ⟨Z,HS⟩
  refine yB Z (tT c16) (rN 6 Z ?_)
  obtain ⟨c17,H⟩:=iN H
  obtain ⟨t18,h19,H⟩:=bI H
  refine rG (pS 3 Z (iX Z U26 sz2 (rk (rD 1 r_a) HS) c17 (GO.C8 (T:=(Ac .i64)) (n:=x8.toNat) (o:=0) HS (rD 1 r_a) Z Z (getD_some (d:=0) (ltN c17)) Z Z na2 Z ?_)))
  replace HS:=HS.pk 1 [0] Z
  refine GO.clo Z Z func167 Xu.2.1 Xu.2.2 Z Z (He.calls HS r_b h19) (fun _ wd20 ⟨h21,HS⟩=>⟨_,h21,(nL ?_)⟩)
  rcases iE H with ⟨c22,H⟩|⟨c22,H⟩
  ·
   refine yB Z c22 (rN 2 Z ?_)
   obtain rfl:=sI H
   exact rT _ func122 Z Z ⟨Z,HS⟩
  refine nB Z (Cv c22) (rN 4 Z (gW (h1 d1 (lR _) _ _ H HS) Z))
 exact gW (f1 K (lR _) _ _ H HS) Z
theorem Bw.calls {s c1:List Int} {A_a:Option Addr} {c_a d1:Nat} {r1:List Int} (HS:St w0 w (Own (Ac .i64) 2 A_a c_a uu s::Box d1 26 [sV A_b c1 c_b]::L)) (r_b:Bv w0 L (Ac .i64) A_b c_b uu c1) (H:Bw.f K s c1=some r1) :
   Calls prog 124 #[sV A_a s c_a,.func (.func 167) #[] #[pT d1]] w (Bw.post w0 L c1 d1 A_b c_b r1):=by
 unfold Bw.f at H
 refine cG func124 Z ?_
 refine rN 3 Z ?_
 obtain ⟨t1,h2,H⟩:=bI H
 refine rG (pS 2 Z ?_)
 replace HS:=HS.pk 2 [1,0] Z
 refine fJ Vb Z (Cf.calls HS (ro 0 Z) (rD 1 r_b) h2) (fun _ wd3 ⟨h4,HS⟩=>⟨_,h4,(aS Z (nL (rN 3 Z ?_)))⟩)
 rcases iE H with ⟨c5,H⟩|⟨c5,H⟩
 ·
  refine yB Z (tT c5) (rN 2 Z ?_)
  obtain rfl:=sI H
  exact rT _ func124 Z Z ⟨_,_,Z,(HS.pk 2 [1,0] Z)⟩
 refine nB Z (tF c5) (rN 6 Z ?_)
 refine G.name (fun k1 h1=>?_)
 have i1:∀ f1,f1≤K→∀ (x19:List Int) (a1 b1:Int) (w:World),Bw.l1 K f1 c1 x19 a1 b1=some r1→St w0 w (Own (Ac .i64) 2 A_a c_a uu x19::Box d1 26 [sV A_b c1 c_b]::L)→G prog 124 42 [(0,sV A_a x19 c_a),(1,.func (.func 167) #[] #[pT d1]),(5,I a1),(6,I b1)] k1 w (Bw.post w0 L c1 d1 A_b c_b r1):=by
  refine lp (fun _ _ _ w H _=>by rw [Bw.l1] at H; cases H) fun e1 m1 g1 x19 a1 b1 w H HS=>?_
  rw [Bw.l1] at H
  subst h1
  refine rN 2 Z (rG (pS 2 Z (lS Z Z U26 Z (GO.lss Z Z Z Z (nL ?_)))))
  rcases iS H with ⟨c35,H⟩|⟨c35,H⟩
  ·
   refine nB Z (tF c35) (rN 2 Z ?_)
   obtain ⟨c44,H⟩:=iN H
   have h46:=Rw (xs:=x19) (z:=0) (fE (leN c44) (lR _))
   refine rG (pS 2 Z (GO.slL (T:=(Ac .i64)) HS (ro 0 Z) Z Z Z U26 sz2 c44.1 c44.2 Z (GO.aF (T:=(Ac .i64)) (j:=0) (l:=a1.toNat) 0 () HS Z Ao Z Z U26 zr2 Z Z (qC (lR _) ((ro 0 Z) _ HS).1) (fE (leN c44) (lR _)) (fun _=>Z) fun wd45 HS=>nL (G.len (t:=0) (m:=(over x19 a1.toNat (List.replicate ((x19.take x19.length).drop a1.toNat).length 0)).length) Z (by simp only [List.length_set,h46]<;>rfl) (sQ ?_)))))
   obtain ⟨c47,H⟩:=iN H
   refine rG (pS 2 Z (GO.slH (T:=(Ac .i64)) HS (ro 0 Z) Z Z Z U26 sz2 c47.1 c47.2 Z (aS Z (nL ?_))))
   replace HS:=HS.Xy (A':=(Jn A_a 0 c_a 1)) (c':=(c_a - 0)) (j:=0) (l:=0) (h:=a1.toNat) (m:=c_a) Z (Nat.zero_le _) (leN c47) (Nat.le_trans (leN c47) ((ro 0 Z) _ HS).1) (lR _) Z Z
   obtain rfl:=sI H
   exact rT _ func124 Z Z ⟨_,_,Z,HS⟩
  refine yB Z (tT c35) (rN 4 Z ?_)
  obtain ⟨c36,H⟩:=iN H
  refine rG (pS 2 Z (iX Z U26 sz2 (rk (ro 0 Z) HS) c36 (GO.C8 (T:=(Ac .i64)) (n:=b1.toNat) (o:=0) HS (ro 0 Z) Z Z (getD_some (d:=0) (ltN c36)) Z Z na2 Z (aS Z (nL (sQ ?_))))))
  obtain ⟨t37,h38,H⟩:=bI H
  refine rG (pS 2 Z ?_)
  replace HS:=HS.pk 2 [1,0] Z
  refine GO.clo Z Z func167 Xu.2.1 Xu.2.2 Z Z (He.calls HS (rD 1 r_b) h38) (fun _ wd39 ⟨h40,HS⟩=>⟨_,h40,(GO.not Z Z Z (nL ?_))⟩)
  rcases iE H with ⟨c41,H⟩|⟨c41,H⟩
  ·
   refine nB Z (congrArg Bool.not c41) (rN 4 Z (gW (g1 e1 (lR _) _ _ _ _ H (HS.pk 2 [1,0] Z)) Z))
  refine yB Z (congrArg Bool.not (Cv c41)) (sQ ?_)
  obtain ⟨c42,H⟩:=iN H
  refine rG (pS 3 Z (iX Z U26 sz2 (rk (ro 1 Z) HS) c42 (GO.Hl (T:=(Ac .i64)) (j:=1) (n:=a1.toNat) (o:=0) (vs:=[I (x19.getD b1.toNat 0)]) (x19.getD b1.toNat 0) HS Z Ao Z Z Z Z (htN na2 Z) Z (getD_some (d:=0) (ltN c42)) Z Z fun wd43 HS=>nL (G.len (t:=0) (m:=(x19.set a1.toNat (x19.getD b1.toNat 0)).length) Z (by simp only [List.length_set]<;>rfl) (rN 4 Z (gW (g1 e1 (lR _) _ _ _ _ H (HS.pk 2 [1,0] Z)) Z))))))
 exact gW (i1 K (lR _) _ _ _ _ H (HS.pk 2 [1,0] Z)) Z
theorem Ic.calls {not:List Int} {r1:List Int} (HS:St w0 w (L)) (r_a:Bv w0 L (Ac .i64) A_a c_a uu not) (H:Ic.f K not=some r1) :
  Calls prog 130 #[sV A_a not c_a] w (Ic.post w0 L r1):=by
 unfold Ic.f at H
 refine cG func130 Z ?_
 refine sQ (rG (GO.box (cs:=[sV A_a not c_a]) HS Z Z Z Z fun b1 wd2 HS=>aS Z (nL (sQ ?_))))
 obtain ⟨t3,h4,H⟩:=bI H
 obtain ⟨t9,h10,H⟩:=bI H
 refine rG (fJ Xj Z (Es.calls HS  h4) (fun _ wd7 ⟨A5,c6,h8,HS⟩=>⟨_,h8,(GO.U9 Z Z Z Z ?_)⟩))
 replace HS:=HS.pk 2 [0,1] Z
 refine fJ kW Z (Bw.calls HS r_a h10) (fun _ wd13 ⟨A11,c12,h14,HS⟩=>⟨_,h14,(aS Z (nL ?_))⟩)
 obtain rfl:=sI H
 exact rT _ func130 Z Z ⟨_,_,Z,(HS.pk 2 [0] Z)⟩
theorem J6.calls {x r1:Int} (HS:St w0 w (L)) (H:J6.f x=some r1) :
   Calls prog 56 #[I x] w (J6.post w0 L r1):=by
 unfold J6.f at H
 refine cG func56 Z ?_
 refine rN 5 Z ?_
 rcases iE H with ⟨c1,H⟩|⟨c1,H⟩
 ·
  refine yB Z (tT c1) (rN 2 Z ?_)
  obtain rfl:=sI H
  exact rT _ func56 Z Z ⟨Z,HS⟩
 refine nB Z (tF c1) (rN 3 Z ?_)
 obtain rfl:=sI H
 exact rT _ func56 Z Z ⟨Z,HS⟩
theorem Da.calls {next same:Int} {d1 a1:List Int} {b1:Int} {n1:List (Int × Bool)} {e1:List Int} {k1:Nat} {A_a:Option Addr} {c_a g1:Nat} {A_b:Option Addr} {c_b f1:Nat} {m1 h1 i1:Nat} {r1 r2:List Int} {r3:List (Int × Bool)} (HS:St w0 w (Box k1 26 [sV A_a d1 c_a]::Own (Ac .i64) 2 A_a c_a uu d1::Box g1 26 [sV A_b a1 c_b]::Own (Ac .i64) 2 A_b c_b uu a1::Box f1 3 [I b1]::Box m1 162 [.map (some h1)]::O9 h1 (Value.int .i64) Value.bool n1::Box i1 26 [sV A_c e1 c_c]::L)) (r_c:Bv w0 L (Ac .i64) A_c c_c uu e1) (H:Da.f next same d1 a1 b1 n1 e1=some (r1,r2,r3)) :
   Calls prog 160 #[I next,I same,pT k1,pT g1,pT f1,pT m1,pT i1] w (Da.post w0 L b1 e1 k1 A_a c_a g1 f1 m1 h1 i1 A_c c_c r1 r2 r3):=by
 unfold Da.f at H
 refine cG func160 Z ?_
 refine sQ ?_
 obtain ⟨c1,H⟩:=iN H
 have h2:=(rk (ro 3 Z) HS)
 obtain ⟨c3,H⟩:=iN H
 have h4:=(rk (ro 1 Z) HS)
 refine G.lex mixed [7,0,1,2,3,4,5,6,8,9] (by kernel_rfl) ?_
 replace HS:=HS.drew
 refine GX.ps 1 Z (GX.l1 Z Z Z (fun _ g=>lB 0 HS Z Ip Z g) Z (GX.l1 Z Z Z (fun _ g=>lB 2 HS Z Ip Z g) Z (GX.l1 Z Z Z (fun _ g=>lB 4 HS Z na3 Z g) Z (qL Z Z (fun _ _ g=>iX Z U26 sz2 h2 c1 g) Z (GX.l1 Z Z Z (fun _ g=>GO.C8 (T:=(Ac .i64)) (n:=b1.toNat) (o:=0) HS (ro 3 Z) Z Z (getD_some (d:=0) (ltN c1)) Z Z na2 Z g) Z (qL Z Z (fun _ _ g=>iX Z U26 sz2 h4 c3 g) Z (GX.l1 Z Z Z (fun _ g=>GO.C8 (T:=(Ac .i64)) (n:=(a1.getD b1.toNat 0).toNat) (o:=0) HS (ro 1 Z) Z Z (getD_some (d:=0) (ltN c3)) Z Z na2 Z g) Z (GX.ps 2 Z (GX.nil (sQ ?_))))))))))
 obtain ⟨c5,H⟩:=iN H
 refine rG (lB 0 HS Z Ip Z (mV Z (iX Z U26 sz2 (rk (ro 1 Z) HS) c5 (GO.C8 (T:=(Ac .i64)) (n:=next.toNat) (o:=0) HS (ro 1 Z) Z Z (getD_some (d:=0) (ltN c5)) Z Z na2 Z (nL (rN 3 Z ?_))))))
 rcases iS H with ⟨c6,H⟩|⟨c6,H⟩
 ·
  refine nB Z (tF c6) (sQ (rG (mV Z (GO.neg Z Z Z (pS 2 Z (nL ?_))))))
  rcases iS H with ⟨c15,H⟩|⟨c15,H⟩
  ·
   refine nB Z (tF c15) (rN 2 Z ?_)
   obtain ⟨rfl,rfl,rfl⟩:=Kw H
   exact G.K6 func160 Z ⟨_,_,Z,HS⟩
  refine yB Z (tT c15) ?_
  obtain ⟨c16,H⟩:=iN H
  refine G.lex mixed [2,0,1,3,4,5] (by kernel_rfl) ?_
  replace HS:=HS.drew
  refine GX.ps 1 Z (GX.l1 Z Z Z (fun _ g=>lB 5 HS Z mG Z g) Z (GX.l1 Z Z Z (fun _ g=>lB 7 HS Z Ip Z g) Z (qL Z Z (fun _ _ g=>iX Z U26 sz2 (rk (rD 8 r_c) HS) c16 g) Z (GX.l1 Z Z Z (fun _ g=>GO.C8 (T:=(Ac .i64)) (n:=next.toNat) (o:=0) HS (rD 8 r_c) Z Z (getD_some (d:=0) (ltN c16)) Z Z na2 Z g) Z (GX.l2 Z (GO.zG (e1.getD next.toNat 0) true wX HS (j:=6) Z Z Z Z Z zV fun wd17 HS=>GX.fin tv (GX.nil (G.Uc ?_))))))))
  obtain ⟨rfl,rfl,rfl⟩:=Kw H
  exact G.K6 func160 Z ⟨_,_,Z,HS⟩
 refine yB Z (tT c6) (sQ (rG (lB 0 HS Z Ip Z (pS 2 Z (iX Z U26 sz2 (rk (ro 1 Z) HS) c5 (GO.Hl (T:=(Ac .i64)) (j:=1) (n:=next.toNat) (o:=0) (vs:=[I (w64 ((d1.getD ((a1.getD b1.toNat 0).toNat) 0)*same))]) (w64 ((d1.getD ((a1.getD b1.toNat 0).toNat) 0)*same)) HS Z Ao Z Z Z Z (htN na2 Z) Z (getD_some (d:=0) (ltN c5)) Z Z fun wd7 HS=>nL ?_))))))
 replace HS:=HS.G6 (j:=0) (cs':=[sV A_a (d1.set next.toNat (w64 ((d1.getD ((a1.getD b1.toNat 0).toNat) 0)*same))) c_a]) Z (by simp only [sV,List.length_set]<;>rfl)
 obtain ⟨c13,H⟩:=iN H
 refine rG (lB 2 HS Z Ip Z (mV Z (GO.D8 (el:=2) ([I next]) HS Z Z (fun _=>by kernel_rfl) Z fun b8 wd9 HS=>GO.app1 (T:=(Ac .i64)) (j:=4) (jb:=0) next HS Z Z Ao Z Z Z U26 Lf Z Z Z c13 Z fun A11 c12 wd10 HS=>GO.K7 (j:=3) (vs:=[sV A11 (a1++[next]) c12]) ([sV A11 (a1++[next]) c12]) HS Z Z Z Z Z (htN Ip Z) Z Z Z fun wd14 HS=>nL (G.Uc ?_))))
 obtain ⟨rfl,rfl,rfl⟩:=Kw H
 exact G.K6 func160 Z ⟨_,_,Z,(HS.pk 9 [1,2,3,4,5,6,7,8] Z)⟩
theorem Ag.calls {k1:List (List Am)} {id:Int} {m1 n1:List Int} {g1:Int} {q1:List (Int × Bool)} {a1:List Int} {y_a:Nat→(Ty.slice 83 Ak).Lay} {c1:Nat} {A_b:Option Addr} {c_b f1:Nat} {A_c:Option Addr} {c_c d1:Nat} {i1 h1 e1:Nat} {r1 r2:List Int} {r3:List (Int × Bool)} (HS:St w0 w (Box c1 26 [sV A_b m1 c_b]::Own (Ac .i64) 2 A_b c_b uu m1::Box f1 26 [sV A_c n1 c_c]::Own (Ac .i64) 2 A_c c_c uu n1::Box d1 3 [I g1]::Box i1 162 [.map (some h1)]::O9 h1 (Value.int .i64) Value.bool q1::Box e1 26 [sV A_d a1 c_d]::L)) (r_a:Bv w0 L (Ty.slice 83 Ak) A_a c_a y_a k1) (r_d:Bv w0 L (Ac .i64) A_d c_d uu a1) (H:Ag.f K k1 id m1 n1 g1 q1 a1=some (r1,r2,r3)) :
   Calls prog 159 #[.agg [sV A_a k1 c_a].toArray,I id,.func (.func 160) #[] #[pT c1,pT f1,pT d1,pT i1,pT e1]] w (Ag.post w0 L g1 a1 c1 A_b c_b f1 d1 i1 h1 e1 A_d c_d r1 r2 r3):=by
 unfold Ag.f at H
 refine cG func159 Z ?_
 refine sQ (rG (bA HS Z fun b1 wd2 HS=>nL (sQ (rG (mV Z (GO.quo Z Z Z (by decide) Z (aS Z (nL (sQ ?_)))))))))
 obtain ⟨t3,t4,h5,H⟩:=Cx H
 refine rG (mV Z (GO.rem Z Z Z (by decide) Z (fJ Xc Z (Gw.calls HS  h5) (fun _ wd6 ⟨h7,HS⟩=>⟨_,h7,(pS 5 Z (nL (sQ ?_)))⟩))))
 obtain ⟨t10,h11,H⟩:=bI H
 refine rG (pS 2 Z (GO.D8 (el:=2) ([I t3,I t4]) HS Z Z (fun _=>by kernel_rfl) Z fun b8 wd9 HS=>?_))
 replace HS:=HS.Ib (T:=(Ac .i64)) (j:=0) Z Ao uu ([t3,t4]:List Int) Z (Ky Z)
 refine GO.Ke (t:=23) (m:=([t3,t4]:List Int).length) (c':=([t3,t4]:List Int).length) Z Z Z (fJ bQ Z (Ic.calls HS (ro 0 Z) h11) (fun _ wd14 ⟨A12,c13,h15,HS⟩=>⟨_,h15,(lS Z Z U26 Z (mV Z (nL (rN 2 Z ?_))))⟩))
 refine G.name (fun t1 u1=>?_)
 have v1:∀ o1,o1≤K→∀ (x59:List Int) (A60:Option Addr) (c61:Nat) (x62:List Int) (x63:List (Int × Bool)) (x64:Int) (w:World),Ag.l1 K o1 k1 id g1 a1 t3 t4 t10 x59 x62 x63 x64=some (r1,r2,r3)→St w0 w (Box c1 26 [sV A_b x59 c_b]::Own (Ac .i64) 2 A_b c_b uu x59::Box f1 26 [sV A60 x62 c61]::Own (Ac .i64) 2 A60 c61 uu x62::Box d1 3 [I g1]::Box i1 162 [.map (some h1)]::O9 h1 (Value.int .i64) Value.bool x63::Box e1 26 [sV A_d a1 c_d]::Box b1 33 [sV A_a k1 c_a]::Own (Ac .i64) 2 A12 c13 uu t10::L)→G prog 159 65 [(2,.func (.func 160) #[] #[pT c1,pT f1,pT d1,pT i1,pT e1]),(3,pT b1),(6,I (w64 (id.tdiv 6))),(7,I t3),(8,I t4),(24,sV A12 t10 c13),(25,I (t10.length:Int)),(26,I x64)] t1 w (Ag.post w0 L g1 a1 c1 A_b c_b f1 d1 i1 h1 e1 A_d c_d r1 r2 r3):=by
  refine lp (fun _ _ _ _ _ _ w H _=>by rw [Ag.l1] at H; cases H) fun p1 x1 s1 x59 A60 c61 x62 x63 x64 w H HS=>?_
  rw [Ag.l1] at H
  subst u1
  refine rN 3 Z ?_
  rcases iS H with ⟨c108,H⟩|⟨c108,H⟩
  ·
   refine nB Z (tF c108) (G.exit Z ?_)
   obtain ⟨rfl,rfl,rfl⟩:=Kw H
   exact G.K6 func159 Z ⟨_,_,Z,(HS.pk 10 [0,1,2,3,4,5,6,7] Z)⟩
  refine yB Z (tT c108) (rN 4 Z ?_)
  obtain ⟨c109,H⟩:=iN H
  refine rG (iX Z U26 sz2 (rk (ro 9 Z) HS) c109 (GO.C8 (T:=(Ac .i64)) (n:=x64.toNat) (o:=0) HS (ro 9 Z) Z Z (getD_some (d:=0) (ltN c109)) Z Z na2 Z (aS Z (nL (sQ ?_)))))
  obtain ⟨c110,H⟩:=iN H
  obtain ⟨c111,H⟩:=iN H
  obtain ⟨e112,h113,H⟩:=Gp H
  refine rG (fL b1 0 F3 Z (lB 8 HS Z Jo Z (mV Z (iX Z U31 Lm (rk (rD 10 r_a) HS) c110 (GO.C8 (T:=(Ty.slice 83 Ak)) (n:=(w64 (id.tdiv 6)).toNat) (o:=0) HS (rD 10 r_a) Z Z (getD_some (d:=[]) (ltN c110)) Z Z Lj Z (mV Z (GO.ix Z Z Z U81 Ls ((Bv.elem (rD 10 r_a) c110.1 c110.2) _ HS).2.2.1 c111.1 c111.2 Z (GO.Kk (T:=Ak) (n:=(t10.getD x64.toNat 0).toNat) HS (Bv.elem (rD 10 r_a) c110.1 c110.2) Z Z (Gt (ltN c111) h113) Jf Z (GO.alloc HS Z Pb Z Z fun b114 wd115 HS=>sW 0 HS Z Jf Z fun wd116 HS=>nL (rN 2 Z ?_))))))))))
  obtain ⟨t117,h118,H⟩:=bI H
  refine rG (lW 0 HS Z Jf (fJ Nv Z (Bo.calls HS  h118) (fun _ wd119 ⟨h120,HS⟩=>⟨_,h120,(nL ?_)⟩)))
  rcases iE H with ⟨c121,H⟩|⟨c121,H⟩
  ·
   refine yB Z c121 (rN 3 Z (gW (s1 p1 (lR _) _ _ _ _ _ _ _ H (HS.pk 11 [1,2,3,4,5,6,7,8,9,10] Z)) Z))
  refine nB Z (Cv c121) (rN 2 Z ?_)
  obtain ⟨t122,t123,t124,t125,h126,H⟩:=Ii H
  refine rG (fL b114 1 J7 Z (lB 0 HS Z na2 Z (fJ Oz Z (Ej.calls HS  h126) (fun _ wd127 ⟨h128,HS⟩=>⟨_,h128,(GO.alloc HS Z Ug Z Z fun b129 wd130 HS=>sW 0 HS Z S9 Z fun wd131 HS=>nL ?_)⟩))))
  obtain ⟨c132,H⟩:=iN H
  obtain ⟨c133,H⟩:=iN H
  obtain ⟨t134,h135,H⟩:=bI H
  obtain ⟨t138,h139,H⟩:=bI H
  obtain ⟨t142,t143,t144,h145,H⟩:=Gb H
  obtain ⟨c146,H⟩:=iN H
  refine G.Jk mixed (fun w=>St w0 w (Box b129 160 [I t122,I t123,I t124,I t125]::Box b114 83 [I e112.Tet,I e112.Perm]::L)) [2,6,9,14,17] [0,1,4,5,7,8,12,13,15,16,2,3,6,9,14,17,18,10,11,19,20] [] (by kernel_rfl) (by kernel_rfl) (HS.drew.pk 12 [0,1] Z) ?_
  replace HS:=HS.drew
  refine GX.ps 1 Z (qL Z Z (fun _ _ g=>fL b114 0 F6 Z g) Z (GX.ps 1 Z (qL Z Z (fun _ _ g=>GO.ixW Z Z Z L8 sz2 c132 Z g) Z (GX.ps 1 Z (qL Z Z (fun _ _ g=>GO.ixW Z Z Z L8 sz2 c133 Z g) Z (GX.ps 1 Z (qL Z Z (fun _ _ g=>GO.ixW Z Z Z L8 sz2 c133 Z g) Z (GX.ps 1 Z (qL Z Z (fun _ _ g=>GO.ixW Z Z Z L8 sz2 c132 Z g) Z (GX.ls Z Z Z (HS.pk 12 [0,1] Z) (fun _ HS _ g=>lB 1 HS Z na2 Z g) Z (GX.ps 1 Z (GX.ls Z Z Z (HS.pk 12 [0,1] Z) (fun _ HS _ g=>GO.ldW (j:=0) ([t122,t123,t124,t125]:List Int) HS Z Z Z c132 Z Z na2 Z g) Z (GX.ls Z Z Z (HS.pk 12 [0,1] Z) (fun _ HS _ g=>GO.ldW (j:=0) ([t122,t123,t124,t125]:List Int) HS Z Z Z c133 Z Z na2 Z g) Z (GX.ls Z Z Z (HS.pk 12 [0,1] Z) (fun _ HS _ g=>GO.ldW (j:=0) ([t122,t123,t124,t125]:List Int) HS Z Z Z c133 Z Z na2 Z g) Z ?_))))))))))))))
  refine GX.ls Z Z Z (HS.pk 12 [0,1] Z) (fun _ HS _ g=>GO.ldW (j:=0) ([t122,t123,t124,t125]:List Int) HS Z Z Z c132 Z Z na2 Z g) Z (GX.ps 1 Z (GX.l2 Z (fJ Xz Z (Ih.calls HS  h135) (fun _ wd136 ⟨h137,HS⟩=>⟨_,h137,(GX.fin (HS.pk 12 [0,1] Z) (GX.ps 1 Z (GX.l2 Z (fJ qR Z (J6.calls HS  h139) (fun _ wd140 ⟨h141,HS⟩=>⟨_,h141,(GX.fin (HS.pk 12 [0,1] Z) (GX.l2 Z ?_))⟩)))))⟩))))
  replace HS:=HS.pk 12 [2,3,4,5,6,7,8,9,0,1,10,11] Z
  refine GO.clo Z Z func160 lC.2.1 lC.2.2 Z Z (Da.calls HS (rD 4 r_d) h145) (fun _ wd149 ⟨A147,c148,h150,HS⟩=>⟨_,h150,(GX.fin (HS.pk 12 [8,9] Z) (GX.nil (rN 3 Z (gW (s1 p1 (lR _) _ _ _ _ _ _ _ H (HS.pk 12 [0,1,2,3,4,5,6,7,10,11] Z)) Z))))⟩)
 exact gW (v1 K (lR _) _ _ _ _ _ _ _ H (HS.pk 11 [3,4,5,6,7,8,9,10,2,0] Z)) Z
theorem Ah.calls {d1:List (List Am)} {y_a:Nat→(Ty.slice 83 Ak).Lay} {r1:List Int} (HS:St w0 w (L)) (r_a:Bv w0 L (Ty.slice 83 Ak) A_a c_a y_a d1) (H:Ah.f K d1=some r1) :
   Calls prog 119 #[.agg [sV A_a d1 c_a].toArray] w (Ah.post w0 L r1):=by
 unfold Ah.f at H
 refine cG func119 Z ?_
 refine sQ (rG (bA HS Z fun b1 wd2 HS=>aS Z (nL (sQ ?_))))
 obtain ⟨t3,h4,H⟩:=bI H
 refine rG (fL b1 0 F3 Z (lB 0 HS Z Jo Z (fJ Qw Z (Dq.calls HS (rD 1 r_a) h4) (fun _ wd5 ⟨h6,HS⟩=>⟨_,h6,(pS 2 Z (nL (sQ ?_)))⟩))))
 obtain ⟨c7,H⟩:=iN H
 obtain ⟨c8,H⟩:=iN H
 refine rG (mV Z (GO.make (T:=(Ac .i64)) 0 () HS Ao Z Z Z U26 Lf Z Z Z c7 c8 Z fun b9 wd10 HS=>GO.alloc HS Z jN Z Z fun b11 wd12 HS=>GO.K7 (j:=0) (vs:=[sV (sb b9) (List.replicate (w64 (6*t3)).toNat (0:Int)) ((w64 (6*t3)).toNat)]) ([sV (sb b9) (List.replicate (w64 (6*t3)).toNat (0:Int)) ((w64 (6*t3)).toNat)]) HS Z Z Z Z Z (htN Ip Z) Z Z Z fun wd13 HS=>nL (sQ ?_)))
 obtain ⟨t14,h15,H⟩:=bI H
 refine rG (lW 2 HS Z Iy (fJ Xd Z (Co.calls HS (rD 3 r_a) h15) (fun _ wd18 ⟨A16,c17,h19,HS⟩=>⟨_,h19,(GO.alloc HS Z jN Z Z fun b20 wd21 HS=>GO.K7 (j:=0) (vs:=[sV A16 t14 c17]) ([sV A16 t14 c17]) HS Z Z Z Z Z (htN Ip Z) Z Z Z fun wd22 HS=>nL (sQ (rG (GO.Yh (Value.int .i64) Value.bool HS Z Z fun b23 wd24 HS=>GO.alloc HS Z yQ Z Z fun b25 wd26 HS=>GO.K7 (j:=0) (vs:=[.map (some b23)]) ([.map (some b23)]) HS Z Z Z Z Z (htN mG Z) Z Z Z fun wd27 HS=>nL (rN 5 Z ?_)))))⟩)))
 refine G.name (fun u1 d2=>?_)
 have e2:∀ n1,n1≤K→∀ (c1:List Int) (f1:List (Int × Bool)) (x117:Int) (w:World),Ah.l1 K n1 d1 t3 t14 c1 f1 x117=some r1→St w0 w (Box b1 33 [sV A_a d1 c_a]::Box b11 26 [sV (sb b9) c1 ((w64 (6*t3)).toNat)]::Own (Ac .i64) 2 (sb b9) ((w64 (6*t3)).toNat) uu c1::Box b20 26 [sV A16 t14 c17]::Own (Ac .i64) 2 A16 c17 uu t14::Box b25 162 [.map (some b23)]::O9 b23 (Value.int .i64) Value.bool f1::L)→G prog 119 65 [(1,pT b1),(4,pT b11),(5,pT b20),(6,pT b25),(20,I (w64 (6*t3))),(21,I x117)] u1 w (Ah.post w0 L r1):=by
  refine lp (fun _ _ _ w H _=>by rw [Ah.l1] at H; cases H) fun g1 h2 t1 c1 f1 x117 w H HS=>?_
  rw [Ah.l1] at H
  subst d2
  refine rN 3 Z ?_
  rcases iS H with ⟨c205,H⟩|⟨c205,H⟩
  ·
   refine nB Z (tF c205) (rN 3 Z (rG (lB 1 HS Z Ip Z (lS Z Z U26 Z (mV Z (nL (rN 2 Z ?_)))))))
   refine G.name (fun v1 b2=>?_)
   have c2:∀ m1,m1≤g1→∀ (e1:List Int) (x279:Int) (w:World),Ah.l7 K m1 t14 c1 f1 e1 x279=some r1→St w0 w (Box b11 26 [sV (sb b9) e1 ((w64 (6*t3)).toNat)]::Own (Ac .i64) 2 (sb b9) ((w64 (6*t3)).toNat) uu e1::Box b20 26 [sV A16 t14 c17]::Own (Ac .i64) 2 A16 c17 uu t14::Box b25 162 [.map (some b23)]::O9 b23 (Value.int .i64) Value.bool f1::L)→G prog 119 65 [(4,pT b11),(5,pT b20),(6,pT b25),(50,I (c1.length:Int)),(51,I x279)] v1 w (Ah.post w0 L r1):=by
    refine lp (fun _ _ w H _=>by rw [Ah.l7] at H; cases H) fun q1 g2 p1 e1 x279 w H HS=>?_
    rw [Ah.l7] at H
    subst b2
    refine rN 3 Z ?_
    rcases iS H with ⟨c286,H⟩|⟨c286,H⟩
    ·
     refine nB Z (tF c286) (rN 2 Z (rG (lB 0 HS Z Ip Z (aS Z (nL ?_)))))
     obtain rfl:=sI H
     exact rT _ func119 Z Z ⟨_,_,Z,(HS.pk 6 [1] Z)⟩
    refine yB Z (tT c286) (rN 6 Z ?_)
    obtain ⟨c287,H⟩:=iN H
    have h288:=(rk (ro 3 Z) HS)
    refine G.lex mixed [2,0,1,3,4,5] (by kernel_rfl) ?_
    replace HS:=HS.drew
    refine GX.ps 1 Z (GX.l1 Z Z Z (fun _ g=>lB 4 HS Z mG Z g) Z (GX.l1 Z Z Z (fun _ g=>lB 2 HS Z Ip Z g) Z (qL Z Z (fun _ _ g=>iX Z U26 sz2 h288 c287 g) Z (GX.l1 Z Z Z (fun _ g=>GO.C8 (T:=(Ac .i64)) (n:=x279.toNat) (o:=0) HS (ro 3 Z) Z Z (getD_some (d:=0) (ltN c287)) Z Z na2 Z g) Z (GX.l1 Z Z Z (fun _ g=>GO.zQ false (t14.getD x279.toNat 0) wX HS (j:=5) Z Z Z Z zV zr4 Z Z g) Z (GX.nil ?_))))))
    rcases iS H with ⟨c289,H⟩|⟨c289,H⟩
    ·
     refine nB Z (Cv c289) (rN 4 Z (gW (p1 q1 (lR _) _ _ _ H HS) Z))
    refine yB Z c289 ?_
    obtain ⟨c290,H⟩:=iN H
    refine rG (lB 0 HS Z Ip Z (mV Z (iX Z U26 sz2 (fun _=>⟨_,_,Z⟩) c290 (GO.Hl (T:=(Ac .i64)) (j:=1) (n:=x279.toNat) (o:=0) (vs:=[I 0]) 0 HS Z Ao Z Z Z Z (htN na2 Z) Z (getD_some (d:=0) (ltN c290)) Z Z fun wd291 HS=>nL ?_))))
    replace HS:=HS.G6 (j:=0) (cs':=[sV (sb b9) (e1.set x279.toNat 0) ((w64 (6*t3)).toNat)]) Z (by simp only [sV,List.length_set]<;>rfl)
    refine rN 3 Z (gW (p1 q1 (lR _) _ _ _ H HS) Z)
   exact gW (c2 g1 (lR _) _ _ _ H (HS.pk 7 [1,2,3,4,5,6] Z)) Z
  refine yB Z (tT c205) (rN 7 Z ?_)
  obtain ⟨c206,H⟩:=iN H
  refine rG (lB 1 HS Z Ip Z (mV Z (iX Z U26 sz2 (fun _=>⟨_,_,Z⟩) c206 (GO.C8 (T:=(Ac .i64)) (n:=x117.toNat) (o:=0) HS (ro 2 Z) Z Z (getD_some (d:=0) (ltN c206)) Z Z na2 Z (GO.neq Z Z Z Z (nL ?_))))))
  rcases iS H with ⟨c207,H⟩|⟨c207,H⟩
  ·
   refine yB Z (nF c207) (rN 3 Z (gW (t1 g1 (lR _) _ _ _ _ H HS) Z))
  refine nB Z (nT c207) (rN 2 Z (rG (lB 1 HS Z Ip Z (mV Z (iX Z U26 sz2 (fun _=>⟨_,_,Z⟩) c206 (GO.Hl (T:=(Ac .i64)) (j:=2) (n:=x117.toNat) (o:=0) (vs:=[I 1]) 1 HS Z Ao Z Z Z Z (htN na2 Z) Z (getD_some (d:=0) (ltN c206)) Z Z fun wd208 HS=>nL ?_))))))
  replace HS:=HS.G6 (j:=1) (cs':=[sV (sb b9) (c1.set x117.toNat 1) ((w64 (6*t3)).toNat)]) Z (by simp only [sV,List.length_set]<;>rfl)
  refine sQ (rG (mV Z (GO.D8 (el:=2) ([I x117]) HS Z Z (fun _=>by kernel_rfl) Z fun b209 wd210 HS=>GO.alloc HS Z jN Z Z fun b211 wd212 HS=>?_)))
  replace HS:=HS.Ib (T:=(Ac .i64)) (j:=1) Z Ao uu ([x117]:List Int) Z (Ky Z)
  refine GO.Ke (t:=33) (m:=([x117]:List Int).length) (c':=([x117]:List Int).length) Z Z Z (GO.K7 (j:=0) (vs:=[sV (sb b209) ([x117]:List Int) (([x117]:List Int).length)]) ([sV (sb b209) ([x117]:List Int) (([x117]:List Int).length)]) HS Z Z Z Z Z (htN Ip Z) Z Z Z fun wd213 HS=>nL (sQ (rG (GO.alloc HS Z zr3 Z Z fun b214 wd215 HS=>GO.K7 (j:=0) (vs:=[I 0]) ([I 0]) HS Z Z Z Z Z (htN na3 Z) Z Z Z fun wd216 HS=>nL (rN 2 Z ?_)))))
  refine G.name (fun y1 a2=>?_)
  have x1:∀ s1,s1≤g1→∀ (i1:List Int) (k1:List (Int × Bool)) (A235:Option Addr) (c236:Nat) (h1:List Int) (b238:Nat) (a1:Int) (w:World),Ah.l6 K s1 d1 t3 t14 x117 i1 k1 h1 a1=some r1→St w0 w (Box b1 33 [sV A_a d1 c_a]::Box b11 26 [sV (sb b9) i1 ((w64 (6*t3)).toNat)]::Own (Ac .i64) 2 (sb b9) ((w64 (6*t3)).toNat) uu i1::Box b20 26 [sV A16 t14 c17]::Own (Ac .i64) 2 A16 c17 uu t14::Box b25 162 [.map (some b23)]::O9 b23 (Value.int .i64) Value.bool k1::Box b211 26 [sV A235 h1 c236]::Own (Ac .i64) 2 A235 c236 uu h1::Box b238 3 [I a1]::L)→G prog 119 65 [(1,pT b1),(4,pT b11),(5,pT b20),(6,pT b25),(8,pT b211),(9,pT b238),(20,I (w64 (6*t3))),(21,I x117)] y1 w (Ah.post w0 L r1):=by
   refine lp (fun _ _ _ _ _ _ _ w H _=>by rw [Ah.l6] at H; cases H) fun o1 z1 f2 i1 k1 A235 c236 h1 b238 a1 w H HS=>?_
   rw [Ah.l6] at H
   subst a2
   refine rN 2 Z (rG (lB 9 HS Z na3 Z (lB 7 HS Z Ip Z (lS Z Z U26 Z (GO.lss Z Z Z Z (nL ?_))))))
   rcases iS H with ⟨c256,H⟩|⟨c256,H⟩
   ·
    refine nB Z (tF c256) (rN 4 Z (gW (t1 o1 (Nat.le_of_succ_le z1) _ _ _ _ H (HS.pk 10 [0,1,2,3,4,5,6] Z)) Z))
   refine yB Z (tT c256) (rN 3 Z ?_)
   obtain ⟨c257,H⟩:=iN H
   have h258:=(rk (ro 8 Z) HS)
   obtain ⟨t259,t260,t261,h262,H⟩:=Gb H
   obtain ⟨c263,H⟩:=iN H
   refine G.lex mixed [5,0,1,2,3,4,6] (by kernel_rfl) ?_
   replace HS:=HS.drew
   refine qL Z Z (fun _ _ g=>GO.U9 Z Z Z Z g) Z (GX.l1 Z Z Z (fun _ g=>lW 0 HS Z Iy g) Z (GX.l1 Z Z Z (fun _ g=>lB 7 HS Z Ip Z g) Z (GX.l1 Z Z Z (fun _ g=>lB 9 HS Z na3 Z g) Z (qL Z Z (fun _ _ g=>iX Z U26 sz2 h258 c257 g) Z (GX.l1 Z Z Z (fun _ g=>GO.C8 (T:=(Ac .i64)) (n:=a1.toNat) (o:=0) HS (ro 8 Z) Z Z (getD_some (d:=0) (ltN c257)) Z Z na2 Z g) Z (GX.l2 Z ?_))))))
   replace HS:=HS.pk 10 [1,2,7,8,9,5,6,3,0,4] Z
   refine fJ sN Z (Ag.calls HS (rD 2 r_a) (ro 1 Z) h262) (fun _ wd266 ⟨A264,c265,h267,HS⟩=>⟨_,h267,(GX.fin tv (GX.nil (rN 3 Z (rG (lB 4 HS Z na3 Z (nL (rG (GO.alloc HS Z zr3 Z Z fun b268 wd269 HS=>GO.K7 (j:=0) (vs:=[I a1]) ([I a1]) HS Z Z Z Z Z (htN na3 Z) Z Z Z fun wd270 HS=>nL (rG (lB 0 HS Z na3 Z (GO.add Z Z Z Z (GO.K7 (j:=0) (vs:=[I (w64 (a1+1))]) ([I (w64 (a1+1))]) HS Z Z Z Z Z (htN na3 Z) Z Z Z fun wd271 HS=>?_))))))))))))⟩)
   refine nL (G.again (gW (f2 o1 (lR _) _ _ _ _ _ _ _ _ H (HS.pk 11 [9,1,2,8,10,6,7,3,4,0] Z)) Z))
  exact gW (x1 g1 (lR _) _ _ _ _ _ _ _ _ H (HS.pk 10 [3,4,5,6,7,8,9,1,2,0] Z)) Z
 exact gW (e2 K (lR _) _ _ _ _ H (HS.pk 7 [6,4,5,2,3,0,1] Z)) Z
theorem Cb.calls {c1:List (List Am)} {y_a:Nat→(Ty.slice 83 Ak).Lay} {r1:List Bool} (HS:St w0 w (L)) (r_a:Bv w0 L (Ty.slice 83 Ak) A_a c_a y_a c1) (H:Cb.f K c1=some r1) :
   Calls prog 79 #[.agg [sV A_a c1 c_a].toArray] w (Cb.post w0 L r1):=by
 unfold Cb.f at H
 refine cG func79 Z ?_
 refine sQ (rG (bA HS Z fun b1 wd2 HS=>aS Z (nL (sQ ?_))))
 obtain ⟨t3,h4,H⟩:=bI H
 refine rG (lW 0 HS Z Iy (fJ Xd Z (Co.calls HS (rD 1 r_a) h4) (fun _ wd7 ⟨A5,c6,h8,HS⟩=>⟨_,h8,(aS Z (nL (sQ ?_)))⟩)))
 obtain ⟨t9,h10,H⟩:=bI H
 obtain ⟨c13,H⟩:=iN H
 obtain ⟨c14,H⟩:=iN H
 refine rG (mV Z (fJ Vj Z (Gd.calls HS (ro 0 Z) h10) (fun _ wd11 ⟨h12,HS⟩=>⟨_,h12,(GO.make (T:=Fy) false () HS Ao Z Z Z Kt Vq Z Z Z c13 c14 Z fun b15 wd16 HS=>aS Z (nL (rN 2 Z ?_)))⟩)))
 obtain ⟨t17,h18,H⟩:=bI H
 refine rG (lW 2 HS Z Iy (fJ uT Z (Ah.calls HS (rD 3 r_a) h18) (fun _ wd21 ⟨A19,c20,h22,HS⟩=>⟨_,h22,(lS Z Z U26 Z (mV Z (nL (rN 2 Z ?_))))⟩)))
 refine G.name (fun h1 f1=>?_)
 have g1:∀ d1,d1≤K→∀ (a1:List Bool) (x29:Int) (w:World),Cb.l1 K d1 t3 t17 a1 x29=some r1→St w0 w (Own (Ac .i64) 2 A5 c6 uu t3::Own Fy 4 (sb b15) t9.toNat uu a1::Own (Ac .i64) 2 A19 c20 uu t17::L)→G prog 79 30 [(3,sV A5 t3 c6),(4,sV (sb b15) a1 t9.toNat),(13,sV A19 t17 c20),(14,I (t17.length:Int)),(15,I x29)] h1 w (Cb.post w0 L r1):=by
  refine lp (fun _ _ w H _=>by rw [Cb.l1] at H; cases H) fun e1 k1 i1 a1 x29 w H HS=>?_
  rw [Cb.l1] at H
  subst f1
  refine rN 3 Z ?_
  rcases iS H with ⟨c35,H⟩|⟨c35,H⟩
  ·
   refine nB Z (tF c35) (rN 3 Z ?_)
   obtain rfl:=sI H
   exact rT _ func79 Z Z ⟨_,_,Z,(HS.pk 3 [1] Z)⟩
  refine yB Z (tT c35) (rN 4 Z ?_)
  obtain ⟨c36,H⟩:=iN H
  refine rG (mV Z (iX Z U26 sz2 (rk (ro 2 Z) HS) c36 (GO.C8 (T:=(Ac .i64)) (n:=x29.toNat) (o:=0) HS (ro 2 Z) Z Z (getD_some (d:=0) (ltN c36)) Z Z na2 Z (pS 2 Z (nL ?_)))))
  obtain ⟨c37,H⟩:=iN H
  obtain ⟨c38,H⟩:=iN H
  refine rG (pS 3 Z (iX Z U26 sz2 (rk (ro 0 Z) HS) c37 (GO.C8 (T:=(Ac .i64)) (n:=x29.toNat) (o:=0) HS (ro 0 Z) Z Z (getD_some (d:=0) (ltN c37)) Z Z na2 Z (pS 2 Z (iX Z Kt sz4 (fun _=>⟨_,_,Z⟩) c38 (GO.Hl (T:=Fy) (j:=1) (n:=(t3.getD x29.toNat 0).toNat) (o:=0) (vs:=[.bool (decide (t17.getD x29.toNat 0=0))]) (decide (t17.getD x29.toNat 0=0)) HS Z Ao Z Z Z Z (htN na4 Z) Z (getD_some (d:=false) (ltN c38)) Z Z fun wd39 HS=>nL (G.len (t:=4) (m:=(a1.set ((t3.getD x29.toNat 0).toNat) (decide (t17.getD x29.toNat 0=0))).length) Z (by simp only [List.length_set]<;>rfl) (rN 3 Z (gW (i1 e1 (lR _) _ _ _ H HS) Z)))))))))
 exact gW (g1 K (lR _) _ _ _ H (HS.pk 4 [2,1,0] Z)) Z
theorem Dl.calls {s:List Bool} {v:Bool} {r1:Int} (HS:St w0 w (L)) (r_a:Bv w0 L Fy A_a c_a uu s) (H:Dl.f K s v=some r1) :
   Calls prog 116 #[sV A_a s c_a,.bool v] w (Dl.post w0 L r1):=by
 unfold Dl.f at H
 refine cG func116 Z ?_
 refine rN 4 Z (rG (mV Z (lS Z Z Kt Z (mV Z (nL (rN 2 Z ?_))))))
 refine G.name (fun e1 c1=>?_)
 have d1:∀ a1,a1≤K→∀ (x4:Int) (w:World),Dl.l1 K a1 s v x4=some r1→St w0 w (L)→G prog 116 19 [(0,sV A_a s c_a),(1,.bool v),(7,I (s.length:Int)),(8,I x4)] e1 w (Dl.post w0 L r1):=by
  refine lp (fun _ w H _=>by rw [Dl.l1] at H; cases H) fun b1 g1 f1 x4 w H HS=>?_
  rw [Dl.l1] at H
  subst c1
  refine rN 3 Z ?_
  rcases iS H with ⟨c8,H⟩|⟨c8,H⟩
  ·
   refine nB Z (tF c8) (rN 3 Z ?_)
   obtain rfl:=sI H
   exact rT _ func116 Z Z ⟨Z,HS⟩
  refine yB Z (tT c8) (rN 6 Z ?_)
  obtain ⟨c9,H⟩:=iN H
  refine rG (pS 3 Z (iX Z Kt sz4 (rk r_a HS) c9 (GO.C8 (T:=Fy) (n:=x4.toNat) (o:=0) HS r_a Z Z (getD_some (d:=false) (ltN c9)) Z Z na4 Z (GO.Aa1 Z Z Z U4 Z (nL ?_)))))
  rcases iE H with ⟨c10,H⟩|⟨c10,H⟩
  ·
   refine yB Z c10 (rN 2 Z ?_)
   obtain rfl:=sI H
   exact rT _ func116 Z Z ⟨Z,HS⟩
  refine nB Z (Cv c10) (rN 4 Z (gW (f1 b1 (lR _) _ _ H HS) Z))
 exact gW (d1 K (lR _) _ _ H HS) Z
theorem Fw.calls {s:List Bool} {v:Bool} {r1:Bool} (HS:St w0 w (L)) (r_a:Bv w0 L Fy A_a c_a uu s) (H:Fw.f K s v=some r1) :
  Calls prog 78 #[sV A_a s c_a,.bool v] w (Fw.post w0 L r1):=by
 unfold Fw.f at H
 refine cG func78 Z ?_
 refine rN 3 Z ?_
 obtain ⟨t1,h2,H⟩:=bI H
 refine rG (pS 2 Z (fJ wD Z (Dl.calls HS r_a h2) (fun _ wd3 ⟨h4,HS⟩=>⟨_,h4,(pS 2 Z (nL ?_))⟩)))
 obtain rfl:=sI H
 exact rT _ func78 Z Z ⟨Z,HS⟩
theorem Fz.calls {a1:List (List Am)} {y_a:Nat→(Ty.slice 83 Ak).Lay} {r1:Bool} (HS:St w0 w (L)) (r_a:Bv w0 L (Ty.slice 83 Ak) A_a c_a y_a a1) (H:Fz.f K a1=some r1) :
   Calls prog 96 #[.agg [sV A_a a1 c_a].toArray] w (Fz.post w0 L r1):=by
 unfold Fz.f at H
 refine cG func96 Z ?_
 refine sQ (rG (bA HS Z fun b1 wd2 HS=>aS Z (nL (sQ ?_))))
 rcases iS H with ⟨c3,H⟩|⟨c3,H⟩
 ·
  refine rG (fL b1 0 F3 Z (lB 0 HS Z Jo Z (lS Z Z U31 Z (pS 2 Z (kN 7 Z (tF c3) (oF Z (oF Z (oF Z (oF Z (pS 2 Z (oF Z (oF Z (oF Z (oF Z ?_))))))))))))))
  refine pS 2 Z (nL ?_)
  obtain rfl:=sI H
  exact rT _ func96 Z Z ⟨Z,(HS.pk 1 [] Z)⟩
 obtain ⟨t4,h5,H⟩:=bI H
 obtain ⟨t10,h11,H⟩:=bI H
 rcases iS H with ⟨c14,H⟩|⟨c14,H⟩
 ·
  refine rG (fL b1 0 F3 Z (lB 0 HS Z Jo Z (lS Z Z U31 Z (pS 2 Z (kN 7 Z (tT c3) (oN Z (lW 0 HS Z Iy (bK (oN Z (fJ jR Z (Ar.calls HS (rD 1 r_a) h5) (fun _ wd8 ⟨A6,c7,h9,HS⟩=>⟨_,h9,(bK (oN Z (fJ Vj Z (Gd.calls HS (ro 0 Z) h11) (fun _ wd12 ⟨h13,HS⟩=>⟨_,h13,(bK ?_)⟩))))⟩)))))))))))
  refine oN Z (GO.eql Z Z Z Z (bK (pS 2 Z (kN 13 Z (tF c14) (oF Z (oF Z (oF Z (oF Z (pS 2 Z (nL ?_))))))))))
  obtain rfl:=sI H
  exact rT _ func96 Z Z ⟨Z,(HS.pk 2 [] Z)⟩
 obtain ⟨t15,h16,H⟩:=bI H
 obtain ⟨t21,h22,H⟩:=bI H
 refine rG (fL b1 0 F3 Z (lB 0 HS Z Jo Z (lS Z Z U31 Z (pS 2 Z (kN 7 Z (tT c3) (oN Z (lW 0 HS Z Iy (bK (oN Z (fJ jR Z (Ar.calls HS (rD 1 r_a) h5) (fun _ wd8 ⟨A6,c7,h9,HS⟩=>⟨_,h9,(bK (oN Z (fJ Vj Z (Gd.calls HS (ro 0 Z) h11) (fun _ wd12 ⟨h13,HS⟩=>⟨_,h13,(bK ?_)⟩))))⟩)))))))))))
 refine oN Z (GO.eql Z Z Z Z (bK (pS 2 Z (kN 13 Z (tT c14) (oN Z (lW 1 HS Z Iy (bK (oN Z (fJ xO Z (Cb.calls HS (rD 2 r_a) h16) (fun _ wd19 ⟨A17,c18,h20,HS⟩=>⟨_,h20,(bK (oN Z (fJ yX Z (Fw.calls HS (ro 0 Z) h22) (fun _ wd23 ⟨h24,HS⟩=>⟨_,h24,(bK (oN Z ?_))⟩))))⟩))))))))))
 refine GO.not Z Z Z (bK (pS 2 Z (nL ?_)))
 obtain rfl:=sI H
 exact rT _ func96 Z Z ⟨Z,(HS.pk 3 [] Z)⟩
theorem I8.calls {a1:List (List Am)} {y_a:Nat→(Ty.slice 83 Ak).Lay} {r1:Int} (HS:St w0 w (L)) (r_a:Bv w0 L (Ty.slice 83 Ak) A_a c_a y_a a1) (H:I8.f K a1=some r1) :
   Calls prog 50 #[.agg [sV A_a a1 c_a].toArray] w (I8.post w0 L r1):=by
 unfold I8.f at H
 refine cG func50 Z ?_
 refine sQ (rG (bA HS Z fun b1 wd2 HS=>aS Z (nL (rN 3 Z ?_))))
 obtain ⟨t3,h4,H⟩:=bI H
 refine rG (lW 0 HS Z Iy (fJ zP Z (Br.calls HS (rD 1 r_a) h4) (fun _ wd5 ⟨h6,HS⟩=>⟨_,h6,(pS 2 Z (nL ?_))⟩)))
 rcases iS H with ⟨c7,H⟩|⟨c7,H⟩
 ·
  refine yB Z (congrArg Bool.not (Cv c7)) (rN 2 Z ?_)
  obtain rfl:=sI H
  exact rT _ func50 Z Z ⟨Z,(HS.pk 1 [] Z)⟩
 refine nB Z (congrArg Bool.not c7) (sQ ?_)
 obtain ⟨t8,h9,H⟩:=bI H
 refine rG (lW 0 HS Z Iy (fJ zK Z (Fz.calls HS (rD 1 r_a) h9) (fun _ wd10 ⟨h11,HS⟩=>⟨_,h11,(pS 2 Z (nL ?_))⟩)))
 rcases iS H with ⟨c12,H⟩|⟨c12,H⟩
 ·
  refine yB Z (congrArg Bool.not (Cv c12)) (rN 2 Z ?_)
  obtain rfl:=sI H
  exact rT _ func50 Z Z ⟨Z,(HS.pk 1 [] Z)⟩
 refine nB Z (congrArg Bool.not c12) (rN 4 Z ?_)
 obtain rfl:=sI H
 exact rT _ func50 Z Z ⟨Z,(HS.pk 1 [] Z)⟩
theorem Df.calls {tet f:Int} {i1 h1:Int} {d1 c1:Int} {e1 g1:Int} {a1:List Int} {f1:Nat} {r1:List Int} (HS:St w0 w (Box f1 26 [sV A_a a1 c_a]::Own (Ac .i64) 2 A_a c_a uu a1::L)) (H:Df.f K tet f i1 h1 d1 c1 e1 g1 a1=some r1) :
  Calls prog 166 #[I tet,I f,.agg [I i1,I h1].toArray,.agg [I d1,I c1,I e1,I g1].toArray,pT f1] w (Df.post w0 L f1 A_a c_a r1):=by
 unfold Df.f at H
 refine cG func166 Z ?_
 refine sQ (rG (bA HS Z fun b1 wd2 HS=>bA HS Z fun b3 wd4 HS=>nL ?_))
 obtain ⟨c5,H⟩:=iN H
 obtain ⟨t6,h7,H⟩:=bI H
 obtain ⟨c8,H⟩:=iN H
 refine G.lex mixed [1,2,3,4,5,8,9,0,6,7,10,11,12] (by kernel_rfl) ?_
 replace HS:=HS.drew
 refine GX.ps 4 Z (qL Z Z (fun _ _ g=>fL b1 0 F6 Z g) Z (GX.ps 1 Z (qL Z Z (fun _ _ g=>GO.ixW Z Z Z L8 sz2 c5 Z g) Z (GX.l1 Z Z Z (fun _ g=>lB 2 HS Z Ip Z g) Z (GX.l1 Z Z Z (fun _ g=>lB 1 HS Z na2 Z g) Z (GX.ps 1 Z (GX.l1 Z Z Z (fun _ g=>GO.ldW (j:=0) ([d1,c1,e1,g1]:List Int) HS Z Z Z c5 Z Z na2 Z g) Z (GX.ps 1 Z (GX.l2 Z ?_)))))))))
 replace HS:=HS.pk 4 [3,0,1,2] Z
 refine fJ bF Z (Gl.calls HS  h7) (fun _ wd9 ⟨h10,HS⟩=>⟨_,h10,(GX.fin tv (GX.nil ?_))⟩)
 replace HS:=HS.G6 (j:=3) (cs':=[sV A_a t6 c_a]) Z (by simp only [sV,List.length_set,c8]<;>rfl)
 obtain rfl:=sI H
 exact G.K6 func166 Z ⟨Z,(HS.pk 4 [3,0] Z)⟩
theorem Ad.calls {a1:List (List Am)} {d1:List Int} {y_a:Nat→(Ty.slice 83 Ak).Lay} {c1:Nat} {r1:List Int} (HS:St w0 w (Box c1 26 [sV A_b d1 c_b]::Own (Ac .i64) 2 A_b c_b uu d1::L)) (r_a:Bv w0 L (Ty.slice 83 Ak) A_a c_a y_a a1) (H:Ad.f K a1 d1=some r1) :
   Calls prog 154 #[.agg [sV A_a a1 c_a].toArray,.func (.func 166) #[] #[pT c1]] w (Ad.post w0 L c1 A_b c_b r1):=by
 unfold Ad.f at H
 refine cG func154 Z ?_
 refine sQ (rG (bA HS Z fun b1 wd2 HS=>nL (sQ (rG (fL b1 0 F3 Z (lB 0 HS Z Jo Z (lS Z Z U31 Z (mV Z (nL (rN 2 Z ?_))))))))))
 refine G.name (fun s1 n1=>?_)
 have q1:∀ h1,h1≤K→∀ (x79:List Int) (x80:Int) (w:World),Ad.l1 K h1 a1 x79 x80=some r1→St w0 w (Box c1 26 [sV A_b x79 c_b]::Own (Ac .i64) 2 A_b c_b uu x79::L)→G prog 154 36 [(1,.func (.func 166) #[] #[pT c1]),(9,sV A_a a1 c_a),(10,I (a1.length:Int)),(11,I x80)] s1 w (Ad.post w0 L c1 A_b c_b r1):=by
  refine lp (fun _ _ w H _=>by rw [Ad.l1] at H; cases H) fun g1 u1 t1 x79 x80 w H HS=>?_
  rw [Ad.l1] at H
  subst n1
  refine rN 3 Z ?_
  rcases iS H with ⟨c157,H⟩|⟨c157,H⟩
  ·
   refine nB Z (tF c157) (G.exit Z ?_)
   obtain rfl:=sI H
   exact G.K6 func154 Z ⟨Z,HS⟩
  refine yB Z (tT c157) (rN 4 Z ?_)
  obtain ⟨c158,H⟩:=iN H
  refine rG (mV Z (iX Z U31 Lm (rk (rD 2 r_a) HS) c158 (GO.C8 (T:=(Ty.slice 83 Ak)) (n:=x80.toNat) (o:=0) HS (rD 2 r_a) Z Z (getD_some (d:=[]) (ltN c158)) Z Z Lj Z (pS 2 Z (nL (sQ (rG (mV Z (lS Z Z U81 Z (mV Z (nL (rN 2 Z ?_))))))))))))
  refine G.name (fun o1 p1=>?_)
  have k1:∀ i1,i1≤g1→∀ (x183:List Int) (x184:Int) (w:World),Ad.l4 K i1 a1 x80 x183 x184=some r1→St w0 w (Box c1 26 [sV A_b x183 c_b]::Own (Ac .i64) 2 A_b c_b uu x183::L)→G prog 154 36 [(1,.func (.func 166) #[] #[pT c1]),(4,I x80),(9,sV A_a a1 c_a),(10,I (a1.length:Int)),(11,I x80),(16,sV ((y_a x80.toNat).A) (a1.getD x80.toNat []) ((y_a x80.toNat).c)),(17,I ((a1.getD x80.toNat []).length:Int)),(18,I x184)] o1 w (Ad.post w0 L c1 A_b c_b r1):=by
   refine lp (fun _ _ w H _=>by rw [Ad.l4] at H; cases H) fun e1 m1 f1 x183 x184 w H HS=>?_
   rw [Ad.l4] at H
   subst p1
   refine rN 3 Z ?_
   rcases iS H with ⟨c209,H⟩|⟨c209,H⟩
   ·
    refine nB Z (tF c209) (rN 4 Z (gW (t1 e1 (Nat.le_of_succ_le m1) _ _ _ H HS) Z))
   refine yB Z (tT c209) (rN 4 Z ?_)
   obtain ⟨c210,H⟩:=iN H
   obtain ⟨e211,h212,H⟩:=Gp H
   refine rG (mV Z (GO.ix Z Z Z U81 Ls ((Bv.elem (rD 2 r_a) c158.1 c158.2) _ HS).2.2.1 c210.1 c210.2 Z (GO.Kk (T:=Ak) (n:=x184.toNat) HS (Bv.elem (rD 2 r_a) c158.1 c158.2) Z Z (Gt (ltN c210) h212) Jf Z (GO.alloc HS Z Pb Z Z fun b213 wd214 HS=>aS Z (sW 0 HS Z Jf Z fun wd215 HS=>nL (sQ ?_))))))
   obtain ⟨t216,h217,H⟩:=bI H
   refine rG (lW 0 HS Z Jf (fJ Nv Z (Bo.calls HS  h217) (fun _ wd218 ⟨h219,HS⟩=>⟨_,h219,(GO.not Z Z Z (nL ?_))⟩)))
   rcases iE H with ⟨c220,H⟩|⟨c220,H⟩
   ·
    refine nB Z (congrArg Bool.not c220) (rN 4 Z (gW (f1 e1 (lR _) _ _ _ H (HS.pk 3 [1,2] Z)) Z))
   refine yB Z (congrArg Bool.not (Cv c220)) ?_
   obtain ⟨t221,t222,t223,t224,h225,H⟩:=Ii H
   obtain ⟨t228,h229,H⟩:=bI H
   obtain ⟨c230,H⟩:=iN H
   refine G.Jk mixed (fun w=>St w0 w (Box b213 83 [I e211.Tet,I e211.Perm]::L)) [3,5] [0,1,2,4,3,5,6,7] [] (by kernel_rfl) (by kernel_rfl) (HS.drew.pk 3 [0] Z) ?_
   replace HS:=HS.drew
   refine GX.ps 3 Z (qL Z Z (fun _ _ g=>fL b213 1 J7 Z g) Z (GX.ls Z Z Z (HS.pk 3 [0] Z) (fun _ HS _ g=>lW 0 HS Z Jf g) Z (GX.ls Z Z Z (HS.pk 3 [0] Z) (fun _ HS _ g=>lB 0 HS Z na2 Z g) Z (GX.l2 Z (fJ Oz Z (Ej.calls HS  h225) (fun _ wd226 ⟨h227,HS⟩=>⟨_,h227,(GX.fin (HS.pk 3 [0] Z) (GX.l2 Z ?_))⟩))))))
   replace HS:=HS.pk 3 [1,2,0] Z
   refine GO.clo Z Z func166 kP.2.1 kP.2.2 Z Z (Df.calls HS  h229) (fun _ wd231 ⟨h232,HS⟩=>⟨_,h232,(GX.fin (HS.pk 3 [2] Z) (GX.nil (rN 3 Z (gW (f1 e1 (lR _) _ _ _ H (HS.pk 3 [0,1] Z)) Z))))⟩)
  exact gW (k1 g1 (lR _) _ _ _ H HS) Z
 exact gW (q1 K (lR _) _ _ _ H (HS.pk 3 [1,2] Z)) Z
theorem Ef.calls {a1:List (List Am)} {y_a:Nat→(Ty.slice 83 Ak).Lay} {r1:List Int} (HS:St w0 w (L)) (r_a:Bv w0 L (Ty.slice 83 Ak) A_a c_a y_a a1) (H:Ef.f K a1=some r1) :
  Calls prog 127 #[.agg [sV A_a a1 c_a].toArray] w (Ef.post w0 L r1):=by
 unfold Ef.f at H
 refine cG func127 Z ?_
 refine sQ (rG (bA HS Z fun b1 wd2 HS=>aS Z (nL (sQ ?_))))
 obtain ⟨t3,h4,H⟩:=bI H
 obtain ⟨t7,h8,H⟩:=bI H
 refine rG (fL b1 0 F3 Z (lB 0 HS Z Jo Z (fJ Qw Z (Dq.calls HS (rD 1 r_a) h4) (fun _ wd5 ⟨h6,HS⟩=>⟨_,h6,(GO.mul Z Z Z Z (fJ Xj Z (Es.calls HS  h8) (fun _ wd11 ⟨A9,c10,h12,HS⟩=>⟨_,h12,(GO.alloc HS Z jN Z Z fun b13 wd14 HS=>GO.K7 (j:=0) (vs:=[sV A9 t7 c10]) ([sV A9 t7 c10]) HS Z Z Z Z Z (htN Ip Z) Z Z Z fun wd15 HS=>nL (sQ ?_))⟩)))⟩))))
 obtain ⟨t16,h17,H⟩:=bI H
 obtain ⟨c18,H⟩:=iN H
 refine rG (lW 2 HS Z Iy (GO.U9 Z Z Z Z ?_))
 replace HS:=HS.pk 3 [0,1,2] Z
 refine fJ kF Z (Ad.calls HS (rD 1 r_a) h17) (fun _ wd19 ⟨h20,HS⟩=>⟨_,h20,(nL (sQ ?_))⟩)
 obtain ⟨t21,h22,H⟩:=bI H
 refine rG (lB 0 HS Z Ip Z (fJ aD Z (Dk.calls HS (ro 1 Z) h22) (fun _ wd25 ⟨A23,c24,h26,HS⟩=>⟨_,h26,(aS Z (nL ?_))⟩)))
 obtain rfl:=sI H
 exact rT _ func127 Z Z ⟨_,_,Z,(HS.pk 4 [0] Z)⟩
theorem Bc.calls {c1:List (List Am)} {y_a:Nat→(Ty.slice 83 Ak).Lay} {r1:List Qc} (HS:St w0 w (L)) (r_a:Bv w0 L (Ty.slice 83 Ak) A_a c_a y_a c1) (H:Bc.f K c1=some r1) :
   Calls prog 141 #[.agg [sV A_a c1 c_a].toArray] w (Bc.post w0 L r1):=by
 unfold Bc.f at H
 refine cG func141 Z ?_
 refine sQ (rG (bA HS Z fun b1 wd2 HS=>aS Z (nL (sQ ?_))))
 obtain ⟨c3,H⟩:=iN H
 obtain ⟨c4,H⟩:=iN H
 refine rG (fL b1 0 F3 Z (lB 0 HS Z Jo Z (lS Z Z U31 Z (GO.make (T:=Fy) false () HS Ao Z Z Z Kt Vq Z Z Z c3 c4 Z fun b5 wd6 HS=>aS Z (nL (sQ ?_))))))
 obtain ⟨c7,H⟩:=iN H
 refine rG (mV Z (iX Z Kt sz4 (fun _=>⟨_,_,Z⟩) c7 (GO.Hl (T:=Fy) (j:=0) (n:=0) (o:=0) (vs:=[.bool true]) true HS Z Ao Z Z Z Z (htN na4 Z) Z (getD_some (d:=false) (ltN c7)) Z Z fun wd8 HS=>nL (G.len (t:=3) (m:=((List.replicate (c1.length:Int).toNat false).set 0 true).length) Z (by simp only [List.length_set]<;>rfl) (sQ (rG (GO.D8 (el:=2) ([I 0]) HS Z Z (fun _=>by kernel_rfl) Z fun b9 wd10 HS=>?_)))))))
 replace HS:=HS.Ib (T:=(Ac .i64)) (j:=0) Z Ao uu ([0]:List Int) Z (Ky Z)
 refine GO.Ke (t:=15) (m:=([0]:List Int).length) (c':=([0]:List Int).length) Z Z Z (aS Z (nL (rN 7 Z ?_)))
 refine G.name (fun u1 x1=>?_)
 have y1:∀ n1,n1≤K→∀ (h1:List Bool) (A126:Option Addr) (c127:Nat) (d1:List Int) (A129:Option Addr) (c130:Nat) (k1:List Qc) (a1:Int) (w:World),Bc.l1 K n1 c1 h1 d1 k1 a1=some r1→St w0 w (Box b1 33 [sV A_a c1 c_a]::Own Fy 4 (sb b5) ((c1.length:Int).toNat) uu h1::Own (Ac .i64) 2 A126 c127 uu d1::Own Qy 152 A129 c130 uu k1::L)→G prog 141 67 [(1,pT b1),(3,sV (sb b5) h1 ((c1.length:Int).toNat)),(4,sV A126 d1 c127),(5,sV A129 k1 c130),(6,I a1)] u1 w (Bc.post w0 L r1):=by
  refine lp (fun _ _ _ _ _ _ _ _ w H _=>by rw [Bc.l1] at H; cases H) fun o1 a2 z1 h1 A126 c127 d1 A129 c130 k1 a1 w H HS=>?_
  rw [Bc.l1] at H
  subst x1
  refine rN 2 Z (rG (pS 2 Z (lS Z Z U26 Z (GO.lss Z Z Z Z (nL ?_)))))
  rcases iS H with ⟨c247,H⟩|⟨c247,H⟩
  ·
   refine nB Z (tF c247) (rN 3 Z ?_)
   obtain rfl:=sI H
   exact rT _ func141 Z Z ⟨_,_,Z,(HS.pk 4 [3] Z)⟩
  refine yB Z (tT c247) (rN 4 Z ?_)
  obtain ⟨c248,H⟩:=iN H
  have h249:=(rk (ro 2 Z) HS)
  obtain ⟨c250,H⟩:=iN H
  refine G.lex mixed [0,2,3,4,9,1,5,6,7,8] (by kernel_rfl) ?_
  replace HS:=HS.drew
  refine qL Z Z (fun _ _ g=>fL b1 0 F3 Z g) Z (GX.ps 2 Z (qL Z Z (fun _ _ g=>iX Z U26 sz2 h249 c248 g) Z (GX.ps 1 Z (GX.l1 Z Z Z (fun _ g=>lB 0 HS Z Jo Z g) Z (GX.l1 Z Z Z (fun _ g=>GO.C8 (T:=(Ac .i64)) (n:=a1.toNat) (o:=0) HS (ro 2 Z) Z Z (getD_some (d:=0) (ltN c248)) Z Z na2 Z g) Z (qL Z Z (fun _ _ g=>iX Z U31 Lm (rk (rD 4 r_a) HS) c250 g) Z (GX.l1 Z Z Z (fun _ g=>GO.C8 (T:=(Ty.slice 83 Ak)) (n:=(d1.getD a1.toNat 0).toNat) (o:=0) HS (rD 4 r_a) Z Z (getD_some (d:=[]) (ltN c250)) Z Z Lj Z g) Z (GX.l1 Z Z Z (fun _ g=>lS Z Z U81 Z g) Z (GX.nil (rN 2 Z ?_))))))))))
  refine G.name (fun v1 t1=>?_)
  have q1:∀ p1,p1≤o1→∀ (f1:List Bool) (A286:Option Addr) (c287:Nat) (e1:List Int) (A289:Option Addr) (c290:Nat) (i1:List Qc) (x292:Int) (w:World),Bc.l4 K p1 c1 d1 a1 f1 e1 i1 x292=some r1→St w0 w (Box b1 33 [sV A_a c1 c_a]::Own Fy 4 (sb b5) ((c1.length:Int).toNat) uu f1::Own (Ac .i64) 2 A286 c287 uu e1::Own Qy 152 A289 c290 uu i1::L)→G prog 141 67 [(1,pT b1),(3,sV (sb b5) f1 ((c1.length:Int).toNat)),(4,sV A286 e1 c287),(5,sV A289 i1 c290),(6,I a1),(29,sV ((y_a ((d1.getD a1.toNat 0).toNat)).A) (c1.getD ((d1.getD a1.toNat 0).toNat) []) ((y_a ((d1.getD a1.toNat 0).toNat)).c)),(30,I ((c1.getD ((d1.getD a1.toNat 0).toNat) []).length:Int)),(31,I x292)] v1 w (Bc.post w0 L r1):=by
   refine lp (fun _ _ _ _ _ _ _ _ w H _=>by rw [Bc.l4] at H; cases H) fun g1 s1 m1 f1 A286 c287 e1 A289 c290 i1 x292 w H HS=>?_
   rw [Bc.l4] at H
   subst t1
   refine rN 3 Z ?_
   rcases iS H with ⟨c327,H⟩|⟨c327,H⟩
   ·
    refine nB Z (tF c327) (rN 4 Z (gW (z1 g1 (Nat.le_of_succ_le s1) _ _ _ _ _ _ _ _ _ H HS) Z))
   refine yB Z (tT c327) (rN 4 Z ?_)
   obtain ⟨c328,H⟩:=iN H
   obtain ⟨e329,h330,H⟩:=Gp H
   refine rG (mV Z (GO.ix Z Z Z U81 Ls ((Bv.elem (rD 4 r_a) c250.1 c250.2) _ HS).2.2.1 c328.1 c328.2 Z (GO.Kk (T:=Ak) (n:=x292.toNat) HS (Bv.elem (rD 4 r_a) c250.1 c250.2) Z Z (Gt (ltN c328) h330) Jf Z (GO.alloc HS Z Pb Z Z fun b331 wd332 HS=>aS Z (sW 0 HS Z Jf Z fun wd333 HS=>nL (sQ ?_))))))
   obtain ⟨t340,h341,H⟩:=bI H
   rcases iE H with ⟨c344,H⟩|⟨c344,H⟩
   ·
    refine rG (lW 0 HS Z Jf (fJ Nv Z (Bo.calls HS  h341) (fun _ wd342 ⟨h343,HS⟩=>⟨_,h343,(pS 2 Z (kN 39 Z (congrArg Bool.not c344) (oF Z (oF Z (oF Z (oF Z (oF Z (oF Z (GO.Iw Z Z Z Z Z (nL (rN 5 Z (gW (m1 g1 (lR _) _ _ _ _ _ _ _ _ _ H (HS.pk 5 [1,2,3,4] Z)) Z))))))))))))⟩)))
   obtain ⟨c345,H⟩:=iN H
   refine rG (lW 0 HS Z Jf (fJ Nv Z (Bo.calls HS  h341) (fun _ wd342 ⟨h343,HS⟩=>⟨_,h343,(pS 2 Z (kN 39 Z (congrArg Bool.not (Cv c344)) (oN Z (mV Z (bK (oN Z (fL b331 0 F6 Z (bK (oN Z (lB 0 HS Z na2 Z (bK (oN Z ?_))))))))))))⟩)))
   refine iX Z Kt sz4 (fun _=>⟨_,_,Z⟩) c345 (bK (oN Z (GO.C8 (T:=Fy) (n:=e329.Tet.toNat) (o:=0) HS (ro 2 Z) Z Z (getD_some (d:=false) (ltN c345)) Z Z na4 Z (bK (oN Z (GO.not Z Z Z (bK (GO.Gq Z Z Z Z Z (nL ?_)))))))))
   rcases iE H with ⟨c346,H⟩|⟨c346,H⟩
   ·
    refine nB Z (congrArg Bool.not c346) (rN 4 Z (gW (m1 g1 (lR _) _ _ _ _ _ _ _ _ _ H (HS.pk 5 [1,2,3,4] Z)) Z))
   refine yB Z (congrArg Bool.not (Cv c346)) (sQ (rG (mV Z (fL b331 0 F6 Z (lB 0 HS Z na2 Z (iX Z Kt sz4 (fun _=>⟨_,_,Z⟩) c345 (GO.Hl (T:=Fy) (j:=2) (n:=e329.Tet.toNat) (o:=0) (vs:=[.bool true]) true HS Z Ao Z Z Z Z (htN na4 Z) Z (getD_some (d:=false) (ltN c345)) Z Z fun wd347 HS=>nL (G.len (t:=3) (m:=(f1.set e329.Tet.toNat true).length) Z (by simp only [List.length_set]<;>rfl) (G.len (t:=40) (m:=(f1.set e329.Tet.toNat true).length) Z (by simp only [List.length_set]<;>rfl) (sQ ?_))))))))))
   obtain ⟨c353,H⟩:=iN H
   refine rG (mV Z (fL b331 0 F6 Z (lB 0 HS Z na2 Z (GO.D8 (el:=2) ([I e329.Tet]) HS Z Z (fun _=>by kernel_rfl) Z fun b348 wd349 HS=>GO.app1 (T:=(Ac .i64)) (j:=4) (jb:=0) e329.Tet HS Z Z Ao Z Z Z U26 Lf Z Z Z c353 Z fun A351 c352 wd350 HS=>aS Z (nL ?_)))))
   obtain ⟨c354,H⟩:=iN H
   obtain ⟨c360,H⟩:=iN H
   refine rG (pS 3 Z (iX Z U26 sz2 (rk (ro 4 Z) HS) c354 (GO.C8 (T:=(Ac .i64)) (n:=a1.toNat) (o:=0) HS (ro 4 Z) Z Z (getD_some (d:=0) (ltN c354)) Z Z na2 Z (mV Z (GO.Je (.agg [I ((e1++[e329.Tet]).getD a1.toNat 0),I x292].toArray) Z Z (fun _=>by kernel_rfl) Z (GO.D8 (el:=152) ([I ((e1++[e329.Tet]).getD a1.toNat 0),I x292]) HS Z Z (fun _=>by kernel_rfl) Z fun b355 wd356 HS=>GO.app1 (T:=Qy) (j:=6) (jb:=0) (⟨(e1++[e329.Tet]).getD a1.toNat 0,x292⟩:Qc) HS Z Z Ao Z Z Z sZ rV Z Z Z c360 Z fun A358 c359 wd357 HS=>aS Z (nL (rN 3 Z (gW (m1 g1 (lR _) _ _ _ _ _ _ _ _ _ H (HS.pk 7 [3,4,5,6] Z)) Z)))))))))
  exact gW (q1 o1 (lR _) _ _ _ _ _ _ _ _ _ H HS) Z
 replace HS:=HS.Jz Qy 152 uu
 exact gW (y1 K (lR _) _ _ _ _ _ _ _ _ _ H (HS.pk 4 [3,2,1,0] Z)) Z
end Go.Proofs.YtgkgmhkgahalgaaGreat
