import Derived.Test.YtgkgmhkgahalgaaGreatAlF
import Derived.Test.YtgkgmhkgahalgaaGreatAlW3
set_option linter.unusedVariables false
set_option linter.unusedSimpArgs false
namespace Go.Proofs.YtgkgmhkgahalgaaGreat
open Go.RowKit
open Tryz
variable {w0 w:World} {L:List Dc} {K:Nat} {A_a A_b A_c A_d A_e A_f A_g A_h A_i A_j A_k A_l A_m A_n A_o A_p A_q A_r A_s A_t A_u A_v A_w A_x A_y A_z:Option Addr} {c_a c_b c_c c_d c_e c_f c_g c_h c_i c_j c_k c_l c_m c_n c_o c_p c_q c_r c_s c_t c_u c_v c_w c_x c_y c_z:Nat}
set_option maxRecDepth 20000
set_option maxHeartbeats 40000000
theorem Ap.calls {c1:List (List Am)} {y_a:Nat→(Ty.slice 83 Ak).Lay} {r1:List (List Int)} (HS:St w0 w (L)) (r_a:Bv w0 L (Ty.slice 83 Ak) A_a c_a y_a c1) (H:Ap.f K c1=some r1) :
   Calls prog 97 #[.agg [sV A_a c1 c_a].toArray] w (Ap.post w0 L r1):=by
 unfold Ap.f at H
 refine cG func97 Z ?_
 refine sQ (rG (bA HS Z fun b1 wd2 HS=>aS Z (nL (sQ ?_))))
 obtain ⟨t3,h4,H⟩:=bI H
 refine rG (lW 0 HS Z Iy (fJ uZ Z (Ef.calls HS (rD 1 r_a) h4) (fun _ wd7 ⟨A5,c6,h8,HS⟩=>⟨_,h8,(aS Z (nL (sQ ?_)))⟩)))
 obtain ⟨t9,h10,H⟩:=bI H
 obtain ⟨c13,H⟩:=iN H
 obtain ⟨c14,H⟩:=iN H
 refine rG (mV Z (fJ Vj Z (Gd.calls HS (ro 0 Z) h10) (fun _ wd11 ⟨h12,HS⟩=>⟨_,h12,(GO.make (T:=Fy) false () HS Ao Z Z Z Kt Vq Z Z Z c13 c14 Z fun b15 wd16 HS=>aS Z (nL (rN 2 Z ?_)))⟩)))
 obtain ⟨t17,h18,H⟩:=bI H
 refine rG (lW 2 HS Z Iy (fJ wK Z (Bc.calls HS (rD 3 r_a) h18) (fun _ wd21 ⟨A19,c20,h22,HS⟩=>⟨_,h22,(lS Z Z sZ Z (mV Z (nL (rN 2 Z ?_))))⟩)))
 refine G.name (fun s1 n1=>?_)
 have q1:∀ i1,i1≤K→∀ (a1:List Bool) (x141:Int) (w:World),Ap.l1 K i1 c1 t3 t17 a1 x141=some r1→St w0 w (Box b1 33 [sV A_a c1 c_a]::Own (Ac .i64) 2 A5 c6 uu t3::Own Fy 4 (sb b15) t9.toNat uu a1::Own Qy 152 A19 c20 uu t17::L)→G prog 97 71 [(1,pT b1),(3,sV A5 t3 c6),(4,sV (sb b15) a1 t9.toNat),(17,sV A19 t17 c20),(18,I (t17.length:Int)),(19,I x141)] s1 w (Ap.post w0 L r1):=by
  refine lp (fun _ _ w H _=>by rw [Ap.l1] at H; cases H) fun g1 v1 t1 a1 x141 w H HS=>?_
  rw [Ap.l1] at H
  subst n1
  refine rN 3 Z ?_
  rcases iE H with ⟨c259,H⟩|⟨c259,H⟩
  ·
   refine yB Z (tT c259) (rN 4 Z ?_)
   obtain ⟨c260,H⟩:=iN H
   obtain ⟨e261,h262,H⟩:=Gp H
   refine rG (iX Z sZ yM (rk (ro 3 Z) HS) c260 (GO.Kk (T:=Qy) (n:=x141.toNat) HS (ro 3 Z) Z Z (Gt (ltN c260) h262) qJ Z (GO.alloc HS Z yT Z Z fun b263 wd264 HS=>sW 0 HS Z qJ Z fun wd265 HS=>nL ?_)))
   obtain ⟨c266,H⟩:=iN H
   obtain ⟨c267,H⟩:=iN H
   refine rG (pS 2 Z (GO.ixP 0 Z Z Z Z wZ sz2 Z Z (lB 0 HS Z na2 Z (GO.mul Z Z Z Z (GO.ixP 1 Z Z Z Z wZ sz2 Z Z (lB 0 HS Z na2 Z (GO.add Z Z Z Z (iX Z U26 sz2 (rk (ro 2 Z) HS) c266 (GO.C8 (T:=(Ac .i64)) (n:=(w64 ((w64 (4*e261.e0))+e261.e1)).toNat) (o:=0) HS (ro 2 Z) Z Z (getD_some (d:=0) (ltN c266)) Z Z na2 Z (iX Z Kt sz4 (fun _=>⟨_,_,Z⟩) c267 (GO.Hl (T:=Fy) (j:=3) (n:=(t3.getD ((w64 ((w64 (4*e261.e0))+e261.e1)).toNat) 0).toNat) (o:=0) (vs:=[.bool true]) true HS Z Ao Z Z Z Z (htN na4 Z) Z (getD_some (d:=false) (ltN c267)) Z Z fun wd268 HS=>nL (G.len (t:=4) (m:=(a1.set ((t3.getD ((w64 ((w64 (4*e261.e0))+e261.e1)).toNat) 0).toNat) true).length) Z (by simp only [List.length_set]<;>rfl) (rN 3 Z ?_)))))))))))))
   exact gW (t1 g1 (lR _) _ _ _ H (HS.pk 5 [1,2,3,4] Z)) Z
  refine nB Z (tF c259) (rN 5 Z (rG (mV Z (lS Z Z Kt Z (mV Z (nL (rN 2 Z ?_)))))))
  refine G.name (fun o1 p1=>?_)
  have m1:∀ k1,k1≤g1→∀ (A303:Option Addr) (c304:Nat) (d1:List (List Int)) (y306:Nat→(Ty.slice 2 (Ac .i64)).Lay) (x307:Int) (w:World),Ap.l4 K k1 c1 t3 a1 d1 x307=some r1→St w0 w (Box b1 33 [sV A_a c1 c_a]::Own (Ac .i64) 2 A5 c6 uu t3::Own (Ty.slice 2 (Ac .i64)) 26 A303 c304 y306 d1::Own Fy 4 (sb b15) t9.toNat uu a1::L)→G prog 97 71 [(1,pT b1),(3,sV A5 t3 c6),(7,sV A303 d1 c304),(35,sV (sb b15) a1 t9.toNat),(36,I (a1.length:Int)),(37,I x307)] o1 w (Ap.post w0 L r1):=by
   refine lp (fun _ _ _ _ _ w H _=>by rw [Ap.l4] at H; cases H) fun h1 u1 f1 A303 c304 d1 y306 x307 w H HS=>?_
   rw [Ap.l4] at H
   subst p1
   refine rN 3 Z ?_
   rcases iS H with ⟨c342,H⟩|⟨c342,H⟩
   ·
    refine nB Z (tF c342) (rN 3 Z ?_)
    obtain rfl:=sI H
    exact rT _ func97 Z Z ⟨_,_,_,Z,(HS.pk 4 [2] Z)⟩
   refine yB Z (tT c342) (rN 4 Z ?_)
   obtain ⟨c343,H⟩:=iN H
   refine rG (mV Z (iX Z Kt sz4 (fun _=>⟨_,_,Z⟩) c343 (GO.C8 (T:=Fy) (n:=x307.toNat) (o:=0) HS (ro 3 Z) Z Z (getD_some (d:=false) (ltN c343)) Z Z na4 Z (pS 2 Z (nL (sQ ?_))))))
   obtain ⟨t344,h345,H⟩:=bI H
   refine rG (pS 2 Z (fJ aG Z (Ca.calls HS (ro 1 Z) h345) (fun _ wd346 ⟨h347,HS⟩=>⟨_,h347,(aS Z (nL (sQ ?_)))⟩)))
   rcases iE H with ⟨c357,H⟩|⟨c357,H⟩
   ·
    refine rG (pS 3 Z (kN 47 Z (congrArg Bool.not c357) (oF Z (oF Z (oF Z (oF Z (oF Z (oF Z (oF Z (oF Z (oF Z (oF Z (oF Z (oF Z ?_))))))))))))))
    refine GO.Iw Z Z Z Z Z (nL (rN 5 Z (gW (f1 h1 (lR _) _ _ _ _ _ _ H HS) Z)))
   obtain ⟨c358,H⟩:=iN H
   obtain ⟨c359,H⟩:=iN H
   obtain ⟨e360,h361,H⟩:=Gp H
   obtain ⟨t362,h363,H⟩:=bI H
   refine rG (pS 3 Z (kN 47 Z (congrArg Bool.not (Cv c357)) (oN Z (fL b1 0 F3 Z (bK (oN Z (lB 0 HS Z Jo Z (bK (oN Z (mV Z (bK (oN Z (GO.quo Z Z Z (by decide) Z (bK ?_))))))))))))))
   refine oN Z (iX Z U31 Lm (rk (rD 4 r_a) HS) c358 (bK (oN Z (GO.C8 (T:=(Ty.slice 83 Ak)) (n:=(w64 (t344.tdiv 4)).toNat) (o:=0) HS (rD 4 r_a) Z Z (getD_some (d:=[]) (ltN c358)) Z Z Lj Z (bK (oN Z (mV Z (bK (oN Z (GO.rem Z Z Z (by decide) Z (bK (oN Z (GO.ix Z Z Z U81 Ls ((Bv.elem (rD 4 r_a) c358.1 c358.2) _ HS).2.2.1 c359.1 c359.2 Z (bK ?_))))))))))))))
   refine oN Z (GO.Kk (T:=Ak) (n:=(t344.tmod 4).toNat) HS (Bv.elem (rD 4 r_a) c358.1 c358.2) Z Z (Gt (ltN c359) h361) Jf Z (bK (oN Z (fJ Nv Z (Bo.calls HS  h363) (fun _ wd364 ⟨h365,HS⟩=>⟨_,h365,(bK (oN Z (GO.not Z Z Z (bK (GO.Gq Z Z Z Z Z (nL ?_))))))⟩)))))
   rcases iE H with ⟨c366,H⟩|⟨c366,H⟩
   ·
    refine nB Z (congrArg Bool.not c366) (rN 4 Z (gW (f1 h1 (lR _) _ _ _ _ _ _ H HS) Z))
   refine yB Z (congrArg Bool.not (Cv c366)) ?_
   obtain ⟨c374,H⟩:=iN H
   refine rG (pS 2 Z (GO.quo Z Z Z (by decide) Z (mV Z (GO.rem Z Z Z (by decide) Z (GO.D8 (el:=2) ([I (w64 (t344.tdiv 4)),I (t344.tmod 4)]) HS Z Z (fun _=>by kernel_rfl) Z fun b367 wd368 HS=>?_)))))
   replace HS:=HS.Ib (T:=(Ac .i64)) (j:=0) Z Ao uu ([w64 (t344.tdiv 4),t344.tmod 4]:List Int) Z (Ky Z)
   refine GO.Ke (t:=66) (m:=([w64 (t344.tdiv 4),t344.tmod 4]:List Int).length) (c':=([w64 (t344.tdiv 4),t344.tmod 4]:List Int).length) Z Z Z (GO.D8 (el:=26) ([sV (sb b367) ([w64 (t344.tdiv 4),t344.tmod 4]:List Int) (([w64 (t344.tdiv 4),t344.tmod 4]:List Int).length)]) HS Z Z (fun _=>by kernel_rfl) Z fun b369 wd370 HS=>?_)
   replace HS:=HS.pk 6 [4,0,1,2,3,5] Z
   refine GO.Z6 (S:=(Ac .i64)) (u:=2) HS Z Z Z U65 Qi Z Z c374 Z fun A372 c373 y375 wd371 HS=>aS Z (nL (rN 3 Z (gW (f1 h1 (lR _) _ _ _ _ _ _ H (HS.pk 5 [2,3,0,4] Z)) Z)))
  replace HS:=HS.Jz (Ty.slice 2 (Ac .i64)) 26 (fun _=>⟨none,0,uu⟩)
  exact gW (m1 g1 (lR _) _ _ _ _ _ _ H (HS.pk 5 [1,2,0,3] Z)) Z
 exact gW (q1 K (lR _) _ _ _ H (HS.pk 4 [3,2,1,0] Z)) Z
theorem I1.calls {list:List (List Int)} {y_a:Nat→(Ty.slice 2 (Ac .i64)).Lay} {r1:Int} (HS:St w0 w (L)) (r_a:Bv w0 L (Ty.slice 2 (Ac .i64)) A_a c_a y_a list) (H:I1.f list=some r1) :
  Calls prog 53 #[sV A_a list c_a] w (I1.post w0 L r1):=by
 unfold I1.f at H
 refine cG func53 Z ?_
 refine rN 3 Z (rG (mV Z (lS Z Z U65 Z (aS Z (nL ?_)))))
 obtain rfl:=sI H
 exact rT _ func53 Z Z ⟨Z,HS⟩
theorem Ay.calls {a1:List (List Am)} {y_a:Nat→(Ty.slice 83 Ak).Lay} {r1:List (List Int)} (HS:St w0 w (L)) (r_a:Bv w0 L (Ty.slice 83 Ak) A_a c_a y_a a1) (H:Ay.f K a1=some r1) :
   Calls prog 143 #[.agg [sV A_a a1 c_a].toArray] w (Ay.post w0 L r1):=by
 unfold Ay.f at H
 refine cG func143 Z ?_
 refine sQ (rG (bA HS Z fun b1 wd2 HS=>aS Z (nL (sQ ?_))))
 obtain ⟨c3,H⟩:=iN H
 obtain ⟨c4,H⟩:=iN H
 refine rG (fL b1 0 F3 Z (lB 0 HS Z Jo Z (lS Z Z U31 Z (GO.rQ (S:=(Ac .i64)) (u:=2) uu HS Z Z Z U65 Qi Z c3 c4 Z fun b5 wd6 HS=>aS Z (nL (rN 2 Z (rG (mV Z (lS Z Z U65 Z (mV Z (nL (rN 2 Z ?_))))))))))))
 refine G.name (fun q1 k1=>?_)
 have p1:∀ f1,f1≤K→∀ (d1:List (List Int)) (y93:Nat→(Ty.slice 2 (Ac .i64)).Lay) (x94:Int) (w:World),Ay.l1 K f1 a1 d1 x94=some r1→St w0 w (Box b1 33 [sV A_a a1 c_a]::Own (Ty.slice 2 (Ac .i64)) 26 (sb b5) ((a1.length:Int).toNat) y93 d1::L)→G prog 143 70 [(1,pT b1),(3,sV (sb b5) d1 ((a1.length:Int).toNat)),(13,I ((List.replicate (a1.length:Int).toNat ([]:List Int)).length:Int)),(14,I x94)] q1 w (Ay.post w0 L r1):=by
  refine lp (fun _ _ _ w H _=>by rw [Ay.l1] at H; cases H) fun e1 u1 s1 d1 y93 x94 w H HS=>?_
  rw [Ay.l1] at H
  subst k1
  refine rN 3 Z ?_
  rcases iE H with ⟨c180,H⟩|⟨c180,H⟩
  ·
   refine yB Z (tT c180) (rN 5 Z ?_)
   obtain ⟨c181,H⟩:=iN H
   obtain ⟨c184,H⟩:=iN H
   refine rG (pS 2 Z (GO.make (T:=(Ac .i64)) 0 () HS Ao Z Z Z U26 Lf Z Z Z (by decide) c181 Z fun b182 wd183 HS=>iX Z U65 Na (fun _=>⟨_,_,Z⟩) c184 ?_))
   replace HS:=HS.pk 3 [2,0,1] Z
   refine GO.kG (S:=(Ac .i64)) (u:=2) HS Z Z Z Ip (ltN c184) fun y186 wd185 HS=>nL (G.len (t:=3) (m:=(d1.set x94.toNat (List.replicate (4:Int).toNat (0:Int))).length) Z (by simp only [List.length_set]<;>rfl) (rN 3 Z (gW (s1 e1 (lR _) _ _ _ _ H (HS.pk 2 [1,0] Z)) Z)))
  refine nB Z (tF c180) (rN 3 Z ?_)
  obtain ⟨t187,h188,H⟩:=bI H
  refine rG (lW 0 HS Z Iy (fJ qH Z (Ap.calls HS (rD 2 r_a) h188) (fun _ wd192 ⟨A189,c190,y191,h193,HS⟩=>⟨_,h193,(lS Z Z U65 Z (mV Z (nL (rN 2 Z ?_))))⟩)))
  refine G.name (fun n1 o1=>?_)
  have h1:∀ g1,g1≤e1→∀ (c1:List (List Int)) (x218:Int) (w:World),Ay.l4 K g1 a1 t187 c1 x218=some r1→St w0 w (Box b1 33 [sV A_a a1 c_a]::Own (Ty.slice 2 (Ac .i64)) 26 (sb b5) ((a1.length:Int).toNat) y93 c1::Own (Ty.slice 2 (Ac .i64)) 26 A189 c190 y191 t187::L)→G prog 143 70 [(1,pT b1),(3,sV (sb b5) c1 ((a1.length:Int).toNat)),(23,sV A189 t187 c190),(24,I (t187.length:Int)),(25,I x218)] n1 w (Ay.post w0 L r1):=by
   refine lp (fun _ _ w H _=>by rw [Ay.l4] at H; cases H) fun m1 t1 i1 c1 x218 w H HS=>?_
   rw [Ay.l4] at H
   subst o1
   refine rN 3 Z ?_
   rcases iS H with ⟨c242,H⟩|⟨c242,H⟩
   ·
    refine nB Z (tF c242) (rN 3 Z ?_)
    obtain rfl:=sI H
    exact rT _ func143 Z Z ⟨_,_,_,Z,(HS.pk 3 [1] Z)⟩
   refine yB Z (tT c242) (rN 4 Z ?_)
   obtain ⟨c243,H⟩:=iN H
   refine rG (mV Z (iX Z U65 Na (rk (ro 2 Z) HS) c243 (GO.C8 (T:=(Ty.slice 2 (Ac .i64))) (n:=x218.toNat) (o:=0) HS (ro 2 Z) Z Z (getD_some (d:=[]) (ltN c243)) Z Z Ip Z (pS 2 Z (nL (sQ ?_))))))
   obtain ⟨c244,H⟩:=iN H
   obtain ⟨c245,H⟩:=iN H
   obtain ⟨c246,H⟩:=iN H
   obtain ⟨c247,H⟩:=iN H
   obtain ⟨e248,h249,H⟩:=Gp H
   refine G.Jk mixed (fun w=>St w0 w (Box b1 33 [sV A_a a1 c_a]::Own (Ty.slice 2 (Ac .i64)) 26 A189 c190 y191 t187::L)) [1,4,6,9,11] [0,2,3,7,8,1,4,5,6,9,10,11,12,13] [] (by kernel_rfl) (by kernel_rfl) (HS.drew.pk 3 [0,2] Z) ?_
   replace HS:=HS.drew
   refine qL Z Z (fun _ _ g=>fL b1 0 F3 Z g) Z (GX.ps 1 Z (qL Z Z (fun _ _ g=>GO.ix Z Z Z U26 sz2 ((Bv.elem (ro 2 Z) c243.1 c243.2) _ HS).2.2.1 c244.1 c244.2 Z g) Z (GX.ps 1 Z (qL Z Z (fun _ _ g=>GO.ix Z Z Z U26 sz2 ((Bv.elem (ro 2 Z) c243.1 c243.2) _ HS).2.2.1 c246.1 c246.2 Z g) Z (GX.ls Z Z Z (HS.pk 3 [0,2] Z) (fun _ HS _ g=>lB 0 HS Z Jo Z g) Z (GX.ls Z Z Z (HS.pk 3 [0,2] Z) (fun _ HS _ g=>GO.C8 (T:=(Ac .i64)) (n:=0) (o:=0) HS (Bv.elem (ro 1 Z) c243.1 c243.2) Z Z (getD_some (d:=0) (ltN c244)) Z Z na2 Z g) Z (qL Z Z (fun _ _ g=>iX Z U31 Lm (rk (rD 3 r_a) HS) c245 g) Z (GX.ls Z Z Z (HS.pk 3 [0,2] Z) (fun _ HS _ g=>GO.C8 (T:=(Ty.slice 83 Ak)) (n:=((t187.getD x218.toNat []).getD 0 0).toNat) (o:=0) HS (rD 2 r_a) Z Z (getD_some (d:=[]) (ltN c245)) Z Z Lj Z g) Z (GX.ls Z Z Z (HS.pk 3 [0,2] Z) (fun _ HS _ g=>GO.C8 (T:=(Ac .i64)) (n:=1) (o:=0) HS (Bv.elem (ro 1 Z) c243.1 c243.2) Z Z (getD_some (d:=0) (ltN c246)) Z Z na2 Z g) Z (qL Z Z (fun _ _ g=>GO.ix Z Z Z U81 Ls ((Bv.elem (rD 3 r_a) c245.1 c245.2) _ HS).2.2.1 c247.1 c247.2 Z g) Z (GX.ls Z Z Z (HS.pk 3 [0,2] Z) (fun _ HS _ g=>GO.Kk (T:=Ak) (n:=((t187.getD x218.toNat []).getD 1 0).toNat) HS (Bv.elem (rD 2 r_a) c245.1 c245.2) Z Z (Gt (ltN c247) h249) Jf Z g) Z (GX.l2 Z (GO.alloc HS Z Pb Z Z fun b250 wd251 HS=>GX.fin (HS.pk 4 [1,3] Z) ?_)))))))))))))
   refine GX.l2 Z (sW 0 HS Z Jf Z fun wd252 HS=>GX.fin (HS.pk 4 [1,3] Z) (GX.nil (sQ ?_)))
   obtain ⟨c253,H⟩:=iN H
   have h254:=(rk (ro 2 Z) HS)
   obtain ⟨c255,H⟩:=iN H
   refine G.lex mixed [0,1,2,6,7,9,10,3,4,5,8,11,12] (by kernel_rfl) ?_
   replace HS:=HS.drew
   refine GX.ps 2 Z (qL Z Z (fun _ _ g=>GO.ix Z Z Z U26 sz2 ((Bv.elem (ro 3 Z) c243.1 c243.2) _ HS).2.2.1 c244.1 c244.2 Z g) Z (GX.ps 1 Z (qL Z Z (fun _ _ g=>GO.ix Z Z Z U26 sz2 ((Bv.elem (ro 3 Z) c243.1 c243.2) _ HS).2.2.1 c246.1 c246.2 Z g) Z (GX.ps 2 Z (GX.l1 Z Z Z (fun _ g=>GO.C8 (T:=(Ac .i64)) (n:=0) (o:=0) HS (Bv.elem (ro 3 Z) c243.1 c243.2) Z Z (getD_some (d:=0) (ltN c244)) Z Z na2 Z g) Z (qL Z Z (fun _ _ g=>iX Z U65 Na h254 c253 g) Z (GX.l1 Z Z Z (fun _ g=>GO.C8 (T:=(Ty.slice 2 (Ac .i64))) (n:=((t187.getD x218.toNat []).getD 0 0).toNat) (o:=0) HS (ro 2 Z) Z Z (getD_some (d:=[]) (ltN c253)) Z Z Ip Z g) Z (GX.l1 Z Z Z (fun _ g=>GO.C8 (T:=(Ac .i64)) (n:=1) (o:=0) HS (Bv.elem (ro 3 Z) c243.1 c243.2) Z Z (getD_some (d:=0) (ltN c246)) Z Z na2 Z g) Z (qL Z Z (fun _ _ g=>GO.ix Z Z Z U26 sz2 ((Bv.elem (ro 2 Z) c253.1 c253.2) _ HS).2.2.1 c255.1 c255.2 Z g) Z (GX.l2 Z ?_))))))))))
   replace HS:=HS.pk 4 [2,0,1,3] Z
   refine GO.dW (S:=(Ac .i64)) (k:=((t187.getD x218.toNat []).getD 0 0).toNat) (n:=((t187.getD x218.toNat []).getD 1 0).toNat) (o:=0) (vs:=[I (w64 (x218+1))]) (w64 (x218+1)) HS Ao Z Z Z Z (htN na2 Z) Z (ltN c253) (getD_some (d:=0) (ltN c255)) Z Z fun wd256 HS=>GX.fin tv (GX.nil (G.len (t:=3) (m:=(c1.set (((t187.getD x218.toNat []).getD 0 0).toNat) ((c1.getD (((t187.getD x218.toNat []).getD 0 0).toNat) []).set (((t187.getD x218.toNat []).getD 1 0).toNat) (w64 (x218+1)))).length) Z (by simp only [List.length_set]<;>rfl) ?_))
   obtain ⟨c257,H⟩:=iN H
   have h258:=(rk (ro 0 Z) HS)
   obtain ⟨t259,h260,H⟩:=bI H
   obtain ⟨c263,H⟩:=iN H
   refine G.Jk mixed (fun w=>St w0 w (Own (Ty.slice 2 (Ac .i64)) 26 (sb b5) ((a1.length:Int).toNat) y93 (c1.set (((t187.getD x218.toNat []).getD 0 0).toNat) ((c1.getD (((t187.getD x218.toNat []).getD 0 0).toNat) []).set (((t187.getD x218.toNat []).getD 1 0).toNat) (w64 (x218+1))))::Box b250 83 [I e248.Tet,I e248.Perm]::Own (Ty.slice 2 (Ac .i64)) 26 A189 c190 y191 t187::L)) [2,4,5,8] [0,1,6,7,10,11,12,2,3,4,5,8,9,13,14] [14] (by kernel_rfl) (by kernel_rfl) (HS.drew.pk 4 [0,1,3] Z) ?_
   replace HS:=HS.drew
   refine GX.ps 1 Z (qL Z Z (fun _ _ g=>fL b250 0 F6 Z g) Z (GX.ps 1 Z (qL Z Z (fun _ _ g=>GO.ix Z Z Z U26 sz2 ((Bv.elem (ro 3 Z) c243.1 c243.2) _ HS).2.2.1 c246.1 c246.2 Z g) Z (GX.ps 2 Z (qL Z Z (fun _ _ g=>GO.neg Z Z Z g) Z (GX.ls Z Z Z (HS.pk 4 [0,1,3] Z) (fun _ HS _ g=>lB 1 HS Z na2 Z g) Z (qL Z Z (fun _ _ g=>iX Z U65 Na h258 c257 g) Z (GX.ls Z Z Z (HS.pk 4 [0,1,3] Z) (fun _ HS _ g=>GO.C8 (T:=(Ty.slice 2 (Ac .i64))) (n:=e248.Tet.toNat) (o:=0) HS (ro 0 Z) Z Z (getD_some (d:=[]) (ltN c257)) Z Z Ip Z g) Z (GX.ls Z Z Z (HS.pk 4 [0,1,3] Z) (fun _ HS _ g=>lW 1 HS Z Jf g) Z (GX.ls Z Z Z (HS.pk 4 [0,1,3] Z) (fun _ HS _ g=>GO.C8 (T:=(Ac .i64)) (n:=1) (o:=0) HS (Bv.elem (ro 2 Z) c243.1 c243.2) Z Z (getD_some (d:=0) (ltN c246)) Z Z na2 Z g) Z (GX.l2 Z (fJ mY Z (G7.calls HS  h260) (fun _ wd261 ⟨h262,HS⟩=>⟨_,h262,(GX.fin (HS.pk 4 [0,1,3] Z) (qL Z Z (fun _ _ g=>GO.ix Z Z Z U26 sz2 ((Bv.elem (ro 0 Z) c257.1 c257.2) _ HS).2.2.1 c263.1 c263.2 Z g) Z ?_))⟩)))))))))))))
   refine GX.l2 Z (GO.dW (S:=(Ac .i64)) (k:=e248.Tet.toNat) (n:=t259.toNat) (o:=0) (vs:=[I (w64 (0 - (w64 (x218+1))))]) (w64 (0 - (w64 (x218+1)))) HS Ao Z Z Z Z (htN na2 Z) Z (ltN c257) (getD_some (d:=0) (ltN c263)) Z Z fun wd264 HS=>GX.Y2 Z (GX.nil (G.len (t:=3) (m:=((c1.set (((t187.getD x218.toNat []).getD 0 0).toNat) ((c1.getD (((t187.getD x218.toNat []).getD 0 0).toNat) []).set (((t187.getD x218.toNat []).getD 1 0).toNat) (w64 (x218+1)))).set e248.Tet.toNat (((c1.set (((t187.getD x218.toNat []).getD 0 0).toNat) ((c1.getD (((t187.getD x218.toNat []).getD 0 0).toNat) []).set (((t187.getD x218.toNat []).getD 1 0).toNat) (w64 (x218+1)))).getD e248.Tet.toNat []).set t259.toNat (w64 (0 - (w64 (x218+1)))))).length) Z (by simp only [List.length_set]<;>rfl) (rN 3 Z (gW (i1 m1 (lR _) _ _ _ H (HS.pk 4 [2,0,3] Z)) Z)))))
  exact gW (h1 e1 (lR _) _ _ _ H (HS.pk 3 [1,2,0] Z)) Z
 exact gW (p1 K (lR _) _ _ _ _ H (HS.pk 2 [1,0] Z)) Z
theorem Al.calls {a1:List (List Am)} {y_a:Nat→(Ty.slice 83 Ak).Lay} {r1:List Bool} (HS:St w0 w (L)) (r_a:Bv w0 L (Ty.slice 83 Ak) A_a c_a y_a a1) (H:Al.f K a1=some r1) :
   Calls prog 144 #[.agg [sV A_a a1 c_a].toArray] w (Al.post w0 L r1):=by
 unfold Al.f at H
 refine cG func144 Z ?_
 refine sQ (rG (bA HS Z fun b1 wd2 HS=>aS Z (nL (sQ ?_))))
 obtain ⟨t3,h4,H⟩:=bI H
 refine rG (lW 0 HS Z Iy (fJ Xd Z (Co.calls HS (rD 1 r_a) h4) (fun _ wd7 ⟨A5,c6,h8,HS⟩=>⟨_,h8,(aS Z (nL (sQ ?_)))⟩)))
 obtain ⟨t9,h10,H⟩:=bI H
 obtain ⟨c13,H⟩:=iN H
 obtain ⟨c14,H⟩:=iN H
 refine rG (mV Z (fJ Vj Z (Gd.calls HS (ro 0 Z) h10) (fun _ wd11 ⟨h12,HS⟩=>⟨_,h12,(GO.make (T:=Fy) false () HS Ao Z Z Z Kt Vq Z Z Z c13 c14 Z fun b15 wd16 HS=>aS Z (nL (rN 2 Z (rG (mV Z (lS Z Z U26 Z (mV Z (nL (rN 2 Z ?_)))))))))⟩)))
 refine G.name (fun t1 n1=>?_)
 have q1:∀ h1,h1≤K→∀ (d1:List Bool) (x77:Int) (w:World),Al.l1 K h1 a1 t3 d1 x77=some r1→St w0 w (Box b1 33 [sV A_a a1 c_a]::Own Fy 4 (sb b15) t9.toNat uu d1::Own (Ac .i64) 2 A5 c6 uu t3::L)→G prog 144 60 [(1,pT b1),(4,sV (sb b15) d1 t9.toNat),(16,sV A5 t3 c6),(17,I (t3.length:Int)),(18,I x77)] t1 w (Al.post w0 L r1):=by
  refine lp (fun _ _ w H _=>by rw [Al.l1] at H; cases H) fun g1 u1 s1 d1 x77 w H HS=>?_
  rw [Al.l1] at H
  subst n1
  refine rN 3 Z ?_
  rcases iS H with ⟨c137,H⟩|⟨c137,H⟩
  ·
   refine nB Z (tF c137) (rN 3 Z ?_)
   obtain rfl:=sI H
   exact rT _ func144 Z Z ⟨_,_,Z,(HS.pk 3 [1] Z)⟩
  refine yB Z (tT c137) (rN 4 Z ?_)
  obtain ⟨c138,H⟩:=iN H
  refine rG (mV Z (iX Z U26 sz2 (rk (ro 2 Z) HS) c138 (GO.C8 (T:=(Ac .i64)) (n:=x77.toNat) (o:=0) HS (ro 2 Z) Z Z (getD_some (d:=0) (ltN c138)) Z Z na2 Z (pS 2 Z (nL (sQ ?_))))))
  obtain ⟨t139,t140,h141,H⟩:=Cx H
  refine rG (mV Z (GO.rem Z Z Z (by decide) Z (fJ Xc Z (Gw.calls HS  h141) (fun _ wd142 ⟨h143,HS⟩=>⟨_,h143,(pS 5 Z (nL (sQ ?_)))⟩))))
  obtain ⟨t146,h147,H⟩:=bI H
  refine rG (pS 2 Z (GO.D8 (el:=2) ([I t139,I t140]) HS Z Z (fun _=>by kernel_rfl) Z fun b144 wd145 HS=>?_))
  replace HS:=HS.Ib (T:=(Ac .i64)) (j:=0) Z Ao uu ([t139,t140]:List Int) Z (Ky Z)
  refine GO.Ke (t:=31) (m:=([t139,t140]:List Int).length) (c':=([t139,t140]:List Int).length) Z Z Z (fJ bQ Z (Ic.calls HS (ro 0 Z) h147) (fun _ wd150 ⟨A148,c149,h151,HS⟩=>⟨_,h151,(lS Z Z U26 Z (mV Z (nL (rN 2 Z ?_))))⟩))
  refine G.name (fun o1 p1=>?_)
  have k1:∀ i1,i1≤g1→∀ (c1:List Bool) (x167:Int) (w:World),Al.l4 K i1 a1 t3 x77 t146 c1 x167=some r1→St w0 w (Box b1 33 [sV A_a a1 c_a]::Own Fy 4 (sb b15) t9.toNat uu c1::Own (Ac .i64) 2 A5 c6 uu t3::Own (Ac .i64) 2 A148 c149 uu t146::L)→G prog 144 60 [(1,pT b1),(4,sV (sb b15) c1 t9.toNat),(5,I x77),(6,I (t3.getD x77.toNat 0)),(16,sV A5 t3 c6),(17,I (t3.length:Int)),(18,I x77),(32,sV A148 t146 c149),(33,I (t146.length:Int)),(34,I x167)] o1 w (Al.post w0 L r1):=by
   refine lp (fun _ _ w H _=>by rw [Al.l4] at H; cases H) fun e1 m1 f1 c1 x167 w H HS=>?_
   rw [Al.l4] at H
   subst p1
   refine rN 3 Z ?_
   rcases iS H with ⟨c182,H⟩|⟨c182,H⟩
   ·
    refine nB Z (tF c182) (rN 4 Z (gW (s1 e1 (Nat.le_of_succ_le m1) _ _ _ H (HS.pk 4 [0,1,2] Z)) Z))
   refine yB Z (tT c182) (rN 4 Z ?_)
   obtain ⟨c183,H⟩:=iN H
   refine rG (iX Z U26 sz2 (rk (ro 3 Z) HS) c183 (GO.C8 (T:=(Ac .i64)) (n:=x167.toNat) (o:=0) HS (ro 3 Z) Z Z (getD_some (d:=0) (ltN c183)) Z Z na2 Z (aS Z (nL ?_))))
   obtain ⟨c184,H⟩:=iN H
   rcases iE H with ⟨c185,H⟩|⟨c185,H⟩
   ·
    refine rG (pS 4 Z (iX Z Kt sz4 (fun _=>⟨_,_,Z⟩) c184 (GO.C8 (T:=Fy) (n:=(t3.getD x77.toNat 0).toNat) (o:=0) HS (ro 1 Z) Z Z (getD_some (d:=false) (ltN c184)) Z Z na4 Z (mV Z (kN 44 Z c185 (oF Z (oF Z (oF Z (oF Z (oF Z (oF Z (oF Z (oF Z (oF Z ?_))))))))))))))
    refine oF Z (GO.Gq Z Z Z Z Z (iX Z Kt sz4 (fun _=>⟨_,_,Z⟩) c184 (GO.Hl (T:=Fy) (j:=1) (n:=(t3.getD x77.toNat 0).toNat) (o:=0) (vs:=[.bool true]) true HS Z Ao Z Z Z Z (htN na4 Z) Z (getD_some (d:=false) (ltN c184)) Z Z fun wd186 HS=>nL (G.len (t:=4) (m:=(c1.set ((t3.getD x77.toNat 0).toNat) true).length) Z (by simp only [List.length_set]<;>rfl) (rN 3 Z (gW (f1 e1 (lR _) _ _ _ H HS) Z))))))
   obtain ⟨c187,H⟩:=iN H
   obtain ⟨c188,H⟩:=iN H
   obtain ⟨e189,h190,H⟩:=Gp H
   obtain ⟨t191,h192,H⟩:=bI H
   refine rG (pS 4 Z (iX Z Kt sz4 (fun _=>⟨_,_,Z⟩) c184 (GO.C8 (T:=Fy) (n:=(t3.getD x77.toNat 0).toNat) (o:=0) HS (ro 1 Z) Z Z (getD_some (d:=false) (ltN c184)) Z Z na4 Z (mV Z (kN 44 Z (Cv c185) (oN Z (fL b1 0 F3 Z (bK (oN Z (lB 0 HS Z Jo Z (bK (oN Z (mV Z (bK ?_))))))))))))))
   refine oN Z (GO.quo Z Z Z (by decide) Z (bK (oN Z (iX Z U31 Lm (rk (rD 4 r_a) HS) c187 (bK (oN Z (GO.C8 (T:=(Ty.slice 83 Ak)) (n:=(w64 (x77.tdiv 6)).toNat) (o:=0) HS (rD 4 r_a) Z Z (getD_some (d:=[]) (ltN c187)) Z Z Lj Z (bK (oN Z (mV Z (bK (oN Z (GO.ix Z Z Z U81 Ls ((Bv.elem (rD 4 r_a) c187.1 c187.2) _ HS).2.2.1 c188.1 c188.2 Z (bK ?_))))))))))))))
   refine oN Z (GO.Kk (T:=Ak) (n:=(t146.getD x167.toNat 0).toNat) HS (Bv.elem (rD 4 r_a) c187.1 c187.2) Z Z (Gt (ltN c188) h190) Jf Z (bK (oN Z (fJ Nv Z (Bo.calls HS  h192) (fun _ wd193 ⟨h194,HS⟩=>⟨_,h194,(bK (GO.Iw Z Z Z Z Z (iX Z Kt sz4 (fun _=>⟨_,_,Z⟩) c184 (GO.Hl (T:=Fy) (j:=1) (n:=(t3.getD x77.toNat 0).toNat) (o:=0) (vs:=[.bool t191]) t191 HS Z Ao Z Z Z Z (htN na4 Z) Z (getD_some (d:=false) (ltN c184)) Z Z fun wd195 HS=>nL (G.len (t:=4) (m:=(c1.set ((t3.getD x77.toNat 0).toNat) t191).length) Z (by simp only [List.length_set]<;>rfl) (rN 3 Z (gW (f1 e1 (lR _) _ _ _ H HS) Z)))))))⟩)))))
  exact gW (k1 g1 (lR _) _ _ _ H (HS.pk 5 [2,3,4,0] Z)) Z
 exact gW (q1 K (lR _) _ _ _ H (HS.pk 3 [2,0,1] Z)) Z
theorem Bj.calls {c1:List (List Am)} {a1:Int} {y_a:Nat→(Ty.slice 83 Ak).Lay} {r1 r2:Int} (HS:St w0 w (L)) (r_a:Bv w0 L (Ty.slice 83 Ak) A_a c_a y_a c1) (H:Bj.f K c1 a1=some (r1,r2)) :
   Calls prog 198 #[.agg [sV A_a c1 c_a].toArray,I a1] w (Bj.post w0 L r1 r2):=by
 unfold Bj.f at H
 refine cG func198 Z ?_
 refine sQ (rG (bA HS Z fun b1 wd2 HS=>GO.alloc HS Z Q7 Z Z fun b3 wd4 HS=>nL (sQ ?_)))
 obtain ⟨t5,h6,H⟩:=bI H
 refine rG (lW 1 HS Z Iy (fJ Xd Z (Co.calls HS (rD 2 r_a) h6) (fun _ wd9 ⟨A7,c8,h10,HS⟩=>⟨_,h10,(aS Z (nL (rN 2 Z ?_)))⟩)))
 obtain ⟨t11,h12,H⟩:=bI H
 obtain ⟨c17,H⟩:=iN H
 refine rG (lW 2 HS Z Iy (fJ lU Z (Al.calls HS (rD 3 r_a) h12) (fun _ wd15 ⟨A13,c14,h16,HS⟩=>⟨_,h16,(mV Z (iX Z Kt sz4 (rk (ro 0 Z) HS) c17 (GO.C8 (T:=Fy) (n:=a1.toNat) (o:=0) HS (ro 0 Z) Z Z (getD_some (d:=false) (ltN c17)) Z Z na4 Z (GO.not Z Z Z (nL ?_)))))⟩)))
 rcases iS H with ⟨c18,H⟩|⟨c18,H⟩
 ·
  refine yB Z (congrArg Bool.not (Cv c18)) (sQ ?_)
  obtain ⟨t408,h409,H⟩:=bI H
  refine rG (pS 2 Z (fJ aG Z (Ca.calls HS (ro 1 Z) h409) (fun _ wd410 ⟨h411,HS⟩=>⟨_,h411,(aS Z (nL (sQ ?_)))⟩)))
  obtain ⟨t412,t413,h414,H⟩:=Cx H
  refine rG (mV Z (GO.rem Z Z Z (by decide) Z (fJ Xc Z (Gw.calls HS  h414) (fun _ wd415 ⟨h416,HS⟩=>⟨_,h416,(pS 5 Z (nL (sQ ?_)))⟩))))
  obtain ⟨t419,h420,H⟩:=bI H
  refine rG (pS 2 Z (GO.D8 (el:=2) ([I t412,I t413]) HS Z Z (fun _=>by kernel_rfl) Z fun b417 wd418 HS=>?_))
  replace HS:=HS.Ib (T:=(Ac .i64)) (j:=0) Z Ao uu ([t412,t413]:List Int) Z (Ky Z)
  refine GO.Ke (t:=32) (m:=([t412,t413]:List Int).length) (c':=([t412,t413]:List Int).length) Z Z Z (fJ bQ Z (Ic.calls HS (ro 0 Z) h420) (fun _ wd423 ⟨A421,c422,h424,HS⟩=>⟨_,h424,(aS Z (nL (sQ ?_)))⟩))
  obtain ⟨c425,H⟩:=iN H
  have h426:=(rk (ro 0 Z) HS)
  obtain ⟨c427,H⟩:=iN H
  have h428:=(rk (ro 0 Z) HS)
  obtain ⟨t429,h430,H⟩:=bI H
  refine G.lex mixed [0,1,2,3,4,5,7,8,6,9,10,11,12,13] (by kernel_rfl) ?_
  replace HS:=HS.drew
  refine GX.ps 1 Z (qL Z Z (fun _ _ g=>GO.quo Z Z Z (by decide) Z g) Z (GX.ps 3 Z (qL Z Z (fun _ _ g=>iX Z U26 sz2 h426 c425 g) Z (GX.ps 1 Z (qL Z Z (fun _ _ g=>iX Z U26 sz2 h428 c427 g) Z (GX.l1 Z Z Z (fun _ g=>GO.C8 (T:=(Ac .i64)) (n:=0) (o:=0) HS (ro 0 Z) Z Z (getD_some (d:=0) (ltN c425)) Z Z na2 Z g) Z (GX.l1 Z Z Z (fun _ g=>GO.C8 (T:=(Ac .i64)) (n:=1) (o:=0) HS (ro 0 Z) Z Z (getD_some (d:=0) (ltN c427)) Z Z na2 Z g) Z (qL Z Z (fun _ _ g=>GO.Je (.agg [I t412,I t413,I (t419.getD 0 0),I (t419.getD 1 0)].toArray) Z Z (fun _=>by kernel_rfl) Z g) Z (GX.l2 Z (fJ bN Z (Dz.calls HS  h430) (fun _ wd431 ⟨h432,HS⟩=>⟨_,h432,(GX.fin tv (qL Z Z (fun _ _ g=>GO.Je (.agg [I (w64 (t408.tdiv 6)),I t429].toArray) Z Z (fun _=>by kernel_rfl) Z g) Z (GX.l2 Z (sW 4 HS Z J4 Z fun wd433 HS=>?_))))⟩)))))))))))
  refine GX.fin tv (GX.nil ?_)
  obtain ⟨rfl,rfl⟩:=H8 H
  exact rT _ func198 Z (Kc.Lh (j:=4) (vs:=[I (w64 (t408.tdiv 6)),I t429]) HS Z Z Z J4) ⟨Z,(HS.pk 6 [] Z)⟩
 refine nB Z (congrArg Bool.not c18) (rN 3 Z ?_)
 obtain ⟨t19,h20,H⟩:=bI H
 refine rG (fL b1 0 F3 Z (lB 3 HS Z Jo Z (fJ Qw Z (Dq.calls HS (rD 4 r_a) h20) (fun _ wd21 ⟨h22,HS⟩=>⟨_,h22,(mV Z (nL (rN 2 Z ?_)))⟩))))
 refine G.name (fun q1 m1=>?_)
 have p1:∀ g1,g1≤K→∀ (x151:Int) (w:World),Bj.l1 K g1 c1 a1 t5 t19 x151=some (r1,r2)→St w0 w (Box b1 33 [sV A_a c1 c_a]::Box b3 176 [I 0,I 0]::Own (Ac .i64) 2 A7 c8 uu t5::L)→G prog 198 89 [(1,I a1),(2,pT b1),(4,pT b3),(5,sV A7 t5 c8),(49,I t19),(50,I x151)] q1 w (Bj.post w0 L r1 r2):=by
  refine lp (fun _ w H _=>by rw [Bj.l1] at H; cases H) fun f1 t1 s1 x151 w H HS=>?_
  rw [Bj.l1] at H
  subst m1
  refine rN 3 Z ?_
  rcases iS H with ⟨c280,H⟩|⟨c280,H⟩
  ·
   refine nB Z (tF c280) (rN 2 Z (rG (GO.Je (.agg [I 0,I 0].toArray) Z Z (fun _=>by kernel_rfl) Z (sW 1 HS Z J4 Z fun wd407 HS=>nL ?_))))
   obtain ⟨rfl,rfl⟩:=H8 H
   exact rT _ func198 Z (Kc.Lh (j:=1) (vs:=[I 0,I 0]) HS Z Z Z J4) ⟨Z,(HS.pk 3 [] Z)⟩
  refine yB Z (tT c280) (rN 9 Z ?_)
  refine G.name (fun n1 o1=>?_)
  have i1:∀ h1,h1≤f1→∀ (x322:Int) (w:World),Bj.l4 K h1 c1 a1 t5 t19 x151 x322=some (r1,r2)→St w0 w (Box b1 33 [sV A_a c1 c_a]::Box b3 176 [I 0,I 0]::Own (Ac .i64) 2 A7 c8 uu t5::L)→G prog 198 89 [(1,I a1),(2,pT b1),(4,pT b3),(5,sV A7 t5 c8),(10,I x151),(49,I t19),(50,I x151),(53,I x322)] n1 w (Bj.post w0 L r1 r2):=by
   refine lp (fun _ w H _=>by rw [Bj.l4] at H; cases H) fun d1 k1 e1 x322 w H HS=>?_
   rw [Bj.l4] at H
   subst o1
   refine rN 3 Z ?_
   rcases iS H with ⟨c365,H⟩|⟨c365,H⟩
   ·
    refine nB Z (tF c365) (rN 4 Z (gW (s1 d1 (Nat.le_of_succ_le k1) _ _ H HS) Z))
   refine yB Z (tT c365) (rN 6 Z ?_)
   obtain ⟨t366,t367,t368,t369,h370,H⟩:=Ii H
   refine rG (mV Z (fJ Oz Z (Ej.calls HS  h370) (fun _ wd371 ⟨h372,HS⟩=>⟨_,h372,(GO.alloc HS Z Ug Z Z fun b373 wd374 HS=>sW 0 HS Z S9 Z fun wd375 HS=>nL (sQ ?_))⟩)))
   obtain ⟨t390,h391,H⟩:=bI H
   obtain ⟨c394,H⟩:=iN H
   have h395:=(rk (ro 3 Z) HS)
   rcases iS H with ⟨c396,H⟩|⟨c396,H⟩
   ·
    refine G.lex mixed [0,1,2,3,5,11,4,6,7,8,9,10,12,13,14,16,19,15,17,18,20,21,22,23,24] (by kernel_rfl) ?_
    replace HS:=HS.drew
    refine GX.ps 3 Z (qL Z Z (fun _ _ g=>GO.ixP 0 Z Z Z Z L8 sz2 Z Z g) Z (qL Z Z (fun _ _ g=>GO.ixP 1 Z Z Z Z L8 sz2 Z Z g) Z (GX.ps 1 Z (GX.l1 Z Z Z (fun _ g=>lB 0 HS Z na2 Z g) Z (GX.l1 Z Z Z (fun _ g=>lB 0 HS Z na2 Z g) Z (GX.l2 Z (fJ Xz Z (Ih.calls HS  h391) (fun _ wd392 ⟨h393,HS⟩=>⟨_,h393,(GX.fin tv (GX.ps 1 Z (qL Z Z (fun _ _ g=>iX Z U26 sz2 h395 c394 g) Z (GX.l1 Z Z Z (fun _ g=>GO.C8 (T:=(Ac .i64)) (n:=(w64 ((w64 (6*x151))+t390)).toNat) (o:=0) HS (ro 3 Z) Z Z (getD_some (d:=0) (ltN c394)) Z Z na2 Z g) Z (GX.ps 1 Z (qL Z Z (fun _ _ g=>mV Z (kN 71 Z (tF c396) g)) Z (qL Z Z (fun _ _ g=>oF Z g) Z ?_)))))))⟩))))))))
    refine qL Z Z (fun _ _ g=>oF Z g) Z (qL Z Z (fun _ _ g=>oF Z g) Z (GX.l1 Z Z Z (fun _ g=>oF Z g) Z (qL Z Z (fun _ _ g=>oF Z g) Z (GX.l1 Z Z Z (fun _ g=>oF Z g) Z (GX.l1 Z Z Z (fun _ g=>oF Z g) Z (qL Z Z (fun _ _ g=>oF Z g) Z (GX.l1 Z Z Z (fun _ g=>oF Z g) Z (GX.l2 Z (oF Z (GX.fin tv (GX.ps 1 Z (GX.nil (rN 5 Z (gW (e1 d1 (lR _) _ _ H (HS.pk 4 [1,2,3] Z)) Z))))))))))))))
   obtain ⟨c397,H⟩:=iN H
   obtain ⟨c398,H⟩:=iN H
   obtain ⟨e399,h400,H⟩:=Gp H
   obtain ⟨t401,h402,H⟩:=bI H
   refine G.lex mixed [0,1,2,3,5,11,4,6,7,8,9,10,12,13,14,16,19,15,17,18,20,21,22,23,24] (by kernel_rfl) ?_
   replace HS:=HS.drew
   refine GX.ps 3 Z (qL Z Z (fun _ _ g=>GO.ixP 0 Z Z Z Z L8 sz2 Z Z g) Z (qL Z Z (fun _ _ g=>GO.ixP 1 Z Z Z Z L8 sz2 Z Z g) Z (GX.ps 1 Z (GX.l1 Z Z Z (fun _ g=>lB 0 HS Z na2 Z g) Z (GX.l1 Z Z Z (fun _ g=>lB 0 HS Z na2 Z g) Z (GX.l2 Z (fJ Xz Z (Ih.calls HS  h391) (fun _ wd392 ⟨h393,HS⟩=>⟨_,h393,(GX.fin tv (GX.ps 1 Z (qL Z Z (fun _ _ g=>iX Z U26 sz2 h395 c394 g) Z (GX.l1 Z Z Z (fun _ g=>GO.C8 (T:=(Ac .i64)) (n:=(w64 ((w64 (6*x151))+t390)).toNat) (o:=0) HS (ro 3 Z) Z Z (getD_some (d:=0) (ltN c394)) Z Z na2 Z g) Z (GX.ps 1 Z (qL Z Z (fun _ _ g=>mV Z (kN 71 Z (tT c396) g)) Z (qL Z Z (fun _ _ g=>oN Z (fL b1 0 F3 Z (bK g))) Z ?_)))))))⟩))))))))
   refine qL Z Z (fun _ _ g=>oN Z (mV Z (bK g))) Z (qL Z Z (fun _ _ g=>oN Z (GO.ixP 3 Z Z Z Z L8 sz2 Z Z (bK g))) Z (GX.l1 Z Z Z (fun _ g=>oN Z (lB 1 HS Z Jo Z (bK g))) Z (qL Z Z (fun _ _ g=>oN Z (iX Z U31 Lm (rk (rD 4 r_a) HS) c397 (bK g))) Z (GX.l1 Z Z Z (fun _ g=>oN Z (GO.C8 (T:=(Ty.slice 83 Ak)) (n:=x151.toNat) (o:=0) HS (rD 4 r_a) Z Z (getD_some (d:=[]) (ltN c397)) Z Z Lj Z (bK g))) Z (GX.l1 Z Z Z (fun _ g=>oN Z (lB 0 HS Z na2 Z (bK g))) Z (qL Z Z (fun _ _ g=>oN Z (GO.ix Z Z Z U81 Ls ((Bv.elem (rD 4 r_a) c397.1 c397.2) _ HS).2.2.1 c398.1 c398.2 Z (bK g))) Z (GX.l1 Z Z Z (fun _ g=>oN Z (GO.Kk (T:=Ak) (n:=t369.toNat) HS (Bv.elem (rD 4 r_a) c397.1 c397.2) Z Z (Gt (ltN c398) h400) Jf Z (bK g))) Z (GX.l2 Z (oN Z (fJ Nv Z (Bo.calls HS  h402) (fun _ wd403 ⟨h404,HS⟩=>⟨_,h404,(bK (GX.fin tv (GX.ps 1 Z (GX.nil ?_))))⟩)))))))))))
   rcases iS H with ⟨c405,H⟩|⟨c405,H⟩
   ·
    refine nB Z (Cv c405) (rN 4 Z (gW (e1 d1 (lR _) _ _ H (HS.pk 4 [1,2,3] Z)) Z))
   refine yB Z c405 (sQ (rG (pS 2 Z (GO.Je (.agg [I x151,I x322].toArray) Z Z (fun _=>by kernel_rfl) Z (sW 2 HS Z J4 Z fun wd406 HS=>nL ?_)))))
   obtain ⟨rfl,rfl⟩:=H8 H
   exact rT _ func198 Z (Kc.Lh (j:=2) (vs:=[I x151,I x322]) HS Z Z Z J4) ⟨Z,(HS.pk 4 [] Z)⟩
  exact gW (i1 f1 (lR _) _ _ H HS) Z
 exact gW (p1 K (lR _) _ _ H (HS.pk 4 [3,2,1] Z)) Z
theorem F5.calls {a1:List (List Am)} {c1 d1:Int} {y_a:Nat→(Ty.slice 83 Ak).Lay} {r1 r2:Int} {r3:Bool} (HS:St w0 w (L)) (r_a:Bv w0 L (Ty.slice 83 Ak) A_a c_a y_a a1) (H:F5.f K a1 c1 d1=some (r1,r2,r3)) :
   Calls prog 199 #[.agg [sV A_a a1 c_a].toArray,.agg [I c1,I d1].toArray] w (F5.post w0 L r1 r2 r3):=by
 unfold F5.f at H
 refine cG func199 Z ?_
 refine sQ (rG (bA HS Z fun b1 wd2 HS=>bA HS Z fun b3 wd4 HS=>GO.alloc HS Z Q7 Z Z fun b5 wd6 HS=>aS Z (nL (sQ ?_))))
 obtain ⟨t7,t8,t9,t10,h11,H⟩:=Ii H
 refine rG (fL b3 1 Rk Z (lB 1 HS Z na2 Z (fJ Oz Z (Ej.calls HS  h11) (fun _ wd12 ⟨h13,HS⟩=>⟨_,h13,(GO.alloc HS Z Ug Z Z fun b14 wd15 HS=>sW 0 HS Z S9 Z fun wd16 HS=>nL (sQ ?_))⟩))))
 obtain ⟨c17,H⟩:=iN H
 obtain ⟨c18,H⟩:=iN H
 obtain ⟨e19,h20,H⟩:=Gp H
 refine G.Jk mixed (fun w=>St w0 w (Box b14 160 [I t7,I t8,I t9,I t10]::Box b3 176 [I c1,I d1]::Box b1 33 [sV A_a a1 c_a]::L)) [1,3,5,7,9] [0,2,6,1,3,4,5,7,8,9,10,11] [] (by kernel_rfl) (by kernel_rfl) (HS.drew.pk 4 [0,2,3] Z) ?_
 replace HS:=HS.drew
 refine qL Z Z (fun _ _ g=>fL b1 0 F3 Z g) Z (qL Z Z (fun _ _ g=>fL b3 0 Tv Z g) Z (qL Z Z (fun _ _ g=>GO.ixP 2 Z Z Z Z L8 sz2 Z Z g) Z (GX.ls Z Z Z (HS.pk 4 [0,2,3] Z) (fun _ HS _ g=>lB 2 HS Z Jo Z g) Z (GX.ls Z Z Z (HS.pk 4 [0,2,3] Z) (fun _ HS _ g=>lB 1 HS Z na2 Z g) Z (qL Z Z (fun _ _ g=>iX Z U31 Lm (rk (rD 4 r_a) HS) c17 g) Z (GX.ls Z Z Z (HS.pk 4 [0,2,3] Z) (fun _ HS _ g=>GO.C8 (T:=(Ty.slice 83 Ak)) (n:=c1.toNat) (o:=0) HS (rD 3 r_a) Z Z (getD_some (d:=[]) (ltN c17)) Z Z Lj Z g) Z (GX.ls Z Z Z (HS.pk 4 [0,2,3] Z) (fun _ HS _ g=>lB 0 HS Z na2 Z g) Z (qL Z Z (fun _ _ g=>GO.ix Z Z Z U81 Ls ((Bv.elem (rD 4 r_a) c17.1 c17.2) _ HS).2.2.1 c18.1 c18.2 Z g) Z (GX.ls Z Z Z (HS.pk 4 [0,2,3] Z) (fun _ HS _ g=>GO.Kk (T:=Ak) (n:=t9.toNat) HS (Bv.elem (rD 3 r_a) c17.1 c17.2) Z Z (Gt (ltN c18) h20) Jf Z g) Z (GX.l2 Z (GO.alloc HS Z Pb Z Z fun b21 wd22 HS=>GX.fin (HS.pk 5 [1,3,4] Z) (GX.l2 Z (sW 0 HS Z Jf Z fun wd23 HS=>?_)))))))))))))
 refine GX.fin (HS.pk 5 [1,3,4] Z) (GX.nil (rN 2 Z ?_))
 obtain ⟨t24,h25,H⟩:=bI H
 refine rG (lW 0 HS Z Jf (fJ Nv Z (Bo.calls HS  h25) (fun _ wd26 ⟨h27,HS⟩=>⟨_,h27,(nL ?_)⟩)))
 rcases iE H with ⟨c28,H⟩|⟨c28,H⟩
 ·
  refine yB Z c28 (sQ (rG (GO.Je (.agg [I 0,I 0].toArray) Z Z (fun _=>by kernel_rfl) Z (sW 2 HS Z J4 Z fun wd29 HS=>aS Z (nL ?_)))))
  obtain ⟨rfl,rfl,rfl⟩:=Kw H
  exact G.Jr _ _ func199 Z (Kc.Lh (j:=2) (vs:=[I 0,I 0]) HS Z Z Z J4) Z ⟨Z,(HS.pk 5 [] Z)⟩
 refine nB Z (Cv c28) (rN 2 Z ?_)
 obtain ⟨t30,t31,t32,t33,h34,H⟩:=Ii H
 refine rG (fL b21 1 J7 Z (lB 0 HS Z na2 Z (fJ Oz Z (Ej.calls HS  h34) (fun _ wd35 ⟨h36,HS⟩=>⟨_,h36,(GO.alloc HS Z Ug Z Z fun b37 wd38 HS=>sW 0 HS Z S9 Z fun wd39 HS=>nL (sQ ?_))⟩))))
 obtain ⟨c40,H⟩:=iN H
 obtain ⟨c41,H⟩:=iN H
 obtain ⟨c42,H⟩:=iN H
 obtain ⟨c43,H⟩:=iN H
 obtain ⟨t44,h45,H⟩:=bI H
 refine G.Jk mixed (fun w=>St w0 w (Box b37 160 [I t30,I t31,I t32,I t33]::Box b21 83 [I e19.Tet,I e19.Perm]::Box b14 160 [I t7,I t8,I t9,I t10]::L)) [1,3,5,7,9,11,13,15,17] [0,2,6,10,14,1,3,4,5,7,8,9,11,12,13,15,16,17,18,19,20,21,22] [] (by kernel_rfl) (by kernel_rfl) (HS.drew.pk 6 [0,1,2] Z) ?_
 replace HS:=HS.drew
 refine qL Z Z (fun _ _ g=>fL b21 0 F6 Z g) Z (qL Z Z (fun _ _ g=>GO.ixP 0 Z Z Z Z L8 sz2 Z Z g) Z (qL Z Z (fun _ _ g=>GO.ixP 1 Z Z Z Z L8 sz2 Z Z g) Z (qL Z Z (fun _ _ g=>GO.ixP 3 Z Z Z Z L8 sz2 Z Z g) Z (qL Z Z (fun _ _ g=>GO.ixP 2 Z Z Z Z L8 sz2 Z Z g) Z (GX.ls Z Z Z (HS.pk 6 [0,1,2] Z) (fun _ HS _ g=>lB 1 HS Z na2 Z g) Z (GX.ls Z Z Z (HS.pk 6 [0,1,2] Z) (fun _ HS _ g=>lB 2 HS Z na2 Z g) Z (qL Z Z (fun _ _ g=>GO.ixW Z Z Z L8 sz2 c40 Z g) Z (GX.ls Z Z Z (HS.pk 6 [0,1,2] Z) (fun _ HS _ g=>GO.ldW (j:=0) ([t30,t31,t32,t33]:List Int) HS Z Z Z c40 Z Z na2 Z g) Z (GX.ls Z Z Z (HS.pk 6 [0,1,2] Z) (fun _ HS _ g=>lB 2 HS Z na2 Z g) Z (qL Z Z (fun _ _ g=>GO.ixW Z Z Z L8 sz2 c41 Z g) Z (GX.ls Z Z Z (HS.pk 6 [0,1,2] Z) (fun _ HS _ g=>GO.ldW (j:=0) ([t30,t31,t32,t33]:List Int) HS Z Z Z c41 Z Z na2 Z g) Z (GX.ls Z Z Z (HS.pk 6 [0,1,2] Z) (fun _ HS _ g=>lB 2 HS Z na2 Z g) Z (qL Z Z (fun _ _ g=>GO.ixW Z Z Z L8 sz2 c42 Z g) Z (GX.ls Z Z Z (HS.pk 6 [0,1,2] Z) (fun _ HS _ g=>GO.ldW (j:=0) ([t30,t31,t32,t33]:List Int) HS Z Z Z c42 Z Z na2 Z g) Z ?_))))))))))))))
 refine GX.ls Z Z Z (HS.pk 6 [0,1,2] Z) (fun _ HS _ g=>lB 2 HS Z na2 Z g) Z (qL Z Z (fun _ _ g=>GO.ixW Z Z Z L8 sz2 c43 Z g) Z (GX.ls Z Z Z (HS.pk 6 [0,1,2] Z) (fun _ HS _ g=>GO.ldW (j:=0) ([t30,t31,t32,t33]:List Int) HS Z Z Z c43 Z Z na2 Z g) Z (qL Z Z (fun _ _ g=>GO.Je (.agg [I (([t30,t31,t32,t33]:List Int).getD t7.toNat 0),I (([t30,t31,t32,t33]:List Int).getD t8.toNat 0),I (([t30,t31,t32,t33]:List Int).getD t10.toNat 0),I (([t30,t31,t32,t33]:List Int).getD t9.toNat 0)].toArray) Z Z (fun _=>by kernel_rfl) Z g) Z (GX.l2 Z (fJ bN Z (Dz.calls HS  h45) (fun _ wd46 ⟨h47,HS⟩=>⟨_,h47,(GX.fin (HS.pk 6 [0,1,2] Z) (qL Z Z (fun _ _ g=>GO.Je (.agg [I e19.Tet,I t44].toArray) Z Z (fun _=>by kernel_rfl) Z g) Z (GX.l2 Z (sW 3 HS Z J4 Z fun wd48 HS=>GX.fin (HS.pk 6 [0,1,2] Z) (GX.ps 1 Z (GX.nil ?_))))))⟩))))))
 obtain ⟨rfl,rfl,rfl⟩:=Kw H
 exact G.Jr _ _ func199 Z (Kc.Lh (j:=3) (vs:=[I e19.Tet,I t44]) HS Z Z Z J4) Z ⟨Z,(HS.pk 6 [] Z)⟩
theorem Di.calls {c1:List (List Am)} {g1:Int} {y_a:Nat→(Ty.slice 83 Ak).Lay} {r1:List Am} (HS:St w0 w (L)) (r_a:Bv w0 L (Ty.slice 83 Ak) A_a c_a y_a c1) (H:Di.f K c1 g1=some r1) :
   Calls prog 179 #[.agg [sV A_a c1 c_a].toArray,I g1] w (Di.post w0 L r1):=by
 unfold Di.f at H
 refine cG func179 Z ?_
 refine sQ (rG (bA HS Z fun b1 wd2 HS=>aS Z (nL (sQ ?_))))
 obtain ⟨t3,t4,h5,H⟩:=Cx H
 refine rG (lW 0 HS Z Iy (mV Z (fJ uW Z (Bj.calls HS (rD 1 r_a) h5) (fun _ wd6 ⟨h7,HS⟩=>⟨_,h7,(GO.alloc HS Z Q7 Z Z fun b8 wd9 HS=>sW 0 HS Z J4 Z fun wd10 HS=>nL (sQ (rG (lW 0 HS Z J4 (GO.D8 (el:=176) ([I t3,I t4]) HS Z Z (fun _=>by kernel_rfl) Z fun b11 wd12 HS=>?_)))))⟩))))
 replace HS:=HS.Ib (T:=Ak) (j:=0) Z Ao uu ([(⟨t3,t4⟩:Am)]:List Am) Z (Ky Z)
 refine GO.Ke (t:=13) (m:=([(⟨t3,t4⟩:Am)]:List Am).length) (c':=([(⟨t3,t4⟩:Am)]:List Am).length) Z Z Z (aS Z (nL (rN 2 Z ?_)))
 refine G.name (fun n1 k1=>?_)
 have m1:∀ h1,h1≤K→∀ (A35:Option Addr) (c36:Nat) (a1:List Am) (w:World),Di.l1 K h1 c1 t3 t4 a1=some r1→St w0 w (Box b1 33 [sV A_a c1 c_a]::Box b8 176 [I t3,I t4]::Own Ak 176 A35 c36 uu a1::L)→G prog 179 37 [(2,pT b1),(5,pT b8),(6,sV A35 a1 c36)] n1 w (Di.post w0 L r1):=by
  refine lp (fun _ _ _ w H _=>by rw [Di.l1] at H; cases H) fun i1 p1 o1 A35 c36 a1 w H HS=>?_
  rw [Di.l1] at H
  subst k1
  refine rN 2 Z ?_
  obtain ⟨c60,H⟩:=iN H
  have h61:=(rk (ro 2 Z) HS)
  obtain ⟨e62,h63,H⟩:=Gp H
  obtain ⟨t64,t65,t66,h67,H⟩:=Gb H
  refine G.Pk mixed (by decide) (fun b a w=>∃ (b70:Nat) (d1:Dc),RS 37 [(2,pT b1),(5,pT b8),(6,sV A35 a1 c36)] [rv 15 (.agg [sV A_a c1 c_a].toArray),rv 16 (sV A35 a1 c36),rv 17 (sV A35 a1 c36),rv 18 (I (a1.length:Int)),rv 19 (I (w64 ((a1.length:Int) - 1))),rv 20 (.pointer (some (ea A35 (((w64 ((a1.length:Int) - 1)).toNat)*2)))),rv 21 (.agg [I e62.Tet,I e62.Perm].toArray),rv 22 (.tuple #[.agg [I t64,I t65].toArray,.bool t66]),rv 14 (.tuple #[.agg [I t64,I t65].toArray,.bool t66]),rv 23 (.agg [I t64,I t65].toArray),rv 24 (.bool t66),rv 7 (pT b70),none,rv 8 (.bool t66)] b a∧St w0 w (Box b1 33 [sV A_a c1 c_a]::Box b8 176 [I t3,I t4]::Own Ak 176 A35 c36 uu a1::d1::L)∧(b 11=true→b 12=false→d1=Box b70 176 [I 0,I 0])∧(b 12=true→d1=Box b70 176 [I t64,I t65])) ?_ ?_ ?_
  · exact fun a hs=>⟨0,Emp,hs.init Z,(HS.drew.emp.pk 4 [1,2,3,0] Z),fun h=>Bool.noConfusion h,fun h=>Bool.noConfusion h⟩
  ·
   intro j b a w hj
   refine exI fun b70=>exI fun d1=>anI fun hs=>fun hM q=>?_
   have HS:=hM.1
   match j,hj with
   | 0,_ =>
    refine hs.at q [] [] (lW 0 HS Z Iy (hs.fin q Z fun _ hs=>⟨_,_,hs,hM⟩))
   | 1,_ =>
    refine hs.at q [] [] (mV Z (hs.fin q Z fun _ hs=>⟨_,_,hs,hM⟩))
   | 2,_ =>
    refine hs.at q [] [] (mV Z (hs.fin q Z fun _ hs=>⟨_,_,hs,hM⟩))
   | 3,_ =>
    refine hs.at q [2] [] (lS Z Z Uw Z (hs.fin q Z fun _ hs=>⟨_,_,hs,HS,hM.2⟩))
   | 4,_ =>
    refine hs.at q [3] [] (GO.sub Z Z Z Z (hs.fin q Z fun _ hs=>⟨_,_,hs,hM⟩))
   | 5,_ =>
    refine hs.at q [1,4] [] (iX Z Uw Zf h61 c60 (hs.fin q Z fun _ hs=>⟨_,_,hs,hM⟩))
   | 6,_ =>
    refine hs.at q [5] [] (GO.Kk (T:=Ak) (n:=(w64 ((a1.length:Int) - 1)).toNat) HS (ro 2 Z) Z Z (Gt (ltN c60) h63) J4 Z (hs.fin q Z fun _ hs=>⟨_,_,hs,hM⟩))
   | 7,_ =>
    refine hs.at q [0,6] [] (fJ sG Z (F5.calls HS (rD 4 r_a) h67) (fun _ wd68 ⟨h69,HS⟩=>⟨_,h69,(hs.fin q Z fun _ hs=>⟨_,_,hs,HS,hM.2⟩)⟩))
   | 8,_ =>
    refine hs.at q [7] [] (mV Z (hs.fin q Z fun _ hs=>⟨_,_,hs,hM⟩))
   | 9,_ =>
    refine hs.at q [8] [] (GO.extract Z Z Z Z (hs.fin q Z fun _ hs=>⟨_,_,hs,hM⟩))
   | 10,_ =>
    refine hs.at q [8] [] (GO.extract Z Z Z Z (hs.fin q Z fun _ hs=>⟨_,_,hs,hM⟩))
   | 11,_ =>
    refine (anI fun HS=>anI fun e1=>fun f1=>?_) hM
    refine hs.at q [] [] (GO.alloc HS Z Q7 Z Z fun b70 wd71 HS=>hs.Za q [11] (fun _ hs=>⟨b70,Box b70 176 [I 0,I 0],hs,HS.pk 5 [1,2,3,0] Z,fun _ _=>Z,fun hh=>(q.no 12 hh).elim⟩) Z Z)
   | 12,_ =>
    refine (anI fun HS=>anI fun e1=>fun f1=>?_) hM
    have hb11:=q.on 11
    obtain rfl:=e1 hb11 q.hb
    refine hs.at q [11,9] [] (sW 3 HS Z J4 Z fun wd72 HS=>hs.oI q Z fun _ hs=>⟨b70,Box b70 176 [I t64,I t65],hs,HS,fun _ h=>Bool.noConfusion h,fun _=>Z⟩)
   | 13,_ =>
    refine hs.at q [10] [] (aS Z (hs.fin q Z fun _ hs=>⟨_,_,hs,hM⟩))
   | k+14,hj=>exact absurd hj (Nat.not_lt.2 (Nat.le_add_left 14 k))
  ·
   intro b a w hall
   refine exI fun b70=>exI fun d1=>anI fun hs=>anI fun HS=>anI fun e1=>fun f1=>?_
   obtain rfl:=f1 (hall 12 (by decide))
   refine G.at (hs.all hall) (rN 2 Z ?_)
   rcases iS H with ⟨c74,H⟩|⟨c74,H⟩
   ·
    refine rG (pS 3 Z (kN 27 Z (congrArg Bool.not (Cv c74)) (oF Z (oF Z (oF Z (GO.Gq Z Z Z Z Z (nL (rN 3 Z ?_))))))))
    obtain rfl:=sI H
    exact rT _ func179 Z Z ⟨_,_,Z,(HS.pk 4 [2] Z)⟩
   refine rG (pS 3 Z (kN 27 Z (congrArg Bool.not c74) (oN Z (lW 3 HS Z J4 (bK (oN Z (lW 1 HS Z J4 (bK (oN Z (GO.kR Z Z Z qM (fun _=>rF) Z (bK (GO.Iw Z Z Z Z Z (nL ?_)))))))))))))
   rcases iE H with ⟨c75,H⟩|⟨c75,H⟩
   ·
    refine yB Z (tT c75) (rN 2 Z ?_)
    obtain rfl:=sI H
    exact rT _ func179 Z Z ⟨_,_,Z,(HS.pk 4 [2] Z)⟩
   refine nB Z (tF c75) (G.skip ?_)
   obtain ⟨c81,H⟩:=iN H
   refine rG (mV Z (lW 3 HS Z J4 (GO.D8 (el:=176) ([I t64,I t65]) HS Z Z (fun _=>by kernel_rfl) Z fun b76 wd77 HS=>GO.app1 (T:=Ak) (j:=3) (jb:=0) (⟨t64,t65⟩:Am) HS Z Z Ao Z Z Z Uw lV Z Z Z c81 Z fun A79 c80 wd78 HS=>aS Z (nL (rN 2 Z (gW (o1 i1 (lR _) _ _ _ _ H (HS.pk 5 [1,2,3] Z)) Z))))))
 exact gW (m1 K (lR _) _ _ _ _ H (HS.pk 3 [2,1,0] Z)) Z
theorem Cg.calls {c1:List (List Am)} {d1:Int} {letters:List (List Int)} {y_a:Nat→(Ty.slice 83 Ak).Lay} {y_b:Nat→(Ty.slice 2 (Ac .i64)).Lay} {r1:List Int} (HS:St w0 w (L)) (r_a:Bv w0 L (Ty.slice 83 Ak) A_a c_a y_a c1) (r_b:Bv w0 L (Ty.slice 2 (Ac .i64)) A_b c_b y_b letters) (H:Cg.f K c1 d1 letters=some r1) :
   Calls prog 145 #[.agg [sV A_a c1 c_a].toArray,I d1,sV A_b letters c_b] w (Cg.post w0 L r1):=by
 unfold Cg.f at H
 refine cG func145 Z ?_
 refine sQ (rG (bA HS Z fun b1 wd2 HS=>aS Z (nL (rN 4 Z ?_))))
 obtain ⟨t3,h4,H⟩:=bI H
 refine rG (lW 0 HS Z Iy (mV Z (fJ tZ Z (Di.calls HS (rD 1 r_a) h4) (fun _ wd7 ⟨A5,c6,h8,HS⟩=>⟨_,h8,(lS Z Z Uw Z (mV Z (nL (rN 2 Z ?_))))⟩))))
 refine G.name (fun k1 h1=>?_)
 have i1:∀ f1,f1≤K→∀ (A32:Option Addr) (c33:Nat) (a1:List Int) (x35:Int) (w:World),Cg.l1 K f1 letters t3 a1 x35=some r1→St w0 w (Own (Ac .i64) 2 A32 c33 uu a1::Own Ak 176 A5 c6 uu t3::L)→G prog 145 38 [(2,sV A_b letters c_b),(7,sV A32 a1 c33),(13,sV A5 t3 c6),(14,I (t3.length:Int)),(15,I x35)] k1 w (Cg.post w0 L r1):=by
  refine lp (fun _ _ _ _ w H _=>by rw [Cg.l1] at H; cases H) fun e1 m1 g1 A32 c33 a1 x35 w H HS=>?_
  rw [Cg.l1] at H
  subst h1
  refine rN 3 Z ?_
  rcases iS H with ⟨c59,H⟩|⟨c59,H⟩
  ·
   refine nB Z (tF c59) (rN 3 Z ?_)
   obtain rfl:=sI H
   exact rT _ func145 Z Z ⟨_,_,Z,(HS.pk 2 [0] Z)⟩
  refine yB Z (tT c59) (rN 4 Z ?_)
  obtain ⟨c60,H⟩:=iN H
  obtain ⟨e61,h62,H⟩:=Gp H
  refine rG (iX Z Uw Zf (rk (ro 1 Z) HS) c60 (GO.Kk (T:=Ak) (n:=x35.toNat) HS (ro 1 Z) Z Z (Gt (ltN c60) h62) J4 Z (GO.alloc HS Z Q7 Z Z fun b63 wd64 HS=>sW 0 HS Z J4 Z fun wd65 HS=>nL (sQ ?_))))
  obtain ⟨c66,H⟩:=iN H
  obtain ⟨t67,t68,t69,t70,h71,H⟩:=Ii H
  obtain ⟨c74,H⟩:=iN H
  refine G.Jk mixed (fun w=>St w0 w (Box b63 176 [I e61.Tet,I e61.Perm]::L)) [2,4,6,10] [0,1,5,2,3,4,6,7,8,9,10,11] [] (by kernel_rfl) (by kernel_rfl) (HS.drew.pk 3 [0] Z) ?_
  replace HS:=HS.drew
  refine GX.ps 1 Z (qL Z Z (fun _ _ g=>fL b63 0 Tv Z g) Z (qL Z Z (fun _ _ g=>fL b63 1 Rk Z g) Z (GX.ls Z Z Z (HS.pk 3 [0] Z) (fun _ HS _ g=>lB 0 HS Z na2 Z g) Z (qL Z Z (fun _ _ g=>iX Z U65 Na (rk (rD 3 r_b) HS) c66 g) Z (GX.ls Z Z Z (HS.pk 3 [0] Z) (fun _ HS _ g=>GO.C8 (T:=(Ty.slice 2 (Ac .i64))) (n:=e61.Tet.toNat) (o:=0) HS (rD 1 r_b) Z Z (getD_some (d:=[]) (ltN c66)) Z Z Ip Z g) Z (GX.ls Z Z Z (HS.pk 3 [0] Z) (fun _ HS _ g=>lB 0 HS Z na2 Z g) Z (GX.l2 Z (fJ Oz Z (Ej.calls HS  h71) (fun _ wd72 ⟨h73,HS⟩=>⟨_,h73,(GX.fin (HS.pk 3 [0] Z) (qL Z Z (fun _ _ g=>GO.mR ([t67,t68,t69,t70]:List Int) Z Z Z L8 U2 sz2 Z (⟨by decide,by decide⟩:(0:Int)≤2∧(2:Int)<4).1 (⟨by decide,by decide⟩:(0:Int)≤2∧(2:Int)<4).2 Z g) Z (qL Z Z (fun _ _ g=>GO.ix Z Z Z U26 sz2 ((Bv.elem (rD 3 r_b) c66.1 c66.2) _ HS).2.2.1 c74.1 c74.2 Z g) Z (GX.ls Z Z Z (HS.pk 3 [0] Z) (fun _ HS _ g=>GO.C8 (T:=(Ac .i64)) (n:=t69.toNat) (o:=0) HS (Bv.elem (rD 1 r_b) c66.1 c66.2) Z Z (getD_some (d:=0) (ltN c74)) Z Z na2 Z g) Z (GX.ps 1 Z (GX.nil ?_))))))⟩)))))))))
  refine rN 2 Z ?_
  rcases iE H with ⟨c75,H⟩|⟨c75,H⟩
  ·
   refine nB Z (nT c75) (rN 4 Z (gW (g1 e1 (lR _) _ _ _ _ _ H (HS.pk 3 [1,2] Z)) Z))
  refine yB Z (nF c75) ?_
  obtain ⟨c81,H⟩:=iN H
  refine rG (pS 2 Z (GO.D8 (el:=2) ([I ((letters.getD e61.Tet.toNat []).getD t69.toNat 0)]) HS Z Z (fun _=>by kernel_rfl) Z fun b76 wd77 HS=>GO.app1 (T:=(Ac .i64)) (j:=2) (jb:=0) ((letters.getD e61.Tet.toNat []).getD t69.toNat 0) HS Z Z Ao Z Z Z U26 Lf Z Z Z c81 Z fun A79 c80 wd78 HS=>aS Z (nL (rN 3 Z (gW (g1 e1 (lR _) _ _ _ _ _ H (HS.pk 4 [2,3] Z)) Z)))))
 replace HS:=HS.Jz (Ac .i64) 2 uu
 exact gW (i1 K (lR _) _ _ _ _ _ H (HS.pk 3 [0,1] Z)) Z
theorem Cc.calls {a1:List (List Am)} {y_a:Nat→(Ty.slice 83 Ak).Lay} {r1:List (List Int)} (HS:St w0 w (L)) (r_a:Bv w0 L (Ty.slice 83 Ak) A_a c_a y_a a1) (H:Cc.f K a1=some r1) :
   Calls prog 98 #[.agg [sV A_a a1 c_a].toArray] w (Cc.post w0 L r1):=by
 unfold Cc.f at H
 refine cG func98 Z ?_
 refine sQ (rG (bA HS Z fun b1 wd2 HS=>aS Z (nL (sQ ?_))))
 obtain ⟨t3,h4,H⟩:=bI H
 refine rG (lW 0 HS Z Iy (fJ vZ Z (Ay.calls HS (rD 1 r_a) h4) (fun _ wd8 ⟨A5,c6,y7,h9,HS⟩=>⟨_,h9,(aS Z (nL (rN 4 Z ?_)))⟩)))
 obtain ⟨t10,h11,H⟩:=bI H
 refine rG (lW 1 HS Z Iy (fJ lU Z (Al.calls HS (rD 2 r_a) h11) (fun _ wd14 ⟨A12,c13,h15,HS⟩=>⟨_,h15,(lS Z Z Kt Z (mV Z (nL (rN 2 Z ?_))))⟩)))
 refine G.name (fun i1 g1=>?_)
 have h1:∀ e1,e1≤K→∀ (A32:Option Addr) (c33:Nat) (c1:List (List Int)) (y35:Nat→(Ty.slice 2 (Ac .i64)).Lay) (x36:Int) (w:World),Cc.l1 K e1 a1 t3 t10 c1 x36=some r1→St w0 w (Box b1 33 [sV A_a a1 c_a]::Own (Ty.slice 2 (Ac .i64)) 26 A5 c6 y7 t3::Own (Ty.slice 2 (Ac .i64)) 26 A32 c33 y35 c1::Own Fy 4 A12 c13 uu t10::L)→G prog 98 28 [(1,pT b1),(3,sV A5 t3 c6),(4,sV A32 c1 c33),(10,sV A12 t10 c13),(11,I (t10.length:Int)),(12,I x36)] i1 w (Cc.post w0 L r1):=by
  refine lp (fun _ _ _ _ _ w H _=>by rw [Cc.l1] at H; cases H) fun d1 k1 f1 A32 c33 c1 y35 x36 w H HS=>?_
  rw [Cc.l1] at H
  subst g1
  refine rN 3 Z ?_
  rcases iS H with ⟨c53,H⟩|⟨c53,H⟩
  ·
   refine nB Z (tF c53) (rN 3 Z ?_)
   obtain rfl:=sI H
   exact rT _ func98 Z Z ⟨_,_,_,Z,(HS.pk 4 [2] Z)⟩
  refine yB Z (tT c53) (rN 4 Z ?_)
  obtain ⟨c54,H⟩:=iN H
  refine rG (mV Z (iX Z Kt sz4 (rk (ro 3 Z) HS) c54 (GO.C8 (T:=Fy) (n:=x36.toNat) (o:=0) HS (ro 3 Z) Z Z (getD_some (d:=false) (ltN c54)) Z Z na4 Z (pS 2 Z (nL (rN 2 Z ?_))))))
  rcases iE H with ⟨c55,H⟩|⟨c55,H⟩
  ·
   refine nB Z (congrArg Bool.not c55) (rN 4 Z (gW (f1 d1 (lR _) _ _ _ _ _ _ H HS) Z))
  refine yB Z (congrArg Bool.not (Cv c55)) ?_
  obtain ⟨t56,h57,H⟩:=bI H
  obtain ⟨c67,H⟩:=iN H
  refine rG (mV Z (lW 0 HS Z Iy (pS 2 Z (fJ vK Z (Cg.calls HS (rD 4 r_a) (ro 1 Z) h57) (fun _ wd60 ⟨A58,c59,h61,HS⟩=>⟨_,h61,(GO.D8 (el:=26) ([sV A58 t56 c59]) HS Z Z (fun _=>by kernel_rfl) Z fun b62 wd63 HS=>?_)⟩)))))
  replace HS:=HS.pk 6 [4,0,1,2,3,5] Z
  refine GO.Z6 (S:=(Ac .i64)) (u:=2) HS Z Z Z U65 Qi Z Z c67 Z fun A65 c66 y68 wd64 HS=>aS Z (nL (rN 3 Z (gW (f1 d1 (lR _) _ _ _ _ _ _ H (HS.pk 5 [2,3,0,4] Z)) Z)))
 replace HS:=HS.Jz (Ty.slice 2 (Ac .i64)) 26 (fun _=>⟨none,0,uu⟩)
 exact gW (h1 K (lR _) _ _ _ _ _ _ H (HS.pk 4 [3,2,0,1] Z)) Z
theorem Fb.calls {w_:List Int} {r1:List Int} (HS:St w0 w (L)) (r_a:Bv w0 L (Ac .i64) A_a c_a uu w_) (H:Fb.f K w_=some r1) :
   Calls prog 99 #[sV A_a w_ c_a] w (Fb.post w0 L r1):=by
 unfold Fb.f at H
 refine cG func99 Z ?_
 refine rN 6 Z (rG (mV Z (lS Z Z U26 Z (mV Z (nL (rN 2 Z ?_))))))
 refine G.name (fun g1 e1=>?_)
 have f1:∀ d1,d1≤K→∀ (A9:Option Addr) (c10:Nat) (a1:List Int) (x12:Int) (w:World),Fb.l1 K d1 w_ a1 x12=some r1→St w0 w (Own (Ac .i64) 2 A9 c10 uu a1::L)→G prog 99 37 [(3,sV A9 a1 c10),(7,sV A_a w_ c_a),(8,I (w_.length:Int)),(9,I x12)] g1 w (Fb.post w0 L r1):=by
  refine lp (fun _ _ _ _ w H _=>by rw [Fb.l1] at H; cases H) fun b1 h1 c1 A9 c10 a1 x12 w H HS=>?_
  rw [Fb.l1] at H
  subst e1
  refine rN 3 Z ?_
  rcases iS H with ⟨c33,H⟩|⟨c33,H⟩
  ·
   refine nB Z (tF c33) (rN 3 Z ?_)
   obtain rfl:=sI H
   exact rT _ func99 Z Z ⟨_,_,Z,HS⟩
  refine yB Z (tT c33) (rN 4 Z ?_)
  obtain ⟨c34,H⟩:=iN H
  refine rG (iX Z U26 sz2 (rk (rD 1 r_a) HS) c34 (GO.C8 (T:=(Ac .i64)) (n:=x12.toNat) (o:=0) HS (rD 1 r_a) Z Z (getD_some (d:=0) (ltN c34)) Z Z na2 Z (aS Z (nL (sQ (rG (mV Z (lS Z Z U26 Z (aS Z (nL (sQ ?_)))))))))))
  rcases iS H with ⟨c37,H⟩|⟨c37,H⟩
  ·
   refine rG (pS 3 Z (kN 17 Z (tF c37) (oF Z (oF Z (oF Z (oF Z (oF Z (oF Z (oF Z (oF Z (GO.Iw Z Z Z Z Z (nL (nB Z Z ?_)))))))))))))
   obtain ⟨c52,H⟩:=iN H
   refine rG (pS 2 Z (GO.D8 (el:=2) ([I (w_.getD x12.toNat 0)]) HS Z Z (fun _=>by kernel_rfl) Z fun b47 wd48 HS=>GO.app1 (T:=(Ac .i64)) (j:=1) (jb:=0) (w_.getD x12.toNat 0) HS Z Z Ao Z Z Z U26 Lf Z Z Z c52 Z fun A50 c51 wd49 HS=>aS Z (nL (rN 3 Z (gW (c1 b1 (lR _) _ _ _ _ _ H (HS.pk 2 [1] Z)) Z)))))
  obtain ⟨c38,H⟩:=iN H
  refine rG (pS 3 Z (kN 17 Z (tT c37) (oN Z (mV Z (bK (oN Z (mV Z (bK (oN Z (GO.sub Z Z Z Z (bK (oN Z (iX Z U26 sz2 (rk (ro 0 Z) HS) c38 (bK ?_))))))))))))))
  refine oN Z (GO.C8 (T:=(Ac .i64)) (n:=(w64 ((a1.length:Int) - 1)).toNat) (o:=0) HS (ro 0 Z) Z Z (getD_some (d:=0) (ltN c38)) Z Z na2 Z (bK (oN Z (mV Z (bK (oN Z (GO.neg Z Z Z (bK (oN Z (GO.eql Z Z Z Z (bK (GO.Gq Z Z Z Z Z (nL ?_)))))))))))))
  rcases iS H with ⟨c39,H⟩|⟨c39,H⟩
  ·
   refine nB Z (tF c39) ?_
   obtain ⟨c46,H⟩:=iN H
   refine rG (pS 2 Z (GO.D8 (el:=2) ([I (w_.getD x12.toNat 0)]) HS Z Z (fun _=>by kernel_rfl) Z fun b41 wd42 HS=>GO.app1 (T:=(Ac .i64)) (j:=1) (jb:=0) (w_.getD x12.toNat 0) HS Z Z Ao Z Z Z U26 Lf Z Z Z c46 Z fun A44 c45 wd43 HS=>aS Z (nL (rN 3 Z (gW (c1 b1 (lR _) _ _ _ _ _ H (HS.pk 2 [1] Z)) Z)))))
  refine yB Z (tT c39) ?_
  obtain ⟨c40,H⟩:=iN H
  refine rG (pS 3 Z (GO.slH (T:=(Ac .i64)) HS (ro 0 Z) Z Z Z U26 sz2 c40.1 c40.2 Z (aS Z (nL (rN 3 Z ?_)))))
  replace HS:=HS.jH (A':=(Jn A9 0 c10 1)) (c':=(c10 - 0)) (j:=0) (m:=(w64 ((a1.length:Int) - 1)).toNat) Z Ao (leN c40) (Og _ _ _) Z
  exact gW (c1 b1 (lR _) _ _ _ _ _ H HS) Z
 replace HS:=HS.Jz (Ac .i64) 2 uu
 exact gW (f1 K (lR _) _ _ _ _ _ H HS) Z
theorem Cm.calls {c1:List (List Am)} {y_a:Nat→(Ty.slice 83 Ak).Lay} {r1:Int} {r2:List (List Int)} (HS:St w0 w (L)) (r_a:Bv w0 L (Ty.slice 83 Ak) A_a c_a y_a c1) (H:Cm.f K c1=some (r1,r2)) :
   Calls prog 51 #[.agg [sV A_a c1 c_a].toArray] w (Cm.post w0 L r1 r2):=by
 unfold Cm.f at H
 refine cG func51 Z ?_
 refine sQ (rG (bA HS Z fun b1 wd2 HS=>GO.alloc HS Z bG Z Z fun b3 wd4 HS=>nL (sQ ?_)))
 obtain ⟨t5,h6,H⟩:=bI H
 obtain ⟨t12,h13,H⟩:=bI H
 refine rG (lW 1 HS Z Iy (fJ qH Z (Ap.calls HS (rD 2 r_a) h6) (fun _ wd10 ⟨A7,c8,y9,h11,HS⟩=>⟨_,h11,(fJ qZ Z (I1.calls HS (ro 0 Z) h13) (fun _ wd14 ⟨h15,HS⟩=>⟨_,h15,(GO.Je (.agg [I t12,.slice none 0 0].toArray) Z Z (fun _=>by kernel_rfl) Z (GO.alloc HS Z bG Z Z fun b16 wd17 HS=>sW 0 HS Z Q4 Z fun wd18 HS=>nL (rN 2 Z ?_)))⟩))⟩)))
 obtain ⟨t19,h20,H⟩:=bI H
 refine rG (lW 3 HS Z Iy (fJ Aag Z (Cc.calls HS (rD 4 r_a) h20) (fun _ wd24 ⟨A21,c22,y23,h25,HS⟩=>⟨_,h25,(lS Z Z U65 Z (mV Z (nL (rN 2 Z ?_))))⟩)))
 refine G.name (fun i1 g1=>?_)
 have h1:∀ e1,e1≤K→∀ (A44:Option Addr) (c45:Nat) (a1:List (List Int)) (y47:Nat→(Ty.slice 2 (Ac .i64)).Lay) (x48:Int) (w:World),Cm.l1 K e1 t12 t19 a1 x48=some (r1,r2)→St w0 w (Box b3 67 [I 0,.slice none 0 0]::Box b16 67 [I t12,sV A44 a1 c45]::Own (Ty.slice 2 (Ac .i64)) 26 A44 c45 y47 a1::Own (Ty.slice 2 (Ac .i64)) 26 A21 c22 y23 t19::L)→G prog 51 31 [(2,pT b3),(3,pT b16),(12,sV A21 t19 c22),(13,I (t19.length:Int)),(14,I x48)] i1 w (Cm.post w0 L r1 r2):=by
  refine lp (fun _ _ _ _ _ w H _=>by rw [Cm.l1] at H; cases H) fun d1 k1 f1 A44 c45 a1 y47 x48 w H HS=>?_
  rw [Cm.l1] at H
  subst g1
  refine rN 3 Z ?_
  rcases iS H with ⟨c67,H⟩|⟨c67,H⟩
  ·
   refine nB Z (tF c67) (rN 2 Z (rG (lW 1 HS Z Q4 (sW 0 HS Z Q4 Z fun wd84 HS=>nL ?_))))
   obtain ⟨rfl,rfl⟩:=H8 H
   exact rT _ func51 Z (Kc.Lh (j:=0) (vs:=[I t12,sV A44 a1 c45]) HS Z Z Z Q4) ⟨_,_,_,Z,(HS.pk 4 [2] Z)⟩
  refine yB Z (tT c67) (rN 4 Z ?_)
  obtain ⟨c68,H⟩:=iN H
  refine rG (iX Z U65 Na (rk (ro 3 Z) HS) c68 (GO.C8 (T:=(Ty.slice 2 (Ac .i64))) (n:=x48.toNat) (o:=0) HS (ro 3 Z) Z Z (getD_some (d:=[]) (ltN c68)) Z Z Ip Z (aS Z (nL (sQ ?_)))))
  obtain ⟨t69,h70,H⟩:=bI H
  refine rG (mV Z (fJ wW Z (Fb.calls HS (Bv.elem (ro 3 Z) c68.1 c68.2) h70) (fun _ wd73 ⟨A71,c72,h74,HS⟩=>⟨_,h74,(aS Z (nL (sQ (rG (mV Z (lS Z Z U26 Z (GO.gtr Z Z Z Z (nL ?_))))))))⟩)))
  rcases iS H with ⟨c75,H⟩|⟨c75,H⟩
  ·
   refine nB Z (tF c75) (rN 4 Z (gW (f1 d1 (lR _) _ _ _ _ _ _ H (HS.pk 5 [1,2,3,4] Z)) Z))
  refine yB Z (tT c75) ?_
  obtain ⟨c81,H⟩:=iN H
  refine rG (fL b16 1 Ny Z (lB 2 HS Z Ob Z (mV Z (GO.D8 (el:=26) ([sV A71 t69 c72]) HS Z Z (fun _=>by kernel_rfl) Z fun b76 wd77 HS=>?_))))
  replace HS:=HS.pk 6 [4,0,1,2,3,5] Z
  refine GO.Z6 (S:=(Ac .i64)) (u:=2) HS Z Z Z U65 Qi Z Z c81 Z fun A79 c80 y82 wd78 HS=>fL b16 1 Ny Z (GO.K7 (j:=3) (vs:=[sV A79 (a1++[t69]) c80]) ([I t12,sV A79 (a1++[t69]) c80]) HS Z Z Z Z Z (htN Ob Z) Z Z Z fun wd83 HS=>nL (rN 3 Z (gW (f1 d1 (lR _) _ _ _ _ _ _ H (HS.pk 5 [2,3,0,4] Z)) Z)))
 replace HS:=HS.Jz (Ty.slice 2 (Ac .i64)) 26 (fun _=>⟨none,0,uu⟩)
 exact gW (h1 K (lR _) _ _ _ _ _ _ H (HS.pk 6 [4,2,0,1] Z)) Z
theorem Ik.calls {rows columns:Int} {r1 r2:Int} {r3:List Int} (HS:St w0 w (L)) (H:Ik.f rows columns=some (r1,r2,r3)) :
  Calls prog 52 #[I rows,I columns] w (Ik.post w0 L r1 r2 r3):=by
 unfold Ik.f at H
 refine cG func52 Z ?_
 refine sQ (rG (GO.alloc HS Z R8 Z Z fun b1 wd2 HS=>nL (sQ ?_)))
 obtain ⟨c3,H⟩:=iN H
 obtain ⟨c4,H⟩:=iN H
 refine rG (pS 5 Z (GO.make (T:=(Ac .i64)) 0 () HS Ao Z Z Z U26 Lf Z Z Z c3 c4 Z fun b5 wd6 HS=>GO.Je (.agg [I rows,I columns,sV (sb b5) (List.replicate (w64 (rows*columns)).toNat (0:Int)) ((w64 (rows*columns)).toNat)].toArray) Z Z (fun _=>by kernel_rfl) Z (sW 1 HS Z Fx Z fun wd7 HS=>nL ?_)))
 obtain ⟨rfl,rfl,rfl⟩:=Kw H
 exact rT _ func52 Z (Kc.Lh (j:=1) (vs:=[I rows,I columns,sV (sb b5) (List.replicate (w64 (rows*columns)).toNat (0:Int)) ((w64 (rows*columns)).toNat)]) HS Z Z Z Fx) ⟨_,_,Z,(HS.pk 2 [0] Z)⟩
theorem Jg.calls {x r1:Int} (HS:St w0 w (L)) (H:Jg.f x=some r1) :
   Calls prog 55 #[I x] w (Jg.post w0 L r1):=by
 unfold Jg.f at H
 refine cG func55 Z ?_
 refine rN 5 Z ?_
 rcases iS H with ⟨c1,H⟩|⟨c1,H⟩
 ·
  refine nB Z (tF c1) (rN 3 Z ?_)
  obtain rfl:=sI H
  exact rT _ func55 Z Z ⟨Z,HS⟩
 refine yB Z (tT c1) (sQ (rG (mV Z (GO.neg Z Z Z (aS Z (nL ?_))))))
 obtain rfl:=sI H
 exact rT _ func55 Z Z ⟨Z,HS⟩
theorem Bp.calls {c1 d1:Int} {a1:List Int} {row column:Int} {r1:Int} (HS:St w0 w (L)) (r_a:Bv w0 L (Ac .i64) A_a c_a uu a1) (H:Bp.f c1 d1 a1 row column=some r1) :
  Calls prog 54 #[.agg [I c1,I d1,sV A_a a1 c_a].toArray,I row,I column] w (Bp.post w0 L A_a r1):=by
 unfold Bp.f at H
 refine cG func54 Z ?_
 refine sQ (rG (bA HS Z fun b1 wd2 HS=>aS Z (nL (sQ ?_))))
 obtain ⟨c3,H⟩:=iN H
 refine rG (fL b1 2 Km Z (lB 0 HS Z Ip Z (mV Z (fL b1 1 Gg Z (lB 0 HS Z na2 Z (pS 3 Z (iX Z U26 sz2 (rk (rD 1 r_a) HS) c3 (aS Z (nL ?_)))))))))
 obtain rfl:=sI H
 exact rT _ func54 Z Z ⟨Z,(HS.pk 1 [] Z)⟩
theorem Hg.calls {list:List Int} {r1:Int} (HS:St w0 w (L)) (r_a:Bv w0 L (Ac .i64) A_a c_a uu list) (H:Hg.f list=some r1) :
  Calls prog 84 #[sV A_a list c_a] w (Hg.post w0 L r1):=by
 unfold Hg.f at H
 refine cG func84 Z ?_
 refine rN 3 Z (rG (mV Z (lS Z Z U26 Z (aS Z (nL ?_)))))
 obtain rfl:=sI H
 exact rT _ func84 Z Z ⟨Z,HS⟩
theorem I6.calls {x:Int} {r1:Bool} (HS:St w0 w (L)) (H:I6.f x=some r1) :
  Calls prog 161 #[I x] w (I6.post w0 L r1):=by
 unfold I6.f at H
 refine cG func161 Z ?_
 refine rN 3 Z ?_
 obtain ⟨t1,h2,H⟩:=bI H
 refine rG (mV Z (fJ Qg Z (Fu.calls HS  h2) (fun _ wd3 ⟨h4,HS⟩=>⟨_,h4,(pS 2 Z (nL ?_))⟩)))
 obtain rfl:=sI H
 exact rT _ func161 Z Z ⟨Z,HS⟩
theorem Bh.calls {s:List Int} {r1:Int} (HS:St w0 w (L)) (r_a:Bv w0 L (Ac .i64) A_a c_a uu s) (H:Bh.f K s=some r1) :
   Calls prog 122 #[sV A_a s c_a,.func (.func 161) #[] #[]] w (Bh.post w0 L r1):=by
 unfold Bh.f at H
 refine cG func122 Z ?_
 refine rN 4 Z (rG (mV Z (lS Z Z U26 Z (mV Z (nL (rN 2 Z ?_))))))
 refine G.name (fun e1 c1=>?_)
 have d1:∀ a1,a1≤K→∀ (x8:Int) (w:World),Bh.l1 K a1 s x8=some r1→St w0 w (L)→G prog 122 19 [(0,sV A_a s c_a),(1,.func (.func 161) #[] #[]),(7,I (s.length:Int)),(8,I x8)] e1 w (Bh.post w0 L r1):=by
  refine lp (fun _ w H _=>by rw [Bh.l1] at H; cases H) fun b1 g1 f1 x8 w H HS=>?_
  rw [Bh.l1] at H
  subst c1
  refine rN 3 Z ?_
  rcases iS H with ⟨c16,H⟩|⟨c16,H⟩
  ·
   refine nB Z (tF c16) (rN 3 Z ?_)
   obtain rfl:=sI H
   exact rT _ func122 Z Z ⟨Z,HS⟩
  refine yB Z (tT c16) (rN 6 Z ?_)
  obtain ⟨c17,H⟩:=iN H
  obtain ⟨t18,h19,H⟩:=bI H
  refine rG (pS 3 Z (iX Z U26 sz2 (rk r_a HS) c17 (GO.C8 (T:=(Ac .i64)) (n:=x8.toNat) (o:=0) HS r_a Z Z (getD_some (d:=0) (ltN c17)) Z Z na2 Z (GO.clo Z Z func161 nA.2.1 nA.2.2 Z Z (I6.calls HS  h19) (fun _ wd20 ⟨h21,HS⟩=>⟨_,h21,(nL ?_)⟩)))))
  rcases iE H with ⟨c22,H⟩|⟨c22,H⟩
  ·
   refine yB Z c22 (rN 2 Z ?_)
   obtain rfl:=sI H
   exact rT _ func122 Z Z ⟨Z,HS⟩
  refine nB Z (Cv c22) (rN 4 Z (gW (f1 b1 (lR _) _ _ H HS) Z))
 exact gW (d1 K (lR _) _ _ H HS) Z
theorem Dp.calls {s:List Int} {r1:Bool} (HS:St w0 w (L)) (r_a:Bv w0 L (Ac .i64) A_a c_a uu s) (H:Dp.f K s=some r1) :
  Calls prog 81 #[sV A_a s c_a,.func (.func 161) #[] #[]] w (Dp.post w0 L r1):=by
 unfold Dp.f at H
 refine cG func81 Z ?_
 refine rN 3 Z ?_
 obtain ⟨t1,h2,H⟩:=bI H
 refine rG (pS 2 Z (fJ Vb Z (Bh.calls HS r_a h2) (fun _ wd3 ⟨h4,HS⟩=>⟨_,h4,(pS 2 Z (nL ?_))⟩)))
 obtain rfl:=sI H
 exact rT _ func81 Z Z ⟨Z,HS⟩
theorem Ju.calls {c1 d1:Int} {a1:List Int} {r1:Bool} (HS:St w0 w (L)) (r_a:Bv w0 L (Ac .i64) A_a c_a uu a1) (H:Ju.f K c1 d1 a1=some r1) :
   Calls prog 120 #[.agg [I c1,I d1,sV A_a a1 c_a].toArray] w (Ju.post w0 L r1):=by
 unfold Ju.f at H
 refine cG func120 Z ?_
 refine sQ (rG (bA HS Z fun b1 wd2 HS=>aS Z (nL (sQ ?_))))
 obtain ⟨t3,h4,H⟩:=bI H
 rcases iS H with ⟨c7,H⟩|⟨c7,H⟩
 ·
  refine G.Jk mixed (fun w=>St w0 w (Box b1 57 [I c1,I d1,sV A_a a1 c_a]::L)) [1,5,10,13,15,21] [0,1,2,3,4,5,6,7,8,9,12,14,10,13,15,16,11,17,18,19,20,21,22,23,24,25] [] (by kernel_rfl) (by kernel_rfl) HS.drew ?_
  replace HS:=HS.drew
  refine qL Z Z (fun _ _ g=>fL b1 0 Im Z g) Z (GX.ls Z Z Z HS (fun _ HS _ g=>lB 0 HS Z na2 Z g) Z (GX.l2 Z (fJ Qg Z (Fu.calls HS  h4) (fun _ wd5 ⟨h6,HS⟩=>⟨_,h6,(GX.fin HS (qL Z Z (fun _ _ g=>mV Z (kN 6 Z (Cv c7) g)) Z (qL Z Z (fun _ _ g=>oF Z g) Z (GX.ls Z Z Z HS (fun _ HS _ g=>oF Z g) Z (GX.l2 Z (oF Z (GX.fin HS (GX.ps 2 Z (qL Z Z (fun _ _ g=>oF Z g) Z (qL Z Z (fun _ _ g=>oF Z g) Z (qL Z Z (fun _ _ g=>oF Z g) Z ?_)))))))))))⟩))))
  refine GX.ls Z Z Z HS (fun _ HS _ g=>oF Z g) Z (GX.ls Z Z Z HS (fun _ HS _ g=>oF Z g) Z (GX.ls Z Z Z HS (fun _ HS _ g=>oF Z g) Z (qL Z Z (fun _ _ g=>oF Z g) Z (GX.l2 Z (oF Z (GX.fin HS (qL Z Z (fun _ _ g=>oF Z g) Z (GX.ps 2 Z (qL Z Z (fun _ _ g=>oF Z g) Z (GX.ls Z Z Z HS (fun _ HS _ g=>oF Z g) Z (GX.l2 Z (oF Z (GX.fin HS (qL Z Z (fun _ _ g=>oF Z g) Z ?_))))))))))))))
  refine GX.ps 2 Z (GX.nil ?_)
  obtain rfl:=sI H
  exact rT _ func120 Z Z ⟨Z,(HS.pk 1 [] Z)⟩
 obtain ⟨t8,h9,H⟩:=bI H
 rcases iS H with ⟨c12,H⟩|⟨c12,H⟩
 ·
  refine G.Jk mixed (fun w=>St w0 w (Box b1 57 [I c1,I d1,sV A_a a1 c_a]::L)) [1,5,10,13,15,21] [0,1,2,3,4,5,6,7,8,9,12,14,10,13,15,16,11,17,18,19,20,21,22,23,24,25] [] (by kernel_rfl) (by kernel_rfl) HS.drew ?_
  replace HS:=HS.drew
  refine qL Z Z (fun _ _ g=>fL b1 0 Im Z g) Z (GX.ls Z Z Z HS (fun _ HS _ g=>lB 0 HS Z na2 Z g) Z (GX.l2 Z (fJ Qg Z (Fu.calls HS  h4) (fun _ wd5 ⟨h6,HS⟩=>⟨_,h6,(GX.fin HS (qL Z Z (fun _ _ g=>mV Z (kN 6 Z c7 g)) Z (qL Z Z (fun _ _ g=>oN Z (fL b1 1 Gg Z (bK g))) Z (GX.ls Z Z Z HS (fun _ HS _ g=>oN Z (lB 0 HS Z na2 Z (bK g))) Z (GX.l2 Z (oN Z (fJ Qg Z (Fu.calls HS  h9) (fun _ wd10 ⟨h11,HS⟩=>⟨_,h11,(bK (GX.fin HS (GX.ps 1 Z (qL Z Z (fun _ _ g=>mV Z (kN 11 Z (Cv c12) g)) Z ?_))))⟩))))))))⟩))))
  refine qL Z Z (fun _ _ g=>oF Z g) Z (qL Z Z (fun _ _ g=>oF Z g) Z (qL Z Z (fun _ _ g=>oF Z g) Z (GX.ls Z Z Z HS (fun _ HS _ g=>oF Z g) Z (GX.ls Z Z Z HS (fun _ HS _ g=>oF Z g) Z (GX.ls Z Z Z HS (fun _ HS _ g=>oF Z g) Z (qL Z Z (fun _ _ g=>oF Z g) Z (GX.l2 Z (oF Z (GX.fin HS (qL Z Z (fun _ _ g=>oF Z g) Z (GX.ps 2 Z (qL Z Z (fun _ _ g=>oF Z g) Z (GX.ls Z Z Z HS (fun _ HS _ g=>oF Z g) Z (GX.l2 Z ?_))))))))))))))
  refine oF Z (GX.fin HS (qL Z Z (fun _ _ g=>oF Z g) Z (GX.ps 2 Z (GX.nil ?_))))
  obtain rfl:=sI H
  exact rT _ func120 Z Z ⟨Z,(HS.pk 1 [] Z)⟩
 obtain ⟨t13,h14,H⟩:=bI H
 rcases iS H with ⟨c17,H⟩|⟨c17,H⟩
 ·
  refine G.Jk mixed (fun w=>St w0 w (Box b1 57 [I c1,I d1,sV A_a a1 c_a]::L)) [1,5,10,13,15,21] [0,1,2,3,4,5,6,7,8,9,12,14,10,13,15,16,11,17,18,19,20,21,22,23,24,25] [] (by kernel_rfl) (by kernel_rfl) HS.drew ?_
  replace HS:=HS.drew
  refine qL Z Z (fun _ _ g=>fL b1 0 Im Z g) Z (GX.ls Z Z Z HS (fun _ HS _ g=>lB 0 HS Z na2 Z g) Z (GX.l2 Z (fJ Qg Z (Fu.calls HS  h4) (fun _ wd5 ⟨h6,HS⟩=>⟨_,h6,(GX.fin HS (qL Z Z (fun _ _ g=>mV Z (kN 6 Z c7 g)) Z (qL Z Z (fun _ _ g=>oN Z (fL b1 1 Gg Z (bK g))) Z (GX.ls Z Z Z HS (fun _ HS _ g=>oN Z (lB 0 HS Z na2 Z (bK g))) Z (GX.l2 Z (oN Z (fJ Qg Z (Fu.calls HS  h9) (fun _ wd10 ⟨h11,HS⟩=>⟨_,h11,(bK (GX.fin HS (GX.ps 1 Z (qL Z Z (fun _ _ g=>mV Z (kN 11 Z c12 g)) Z ?_))))⟩))))))))⟩))))
  refine qL Z Z (fun _ _ g=>oN Z (fL b1 2 Km Z (bK g))) Z (qL Z Z (fun _ _ g=>oN Z (fL b1 0 Im Z (bK g))) Z (qL Z Z (fun _ _ g=>oN Z (fL b1 1 Gg Z (bK g))) Z (GX.ls Z Z Z HS (fun _ HS _ g=>oN Z (lB 0 HS Z Ip Z (bK g))) Z (GX.ls Z Z Z HS (fun _ HS _ g=>oN Z (lB 0 HS Z na2 Z (bK g))) Z (GX.ls Z Z Z HS (fun _ HS _ g=>oN Z (lB 0 HS Z na2 Z (bK g))) Z (qL Z Z (fun _ _ g=>oN Z (GO.mul Z Z Z Z (bK g))) Z (GX.l2 Z (oN Z (fJ jL Z (Hg.calls HS (rD 1 r_a) h14) (fun _ wd15 ⟨h16,HS⟩=>⟨_,h16,(bK (GX.fin HS (qL Z Z (fun _ _ g=>oN Z (GO.eql Z Z Z Z (bK g))) Z (GX.ps 1 Z (qL Z Z (fun _ _ g=>mV Z (kN 22 Z (tF c17) g)) Z ?_)))))⟩))))))))))
  refine qL Z Z (fun _ _ g=>oF Z g) Z (GX.ls Z Z Z HS (fun _ HS _ g=>oF Z g) Z (GX.l2 Z (oF Z (GX.fin HS (qL Z Z (fun _ _ g=>oF Z g) Z (GX.ps 2 Z (GX.nil ?_)))))))
  obtain rfl:=sI H
  exact rT _ func120 Z Z ⟨Z,(HS.pk 1 [] Z)⟩
 obtain ⟨t18,h19,H⟩:=bI H
 refine G.Jk mixed (fun w=>St w0 w (Box b1 57 [I c1,I d1,sV A_a a1 c_a]::L)) [1,5,10,13,15,21] [0,1,2,3,4,5,6,7,8,9,12,14,10,13,15,16,11,17,18,19,20,21,22,23,24,25] [] (by kernel_rfl) (by kernel_rfl) HS.drew ?_
 replace HS:=HS.drew
 refine qL Z Z (fun _ _ g=>fL b1 0 Im Z g) Z (GX.ls Z Z Z HS (fun _ HS _ g=>lB 0 HS Z na2 Z g) Z (GX.l2 Z (fJ Qg Z (Fu.calls HS  h4) (fun _ wd5 ⟨h6,HS⟩=>⟨_,h6,(GX.fin HS (qL Z Z (fun _ _ g=>mV Z (kN 6 Z c7 g)) Z (qL Z Z (fun _ _ g=>oN Z (fL b1 1 Gg Z (bK g))) Z (GX.ls Z Z Z HS (fun _ HS _ g=>oN Z (lB 0 HS Z na2 Z (bK g))) Z (GX.l2 Z (oN Z (fJ Qg Z (Fu.calls HS  h9) (fun _ wd10 ⟨h11,HS⟩=>⟨_,h11,(bK (GX.fin HS (GX.ps 1 Z (qL Z Z (fun _ _ g=>mV Z (kN 11 Z c12 g)) Z ?_))))⟩))))))))⟩))))
 refine qL Z Z (fun _ _ g=>oN Z (fL b1 2 Km Z (bK g))) Z (qL Z Z (fun _ _ g=>oN Z (fL b1 0 Im Z (bK g))) Z (qL Z Z (fun _ _ g=>oN Z (fL b1 1 Gg Z (bK g))) Z (GX.ls Z Z Z HS (fun _ HS _ g=>oN Z (lB 0 HS Z Ip Z (bK g))) Z (GX.ls Z Z Z HS (fun _ HS _ g=>oN Z (lB 0 HS Z na2 Z (bK g))) Z (GX.ls Z Z Z HS (fun _ HS _ g=>oN Z (lB 0 HS Z na2 Z (bK g))) Z (qL Z Z (fun _ _ g=>oN Z (GO.mul Z Z Z Z (bK g))) Z (GX.l2 Z (oN Z (fJ jL Z (Hg.calls HS (rD 1 r_a) h14) (fun _ wd15 ⟨h16,HS⟩=>⟨_,h16,(bK (GX.fin HS (qL Z Z (fun _ _ g=>oN Z (GO.eql Z Z Z Z (bK g))) Z (GX.ps 1 Z (qL Z Z (fun _ _ g=>mV Z (kN 22 Z (tT c17) g)) Z ?_)))))⟩))))))))))
 refine qL Z Z (fun _ _ g=>oN Z (fL b1 2 Km Z (bK g))) Z (GX.ls Z Z Z HS (fun _ HS _ g=>oN Z (lB 0 HS Z Ip Z (bK g))) Z (GX.l2 Z (oN Z (fJ kL Z (Dp.calls HS (rD 1 r_a) h19) (fun _ wd20 ⟨h21,HS⟩=>⟨_,h21,(bK (GX.fin HS (qL Z Z (fun _ _ g=>oN Z (GO.not Z Z Z (bK g))) Z (GX.ps 2 Z (GX.nil ?_)))))⟩)))))
 obtain rfl:=sI H
 exact rT _ func120 Z Z ⟨Z,(HS.pk 1 [] Z)⟩
theorem Eb.calls {n_ r1 r2:Int} {r3:List Int} (HS:St w0 w (L)) (H:Eb.f K n_=some (r1,r2,r3)) :
   Calls prog 188 #[I n_] w (Eb.post w0 L r1 r2 r3):=by
 unfold Eb.f at H
 refine cG func188 Z ?_
 refine sQ (rG (GO.alloc HS Z R8 Z Z fun b1 wd2 HS=>nL (sQ ?_)))
 obtain ⟨t3,t4,t5,h6,H⟩:=Gb H
 refine rG (pS 2 Z (fJ qF Z (Ik.calls HS  h6) (fun _ wd9 ⟨A7,c8,h10,HS⟩=>⟨_,h10,(GO.alloc HS Z R8 Z Z fun b11 wd12 HS=>sW 0 HS Z Fx Z fun wd13 HS=>nL (rN 5 Z ?_))⟩)))
 refine G.name (fun g1 e1=>?_)
 have f1:∀ c1,c1≤K→∀ (a1:List Int) (x23:Int) (w:World),Eb.l1 K c1 n_ t3 t4 a1 x23=some (r1,r2,r3)→St w0 w (Box b1 57 [I 0,I 0,.slice none 0 0]::Box b11 57 [I t3,I t4,sV A7 a1 c8]::Own (Ac .i64) 2 A7 c8 uu a1::L)→G prog 188 19 [(2,pT b1),(3,pT b11),(8,I n_),(9,I x23)] g1 w (Eb.post w0 L r1 r2 r3):=by
  refine lp (fun _ _ w H _=>by rw [Eb.l1] at H; cases H) fun d1 i1 h1 a1 x23 w H HS=>?_
  rw [Eb.l1] at H
  subst e1
  refine rN 3 Z ?_
  rcases iS H with ⟨c32,H⟩|⟨c32,H⟩
  ·
   refine nB Z (tF c32) (rN 2 Z (rG (lW 1 HS Z Fx (sW 0 HS Z Fx Z fun wd39 HS=>nL ?_))))
   obtain ⟨rfl,rfl,rfl⟩:=Kw H
   exact rT _ func188 Z (Kc.Lh (j:=0) (vs:=[I t3,I t4,sV A7 a1 c8]) HS Z Z Z Fx) ⟨_,_,Z,(HS.pk 3 [2] Z)⟩
  refine yB Z (tT c32) (rN 5 Z ?_)
  obtain ⟨t33,h34,H⟩:=bI H
  obtain ⟨c35,H⟩:=iN H
  refine rG (lW 1 HS Z Fx (pS 2 Z (fJ Lg Z (Bp.calls HS (ro 2 Z) h34) (fun _ wd36 ⟨h37,HS⟩=>⟨_,h37,(GO.Ew Z Z Z (GO.Hl (T:=(Ac .i64)) (j:=2) (n:=t33.toNat) (o:=0) (vs:=[I 1]) 1 HS Z Ao Z Z Z Z (htN na2 Z) Z (getD_some (d:=0) (ltN c35)) Z Z fun wd38 HS=>nL ?_))⟩))))
  replace HS:=HS.G6 (j:=1) (cs':=[I t3,I t4,sV A7 (a1.set t33.toNat 1) c8]) Z (by simp only [sV,List.length_set]<;>rfl)
  refine rN 3 Z (gW (h1 d1 (lR _) _ _ _ H HS) Z)
 exact gW (f1 K (lR _) _ _ _ H (HS.pk 3 [2,0,1] Z)) Z
theorem Gn.calls {s:List Int} {r1:List Int} (HS:St w0 w (L)) (r_a:Bv w0 L (Ac .i64) A_a c_a uu s) (H:Gn.f s=some r1) :
   Calls prog 205 #[sV A_a s c_a] w (Gn.post w0 L r1):=by
 unfold Gn.f at H
 refine cG func205 Z ?_
 refine rN 4 Z (rG (mV Z (GO.zS Z Z Z U26 Z (nL ?_))))
 rcases Decidable.em (A_a.isNone=true) with c1 | c1
 ·
  obtain rfl:=Zq r_a HS c1
  refine yB Z c1 (rN 2 Z ?_)
  replace HS:=HS.Jz (Ac .i64) 2 uu
  replace H:some ([]:List Int)=some r1:=H
  obtain rfl:=sI H
  exact rT _ func205 Z Z ⟨_,_,Z,HS⟩
 refine nB Z (Cv c1) (rN 2 Z ?_)
 obtain ⟨c7,H⟩:=iN H
 refine rG (GO.D8 (el:=2) ([]) HS Z Z (fun _=>by kernel_rfl) Z fun b2 wd3 HS=>mV Z ?_)
 replace HS:=HS.Ib (T:=(Ac .i64)) (j:=0) Z Ao uu ([]:List Int) Z (Ky Z)
 refine GO.Ke (t:=5) (m:=([]:List Int).length) (c':=([]:List Int).length) Z Z Z (GO.kH (T:=(Ac .i64)) (j:=0) HS Z (rD 1 r_a) Ao Z Z Z U26 Lf Z Z Z c7 Z (fun _=>Z) fun A5 c6 wd4 HS=>aS Z (nL ?_))
 obtain rfl:=sI H
 exact rT _ func205 Z Z ⟨_,_,Z,HS⟩
theorem Jc.calls {a1 c1:Int} {d1:List Int} {r1 r2:Int} {r3:List Int} (HS:St w0 w (L)) (r_a:Bv w0 L (Ac .i64) A_a c_a uu d1) (H:Jc.f a1 c1 d1=some (r1,r2,r3)) :
  Calls prog 189 #[.agg [I a1,I c1,sV A_a d1 c_a].toArray] w (Jc.post w0 L r1 r2 r3):=by
 unfold Jc.f at H
 refine cG func189 Z ?_
 refine sQ (rG (bA HS Z fun b1 wd2 HS=>GO.alloc HS Z R8 Z Z fun b3 wd4 HS=>nL (sQ ?_)))
 obtain ⟨t5,h6,H⟩:=bI H
 refine rG (fL b1 2 Km Z (lB 1 HS Z Ip Z (fJ wC Z (Gn.calls HS (rD 2 r_a) h6) (fun _ wd9 ⟨A7,c8,h10,HS⟩=>⟨_,h10,(fL b1 2 Km Z (GO.K7 (j:=2) (vs:=[sV A7 t5 c8]) ([I a1,I c1,sV A7 t5 c8]) HS Z Z Z Z Z (htN Ip Z) Z Z Z fun wd11 HS=>nL (sQ (rG (lW 2 HS Z Fx (sW 1 HS Z Fx Z fun wd12 HS=>nL ?_))))))⟩))))
 obtain ⟨rfl,rfl,rfl⟩:=Kw H
 exact rT _ func189 Z (Kc.Lh (j:=1) (vs:=[I a1,I c1,sV A7 t5 c8]) HS Z Z Z Fx) ⟨_,_,Z,(HS.pk 3 [0] Z)⟩
theorem Ja.calls {c1 d1:Int} {a1:List Int} {r1 r2:Int} {r3:List Int} {r4 r5:Int} {r6:List Int} {r7 r8:Int} {r9:List Int} {r10 r11:Int} {r12:List Int} {r13 r14:Int} {r15:List Int} {r16:Bool} (HS:St w0 w (L)) (r_a:Bv w0 L (Ac .i64) A_a c_a uu a1) (H:Ja.f K c1 d1 a1=some (r1,r2,r3,r4,r5,r6,r7,r8,r9,r10,r11,r12,r13,r14,r15,r16)) :
  Calls prog 163 #[.agg [I c1,I d1,sV A_a a1 c_a].toArray] w (Ja.post w0 L r1 r2 r3 r4 r5 r6 r7 r8 r9 r10 r11 r12 r13 r14 r15 r16):=by
 unfold Ja.f at H
 refine cG func163 Z ?_
 refine sQ (rG (bA HS Z fun b1 wd2 HS=>aS Z (nL (sQ ?_))))
 obtain ⟨t3,t4,t5,h6,H⟩:=Gb H
 obtain ⟨t11,t12,t13,h14,H⟩:=Gb H
 obtain ⟨t19,t20,t21,h22,H⟩:=Gb H
 obtain ⟨t27,t28,t29,h30,H⟩:=Gb H
 obtain ⟨t35,t36,t37,h38,H⟩:=Gb H
 refine G.Jk mixed (fun w=>St w0 w (Box b1 57 [I c1,I d1,sV A_a a1 c_a]::L)) [1,4,6,9,12] [0,3,8,11,1,4,6,9,12,2,5,7,10,13,14,15,16,17] [] (by kernel_rfl) (by kernel_rfl) HS.drew ?_
 replace HS:=HS.drew
 refine qL Z Z (fun _ _ g=>fL b1 0 Im Z g) Z (qL Z Z (fun _ _ g=>fL b1 0 Im Z g) Z (qL Z Z (fun _ _ g=>fL b1 1 Gg Z g) Z (qL Z Z (fun _ _ g=>fL b1 1 Gg Z g) Z (GX.ls Z Z Z HS (fun _ HS _ g=>lB 0 HS Z na2 Z g) Z (GX.ls Z Z Z HS (fun _ HS _ g=>lB 0 HS Z na2 Z g) Z (GX.ls Z Z Z HS (fun _ HS _ g=>lW 0 HS Z Fx g) Z (GX.ls Z Z Z HS (fun _ HS _ g=>lB 0 HS Z na2 Z g) Z (GX.ls Z Z Z HS (fun _ HS _ g=>lB 0 HS Z na2 Z g) Z (GX.l2 Z (fJ Xx Z (Eb.calls HS  h6) (fun _ wd9 ⟨A7,c8,h10,HS⟩=>⟨_,h10,(GX.fin (HS.pk 2 [1] Z) (GX.l2 Z (fJ Xx Z (Eb.calls HS  h14) (fun _ wd17 ⟨A15,c16,h18,HS⟩=>⟨_,h18,(GX.fin (HS.pk 3 [2] Z) ?_)⟩))))⟩)))))))))))
 refine GX.l2 Z (fJ tH Z (Jc.calls HS (rD 3 r_a) h22) (fun _ wd25 ⟨A23,c24,h26,HS⟩=>⟨_,h26,(GX.fin (HS.pk 4 [3] Z) (GX.l2 Z (fJ Xx Z (Eb.calls HS  h30) (fun _ wd33 ⟨A31,c32,h34,HS⟩=>⟨_,h34,(GX.fin (HS.pk 5 [4] Z) (GX.l2 Z (fJ Xx Z (Eb.calls HS  h38) (fun _ wd41 ⟨A39,c40,h42,HS⟩=>⟨_,h42,(GX.fin (HS.pk 6 [5] Z) (qL Z Z (fun _ _ g=>GO.Je (.agg [I t3,I t4,sV A7 t5 c8,I t11,I t12,sV A15 t13 c16,I t19,I t20,sV A23 t21 c24,I t27,I t28,sV A31 t29 c32,I t35,I t36,sV A39 t37 c40].toArray) Z Z (fun _=>by kernel_rfl) Z g) Z (qL Z Z (fun _ _ g=>GO.Je (.agg [I t3,I t4,sV A7 t5 c8,I t11,I t12,sV A15 t13 c16,I t19,I t20,sV A23 t21 c24,I t27,I t28,sV A31 t29 c32,I t35,I t36,sV A39 t37 c40,.bool false].toArray) Z Z (fun _=>by kernel_rfl) Z g) Z (GX.l2 Z (bA HS Z fun b43 wd44 HS=>GX.fin (HS.pk 7 [6] Z) (GX.ps 1 Z ?_))))))⟩))))⟩))))⟩))
 refine GX.nil ?_
 obtain ⟨rfl,rfl,rfl,rfl,rfl,rfl,rfl,rfl,rfl,rfl,rfl,rfl,rfl,rfl,rfl,rfl⟩:=Pz H
 exact rT _ func163 Z Z ⟨_,_,_,_,_,_,_,_,_,_,_,Z,(HS.pk 7 [0,5,4,3,2,1] Z)⟩
theorem Bi.calls {m1 k1:Int} {f1:List Int} {i1 o1:Int} {h1:List Int} {c1 d1:Int} {a1:List Int} {n1 s1:Int} {g1:List Int} {t1 q1:Int} {e1:List Int} {p1:Bool} {k_:Int} {b_r:Nat} {r1 r2:Int} {r3:Bool} (HS:St w0 w (Box b_r 168 [I m1,I k1,sV A_a f1 c_a,I i1,I o1,sV A_b h1 c_b,I c1,I d1,sV A_c a1 c_c,I n1,I s1,sV A_d g1 c_d,I t1,I q1,sV A_e e1 c_e,.bool p1]::L)) (r_a:Bv w0 L (Ac .i64) A_a c_a uu f1) (r_b:Bv w0 L (Ac .i64) A_b c_b uu h1) (r_c:Bv w0 L (Ac .i64) A_c c_c uu a1) (r_d:Bv w0 L (Ac .i64) A_d c_d uu g1) (r_e:Bv w0 L (Ac .i64) A_e c_e uu e1) (H:Bi.f K m1 k1 f1 i1 o1 h1 c1 d1 a1 n1 s1 g1 t1 q1 e1 p1 k_=some (r1,r2,r3)) :
   Calls prog 206 #[pT b_r,I k_] w (Bi.post w0 L m1 k1 f1 i1 o1 h1 c1 d1 a1 n1 s1 g1 t1 q1 e1 p1 b_r A_a c_a A_b c_b A_c c_c A_d c_d A_e c_e r1 r2 r3):=by
 unfold Bi.f at H
 refine cG func206 Z ?_
 refine rN 3 Z (rG (mV Z (GO.Ew Z Z Z (fL b_r 0 I9 Z (fL b_r 6 Ld Z (GO.Gc (j:=0) ([I c1,I d1,sV A_c a1 c_c]) HS Z Z Z Z Fx Z (GO.alloc HS Z R8 Z Z fun b1 wd2 HS=>sW 0 HS Z Fx Z fun wd3 HS=>nL (rN 5 Z ?_))))))))
 refine G.name (fun m2 o2=>?_)
 have p2:∀ f2,f2≤K→∀ (c2 e2:Int) (y1:Bool) (v1:Int) (w:World),Bi.l1 K f2 c1 d1 a1 k_ c2 e2 y1 v1=some (r1,r2,r3)→St w0 w (Box b_r 168 [I m1,I k1,sV A_a f1 c_a,I i1,I o1,sV A_b h1 c_b,I c1,I d1,sV A_c a1 c_c,I n1,I s1,sV A_d g1 c_d,I t1,I q1,sV A_e e1 c_e,.bool p1]::Box b1 57 [I c1,I d1,sV A_c a1 c_c]::L)→G prog 206 59 [(1,I k_),(4,I c2),(5,I e2),(6,.bool y1),(7,pT b1),(8,I v1)] m2 w (Bi.post w0 L m1 k1 f1 i1 o1 h1 c1 d1 a1 n1 s1 g1 t1 q1 e1 p1 b_r A_a c_a A_b c_b A_c c_c A_d c_d A_e c_e r1 r2 r3):=by
  refine lp (fun _ _ _ _ w H _=>by rw [Bi.l1] at H; cases H) fun g2 s2 q2 c2 e2 y1 v1 w H HS=>?_
  rw [Bi.l1] at H
  subst o2
  refine rN 2 Z (rG (mV Z (fL b1 0 Im Z (lB 1 HS Z na2 Z (GO.lss Z Z Z Z (nL ?_))))))
  rcases iS H with ⟨c195,H⟩|⟨c195,H⟩
  ·
   refine nB Z (tF c195) (rN 3 Z ?_)
   obtain ⟨rfl,rfl,rfl⟩:=Kw H
   exact G.uS _ _ _ func206 Z Z Z Z ⟨Z,(HS.pk 2 [0] Z)⟩
  refine yB Z (tT c195) (rN 7 Z ?_)
  refine G.name (fun n2 k2=>?_)
  have i2:∀ h2,h2≤g2→∀ (d2 b2:Int) (z1:Bool) (a2:Int) (w:World),Bi.l4 K h2 c1 d1 a1 k_ v1 d2 b2 z1 a2=some (r1,r2,r3)→St w0 w (Box b_r 168 [I m1,I k1,sV A_a f1 c_a,I i1,I o1,sV A_b h1 c_b,I c1,I d1,sV A_c a1 c_c,I n1,I s1,sV A_d g1 c_d,I t1,I q1,sV A_e e1 c_e,.bool p1]::Box b1 57 [I c1,I d1,sV A_c a1 c_c]::L)→G prog 206 59 [(1,I k_),(4,I d2),(5,I b2),(6,.bool z1),(7,pT b1),(8,I v1),(9,I a2)] n2 w (Bi.post w0 L m1 k1 f1 i1 o1 h1 c1 d1 a1 n1 s1 g1 t1 q1 e1 p1 b_r A_a c_a A_b c_b A_c c_c A_d c_d A_e c_e r1 r2 r3):=by
   refine lp (fun _ _ _ _ w H _=>by rw [Bi.l4] at H; cases H) fun u1 j2 x1 d2 b2 z1 a2 w H HS=>?_
   rw [Bi.l4] at H
   subst k2
   refine rN 2 Z (rG (mV Z (fL b1 1 Gg Z (lB 1 HS Z na2 Z (GO.lss Z Z Z Z (nL ?_))))))
   rcases iS H with ⟨c266,H⟩|⟨c266,H⟩
   ·
    refine nB Z (tF c266) (rN 4 Z (gW (q2 u1 (Nat.le_of_succ_le j2) _ _ _ _ _ H HS) Z))
   refine yB Z (tT c266) (rN 4 Z ?_)
   obtain ⟨t267,h268,H⟩:=bI H
   obtain ⟨c269,H⟩:=iN H
   obtain ⟨t272,h273,H⟩:=bI H
   refine rG (lW 1 HS Z Fx (pS 2 Z (fJ Lg Z (Bp.calls HS (rD 2 r_c) h268) (fun _ wd270 ⟨h271,HS⟩=>⟨_,h271,(GO.Ew Z Z Z (GO.C8 (T:=(Ac .i64)) (n:=t267.toNat) (o:=0) HS (rD 2 r_c) Z Z (getD_some (d:=0) (ltN c269)) Z Z na2 Z (fJ Wt Z (Jg.calls HS  h273) (fun _ wd274 ⟨h275,HS⟩=>⟨_,h275,(aS Z (nL (sQ ?_)))⟩))))⟩))))
   rcases iE H with ⟨c287,H⟩|⟨c287,H⟩
   ·
    refine rG (pS 3 Z (kN 39 Z (nT c287) (oF Z (oF Z (oF Z (GO.Mv Z Z Z Z Z Z (GO.Mv Z Z Z Z Z Z (GO.Mv Z Z Z Z Z Z (GO.Mv Z Z Z Z Z Z (GO.Mv Z Z Z Z Z Z (GO.Mv Z Z Z Z Z Z (GO.Mv Z Z Z Z Z Z (GO.Mv Z Z Z Z Z Z (GO.Mv Z Z Z Z Z Z ?_))))))))))))))
    refine oF Z (GO.Iw Z Z Z Z Z (nL (rN 5 Z (gW (x1 u1 (lR _) _ _ _ _ _ H HS) Z))))
   rcases iS H with ⟨c288,H⟩|⟨c288,H⟩
   ·
    refine rG (pS 3 Z (kN 39 Z (nF c287) (oN Z (mV Z (bK (oN Z (GO.not Z Z Z (bK (oN Z (mV Z (bK (kN 42 Z (congrArg Bool.not (Cv c288)) (oF Z (oF Z ?_))))))))))))))
    refine oF Z (oF Z (oF Z (oF Z (oF Z (oF Z (oF Z (oN Z (GO.Gq Z Z Z Z Z (bK (GO.Gq Z Z Z Z Z (nL (rN 5 Z (gW (x1 u1 (lR _) _ _ _ _ _ H HS) Z)))))))))))))
   obtain ⟨t289,h290,H⟩:=bI H
   obtain ⟨c291,H⟩:=iN H
   obtain ⟨t294,h295,H⟩:=bI H
   refine rG (pS 3 Z (kN 39 Z (nF c287) (oN Z (mV Z (bK (oN Z (GO.not Z Z Z (bK (oN Z (mV Z (bK (kN 42 Z (congrArg Bool.not c288) (oN Z (mV Z ?_))))))))))))))
   refine bK (oN Z (lW 1 HS Z Fx (bK (oN Z (mV Z (bK (oN Z (mV Z (bK (oN Z (fJ Lg Z (Bp.calls HS (rD 2 r_c) h290) (fun _ wd292 ⟨h293,HS⟩=>⟨_,h293,(bK (oN Z (GO.Ew Z Z Z ?_)))⟩))))))))))))
   refine bK (oN Z (GO.C8 (T:=(Ac .i64)) (n:=t289.toNat) (o:=0) HS (rD 2 r_c) Z Z (getD_some (d:=0) (ltN c291)) Z Z na2 Z (bK (oN Z (fJ Wt Z (Jg.calls HS  h295) (fun _ wd296 ⟨h297,HS⟩=>⟨_,h297,(bK (oN Z (GO.lss Z Z Z Z (bK (oN Z (GO.Iw Z Z Z Z Z (bK (GO.Gq Z Z Z Z Z (nL ?_)))))))))⟩))))))
   rcases iS H with ⟨c298,H⟩|⟨c298,H⟩
   ·
    refine nB Z (tF c298) (rN 4 Z (gW (x1 u1 (lR _) _ _ _ _ _ H HS) Z))
   refine yB Z (tT c298) (rN 4 Z (gW (x1 u1 (lR _) _ _ _ _ _ H HS) Z))
  exact gW (i2 g2 (lR _) _ _ _ _ _ H HS) Z
 exact gW (p2 K (lR _) _ _ _ _ _ H (HS.pk 2 [1,0] Z)) Z
theorem Ed.calls {c1 a1:Int} {d1:List Int} {i k_:Int} {r1:List Int} (HS:St w0 w (Own (Ac .i64) 2 A_a c_a uu d1::L)) (H:Ed.f K c1 a1 d1 i k_=some r1) :
   Calls prog 207 #[.agg [I c1,I a1,sV A_a d1 c_a].toArray,I i,I k_] w (Ed.post w0 L A_a c_a r1):=by
 unfold Ed.f at H
 refine cG func207 Z ?_
 refine sQ (rG (bA HS Z fun b1 wd2 HS=>nL (sQ (rG (fL b1 1 Gg Z (lB 0 HS Z na2 Z (mV Z (nL (rN 2 Z ?_)))))))))
 refine G.name (fun i1 g1=>?_)
 have h1:∀ e1,e1≤K→∀ (x17:List Int) (x18:Int) (w:World),Ed.l1 K e1 c1 a1 i k_ x17 x18=some r1→St w0 w (Own (Ac .i64) 2 A_a c_a uu x17::Box b1 57 [I c1,I a1,sV A_a x17 c_a]::L)→G prog 207 33 [(1,I i),(2,I k_),(3,pT b1),(10,I a1),(11,I x18)] i1 w (Ed.post w0 L A_a c_a r1):=by
  refine lp (fun _ _ w H _=>by rw [Ed.l1] at H; cases H) fun f1 m1 k1 x17 x18 w H HS=>?_
  rw [Ed.l1] at H
  subst g1
  refine rN 3 Z ?_
  rcases iS H with ⟨c33,H⟩|⟨c33,H⟩
  ·
   refine nB Z (tF c33) (G.exit Z ?_)
   obtain rfl:=sI H
   exact G.K6 func207 Z ⟨Z,(HS.pk 2 [0] Z)⟩
  refine yB Z (tT c33) (rN 6 Z ?_)
  obtain ⟨t34,h35,H⟩:=bI H
  obtain ⟨c36,H⟩:=iN H
  obtain ⟨t39,h40,H⟩:=bI H
  obtain ⟨c41,H⟩:=iN H
  refine G.Jk mixed (fun w=>St w0 w (Box b1 57 [I c1,I a1,sV A_a x17 c_a]::L)) [0,4] [1,2,5,6,0,4,3,7,8,9] [] (by kernel_rfl) (by kernel_rfl) (HS.drew.pk 2 [1] Z) ?_
  replace HS:=HS.drew
  refine GX.ps 4 Z (GX.ls Z Z Z (HS.pk 2 [1] Z) (fun _ HS _ g=>lW 0 HS Z Fx g) Z (GX.ls Z Z Z (HS.pk 2 [1] Z) (fun _ HS _ g=>lW 0 HS Z Fx g) Z (GX.l2 Z (fJ Lg Z (Bp.calls HS (ro 0 Z) h35) (fun _ wd37 ⟨h38,HS⟩=>⟨_,h38,(GX.fin (HS.pk 2 [1] Z) (GX.l2 Z (fJ Lg Z (Bp.calls HS (ro 0 Z) h40) (fun _ wd42 ⟨h43,HS⟩=>⟨_,h43,(GX.fin (HS.pk 2 [1] Z) (GX.ps 2 Z (GX.nil ?_)))⟩))))⟩)))))
  obtain ⟨c46,H⟩:=iN H
  refine G.lex mixed [0,1,2,3,5,6,4,7,8,9,10,11] (by kernel_rfl) ?_
  replace HS:=HS.drew
  refine GX.ps 3 Z (qL Z Z (fun _ _ g=>GO.Ew Z Z Z g) Z (GX.ps 1 Z (qL Z Z (fun _ _ g=>GO.Ew Z Z Z g) Z (GX.l1 Z Z Z (fun _ g=>GO.C8 (T:=(Ac .i64)) (n:=t39.toNat) (o:=0) HS (ro 0 Z) Z Z (getD_some (d:=0) (ltN c41)) Z Z na2 Z g) Z (GX.l1 Z Z Z (fun _ g=>GO.C8 (T:=(Ac .i64)) (n:=t34.toNat) (o:=0) HS (ro 0 Z) Z Z (getD_some (d:=0) (ltN c36)) Z Z na2 Z g) Z (qL Z Z (fun _ _ g=>GO.Ew Z Z Z g) Z (GX.l2 Z (GO.Hl (T:=(Ac .i64)) (j:=0) (n:=t34.toNat) (o:=0) (vs:=[I (x17.getD t39.toNat 0)]) (x17.getD t39.toNat 0) HS Z Ao Z Z Z Z (htN na2 Z) Z (getD_some (d:=0) (ltN c36)) Z Z fun wd44 HS=>GX.fin tv (qL Z Z (fun _ _ g=>GO.Ew Z Z Z g) Z (GX.l2 Z (GO.Hl (T:=(Ac .i64)) (j:=0) (n:=t39.toNat) (o:=0) (vs:=[I (x17.getD t34.toNat 0)]) (x17.getD t34.toNat 0) HS Z Ao Z Z Z Z (htN na2 Z) Z (getD_some (d:=0) (ltN c46)) Z Z fun wd45 HS=>GX.fin tv (GX.nil ?_))))))))))))
  replace HS:=HS.G6 (j:=1) (cs':=[I c1,I a1,sV A_a ((x17.set t34.toNat (x17.getD t39.toNat 0)).set t39.toNat (x17.getD t34.toNat 0)) c_a]) Z (by simp only [sV,List.length_set]<;>rfl)
  refine rN 3 Z (gW (k1 f1 (lR _) _ _ _ H HS) Z)
 exact gW (h1 K (lR _) _ _ _ H (HS.pk 2 [1,0] Z)) Z
theorem Du.calls {a1 c1:Int} {d1:List Int} {j_ k_:Int} {r1:List Int} (HS:St w0 w (Own (Ac .i64) 2 A_a c_a uu d1::L)) (H:Du.f K a1 c1 d1 j_ k_=some r1) :
   Calls prog 208 #[.agg [I a1,I c1,sV A_a d1 c_a].toArray,I j_,I k_] w (Du.post w0 L A_a c_a r1):=by
 unfold Du.f at H
 refine cG func208 Z ?_
 refine sQ (rG (bA HS Z fun b1 wd2 HS=>nL (sQ (rG (fL b1 0 Im Z (lB 0 HS Z na2 Z (mV Z (nL (rN 2 Z ?_)))))))))
 refine G.name (fun i1 g1=>?_)
 have h1:∀ e1,e1≤K→∀ (x17:List Int) (x18:Int) (w:World),Du.l1 K e1 a1 c1 j_ k_ x17 x18=some r1→St w0 w (Own (Ac .i64) 2 A_a c_a uu x17::Box b1 57 [I a1,I c1,sV A_a x17 c_a]::L)→G prog 208 33 [(1,I j_),(2,I k_),(3,pT b1),(10,I a1),(11,I x18)] i1 w (Du.post w0 L A_a c_a r1):=by
  refine lp (fun _ _ w H _=>by rw [Du.l1] at H; cases H) fun f1 m1 k1 x17 x18 w H HS=>?_
  rw [Du.l1] at H
  subst g1
  refine rN 3 Z ?_
  rcases iS H with ⟨c33,H⟩|⟨c33,H⟩
  ·
   refine nB Z (tF c33) (G.exit Z ?_)
   obtain rfl:=sI H
   exact G.K6 func208 Z ⟨Z,(HS.pk 2 [0] Z)⟩
  refine yB Z (tT c33) (rN 6 Z ?_)
  obtain ⟨t34,h35,H⟩:=bI H
  obtain ⟨c36,H⟩:=iN H
  obtain ⟨t39,h40,H⟩:=bI H
  obtain ⟨c41,H⟩:=iN H
  refine G.Jk mixed (fun w=>St w0 w (Box b1 57 [I a1,I c1,sV A_a x17 c_a]::L)) [0,4] [1,2,5,6,0,4,3,7,8,9] [] (by kernel_rfl) (by kernel_rfl) (HS.drew.pk 2 [1] Z) ?_
  replace HS:=HS.drew
  refine GX.ps 4 Z (GX.ls Z Z Z (HS.pk 2 [1] Z) (fun _ HS _ g=>lW 0 HS Z Fx g) Z (GX.ls Z Z Z (HS.pk 2 [1] Z) (fun _ HS _ g=>lW 0 HS Z Fx g) Z (GX.l2 Z (fJ Lg Z (Bp.calls HS (ro 0 Z) h35) (fun _ wd37 ⟨h38,HS⟩=>⟨_,h38,(GX.fin (HS.pk 2 [1] Z) (GX.l2 Z (fJ Lg Z (Bp.calls HS (ro 0 Z) h40) (fun _ wd42 ⟨h43,HS⟩=>⟨_,h43,(GX.fin (HS.pk 2 [1] Z) (GX.ps 2 Z (GX.nil ?_)))⟩))))⟩)))))
  obtain ⟨c46,H⟩:=iN H
  refine G.lex mixed [0,1,2,3,5,6,4,7,8,9,10,11] (by kernel_rfl) ?_
  replace HS:=HS.drew
  refine GX.ps 3 Z (qL Z Z (fun _ _ g=>GO.Ew Z Z Z g) Z (GX.ps 1 Z (qL Z Z (fun _ _ g=>GO.Ew Z Z Z g) Z (GX.l1 Z Z Z (fun _ g=>GO.C8 (T:=(Ac .i64)) (n:=t39.toNat) (o:=0) HS (ro 0 Z) Z Z (getD_some (d:=0) (ltN c41)) Z Z na2 Z g) Z (GX.l1 Z Z Z (fun _ g=>GO.C8 (T:=(Ac .i64)) (n:=t34.toNat) (o:=0) HS (ro 0 Z) Z Z (getD_some (d:=0) (ltN c36)) Z Z na2 Z g) Z (qL Z Z (fun _ _ g=>GO.Ew Z Z Z g) Z (GX.l2 Z (GO.Hl (T:=(Ac .i64)) (j:=0) (n:=t34.toNat) (o:=0) (vs:=[I (x17.getD t39.toNat 0)]) (x17.getD t39.toNat 0) HS Z Ao Z Z Z Z (htN na2 Z) Z (getD_some (d:=0) (ltN c36)) Z Z fun wd44 HS=>GX.fin tv (qL Z Z (fun _ _ g=>GO.Ew Z Z Z g) Z (GX.l2 Z (GO.Hl (T:=(Ac .i64)) (j:=0) (n:=t39.toNat) (o:=0) (vs:=[I (x17.getD t34.toNat 0)]) (x17.getD t34.toNat 0) HS Z Ao Z Z Z Z (htN na2 Z) Z (getD_some (d:=0) (ltN c46)) Z Z fun wd45 HS=>GX.fin tv (GX.nil ?_))))))))))))
  replace HS:=HS.G6 (j:=1) (cs':=[I a1,I c1,sV A_a ((x17.set t34.toNat (x17.getD t39.toNat 0)).set t39.toNat (x17.getD t34.toNat 0)) c_a]) Z (by simp only [sV,List.length_set]<;>rfl)
  refine rN 3 Z (gW (k1 f1 (lR _) _ _ _ H HS) Z)
 exact gW (h1 K (lR _) _ _ _ H (HS.pk 2 [1,0] Z)) Z
theorem Gf.calls {c1 d1:Int} {a1:List Int} {i:Int} {r1 r2:Int} (HS:St w0 w (L)) (r_a:Bv w0 L (Ac .i64) A_a c_a uu a1) (H:Gf.f c1 d1 a1 i=some (r1,r2)) :
  Calls prog 209 #[.agg [I c1,I d1,sV A_a a1 c_a].toArray,I i] w (Gf.post w0 L a1 A_a c_a r1 r2):=by
 unfold Gf.f at H
 refine cG func209 Z ?_
 refine sQ (rG (bA HS Z fun b1 wd2 HS=>aS Z (nL (sQ ?_))))
 obtain ⟨c3,H⟩:=iN H
 obtain ⟨c4,H⟩:=iN H
 refine rG (fL b1 2 Km Z (lB 0 HS Z Ip Z (mV Z (fL b1 1 Gg Z (lB 0 HS Z na2 Z (pS 3 Z (fL b1 1 Gg Z (lB 0 HS Z na2 Z (GO.mul Z Z Z Z (GO.Aav (T:=(Ac .i64)) HS (rD 1 r_a) Z Z Z Z U26 sz2 c3.1 c3.2 c4.2 Z (aS Z (nL ?_))))))))))))
 obtain ⟨rfl,rfl⟩:=H8 H
 exact rT _ func209 Z Z ⟨Z,(HS.pk 1 [] Z)⟩
theorem Bg.calls {f1 e1:Int} {q1:List Int} {a1 b1:Int} {p1:List Int} {c1 d1:Int} {s1:List Int} {h1 i1:Int} {o1:List Int} {k1 g1:Int} {n1:List Int} {m1:Bool} {o:Int} {b_t:Nat} {r1:Bool} {r2 r3:List Int} {r4 r5 r6:List Int} (HS:St w0 w (Box b_t 168 [I f1,I e1,sV A_a q1 c_a,I a1,I b1,sV A_b p1 c_b,I c1,I d1,sV A_c s1 c_c,I h1,I i1,sV A_d o1 c_d,I k1,I g1,sV A_e n1 c_e,.bool m1]::Own (Ac .i64) 2 A_a c_a uu q1::Own (Ac .i64) 2 A_b c_b uu p1::Own (Ac .i64) 2 A_c c_c uu s1::Own (Ac .i64) 2 A_d c_d uu o1::Own (Ac .i64) 2 A_e c_e uu n1::L)) (H:Bg.f K f1 e1 q1 a1 b1 p1 c1 d1 s1 h1 i1 o1 k1 g1 n1 m1 o=some (r1,r2,r3,r4,r5,r6)) :
   Calls prog 190 #[pT b_t,I o] w (Bg.post w0 L f1 e1 a1 b1 c1 d1 h1 i1 k1 g1 m1 b_t A_a c_a A_b c_b A_c c_c A_d c_d A_e c_e r1 r2 r3 r4 r5 r6):=by
 unfold Bg.f at H
 refine cG func190 Z ?_
 refine rN 3 Z ?_
 obtain ⟨t1,t2,t3,h4,H⟩:=Gb H
 refine rG (pS 2 Z ?_)
 replace HS:=HS.pk 6 [0,1,2,3,4,5] Z
 refine fJ wG Z (Bi.calls HS (ro 0 Z) (ro 1 Z) (ro 2 Z) (ro 3 Z) (ro 4 Z) h4) (fun _ wd5 ⟨h6,HS⟩=>⟨_,h6,(pS 7 Z (nL (rN 3 Z ?_)))⟩)
 rcases iS H with ⟨c7,H⟩|⟨c7,H⟩
 ·
  refine yB Z (congrArg Bool.not (Cv c7)) (rN 2 Z ?_)
  obtain ⟨rfl,rfl,rfl,rfl,rfl,rfl⟩:=Oo H
  exact rT _ func190 Z Z ⟨Z,HS⟩
 refine nB Z (congrArg Bool.not c7) (rN 2 Z ?_)
 obtain ⟨t8,h9,H⟩:=bI H
 obtain ⟨c10,H⟩:=iN H
 refine rG (mV Z (GO.Ew Z Z Z (fL b_t 0 I9 Z (fL b_t 6 Ld Z (GO.Gc (j:=0) ([I c1,I d1,sV A_c s1 c_c]) HS Z Z Z Z Fx Z (pS 2 Z ?_))))))
 replace HS:=HS.pk 6 [3,0,1,2,4,5] Z
 refine fJ bP Z (Ed.calls HS  h9) (fun _ wd11 ⟨h12,HS⟩=>⟨_,h12,(nL ?_)⟩)
 replace HS:=HS.G6 (j:=1) (cs':=[I f1,I e1,sV A_a q1 c_a,I a1,I b1,sV A_b p1 c_b,I c1,I d1,sV A_c t8 c_c,I h1,I i1,sV A_d o1 c_d,I k1,I g1,sV A_e n1 c_e,.bool m1]) Z (by simp only [sV,List.length_set,c10]<;>rfl)
 refine sQ ?_
 obtain ⟨t13,h14,H⟩:=bI H
 obtain ⟨c15,H⟩:=iN H
 refine rG (mV Z (GO.Ew Z Z Z (fL b_t 0 I9 Z (fL b_t 0 X9 Z (GO.Gc (j:=1) ([I f1,I e1,sV A_a q1 c_a]) HS Z Z Z Z Fx Z (pS 2 Z ?_))))))
 replace HS:=HS.pk 6 [2,0,1,3,4,5] Z
 refine fJ bP Z (Ed.calls HS  h14) (fun _ wd16 ⟨h17,HS⟩=>⟨_,h17,(nL ?_)⟩)
 replace HS:=HS.G6 (j:=2) (cs':=[I f1,I e1,sV A_a t13 c_a,I a1,I b1,sV A_b p1 c_b,I c1,I d1,sV A_c t8 c_c,I h1,I i1,sV A_d o1 c_d,I k1,I g1,sV A_e n1 c_e,.bool m1]) Z (by simp only [sV,List.length_set,c15]<;>rfl)
 refine sQ ?_
 obtain ⟨t18,h19,H⟩:=bI H
 obtain ⟨c20,H⟩:=iN H
 refine rG (mV Z (GO.Ew Z Z Z (fL b_t 0 I9 Z (fL b_t 3 Rn Z (GO.Gc (j:=2) ([I a1,I b1,sV A_b p1 c_b]) HS Z Z Z Z Fx Z (pS 2 Z ?_))))))
 replace HS:=HS.pk 6 [3,0,1,2,4,5] Z
 refine fJ aN Z (Du.calls HS  h19) (fun _ wd21 ⟨h22,HS⟩=>⟨_,h22,(nL ?_)⟩)
 replace HS:=HS.G6 (j:=3) (cs':=[I f1,I e1,sV A_a t13 c_a,I a1,I b1,sV A_b t18 c_b,I c1,I d1,sV A_c t8 c_c,I h1,I i1,sV A_d o1 c_d,I k1,I g1,sV A_e n1 c_e,.bool m1]) Z (by simp only [sV,List.length_set,c20]<;>rfl)
 refine sQ ?_
 obtain ⟨t23,h24,H⟩:=bI H
 obtain ⟨c25,H⟩:=iN H
 refine rG (mV Z (GO.Ew Z Z Z (fL b_t 0 I9 Z (fL b_t 6 Ld Z (GO.Gc (j:=3) ([I c1,I d1,sV A_c t8 c_c]) HS Z Z Z Z Fx Z (pS 2 Z ?_))))))
 replace HS:=HS.pk 6 [2,0,1,3,4,5] Z
 refine fJ aN Z (Du.calls HS  h24) (fun _ wd26 ⟨h27,HS⟩=>⟨_,h27,(nL ?_)⟩)
 replace HS:=HS.G6 (j:=3) (cs':=[I f1,I e1,sV A_a t13 c_a,I a1,I b1,sV A_b t18 c_b,I c1,I d1,sV A_c t23 c_c,I h1,I i1,sV A_d o1 c_d,I k1,I g1,sV A_e n1 c_e,.bool m1]) Z (by simp only [sV,List.length_set,c25]<;>rfl)
 refine sQ ?_
 obtain ⟨t28,h29,H⟩:=bI H
 obtain ⟨c30,H⟩:=iN H
 refine rG (mV Z (GO.Ew Z Z Z (fL b_t 0 I9 Z (fL b_t 9 dL Z (GO.Gc (j:=3) ([I h1,I i1,sV A_d o1 c_d]) HS Z Z Z Z Fx Z (pS 2 Z ?_))))))
 replace HS:=HS.pk 6 [4,0,1,2,3,5] Z
 refine fJ aN Z (Du.calls HS  h29) (fun _ wd31 ⟨h32,HS⟩=>⟨_,h32,(nL ?_)⟩)
 replace HS:=HS.G6 (j:=4) (cs':=[I f1,I e1,sV A_a t13 c_a,I a1,I b1,sV A_b t18 c_b,I c1,I d1,sV A_c t23 c_c,I h1,I i1,sV A_d t28 c_d,I k1,I g1,sV A_e n1 c_e,.bool m1]) Z (by simp only [sV,List.length_set,c30]<;>rfl)
 refine sQ ?_
 obtain ⟨t33,h34,H⟩:=bI H
 obtain ⟨c35,H⟩:=iN H
 refine rG (mV Z (GO.Ew Z Z Z (fL b_t 0 I9 Z (fL b_t 12 dU Z (GO.Gc (j:=4) ([I k1,I g1,sV A_e n1 c_e]) HS Z Z Z Z Fx Z (pS 2 Z ?_))))))
 replace HS:=HS.pk 6 [5,0,1,2,3,4] Z
 refine fJ bP Z (Ed.calls HS  h34) (fun _ wd36 ⟨h37,HS⟩=>⟨_,h37,(nL ?_)⟩)
 replace HS:=HS.G6 (j:=5) (cs':=[I f1,I e1,sV A_a t13 c_a,I a1,I b1,sV A_b t18 c_b,I c1,I d1,sV A_c t23 c_c,I h1,I i1,sV A_d t28 c_d,I k1,I g1,sV A_e t33 c_e,.bool m1]) Z (by simp only [sV,List.length_set,c35]<;>rfl)
 refine rN 2 Z ?_
 obtain ⟨t38,h39,H⟩:=bI H
 obtain ⟨c40,H⟩:=iN H
 refine rG (mV Z (GO.Ew Z Z Z (fL b_t 0 I9 Z (fL b_t 6 Ld Z (GO.Gc (j:=5) ([I c1,I d1,sV A_c t23 c_c]) HS Z Z Z Z Fx Z (pS 2 Z (fJ Lg Z (Bp.calls HS (ro 2 Z) h39) (fun _ wd41 ⟨h42,HS⟩=>⟨_,h42,(GO.Ew Z Z Z (GO.C8 (T:=(Ac .i64)) (n:=t38.toNat) (o:=0) HS (ro 2 Z) Z Z (getD_some (d:=0) (ltN c40)) Z Z na2 Z (GO.lss Z Z Z Z (nL ?_))))⟩))))))))
 rcases iS H with ⟨c43,H⟩|⟨c43,H⟩
 ·
  refine nB Z (tF c43) (rN 3 Z ?_)
  obtain ⟨rfl,rfl,rfl,rfl,rfl,rfl⟩:=Oo H
  exact rT _ func190 Z Z ⟨Z,(HS.pk 6 [5,4,3,2,1,0] Z)⟩
 refine yB Z (tT c43) (rN 2 Z ?_)
 obtain ⟨t44,t45,h46,H⟩:=Cx H
 obtain ⟨c47,H⟩:=iN H
 obtain ⟨c48,H⟩:=iN H
 obtain ⟨t51,t52,h53,H⟩:=Cx H
 obtain ⟨c54,H⟩:=iN H
 obtain ⟨c55,H⟩:=iN H
 refine G.Jk mixed (fun w=>St w0 w (Box b_t 168 [I f1,I e1,sV A_a t13 c_a,I a1,I b1,sV A_b t18 c_b,I c1,I d1,sV A_c t23 c_c,I h1,I i1,sV A_d t28 c_d,I k1,I g1,sV A_e t33 c_e,.bool m1]::L)) [4,11,15] [0,1,2,3,5,7,8,9,10,12,16,4,11,6,13,14,15] [] (by kernel_rfl) (by kernel_rfl) (HS.drew.pk 6 [5] Z) ?_
 replace HS:=HS.drew
 refine GX.ps 1 Z (qL Z Z (fun _ _ g=>GO.Ew Z Z Z g) Z (qL Z Z (fun _ _ g=>fL b_t 0 I9 Z g) Z (qL Z Z (fun _ _ g=>fL b_t 6 Ld Z g) Z (GX.ps 2 Z (qL Z Z (fun _ _ g=>GO.Ew Z Z Z g) Z (qL Z Z (fun _ _ g=>fL b_t 0 I9 Z g) Z (qL Z Z (fun _ _ g=>fL b_t 0 X9 Z g) Z (GX.ps 2 Z (GX.ls Z Z Z (HS.pk 6 [5] Z) (fun _ HS _ g=>GO.Gc (j:=0) ([I c1,I d1,sV A_c t23 c_c]) HS Z Z Z Z Fx Z g) Z (GX.ls Z Z Z (HS.pk 6 [5] Z) (fun _ HS _ g=>GO.Gc (j:=0) ([I f1,I e1,sV A_a t13 c_a]) HS Z Z Z Z Fx Z g) Z (GX.l2 Z (fJ Yn Z (Gf.calls HS (ro 2 Z) h46) (fun _ wd49 ⟨h50,HS⟩=>⟨_,h50,(GX.fin (HS.pk 6 [5] Z) (GX.l2 Z ?_))⟩)))))))))))))
 refine fJ Yn Z (Gf.calls HS (ro 4 Z) h53) (fun _ wd56 ⟨h57,HS⟩=>⟨_,h57,(GX.fin (HS.pk 6 [5] Z) (GX.l2 Z (GO.D8 (el:=26) ([sV (Jn A_c t44.toNat c_c 1) ((t23.take t45.toNat).drop t44.toNat) (c_c - t44.toNat),sV (Jn A_a t51.toNat c_a 1) ((t13.take t52.toNat).drop t51.toNat) (c_a - t51.toNat)]) HS Z Z (fun _=>by kernel_rfl) Z fun b58 wd59 HS=>GX.fin (HS.pk 7 [6] Z) (GX.ls Z Z Z (HS.pk 7 [6] Z) (fun _ HS _ g=>lS Z Z U65 Z g) Z (GX.nil (rN 5 Z (yB Z (by decide) (rN 4 Z (rG (GO.ix Z Z Z U65 Na (fun _=>⟨_,_,Z⟩) (⟨by decide,by decide⟩:(0:Int)≤0∧(0:Int)<2).1 (⟨by decide,by decide⟩:(0:Int)≤0∧(0:Int)<2).2 Z (lB 0 HS Z Ip Z (aS Z (nL ?_)))))))))))))⟩)
 refine sQ (rG (mV Z (lS Z Z U26 Z (mV Z (nL (rN 2 Z ?_))))))
 refine G.name (fun b2 j2=>?_)
 have k2:∀ x1,x1≤K→∀ (x196:List Int) (x197:Int) (w:World),Bg.l1 K x1 a1 b1 o t13 t18 t23 t28 t33 t44 t45 t51 t52 x196 x197=some (r1,r2,r3,r4,r5,r6)→St w0 w (Box b_t 168 [I f1,I e1,sV A_a t13 c_a,I a1,I b1,sV A_b t18 c_b,I c1,I d1,sV A_c x196 c_c,I h1,I i1,sV A_d t28 c_d,I k1,I g1,sV A_e t33 c_e,.bool m1]::Own (Ac .i64) 2 A_a c_a uu t13::Own (Ac .i64) 2 A_b c_b uu t18::Own (Ac .i64) 2 A_c c_c uu x196::Own (Ac .i64) 2 A_d c_d uu t28::Own (Ac .i64) 2 A_e c_e uu t33::Box b58 26 [sV (Jn A_c t44.toNat c_c 1) ((x196.take t45.toNat).drop t44.toNat) (c_c - t44.toNat),sV (Jn A_a t51.toNat c_a 1) ((t13.take t52.toNat).drop t51.toNat) (c_a - t51.toNat)]::L)→G prog 190 145 [(0,pT b_t),(1,I o),(9,sV (Jn A_c t44.toNat c_c 1) ((x196.take t45.toNat).drop t44.toNat) (c_c - t44.toNat)),(94,.slice (sb b58) 2 2),(95,I 2),(96,I 0),(101,I (((t23.take t45.toNat).drop t44.toNat).length:Int)),(102,I x197)] b2 w (Bg.post w0 L f1 e1 a1 b1 c1 d1 h1 i1 k1 g1 m1 b_t A_a c_a A_b c_b A_c c_c A_d c_d A_e c_e r1 r2 r3 r4 r5 r6):=by
  refine lp (fun _ _ w H _=>by rw [Bg.l1] at H; cases H) fun v1 q2 m2 x196 x197 w H HS=>?_
  rw [Bg.l1] at H
  subst j2
  obtain ⟨c334,H⟩:=iN H
  refine rN 3 Z ?_
  rcases iE H with ⟨c335,H⟩|⟨c335,H⟩
  ·
   refine yB Z (tT c335) (rN 5 Z ?_)
   obtain ⟨c336,H⟩:=iN H
   refine rG (pS 4 Z (GO.ix Z Z Z U26 sz2 ((Bv.cut (ro 3 Z) (Tg c47) c334) _ HS).2.2.1 c336.1 c336.2 Z (GO.C8 (T:=(Ac .i64)) (n:=x197.toNat) (o:=0) HS (Bv.cut (ro 3 Z) (Tg c47) c334) Z Z (getD_some (d:=0) (ltN c336)) Z Z na2 Z (GO.neg Z Z Z (GO.ix Z Z Z U26 sz2 ((Bv.cut (ro 3 Z) (Tg c47) c334) _ HS).2.2.1 c336.1 c336.2 Z (GO.qG (T:=(Ac .i64)) (j:=3) (n:=x197.toNat) (l:=t44.toNat) (h:=t45.toNat) (vs:=[I (w64 (0 - (((x196.take t45.toNat).drop t44.toNat).getD x197.toNat 0)))]) (w64 (0 - (((x196.take t45.toNat).drop t44.toNat).getD x197.toNat 0))) HS Z Ao Z Z c334 (ltN c336) Z Z (htN na2 Z) Z (getD_some (d:=0) (rO (ltN c336))) Z Z fun wd337 HS=>nL ?_))))))
   obtain ⟨c338,H⟩:=iN H
   refine G.len (t:=9) (m:=(((x196.set (t44.toNat+x197.toNat) (w64 (0 - (((x196.take t45.toNat).drop t44.toNat).getD x197.toNat 0)))).take t45.toNat).drop t44.toNat).length) Z (by simp only [List.length_drop,List.length_take,Nat.min_self,List.length_set]) ?_
   replace HS:=HS.G6 (j:=0) (cs':=[I f1,I e1,sV A_a t13 c_a,I a1,I b1,sV A_b t18 c_b,I c1,I d1,sV A_c (x196.set (t44.toNat+x197.toNat) (w64 (0 - (((x196.take t45.toNat).drop t44.toNat).getD x197.toNat 0)))) c_c,I h1,I i1,sV A_d t28 c_d,I k1,I g1,sV A_e t33 c_e,.bool m1]) Z (by simp only [sV,List.length_set]<;>rfl)
   replace HS:=HS.G6 (j:=6) (cs':=[sV (Jn A_c t44.toNat c_c 1) (((x196.set (t44.toNat+x197.toNat) (w64 (0 - (((x196.take t45.toNat).drop t44.toNat).getD x197.toNat 0)))).take t45.toNat).drop t44.toNat) (c_c - t44.toNat),sV (Jn A_a t51.toNat c_a 1) ((t13.take t52.toNat).drop t51.toNat) (c_a - t51.toNat)]) Z (by simp only [sV,List.length_drop,List.length_take,List.length_set]<;>rfl)
   refine rN 3 Z (gW (m2 v1 (lR _) _ _ _ H HS) Z)
  refine nB Z (tF c335) (rN 2 Z (rG (GO.Aan 1 Z Z Z Z Z (mV Z (nL (rN 4 Z (yB Z (by decide) (rN 4 Z ?_))))))))
  obtain ⟨c339,H⟩:=iN H
  refine rG (GO.ix Z Z Z U65 Na (fun _=>⟨_,_,Z⟩) (⟨by decide,by decide⟩:(0:Int)≤1∧(1:Int)<2).1 (⟨by decide,by decide⟩:(0:Int)≤1∧(1:Int)<2).2 Z (lB 6 HS Z Ip Z (aS Z (nL (sQ (rG (mV Z (lS Z Z U26 Z (mV Z (nL (rN 2 Z ?_)))))))))))
  refine G.name (fun h2 f2=>?_)
  have c2:∀ z1,z1≤v1→∀ (x382:List Int) (x383:Int) (w:World),Bg.l10 K z1 a1 b1 o t13 t18 t28 t33 t51 t52 x196 x382 x383=some (r1,r2,r3,r4,r5,r6)→St w0 w (Box b_t 168 [I f1,I e1,sV A_a x382 c_a,I a1,I b1,sV A_b t18 c_b,I c1,I d1,sV A_c x196 c_c,I h1,I i1,sV A_d t28 c_d,I k1,I g1,sV A_e t33 c_e,.bool m1]::Own (Ac .i64) 2 A_a c_a uu x382::Own (Ac .i64) 2 A_b c_b uu t18::Own (Ac .i64) 2 A_c c_c uu x196::Own (Ac .i64) 2 A_d c_d uu t28::Own (Ac .i64) 2 A_e c_e uu t33::Box b58 26 [sV (Jn A_c t44.toNat c_c 1) ((x196.take t45.toNat).drop t44.toNat) (c_c - t44.toNat),sV (Jn A_a t51.toNat c_a 1) ((x382.take t52.toNat).drop t51.toNat) (c_a - t51.toNat)]::L)→G prog 190 145 [(0,pT b_t),(1,I o),(9,sV (Jn A_a t51.toNat c_a 1) ((x382.take t52.toNat).drop t51.toNat) (c_a - t51.toNat)),(94,.slice (sb b58) 2 2),(95,I 2),(96,I 1),(101,I (((t13.take t52.toNat).drop t51.toNat).length:Int)),(102,I x383)] h2 w (Bg.post w0 L f1 e1 a1 b1 c1 d1 h1 i1 k1 g1 m1 b_t A_a c_a A_b c_b A_c c_c A_d c_d A_e c_e r1 r2 r3 r4 r5 r6):=by
   refine lp (fun _ _ w H _=>by rw [Bg.l10] at H; cases H) fun u1 p2 i2 x382 x383 w H HS=>?_
   rw [Bg.l10] at H
   subst f2
   obtain ⟨c427,H⟩:=iN H
   refine rN 3 Z ?_
   rcases iE H with ⟨c428,H⟩|⟨c428,H⟩
   ·
    refine yB Z (tT c428) (rN 5 Z ?_)
    obtain ⟨c429,H⟩:=iN H
    refine rG (pS 4 Z (GO.ix Z Z Z U26 sz2 ((Bv.cut (ro 1 Z) (Tg c54) c427) _ HS).2.2.1 c429.1 c429.2 Z (GO.C8 (T:=(Ac .i64)) (n:=x383.toNat) (o:=0) HS (Bv.cut (ro 1 Z) (Tg c54) c427) Z Z (getD_some (d:=0) (ltN c429)) Z Z na2 Z (GO.neg Z Z Z (GO.ix Z Z Z U26 sz2 ((Bv.cut (ro 1 Z) (Tg c54) c427) _ HS).2.2.1 c429.1 c429.2 Z (GO.qG (T:=(Ac .i64)) (j:=1) (n:=x383.toNat) (l:=t51.toNat) (h:=t52.toNat) (vs:=[I (w64 (0 - (((x382.take t52.toNat).drop t51.toNat).getD x383.toNat 0)))]) (w64 (0 - (((x382.take t52.toNat).drop t51.toNat).getD x383.toNat 0))) HS Z Ao Z Z c427 (ltN c429) Z Z (htN na2 Z) Z (getD_some (d:=0) (rO (ltN c429))) Z Z fun wd430 HS=>nL ?_))))))
    obtain ⟨c431,H⟩:=iN H
    refine G.len (t:=9) (m:=(((x382.set (t51.toNat+x383.toNat) (w64 (0 - (((x382.take t52.toNat).drop t51.toNat).getD x383.toNat 0)))).take t52.toNat).drop t51.toNat).length) Z (by simp only [List.length_drop,List.length_take,Nat.min_self,List.length_set]) ?_
    replace HS:=HS.G6 (j:=0) (cs':=[I f1,I e1,sV A_a (x382.set (t51.toNat+x383.toNat) (w64 (0 - (((x382.take t52.toNat).drop t51.toNat).getD x383.toNat 0)))) c_a,I a1,I b1,sV A_b t18 c_b,I c1,I d1,sV A_c x196 c_c,I h1,I i1,sV A_d t28 c_d,I k1,I g1,sV A_e t33 c_e,.bool m1]) Z (by simp only [sV,List.length_set]<;>rfl)
    replace HS:=HS.G6 (j:=6) (cs':=[sV (Jn A_c t44.toNat c_c 1) ((x196.take t45.toNat).drop t44.toNat) (c_c - t44.toNat),sV (Jn A_a t51.toNat c_a 1) (((x382.set (t51.toNat+x383.toNat) (w64 (0 - (((x382.take t52.toNat).drop t51.toNat).getD x383.toNat 0)))).take t52.toNat).drop t51.toNat) (c_a - t51.toNat)]) Z (by simp only [sV,List.length_drop,List.length_take,List.length_set]<;>rfl)
    refine rN 3 Z (gW (i2 u1 (lR _) _ _ _ H HS) Z)
   refine nB Z (tF c428) (rN 2 Z (rG (GO.Aan 2 Z Z Z Z Z (mV Z (nL (rN 4 Z (nB Z (by decide) (rN 2 Z (rG (mV Z (GO.Ew Z Z Z (fL b_t 0 I9 Z (fL b_t 3 Rn Z (fL b_t 3 Im Z ?_))))))))))))))
   refine lB 0 HS Z na2 Z (mV Z (nL (rN 2 Z ?_)))
   refine G.name (fun e2 g2=>?_)
   have n2:∀ y1,y1≤u1→∀ (x444:List Int) (x445:Int) (w:World),Bg.l13 K y1 a1 b1 o t28 t33 x196 x382 x444 x445=some (r1,r2,r3,r4,r5,r6)→St w0 w (Box b_t 168 [I f1,I e1,sV A_a x382 c_a,I a1,I b1,sV A_b x444 c_b,I c1,I d1,sV A_c x196 c_c,I h1,I i1,sV A_d t28 c_d,I k1,I g1,sV A_e t33 c_e,.bool m1]::Own (Ac .i64) 2 A_a c_a uu x382::Own (Ac .i64) 2 A_b c_b uu x444::Own (Ac .i64) 2 A_c c_c uu x196::Own (Ac .i64) 2 A_d c_d uu t28::Own (Ac .i64) 2 A_e c_e uu t33::L)→G prog 190 145 [(0,pT b_t),(1,I o),(120,I a1),(121,I x445)] e2 w (Bg.post w0 L f1 e1 a1 b1 c1 d1 h1 i1 k1 g1 m1 b_t A_a c_a A_b c_b A_c c_c A_d c_d A_e c_e r1 r2 r3 r4 r5 r6):=by
    refine lp (fun _ _ w H _=>by rw [Bg.l13] at H; cases H) fun a2 o2 d2 x444 x445 w H HS=>?_
    rw [Bg.l13] at H
    subst g2
    refine rN 3 Z ?_
    rcases iS H with ⟨c458,H⟩|⟨c458,H⟩
    ·
     refine nB Z (tF c458) (rN 3 Z ?_)
     obtain ⟨rfl,rfl,rfl,rfl,rfl,rfl⟩:=Oo H
     exact rT _ func190 Z Z ⟨Z,HS⟩
    refine yB Z (tT c458) (rN 5 Z ?_)
    obtain ⟨t459,h460,H⟩:=bI H
    obtain ⟨c461,H⟩:=iN H
    obtain ⟨t464,h465,H⟩:=bI H
    obtain ⟨c466,H⟩:=iN H
    refine G.Jk mixed (fun w=>St w0 w (Box b_t 168 [I f1,I e1,sV A_a x382 c_a,I a1,I b1,sV A_b x444 c_b,I c1,I d1,sV A_c x196 c_c,I h1,I i1,sV A_d t28 c_d,I k1,I g1,sV A_e t33 c_e,.bool m1]::Own (Ac .i64) 2 A_b c_b uu x444::L)) [4,12,17] [0,1,2,3,5,6,8,9,10,11,13,14,4,12,7,15,16,17,18,19,20] [20] (by kernel_rfl) (by kernel_rfl) (HS.drew.pk 6 [0,2] Z) ?_
    replace HS:=HS.drew
    refine GX.ps 1 Z (qL Z Z (fun _ _ g=>GO.Ew Z Z Z g) Z (qL Z Z (fun _ _ g=>fL b_t 0 I9 Z g) Z (qL Z Z (fun _ _ g=>fL b_t 3 Rn Z g) Z (GX.ps 3 Z (qL Z Z (fun _ _ g=>GO.Ew Z Z Z g) Z (qL Z Z (fun _ _ g=>fL b_t 0 I9 Z g) Z (qL Z Z (fun _ _ g=>fL b_t 3 Rn Z g) Z (GX.ps 2 Z (GX.ls Z Z Z (HS.pk 6 [0,2] Z) (fun _ HS _ g=>GO.Gc (j:=0) ([I a1,I b1,sV A_b x444 c_b]) HS Z Z Z Z Fx Z g) Z (GX.ls Z Z Z (HS.pk 6 [0,2] Z) (fun _ HS _ g=>GO.Gc (j:=0) ([I a1,I b1,sV A_b x444 c_b]) HS Z Z Z Z Fx Z g) Z (GX.l2 Z (fJ Lg Z (Bp.calls HS (ro 2 Z) h460) (fun _ wd462 ⟨h463,HS⟩=>⟨_,h463,(GX.fin (HS.pk 6 [0,2] Z) (GX.l2 Z ?_))⟩)))))))))))))
    refine fJ Lg Z (Bp.calls HS (ro 2 Z) h465) (fun _ wd467 ⟨h468,HS⟩=>⟨_,h468,(GX.fin (HS.pk 6 [0,2] Z) (qL Z Z (fun _ _ g=>GO.Ew Z Z Z g) Z (GX.ls Z Z Z (HS.pk 6 [0,2] Z) (fun _ HS _ g=>GO.C8 (T:=(Ac .i64)) (n:=t464.toNat) (o:=0) HS (ro 1 Z) Z Z (getD_some (d:=0) (ltN c466)) Z Z na2 Z g) Z (qL Z Z (fun _ _ g=>GO.neg Z Z Z g) Z (qL Z Z (fun _ _ g=>GO.Ew Z Z Z g) Z (GX.l2 Z (GO.Hl (T:=(Ac .i64)) (j:=2) (n:=t459.toNat) (o:=0) (vs:=[I (w64 (0 - (x444.getD t464.toNat 0)))]) (w64 (0 - (x444.getD t464.toNat 0))) HS Z Ao Z Z Z Z (htN na2 Z) Z (getD_some (d:=0) (ltN c461)) Z Z fun wd469 HS=>GX.Y2 Z (GX.nil ?_))))))))⟩)
    replace HS:=HS.G6 (j:=0) (cs':=[I f1,I e1,sV A_a x382 c_a,I a1,I b1,sV A_b (x444.set t459.toNat (w64 (0 - (x444.getD t464.toNat 0)))) c_b,I c1,I d1,sV A_c x196 c_c,I h1,I i1,sV A_d t28 c_d,I k1,I g1,sV A_e t33 c_e,.bool m1]) Z (by simp only [sV,List.length_set]<;>rfl)
    refine rN 3 Z (gW (d2 a2 (lR _) _ _ _ H HS) Z)
   exact gW (n2 u1 (lR _) _ _ _ H (HS.pk 7 [0,1,2,3,4,5] Z)) Z
  exact gW (c2 v1 (lR _) _ _ _ H HS) Z
 exact gW (k2 K (lR _) _ _ _ H (HS.pk 7 [6,5,4,3,2,1,0] Z)) Z
theorem Hy.calls {a_ b_ r1:Int} (HS:St w0 w (L)) (H:Hy.f a_ b_=some r1) :
   Calls prog 210 #[I a_,I b_] w (Hy.post w0 L r1):=by
 unfold Hy.f at H
 refine cG func210 Z ?_
 refine rN 3 Z ?_
 obtain ⟨c1,H⟩:=Ll H
 refine rG (pS 2 Z (GO.quo Z Z Z c1 Z (aS Z (nL (rN 2 Z (rG (pS 2 Z (GO.rem Z Z Z c1 Z (GO.lss Z Z Z Z (nL ?_))))))))))
 rcases iS H with ⟨c2,H⟩|⟨c2,H⟩
 ·
  refine nB Z (tF c2) (rN 3 Z ?_)
  obtain rfl:=sI H
  exact rT _ func210 Z Z ⟨Z,HS⟩
 refine yB Z (tT c2) (rN 3 Z ?_)
 obtain rfl:=sI H
 exact rT _ func210 Z Z ⟨Z,HS⟩
theorem J8.calls {a_ b_:Int} {most r1:Int} {r2:Bool} (HS:St w0 w (L)) (H:J8.f a_ b_ most=some (r1,r2)) :
   Calls prog 162 #[I a_,I b_,I most] w (J8.post w0 L r1 r2):=by
 unfold J8.f at H
 refine cG func162 Z ?_
 refine rN 4 Z ?_
 rcases iE H with ⟨c11,H⟩|⟨c11,H⟩
 ·
  refine rG (pS 3 Z (kN 10 Z (nT c11) (oF Z (oF Z (oF Z (oF Z (oF Z (oF Z (oF Z (GO.Iw Z Z Z Z Z (nL (rN 4 Z ?_))))))))))))
  obtain ⟨rfl,rfl⟩:=H8 H
  exact G.Jr _ _ func162 Z Z Z ⟨Z,HS⟩
 obtain ⟨t12,h13,H⟩:=bI H
 obtain ⟨t16,h17,H⟩:=bI H
 obtain ⟨c20,H⟩:=Ll H
 refine rG (pS 3 Z (kN 10 Z (nF c11) (oN Z (mV Z (bK (oN Z (fJ Wt Z (Jg.calls HS  h13) (fun _ wd14 ⟨h15,HS⟩=>⟨_,h15,(bK (oN Z (mV Z (bK (oN Z (mV Z (bK ?_)))))))⟩))))))))
 refine oN Z (fJ Wt Z (Jg.calls HS  h17) (fun _ wd18 ⟨h19,HS⟩=>⟨_,h19,(bK (oN Z (GO.quo Z Z Z c20 Z (bK (oN Z (GO.gtr Z Z Z Z (bK (GO.Gq Z Z Z Z Z (nL ?_)))))))))⟩))
 rcases iE H with ⟨c21,H⟩|⟨c21,H⟩
 ·
  refine yB Z (tT c21) (rN 2 Z ?_)
  obtain ⟨rfl,rfl⟩:=H8 H
  exact G.Jr _ _ func162 Z Z Z ⟨Z,HS⟩
 refine nB Z (tF c21) (rN 3 Z ?_)
 obtain ⟨rfl,rfl⟩:=H8 H
 exact G.Jr _ _ func162 Z Z Z ⟨Z,HS⟩
theorem G8.calls {u1:Bool} {entry:List Int} {a1 x by_:Int} {b_r:Nat} {n1 f1:Value} {g1 e1:Value} {c1 k1:Value} {i1 m1:Value} {h1 s1:Value} {b1 o1:Value} {p1 q1 d1:Value} {r1:Bool} {r2:List Int} (HS:St w0 w (Box b_r 168 [n1,f1,g1,e1,c1,k1,i1,m1,h1,s1,b1,o1,p1,q1,d1,.bool u1]::Own (Ac .i64) 2 A_a c_a uu entry::L)) (H:G8.f u1 entry a1 x by_=some (r1,r2)) :
   Calls prog 222 #[pT b_r,.pointer (some (ea A_a (a1.toNat*1))),I x,I by_] w (G8.post w0 L b_r n1 f1 g1 e1 c1 k1 i1 m1 h1 s1 b1 o1 p1 q1 d1 A_a c_a r1 r2):=by
 unfold G8.f at H
 refine cG func222 Z ?_
 refine sQ ?_
 obtain ⟨t1,t2,h3,H⟩:=Cx H
 refine rG (pS 2 Z (fJ sS Z (J8.calls HS  h3) (fun _ wd4 ⟨h5,HS⟩=>⟨_,h5,(pS 5 Z (nL (sQ ?_)))⟩)))
 obtain ⟨c6,H⟩:=iN H
 refine rG (mV Z (GO.Ew Z Z Z (GO.C8 (T:=(Ac .i64)) (n:=a1.toNat) (o:=0) HS (ro 1 Z) Z Z (getD_some (d:=0) (ltN c6)) Z Z na2 Z (pS 2 Z (GO.Ew Z Z Z (GO.Hl (T:=(Ac .i64)) (j:=1) (n:=a1.toNat) (o:=0) (vs:=[I (w64 ((entry.getD a1.toNat 0)+t1))]) (w64 ((entry.getD a1.toNat 0)+t1)) HS Z Ao Z Z Z Z (htN na2 Z) Z (getD_some (d:=0) (ltN c6)) Z Z fun wd7 HS=>nL (sQ ?_)))))))
 rcases iS H with ⟨c14,H⟩|⟨c14,H⟩
 ·
  refine rG (pS 3 Z (kN 24 Z (congrArg Bool.not (Cv c14)) (oF Z (oF Z (oF Z (oF Z (oF Z (GO.Gq Z Z Z Z Z (nL (rN 2 Z (rG (mV Z (GO.Ew Z Z Z (fL b_r 15 Mq Z ?_))))))))))))))
  refine GO.K7 (j:=0) (vs:=[.bool true]) ([n1,f1,g1,e1,c1,k1,i1,m1,h1,s1,b1,o1,p1,q1,d1,.bool true]) HS Z Z Z Z Z (htN na4 Z) Z Z Z fun wd23 HS=>nL ?_
  obtain ⟨c25,H⟩:=iN H
  refine rG (mV Z (GO.Ew Z Z Z (GO.Hl (T:=(Ac .i64)) (j:=1) (n:=a1.toNat) (o:=0) (vs:=[I 0]) 0 HS Z Ao Z Z Z Z (htN na2 Z) Z (getD_some (d:=0) (ltN c25)) Z Z fun wd24 HS=>nL ?_)))
  obtain ⟨rfl,rfl⟩:=H8 H
  exact G.K6 func222 Z ⟨Z,HS⟩
 obtain ⟨c15,H⟩:=iN H
 obtain ⟨t16,h17,H⟩:=bI H
 refine rG (pS 3 Z (kN 24 Z (congrArg Bool.not c14) (oN Z (mV Z (bK (oN Z (GO.Ew Z Z Z (bK (oN Z (GO.C8 (T:=(Ac .i64)) (n:=a1.toNat) (o:=0) HS (ro 1 Z) Z Z (getD_some (d:=0) (ltN c15)) Z Z na2 Z (bK (oN Z (fJ Wt Z (Jg.calls HS  h17) (fun _ wd18 ⟨h19,HS⟩=>⟨_,h19,(bK ?_)⟩))))))))))))))
 refine oN Z (GO.gtr Z Z Z Z (bK (GO.Iw Z Z Z Z Z (nL ?_))))
 rcases iS H with ⟨c20,H⟩|⟨c20,H⟩
 ·
  refine nB Z (tF c20) (G.skip ?_)
  obtain ⟨rfl,rfl⟩:=H8 H
  exact G.K6 func222 Z ⟨Z,HS⟩
 refine yB Z (tT c20) (sQ (rG (mV Z (GO.Ew Z Z Z (fL b_r 15 Mq Z (GO.K7 (j:=0) (vs:=[.bool true]) ([n1,f1,g1,e1,c1,k1,i1,m1,h1,s1,b1,o1,p1,q1,d1,.bool true]) HS Z Z Z Z Z (htN na4 Z) Z Z Z fun wd21 HS=>nL (rG (mV Z (GO.Ew Z Z Z (GO.Hl (T:=(Ac .i64)) (j:=1) (n:=a1.toNat) (o:=0) (vs:=[I 0]) 0 HS Z Ao Z Z Z Z (htN na2 Z) Z (getD_some (d:=0) (ltN c15)) Z Z fun wd22 HS=>nL ?_))))))))))
 obtain ⟨rfl,rfl⟩:=H8 H
 exact G.K6 func222 Z ⟨Z,HS⟩
theorem Cz.calls {y1:Bool} {c1 a1:Int} {x1:List Int} {to m1 by_:Int} {b_r:Nat} {k1 i1:Value} {o1 e1:Value} {n1 q1:Value} {p1 v1:Value} {f1 t1:Value} {u1 g1:Value} {s1 h1 d1:Value} {r1:Bool} {r2:List Int} (HS:St w0 w (Box b_r 168 [k1,i1,o1,e1,n1,q1,p1,v1,f1,t1,u1,g1,s1,h1,d1,.bool y1]::Own (Ac .i64) 2 A_a c_a uu x1::L)) (H:Cz.f K y1 c1 a1 x1 to m1 by_=some (r1,r2)) :
   Calls prog 214 #[pT b_r,.agg [I c1,I a1,sV A_a x1 c_a].toArray,I to,I m1,I by_] w (Cz.post w0 L b_r k1 i1 o1 e1 n1 q1 p1 v1 f1 t1 u1 g1 s1 h1 d1 A_a c_a r1 r2):=by
 unfold Cz.f at H
 refine cG func214 Z ?_
 refine sQ (rG (bA HS Z fun b1 wd2 HS=>nL (sQ (rG (fL b1 1 Gg Z (lB 0 HS Z na2 Z (mV Z (nL (rN 2 Z ?_)))))))))
 refine G.name (fun a2 c2=>?_)
 have d2:∀ z1,z1≤K→∀ (x20:Bool) (x21:List Int) (x22:Int) (w:World),Cz.l1 K z1 c1 a1 to m1 by_ x20 x21 x22=some (r1,r2)→St w0 w (Box b_r 168 [k1,i1,o1,e1,n1,q1,p1,v1,f1,t1,u1,g1,s1,h1,d1,.bool x20]::Own (Ac .i64) 2 A_a c_a uu x21::Box b1 57 [I c1,I a1,sV A_a x21 c_a]::L)→G prog 214 30 [(0,pT b_r),(2,I to),(3,I m1),(4,I by_),(6,pT b1),(12,I a1),(13,I x22)] a2 w (Cz.post w0 L b_r k1 i1 o1 e1 n1 q1 p1 v1 f1 t1 u1 g1 s1 h1 d1 A_a c_a r1 r2):=by
  refine lp (fun _ _ _ w H _=>by rw [Cz.l1] at H; cases H) fun b2 f2 e2 x20 x21 x22 w H HS=>?_
  rw [Cz.l1] at H
  subst c2
  refine rN 3 Z ?_
  rcases iS H with ⟨c40,H⟩|⟨c40,H⟩
  ·
   refine nB Z (tF c40) (G.exit Z ?_)
   obtain ⟨rfl,rfl⟩:=H8 H
   exact G.K6 func214 Z ⟨Z,(HS.pk 3 [0,1] Z)⟩
  refine yB Z (tT c40) (rN 5 Z ?_)
  obtain ⟨t41,h42,H⟩:=bI H
  obtain ⟨c43,H⟩:=iN H
  obtain ⟨t46,h47,H⟩:=bI H
  obtain ⟨c48,H⟩:=iN H
  obtain ⟨t51,t52,h53,H⟩:=Cx H
  obtain ⟨c54,H⟩:=iN H
  refine G.Jk mixed (fun w=>St w0 w (Own (Ac .i64) 2 A_a c_a uu x21::Box b1 57 [I c1,I a1,sV A_a x21 c_a]::L)) [1,5,10] [0,2,3,6,7,11,1,5,4,8,9,10,12] [12] (by kernel_rfl) (by kernel_rfl) (HS.drew.pk 3 [1,2] Z) ?_
  replace HS:=HS.drew
  refine GX.ps 6 Z (GX.ls Z Z Z (HS.pk 3 [1,2] Z) (fun _ HS _ g=>lW 1 HS Z Fx g) Z (GX.ls Z Z Z (HS.pk 3 [1,2] Z) (fun _ HS _ g=>lW 1 HS Z Fx g) Z (GX.l2 Z (fJ Lg Z (Bp.calls HS (ro 1 Z) h42) (fun _ wd44 ⟨h45,HS⟩=>⟨_,h45,(GX.fin (HS.pk 3 [1,2] Z) (GX.l2 Z (fJ Lg Z (Bp.calls HS (ro 1 Z) h47) (fun _ wd49 ⟨h50,HS⟩=>⟨_,h50,(GX.fin (HS.pk 3 [1,2] Z) (qL Z Z (fun _ _ g=>GO.Ew Z Z Z g) Z (GX.ls Z Z Z (HS.pk 3 [1,2] Z) (fun _ HS _ g=>GO.C8 (T:=(Ac .i64)) (n:=t46.toNat) (o:=0) HS (ro 0 Z) Z Z (getD_some (d:=0) (ltN c48)) Z Z na2 Z g) Z (GX.l2 Z ?_))))⟩))))⟩)))))
  replace HS:=HS.pk 3 [0,1,2] Z
  refine fJ mW Z (G8.calls HS  h53) (fun _ wd55 ⟨h56,HS⟩=>⟨_,h56,(GX.Y2 Z (GX.nil ?_))⟩)
  replace HS:=HS.G6 (j:=2) (cs':=[I c1,I a1,sV A_a t52 c_a]) Z (by simp only [sV,List.length_set,c54]<;>rfl)
  refine rN 3 Z (gW (e2 b2 (lR _) _ _ _ _ H HS) Z)
 exact gW (d2 K (lR _) _ _ _ _ H (HS.pk 3 [1,2,0] Z)) Z
theorem Cq.calls {y1:Bool} {a1 c1:Int} {x1:List Int} {to m1 by_:Int} {b_r:Nat} {k1 i1:Value} {o1 e1:Value} {n1 q1:Value} {p1 v1:Value} {f1 t1:Value} {u1 g1:Value} {s1 h1 d1:Value} {r1:Bool} {r2:List Int} (HS:St w0 w (Box b_r 168 [k1,i1,o1,e1,n1,q1,p1,v1,f1,t1,u1,g1,s1,h1,d1,.bool y1]::Own (Ac .i64) 2 A_a c_a uu x1::L)) (H:Cq.f K y1 a1 c1 x1 to m1 by_=some (r1,r2)) :
   Calls prog 215 #[pT b_r,.agg [I a1,I c1,sV A_a x1 c_a].toArray,I to,I m1,I by_] w (Cq.post w0 L b_r k1 i1 o1 e1 n1 q1 p1 v1 f1 t1 u1 g1 s1 h1 d1 A_a c_a r1 r2):=by
 unfold Cq.f at H
 refine cG func215 Z ?_
 refine sQ (rG (bA HS Z fun b1 wd2 HS=>nL (sQ (rG (fL b1 0 Im Z (lB 0 HS Z na2 Z (mV Z (nL (rN 2 Z ?_)))))))))
 refine G.name (fun a2 c2=>?_)
 have d2:∀ z1,z1≤K→∀ (x20:Bool) (x21:List Int) (x22:Int) (w:World),Cq.l1 K z1 a1 c1 to m1 by_ x20 x21 x22=some (r1,r2)→St w0 w (Box b_r 168 [k1,i1,o1,e1,n1,q1,p1,v1,f1,t1,u1,g1,s1,h1,d1,.bool x20]::Own (Ac .i64) 2 A_a c_a uu x21::Box b1 57 [I a1,I c1,sV A_a x21 c_a]::L)→G prog 215 30 [(0,pT b_r),(2,I to),(3,I m1),(4,I by_),(6,pT b1),(12,I a1),(13,I x22)] a2 w (Cq.post w0 L b_r k1 i1 o1 e1 n1 q1 p1 v1 f1 t1 u1 g1 s1 h1 d1 A_a c_a r1 r2):=by
  refine lp (fun _ _ _ w H _=>by rw [Cq.l1] at H; cases H) fun b2 f2 e2 x20 x21 x22 w H HS=>?_
  rw [Cq.l1] at H
  subst c2
  refine rN 3 Z ?_
  rcases iS H with ⟨c40,H⟩|⟨c40,H⟩
  ·
   refine nB Z (tF c40) (G.exit Z ?_)
   obtain ⟨rfl,rfl⟩:=H8 H
   exact G.K6 func215 Z ⟨Z,(HS.pk 3 [0,1] Z)⟩
  refine yB Z (tT c40) (rN 5 Z ?_)
  obtain ⟨t41,h42,H⟩:=bI H
  obtain ⟨c43,H⟩:=iN H
  obtain ⟨t46,h47,H⟩:=bI H
  obtain ⟨c48,H⟩:=iN H
  obtain ⟨t51,t52,h53,H⟩:=Cx H
  obtain ⟨c54,H⟩:=iN H
  refine G.Jk mixed (fun w=>St w0 w (Own (Ac .i64) 2 A_a c_a uu x21::Box b1 57 [I a1,I c1,sV A_a x21 c_a]::L)) [1,5,10] [0,2,3,6,7,11,1,5,4,8,9,10,12] [12] (by kernel_rfl) (by kernel_rfl) (HS.drew.pk 3 [1,2] Z) ?_
  replace HS:=HS.drew
  refine GX.ps 6 Z (GX.ls Z Z Z (HS.pk 3 [1,2] Z) (fun _ HS _ g=>lW 1 HS Z Fx g) Z (GX.ls Z Z Z (HS.pk 3 [1,2] Z) (fun _ HS _ g=>lW 1 HS Z Fx g) Z (GX.l2 Z (fJ Lg Z (Bp.calls HS (ro 1 Z) h42) (fun _ wd44 ⟨h45,HS⟩=>⟨_,h45,(GX.fin (HS.pk 3 [1,2] Z) (GX.l2 Z (fJ Lg Z (Bp.calls HS (ro 1 Z) h47) (fun _ wd49 ⟨h50,HS⟩=>⟨_,h50,(GX.fin (HS.pk 3 [1,2] Z) (qL Z Z (fun _ _ g=>GO.Ew Z Z Z g) Z (GX.ls Z Z Z (HS.pk 3 [1,2] Z) (fun _ HS _ g=>GO.C8 (T:=(Ac .i64)) (n:=t46.toNat) (o:=0) HS (ro 0 Z) Z Z (getD_some (d:=0) (ltN c48)) Z Z na2 Z g) Z (GX.l2 Z ?_))))⟩))))⟩)))))
  replace HS:=HS.pk 3 [0,1,2] Z
  refine fJ mW Z (G8.calls HS  h53) (fun _ wd55 ⟨h56,HS⟩=>⟨_,h56,(GX.Y2 Z (GX.nil ?_))⟩)
  replace HS:=HS.G6 (j:=2) (cs':=[I a1,I c1,sV A_a t52 c_a]) Z (by simp only [sV,List.length_set,c54]<;>rfl)
  refine rN 3 Z (gW (e2 b2 (lR _) _ _ _ _ H HS) Z)
 exact gW (d2 K (lR _) _ _ _ _ H (HS.pk 3 [1,2,0] Z)) Z
theorem En.calls {d1 h1:Int} {p1:List Int} {b1 e1:Int} {o1:List Int} {a1 c1:Int} {q1:List Int} {m1 k1:Int} {g1:List Int} {n1 i1:Int} {f1:List Int} {s1:Bool} {to u1 by_:Int} {b_r:Nat} {r1:Bool} {r2 r3 r4:List Int} (HS:St w0 w (Box b_r 168 [I d1,I h1,sV A_a p1 c_a,I b1,I e1,sV A_b o1 c_b,I a1,I c1,sV A_c q1 c_c,I m1,I k1,sV A_d g1 c_d,I n1,I i1,sV A_e f1 c_e,.bool s1]::Own (Ac .i64) 2 A_a c_a uu p1::Own (Ac .i64) 2 A_b c_b uu o1::Own (Ac .i64) 2 A_c c_c uu q1::L)) (r_d:Bv w0 L (Ac .i64) A_d c_d uu g1) (r_e:Bv w0 L (Ac .i64) A_e c_e uu f1) (H:En.f K d1 h1 p1 b1 e1 o1 a1 c1 q1 m1 k1 g1 n1 i1 f1 s1 to u1 by_=some (r1,r2,r3,r4)) :
  Calls prog 194 #[pT b_r,I to,I u1,I by_] w (En.post w0 L d1 h1 b1 e1 a1 c1 m1 k1 g1 n1 i1 f1 b_r A_a c_a A_b c_b A_c c_c A_d c_d A_e c_e r1 r2 r3 r4):=by
 unfold En.f at H
 refine cG func194 Z ?_
 refine sQ ?_
 obtain ⟨t1,t2,h3,H⟩:=Cx H
 obtain ⟨c4,H⟩:=iN H
 refine rG (pS 2 Z (GO.Ew Z Z Z (fL b_r 0 I9 Z (fL b_r 6 Ld Z (GO.Gc (j:=0) ([I a1,I c1,sV A_c q1 c_c]) HS Z Z Z Z Fx Z (pS 3 Z ?_))))))
 replace HS:=HS.pk 4 [0,3,1,2] Z
 refine fJ aK Z (Cz.calls HS  h3) (fun _ wd5 ⟨h6,HS⟩=>⟨_,h6,(nL ?_)⟩)
 replace HS:=HS.G6 (j:=0) (cs':=[I d1,I h1,sV A_a p1 c_a,I b1,I e1,sV A_b o1 c_b,I a1,I c1,sV A_c t2 c_c,I m1,I k1,sV A_d g1 c_d,I n1,I i1,sV A_e f1 c_e,.bool t1]) Z (by simp only [sV,List.length_set,c4]<;>rfl)
 refine sQ ?_
 obtain ⟨t7,t8,h9,H⟩:=Cx H
 obtain ⟨c10,H⟩:=iN H
 refine rG (pS 2 Z (GO.Ew Z Z Z (fL b_r 0 I9 Z (fL b_r 0 X9 Z (GO.Gc (j:=0) ([I d1,I h1,sV A_a p1 c_a]) HS Z Z Z Z Fx Z (pS 3 Z ?_))))))
 replace HS:=HS.pk 4 [0,2,1,3] Z
 refine fJ aK Z (Cz.calls HS  h9) (fun _ wd11 ⟨h12,HS⟩=>⟨_,h12,(nL ?_)⟩)
 replace HS:=HS.G6 (j:=0) (cs':=[I d1,I h1,sV A_a t8 c_a,I b1,I e1,sV A_b o1 c_b,I a1,I c1,sV A_c t2 c_c,I m1,I k1,sV A_d g1 c_d,I n1,I i1,sV A_e f1 c_e,.bool t7]) Z (by simp only [sV,List.length_set,c10]<;>rfl)
 obtain ⟨t13,t14,h15,H⟩:=Cx H
 obtain ⟨c16,H⟩:=iN H
 refine rG (pS 2 Z (GO.Ew Z Z Z (fL b_r 0 I9 Z (fL b_r 3 Rn Z (GO.Gc (j:=0) ([I b1,I e1,sV A_b o1 c_b]) HS Z Z Z Z Fx Z (pS 3 Z (GO.neg Z Z Z ?_)))))))
 replace HS:=HS.pk 4 [0,3,1,2] Z
 refine fJ bT Z (Cq.calls HS  h15) (fun _ wd17 ⟨h18,HS⟩=>⟨_,h18,(nL ?_)⟩)
 replace HS:=HS.G6 (j:=0) (cs':=[I d1,I h1,sV A_a t8 c_a,I b1,I e1,sV A_b t14 c_b,I a1,I c1,sV A_c t2 c_c,I m1,I k1,sV A_d g1 c_d,I n1,I i1,sV A_e f1 c_e,.bool t13]) Z (by simp only [sV,List.length_set,c16]<;>rfl)
 obtain ⟨rfl,rfl,rfl,rfl⟩:=Sl H
 exact G.K6 func194 Z ⟨Z,(HS.pk 4 [0,2,1,3] Z)⟩
theorem Fq.calls {k1 o1:Int} {d1:List Int} {i1 m1:Int} {h1:List Int} {b1 e1:Int} {q1:List Int} {f1 c1:Int} {p1:List Int} {g1 a1:Int} {n1:List Int} {s1:Bool} {to u1 by_:Int} {b_r:Nat} {r1:Bool} {r2 r3 r4:List Int} (HS:St w0 w (Box b_r 168 [I k1,I o1,sV A_a d1 c_a,I i1,I m1,sV A_b h1 c_b,I b1,I e1,sV A_c q1 c_c,I f1,I c1,sV A_d p1 c_d,I g1,I a1,sV A_e n1 c_e,.bool s1]::Own (Ac .i64) 2 A_c c_c uu q1::Own (Ac .i64) 2 A_d c_d uu p1::Own (Ac .i64) 2 A_e c_e uu n1::L)) (r_a:Bv w0 L (Ac .i64) A_a c_a uu d1) (r_b:Bv w0 L (Ac .i64) A_b c_b uu h1) (H:Fq.f K k1 o1 d1 i1 m1 h1 b1 e1 q1 f1 c1 p1 g1 a1 n1 s1 to u1 by_=some (r1,r2,r3,r4)) :
  Calls prog 211 #[pT b_r,I to,I u1,I by_] w (Fq.post w0 L k1 o1 d1 i1 m1 h1 b1 e1 f1 c1 g1 a1 b_r A_a c_a A_b c_b A_c c_c A_d c_d A_e c_e r1 r2 r3 r4):=by
 unfold Fq.f at H
 refine cG func211 Z ?_
 refine sQ ?_
 obtain ⟨t1,t2,h3,H⟩:=Cx H
 obtain ⟨c4,H⟩:=iN H
 refine rG (pS 2 Z (GO.Ew Z Z Z (fL b_r 0 I9 Z (fL b_r 6 Ld Z (GO.Gc (j:=0) ([I b1,I e1,sV A_c q1 c_c]) HS Z Z Z Z Fx Z (pS 3 Z ?_))))))
 replace HS:=HS.pk 4 [0,1,2,3] Z
 refine fJ bT Z (Cq.calls HS  h3) (fun _ wd5 ⟨h6,HS⟩=>⟨_,h6,(nL ?_)⟩)
 replace HS:=HS.G6 (j:=0) (cs':=[I k1,I o1,sV A_a d1 c_a,I i1,I m1,sV A_b h1 c_b,I b1,I e1,sV A_c t2 c_c,I f1,I c1,sV A_d p1 c_d,I g1,I a1,sV A_e n1 c_e,.bool t1]) Z (by simp only [sV,List.length_set,c4]<;>rfl)
 refine sQ ?_
 obtain ⟨t7,t8,h9,H⟩:=Cx H
 obtain ⟨c10,H⟩:=iN H
 refine rG (pS 2 Z (GO.Ew Z Z Z (fL b_r 0 I9 Z (fL b_r 9 dL Z (GO.Gc (j:=0) ([I f1,I c1,sV A_d p1 c_d]) HS Z Z Z Z Fx Z (pS 3 Z ?_))))))
 replace HS:=HS.pk 4 [0,2,1,3] Z
 refine fJ bT Z (Cq.calls HS  h9) (fun _ wd11 ⟨h12,HS⟩=>⟨_,h12,(nL ?_)⟩)
 replace HS:=HS.G6 (j:=0) (cs':=[I k1,I o1,sV A_a d1 c_a,I i1,I m1,sV A_b h1 c_b,I b1,I e1,sV A_c t2 c_c,I f1,I c1,sV A_d t8 c_d,I g1,I a1,sV A_e n1 c_e,.bool t7]) Z (by simp only [sV,List.length_set,c10]<;>rfl)
 obtain ⟨t13,t14,h15,H⟩:=Cx H
 obtain ⟨c16,H⟩:=iN H
 refine rG (pS 2 Z (GO.Ew Z Z Z (fL b_r 0 I9 Z (fL b_r 12 dU Z (GO.Gc (j:=0) ([I g1,I a1,sV A_e n1 c_e]) HS Z Z Z Z Fx Z (pS 3 Z (GO.neg Z Z Z ?_)))))))
 replace HS:=HS.pk 4 [0,3,1,2] Z
 refine fJ aK Z (Cz.calls HS  h15) (fun _ wd17 ⟨h18,HS⟩=>⟨_,h18,(nL ?_)⟩)
 replace HS:=HS.G6 (j:=0) (cs':=[I k1,I o1,sV A_a d1 c_a,I i1,I m1,sV A_b h1 c_b,I b1,I e1,sV A_c t2 c_c,I f1,I c1,sV A_d t8 c_d,I g1,I a1,sV A_e t14 c_e,.bool t13]) Z (by simp only [sV,List.length_set,c16]<;>rfl)
 obtain ⟨rfl,rfl,rfl,rfl⟩:=Sl H
 exact G.K6 func211 Z ⟨Z,(HS.pk 4 [0,3,2,1] Z)⟩
end Go.Proofs.YtgkgmhkgahalgaaGreat
