/-
  The walks through the functions: a call comes to what its list function says.
-/
import Derived.Test.YtgkgmhkgahalgaaGreatAlF
set_option linter.unusedVariables false
set_option linter.unusedSimpArgs false
namespace Go.Proofs.YtgkgmhkgahalgaaGreat
open Go.RowKit
open Tryz
variable {w0 w:World} {L:List Df} {K:Nat} {A_a A_b A_c A_d A_e A_f A_g A_h A_i A_j A_k A_l A_m A_n A_o A_p A_q A_r A_s A_t A_u A_v A_w A_x A_y A_z:Option Addr} {c_a c_b c_c c_d c_e c_f c_g c_h c_i c_j c_k c_l c_m c_n c_o c_p c_q c_r c_s c_t c_u c_v c_w c_x c_y c_z:Nat}
set_option maxRecDepth 20000
set_option maxHeartbeats 40000000
theorem Kc.calls {a_:List Aw} {left:Int} {r1:Int} (HS:St w0 w (L)) (r_a:Ce w0 L Bb A_a c_a uu a_) (H:Kc.f a_ left=some r1) :
    Calls prog 58 #[sV A_a a_ c_a,I left] w (Kc.post w0 L r1):=by
  unfold Kc.f at H
  refine cG func58 Z ?_
  refine rN 3 Z (rG (pS 2 Z (lS Z Z U80 Z (pS 2 Z (nL (rN 3 Z ?_))))))
  rcases iE H with ⟨c1,H⟩ | ⟨c1,H⟩
  ·
   refine yB Z (tT c1) (rN 2 Z ?_)
   obtain rfl:=sI H
   exact rT _ func58 Z Z ⟨Z,HS⟩
  refine nB Z (tF c1) (rN 3 Z ?_)
  obtain rfl:=sI H
  exact rT _ func58 Z Z ⟨Z,HS⟩
theorem Fv.calls {a_:List (List Aw)} {left:Int} {y_a:Nat→(Ty.slice 129 Bb).Lay} {r1:Int} (HS:St w0 w (L)) (r_a:Ce w0 L (Ty.slice 129 Bb) A_a c_a y_a a_) (H:Fv.f K a_ left=some r1) :
    Calls prog 31 #[sV A_a a_ c_a,I left] w (Fv.post w0 L r1):=by
  unfold Fv.f at H
  refine cG func31 Z ?_
  refine rN 3 Z (rG (pS 2 Z (lS Z Z U22 Z (pS 2 Z (nL (rN 3 Z ?_))))))
  rcases iE H with ⟨c1,H⟩ | ⟨c1,H⟩
  ·
   refine yB Z (tT c1) (rN 2 Z ?_)
   obtain rfl:=sI H
   exact rT _ func31 Z Z ⟨Z,HS⟩
  refine nB Z (tF c1) (rN 6 Z ?_)
  refine G.name (fun h1 f1=>?_)
  have g1:∀ d1,d1≤K→∀ (b1 a1:Int) (w:World),Fv.l1 K d1 a_ b1 a1=some r1→St w0 w (L)→G prog 31 27 [(0,sV A_a a_ c_a),(1,I b1),(5,I a1)] h1 w (Fv.post w0 L r1):=by
   refine lp (fun _ _ w H _=>by rw [Fv.l1] at H; cases H) fun e1 k1 i1 b1 a1 w H HS=>?_
   rw [Fv.l1] at H
   subst f1
   refine rN 2 Z (rG (pS 2 Z (lS Z Z U22 Z (GO.lss Z Z Z Z (nL ?_)))))
   rcases iS H with ⟨c18,H⟩ | ⟨c18,H⟩
   ·
    refine nB Z (tF c18) (rN 3 Z ?_)
    obtain rfl:=sI H
    exact rT _ func31 Z Z ⟨Z,HS⟩
   refine yB Z (tT c18) (rN 4 Z ?_)
   obtain ⟨c19,H⟩:=iN H
   obtain ⟨t20,h21,H⟩:=bI H
   refine rG (pS 2 Z (iX Z U22 wX (rk r_a HS) c19 (GO.Dt (T:=(Ty.slice 129 Bb)) (n:=a1.toNat) (o:=0) HS r_a Z Z (getD_some (d:=[]) (ltN c19)) Z Z zH Z (mV Z (fJ zC Z (Kc.calls HS (Ce.elem r_a c19.1 c19.2) h21) (fun _ wd22 ⟨h23,HS⟩=>⟨_,h23,(aS Z (nL (rN 2 Z ?_)))⟩))))))
   rcases iE H with ⟨c24,H⟩ | ⟨c24,H⟩
   ·
    refine yB Z (tT c24) (rN 2 Z ?_)
    obtain rfl:=sI H
    exact rT _ func31 Z Z ⟨Z,HS⟩
   refine nB Z (tF c24) (rN 4 Z (gW (i1 e1 (lR _) _ _ _ H HS) Z))
  exact gW (g1 K (lR _) _ _ _ H HS) Z
theorem Gz.calls {a1:List (List Aw)} {left:Int} {y_a:Nat→(Ty.slice 129 Bb).Lay} {r1:Int} (HS:St w0 w (L)) (r_a:Ce w0 L (Ty.slice 129 Bb) A_a c_a y_a a1) (H:Gz.f K a1 left=some r1) :
    Calls prog 8 #[.agg [sV A_a a1 c_a].toArray,I left] w (Gz.post w0 L r1):=by
  unfold Gz.f at H
  refine cG func8 Z ?_
  refine sQ (rG (bA HS Z fun b1 wd2 HS=>aS Z (nL (sQ ?_))))
  obtain ⟨t3,h4,H⟩:=bI H
  refine rG (fL b1 0 lY Z (lB 0 HS Z wL Z (mV Z (fJ xN Z (Fv.calls HS (rD 1 r_a) h4) (fun _ wd5 ⟨h6,HS⟩=>⟨_,h6,(aS Z (nL (rN 3 Z ?_)))⟩)))))
  rcases iE H with ⟨c7,H⟩ | ⟨c7,H⟩
  ·
   refine yB Z (tT c7) (rN 2 Z ?_)
   obtain rfl:=sI H
   exact rT _ func8 Z Z ⟨Z,(HS.pk 1 [] Z)⟩
  refine nB Z (tF c7) (rN 3 Z ?_)
  obtain rfl:=sI H
  exact rT _ func8 Z Z ⟨Z,(HS.pk 1 [] Z)⟩
theorem Kl.calls {a1 c1:Int} {r1 r2:Int} (HS:St w0 w (L)) (H:Kl.f a1 c1=some (r1,r2)) :
    Calls prog 111 #[.agg [I a1,I c1].toArray] w (Kl.post w0 L r1 r2):=by
  unfold Kl.f at H
  refine cG func111 Z ?_
  refine sQ (rG (bA HS Z fun b1 wd2 HS=>GO.alloc HS Z Rp Z Z fun b3 wd4 HS=>nL (sQ (rG (GO.alloc HS Z Rp Z Z fun b5 wd6 HS=>nL (sQ (rG (fL b1 0 nQ Z (lB 2 HS Z na2 Z (fL b5 0 Hf Z (GO.Kq (j:=0) (vs:=[I a1]) ([I a1,I 0]) HS Z Z Z Z Z (htN na2 Z) Z Z Z fun wd7 HS=>?_)))))))))))
  refine nL (sQ (rG (fL b1 1 oP Z (lB 2 HS Z na2 Z (fL b5 1 Jy Z (GO.Kq (j:=0) (vs:=[I c1]) ([I a1,I c1]) HS Z Z Z Z Z (htN na2 Z) Z Z Z fun wd8 HS=>nL (sQ (rG (lW 0 HS Z J2 (sW 1 HS Z J2 Z fun wd9 HS=>nL ?_))))))))))
  obtain ⟨rfl,rfl⟩:=I6 H
  exact rT _ func111 Z (I8.J6 (j:=1) (vs:=[I a1,I c1]) HS Z Z Z J2) ⟨Z,(HS.pk 3 [] Z)⟩
theorem Gm.calls {a_:List Aw} {r1:List Aw} (HS:St w0 w (L)) (r_a:Ce w0 L Bb A_a c_a uu a_) (H:Gm.f K a_=some r1) :
    Calls prog 75 #[sV A_a a_ c_a] w (Gm.post w0 L r1):=by
  unfold Gm.f at H
  refine cG func75 Z ?_
  refine rN 3 Z ?_
  obtain ⟨c1,H⟩:=iN H
  obtain ⟨c2,H⟩:=iN H
  refine rG (mV Z (lS Z Z U80 Z (GO.make (T:=Bb) Hy () HS Av Z Z Z U81 yC Z Z Z c1 c2 Z fun b3 wd4 HS=>aS Z (nL (rN 5 Z ?_)))))
  refine G.name (fun h1 f1=>?_)
  have g1:∀ d1,d1≤K→∀ (b1:List Aw) (a1:Int) (w:World),Gm.l1 K d1 a_ b1 a1=some r1→St w0 w (Own Bb 83 (sb b3) ((a_.length:Int).toNat) uu b1::L)→G prog 75 23 [(0,sV A_a a_ c_a),(3,sV (sb b3) b1 ((a_.length:Int).toNat)),(4,I a1)] h1 w (Gm.post w0 L r1):=by
   refine lp (fun _ _ w H _=>by rw [Gm.l1] at H; cases H) fun e1 k1 i1 b1 a1 w H HS=>?_
   rw [Gm.l1] at H
   subst f1
   refine rN 2 Z (rG (pS 2 Z (lS Z Z U80 Z (GO.lss Z Z Z Z (nL ?_)))))
   rcases iS H with ⟨c29,H⟩ | ⟨c29,H⟩
   ·
    refine nB Z (tF c29) (rN 3 Z ?_)
    obtain rfl:=sI H
    exact rT _ func75 Z Z ⟨_,_,Z,HS⟩
   refine yB Z (tT c29) (rN 3 Z ?_)
   obtain ⟨c30,H⟩:=iN H
   obtain ⟨e31,h32,H⟩:=Ih H
   obtain ⟨t33,t34,h35,H⟩:=De H
   obtain ⟨c38,H⟩:=iN H
   refine rG (pS 4 Z (iX Z U80 yE (rk (rD 1 r_a) HS) c30 (GO.Lb (T:=Bb) (n:=a1.toNat) HS (rD 1 r_a) Z Z (Hm (ltN c30) h32) yL Z (fJ vK Z (Kl.calls HS  h35) (fun _ wd36 ⟨h37,HS⟩=>⟨_,h37,(iX Z U81 Nr (fun _=>⟨_,_,Z⟩) c38 (GO.Ia (T:=Bb) (j:=0) (n:=a1.toNat) (o:=0) (vs:=[I t33,I t34]) (⟨t33,t34⟩:Aw) HS Z Av Z Z Z Z (htA J2) Z (getD_some (d:=Hy) (ltN c38)) Z Z fun wd39 HS=>nL (G.len (t:=3) (m:=(b1.set a1.toNat (⟨t33,t34⟩:Aw)).length) Z (by simp only [List.length_set] <;> rfl) (rN 3 Z (gW (i1 e1 (lR _) _ _ _ H HS) Z)))))⟩)))))
  exact gW (g1 K (lR _) _ _ _ H HS) Z
theorem Fy.calls {a_:List (List Aw)} {y_a:Nat→(Ty.slice 129 Bb).Lay} {r1:List (List Aw)} (HS:St w0 w (L)) (r_a:Ce w0 L (Ty.slice 129 Bb) A_a c_a y_a a_) (H:Fy.f K a_=some r1) :
    Calls prog 37 #[sV A_a a_ c_a] w (Fy.post w0 L r1):=by
  unfold Fy.f at H
  refine cG func37 Z ?_
  refine rN 3 Z ?_
  obtain ⟨c1,H⟩:=iN H
  obtain ⟨c2,H⟩:=iN H
  refine rG (mV Z (lS Z Z U22 Z (GO.zO (S:=Bb) (u:=83) uu HS Z Z Z U31 yF Z c1 c2 Z fun b3 wd4 HS=>aS Z (nL (rN 5 Z ?_)))))
  refine G.name (fun h1 f1=>?_)
  have g1:∀ d1,d1≤K→∀ (b1:List (List Aw)) (y17:Nat→(Ty.slice 83 Bb).Lay) (a1:Int) (w:World),Fy.l1 K d1 a_ b1 a1=some r1→St w0 w (Own (Ty.slice 83 Bb) 81 (sb b3) ((a_.length:Int).toNat) y17 b1::L)→G prog 37 23 [(0,sV A_a a_ c_a),(3,sV (sb b3) b1 ((a_.length:Int).toNat)),(4,I a1)] h1 w (Fy.post w0 L r1):=by
   refine lp (fun _ _ _ w H _=>by rw [Fy.l1] at H; cases H) fun e1 k1 i1 b1 y17 a1 w H HS=>?_
   rw [Fy.l1] at H
   subst f1
   refine rN 2 Z (rG (pS 2 Z (lS Z Z U22 Z (GO.lss Z Z Z Z (nL ?_)))))
   rcases iS H with ⟨c30,H⟩ | ⟨c30,H⟩
   ·
    refine nB Z (tF c30) (rN 3 Z ?_)
    obtain rfl:=sI H
    exact rT _ func37 Z Z ⟨_,_,_,Z,HS⟩
   refine yB Z (tT c30) (rN 3 Z ?_)
   obtain ⟨c31,H⟩:=iN H
   obtain ⟨t32,h33,H⟩:=bI H
   obtain ⟨c38,H⟩:=iN H
   refine rG (pS 4 Z (iX Z U22 wX (rk (rD 1 r_a) HS) c31 (GO.Dt (T:=(Ty.slice 129 Bb)) (n:=a1.toNat) (o:=0) HS (rD 1 r_a) Z Z (getD_some (d:=[]) (ltN c31)) Z Z zH Z (fJ wV Z (Gm.calls HS (Ce.elem (rD 1 r_a) c31.1 c31.2) h33) (fun _ wd36 ⟨A34,c35,h37,HS⟩=>⟨_,h37,(iX Z U31 Nh (fun _=>⟨_,_,Z⟩) c38 ?_)⟩)))))
   replace HS:=HS.pk 2 [1,0] Z
   refine GO.uE (S:=Bb) (u:=83) HS Z Z Z Ng (ltN c38) fun y40 wd39 HS=>nL (G.len (t:=3) (m:=(b1.set a1.toNat t32).length) Z (by simp only [List.length_set] <;> rfl) (rN 3 Z (gW (i1 e1 (lR _) _ _ _ _ H HS) Z)))
  exact gW (g1 K (lR _) _ _ _ _ H HS) Z
theorem Ev.calls {a1:List (List Aw)} {y_a:Nat→(Ty.slice 129 Bb).Lay} {r1:List (List Aw)} (HS:St w0 w (L)) (r_a:Ce w0 L (Ty.slice 129 Bb) A_a c_a y_a a1) (H:Ev.f K a1=some r1) :
    Calls prog 10 #[.agg [sV A_a a1 c_a].toArray] w (Ev.post w0 L r1):=by
  unfold Ev.f at H
  refine cG func10 Z ?_
  refine sQ (rG (bA HS Z fun b1 wd2 HS=>GO.alloc HS Z uI Z Z fun b3 wd4 HS=>nL (sQ (rG (GO.alloc HS Z uI Z Z fun b5 wd6 HS=>nL (sQ ?_))))))
  obtain ⟨t7,h8,H⟩:=bI H
  refine rG (fL b1 0 lY Z (lB 2 HS Z wL Z (fJ wP Z (Fy.calls HS (rD 3 r_a) h8) (fun _ wd12 ⟨A9,c10,y11,h13,HS⟩=>⟨_,h13,(fL b5 0 H8 Z (GO.Kq (j:=1) (vs:=[sV A9 t7 c10]) ([sV A9 t7 c10]) HS Z Z Z Z Z (htN Kr Z) Z Z Z fun wd14 HS=>nL (sQ (rG (lW 1 HS Z Jn (sW 2 HS Z Jn Z fun wd15 HS=>nL ?_))))))⟩))))
  obtain rfl:=sI H
  exact rT _ func10 Z (I8.J6 (j:=2) (vs:=[sV A9 t7 c10]) HS Z Z Z Jn) ⟨_,_,_,Z,(HS.pk 4 [0] Z)⟩
theorem D7.calls {a1:List (List Aw)} {y_a:Nat→(Ty.slice 83 Bb).Lay} {r1:Int} (HS:St w0 w (L)) (r_a:Ce w0 L (Ty.slice 83 Bb) A_a c_a y_a a1) (H:D7.f a1=some r1) :
    Calls prog 59 #[.agg [sV A_a a1 c_a].toArray] w (D7.post w0 L r1):=by
  unfold D7.f at H
  refine cG func59 Z ?_
  refine sQ (rG (bA HS Z fun b1 wd2 HS=>aS Z (nL (sQ (rG (fL b1 0 H8 Z (lB 0 HS Z Kr Z (lS Z Z U31 Z (aS Z (nL ?_))))))))))
  obtain rfl:=sI H
  exact rT _ func59 Z Z ⟨Z,(HS.pk 1 [] Z)⟩
theorem Jt.calls {n_ low high:Int} {r1:Bool} (HS:St w0 w (L)) (H:Jt.f n_ low high=some r1) :
    Calls prog 33 #[I n_,I low,I high] w (Jt.post w0 L r1):=by
  unfold Jt.f at H
  refine cG func33 Z ?_
  refine rN 3 Z ?_
  rcases iS H with ⟨c1,H⟩ | ⟨c1,H⟩
  ·
   refine rG (pS 4 Z (kN 10 Z (tF c1) (oF Z (oF Z (oF Z (pS 2 Z (nL ?_)))))))
   obtain rfl:=sI H
   exact rT _ func33 Z Z ⟨Z,HS⟩
  refine rG (pS 4 Z (kN 10 Z (tT c1) (oN Z (mV Z (bK (oN Z (mV Z (bK (oN Z (GO.leq Z Z Z Z (bK (pS 2 Z (nL ?_)))))))))))))
  obtain rfl:=sI H
  exact rT _ func33 Z Z ⟨Z,HS⟩
theorem Jo.calls {p:Int} {r1:Bool} (HS:St w0 w (L)) (H:Jo.f p=some r1) :
    Calls prog 60 #[I p] w (Jo.post w0 L r1):=by
  unfold Jo.f at H
  refine cG func60 Z ?_
  refine rN 3 Z ?_
  rcases iS H with ⟨c1,H⟩ | ⟨c1,H⟩
  ·
   refine rG (pS 3 Z (kN 5 Z (tF c1) (oF Z (oF Z (pS 2 Z (nL ?_))))))
   obtain rfl:=sI H
   exact rT _ func60 Z Z ⟨Z,HS⟩
  refine rG (pS 3 Z (kN 5 Z (tT c1) (oN Z (mV Z (bK (oN Z (GO.lss Z Z Z Z (bK (pS 2 Z (nL ?_))))))))))
  obtain rfl:=sI H
  exact rT _ func60 Z Z ⟨Z,HS⟩
theorem F9.calls {p:Int} {r1:List Int} (HS:St w0 w (L)) (H:F9.f K p=some r1) :
    Calls prog 101 #[I p] w (F9.post w0 L r1):=by
  unfold F9.f at H
  refine cG func101 Z ?_
  refine rN 3 Z (rG (GO.Fj (el:=2) ([I 0,I 1,I 2,I 3]) HS Z Z (fun _=>by kernel_rfl) Z fun b1 wd2 HS=>?_))
  replace HS:=HS.Ij (T:=(Ad .i64)) (j:=0) Z Av uu ([0,1,2,3]:List Int) Z (K9 Z)
  refine GO.Kj (t:=8) (m:=([0,1,2,3]:List Int).length) (c':=([0,1,2,3]:List Int).length) Z Z Z (aS Z (nL (sQ (rG (GO.Fj (el:=2) ([]) HS Z Z (fun _=>by kernel_rfl) Z fun b3 wd4 HS=>?_)))))
  replace HS:=HS.Ij (T:=(Ad .i64)) (j:=0) Z Av uu ([]:List Int) Z (K9 Z)
  refine GO.Kj (t:=9) (m:=([]:List Int).length) (c':=([]:List Int).length) Z Z Z (aS Z (nL (rN 7 Z ?_)))
  refine G.name (fun n1 k1=>?_)
  have m1:∀ h1,h1≤K→∀ (c1:Int) (A25:Option Addr) (c26:Nat) (a1:List Int) (A28:Option Addr) (c29:Nat) (e1:List Int) (d1 f1:Int) (w:World),F9.l1 K h1 c1 a1 e1 d1 f1=some r1→St w0 w (Own (Ad .i64) 2 A25 c26 uu a1::Own (Ad .i64) 2 A28 c29 uu e1::L)→G prog 101 43 [(0,I c1),(3,sV A25 a1 c26),(4,sV A28 e1 c29),(5,I d1),(6,I f1)] n1 w (F9.post w0 L r1):=by
   refine lp (fun _ _ _ _ _ _ _ _ _ w H _=>by rw [F9.l1] at H; cases H) fun g1 o1 i1 c1 A25 c26 a1 A28 c29 e1 d1 f1 w H HS=>?_
   rw [F9.l1] at H
   subst k1
   refine rN 3 Z ?_
   rcases iS H with ⟨c56,H⟩ | ⟨c56,H⟩
   ·
    refine nB Z (tF c56) (rN 3 Z ?_)
    obtain rfl:=sI H
    exact rT _ func101 Z Z ⟨_,_,Z,(HS.pk 2 [1] Z)⟩
   refine yB Z (tT c56) (rN 4 Z ?_)
   obtain ⟨c57,H⟩:=Lc H
   refine rG (pS 2 Z (GO.quo Z Z Z c57 Z (aS Z (nL (sQ (rG (pS 2 Z (GO.rem Z Z Z c57 Z (aS Z (nL (sQ ?_)))))))))))
   obtain ⟨c58,H⟩:=iN H
   obtain ⟨c64,H⟩:=iN H
   refine rG (pS 3 Z (iX Z U26 sz2 (rk (ro 0 Z) HS) c58 (GO.Dt (T:=(Ad .i64)) (n:=(w64 (c1.tdiv d1)).toNat) (o:=0) HS (ro 0 Z) Z Z (getD_some (d:=0) (ltN c58)) Z Z na2 Z (GO.Fj (el:=2) ([I (a1.getD ((w64 (c1.tdiv d1)).toNat) 0)]) HS Z Z (fun _=>by kernel_rfl) Z fun b59 wd60 HS=>GO.app1 (T:=(Ad .i64)) (j:=2) (jb:=0) (a1.getD ((w64 (c1.tdiv d1)).toNat) 0) HS Z Z Av Z Z Z U26 Le Z Z Z c64 Z fun A62 c63 wd61 HS=>aS Z (nL (sQ ?_))))))
   obtain ⟨c67,H⟩:=iN H
   obtain ⟨c71,H⟩:=iN H
   obtain ⟨c72,H⟩:=iN H
   obtain ⟨c76,H⟩:=iN H
   refine G.Jg mixed (fun w=>St w0 w (Own (Ad .i64) 2 A25 c26 uu a1::L)) [3,8] [1,2,5,6,7,3,8,0,4,9,10] [] (by kernel_rfl) (by kernel_rfl) (HS.drew.pk 3 [1] Z) ?_
   replace HS:=HS.drew
   refine GX.ps 5 Z (GX.ls Z Z Z (HS.pk 3 [1] Z) (fun _ HS _ g=>GO.slH (T:=(Ad .i64)) HS (ro 0 Z) Z Z Z U26 sz2 c67.1 c67.2 Z g) Z (GX.ls Z Z Z (HS.pk 3 [1] Z) (fun _ HS _ g=>GO.slL (T:=(Ad .i64)) HS (ro 0 Z) Z Z Z U26 sz2 c72.1 c72.2 Z g) Z (GX.l2 Z (GO.Fj (el:=2) ([]) HS Z Z (fun _=>by kernel_rfl) Z fun b65 wd66 HS=>GX.fin (HS.pk 4 [2] Z) (GX.l2 Z ?_)))))
   replace HS:=HS.Ij (T:=(Ad .i64)) (j:=0) Z Av uu ([]:List Int) Z (K9 Z)
   refine GO.Kj (t:=27) (m:=([]:List Int).length) (c':=([]:List Int).length) Z Z Z (GO.oM (T:=(Ad .i64)) (j:=0) HS Z (Ce.cut (ro 2 Z) (Nat.zero_le _) (leN c67)) Av Z Z Z U26 Le Z Z Z c71 Z (fun _=>Z) fun A69 c70 wd68 HS=>GX.fin (HS.pk 4 [2] Z) (GX.l2 Z (GO.oM (T:=(Ad .i64)) (j:=0) HS Z (Ce.cut (ro 2 Z) (leN c72) (lR _)) Av Z Z Z U26 Le Z Z Z c76 Z (fun _=>Z) fun A74 c75 wd73 HS=>GX.fin (HS.pk 4 [2] Z) (GX.ps 1 Z (GX.nil (rN 2 Z ?_))))))
   rcases iS H with ⟨c77,H⟩ | ⟨c77,H⟩
   ·
    refine nB Z (tF c77) (rN 4 Z (gW (i1 g1 (lR _) _ _ _ _ _ _ _ _ _ _ H (HS.pk 4 [0,3] Z)) Z))
   refine yB Z (tT c77) ?_
   obtain ⟨c78,H⟩:=Lc H
   refine rG (pS 2 Z (GO.quo Z Z Z c78 Z (aS Z (nL (rN 3 Z (gW (i1 g1 (lR _) _ _ _ _ _ _ _ _ _ _ H (HS.pk 4 [0,3] Z)) Z))))))
  exact gW (m1 K (lR _) _ _ _ _ _ _ _ _ _ _ H (HS.pk 2 [1,0] Z)) Z
theorem Ef.calls {p k_ r1:Int} (HS:St w0 w (L)) (H:Ef.f K p k_=some r1) :
    Calls prog 61 #[I p,I k_] w (Ef.post w0 L r1):=by
  unfold Ef.f at H
  refine cG func61 Z ?_
  refine rN 3 Z ?_
  obtain ⟨t1,h2,H⟩:=bI H
  obtain ⟨c7,H⟩:=iN H
  refine rG (mV Z (fJ mP Z (F9.calls HS  h2) (fun _ wd5 ⟨A3,c4,h6,HS⟩=>⟨_,h6,(mV Z (iX Z U26 sz2 (rk (ro 0 Z) HS) c7 (GO.Dt (T:=(Ad .i64)) (n:=k_.toNat) (o:=0) HS (ro 0 Z) Z Z (getD_some (d:=0) (ltN c7)) Z Z na2 Z (aS Z (nL ?_)))))⟩)))
  obtain rfl:=sI H
  exact rT _ func61 Z Z ⟨Z,(HS.pk 1 [] Z)⟩
theorem Ff.calls {a_:List Int} {r1:Int} (HS:St w0 w (L)) (r_a:Ce w0 L (Ad .i64) A_a c_a uu a_) (H:Ff.f K a_=some r1) :
    Calls prog 102 #[sV A_a a_ c_a] w (Ff.post w0 L r1):=by
  unfold Ff.f at H
  refine cG func102 Z ?_
  refine rN 11 Z ?_
  refine G.name (fun q1 m1=>?_)
  have p1:∀ g1,g1≤K→∀ (p_4 a1 i_6:Int) (w:World),Ff.l1 K g1 a_ p_4 a1 i_6=some r1→St w0 w (L)→G prog 102 42 [(0,sV A_a a_ c_a),(3,I p_4),(4,I a1),(5,I i_6)] q1 w (Ff.post w0 L r1):=by
   refine lp (fun _ _ _ w H _=>by rw [Ff.l1] at H; cases H) fun f1 t1 s1 p_4 a1 i_6 w H HS=>?_
   rw [Ff.l1] at H
   subst m1
   refine rN 3 Z ?_
   rcases iS H with ⟨c23,H⟩ | ⟨c23,H⟩
   ·
    refine nB Z (tF c23) (rN 3 Z ?_)
    obtain rfl:=sI H
    exact rT _ func102 Z Z ⟨Z,HS⟩
   refine yB Z (tT c23) (rN 4 Z ?_)
   obtain ⟨c24,H⟩:=iN H
   refine rG (pS 2 Z (iX Z U26 sz2 (rk r_a HS) c24 (GO.Dt (T:=(Ad .i64)) (n:=i_6.toNat) (o:=0) HS r_a Z Z (getD_some (d:=0) (ltN c24)) Z Z na2 Z (aS Z (nL (rN 5 Z ?_))))))
   refine G.name (fun o1 n1=>?_)
   have i1:∀ h1,h1≤f1→∀ (d1 b1:Int) (w:World),Ff.l4 K h1 a_ p_4 a1 i_6 d1 b1=some r1→St w0 w (L)→G prog 102 42 [(0,sV A_a a_ c_a),(3,I p_4),(4,I a1),(5,I i_6),(6,I d1),(7,I b1)] o1 w (Ff.post w0 L r1):=by
    refine lp (fun _ _ w H _=>by rw [Ff.l4] at H; cases H) fun c1 k1 e1 d1 b1 w H HS=>?_
    rw [Ff.l4] at H
    subst n1
    refine rN 3 Z ?_
    rcases iS H with ⟨c35,H⟩ | ⟨c35,H⟩
    ·
     refine nB Z (tF c35) (rN 3 Z ?_)
     obtain ⟨c38,H⟩:=Lc H
     refine rG (pS 3 Z (GO.quo Z Z Z c38 Z (aS Z (nL (rN 3 Z (gW (s1 c1 (Nat.le_of_succ_le k1) _ _ _ _ H HS) Z))))))
    refine yB Z (tT c35) (rN 4 Z ?_)
    obtain ⟨c36,H⟩:=iN H
    refine G.lex mixed [0,1,2,4,5,6,3,7,8] (by kernel_rfl) ?_
    replace HS:=HS.drew
    refine GX.ps 2 Z (qL Z Z (fun _ _ g=>iX Z U26 sz2 (rk r_a HS) c36 g) Z (GX.ps 2 Z (qL Z Z (fun _ _ g=>iX Z U26 sz2 (rk r_a HS) c24 g) Z (GX.l1 Z Z Z (fun _ g=>GO.Dt (T:=(Ad .i64)) (n:=b1.toNat) (o:=0) HS r_a Z Z (getD_some (d:=0) (ltN c36)) Z Z na2 Z g) Z (GX.l1 Z Z Z (fun _ g=>GO.Dt (T:=(Ad .i64)) (n:=i_6.toNat) (o:=0) HS r_a Z Z (getD_some (d:=0) (ltN c24)) Z Z na2 Z g) Z (GX.ps 1 Z (GX.nil ?_)))))))
    rcases iS H with ⟨c37,H⟩ | ⟨c37,H⟩
    ·
     refine nB Z (tF c37) (rN 4 Z (gW (e1 c1 (lR _) _ _ _ H HS) Z))
    refine yB Z (tT c37) (rN 4 Z (gW (e1 c1 (lR _) _ _ _ H HS) Z))
   exact gW (i1 f1 (lR _) _ _ _ H HS) Z
  exact gW (p1 K (lR _) _ _ _ _ H HS) Z
theorem Gc.calls {p r1:Int} (HS:St w0 w (L)) (H:Gc.f K p=some r1) :
    Calls prog 62 #[I p] w (Gc.post w0 L r1):=by
  unfold Gc.f at H
  refine cG func62 Z ?_
  refine rN 3 Z ?_
  obtain ⟨t1,h2,H⟩:=bI H
  refine rG (mV Z (fJ mP Z (F9.calls HS  h2) (fun _ wd5 ⟨A3,c4,h6,HS⟩=>⟨_,h6,(aS Z (nL (sQ (rG (GO.Fj (el:=2) ([I 0,I 0,I 0,I 0]) HS Z Z (fun _=>by kernel_rfl) Z fun b7 wd8 HS=>?_)))))⟩)))
  replace HS:=HS.Ij (T:=(Ad .i64)) (j:=0) Z Av uu ([0,0,0,0]:List Int) Z (K9 Z)
  refine GO.Kj (t:=8) (m:=([0,0,0,0]:List Int).length) (c':=([0,0,0,0]:List Int).length) Z Z Z (aS Z (nL (rN 5 Z ?_)))
  refine G.name (fun g1 e1=>?_)
  have f1:∀ c1,c1≤K→∀ (b1:List Int) (a1:Int) (w:World),Gc.l1 K c1 t1 b1 a1=some r1→St w0 w (Own (Ad .i64) 2 A3 c4 uu t1::Own (Ad .i64) 2 (sb b7) (([0,0,0,0]:List Int).length) uu b1::L)→G prog 62 22 [(3,sV A3 t1 c4),(4,sV (sb b7) b1 (([0,0,0,0]:List Int).length)),(5,I a1)] g1 w (Gc.post w0 L r1):=by
   refine lp (fun _ _ w H _=>by rw [Gc.l1] at H; cases H) fun d1 i1 h1 b1 a1 w H HS=>?_
   rw [Gc.l1] at H
   subst e1
   refine rN 3 Z ?_
   rcases iS H with ⟨c22,H⟩ | ⟨c22,H⟩
   ·
    refine nB Z (tF c22) (rN 2 Z ?_)
    obtain ⟨t26,h27,H⟩:=bI H
    refine rG (mV Z (fJ uF Z (Ff.calls HS (ro 1 Z) h27) (fun _ wd28 ⟨h29,HS⟩=>⟨_,h29,(aS Z (nL ?_))⟩)))
    obtain rfl:=sI H
    exact rT _ func62 Z Z ⟨Z,(HS.pk 2 [] Z)⟩
   refine yB Z (tT c22) (rN 3 Z ?_)
   obtain ⟨c23,H⟩:=iN H
   obtain ⟨c24,H⟩:=iN H
   refine rG (pS 3 Z (iX Z U26 sz2 (rk (ro 0 Z) HS) c23 (GO.Dt (T:=(Ad .i64)) (n:=a1.toNat) (o:=0) HS (ro 0 Z) Z Z (getD_some (d:=0) (ltN c23)) Z Z na2 Z (mV Z (iX Z U26 sz2 (fun _=>⟨_,_,Z⟩) c24 (GO.Ia (T:=(Ad .i64)) (j:=1) (n:=(t1.getD a1.toNat 0).toNat) (o:=0) (vs:=[I a1]) a1 HS Z Av Z Z Z Z (htN na2 Z) Z (getD_some (d:=0) (ltN c24)) Z Z fun wd25 HS=>nL (G.len (t:=4) (m:=(b1.set ((t1.getD a1.toNat 0).toNat) a1).length) Z (by simp only [List.length_set] <;> rfl) (rN 3 Z (gW (h1 d1 (lR _) _ _ _ H HS) Z)))))))))
  exact gW (f1 K (lR _) _ _ _ H (HS.pk 2 [1,0] Z)) Z
theorem Al.calls {a1:List (List Aw)} {y_a:Nat→(Ty.slice 83 Bb).Lay} {r1:Bool} (HS:St w0 w (L)) (r_a:Ce w0 L (Ty.slice 83 Bb) A_a c_a y_a a1) (H:Al.f K a1=some r1) :
    Calls prog 32 #[.agg [sV A_a a1 c_a].toArray] w (Al.post w0 L r1):=by
  unfold Al.f at H
  refine cG func32 Z ?_
  refine sQ (rG (bA HS Z fun b1 wd2 HS=>aS Z (nL (rN 2 Z ?_))))
  obtain ⟨t3,h4,H⟩:=bI H
  refine rG (lW 0 HS Z Jn (fJ Tf Z (D7.calls HS (rD 1 r_a) h4) (fun _ wd5 ⟨h6,HS⟩=>⟨_,h6,(GO.gtr Z Z Z Z (nL ?_))⟩)))
  rcases iE H with ⟨c7,H⟩ | ⟨c7,H⟩
  ·
   refine yB Z (tT c7) (rN 2 Z ?_)
   obtain rfl:=sI H
   exact rT _ func32 Z Z ⟨Z,(HS.pk 1 [] Z)⟩
  refine nB Z (tF c7) (rN 6 Z ?_)
  refine G.name (fun t1 e2=>?_)
  have g2:∀ o1,o1≤K→∀ (e1:Int) (w:World),Al.l1 K o1 a1 e1=some r1→St w0 w (Box b1 33 [sV A_a a1 c_a]::L)→G prog 32 96 [(1,pT b1),(3,I e1)] t1 w (Al.post w0 L r1):=by
   refine lp (fun _ w H _=>by rw [Al.l1] at H; cases H) fun k1 k2 h2 e1 w H HS=>?_
   rw [Al.l1] at H
   subst e2
   refine rN 2 Z (rG (mV Z (fL b1 0 H8 Z (lB 0 HS Z Kr Z (lS Z Z U31 Z (GO.lss Z Z Z Z (nL ?_)))))))
   rcases iE H with ⟨c1091,H⟩ | ⟨c1091,H⟩
   ·
    refine yB Z (tT c1091) (rN 4 Z ?_)
    obtain ⟨c1092,H⟩:=iN H
    refine rG (fL b1 0 H8 Z (lB 0 HS Z Kr Z (mV Z (iX Z U31 Nh (rk (rD 1 r_a) HS) c1092 (GO.Dt (T:=(Ty.slice 83 Bb)) (n:=e1.toNat) (o:=0) HS (rD 1 r_a) Z Z (getD_some (d:=[]) (ltN c1092)) Z Z Ng Z (lS Z Z U81 Z (GO.neq Z Z Z Z (nL ?_))))))))
    rcases iS H with ⟨c1093,H⟩ | ⟨c1093,H⟩
    ·
     refine yB Z (nF c1093) (rN 2 Z ?_)
     obtain rfl:=sI H
     exact rT _ func32 Z Z ⟨Z,(HS.pk 1 [] Z)⟩
    refine nB Z (nT c1093) (rN 4 Z (gW (h2 k1 (lR _) _ _ H HS) Z))
   refine nB Z (tF c1091) (rN 6 Z ?_)
   refine G.name (fun z1 v1=>?_)
   have u1:∀ p1,p1≤k1→∀ (c1:Int) (w:World),Al.l28 K p1 a1 c1=some r1→St w0 w (Box b1 33 [sV A_a a1 c_a]::L)→G prog 32 96 [(1,pT b1),(4,I c1)] z1 w (Al.post w0 L r1):=by
    refine lp (fun _ w H _=>by rw [Al.l28] at H; cases H) fun q1 i2 d2 c1 w H HS=>?_
    rw [Al.l28] at H
    subst v1
    refine rN 2 Z ?_
    obtain ⟨t1453,h1454,H⟩:=bI H
    refine rG (mV Z (lW 0 HS Z Jn (fJ Tf Z (D7.calls HS (rD 1 r_a) h1454) (fun _ wd1455 ⟨h1456,HS⟩=>⟨_,h1456,(GO.lss Z Z Z Z (nL ?_))⟩))))
    rcases iS H with ⟨c1457,H⟩ | ⟨c1457,H⟩
    ·
     refine nB Z (tF c1457) (rN 3 Z ?_)
     obtain rfl:=sI H
     exact rT _ func32 Z Z ⟨Z,(HS.pk 1 [] Z)⟩
    refine yB Z (tT c1457) (rN 7 Z ?_)
    refine G.name (fun a2 f2=>?_)
    have y1:∀ m1,m1≤q1→∀ (d1:Int) (w:World),Al.l37 K m1 a1 c1 d1=some r1→St w0 w (Box b1 33 [sV A_a a1 c_a]::L)→G prog 32 96 [(1,pT b1),(4,I c1),(5,I d1)] a2 w (Al.post w0 L r1):=by
     refine lp (fun _ w H _=>by rw [Al.l37] at H; cases H) fun f1 c2 g1 d1 w H HS=>?_
     rw [Al.l37] at H
     subst f2
     refine rN 3 Z ?_
     rcases iS H with ⟨c1574,H⟩ | ⟨c1574,H⟩
     ·
      refine nB Z (tF c1574) (rN 4 Z (gW (d2 f1 (Nat.le_of_succ_le c2) _ _ H HS) Z))
     refine yB Z (tT c1574) (rN 4 Z ?_)
     obtain ⟨c1575,H⟩:=iN H
     obtain ⟨c1576,H⟩:=iN H
     obtain ⟨e1577,h1578,H⟩:=Ih H
     refine rG (fL b1 0 H8 Z (lB 0 HS Z Kr Z (mV Z (iX Z U31 Nh (rk (rD 1 r_a) HS) c1575 (GO.Dt (T:=(Ty.slice 83 Bb)) (n:=c1.toNat) (o:=0) HS (rD 1 r_a) Z Z (getD_some (d:=[]) (ltN c1575)) Z Z Ng Z (mV Z (GO.ix Z Z Z U81 Nr ((Ce.elem (rD 1 r_a) c1575.1 c1575.2) _ HS).2.2.1 c1576.1 c1576.2 Z (GO.Lb (T:=Bb) (n:=d1.toNat) HS (Ce.elem (rD 1 r_a) c1575.1 c1575.2) Z Z (Hm (ltN c1576) h1578) J2 Z (GO.alloc HS Z Rp Z Z fun b1579 wd1580 HS=>sW 0 HS Z J2 Z fun wd1581 HS=>nL (rN 2 Z ?_))))))))))
     refine G.Oa (fun x1 b2=>?_)
     have s1:∀ n1,n1≤f1→∀ (x1584:Bool) (w:World),Al.j40 K n1 a1 c1 d1 e1577 x1584=some r1→St w0 w (Box b1 33 [sV A_a a1 c_a]::Box b1579 83 [I e1577.Tet,I e1577.Perm]::L)→G prog 32 96 [(1,pT b1),(4,I c1),(5,I d1),(6,pT b1579),(51,.bool x1584)] x1 w (Al.post w0 L r1):=by
      refine jp (fun _ w H _=>by rw [Al.j40] at H; cases H) fun i1 h1 x1584 w H HS=>?_
      rw [Al.j40] at H
      subst b2
      rcases iE H with ⟨c1585,H⟩ | ⟨c1585,H⟩
      ·
       refine yB Z c1585 (rN 3 Z (gW (g1 i1 (Nat.le_of_succ_le h1) _ _ H (HS.pk 2 [0] Z)) Z))
      refine nB Z (Cy c1585) (rN 3 Z ?_)
      obtain ⟨t1599,h1600,H⟩:=bI H
      obtain ⟨t1603,h1604,H⟩:=bI H
      rcases iS H with ⟨c1607,H⟩ | ⟨c1607,H⟩
      ·
       refine G.Jg mixed (fun w=>St w0 w (Box b1 33 [sV A_a a1 c_a]::Box b1579 83 [I e1577.Tet,I e1577.Perm]::L)) [1,2,9] [0,1,2,3,4,5,6,7,8,9,10,11,12] [] (by kernel_rfl) (by kernel_rfl) HS.drew ?_
       replace HS:=HS.drew
       refine qL Z Z (fun _ _ g=>fL b1579 0 Hf Z g) Z (GX.ls Z Z Z HS (fun _ HS _ g=>lB 1 HS Z na2 Z g) Z (GX.ls Z Z Z HS (fun _ HS _ g=>lW 0 HS Z Jn g) Z (GX.l2 Z (fJ Tf Z (D7.calls HS (rD 2 r_a) h1600) (fun _ wd1601 ⟨h1602,HS⟩=>⟨_,h1602,(GX.fin HS (GX.ps 1 Z (GX.l2 Z (fJ kP Z (Jt.calls HS  h1604) (fun _ wd1605 ⟨h1606,HS⟩=>⟨_,h1606,(GX.fin HS (GX.ps 1 Z (qL Z Z (fun _ _ g=>mV Z (kN 59 Z (congrArg Bool.not (Cy c1607)) g)) Z (qL Z Z (fun _ _ g=>oF Z g) Z (GX.ls Z Z Z HS (fun _ HS _ g=>oF Z g) Z (GX.l2 Z ?_))))))⟩)))))⟩)))))
       refine oF Z (GX.fin HS (qL Z Z (fun _ _ g=>oF Z g) Z (GX.ps 1 Z (GX.nil (rN 3 Z ?_)))))
       obtain rfl:=sI H
       exact rT _ func32 Z Z ⟨Z,(HS.pk 2 [] Z)⟩
      obtain ⟨t1608,h1609,H⟩:=bI H
      refine G.Jg mixed (fun w=>St w0 w (Box b1 33 [sV A_a a1 c_a]::Box b1579 83 [I e1577.Tet,I e1577.Perm]::L)) [1,2,9] [0,1,2,3,4,5,6,7,8,9,10,11,12] [] (by kernel_rfl) (by kernel_rfl) HS.drew ?_
      replace HS:=HS.drew
      refine qL Z Z (fun _ _ g=>fL b1579 0 Hf Z g) Z (GX.ls Z Z Z HS (fun _ HS _ g=>lB 1 HS Z na2 Z g) Z (GX.ls Z Z Z HS (fun _ HS _ g=>lW 0 HS Z Jn g) Z (GX.l2 Z (fJ Tf Z (D7.calls HS (rD 2 r_a) h1600) (fun _ wd1601 ⟨h1602,HS⟩=>⟨_,h1602,(GX.fin HS (GX.ps 1 Z (GX.l2 Z (fJ kP Z (Jt.calls HS  h1604) (fun _ wd1605 ⟨h1606,HS⟩=>⟨_,h1606,(GX.fin HS (GX.ps 1 Z (qL Z Z (fun _ _ g=>mV Z (kN 59 Z (congrArg Bool.not c1607) g)) Z (qL Z Z (fun _ _ g=>oN Z (fL b1579 1 Jy Z (bK g))) Z (GX.ls Z Z Z HS (fun _ HS _ g=>oN Z (lB 1 HS Z na2 Z (bK g))) Z (GX.l2 Z ?_))))))⟩)))))⟩)))))
      refine oN Z (fJ zJ Z (Jo.calls HS  h1609) (fun _ wd1610 ⟨h1611,HS⟩=>⟨_,h1611,(bK (GX.fin HS (qL Z Z (fun _ _ g=>oN Z (GO.not Z Z Z (bK g))) Z (GX.ps 1 Z (GX.nil ?_)))))⟩))
      rcases iS H with ⟨c1612,H⟩ | ⟨c1612,H⟩
      ·
       refine yB Z (congrArg Bool.not (Cy c1612)) (rN 2 Z ?_)
       obtain rfl:=sI H
       exact rT _ func32 Z Z ⟨Z,(HS.pk 2 [] Z)⟩
      refine nB Z (congrArg Bool.not c1612) (rN 2 Z ?_)
      obtain ⟨t1613,h1614,H⟩:=bI H
      refine rG (fL b1579 1 Jy Z (lB 1 HS Z na2 Z (mV Z (fJ Qw Z (Ef.calls HS  h1614) (fun _ wd1615 ⟨h1616,HS⟩=>⟨_,h1616,(aS Z (nL (sQ ?_)))⟩)))))
      obtain ⟨t1617,h1618,H⟩:=bI H
      refine rG (mV Z (fL b1579 1 Jy Z (lB 1 HS Z na2 Z (fJ rE Z (Gc.calls HS  h1618) (fun _ wd1619 ⟨h1620,HS⟩=>⟨_,h1620,(GO.Il (.agg [I c1,I t1617].toArray) Z Z (fun _=>by kernel_rfl) Z (GO.alloc HS Z Rp Z Z fun b1621 wd1622 HS=>sW 0 HS Z J2 Z fun wd1623 HS=>nL (sQ ?_)))⟩)))))
      obtain ⟨c1624,H⟩:=iN H
      obtain ⟨c1625,H⟩:=iN H
      obtain ⟨e1626,h1627,H⟩:=Ih H
      rcases iS H with ⟨c1628,H⟩ | ⟨c1628,H⟩
      ·
       refine G.lex mixed [0,2,6,1,3,4,5,7,8,9,10,11,12,14,13,15,16,17,18,19,20,21] (by kernel_rfl) ?_
       replace HS:=HS.drew
       refine qL Z Z (fun _ _ g=>fL b1 0 H8 Z g) Z (qL Z Z (fun _ _ g=>fL b1579 0 Hf Z g) Z (GX.ps 1 Z (GX.l1 Z Z Z (fun _ g=>lB 1 HS Z Kr Z g) Z (GX.l1 Z Z Z (fun _ g=>lB 2 HS Z na2 Z g) Z (qL Z Z (fun _ _ g=>iX Z U31 Nh (rk (rD 3 r_a) HS) c1624 g) Z (GX.l1 Z Z Z (fun _ g=>GO.Dt (T:=(Ty.slice 83 Bb)) (n:=e1577.Tet.toNat) (o:=0) HS (rD 3 r_a) Z Z (getD_some (d:=[]) (ltN c1624)) Z Z Ng Z g) Z (qL Z Z (fun _ _ g=>GO.ix Z Z Z U81 Nr ((Ce.elem (rD 3 r_a) c1624.1 c1624.2) _ HS).2.2.1 c1625.1 c1625.2 Z g) Z (GX.l1 Z Z Z (fun _ g=>GO.Lb (T:=Bb) (n:=t1613.toNat) HS (Ce.elem (rD 3 r_a) c1624.1 c1624.2) Z Z (Hm (ltN c1625) h1627) J2 Z g) Z (GX.l1 Z Z Z (fun _ g=>lW 0 HS Z J2 g) Z (qL Z Z (fun _ _ g=>GO.uW Z Z Z gG (fun _=>iC) Z g) Z (qL Z Z (fun _ _ g=>mV Z (kN 85 Z (nF c1628) g)) Z (qL Z Z (fun _ _ g=>oF Z g) Z (qL Z Z (fun _ _ g=>oF Z g) Z (GX.l1 Z Z Z (fun _ g=>oF Z g) Z ?_))))))))))))))
       refine qL Z Z (fun _ _ g=>oF Z g) Z (qL Z Z (fun _ _ g=>oF Z g) Z (qL Z Z (fun _ _ g=>GO.Lr Z Z Z Z Z Z g) Z (qL Z Z (fun _ _ g=>GO.Lr Z Z Z Z Z Z g) Z (qL Z Z (fun _ _ g=>GO.Lr Z Z Z Z Z Z g) Z (qL Z Z (fun _ _ g=>oF Z g) Z (GX.ps 1 Z (GX.nil (rN 3 Z ?_))))))))
       obtain rfl:=sI H
       exact rT _ func32 Z Z ⟨Z,(HS.pk 3 [] Z)⟩
      rcases iS H with ⟨c1629,H⟩ | ⟨c1629,H⟩
      ·
       refine G.lex mixed [0,2,6,1,3,4,5,7,8,9,10,11,12,14,13,15,16,17,18,19,20,21] (by kernel_rfl) ?_
       replace HS:=HS.drew
       refine qL Z Z (fun _ _ g=>fL b1 0 H8 Z g) Z (qL Z Z (fun _ _ g=>fL b1579 0 Hf Z g) Z (GX.ps 1 Z (GX.l1 Z Z Z (fun _ g=>lB 1 HS Z Kr Z g) Z (GX.l1 Z Z Z (fun _ g=>lB 2 HS Z na2 Z g) Z (qL Z Z (fun _ _ g=>iX Z U31 Nh (rk (rD 3 r_a) HS) c1624 g) Z (GX.l1 Z Z Z (fun _ g=>GO.Dt (T:=(Ty.slice 83 Bb)) (n:=e1577.Tet.toNat) (o:=0) HS (rD 3 r_a) Z Z (getD_some (d:=[]) (ltN c1624)) Z Z Ng Z g) Z (qL Z Z (fun _ _ g=>GO.ix Z Z Z U81 Nr ((Ce.elem (rD 3 r_a) c1624.1 c1624.2) _ HS).2.2.1 c1625.1 c1625.2 Z g) Z (GX.l1 Z Z Z (fun _ g=>GO.Lb (T:=Bb) (n:=t1613.toNat) HS (Ce.elem (rD 3 r_a) c1624.1 c1624.2) Z Z (Hm (ltN c1625) h1627) J2 Z g) Z (GX.l1 Z Z Z (fun _ g=>lW 0 HS Z J2 g) Z (qL Z Z (fun _ _ g=>GO.uW Z Z Z gG (fun _=>iC) Z g) Z (qL Z Z (fun _ _ g=>mV Z (kN 85 Z (nT c1628) g)) Z (qL Z Z (fun _ _ g=>oN Z (fL b1579 0 Hf Z (bK g))) Z (qL Z Z (fun _ _ g=>oN Z (mV Z (bK g))) Z (GX.l1 Z Z Z (fun _ g=>oN Z (lB 2 HS Z na2 Z (bK g))) Z ?_))))))))))))))
       refine qL Z Z (fun _ _ g=>oN Z (GO.eql Z Z Z Z (bK g))) Z (qL Z Z (fun _ _ g=>oN Z (mV Z (bK (kN 90 Z (tF c1629) g)))) Z (qL Z Z (fun _ _ g=>oF Z g) Z (qL Z Z (fun _ _ g=>oF Z g) Z (qL Z Z (fun _ _ g=>oF Z g) Z (qL Z Z (fun _ _ g=>oN Z (GO.Hw Z Z Z Z Z (bK g))) Z (GX.ps 1 Z (GX.nil (rN 5 Z (gW (g1 i1 (Nat.le_of_succ_le h1) _ _ H (HS.pk 3 [1] Z)) Z)))))))))
      refine G.lex mixed [0,2,6,1,3,4,5,7,8,9,10,11,12,14,13,15,16,17,18,19,20,21] (by kernel_rfl) ?_
      replace HS:=HS.drew
      refine qL Z Z (fun _ _ g=>fL b1 0 H8 Z g) Z (qL Z Z (fun _ _ g=>fL b1579 0 Hf Z g) Z (GX.ps 1 Z (GX.l1 Z Z Z (fun _ g=>lB 1 HS Z Kr Z g) Z (GX.l1 Z Z Z (fun _ g=>lB 2 HS Z na2 Z g) Z (qL Z Z (fun _ _ g=>iX Z U31 Nh (rk (rD 3 r_a) HS) c1624 g) Z (GX.l1 Z Z Z (fun _ g=>GO.Dt (T:=(Ty.slice 83 Bb)) (n:=e1577.Tet.toNat) (o:=0) HS (rD 3 r_a) Z Z (getD_some (d:=[]) (ltN c1624)) Z Z Ng Z g) Z (qL Z Z (fun _ _ g=>GO.ix Z Z Z U81 Nr ((Ce.elem (rD 3 r_a) c1624.1 c1624.2) _ HS).2.2.1 c1625.1 c1625.2 Z g) Z (GX.l1 Z Z Z (fun _ g=>GO.Lb (T:=Bb) (n:=t1613.toNat) HS (Ce.elem (rD 3 r_a) c1624.1 c1624.2) Z Z (Hm (ltN c1625) h1627) J2 Z g) Z (GX.l1 Z Z Z (fun _ g=>lW 0 HS Z J2 g) Z (qL Z Z (fun _ _ g=>GO.uW Z Z Z gG (fun _=>iC) Z g) Z (qL Z Z (fun _ _ g=>mV Z (kN 85 Z (nT c1628) g)) Z (qL Z Z (fun _ _ g=>oN Z (fL b1579 0 Hf Z (bK g))) Z (qL Z Z (fun _ _ g=>oN Z (mV Z (bK g))) Z (GX.l1 Z Z Z (fun _ g=>oN Z (lB 2 HS Z na2 Z (bK g))) Z ?_))))))))))))))
      refine qL Z Z (fun _ _ g=>oN Z (GO.eql Z Z Z Z (bK g))) Z (qL Z Z (fun _ _ g=>oN Z (mV Z (bK (kN 90 Z (tT c1629) g)))) Z (qL Z Z (fun _ _ g=>oN Z (mV Z (bK g))) Z (qL Z Z (fun _ _ g=>oN Z (mV Z (bK g))) Z (qL Z Z (fun _ _ g=>oN Z (GO.eql Z Z Z Z (bK g))) Z (qL Z Z (fun _ _ g=>oN Z (GO.Gw Z Z Z Z Z (bK g))) Z (GX.ps 1 Z (GX.nil ?_)))))))
      rcases iE H with ⟨c1630,H⟩ | ⟨c1630,H⟩
      ·
       refine yB Z (tT c1630) (rN 2 Z ?_)
       obtain rfl:=sI H
       exact rT _ func32 Z Z ⟨Z,(HS.pk 3 [] Z)⟩
      refine nB Z (tF c1630) (rN 4 Z (gW (g1 i1 (Nat.le_of_succ_le h1) _ _ H (HS.pk 3 [1] Z)) Z))
     rcases iS H with ⟨c1631,H⟩ | ⟨c1631,H⟩
     ·
      refine rG (fL b1579 0 Hf Z (lB 0 HS Z na2 Z (pS 2 Z (kN 47 Z (tF c1631) (oF Z (oF Z (oF Z (GO.Hw Z Z Z Z Z (nL (gW (s1 f1 (lR _) _ _ H (HS.pk 2 [1,0] Z)) Z))))))))))
     refine rG (fL b1579 0 Hf Z (lB 0 HS Z na2 Z (pS 2 Z (kN 47 Z (tT c1631) (oN Z (fL b1579 1 Jy Z (bK (oN Z (lB 0 HS Z na2 Z (bK (oN Z (GO.eql Z Z Z Z (bK (GO.Gw Z Z Z Z Z ?_))))))))))))))
     refine nL (gW (s1 f1 (lR _) _ _ H (HS.pk 2 [1,0] Z)) Z)
    exact gW (y1 q1 (lR _) _ _ H HS) Z
   exact gW (u1 k1 (lR _) _ _ H HS) Z
  exact gW (g2 K (lR _) _ _ H HS) Z
theorem H7.calls {e_ r1 r2:Int} (HS:St w0 w (L)) (H:H7.f e_=some (r1,r2)) :
    Calls prog 72 #[I e_] w (H7.post w0 L r1 r2):=by
  unfold H7.f at H
  refine cG func72 Z ?_
  refine rN 3 Z ?_
  obtain ⟨c3,H⟩:=iN H
  obtain ⟨c6,H⟩:=iN H
  refine G.Q6 mixed (by decide) (fun b a w=>∃ (b1:Nat) (b4:Nat) (g1:Df) (f1:Df),RS 12 [(0,I e_)] [rv 4 (.slice (sb b1) 6 6),rv 5 (I e_),rv 6 (.pointer (some (ea (sb b1) (e_.toNat * 1)))),rv 7 (I (([0,0,0,1,1,2]:List Int).getD e_.toNat 0)),rv 8 (.slice (sb b4) 6 6),rv 9 (I e_),rv 10 (.pointer (some (ea (sb b4) (e_.toNat * 1)))),rv 11 (I (([1,2,3,2,3,3]:List Int).getD e_.toNat 0)),rv 2 (I (([0,0,0,1,1,2]:List Int).getD e_.toNat 0)),rv 3 (I (([1,2,3,2,3,3]:List Int).getD e_.toNat 0))] b a∧St w0 w (g1::f1::L)∧(b 0=true→b 2=false→g1=Box b1 2 [I 0,I 0,I 0,I 1,I 1,I 2])∧(b 2=true→g1=Own (Ad .i64) 2 (sb b1) (([0,0,0,1,1,2]:List Int).length) uu ([0,0,0,1,1,2]:List Int))∧(b 4=true→b 6=false→f1=Box b4 2 [I 1,I 2,I 3,I 2,I 3,I 3])∧(b 6=true→f1=Own (Ad .i64) 2 (sb b4) (([1,2,3,2,3,3]:List Int).length) uu ([1,2,3,2,3,3]:List Int))) ?_ ?_ ?_
  · exact fun a hs=>⟨0,0,Emp,Emp,hs.init Z,(HS.drew.emp.emp.pk 2 [1,0] Z),fun h=>Bool.noConfusion h,fun h=>Bool.noConfusion h,fun h=>Bool.noConfusion h,fun h=>Bool.noConfusion h⟩
  ·
   intro j b a w hj
   refine exI fun b1=>exI fun b4=>exI fun g1=>exI fun f1=>anI fun hs=>fun hM q=>?_
   have HS:=hM.1
   match j,hj with
   | 0,_ =>
    refine (anI fun HS=>anI fun d1=>anI fun a1=>anI fun e1=>fun c1=>?_) hM
    refine hs.at q [] [] (GO.Fj (el:=2) ([I 0,I 0,I 0,I 1,I 1,I 2]) HS Z Z (fun _=>by kernel_rfl) Z fun b1 wd2 HS=>hs.V3 q [0,2] (fun _ hs=>⟨b1,b4,Box b1 2 [I 0,I 0,I 0,I 1,I 1,I 2],_,hs,HS.pk 3 [0,2] Z,fun _ _=>Z,fun hh=>(q.no 2 hh).elim,e1,c1⟩) Z Z)
   | 1,_ =>
    refine hs.at q [] [] (mV Z (hs.fin q Z fun _ hs=>⟨_,_,_,_,hs,hM⟩))
   | 2,_ =>
    refine (anI fun HS=>anI fun d1=>anI fun a1=>anI fun e1=>fun c1=>?_) hM
    have hb0:=q.on 0
    obtain rfl:=d1 hb0 q.hb
    refine hs.at q [0,1] [] ?_
    replace HS:=HS.Ij (T:=(Ad .i64)) (j:=0) Z Av uu ([0,0,0,1,1,2]:List Int) Z (K9 Z)
    refine GO.Kj (t:=4) (m:=([0,0,0,1,1,2]:List Int).length) (c':=([0,0,0,1,1,2]:List Int).length) Z Z Z (iX Z U26 sz2 (fun _=>⟨_,_,Z⟩) c3 (hs.fin q Z fun _ hs=>⟨b1,b4,Own (Ad .i64) 2 (sb b1) (([0,0,0,1,1,2]:List Int).length) uu ([0,0,0,1,1,2]:List Int),_,hs,HS,fun _ h=>Bool.noConfusion h,fun _=>Z,e1,c1⟩))
   | 3,_ =>
    refine (anI fun HS=>anI fun d1=>anI fun a1=>anI fun e1=>fun c1=>?_) hM
    have hb2:=q.on 2
    obtain rfl:=a1 hb2
    refine hs.at q [2] [] (GO.Dt (T:=(Ad .i64)) (n:=e_.toNat) (o:=0) HS (ro 0 Z) Z Z (getD_some (d:=0) (ltN c3)) Z Z na2 Z (hs.fin q Z fun _ hs=>⟨b1,b4,_,_,hs,HS,d1,a1,e1,c1⟩))
   | 4,_ =>
    refine (anI fun HS=>anI fun d1=>anI fun a1=>anI fun e1=>fun c1=>?_) hM
    refine hs.at q [] [] (GO.Fj (el:=2) ([I 1,I 2,I 3,I 2,I 3,I 3]) HS Z Z (fun _=>by kernel_rfl) Z fun b4 wd5 HS=>hs.V3 q [4,6] (fun _ hs=>⟨b1,b4,_,Box b4 2 [I 1,I 2,I 3,I 2,I 3,I 3],hs,HS.pk 3 [1,0] Z,d1,a1,fun _ _=>Z,fun hh=>(q.no 6 hh).elim⟩) Z Z)
   | 5,_ =>
    refine hs.at q [] [] (mV Z (hs.fin q Z fun _ hs=>⟨_,_,_,_,hs,hM⟩))
   | 6,_ =>
    refine (anI fun HS=>anI fun d1=>anI fun a1=>anI fun e1=>fun c1=>?_) hM
    have hb4:=q.on 4
    obtain rfl:=e1 hb4 q.hb
    refine hs.at q [4,5] [] ?_
    replace HS:=HS.Ij (T:=(Ad .i64)) (j:=1) Z Av uu ([1,2,3,2,3,3]:List Int) Z (K9 Z)
    refine GO.Kj (t:=8) (m:=([1,2,3,2,3,3]:List Int).length) (c':=([1,2,3,2,3,3]:List Int).length) Z Z Z (iX Z U26 sz2 (fun _=>⟨_,_,Z⟩) c6 (hs.fin q Z fun _ hs=>⟨b1,b4,_,Own (Ad .i64) 2 (sb b4) (([1,2,3,2,3,3]:List Int).length) uu ([1,2,3,2,3,3]:List Int),hs,HS,d1,a1,fun _ h=>Bool.noConfusion h,fun _=>Z⟩))
   | 7,_ =>
    refine (anI fun HS=>anI fun d1=>anI fun a1=>anI fun e1=>fun c1=>?_) hM
    have hb6:=q.on 6
    obtain rfl:=c1 hb6
    refine hs.at q [6] [] (GO.Dt (T:=(Ad .i64)) (n:=e_.toNat) (o:=0) HS (ro 1 Z) Z Z (getD_some (d:=0) (ltN c6)) Z Z na2 Z (hs.fin q Z fun _ hs=>⟨b1,b4,_,_,hs,HS,d1,a1,e1,c1⟩))
   | 8,_ =>
    refine hs.at q [3] [] (aS Z (hs.fin q Z fun _ hs=>⟨_,_,_,_,hs,hM⟩))
   | 9,_ =>
    refine hs.at q [7] [] (aS Z (hs.fin q Z fun _ hs=>⟨_,_,_,_,hs,hM⟩))
   | k+10,hj=>exact absurd hj (Nat.not_lt.2 (Nat.le_add_left 10 k))
  ·
   intro b a w hall
   refine exI fun b1=>exI fun b4=>exI fun g1=>exI fun f1=>anI fun hs=>anI fun HS=>anI fun d1=>anI fun a1=>anI fun e1=>fun c1=>?_
   obtain rfl:=a1 (hall 2 (by decide))
   obtain rfl:=c1 (hall 6 (by decide))
   refine G.at (hs.all hall) ?_
   obtain ⟨rfl,rfl⟩:=I6 H
   exact G.I9 _ _ func72 Z Z Z ⟨Z,(HS.pk 2 [] Z)⟩
theorem Eu.calls {a_ b_ r1:Int} (HS:St w0 w (L)) (H:Eu.f K a_ b_=some r1) :
    Calls prog 74 #[I a_,I b_] w (Eu.post w0 L r1):=by
  unfold Eu.f at H
  refine cG func74 Z ?_
  refine rN 7 Z ?_
  refine G.name (fun f1 d1=>?_)
  have e1:∀ b1,b1≤K→∀ (e_9:Int) (w:World),Eu.l1 K b1 a_ b_ e_9=some r1→St w0 w (L)→G prog 74 30 [(0,I a_),(1,I b_),(5,I e_9)] f1 w (Eu.post w0 L r1):=by
   refine lp (fun _ w H _=>by rw [Eu.l1] at H; cases H) fun a1 g1 c1 e_9 w H HS=>?_
   rw [Eu.l1] at H
   subst d1
   refine rN 3 Z ?_
   rcases iS H with ⟨c19,H⟩ | ⟨c19,H⟩
   ·
    refine nB Z (tF c19) (rN 3 Z ?_)
    obtain rfl:=sI H
    exact rT _ func74 Z Z ⟨Z,HS⟩
   refine yB Z (tT c19) (rN 4 Z ?_)
   obtain ⟨t20,t21,h22,H⟩:=De H
   refine rG (mV Z (fJ dX Z (H7.calls HS  h22) (fun _ wd23 ⟨h24,HS⟩=>⟨_,h24,(pS 5 Z (nL (sQ ?_)))⟩)))
   rcases iS H with ⟨c26,H⟩ | ⟨c26,H⟩
   ·
    refine rG (pS 3 Z (GO.min2 Z Z Z Z (pS 2 Z (kN 22 Z (tF c26) (oF Z (oF Z (oF Z (oF Z (oF Z (GO.Hw Z Z Z Z Z (nL (rN 5 Z (gW (c1 a1 (lR _) _ _ H HS) Z)))))))))))))
   refine rG (pS 3 Z (GO.min2 Z Z Z Z (pS 2 Z (kN 22 Z (tT c26) (oN Z (mV Z (bK (oN Z (mV Z (bK (oN Z (mV Z (bK (oN Z ?_))))))))))))))
   refine GO.max2 Z Z Z Z (bK (oN Z (GO.eql Z Z Z Z (bK (GO.Gw Z Z Z Z Z (nL ?_))))))
   rcases iE H with ⟨c27,H⟩ | ⟨c27,H⟩
   ·
    refine yB Z (tT c27) (rN 2 Z ?_)
    obtain rfl:=sI H
    exact rT _ func74 Z Z ⟨Z,HS⟩
   refine nB Z (tF c27) (rN 4 Z (gW (c1 a1 (lR _) _ _ H HS) Z))
  exact gW (e1 K (lR _) _ _ H HS) Z
theorem Am.calls {d1:List (List Aw)} {y_a:Nat→(Ty.slice 83 Bb).Lay} {r1:List (List Int)} (HS:St w0 w (L)) (r_a:Ce w0 L (Ty.slice 83 Bb) A_a c_a y_a d1) (H:Am.f K d1=some r1) :
    Calls prog 63 #[.agg [sV A_a d1 c_a].toArray] w (Am.post w0 L r1):=by
  unfold Am.f at H
  refine cG func63 Z ?_
  refine sQ (rG (bA HS Z fun b1 wd2 HS=>aS Z (nL (sQ ?_))))
  obtain ⟨t3,h4,H⟩:=bI H
  refine rG (lW 0 HS Z Jn (fJ Tf Z (D7.calls HS (rD 1 r_a) h4) (fun _ wd5 ⟨h6,HS⟩=>⟨_,h6,(aS Z (nL (sQ ?_)))⟩)))
  obtain ⟨c7,H⟩:=iN H
  obtain ⟨c8,H⟩:=iN H
  refine rG (pS 2 Z (GO.make (T:=(Ad .i64)) 0 () HS Av Z Z Z U26 Le Z Z Z c7 c8 Z fun b9 wd10 HS=>aS Z (nL (sQ ?_))))
  obtain ⟨c11,H⟩:=iN H
  refine rG (pS 2 Z (GO.make (T:=Lt) false () HS Av Z Z Z dV xM Z Z Z c7 c11 Z fun b12 wd13 HS=>aS Z (nL (rN 5 Z ?_))))
  refine G.name (fun q2 j3=>?_)
  have n3:∀ y1,y1≤K→∀ (e1:List Int) (a1:List Bool) (c1:Int) (w:World),Am.l1 K y1 d1 t3 e1 a1 c1=some r1→St w0 w (Box b1 33 [sV A_a d1 c_a]::Own (Ad .i64) 2 (sb b9) ((w64 (6 * t3)).toNat) uu e1::Own Lt 4 (sb b12) ((w64 (6 * t3)).toNat) uu a1::L)→G prog 63 189 [(1,pT b1),(3,I t3),(4,sV (sb b9) e1 ((w64 (6 * t3)).toNat)),(5,sV (sb b12) a1 ((w64 (6 * t3)).toNat)),(6,I c1)] q2 w (Am.post w0 L r1):=by
   refine lp (fun _ _ _ w H _=>by rw [Am.l1] at H; cases H) fun m1 r3 k2 e1 a1 c1 w H HS=>?_
   rw [Am.l1] at H
   subst j3
   refine rN 3 Z ?_
   rcases iS H with ⟨c1352,H⟩ | ⟨c1352,H⟩
   ·
    refine nB Z (tF c1352) (rN 2 Z (rG (GO.Fj (el:=26) ([]) HS Z Z (fun _=>by kernel_rfl) Z fun b1901 wd1902 HS=>?_)))
    replace HS:=HS.Xy (T:=(Ty.slice 2 (Ad .i64))) (j:=0) Z (fun _=>⟨none,0,uu⟩)
    refine GO.Kj (t:=155) (m:=([]:List (List Int)).length) (c':=0) Z Z Z (aS Z (nL (rN 5 Z ?_)))
    refine G.name (fun s2 f3=>?_)
    have v2:∀ v1,v1≤m1→∀ (A1979:Option Addr) (c1980:Nat) (x1981:List (List Int)) (y1982:Nat→(Ty.slice 2 (Ad .i64)).Lay) (x1983:Int) (w:World),Am.l82 K v1 t3 e1 a1 x1981 x1983=some r1→St w0 w (Own (Ad .i64) 2 (sb b9) ((w64 (6 * t3)).toNat) uu e1::Own Lt 4 (sb b12) ((w64 (6 * t3)).toNat) uu a1::Own (Ty.slice 2 (Ad .i64)) 26 A1979 c1980 y1982 x1981::L)→G prog 63 189 [(3,I t3),(4,sV (sb b9) e1 ((w64 (6 * t3)).toNat)),(5,sV (sb b12) a1 ((w64 (6 * t3)).toNat)),(20,sV A1979 x1981 c1980),(21,I x1983)] s2 w (Am.post w0 L r1):=by
     refine lp (fun _ _ _ _ _ w H _=>by rw [Am.l82] at H; cases H) fun e2 q3 c3 A1979 c1980 x1981 y1982 x1983 w H HS=>?_
     rw [Am.l82] at H
     subst f3
     refine rN 3 Z ?_
     rcases iS H with ⟨c2060,H⟩ | ⟨c2060,H⟩
     ·
      refine nB Z (tF c2060) (rN 3 Z ?_)
      obtain rfl:=sI H
      exact rT _ func63 Z Z ⟨_,_,_,Z,(HS.pk 3 [2] Z)⟩
     refine yB Z (tT c2060) (rN 4 Z (rG (GO.Fj (el:=2) ([]) HS Z Z (fun _=>by kernel_rfl) Z fun b2061 wd2062 HS=>?_)))
     replace HS:=HS.Ij (T:=(Ad .i64)) (j:=0) Z Av uu ([]:List Int) Z (K9 Z)
     refine GO.Kj (t:=162) (m:=([]:List Int).length) (c':=([]:List Int).length) Z Z Z (aS Z (nL (rN 5 Z ?_)))
     refine G.name (fun k3 g3=>?_)
     have i3:∀ z1,z1≤e2→∀ (A2086:Option Addr) (c2087:Nat) (x2088:List Int) (x2089:Int) (w:World),Am.l85 K z1 t3 e1 a1 x1981 x1983 x2088 x2089=some r1→St w0 w (Own (Ad .i64) 2 (sb b9) ((w64 (6 * t3)).toNat) uu e1::Own Lt 4 (sb b12) ((w64 (6 * t3)).toNat) uu a1::Own (Ty.slice 2 (Ad .i64)) 26 A1979 c1980 y1982 x1981::Own (Ad .i64) 2 A2086 c2087 uu x2088::L)→G prog 63 189 [(3,I t3),(4,sV (sb b9) e1 ((w64 (6 * t3)).toNat)),(5,sV (sb b12) a1 ((w64 (6 * t3)).toNat)),(20,sV A1979 x1981 c1980),(21,I x1983),(22,sV A2086 x2088 c2087),(23,I x2089)] k3 w (Am.post w0 L r1):=by
      refine lp (fun _ _ _ _ w H _=>by rw [Am.l85] at H; cases H) fun q1 m2 g2 A2086 c2087 x2088 x2089 w H HS=>?_
      rw [Am.l85] at H
      subst g3
      refine rN 3 Z ?_
      rcases iS H with ⟨c2113,H⟩ | ⟨c2113,H⟩
      ·
       refine nB Z (tF c2113) (G.exit Z ?_)
       obtain ⟨c2134,H⟩:=iN H
       refine rG (pS 2 Z (GO.Fj (el:=26) ([sV A2086 x2088 c2087]) HS Z Z (fun _=>by kernel_rfl) Z fun b2129 wd2130 HS=>?_))
       replace HS:=HS.pk 5 [3,0,4,1,2] Z
       refine GO.vT (S:=(Ad .i64)) (u:=2) HS Z Z Z U65 mU Z Z c2134 Z fun A2132 c2133 y2135 wd2131 HS=>aS Z (nL (rN 3 Z (gW (c3 q1 (Nat.le_of_succ_le m2) _ _ _ _ _ _ H (HS.pk 4 [2,3,0] Z)) Z)))
      refine yB Z (tT c2113) (rN 4 Z ?_)
      obtain ⟨c2114,H⟩:=iN H
      refine rG (pS 2 Z (iX Z dV sz4 (fun _=>⟨_,_,Z⟩) c2114 (GO.Dt (T:=Lt) (n:=x2089.toNat) (o:=0) HS (ro 1 Z) Z Z (getD_some (d:=false) (ltN c2114)) Z Z na4 Z (nL ?_))))
      rcases iE H with ⟨c2115,H⟩ | ⟨c2115,H⟩
      ·
       refine yB Z c2115 ?_
       obtain ⟨c2121,H⟩:=iN H
       refine rG (mV Z (GO.Fj (el:=2) ([I 0]) HS Z Z (fun _=>by kernel_rfl) Z fun b2116 wd2117 HS=>GO.app1 (T:=(Ad .i64)) (j:=4) (jb:=0) 0 HS Z Z Av Z Z Z U26 Le Z Z Z c2121 Z fun A2119 c2120 wd2118 HS=>aS Z (nL (rN 3 Z (gW (g2 q1 (lR _) _ _ _ _ _ H (HS.pk 5 [1,2,3,4] Z)) Z)))))
      refine nB Z (Cy c2115) ?_
      obtain ⟨c2122,H⟩:=iN H
      obtain ⟨c2128,H⟩:=iN H
      refine rG (pS 3 Z (iX Z U26 sz2 (fun _=>⟨_,_,Z⟩) c2122 (GO.Dt (T:=(Ad .i64)) (n:=x2089.toNat) (o:=0) HS (ro 0 Z) Z Z (getD_some (d:=0) (ltN c2122)) Z Z na2 Z (GO.Fj (el:=2) ([I (e1.getD x2089.toNat 0)]) HS Z Z (fun _=>by kernel_rfl) Z fun b2123 wd2124 HS=>GO.app1 (T:=(Ad .i64)) (j:=4) (jb:=0) (e1.getD x2089.toNat 0) HS Z Z Av Z Z Z U26 Le Z Z Z c2128 Z fun A2126 c2127 wd2125 HS=>aS Z (nL (rN 3 Z (gW (g2 q1 (lR _) _ _ _ _ _ H (HS.pk 5 [1,2,3,4] Z)) Z)))))))
     exact gW (i3 e2 (lR _) _ _ _ _ _ H (HS.pk 4 [1,2,3,0] Z)) Z
    exact gW (v2 m1 (lR _) _ _ _ _ _ _ H (HS.pk 4 [2,3,0] Z)) Z
   refine yB Z (tT c1352) (rN 5 Z ?_)
   obtain ⟨c1353,H⟩:=iN H
   refine rG (pS 2 Z (iX Z U26 sz2 (fun _=>⟨_,_,Z⟩) c1353 (GO.Dt (T:=(Ad .i64)) (n:=c1.toNat) (o:=0) HS (ro 1 Z) Z Z (getD_some (d:=0) (ltN c1353)) Z Z na2 Z (GO.neq Z Z Z Z (nL ?_)))))
   rcases iS H with ⟨c1354,H⟩ | ⟨c1354,H⟩
   ·
    refine yB Z (nF c1354) (rN 3 Z (gW (k2 m1 (lR _) _ _ _ _ H HS) Z))
   refine nB Z (nT c1354) (rN 2 Z (rG (pS 2 Z (iX Z U26 sz2 (fun _=>⟨_,_,Z⟩) c1353 (GO.Ia (T:=(Ad .i64)) (j:=1) (n:=c1.toNat) (o:=0) (vs:=[I 1]) 1 HS Z Av Z Z Z Z (htN na2 Z) Z (getD_some (d:=0) (ltN c1353)) Z Z fun wd1355 HS=>nL (G.len (t:=4) (m:=(e1.set c1.toNat 1).length) Z (by simp only [List.length_set] <;> rfl) (sQ (rG (mV Z (GO.Fj (el:=2) ([I c1]) HS Z Z (fun _=>by kernel_rfl) Z fun b1356 wd1357 HS=>?_))))))))))
   replace HS:=HS.Ij (T:=(Ad .i64)) (j:=0) Z Av uu ([c1]:List Int) Z (K9 Z)
   refine GO.Kj (t:=47) (m:=([c1]:List Int).length) (c':=([c1]:List Int).length) Z Z Z (aS Z (nL (rN 7 Z ?_)))
   refine G.name (fun t2 y2=>?_)
   have a3:∀ d2,d2≤m1→∀ (g1:List Int) (A1528:Option Addr) (c1529:Nat) (x1530:List Int) (x1531:Bool) (x1532:Int) (w:World),Am.l57 K d2 d1 t3 a1 c1 g1 x1530 x1531 x1532=some r1→St w0 w (Box b1 33 [sV A_a d1 c_a]::Own (Ad .i64) 2 (sb b9) ((w64 (6 * t3)).toNat) uu g1::Own Lt 4 (sb b12) ((w64 (6 * t3)).toNat) uu a1::Own (Ad .i64) 2 A1528 c1529 uu x1530::L)→G prog 63 189 [(1,pT b1),(3,I t3),(4,sV (sb b9) g1 ((w64 (6 * t3)).toNat)),(5,sV (sb b12) a1 ((w64 (6 * t3)).toNat)),(6,I c1),(7,sV A1528 x1530 c1529),(8,.bool x1531),(9,I x1532)] t2 w (Am.post w0 L r1):=by
    refine lp (fun _ _ _ _ _ _ w H _=>by rw [Am.l57] at H; cases H) fun o1 p2 z2 g1 A1528 c1529 x1530 x1531 x1532 w H HS=>?_
    rw [Am.l57] at H
    subst y2
    refine rN 2 Z (rG (pS 2 Z (lS Z Z U26 Z (GO.lss Z Z Z Z (nL ?_)))))
    rcases iS H with ⟨c1717,H⟩ | ⟨c1717,H⟩
    ·
     refine nB Z (tF c1717) (rN 5 Z ?_)
     refine G.name (fun l3 e3=>?_)
     have x2:∀ b2,b2≤o1→∀ (k1:List Bool) (x1892:Int) (w:World),Am.l81 K b2 d1 t3 c1 g1 x1530 x1531 k1 x1892=some r1→St w0 w (Box b1 33 [sV A_a d1 c_a]::Own (Ad .i64) 2 (sb b9) ((w64 (6 * t3)).toNat) uu g1::Own Lt 4 (sb b12) ((w64 (6 * t3)).toNat) uu k1::Own (Ad .i64) 2 A1528 c1529 uu x1530::L)→G prog 63 189 [(1,pT b1),(3,I t3),(4,sV (sb b9) g1 ((w64 (6 * t3)).toNat)),(5,sV (sb b12) k1 ((w64 (6 * t3)).toNat)),(6,I c1),(7,sV A1528 x1530 c1529),(8,.bool x1531),(19,I x1892)] l3 w (Am.post w0 L r1):=by
      refine lp (fun _ _ w H _=>by rw [Am.l81] at H; cases H) fun c2 u2 o2 k1 x1892 w H HS=>?_
      rw [Am.l81] at H
      subst e3
      refine rN 2 Z (rG (pS 2 Z (lS Z Z U26 Z (GO.lss Z Z Z Z (nL ?_)))))
      rcases iS H with ⟨c1897,H⟩ | ⟨c1897,H⟩
      ·
       refine nB Z (tF c1897) (rN 4 Z (gW (k2 c2 (Nat.le_trans (Nat.le_of_succ_le u2) (Nat.le_of_succ_le p2)) _ _ _ _ H (HS.pk 4 [0,1,2] Z)) Z))
      refine yB Z (tT c1897) (rN 3 Z ?_)
      obtain ⟨c1898,H⟩:=iN H
      obtain ⟨c1899,H⟩:=iN H
      refine rG (pS 3 Z (iX Z U26 sz2 (rk (ro 3 Z) HS) c1898 (GO.Dt (T:=(Ad .i64)) (n:=x1892.toNat) (o:=0) HS (ro 3 Z) Z Z (getD_some (d:=0) (ltN c1898)) Z Z na2 Z (mV Z (iX Z dV sz4 (fun _=>⟨_,_,Z⟩) c1899 (GO.Ia (T:=Lt) (j:=2) (n:=(x1530.getD x1892.toNat 0).toNat) (o:=0) (vs:=[.bool x1531]) x1531 HS Z Av Z Z Z Z (htN na4 Z) Z (getD_some (d:=false) (ltN c1899)) Z Z fun wd1900 HS=>nL (G.len (t:=5) (m:=(k1.set ((x1530.getD x1892.toNat 0).toNat) x1531).length) Z (by simp only [List.length_set] <;> rfl) (rN 3 Z (gW (o2 c2 (lR _) _ _ _ H HS) Z)))))))))
     exact gW (x2 o1 (lR _) _ _ _ H HS) Z
    refine yB Z (tT c1717) (rN 4 Z ?_)
    obtain ⟨c1718,H⟩:=iN H
    refine rG (pS 2 Z (iX Z U26 sz2 (rk (ro 3 Z) HS) c1718 (GO.Dt (T:=(Ad .i64)) (n:=x1532.toNat) (o:=0) HS (ro 3 Z) Z Z (getD_some (d:=0) (ltN c1718)) Z Z na2 Z (GO.quo Z Z Z (by decide) Z (aS Z (nL (sQ ?_)))))))
    obtain ⟨t1719,t1720,h1721,H⟩:=De H
    refine rG (pS 2 Z (iX Z U26 sz2 (rk (ro 3 Z) HS) c1718 (GO.Dt (T:=(Ad .i64)) (n:=x1532.toNat) (o:=0) HS (ro 3 Z) Z Z (getD_some (d:=0) (ltN c1718)) Z Z na2 Z (GO.rem Z Z Z (by decide) Z (fJ dX Z (H7.calls HS  h1721) (fun _ wd1722 ⟨h1723,HS⟩=>⟨_,h1723,(pS 5 Z (nL (rN 4 Z ?_)))⟩))))))
    refine G.name (fun r2 n2=>?_)
    have d3:∀ s1,s1≤o1→∀ (f1:List Int) (A1776:Option Addr) (c1777:Nat) (x1778:List Int) (x1779:Bool) (x1780:Int) (w:World),Am.l74 K s1 d1 t3 a1 c1 x1530 x1532 t1719 t1720 f1 x1778 x1779 x1780=some r1→St w0 w (Box b1 33 [sV A_a d1 c_a]::Own (Ad .i64) 2 (sb b9) ((w64 (6 * t3)).toNat) uu f1::Own Lt 4 (sb b12) ((w64 (6 * t3)).toNat) uu a1::Own (Ad .i64) 2 A1776 c1777 uu x1778::L)→G prog 63 189 [(1,pT b1),(3,I t3),(4,sV (sb b9) f1 ((w64 (6 * t3)).toNat)),(5,sV (sb b12) a1 ((w64 (6 * t3)).toNat)),(6,I c1),(7,sV A1776 x1778 c1777),(8,.bool x1779),(9,I x1532),(10,I (w64 ((x1530.getD x1532.toNat 0).tdiv 6))),(11,I t1719),(12,I t1720),(13,I x1780)] r2 w (Am.post w0 L r1):=by
     refine lp (fun _ _ _ _ _ _ w H _=>by rw [Am.l74] at H; cases H) fun h1 b3 i1 f1 A1776 c1777 x1778 x1779 x1780 w H HS=>?_
     rw [Am.l74] at H
     subst n2
     refine rN 3 Z ?_
     rcases iS H with ⟨c1834,H⟩ | ⟨c1834,H⟩
     ·
      refine nB Z (tF c1834) (rN 4 Z (gW (z2 h1 (Nat.le_of_succ_le b3) _ _ _ _ _ _ _ H HS) Z))
     refine yB Z (tT c1834) (rN 4 Z ?_)
     obtain ⟨c1835,H⟩:=iN H
     obtain ⟨c1836,H⟩:=iN H
     obtain ⟨e1837,h1838,H⟩:=Ih H
     refine rG (fL b1 0 H8 Z (lB 0 HS Z Kr Z (mV Z (iX Z U31 Nh (rk (rD 4 r_a) HS) c1835 (GO.Dt (T:=(Ty.slice 83 Bb)) (n:=(w64 ((x1530.getD x1532.toNat 0).tdiv 6)).toNat) (o:=0) HS (rD 4 r_a) Z Z (getD_some (d:=[]) (ltN c1835)) Z Z Ng Z (mV Z (GO.ix Z Z Z U81 Nr ((Ce.elem (rD 4 r_a) c1835.1 c1835.2) _ HS).2.2.1 c1836.1 c1836.2 Z (GO.Lb (T:=Bb) (n:=x1780.toNat) HS (Ce.elem (rD 4 r_a) c1835.1 c1835.2) Z Z (Hm (ltN c1836) h1838) J2 Z (GO.alloc HS Z Rp Z Z fun b1839 wd1840 HS=>sW 0 HS Z J2 Z fun wd1841 HS=>nL (rN 2 Z ?_))))))))))
     rcases iE H with ⟨c1844,H⟩ | ⟨c1844,H⟩
     ·
      refine rG (fL b1839 0 Hf Z (lB 0 HS Z na2 Z (pS 2 Z (kN 83 Z (tT c1844) (oF Z (oF Z (oF Z (pS 2 Z (oF Z (oF Z (oF Z (GO.Gw Z Z Z Z Z (nL (rN 4 Z ?_))))))))))))))
      exact gW (i1 h1 (lR _) _ _ _ _ _ _ _ H (HS.pk 5 [1,2,3,4] Z)) Z
     rcases iE H with ⟨c1845,H⟩ | ⟨c1845,H⟩
     ·
      refine rG (fL b1839 0 Hf Z (lB 0 HS Z na2 Z (pS 2 Z (kN 83 Z (tF c1844) (oN Z (mV Z (bK (oN Z (mV Z (bK (oN Z (GO.eql Z Z Z Z (bK (pS 2 Z ?_))))))))))))))
      refine kN 88 Z (tT c1845) (oF Z (oF Z (oF Z (GO.Gw Z Z Z Z Z (nL (rN 4 Z (gW (i1 h1 (lR _) _ _ _ _ _ _ _ H (HS.pk 5 [1,2,3,4] Z)) Z)))))))
     refine rG (fL b1839 0 Hf Z (lB 0 HS Z na2 Z (pS 2 Z (kN 83 Z (tF c1844) (oN Z (mV Z (bK (oN Z (mV Z (bK (oN Z (GO.eql Z Z Z Z (bK (pS 2 Z ?_))))))))))))))
     refine kN 88 Z (tF c1845) (oN Z (mV Z (bK (oN Z (mV Z (bK (oN Z (GO.eql Z Z Z Z (bK (GO.Hw Z Z Z Z Z (nL ?_)))))))))))
     rcases iE H with ⟨c1846,H⟩ | ⟨c1846,H⟩
     ·
      refine yB Z (tT c1846) (rN 3 Z (gW (i1 h1 (lR _) _ _ _ _ _ _ _ H (HS.pk 5 [1,2,3,4] Z)) Z))
     refine nB Z (tF c1846) (rN 2 Z ?_)
     obtain ⟨t1847,h1848,H⟩:=bI H
     obtain ⟨t1851,h1852,H⟩:=bI H
     refine G.Jg mixed (fun w=>St w0 w (Box b1839 83 [I e1837.Tet,I e1837.Perm]::L)) [1,5] [0,2,4,6,1,5,3,7,8,9] [] (by kernel_rfl) (by kernel_rfl) (HS.drew.pk 5 [0] Z) ?_
     replace HS:=HS.drew
     refine qL Z Z (fun _ _ g=>fL b1839 1 Jy Z g) Z (GX.ps 1 Z (qL Z Z (fun _ _ g=>fL b1839 1 Jy Z g) Z (GX.ps 1 Z (GX.ls Z Z Z (HS.pk 5 [0] Z) (fun _ HS _ g=>lB 0 HS Z na2 Z g) Z (GX.ls Z Z Z (HS.pk 5 [0] Z) (fun _ HS _ g=>lB 0 HS Z na2 Z g) Z (GX.l2 Z (fJ Qw Z (Ef.calls HS  h1848) (fun _ wd1849 ⟨h1850,HS⟩=>⟨_,h1850,(GX.fin (HS.pk 5 [0] Z) (GX.l2 Z (fJ Qw Z (Ef.calls HS  h1852) (fun _ wd1853 ⟨h1854,HS⟩=>⟨_,h1854,(GX.fin (HS.pk 5 [0] Z) (GX.ps 2 Z (GX.nil (sQ ?_))))⟩))))⟩))))))))
     obtain ⟨t1855,h1856,H⟩:=bI H
     refine G.Jg mixed (fun w=>St w0 w (Box b1839 83 [I e1837.Tet,I e1837.Perm]::L)) [1] [0,3,4,1,2,5,6,7] [] (by kernel_rfl) (by kernel_rfl) (HS.drew.pk 5 [0] Z) ?_
     replace HS:=HS.drew
     refine qL Z Z (fun _ _ g=>fL b1839 0 Hf Z g) Z (GX.ps 2 Z (GX.ls Z Z Z (HS.pk 5 [0] Z) (fun _ HS _ g=>lB 0 HS Z na2 Z g) Z (GX.ps 1 Z (GX.l2 Z (fJ fD Z (Eu.calls HS  h1856) (fun _ wd1857 ⟨h1858,HS⟩=>⟨_,h1858,(GX.fin (HS.pk 5 [0] Z) (GX.ps 2 Z (GX.nil (sQ ?_))))⟩))))))
     obtain ⟨c1859,H⟩:=iN H
     obtain ⟨c1860,H⟩:=iN H
     refine rG (pS 3 Z (iX Z U26 sz2 (rk (ro 4 Z) HS) c1859 (GO.Dt (T:=(Ad .i64)) (n:=x1532.toNat) (o:=0) HS (ro 4 Z) Z Z (getD_some (d:=0) (ltN c1859)) Z Z na2 Z (iX Z U26 sz2 (fun _=>⟨_,_,Z⟩) c1860 (GO.Dt (T:=(Ad .i64)) (n:=(x1778.getD x1532.toNat 0).toNat) (o:=0) HS (ro 2 Z) Z Z (getD_some (d:=0) (ltN c1860)) Z Z na2 Z (aS Z (nL (rN 3 Z ?_))))))))
     refine G.Oa (fun m3 o3=>?_)
     have t1:∀ a2,a2≤h1→∀ (x1862:Int) (w:World),Am.j79 K a2 d1 t3 a1 c1 x1530 x1532 t1719 t1720 f1 x1778 x1779 x1780 e1837 t1855 x1862=some r1→St w0 w (Box b1 33 [sV A_a d1 c_a]::Own (Ad .i64) 2 (sb b9) ((w64 (6 * t3)).toNat) uu f1::Own Lt 4 (sb b12) ((w64 (6 * t3)).toNat) uu a1::Own (Ad .i64) 2 A1776 c1777 uu x1778::L)→G prog 63 189 [(1,pT b1),(3,I t3),(4,sV (sb b9) f1 ((w64 (6 * t3)).toNat)),(5,sV (sb b12) a1 ((w64 (6 * t3)).toNat)),(6,I c1),(7,sV A1776 x1778 c1777),(8,.bool x1779),(9,I x1532),(10,I (w64 ((x1530.getD x1532.toNat 0).tdiv 6))),(11,I t1719),(12,I t1720),(13,I x1780),(17,I (w64 ((w64 (6 * e1837.Tet))+t1855))),(18,I x1862),(84,I x1780),(85,I t1719),(86,.bool (decide (x1780=t1719))),(89,I x1780),(90,I t1720),(91,.bool (decide (x1780=t1720)))] m3 w (Am.post w0 L r1):=by
      refine jp (fun _ w H _=>by rw [Am.j79] at H; cases H) fun p1 u1 x1862 w H HS=>?_
      rw [Am.j79] at H
      subst o3
      refine rN 2 Z ?_
      obtain ⟨c1863,H⟩:=iN H
      refine rG (pS 2 Z (iX Z U26 sz2 (fun _=>⟨_,_,Z⟩) c1863 (GO.Dt (T:=(Ad .i64)) (n:=(w64 ((w64 (6 * e1837.Tet))+t1855)).toNat) (o:=0) HS (ro 1 Z) Z Z (getD_some (d:=0) (ltN c1863)) Z Z na2 Z (GO.eql Z Z Z Z (nL ?_)))))
      refine G.Oa (fun p3 h3=>?_)
      have x1:∀ f2,f2≤p1→∀ (n1:List Int) (A1873:Option Addr) (c1874:Nat) (x1875:List Int) (w:World),Am.j80 K f2 d1 t3 a1 c1 x1530 x1532 t1719 t1720 x1779 x1780 e1837 t1855 x1862 n1 x1875=some r1→St w0 w (Box b1 33 [sV A_a d1 c_a]::Own (Ad .i64) 2 (sb b9) ((w64 (6 * t3)).toNat) uu n1::Own Lt 4 (sb b12) ((w64 (6 * t3)).toNat) uu a1::Own (Ad .i64) 2 A1873 c1874 uu x1875::L)→G prog 63 189 [(1,pT b1),(3,I t3),(4,sV (sb b9) n1 ((w64 (6 * t3)).toNat)),(5,sV (sb b12) a1 ((w64 (6 * t3)).toNat)),(6,I c1),(7,sV A1873 x1875 c1874),(8,.bool x1779),(9,I x1532),(10,I (w64 ((x1530.getD x1532.toNat 0).tdiv 6))),(11,I t1719),(12,I t1720),(13,I x1780),(17,I (w64 ((w64 (6 * e1837.Tet))+t1855))),(18,I x1862),(84,I x1780),(85,I t1719),(86,.bool (decide (x1780=t1719))),(89,I x1780),(90,I t1720),(91,.bool (decide (x1780=t1720)))] p3 w (Am.post w0 L r1):=by
       refine jp (fun _ _ _ _ w H _=>by rw [Am.j80] at H; cases H) fun h2 i2 n1 A1873 c1874 x1875 w H HS=>?_
       rw [Am.j80] at H
       subst h3
       rcases iE H with ⟨c1876,H⟩ | ⟨c1876,H⟩
       ·
        refine rG (pS 2 Z (kN 134 Z c1876 (oF Z (oF Z (oF Z (oF Z (oF Z (oF Z (pS 2 Z (nL (rN 3 Z (gW (i1 h2 (Nat.le_trans (Nat.le_of_succ_le i2) (Nat.le_of_succ_le u1)) _ _ _ _ _ _ _ H HS) Z))))))))))))
       obtain ⟨c1877,H⟩:=iN H
       refine rG (pS 2 Z (kN 134 Z (Cy c1876) (oN Z (mV Z (bK (oN Z (mV Z (bK (oN Z (iX Z U26 sz2 (fun _=>⟨_,_,Z⟩) c1877 (bK (oN Z (GO.Dt (T:=(Ad .i64)) (n:=(w64 ((w64 (6 * e1837.Tet))+t1855)).toNat) (o:=0) HS (ro 1 Z) Z Z (getD_some (d:=0) (ltN c1877)) Z Z na2 Z (bK ?_))))))))))))))
       refine oN Z (mV Z (bK (oN Z (GO.neq Z Z Z Z (bK (pS 2 Z (nL (rN 3 Z (gW (i1 h2 (Nat.le_trans (Nat.le_of_succ_le i2) (Nat.le_of_succ_le u1)) _ _ _ _ _ _ _ H HS) Z)))))))))
      rcases iS H with ⟨c1878,H⟩ | ⟨c1878,H⟩
      ·
       refine nB Z (tF c1878) (G.skip (gW (x1 p1 (lR _) _ _ _ _ _ H HS) Z))
      refine yB Z (tT c1878) (sQ (rG (pS 3 Z (iX Z U26 sz2 (fun _=>⟨_,_,Z⟩) c1863 (GO.Ia (T:=(Ad .i64)) (j:=1) (n:=(w64 ((w64 (6 * e1837.Tet))+t1855)).toNat) (o:=0) (vs:=[I x1862]) x1862 HS Z Av Z Z Z Z (htN na2 Z) Z (getD_some (d:=0) (ltN c1863)) Z Z fun wd1879 HS=>nL (G.len (t:=4) (m:=(f1.set ((w64 ((w64 (6 * e1837.Tet))+t1855)).toNat) x1862).length) Z (by simp only [List.length_set] <;> rfl) ?_))))))
      obtain ⟨c1885,H⟩:=iN H
      refine rG (pS 2 Z (GO.Fj (el:=2) ([I (w64 ((w64 (6 * e1837.Tet))+t1855))]) HS Z Z (fun _=>by kernel_rfl) Z fun b1880 wd1881 HS=>GO.app1 (T:=(Ad .i64)) (j:=4) (jb:=0) (w64 ((w64 (6 * e1837.Tet))+t1855)) HS Z Z Av Z Z Z U26 Le Z Z Z c1885 Z fun A1883 c1884 wd1882 HS=>aS Z (nL (gW (x1 p1 (lR _) _ _ _ _ _ H (HS.pk 5 [1,2,3,4] Z)) Z))))
     rcases iS H with ⟨c1886,H⟩ | ⟨c1886,H⟩
     ·
      refine nB Z (tF c1886) (G.skip (gW (t1 h1 (lR _) _ _ H (HS.pk 5 [1,2,3,4] Z)) Z))
     refine yB Z (tT c1886) (rG (mV Z (GO.neg Z Z Z (aS Z (nL (gW (t1 h1 (lR _) _ _ H (HS.pk 5 [1,2,3,4] Z)) Z))))))
    exact gW (d3 o1 (lR _) _ _ _ _ _ _ _ H HS) Z
   exact gW (a3 m1 (lR _) _ _ _ _ _ _ _ H (HS.pk 4 [1,2,3,0] Z)) Z
  exact gW (n3 K (lR _) _ _ _ _ H (HS.pk 3 [2,1,0] Z)) Z
theorem C9.calls {d1:List (List Aw)} {y_a:Nat→(Ty.slice 83 Bb).Lay} {r1:Bool} (HS:St w0 w (L)) (r_a:Ce w0 L (Ty.slice 83 Bb) A_a c_a y_a d1) (H:C9.f K d1=some r1) :
    Calls prog 34 #[.agg [sV A_a d1 c_a].toArray] w (C9.post w0 L r1):=by
  unfold C9.f at H
  refine cG func34 Z ?_
  refine sQ (rG (bA HS Z fun b1 wd2 HS=>aS Z (nL (sQ ?_))))
  obtain ⟨t3,h4,H⟩:=bI H
  refine rG (lW 0 HS Z Jn (fJ qD Z (Am.calls HS (rD 1 r_a) h4) (fun _ wd8 ⟨A5,c6,y7,h9,HS⟩=>⟨_,h9,(aS Z (nL (rN 5 Z ?_)))⟩)))
  refine G.name (fun s1 n1=>?_)
  have q1:∀ g1,g1≤K→∀ (a1:Int) (w:World),C9.l1 K g1 t3 a1=some r1→St w0 w (Own (Ty.slice 2 (Ad .i64)) 26 A5 c6 y7 t3::L)→G prog 34 26 [(3,sV A5 t3 c6),(4,I a1)] s1 w (C9.post w0 L r1):=by
   refine lp (fun _ w H _=>by rw [C9.l1] at H; cases H) fun e1 u1 t1 a1 w H HS=>?_
   rw [C9.l1] at H
   subst n1
   refine rN 2 Z (rG (pS 2 Z (lS Z Z U65 Z (GO.lss Z Z Z Z (nL ?_)))))
   rcases iS H with ⟨c37,H⟩ | ⟨c37,H⟩
   ·
    refine nB Z (tF c37) (rN 3 Z ?_)
    obtain rfl:=sI H
    exact rT _ func34 Z Z ⟨Z,(HS.pk 1 [] Z)⟩
   refine yB Z (tT c37) (rN 7 Z ?_)
   refine G.name (fun o1 p1=>?_)
   have i1:∀ h1,h1≤e1→∀ (c1:Int) (w:World),C9.l4 K h1 t3 a1 c1=some r1→St w0 w (Own (Ty.slice 2 (Ad .i64)) 26 A5 c6 y7 t3::L)→G prog 34 26 [(3,sV A5 t3 c6),(4,I a1),(5,I c1)] o1 w (C9.post w0 L r1):=by
    refine lp (fun _ w H _=>by rw [C9.l4] at H; cases H) fun f1 k1 m1 c1 w H HS=>?_
    rw [C9.l4] at H
    subst p1
    refine rN 3 Z ?_
    rcases iS H with ⟨c46,H⟩ | ⟨c46,H⟩
    ·
     refine nB Z (tF c46) (rN 4 Z (gW (t1 f1 (Nat.le_of_succ_le k1) _ _ H HS) Z))
    refine yB Z (tT c46) (rN 4 Z ?_)
    obtain ⟨c47,H⟩:=iN H
    obtain ⟨c48,H⟩:=iN H
    refine rG (pS 2 Z (iX Z U65 Od (rk (ro 0 Z) HS) c47 (GO.Dt (T:=(Ty.slice 2 (Ad .i64))) (n:=a1.toNat) (o:=0) HS (ro 0 Z) Z Z (getD_some (d:=[]) (ltN c47)) Z Z Ha Z (mV Z (GO.ix Z Z Z U26 sz2 ((Ce.elem (ro 0 Z) c47.1 c47.2) _ HS).2.2.1 c48.1 c48.2 Z (GO.Dt (T:=(Ad .i64)) (n:=c1.toNat) (o:=0) HS (Ce.elem (ro 0 Z) c47.1 c47.2) Z Z (getD_some (d:=0) (ltN c48)) Z Z na2 Z (GO.eql Z Z Z Z (nL ?_))))))))
    rcases iE H with ⟨c49,H⟩ | ⟨c49,H⟩
    ·
     refine yB Z (tT c49) (rN 2 Z ?_)
     obtain rfl:=sI H
     exact rT _ func34 Z Z ⟨Z,(HS.pk 1 [] Z)⟩
    refine nB Z (tF c49) (rN 4 Z (gW (m1 f1 (lR _) _ _ H HS) Z))
   exact gW (i1 e1 (lR _) _ _ H HS) Z
  exact gW (q1 K (lR _) _ _ H (HS.pk 2 [0] Z)) Z
theorem Ex.calls {n_:Int} {r1:List Int} (HS:St w0 w (L)) (H:Ex.f K n_=some r1) :
    Calls prog 108 #[I n_] w (Ex.post w0 L r1):=by
  unfold Ex.f at H
  refine cG func108 Z ?_
  refine rN 3 Z (rG (GO.Fj (el:=2) ([]) HS Z Z (fun _=>by kernel_rfl) Z fun b1 wd2 HS=>?_))
  replace HS:=HS.Ij (T:=(Ad .i64)) (j:=0) Z Av uu ([]:List Int) Z (K9 Z)
  refine GO.Kj (t:=5) (m:=([]:List Int).length) (c':=([]:List Int).length) Z Z Z (aS Z (nL (rN 5 Z ?_)))
  refine G.name (fun h1 f1=>?_)
  have g1:∀ d1,d1≤K→∀ (A10:Option Addr) (c11:Nat) (c1:List Int) (a1:Int) (w:World),Ex.l1 K d1 n_ c1 a1=some r1→St w0 w (Own (Ad .i64) 2 A10 c11 uu c1::L)→G prog 108 16 [(0,I n_),(3,sV A10 c1 c11),(4,I a1)] h1 w (Ex.post w0 L r1):=by
   refine lp (fun _ _ _ _ w H _=>by rw [Ex.l1] at H; cases H) fun e1 k1 i1 A10 c11 c1 a1 w H HS=>?_
   rw [Ex.l1] at H
   subst f1
   refine rN 3 Z ?_
   rcases iS H with ⟨c21,H⟩ | ⟨c21,H⟩
   ·
    refine nB Z (tF c21) (rN 3 Z ?_)
    obtain rfl:=sI H
    exact rT _ func108 Z Z ⟨_,_,Z,HS⟩
   refine yB Z (tT c21) (rN 3 Z ?_)
   obtain ⟨c27,H⟩:=iN H
   refine rG (pS 2 Z (GO.Fj (el:=2) ([I a1]) HS Z Z (fun _=>by kernel_rfl) Z fun b22 wd23 HS=>GO.app1 (T:=(Ad .i64)) (j:=1) (jb:=0) a1 HS Z Z Av Z Z Z U26 Le Z Z Z c27 Z fun A25 c26 wd24 HS=>aS Z (nL (rN 3 Z (gW (i1 e1 (lR _) _ _ _ _ _ H (HS.pk 2 [1] Z)) Z)))))
  exact gW (g1 K (lR _) _ _ _ _ _ H HS) Z
theorem Ed.calls {marks:List Int} {i k_:Int} {r1:List Int} (HS:St w0 w (Own (Ad .i64) 2 A_a c_a uu marks::L)) (H:Ed.f K marks i k_=some r1) :
    Calls prog 109 #[sV A_a marks c_a,I i,I k_] w (Ed.post w0 L A_a c_a r1):=by
  unfold Ed.f at H
  refine cG func109 Z ?_
  refine sQ ?_
  obtain ⟨c1,H⟩:=iN H
  have h2:=(rk (ro 0 Z) HS)
  obtain ⟨c3,H⟩:=iN H
  have h4:=(rk (ro 0 Z) HS)
  refine G.lex mixed [0,1,2,4,5,6,3,7,8,9] (by kernel_rfl) ?_
  replace HS:=HS.drew
  refine GX.ps 2 Z (qL Z Z (fun _ _ g=>iX Z U26 sz2 h2 c1 g) Z (GX.ps 2 Z (qL Z Z (fun _ _ g=>iX Z U26 sz2 h4 c3 g) Z (GX.l1 Z Z Z (fun _ g=>GO.Dt (T:=(Ad .i64)) (n:=i.toNat) (o:=0) HS (ro 0 Z) Z Z (getD_some (d:=0) (ltN c1)) Z Z na2 Z g) Z (GX.l1 Z Z Z (fun _ g=>GO.Dt (T:=(Ad .i64)) (n:=k_.toNat) (o:=0) HS (ro 0 Z) Z Z (getD_some (d:=0) (ltN c3)) Z Z na2 Z g) Z (GX.l1 Z Z Z (fun _ g=>GO.min2 Z Z Z Z g) Z (GX.ps 1 Z (GX.nil (sQ ?_)))))))))
  have h5:=(rk (ro 0 Z) HS)
  have h6:=(rk (ro 0 Z) HS)
  refine G.lex mixed [0,1,2,4,5,6,3,7,8,9] (by kernel_rfl) ?_
  replace HS:=HS.drew
  refine GX.ps 2 Z (qL Z Z (fun _ _ g=>iX Z U26 sz2 h5 c1 g) Z (GX.ps 2 Z (qL Z Z (fun _ _ g=>iX Z U26 sz2 h6 c3 g) Z (GX.l1 Z Z Z (fun _ g=>GO.Dt (T:=(Ad .i64)) (n:=i.toNat) (o:=0) HS (ro 0 Z) Z Z (getD_some (d:=0) (ltN c1)) Z Z na2 Z g) Z (GX.l1 Z Z Z (fun _ g=>GO.Dt (T:=(Ad .i64)) (n:=k_.toNat) (o:=0) HS (ro 0 Z) Z Z (getD_some (d:=0) (ltN c3)) Z Z na2 Z g) Z (GX.l1 Z Z Z (fun _ g=>GO.max2 Z Z Z Z g) Z (GX.ps 1 Z (GX.nil (rN 4 Z ?_)))))))))
  refine G.name (fun h1 f1=>?_)
  have g1:∀ d1,d1≤K→∀ (x11:List Int) (a1:Int) (w:World),Ed.l1 K d1 marks i k_ x11 a1=some r1→St w0 w (Own (Ad .i64) 2 A_a c_a uu x11::L)→G prog 109 43 [(0,sV A_a x11 c_a),(6,I (if marks.getD k_.toNat 0<marks.getD i.toNat 0 then marks.getD k_.toNat 0 else marks.getD i.toNat 0)),(7,I (if marks.getD k_.toNat 0 > marks.getD i.toNat 0 then marks.getD k_.toNat 0 else marks.getD i.toNat 0)),(8,I a1)] h1 w (Ed.post w0 L A_a c_a r1):=by
   refine lp (fun _ _ w H _=>by rw [Ed.l1] at H; cases H) fun b1 i1 e1 x11 a1 w H HS=>?_
   rw [Ed.l1] at H
   subst f1
   refine rN 2 Z (rG (pS 2 Z (lS Z Z U26 Z (GO.lss Z Z Z Z (nL ?_)))))
   rcases iS H with ⟨c17,H⟩ | ⟨c17,H⟩
   ·
    refine nB Z (tF c17) (G.exit Z ?_)
    obtain rfl:=sI H
    exact G.Ki func109 Z ⟨Z,HS⟩
   refine yB Z (tT c17) (rN 4 Z ?_)
   obtain ⟨c18,H⟩:=iN H
   refine rG (pS 2 Z (iX Z U26 sz2 (rk (ro 0 Z) HS) c18 (GO.Dt (T:=(Ad .i64)) (n:=a1.toNat) (o:=0) HS (ro 0 Z) Z Z (getD_some (d:=0) (ltN c18)) Z Z na2 Z (pS 2 Z (nL ?_)))))
   rcases iS H with ⟨c19,H⟩ | ⟨c19,H⟩
   ·
    refine nB Z (tF c19) (rN 4 Z (gW (e1 b1 (lR _) _ _ _ H HS) Z))
   refine yB Z (tT c19) (rG (pS 3 Z (iX Z U26 sz2 (rk (ro 0 Z) HS) c18 (GO.Ia (T:=(Ad .i64)) (j:=0) (n:=a1.toNat) (o:=0) (vs:=[I (if marks.getD k_.toNat 0<marks.getD i.toNat 0 then marks.getD k_.toNat 0 else marks.getD i.toNat 0)]) (if marks.getD k_.toNat 0<marks.getD i.toNat 0 then marks.getD k_.toNat 0 else marks.getD i.toNat 0) HS Z Av Z Z Z Z (htN na2 Z) Z (getD_some (d:=0) (ltN c18)) Z Z fun wd20 HS=>nL (G.len (t:=0) (m:=(x11.set a1.toNat (if marks.getD k_.toNat 0<marks.getD i.toNat 0 then marks.getD k_.toNat 0 else marks.getD i.toNat 0)).length) Z (by simp only [List.length_set] <;> rfl) (rN 3 Z (gW (e1 b1 (lR _) _ _ _ H HS) Z)))))))
  exact gW (g1 K (lR _) _ _ _ H HS) Z
theorem Cg.calls {marks:List Int} {width:Int} {r1:List (List Int)} {r2:Int} (HS:St w0 w (L)) (r_a:Ce w0 L (Ad .i64) A_a c_a uu marks) (H:Cg.f K marks width=some (r1,r2)) :
    Calls prog 110 #[sV A_a marks c_a,I width] w (Cg.post w0 L r1 r2):=by
  unfold Cg.f at H
  refine cG func110 Z ?_
  refine rN 3 Z ?_
  obtain ⟨c1,H⟩:=iN H
  obtain ⟨c2,H⟩:=iN H
  refine rG (mV Z (lS Z Z U26 Z (GO.make (T:=(Ad .i64)) 0 () HS Av Z Z Z U26 Le Z Z Z c1 c2 Z fun b3 wd4 HS=>aS Z (nL (rN 3 Z (rG (GO.Fj (el:=26) ([]) HS Z Z (fun _=>by kernel_rfl) Z fun b5 wd6 HS=>?_)))))))
  replace HS:=HS.Xy (T:=(Ty.slice 2 (Ad .i64))) (j:=0) Z (fun _=>⟨none,0,uu⟩)
  refine GO.Kj (t:=16) (m:=([]:List (List Int)).length) (c':=0) Z Z Z (aS Z (nL (rN 5 Z ?_)))
  refine G.name (fun s1 e2=>?_)
  have f2:∀ m1,m1≤K→∀ (a1:List Int) (b1 f1:Int) (w:World),Cg.l1 K m1 marks width a1 b1 f1=some (r1,r2)→St w0 w (Own (Ad .i64) 2 (sb b3) ((marks.length:Int).toNat) uu a1::Own (Ty.slice 2 (Ad .i64)) 26 (sb b5) 0 (fun _=>⟨none,0,uu⟩) ([]:List (List Int))::L)→G prog 110 67 [(0,sV A_a marks c_a),(1,I width),(6,sV (sb b3) a1 ((marks.length:Int).toNat)),(7,I b1),(8,sV (sb b5) ([]:List (List Int)) 0),(9,I f1)] s1 w (Cg.post w0 L r1 r2):=by
   refine lp (fun _ _ _ w H _=>by rw [Cg.l1] at H; cases H) fun i1 h2 q1 a1 b1 f1 w H HS=>?_
   rw [Cg.l1] at H
   subst e2
   refine rN 2 Z (rG (pS 2 Z (lS Z Z U26 Z (GO.lss Z Z Z Z (nL ?_)))))
   rcases iE H with ⟨c190,H⟩ | ⟨c190,H⟩
   ·
    refine yB Z (tT c190) (rN 4 Z ?_)
    obtain ⟨c191,H⟩:=iN H
    refine rG (pS 2 Z (iX Z U26 sz2 (rk (rD 2 r_a) HS) c191 (GO.Dt (T:=(Ad .i64)) (n:=f1.toNat) (o:=0) HS (rD 2 r_a) Z Z (getD_some (d:=0) (ltN c191)) Z Z na2 Z (pS 2 Z (nL ?_)))))
    rcases iS H with ⟨c192,H⟩ | ⟨c192,H⟩
    ·
     refine nB Z (tF c192) (rN 4 Z (gW (q1 i1 (lR _) _ _ _ _ H HS) Z))
    refine yB Z (tT c192) (sQ ?_)
    obtain ⟨c193,H⟩:=iN H
    refine rG (pS 3 Z (iX Z U26 sz2 (fun _=>⟨_,_,Z⟩) c193 (GO.Ia (T:=(Ad .i64)) (j:=0) (n:=f1.toNat) (o:=0) (vs:=[I b1]) b1 HS Z Av Z Z Z Z (htN na2 Z) Z (getD_some (d:=0) (ltN c193)) Z Z fun wd194 HS=>nL (G.len (t:=6) (m:=(a1.set f1.toNat b1).length) Z (by simp only [List.length_set] <;> rfl) (rN 4 Z (gW (q1 i1 (lR _) _ _ _ _ H HS) Z))))))
   refine nB Z (tF c190) (rN 6 Z ?_)
   refine G.name (fun t1 z1=>?_)
   have d2:∀ k1,k1≤i1→∀ (A250:Option Addr) (c251:Nat) (d1:List (List Int)) (y253:Nat→(Ty.slice 2 (Ad .i64)).Lay) (g1:Int) (w:World),Cg.l7 K k1 marks width a1 b1 d1 g1=some (r1,r2)→St w0 w (Own (Ad .i64) 2 (sb b3) ((marks.length:Int).toNat) uu a1::Own (Ty.slice 2 (Ad .i64)) 26 A250 c251 y253 d1::L)→G prog 110 67 [(0,sV A_a marks c_a),(1,I width),(6,sV (sb b3) a1 ((marks.length:Int).toNat)),(7,I b1),(8,sV A250 d1 c251),(10,I g1)] t1 w (Cg.post w0 L r1 r2):=by
    refine lp (fun _ _ _ _ _ w H _=>by rw [Cg.l7] at H; cases H) fun o1 g2 y1 A250 c251 d1 y253 g1 w H HS=>?_
    rw [Cg.l7] at H
    subst z1
    refine rN 2 Z (rG (pS 2 Z (lS Z Z U26 Z (GO.lss Z Z Z Z (nL ?_)))))
    rcases iS H with ⟨c310,H⟩ | ⟨c310,H⟩
    ·
     refine nB Z (tF c310) (rN 3 Z ?_)
     obtain ⟨rfl,rfl⟩:=I6 H
     exact G.I9 _ _ func110 Z Z Z ⟨_,_,_,Z,(HS.pk 2 [1] Z)⟩
    refine yB Z (tT c310) (rN 4 Z (rG (GO.Fj (el:=2) ([]) HS Z Z (fun _=>by kernel_rfl) Z fun b311 wd312 HS=>?_)))
    replace HS:=HS.Ij (T:=(Ad .i64)) (j:=0) Z Av uu ([]:List Int) Z (K9 Z)
    refine GO.Kj (t:=42) (m:=([]:List Int).length) (c':=([]:List Int).length) Z Z Z (aS Z (nL (rN 5 Z ?_)))
    refine G.name (fun a2 x1=>?_)
    have u1:∀ p1,p1≤o1→∀ (A329:Option Addr) (c330:Nat) (h1:List Int) (e1:Int) (w:World),Cg.l10 K p1 marks width a1 b1 d1 g1 h1 e1=some (r1,r2)→St w0 w (Own (Ad .i64) 2 (sb b3) ((marks.length:Int).toNat) uu a1::Own (Ty.slice 2 (Ad .i64)) 26 A250 c251 y253 d1::Own (Ad .i64) 2 A329 c330 uu h1::L)→G prog 110 67 [(0,sV A_a marks c_a),(1,I width),(6,sV (sb b3) a1 ((marks.length:Int).toNat)),(7,I b1),(8,sV A250 d1 c251),(10,I g1),(11,sV A329 h1 c330),(12,I e1)] a2 w (Cg.post w0 L r1 r2):=by
     refine lp (fun _ _ _ _ w H _=>by rw [Cg.l10] at H; cases H) fun n1 v1 b2 A329 c330 h1 e1 w H HS=>?_
     rw [Cg.l10] at H
     subst x1
     refine rN 3 Z ?_
     rcases iS H with ⟨c349,H⟩ | ⟨c349,H⟩
     ·
      refine nB Z (tF c349) (G.exit Z ?_)
      obtain ⟨c363,H⟩:=iN H
      refine rG (pS 2 Z (GO.Fj (el:=26) ([sV A329 h1 c330]) HS Z Z (fun _=>by kernel_rfl) Z fun b358 wd359 HS=>?_))
      replace HS:=HS.pk 4 [2,0,3,1] Z
      refine GO.vT (S:=(Ad .i64)) (u:=2) HS Z Z Z U65 mU Z Z c363 Z fun A361 c362 y364 wd360 HS=>aS Z (nL (rN 3 Z (gW (y1 n1 (Nat.le_of_succ_le v1) _ _ _ _ _ _ H (HS.pk 3 [2,0] Z)) Z)))
     refine yB Z (tT c349) (rN 3 Z ?_)
     obtain ⟨c350,H⟩:=iN H
     obtain ⟨c351,H⟩:=iN H
     obtain ⟨c357,H⟩:=iN H
     refine rG (pS 4 Z (iX Z U26 sz2 (rk (rD 3 r_a) HS) c350 (GO.Dt (T:=(Ad .i64)) (n:=e1.toNat) (o:=0) HS (rD 3 r_a) Z Z (getD_some (d:=0) (ltN c350)) Z Z na2 Z (iX Z U26 sz2 (fun _=>⟨_,_,Z⟩) c351 (GO.Dt (T:=(Ad .i64)) (n:=(marks.getD e1.toNat 0).toNat) (o:=0) HS (ro 0 Z) Z Z (getD_some (d:=0) (ltN c351)) Z Z na2 Z (GO.Fj (el:=2) ([I (a1.getD ((marks.getD e1.toNat 0).toNat) 0)]) HS Z Z (fun _=>by kernel_rfl) Z fun b352 wd353 HS=>GO.app1 (T:=(Ad .i64)) (j:=3) (jb:=0) (a1.getD ((marks.getD e1.toNat 0).toNat) 0) HS Z Z Av Z Z Z U26 Le Z Z Z c357 Z fun A355 c356 wd354 HS=>aS Z (nL (rN 3 Z (gW (b2 n1 (lR _) _ _ _ _ _ H (HS.pk 4 [1,2,3] Z)) Z)))))))))
    exact gW (u1 o1 (lR _) _ _ _ _ _ H (HS.pk 3 [1,2,0] Z)) Z
   exact gW (d2 i1 (lR _) _ _ _ _ _ _ H HS) Z
  exact gW (f2 K (lR _) _ _ _ _ H (HS.pk 2 [1,0] Z)) Z
theorem Bl.calls {a1:List (List Aw)} {y_a:Nat→(Ty.slice 83 Bb).Lay} {r1 r2 r3:List (List Int)} {r4:List Int} (HS:St w0 w (L)) (r_a:Ce w0 L (Ty.slice 83 Bb) A_a c_a y_a a1) (H:Bl.f K a1=some (r1,r2,r3,r4)) :
    Calls prog 69 #[.agg [sV A_a a1 c_a].toArray] w (Bl.post w0 L r1 r2 r3 r4):=by
  unfold Bl.f at H
  refine cG func69 Z ?_
  refine sQ (rG (bA HS Z fun b1 wd2 HS=>GO.alloc HS Z vD Z Z fun b3 wd4 HS=>aS Z (nL (sQ ?_))))
  obtain ⟨t5,h6,H⟩:=bI H
  refine rG (lW 1 HS Z Jn (fJ Tf Z (D7.calls HS (rD 2 r_a) h6) (fun _ wd7 ⟨h8,HS⟩=>⟨_,h8,(aS Z (nL (sQ ?_)))⟩)))
  obtain ⟨t9,h10,H⟩:=bI H
  refine rG (pS 2 Z (fJ aN Z (Ex.calls HS  h10) (fun _ wd13 ⟨A11,c12,h14,HS⟩=>⟨_,h14,(aS Z (nL (sQ ?_)))⟩)))
  obtain ⟨t15,h16,H⟩:=bI H
  refine rG (pS 2 Z (fJ aN Z (Ex.calls HS  h16) (fun _ wd19 ⟨A17,c18,h20,HS⟩=>⟨_,h20,(aS Z (nL (sQ ?_)))⟩)))
  obtain ⟨t21,h22,H⟩:=bI H
  refine rG (pS 2 Z (fJ aN Z (Ex.calls HS  h22) (fun _ wd25 ⟨A23,c24,h26,HS⟩=>⟨_,h26,(aS Z (nL (rN 5 Z ?_)))⟩)))
  refine G.name (fun a2 k2=>?_)
  have m2:∀ q1,q1≤K→∀ (k1 i1 x782:List Int) (x783:Int) (w:World),Bl.l1 K q1 a1 t5 k1 i1 x782 x783=some (r1,r2,r3,r4)→St w0 w (Box b1 33 [sV A_a a1 c_a]::Box b3 95 [.slice none 0 0,.slice none 0 0,.slice none 0 0]::Own (Ad .i64) 2 A11 c12 uu k1::Own (Ad .i64) 2 A17 c18 uu i1::Own (Ad .i64) 2 A23 c24 uu x782::L)→G prog 69 148 [(1,pT b1),(2,pT b3),(4,I t5),(5,sV A11 k1 c12),(6,sV A17 i1 c18),(7,sV A23 x782 c24),(8,I x783)] a2 w (Bl.post w0 L r1 r2 r3 r4):=by
   refine lp (fun _ _ _ _ w H _=>by rw [Bl.l1] at H; cases H) fun u1 p2 o2 k1 i1 x782 x783 w H HS=>?_
   rw [Bl.l1] at H
   subst k2
   refine rN 3 Z ?_
   rcases iS H with ⟨c1537,H⟩ | ⟨c1537,H⟩
   ·
    refine nB Z (tF c1537) (rN 2 Z (rG (GO.Il (.agg [.slice none 0 0,.slice none 0 0,.slice none 0 0].toArray) Z Z (fun _=>by kernel_rfl) Z (GO.alloc HS Z vD Z Z fun b2251 wd2252 HS=>sW 0 HS Z kM Z fun wd2253 HS=>nL (sQ (rG (mV Z (GO.Fj (el:=2) ([I 0,I 0,I 0,I t5]) HS Z Z (fun _=>by kernel_rfl) Z fun b2254 wd2255 HS=>?_))))))))
    replace HS:=HS.Ij (T:=(Ad .i64)) (j:=0) Z Av uu ([0,0,0,t5]:List Int) Z (K9 Z)
    refine GO.Kj (t:=121) (m:=([0,0,0,t5]:List Int).length) (c':=([0,0,0,t5]:List Int).length) Z Z Z (aS Z (nL (sQ ?_)))
    obtain ⟨t2256,t2257,h2258,H⟩:=De H
    obtain ⟨c2265,H⟩:=iN H
    refine rG (pS 2 Z (fJ cK Z (Cg.calls HS (ro 4 Z) h2258) (fun _ wd2262 ⟨A2259,c2260,y2261,h2263,HS⟩=>⟨_,h2263,(pS 3 Z (fL b2251 0 dO Z (GO.Kq (j:=2) (vs:=[sV A2259 t2256 c2260]) ([sV A2259 t2256 c2260,.slice none 0 0,.slice none 0 0]) HS Z Z Z Z Z (htN Q3 Z) Z Z Z fun wd2264 HS=>iX Z U26 sz2 (fun _=>⟨_,_,Z⟩) c2265 (GO.Ia (T:=(Ad .i64)) (j:=1) (n:=0) (o:=0) (vs:=[I t2257]) t2257 HS Z Av Z Z Z Z (htN na2 Z) Z (getD_some (d:=0) (ltN c2265)) Z Z fun wd2266 HS=>nL (G.len (t:=16) (m:=(([0,0,0,t5]:List Int).set 0 t2257).length) Z (by simp only [List.length_set] <;> rfl) (sQ ?_))))))⟩)))
    obtain ⟨t2267,t2268,h2269,H⟩:=De H
    obtain ⟨c2276,H⟩:=iN H
    refine rG (pS 2 Z (fJ cK Z (Cg.calls HS (ro 6 Z) h2269) (fun _ wd2273 ⟨A2270,c2271,y2272,h2274,HS⟩=>⟨_,h2274,(pS 3 Z (fL b2251 1 Xu Z (GO.Kq (j:=3) (vs:=[sV A2270 t2267 c2271]) ([sV A2259 t2256 c2260,sV A2270 t2267 c2271,.slice none 0 0]) HS Z Z Z Z Z (htN Q3 Z) Z Z Z fun wd2275 HS=>iX Z U26 sz2 (fun _=>⟨_,_,Z⟩) c2276 (GO.Ia (T:=(Ad .i64)) (j:=2) (n:=1) (o:=0) (vs:=[I t2268]) t2268 HS Z Av Z Z Z Z (htN na2 Z) Z (getD_some (d:=0) (ltN c2276)) Z Z fun wd2277 HS=>nL (G.len (t:=16) (m:=((([0,0,0,t5]:List Int).set 0 t2257).set 1 t2268).length) Z (by simp only [List.length_set] <;> rfl) (sQ ?_))))))⟩)))
    obtain ⟨t2278,t2279,h2280,H⟩:=De H
    obtain ⟨c2287,H⟩:=iN H
    refine rG (pS 2 Z (fJ cK Z (Cg.calls HS (ro 8 Z) h2280) (fun _ wd2284 ⟨A2281,c2282,y2283,h2285,HS⟩=>⟨_,h2285,(pS 3 Z (fL b2251 2 Qv Z (GO.Kq (j:=4) (vs:=[sV A2281 t2278 c2282]) ([sV A2259 t2256 c2260,sV A2270 t2267 c2271,sV A2281 t2278 c2282]) HS Z Z Z Z Z (htN Q3 Z) Z Z Z fun wd2286 HS=>iX Z U26 sz2 (fun _=>⟨_,_,Z⟩) c2287 (GO.Ia (T:=(Ad .i64)) (j:=3) (n:=2) (o:=0) (vs:=[I t2279]) t2279 HS Z Av Z Z Z Z (htN na2 Z) Z (getD_some (d:=0) (ltN c2287)) Z Z fun wd2288 HS=>nL (G.len (t:=16) (m:=(((([0,0,0,t5]:List Int).set 0 t2257).set 1 t2268).set 2 t2279).length) Z (by simp only [List.length_set] <;> rfl) (sQ (rG (lW 4 HS Z kM (mV Z (sW 6 HS Z kM Z fun wd2289 HS=>?_))))))))))⟩)))
    refine aS Z (nL ?_)
    obtain ⟨rfl,rfl,rfl,rfl⟩:=Mi H
    exact G.I9 _ _ func69 Z (I8.J6 (j:=6) (vs:=[sV A2259 t2256 c2260,sV A2270 t2267 c2271,sV A2281 t2278 c2282]) HS Z Z Z kM) Z ⟨_,_,_,_,_,_,_,_,_,_,_,Z,(HS.pk 10 [2,1,0,3] Z)⟩
   refine yB Z (tT c1537) (rN 7 Z ?_)
   refine G.name (fun h2 c2=>?_)
   have z1:∀ v1,v1≤u1→∀ (f1 d1 x1829:List Int) (x1830:Int) (w:World),Bl.l24 K v1 a1 t5 x783 f1 d1 x1829 x1830=some (r1,r2,r3,r4)→St w0 w (Box b1 33 [sV A_a a1 c_a]::Box b3 95 [.slice none 0 0,.slice none 0 0,.slice none 0 0]::Own (Ad .i64) 2 A11 c12 uu f1::Own (Ad .i64) 2 A17 c18 uu d1::Own (Ad .i64) 2 A23 c24 uu x1829::L)→G prog 69 148 [(1,pT b1),(2,pT b3),(4,I t5),(5,sV A11 f1 c12),(6,sV A17 d1 c18),(7,sV A23 x1829 c24),(8,I x783),(9,I x1830)] h2 w (Bl.post w0 L r1 r2 r3 r4):=by
    refine lp (fun _ _ _ _ w H _=>by rw [Bl.l24] at H; cases H) fun h1 f2 s1 f1 d1 x1829 x1830 w H HS=>?_
    rw [Bl.l24] at H
    subst c2
    refine rN 3 Z ?_
    rcases iS H with ⟨c2041,H⟩ | ⟨c2041,H⟩
    ·
     refine nB Z (tF c2041) (rN 4 Z (gW (o2 h1 (Nat.le_of_succ_le f2) _ _ _ _ _ H HS) Z))
    refine yB Z (tT c2041) (rN 4 Z ?_)
    obtain ⟨c2042,H⟩:=iN H
    obtain ⟨c2043,H⟩:=iN H
    obtain ⟨e2044,h2045,H⟩:=Ih H
    refine rG (fL b1 0 H8 Z (lB 0 HS Z Kr Z (mV Z (iX Z U31 Nh (rk (rD 5 r_a) HS) c2042 (GO.Dt (T:=(Ty.slice 83 Bb)) (n:=x783.toNat) (o:=0) HS (rD 5 r_a) Z Z (getD_some (d:=[]) (ltN c2042)) Z Z Ng Z (mV Z (GO.ix Z Z Z U81 Nr ((Ce.elem (rD 5 r_a) c2042.1 c2042.2) _ HS).2.2.1 c2043.1 c2043.2 Z (GO.Lb (T:=Bb) (n:=x1830.toNat) HS (Ce.elem (rD 5 r_a) c2042.1 c2042.2) Z Z (Hm (ltN c2043) h2045) J2 Z (GO.alloc HS Z Rp Z Z fun b2046 wd2047 HS=>sW 0 HS Z J2 Z fun wd2048 HS=>nL (rN 2 Z (rG (fL b2046 0 Hf Z ?_))))))))))))
    refine lB 0 HS Z na2 Z (GO.lss Z Z Z Z (nL ?_))
    rcases iE H with ⟨c2049,H⟩ | ⟨c2049,H⟩
    ·
     refine yB Z (tT c2049) (rN 3 Z (gW (s1 h1 (lR _) _ _ _ _ _ H (HS.pk 6 [1,2,3,4,5] Z)) Z))
    refine nB Z (tF c2049) (rN 2 Z ?_)
    obtain ⟨t2050,h2051,H⟩:=bI H
    obtain ⟨t2054,h2055,H⟩:=bI H
    obtain ⟨c2056,H⟩:=iN H
    refine G.Jg mixed (fun w=>St w0 w (Box b2046 83 [I e2044.Tet,I e2044.Perm]::L)) [6,9] [0,1,2,3,4,5,8,10,6,7,9,11,12,13] [] (by kernel_rfl) (by kernel_rfl) (HS.drew.pk 6 [0] Z) ?_
    replace HS:=HS.drew
    refine GX.ps 5 Z (qL Z Z (fun _ _ g=>fL b2046 0 Hf Z g) Z (qL Z Z (fun _ _ g=>fL b2046 1 Jy Z g) Z (GX.ps 1 Z (GX.ls Z Z Z (HS.pk 6 [0] Z) (fun _ HS _ g=>lB 0 HS Z na2 Z g) Z (GX.ps 1 Z (GX.ls Z Z Z (HS.pk 6 [0] Z) (fun _ HS _ g=>lB 0 HS Z na2 Z g) Z (GX.l2 Z (fJ Qw Z (Ef.calls HS  h2051) (fun _ wd2052 ⟨h2053,HS⟩=>⟨_,h2053,(GX.fin (HS.pk 6 [0] Z) (GX.ps 1 Z (GX.l2 Z ?_)))⟩)))))))))
    replace HS:=HS.pk 6 [5,0,1,2,3,4] Z
    refine fJ bG Z (Ed.calls HS  h2055) (fun _ wd2057 ⟨h2058,HS⟩=>⟨_,h2058,(GX.fin (HS.pk 6 [1] Z) (GX.nil (G.len (t:=7) (m:=t2054.length) Z (by simp only [List.length_set,c2056] <;> rfl) (rN 5 Z ?_))))⟩)
    refine G.name (fun x1 n2=>?_)
    have d2:∀ o1,o1≤h1→∀ (c1:List Int) (x2070:Int) (w:World),Bl.l32 K o1 a1 t5 x783 d1 x1830 e2044 t2054 c1 x2070=some (r1,r2,r3,r4)→St w0 w (Box b1 33 [sV A_a a1 c_a]::Box b3 95 [.slice none 0 0,.slice none 0 0,.slice none 0 0]::Own (Ad .i64) 2 A11 c12 uu c1::Own (Ad .i64) 2 A17 c18 uu d1::Own (Ad .i64) 2 A23 c24 uu t2054::Box b2046 83 [I e2044.Tet,I e2044.Perm]::L)→G prog 69 148 [(1,pT b1),(2,pT b3),(4,I t5),(5,sV A11 c1 c12),(6,sV A17 d1 c18),(7,sV A23 t2054 c24),(8,I x783),(9,I x1830),(10,pT b2046),(11,I x2070)] x1 w (Bl.post w0 L r1 r2 r3 r4):=by
     refine lp (fun _ _ w H _=>by rw [Bl.l32] at H; cases H) fun g1 y1 p1 c1 x2070 w H HS=>?_
     rw [Bl.l32] at H
     subst n2
     refine rN 3 Z ?_
     rcases iE H with ⟨c2161,H⟩ | ⟨c2161,H⟩
     ·
      refine yB Z (tT c2161) (rN 5 Z ?_)
      rcases iE H with ⟨c2162,H⟩ | ⟨c2162,H⟩
      ·
       refine nB Z (nT c2162) (rN 4 Z (gW (p1 g1 (lR _) _ _ _ H HS) Z))
      refine yB Z (nF c2162) ?_
      obtain ⟨t2163,h2164,H⟩:=bI H
      obtain ⟨t2167,h2168,H⟩:=bI H
      obtain ⟨c2169,H⟩:=iN H
      refine G.Jg mixed (fun w=>St w0 w (Box b2046 83 [I e2044.Tet,I e2044.Perm]::L)) [6,9] [0,1,2,3,4,5,8,10,6,7,9,11,12,13] [] (by kernel_rfl) (by kernel_rfl) (HS.drew.pk 6 [5] Z) ?_
      replace HS:=HS.drew
      refine GX.ps 5 Z (qL Z Z (fun _ _ g=>fL b2046 0 Hf Z g) Z (qL Z Z (fun _ _ g=>fL b2046 1 Jy Z g) Z (GX.ps 1 Z (GX.ls Z Z Z (HS.pk 6 [5] Z) (fun _ HS _ g=>lB 0 HS Z na2 Z g) Z (GX.ps 1 Z (GX.ls Z Z Z (HS.pk 6 [5] Z) (fun _ HS _ g=>lB 0 HS Z na2 Z g) Z (GX.l2 Z (fJ Qw Z (Ef.calls HS  h2164) (fun _ wd2165 ⟨h2166,HS⟩=>⟨_,h2166,(GX.fin (HS.pk 6 [5] Z) (GX.ps 1 Z (GX.l2 Z ?_)))⟩)))))))))
      replace HS:=HS.pk 6 [2,0,1,3,4,5] Z
      refine fJ bG Z (Ed.calls HS  h2168) (fun _ wd2170 ⟨h2171,HS⟩=>⟨_,h2171,(GX.fin (HS.pk 6 [5] Z) (GX.nil (G.len (t:=5) (m:=t2167.length) Z (by simp only [List.length_set,c2169] <;> rfl) (rN 3 Z (gW (p1 g1 (lR _) _ _ _ H (HS.pk 6 [1,2,0,3,4,5] Z)) Z)))))⟩)
     refine nB Z (tF c2161) (rN 5 Z ?_)
     refine G.name (fun e2 b2=>?_)
     have g2:∀ t1,t1≤g1→∀ (m1:List Int) (x2198:Int) (w:World),Bl.l34 K t1 a1 t5 x783 x1830 e2044 t2054 c1 m1 x2198=some (r1,r2,r3,r4)→St w0 w (Box b1 33 [sV A_a a1 c_a]::Box b3 95 [.slice none 0 0,.slice none 0 0,.slice none 0 0]::Own (Ad .i64) 2 A11 c12 uu c1::Own (Ad .i64) 2 A17 c18 uu m1::Own (Ad .i64) 2 A23 c24 uu t2054::Box b2046 83 [I e2044.Tet,I e2044.Perm]::L)→G prog 69 148 [(1,pT b1),(2,pT b3),(4,I t5),(5,sV A11 c1 c12),(6,sV A17 m1 c18),(7,sV A23 t2054 c24),(8,I x783),(9,I x1830),(10,pT b2046),(12,I x2198)] e2 w (Bl.post w0 L r1 r2 r3 r4):=by
      refine lp (fun _ _ w H _=>by rw [Bl.l34] at H; cases H) fun e1 i2 n1 m1 x2198 w H HS=>?_
      rw [Bl.l34] at H
      subst b2
      refine rN 3 Z ?_
      rcases iS H with ⟨c2225,H⟩ | ⟨c2225,H⟩
      ·
       refine nB Z (tF c2225) (rN 4 Z (gW (s1 e1 (Nat.le_trans (Nat.le_of_succ_le i2) (Nat.le_of_succ_le y1)) _ _ _ _ _ H (HS.pk 6 [0,1,2,3,4] Z)) Z))
      refine yB Z (tT c2225) (rN 4 Z ?_)
      obtain ⟨t2226,t2227,h2228,H⟩:=De H
      refine rG (mV Z (fJ dX Z (H7.calls HS  h2228) (fun _ wd2229 ⟨h2230,HS⟩=>⟨_,h2230,(pS 5 Z (nL (sQ ?_)))⟩)))
      rcases iE H with ⟨c2232,H⟩ | ⟨c2232,H⟩
      ·
       refine rG (pS 4 Z (kN 95 Z (nT c2232) (oF Z (oF Z (oF Z (GO.Hw Z Z Z Z Z (nL (rN 5 Z (gW (n1 e1 (lR _) _ _ _ H HS) Z)))))))))
      refine rG (pS 4 Z (kN 95 Z (nF c2232) (oN Z (mV Z (bK (oN Z (mV Z (bK (oN Z (GO.neq Z Z Z Z (bK (GO.Gw Z Z Z Z Z (nL ?_)))))))))))))
      rcases iE H with ⟨c2233,H⟩ | ⟨c2233,H⟩
      ·
       refine nB Z (nT c2233) (rN 4 Z (gW (n1 e1 (lR _) _ _ _ H HS) Z))
      refine yB Z (nF c2233) ?_
      obtain ⟨t2234,h2235,H⟩:=bI H
      obtain ⟨t2238,h2239,H⟩:=bI H
      obtain ⟨t2242,h2243,H⟩:=bI H
      obtain ⟨t2246,h2247,H⟩:=bI H
      obtain ⟨c2248,H⟩:=iN H
      refine G.Jg mixed (fun w=>St w0 w (Box b2046 83 [I e2044.Tet,I e2044.Perm]::L)) [6,9,13] [0,1,2,3,4,5,8,10,12,14,6,7,9,13,11,15,16,17,18] [] (by kernel_rfl) (by kernel_rfl) (HS.drew.pk 6 [5] Z) ?_
      replace HS:=HS.drew
      refine GX.ps 5 Z (qL Z Z (fun _ _ g=>fL b2046 0 Hf Z g) Z (qL Z Z (fun _ _ g=>fL b2046 1 Jy Z g) Z (GX.ps 1 Z (qL Z Z (fun _ _ g=>fL b2046 1 Jy Z g) Z (GX.ps 1 Z (GX.ls Z Z Z (HS.pk 6 [5] Z) (fun _ HS _ g=>lB 0 HS Z na2 Z g) Z (GX.ps 1 Z (GX.ls Z Z Z (HS.pk 6 [5] Z) (fun _ HS _ g=>lB 0 HS Z na2 Z g) Z (GX.ls Z Z Z (HS.pk 6 [5] Z) (fun _ HS _ g=>lB 0 HS Z na2 Z g) Z (GX.l2 Z (fJ Qw Z (Ef.calls HS  h2235) (fun _ wd2236 ⟨h2237,HS⟩=>⟨_,h2237,(GX.fin (HS.pk 6 [5] Z) (GX.l2 Z (fJ Qw Z (Ef.calls HS  h2239) (fun _ wd2240 ⟨h2241,HS⟩=>⟨_,h2241,?_⟩))))⟩))))))))))))
      refine GX.fin (HS.pk 6 [5] Z) (GX.l2 Z (fJ fD Z (Eu.calls HS  h2243) (fun _ wd2244 ⟨h2245,HS⟩=>⟨_,h2245,(GX.fin (HS.pk 6 [5] Z) (GX.ps 1 Z (GX.l2 Z ?_)))⟩)))
      replace HS:=HS.pk 6 [3,0,1,2,4,5] Z
      refine fJ bG Z (Ed.calls HS  h2247) (fun _ wd2249 ⟨h2250,HS⟩=>⟨_,h2250,(GX.fin (HS.pk 6 [5] Z) (GX.nil (G.len (t:=6) (m:=t2246.length) Z (by simp only [List.length_set,c2248] <;> rfl) (rN 3 Z (gW (n1 e1 (lR _) _ _ _ H (HS.pk 6 [1,2,3,0,4,5] Z)) Z)))))⟩)
     exact gW (g2 g1 (lR _) _ _ _ H HS) Z
    exact gW (d2 h1 (lR _) _ _ _ H (HS.pk 6 [2,3,4,5,0,1] Z)) Z
   exact gW (z1 u1 (lR _) _ _ _ _ _ H HS) Z
  exact gW (m2 K (lR _) _ _ _ _ _ H (HS.pk 5 [4,3,2,1,0] Z)) Z
theorem Hu.calls {rows columns:Int} {r1 r2:Int} {r3:List Int} (HS:St w0 w (L)) (H:Hu.f rows columns=some (r1,r2,r3)) :
    Calls prog 47 #[I rows,I columns] w (Hu.post w0 L r1 r2 r3):=by
  unfold Hu.f at H
  refine cG func47 Z ?_
  refine sQ (rG (GO.alloc HS Z Md Z Z fun b1 wd2 HS=>nL (sQ ?_)))
  obtain ⟨c3,H⟩:=iN H
  obtain ⟨c4,H⟩:=iN H
  refine rG (pS 5 Z (GO.make (T:=(Ad .i64)) 0 () HS Av Z Z Z U26 Le Z Z Z c3 c4 Z fun b5 wd6 HS=>GO.Il (.agg [I rows,I columns,sV (sb b5) (List.replicate (w64 (rows * columns)).toNat (0:Int)) ((w64 (rows * columns)).toNat)].toArray) Z Z (fun _=>by kernel_rfl) Z (sW 1 HS Z Du Z fun wd7 HS=>nL ?_)))
  obtain ⟨rfl,rfl,rfl⟩:=Jh H
  exact rT _ func47 Z (I8.J6 (j:=1) (vs:=[I rows,I columns,sV (sb b5) (List.replicate (w64 (rows * columns)).toNat (0:Int)) ((w64 (rows * columns)).toNat)]) HS Z Z Z Du) ⟨_,_,Z,(HS.pk 2 [0] Z)⟩
theorem Fh.calls {f:Int} {r1:List Int} (HS:St w0 w (L)) (H:Fh.f K f=some r1) :
    Calls prog 73 #[I f] w (Fh.post w0 L r1):=by
  unfold Fh.f at H
  refine cG func73 Z ?_
  refine rN 3 Z (rG (GO.Fj (el:=2) ([]) HS Z Z (fun _=>by kernel_rfl) Z fun b1 wd2 HS=>?_))
  replace HS:=HS.Ij (T:=(Ad .i64)) (j:=0) Z Av uu ([]:List Int) Z (K9 Z)
  refine GO.Kj (t:=5) (m:=([]:List Int).length) (c':=([]:List Int).length) Z Z Z (aS Z (nL (rN 5 Z ?_)))
  refine G.name (fun i1 g1=>?_)
  have h1:∀ e1,e1≤K→∀ (A10:Option Addr) (c11:Nat) (c1:List Int) (a1:Int) (w:World),Fh.l1 K e1 f c1 a1=some r1→St w0 w (Own (Ad .i64) 2 A10 c11 uu c1::L)→G prog 73 18 [(0,I f),(3,sV A10 c1 c11),(4,I a1)] i1 w (Fh.post w0 L r1):=by
   refine lp (fun _ _ _ _ w H _=>by rw [Fh.l1] at H; cases H) fun d1 k1 f1 A10 c11 c1 a1 w H HS=>?_
   rw [Fh.l1] at H
   subst g1
   refine rN 3 Z ?_
   rcases iS H with ⟨c22,H⟩ | ⟨c22,H⟩
   ·
    refine nB Z (tF c22) (rN 3 Z ?_)
    obtain rfl:=sI H
    exact rT _ func73 Z Z ⟨_,_,Z,HS⟩
   refine yB Z (tT c22) (rN 5 Z ?_)
   rcases iE H with ⟨c23,H⟩ | ⟨c23,H⟩
   ·
    refine nB Z (nT c23) (rN 4 Z (gW (f1 d1 (lR _) _ _ _ _ _ H HS) Z))
   refine yB Z (nF c23) ?_
   obtain ⟨c29,H⟩:=iN H
   refine rG (pS 2 Z (GO.Fj (el:=2) ([I a1]) HS Z Z (fun _=>by kernel_rfl) Z fun b24 wd25 HS=>GO.app1 (T:=(Ad .i64)) (j:=1) (jb:=0) a1 HS Z Z Av Z Z Z U26 Le Z Z Z c29 Z fun A27 c28 wd26 HS=>aS Z (nL (rN 3 Z (gW (f1 d1 (lR _) _ _ _ _ _ H (HS.pk 2 [1] Z)) Z)))))
  exact gW (h1 K (lR _) _ _ _ _ _ H HS) Z
theorem Aj.calls {d1:List (List Aw)} {y_a:Nat→(Ty.slice 83 Bb).Lay} {r1:List (List Int)} (HS:St w0 w (L)) (r_a:Ce w0 L (Ty.slice 83 Bb) A_a c_a y_a d1) (H:Aj.f K d1=some r1) :
    Calls prog 70 #[.agg [sV A_a d1 c_a].toArray] w (Aj.post w0 L r1):=by
  unfold Aj.f at H
  refine cG func70 Z ?_
  refine sQ (rG (bA HS Z fun b1 wd2 HS=>aS Z (nL (sQ (rG (GO.Fj (el:=26) ([]) HS Z Z (fun _=>by kernel_rfl) Z fun b3 wd4 HS=>?_))))))
  replace HS:=HS.Xy (T:=(Ty.slice 2 (Ad .i64))) (j:=0) Z (fun _=>⟨none,0,uu⟩)
  refine GO.Kj (t:=14) (m:=([]:List (List Int)).length) (c':=0) Z Z Z (aS Z (nL (rN 5 Z ?_)))
  refine G.name (fun g2 d3=>?_)
  have f3:∀ b2,b2≤K→∀ (A774:Option Addr) (c775:Nat) (a1:List (List Int)) (y777:Nat→(Ty.slice 2 (Ad .i64)).Lay) (e1:Int) (w:World),Aj.l1 K b2 d1 a1 e1=some r1→St w0 w (Box b1 33 [sV A_a d1 c_a]::Own (Ty.slice 2 (Ad .i64)) 26 A774 c775 y777 a1::L)→G prog 70 105 [(1,pT b1),(3,sV A774 a1 c775),(4,I e1)] g2 w (Aj.post w0 L r1):=by
   refine lp (fun _ _ _ _ _ w H _=>by rw [Aj.l1] at H; cases H) fun f2 i3 g3 A774 c775 a1 y777 e1 w H HS=>?_
   rw [Aj.l1] at H
   subst d3
   refine rN 2 Z ?_
   obtain ⟨t1548,h1549,H⟩:=bI H
   refine rG (mV Z (lW 0 HS Z Jn (fJ Tf Z (D7.calls HS (rD 2 r_a) h1549) (fun _ wd1550 ⟨h1551,HS⟩=>⟨_,h1551,(GO.lss Z Z Z Z (nL ?_))⟩))))
   rcases iS H with ⟨c1552,H⟩ | ⟨c1552,H⟩
   ·
    refine nB Z (tF c1552) (rN 3 Z ?_)
    obtain rfl:=sI H
    exact rT _ func70 Z Z ⟨_,_,_,Z,(HS.pk 2 [1] Z)⟩
   refine yB Z (tT c1552) (rN 4 Z (rG (GO.Fj (el:=2) ([I 1,I 1,I 1,I 1]) HS Z Z (fun _=>by kernel_rfl) Z fun b1553 wd1554 HS=>?_)))
   replace HS:=HS.Ij (T:=(Ad .i64)) (j:=0) Z Av uu ([1,1,1,1]:List Int) Z (K9 Z)
   refine GO.Kj (t:=21) (m:=([1,1,1,1]:List Int).length) (c':=([1,1,1,1]:List Int).length) Z Z Z (aS Z (nL (rN 5 Z ?_)))
   refine G.name (fun n2 h3=>?_)
   have z2:∀ e2,e2≤f2→∀ (f1:List Int) (c1:Int) (w:World),Aj.l76 K e2 d1 a1 e1 f1 c1=some r1→St w0 w (Box b1 33 [sV A_a d1 c_a]::Own (Ty.slice 2 (Ad .i64)) 26 A774 c775 y777 a1::Own (Ad .i64) 2 (sb b1553) (([1,1,1,1]:List Int).length) uu f1::L)→G prog 70 105 [(1,pT b1),(3,sV A774 a1 c775),(4,I e1),(5,sV (sb b1553) f1 (([1,1,1,1]:List Int).length)),(6,I c1)] n2 w (Aj.post w0 L r1):=by
    refine lp (fun _ _ w H _=>by rw [Aj.l76] at H; cases H) fun i1 e3 q1 f1 c1 w H HS=>?_
    rw [Aj.l76] at H
    subst h3
    refine rN 3 Z ?_
    rcases iS H with ⟨c2061,H⟩ | ⟨c2061,H⟩
    ·
     refine nB Z (tF c2061) (G.exit Z ?_)
     obtain ⟨c2315,H⟩:=iN H
     refine rG (pS 2 Z (GO.Fj (el:=26) ([sV (sb b1553) f1 (([1,1,1,1]:List Int).length)]) HS Z Z (fun _=>by kernel_rfl) Z fun b2310 wd2311 HS=>?_))
     replace HS:=HS.pk 4 [2,0,3,1] Z
     refine GO.vT (S:=(Ad .i64)) (u:=2) HS Z Z Z U65 mU Z Z c2315 Z fun A2313 c2314 y2316 wd2312 HS=>aS Z (nL (rN 3 Z (gW (g3 i1 (Nat.le_of_succ_le e3) _ _ _ _ _ _ H (HS.pk 3 [2,0] Z)) Z)))
    refine yB Z (tT c2061) (rN 4 Z ?_)
    obtain ⟨c2062,H⟩:=iN H
    obtain ⟨c2063,H⟩:=iN H
    obtain ⟨e2064,h2065,H⟩:=Ih H
    refine rG (fL b1 0 H8 Z (lB 0 HS Z Kr Z (mV Z (iX Z U31 Nh (rk (rD 3 r_a) HS) c2062 (GO.Dt (T:=(Ty.slice 83 Bb)) (n:=e1.toNat) (o:=0) HS (rD 3 r_a) Z Z (getD_some (d:=[]) (ltN c2062)) Z Z Ng Z (mV Z (GO.ix Z Z Z U81 Nr ((Ce.elem (rD 3 r_a) c2062.1 c2062.2) _ HS).2.2.1 c2063.1 c2063.2 Z (GO.Lb (T:=Bb) (n:=c1.toNat) HS (Ce.elem (rD 3 r_a) c2062.1 c2062.2) Z Z (Hm (ltN c2063) h2065) J2 Z (GO.alloc HS Z Rp Z Z fun b2066 wd2067 HS=>sW 0 HS Z J2 Z fun wd2068 HS=>nL (rN 2 Z (rG (fL b2066 0 Hf Z ?_))))))))))))
    refine lB 0 HS Z na2 Z (GO.lss Z Z Z Z (nL ?_))
    rcases iE H with ⟨c2069,H⟩ | ⟨c2069,H⟩
    ·
     refine yB Z (tT c2069) (rN 3 Z (gW (q1 i1 (lR _) _ _ _ H (HS.pk 4 [1,2,3] Z)) Z))
    refine nB Z (tF c2069) (rN 2 Z ?_)
    obtain ⟨t2070,h2071,H⟩:=bI H
    refine rG (fL b2066 1 Jy Z (lB 0 HS Z na2 Z (mV Z (fJ Qw Z (Ef.calls HS  h2071) (fun _ wd2072 ⟨h2073,HS⟩=>⟨_,h2073,(aS Z (nL (rN 2 Z ?_)))⟩)))))
    refine G.Oa (fun x2 q2=>?_)
    have s1:∀ c2,c2≤i1→∀ (x2078:Bool) (w:World),Aj.Rt K c2 d1 a1 e1 f1 c1 e2064 t2070 x2078=some r1→St w0 w (Box b1 33 [sV A_a d1 c_a]::Own (Ty.slice 2 (Ad .i64)) 26 A774 c775 y777 a1::Own (Ad .i64) 2 (sb b1553) (([1,1,1,1]:List Int).length) uu f1::Box b2066 83 [I e2064.Tet,I e2064.Perm]::L)→G prog 70 105 [(1,pT b1),(3,sV A774 a1 c775),(4,I e1),(5,sV (sb b1553) f1 (([1,1,1,1]:List Int).length)),(6,I c1),(7,pT b2066),(8,I t2070),(55,.bool x2078)] x2 w (Aj.post w0 L r1):=by
     refine jp (fun _ w H _=>by rw [Aj.Rt] at H; cases H) fun p1 x1 x2078 w H HS=>?_
     rw [Aj.Rt] at H
     subst q2
     rcases iE H with ⟨c2079,H⟩ | ⟨c2079,H⟩
     ·
      refine yB Z c2079 (rN 3 Z (gW (q1 p1 (Nat.le_of_succ_le x1) _ _ _ H (HS.pk 4 [0,1,2] Z)) Z))
     refine nB Z (Cy c2079) (rN 2 Z (rG (GO.Fj (el:=2) ([]) HS Z Z (fun _=>by kernel_rfl) Z fun b2080 wd2081 HS=>?_)))
     replace HS:=HS.Ij (T:=(Ad .i64)) (j:=0) Z Av uu ([]:List Int) Z (K9 Z)
     refine GO.Kj (t:=56) (m:=([]:List Int).length) (c':=([]:List Int).length) Z Z Z (aS Z (nL (sQ ?_)))
     obtain ⟨t2082,h2083,H⟩:=bI H
     refine rG (mV Z (fJ iU Z (Fh.calls HS  h2083) (fun _ wd2086 ⟨A2084,c2085,h2087,HS⟩=>⟨_,h2087,(aS Z (nL (rN 5 Z ?_)))⟩)))
     refine G.name (fun t2 i2=>?_)
     have m2:∀ a2,a2≤p1→∀ (A2104:Option Addr) (c2105:Nat) (g1:List Int) (m1:Int) (w:World),Aj.V4 K a2 d1 a1 e1 f1 c1 e2064 t2082 g1 m1=some r1→St w0 w (Box b1 33 [sV A_a d1 c_a]::Own (Ty.slice 2 (Ad .i64)) 26 A774 c775 y777 a1::Own (Ad .i64) 2 (sb b1553) (([1,1,1,1]:List Int).length) uu f1::Box b2066 83 [I e2064.Tet,I e2064.Perm]::Own (Ad .i64) 2 A2104 c2105 uu g1::Own (Ad .i64) 2 A2084 c2085 uu t2082::L)→G prog 70 105 [(1,pT b1),(3,sV A774 a1 c775),(4,I e1),(5,sV (sb b1553) f1 (([1,1,1,1]:List Int).length)),(6,I c1),(7,pT b2066),(9,sV A2104 g1 c2105),(10,sV A2084 t2082 c2085),(11,I m1)] t2 w (Aj.post w0 L r1):=by
      refine lp (fun _ _ _ _ w H _=>by rw [Aj.V4] at H; cases H) fun u1 o2 k2 A2104 c2105 g1 m1 w H HS=>?_
      rw [Aj.V4] at H
      subst i2
      refine rN 3 Z ?_
      rcases iE H with ⟨c2208,H⟩ | ⟨c2208,H⟩
      ·
       refine yB Z (tT c2208) (rN 3 Z ?_)
       obtain ⟨t2209,h2210,H⟩:=bI H
       obtain ⟨c2213,H⟩:=iN H
       have h2214:=(rk (ro 5 Z) HS)
       obtain ⟨t2215,h2216,H⟩:=bI H
       obtain ⟨c2224,H⟩:=iN H
       refine G.Jg mixed (fun w=>St w0 w (Box b2066 83 [I e2064.Tet,I e2064.Perm]::Own (Ad .i64) 2 A2084 c2085 uu t2082::L)) [2,7] [0,1,4,5,6,2,7,3,8,9,10,11] [] (by kernel_rfl) (by kernel_rfl) (HS.drew.pk 6 [3,5] Z) ?_
       replace HS:=HS.drew
       refine GX.ps 1 Z (qL Z Z (fun _ _ g=>fL b2066 1 Jy Z g) Z (GX.ps 2 Z (qL Z Z (fun _ _ g=>iX Z U26 sz2 h2214 c2213 g) Z (GX.ls Z Z Z (HS.pk 6 [3,5] Z) (fun _ HS _ g=>lB 0 HS Z na2 Z g) Z (GX.ls Z Z Z (HS.pk 6 [3,5] Z) (fun _ HS _ g=>GO.Dt (T:=(Ad .i64)) (n:=m1.toNat) (o:=0) HS (ro 1 Z) Z Z (getD_some (d:=0) (ltN c2213)) Z Z na2 Z g) Z (GX.l2 Z (fJ rE Z (Gc.calls HS  h2210) (fun _ wd2211 ⟨h2212,HS⟩=>⟨_,h2212,(GX.fin (HS.pk 6 [3,5] Z) (GX.l2 Z (fJ Qw Z (Ef.calls HS  h2216) (fun _ wd2217 ⟨h2218,HS⟩=>⟨_,h2218,(GX.fin (HS.pk 6 [3,5] Z) (GX.l2 Z (GO.Fj (el:=2) ([I t2215]) HS Z Z (fun _=>by kernel_rfl) Z fun b2219 wd2220 HS=>GX.fin (HS.pk 7 [4,6] Z) ?_)))⟩))))⟩))))))))
       refine GX.l2 Z (GO.app1 (T:=(Ad .i64)) (j:=5) (jb:=0) t2215 HS Z Z Av Z Z Z U26 Le Z Z Z c2224 Z fun A2222 c2223 wd2221 HS=>GX.fin (HS.pk 7 [4,6] Z) (GX.ps 1 Z (GX.nil (rN 3 Z (gW (k2 u1 (lR _) _ _ _ _ _ H (HS.pk 7 [1,2,3,4,5,6] Z)) Z)))))
      refine nB Z (tF c2208) (rN 5 Z ?_)
      refine G.name (fun h2 u2=>?_)
      have s2:∀ y1,y1≤u1→∀ (k1:Int) (n1:List Int) (w:World),Aj.Vz K y1 d1 a1 e1 c1 g1 k1 n1=some r1→St w0 w (Box b1 33 [sV A_a d1 c_a]::Own (Ty.slice 2 (Ad .i64)) 26 A774 c775 y777 a1::Own (Ad .i64) 2 (sb b1553) (([1,1,1,1]:List Int).length) uu n1::Own (Ad .i64) 2 A2104 c2105 uu g1::L)→G prog 70 105 [(1,pT b1),(3,sV A774 a1 c775),(4,I e1),(5,sV (sb b1553) n1 (([1,1,1,1]:List Int).length)),(6,I c1),(9,sV A2104 g1 c2105),(12,I k1)] h2 w (Aj.post w0 L r1):=by
       refine lp (fun _ _ w H _=>by rw [Aj.Vz] at H; cases H) fun t1 c3 a3 k1 n1 w H HS=>?_
       rw [Aj.Vz] at H
       subst u2
       refine rN 3 Z ?_
       rcases iS H with ⟨c2281,H⟩ | ⟨c2281,H⟩
       ·
        refine nB Z (tF c2281) (rN 4 Z (gW (q1 t1 (Nat.le_trans (Nat.le_of_succ_le c3) (Nat.le_trans (Nat.le_of_succ_le o2) (Nat.le_of_succ_le x1))) _ _ _ H (HS.pk 4 [0,1,2] Z)) Z))
       refine yB Z (tT c2281) (rN 7 Z ?_)
       refine G.name (fun y2 v2=>?_)
       have r2:∀ d2,d2≤t1→∀ (h1:List Int) (o1:Int) (w:World),Aj.Tn K d2 d1 a1 e1 c1 g1 k1 h1 o1=some r1→St w0 w (Box b1 33 [sV A_a d1 c_a]::Own (Ty.slice 2 (Ad .i64)) 26 A774 c775 y777 a1::Own (Ad .i64) 2 (sb b1553) (([1,1,1,1]:List Int).length) uu h1::Own (Ad .i64) 2 A2104 c2105 uu g1::L)→G prog 70 105 [(1,pT b1),(3,sV A774 a1 c775),(4,I e1),(5,sV (sb b1553) h1 (([1,1,1,1]:List Int).length)),(6,I c1),(9,sV A2104 g1 c2105),(12,I k1),(13,I o1)] y2 w (Aj.post w0 L r1):=by
        refine lp (fun _ _ w H _=>by rw [Aj.Tn] at H; cases H) fun v1 p2 z1 h1 o1 w H HS=>?_
        rw [Aj.Tn] at H
        subst v2
        refine rN 3 Z ?_
        rcases iS H with ⟨c2300,H⟩ | ⟨c2300,H⟩
        ·
         refine nB Z (tF c2300) (rN 4 Z (gW (a3 v1 (Nat.le_of_succ_le p2) _ _ _ H HS) Z))
        refine yB Z (tT c2300) (rN 4 Z ?_)
        obtain ⟨c2301,H⟩:=iN H
        have h2302:=(rk (ro 3 Z) HS)
        obtain ⟨c2303,H⟩:=iN H
        have h2304:=(rk (ro 3 Z) HS)
        refine G.lex mixed [0,1,2,4,5,6,3,7,8] (by kernel_rfl) ?_
        replace HS:=HS.drew
        refine GX.ps 2 Z (qL Z Z (fun _ _ g=>iX Z U26 sz2 h2302 c2301 g) Z (GX.ps 2 Z (qL Z Z (fun _ _ g=>iX Z U26 sz2 h2304 c2303 g) Z (GX.l1 Z Z Z (fun _ g=>GO.Dt (T:=(Ad .i64)) (n:=o1.toNat) (o:=0) HS (ro 3 Z) Z Z (getD_some (d:=0) (ltN c2301)) Z Z na2 Z g) Z (GX.l1 Z Z Z (fun _ g=>GO.Dt (T:=(Ad .i64)) (n:=k1.toNat) (o:=0) HS (ro 3 Z) Z Z (getD_some (d:=0) (ltN c2303)) Z Z na2 Z g) Z (GX.ps 1 Z (GX.nil ?_)))))))
        rcases iS H with ⟨c2305,H⟩ | ⟨c2305,H⟩
        ·
         refine nB Z (tF c2305) (rN 4 Z (gW (z1 v1 (lR _) _ _ _ H HS) Z))
        refine yB Z (tT c2305) ?_
        obtain ⟨c2306,H⟩:=iN H
        refine rG (pS 4 Z (iX Z U26 sz2 (fun _=>⟨_,_,Z⟩) c2306 (GO.Dt (T:=(Ad .i64)) (n:=c1.toNat) (o:=0) HS (ro 2 Z) Z Z (getD_some (d:=0) (ltN c2306)) Z Z na2 Z (GO.neg Z Z Z (iX Z U26 sz2 (fun _=>⟨_,_,Z⟩) c2306 (GO.Ia (T:=(Ad .i64)) (j:=2) (n:=c1.toNat) (o:=0) (vs:=[I (w64 (0 - (h1.getD c1.toNat 0)))]) (w64 (0 - (h1.getD c1.toNat 0))) HS Z Av Z Z Z Z (htN na2 Z) Z (getD_some (d:=0) (ltN c2306)) Z Z fun wd2307 HS=>nL (G.len (t:=5) (m:=(h1.set c1.toNat (w64 (0 - (h1.getD c1.toNat 0)))).length) Z (by simp only [List.length_set] <;> rfl) (rN 3 Z (gW (z1 v1 (lR _) _ _ _ H HS) Z)))))))))
       exact gW (r2 t1 (lR _) _ _ _ H HS) Z
      exact gW (s2 u1 (lR _) _ _ _ H (HS.pk 6 [0,1,2,4] Z)) Z
     exact gW (m2 p1 (lR _) _ _ _ _ _ H (HS.pk 6 [2,3,4,5,1,0] Z)) Z
    rcases iE H with ⟨c2308,H⟩ | ⟨c2308,H⟩
    ·
     refine rG (fL b2066 0 Hf Z (lB 0 HS Z na2 Z (pS 3 Z (kN 45 Z (tT c2308) (oF Z (oF Z (oF Z (oF Z (oF Z (GO.Lr Z Z Z Z Z Z (GO.Lr Z Z Z Z Z Z (GO.Lr Z Z Z Z Z Z (oF Z (GO.Gw Z Z Z Z Z ?_))))))))))))))
     refine nL (gW (s1 i1 (lR _) _ _ H (HS.pk 4 [1,2,3,0] Z)) Z)
    rcases iS H with ⟨c2309,H⟩ | ⟨c2309,H⟩
    ·
     refine rG (fL b2066 0 Hf Z (lB 0 HS Z na2 Z (pS 3 Z (kN 45 Z (tF c2308) (oN Z (fL b2066 0 Hf Z (bK (oN Z (lB 0 HS Z na2 Z (bK (oN Z (mV Z (bK (oN Z ?_))))))))))))))
     refine GO.eql Z Z Z Z (bK (oN Z (mV Z (bK (kN 50 Z (tF c2309) (oF Z (oF Z (oF Z (oN Z (GO.Hw Z Z Z Z Z (bK (GO.Hw Z Z Z Z Z (nL (gW (s1 i1 (lR _) _ _ H (HS.pk 4 [1,2,3,0] Z)) Z))))))))))))))
    refine rG (fL b2066 0 Hf Z (lB 0 HS Z na2 Z (pS 3 Z (kN 45 Z (tF c2308) (oN Z (fL b2066 0 Hf Z (bK (oN Z (lB 0 HS Z na2 Z (bK (oN Z (mV Z (bK (oN Z ?_))))))))))))))
    refine GO.eql Z Z Z Z (bK (oN Z (mV Z (bK (kN 50 Z (tT c2309) (oN Z (mV Z (bK (oN Z (mV Z (bK (oN Z (GO.gtr Z Z Z Z (bK ?_))))))))))))))
    refine oN Z (GO.Gw Z Z Z Z Z (bK (GO.Hw Z Z Z Z Z (nL (gW (s1 i1 (lR _) _ _ H (HS.pk 4 [1,2,3,0] Z)) Z)))))
   exact gW (z2 f2 (lR _) _ _ _ H (HS.pk 3 [1,2,0] Z)) Z
  exact gW (f3 K (lR _) _ _ _ _ _ _ H (HS.pk 2 [1,0] Z)) Z
theorem Fx.calls {list:List Int} {n_:Int} {r1:Bool} (HS:St w0 w (L)) (r_a:Ce w0 L (Ad .i64) A_a c_a uu list) (H:Fx.f K list n_=some r1) :
    Calls prog 71 #[sV A_a list c_a,I n_] w (Fx.post w0 L r1):=by
  unfold Fx.f at H
  refine cG func71 Z ?_
  refine rN 7 Z ?_
  refine G.name (fun e1 c1=>?_)
  have d1:∀ a1,a1≤K→∀ (i_4:Int) (w:World),Fx.l1 K a1 list n_ i_4=some r1→St w0 w (L)→G prog 71 18 [(0,sV A_a list c_a),(1,I n_),(5,I i_4)] e1 w (Fx.post w0 L r1):=by
   refine lp (fun _ w H _=>by rw [Fx.l1] at H; cases H) fun b1 g1 f1 i_4 w H HS=>?_
   rw [Fx.l1] at H
   subst c1
   refine rN 2 Z (rG (pS 2 Z (lS Z Z U26 Z (GO.lss Z Z Z Z (nL ?_)))))
   rcases iS H with ⟨c8,H⟩ | ⟨c8,H⟩
   ·
    refine nB Z (tF c8) (rN 3 Z ?_)
    obtain rfl:=sI H
    exact rT _ func71 Z Z ⟨Z,HS⟩
   refine yB Z (tT c8) (rN 4 Z ?_)
   obtain ⟨c9,H⟩:=iN H
   refine rG (pS 2 Z (iX Z U26 sz2 (rk r_a HS) c9 (GO.Dt (T:=(Ad .i64)) (n:=i_4.toNat) (o:=0) HS r_a Z Z (getD_some (d:=0) (ltN c9)) Z Z na2 Z (pS 2 Z (nL ?_)))))
   rcases iE H with ⟨c10,H⟩ | ⟨c10,H⟩
   ·
    refine yB Z (tT c10) (rN 2 Z ?_)
    obtain rfl:=sI H
    exact rT _ func71 Z Z ⟨Z,HS⟩
   refine nB Z (tF c10) (rN 4 Z (gW (f1 b1 (lR _) _ _ H HS) Z))
  exact gW (d1 K (lR _) _ _ H HS) Z
theorem Ga.calls {d1 a1:Int} {c1:List Int} {row column n_:Int} {r1:List Int} (HS:St w0 w (Own (Ad .i64) 2 A_a c_a uu c1::L)) (H:Ga.f d1 a1 c1 row column n_=some r1) :
    Calls prog 48 #[.agg [I d1,I a1,sV A_a c1 c_a].toArray,I row,I column,I n_] w (Ga.post w0 L A_a c_a r1):=by
  unfold Ga.f at H
  refine cG func48 Z ?_
  refine sQ (rG (bA HS Z fun b1 wd2 HS=>nL ?_))
  obtain ⟨c3,H⟩:=iN H
  refine rG (fL b1 2 Jf Z (lB 0 HS Z Ha Z (mV Z (fL b1 1 Ew Z (lB 0 HS Z na2 Z (pS 3 Z (iX Z U26 sz2 (rk (ro 1 Z) HS) c3 (GO.Dt (T:=(Ad .i64)) (n:=(w64 ((w64 (row * a1))+column)).toNat) (o:=0) HS (ro 1 Z) Z Z (getD_some (d:=0) (ltN c3)) Z Z na2 Z (pS 2 Z (iX Z U26 sz2 (rk (ro 1 Z) HS) c3 (GO.Ia (T:=(Ad .i64)) (j:=1) (n:=(w64 ((w64 (row * a1))+column)).toNat) (o:=0) (vs:=[I (w64 ((c1.getD ((w64 ((w64 (row * a1))+column)).toNat) 0)+n_))]) (w64 ((c1.getD ((w64 ((w64 (row * a1))+column)).toNat) 0)+n_)) HS Z Av Z Z Z Z (htN na2 Z) Z (getD_some (d:=0) (ltN c3)) Z Z fun wd4 HS=>nL ?_)))))))))))
  replace HS:=HS.F8 (j:=0) (cs':=[I d1,I a1,sV A_a (c1.set ((w64 ((w64 (row * a1))+column)).toNat) (w64 ((c1.getD ((w64 ((w64 (row * a1))+column)).toNat) 0)+n_))) c_a]) Z (by simp only [sV,List.length_set] <;> rfl)
  obtain rfl:=sI H
  exact G.Ki func48 Z ⟨Z,(HS.pk 2 [1] Z)⟩
end Go.Proofs.YtgkgmhkgahalgaaGreat
