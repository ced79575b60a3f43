import Derived.Test.YtgkgmhkgahalgaaGreatAlF
set_option linter.unusedVariables false
set_option linter.unusedSimpArgs false
namespace Go.Proofs.YtgkgmhkgahalgaaGreat
open Go.RowKit
open Tryz
variable {w0 w:World} {L:List Dc} {K:Nat} {A_a A_b A_c A_d A_e A_f A_g A_h A_i A_j A_k A_l A_m A_n A_o A_p A_q A_r A_s A_t A_u A_v A_w A_x A_y A_z:Option Addr} {c_a c_b c_c c_d c_e c_f c_g c_h c_i c_j c_k c_l c_m c_n c_o c_p c_q c_r c_s c_t c_u c_v c_w c_x c_y c_z:Nat}
set_option maxRecDepth 20000
set_option maxHeartbeats 40000000
theorem Ko.calls {a_:List Am} {left:Int} {r1:Int} (HS:St w0 w (L)) (r_a:Bv w0 L Ak A_a c_a uu a_) (H:Ko.f a_ left=some r1) :
   Calls prog 58 #[sV A_a a_ c_a,I left] w (Ko.post w0 L r1):=by
 unfold Ko.f at H
 refine cG func58 Z ?_
 refine rN 3 Z (rG (pS 2 Z (lS Z Z U80 Z (pS 2 Z (nL (rN 3 Z ?_))))))
 rcases iE H with ⟨c1,H⟩|⟨c1,H⟩
 ·
  refine yB Z (tT c1) (rN 2 Z ?_)
  obtain rfl:=sI H
  exact rT _ func58 Z Z ⟨Z,HS⟩
 refine nB Z (tF c1) (rN 3 Z ?_)
 obtain rfl:=sI H
 exact rT _ func58 Z Z ⟨Z,HS⟩
theorem Fa.calls {a_:List (List Am)} {left:Int} {y_a:Nat→(Ty.slice 129 Ak).Lay} {r1:Int} (HS:St w0 w (L)) (r_a:Bv w0 L (Ty.slice 129 Ak) A_a c_a y_a a_) (H:Fa.f K a_ left=some r1) :
   Calls prog 31 #[sV A_a a_ c_a,I left] w (Fa.post w0 L r1):=by
 unfold Fa.f at H
 refine cG func31 Z ?_
 refine rN 3 Z (rG (pS 2 Z (lS Z Z U22 Z (pS 2 Z (nL (rN 3 Z ?_))))))
 rcases iE H with ⟨c1,H⟩|⟨c1,H⟩
 ·
  refine yB Z (tT c1) (rN 2 Z ?_)
  obtain rfl:=sI H
  exact rT _ func31 Z Z ⟨Z,HS⟩
 refine nB Z (tF c1) (rN 6 Z ?_)
 refine G.name (fun h1 f1=>?_)
 have g1:∀ d1,d1≤K→∀ (b1 a1:Int) (w:World),Fa.l1 K d1 a_ b1 a1=some r1→St w0 w (L)→G prog 31 27 [(0,sV A_a a_ c_a),(1,I b1),(5,I a1)] h1 w (Fa.post w0 L r1):=by
  refine lp (fun _ _ w H _=>by rw [Fa.l1] at H; cases H) fun e1 k1 i1 b1 a1 w H HS=>?_
  rw [Fa.l1] at H
  subst f1
  refine rN 2 Z (rG (pS 2 Z (lS Z Z U22 Z (GO.lss Z Z Z Z (nL ?_)))))
  rcases iS H with ⟨c18,H⟩|⟨c18,H⟩
  ·
   refine nB Z (tF c18) (rN 3 Z ?_)
   obtain rfl:=sI H
   exact rT _ func31 Z Z ⟨Z,HS⟩
  refine yB Z (tT c18) (rN 4 Z ?_)
  obtain ⟨c19,H⟩:=iN H
  obtain ⟨t20,h21,H⟩:=bI H
  refine rG (pS 2 Z (iX Z U22 xP (rk r_a HS) c19 (GO.C8 (T:=(Ty.slice 129 Ak)) (n:=a1.toNat) (o:=0) HS r_a Z Z (getD_some (d:=[]) (ltN c19)) Z Z Aac Z (mV Z (fJ zZ Z (Ko.calls HS (Bv.elem r_a c19.1 c19.2) h21) (fun _ wd22 ⟨h23,HS⟩=>⟨_,h23,(aS Z (nL (rN 2 Z ?_)))⟩))))))
  rcases iE H with ⟨c24,H⟩|⟨c24,H⟩
  ·
   refine yB Z (tT c24) (rN 2 Z ?_)
   obtain rfl:=sI H
   exact rT _ func31 Z Z ⟨Z,HS⟩
  refine nB Z (tF c24) (rN 4 Z (gW (i1 e1 (lR _) _ _ _ H HS) Z))
 exact gW (g1 K (lR _) _ _ _ H HS) Z
theorem G9.calls {a1:List (List Am)} {left:Int} {y_a:Nat→(Ty.slice 129 Ak).Lay} {r1:Int} (HS:St w0 w (L)) (r_a:Bv w0 L (Ty.slice 129 Ak) A_a c_a y_a a1) (H:G9.f K a1 left=some r1) :
   Calls prog 8 #[.agg [sV A_a a1 c_a].toArray,I left] w (G9.post w0 L r1):=by
 unfold G9.f at H
 refine cG func8 Z ?_
 refine sQ (rG (bA HS Z fun b1 wd2 HS=>aS Z (nL (sQ ?_))))
 obtain ⟨t3,h4,H⟩:=bI H
 refine rG (fL b1 0 mE Z (lB 0 HS Z wY Z (mV Z (fJ yN Z (Fa.calls HS (rD 1 r_a) h4) (fun _ wd5 ⟨h6,HS⟩=>⟨_,h6,(aS Z (nL (rN 3 Z ?_)))⟩)))))
 rcases iE H with ⟨c7,H⟩|⟨c7,H⟩
 ·
  refine yB Z (tT c7) (rN 2 Z ?_)
  obtain rfl:=sI H
  exact rT _ func8 Z Z ⟨Z,(HS.pk 1 [] Z)⟩
 refine nB Z (tF c7) (rN 3 Z ?_)
 obtain rfl:=sI H
 exact rT _ func8 Z Z ⟨Z,(HS.pk 1 [] Z)⟩
theorem Kv.calls {a1 c1:Int} {r1 r2:Int} (HS:St w0 w (L)) (H:Kv.f a1 c1=some (r1,r2)) :
  Calls prog 111 #[.agg [I a1,I c1].toArray] w (Kv.post w0 L r1 r2):=by
 unfold Kv.f at H
 refine cG func111 Z ?_
 refine sQ (rG (bA HS Z fun b1 wd2 HS=>GO.alloc HS Z Pb Z Z fun b3 wd4 HS=>nL (sQ (rG (GO.alloc HS Z Pb Z Z fun b5 wd6 HS=>nL (sQ (rG (fL b1 0 nR Z (lB 2 HS Z na2 Z (fL b5 0 F6 Z (GO.K7 (j:=0) (vs:=[I a1]) ([I a1,I 0]) HS Z Z Z Z Z (htN na2 Z) Z Z Z fun wd7 HS=>?_)))))))))))
 refine nL (sQ (rG (fL b1 1 oU Z (lB 2 HS Z na2 Z (fL b5 1 J7 Z (GO.K7 (j:=0) (vs:=[I c1]) ([I a1,I c1]) HS Z Z Z Z Z (htN na2 Z) Z Z Z fun wd8 HS=>nL (sQ (rG (lW 0 HS Z Jf (sW 1 HS Z Jf Z fun wd9 HS=>nL ?_))))))))))
 obtain ⟨rfl,rfl⟩:=H8 H
 exact rT _ func111 Z (Kc.Lh (j:=1) (vs:=[I a1,I c1]) HS Z Z Z Jf) ⟨Z,(HS.pk 3 [] Z)⟩
theorem Gj.calls {a_:List Am} {r1:List Am} (HS:St w0 w (L)) (r_a:Bv w0 L Ak A_a c_a uu a_) (H:Gj.f K a_=some r1) :
   Calls prog 75 #[sV A_a a_ c_a] w (Gj.post w0 L r1):=by
 unfold Gj.f at H
 refine cG func75 Z ?_
 refine rN 3 Z ?_
 obtain ⟨c1,H⟩:=iN H
 obtain ⟨c2,H⟩:=iN H
 refine rG (mV Z (lS Z Z U80 Z (GO.make (T:=Ak) Eo () HS Ao Z Z Z U81 zB Z Z Z c1 c2 Z fun b3 wd4 HS=>aS Z (nL (rN 5 Z ?_)))))
 refine G.name (fun h1 f1=>?_)
 have g1:∀ d1,d1≤K→∀ (b1:List Am) (a1:Int) (w:World),Gj.l1 K d1 a_ b1 a1=some r1→St w0 w (Own Ak 83 (sb b3) ((a_.length:Int).toNat) uu b1::L)→G prog 75 23 [(0,sV A_a a_ c_a),(3,sV (sb b3) b1 ((a_.length:Int).toNat)),(4,I a1)] h1 w (Gj.post w0 L r1):=by
  refine lp (fun _ _ w H _=>by rw [Gj.l1] at H; cases H) fun e1 k1 i1 b1 a1 w H HS=>?_
  rw [Gj.l1] at H
  subst f1
  refine rN 2 Z (rG (pS 2 Z (lS Z Z U80 Z (GO.lss Z Z Z Z (nL ?_)))))
  rcases iS H with ⟨c29,H⟩|⟨c29,H⟩
  ·
   refine nB Z (tF c29) (rN 3 Z ?_)
   obtain rfl:=sI H
   exact rT _ func75 Z Z ⟨_,_,Z,HS⟩
  refine yB Z (tT c29) (rN 3 Z ?_)
  obtain ⟨c30,H⟩:=iN H
  obtain ⟨e31,h32,H⟩:=Gp H
  obtain ⟨t33,t34,h35,H⟩:=Cx H
  obtain ⟨c38,H⟩:=iN H
  refine rG (pS 4 Z (iX Z U80 zC (rk (rD 1 r_a) HS) c30 (GO.Kk (T:=Ak) (n:=a1.toNat) HS (rD 1 r_a) Z Z (Gt (ltN c30) h32) zJ Z (fJ wE Z (Kv.calls HS  h35) (fun _ wd36 ⟨h37,HS⟩=>⟨_,h37,(iX Z U81 Ls (fun _=>⟨_,_,Z⟩) c38 (GO.Hl (T:=Ak) (j:=0) (n:=a1.toNat) (o:=0) (vs:=[I t33,I t34]) (⟨t33,t34⟩:Am) HS Z Ao Z Z Z Z (htA Jf) Z (getD_some (d:=Eo) (ltN c38)) Z Z fun wd39 HS=>nL (G.len (t:=3) (m:=(b1.set a1.toNat (⟨t33,t34⟩:Am)).length) Z (by simp only [List.length_set]<;>rfl) (rN 3 Z (gW (i1 e1 (lR _) _ _ _ H HS) Z)))))⟩)))))
 exact gW (g1 K (lR _) _ _ _ H HS) Z
theorem Fj.calls {a_:List (List Am)} {y_a:Nat→(Ty.slice 129 Ak).Lay} {r1:List (List Am)} (HS:St w0 w (L)) (r_a:Bv w0 L (Ty.slice 129 Ak) A_a c_a y_a a_) (H:Fj.f K a_=some r1) :
   Calls prog 37 #[sV A_a a_ c_a] w (Fj.post w0 L r1):=by
 unfold Fj.f at H
 refine cG func37 Z ?_
 refine rN 3 Z ?_
 obtain ⟨c1,H⟩:=iN H
 obtain ⟨c2,H⟩:=iN H
 refine rG (mV Z (lS Z Z U22 Z (GO.rQ (S:=Ak) (u:=83) uu HS Z Z Z U31 zD Z c1 c2 Z fun b3 wd4 HS=>aS Z (nL (rN 5 Z ?_)))))
 refine G.name (fun h1 f1=>?_)
 have g1:∀ d1,d1≤K→∀ (b1:List (List Am)) (y17:Nat→(Ty.slice 83 Ak).Lay) (a1:Int) (w:World),Fj.l1 K d1 a_ b1 a1=some r1→St w0 w (Own (Ty.slice 83 Ak) 81 (sb b3) ((a_.length:Int).toNat) y17 b1::L)→G prog 37 23 [(0,sV A_a a_ c_a),(3,sV (sb b3) b1 ((a_.length:Int).toNat)),(4,I a1)] h1 w (Fj.post w0 L r1):=by
  refine lp (fun _ _ _ w H _=>by rw [Fj.l1] at H; cases H) fun e1 k1 i1 b1 y17 a1 w H HS=>?_
  rw [Fj.l1] at H
  subst f1
  refine rN 2 Z (rG (pS 2 Z (lS Z Z U22 Z (GO.lss Z Z Z Z (nL ?_)))))
  rcases iS H with ⟨c30,H⟩|⟨c30,H⟩
  ·
   refine nB Z (tF c30) (rN 3 Z ?_)
   obtain rfl:=sI H
   exact rT _ func37 Z Z ⟨_,_,_,Z,HS⟩
  refine yB Z (tT c30) (rN 3 Z ?_)
  obtain ⟨c31,H⟩:=iN H
  obtain ⟨t32,h33,H⟩:=bI H
  obtain ⟨c38,H⟩:=iN H
  refine rG (pS 4 Z (iX Z U22 xP (rk (rD 1 r_a) HS) c31 (GO.C8 (T:=(Ty.slice 129 Ak)) (n:=a1.toNat) (o:=0) HS (rD 1 r_a) Z Z (getD_some (d:=[]) (ltN c31)) Z Z Aac Z (fJ xN Z (Gj.calls HS (Bv.elem (rD 1 r_a) c31.1 c31.2) h33) (fun _ wd36 ⟨A34,c35,h37,HS⟩=>⟨_,h37,(iX Z U31 Lm (fun _=>⟨_,_,Z⟩) c38 ?_)⟩)))))
  replace HS:=HS.pk 2 [1,0] Z
  refine GO.kG (S:=Ak) (u:=83) HS Z Z Z Lj (ltN c38) fun y40 wd39 HS=>nL (G.len (t:=3) (m:=(b1.set a1.toNat t32).length) Z (by simp only [List.length_set]<;>rfl) (rN 3 Z (gW (i1 e1 (lR _) _ _ _ _ H HS) Z)))
 exact gW (g1 K (lR _) _ _ _ _ H HS) Z
theorem Ep.calls {a1:List (List Am)} {y_a:Nat→(Ty.slice 129 Ak).Lay} {r1:List (List Am)} (HS:St w0 w (L)) (r_a:Bv w0 L (Ty.slice 129 Ak) A_a c_a y_a a1) (H:Ep.f K a1=some r1) :
  Calls prog 10 #[.agg [sV A_a a1 c_a].toArray] w (Ep.post w0 L r1):=by
 unfold Ep.f at H
 refine cG func10 Z ?_
 refine sQ (rG (bA HS Z fun b1 wd2 HS=>GO.alloc HS Z vE Z Z fun b3 wd4 HS=>nL (sQ (rG (GO.alloc HS Z vE Z Z fun b5 wd6 HS=>nL (sQ ?_))))))
 obtain ⟨t7,h8,H⟩:=bI H
 refine rG (fL b1 0 mE Z (lB 2 HS Z wY Z (fJ xE Z (Fj.calls HS (rD 3 r_a) h8) (fun _ wd12 ⟨A9,c10,y11,h13,HS⟩=>⟨_,h13,(fL b5 0 F3 Z (GO.K7 (j:=1) (vs:=[sV A9 t7 c10]) ([sV A9 t7 c10]) HS Z Z Z Z Z (htN Jo Z) Z Z Z fun wd14 HS=>nL (sQ (rG (lW 1 HS Z Iy (sW 2 HS Z Iy Z fun wd15 HS=>nL ?_))))))⟩))))
 obtain rfl:=sI H
 exact rT _ func10 Z (Kc.Lh (j:=2) (vs:=[sV A9 t7 c10]) HS Z Z Z Iy) ⟨_,_,_,Z,(HS.pk 4 [0] Z)⟩
theorem Dn.calls {a1:List (List Am)} {y_a:Nat→(Ty.slice 83 Ak).Lay} {r1:Int} (HS:St w0 w (L)) (r_a:Bv w0 L (Ty.slice 83 Ak) A_a c_a y_a a1) (H:Dn.f a1=some r1) :
  Calls prog 59 #[.agg [sV A_a a1 c_a].toArray] w (Dn.post w0 L r1):=by
 unfold Dn.f at H
 refine cG func59 Z ?_
 refine sQ (rG (bA HS Z fun b1 wd2 HS=>aS Z (nL (sQ (rG (fL b1 0 F3 Z (lB 0 HS Z Jo Z (lS Z Z U31 Z (aS Z (nL ?_))))))))))
 obtain rfl:=sI H
 exact rT _ func59 Z Z ⟨Z,(HS.pk 1 [] Z)⟩
theorem Kq.calls {n_ low high:Int} {r1:Bool} (HS:St w0 w (L)) (H:Kq.f n_ low high=some r1) :
   Calls prog 33 #[I n_,I low,I high] w (Kq.post w0 L r1):=by
 unfold Kq.f at H
 refine cG func33 Z ?_
 refine rN 3 Z ?_
 rcases iS H with ⟨c1,H⟩|⟨c1,H⟩
 ·
  refine rG (pS 4 Z (kN 10 Z (tF c1) (oF Z (oF Z (oF Z (pS 2 Z (nL ?_)))))))
  obtain rfl:=sI H
  exact rT _ func33 Z Z ⟨Z,HS⟩
 refine rG (pS 4 Z (kN 10 Z (tT c1) (oN Z (mV Z (bK (oN Z (mV Z (bK (oN Z (GO.leq Z Z Z Z (bK (pS 2 Z (nL ?_)))))))))))))
 obtain rfl:=sI H
 exact rT _ func33 Z Z ⟨Z,HS⟩
theorem Jv.calls {p:Int} {r1:Bool} (HS:St w0 w (L)) (H:Jv.f p=some r1) :
   Calls prog 60 #[I p] w (Jv.post w0 L r1):=by
 unfold Jv.f at H
 refine cG func60 Z ?_
 refine rN 3 Z ?_
 rcases iS H with ⟨c1,H⟩|⟨c1,H⟩
 ·
  refine rG (pS 3 Z (kN 5 Z (tF c1) (oF Z (oF Z (pS 2 Z (nL ?_))))))
  obtain rfl:=sI H
  exact rT _ func60 Z Z ⟨Z,HS⟩
 refine rG (pS 3 Z (kN 5 Z (tT c1) (oN Z (mV Z (bK (oN Z (GO.lss Z Z Z Z (bK (pS 2 Z (nL ?_))))))))))
 obtain rfl:=sI H
 exact rT _ func60 Z Z ⟨Z,HS⟩
theorem F8.calls {p:Int} {r1:List Int} (HS:St w0 w (L)) (H:F8.f K p=some r1) :
   Calls prog 101 #[I p] w (F8.post w0 L r1):=by
 unfold F8.f at H
 refine cG func101 Z ?_
 refine rN 3 Z (rG (GO.D8 (el:=2) ([I 0,I 1,I 2,I 3]) HS Z Z (fun _=>by kernel_rfl) Z fun b1 wd2 HS=>?_))
 replace HS:=HS.Ib (T:=(Ac .i64)) (j:=0) Z Ao uu ([0,1,2,3]:List Int) Z (Ky Z)
 refine GO.Ke (t:=8) (m:=([0,1,2,3]:List Int).length) (c':=([0,1,2,3]:List Int).length) Z Z Z (aS Z (nL (sQ (rG (GO.D8 (el:=2) ([]) HS Z Z (fun _=>by kernel_rfl) Z fun b3 wd4 HS=>?_)))))
 replace HS:=HS.Ib (T:=(Ac .i64)) (j:=0) Z Ao uu ([]:List Int) Z (Ky Z)
 refine GO.Ke (t:=9) (m:=([]:List Int).length) (c':=([]:List Int).length) Z Z Z (aS Z (nL (rN 7 Z ?_)))
 refine G.name (fun n1 k1=>?_)
 have m1:∀ h1,h1≤K→∀ (c1:Int) (A25:Option Addr) (c26:Nat) (a1:List Int) (A28:Option Addr) (c29:Nat) (e1:List Int) (d1 f1:Int) (w:World),F8.l1 K h1 c1 a1 e1 d1 f1=some r1→St w0 w (Own (Ac .i64) 2 A25 c26 uu a1::Own (Ac .i64) 2 A28 c29 uu e1::L)→G prog 101 43 [(0,I c1),(3,sV A25 a1 c26),(4,sV A28 e1 c29),(5,I d1),(6,I f1)] n1 w (F8.post w0 L r1):=by
  refine lp (fun _ _ _ _ _ _ _ _ _ w H _=>by rw [F8.l1] at H; cases H) fun g1 o1 i1 c1 A25 c26 a1 A28 c29 e1 d1 f1 w H HS=>?_
  rw [F8.l1] at H
  subst k1
  refine rN 3 Z ?_
  rcases iS H with ⟨c56,H⟩|⟨c56,H⟩
  ·
   refine nB Z (tF c56) (rN 3 Z ?_)
   obtain rfl:=sI H
   exact rT _ func101 Z Z ⟨_,_,Z,(HS.pk 2 [1] Z)⟩
  refine yB Z (tT c56) (rN 4 Z ?_)
  obtain ⟨c57,H⟩:=Ll H
  refine rG (pS 2 Z (GO.quo Z Z Z c57 Z (aS Z (nL (sQ (rG (pS 2 Z (GO.rem Z Z Z c57 Z (aS Z (nL (sQ ?_)))))))))))
  obtain ⟨c58,H⟩:=iN H
  obtain ⟨c64,H⟩:=iN H
  refine rG (pS 3 Z (iX Z U26 sz2 (rk (ro 0 Z) HS) c58 (GO.C8 (T:=(Ac .i64)) (n:=(w64 (c1.tdiv d1)).toNat) (o:=0) HS (ro 0 Z) Z Z (getD_some (d:=0) (ltN c58)) Z Z na2 Z (GO.D8 (el:=2) ([I (a1.getD ((w64 (c1.tdiv d1)).toNat) 0)]) HS Z Z (fun _=>by kernel_rfl) Z fun b59 wd60 HS=>GO.app1 (T:=(Ac .i64)) (j:=2) (jb:=0) (a1.getD ((w64 (c1.tdiv d1)).toNat) 0) HS Z Z Ao Z Z Z U26 Lf Z Z Z c64 Z fun A62 c63 wd61 HS=>aS Z (nL (sQ ?_))))))
  obtain ⟨c67,H⟩:=iN H
  obtain ⟨c71,H⟩:=iN H
  obtain ⟨c72,H⟩:=iN H
  obtain ⟨c76,H⟩:=iN H
  refine G.Jk mixed (fun w=>St w0 w (Own (Ac .i64) 2 A25 c26 uu a1::L)) [3,8] [1,2,5,6,7,3,8,0,4,9,10] [] (by kernel_rfl) (by kernel_rfl) (HS.drew.pk 3 [1] Z) ?_
  replace HS:=HS.drew
  refine GX.ps 5 Z (GX.ls Z Z Z (HS.pk 3 [1] Z) (fun _ HS _ g=>GO.slH (T:=(Ac .i64)) HS (ro 0 Z) Z Z Z U26 sz2 c67.1 c67.2 Z g) Z (GX.ls Z Z Z (HS.pk 3 [1] Z) (fun _ HS _ g=>GO.slL (T:=(Ac .i64)) HS (ro 0 Z) Z Z Z U26 sz2 c72.1 c72.2 Z g) Z (GX.l2 Z (GO.D8 (el:=2) ([]) HS Z Z (fun _=>by kernel_rfl) Z fun b65 wd66 HS=>GX.fin (HS.pk 4 [2] Z) (GX.l2 Z ?_)))))
  replace HS:=HS.Ib (T:=(Ac .i64)) (j:=0) Z Ao uu ([]:List Int) Z (Ky Z)
  refine GO.Ke (t:=27) (m:=([]:List Int).length) (c':=([]:List Int).length) Z Z Z (GO.kH (T:=(Ac .i64)) (j:=0) HS Z (Bv.cut (ro 2 Z) (Nat.zero_le _) (leN c67)) Ao Z Z Z U26 Lf Z Z Z c71 Z (fun _=>Z) fun A69 c70 wd68 HS=>GX.fin (HS.pk 4 [2] Z) (GX.l2 Z (GO.kH (T:=(Ac .i64)) (j:=0) HS Z (Bv.cut (ro 2 Z) (leN c72) (lR _)) Ao Z Z Z U26 Lf Z Z Z c76 Z (fun _=>Z) fun A74 c75 wd73 HS=>GX.fin (HS.pk 4 [2] Z) (GX.ps 1 Z (GX.nil (rN 2 Z ?_))))))
  rcases iS H with ⟨c77,H⟩|⟨c77,H⟩
  ·
   refine nB Z (tF c77) (rN 4 Z (gW (i1 g1 (lR _) _ _ _ _ _ _ _ _ _ _ H (HS.pk 4 [0,3] Z)) Z))
  refine yB Z (tT c77) ?_
  obtain ⟨c78,H⟩:=Ll H
  refine rG (pS 2 Z (GO.quo Z Z Z c78 Z (aS Z (nL (rN 3 Z (gW (i1 g1 (lR _) _ _ _ _ _ _ _ _ _ _ H (HS.pk 4 [0,3] Z)) Z))))))
 exact gW (m1 K (lR _) _ _ _ _ _ _ _ _ _ _ H (HS.pk 2 [1,0] Z)) Z
theorem Ct.calls {p k_ r1:Int} (HS:St w0 w (L)) (H:Ct.f K p k_=some r1) :
  Calls prog 61 #[I p,I k_] w (Ct.post w0 L r1):=by
 unfold Ct.f at H
 refine cG func61 Z ?_
 refine rN 3 Z ?_
 obtain ⟨t1,h2,H⟩:=bI H
 obtain ⟨c7,H⟩:=iN H
 refine rG (mV Z (fJ mU Z (F8.calls HS  h2) (fun _ wd5 ⟨A3,c4,h6,HS⟩=>⟨_,h6,(mV Z (iX Z U26 sz2 (rk (ro 0 Z) HS) c7 (GO.C8 (T:=(Ac .i64)) (n:=k_.toNat) (o:=0) HS (ro 0 Z) Z Z (getD_some (d:=0) (ltN c7)) Z Z na2 Z (aS Z (nL ?_)))))⟩)))
 obtain rfl:=sI H
 exact rT _ func61 Z Z ⟨Z,(HS.pk 1 [] Z)⟩
theorem D7.calls {a_:List Int} {r1:Int} (HS:St w0 w (L)) (r_a:Bv w0 L (Ac .i64) A_a c_a uu a_) (H:D7.f K a_=some r1) :
   Calls prog 102 #[sV A_a a_ c_a] w (D7.post w0 L r1):=by
 unfold D7.f at H
 refine cG func102 Z ?_
 refine rN 11 Z ?_
 refine G.name (fun q1 m1=>?_)
 have p1:∀ g1,g1≤K→∀ (p_4 a1 i_6:Int) (w:World),D7.l1 K g1 a_ p_4 a1 i_6=some r1→St w0 w (L)→G prog 102 42 [(0,sV A_a a_ c_a),(3,I p_4),(4,I a1),(5,I i_6)] q1 w (D7.post w0 L r1):=by
  refine lp (fun _ _ _ w H _=>by rw [D7.l1] at H; cases H) fun f1 t1 s1 p_4 a1 i_6 w H HS=>?_
  rw [D7.l1] at H
  subst m1
  refine rN 3 Z ?_
  rcases iS H with ⟨c23,H⟩|⟨c23,H⟩
  ·
   refine nB Z (tF c23) (rN 3 Z ?_)
   obtain rfl:=sI H
   exact rT _ func102 Z Z ⟨Z,HS⟩
  refine yB Z (tT c23) (rN 4 Z ?_)
  obtain ⟨c24,H⟩:=iN H
  refine rG (pS 2 Z (iX Z U26 sz2 (rk r_a HS) c24 (GO.C8 (T:=(Ac .i64)) (n:=i_6.toNat) (o:=0) HS r_a Z Z (getD_some (d:=0) (ltN c24)) Z Z na2 Z (aS Z (nL (rN 5 Z ?_))))))
  refine G.name (fun o1 n1=>?_)
  have i1:∀ h1,h1≤f1→∀ (d1 b1:Int) (w:World),D7.l4 K h1 a_ p_4 a1 i_6 d1 b1=some r1→St w0 w (L)→G prog 102 42 [(0,sV A_a a_ c_a),(3,I p_4),(4,I a1),(5,I i_6),(6,I d1),(7,I b1)] o1 w (D7.post w0 L r1):=by
   refine lp (fun _ _ w H _=>by rw [D7.l4] at H; cases H) fun c1 k1 e1 d1 b1 w H HS=>?_
   rw [D7.l4] at H
   subst n1
   refine rN 3 Z ?_
   rcases iS H with ⟨c35,H⟩|⟨c35,H⟩
   ·
    refine nB Z (tF c35) (rN 3 Z ?_)
    obtain ⟨c38,H⟩:=Ll H
    refine rG (pS 3 Z (GO.quo Z Z Z c38 Z (aS Z (nL (rN 3 Z (gW (s1 c1 (Nat.le_of_succ_le k1) _ _ _ _ H HS) Z))))))
   refine yB Z (tT c35) (rN 4 Z ?_)
   obtain ⟨c36,H⟩:=iN H
   refine G.lex mixed [0,1,2,4,5,6,3,7,8] (by kernel_rfl) ?_
   replace HS:=HS.drew
   refine GX.ps 2 Z (qL Z Z (fun _ _ g=>iX Z U26 sz2 (rk r_a HS) c36 g) Z (GX.ps 2 Z (qL Z Z (fun _ _ g=>iX Z U26 sz2 (rk r_a HS) c24 g) Z (GX.l1 Z Z Z (fun _ g=>GO.C8 (T:=(Ac .i64)) (n:=b1.toNat) (o:=0) HS r_a Z Z (getD_some (d:=0) (ltN c36)) Z Z na2 Z g) Z (GX.l1 Z Z Z (fun _ g=>GO.C8 (T:=(Ac .i64)) (n:=i_6.toNat) (o:=0) HS r_a Z Z (getD_some (d:=0) (ltN c24)) Z Z na2 Z g) Z (GX.ps 1 Z (GX.nil ?_)))))))
   rcases iS H with ⟨c37,H⟩|⟨c37,H⟩
   ·
    refine nB Z (tF c37) (rN 4 Z (gW (e1 c1 (lR _) _ _ _ H HS) Z))
   refine yB Z (tT c37) (rN 4 Z (gW (e1 c1 (lR _) _ _ _ H HS) Z))
  exact gW (i1 f1 (lR _) _ _ _ H HS) Z
 exact gW (p1 K (lR _) _ _ _ _ H HS) Z
theorem Gv.calls {p r1:Int} (HS:St w0 w (L)) (H:Gv.f K p=some r1) :
   Calls prog 62 #[I p] w (Gv.post w0 L r1):=by
 unfold Gv.f at H
 refine cG func62 Z ?_
 refine rN 3 Z ?_
 obtain ⟨t1,h2,H⟩:=bI H
 refine rG (mV Z (fJ mU Z (F8.calls HS  h2) (fun _ wd5 ⟨A3,c4,h6,HS⟩=>⟨_,h6,(aS Z (nL (sQ (rG (GO.D8 (el:=2) ([I 0,I 0,I 0,I 0]) HS Z Z (fun _=>by kernel_rfl) Z fun b7 wd8 HS=>?_)))))⟩)))
 replace HS:=HS.Ib (T:=(Ac .i64)) (j:=0) Z Ao uu ([0,0,0,0]:List Int) Z (Ky Z)
 refine GO.Ke (t:=8) (m:=([0,0,0,0]:List Int).length) (c':=([0,0,0,0]:List Int).length) Z Z Z (aS Z (nL (rN 5 Z ?_)))
 refine G.name (fun g1 e1=>?_)
 have f1:∀ c1,c1≤K→∀ (b1:List Int) (a1:Int) (w:World),Gv.l1 K c1 t1 b1 a1=some r1→St w0 w (Own (Ac .i64) 2 A3 c4 uu t1::Own (Ac .i64) 2 (sb b7) (([0,0,0,0]:List Int).length) uu b1::L)→G prog 62 22 [(3,sV A3 t1 c4),(4,sV (sb b7) b1 (([0,0,0,0]:List Int).length)),(5,I a1)] g1 w (Gv.post w0 L r1):=by
  refine lp (fun _ _ w H _=>by rw [Gv.l1] at H; cases H) fun d1 i1 h1 b1 a1 w H HS=>?_
  rw [Gv.l1] at H
  subst e1
  refine rN 3 Z ?_
  rcases iS H with ⟨c22,H⟩|⟨c22,H⟩
  ·
   refine nB Z (tF c22) (rN 2 Z ?_)
   obtain ⟨t26,h27,H⟩:=bI H
   refine rG (mV Z (fJ kJ Z (D7.calls HS (ro 1 Z) h27) (fun _ wd28 ⟨h29,HS⟩=>⟨_,h29,(aS Z (nL ?_))⟩)))
   obtain rfl:=sI H
   exact rT _ func62 Z Z ⟨Z,(HS.pk 2 [] Z)⟩
  refine yB Z (tT c22) (rN 3 Z ?_)
  obtain ⟨c23,H⟩:=iN H
  obtain ⟨c24,H⟩:=iN H
  refine rG (pS 3 Z (iX Z U26 sz2 (rk (ro 0 Z) HS) c23 (GO.C8 (T:=(Ac .i64)) (n:=a1.toNat) (o:=0) HS (ro 0 Z) Z Z (getD_some (d:=0) (ltN c23)) Z Z na2 Z (mV Z (iX Z U26 sz2 (fun _=>⟨_,_,Z⟩) c24 (GO.Hl (T:=(Ac .i64)) (j:=1) (n:=(t1.getD a1.toNat 0).toNat) (o:=0) (vs:=[I a1]) a1 HS Z Ao Z Z Z Z (htN na2 Z) Z (getD_some (d:=0) (ltN c24)) Z Z fun wd25 HS=>nL (G.len (t:=4) (m:=(b1.set ((t1.getD a1.toNat 0).toNat) a1).length) Z (by simp only [List.length_set]<;>rfl) (rN 3 Z (gW (h1 d1 (lR _) _ _ _ H HS) Z)))))))))
 exact gW (f1 K (lR _) _ _ _ H (HS.pk 2 [1,0] Z)) Z
theorem Af.calls {a1:List (List Am)} {y_a:Nat→(Ty.slice 83 Ak).Lay} {r1:Bool} (HS:St w0 w (L)) (r_a:Bv w0 L (Ty.slice 83 Ak) A_a c_a y_a a1) (H:Af.f K a1=some r1) :
   Calls prog 32 #[.agg [sV A_a a1 c_a].toArray] w (Af.post w0 L r1):=by
 unfold Af.f at H
 refine cG func32 Z ?_
 refine sQ (rG (bA HS Z fun b1 wd2 HS=>aS Z (nL (rN 2 Z ?_))))
 obtain ⟨t3,h4,H⟩:=bI H
 refine rG (lW 0 HS Z Iy (fJ O7 Z (Dn.calls HS (rD 1 r_a) h4) (fun _ wd5 ⟨h6,HS⟩=>⟨_,h6,(GO.gtr Z Z Z Z (nL ?_))⟩)))
 rcases iE H with ⟨c7,H⟩|⟨c7,H⟩
 ·
  refine yB Z (tT c7) (rN 2 Z ?_)
  obtain rfl:=sI H
  exact rT _ func32 Z Z ⟨Z,(HS.pk 1 [] Z)⟩
 refine nB Z (tF c7) (rN 6 Z ?_)
 refine G.name (fun t1 e2=>?_)
 have g2:∀ o1,o1≤K→∀ (e1:Int) (w:World),Af.l1 K o1 a1 e1=some r1→St w0 w (Box b1 33 [sV A_a a1 c_a]::L)→G prog 32 96 [(1,pT b1),(3,I e1)] t1 w (Af.post w0 L r1):=by
  refine lp (fun _ w H _=>by rw [Af.l1] at H; cases H) fun k1 j2 h2 e1 w H HS=>?_
  rw [Af.l1] at H
  subst e2
  refine rN 2 Z (rG (mV Z (fL b1 0 F3 Z (lB 0 HS Z Jo Z (lS Z Z U31 Z (GO.lss Z Z Z Z (nL ?_)))))))
  rcases iE H with ⟨c1091,H⟩|⟨c1091,H⟩
  ·
   refine yB Z (tT c1091) (rN 4 Z ?_)
   obtain ⟨c1092,H⟩:=iN H
   refine rG (fL b1 0 F3 Z (lB 0 HS Z Jo Z (mV Z (iX Z U31 Lm (rk (rD 1 r_a) HS) c1092 (GO.C8 (T:=(Ty.slice 83 Ak)) (n:=e1.toNat) (o:=0) HS (rD 1 r_a) Z Z (getD_some (d:=[]) (ltN c1092)) Z Z Lj Z (lS Z Z U81 Z (GO.neq Z Z Z Z (nL ?_))))))))
   rcases iS H with ⟨c1093,H⟩|⟨c1093,H⟩
   ·
    refine yB Z (nF c1093) (rN 2 Z ?_)
    obtain rfl:=sI H
    exact rT _ func32 Z Z ⟨Z,(HS.pk 1 [] Z)⟩
   refine nB Z (nT c1093) (rN 4 Z (gW (h2 k1 (lR _) _ _ H HS) Z))
  refine nB Z (tF c1091) (rN 6 Z ?_)
  refine G.name (fun z1 v1=>?_)
  have u1:∀ p1,p1≤k1→∀ (c1:Int) (w:World),Af.l28 K p1 a1 c1=some r1→St w0 w (Box b1 33 [sV A_a a1 c_a]::L)→G prog 32 96 [(1,pT b1),(4,I c1)] z1 w (Af.post w0 L r1):=by
   refine lp (fun _ w H _=>by rw [Af.l28] at H; cases H) fun q1 i2 d2 c1 w H HS=>?_
   rw [Af.l28] at H
   subst v1
   refine rN 2 Z ?_
   obtain ⟨t1453,h1454,H⟩:=bI H
   refine rG (mV Z (lW 0 HS Z Iy (fJ O7 Z (Dn.calls HS (rD 1 r_a) h1454) (fun _ wd1455 ⟨h1456,HS⟩=>⟨_,h1456,(GO.lss Z Z Z Z (nL ?_))⟩))))
   rcases iS H with ⟨c1457,H⟩|⟨c1457,H⟩
   ·
    refine nB Z (tF c1457) (rN 3 Z ?_)
    obtain rfl:=sI H
    exact rT _ func32 Z Z ⟨Z,(HS.pk 1 [] Z)⟩
   refine yB Z (tT c1457) (rN 7 Z ?_)
   refine G.name (fun a2 f2=>?_)
   have y1:∀ m1,m1≤q1→∀ (d1:Int) (w:World),Af.l37 K m1 a1 c1 d1=some r1→St w0 w (Box b1 33 [sV A_a a1 c_a]::L)→G prog 32 96 [(1,pT b1),(4,I c1),(5,I d1)] a2 w (Af.post w0 L r1):=by
    refine lp (fun _ w H _=>by rw [Af.l37] at H; cases H) fun f1 c2 g1 d1 w H HS=>?_
    rw [Af.l37] at H
    subst f2
    refine rN 3 Z ?_
    rcases iS H with ⟨c1574,H⟩|⟨c1574,H⟩
    ·
     refine nB Z (tF c1574) (rN 4 Z (gW (d2 f1 (Nat.le_of_succ_le c2) _ _ H HS) Z))
    refine yB Z (tT c1574) (rN 4 Z ?_)
    obtain ⟨c1575,H⟩:=iN H
    obtain ⟨c1576,H⟩:=iN H
    obtain ⟨e1577,h1578,H⟩:=Gp H
    refine rG (fL b1 0 F3 Z (lB 0 HS Z Jo Z (mV Z (iX Z U31 Lm (rk (rD 1 r_a) HS) c1575 (GO.C8 (T:=(Ty.slice 83 Ak)) (n:=c1.toNat) (o:=0) HS (rD 1 r_a) Z Z (getD_some (d:=[]) (ltN c1575)) Z Z Lj Z (mV Z (GO.ix Z Z Z U81 Ls ((Bv.elem (rD 1 r_a) c1575.1 c1575.2) _ HS).2.2.1 c1576.1 c1576.2 Z (GO.Kk (T:=Ak) (n:=d1.toNat) HS (Bv.elem (rD 1 r_a) c1575.1 c1575.2) Z Z (Gt (ltN c1576) h1578) Jf Z (GO.alloc HS Z Pb Z Z fun b1579 wd1580 HS=>sW 0 HS Z Jf Z fun wd1581 HS=>nL (rN 2 Z ?_))))))))))
    refine G.Wd (fun x1 b2=>?_)
    have s1:∀ n1,n1≤f1→∀ (x1584:Bool) (w:World),Af.j40 K n1 a1 c1 d1 e1577 x1584=some r1→St w0 w (Box b1 33 [sV A_a a1 c_a]::Box b1579 83 [I e1577.Tet,I e1577.Perm]::L)→G prog 32 96 [(1,pT b1),(4,I c1),(5,I d1),(6,pT b1579),(51,.bool x1584)] x1 w (Af.post w0 L r1):=by
     refine jp (fun _ w H _=>by rw [Af.j40] at H; cases H) fun i1 h1 x1584 w H HS=>?_
     rw [Af.j40] at H
     subst b2
     rcases iE H with ⟨c1585,H⟩|⟨c1585,H⟩
     ·
      refine yB Z c1585 (rN 3 Z (gW (g1 i1 (Nat.le_of_succ_le h1) _ _ H (HS.pk 2 [0] Z)) Z))
     refine nB Z (Cv c1585) (rN 3 Z ?_)
     obtain ⟨t1599,h1600,H⟩:=bI H
     obtain ⟨t1603,h1604,H⟩:=bI H
     rcases iS H with ⟨c1607,H⟩|⟨c1607,H⟩
     ·
      refine G.Jk mixed (fun w=>St w0 w (Box b1 33 [sV A_a a1 c_a]::Box b1579 83 [I e1577.Tet,I e1577.Perm]::L)) [1,2,9] [0,1,2,3,4,5,6,7,8,9,10,11,12] [] (by kernel_rfl) (by kernel_rfl) HS.drew ?_
      replace HS:=HS.drew
      refine qL Z Z (fun _ _ g=>fL b1579 0 F6 Z g) Z (GX.ls Z Z Z HS (fun _ HS _ g=>lB 1 HS Z na2 Z g) Z (GX.ls Z Z Z HS (fun _ HS _ g=>lW 0 HS Z Iy g) Z (GX.l2 Z (fJ O7 Z (Dn.calls HS (rD 2 r_a) h1600) (fun _ wd1601 ⟨h1602,HS⟩=>⟨_,h1602,(GX.fin HS (GX.ps 1 Z (GX.l2 Z (fJ qY Z (Kq.calls HS  h1604) (fun _ wd1605 ⟨h1606,HS⟩=>⟨_,h1606,(GX.fin HS (GX.ps 1 Z (qL Z Z (fun _ _ g=>mV Z (kN 59 Z (congrArg Bool.not (Cv c1607)) g)) Z (qL Z Z (fun _ _ g=>oF Z g) Z (GX.ls Z Z Z HS (fun _ HS _ g=>oF Z g) Z (GX.l2 Z ?_))))))⟩)))))⟩)))))
      refine oF Z (GX.fin HS (qL Z Z (fun _ _ g=>oF Z g) Z (GX.ps 1 Z (GX.nil (rN 3 Z ?_)))))
      obtain rfl:=sI H
      exact rT _ func32 Z Z ⟨Z,(HS.pk 2 [] Z)⟩
     obtain ⟨t1608,h1609,H⟩:=bI H
     refine G.Jk mixed (fun w=>St w0 w (Box b1 33 [sV A_a a1 c_a]::Box b1579 83 [I e1577.Tet,I e1577.Perm]::L)) [1,2,9] [0,1,2,3,4,5,6,7,8,9,10,11,12] [] (by kernel_rfl) (by kernel_rfl) HS.drew ?_
     replace HS:=HS.drew
     refine qL Z Z (fun _ _ g=>fL b1579 0 F6 Z g) Z (GX.ls Z Z Z HS (fun _ HS _ g=>lB 1 HS Z na2 Z g) Z (GX.ls Z Z Z HS (fun _ HS _ g=>lW 0 HS Z Iy g) Z (GX.l2 Z (fJ O7 Z (Dn.calls HS (rD 2 r_a) h1600) (fun _ wd1601 ⟨h1602,HS⟩=>⟨_,h1602,(GX.fin HS (GX.ps 1 Z (GX.l2 Z (fJ qY Z (Kq.calls HS  h1604) (fun _ wd1605 ⟨h1606,HS⟩=>⟨_,h1606,(GX.fin HS (GX.ps 1 Z (qL Z Z (fun _ _ g=>mV Z (kN 59 Z (congrArg Bool.not c1607) g)) Z (qL Z Z (fun _ _ g=>oN Z (fL b1579 1 J7 Z (bK g))) Z (GX.ls Z Z Z HS (fun _ HS _ g=>oN Z (lB 1 HS Z na2 Z (bK g))) Z (GX.l2 Z ?_))))))⟩)))))⟩)))))
     refine oN Z (fJ Aah Z (Jv.calls HS  h1609) (fun _ wd1610 ⟨h1611,HS⟩=>⟨_,h1611,(bK (GX.fin HS (qL Z Z (fun _ _ g=>oN Z (GO.not Z Z Z (bK g))) Z (GX.ps 1 Z (GX.nil ?_)))))⟩))
     rcases iS H with ⟨c1612,H⟩|⟨c1612,H⟩
     ·
      refine yB Z (congrArg Bool.not (Cv c1612)) (rN 2 Z ?_)
      obtain rfl:=sI H
      exact rT _ func32 Z Z ⟨Z,(HS.pk 2 [] Z)⟩
     refine nB Z (congrArg Bool.not c1612) (rN 2 Z ?_)
     obtain ⟨t1613,h1614,H⟩:=bI H
     refine rG (fL b1579 1 J7 Z (lB 1 HS Z na2 Z (mV Z (fJ Mr Z (Ct.calls HS  h1614) (fun _ wd1615 ⟨h1616,HS⟩=>⟨_,h1616,(aS Z (nL (sQ ?_)))⟩)))))
     obtain ⟨t1617,h1618,H⟩:=bI H
     refine rG (mV Z (fL b1579 1 J7 Z (lB 1 HS Z na2 Z (fJ Aaf Z (Gv.calls HS  h1618) (fun _ wd1619 ⟨h1620,HS⟩=>⟨_,h1620,(GO.Je (.agg [I c1,I t1617].toArray) Z Z (fun _=>by kernel_rfl) Z (GO.alloc HS Z Pb Z Z fun b1621 wd1622 HS=>sW 0 HS Z Jf Z fun wd1623 HS=>nL (sQ ?_)))⟩)))))
     obtain ⟨c1624,H⟩:=iN H
     obtain ⟨c1625,H⟩:=iN H
     obtain ⟨e1626,h1627,H⟩:=Gp H
     rcases iS H with ⟨c1628,H⟩|⟨c1628,H⟩
     ·
      refine G.lex mixed [0,2,6,1,3,4,5,7,8,9,10,11,12,14,13,15,16,17,18,19,20,21] (by kernel_rfl) ?_
      replace HS:=HS.drew
      refine qL Z Z (fun _ _ g=>fL b1 0 F3 Z g) Z (qL Z Z (fun _ _ g=>fL b1579 0 F6 Z g) Z (GX.ps 1 Z (GX.l1 Z Z Z (fun _ g=>lB 1 HS Z Jo Z g) Z (GX.l1 Z Z Z (fun _ g=>lB 2 HS Z na2 Z g) Z (qL Z Z (fun _ _ g=>iX Z U31 Lm (rk (rD 3 r_a) HS) c1624 g) Z (GX.l1 Z Z Z (fun _ g=>GO.C8 (T:=(Ty.slice 83 Ak)) (n:=e1577.Tet.toNat) (o:=0) HS (rD 3 r_a) Z Z (getD_some (d:=[]) (ltN c1624)) Z Z Lj Z g) Z (qL Z Z (fun _ _ g=>GO.ix Z Z Z U81 Ls ((Bv.elem (rD 3 r_a) c1624.1 c1624.2) _ HS).2.2.1 c1625.1 c1625.2 Z g) Z (GX.l1 Z Z Z (fun _ g=>GO.Kk (T:=Ak) (n:=t1613.toNat) HS (Bv.elem (rD 3 r_a) c1624.1 c1624.2) Z Z (Gt (ltN c1625) h1627) Jf Z g) Z (GX.l1 Z Z Z (fun _ g=>lW 0 HS Z Jf g) Z (qL Z Z (fun _ _ g=>GO.vR Z Z Z fP (fun _=>gM) Z g) Z (qL Z Z (fun _ _ g=>mV Z (kN 85 Z (nF c1628) g)) Z (qL Z Z (fun _ _ g=>oF Z g) Z (qL Z Z (fun _ _ g=>oF Z g) Z (GX.l1 Z Z Z (fun _ g=>oF Z g) Z ?_))))))))))))))
      refine qL Z Z (fun _ _ g=>oF Z g) Z (qL Z Z (fun _ _ g=>oF Z g) Z (qL Z Z (fun _ _ g=>GO.Mv Z Z Z Z Z Z g) Z (qL Z Z (fun _ _ g=>GO.Mv Z Z Z Z Z Z g) Z (qL Z Z (fun _ _ g=>GO.Mv Z Z Z Z Z Z g) Z (qL Z Z (fun _ _ g=>oF Z g) Z (GX.ps 1 Z (GX.nil (rN 3 Z ?_))))))))
      obtain rfl:=sI H
      exact rT _ func32 Z Z ⟨Z,(HS.pk 3 [] Z)⟩
     rcases iS H with ⟨c1629,H⟩|⟨c1629,H⟩
     ·
      refine G.lex mixed [0,2,6,1,3,4,5,7,8,9,10,11,12,14,13,15,16,17,18,19,20,21] (by kernel_rfl) ?_
      replace HS:=HS.drew
      refine qL Z Z (fun _ _ g=>fL b1 0 F3 Z g) Z (qL Z Z (fun _ _ g=>fL b1579 0 F6 Z g) Z (GX.ps 1 Z (GX.l1 Z Z Z (fun _ g=>lB 1 HS Z Jo Z g) Z (GX.l1 Z Z Z (fun _ g=>lB 2 HS Z na2 Z g) Z (qL Z Z (fun _ _ g=>iX Z U31 Lm (rk (rD 3 r_a) HS) c1624 g) Z (GX.l1 Z Z Z (fun _ g=>GO.C8 (T:=(Ty.slice 83 Ak)) (n:=e1577.Tet.toNat) (o:=0) HS (rD 3 r_a) Z Z (getD_some (d:=[]) (ltN c1624)) Z Z Lj Z g) Z (qL Z Z (fun _ _ g=>GO.ix Z Z Z U81 Ls ((Bv.elem (rD 3 r_a) c1624.1 c1624.2) _ HS).2.2.1 c1625.1 c1625.2 Z g) Z (GX.l1 Z Z Z (fun _ g=>GO.Kk (T:=Ak) (n:=t1613.toNat) HS (Bv.elem (rD 3 r_a) c1624.1 c1624.2) Z Z (Gt (ltN c1625) h1627) Jf Z g) Z (GX.l1 Z Z Z (fun _ g=>lW 0 HS Z Jf g) Z (qL Z Z (fun _ _ g=>GO.vR Z Z Z fP (fun _=>gM) Z g) Z (qL Z Z (fun _ _ g=>mV Z (kN 85 Z (nT c1628) g)) Z (qL Z Z (fun _ _ g=>oN Z (fL b1579 0 F6 Z (bK g))) Z (qL Z Z (fun _ _ g=>oN Z (mV Z (bK g))) Z (GX.l1 Z Z Z (fun _ g=>oN Z (lB 2 HS Z na2 Z (bK g))) Z ?_))))))))))))))
      refine qL Z Z (fun _ _ g=>oN Z (GO.eql Z Z Z Z (bK g))) Z (qL Z Z (fun _ _ g=>oN Z (mV Z (bK (kN 90 Z (tF c1629) g)))) Z (qL Z Z (fun _ _ g=>oF Z g) Z (qL Z Z (fun _ _ g=>oF Z g) Z (qL Z Z (fun _ _ g=>oF Z g) Z (qL Z Z (fun _ _ g=>oN Z (GO.Iw Z Z Z Z Z (bK g))) Z (GX.ps 1 Z (GX.nil (rN 5 Z (gW (g1 i1 (Nat.le_of_succ_le h1) _ _ H (HS.pk 3 [1] Z)) Z)))))))))
     refine G.lex mixed [0,2,6,1,3,4,5,7,8,9,10,11,12,14,13,15,16,17,18,19,20,21] (by kernel_rfl) ?_
     replace HS:=HS.drew
     refine qL Z Z (fun _ _ g=>fL b1 0 F3 Z g) Z (qL Z Z (fun _ _ g=>fL b1579 0 F6 Z g) Z (GX.ps 1 Z (GX.l1 Z Z Z (fun _ g=>lB 1 HS Z Jo Z g) Z (GX.l1 Z Z Z (fun _ g=>lB 2 HS Z na2 Z g) Z (qL Z Z (fun _ _ g=>iX Z U31 Lm (rk (rD 3 r_a) HS) c1624 g) Z (GX.l1 Z Z Z (fun _ g=>GO.C8 (T:=(Ty.slice 83 Ak)) (n:=e1577.Tet.toNat) (o:=0) HS (rD 3 r_a) Z Z (getD_some (d:=[]) (ltN c1624)) Z Z Lj Z g) Z (qL Z Z (fun _ _ g=>GO.ix Z Z Z U81 Ls ((Bv.elem (rD 3 r_a) c1624.1 c1624.2) _ HS).2.2.1 c1625.1 c1625.2 Z g) Z (GX.l1 Z Z Z (fun _ g=>GO.Kk (T:=Ak) (n:=t1613.toNat) HS (Bv.elem (rD 3 r_a) c1624.1 c1624.2) Z Z (Gt (ltN c1625) h1627) Jf Z g) Z (GX.l1 Z Z Z (fun _ g=>lW 0 HS Z Jf g) Z (qL Z Z (fun _ _ g=>GO.vR Z Z Z fP (fun _=>gM) Z g) Z (qL Z Z (fun _ _ g=>mV Z (kN 85 Z (nT c1628) g)) Z (qL Z Z (fun _ _ g=>oN Z (fL b1579 0 F6 Z (bK g))) Z (qL Z Z (fun _ _ g=>oN Z (mV Z (bK g))) Z (GX.l1 Z Z Z (fun _ g=>oN Z (lB 2 HS Z na2 Z (bK g))) Z ?_))))))))))))))
     refine qL Z Z (fun _ _ g=>oN Z (GO.eql Z Z Z Z (bK g))) Z (qL Z Z (fun _ _ g=>oN Z (mV Z (bK (kN 90 Z (tT c1629) g)))) Z (qL Z Z (fun _ _ g=>oN Z (mV Z (bK g))) Z (qL Z Z (fun _ _ g=>oN Z (mV Z (bK g))) Z (qL Z Z (fun _ _ g=>oN Z (GO.eql Z Z Z Z (bK g))) Z (qL Z Z (fun _ _ g=>oN Z (GO.Gq Z Z Z Z Z (bK g))) Z (GX.ps 1 Z (GX.nil ?_)))))))
     rcases iE H with ⟨c1630,H⟩|⟨c1630,H⟩
     ·
      refine yB Z (tT c1630) (rN 2 Z ?_)
      obtain rfl:=sI H
      exact rT _ func32 Z Z ⟨Z,(HS.pk 3 [] Z)⟩
     refine nB Z (tF c1630) (rN 4 Z (gW (g1 i1 (Nat.le_of_succ_le h1) _ _ H (HS.pk 3 [1] Z)) Z))
    rcases iS H with ⟨c1631,H⟩|⟨c1631,H⟩
    ·
     refine rG (fL b1579 0 F6 Z (lB 0 HS Z na2 Z (pS 2 Z (kN 47 Z (tF c1631) (oF Z (oF Z (oF Z (GO.Iw Z Z Z Z Z (nL (gW (s1 f1 (lR _) _ _ H (HS.pk 2 [1,0] Z)) Z))))))))))
    refine rG (fL b1579 0 F6 Z (lB 0 HS Z na2 Z (pS 2 Z (kN 47 Z (tT c1631) (oN Z (fL b1579 1 J7 Z (bK (oN Z (lB 0 HS Z na2 Z (bK (oN Z (GO.eql Z Z Z Z (bK (GO.Gq Z Z Z Z Z ?_))))))))))))))
    refine nL (gW (s1 f1 (lR _) _ _ H (HS.pk 2 [1,0] Z)) Z)
   exact gW (y1 q1 (lR _) _ _ H HS) Z
  exact gW (u1 k1 (lR _) _ _ H HS) Z
 exact gW (g2 K (lR _) _ _ H HS) Z
theorem Bl.calls {a1:List (List Am)} {y_a:Nat→(Ty.slice 83 Ak).Lay} {r1:List Int} (HS:St w0 w (L)) (r_a:Bv w0 L (Ty.slice 83 Ak) A_a c_a y_a a1) (H:Bl.f K a1=some r1) :
   Calls prog 174 #[.agg [sV A_a a1 c_a].toArray] w (Bl.post w0 L r1):=by
 unfold Bl.f at H
 refine cG func174 Z ?_
 refine sQ (rG (bA HS Z fun b1 wd2 HS=>aS Z (nL (sQ ?_))))
 obtain ⟨c3,H⟩:=iN H
 obtain ⟨c4,H⟩:=iN H
 refine rG (fL b1 0 F3 Z (lB 0 HS Z Jo Z (lS Z Z U31 Z (GO.make (T:=(Ac .i64)) 0 () HS Ao Z Z Z U26 Lf Z Z Z c3 c4 Z fun b5 wd6 HS=>aS Z (nL (rN 5 Z ?_))))))
 refine G.name (fun d2 o2=>?_)
 have q2:∀ x1,x1≤K→∀ (h1:List Int) (m1:Int) (w:World),Bl.l1 K x1 a1 h1 m1=some r1→St w0 w (Box b1 33 [sV A_a a1 c_a]::Own (Ac .i64) 2 (sb b5) ((a1.length:Int).toNat) uu h1::L)→G prog 174 83 [(1,pT b1),(3,sV (sb b5) h1 ((a1.length:Int).toNat)),(4,I m1)] d2 w (Bl.post w0 L r1):=by
  refine lp (fun _ _ w H _=>by rw [Bl.l1] at H; cases H) fun s1 t2 r2 h1 m1 w H HS=>?_
  rw [Bl.l1] at H
  subst o2
  refine rN 2 Z (rG (pS 2 Z (lS Z Z U26 Z (GO.lss Z Z Z Z (nL ?_)))))
  rcases iE H with ⟨c1281,H⟩|⟨c1281,H⟩
  ·
   refine yB Z (tT c1281) (rN 3 Z ?_)
   obtain ⟨c1282,H⟩:=iN H
   refine rG (pS 2 Z (iX Z U26 sz2 (fun _=>⟨_,_,Z⟩) c1282 (GO.Hl (T:=(Ac .i64)) (j:=1) (n:=m1.toNat) (o:=0) (vs:=[I (-1)]) (-1) HS Z Ao Z Z Z Z (htN na2 Z) Z (getD_some (d:=0) (ltN c1282)) Z Z fun wd1283 HS=>nL (G.len (t:=3) (m:=(h1.set m1.toNat (-1)).length) Z (by simp only [List.length_set]<;>rfl) (rN 3 Z (gW (r2 s1 (lR _) _ _ _ H HS) Z))))))
  refine nB Z (tF c1281) (rN 8 Z ?_)
  refine G.name (fun j2 f2=>?_)
  have e2:∀ z1,z1≤s1→∀ (k1:List Int) (c1 d1:Int) (w:World),Bl.l28 K z1 a1 k1 c1 d1=some r1→St w0 w (Box b1 33 [sV A_a a1 c_a]::Own (Ac .i64) 2 (sb b5) ((a1.length:Int).toNat) uu k1::L)→G prog 174 83 [(1,pT b1),(3,sV (sb b5) k1 ((a1.length:Int).toNat)),(5,I c1),(6,I d1)] j2 w (Bl.post w0 L r1):=by
   refine lp (fun _ _ _ w H _=>by rw [Bl.l28] at H; cases H) fun q1 s2 a2 k1 c1 d1 w H HS=>?_
   rw [Bl.l28] at H
   subst f2
   refine rN 2 Z ?_
   obtain ⟨t1707,h1708,H⟩:=bI H
   refine rG (mV Z (lW 0 HS Z Iy (fJ O7 Z (Dn.calls HS (rD 2 r_a) h1708) (fun _ wd1709 ⟨h1710,HS⟩=>⟨_,h1710,(GO.lss Z Z Z Z (nL ?_))⟩))))
   rcases iS H with ⟨c1711,H⟩|⟨c1711,H⟩
   ·
    refine nB Z (tF c1711) (rN 3 Z ?_)
    obtain rfl:=sI H
    exact rT _ func174 Z Z ⟨_,_,Z,(HS.pk 2 [1] Z)⟩
   refine yB Z (tT c1711) (rN 5 Z ?_)
   obtain ⟨c1712,H⟩:=iN H
   refine rG (pS 2 Z (iX Z U26 sz2 (fun _=>⟨_,_,Z⟩) c1712 (GO.C8 (T:=(Ac .i64)) (n:=d1.toNat) (o:=0) HS (ro 1 Z) Z Z (getD_some (d:=0) (ltN c1712)) Z Z na2 Z (GO.geq Z Z Z Z (nL ?_)))))
   rcases iE H with ⟨c1713,H⟩|⟨c1713,H⟩
   ·
    refine yB Z (tT c1713) (rN 3 Z (gW (a2 q1 (lR _) _ _ _ _ H HS) Z))
   refine nB Z (tF c1713) (rN 2 Z (rG (pS 3 Z (iX Z U26 sz2 (fun _=>⟨_,_,Z⟩) c1712 (GO.Hl (T:=(Ac .i64)) (j:=1) (n:=d1.toNat) (o:=0) (vs:=[I c1]) c1 HS Z Ao Z Z Z Z (htN na2 Z) Z (getD_some (d:=0) (ltN c1712)) Z Z fun wd1714 HS=>nL (G.len (t:=3) (m:=(k1.set d1.toNat c1).length) Z (by simp only [List.length_set]<;>rfl) (sQ (rG (mV Z (GO.D8 (el:=2) ([I d1]) HS Z Z (fun _=>by kernel_rfl) Z fun b1715 wd1716 HS=>?_))))))))))
   replace HS:=HS.Ib (T:=(Ac .i64)) (j:=0) Z Ao uu ([d1]:List Int) Z (Ky Z)
   refine GO.Ke (t:=40) (m:=([d1]:List Int).length) (c':=([d1]:List Int).length) Z Z Z (aS Z (nL (rN 5 Z ?_)))
   refine G.name (fun k2 p2=>?_)
   have h2:∀ v1,v1≤q1→∀ (o1:List Int) (A1783:Option Addr) (c1784:Nat) (p1:List Int) (e1:Int) (w:World),Bl.l37 K v1 a1 c1 d1 o1 p1 e1=some r1→St w0 w (Box b1 33 [sV A_a a1 c_a]::Own (Ac .i64) 2 (sb b5) ((a1.length:Int).toNat) uu o1::Own (Ac .i64) 2 A1783 c1784 uu p1::L)→G prog 174 83 [(1,pT b1),(3,sV (sb b5) o1 ((a1.length:Int).toNat)),(5,I c1),(6,I d1),(7,sV A1783 p1 c1784),(8,I e1)] k2 w (Bl.post w0 L r1):=by
    refine lp (fun _ _ _ _ _ w H _=>by rw [Bl.l37] at H; cases H) fun u1 m2 c2 o1 A1783 c1784 p1 e1 w H HS=>?_
    rw [Bl.l37] at H
    subst p2
    refine rN 2 Z (rG (pS 2 Z (lS Z Z U26 Z (GO.lss Z Z Z Z (nL ?_)))))
    rcases iS H with ⟨c1852,H⟩|⟨c1852,H⟩
    ·
     refine nB Z (tF c1852) (rN 5 Z (gW (a2 u1 (Nat.le_of_succ_le m2) _ _ _ _ H (HS.pk 3 [0,1] Z)) Z))
    refine yB Z (tT c1852) (rN 7 Z ?_)
    refine G.name (fun n2 b2=>?_)
    have i2:∀ y1,y1≤u1→∀ (f1:List Int) (A1873:Option Addr) (c1874:Nat) (g1:List Int) (i1:Int) (w:World),Bl.l40 K y1 a1 c1 d1 e1 f1 g1 i1=some r1→St w0 w (Box b1 33 [sV A_a a1 c_a]::Own (Ac .i64) 2 (sb b5) ((a1.length:Int).toNat) uu f1::Own (Ac .i64) 2 A1873 c1874 uu g1::L)→G prog 174 83 [(1,pT b1),(3,sV (sb b5) f1 ((a1.length:Int).toNat)),(5,I c1),(6,I d1),(7,sV A1873 g1 c1874),(8,I e1),(9,I i1)] n2 w (Bl.post w0 L r1):=by
     refine lp (fun _ _ _ _ _ w H _=>by rw [Bl.l40] at H; cases H) fun n1 g2 t1 f1 A1873 c1874 g1 i1 w H HS=>?_
     rw [Bl.l40] at H
     subst b2
     refine rN 3 Z ?_
     rcases iS H with ⟨c1897,H⟩|⟨c1897,H⟩
     ·
      refine nB Z (tF c1897) (rN 4 Z (gW (c2 n1 (Nat.le_of_succ_le g2) _ _ _ _ _ _ H HS) Z))
     refine yB Z (tT c1897) (rN 4 Z ?_)
     obtain ⟨c1898,H⟩:=iN H
     have h1899:=(rk (ro 2 Z) HS)
     obtain ⟨c1900,H⟩:=iN H
     obtain ⟨c1901,H⟩:=iN H
     obtain ⟨e1902,h1903,H⟩:=Gp H
     refine G.lex mixed [0,2,3,4,8,1,5,6,7,9,10,11,12] (by kernel_rfl) ?_
     replace HS:=HS.drew
     refine qL Z Z (fun _ _ g=>fL b1 0 F3 Z g) Z (GX.ps 2 Z (qL Z Z (fun _ _ g=>iX Z U26 sz2 h1899 c1898 g) Z (GX.ps 1 Z (GX.l1 Z Z Z (fun _ g=>lB 0 HS Z Jo Z g) Z (GX.l1 Z Z Z (fun _ g=>GO.C8 (T:=(Ac .i64)) (n:=e1.toNat) (o:=0) HS (ro 2 Z) Z Z (getD_some (d:=0) (ltN c1898)) Z Z na2 Z g) Z (qL Z Z (fun _ _ g=>iX Z U31 Lm (rk (rD 3 r_a) HS) c1900 g) Z (GX.l1 Z Z Z (fun _ g=>GO.C8 (T:=(Ty.slice 83 Ak)) (n:=(g1.getD e1.toNat 0).toNat) (o:=0) HS (rD 3 r_a) Z Z (getD_some (d:=[]) (ltN c1900)) Z Z Lj Z g) Z (qL Z Z (fun _ _ g=>GO.ix Z Z Z U81 Ls ((Bv.elem (rD 3 r_a) c1900.1 c1900.2) _ HS).2.2.1 c1901.1 c1901.2 Z g) Z (qL Z Z (fun _ _ g=>GO.fld (ea ((y_a ((g1.getD e1.toNat 0).toNat)).A) (i1.toNat*2)) Z Z F6 Z Z g) Z (GX.l1 Z Z Z (fun _ g=>GO.C8 (T:=Ak) (n:=i1.toNat) (o:=0) HS (Bv.elem (rD 3 r_a) c1900.1 c1900.2) Z Z (Gt (ltN c1901) h1903) Z Z na2 Z g) Z (GX.ps 1 Z (GX.nil (sQ ?_)))))))))))))
     rcases iS H with ⟨c1907,H⟩|⟨c1907,H⟩
     ·
      refine rG (pS 3 Z (kN 65 Z (tF c1907) (oF Z (oF Z (oF Z (oF Z (oF Z (GO.Iw Z Z Z Z Z (nL (rN 5 Z (gW (t1 n1 (lR _) _ _ _ _ _ _ H HS) Z)))))))))))
     obtain ⟨c1908,H⟩:=iN H
     refine rG (pS 3 Z (kN 65 Z (tT c1907) (oN Z (mV Z (bK (oN Z (mV Z (bK (oN Z (iX Z U26 sz2 (fun _=>⟨_,_,Z⟩) c1908 (bK (oN Z (GO.C8 (T:=(Ac .i64)) (n:=e1902.Tet.toNat) (o:=0) HS (ro 1 Z) Z Z (getD_some (d:=0) (ltN c1908)) Z Z na2 Z (bK ?_))))))))))))))
     refine oN Z (GO.lss Z Z Z Z (bK (GO.Gq Z Z Z Z Z (nL ?_))))
     rcases iS H with ⟨c1909,H⟩|⟨c1909,H⟩
     ·
      refine nB Z (tF c1909) (rN 4 Z (gW (t1 n1 (lR _) _ _ _ _ _ _ H HS) Z))
     refine yB Z (tT c1909) (sQ (rG (pS 3 Z (iX Z U26 sz2 (fun _=>⟨_,_,Z⟩) c1908 (GO.Hl (T:=(Ac .i64)) (j:=1) (n:=e1902.Tet.toNat) (o:=0) (vs:=[I c1]) c1 HS Z Ao Z Z Z Z (htN na2 Z) Z (getD_some (d:=0) (ltN c1908)) Z Z fun wd1910 HS=>nL (G.len (t:=3) (m:=(f1.set e1902.Tet.toNat c1).length) Z (by simp only [List.length_set]<;>rfl) (G.len (t:=66) (m:=(f1.set e1902.Tet.toNat c1).length) Z (by simp only [List.length_set]<;>rfl) ?_)))))))
     obtain ⟨c1916,H⟩:=iN H
     refine rG (pS 2 Z (GO.D8 (el:=2) ([I e1902.Tet]) HS Z Z (fun _=>by kernel_rfl) Z fun b1911 wd1912 HS=>GO.app1 (T:=(Ac .i64)) (j:=3) (jb:=0) e1902.Tet HS Z Z Ao Z Z Z U26 Lf Z Z Z c1916 Z fun A1914 c1915 wd1913 HS=>aS Z (nL (rN 3 Z (gW (t1 n1 (lR _) _ _ _ _ _ _ H (HS.pk 4 [1,2,3] Z)) Z)))))
    exact gW (i2 u1 (lR _) _ _ _ _ _ _ H HS) Z
   exact gW (h2 q1 (lR _) _ _ _ _ _ _ H (HS.pk 3 [1,2,0] Z)) Z
  exact gW (e2 s1 (lR _) _ _ _ _ H HS) Z
 exact gW (q2 K (lR _) _ _ _ H (HS.pk 2 [1,0] Z)) Z
theorem Et.calls {c1:List (List Am)} {y_a:Nat→(Ty.slice 83 Ak).Lay} {r1:Bool} (HS:St w0 w (L)) (r_a:Bv w0 L (Ty.slice 83 Ak) A_a c_a y_a c1) (H:Et.f K c1=some r1) :
   Calls prog 135 #[.agg [sV A_a c1 c_a].toArray] w (Et.post w0 L r1):=by
 unfold Et.f at H
 refine cG func135 Z ?_
 refine sQ (rG (bA HS Z fun b1 wd2 HS=>aS Z (nL (sQ ?_))))
 obtain ⟨t3,h4,H⟩:=bI H
 refine rG (lW 0 HS Z Iy (fJ vM Z (Bl.calls HS (rD 1 r_a) h4) (fun _ wd7 ⟨A5,c6,h8,HS⟩=>⟨_,h8,(aS Z (nL (rN 5 Z ?_)))⟩)))
 refine G.name (fun h1 f1=>?_)
 have g1:∀ d1,d1≤K→∀ (a1:Int) (w:World),Et.l1 K d1 t3 a1=some r1→St w0 w (Own (Ac .i64) 2 A5 c6 uu t3::L)→G prog 135 18 [(3,sV A5 t3 c6),(4,I a1)] h1 w (Et.post w0 L r1):=by
  refine lp (fun _ w H _=>by rw [Et.l1] at H; cases H) fun e1 k1 i1 a1 w H HS=>?_
  rw [Et.l1] at H
  subst f1
  refine rN 2 Z (rG (pS 2 Z (lS Z Z U26 Z (GO.lss Z Z Z Z (nL ?_)))))
  rcases iS H with ⟨c16,H⟩|⟨c16,H⟩
  ·
   refine nB Z (tF c16) (rN 3 Z ?_)
   obtain rfl:=sI H
   exact rT _ func135 Z Z ⟨Z,(HS.pk 1 [] Z)⟩
  refine yB Z (tT c16) (rN 4 Z ?_)
  obtain ⟨c17,H⟩:=iN H
  refine rG (pS 2 Z (iX Z U26 sz2 (rk (ro 0 Z) HS) c17 (GO.C8 (T:=(Ac .i64)) (n:=a1.toNat) (o:=0) HS (ro 0 Z) Z Z (getD_some (d:=0) (ltN c17)) Z Z na2 Z (GO.gtr Z Z Z Z (nL ?_)))))
  rcases iE H with ⟨c18,H⟩|⟨c18,H⟩
  ·
   refine yB Z (tT c18) (rN 2 Z ?_)
   obtain rfl:=sI H
   exact rT _ func135 Z Z ⟨Z,(HS.pk 1 [] Z)⟩
  refine nB Z (tF c18) (rN 4 Z (gW (i1 e1 (lR _) _ _ H HS) Z))
 exact gW (g1 K (lR _) _ _ H (HS.pk 2 [0] Z)) Z
theorem Ha.calls {e_ r1 r2:Int} (HS:St w0 w (L)) (H:Ha.f e_=some (r1,r2)) :
   Calls prog 72 #[I e_] w (Ha.post w0 L r1 r2):=by
 unfold Ha.f at H
 refine cG func72 Z ?_
 refine rN 3 Z ?_
 obtain ⟨c3,H⟩:=iN H
 obtain ⟨c6,H⟩:=iN H
 refine G.Pk mixed (by decide) (fun b a w=>∃ (b1:Nat) (b4:Nat) (g1:Dc) (f1:Dc),RS 12 [(0,I e_)] [rv 4 (.slice (sb b1) 6 6),rv 5 (I e_),rv 6 (.pointer (some (ea (sb b1) (e_.toNat*1)))),rv 7 (I (([0,0,0,1,1,2]:List Int).getD e_.toNat 0)),rv 8 (.slice (sb b4) 6 6),rv 9 (I e_),rv 10 (.pointer (some (ea (sb b4) (e_.toNat*1)))),rv 11 (I (([1,2,3,2,3,3]:List Int).getD e_.toNat 0)),rv 2 (I (([0,0,0,1,1,2]:List Int).getD e_.toNat 0)),rv 3 (I (([1,2,3,2,3,3]:List Int).getD e_.toNat 0))] b a∧St w0 w (g1::f1::L)∧(b 0=true→b 2=false→g1=Box b1 2 [I 0,I 0,I 0,I 1,I 1,I 2])∧(b 2=true→g1=Own (Ac .i64) 2 (sb b1) (([0,0,0,1,1,2]:List Int).length) uu ([0,0,0,1,1,2]:List Int))∧(b 4=true→b 6=false→f1=Box b4 2 [I 1,I 2,I 3,I 2,I 3,I 3])∧(b 6=true→f1=Own (Ac .i64) 2 (sb b4) (([1,2,3,2,3,3]:List Int).length) uu ([1,2,3,2,3,3]:List Int))) ?_ ?_ ?_
 · exact fun a hs=>⟨0,0,Emp,Emp,hs.init Z,(HS.drew.emp.emp.pk 2 [1,0] Z),fun h=>Bool.noConfusion h,fun h=>Bool.noConfusion h,fun h=>Bool.noConfusion h,fun h=>Bool.noConfusion h⟩
 ·
  intro j b a w hj
  refine exI fun b1=>exI fun b4=>exI fun g1=>exI fun f1=>anI fun hs=>fun hM q=>?_
  have HS:=hM.1
  match j,hj with
  | 0,_ =>
   refine (anI fun HS=>anI fun d1=>anI fun a1=>anI fun e1=>fun c1=>?_) hM
   refine hs.at q [] [] (GO.D8 (el:=2) ([I 0,I 0,I 0,I 1,I 1,I 2]) HS Z Z (fun _=>by kernel_rfl) Z fun b1 wd2 HS=>hs.Za q [0,2] (fun _ hs=>⟨b1,b4,Box b1 2 [I 0,I 0,I 0,I 1,I 1,I 2],_,hs,HS.pk 3 [0,2] Z,fun _ _=>Z,fun hh=>(q.no 2 hh).elim,e1,c1⟩) Z Z)
  | 1,_ =>
   refine hs.at q [] [] (mV Z (hs.fin q Z fun _ hs=>⟨_,_,_,_,hs,hM⟩))
  | 2,_ =>
   refine (anI fun HS=>anI fun d1=>anI fun a1=>anI fun e1=>fun c1=>?_) hM
   have hb0:=q.on 0
   obtain rfl:=d1 hb0 q.hb
   refine hs.at q [0,1] [] ?_
   replace HS:=HS.Ib (T:=(Ac .i64)) (j:=0) Z Ao uu ([0,0,0,1,1,2]:List Int) Z (Ky Z)
   refine GO.Ke (t:=4) (m:=([0,0,0,1,1,2]:List Int).length) (c':=([0,0,0,1,1,2]:List Int).length) Z Z Z (iX Z U26 sz2 (fun _=>⟨_,_,Z⟩) c3 (hs.fin q Z fun _ hs=>⟨b1,b4,Own (Ac .i64) 2 (sb b1) (([0,0,0,1,1,2]:List Int).length) uu ([0,0,0,1,1,2]:List Int),_,hs,HS,fun _ h=>Bool.noConfusion h,fun _=>Z,e1,c1⟩))
  | 3,_ =>
   refine (anI fun HS=>anI fun d1=>anI fun a1=>anI fun e1=>fun c1=>?_) hM
   have hb2:=q.on 2
   obtain rfl:=a1 hb2
   refine hs.at q [2] [] (GO.C8 (T:=(Ac .i64)) (n:=e_.toNat) (o:=0) HS (ro 0 Z) Z Z (getD_some (d:=0) (ltN c3)) Z Z na2 Z (hs.fin q Z fun _ hs=>⟨b1,b4,_,_,hs,HS,d1,a1,e1,c1⟩))
  | 4,_ =>
   refine (anI fun HS=>anI fun d1=>anI fun a1=>anI fun e1=>fun c1=>?_) hM
   refine hs.at q [] [] (GO.D8 (el:=2) ([I 1,I 2,I 3,I 2,I 3,I 3]) HS Z Z (fun _=>by kernel_rfl) Z fun b4 wd5 HS=>hs.Za q [4,6] (fun _ hs=>⟨b1,b4,_,Box b4 2 [I 1,I 2,I 3,I 2,I 3,I 3],hs,HS.pk 3 [1,0] Z,d1,a1,fun _ _=>Z,fun hh=>(q.no 6 hh).elim⟩) Z Z)
  | 5,_ =>
   refine hs.at q [] [] (mV Z (hs.fin q Z fun _ hs=>⟨_,_,_,_,hs,hM⟩))
  | 6,_ =>
   refine (anI fun HS=>anI fun d1=>anI fun a1=>anI fun e1=>fun c1=>?_) hM
   have hb4:=q.on 4
   obtain rfl:=e1 hb4 q.hb
   refine hs.at q [4,5] [] ?_
   replace HS:=HS.Ib (T:=(Ac .i64)) (j:=1) Z Ao uu ([1,2,3,2,3,3]:List Int) Z (Ky Z)
   refine GO.Ke (t:=8) (m:=([1,2,3,2,3,3]:List Int).length) (c':=([1,2,3,2,3,3]:List Int).length) Z Z Z (iX Z U26 sz2 (fun _=>⟨_,_,Z⟩) c6 (hs.fin q Z fun _ hs=>⟨b1,b4,_,Own (Ac .i64) 2 (sb b4) (([1,2,3,2,3,3]:List Int).length) uu ([1,2,3,2,3,3]:List Int),hs,HS,d1,a1,fun _ h=>Bool.noConfusion h,fun _=>Z⟩))
  | 7,_ =>
   refine (anI fun HS=>anI fun d1=>anI fun a1=>anI fun e1=>fun c1=>?_) hM
   have hb6:=q.on 6
   obtain rfl:=c1 hb6
   refine hs.at q [6] [] (GO.C8 (T:=(Ac .i64)) (n:=e_.toNat) (o:=0) HS (ro 1 Z) Z Z (getD_some (d:=0) (ltN c6)) Z Z na2 Z (hs.fin q Z fun _ hs=>⟨b1,b4,_,_,hs,HS,d1,a1,e1,c1⟩))
  | 8,_ =>
   refine hs.at q [3] [] (aS Z (hs.fin q Z fun _ hs=>⟨_,_,_,_,hs,hM⟩))
  | 9,_ =>
   refine hs.at q [7] [] (aS Z (hs.fin q Z fun _ hs=>⟨_,_,_,_,hs,hM⟩))
  | k+10,hj=>exact absurd hj (Nat.not_lt.2 (Nat.le_add_left 10 k))
 ·
  intro b a w hall
  refine exI fun b1=>exI fun b4=>exI fun g1=>exI fun f1=>anI fun hs=>anI fun HS=>anI fun d1=>anI fun a1=>anI fun e1=>fun c1=>?_
  obtain rfl:=a1 (hall 2 (by decide))
  obtain rfl:=c1 (hall 6 (by decide))
  refine G.at (hs.all hall) ?_
  obtain ⟨rfl,rfl⟩:=H8 H
  exact G.Jr _ _ func72 Z Z Z ⟨Z,(HS.pk 2 [] Z)⟩
theorem E8.calls {a_ b_ r1:Int} (HS:St w0 w (L)) (H:E8.f K a_ b_=some r1) :
   Calls prog 74 #[I a_,I b_] w (E8.post w0 L r1):=by
 unfold E8.f at H
 refine cG func74 Z ?_
 refine rN 7 Z ?_
 refine G.name (fun f1 d1=>?_)
 have e1:∀ b1,b1≤K→∀ (e_9:Int) (w:World),E8.l1 K b1 a_ b_ e_9=some r1→St w0 w (L)→G prog 74 30 [(0,I a_),(1,I b_),(5,I e_9)] f1 w (E8.post w0 L r1):=by
  refine lp (fun _ w H _=>by rw [E8.l1] at H; cases H) fun a1 g1 c1 e_9 w H HS=>?_
  rw [E8.l1] at H
  subst d1
  refine rN 3 Z ?_
  rcases iS H with ⟨c19,H⟩|⟨c19,H⟩
  ·
   refine nB Z (tF c19) (rN 3 Z ?_)
   obtain rfl:=sI H
   exact rT _ func74 Z Z ⟨Z,HS⟩
  refine yB Z (tT c19) (rN 4 Z ?_)
  obtain ⟨t20,t21,h22,H⟩:=Cx H
  refine rG (mV Z (fJ Yx Z (Ha.calls HS  h22) (fun _ wd23 ⟨h24,HS⟩=>⟨_,h24,(pS 5 Z (nL (sQ ?_)))⟩)))
  rcases iS H with ⟨c26,H⟩|⟨c26,H⟩
  ·
   refine rG (pS 3 Z (GO.min2 Z Z Z Z (pS 2 Z (kN 22 Z (tF c26) (oF Z (oF Z (oF Z (oF Z (oF Z (GO.Iw Z Z Z Z Z (nL (rN 5 Z (gW (c1 a1 (lR _) _ _ H HS) Z)))))))))))))
  refine rG (pS 3 Z (GO.min2 Z Z Z Z (pS 2 Z (kN 22 Z (tT c26) (oN Z (mV Z (bK (oN Z (mV Z (bK (oN Z (mV Z (bK (oN Z ?_))))))))))))))
  refine GO.max2 Z Z Z Z (bK (oN Z (GO.eql Z Z Z Z (bK (GO.Gq Z Z Z Z Z (nL ?_))))))
  rcases iE H with ⟨c27,H⟩|⟨c27,H⟩
  ·
   refine yB Z (tT c27) (rN 2 Z ?_)
   obtain rfl:=sI H
   exact rT _ func74 Z Z ⟨Z,HS⟩
  refine nB Z (tF c27) (rN 4 Z (gW (c1 a1 (lR _) _ _ H HS) Z))
 exact gW (e1 K (lR _) _ _ H HS) Z
theorem Ai.calls {d1:List (List Am)} {y_a:Nat→(Ty.slice 83 Ak).Lay} {r1:List (List Int)} (HS:St w0 w (L)) (r_a:Bv w0 L (Ty.slice 83 Ak) A_a c_a y_a d1) (H:Ai.f K d1=some r1) :
   Calls prog 63 #[.agg [sV A_a d1 c_a].toArray] w (Ai.post w0 L r1):=by
 unfold Ai.f at H
 refine cG func63 Z ?_
 refine sQ (rG (bA HS Z fun b1 wd2 HS=>aS Z (nL (sQ ?_))))
 obtain ⟨t3,h4,H⟩:=bI H
 refine rG (lW 0 HS Z Iy (fJ O7 Z (Dn.calls HS (rD 1 r_a) h4) (fun _ wd5 ⟨h6,HS⟩=>⟨_,h6,(aS Z (nL (sQ ?_)))⟩)))
 obtain ⟨c7,H⟩:=iN H
 obtain ⟨c8,H⟩:=iN H
 refine rG (pS 2 Z (GO.make (T:=(Ac .i64)) 0 () HS Ao Z Z Z U26 Lf Z Z Z c7 c8 Z fun b9 wd10 HS=>aS Z (nL (sQ ?_))))
 obtain ⟨c11,H⟩:=iN H
 refine rG (pS 2 Z (GO.make (T:=Fy) false () HS Ao Z Z Z Kt Vq Z Z Z c7 c11 Z fun b12 wd13 HS=>aS Z (nL (rN 5 Z ?_))))
 refine G.name (fun p2 i3=>?_)
 have m3:∀ y1,y1≤K→∀ (e1:List Int) (a1:List Bool) (c1:Int) (w:World),Ai.l1 K y1 d1 t3 e1 a1 c1=some r1→St w0 w (Box b1 33 [sV A_a d1 c_a]::Own (Ac .i64) 2 (sb b9) ((w64 (6*t3)).toNat) uu e1::Own Fy 4 (sb b12) ((w64 (6*t3)).toNat) uu a1::L)→G prog 63 189 [(1,pT b1),(3,I t3),(4,sV (sb b9) e1 ((w64 (6*t3)).toNat)),(5,sV (sb b12) a1 ((w64 (6*t3)).toNat)),(6,I c1)] p2 w (Ai.post w0 L r1):=by
  refine lp (fun _ _ _ w H _=>by rw [Ai.l1] at H; cases H) fun m1 q3 j2 e1 a1 c1 w H HS=>?_
  rw [Ai.l1] at H
  subst i3
  refine rN 3 Z ?_
  rcases iS H with ⟨c1352,H⟩|⟨c1352,H⟩
  ·
   refine nB Z (tF c1352) (rN 2 Z (rG (GO.D8 (el:=26) ([]) HS Z Z (fun _=>by kernel_rfl) Z fun b1901 wd1902 HS=>?_)))
   replace HS:=HS.Un (T:=(Ty.slice 2 (Ac .i64))) (j:=0) Z (fun _=>⟨none,0,uu⟩)
   refine GO.Ke (t:=155) (m:=([]:List (List Int)).length) (c':=0) Z Z Z (aS Z (nL (rN 5 Z ?_)))
   refine G.name (fun r2 e3=>?_)
   have u2:∀ v1,v1≤m1→∀ (A1979:Option Addr) (c1980:Nat) (x1981:List (List Int)) (y1982:Nat→(Ty.slice 2 (Ac .i64)).Lay) (x1983:Int) (w:World),Ai.l82 K v1 t3 e1 a1 x1981 x1983=some r1→St w0 w (Own (Ac .i64) 2 (sb b9) ((w64 (6*t3)).toNat) uu e1::Own Fy 4 (sb b12) ((w64 (6*t3)).toNat) uu a1::Own (Ty.slice 2 (Ac .i64)) 26 A1979 c1980 y1982 x1981::L)→G prog 63 189 [(3,I t3),(4,sV (sb b9) e1 ((w64 (6*t3)).toNat)),(5,sV (sb b12) a1 ((w64 (6*t3)).toNat)),(20,sV A1979 x1981 c1980),(21,I x1983)] r2 w (Ai.post w0 L r1):=by
    refine lp (fun _ _ _ _ _ w H _=>by rw [Ai.l82] at H; cases H) fun e2 p3 b3 A1979 c1980 x1981 y1982 x1983 w H HS=>?_
    rw [Ai.l82] at H
    subst e3
    refine rN 3 Z ?_
    rcases iS H with ⟨c2060,H⟩|⟨c2060,H⟩
    ·
     refine nB Z (tF c2060) (rN 3 Z ?_)
     obtain rfl:=sI H
     exact rT _ func63 Z Z ⟨_,_,_,Z,(HS.pk 3 [2] Z)⟩
    refine yB Z (tT c2060) (rN 4 Z (rG (GO.D8 (el:=2) ([]) HS Z Z (fun _=>by kernel_rfl) Z fun b2061 wd2062 HS=>?_)))
    replace HS:=HS.Ib (T:=(Ac .i64)) (j:=0) Z Ao uu ([]:List Int) Z (Ky Z)
    refine GO.Ke (t:=162) (m:=([]:List Int).length) (c':=([]:List Int).length) Z Z Z (aS Z (nL (rN 5 Z ?_)))
    refine G.name (fun j3 f3=>?_)
    have h3:∀ z1,z1≤e2→∀ (A2086:Option Addr) (c2087:Nat) (x2088:List Int) (x2089:Int) (w:World),Ai.l85 K z1 t3 e1 a1 x1981 x1983 x2088 x2089=some r1→St w0 w (Own (Ac .i64) 2 (sb b9) ((w64 (6*t3)).toNat) uu e1::Own Fy 4 (sb b12) ((w64 (6*t3)).toNat) uu a1::Own (Ty.slice 2 (Ac .i64)) 26 A1979 c1980 y1982 x1981::Own (Ac .i64) 2 A2086 c2087 uu x2088::L)→G prog 63 189 [(3,I t3),(4,sV (sb b9) e1 ((w64 (6*t3)).toNat)),(5,sV (sb b12) a1 ((w64 (6*t3)).toNat)),(20,sV A1979 x1981 c1980),(21,I x1983),(22,sV A2086 x2088 c2087),(23,I x2089)] j3 w (Ai.post w0 L r1):=by
     refine lp (fun _ _ _ _ w H _=>by rw [Ai.l85] at H; cases H) fun q1 k2 g2 A2086 c2087 x2088 x2089 w H HS=>?_
     rw [Ai.l85] at H
     subst f3
     refine rN 3 Z ?_
     rcases iS H with ⟨c2113,H⟩|⟨c2113,H⟩
     ·
      refine nB Z (tF c2113) (G.exit Z ?_)
      obtain ⟨c2134,H⟩:=iN H
      refine rG (pS 2 Z (GO.D8 (el:=26) ([sV A2086 x2088 c2087]) HS Z Z (fun _=>by kernel_rfl) Z fun b2129 wd2130 HS=>?_))
      replace HS:=HS.pk 5 [3,0,4,1,2] Z
      refine GO.Z6 (S:=(Ac .i64)) (u:=2) HS Z Z Z U65 Qi Z Z c2134 Z fun A2132 c2133 y2135 wd2131 HS=>aS Z (nL (rN 3 Z (gW (b3 q1 (Nat.le_of_succ_le k2) _ _ _ _ _ _ H (HS.pk 4 [2,3,0] Z)) Z)))
     refine yB Z (tT c2113) (rN 4 Z ?_)
     obtain ⟨c2114,H⟩:=iN H
     refine rG (pS 2 Z (iX Z Kt sz4 (fun _=>⟨_,_,Z⟩) c2114 (GO.C8 (T:=Fy) (n:=x2089.toNat) (o:=0) HS (ro 1 Z) Z Z (getD_some (d:=false) (ltN c2114)) Z Z na4 Z (nL ?_))))
     rcases iE H with ⟨c2115,H⟩|⟨c2115,H⟩
     ·
      refine yB Z c2115 ?_
      obtain ⟨c2121,H⟩:=iN H
      refine rG (mV Z (GO.D8 (el:=2) ([I 0]) HS Z Z (fun _=>by kernel_rfl) Z fun b2116 wd2117 HS=>GO.app1 (T:=(Ac .i64)) (j:=4) (jb:=0) 0 HS Z Z Ao Z Z Z U26 Lf Z Z Z c2121 Z fun A2119 c2120 wd2118 HS=>aS Z (nL (rN 3 Z (gW (g2 q1 (lR _) _ _ _ _ _ H (HS.pk 5 [1,2,3,4] Z)) Z)))))
     refine nB Z (Cv c2115) ?_
     obtain ⟨c2122,H⟩:=iN H
     obtain ⟨c2128,H⟩:=iN H
     refine rG (pS 3 Z (iX Z U26 sz2 (fun _=>⟨_,_,Z⟩) c2122 (GO.C8 (T:=(Ac .i64)) (n:=x2089.toNat) (o:=0) HS (ro 0 Z) Z Z (getD_some (d:=0) (ltN c2122)) Z Z na2 Z (GO.D8 (el:=2) ([I (e1.getD x2089.toNat 0)]) HS Z Z (fun _=>by kernel_rfl) Z fun b2123 wd2124 HS=>GO.app1 (T:=(Ac .i64)) (j:=4) (jb:=0) (e1.getD x2089.toNat 0) HS Z Z Ao Z Z Z U26 Lf Z Z Z c2128 Z fun A2126 c2127 wd2125 HS=>aS Z (nL (rN 3 Z (gW (g2 q1 (lR _) _ _ _ _ _ H (HS.pk 5 [1,2,3,4] Z)) Z)))))))
    exact gW (h3 e2 (lR _) _ _ _ _ _ H (HS.pk 4 [1,2,3,0] Z)) Z
   exact gW (u2 m1 (lR _) _ _ _ _ _ _ H (HS.pk 4 [2,3,0] Z)) Z
  refine yB Z (tT c1352) (rN 5 Z ?_)
  obtain ⟨c1353,H⟩:=iN H
  refine rG (pS 2 Z (iX Z U26 sz2 (fun _=>⟨_,_,Z⟩) c1353 (GO.C8 (T:=(Ac .i64)) (n:=c1.toNat) (o:=0) HS (ro 1 Z) Z Z (getD_some (d:=0) (ltN c1353)) Z Z na2 Z (GO.neq Z Z Z Z (nL ?_)))))
  rcases iS H with ⟨c1354,H⟩|⟨c1354,H⟩
  ·
   refine yB Z (nF c1354) (rN 3 Z (gW (j2 m1 (lR _) _ _ _ _ H HS) Z))
  refine nB Z (nT c1354) (rN 2 Z (rG (pS 2 Z (iX Z U26 sz2 (fun _=>⟨_,_,Z⟩) c1353 (GO.Hl (T:=(Ac .i64)) (j:=1) (n:=c1.toNat) (o:=0) (vs:=[I 1]) 1 HS Z Ao Z Z Z Z (htN na2 Z) Z (getD_some (d:=0) (ltN c1353)) Z Z fun wd1355 HS=>nL (G.len (t:=4) (m:=(e1.set c1.toNat 1).length) Z (by simp only [List.length_set]<;>rfl) (sQ (rG (mV Z (GO.D8 (el:=2) ([I c1]) HS Z Z (fun _=>by kernel_rfl) Z fun b1356 wd1357 HS=>?_))))))))))
  replace HS:=HS.Ib (T:=(Ac .i64)) (j:=0) Z Ao uu ([c1]:List Int) Z (Ky Z)
  refine GO.Ke (t:=47) (m:=([c1]:List Int).length) (c':=([c1]:List Int).length) Z Z Z (aS Z (nL (rN 7 Z ?_)))
  refine G.name (fun s2 x2=>?_)
  have z2:∀ d2,d2≤m1→∀ (g1:List Int) (A1528:Option Addr) (c1529:Nat) (x1530:List Int) (x1531:Bool) (x1532:Int) (w:World),Ai.l57 K d2 d1 t3 a1 c1 g1 x1530 x1531 x1532=some r1→St w0 w (Box b1 33 [sV A_a d1 c_a]::Own (Ac .i64) 2 (sb b9) ((w64 (6*t3)).toNat) uu g1::Own Fy 4 (sb b12) ((w64 (6*t3)).toNat) uu a1::Own (Ac .i64) 2 A1528 c1529 uu x1530::L)→G prog 63 189 [(1,pT b1),(3,I t3),(4,sV (sb b9) g1 ((w64 (6*t3)).toNat)),(5,sV (sb b12) a1 ((w64 (6*t3)).toNat)),(6,I c1),(7,sV A1528 x1530 c1529),(8,.bool x1531),(9,I x1532)] s2 w (Ai.post w0 L r1):=by
   refine lp (fun _ _ _ _ _ _ w H _=>by rw [Ai.l57] at H; cases H) fun o1 o2 y2 g1 A1528 c1529 x1530 x1531 x1532 w H HS=>?_
   rw [Ai.l57] at H
   subst x2
   refine rN 2 Z (rG (pS 2 Z (lS Z Z U26 Z (GO.lss Z Z Z Z (nL ?_)))))
   rcases iS H with ⟨c1717,H⟩|⟨c1717,H⟩
   ·
    refine nB Z (tF c1717) (rN 5 Z ?_)
    refine G.name (fun k3 d3=>?_)
    have v2:∀ b2,b2≤o1→∀ (k1:List Bool) (x1892:Int) (w:World),Ai.l81 K b2 d1 t3 c1 g1 x1530 x1531 k1 x1892=some r1→St w0 w (Box b1 33 [sV A_a d1 c_a]::Own (Ac .i64) 2 (sb b9) ((w64 (6*t3)).toNat) uu g1::Own Fy 4 (sb b12) ((w64 (6*t3)).toNat) uu k1::Own (Ac .i64) 2 A1528 c1529 uu x1530::L)→G prog 63 189 [(1,pT b1),(3,I t3),(4,sV (sb b9) g1 ((w64 (6*t3)).toNat)),(5,sV (sb b12) k1 ((w64 (6*t3)).toNat)),(6,I c1),(7,sV A1528 x1530 c1529),(8,.bool x1531),(19,I x1892)] k3 w (Ai.post w0 L r1):=by
     refine lp (fun _ _ w H _=>by rw [Ai.l81] at H; cases H) fun c2 t2 n2 k1 x1892 w H HS=>?_
     rw [Ai.l81] at H
     subst d3
     refine rN 2 Z (rG (pS 2 Z (lS Z Z U26 Z (GO.lss Z Z Z Z (nL ?_)))))
     rcases iS H with ⟨c1897,H⟩|⟨c1897,H⟩
     ·
      refine nB Z (tF c1897) (rN 4 Z (gW (j2 c2 (Nat.le_trans (Nat.le_of_succ_le t2) (Nat.le_of_succ_le o2)) _ _ _ _ H (HS.pk 4 [0,1,2] Z)) Z))
     refine yB Z (tT c1897) (rN 3 Z ?_)
     obtain ⟨c1898,H⟩:=iN H
     obtain ⟨c1899,H⟩:=iN H
     refine rG (pS 3 Z (iX Z U26 sz2 (rk (ro 3 Z) HS) c1898 (GO.C8 (T:=(Ac .i64)) (n:=x1892.toNat) (o:=0) HS (ro 3 Z) Z Z (getD_some (d:=0) (ltN c1898)) Z Z na2 Z (mV Z (iX Z Kt sz4 (fun _=>⟨_,_,Z⟩) c1899 (GO.Hl (T:=Fy) (j:=2) (n:=(x1530.getD x1892.toNat 0).toNat) (o:=0) (vs:=[.bool x1531]) x1531 HS Z Ao Z Z Z Z (htN na4 Z) Z (getD_some (d:=false) (ltN c1899)) Z Z fun wd1900 HS=>nL (G.len (t:=5) (m:=(k1.set ((x1530.getD x1892.toNat 0).toNat) x1531).length) Z (by simp only [List.length_set]<;>rfl) (rN 3 Z (gW (n2 c2 (lR _) _ _ _ H HS) Z)))))))))
    exact gW (v2 o1 (lR _) _ _ _ H HS) Z
   refine yB Z (tT c1717) (rN 4 Z ?_)
   obtain ⟨c1718,H⟩:=iN H
   refine rG (pS 2 Z (iX Z U26 sz2 (rk (ro 3 Z) HS) c1718 (GO.C8 (T:=(Ac .i64)) (n:=x1532.toNat) (o:=0) HS (ro 3 Z) Z Z (getD_some (d:=0) (ltN c1718)) Z Z na2 Z (GO.quo Z Z Z (by decide) Z (aS Z (nL (sQ ?_)))))))
   obtain ⟨t1719,t1720,h1721,H⟩:=Cx H
   refine rG (pS 2 Z (iX Z U26 sz2 (rk (ro 3 Z) HS) c1718 (GO.C8 (T:=(Ac .i64)) (n:=x1532.toNat) (o:=0) HS (ro 3 Z) Z Z (getD_some (d:=0) (ltN c1718)) Z Z na2 Z (GO.rem Z Z Z (by decide) Z (fJ Yx Z (Ha.calls HS  h1721) (fun _ wd1722 ⟨h1723,HS⟩=>⟨_,h1723,(pS 5 Z (nL (rN 4 Z ?_)))⟩))))))
   refine G.name (fun q2 m2=>?_)
   have c3:∀ s1,s1≤o1→∀ (f1:List Int) (A1776:Option Addr) (c1777:Nat) (x1778:List Int) (x1779:Bool) (x1780:Int) (w:World),Ai.l74 K s1 d1 t3 a1 c1 x1530 x1532 t1719 t1720 f1 x1778 x1779 x1780=some r1→St w0 w (Box b1 33 [sV A_a d1 c_a]::Own (Ac .i64) 2 (sb b9) ((w64 (6*t3)).toNat) uu f1::Own Fy 4 (sb b12) ((w64 (6*t3)).toNat) uu a1::Own (Ac .i64) 2 A1776 c1777 uu x1778::L)→G prog 63 189 [(1,pT b1),(3,I t3),(4,sV (sb b9) f1 ((w64 (6*t3)).toNat)),(5,sV (sb b12) a1 ((w64 (6*t3)).toNat)),(6,I c1),(7,sV A1776 x1778 c1777),(8,.bool x1779),(9,I x1532),(10,I (w64 ((x1530.getD x1532.toNat 0).tdiv 6))),(11,I t1719),(12,I t1720),(13,I x1780)] q2 w (Ai.post w0 L r1):=by
    refine lp (fun _ _ _ _ _ _ w H _=>by rw [Ai.l74] at H; cases H) fun h1 a3 i1 f1 A1776 c1777 x1778 x1779 x1780 w H HS=>?_
    rw [Ai.l74] at H
    subst m2
    refine rN 3 Z ?_
    rcases iS H with ⟨c1834,H⟩|⟨c1834,H⟩
    ·
     refine nB Z (tF c1834) (rN 4 Z (gW (y2 h1 (Nat.le_of_succ_le a3) _ _ _ _ _ _ _ H HS) Z))
    refine yB Z (tT c1834) (rN 4 Z ?_)
    obtain ⟨c1835,H⟩:=iN H
    obtain ⟨c1836,H⟩:=iN H
    obtain ⟨e1837,h1838,H⟩:=Gp H
    refine rG (fL b1 0 F3 Z (lB 0 HS Z Jo Z (mV Z (iX Z U31 Lm (rk (rD 4 r_a) HS) c1835 (GO.C8 (T:=(Ty.slice 83 Ak)) (n:=(w64 ((x1530.getD x1532.toNat 0).tdiv 6)).toNat) (o:=0) HS (rD 4 r_a) Z Z (getD_some (d:=[]) (ltN c1835)) Z Z Lj Z (mV Z (GO.ix Z Z Z U81 Ls ((Bv.elem (rD 4 r_a) c1835.1 c1835.2) _ HS).2.2.1 c1836.1 c1836.2 Z (GO.Kk (T:=Ak) (n:=x1780.toNat) HS (Bv.elem (rD 4 r_a) c1835.1 c1835.2) Z Z (Gt (ltN c1836) h1838) Jf Z (GO.alloc HS Z Pb Z Z fun b1839 wd1840 HS=>sW 0 HS Z Jf Z fun wd1841 HS=>nL (rN 2 Z ?_))))))))))
    rcases iE H with ⟨c1844,H⟩|⟨c1844,H⟩
    ·
     refine rG (fL b1839 0 F6 Z (lB 0 HS Z na2 Z (pS 2 Z (kN 83 Z (tT c1844) (oF Z (oF Z (oF Z (pS 2 Z (oF Z (oF Z (oF Z (GO.Gq Z Z Z Z Z (nL (rN 4 Z ?_))))))))))))))
     exact gW (i1 h1 (lR _) _ _ _ _ _ _ _ H (HS.pk 5 [1,2,3,4] Z)) Z
    rcases iE H with ⟨c1845,H⟩|⟨c1845,H⟩
    ·
     refine rG (fL b1839 0 F6 Z (lB 0 HS Z na2 Z (pS 2 Z (kN 83 Z (tF c1844) (oN Z (mV Z (bK (oN Z (mV Z (bK (oN Z (GO.eql Z Z Z Z (bK (pS 2 Z ?_))))))))))))))
     refine kN 88 Z (tT c1845) (oF Z (oF Z (oF Z (GO.Gq Z Z Z Z Z (nL (rN 4 Z (gW (i1 h1 (lR _) _ _ _ _ _ _ _ H (HS.pk 5 [1,2,3,4] Z)) Z)))))))
    refine rG (fL b1839 0 F6 Z (lB 0 HS Z na2 Z (pS 2 Z (kN 83 Z (tF c1844) (oN Z (mV Z (bK (oN Z (mV Z (bK (oN Z (GO.eql Z Z Z Z (bK (pS 2 Z ?_))))))))))))))
    refine kN 88 Z (tF c1845) (oN Z (mV Z (bK (oN Z (mV Z (bK (oN Z (GO.eql Z Z Z Z (bK (GO.Iw Z Z Z Z Z (nL ?_)))))))))))
    rcases iE H with ⟨c1846,H⟩|⟨c1846,H⟩
    ·
     refine yB Z (tT c1846) (rN 3 Z (gW (i1 h1 (lR _) _ _ _ _ _ _ _ H (HS.pk 5 [1,2,3,4] Z)) Z))
    refine nB Z (tF c1846) (rN 2 Z ?_)
    obtain ⟨t1847,h1848,H⟩:=bI H
    obtain ⟨t1851,h1852,H⟩:=bI H
    refine G.Jk mixed (fun w=>St w0 w (Box b1839 83 [I e1837.Tet,I e1837.Perm]::L)) [1,5] [0,2,4,6,1,5,3,7,8,9] [] (by kernel_rfl) (by kernel_rfl) (HS.drew.pk 5 [0] Z) ?_
    replace HS:=HS.drew
    refine qL Z Z (fun _ _ g=>fL b1839 1 J7 Z g) Z (GX.ps 1 Z (qL Z Z (fun _ _ g=>fL b1839 1 J7 Z g) Z (GX.ps 1 Z (GX.ls Z Z Z (HS.pk 5 [0] Z) (fun _ HS _ g=>lB 0 HS Z na2 Z g) Z (GX.ls Z Z Z (HS.pk 5 [0] Z) (fun _ HS _ g=>lB 0 HS Z na2 Z g) Z (GX.l2 Z (fJ Mr Z (Ct.calls HS  h1848) (fun _ wd1849 ⟨h1850,HS⟩=>⟨_,h1850,(GX.fin (HS.pk 5 [0] Z) (GX.l2 Z (fJ Mr Z (Ct.calls HS  h1852) (fun _ wd1853 ⟨h1854,HS⟩=>⟨_,h1854,(GX.fin (HS.pk 5 [0] Z) (GX.ps 2 Z (GX.nil (sQ ?_))))⟩))))⟩))))))))
    obtain ⟨t1855,h1856,H⟩:=bI H
    refine G.Jk mixed (fun w=>St w0 w (Box b1839 83 [I e1837.Tet,I e1837.Perm]::L)) [1] [0,3,4,1,2,5,6,7] [] (by kernel_rfl) (by kernel_rfl) (HS.drew.pk 5 [0] Z) ?_
    replace HS:=HS.drew
    refine qL Z Z (fun _ _ g=>fL b1839 0 F6 Z g) Z (GX.ps 2 Z (GX.ls Z Z Z (HS.pk 5 [0] Z) (fun _ HS _ g=>lB 0 HS Z na2 Z g) Z (GX.ps 1 Z (GX.l2 Z (fJ lM Z (E8.calls HS  h1856) (fun _ wd1857 ⟨h1858,HS⟩=>⟨_,h1858,(GX.fin (HS.pk 5 [0] Z) (GX.ps 2 Z (GX.nil (sQ ?_))))⟩))))))
    obtain ⟨c1859,H⟩:=iN H
    obtain ⟨c1860,H⟩:=iN H
    refine rG (pS 3 Z (iX Z U26 sz2 (rk (ro 4 Z) HS) c1859 (GO.C8 (T:=(Ac .i64)) (n:=x1532.toNat) (o:=0) HS (ro 4 Z) Z Z (getD_some (d:=0) (ltN c1859)) Z Z na2 Z (iX Z U26 sz2 (fun _=>⟨_,_,Z⟩) c1860 (GO.C8 (T:=(Ac .i64)) (n:=(x1778.getD x1532.toNat 0).toNat) (o:=0) HS (ro 2 Z) Z Z (getD_some (d:=0) (ltN c1860)) Z Z na2 Z (aS Z (nL (rN 3 Z ?_))))))))
    refine G.Wd (fun l3 n3=>?_)
    have t1:∀ a2,a2≤h1→∀ (x1862:Int) (w:World),Ai.j79 K a2 d1 t3 a1 c1 x1530 x1532 t1719 t1720 f1 x1778 x1779 x1780 e1837 t1855 x1862=some r1→St w0 w (Box b1 33 [sV A_a d1 c_a]::Own (Ac .i64) 2 (sb b9) ((w64 (6*t3)).toNat) uu f1::Own Fy 4 (sb b12) ((w64 (6*t3)).toNat) uu a1::Own (Ac .i64) 2 A1776 c1777 uu x1778::L)→G prog 63 189 [(1,pT b1),(3,I t3),(4,sV (sb b9) f1 ((w64 (6*t3)).toNat)),(5,sV (sb b12) a1 ((w64 (6*t3)).toNat)),(6,I c1),(7,sV A1776 x1778 c1777),(8,.bool x1779),(9,I x1532),(10,I (w64 ((x1530.getD x1532.toNat 0).tdiv 6))),(11,I t1719),(12,I t1720),(13,I x1780),(17,I (w64 ((w64 (6*e1837.Tet))+t1855))),(18,I x1862),(84,I x1780),(85,I t1719),(86,.bool (decide (x1780=t1719))),(89,I x1780),(90,I t1720),(91,.bool (decide (x1780=t1720)))] l3 w (Ai.post w0 L r1):=by
     refine jp (fun _ w H _=>by rw [Ai.j79] at H; cases H) fun p1 u1 x1862 w H HS=>?_
     rw [Ai.j79] at H
     subst n3
     refine rN 2 Z ?_
     obtain ⟨c1863,H⟩:=iN H
     refine rG (pS 2 Z (iX Z U26 sz2 (fun _=>⟨_,_,Z⟩) c1863 (GO.C8 (T:=(Ac .i64)) (n:=(w64 ((w64 (6*e1837.Tet))+t1855)).toNat) (o:=0) HS (ro 1 Z) Z Z (getD_some (d:=0) (ltN c1863)) Z Z na2 Z (GO.eql Z Z Z Z (nL ?_)))))
     refine G.Wd (fun o3 g3=>?_)
     have x1:∀ f2,f2≤p1→∀ (n1:List Int) (A1873:Option Addr) (c1874:Nat) (x1875:List Int) (w:World),Ai.j80 K f2 d1 t3 a1 c1 x1530 x1532 t1719 t1720 x1779 x1780 e1837 t1855 x1862 n1 x1875=some r1→St w0 w (Box b1 33 [sV A_a d1 c_a]::Own (Ac .i64) 2 (sb b9) ((w64 (6*t3)).toNat) uu n1::Own Fy 4 (sb b12) ((w64 (6*t3)).toNat) uu a1::Own (Ac .i64) 2 A1873 c1874 uu x1875::L)→G prog 63 189 [(1,pT b1),(3,I t3),(4,sV (sb b9) n1 ((w64 (6*t3)).toNat)),(5,sV (sb b12) a1 ((w64 (6*t3)).toNat)),(6,I c1),(7,sV A1873 x1875 c1874),(8,.bool x1779),(9,I x1532),(10,I (w64 ((x1530.getD x1532.toNat 0).tdiv 6))),(11,I t1719),(12,I t1720),(13,I x1780),(17,I (w64 ((w64 (6*e1837.Tet))+t1855))),(18,I x1862),(84,I x1780),(85,I t1719),(86,.bool (decide (x1780=t1719))),(89,I x1780),(90,I t1720),(91,.bool (decide (x1780=t1720)))] o3 w (Ai.post w0 L r1):=by
      refine jp (fun _ _ _ _ w H _=>by rw [Ai.j80] at H; cases H) fun h2 i2 n1 A1873 c1874 x1875 w H HS=>?_
      rw [Ai.j80] at H
      subst g3
      rcases iE H with ⟨c1876,H⟩|⟨c1876,H⟩
      ·
       refine rG (pS 2 Z (kN 134 Z c1876 (oF Z (oF Z (oF Z (oF Z (oF Z (oF Z (pS 2 Z (nL (rN 3 Z (gW (i1 h2 (Nat.le_trans (Nat.le_of_succ_le i2) (Nat.le_of_succ_le u1)) _ _ _ _ _ _ _ H HS) Z))))))))))))
      obtain ⟨c1877,H⟩:=iN H
      refine rG (pS 2 Z (kN 134 Z (Cv c1876) (oN Z (mV Z (bK (oN Z (mV Z (bK (oN Z (iX Z U26 sz2 (fun _=>⟨_,_,Z⟩) c1877 (bK (oN Z (GO.C8 (T:=(Ac .i64)) (n:=(w64 ((w64 (6*e1837.Tet))+t1855)).toNat) (o:=0) HS (ro 1 Z) Z Z (getD_some (d:=0) (ltN c1877)) Z Z na2 Z (bK ?_))))))))))))))
      refine oN Z (mV Z (bK (oN Z (GO.neq Z Z Z Z (bK (pS 2 Z (nL (rN 3 Z (gW (i1 h2 (Nat.le_trans (Nat.le_of_succ_le i2) (Nat.le_of_succ_le u1)) _ _ _ _ _ _ _ H HS) Z)))))))))
     rcases iS H with ⟨c1878,H⟩|⟨c1878,H⟩
     ·
      refine nB Z (tF c1878) (G.skip (gW (x1 p1 (lR _) _ _ _ _ _ H HS) Z))
     refine yB Z (tT c1878) (sQ (rG (pS 3 Z (iX Z U26 sz2 (fun _=>⟨_,_,Z⟩) c1863 (GO.Hl (T:=(Ac .i64)) (j:=1) (n:=(w64 ((w64 (6*e1837.Tet))+t1855)).toNat) (o:=0) (vs:=[I x1862]) x1862 HS Z Ao Z Z Z Z (htN na2 Z) Z (getD_some (d:=0) (ltN c1863)) Z Z fun wd1879 HS=>nL (G.len (t:=4) (m:=(f1.set ((w64 ((w64 (6*e1837.Tet))+t1855)).toNat) x1862).length) Z (by simp only [List.length_set]<;>rfl) ?_))))))
     obtain ⟨c1885,H⟩:=iN H
     refine rG (pS 2 Z (GO.D8 (el:=2) ([I (w64 ((w64 (6*e1837.Tet))+t1855))]) HS Z Z (fun _=>by kernel_rfl) Z fun b1880 wd1881 HS=>GO.app1 (T:=(Ac .i64)) (j:=4) (jb:=0) (w64 ((w64 (6*e1837.Tet))+t1855)) HS Z Z Ao Z Z Z U26 Lf Z Z Z c1885 Z fun A1883 c1884 wd1882 HS=>aS Z (nL (gW (x1 p1 (lR _) _ _ _ _ _ H (HS.pk 5 [1,2,3,4] Z)) Z))))
    rcases iS H with ⟨c1886,H⟩|⟨c1886,H⟩
    ·
     refine nB Z (tF c1886) (G.skip (gW (t1 h1 (lR _) _ _ H (HS.pk 5 [1,2,3,4] Z)) Z))
    refine yB Z (tT c1886) (rG (mV Z (GO.neg Z Z Z (aS Z (nL (gW (t1 h1 (lR _) _ _ H (HS.pk 5 [1,2,3,4] Z)) Z))))))
   exact gW (c3 o1 (lR _) _ _ _ _ _ _ _ H HS) Z
  exact gW (z2 m1 (lR _) _ _ _ _ _ _ _ H (HS.pk 4 [1,2,3,0] Z)) Z
 exact gW (m3 K (lR _) _ _ _ _ H (HS.pk 3 [2,1,0] Z)) Z
theorem C9.calls {d1:List (List Am)} {y_a:Nat→(Ty.slice 83 Ak).Lay} {r1:Bool} (HS:St w0 w (L)) (r_a:Bv w0 L (Ty.slice 83 Ak) A_a c_a y_a d1) (H:C9.f K d1=some r1) :
   Calls prog 34 #[.agg [sV A_a d1 c_a].toArray] w (C9.post w0 L r1):=by
 unfold C9.f at H
 refine cG func34 Z ?_
 refine sQ (rG (bA HS Z fun b1 wd2 HS=>aS Z (nL (sQ ?_))))
 obtain ⟨t3,h4,H⟩:=bI H
 refine rG (lW 0 HS Z Iy (fJ xZ Z (Ai.calls HS (rD 1 r_a) h4) (fun _ wd8 ⟨A5,c6,y7,h9,HS⟩=>⟨_,h9,(aS Z (nL (rN 5 Z ?_)))⟩)))
 refine G.name (fun s1 n1=>?_)
 have q1:∀ g1,g1≤K→∀ (a1:Int) (w:World),C9.l1 K g1 t3 a1=some r1→St w0 w (Own (Ty.slice 2 (Ac .i64)) 26 A5 c6 y7 t3::L)→G prog 34 26 [(3,sV A5 t3 c6),(4,I a1)] s1 w (C9.post w0 L r1):=by
  refine lp (fun _ w H _=>by rw [C9.l1] at H; cases H) fun e1 u1 t1 a1 w H HS=>?_
  rw [C9.l1] at H
  subst n1
  refine rN 2 Z (rG (pS 2 Z (lS Z Z U65 Z (GO.lss Z Z Z Z (nL ?_)))))
  rcases iS H with ⟨c37,H⟩|⟨c37,H⟩
  ·
   refine nB Z (tF c37) (rN 3 Z ?_)
   obtain rfl:=sI H
   exact rT _ func34 Z Z ⟨Z,(HS.pk 1 [] Z)⟩
  refine yB Z (tT c37) (rN 7 Z ?_)
  refine G.name (fun o1 p1=>?_)
  have i1:∀ h1,h1≤e1→∀ (c1:Int) (w:World),C9.l4 K h1 t3 a1 c1=some r1→St w0 w (Own (Ty.slice 2 (Ac .i64)) 26 A5 c6 y7 t3::L)→G prog 34 26 [(3,sV A5 t3 c6),(4,I a1),(5,I c1)] o1 w (C9.post w0 L r1):=by
   refine lp (fun _ w H _=>by rw [C9.l4] at H; cases H) fun f1 k1 m1 c1 w H HS=>?_
   rw [C9.l4] at H
   subst p1
   refine rN 3 Z ?_
   rcases iS H with ⟨c46,H⟩|⟨c46,H⟩
   ·
    refine nB Z (tF c46) (rN 4 Z (gW (t1 f1 (Nat.le_of_succ_le k1) _ _ H HS) Z))
   refine yB Z (tT c46) (rN 4 Z ?_)
   obtain ⟨c47,H⟩:=iN H
   obtain ⟨c48,H⟩:=iN H
   refine rG (pS 2 Z (iX Z U65 Na (rk (ro 0 Z) HS) c47 (GO.C8 (T:=(Ty.slice 2 (Ac .i64))) (n:=a1.toNat) (o:=0) HS (ro 0 Z) Z Z (getD_some (d:=[]) (ltN c47)) Z Z Ip Z (mV Z (GO.ix Z Z Z U26 sz2 ((Bv.elem (ro 0 Z) c47.1 c47.2) _ HS).2.2.1 c48.1 c48.2 Z (GO.C8 (T:=(Ac .i64)) (n:=c1.toNat) (o:=0) HS (Bv.elem (ro 0 Z) c47.1 c47.2) Z Z (getD_some (d:=0) (ltN c48)) Z Z na2 Z (GO.eql Z Z Z Z (nL ?_))))))))
   rcases iE H with ⟨c49,H⟩|⟨c49,H⟩
   ·
    refine yB Z (tT c49) (rN 2 Z ?_)
    obtain rfl:=sI H
    exact rT _ func34 Z Z ⟨Z,(HS.pk 1 [] Z)⟩
   refine nB Z (tF c49) (rN 4 Z (gW (m1 f1 (lR _) _ _ H HS) Z))
  exact gW (i1 e1 (lR _) _ _ H HS) Z
 exact gW (q1 K (lR _) _ _ H (HS.pk 2 [0] Z)) Z
theorem Jt.calls {a1:List (List Am)} {y_a:Nat→(Ty.slice 83 Ak).Lay} {r1:Int} (HS:St w0 w (L)) (r_a:Bv w0 L (Ty.slice 83 Ak) A_a c_a y_a a1) (H:Jt.f K a1=some r1) :
   Calls prog 93 #[.agg [sV A_a a1 c_a].toArray] w (Jt.post w0 L r1):=by
 unfold Jt.f at H
 refine cG func93 Z ?_
 refine sQ (rG (bA HS Z fun b1 wd2 HS=>aS Z (nL (rN 2 Z ?_))))
 obtain ⟨t3,h4,H⟩:=bI H
 refine rG (lW 0 HS Z Iy (fJ rC Z (Af.calls HS (rD 1 r_a) h4) (fun _ wd5 ⟨h6,HS⟩=>⟨_,h6,(GO.not Z Z Z (nL ?_))⟩)))
 rcases iS H with ⟨c7,H⟩|⟨c7,H⟩
 ·
  refine yB Z (congrArg Bool.not (Cv c7)) (rN 2 Z ?_)
  obtain rfl:=sI H
  exact rT _ func93 Z Z ⟨Z,(HS.pk 1 [] Z)⟩
 refine nB Z (congrArg Bool.not c7) (rN 3 Z ?_)
 rcases iE H with ⟨c8,H⟩|⟨c8,H⟩
 ·
  refine rG (fL b1 0 F3 Z (lB 0 HS Z Jo Z (lS Z Z U31 Z (pS 2 Z (kN 10 Z (tT c8) (oF Z (oF Z (oF Z (pS 2 Z (oF Z (oF Z (GO.Gq Z Z Z Z Z (nL (rN 3 Z ?_))))))))))))))
  obtain rfl:=sI H
  exact rT _ func93 Z Z ⟨Z,(HS.pk 1 [] Z)⟩
 obtain ⟨t9,h10,H⟩:=bI H
 rcases iS H with ⟨c13,H⟩|⟨c13,H⟩
 ·
  refine rG (fL b1 0 F3 Z (lB 0 HS Z Jo Z (lS Z Z U31 Z (pS 2 Z (kN 10 Z (tF c8) (oN Z (lW 0 HS Z Iy (bK (oN Z (fJ iP Z (Et.calls HS (rD 1 r_a) h10) (fun _ wd11 ⟨h12,HS⟩=>⟨_,h12,(bK (oN Z (GO.not Z Z Z (bK ?_))))⟩)))))))))))
  refine pS 2 Z (kN 15 Z (congrArg Bool.not (Cv c13)) (oF Z (oF Z (GO.Gq Z Z Z Z Z (nL (rN 3 Z ?_))))))
  obtain rfl:=sI H
  exact rT _ func93 Z Z ⟨Z,(HS.pk 1 [] Z)⟩
 obtain ⟨t14,h15,H⟩:=bI H
 refine rG (fL b1 0 F3 Z (lB 0 HS Z Jo Z (lS Z Z U31 Z (pS 2 Z (kN 10 Z (tF c8) (oN Z (lW 0 HS Z Iy (bK (oN Z (fJ iP Z (Et.calls HS (rD 1 r_a) h10) (fun _ wd11 ⟨h12,HS⟩=>⟨_,h12,(bK (oN Z (GO.not Z Z Z (bK ?_))))⟩)))))))))))
 refine pS 2 Z (kN 15 Z (congrArg Bool.not c13) (oN Z (lW 0 HS Z Iy (bK (oN Z (fJ yD Z (C9.calls HS (rD 1 r_a) h15) (fun _ wd16 ⟨h17,HS⟩=>⟨_,h17,(bK (GO.Iw Z Z Z Z Z (nL ?_)))⟩)))))))
 rcases iE H with ⟨c18,H⟩|⟨c18,H⟩
 ·
  refine yB Z c18 (rN 2 Z ?_)
  obtain rfl:=sI H
  exact rT _ func93 Z Z ⟨Z,(HS.pk 1 [] Z)⟩
 refine nB Z (Cv c18) (rN 3 Z ?_)
 obtain rfl:=sI H
 exact rT _ func93 Z Z ⟨Z,(HS.pk 1 [] Z)⟩
theorem Dm.calls {d1:List (List Am)} {y_a:Nat→(Ty.slice 83 Ak).Lay} {r1:List Bool} (HS:St w0 w (L)) (r_a:Bv w0 L (Ty.slice 83 Ak) A_a c_a y_a d1) (H:Dm.f K d1=some r1) :
   Calls prog 175 #[.agg [sV A_a d1 c_a].toArray] w (Dm.post w0 L r1):=by
 unfold Dm.f at H
 refine cG func175 Z ?_
 refine sQ (rG (bA HS Z fun b1 wd2 HS=>aS Z (nL (sQ ?_))))
 obtain ⟨t3,h4,H⟩:=bI H
 obtain ⟨c7,H⟩:=iN H
 obtain ⟨c8,H⟩:=iN H
 refine rG (lW 0 HS Z Iy (fJ O7 Z (Dn.calls HS (rD 1 r_a) h4) (fun _ wd5 ⟨h6,HS⟩=>⟨_,h6,(GO.mul Z Z Z Z (GO.make (T:=Fy) false () HS Ao Z Z Z Kt Vq Z Z Z c7 c8 Z fun b9 wd10 HS=>aS Z (nL (sQ ?_))))⟩)))
 obtain ⟨t11,h12,H⟩:=bI H
 obtain ⟨c15,H⟩:=iN H
 obtain ⟨c16,H⟩:=iN H
 refine rG (lW 1 HS Z Iy (fJ O7 Z (Dn.calls HS (rD 2 r_a) h12) (fun _ wd13 ⟨h14,HS⟩=>⟨_,h14,(GO.make (T:=Fy) false () HS Ao Z Z Z Kt Vq Z Z Z c15 c16 Z fun b17 wd18 HS=>aS Z (nL (sQ ?_)))⟩)))
 obtain ⟨c19,H⟩:=iN H
 refine rG (mV Z (iX Z Kt sz4 (fun _=>⟨_,_,Z⟩) c19 (GO.Hl (T:=Fy) (j:=0) (n:=0) (o:=0) (vs:=[.bool true]) true HS Z Ao Z Z Z Z (htN na4 Z) Z (getD_some (d:=false) (ltN c19)) Z Z fun wd20 HS=>nL (G.len (t:=4) (m:=((List.replicate t11.toNat false).set 0 true).length) Z (by simp only [List.length_set]<;>rfl) (sQ (rG (GO.D8 (el:=2) ([I 0]) HS Z Z (fun _=>by kernel_rfl) Z fun b21 wd22 HS=>?_)))))))
 replace HS:=HS.Ib (T:=(Ac .i64)) (j:=0) Z Ao uu ([0]:List Int) Z (Ky Z)
 refine GO.Ke (t:=18) (m:=([0]:List Int).length) (c':=([0]:List Int).length) Z Z Z (aS Z (nL (rN 5 Z ?_)))
 refine G.name (fun v1 y1=>?_)
 have z1:∀ o1,o1≤K→∀ (k1 m1:List Bool) (A130:Option Addr) (c131:Nat) (h1:List Int) (a1:Int) (w:World),Dm.l1 K o1 d1 k1 m1 h1 a1=some r1→St w0 w (Box b1 33 [sV A_a d1 c_a]::Own Fy 4 (sb b9) ((w64 (4*t3)).toNat) uu k1::Own Fy 4 (sb b17) t11.toNat uu m1::Own (Ac .i64) 2 A130 c131 uu h1::L)→G prog 175 79 [(1,pT b1),(3,sV (sb b9) k1 ((w64 (4*t3)).toNat)),(4,sV (sb b17) m1 t11.toNat),(5,sV A130 h1 c131),(6,I a1)] v1 w (Dm.post w0 L r1):=by
  refine lp (fun _ _ _ _ _ _ w H _=>by rw [Dm.l1] at H; cases H) fun p1 b2 a2 k1 m1 A130 c131 h1 a1 w H HS=>?_
  rw [Dm.l1] at H
  subst y1
  refine rN 2 Z (rG (pS 2 Z (lS Z Z U26 Z (GO.lss Z Z Z Z (nL ?_)))))
  rcases iS H with ⟨c239,H⟩|⟨c239,H⟩
  ·
   refine nB Z (tF c239) (rN 3 Z ?_)
   obtain rfl:=sI H
   exact rT _ func175 Z Z ⟨_,_,Z,(HS.pk 4 [1] Z)⟩
  refine yB Z (tT c239) (rN 7 Z ?_)
  refine G.name (fun x1 u1=>?_)
  have s1:∀ q1,q1≤p1→∀ (f1 g1:List Bool) (A274:Option Addr) (c275:Nat) (c1:List Int) (e1:Int) (w:World),Dm.l4 K q1 d1 a1 f1 g1 c1 e1=some r1→St w0 w (Box b1 33 [sV A_a d1 c_a]::Own Fy 4 (sb b9) ((w64 (4*t3)).toNat) uu f1::Own Fy 4 (sb b17) t11.toNat uu g1::Own (Ac .i64) 2 A274 c275 uu c1::L)→G prog 175 79 [(1,pT b1),(3,sV (sb b9) f1 ((w64 (4*t3)).toNat)),(4,sV (sb b17) g1 t11.toNat),(5,sV A274 c1 c275),(6,I a1),(7,I e1)] x1 w (Dm.post w0 L r1):=by
   refine lp (fun _ _ _ _ _ _ w H _=>by rw [Dm.l4] at H; cases H) fun i1 t1 n1 f1 g1 A274 c275 c1 e1 w H HS=>?_
   rw [Dm.l4] at H
   subst u1
   refine rN 3 Z ?_
   rcases iS H with ⟨c311,H⟩|⟨c311,H⟩
   ·
    refine nB Z (tF c311) (rN 4 Z (gW (a2 i1 (Nat.le_of_succ_le t1) _ _ _ _ _ _ _ H HS) Z))
   refine yB Z (tT c311) (rN 4 Z ?_)
   obtain ⟨c312,H⟩:=iN H
   have h313:=(rk (ro 3 Z) HS)
   obtain ⟨c314,H⟩:=iN H
   obtain ⟨c315,H⟩:=iN H
   obtain ⟨e316,h317,H⟩:=Gp H
   refine G.Jk mixed (fun w=>St w0 w (Box b1 33 [sV A_a d1 c_a]::Own (Ac .i64) 2 A274 c275 uu c1::L)) [1,5,7,10] [0,2,3,4,8,1,5,6,7,9,10,11,12] [] (by kernel_rfl) (by kernel_rfl) (HS.drew.pk 4 [0,3] Z) ?_
   replace HS:=HS.drew
   refine qL Z Z (fun _ _ g=>fL b1 0 F3 Z g) Z (GX.ps 2 Z (qL Z Z (fun _ _ g=>iX Z U26 sz2 h313 c312 g) Z (GX.ps 1 Z (GX.ls Z Z Z (HS.pk 4 [0,3] Z) (fun _ HS _ g=>lB 0 HS Z Jo Z g) Z (GX.ls Z Z Z (HS.pk 4 [0,3] Z) (fun _ HS _ g=>GO.C8 (T:=(Ac .i64)) (n:=a1.toNat) (o:=0) HS (ro 1 Z) Z Z (getD_some (d:=0) (ltN c312)) Z Z na2 Z g) Z (qL Z Z (fun _ _ g=>iX Z U31 Lm (rk (rD 4 r_a) HS) c314 g) Z (GX.ls Z Z Z (HS.pk 4 [0,3] Z) (fun _ HS _ g=>GO.C8 (T:=(Ty.slice 83 Ak)) (n:=(c1.getD a1.toNat 0).toNat) (o:=0) HS (rD 2 r_a) Z Z (getD_some (d:=[]) (ltN c314)) Z Z Lj Z g) Z (qL Z Z (fun _ _ g=>GO.ix Z Z Z U81 Ls ((Bv.elem (rD 4 r_a) c314.1 c314.2) _ HS).2.2.1 c315.1 c315.2 Z g) Z (GX.ls Z Z Z (HS.pk 4 [0,3] Z) (fun _ HS _ g=>GO.Kk (T:=Ak) (n:=e1.toNat) HS (Bv.elem (rD 2 r_a) c314.1 c314.2) Z Z (Gt (ltN c315) h317) Jf Z g) Z (GX.l2 Z (GO.alloc HS Z Pb Z Z fun b318 wd319 HS=>GX.fin (HS.pk 5 [1,4] Z) (GX.l2 Z (sW 0 HS Z Jf Z fun wd320 HS=>?_)))))))))))))
   refine GX.fin (HS.pk 5 [1,4] Z) (GX.nil (rN 2 Z ?_))
   rcases iE H with ⟨c324,H⟩|⟨c324,H⟩
   ·
    refine rG (fL b318 0 F6 Z (lB 0 HS Z na2 Z (pS 2 Z (kN 43 Z (tT c324) (oF Z (oF Z (oF Z (oF Z (oF Z (GO.Gq Z Z Z Z Z (nL (rN 4 Z (gW (n1 i1 (lR _) _ _ _ _ _ _ _ H (HS.pk 5 [1,2,3,4] Z)) Z)))))))))))))
   obtain ⟨c325,H⟩:=iN H
   refine rG (fL b318 0 F6 Z (lB 0 HS Z na2 Z (pS 2 Z (kN 43 Z (tF c324) (oN Z (mV Z (bK (oN Z (fL b318 0 F6 Z (bK (oN Z (lB 0 HS Z na2 Z (bK (oN Z ?_))))))))))))))
   refine iX Z Kt sz4 (fun _=>⟨_,_,Z⟩) c325 (bK (oN Z (GO.C8 (T:=Fy) (n:=e316.Tet.toNat) (o:=0) HS (ro 3 Z) Z Z (getD_some (d:=false) (ltN c325)) Z Z na4 Z (bK (GO.Iw Z Z Z Z Z (nL ?_))))))
   rcases iE H with ⟨c326,H⟩|⟨c326,H⟩
   ·
    refine yB Z c326 (rN 3 Z (gW (n1 i1 (lR _) _ _ _ _ _ _ _ H (HS.pk 5 [1,2,3,4] Z)) Z))
   refine nB Z (Cv c326) (rN 2 Z (rG (mV Z (fL b318 0 F6 Z (lB 0 HS Z na2 Z (iX Z Kt sz4 (fun _=>⟨_,_,Z⟩) c325 (GO.Hl (T:=Fy) (j:=3) (n:=e316.Tet.toNat) (o:=0) (vs:=[.bool true]) true HS Z Ao Z Z Z Z (htN na4 Z) Z (getD_some (d:=false) (ltN c325)) Z Z fun wd327 HS=>nL (G.len (t:=4) (m:=(g1.set e316.Tet.toNat true).length) Z (by simp only [List.length_set]<;>rfl) (G.len (t:=44) (m:=(g1.set e316.Tet.toNat true).length) Z (by simp only [List.length_set]<;>rfl) (sQ ?_))))))))))
   obtain ⟨c333,H⟩:=iN H
   refine rG (mV Z (fL b318 0 F6 Z (lB 0 HS Z na2 Z (GO.D8 (el:=2) ([I e316.Tet]) HS Z Z (fun _=>by kernel_rfl) Z fun b328 wd329 HS=>GO.app1 (T:=(Ac .i64)) (j:=5) (jb:=0) e316.Tet HS Z Z Ao Z Z Z U26 Lf Z Z Z c333 Z fun A331 c332 wd330 HS=>aS Z (nL (sQ ?_))))))
   obtain ⟨c334,H⟩:=iN H
   obtain ⟨c335,H⟩:=iN H
   refine rG (pS 3 Z (iX Z U26 sz2 (rk (ro 5 Z) HS) c334 (GO.C8 (T:=(Ac .i64)) (n:=a1.toNat) (o:=0) HS (ro 5 Z) Z Z (getD_some (d:=0) (ltN c334)) Z Z na2 Z (pS 3 Z (iX Z Kt sz4 (fun _=>⟨_,_,Z⟩) c335 (GO.Hl (T:=Fy) (j:=3) (n:=(w64 ((w64 (4*((c1++[e316.Tet]).getD a1.toNat 0)))+e1)).toNat) (o:=0) (vs:=[.bool true]) true HS Z Ao Z Z Z Z (htN na4 Z) Z (getD_some (d:=false) (ltN c335)) Z Z fun wd336 HS=>nL (G.len (t:=3) (m:=(f1.set ((w64 ((w64 (4*((c1++[e316.Tet]).getD a1.toNat 0)))+e1)).toNat) true).length) Z (by simp only [List.length_set]<;>rfl) ?_)))))))
   obtain ⟨t337,h338,H⟩:=bI H
   obtain ⟨c341,H⟩:=iN H
   have h342:=(rk (ro 3 Z) HS)
   refine G.Jk mixed (fun w=>St w0 w (Box b318 83 [I e316.Tet,I e316.Perm]::L)) [2,5] [0,1,4,6,2,3,5,7,8,9,10] [] (by kernel_rfl) (by kernel_rfl) (HS.drew.pk 6 [1] Z) ?_
   replace HS:=HS.drew
   refine GX.ps 1 Z (qL Z Z (fun _ _ g=>fL b318 0 F6 Z g) Z (qL Z Z (fun _ _ g=>fL b318 1 J7 Z g) Z (GX.ps 1 Z (GX.ls Z Z Z (HS.pk 6 [1] Z) (fun _ HS _ g=>lB 0 HS Z na2 Z g) Z (GX.ps 1 Z (GX.ls Z Z Z (HS.pk 6 [1] Z) (fun _ HS _ g=>lB 0 HS Z na2 Z g) Z (GX.l2 Z (fJ Mr Z (Ct.calls HS  h338) (fun _ wd339 ⟨h340,HS⟩=>⟨_,h340,(GX.fin (HS.pk 6 [1] Z) (GX.ps 1 Z (qL Z Z (fun _ _ g=>iX Z Kt sz4 h342 c341 g) Z (GX.l2 Z (GO.Hl (T:=Fy) (j:=3) (n:=(w64 ((w64 (4*e316.Tet))+t337)).toNat) (o:=0) (vs:=[.bool true]) true HS Z Ao Z Z Z Z (htN na4 Z) Z (getD_some (d:=false) (ltN c341)) Z Z fun wd343 HS=>GX.fin (HS.pk 6 [1] Z) ?_)))))⟩)))))))))
   refine GX.nil (G.len (t:=3) (m:=((f1.set ((w64 ((w64 (4*((c1++[e316.Tet]).getD a1.toNat 0)))+e1)).toNat) true).set ((w64 ((w64 (4*e316.Tet))+t337)).toNat) true).length) Z (by simp only [List.length_set]<;>rfl) (rN 3 Z (gW (n1 i1 (lR _) _ _ _ _ _ _ _ H (HS.pk 6 [2,3,4,5] Z)) Z)))
  exact gW (s1 p1 (lR _) _ _ _ _ _ _ _ H HS) Z
 exact gW (z1 K (lR _) _ _ _ _ _ _ _ H (HS.pk 4 [3,2,1,0] Z)) Z
theorem Bq.calls {f1:List (List Am)} {y_a:Nat→(Ty.slice 83 Ak).Lay} {r1:List (List Int)} {r2:Int} (HS:St w0 w (L)) (r_a:Bv w0 L (Ty.slice 83 Ak) A_a c_a y_a f1) (H:Bq.f K f1=some (r1,r2)) :
   Calls prog 136 #[.agg [sV A_a f1 c_a].toArray] w (Bq.post w0 L r1 r2):=by
 unfold Bq.f at H
 refine cG func136 Z ?_
 refine sQ (rG (bA HS Z fun b1 wd2 HS=>pS 2 Z (nL (sQ ?_))))
 obtain ⟨t3,h4,H⟩:=bI H
 refine rG (lW 0 HS Z Iy (fJ tY Z (Dm.calls HS (rD 1 r_a) h4) (fun _ wd7 ⟨A5,c6,h8,HS⟩=>⟨_,h8,(aS Z (nL (sQ (rG (GO.D8 (el:=26) ([]) HS Z Z (fun _=>by kernel_rfl) Z fun b9 wd10 HS=>?_)))))⟩)))
 replace HS:=HS.Un (T:=(Ty.slice 2 (Ac .i64))) (j:=0) Z (fun _=>⟨none,0,uu⟩)
 refine GO.Ke (t:=13) (m:=([]:List (List Int)).length) (c':=0) Z Z Z (aS Z (nL (rN 7 Z ?_)))
 refine G.name (fun v1 e2=>?_)
 have f2:∀ p1,p1≤K→∀ (A301:Option Addr) (c302:Nat) (h1:List (List Int)) (y304:Nat→(Ty.slice 2 (Ac .i64)).Lay) (m1:Int) (w:World),Bq.l1 K p1 f1 t3 h1 m1=some (r1,r2)→St w0 w (Box b1 33 [sV A_a f1 c_a]::Own Fy 4 A5 c6 uu t3::Own (Ty.slice 2 (Ac .i64)) 26 A301 c302 y304 h1::L)→G prog 136 87 [(1,pT b1),(4,sV A5 t3 c6),(5,sV A301 h1 c302),(6,I 0),(7,I m1)] v1 w (Bq.post w0 L r1 r2):=by
  refine lp (fun _ _ _ _ _ w H _=>by rw [Bq.l1] at H; cases H) fun o1 i2 g2 A301 c302 h1 y304 m1 w H HS=>?_
  rw [Bq.l1] at H
  subst e2
  refine rN 2 Z ?_
  obtain ⟨t596,h597,H⟩:=bI H
  refine rG (mV Z (lW 0 HS Z Iy (fJ O7 Z (Dn.calls HS (rD 3 r_a) h597) (fun _ wd598 ⟨h599,HS⟩=>⟨_,h599,(GO.lss Z Z Z Z (nL ?_))⟩))))
  rcases iE H with ⟨c600,H⟩|⟨c600,H⟩
  ·
   refine yB Z (tT c600) (rN 3 Z ?_)
   obtain ⟨c608,H⟩:=iN H
   refine rG (mV Z (GO.D8 (el:=2) ([I 0,I 0,I 0,I 0]) HS Z Z (fun _=>by kernel_rfl) Z fun b601 wd602 HS=>?_))
   replace HS:=HS.Ib (T:=(Ac .i64)) (j:=0) Z Ao uu ([0,0,0,0]:List Int) Z (Ky Z)
   refine GO.Ke (t:=21) (m:=([0,0,0,0]:List Int).length) (c':=([0,0,0,0]:List Int).length) Z Z Z (GO.D8 (el:=26) ([sV (sb b601) ([0,0,0,0]:List Int) (([0,0,0,0]:List Int).length)]) HS Z Z (fun _=>by kernel_rfl) Z fun b603 wd604 HS=>?_)
   replace HS:=HS.pk 5 [4,0,1,2,3] Z
   refine GO.Z6 (S:=(Ac .i64)) (u:=2) HS Z Z Z U65 Qi Z Z c608 Z fun A606 c607 y609 wd605 HS=>aS Z (nL (rN 3 Z (gW (g2 o1 (lR _) _ _ _ _ _ _ H (HS.pk 4 [2,3,0] Z)) Z)))
  refine nB Z (tF c600) (rN 6 Z ?_)
  refine G.name (fun c2 a2=>?_)
  have x1:∀ t1,t1≤o1→∀ (k1:List (List Int)) (n1 a1:Int) (w:World),Bq.l10 K t1 f1 t3 k1 n1 a1=some (r1,r2)→St w0 w (Box b1 33 [sV A_a f1 c_a]::Own Fy 4 A5 c6 uu t3::Own (Ty.slice 2 (Ac .i64)) 26 A301 c302 y304 k1::L)→G prog 136 87 [(1,pT b1),(4,sV A5 t3 c6),(5,sV A301 k1 c302),(6,I n1),(8,I a1)] c2 w (Bq.post w0 L r1 r2):=by
   refine lp (fun _ _ _ w H _=>by rw [Bq.l10] at H; cases H) fun s1 h2 d2 k1 n1 a1 w H HS=>?_
   rw [Bq.l10] at H
   subst a2
   refine rN 2 Z ?_
   obtain ⟨t795,h796,H⟩:=bI H
   refine rG (mV Z (lW 0 HS Z Iy (fJ O7 Z (Dn.calls HS (rD 3 r_a) h796) (fun _ wd797 ⟨h798,HS⟩=>⟨_,h798,(GO.lss Z Z Z Z (nL ?_))⟩))))
   rcases iS H with ⟨c799,H⟩|⟨c799,H⟩
   ·
    refine nB Z (tF c799) (rN 3 Z ?_)
    obtain ⟨rfl,rfl⟩:=H8 H
    exact G.Jr _ _ func136 Z Z Z ⟨_,_,_,Z,(HS.pk 3 [2] Z)⟩
   refine yB Z (tT c799) (rN 7 Z ?_)
   refine G.name (fun z1 b2=>?_)
   have y1:∀ q1,q1≤s1→∀ (c1:List (List Int)) (d1 e1:Int) (w:World),Bq.l13 K q1 f1 t3 a1 c1 d1 e1=some (r1,r2)→St w0 w (Box b1 33 [sV A_a f1 c_a]::Own Fy 4 A5 c6 uu t3::Own (Ty.slice 2 (Ac .i64)) 26 A301 c302 y304 c1::L)→G prog 136 87 [(1,pT b1),(4,sV A5 t3 c6),(5,sV A301 c1 c302),(6,I d1),(8,I a1),(9,I e1)] z1 w (Bq.post w0 L r1 r2):=by
    refine lp (fun _ _ _ w H _=>by rw [Bq.l13] at H; cases H) fun g1 u1 i1 c1 d1 e1 w H HS=>?_
    rw [Bq.l13] at H
    subst b2
    refine rN 3 Z ?_
    rcases iS H with ⟨c858,H⟩|⟨c858,H⟩
    ·
     refine nB Z (tF c858) (rN 4 Z (gW (d2 g1 (Nat.le_of_succ_le u1) _ _ _ _ H HS) Z))
    refine yB Z (tT c858) (rN 4 Z ?_)
    obtain ⟨c859,H⟩:=iN H
    obtain ⟨c860,H⟩:=iN H
    obtain ⟨e861,h862,H⟩:=Gp H
    refine rG (fL b1 0 F3 Z (lB 0 HS Z Jo Z (mV Z (iX Z U31 Lm (rk (rD 3 r_a) HS) c859 (GO.C8 (T:=(Ty.slice 83 Ak)) (n:=a1.toNat) (o:=0) HS (rD 3 r_a) Z Z (getD_some (d:=[]) (ltN c859)) Z Z Lj Z (mV Z (GO.ix Z Z Z U81 Ls ((Bv.elem (rD 3 r_a) c859.1 c859.2) _ HS).2.2.1 c860.1 c860.2 Z (GO.Kk (T:=Ak) (n:=e1.toNat) HS (Bv.elem (rD 3 r_a) c859.1 c859.2) Z Z (Gt (ltN c860) h862) Jf Z (GO.alloc HS Z Pb Z Z fun b863 wd864 HS=>sW 0 HS Z Jf Z fun wd865 HS=>nL (rN 2 Z ?_))))))))))
    rcases iE H with ⟨c871,H⟩|⟨c871,H⟩
    ·
     refine rG (fL b863 0 F6 Z (lB 0 HS Z na2 Z (pS 2 Z (kN 45 Z (tT c871) (oF Z (oF Z (oF Z (oF Z (oF Z (oF Z (oF Z (pS 2 Z (oF Z (oF Z ?_))))))))))))))
     refine oF Z (oF Z (oF Z (oF Z (oF Z (oF Z (GO.Gq Z Z Z Z Z (nL (rN 4 Z (gW (i1 g1 (lR _) _ _ _ _ H (HS.pk 4 [1,2,3] Z)) Z)))))))))
    obtain ⟨c872,H⟩:=iN H
    rcases iE H with ⟨c873,H⟩|⟨c873,H⟩
    ·
     refine rG (fL b863 0 F6 Z (lB 0 HS Z na2 Z (pS 2 Z (kN 45 Z (tF c871) (oN Z (mV Z (bK (oN Z (mV Z (bK (oN Z (GO.mul Z Z Z Z (bK (oN Z ?_))))))))))))))
     refine mV Z (bK (oN Z (GO.add Z Z Z Z (bK (oN Z (iX Z Kt sz4 (rk (ro 2 Z) HS) c872 (bK (oN Z (GO.C8 (T:=Fy) (n:=(w64 ((w64 (4*a1))+e1)).toNat) (o:=0) HS (ro 2 Z) Z Z (getD_some (d:=false) (ltN c872)) Z Z na4 Z (bK (pS 2 Z (kN 54 Z c873 (oF Z (oF Z ?_))))))))))))))
     refine oF Z (oF Z (oF Z (oF Z (oF Z (oF Z (GO.Gq Z Z Z Z Z (nL (rN 4 Z (gW (i1 g1 (lR _) _ _ _ _ H (HS.pk 4 [1,2,3] Z)) Z)))))))))
    obtain ⟨c874,H⟩:=iN H
    obtain ⟨c875,H⟩:=iN H
    refine rG (fL b863 0 F6 Z (lB 0 HS Z na2 Z (pS 2 Z (kN 45 Z (tF c871) (oN Z (mV Z (bK (oN Z (mV Z (bK (oN Z (GO.mul Z Z Z Z (bK (oN Z ?_))))))))))))))
    refine mV Z (bK (oN Z (GO.add Z Z Z Z (bK (oN Z (iX Z Kt sz4 (rk (ro 2 Z) HS) c872 (bK (oN Z (GO.C8 (T:=Fy) (n:=(w64 ((w64 (4*a1))+e1)).toNat) (o:=0) HS (ro 2 Z) Z Z (getD_some (d:=false) (ltN c872)) Z Z na4 Z (bK (pS 2 Z (kN 54 Z (Cv c873) (oN Z (mV Z ?_))))))))))))))
    refine bK (oN Z (mV Z (bK (oN Z (iX Z U65 Na (rk (ro 3 Z) HS) c874 (bK (oN Z (GO.C8 (T:=(Ty.slice 2 (Ac .i64))) (n:=a1.toNat) (o:=0) HS (ro 3 Z) Z Z (getD_some (d:=[]) (ltN c874)) Z Z Ip Z (bK (oN Z (mV Z (bK (oN Z (GO.ix Z Z Z U26 sz2 ((Bv.elem (ro 3 Z) c874.1 c874.2) _ HS).2.2.1 c875.1 c875.2 Z ?_))))))))))))))
    refine bK (oN Z (GO.C8 (T:=(Ac .i64)) (n:=e1.toNat) (o:=0) HS (Bv.elem (ro 3 Z) c874.1 c874.2) Z Z (getD_some (d:=0) (ltN c875)) Z Z na2 Z (bK (oN Z (GO.neq Z Z Z Z (bK (GO.Iw Z Z Z Z Z (nL ?_))))))))
    rcases iS H with ⟨c876,H⟩|⟨c876,H⟩
    ·
     refine yB Z (nF c876) (rN 3 Z (gW (i1 g1 (lR _) _ _ _ _ H (HS.pk 4 [1,2,3] Z)) Z))
    refine nB Z (nT c876) (rN 4 Z (rG (pS 2 Z (iX Z U65 Na (rk (ro 3 Z) HS) c874 (GO.C8 (T:=(Ty.slice 2 (Ac .i64))) (n:=a1.toNat) (o:=0) HS (ro 3 Z) Z Z (getD_some (d:=[]) (ltN c874)) Z Z Ip Z (pS 2 Z (GO.ix Z Z Z U26 sz2 ((Bv.elem (ro 3 Z) c874.1 c874.2) _ HS).2.2.1 c875.1 c875.2 Z ?_)))))))
    replace HS:=HS.pk 4 [3,0,1,2] Z
    refine GO.dW (S:=(Ac .i64)) (k:=a1.toNat) (n:=e1.toNat) (o:=0) (vs:=[I (w64 (d1+1))]) (w64 (d1+1)) HS Ao Z Z Z Z (htN na2 Z) Z (ltN c874) (getD_some (d:=0) (ltN c875)) Z Z fun wd877 HS=>nL (G.len (t:=5) (m:=(c1.set a1.toNat ((c1.getD a1.toNat []).set e1.toNat (w64 (d1+1)))).length) Z (by simp only [List.length_set]<;>rfl) (G.len (t:=55) (m:=(c1.set a1.toNat ((c1.getD a1.toNat []).set e1.toNat (w64 (d1+1)))).length) Z (by simp only [List.length_set]<;>rfl) ?_))
    obtain ⟨c878,H⟩:=iN H
    have h879:=(rk (ro 0 Z) HS)
    obtain ⟨t880,h881,H⟩:=bI H
    obtain ⟨c884,H⟩:=iN H
    refine G.Jk mixed (fun w=>St w0 w (Own (Ty.slice 2 (Ac .i64)) 26 A301 c302 y304 (c1.set a1.toNat ((c1.getD a1.toNat []).set e1.toNat (w64 (d1+1))))::Box b863 83 [I e861.Tet,I e861.Perm]::L)) [2,4,6] [0,1,5,7,9,10,2,3,4,6,8,11,12] [12] (by kernel_rfl) (by kernel_rfl) (HS.drew.pk 4 [0,1] Z) ?_
    replace HS:=HS.drew
    refine GX.ps 1 Z (qL Z Z (fun _ _ g=>fL b863 0 F6 Z g) Z (qL Z Z (fun _ _ g=>fL b863 1 J7 Z g) Z (GX.ps 2 Z (qL Z Z (fun _ _ g=>GO.neg Z Z Z g) Z (GX.ls Z Z Z (HS.pk 4 [0,1] Z) (fun _ HS _ g=>lB 1 HS Z na2 Z g) Z (qL Z Z (fun _ _ g=>iX Z U65 Na h879 c878 g) Z (GX.ls Z Z Z (HS.pk 4 [0,1] Z) (fun _ HS _ g=>GO.C8 (T:=(Ty.slice 2 (Ac .i64))) (n:=e861.Tet.toNat) (o:=0) HS (ro 0 Z) Z Z (getD_some (d:=[]) (ltN c878)) Z Z Ip Z g) Z (GX.ls Z Z Z (HS.pk 4 [0,1] Z) (fun _ HS _ g=>lB 1 HS Z na2 Z g) Z (GX.l2 Z (fJ Mr Z (Ct.calls HS  h881) (fun _ wd882 ⟨h883,HS⟩=>⟨_,h883,(GX.fin (HS.pk 4 [0,1] Z) (qL Z Z (fun _ _ g=>GO.ix Z Z Z U26 sz2 ((Bv.elem (ro 0 Z) c878.1 c878.2) _ HS).2.2.1 c884.1 c884.2 Z g) Z (GX.l2 Z (GO.dW (S:=(Ac .i64)) (k:=e861.Tet.toNat) (n:=t880.toNat) (o:=0) (vs:=[I (w64 (0 - (w64 (d1+1))))]) (w64 (0 - (w64 (d1+1)))) HS Ao Z Z Z Z (htN na2 Z) Z (ltN c878) (getD_some (d:=0) (ltN c884)) Z Z fun wd885 HS=>?_))))⟩)))))))))))
    refine GX.Y2 Z (GX.nil (G.len (t:=5) (m:=((c1.set a1.toNat ((c1.getD a1.toNat []).set e1.toNat (w64 (d1+1)))).set e861.Tet.toNat (((c1.set a1.toNat ((c1.getD a1.toNat []).set e1.toNat (w64 (d1+1)))).getD e861.Tet.toNat []).set t880.toNat (w64 (0 - (w64 (d1+1)))))).length) Z (by simp only [List.length_set]<;>rfl) (G.len (t:=55) (m:=((c1.set a1.toNat ((c1.getD a1.toNat []).set e1.toNat (w64 (d1+1)))).set e861.Tet.toNat (((c1.set a1.toNat ((c1.getD a1.toNat []).set e1.toNat (w64 (d1+1)))).getD e861.Tet.toNat []).set t880.toNat (w64 (0 - (w64 (d1+1)))))).length) Z (by simp only [List.length_set]<;>rfl) (rN 3 Z (gW (i1 g1 (lR _) _ _ _ _ H (HS.pk 4 [2,3,0] Z)) Z)))))
   exact gW (y1 s1 (lR _) _ _ _ _ H HS) Z
  exact gW (x1 o1 (lR _) _ _ _ _ H HS) Z
 exact gW (f2 K (lR _) _ _ _ _ _ _ H (HS.pk 3 [2,1,0] Z)) Z
theorem Er.calls {n_:Int} {r1:List Int} (HS:St w0 w (L)) (H:Er.f K n_=some r1) :
   Calls prog 108 #[I n_] w (Er.post w0 L r1):=by
 unfold Er.f at H
 refine cG func108 Z ?_
 refine rN 3 Z (rG (GO.D8 (el:=2) ([]) HS Z Z (fun _=>by kernel_rfl) Z fun b1 wd2 HS=>?_))
 replace HS:=HS.Ib (T:=(Ac .i64)) (j:=0) Z Ao uu ([]:List Int) Z (Ky Z)
 refine GO.Ke (t:=5) (m:=([]:List Int).length) (c':=([]:List Int).length) Z Z Z (aS Z (nL (rN 5 Z ?_)))
 refine G.name (fun h1 f1=>?_)
 have g1:∀ d1,d1≤K→∀ (A10:Option Addr) (c11:Nat) (c1:List Int) (a1:Int) (w:World),Er.l1 K d1 n_ c1 a1=some r1→St w0 w (Own (Ac .i64) 2 A10 c11 uu c1::L)→G prog 108 16 [(0,I n_),(3,sV A10 c1 c11),(4,I a1)] h1 w (Er.post w0 L r1):=by
  refine lp (fun _ _ _ _ w H _=>by rw [Er.l1] at H; cases H) fun e1 k1 i1 A10 c11 c1 a1 w H HS=>?_
  rw [Er.l1] at H
  subst f1
  refine rN 3 Z ?_
  rcases iS H with ⟨c21,H⟩|⟨c21,H⟩
  ·
   refine nB Z (tF c21) (rN 3 Z ?_)
   obtain rfl:=sI H
   exact rT _ func108 Z Z ⟨_,_,Z,HS⟩
  refine yB Z (tT c21) (rN 3 Z ?_)
  obtain ⟨c27,H⟩:=iN H
  refine rG (pS 2 Z (GO.D8 (el:=2) ([I a1]) HS Z Z (fun _=>by kernel_rfl) Z fun b22 wd23 HS=>GO.app1 (T:=(Ac .i64)) (j:=1) (jb:=0) a1 HS Z Z Ao Z Z Z U26 Lf Z Z Z c27 Z fun A25 c26 wd24 HS=>aS Z (nL (rN 3 Z (gW (i1 e1 (lR _) _ _ _ _ _ H (HS.pk 2 [1] Z)) Z)))))
 exact gW (g1 K (lR _) _ _ _ _ _ H HS) Z
theorem Ec.calls {marks:List Int} {i k_:Int} {r1:List Int} (HS:St w0 w (Own (Ac .i64) 2 A_a c_a uu marks::L)) (H:Ec.f K marks i k_=some r1) :
   Calls prog 109 #[sV A_a marks c_a,I i,I k_] w (Ec.post w0 L A_a c_a r1):=by
 unfold Ec.f at H
 refine cG func109 Z ?_
 refine sQ ?_
 obtain ⟨c1,H⟩:=iN H
 have h2:=(rk (ro 0 Z) HS)
 obtain ⟨c3,H⟩:=iN H
 have h4:=(rk (ro 0 Z) HS)
 refine G.lex mixed [0,1,2,4,5,6,3,7,8,9] (by kernel_rfl) ?_
 replace HS:=HS.drew
 refine GX.ps 2 Z (qL Z Z (fun _ _ g=>iX Z U26 sz2 h2 c1 g) Z (GX.ps 2 Z (qL Z Z (fun _ _ g=>iX Z U26 sz2 h4 c3 g) Z (GX.l1 Z Z Z (fun _ g=>GO.C8 (T:=(Ac .i64)) (n:=i.toNat) (o:=0) HS (ro 0 Z) Z Z (getD_some (d:=0) (ltN c1)) Z Z na2 Z g) Z (GX.l1 Z Z Z (fun _ g=>GO.C8 (T:=(Ac .i64)) (n:=k_.toNat) (o:=0) HS (ro 0 Z) Z Z (getD_some (d:=0) (ltN c3)) Z Z na2 Z g) Z (GX.l1 Z Z Z (fun _ g=>GO.min2 Z Z Z Z g) Z (GX.ps 1 Z (GX.nil (sQ ?_)))))))))
 have h5:=(rk (ro 0 Z) HS)
 have h6:=(rk (ro 0 Z) HS)
 refine G.lex mixed [0,1,2,4,5,6,3,7,8,9] (by kernel_rfl) ?_
 replace HS:=HS.drew
 refine GX.ps 2 Z (qL Z Z (fun _ _ g=>iX Z U26 sz2 h5 c1 g) Z (GX.ps 2 Z (qL Z Z (fun _ _ g=>iX Z U26 sz2 h6 c3 g) Z (GX.l1 Z Z Z (fun _ g=>GO.C8 (T:=(Ac .i64)) (n:=i.toNat) (o:=0) HS (ro 0 Z) Z Z (getD_some (d:=0) (ltN c1)) Z Z na2 Z g) Z (GX.l1 Z Z Z (fun _ g=>GO.C8 (T:=(Ac .i64)) (n:=k_.toNat) (o:=0) HS (ro 0 Z) Z Z (getD_some (d:=0) (ltN c3)) Z Z na2 Z g) Z (GX.l1 Z Z Z (fun _ g=>GO.max2 Z Z Z Z g) Z (GX.ps 1 Z (GX.nil (rN 4 Z ?_)))))))))
 refine G.name (fun h1 f1=>?_)
 have g1:∀ d1,d1≤K→∀ (x11:List Int) (a1:Int) (w:World),Ec.l1 K d1 marks i k_ x11 a1=some r1→St w0 w (Own (Ac .i64) 2 A_a c_a uu x11::L)→G prog 109 43 [(0,sV A_a x11 c_a),(6,I (if marks.getD k_.toNat 0<marks.getD i.toNat 0 then marks.getD k_.toNat 0 else marks.getD i.toNat 0)),(7,I (if marks.getD k_.toNat 0 > marks.getD i.toNat 0 then marks.getD k_.toNat 0 else marks.getD i.toNat 0)),(8,I a1)] h1 w (Ec.post w0 L A_a c_a r1):=by
  refine lp (fun _ _ w H _=>by rw [Ec.l1] at H; cases H) fun b1 i1 e1 x11 a1 w H HS=>?_
  rw [Ec.l1] at H
  subst f1
  refine rN 2 Z (rG (pS 2 Z (lS Z Z U26 Z (GO.lss Z Z Z Z (nL ?_)))))
  rcases iS H with ⟨c17,H⟩|⟨c17,H⟩
  ·
   refine nB Z (tF c17) (G.exit Z ?_)
   obtain rfl:=sI H
   exact G.K6 func109 Z ⟨Z,HS⟩
  refine yB Z (tT c17) (rN 4 Z ?_)
  obtain ⟨c18,H⟩:=iN H
  refine rG (pS 2 Z (iX Z U26 sz2 (rk (ro 0 Z) HS) c18 (GO.C8 (T:=(Ac .i64)) (n:=a1.toNat) (o:=0) HS (ro 0 Z) Z Z (getD_some (d:=0) (ltN c18)) Z Z na2 Z (pS 2 Z (nL ?_)))))
  rcases iS H with ⟨c19,H⟩|⟨c19,H⟩
  ·
   refine nB Z (tF c19) (rN 4 Z (gW (e1 b1 (lR _) _ _ _ H HS) Z))
  refine yB Z (tT c19) (rG (pS 3 Z (iX Z U26 sz2 (rk (ro 0 Z) HS) c18 (GO.Hl (T:=(Ac .i64)) (j:=0) (n:=a1.toNat) (o:=0) (vs:=[I (if marks.getD k_.toNat 0<marks.getD i.toNat 0 then marks.getD k_.toNat 0 else marks.getD i.toNat 0)]) (if marks.getD k_.toNat 0<marks.getD i.toNat 0 then marks.getD k_.toNat 0 else marks.getD i.toNat 0) HS Z Ao Z Z Z Z (htN na2 Z) Z (getD_some (d:=0) (ltN c18)) Z Z fun wd20 HS=>nL (G.len (t:=0) (m:=(x11.set a1.toNat (if marks.getD k_.toNat 0<marks.getD i.toNat 0 then marks.getD k_.toNat 0 else marks.getD i.toNat 0)).length) Z (by simp only [List.length_set]<;>rfl) (rN 3 Z (gW (e1 b1 (lR _) _ _ _ H HS) Z)))))))
 exact gW (g1 K (lR _) _ _ _ H HS) Z
theorem Ch.calls {marks:List Int} {width:Int} {r1:List (List Int)} {r2:Int} (HS:St w0 w (L)) (r_a:Bv w0 L (Ac .i64) A_a c_a uu marks) (H:Ch.f K marks width=some (r1,r2)) :
   Calls prog 110 #[sV A_a marks c_a,I width] w (Ch.post w0 L r1 r2):=by
 unfold Ch.f at H
 refine cG func110 Z ?_
 refine rN 3 Z ?_
 obtain ⟨c1,H⟩:=iN H
 obtain ⟨c2,H⟩:=iN H
 refine rG (mV Z (lS Z Z U26 Z (GO.make (T:=(Ac .i64)) 0 () HS Ao Z Z Z U26 Lf Z Z Z c1 c2 Z fun b3 wd4 HS=>aS Z (nL (rN 3 Z (rG (GO.D8 (el:=26) ([]) HS Z Z (fun _=>by kernel_rfl) Z fun b5 wd6 HS=>?_)))))))
 replace HS:=HS.Un (T:=(Ty.slice 2 (Ac .i64))) (j:=0) Z (fun _=>⟨none,0,uu⟩)
 refine GO.Ke (t:=16) (m:=([]:List (List Int)).length) (c':=0) Z Z Z (aS Z (nL (rN 5 Z ?_)))
 refine G.name (fun s1 e2=>?_)
 have f2:∀ m1,m1≤K→∀ (a1:List Int) (b1 f1:Int) (w:World),Ch.l1 K m1 marks width a1 b1 f1=some (r1,r2)→St w0 w (Own (Ac .i64) 2 (sb b3) ((marks.length:Int).toNat) uu a1::Own (Ty.slice 2 (Ac .i64)) 26 (sb b5) 0 (fun _=>⟨none,0,uu⟩) ([]:List (List Int))::L)→G prog 110 67 [(0,sV A_a marks c_a),(1,I width),(6,sV (sb b3) a1 ((marks.length:Int).toNat)),(7,I b1),(8,sV (sb b5) ([]:List (List Int)) 0),(9,I f1)] s1 w (Ch.post w0 L r1 r2):=by
  refine lp (fun _ _ _ w H _=>by rw [Ch.l1] at H; cases H) fun i1 h2 q1 a1 b1 f1 w H HS=>?_
  rw [Ch.l1] at H
  subst e2
  refine rN 2 Z (rG (pS 2 Z (lS Z Z U26 Z (GO.lss Z Z Z Z (nL ?_)))))
  rcases iE H with ⟨c190,H⟩|⟨c190,H⟩
  ·
   refine yB Z (tT c190) (rN 4 Z ?_)
   obtain ⟨c191,H⟩:=iN H
   refine rG (pS 2 Z (iX Z U26 sz2 (rk (rD 2 r_a) HS) c191 (GO.C8 (T:=(Ac .i64)) (n:=f1.toNat) (o:=0) HS (rD 2 r_a) Z Z (getD_some (d:=0) (ltN c191)) Z Z na2 Z (pS 2 Z (nL ?_)))))
   rcases iS H with ⟨c192,H⟩|⟨c192,H⟩
   ·
    refine nB Z (tF c192) (rN 4 Z (gW (q1 i1 (lR _) _ _ _ _ H HS) Z))
   refine yB Z (tT c192) (sQ ?_)
   obtain ⟨c193,H⟩:=iN H
   refine rG (pS 3 Z (iX Z U26 sz2 (fun _=>⟨_,_,Z⟩) c193 (GO.Hl (T:=(Ac .i64)) (j:=0) (n:=f1.toNat) (o:=0) (vs:=[I b1]) b1 HS Z Ao Z Z Z Z (htN na2 Z) Z (getD_some (d:=0) (ltN c193)) Z Z fun wd194 HS=>nL (G.len (t:=6) (m:=(a1.set f1.toNat b1).length) Z (by simp only [List.length_set]<;>rfl) (rN 4 Z (gW (q1 i1 (lR _) _ _ _ _ H HS) Z))))))
  refine nB Z (tF c190) (rN 6 Z ?_)
  refine G.name (fun t1 z1=>?_)
  have d2:∀ k1,k1≤i1→∀ (A250:Option Addr) (c251:Nat) (d1:List (List Int)) (y253:Nat→(Ty.slice 2 (Ac .i64)).Lay) (g1:Int) (w:World),Ch.l7 K k1 marks width a1 b1 d1 g1=some (r1,r2)→St w0 w (Own (Ac .i64) 2 (sb b3) ((marks.length:Int).toNat) uu a1::Own (Ty.slice 2 (Ac .i64)) 26 A250 c251 y253 d1::L)→G prog 110 67 [(0,sV A_a marks c_a),(1,I width),(6,sV (sb b3) a1 ((marks.length:Int).toNat)),(7,I b1),(8,sV A250 d1 c251),(10,I g1)] t1 w (Ch.post w0 L r1 r2):=by
   refine lp (fun _ _ _ _ _ w H _=>by rw [Ch.l7] at H; cases H) fun o1 g2 y1 A250 c251 d1 y253 g1 w H HS=>?_
   rw [Ch.l7] at H
   subst z1
   refine rN 2 Z (rG (pS 2 Z (lS Z Z U26 Z (GO.lss Z Z Z Z (nL ?_)))))
   rcases iS H with ⟨c310,H⟩|⟨c310,H⟩
   ·
    refine nB Z (tF c310) (rN 3 Z ?_)
    obtain ⟨rfl,rfl⟩:=H8 H
    exact G.Jr _ _ func110 Z Z Z ⟨_,_,_,Z,(HS.pk 2 [1] Z)⟩
   refine yB Z (tT c310) (rN 4 Z (rG (GO.D8 (el:=2) ([]) HS Z Z (fun _=>by kernel_rfl) Z fun b311 wd312 HS=>?_)))
   replace HS:=HS.Ib (T:=(Ac .i64)) (j:=0) Z Ao uu ([]:List Int) Z (Ky Z)
   refine GO.Ke (t:=42) (m:=([]:List Int).length) (c':=([]:List Int).length) Z Z Z (aS Z (nL (rN 5 Z ?_)))
   refine G.name (fun a2 x1=>?_)
   have u1:∀ p1,p1≤o1→∀ (A329:Option Addr) (c330:Nat) (h1:List Int) (e1:Int) (w:World),Ch.l10 K p1 marks width a1 b1 d1 g1 h1 e1=some (r1,r2)→St w0 w (Own (Ac .i64) 2 (sb b3) ((marks.length:Int).toNat) uu a1::Own (Ty.slice 2 (Ac .i64)) 26 A250 c251 y253 d1::Own (Ac .i64) 2 A329 c330 uu h1::L)→G prog 110 67 [(0,sV A_a marks c_a),(1,I width),(6,sV (sb b3) a1 ((marks.length:Int).toNat)),(7,I b1),(8,sV A250 d1 c251),(10,I g1),(11,sV A329 h1 c330),(12,I e1)] a2 w (Ch.post w0 L r1 r2):=by
    refine lp (fun _ _ _ _ w H _=>by rw [Ch.l10] at H; cases H) fun n1 v1 b2 A329 c330 h1 e1 w H HS=>?_
    rw [Ch.l10] at H
    subst x1
    refine rN 3 Z ?_
    rcases iS H with ⟨c349,H⟩|⟨c349,H⟩
    ·
     refine nB Z (tF c349) (G.exit Z ?_)
     obtain ⟨c363,H⟩:=iN H
     refine rG (pS 2 Z (GO.D8 (el:=26) ([sV A329 h1 c330]) HS Z Z (fun _=>by kernel_rfl) Z fun b358 wd359 HS=>?_))
     replace HS:=HS.pk 4 [2,0,3,1] Z
     refine GO.Z6 (S:=(Ac .i64)) (u:=2) HS Z Z Z U65 Qi Z Z c363 Z fun A361 c362 y364 wd360 HS=>aS Z (nL (rN 3 Z (gW (y1 n1 (Nat.le_of_succ_le v1) _ _ _ _ _ _ H (HS.pk 3 [2,0] Z)) Z)))
    refine yB Z (tT c349) (rN 3 Z ?_)
    obtain ⟨c350,H⟩:=iN H
    obtain ⟨c351,H⟩:=iN H
    obtain ⟨c357,H⟩:=iN H
    refine rG (pS 4 Z (iX Z U26 sz2 (rk (rD 3 r_a) HS) c350 (GO.C8 (T:=(Ac .i64)) (n:=e1.toNat) (o:=0) HS (rD 3 r_a) Z Z (getD_some (d:=0) (ltN c350)) Z Z na2 Z (iX Z U26 sz2 (fun _=>⟨_,_,Z⟩) c351 (GO.C8 (T:=(Ac .i64)) (n:=(marks.getD e1.toNat 0).toNat) (o:=0) HS (ro 0 Z) Z Z (getD_some (d:=0) (ltN c351)) Z Z na2 Z (GO.D8 (el:=2) ([I (a1.getD ((marks.getD e1.toNat 0).toNat) 0)]) HS Z Z (fun _=>by kernel_rfl) Z fun b352 wd353 HS=>GO.app1 (T:=(Ac .i64)) (j:=3) (jb:=0) (a1.getD ((marks.getD e1.toNat 0).toNat) 0) HS Z Z Ao Z Z Z U26 Lf Z Z Z c357 Z fun A355 c356 wd354 HS=>aS Z (nL (rN 3 Z (gW (b2 n1 (lR _) _ _ _ _ _ H (HS.pk 4 [1,2,3] Z)) Z)))))))))
   exact gW (u1 o1 (lR _) _ _ _ _ _ H (HS.pk 3 [1,2,0] Z)) Z
  exact gW (d2 i1 (lR _) _ _ _ _ _ _ H HS) Z
 exact gW (f2 K (lR _) _ _ _ _ H (HS.pk 2 [1,0] Z)) Z
theorem Bb.calls {a1:List (List Am)} {y_a:Nat→(Ty.slice 83 Ak).Lay} {r1 r2 r3:List (List Int)} {r4:List Int} (HS:St w0 w (L)) (r_a:Bv w0 L (Ty.slice 83 Ak) A_a c_a y_a a1) (H:Bb.f K a1=some (r1,r2,r3,r4)) :
   Calls prog 69 #[.agg [sV A_a a1 c_a].toArray] w (Bb.post w0 L r1 r2 r3 r4):=by
 unfold Bb.f at H
 refine cG func69 Z ?_
 refine sQ (rG (bA HS Z fun b1 wd2 HS=>GO.alloc HS Z gJ Z Z fun b3 wd4 HS=>aS Z (nL (sQ ?_))))
 obtain ⟨t5,h6,H⟩:=bI H
 refine rG (lW 1 HS Z Iy (fJ O7 Z (Dn.calls HS (rD 2 r_a) h6) (fun _ wd7 ⟨h8,HS⟩=>⟨_,h8,(aS Z (nL (sQ ?_)))⟩)))
 obtain ⟨t9,h10,H⟩:=bI H
 refine rG (pS 2 Z (fJ aA Z (Er.calls HS  h10) (fun _ wd13 ⟨A11,c12,h14,HS⟩=>⟨_,h14,(aS Z (nL (sQ ?_)))⟩)))
 obtain ⟨t15,h16,H⟩:=bI H
 refine rG (pS 2 Z (fJ aA Z (Er.calls HS  h16) (fun _ wd19 ⟨A17,c18,h20,HS⟩=>⟨_,h20,(aS Z (nL (sQ ?_)))⟩)))
 obtain ⟨t21,h22,H⟩:=bI H
 refine rG (pS 2 Z (fJ aA Z (Er.calls HS  h22) (fun _ wd25 ⟨A23,c24,h26,HS⟩=>⟨_,h26,(aS Z (nL (rN 5 Z ?_)))⟩)))
 refine G.name (fun a2 j2=>?_)
 have k2:∀ q1,q1≤K→∀ (k1 i1 x782:List Int) (x783:Int) (w:World),Bb.l1 K q1 a1 t5 k1 i1 x782 x783=some (r1,r2,r3,r4)→St w0 w (Box b1 33 [sV A_a a1 c_a]::Box b3 95 [.slice none 0 0,.slice none 0 0,.slice none 0 0]::Own (Ac .i64) 2 A11 c12 uu k1::Own (Ac .i64) 2 A17 c18 uu i1::Own (Ac .i64) 2 A23 c24 uu x782::L)→G prog 69 148 [(1,pT b1),(2,pT b3),(4,I t5),(5,sV A11 k1 c12),(6,sV A17 i1 c18),(7,sV A23 x782 c24),(8,I x783)] a2 w (Bb.post w0 L r1 r2 r3 r4):=by
  refine lp (fun _ _ _ _ w H _=>by rw [Bb.l1] at H; cases H) fun u1 o2 n2 k1 i1 x782 x783 w H HS=>?_
  rw [Bb.l1] at H
  subst j2
  refine rN 3 Z ?_
  rcases iS H with ⟨c1537,H⟩|⟨c1537,H⟩
  ·
   refine nB Z (tF c1537) (rN 2 Z (rG (GO.Je (.agg [.slice none 0 0,.slice none 0 0,.slice none 0 0].toArray) Z Z (fun _=>by kernel_rfl) Z (GO.alloc HS Z gJ Z Z fun b2251 wd2252 HS=>sW 0 HS Z Zn Z fun wd2253 HS=>nL (sQ (rG (mV Z (GO.D8 (el:=2) ([I 0,I 0,I 0,I t5]) HS Z Z (fun _=>by kernel_rfl) Z fun b2254 wd2255 HS=>?_))))))))
   replace HS:=HS.Ib (T:=(Ac .i64)) (j:=0) Z Ao uu ([0,0,0,t5]:List Int) Z (Ky Z)
   refine GO.Ke (t:=121) (m:=([0,0,0,t5]:List Int).length) (c':=([0,0,0,t5]:List Int).length) Z Z Z (aS Z (nL (sQ ?_)))
   obtain ⟨t2256,t2257,h2258,H⟩:=Cx H
   obtain ⟨c2265,H⟩:=iN H
   refine rG (pS 2 Z (fJ bC Z (Ch.calls HS (ro 4 Z) h2258) (fun _ wd2262 ⟨A2259,c2260,y2261,h2263,HS⟩=>⟨_,h2263,(pS 3 Z (fL b2251 0 lZ Z (GO.K7 (j:=2) (vs:=[sV A2259 t2256 c2260]) ([sV A2259 t2256 c2260,.slice none 0 0,.slice none 0 0]) HS Z Z Z Z Z (htN Ob Z) Z Z Z fun wd2264 HS=>iX Z U26 sz2 (fun _=>⟨_,_,Z⟩) c2265 (GO.Hl (T:=(Ac .i64)) (j:=1) (n:=0) (o:=0) (vs:=[I t2257]) t2257 HS Z Ao Z Z Z Z (htN na2 Z) Z (getD_some (d:=0) (ltN c2265)) Z Z fun wd2266 HS=>nL (G.len (t:=16) (m:=(([0,0,0,t5]:List Int).set 0 t2257).length) Z (by simp only [List.length_set]<;>rfl) (sQ ?_))))))⟩)))
   obtain ⟨t2267,t2268,h2269,H⟩:=Cx H
   obtain ⟨c2276,H⟩:=iN H
   refine rG (pS 2 Z (fJ bC Z (Ch.calls HS (ro 6 Z) h2269) (fun _ wd2273 ⟨A2270,c2271,y2272,h2274,HS⟩=>⟨_,h2274,(pS 3 Z (fL b2251 1 Rs Z (GO.K7 (j:=3) (vs:=[sV A2270 t2267 c2271]) ([sV A2259 t2256 c2260,sV A2270 t2267 c2271,.slice none 0 0]) HS Z Z Z Z Z (htN Ob Z) Z Z Z fun wd2275 HS=>iX Z U26 sz2 (fun _=>⟨_,_,Z⟩) c2276 (GO.Hl (T:=(Ac .i64)) (j:=2) (n:=1) (o:=0) (vs:=[I t2268]) t2268 HS Z Ao Z Z Z Z (htN na2 Z) Z (getD_some (d:=0) (ltN c2276)) Z Z fun wd2277 HS=>nL (G.len (t:=16) (m:=((([0,0,0,t5]:List Int).set 0 t2257).set 1 t2268).length) Z (by simp only [List.length_set]<;>rfl) (sQ ?_))))))⟩)))
   obtain ⟨t2278,t2279,h2280,H⟩:=Cx H
   obtain ⟨c2287,H⟩:=iN H
   refine rG (pS 2 Z (fJ bC Z (Ch.calls HS (ro 8 Z) h2280) (fun _ wd2284 ⟨A2281,c2282,y2283,h2285,HS⟩=>⟨_,h2285,(pS 3 Z (fL b2251 2 mX Z (GO.K7 (j:=4) (vs:=[sV A2281 t2278 c2282]) ([sV A2259 t2256 c2260,sV A2270 t2267 c2271,sV A2281 t2278 c2282]) HS Z Z Z Z Z (htN Ob Z) Z Z Z fun wd2286 HS=>iX Z U26 sz2 (fun _=>⟨_,_,Z⟩) c2287 (GO.Hl (T:=(Ac .i64)) (j:=3) (n:=2) (o:=0) (vs:=[I t2279]) t2279 HS Z Ao Z Z Z Z (htN na2 Z) Z (getD_some (d:=0) (ltN c2287)) Z Z fun wd2288 HS=>nL (G.len (t:=16) (m:=(((([0,0,0,t5]:List Int).set 0 t2257).set 1 t2268).set 2 t2279).length) Z (by simp only [List.length_set]<;>rfl) (sQ (rG (lW 4 HS Z Zn (mV Z (sW 6 HS Z Zn Z fun wd2289 HS=>?_))))))))))⟩)))
   refine aS Z (nL ?_)
   obtain ⟨rfl,rfl,rfl,rfl⟩:=Sl H
   exact G.Jr _ _ func69 Z (Kc.Lh (j:=6) (vs:=[sV A2259 t2256 c2260,sV A2270 t2267 c2271,sV A2281 t2278 c2282]) HS Z Z Z Zn) Z ⟨_,_,_,_,_,_,_,_,_,_,_,Z,(HS.pk 10 [2,1,0,3] Z)⟩
  refine yB Z (tT c1537) (rN 7 Z ?_)
  refine G.name (fun h2 c2=>?_)
  have z1:∀ v1,v1≤u1→∀ (f1 d1 x1829:List Int) (x1830:Int) (w:World),Bb.l24 K v1 a1 t5 x783 f1 d1 x1829 x1830=some (r1,r2,r3,r4)→St w0 w (Box b1 33 [sV A_a a1 c_a]::Box b3 95 [.slice none 0 0,.slice none 0 0,.slice none 0 0]::Own (Ac .i64) 2 A11 c12 uu f1::Own (Ac .i64) 2 A17 c18 uu d1::Own (Ac .i64) 2 A23 c24 uu x1829::L)→G prog 69 148 [(1,pT b1),(2,pT b3),(4,I t5),(5,sV A11 f1 c12),(6,sV A17 d1 c18),(7,sV A23 x1829 c24),(8,I x783),(9,I x1830)] h2 w (Bb.post w0 L r1 r2 r3 r4):=by
   refine lp (fun _ _ _ _ w H _=>by rw [Bb.l24] at H; cases H) fun h1 f2 s1 f1 d1 x1829 x1830 w H HS=>?_
   rw [Bb.l24] at H
   subst c2
   refine rN 3 Z ?_
   rcases iS H with ⟨c2041,H⟩|⟨c2041,H⟩
   ·
    refine nB Z (tF c2041) (rN 4 Z (gW (n2 h1 (Nat.le_of_succ_le f2) _ _ _ _ _ H HS) Z))
   refine yB Z (tT c2041) (rN 4 Z ?_)
   obtain ⟨c2042,H⟩:=iN H
   obtain ⟨c2043,H⟩:=iN H
   obtain ⟨e2044,h2045,H⟩:=Gp H
   refine rG (fL b1 0 F3 Z (lB 0 HS Z Jo Z (mV Z (iX Z U31 Lm (rk (rD 5 r_a) HS) c2042 (GO.C8 (T:=(Ty.slice 83 Ak)) (n:=x783.toNat) (o:=0) HS (rD 5 r_a) Z Z (getD_some (d:=[]) (ltN c2042)) Z Z Lj Z (mV Z (GO.ix Z Z Z U81 Ls ((Bv.elem (rD 5 r_a) c2042.1 c2042.2) _ HS).2.2.1 c2043.1 c2043.2 Z (GO.Kk (T:=Ak) (n:=x1830.toNat) HS (Bv.elem (rD 5 r_a) c2042.1 c2042.2) Z Z (Gt (ltN c2043) h2045) Jf Z (GO.alloc HS Z Pb Z Z fun b2046 wd2047 HS=>sW 0 HS Z Jf Z fun wd2048 HS=>nL (rN 2 Z (rG (fL b2046 0 F6 Z ?_))))))))))))
   refine lB 0 HS Z na2 Z (GO.lss Z Z Z Z (nL ?_))
   rcases iE H with ⟨c2049,H⟩|⟨c2049,H⟩
   ·
    refine yB Z (tT c2049) (rN 3 Z (gW (s1 h1 (lR _) _ _ _ _ _ H (HS.pk 6 [1,2,3,4,5] Z)) Z))
   refine nB Z (tF c2049) (rN 2 Z ?_)
   obtain ⟨t2050,h2051,H⟩:=bI H
   obtain ⟨t2054,h2055,H⟩:=bI H
   obtain ⟨c2056,H⟩:=iN H
   refine G.Jk mixed (fun w=>St w0 w (Box b2046 83 [I e2044.Tet,I e2044.Perm]::L)) [6,9] [0,1,2,3,4,5,8,10,6,7,9,11,12,13] [] (by kernel_rfl) (by kernel_rfl) (HS.drew.pk 6 [0] Z) ?_
   replace HS:=HS.drew
   refine GX.ps 5 Z (qL Z Z (fun _ _ g=>fL b2046 0 F6 Z g) Z (qL Z Z (fun _ _ g=>fL b2046 1 J7 Z g) Z (GX.ps 1 Z (GX.ls Z Z Z (HS.pk 6 [0] Z) (fun _ HS _ g=>lB 0 HS Z na2 Z g) Z (GX.ps 1 Z (GX.ls Z Z Z (HS.pk 6 [0] Z) (fun _ HS _ g=>lB 0 HS Z na2 Z g) Z (GX.l2 Z (fJ Mr Z (Ct.calls HS  h2051) (fun _ wd2052 ⟨h2053,HS⟩=>⟨_,h2053,(GX.fin (HS.pk 6 [0] Z) (GX.ps 1 Z (GX.l2 Z ?_)))⟩)))))))))
   replace HS:=HS.pk 6 [5,0,1,2,3,4] Z
   refine fJ aM Z (Ec.calls HS  h2055) (fun _ wd2057 ⟨h2058,HS⟩=>⟨_,h2058,(GX.fin (HS.pk 6 [1] Z) (GX.nil (G.len (t:=7) (m:=t2054.length) Z (by simp only [List.length_set,c2056]<;>rfl) (rN 5 Z ?_))))⟩)
   refine G.name (fun x1 m2=>?_)
   have d2:∀ o1,o1≤h1→∀ (c1:List Int) (x2070:Int) (w:World),Bb.l32 K o1 a1 t5 x783 d1 x1830 e2044 t2054 c1 x2070=some (r1,r2,r3,r4)→St w0 w (Box b1 33 [sV A_a a1 c_a]::Box b3 95 [.slice none 0 0,.slice none 0 0,.slice none 0 0]::Own (Ac .i64) 2 A11 c12 uu c1::Own (Ac .i64) 2 A17 c18 uu d1::Own (Ac .i64) 2 A23 c24 uu t2054::Box b2046 83 [I e2044.Tet,I e2044.Perm]::L)→G prog 69 148 [(1,pT b1),(2,pT b3),(4,I t5),(5,sV A11 c1 c12),(6,sV A17 d1 c18),(7,sV A23 t2054 c24),(8,I x783),(9,I x1830),(10,pT b2046),(11,I x2070)] x1 w (Bb.post w0 L r1 r2 r3 r4):=by
    refine lp (fun _ _ w H _=>by rw [Bb.l32] at H; cases H) fun g1 y1 p1 c1 x2070 w H HS=>?_
    rw [Bb.l32] at H
    subst m2
    refine rN 3 Z ?_
    rcases iE H with ⟨c2161,H⟩|⟨c2161,H⟩
    ·
     refine yB Z (tT c2161) (rN 5 Z ?_)
     rcases iE H with ⟨c2162,H⟩|⟨c2162,H⟩
     ·
      refine nB Z (nT c2162) (rN 4 Z (gW (p1 g1 (lR _) _ _ _ H HS) Z))
     refine yB Z (nF c2162) ?_
     obtain ⟨t2163,h2164,H⟩:=bI H
     obtain ⟨t2167,h2168,H⟩:=bI H
     obtain ⟨c2169,H⟩:=iN H
     refine G.Jk mixed (fun w=>St w0 w (Box b2046 83 [I e2044.Tet,I e2044.Perm]::L)) [6,9] [0,1,2,3,4,5,8,10,6,7,9,11,12,13] [] (by kernel_rfl) (by kernel_rfl) (HS.drew.pk 6 [5] Z) ?_
     replace HS:=HS.drew
     refine GX.ps 5 Z (qL Z Z (fun _ _ g=>fL b2046 0 F6 Z g) Z (qL Z Z (fun _ _ g=>fL b2046 1 J7 Z g) Z (GX.ps 1 Z (GX.ls Z Z Z (HS.pk 6 [5] Z) (fun _ HS _ g=>lB 0 HS Z na2 Z g) Z (GX.ps 1 Z (GX.ls Z Z Z (HS.pk 6 [5] Z) (fun _ HS _ g=>lB 0 HS Z na2 Z g) Z (GX.l2 Z (fJ Mr Z (Ct.calls HS  h2164) (fun _ wd2165 ⟨h2166,HS⟩=>⟨_,h2166,(GX.fin (HS.pk 6 [5] Z) (GX.ps 1 Z (GX.l2 Z ?_)))⟩)))))))))
     replace HS:=HS.pk 6 [2,0,1,3,4,5] Z
     refine fJ aM Z (Ec.calls HS  h2168) (fun _ wd2170 ⟨h2171,HS⟩=>⟨_,h2171,(GX.fin (HS.pk 6 [5] Z) (GX.nil (G.len (t:=5) (m:=t2167.length) Z (by simp only [List.length_set,c2169]<;>rfl) (rN 3 Z (gW (p1 g1 (lR _) _ _ _ H (HS.pk 6 [1,2,0,3,4,5] Z)) Z)))))⟩)
    refine nB Z (tF c2161) (rN 5 Z ?_)
    refine G.name (fun e2 b2=>?_)
    have g2:∀ t1,t1≤g1→∀ (m1:List Int) (x2198:Int) (w:World),Bb.l34 K t1 a1 t5 x783 x1830 e2044 t2054 c1 m1 x2198=some (r1,r2,r3,r4)→St w0 w (Box b1 33 [sV A_a a1 c_a]::Box b3 95 [.slice none 0 0,.slice none 0 0,.slice none 0 0]::Own (Ac .i64) 2 A11 c12 uu c1::Own (Ac .i64) 2 A17 c18 uu m1::Own (Ac .i64) 2 A23 c24 uu t2054::Box b2046 83 [I e2044.Tet,I e2044.Perm]::L)→G prog 69 148 [(1,pT b1),(2,pT b3),(4,I t5),(5,sV A11 c1 c12),(6,sV A17 m1 c18),(7,sV A23 t2054 c24),(8,I x783),(9,I x1830),(10,pT b2046),(12,I x2198)] e2 w (Bb.post w0 L r1 r2 r3 r4):=by
     refine lp (fun _ _ w H _=>by rw [Bb.l34] at H; cases H) fun e1 i2 n1 m1 x2198 w H HS=>?_
     rw [Bb.l34] at H
     subst b2
     refine rN 3 Z ?_
     rcases iS H with ⟨c2225,H⟩|⟨c2225,H⟩
     ·
      refine nB Z (tF c2225) (rN 4 Z (gW (s1 e1 (Nat.le_trans (Nat.le_of_succ_le i2) (Nat.le_of_succ_le y1)) _ _ _ _ _ H (HS.pk 6 [0,1,2,3,4] Z)) Z))
     refine yB Z (tT c2225) (rN 4 Z ?_)
     obtain ⟨t2226,t2227,h2228,H⟩:=Cx H
     refine rG (mV Z (fJ Yx Z (Ha.calls HS  h2228) (fun _ wd2229 ⟨h2230,HS⟩=>⟨_,h2230,(pS 5 Z (nL (sQ ?_)))⟩)))
     rcases iE H with ⟨c2232,H⟩|⟨c2232,H⟩
     ·
      refine rG (pS 4 Z (kN 95 Z (nT c2232) (oF Z (oF Z (oF Z (GO.Iw Z Z Z Z Z (nL (rN 5 Z (gW (n1 e1 (lR _) _ _ _ H HS) Z)))))))))
     refine rG (pS 4 Z (kN 95 Z (nF c2232) (oN Z (mV Z (bK (oN Z (mV Z (bK (oN Z (GO.neq Z Z Z Z (bK (GO.Gq Z Z Z Z Z (nL ?_)))))))))))))
     rcases iE H with ⟨c2233,H⟩|⟨c2233,H⟩
     ·
      refine nB Z (nT c2233) (rN 4 Z (gW (n1 e1 (lR _) _ _ _ H HS) Z))
     refine yB Z (nF c2233) ?_
     obtain ⟨t2234,h2235,H⟩:=bI H
     obtain ⟨t2238,h2239,H⟩:=bI H
     obtain ⟨t2242,h2243,H⟩:=bI H
     obtain ⟨t2246,h2247,H⟩:=bI H
     obtain ⟨c2248,H⟩:=iN H
     refine G.Jk mixed (fun w=>St w0 w (Box b2046 83 [I e2044.Tet,I e2044.Perm]::L)) [6,9,13] [0,1,2,3,4,5,8,10,12,14,6,7,9,13,11,15,16,17,18] [] (by kernel_rfl) (by kernel_rfl) (HS.drew.pk 6 [5] Z) ?_
     replace HS:=HS.drew
     refine GX.ps 5 Z (qL Z Z (fun _ _ g=>fL b2046 0 F6 Z g) Z (qL Z Z (fun _ _ g=>fL b2046 1 J7 Z g) Z (GX.ps 1 Z (qL Z Z (fun _ _ g=>fL b2046 1 J7 Z g) Z (GX.ps 1 Z (GX.ls Z Z Z (HS.pk 6 [5] Z) (fun _ HS _ g=>lB 0 HS Z na2 Z g) Z (GX.ps 1 Z (GX.ls Z Z Z (HS.pk 6 [5] Z) (fun _ HS _ g=>lB 0 HS Z na2 Z g) Z (GX.ls Z Z Z (HS.pk 6 [5] Z) (fun _ HS _ g=>lB 0 HS Z na2 Z g) Z (GX.l2 Z (fJ Mr Z (Ct.calls HS  h2235) (fun _ wd2236 ⟨h2237,HS⟩=>⟨_,h2237,(GX.fin (HS.pk 6 [5] Z) (GX.l2 Z (fJ Mr Z (Ct.calls HS  h2239) (fun _ wd2240 ⟨h2241,HS⟩=>⟨_,h2241,?_⟩))))⟩))))))))))))
     refine GX.fin (HS.pk 6 [5] Z) (GX.l2 Z (fJ lM Z (E8.calls HS  h2243) (fun _ wd2244 ⟨h2245,HS⟩=>⟨_,h2245,(GX.fin (HS.pk 6 [5] Z) (GX.ps 1 Z (GX.l2 Z ?_)))⟩)))
     replace HS:=HS.pk 6 [3,0,1,2,4,5] Z
     refine fJ aM Z (Ec.calls HS  h2247) (fun _ wd2249 ⟨h2250,HS⟩=>⟨_,h2250,(GX.fin (HS.pk 6 [5] Z) (GX.nil (G.len (t:=6) (m:=t2246.length) Z (by simp only [List.length_set,c2248]<;>rfl) (rN 3 Z (gW (n1 e1 (lR _) _ _ _ H (HS.pk 6 [1,2,3,0,4,5] Z)) Z)))))⟩)
    exact gW (g2 g1 (lR _) _ _ _ H HS) Z
   exact gW (d2 h1 (lR _) _ _ _ H (HS.pk 6 [2,3,4,5,0,1] Z)) Z
  exact gW (z1 u1 (lR _) _ _ _ _ _ H HS) Z
 exact gW (k2 K (lR _) _ _ _ _ _ H (HS.pk 5 [4,3,2,1,0] Z)) Z
theorem Cw.calls {d1:List (List Am)} {y_a:Nat→(Ty.slice 83 Ak).Lay} {r1:List (List Int)} (HS:St w0 w (L)) (r_a:Bv w0 L (Ty.slice 83 Ak) A_a c_a y_a d1) (H:Cw.f K d1=some r1) :
   Calls prog 176 #[.agg [sV A_a d1 c_a].toArray] w (Cw.post w0 L r1):=by
 unfold Cw.f at H
 refine cG func176 Z ?_
 refine sQ (rG (bA HS Z fun b1 wd2 HS=>aS Z (nL (sQ (rG (GO.D8 (el:=26) ([]) HS Z Z (fun _=>by kernel_rfl) Z fun b3 wd4 HS=>?_))))))
 replace HS:=HS.Un (T:=(Ty.slice 2 (Ac .i64))) (j:=0) Z (fun _=>⟨none,0,uu⟩)
 refine GO.Ke (t:=6) (m:=([]:List (List Int)).length) (c':=0) Z Z Z (aS Z (nL (rN 5 Z ?_)))
 refine G.name (fun q1 t1=>?_)
 have u1:∀ h1,h1≤K→∀ (A55:Option Addr) (c56:Nat) (f1:List (List Int)) (y58:Nat→(Ty.slice 2 (Ac .i64)).Lay) (a1:Int) (w:World),Cw.l1 K h1 d1 f1 a1=some r1→St w0 w (Box b1 33 [sV A_a d1 c_a]::Own (Ty.slice 2 (Ac .i64)) 26 A55 c56 y58 f1::L)→G prog 176 35 [(1,pT b1),(3,sV A55 f1 c56),(4,I a1)] q1 w (Cw.post w0 L r1):=by
  refine lp (fun _ _ _ _ _ w H _=>by rw [Cw.l1] at H; cases H) fun k1 x1 v1 A55 c56 f1 y58 a1 w H HS=>?_
  rw [Cw.l1] at H
  subst t1
  refine rN 2 Z (rG (mV Z (fL b1 0 F3 Z (lB 0 HS Z Jo Z (lS Z Z U31 Z (GO.lss Z Z Z Z (nL ?_)))))))
  rcases iS H with ⟨c110,H⟩|⟨c110,H⟩
  ·
   refine nB Z (tF c110) (rN 3 Z ?_)
   obtain rfl:=sI H
   exact rT _ func176 Z Z ⟨_,_,_,Z,(HS.pk 2 [1] Z)⟩
  refine yB Z (tT c110) (rN 7 Z ?_)
  refine G.name (fun s1 p1=>?_)
  have n1:∀ m1,m1≤k1→∀ (A125:Option Addr) (c126:Nat) (e1:List (List Int)) (y128:Nat→(Ty.slice 2 (Ac .i64)).Lay) (c1:Int) (w:World),Cw.l4 K m1 d1 a1 e1 c1=some r1→St w0 w (Box b1 33 [sV A_a d1 c_a]::Own (Ty.slice 2 (Ac .i64)) 26 A125 c126 y128 e1::L)→G prog 176 35 [(1,pT b1),(3,sV A125 e1 c126),(4,I a1),(5,I c1)] s1 w (Cw.post w0 L r1):=by
   refine lp (fun _ _ _ _ _ w H _=>by rw [Cw.l4] at H; cases H) fun g1 o1 i1 A125 c126 e1 y128 c1 w H HS=>?_
   rw [Cw.l4] at H
   subst p1
   refine rN 3 Z ?_
   rcases iS H with ⟨c145,H⟩|⟨c145,H⟩
   ·
    refine nB Z (tF c145) (rN 4 Z (gW (v1 g1 (Nat.le_of_succ_le o1) _ _ _ _ _ _ H HS) Z))
   refine yB Z (tT c145) (rN 4 Z ?_)
   obtain ⟨c146,H⟩:=iN H
   obtain ⟨c147,H⟩:=iN H
   obtain ⟨e148,h149,H⟩:=Gp H
   refine rG (fL b1 0 F3 Z (lB 0 HS Z Jo Z (mV Z (iX Z U31 Lm (rk (rD 2 r_a) HS) c146 (GO.C8 (T:=(Ty.slice 83 Ak)) (n:=a1.toNat) (o:=0) HS (rD 2 r_a) Z Z (getD_some (d:=[]) (ltN c146)) Z Z Lj Z (mV Z (GO.ix Z Z Z U81 Ls ((Bv.elem (rD 2 r_a) c146.1 c146.2) _ HS).2.2.1 c147.1 c147.2 Z (GO.fld (ea ((y_a a1.toNat).A) (c1.toNat*2)) Z Z F6 Z Z (GO.C8 (T:=Ak) (n:=c1.toNat) (o:=0) HS (Bv.elem (rD 2 r_a) c146.1 c146.2) Z Z (Gt (ltN c147) h149) Z Z na2 Z (GO.lss Z Z Z Z (nL ?_)))))))))))
   rcases iS H with ⟨c150,H⟩|⟨c150,H⟩
   ·
    refine nB Z (tF c150) (rN 4 Z (gW (i1 g1 (lR _) _ _ _ _ _ _ H HS) Z))
   refine yB Z (tT c150) ?_
   obtain ⟨c158,H⟩:=iN H
   refine rG (pS 3 Z (GO.D8 (el:=2) ([I a1,I c1]) HS Z Z (fun _=>by kernel_rfl) Z fun b151 wd152 HS=>?_))
   replace HS:=HS.Ib (T:=(Ac .i64)) (j:=0) Z Ao uu ([a1,c1]:List Int) Z (Ky Z)
   refine GO.Ke (t:=31) (m:=([a1,c1]:List Int).length) (c':=([a1,c1]:List Int).length) Z Z Z (GO.D8 (el:=26) ([sV (sb b151) ([a1,c1]:List Int) (([a1,c1]:List Int).length)]) HS Z Z (fun _=>by kernel_rfl) Z fun b153 wd154 HS=>?_)
   replace HS:=HS.pk 4 [3,0,1,2] Z
   refine GO.Z6 (S:=(Ac .i64)) (u:=2) HS Z Z Z U65 Qi Z Z c158 Z fun A156 c157 y159 wd155 HS=>aS Z (nL (rN 3 Z (gW (i1 g1 (lR _) _ _ _ _ _ _ H (HS.pk 3 [2,0] Z)) Z)))
  exact gW (n1 k1 (lR _) _ _ _ _ _ _ H HS) Z
 exact gW (u1 K (lR _) _ _ _ _ _ _ H (HS.pk 2 [1,0] Z)) Z
theorem Dt.calls {flags:List Bool} {r1:List Int} (HS:St w0 w (L)) (r_a:Bv w0 L Fy A_a c_a uu flags) (H:Dt.f K flags=some r1) :
   Calls prog 177 #[sV A_a flags c_a] w (Dt.post w0 L r1):=by
 unfold Dt.f at H
 refine cG func177 Z ?_
 refine rN 3 Z (rG (GO.D8 (el:=2) ([]) HS Z Z (fun _=>by kernel_rfl) Z fun b1 wd2 HS=>?_))
 replace HS:=HS.Ib (T:=(Ac .i64)) (j:=0) Z Ao uu ([]:List Int) Z (Ky Z)
 refine GO.Ke (t:=5) (m:=([]:List Int).length) (c':=([]:List Int).length) Z Z Z (aS Z (nL (rN 5 Z ?_)))
 refine G.name (fun i1 g1=>?_)
 have h1:∀ e1,e1≤K→∀ (A12:Option Addr) (c13:Nat) (c1:List Int) (a1:Int) (w:World),Dt.l1 K e1 flags c1 a1=some r1→St w0 w (Own (Ac .i64) 2 A12 c13 uu c1::L)→G prog 177 21 [(0,sV A_a flags c_a),(3,sV A12 c1 c13),(4,I a1)] i1 w (Dt.post w0 L r1):=by
  refine lp (fun _ _ _ _ w H _=>by rw [Dt.l1] at H; cases H) fun d1 k1 f1 A12 c13 c1 a1 w H HS=>?_
  rw [Dt.l1] at H
  subst g1
  refine rN 2 Z (rG (pS 2 Z (lS Z Z Kt Z (GO.lss Z Z Z Z (nL ?_)))))
  rcases iS H with ⟨c25,H⟩|⟨c25,H⟩
  ·
   refine nB Z (tF c25) (rN 3 Z ?_)
   obtain rfl:=sI H
   exact rT _ func177 Z Z ⟨_,_,Z,HS⟩
  refine yB Z (tT c25) (rN 4 Z ?_)
  obtain ⟨c26,H⟩:=iN H
  refine rG (pS 2 Z (iX Z Kt sz4 (rk (rD 1 r_a) HS) c26 (GO.C8 (T:=Fy) (n:=a1.toNat) (o:=0) HS (rD 1 r_a) Z Z (getD_some (d:=false) (ltN c26)) Z Z na4 Z (nL ?_))))
  rcases iS H with ⟨c27,H⟩|⟨c27,H⟩
  ·
   refine nB Z (Cv c27) (rN 4 Z (gW (f1 d1 (lR _) _ _ _ _ _ H HS) Z))
  refine yB Z c27 ?_
  obtain ⟨c33,H⟩:=iN H
  refine rG (pS 2 Z (GO.D8 (el:=2) ([I a1]) HS Z Z (fun _=>by kernel_rfl) Z fun b28 wd29 HS=>GO.app1 (T:=(Ac .i64)) (j:=1) (jb:=0) a1 HS Z Z Ao Z Z Z U26 Lf Z Z Z c33 Z fun A31 c32 wd30 HS=>aS Z (nL (rN 3 Z (gW (f1 d1 (lR _) _ _ _ _ _ H (HS.pk 2 [1] Z)) Z)))))
 exact gW (h1 K (lR _) _ _ _ _ _ H HS) Z
theorem Au.calls {o1:List (List Am)} {y_a:Nat→(Ty.slice 83 Ak).Lay} {r1 r2 r3:List Int} (HS:St w0 w (L)) (r_a:Bv w0 L (Ty.slice 83 Ak) A_a c_a y_a o1) (H:Au.f K o1=some (r1,r2,r3)) :
   Calls prog 137 #[.agg [sV A_a o1 c_a].toArray] w (Au.post w0 L r1 r2 r3):=by
 unfold Au.f at H
 refine cG func137 Z ?_
 refine sQ (rG (bA HS Z fun b1 wd2 HS=>pS 3 Z (nL (rN 2 Z ?_))))
 obtain ⟨t3,h4,H⟩:=bI H
 refine rG (lW 0 HS Z Iy (fJ rC Z (Af.calls HS (rD 1 r_a) h4) (fun _ wd5 ⟨h6,HS⟩=>⟨_,h6,(GO.not Z Z Z (nL ?_))⟩)))
 rcases iS H with ⟨c7,H⟩|⟨c7,H⟩
 ·
  refine yB Z (congrArg Bool.not (Cv c7)) (rN 2 Z ?_)
  replace HS:=HS.Jz (Ac .i64) 2 uu
  replace HS:=HS.Jz (Ac .i64) 2 uu
  replace HS:=HS.Jz (Ac .i64) 2 uu
  obtain ⟨rfl,rfl,rfl⟩:=Kw H
  exact G.uS _ _ _ func137 Z Z Z Z ⟨_,_,_,_,_,_,Z,(HS.pk 4 [2,1,0] Z)⟩
 refine nB Z (congrArg Bool.not c7) (rN 2 Z ?_)
 obtain ⟨t8,t9,t10,t11,h12,H⟩:=Ii H
 refine rG (lW 0 HS Z Iy (fJ dN Z (Bb.calls HS (rD 1 r_a) h12) (fun _ wd24 ⟨A13,c14,y15,A16,c17,y18,A19,c20,y21,A22,c23,h25,HS⟩=>⟨_,h25,(pS 3 Z (GO.alloc HS Z gJ Z Z fun b26 wd27 HS=>sW 0 HS Z Zn Z fun wd28 HS=>aS Z (nL (sQ ?_))))⟩)))
 obtain ⟨c29,H⟩:=iN H
 obtain ⟨c30,H⟩:=iN H
 obtain ⟨c31,H⟩:=iN H
 refine rG (mV Z (iX Z U26 sz2 (rk (ro 4 Z) HS) c29 (GO.C8 (T:=(Ac .i64)) (n:=0) (o:=0) HS (ro 4 Z) Z Z (getD_some (d:=0) (ltN c29)) Z Z na2 Z (GO.make (T:=Fy) false () HS Ao Z Z Z Kt Vq Z Z Z c30 c31 Z fun b32 wd33 HS=>aS Z (nL (sQ ?_))))))
 obtain ⟨c34,H⟩:=iN H
 obtain ⟨c35,H⟩:=iN H
 obtain ⟨c36,H⟩:=iN H
 refine rG (mV Z (iX Z U26 sz2 (rk (ro 5 Z) HS) c34 (GO.C8 (T:=(Ac .i64)) (n:=1) (o:=0) HS (ro 5 Z) Z Z (getD_some (d:=0) (ltN c34)) Z Z na2 Z (GO.make (T:=Fy) false () HS Ao Z Z Z Kt Vq Z Z Z c35 c36 Z fun b37 wd38 HS=>aS Z (nL (sQ ?_))))))
 obtain ⟨c39,H⟩:=iN H
 obtain ⟨c40,H⟩:=iN H
 obtain ⟨c41,H⟩:=iN H
 refine rG (mV Z (iX Z U26 sz2 (rk (ro 6 Z) HS) c39 (GO.C8 (T:=(Ac .i64)) (n:=2) (o:=0) HS (ro 6 Z) Z Z (getD_some (d:=0) (ltN c39)) Z Z na2 Z (GO.make (T:=Fy) false () HS Ao Z Z Z Kt Vq Z Z Z c40 c41 Z fun b42 wd43 HS=>aS Z (nL (sQ ?_))))))
 obtain ⟨t44,h45,H⟩:=bI H
 refine rG (lW 8 HS Z Iy (fJ wN Z (Cw.calls HS (rD 9 r_a) h45) (fun _ wd49 ⟨A46,c47,y48,h50,HS⟩=>⟨_,h50,(aS Z (nL (rN 5 Z ?_)))⟩)))
 refine G.name (fun x1 f2=>?_)
 have g2:∀ q1,q1≤K→∀ (i1 e1 c1:List Bool) (a1:Int) (w:World),Au.l1 K q1 t8 t9 t10 t44 i1 e1 c1 a1=some (r1,r2,r3)→St w0 w (Box b26 95 [sV A13 t8 c14,sV A16 t9 c17,sV A19 t10 c20]::Own (Ty.slice 2 (Ac .i64)) 26 A13 c14 y15 t8::Own (Ty.slice 2 (Ac .i64)) 26 A16 c17 y18 t9::Own (Ty.slice 2 (Ac .i64)) 26 A19 c20 y21 t10::Own Fy 4 (sb b32) ((t11.getD 0 0).toNat) uu i1::Own Fy 4 (sb b37) ((t11.getD 1 0).toNat) uu e1::Own Fy 4 (sb b42) ((t11.getD 2 0).toNat) uu c1::Own (Ty.slice 2 (Ac .i64)) 26 A46 c47 y48 t44::L)→G prog 137 118 [(5,pT b26),(7,sV (sb b32) i1 ((t11.getD 0 0).toNat)),(8,sV (sb b37) e1 ((t11.getD 1 0).toNat)),(9,sV (sb b42) c1 ((t11.getD 2 0).toNat)),(10,sV A46 t44 c47),(11,I a1)] x1 w (Au.post w0 L r1 r2 r3):=by
  refine lp (fun _ _ _ _ w H _=>by rw [Au.l1] at H; cases H) fun t1 i2 h2 i1 e1 c1 a1 w H HS=>?_
  rw [Au.l1] at H
  subst f2
  refine rN 2 Z (rG (pS 2 Z (lS Z Z U65 Z (GO.lss Z Z Z Z (nL ?_)))))
  rcases iS H with ⟨c305,H⟩|⟨c305,H⟩
  ·
   refine nB Z (tF c305) (rN 2 Z ?_)
   obtain ⟨t412,h413,H⟩:=bI H
   obtain ⟨t418,h419,H⟩:=bI H
   obtain ⟨t424,h425,H⟩:=bI H
   refine rG (mV Z (fJ aP Z (Dt.calls HS (ro 4 Z) h413) (fun _ wd416 ⟨A414,c415,h417,HS⟩=>⟨_,h417,(mV Z (fJ aP Z (Dt.calls HS (ro 6 Z) h419) (fun _ wd422 ⟨A420,c421,h423,HS⟩=>⟨_,h423,(mV Z (fJ aP Z (Dt.calls HS (ro 8 Z) h425) (fun _ wd428 ⟨A426,c427,h429,HS⟩=>⟨_,h429,(pS 3 Z (nL ?_))⟩)))⟩)))⟩)))
   obtain ⟨rfl,rfl,rfl⟩:=Kw H
   exact G.uS _ _ _ func137 Z Z Z Z ⟨_,_,_,_,_,_,Z,(HS.pk 11 [2,1,0] Z)⟩
  refine yB Z (tT c305) (rN 4 Z ?_)
  obtain ⟨c306,H⟩:=iN H
  obtain ⟨c307,H⟩:=iN H
  refine rG (pS 2 Z (iX Z U65 Na (rk (ro 7 Z) HS) c306 (GO.C8 (T:=(Ty.slice 2 (Ac .i64))) (n:=a1.toNat) (o:=0) HS (ro 7 Z) Z Z (getD_some (d:=[]) (ltN c306)) Z Z Ip Z (GO.ix Z Z Z U26 sz2 ((Bv.elem (ro 7 Z) c306.1 c306.2) _ HS).2.2.1 c307.1 c307.2 Z (GO.C8 (T:=(Ac .i64)) (n:=0) (o:=0) HS (Bv.elem (ro 7 Z) c306.1 c306.2) Z Z (getD_some (d:=0) (ltN c307)) Z Z na2 Z (aS Z (nL (sQ ?_))))))))
  obtain ⟨c308,H⟩:=iN H
  refine rG (pS 2 Z (iX Z U65 Na (rk (ro 7 Z) HS) c306 (GO.C8 (T:=(Ty.slice 2 (Ac .i64))) (n:=a1.toNat) (o:=0) HS (ro 7 Z) Z Z (getD_some (d:=[]) (ltN c306)) Z Z Ip Z (GO.ix Z Z Z U26 sz2 ((Bv.elem (ro 7 Z) c306.1 c306.2) _ HS).2.2.1 c308.1 c308.2 Z (GO.C8 (T:=(Ac .i64)) (n:=1) (o:=0) HS (Bv.elem (ro 7 Z) c306.1 c306.2) Z Z (getD_some (d:=0) (ltN c308)) Z Z na2 Z (aS Z (nL (sQ ?_))))))))
  obtain ⟨c309,H⟩:=iN H
  obtain ⟨c310,H⟩:=iN H
  obtain ⟨c311,H⟩:=iN H
  refine rG (mV Z (fL b26 2 mX Z (lB 0 HS Z Ob Z (mV Z (iX Z U65 Na (rk (ro 3 Z) HS) c309 (GO.C8 (T:=(Ty.slice 2 (Ac .i64))) (n:=((t44.getD a1.toNat []).getD 0 0).toNat) (o:=0) HS (ro 3 Z) Z Z (getD_some (d:=[]) (ltN c309)) Z Z Ip Z (mV Z (GO.ix Z Z Z U26 sz2 ((Bv.elem (ro 3 Z) c309.1 c309.2) _ HS).2.2.1 c310.1 c310.2 Z (GO.C8 (T:=(Ac .i64)) (n:=((t44.getD a1.toNat []).getD 1 0).toNat) (o:=0) HS (Bv.elem (ro 3 Z) c309.1 c309.2) Z Z (getD_some (d:=0) (ltN c310)) Z Z na2 Z (iX Z Kt sz4 (fun _=>⟨_,_,Z⟩) c311 (GO.Hl (T:=Fy) (j:=6) (n:=((t10.getD (((t44.getD a1.toNat []).getD 0 0).toNat) []).getD (((t44.getD a1.toNat []).getD 1 0).toNat) 0).toNat) (o:=0) (vs:=[.bool true]) true HS Z Ao Z Z Z Z (htN na4 Z) Z (getD_some (d:=false) (ltN c311)) Z Z fun wd312 HS=>nL (G.len (t:=9) (m:=(c1.set (((t10.getD (((t44.getD a1.toNat []).getD 0 0).toNat) []).getD (((t44.getD a1.toNat []).getD 1 0).toNat) 0).toNat) true).length) Z (by simp only [List.length_set]<;>rfl) (rN 5 Z ?_)))))))))))))
  refine G.name (fun d2 v1=>?_)
  have b2:∀ p1,p1≤t1→∀ (d1:List Bool) (g1:Int) (w:World),Au.l8 K p1 t8 t9 t10 t44 e1 c1 a1 d1 g1=some (r1,r2,r3)→St w0 w (Box b26 95 [sV A13 t8 c14,sV A16 t9 c17,sV A19 t10 c20]::Own (Ty.slice 2 (Ac .i64)) 26 A13 c14 y15 t8::Own (Ty.slice 2 (Ac .i64)) 26 A16 c17 y18 t9::Own (Ty.slice 2 (Ac .i64)) 26 A19 c20 y21 t10::Own Fy 4 (sb b32) ((t11.getD 0 0).toNat) uu d1::Own Fy 4 (sb b37) ((t11.getD 1 0).toNat) uu e1::Own Fy 4 (sb b42) ((t11.getD 2 0).toNat) uu (c1.set (((t10.getD (((t44.getD a1.toNat []).getD 0 0).toNat) []).getD (((t44.getD a1.toNat []).getD 1 0).toNat) 0).toNat) true)::Own (Ty.slice 2 (Ac .i64)) 26 A46 c47 y48 t44::L)→G prog 137 118 [(5,pT b26),(7,sV (sb b32) d1 ((t11.getD 0 0).toNat)),(8,sV (sb b37) e1 ((t11.getD 1 0).toNat)),(9,sV (sb b42) (c1.set (((t10.getD (((t44.getD a1.toNat []).getD 0 0).toNat) []).getD (((t44.getD a1.toNat []).getD 1 0).toNat) 0).toNat) true) ((t11.getD 2 0).toNat)),(10,sV A46 t44 c47),(11,I a1),(12,I ((t44.getD a1.toNat []).getD 0 0)),(13,I ((t44.getD a1.toNat []).getD 1 0)),(14,I g1)] d2 w (Au.post w0 L r1 r2 r3):=by
   refine lp (fun _ _ w H _=>by rw [Au.l8] at H; cases H) fun m1 z1 s1 d1 g1 w H HS=>?_
   rw [Au.l8] at H
   subst v1
   refine rN 3 Z ?_
   rcases iE H with ⟨c366,H⟩|⟨c366,H⟩
   ·
    refine yB Z (tT c366) (rN 5 Z ?_)
    rcases iE H with ⟨c367,H⟩|⟨c367,H⟩
    ·
     refine nB Z (nT c367) (rN 4 Z (gW (s1 m1 (lR _) _ _ _ H HS) Z))
    refine yB Z (nF c367) ?_
    obtain ⟨c368,H⟩:=iN H
    obtain ⟨c369,H⟩:=iN H
    obtain ⟨c370,H⟩:=iN H
    refine rG (mV Z (fL b26 0 lZ Z (lB 0 HS Z Ob Z (mV Z (iX Z U65 Na (rk (ro 1 Z) HS) c368 (GO.C8 (T:=(Ty.slice 2 (Ac .i64))) (n:=((t44.getD a1.toNat []).getD 0 0).toNat) (o:=0) HS (ro 1 Z) Z Z (getD_some (d:=[]) (ltN c368)) Z Z Ip Z (mV Z (GO.ix Z Z Z U26 sz2 ((Bv.elem (ro 1 Z) c368.1 c368.2) _ HS).2.2.1 c369.1 c369.2 Z (GO.C8 (T:=(Ac .i64)) (n:=g1.toNat) (o:=0) HS (Bv.elem (ro 1 Z) c368.1 c368.2) Z Z (getD_some (d:=0) (ltN c369)) Z Z na2 Z (iX Z Kt sz4 (fun _=>⟨_,_,Z⟩) c370 (GO.Hl (T:=Fy) (j:=4) (n:=((t8.getD (((t44.getD a1.toNat []).getD 0 0).toNat) []).getD g1.toNat 0).toNat) (o:=0) (vs:=[.bool true]) true HS Z Ao Z Z Z Z (htN na4 Z) Z (getD_some (d:=false) (ltN c370)) Z Z fun wd371 HS=>nL (G.len (t:=7) (m:=(d1.set (((t8.getD (((t44.getD a1.toNat []).getD 0 0).toNat) []).getD g1.toNat 0).toNat) true).length) Z (by simp only [List.length_set]<;>rfl) (rN 3 Z ?_)))))))))))))
    exact gW (s1 m1 (lR _) _ _ _ H HS) Z
   refine nB Z (tF c366) (rN 5 Z ?_)
   refine G.name (fun e2 c2=>?_)
   have y1:∀ u1,u1≤m1→∀ (h1:List Bool) (f1:Int) (w:World),Au.l10 K u1 t8 t9 t10 t44 c1 a1 d1 h1 f1=some (r1,r2,r3)→St w0 w (Box b26 95 [sV A13 t8 c14,sV A16 t9 c17,sV A19 t10 c20]::Own (Ty.slice 2 (Ac .i64)) 26 A13 c14 y15 t8::Own (Ty.slice 2 (Ac .i64)) 26 A16 c17 y18 t9::Own (Ty.slice 2 (Ac .i64)) 26 A19 c20 y21 t10::Own Fy 4 (sb b32) ((t11.getD 0 0).toNat) uu d1::Own Fy 4 (sb b37) ((t11.getD 1 0).toNat) uu h1::Own Fy 4 (sb b42) ((t11.getD 2 0).toNat) uu (c1.set (((t10.getD (((t44.getD a1.toNat []).getD 0 0).toNat) []).getD (((t44.getD a1.toNat []).getD 1 0).toNat) 0).toNat) true)::Own (Ty.slice 2 (Ac .i64)) 26 A46 c47 y48 t44::L)→G prog 137 118 [(5,pT b26),(7,sV (sb b32) d1 ((t11.getD 0 0).toNat)),(8,sV (sb b37) h1 ((t11.getD 1 0).toNat)),(9,sV (sb b42) (c1.set (((t10.getD (((t44.getD a1.toNat []).getD 0 0).toNat) []).getD (((t44.getD a1.toNat []).getD 1 0).toNat) 0).toNat) true) ((t11.getD 2 0).toNat)),(10,sV A46 t44 c47),(11,I a1),(12,I ((t44.getD a1.toNat []).getD 0 0)),(13,I ((t44.getD a1.toNat []).getD 1 0)),(15,I f1)] e2 w (Au.post w0 L r1 r2 r3):=by
    refine lp (fun _ _ w H _=>by rw [Au.l10] at H; cases H) fun k1 a2 n1 h1 f1 w H HS=>?_
    rw [Au.l10] at H
    subst c2
    refine rN 3 Z ?_
    rcases iS H with ⟨c399,H⟩|⟨c399,H⟩
    ·
     refine nB Z (tF c399) (rN 4 Z (gW (h2 k1 (Nat.le_trans (Nat.le_of_succ_le a2) (Nat.le_of_succ_le z1)) _ _ _ _ _ H HS) Z))
    refine yB Z (tT c399) (rN 4 Z ?_)
    obtain ⟨t400,t401,h402,H⟩:=Cx H
    refine rG (mV Z (fJ Yx Z (Ha.calls HS  h402) (fun _ wd403 ⟨h404,HS⟩=>⟨_,h404,(pS 5 Z (nL (sQ ?_)))⟩)))
    rcases iE H with ⟨c406,H⟩|⟨c406,H⟩
    ·
     refine rG (pS 4 Z (kN 97 Z (nT c406) (oF Z (oF Z (oF Z (GO.Iw Z Z Z Z Z (nL (rN 5 Z (gW (n1 k1 (lR _) _ _ _ H HS) Z)))))))))
    refine rG (pS 4 Z (kN 97 Z (nF c406) (oN Z (mV Z (bK (oN Z (mV Z (bK (oN Z (GO.neq Z Z Z Z (bK (GO.Gq Z Z Z Z Z (nL ?_)))))))))))))
    rcases iE H with ⟨c407,H⟩|⟨c407,H⟩
    ·
     refine nB Z (nT c407) (rN 4 Z (gW (n1 k1 (lR _) _ _ _ H HS) Z))
    refine yB Z (nF c407) ?_
    obtain ⟨c408,H⟩:=iN H
    obtain ⟨c409,H⟩:=iN H
    obtain ⟨c410,H⟩:=iN H
    refine rG (mV Z (fL b26 1 Rs Z (lB 0 HS Z Ob Z (mV Z (iX Z U65 Na (rk (ro 2 Z) HS) c408 (GO.C8 (T:=(Ty.slice 2 (Ac .i64))) (n:=((t44.getD a1.toNat []).getD 0 0).toNat) (o:=0) HS (ro 2 Z) Z Z (getD_some (d:=[]) (ltN c408)) Z Z Ip Z (mV Z (GO.ix Z Z Z U26 sz2 ((Bv.elem (ro 2 Z) c408.1 c408.2) _ HS).2.2.1 c409.1 c409.2 Z (GO.C8 (T:=(Ac .i64)) (n:=f1.toNat) (o:=0) HS (Bv.elem (ro 2 Z) c408.1 c408.2) Z Z (getD_some (d:=0) (ltN c409)) Z Z na2 Z (iX Z Kt sz4 (fun _=>⟨_,_,Z⟩) c410 (GO.Hl (T:=Fy) (j:=5) (n:=((t9.getD (((t44.getD a1.toNat []).getD 0 0).toNat) []).getD f1.toNat 0).toNat) (o:=0) (vs:=[.bool true]) true HS Z Ao Z Z Z Z (htN na4 Z) Z (getD_some (d:=false) (ltN c410)) Z Z fun wd411 HS=>nL (G.len (t:=8) (m:=(h1.set (((t9.getD (((t44.getD a1.toNat []).getD 0 0).toNat) []).getD f1.toNat 0).toNat) true).length) Z (by simp only [List.length_set]<;>rfl) (rN 3 Z ?_)))))))))))))
    exact gW (n1 k1 (lR _) _ _ _ H HS) Z
   exact gW (y1 m1 (lR _) _ _ _ H HS) Z
  exact gW (b2 t1 (lR _) _ _ _ H HS) Z
 exact gW (g2 K (lR _) _ _ _ _ _ H (HS.pk 10 [4,5,6,7,3,2,1,0] Z)) Z
theorem Gx.calls {list:List Int} {n_:Int} {r1:Bool} (HS:St w0 w (L)) (r_a:Bv w0 L (Ac .i64) A_a c_a uu list) (H:Gx.f K list n_=some r1) :
   Calls prog 71 #[sV A_a list c_a,I n_] w (Gx.post w0 L r1):=by
 unfold Gx.f at H
 refine cG func71 Z ?_
 refine rN 7 Z ?_
 refine G.name (fun e1 c1=>?_)
 have d1:∀ a1,a1≤K→∀ (i_4:Int) (w:World),Gx.l1 K a1 list n_ i_4=some r1→St w0 w (L)→G prog 71 18 [(0,sV A_a list c_a),(1,I n_),(5,I i_4)] e1 w (Gx.post w0 L r1):=by
  refine lp (fun _ w H _=>by rw [Gx.l1] at H; cases H) fun b1 g1 f1 i_4 w H HS=>?_
  rw [Gx.l1] at H
  subst c1
  refine rN 2 Z (rG (pS 2 Z (lS Z Z U26 Z (GO.lss Z Z Z Z (nL ?_)))))
  rcases iS H with ⟨c8,H⟩|⟨c8,H⟩
  ·
   refine nB Z (tF c8) (rN 3 Z ?_)
   obtain rfl:=sI H
   exact rT _ func71 Z Z ⟨Z,HS⟩
  refine yB Z (tT c8) (rN 4 Z ?_)
  obtain ⟨c9,H⟩:=iN H
  refine rG (pS 2 Z (iX Z U26 sz2 (rk r_a HS) c9 (GO.C8 (T:=(Ac .i64)) (n:=i_4.toNat) (o:=0) HS r_a Z Z (getD_some (d:=0) (ltN c9)) Z Z na2 Z (pS 2 Z (nL ?_)))))
  rcases iE H with ⟨c10,H⟩|⟨c10,H⟩
  ·
   refine yB Z (tT c10) (rN 2 Z ?_)
   obtain rfl:=sI H
   exact rT _ func71 Z Z ⟨Z,HS⟩
  refine nB Z (tF c10) (rN 4 Z (gW (f1 b1 (lR _) _ _ H HS) Z))
 exact gW (d1 K (lR _) _ _ H HS) Z
end Go.Proofs.YtgkgmhkgahalgaaGreat
