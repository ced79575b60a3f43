/-
  The walks through the functions: a call comes to what its list function says.
-/
import Derived.Test.YtbjfinndngafoaaGreatAlF
set_option linter.unusedVariables false
set_option linter.unusedSimpArgs false
namespace Go.Proofs.YtbjfinndngafoaaGreat
open Go.RowKit
open Tryz
variable {w0 w:World} {L:List Cy} {K:Nat} {A_a A_b A_c A_d A_e A_f A_g A_h A_i A_j A_k A_l A_m A_n A_o A_p A_q A_r A_s A_t A_u A_v A_w A_x A_y A_z:Option Addr} {c_a c_b c_c c_d c_e c_f c_g c_h c_i c_j c_k c_l c_m c_n c_o c_p c_q c_r c_s c_t c_u c_v c_w c_x c_y c_z:Nat}
set_option maxRecDepth 20000
set_option maxHeartbeats 40000000
theorem Jo.calls {a_:List Ab} {left:Int} {r1:Int} (HS:St w0 w (L)) (r_a:Ce w0 L Ad A_a c_a uu a_) (H:Jo.f a_ left=some r1) :
    Calls prog 61 #[sV A_a a_ c_a,I left] w (Jo.post w0 L r1):=by
  unfold Jo.f at H
  refine cG func61 Z ?_
  refine rN 3 Z (rG (pS 2 Z (lS Z Z U89 Z (pS 2 Z (nL (rN 3 Z ?_))))))
  rcases iE H with ⟨c1,H⟩ | ⟨c1,H⟩
  ·
   refine yB Z (tT c1) (rN 2 Z ?_)
   obtain rfl:=sI H
   exact rT _ func61 Z Z ⟨Z,HS⟩
  refine nB Z (tF c1) (rN 3 Z ?_)
  obtain rfl:=sI H
  exact rT _ func61 Z Z ⟨Z,HS⟩
theorem Ff.calls {a_:List (List Ab)} {left:Int} {y_a:Nat→(Ty.slice 142 Ad).Lay} {r1:Int} (HS:St w0 w (L)) (r_a:Ce w0 L (Ty.slice 142 Ad) A_a c_a y_a a_) (H:Ff.f K a_ left=some r1) :
    Calls prog 39 #[sV A_a a_ c_a,I left] w (Ff.post w0 L r1):=by
  unfold Ff.f at H
  refine cG func39 Z ?_
  refine rN 3 Z (rG (pS 2 Z (lS Z Z U22 Z (pS 2 Z (nL (rN 3 Z ?_))))))
  rcases iE H with ⟨c1,H⟩ | ⟨c1,H⟩
  ·
   refine yB Z (tT c1) (rN 2 Z ?_)
   obtain rfl:=sI H
   exact rT _ func39 Z Z ⟨Z,HS⟩
  refine nB Z (tF c1) (rN 6 Z ?_)
  refine G.name (fun h1 f1=>?_)
  have g1:∀ d1,d1≤K→∀ (b1 a1:Int) (w:World),Ff.l1 K d1 a_ b1 a1=some r1→St w0 w (L)→G prog 39 27 [(0,sV A_a a_ c_a),(1,I b1),(5,I a1)] h1 w (Ff.post w0 L r1):=by
   refine lp (fun _ _ w H _=>by rw [Ff.l1] at H; cases H) fun e1 k1 i1 b1 a1 w H HS=>?_
   rw [Ff.l1] at H
   subst f1
   refine rN 2 Z (rG (pS 2 Z (lS Z Z U22 Z (GO.lss Z Z Z Z (nL ?_)))))
   rcases iS H with ⟨c18,H⟩ | ⟨c18,H⟩
   ·
    refine nB Z (tF c18) (rN 3 Z ?_)
    obtain rfl:=sI H
    exact rT _ func39 Z Z ⟨Z,HS⟩
   refine yB Z (tT c18) (rN 4 Z ?_)
   obtain ⟨c19,H⟩:=iN H
   obtain ⟨t20,h21,H⟩:=bI H
   refine rG (pS 2 Z (iX Z U22 xB (rk r_a HS) c19 (GO.Cj (T:=(Ty.slice 142 Ad)) (n:=a1.toNat) (o:=0) HS r_a Z Z (getD_some (d:=[]) (ltN c19)) Z Z wK Z (mV Z (fJ uQ Z (Jo.calls HS (Ce.elem r_a c19.1 c19.2) h21) (fun _ wd22 ⟨h23,HS⟩=>⟨_,h23,(aS Z (nL (rN 2 Z ?_)))⟩))))))
   rcases iE H with ⟨c24,H⟩ | ⟨c24,H⟩
   ·
    refine yB Z (tT c24) (rN 2 Z ?_)
    obtain rfl:=sI H
    exact rT _ func39 Z Z ⟨Z,HS⟩
   refine nB Z (tF c24) (rN 4 Z (gW (i1 e1 (lR _) _ _ _ H HS) Z))
  exact gW (g1 K (lR _) _ _ _ H HS) Z
theorem Gr.calls {a1:List (List Ab)} {left:Int} {y_a:Nat→(Ty.slice 142 Ad).Lay} {r1:Int} (HS:St w0 w (L)) (r_a:Ce w0 L (Ty.slice 142 Ad) A_a c_a y_a a1) (H:Gr.f K a1 left=some r1) :
    Calls prog 10 #[.agg [sV A_a a1 c_a].toArray,I left] w (Gr.post w0 L r1):=by
  unfold Gr.f at H
  refine cG func10 Z ?_
  refine sQ (rG (bA HS Z fun b1 wd2 HS=>aS Z (nL (sQ ?_))))
  obtain ⟨t3,h4,H⟩:=bI H
  refine rG (fL b1 0 jE Z (lB 0 HS Z uU Z (mV Z (fJ vS Z (Ff.calls HS (rD 1 r_a) h4) (fun _ wd5 ⟨h6,HS⟩=>⟨_,h6,(aS Z (nL (rN 3 Z ?_)))⟩)))))
  rcases iE H with ⟨c7,H⟩ | ⟨c7,H⟩
  ·
   refine yB Z (tT c7) (rN 2 Z ?_)
   obtain rfl:=sI H
   exact rT _ func10 Z Z ⟨Z,(HS.pk 1 [] Z)⟩
  refine nB Z (tF c7) (rN 3 Z ?_)
  obtain rfl:=sI H
  exact rT _ func10 Z Z ⟨Z,(HS.pk 1 [] Z)⟩
theorem J2.calls {a1 c1:Int} {r1 r2:Int} (HS:St w0 w (L)) (H:J2.f a1 c1=some (r1,r2)) :
    Calls prog 107 #[.agg [I a1,I c1].toArray] w (J2.post w0 L r1 r2):=by
  unfold J2.f at H
  refine cG func107 Z ?_
  refine sQ (rG (bA HS Z fun b1 wd2 HS=>GO.alloc HS Z Jz Z Z fun b3 wd4 HS=>nL (sQ (rG (GO.alloc HS Z Jz Z Z fun b5 wd6 HS=>nL (sQ (rG (fL b1 0 mG Z (lB 2 HS Z na2 Z (fL b5 0 Dp Z (GO.Ie (j:=0) (vs:=[I a1]) ([I a1,I 0]) HS Z Z Z Z Z (htN na2 Z) Z Z Z fun wd7 HS=>?_)))))))))))
  refine nL (sQ (rG (fL b1 1 mQ Z (lB 2 HS Z na2 Z (fL b5 1 Gn Z (GO.Ie (j:=0) (vs:=[I c1]) ([I a1,I c1]) HS Z Z Z Z Z (htN na2 Z) Z Z Z fun wd8 HS=>nL (sQ (rG (lW 0 HS Z D9 (sW 1 HS Z D9 Z fun wd9 HS=>nL ?_))))))))))
  obtain ⟨rfl,rfl⟩:=H9 H
  exact rT _ func107 Z (Gz.Hu (j:=1) (vs:=[I a1,I c1]) HS Z Z Z D9) ⟨Z,(HS.pk 3 [] Z)⟩
theorem Gc.calls {a_:List Ab} {r1:List Ab} (HS:St w0 w (L)) (r_a:Ce w0 L Ad A_a c_a uu a_) (H:Gc.f K a_=some r1) :
    Calls prog 66 #[sV A_a a_ c_a] w (Gc.post w0 L r1):=by
  unfold Gc.f at H
  refine cG func66 Z ?_
  refine rN 3 Z ?_
  obtain ⟨c1,H⟩:=iN H
  obtain ⟨c2,H⟩:=iN H
  refine rG (mV Z (lS Z Z U89 Z (GO.make (T:=Ad) Bj () HS Ba Z Z Z U77 Xp Z Z Z c1 c2 Z fun b3 wd4 HS=>aS Z (nL (rN 5 Z ?_)))))
  refine G.name (fun h1 f1=>?_)
  have g1:∀ d1,d1≤K→∀ (b1:List Ab) (a1:Int) (w:World),Gc.l1 K d1 a_ b1 a1=some r1→St w0 w (Own Ad 107 (sb b3) ((a_.length:Int).toNat) uu b1::L)→G prog 66 23 [(0,sV A_a a_ c_a),(3,sV (sb b3) b1 ((a_.length:Int).toNat)),(4,I a1)] h1 w (Gc.post w0 L r1):=by
   refine lp (fun _ _ w H _=>by rw [Gc.l1] at H; cases H) fun e1 k1 i1 b1 a1 w H HS=>?_
   rw [Gc.l1] at H
   subst f1
   refine rN 2 Z (rG (pS 2 Z (lS Z Z U89 Z (GO.lss Z Z Z Z (nL ?_)))))
   rcases iS H with ⟨c29,H⟩ | ⟨c29,H⟩
   ·
    refine nB Z (tF c29) (rN 3 Z ?_)
    obtain rfl:=sI H
    exact rT _ func66 Z Z ⟨_,_,Z,HS⟩
   refine yB Z (tT c29) (rN 3 Z ?_)
   obtain ⟨c30,H⟩:=iN H
   obtain ⟨e31,h32,H⟩:=Di H
   obtain ⟨t33,t34,h35,H⟩:=Ea H
   obtain ⟨c38,H⟩:=iN H
   refine rG (pS 4 Z (iX Z U89 vD (rk (rD 1 r_a) HS) c30 (GO.Hw (T:=Ad) (n:=a1.toNat) HS (rD 1 r_a) Z Z (Cn (ltN c30) h32) xL Z (fJ tC Z (J2.calls HS  h35) (fun _ wd36 ⟨h37,HS⟩=>⟨_,h37,(iX Z U77 G9 (fun _=>⟨_,_,Z⟩) c38 (GO.Ii (T:=Ad) (j:=0) (n:=a1.toNat) (o:=0) (vs:=[I t33,I t34]) (⟨t33,t34⟩:Ab) HS Z Ba Z Z Z Z (htA D9) Z (getD_some (d:=Bj) (ltN c38)) Z Z fun wd39 HS=>nL (G.len (t:=3) (m:=(b1.set a1.toNat (⟨t33,t34⟩:Ab)).length) Z (by simp only [List.length_set] <;> rfl) (rN 3 Z (gW (i1 e1 (lR _) _ _ _ H HS) Z)))))⟩)))))
  exact gW (g1 K (lR _) _ _ _ H HS) Z
theorem Fv.calls {a_:List (List Ab)} {y_a:Nat→(Ty.slice 142 Ad).Lay} {r1:List (List Ab)} (HS:St w0 w (L)) (r_a:Ce w0 L (Ty.slice 142 Ad) A_a c_a y_a a_) (H:Fv.f K a_=some r1) :
    Calls prog 41 #[sV A_a a_ c_a] w (Fv.post w0 L r1):=by
  unfold Fv.f at H
  refine cG func41 Z ?_
  refine rN 3 Z ?_
  obtain ⟨c1,H⟩:=iN H
  obtain ⟨c2,H⟩:=iN H
  refine rG (mV Z (lS Z Z U22 Z (GO.xK (S:=Ad) (u:=107) uu HS Z Z Z U29 Qb Z c1 c2 Z fun b3 wd4 HS=>aS Z (nL (rN 5 Z ?_)))))
  refine G.name (fun h1 f1=>?_)
  have g1:∀ d1,d1≤K→∀ (b1:List (List Ab)) (y17:Nat→(Ty.slice 107 Ad).Lay) (a1:Int) (w:World),Fv.l1 K d1 a_ b1 a1=some r1→St w0 w (Own (Ty.slice 107 Ad) 77 (sb b3) ((a_.length:Int).toNat) y17 b1::L)→G prog 41 23 [(0,sV A_a a_ c_a),(3,sV (sb b3) b1 ((a_.length:Int).toNat)),(4,I a1)] h1 w (Fv.post w0 L r1):=by
   refine lp (fun _ _ _ w H _=>by rw [Fv.l1] at H; cases H) fun e1 k1 i1 b1 y17 a1 w H HS=>?_
   rw [Fv.l1] at H
   subst f1
   refine rN 2 Z (rG (pS 2 Z (lS Z Z U22 Z (GO.lss Z Z Z Z (nL ?_)))))
   rcases iS H with ⟨c30,H⟩ | ⟨c30,H⟩
   ·
    refine nB Z (tF c30) (rN 3 Z ?_)
    obtain rfl:=sI H
    exact rT _ func41 Z Z ⟨_,_,_,Z,HS⟩
   refine yB Z (tT c30) (rN 3 Z ?_)
   obtain ⟨c31,H⟩:=iN H
   obtain ⟨t32,h33,H⟩:=bI H
   obtain ⟨c38,H⟩:=iN H
   refine rG (pS 4 Z (iX Z U22 xB (rk (rD 1 r_a) HS) c31 (GO.Cj (T:=(Ty.slice 142 Ad)) (n:=a1.toNat) (o:=0) HS (rD 1 r_a) Z Z (getD_some (d:=[]) (ltN c31)) Z Z wK Z (fJ wF Z (Gc.calls HS (Ce.elem (rD 1 r_a) c31.1 c31.2) h33) (fun _ wd36 ⟨A34,c35,h37,HS⟩=>⟨_,h37,(iX Z U29 Jg (fun _=>⟨_,_,Z⟩) c38 ?_)⟩)))))
   replace HS:=HS.pk 2 [1,0] Z
   refine GO.sF (S:=Ad) (u:=107) HS Z Z Z Jh (ltN c38) fun y40 wd39 HS=>nL (G.len (t:=3) (m:=(b1.set a1.toNat t32).length) Z (by simp only [List.length_set] <;> rfl) (rN 3 Z (gW (i1 e1 (lR _) _ _ _ _ H HS) Z)))
  exact gW (g1 K (lR _) _ _ _ _ H HS) Z
theorem Eh.calls {a1:List (List Ab)} {y_a:Nat→(Ty.slice 142 Ad).Lay} {r1:List (List Ab)} (HS:St w0 w (L)) (r_a:Ce w0 L (Ty.slice 142 Ad) A_a c_a y_a a1) (H:Eh.f K a1=some r1) :
    Calls prog 12 #[.agg [sV A_a a1 c_a].toArray] w (Eh.post w0 L r1):=by
  unfold Eh.f at H
  refine cG func12 Z ?_
  refine sQ (rG (bA HS Z fun b1 wd2 HS=>GO.alloc HS Z Lm Z Z fun b3 wd4 HS=>nL (sQ (rG (GO.alloc HS Z Lm Z Z fun b5 wd6 HS=>nL (sQ ?_))))))
  obtain ⟨t7,h8,H⟩:=bI H
  refine rG (fL b1 0 jE Z (lB 2 HS Z uU Z (fJ wJ Z (Fv.calls HS (rD 3 r_a) h8) (fun _ wd12 ⟨A9,c10,y11,h13,HS⟩=>⟨_,h13,(fL b5 0 Du Z (GO.Ie (j:=1) (vs:=[sV A9 t7 c10]) ([sV A9 t7 c10]) HS Z Z Z Z Z (htN Gu Z) Z Z Z fun wd14 HS=>nL (sQ (rG (lW 1 HS Z Dq (sW 2 HS Z Dq Z fun wd15 HS=>nL ?_))))))⟩))))
  obtain rfl:=sI H
  exact rT _ func12 Z (Gz.Hu (j:=2) (vs:=[sV A9 t7 c10]) HS Z Z Z Dq) ⟨_,_,_,Z,(HS.pk 4 [0] Z)⟩
theorem Cs.calls {a1:List (List Ab)} {y_a:Nat→(Ty.slice 107 Ad).Lay} {r1:Int} (HS:St w0 w (L)) (r_a:Ce w0 L (Ty.slice 107 Ad) A_a c_a y_a a1) (H:Cs.f a1=some r1) :
    Calls prog 64 #[.agg [sV A_a a1 c_a].toArray] w (Cs.post w0 L r1):=by
  unfold Cs.f at H
  refine cG func64 Z ?_
  refine sQ (rG (bA HS Z fun b1 wd2 HS=>aS Z (nL (sQ (rG (fL b1 0 Du Z (lB 0 HS Z Gu Z (lS Z Z U29 Z (aS Z (nL ?_))))))))))
  obtain rfl:=sI H
  exact rT _ func64 Z Z ⟨Z,(HS.pk 1 [] Z)⟩
theorem Ia.calls {n_ low high:Int} {r1:Bool} (HS:St w0 w (L)) (H:Ia.f n_ low high=some r1) :
    Calls prog 63 #[I n_,I low,I high] w (Ia.post w0 L r1):=by
  unfold Ia.f at H
  refine cG func63 Z ?_
  refine rN 3 Z ?_
  rcases iS H with ⟨c1,H⟩ | ⟨c1,H⟩
  ·
   refine rG (pS 4 Z (kN 10 Z (tF c1) (oF Z (oF Z (oF Z (pS 2 Z (nL ?_)))))))
   obtain rfl:=sI H
   exact rT _ func63 Z Z ⟨Z,HS⟩
  refine rG (pS 4 Z (kN 10 Z (tT c1) (oN Z (mV Z (bK (oN Z (mV Z (bK (oN Z (GO.leq Z Z Z Z (bK (pS 2 Z (nL ?_)))))))))))))
  obtain rfl:=sI H
  exact rT _ func63 Z Z ⟨Z,HS⟩
theorem Iw.calls {p:Int} {r1:Bool} (HS:St w0 w (L)) (H:Iw.f p=some r1) :
    Calls prog 75 #[I p] w (Iw.post w0 L r1):=by
  unfold Iw.f at H
  refine cG func75 Z ?_
  refine rN 3 Z ?_
  rcases iS H with ⟨c1,H⟩ | ⟨c1,H⟩
  ·
   refine rG (pS 3 Z (kN 5 Z (tF c1) (oF Z (oF Z (pS 2 Z (nL ?_))))))
   obtain rfl:=sI H
   exact rT _ func75 Z Z ⟨Z,HS⟩
  refine rG (pS 3 Z (kN 5 Z (tT c1) (oN Z (mV Z (bK (oN Z (GO.lss Z Z Z Z (bK (pS 2 Z (nL ?_))))))))))
  obtain rfl:=sI H
  exact rT _ func75 Z Z ⟨Z,HS⟩
theorem Ec.calls {p:Int} {r1:List Int} (HS:St w0 w (L)) (H:Ec.f K p=some r1) :
    Calls prog 116 #[I p] w (Ec.post w0 L r1):=by
  unfold Ec.f at H
  refine cG func116 Z ?_
  refine rN 3 Z (rG (GO.Cw (el:=2) ([I 0,I 1,I 2,I 3]) HS Z Z (fun _=>by kernel_rfl) Z fun b1 wd2 HS=>?_))
  replace HS:=HS.Fq (T:=(Ar .i64)) (j:=0) Z Ba uu ([0,1,2,3]:List Int) Z (Il Z)
  refine GO.H7 (t:=8) (m:=([0,1,2,3]:List Int).length) (c':=([0,1,2,3]:List Int).length) Z Z Z (aS Z (nL (sQ (rG (GO.Cw (el:=2) ([]) HS Z Z (fun _=>by kernel_rfl) Z fun b3 wd4 HS=>?_)))))
  replace HS:=HS.Fq (T:=(Ar .i64)) (j:=0) Z Ba uu ([]:List Int) Z (Il Z)
  refine GO.H7 (t:=9) (m:=([]:List Int).length) (c':=([]:List Int).length) Z Z Z (aS Z (nL (rN 7 Z ?_)))
  refine G.name (fun n1 k1=>?_)
  have m1:∀ h1,h1≤K→∀ (c1:Int) (A25:Option Addr) (c26:Nat) (a1:List Int) (A28:Option Addr) (c29:Nat) (e1:List Int) (d1 f1:Int) (w:World),Ec.l1 K h1 c1 a1 e1 d1 f1=some r1→St w0 w (Own (Ar .i64) 2 A25 c26 uu a1::Own (Ar .i64) 2 A28 c29 uu e1::L)→G prog 116 43 [(0,I c1),(3,sV A25 a1 c26),(4,sV A28 e1 c29),(5,I d1),(6,I f1)] n1 w (Ec.post w0 L r1):=by
   refine lp (fun _ _ _ _ _ _ _ _ _ w H _=>by rw [Ec.l1] at H; cases H) fun g1 o1 i1 c1 A25 c26 a1 A28 c29 e1 d1 f1 w H HS=>?_
   rw [Ec.l1] at H
   subst k1
   refine rN 3 Z ?_
   rcases iS H with ⟨c56,H⟩ | ⟨c56,H⟩
   ·
    refine nB Z (tF c56) (rN 3 Z ?_)
    obtain rfl:=sI H
    exact rT _ func116 Z Z ⟨_,_,Z,(HS.pk 2 [1] Z)⟩
   refine yB Z (tT c56) (rN 4 Z ?_)
   obtain ⟨c57,H⟩:=Qo H
   refine rG (pS 2 Z (GO.quo Z Z Z c57 Z (aS Z (nL (sQ (rG (pS 2 Z (GO.rem Z Z Z c57 Z (aS Z (nL (sQ ?_)))))))))))
   obtain ⟨c58,H⟩:=iN H
   obtain ⟨c64,H⟩:=iN H
   refine rG (pS 3 Z (iX Z U56 sz2 (rk (ro 0 Z) HS) c58 (GO.Cj (T:=(Ar .i64)) (n:=(w64 (c1.tdiv d1)).toNat) (o:=0) HS (ro 0 Z) Z Z (getD_some (d:=0) (ltN c58)) Z Z na2 Z (GO.Cw (el:=2) ([I (a1.getD ((w64 (c1.tdiv d1)).toNat) 0)]) HS Z Z (fun _=>by kernel_rfl) Z fun b59 wd60 HS=>GO.app1 (T:=(Ar .i64)) (j:=2) (jb:=0) (a1.getD ((w64 (c1.tdiv d1)).toNat) 0) HS Z Z Ba Z Z Z U56 Ml Z Z Z c64 Z fun A62 c63 wd61 HS=>aS Z (nL (sQ ?_))))))
   obtain ⟨c67,H⟩:=iN H
   obtain ⟨c71,H⟩:=iN H
   obtain ⟨c72,H⟩:=iN H
   obtain ⟨c76,H⟩:=iN H
   refine G.H8 mixed (fun w=>St w0 w (Own (Ar .i64) 2 A25 c26 uu a1::L)) [3,8] [1,2,5,6,7,3,8,0,4,9,10] [] (by kernel_rfl) (by kernel_rfl) (HS.drew.pk 3 [1] Z) ?_
   replace HS:=HS.drew
   refine GX.ps 5 Z (GX.ls Z Z Z (HS.pk 3 [1] Z) (fun _ HS _ g=>GO.slH (T:=(Ar .i64)) HS (ro 0 Z) Z Z Z U56 sz2 c67.1 c67.2 Z g) Z (GX.ls Z Z Z (HS.pk 3 [1] Z) (fun _ HS _ g=>GO.slL (T:=(Ar .i64)) HS (ro 0 Z) Z Z Z U56 sz2 c72.1 c72.2 Z g) Z (GX.l2 Z (GO.Cw (el:=2) ([]) HS Z Z (fun _=>by kernel_rfl) Z fun b65 wd66 HS=>GX.fin (HS.pk 4 [2] Z) (GX.l2 Z ?_)))))
   replace HS:=HS.Fq (T:=(Ar .i64)) (j:=0) Z Ba uu ([]:List Int) Z (Il Z)
   refine GO.H7 (t:=27) (m:=([]:List Int).length) (c':=([]:List Int).length) Z Z Z (GO.lU (T:=(Ar .i64)) (j:=0) HS Z (Ce.cut (ro 2 Z) (Nat.zero_le _) (leN c67)) Ba Z Z Z U56 Ml Z Z Z c71 Z (fun _=>Z) fun A69 c70 wd68 HS=>GX.fin (HS.pk 4 [2] Z) (GX.l2 Z (GO.lU (T:=(Ar .i64)) (j:=0) HS Z (Ce.cut (ro 2 Z) (leN c72) (lR _)) Ba Z Z Z U56 Ml Z Z Z c76 Z (fun _=>Z) fun A74 c75 wd73 HS=>GX.fin (HS.pk 4 [2] Z) (GX.ps 1 Z (GX.nil (rN 2 Z ?_))))))
   rcases iS H with ⟨c77,H⟩ | ⟨c77,H⟩
   ·
    refine nB Z (tF c77) (rN 4 Z (gW (i1 g1 (lR _) _ _ _ _ _ _ _ _ _ _ H (HS.pk 4 [0,3] Z)) Z))
   refine yB Z (tT c77) ?_
   obtain ⟨c78,H⟩:=Qo H
   refine rG (pS 2 Z (GO.quo Z Z Z c78 Z (aS Z (nL (rN 3 Z (gW (i1 g1 (lR _) _ _ _ _ _ _ _ _ _ _ H (HS.pk 4 [0,3] Z)) Z))))))
  exact gW (m1 K (lR _) _ _ _ _ _ _ _ _ _ _ H (HS.pk 2 [1,0] Z)) Z
theorem Bq.calls {p k_ r1:Int} (HS:St w0 w (L)) (H:Bq.f K p k_=some r1) :
    Calls prog 76 #[I p,I k_] w (Bq.post w0 L r1):=by
  unfold Bq.f at H
  refine cG func76 Z ?_
  refine rN 3 Z ?_
  obtain ⟨t1,h2,H⟩:=bI H
  obtain ⟨c7,H⟩:=iN H
  refine rG (mV Z (fJ Xi Z (Ec.calls HS  h2) (fun _ wd5 ⟨A3,c4,h6,HS⟩=>⟨_,h6,(mV Z (iX Z U56 sz2 (rk (ro 0 Z) HS) c7 (GO.Cj (T:=(Ar .i64)) (n:=k_.toNat) (o:=0) HS (ro 0 Z) Z Z (getD_some (d:=0) (ltN c7)) Z Z na2 Z (aS Z (nL ?_)))))⟩)))
  obtain rfl:=sI H
  exact rT _ func76 Z Z ⟨Z,(HS.pk 1 [] Z)⟩
theorem C8.calls {a_:List Int} {r1:Int} (HS:St w0 w (L)) (r_a:Ce w0 L (Ar .i64) A_a c_a uu a_) (H:C8.f K a_=some r1) :
    Calls prog 117 #[sV A_a a_ c_a] w (C8.post w0 L r1):=by
  unfold C8.f at H
  refine cG func117 Z ?_
  refine rN 11 Z ?_
  refine G.name (fun q1 m1=>?_)
  have p1:∀ g1,g1≤K→∀ (p_4 a1 i_6:Int) (w:World),C8.l1 K g1 a_ p_4 a1 i_6=some r1→St w0 w (L)→G prog 117 42 [(0,sV A_a a_ c_a),(3,I p_4),(4,I a1),(5,I i_6)] q1 w (C8.post w0 L r1):=by
   refine lp (fun _ _ _ w H _=>by rw [C8.l1] at H; cases H) fun f1 t1 s1 p_4 a1 i_6 w H HS=>?_
   rw [C8.l1] at H
   subst m1
   refine rN 3 Z ?_
   rcases iS H with ⟨c23,H⟩ | ⟨c23,H⟩
   ·
    refine nB Z (tF c23) (rN 3 Z ?_)
    obtain rfl:=sI H
    exact rT _ func117 Z Z ⟨Z,HS⟩
   refine yB Z (tT c23) (rN 4 Z ?_)
   obtain ⟨c24,H⟩:=iN H
   refine rG (pS 2 Z (iX Z U56 sz2 (rk r_a HS) c24 (GO.Cj (T:=(Ar .i64)) (n:=i_6.toNat) (o:=0) HS r_a Z Z (getD_some (d:=0) (ltN c24)) Z Z na2 Z (aS Z (nL (rN 5 Z ?_))))))
   refine G.name (fun o1 n1=>?_)
   have i1:∀ h1,h1≤f1→∀ (d1 b1:Int) (w:World),C8.l4 K h1 a_ p_4 a1 i_6 d1 b1=some r1→St w0 w (L)→G prog 117 42 [(0,sV A_a a_ c_a),(3,I p_4),(4,I a1),(5,I i_6),(6,I d1),(7,I b1)] o1 w (C8.post w0 L r1):=by
    refine lp (fun _ _ w H _=>by rw [C8.l4] at H; cases H) fun c1 k1 e1 d1 b1 w H HS=>?_
    rw [C8.l4] at H
    subst n1
    refine rN 3 Z ?_
    rcases iS H with ⟨c35,H⟩ | ⟨c35,H⟩
    ·
     refine nB Z (tF c35) (rN 3 Z ?_)
     obtain ⟨c38,H⟩:=Qo H
     refine rG (pS 3 Z (GO.quo Z Z Z c38 Z (aS Z (nL (rN 3 Z (gW (s1 c1 (Nat.le_of_succ_le k1) _ _ _ _ H HS) Z))))))
    refine yB Z (tT c35) (rN 4 Z ?_)
    obtain ⟨c36,H⟩:=iN H
    refine G.lex mixed [0,1,2,4,5,6,3,7,8] (by kernel_rfl) ?_
    replace HS:=HS.drew
    refine GX.ps 2 Z (qL Z Z (fun _ _ g=>iX Z U56 sz2 (rk r_a HS) c36 g) Z (GX.ps 2 Z (qL Z Z (fun _ _ g=>iX Z U56 sz2 (rk r_a HS) c24 g) Z (GX.l1 Z Z Z (fun _ g=>GO.Cj (T:=(Ar .i64)) (n:=b1.toNat) (o:=0) HS r_a Z Z (getD_some (d:=0) (ltN c36)) Z Z na2 Z g) Z (GX.l1 Z Z Z (fun _ g=>GO.Cj (T:=(Ar .i64)) (n:=i_6.toNat) (o:=0) HS r_a Z Z (getD_some (d:=0) (ltN c24)) Z Z na2 Z g) Z (GX.ps 1 Z (GX.nil ?_)))))))
    rcases iS H with ⟨c37,H⟩ | ⟨c37,H⟩
    ·
     refine nB Z (tF c37) (rN 4 Z (gW (e1 c1 (lR _) _ _ _ H HS) Z))
    refine yB Z (tT c37) (rN 4 Z (gW (e1 c1 (lR _) _ _ _ H HS) Z))
   exact gW (i1 f1 (lR _) _ _ _ H HS) Z
  exact gW (p1 K (lR _) _ _ _ _ H HS) Z
theorem Dx.calls {p r1:Int} (HS:St w0 w (L)) (H:Dx.f K p=some r1) :
    Calls prog 77 #[I p] w (Dx.post w0 L r1):=by
  unfold Dx.f at H
  refine cG func77 Z ?_
  refine rN 3 Z ?_
  obtain ⟨t1,h2,H⟩:=bI H
  refine rG (mV Z (fJ Xi Z (Ec.calls HS  h2) (fun _ wd5 ⟨A3,c4,h6,HS⟩=>⟨_,h6,(aS Z (nL (sQ (rG (GO.Cw (el:=2) ([I 0,I 0,I 0,I 0]) HS Z Z (fun _=>by kernel_rfl) Z fun b7 wd8 HS=>?_)))))⟩)))
  replace HS:=HS.Fq (T:=(Ar .i64)) (j:=0) Z Ba uu ([0,0,0,0]:List Int) Z (Il Z)
  refine GO.H7 (t:=8) (m:=([0,0,0,0]:List Int).length) (c':=([0,0,0,0]:List Int).length) Z Z Z (aS Z (nL (rN 5 Z ?_)))
  refine G.name (fun g1 e1=>?_)
  have f1:∀ c1,c1≤K→∀ (b1:List Int) (a1:Int) (w:World),Dx.l1 K c1 t1 b1 a1=some r1→St w0 w (Own (Ar .i64) 2 A3 c4 uu t1::Own (Ar .i64) 2 (sb b7) (([0,0,0,0]:List Int).length) uu b1::L)→G prog 77 22 [(3,sV A3 t1 c4),(4,sV (sb b7) b1 (([0,0,0,0]:List Int).length)),(5,I a1)] g1 w (Dx.post w0 L r1):=by
   refine lp (fun _ _ w H _=>by rw [Dx.l1] at H; cases H) fun d1 i1 h1 b1 a1 w H HS=>?_
   rw [Dx.l1] at H
   subst e1
   refine rN 3 Z ?_
   rcases iS H with ⟨c22,H⟩ | ⟨c22,H⟩
   ·
    refine nB Z (tF c22) (rN 2 Z ?_)
    obtain ⟨t26,h27,H⟩:=bI H
    refine rG (mV Z (fJ Sj Z (C8.calls HS (ro 1 Z) h27) (fun _ wd28 ⟨h29,HS⟩=>⟨_,h29,(aS Z (nL ?_))⟩)))
    obtain rfl:=sI H
    exact rT _ func77 Z Z ⟨Z,(HS.pk 2 [] Z)⟩
   refine yB Z (tT c22) (rN 3 Z ?_)
   obtain ⟨c23,H⟩:=iN H
   obtain ⟨c24,H⟩:=iN H
   refine rG (pS 3 Z (iX Z U56 sz2 (rk (ro 0 Z) HS) c23 (GO.Cj (T:=(Ar .i64)) (n:=a1.toNat) (o:=0) HS (ro 0 Z) Z Z (getD_some (d:=0) (ltN c23)) Z Z na2 Z (mV Z (iX Z U56 sz2 (fun _=>⟨_,_,Z⟩) c24 (GO.Ii (T:=(Ar .i64)) (j:=1) (n:=(t1.getD a1.toNat 0).toNat) (o:=0) (vs:=[I a1]) a1 HS Z Ba Z Z Z Z (htN na2 Z) Z (getD_some (d:=0) (ltN c24)) Z Z fun wd25 HS=>nL (G.len (t:=4) (m:=(b1.set ((t1.getD a1.toNat 0).toNat) a1).length) Z (by simp only [List.length_set] <;> rfl) (rN 3 Z (gW (h1 d1 (lR _) _ _ _ H HS) Z)))))))))
  exact gW (f1 K (lR _) _ _ _ H (HS.pk 2 [1,0] Z)) Z
theorem Aj.calls {a1:List (List Ab)} {y_a:Nat→(Ty.slice 107 Ad).Lay} {r1:Bool} (HS:St w0 w (L)) (r_a:Ce w0 L (Ty.slice 107 Ad) A_a c_a y_a a1) (H:Aj.f K a1=some r1) :
    Calls prog 45 #[.agg [sV A_a a1 c_a].toArray] w (Aj.post w0 L r1):=by
  unfold Aj.f at H
  refine cG func45 Z ?_
  refine sQ (rG (bA HS Z fun b1 wd2 HS=>aS Z (nL (rN 2 Z ?_))))
  obtain ⟨t3,h4,H⟩:=bI H
  refine rG (lW 0 HS Z Dq (fJ Og Z (Cs.calls HS (rD 1 r_a) h4) (fun _ wd5 ⟨h6,HS⟩=>⟨_,h6,(GO.gtr Z Z Z Z (nL ?_))⟩)))
  rcases iE H with ⟨c7,H⟩ | ⟨c7,H⟩
  ·
   refine yB Z (tT c7) (rN 2 Z ?_)
   obtain rfl:=sI H
   exact rT _ func45 Z Z ⟨Z,(HS.pk 1 [] Z)⟩
  refine nB Z (tF c7) (rN 6 Z ?_)
  refine G.name (fun t1 e2=>?_)
  have g2:∀ o1,o1≤K→∀ (e1:Int) (w:World),Aj.l1 K o1 a1 e1=some r1→St w0 w (Box b1 31 [sV A_a a1 c_a]::L)→G prog 45 96 [(1,pT b1),(3,I e1)] t1 w (Aj.post w0 L r1):=by
   refine lp (fun _ w H _=>by rw [Aj.l1] at H; cases H) fun k1 k2 h2 e1 w H HS=>?_
   rw [Aj.l1] at H
   subst e2
   refine rN 2 Z (rG (mV Z (fL b1 0 Du Z (lB 0 HS Z Gu Z (lS Z Z U29 Z (GO.lss Z Z Z Z (nL ?_)))))))
   rcases iE H with ⟨c1091,H⟩ | ⟨c1091,H⟩
   ·
    refine yB Z (tT c1091) (rN 4 Z ?_)
    obtain ⟨c1092,H⟩:=iN H
    refine rG (fL b1 0 Du Z (lB 0 HS Z Gu Z (mV Z (iX Z U29 Jg (rk (rD 1 r_a) HS) c1092 (GO.Cj (T:=(Ty.slice 107 Ad)) (n:=e1.toNat) (o:=0) HS (rD 1 r_a) Z Z (getD_some (d:=[]) (ltN c1092)) Z Z Jh Z (lS Z Z U77 Z (GO.neq Z Z Z Z (nL ?_))))))))
    rcases iS H with ⟨c1093,H⟩ | ⟨c1093,H⟩
    ·
     refine yB Z (nF c1093) (rN 2 Z ?_)
     obtain rfl:=sI H
     exact rT _ func45 Z Z ⟨Z,(HS.pk 1 [] Z)⟩
    refine nB Z (nT c1093) (rN 4 Z (gW (h2 k1 (lR _) _ _ H HS) Z))
   refine nB Z (tF c1091) (rN 6 Z ?_)
   refine G.name (fun z1 v1=>?_)
   have u1:∀ p1,p1≤k1→∀ (c1:Int) (w:World),Aj.l28 K p1 a1 c1=some r1→St w0 w (Box b1 31 [sV A_a a1 c_a]::L)→G prog 45 96 [(1,pT b1),(4,I c1)] z1 w (Aj.post w0 L r1):=by
    refine lp (fun _ w H _=>by rw [Aj.l28] at H; cases H) fun q1 i2 d2 c1 w H HS=>?_
    rw [Aj.l28] at H
    subst v1
    refine rN 2 Z ?_
    obtain ⟨t1453,h1454,H⟩:=bI H
    refine rG (mV Z (lW 0 HS Z Dq (fJ Og Z (Cs.calls HS (rD 1 r_a) h1454) (fun _ wd1455 ⟨h1456,HS⟩=>⟨_,h1456,(GO.lss Z Z Z Z (nL ?_))⟩))))
    rcases iS H with ⟨c1457,H⟩ | ⟨c1457,H⟩
    ·
     refine nB Z (tF c1457) (rN 3 Z ?_)
     obtain rfl:=sI H
     exact rT _ func45 Z Z ⟨Z,(HS.pk 1 [] Z)⟩
    refine yB Z (tT c1457) (rN 7 Z ?_)
    refine G.name (fun a2 f2=>?_)
    have y1:∀ m1,m1≤q1→∀ (d1:Int) (w:World),Aj.l37 K m1 a1 c1 d1=some r1→St w0 w (Box b1 31 [sV A_a a1 c_a]::L)→G prog 45 96 [(1,pT b1),(4,I c1),(5,I d1)] a2 w (Aj.post w0 L r1):=by
     refine lp (fun _ w H _=>by rw [Aj.l37] at H; cases H) fun f1 c2 g1 d1 w H HS=>?_
     rw [Aj.l37] at H
     subst f2
     refine rN 3 Z ?_
     rcases iS H with ⟨c1574,H⟩ | ⟨c1574,H⟩
     ·
      refine nB Z (tF c1574) (rN 4 Z (gW (d2 f1 (Nat.le_of_succ_le c2) _ _ H HS) Z))
     refine yB Z (tT c1574) (rN 4 Z ?_)
     obtain ⟨c1575,H⟩:=iN H
     obtain ⟨c1576,H⟩:=iN H
     obtain ⟨e1577,h1578,H⟩:=Di H
     refine rG (fL b1 0 Du Z (lB 0 HS Z Gu Z (mV Z (iX Z U29 Jg (rk (rD 1 r_a) HS) c1575 (GO.Cj (T:=(Ty.slice 107 Ad)) (n:=c1.toNat) (o:=0) HS (rD 1 r_a) Z Z (getD_some (d:=[]) (ltN c1575)) Z Z Jh Z (mV Z (GO.ix Z Z Z U77 G9 ((Ce.elem (rD 1 r_a) c1575.1 c1575.2) _ HS).2.2.1 c1576.1 c1576.2 Z (GO.Hw (T:=Ad) (n:=d1.toNat) HS (Ce.elem (rD 1 r_a) c1575.1 c1575.2) Z Z (Cn (ltN c1576) h1578) D9 Z (GO.alloc HS Z Jz Z Z fun b1579 wd1580 HS=>sW 0 HS Z D9 Z fun wd1581 HS=>nL (rN 2 Z ?_))))))))))
     refine G.Ov (fun x1 b2=>?_)
     have s1:∀ n1,n1≤f1→∀ (x1584:Bool) (w:World),Aj.j40 K n1 a1 c1 d1 e1577 x1584=some r1→St w0 w (Box b1 31 [sV A_a a1 c_a]::Box b1579 107 [I e1577.Tet,I e1577.Perm]::L)→G prog 45 96 [(1,pT b1),(4,I c1),(5,I d1),(6,pT b1579),(51,.bool x1584)] x1 w (Aj.post w0 L r1):=by
      refine jp (fun _ w H _=>by rw [Aj.j40] at H; cases H) fun i1 h1 x1584 w H HS=>?_
      rw [Aj.j40] at H
      subst b2
      rcases iE H with ⟨c1585,H⟩ | ⟨c1585,H⟩
      ·
       refine yB Z c1585 (rN 3 Z (gW (g1 i1 (Nat.le_of_succ_le h1) _ _ H (HS.pk 2 [0] Z)) Z))
      refine nB Z (Db c1585) (rN 3 Z ?_)
      obtain ⟨t1599,h1600,H⟩:=bI H
      obtain ⟨t1603,h1604,H⟩:=bI H
      rcases iS H with ⟨c1607,H⟩ | ⟨c1607,H⟩
      ·
       refine G.H8 mixed (fun w=>St w0 w (Box b1 31 [sV A_a a1 c_a]::Box b1579 107 [I e1577.Tet,I e1577.Perm]::L)) [1,2,9] [0,1,2,3,4,5,6,7,8,9,10,11,12] [] (by kernel_rfl) (by kernel_rfl) HS.drew ?_
       replace HS:=HS.drew
       refine qL Z Z (fun _ _ g=>fL b1579 0 Dp Z g) Z (GX.ls Z Z Z HS (fun _ HS _ g=>lB 1 HS Z na2 Z g) Z (GX.ls Z Z Z HS (fun _ HS _ g=>lW 0 HS Z Dq g) Z (GX.l2 Z (fJ Og Z (Cs.calls HS (rD 2 r_a) h1600) (fun _ wd1601 ⟨h1602,HS⟩=>⟨_,h1602,(GX.fin HS (GX.ps 1 Z (GX.l2 Z (fJ X9 Z (Ia.calls HS  h1604) (fun _ wd1605 ⟨h1606,HS⟩=>⟨_,h1606,(GX.fin HS (GX.ps 1 Z (qL Z Z (fun _ _ g=>mV Z (kN 59 Z (congrArg Bool.not (Db c1607)) g)) Z (qL Z Z (fun _ _ g=>oF Z g) Z (GX.ls Z Z Z HS (fun _ HS _ g=>oF Z g) Z (GX.l2 Z ?_))))))⟩)))))⟩)))))
       refine oF Z (GX.fin HS (qL Z Z (fun _ _ g=>oF Z g) Z (GX.ps 1 Z (GX.nil (rN 3 Z ?_)))))
       obtain rfl:=sI H
       exact rT _ func45 Z Z ⟨Z,(HS.pk 2 [] Z)⟩
      obtain ⟨t1608,h1609,H⟩:=bI H
      refine G.H8 mixed (fun w=>St w0 w (Box b1 31 [sV A_a a1 c_a]::Box b1579 107 [I e1577.Tet,I e1577.Perm]::L)) [1,2,9] [0,1,2,3,4,5,6,7,8,9,10,11,12] [] (by kernel_rfl) (by kernel_rfl) HS.drew ?_
      replace HS:=HS.drew
      refine qL Z Z (fun _ _ g=>fL b1579 0 Dp Z g) Z (GX.ls Z Z Z HS (fun _ HS _ g=>lB 1 HS Z na2 Z g) Z (GX.ls Z Z Z HS (fun _ HS _ g=>lW 0 HS Z Dq g) Z (GX.l2 Z (fJ Og Z (Cs.calls HS (rD 2 r_a) h1600) (fun _ wd1601 ⟨h1602,HS⟩=>⟨_,h1602,(GX.fin HS (GX.ps 1 Z (GX.l2 Z (fJ X9 Z (Ia.calls HS  h1604) (fun _ wd1605 ⟨h1606,HS⟩=>⟨_,h1606,(GX.fin HS (GX.ps 1 Z (qL Z Z (fun _ _ g=>mV Z (kN 59 Z (congrArg Bool.not c1607) g)) Z (qL Z Z (fun _ _ g=>oN Z (fL b1579 1 Gn Z (bK g))) Z (GX.ls Z Z Z HS (fun _ HS _ g=>oN Z (lB 1 HS Z na2 Z (bK g))) Z (GX.l2 Z ?_))))))⟩)))))⟩)))))
      refine oN Z (fJ vH Z (Iw.calls HS  h1609) (fun _ wd1610 ⟨h1611,HS⟩=>⟨_,h1611,(bK (GX.fin HS (qL Z Z (fun _ _ g=>oN Z (GO.not Z Z Z (bK g))) Z (GX.ps 1 Z (GX.nil ?_)))))⟩))
      rcases iS H with ⟨c1612,H⟩ | ⟨c1612,H⟩
      ·
       refine yB Z (congrArg Bool.not (Db c1612)) (rN 2 Z ?_)
       obtain rfl:=sI H
       exact rT _ func45 Z Z ⟨Z,(HS.pk 2 [] Z)⟩
      refine nB Z (congrArg Bool.not c1612) (rN 2 Z ?_)
      obtain ⟨t1613,h1614,H⟩:=bI H
      refine rG (fL b1579 1 Gn Z (lB 1 HS Z na2 Z (mV Z (fJ Jt Z (Bq.calls HS  h1614) (fun _ wd1615 ⟨h1616,HS⟩=>⟨_,h1616,(aS Z (nL (sQ ?_)))⟩)))))
      obtain ⟨t1617,h1618,H⟩:=bI H
      refine rG (mV Z (fL b1579 1 Gn Z (lB 1 HS Z na2 Z (fJ T9 Z (Dx.calls HS  h1618) (fun _ wd1619 ⟨h1620,HS⟩=>⟨_,h1620,(GO.Dr (.agg [I c1,I t1617].toArray) Z Z (fun _=>by kernel_rfl) Z (GO.alloc HS Z Jz Z Z fun b1621 wd1622 HS=>sW 0 HS Z D9 Z fun wd1623 HS=>nL (sQ ?_)))⟩)))))
      obtain ⟨c1624,H⟩:=iN H
      obtain ⟨c1625,H⟩:=iN H
      obtain ⟨e1626,h1627,H⟩:=Di H
      rcases iS H with ⟨c1628,H⟩ | ⟨c1628,H⟩
      ·
       refine G.lex mixed [0,2,6,1,3,4,5,7,8,9,10,11,12,14,13,15,16,17,18,19,20,21] (by kernel_rfl) ?_
       replace HS:=HS.drew
       refine qL Z Z (fun _ _ g=>fL b1 0 Du Z g) Z (qL Z Z (fun _ _ g=>fL b1579 0 Dp Z g) Z (GX.ps 1 Z (GX.l1 Z Z Z (fun _ g=>lB 1 HS Z Gu Z g) Z (GX.l1 Z Z Z (fun _ g=>lB 2 HS Z na2 Z g) Z (qL Z Z (fun _ _ g=>iX Z U29 Jg (rk (rD 3 r_a) HS) c1624 g) Z (GX.l1 Z Z Z (fun _ g=>GO.Cj (T:=(Ty.slice 107 Ad)) (n:=e1577.Tet.toNat) (o:=0) HS (rD 3 r_a) Z Z (getD_some (d:=[]) (ltN c1624)) Z Z Jh Z g) Z (qL Z Z (fun _ _ g=>GO.ix Z Z Z U77 G9 ((Ce.elem (rD 3 r_a) c1624.1 c1624.2) _ HS).2.2.1 c1625.1 c1625.2 Z g) Z (GX.l1 Z Z Z (fun _ g=>GO.Hw (T:=Ad) (n:=t1613.toNat) HS (Ce.elem (rD 3 r_a) c1624.1 c1624.2) Z Z (Cn (ltN c1625) h1627) D9 Z g) Z (GX.l1 Z Z Z (fun _ g=>lW 0 HS Z D9 g) Z (qL Z Z (fun _ _ g=>GO.sU Z Z Z Vg (fun _=>Uv) Z g) Z (qL Z Z (fun _ _ g=>mV Z (kN 85 Z (nF c1628) g)) Z (qL Z Z (fun _ _ g=>oF Z g) Z (qL Z Z (fun _ _ g=>oF Z g) Z (GX.l1 Z Z Z (fun _ g=>oF Z g) Z ?_))))))))))))))
       refine qL Z Z (fun _ _ g=>oF Z g) Z (qL Z Z (fun _ _ g=>oF Z g) Z (qL Z Z (fun _ _ g=>GO.Xq Z Z Z Z Z Z g) Z (qL Z Z (fun _ _ g=>GO.Xq Z Z Z Z Z Z g) Z (qL Z Z (fun _ _ g=>GO.Xq Z Z Z Z Z Z g) Z (qL Z Z (fun _ _ g=>oF Z g) Z (GX.ps 1 Z (GX.nil (rN 3 Z ?_))))))))
       obtain rfl:=sI H
       exact rT _ func45 Z Z ⟨Z,(HS.pk 3 [] Z)⟩
      rcases iS H with ⟨c1629,H⟩ | ⟨c1629,H⟩
      ·
       refine G.lex mixed [0,2,6,1,3,4,5,7,8,9,10,11,12,14,13,15,16,17,18,19,20,21] (by kernel_rfl) ?_
       replace HS:=HS.drew
       refine qL Z Z (fun _ _ g=>fL b1 0 Du Z g) Z (qL Z Z (fun _ _ g=>fL b1579 0 Dp Z g) Z (GX.ps 1 Z (GX.l1 Z Z Z (fun _ g=>lB 1 HS Z Gu Z g) Z (GX.l1 Z Z Z (fun _ g=>lB 2 HS Z na2 Z g) Z (qL Z Z (fun _ _ g=>iX Z U29 Jg (rk (rD 3 r_a) HS) c1624 g) Z (GX.l1 Z Z Z (fun _ g=>GO.Cj (T:=(Ty.slice 107 Ad)) (n:=e1577.Tet.toNat) (o:=0) HS (rD 3 r_a) Z Z (getD_some (d:=[]) (ltN c1624)) Z Z Jh Z g) Z (qL Z Z (fun _ _ g=>GO.ix Z Z Z U77 G9 ((Ce.elem (rD 3 r_a) c1624.1 c1624.2) _ HS).2.2.1 c1625.1 c1625.2 Z g) Z (GX.l1 Z Z Z (fun _ g=>GO.Hw (T:=Ad) (n:=t1613.toNat) HS (Ce.elem (rD 3 r_a) c1624.1 c1624.2) Z Z (Cn (ltN c1625) h1627) D9 Z g) Z (GX.l1 Z Z Z (fun _ g=>lW 0 HS Z D9 g) Z (qL Z Z (fun _ _ g=>GO.sU Z Z Z Vg (fun _=>Uv) Z g) Z (qL Z Z (fun _ _ g=>mV Z (kN 85 Z (nT c1628) g)) Z (qL Z Z (fun _ _ g=>oN Z (fL b1579 0 Dp Z (bK g))) Z (qL Z Z (fun _ _ g=>oN Z (mV Z (bK g))) Z (GX.l1 Z Z Z (fun _ g=>oN Z (lB 2 HS Z na2 Z (bK g))) Z ?_))))))))))))))
       refine qL Z Z (fun _ _ g=>oN Z (GO.eql Z Z Z Z (bK g))) Z (qL Z Z (fun _ _ g=>oN Z (mV Z (bK (kN 90 Z (tF c1629) g)))) Z (qL Z Z (fun _ _ g=>oF Z g) Z (qL Z Z (fun _ _ g=>oF Z g) Z (qL Z Z (fun _ _ g=>oF Z g) Z (qL Z Z (fun _ _ g=>oN Z (GO.Jm Z Z Z Z Z (bK g))) Z (GX.ps 1 Z (GX.nil (rN 5 Z (gW (g1 i1 (Nat.le_of_succ_le h1) _ _ H (HS.pk 3 [1] Z)) Z)))))))))
      refine G.lex mixed [0,2,6,1,3,4,5,7,8,9,10,11,12,14,13,15,16,17,18,19,20,21] (by kernel_rfl) ?_
      replace HS:=HS.drew
      refine qL Z Z (fun _ _ g=>fL b1 0 Du Z g) Z (qL Z Z (fun _ _ g=>fL b1579 0 Dp Z g) Z (GX.ps 1 Z (GX.l1 Z Z Z (fun _ g=>lB 1 HS Z Gu Z g) Z (GX.l1 Z Z Z (fun _ g=>lB 2 HS Z na2 Z g) Z (qL Z Z (fun _ _ g=>iX Z U29 Jg (rk (rD 3 r_a) HS) c1624 g) Z (GX.l1 Z Z Z (fun _ g=>GO.Cj (T:=(Ty.slice 107 Ad)) (n:=e1577.Tet.toNat) (o:=0) HS (rD 3 r_a) Z Z (getD_some (d:=[]) (ltN c1624)) Z Z Jh Z g) Z (qL Z Z (fun _ _ g=>GO.ix Z Z Z U77 G9 ((Ce.elem (rD 3 r_a) c1624.1 c1624.2) _ HS).2.2.1 c1625.1 c1625.2 Z g) Z (GX.l1 Z Z Z (fun _ g=>GO.Hw (T:=Ad) (n:=t1613.toNat) HS (Ce.elem (rD 3 r_a) c1624.1 c1624.2) Z Z (Cn (ltN c1625) h1627) D9 Z g) Z (GX.l1 Z Z Z (fun _ g=>lW 0 HS Z D9 g) Z (qL Z Z (fun _ _ g=>GO.sU Z Z Z Vg (fun _=>Uv) Z g) Z (qL Z Z (fun _ _ g=>mV Z (kN 85 Z (nT c1628) g)) Z (qL Z Z (fun _ _ g=>oN Z (fL b1579 0 Dp Z (bK g))) Z (qL Z Z (fun _ _ g=>oN Z (mV Z (bK g))) Z (GX.l1 Z Z Z (fun _ g=>oN Z (lB 2 HS Z na2 Z (bK g))) Z ?_))))))))))))))
      refine qL Z Z (fun _ _ g=>oN Z (GO.eql Z Z Z Z (bK g))) Z (qL Z Z (fun _ _ g=>oN Z (mV Z (bK (kN 90 Z (tT c1629) g)))) Z (qL Z Z (fun _ _ g=>oN Z (mV Z (bK g))) Z (qL Z Z (fun _ _ g=>oN Z (mV Z (bK g))) Z (qL Z Z (fun _ _ g=>oN Z (GO.eql Z Z Z Z (bK g))) Z (qL Z Z (fun _ _ g=>oN Z (GO.Iz Z Z Z Z Z (bK g))) Z (GX.ps 1 Z (GX.nil ?_)))))))
      rcases iE H with ⟨c1630,H⟩ | ⟨c1630,H⟩
      ·
       refine yB Z (tT c1630) (rN 2 Z ?_)
       obtain rfl:=sI H
       exact rT _ func45 Z Z ⟨Z,(HS.pk 3 [] Z)⟩
      refine nB Z (tF c1630) (rN 4 Z (gW (g1 i1 (Nat.le_of_succ_le h1) _ _ H (HS.pk 3 [1] Z)) Z))
     rcases iS H with ⟨c1631,H⟩ | ⟨c1631,H⟩
     ·
      refine rG (fL b1579 0 Dp Z (lB 0 HS Z na2 Z (pS 2 Z (kN 47 Z (tF c1631) (oF Z (oF Z (oF Z (GO.Jm Z Z Z Z Z (nL (gW (s1 f1 (lR _) _ _ H (HS.pk 2 [1,0] Z)) Z))))))))))
     refine rG (fL b1579 0 Dp Z (lB 0 HS Z na2 Z (pS 2 Z (kN 47 Z (tT c1631) (oN Z (fL b1579 1 Gn Z (bK (oN Z (lB 0 HS Z na2 Z (bK (oN Z (GO.eql Z Z Z Z (bK (GO.Iz Z Z Z Z Z ?_))))))))))))))
     refine nL (gW (s1 f1 (lR _) _ _ H (HS.pk 2 [1,0] Z)) Z)
    exact gW (y1 q1 (lR _) _ _ H HS) Z
   exact gW (u1 k1 (lR _) _ _ H HS) Z
  exact gW (g2 K (lR _) _ _ H HS) Z
theorem E9.calls {kind r1:Int} (HS:St w0 w (L)) (H:E9.f K kind=some r1) :
    Calls prog 62 #[I kind] w (E9.post w0 L r1):=by
  unfold E9.f at H
  refine cG func62 Z ?_
  refine rN 9 Z ?_
  refine G.Ov (fun c1 d1=>?_)
  have a1:∀ b1,b1≤K→∀ (x2:Bool) (w:World),E9.j1 K b1 kind x2=some r1→St w0 w (L)→G prog 62 11 [(3,I kind),(4,.bool x2)] c1 w (E9.post w0 L r1):=by
   refine jp (fun _ w H _=>by rw [E9.j1] at H; cases H) fun f1 e1 x2 w H HS=>?_
   rw [E9.j1] at H
   subst d1
   rcases iE H with ⟨c3,H⟩ | ⟨c3,H⟩
   ·
    refine yB Z c3 (rN 2 Z ?_)
    obtain rfl:=sI H
    exact rT _ func62 Z Z ⟨Z,HS⟩
   refine nB Z (Db c3) (rN 2 Z ?_)
   rcases iE H with ⟨c4,H⟩ | ⟨c4,H⟩
   ·
    refine yB Z (tT c4) (rN 2 Z ?_)
    obtain rfl:=sI H
    exact rT _ func62 Z Z ⟨Z,HS⟩
   refine nB Z (tF c4) (rN 2 Z ?_)
   rcases iE H with ⟨c5,H⟩ | ⟨c5,H⟩
   ·
    refine yB Z (tT c5) (rN 2 Z ?_)
    obtain rfl:=sI H
    exact rT _ func62 Z Z ⟨Z,HS⟩
   refine nB Z (tF c5) (rN 4 Z ?_)
   obtain rfl:=sI H
   exact rT _ func62 Z Z ⟨Z,HS⟩
  rcases iE H with ⟨c6,H⟩ | ⟨c6,H⟩
  ·
   refine yB Z (tT c6) (G.skip (gW (a1 K (lR _) _ _ H HS) Z))
  refine nB Z (tF c6) (rN 1 Z (gW (a1 K (lR _) _ _ H HS) Z))
theorem Gd.calls {r1:List Ab} (HS:St w0 w (L)) (H:Gd.f=some r1) :
    Calls prog 83 #[] w (Gd.post w0 L r1):=by
  unfold Gd.f at H
  refine cG func83 Z ?_
  refine rN 3 Z (rG (GO.Dr (.agg [I (-1),I 0].toArray) Z Z (fun _=>by kernel_rfl) Z (GO.Dr (.agg [I (-1),I 0].toArray) Z Z (fun _=>by kernel_rfl) Z (GO.Dr (.agg [I (-1),I 0].toArray) Z Z (fun _=>by kernel_rfl) Z (GO.Dr (.agg [I (-1),I 0].toArray) Z Z (fun _=>by kernel_rfl) Z (GO.Cw (el:=107) ([I (-1),I 0,I (-1),I 0,I (-1),I 0,I (-1),I 0]) HS Z Z (fun _=>by kernel_rfl) Z fun b1 wd2 HS=>?_))))))
  replace HS:=HS.Fq (T:=Ad) (j:=0) Z Ba uu ([(⟨(-1),0⟩:Ab),(⟨(-1),0⟩:Ab),(⟨(-1),0⟩:Ab),(⟨(-1),0⟩:Ab)]:List Ab) Z (Il Z)
  refine GO.H7 (t:=5) (m:=([(⟨(-1),0⟩:Ab),(⟨(-1),0⟩:Ab),(⟨(-1),0⟩:Ab),(⟨(-1),0⟩:Ab)]:List Ab).length) (c':=([(⟨(-1),0⟩:Ab),(⟨(-1),0⟩:Ab),(⟨(-1),0⟩:Ab),(⟨(-1),0⟩:Ab)]:List Ab).length) Z Z Z (aS Z (nL ?_))
  obtain rfl:=sI H
  exact rT _ func83 Z Z ⟨_,_,Z,HS⟩
theorem Fe.calls {a1 to:List Int} {r1:Int} (HS:St w0 w (L)) (r_a:Ce w0 L (Ar .i64) A_a c_a uu a1) (r_b:Ce w0 L (Ar .i64) A_b c_b uu to) (H:Fe.f K a1 to=some r1) :
    Calls prog 131 #[sV A_a a1 c_a,sV A_b to c_b] w (Fe.post w0 L r1):=by
  unfold Fe.f at H
  refine cG func131 Z ?_
  refine rN 3 Z (rG (GO.Cw (el:=2) ([I 0,I 0,I 0,I 0]) HS Z Z (fun _=>by kernel_rfl) Z fun b1 wd2 HS=>?_))
  replace HS:=HS.Fq (T:=(Ar .i64)) (j:=0) Z Ba uu ([0,0,0,0]:List Int) Z (Il Z)
  refine GO.H7 (t:=7) (m:=([0,0,0,0]:List Int).length) (c':=([0,0,0,0]:List Int).length) Z Z Z (aS Z (nL (rN 5 Z ?_)))
  refine G.name (fun i1 f1=>?_)
  have g1:∀ d1,d1≤K→∀ (c1:List Int) (i_9:Int) (w:World),Fe.l1 K d1 a1 to c1 i_9=some r1→St w0 w (Own (Ar .i64) 2 (sb b1) (([0,0,0,0]:List Int).length) uu c1::L)→G prog 131 24 [(0,sV A_a a1 c_a),(1,sV A_b to c_b),(5,sV (sb b1) c1 (([0,0,0,0]:List Int).length)),(6,I i_9)] i1 w (Fe.post w0 L r1):=by
   refine lp (fun _ _ w H _=>by rw [Fe.l1] at H; cases H) fun e1 k1 h1 c1 i_9 w H HS=>?_
   rw [Fe.l1] at H
   subst f1
   refine rN 3 Z ?_
   rcases iS H with ⟨c20,H⟩ | ⟨c20,H⟩
   ·
    refine nB Z (tF c20) (rN 2 Z ?_)
    obtain ⟨t26,h27,H⟩:=bI H
    refine rG (mV Z (fJ Sj Z (C8.calls HS (ro 0 Z) h27) (fun _ wd28 ⟨h29,HS⟩=>⟨_,h29,(aS Z (nL ?_))⟩)))
    obtain rfl:=sI H
    exact rT _ func131 Z Z ⟨Z,(HS.pk 1 [] Z)⟩
   refine yB Z (tT c20) (rN 3 Z ?_)
   obtain ⟨c21,H⟩:=iN H
   obtain ⟨c22,H⟩:=iN H
   obtain ⟨c23,H⟩:=iN H
   have h24:=(rk (ro 0 Z) HS)
   refine G.lex mixed [0,1,2,3,5,6,7,4,8,9,10] (by kernel_rfl) ?_
   replace HS:=HS.drew
   refine GX.ps 3 Z (qL Z Z (fun _ _ g=>iX Z U56 sz2 (rk (rD 1 r_a) HS) c21 g) Z (GX.ps 2 Z (qL Z Z (fun _ _ g=>iX Z U56 sz2 (rk (rD 1 r_b) HS) c22 g) Z (GX.l1 Z Z Z (fun _ g=>GO.Cj (T:=(Ar .i64)) (n:=i_9.toNat) (o:=0) HS (rD 1 r_a) Z Z (getD_some (d:=0) (ltN c21)) Z Z na2 Z g) Z (GX.l1 Z Z Z (fun _ g=>GO.Cj (T:=(Ar .i64)) (n:=i_9.toNat) (o:=0) HS (rD 1 r_b) Z Z (getD_some (d:=0) (ltN c22)) Z Z na2 Z g) Z (qL Z Z (fun _ _ g=>iX Z U56 sz2 h24 c23 g) Z (GX.l2 Z (GO.Ii (T:=(Ar .i64)) (j:=0) (n:=(a1.getD i_9.toNat 0).toNat) (o:=0) (vs:=[I (to.getD i_9.toNat 0)]) (to.getD i_9.toNat 0) HS Z Ba Z Z Z Z (htN na2 Z) Z (getD_some (d:=0) (ltN c23)) Z Z fun wd25 HS=>GX.fin tv (GX.nil (G.len (t:=5) (m:=(c1.set ((a1.getD i_9.toNat 0).toNat) (to.getD i_9.toNat 0)).length) Z (by simp only [List.length_set] <;> rfl) (rN 3 Z (gW (h1 e1 (lR _) _ _ _ H HS) Z))))))))))))
  exact gW (g1 K (lR _) _ _ _ H HS) Z
theorem Dl.calls {e2:List (List Ab)} {o A:Int} {y_a:Nat→(Ty.slice 107 Ad).Lay} {r1:List Int} {r2:List (List Ab)} {r3:List Av} {r4:Bool} (HS:St w0 w (L)) (r_a:Ce w0 L (Ty.slice 107 Ad) A_a c_a y_a e2) (H:Dl.f K e2 o A=some (r1,r2,r3,r4)) :
    Calls prog 103 #[.agg [sV A_a e2 c_a].toArray,I o,I A] w (Dl.post w0 L r1 r2 r3 r4):=by
  unfold Dl.f at H
  refine cG func103 Z ?_
  refine sQ (rG (bA HS Z fun b1 wd2 HS=>GO.alloc HS Z Qr Z Z fun b3 wd4 HS=>aS Z (nL (sQ ?_))))
  obtain ⟨c5,H⟩:=iN H
  obtain ⟨c6,H⟩:=iN H
  obtain ⟨e7,h8,H⟩:=Di H
  refine rG (fL b1 0 Du Z (lB 1 HS Z Gu Z (mV Z (iX Z U29 Jg (rk (rD 2 r_a) HS) c5 (GO.Cj (T:=(Ty.slice 107 Ad)) (n:=o.toNat) (o:=0) HS (rD 2 r_a) Z Z (getD_some (d:=[]) (ltN c5)) Z Z Jh Z (mV Z (GO.ix Z Z Z U77 G9 ((Ce.elem (rD 2 r_a) c5.1 c5.2) _ HS).2.2.1 c6.1 c6.2 Z (GO.Hw (T:=Ad) (n:=A.toNat) HS (Ce.elem (rD 2 r_a) c5.1 c5.2) Z Z (Cn (ltN c6) h8) D9 Z (GO.alloc HS Z Jz Z Z fun b9 wd10 HS=>sW 0 HS Z D9 Z fun wd11 HS=>nL (rN 2 Z ?_))))))))))
  rcases iE H with ⟨c13,H⟩ | ⟨c13,H⟩
  ·
   refine rG (fL b9 0 Dp Z (lB 0 HS Z na2 Z (pS 2 Z (kN 29 Z (tT c13) (oF Z (oF Z (oF Z (oF Z (GO.Iz Z Z Z Z Z (nL (rN 2 Z (rG (GO.Dr (.agg [.slice none 0 0,.slice none 0 0,.slice none 0 0].toArray) Z Z (fun _=>by kernel_rfl) Z (sW 1 HS Z Ht Z fun wd14 HS=>?_))))))))))))))
   refine aS Z (nL ?_)
   replace HS:=HS.Dm (Ar .i64) 2 uu
   replace HS:=HS.Dm (Ty.slice 107 Ad) 77 (fun _=>⟨none,0,uu⟩)
   replace HS:=HS.Dm Ci 122 uu
   obtain ⟨rfl,rfl,rfl,rfl⟩:=I8 H
   exact G.Hy _ _ func103 Z (Gz.Hu (j:=4) (vs:=[.slice none 0 0,.slice none 0 0,.slice none 0 0]) HS Z Z Z Ht) Z ⟨_,_,_,_,_,_,_,Z,(HS.pk 6 [2,1,0] Z)⟩
  refine rG (fL b9 0 Dp Z (lB 0 HS Z na2 Z (pS 2 Z (kN 29 Z (tF c13) (oN Z (fL b9 0 Dp Z (bK (oN Z (lB 0 HS Z na2 Z (bK (oN Z (mV Z (bK (oN Z ?_))))))))))))))
  refine GO.eql Z Z Z Z (bK (GO.Jm Z Z Z Z Z (nL ?_)))
  rcases iE H with ⟨c15,H⟩ | ⟨c15,H⟩
  ·
   refine yB Z (tT c15) (sQ (rG (GO.Dr (.agg [.slice none 0 0,.slice none 0 0,.slice none 0 0].toArray) Z Z (fun _=>by kernel_rfl) Z (sW 1 HS Z Ht Z fun wd16 HS=>aS Z (nL ?_)))))
   replace HS:=HS.Dm (Ar .i64) 2 uu
   replace HS:=HS.Dm (Ty.slice 107 Ad) 77 (fun _=>⟨none,0,uu⟩)
   replace HS:=HS.Dm Ci 122 uu
   obtain ⟨rfl,rfl,rfl,rfl⟩:=I8 H
   exact G.Hy _ _ func103 Z (Gz.Hu (j:=4) (vs:=[.slice none 0 0,.slice none 0 0,.slice none 0 0]) HS Z Z Z Ht) Z ⟨_,_,_,_,_,_,_,Z,(HS.pk 6 [2,1,0] Z)⟩
  refine nB Z (tF c15) (rN 2 Z (rG (GO.Cw (el:=2) ([]) HS Z Z (fun _=>by kernel_rfl) Z fun b17 wd18 HS=>?_)))
  replace HS:=HS.Fq (T:=(Ar .i64)) (j:=0) Z Ba uu ([]:List Int) Z (Il Z)
  refine GO.H7 (t:=36) (m:=([]:List Int).length) (c':=([]:List Int).length) Z Z Z (aS Z (nL (rN 5 Z ?_)))
  refine G.name (fun m2 p2=>?_)
  have s2:∀ f2,f2≤K→∀ (A26:Option Addr) (c27:Nat) (x28:List Int) (x29:Int) (w:World),Dl.l1 K f2 o A e7 x28 x29=some (r1,r2,r3,r4)→St w0 w (Box b3 65 [.slice none 0 0,.slice none 0 0,.slice none 0 0]::Box b9 107 [I e7.Tet,I e7.Perm]::Own (Ar .i64) 2 A26 c27 uu x28::L)→G prog 103 138 [(1,I o),(2,I A),(6,pT b3),(8,pT b9),(9,sV A26 x28 c27),(10,I x29)] m2 w (Dl.post w0 L r1 r2 r3 r4):=by
   refine lp (fun _ _ _ _ w H _=>by rw [Dl.l1] at H; cases H) fun c2 u2 h2 A26 c27 x28 x29 w H HS=>?_
   rw [Dl.l1] at H
   subst p2
   refine rN 3 Z ?_
   rcases iE H with ⟨c277,H⟩ | ⟨c277,H⟩
   ·
    refine yB Z (tT c277) (rN 5 Z ?_)
    rcases iE H with ⟨c278,H⟩ | ⟨c278,H⟩
    ·
     refine nB Z (nT c278) (rN 4 Z (gW (h2 c2 (lR _) _ _ _ _ _ H HS) Z))
    refine yB Z (nF c278) ?_
    obtain ⟨c284,H⟩:=iN H
    refine rG (pS 2 Z (GO.Cw (el:=2) ([I x29]) HS Z Z (fun _=>by kernel_rfl) Z fun b279 wd280 HS=>GO.app1 (T:=(Ar .i64)) (j:=3) (jb:=0) x29 HS Z Z Ba Z Z Z U56 Ml Z Z Z c284 Z fun A282 c283 wd281 HS=>aS Z (nL (rN 3 Z (gW (h2 c2 (lR _) _ _ _ _ _ H (HS.pk 4 [1,2,3] Z)) Z)))))
   refine nB Z (tF c277) (rN 2 Z (rG (mV Z (fL b9 0 Dp Z (lB 1 HS Z na2 Z (GO.Cw (el:=2) ([I o,I e7.Tet]) HS Z Z (fun _=>by kernel_rfl) Z fun b285 wd286 HS=>?_))))))
   replace HS:=HS.Fq (T:=(Ar .i64)) (j:=0) Z Ba uu ([o,e7.Tet]:List Int) Z (Il Z)
   refine GO.H7 (t:=51) (m:=([o,e7.Tet]:List Int).length) (c':=([o,e7.Tet]:List Int).length) Z Z Z (GO.Dr (.agg [sV (sb b285) ([o,e7.Tet]:List Int) (([o,e7.Tet]:List Int).length),.slice none 0 0,.slice none 0 0].toArray) Z Z (fun _=>by kernel_rfl) Z (GO.alloc HS Z Qr Z Z fun b287 wd288 HS=>sW 0 HS Z Ht Z fun wd289 HS=>nL (rN 5 Z ?_)))
   refine G.name (fun k2 i2=>?_)
   have o2:∀ g2,g2≤c2→∀ (A364:Option Addr) (c365:Nat) (x366:List (List Ab)) (y367:Nat→(Ty.slice 107 Ad).Lay) (A368:Option Addr) (c369:Nat) (x370:List Av) (x371:Int) (w:World),Dl.l3 K g2 o A e7 x28 x366 x370 x371=some (r1,r2,r3,r4)→St w0 w (Box b3 65 [.slice none 0 0,.slice none 0 0,.slice none 0 0]::Box b9 107 [I e7.Tet,I e7.Perm]::Own (Ar .i64) 2 A26 c27 uu x28::Box b287 65 [sV (sb b285) ([o,e7.Tet]:List Int) (([o,e7.Tet]:List Int).length),sV A364 x366 c365,sV A368 x370 c369]::Own (Ar .i64) 2 (sb b285) (([o,e7.Tet]:List Int).length) uu ([o,e7.Tet]:List Int)::Own (Ty.slice 107 Ad) 77 A364 c365 y367 x366::Own Ci 122 A368 c369 uu x370::L)→G prog 103 138 [(1,I o),(2,I A),(6,pT b3),(8,pT b9),(9,sV A26 x28 c27),(11,pT b287),(12,I x371)] k2 w (Dl.post w0 L r1 r2 r3 r4):=by
    refine lp (fun _ _ _ _ _ _ _ _ w H _=>by rw [Dl.l3] at H; cases H) fun q2 t2 n2 A364 c365 x366 y367 A368 c369 x370 x371 w H HS=>?_
    rw [Dl.l3] at H
    subst i2
    refine rN 3 Z ?_
    rcases iS H with ⟨c448,H⟩ | ⟨c448,H⟩
    ·
     refine nB Z (tF c448) (rN 2 Z (rG (lW 3 HS Z Ht (sW 0 HS Z Ht Z fun wd523 HS=>aS Z (nL ?_)))))
     obtain ⟨rfl,rfl,rfl,rfl⟩:=I8 H
     exact G.Hy _ _ func103 Z (Gz.Hu (j:=0) (vs:=[sV (sb b285) ([o,e7.Tet]:List Int) (([o,e7.Tet]:List Int).length),sV A364 x366 c365,sV A368 x370 c369]) HS Z Z Z Ht) Z ⟨_,_,_,_,_,_,_,Z,(HS.pk 7 [4,5,6] Z)⟩
    refine yB Z (tT c448) (rN 4 Z ?_)
    obtain ⟨c449,H⟩:=iN H
    have h450:=(rk (ro 2 Z) HS)
    obtain ⟨c451,H⟩:=iN H
    have h452:=(rk (ro 2 Z) HS)
    obtain ⟨c453,H⟩:=iN H
    have h454:=(rk (ro 2 Z) HS)
    refine G.lex mixed [0,1,2,3,4,6,7,8,9,10,12,13,14,5,16,11,17,15,18] (by kernel_rfl) ?_
    replace HS:=HS.drew
    refine GX.ps 3 Z (qL Z Z (fun _ _ g=>GO.rem Z Z Z (by decide) Z g) Z (qL Z Z (fun _ _ g=>iX Z U56 sz2 h450 c449 g) Z (GX.ps 3 Z (qL Z Z (fun _ _ g=>GO.rem Z Z Z (by decide) Z g) Z (qL Z Z (fun _ _ g=>iX Z U56 sz2 h452 c451 g) Z (GX.ps 2 Z (qL Z Z (fun _ _ g=>iX Z U56 sz2 h454 c453 g) Z (GX.l1 Z Z Z (fun _ g=>GO.Cj (T:=(Ar .i64)) (n:=((w64 (x371+1)).tmod 3).toNat) (o:=0) HS (ro 2 Z) Z Z (getD_some (d:=0) (ltN c449)) Z Z na2 Z g) Z (GX.ps 1 Z (GX.l1 Z Z Z (fun _ g=>GO.Cj (T:=(Ar .i64)) (n:=((w64 (x371+2)).tmod 3).toNat) (o:=0) HS (ro 2 Z) Z Z (getD_some (d:=0) (ltN c451)) Z Z na2 Z g) Z (GX.ps 1 Z (GX.l1 Z Z Z (fun _ g=>GO.Cj (T:=(Ar .i64)) (n:=x371.toNat) (o:=0) HS (ro 2 Z) Z Z (getD_some (d:=0) (ltN c453)) Z Z na2 Z g) Z (GX.ps 1 Z (GX.nil ?_))))))))))))))
    refine sQ ?_
    obtain ⟨t455,h456,H⟩:=bI H
    refine rG (fJ Ti Z (Gd.calls HS  h456) (fun _ wd459 ⟨A457,c458,h460,HS⟩=>⟨_,h460,(aS Z (nL (sQ ?_)))⟩))
    obtain ⟨c461,H⟩:=iN H
    refine rG (pS 3 Z (GO.rem Z Z Z (by decide) Z (GO.Dr (.agg [I ((w64 (x371+1)).tmod 3),I 1].toArray) Z Z (fun _=>by kernel_rfl) Z (iX Z U77 G9 (rk (ro 0 Z) HS) c461 (GO.Ii (T:=Ad) (j:=0) (n:=2) (o:=0) (vs:=[I ((w64 (x371+1)).tmod 3),I 1]) (⟨(w64 (x371+1)).tmod 3,1⟩:Ab) HS Z Ba Z Z Z Z (htA D9) Z (getD_some (d:=Bj) (ltN c461)) Z Z fun wd462 HS=>nL (G.len (t:=16) (m:=(t455.set 2 (⟨(w64 (x371+1)).tmod 3,1⟩:Ab)).length) Z (by simp only [List.length_set] <;> rfl) (sQ ?_)))))))
    obtain ⟨c463,H⟩:=iN H
    refine rG (pS 3 Z (GO.rem Z Z Z (by decide) Z (GO.Dr (.agg [I ((w64 (x371+2)).tmod 3),I 1].toArray) Z Z (fun _=>by kernel_rfl) Z (iX Z U77 G9 (rk (ro 0 Z) HS) c463 (GO.Ii (T:=Ad) (j:=0) (n:=3) (o:=0) (vs:=[I ((w64 (x371+2)).tmod 3),I 1]) (⟨(w64 (x371+2)).tmod 3,1⟩:Ab) HS Z Ba Z Z Z Z (htA D9) Z (getD_some (d:=Bj) (ltN c463)) Z Z fun wd464 HS=>nL (G.len (t:=16) (m:=((t455.set 2 (⟨(w64 (x371+1)).tmod 3,1⟩:Ab)).set 3 (⟨(w64 (x371+2)).tmod 3,1⟩:Ab)).length) Z (by simp only [List.length_set] <;> rfl) (sQ ?_)))))))
    obtain ⟨c470,H⟩:=iN H
    refine rG (fL b287 1 N8 Z (lB 4 HS Z Gu Z (mV Z (GO.Cw (el:=77) ([sV A457 ((t455.set 2 (⟨(w64 (x371+1)).tmod 3,1⟩:Ab)).set 3 (⟨(w64 (x371+2)).tmod 3,1⟩:Ab)) c458]) HS Z Z (fun _=>by kernel_rfl) Z fun b465 wd466 HS=>?_))))
    replace HS:=HS.pk 9 [7,0,1,2,3,4,5,6,8] Z
    refine GO.Ul (S:=Ad) (u:=107) HS Z Z Z U29 Qb Z Z c470 Z fun A468 c469 y471 wd467 HS=>fL b287 1 N8 Z (GO.Ie (j:=5) (vs:=[sV A468 (x366++[((t455.set 2 (⟨(w64 (x371+1)).tmod 3,1⟩:Ab)).set 3 (⟨(w64 (x371+2)).tmod 3,1⟩:Ab))]) c469]) ([sV (sb b285) ([o,e7.Tet]:List Int) (([o,e7.Tet]:List Int).length),sV A468 (x366++[((t455.set 2 (⟨(w64 (x371+1)).tmod 3,1⟩:Ab)).set 3 (⟨(w64 (x371+2)).tmod 3,1⟩:Ab))]) c469,sV A368 x370 c369]) HS Z Z Z Z Z (htN Gu Z) Z Z Z fun wd472 HS=>nL (sQ ?_))
    obtain ⟨t477,h478,H⟩:=bI H
    obtain ⟨c486,H⟩:=iN H
    refine G.K7 mixed (by decide) (fun b a w=>∃ (b473:Nat) (b475:Nat) (b481:Nat) (A484:Option Addr) (c485:Nat) (t1:Cy) (y1:Cy) (a2:Cy) (s1:Cy) (b2:Cy),RS 138 [(1,I o),(2,I A),(6,pT b3),(8,pT b9),(9,sV A26 x28 c27),(11,pT b287),(12,I x371),(13,I (x28.getD (((w64 (x371+1)).tmod 3).toNat) 0)),(14,I (x28.getD (((w64 (x371+2)).tmod 3).toNat) 0)),(15,I (x28.getD x371.toNat 0))] [rv 92 (.pointer (some ⟨b287,2,none⟩)),rv 93 (sV A368 x370 c369),rv 94 (I o),rv 95 (I (x28.getD x371.toNat 0)),rv 96 (I x371),rv 97 (I A),rv 98 (I (x28.getD (((w64 (x371+1)).tmod 3).toNat) 0)),rv 99 (I (x28.getD (((w64 (x371+2)).tmod 3).toNat) 0)),rv 100 (I (x28.getD x371.toNat 0)),rv 101 (.slice (sb b473) 4 4),rv 102 (.slice (sb b475) 4 4),rv 103 (I t477),rv 104 (.agg [I o,I (x28.getD x371.toNat 0),I x371,I t477].toArray),rv 105 (.slice (sb b481) 1 1),rv 106 (sV A484 (x370++[(⟨o,x28.getD x371.toNat 0,x371,t477⟩:Av)]) c485),rv 107 (.pointer (some ⟨b287,2,none⟩)),none] b a∧St w0 w (Own (Ty.slice 107 Ad) 77 A468 c469 y471 (x366++[((t455.set 2 (⟨(w64 (x371+1)).tmod 3,1⟩:Ab)).set 3 (⟨(w64 (x371+2)).tmod 3,1⟩:Ab))])::Box b465 77 [sV A457 ((t455.set 2 (⟨(w64 (x371+1)).tmod 3,1⟩:Ab)).set 3 (⟨(w64 (x371+2)).tmod 3,1⟩:Ab)) c458]::Box b3 65 [.slice none 0 0,.slice none 0 0,.slice none 0 0]::Box b9 107 [I e7.Tet,I e7.Perm]::Own (Ar .i64) 2 A26 c27 uu x28::t1::Own (Ar .i64) 2 (sb b285) (([o,e7.Tet]:List Int).length) uu ([o,e7.Tet]:List Int)::y1::a2::s1::b2::L)∧(b 16=false→t1=Box b287 65 [sV (sb b285) ([o,e7.Tet]:List Int) (([o,e7.Tet]:List Int).length),sV A468 (x366++[((t455.set 2 (⟨(w64 (x371+1)).tmod 3,1⟩:Ab)).set 3 (⟨(w64 (x371+2)).tmod 3,1⟩:Ab))]) c469,sV A368 x370 c369])∧(b 16=true→t1=Box b287 65 [sV (sb b285) ([o,e7.Tet]:List Int) (([o,e7.Tet]:List Int).length),sV A468 (x366++[((t455.set 2 (⟨(w64 (x371+1)).tmod 3,1⟩:Ab)).set 3 (⟨(w64 (x371+2)).tmod 3,1⟩:Ab))]) c469,sV A484 (x370++[(⟨o,x28.getD x371.toNat 0,x371,t477⟩:Av)]) c485])∧(b 14=false→y1=Own Ci 122 A368 c369 uu x370)∧(b 14=true→y1=Own Ci 122 A484 c485 uu (x370++[(⟨o,x28.getD x371.toNat 0,x371,t477⟩:Av)]))∧(b 9=true→b 11=false→a2=Box b473 2 [I A,I (x28.getD (((w64 (x371+1)).tmod 3).toNat) 0),I (x28.getD (((w64 (x371+2)).tmod 3).toNat) 0),I (x28.getD x371.toNat 0)])∧(b 11=true→a2=Own (Ar .i64) 2 (sb b473) (([A,x28.getD (((w64 (x371+1)).tmod 3).toNat) 0,x28.getD (((w64 (x371+2)).tmod 3).toNat) 0,x28.getD x371.toNat 0]:List Int).length) uu ([A,x28.getD (((w64 (x371+1)).tmod 3).toNat) 0,x28.getD (((w64 (x371+2)).tmod 3).toNat) 0,x28.getD x371.toNat 0]:List Int))∧(b 10=true→b 11=false→s1=Box b475 2 [I 0,I 2,I 3,I 1])∧(b 11=true→s1=Own (Ar .i64) 2 (sb b475) (([0,2,3,1]:List Int).length) uu ([0,2,3,1]:List Int))∧(b 13=true→b2=Box b481 122 [I o,I (x28.getD x371.toNat 0),I x371,I t477])) ?_ ?_ ?_
    · exact fun a hs=>⟨0,0,0,none,0,Box b287 65 [sV (sb b285) ([o,e7.Tet]:List Int) (([o,e7.Tet]:List Int).length),sV A468 (x366++[((t455.set 2 (⟨(w64 (x371+1)).tmod 3,1⟩:Ab)).set 3 (⟨(w64 (x371+2)).tmod 3,1⟩:Ab))]) c469,sV A368 x370 c369],Own Ci 122 A368 c369 uu x370,Emp,Emp,Emp,hs.init Z,(HS.drew.emp.emp.emp.pk 11 [3,4,5,6,7,8,9,10,2,1,0] Z),fun _=>Z,fun h=>Bool.noConfusion h,fun _=>Z,fun h=>Bool.noConfusion h,fun h=>Bool.noConfusion h,fun h=>Bool.noConfusion h,fun h=>Bool.noConfusion h,fun h=>Bool.noConfusion h,fun h=>Bool.noConfusion h⟩
    ·
     intro j b a w hj
     refine exI fun b473=>exI fun b475=>exI fun b481=>exI fun A484=>exI fun c485=>exI fun t1=>exI fun y1=>exI fun a2=>exI fun s1=>exI fun b2=>anI fun hs=>fun hM q=>?_
     have HS:=hM.1
     match j,hj with
     | 0,_ =>
      refine hs.at q [] [] (fL b287 2 Ko Z (hs.fin q Z fun _ hs=>⟨_,_,_,_,_,_,_,_,_,_,hs,hM⟩))
     | 1,_ =>
      refine (anI fun HS=>anI fun a1=>anI fun e1=>anI fun c1=>anI fun d1=>anI fun o1=>anI fun h1=>anI fun k1=>anI fun q1=>fun f1=>?_) hM
      have d16:=q.off 16
      obtain rfl:=a1 d16
      refine hs.at q [0] [] (lB 5 HS Z Pf Z (hs.fin q Z fun _ hs=>⟨b473,b475,b481,A484,c485,_,_,_,_,_,hs,HS,a1,e1,c1,d1,o1,h1,k1,q1,f1⟩))
     | 2,_ =>
      refine hs.at q [] [] (mV Z (hs.fin q Z fun _ hs=>⟨_,_,_,_,_,_,_,_,_,_,hs,hM⟩))
     | 3,_ =>
      refine hs.at q [] [] (mV Z (hs.fin q Z fun _ hs=>⟨_,_,_,_,_,_,_,_,_,_,hs,hM⟩))
     | 4,_ =>
      refine hs.at q [] [] (mV Z (hs.fin q Z fun _ hs=>⟨_,_,_,_,_,_,_,_,_,_,hs,hM⟩))
     | 5,_ =>
      refine hs.at q [] [] (mV Z (hs.fin q Z fun _ hs=>⟨_,_,_,_,_,_,_,_,_,_,hs,hM⟩))
     | 6,_ =>
      refine hs.at q [] [] (mV Z (hs.fin q Z fun _ hs=>⟨_,_,_,_,_,_,_,_,_,_,hs,hM⟩))
     | 7,_ =>
      refine hs.at q [] [] (mV Z (hs.fin q Z fun _ hs=>⟨_,_,_,_,_,_,_,_,_,_,hs,hM⟩))
     | 8,_ =>
      refine hs.at q [] [] (mV Z (hs.fin q Z fun _ hs=>⟨_,_,_,_,_,_,_,_,_,_,hs,hM⟩))
     | 9,_ =>
      refine (anI fun HS=>anI fun a1=>anI fun e1=>anI fun c1=>anI fun d1=>anI fun o1=>anI fun h1=>anI fun k1=>anI fun q1=>fun f1=>?_) hM
      refine hs.at q [5,6,7,8] [] (GO.Cw (el:=2) ([I A,I (x28.getD (((w64 (x371+1)).tmod 3).toNat) 0),I (x28.getD (((w64 (x371+2)).tmod 3).toNat) 0),I (x28.getD x371.toNat 0)]) HS Z Z (fun _=>by kernel_rfl) Z fun b473 wd474 HS=>hs.Oj q [9] (fun _ hs=>⟨b473,b475,b481,A484,c485,_,_,Box b473 2 [I A,I (x28.getD (((w64 (x371+1)).tmod 3).toNat) 0),I (x28.getD (((w64 (x371+2)).tmod 3).toNat) 0),I (x28.getD x371.toNat 0)],_,_,hs,HS.pk 12 [1,2,3,4,5,6,7,8,0,10,11] Z,a1,e1,c1,d1,fun _ _=>Z,fun hh=>(q.no 11 hh).elim,k1,q1,f1⟩) Z Z)
     | 10,_ =>
      refine (anI fun HS=>anI fun a1=>anI fun e1=>anI fun c1=>anI fun d1=>anI fun o1=>anI fun h1=>anI fun k1=>anI fun q1=>fun f1=>?_) hM
      refine hs.at q [] [] (GO.Cw (el:=2) ([I 0,I 2,I 3,I 1]) HS Z Z (fun _=>by kernel_rfl) Z fun b475 wd476 HS=>hs.Oj q [10] (fun _ hs=>⟨b473,b475,b481,A484,c485,_,_,_,Box b475 2 [I 0,I 2,I 3,I 1],_,hs,HS.pk 12 [1,2,3,4,5,6,7,8,9,0,11] Z,a1,e1,c1,d1,o1,h1,fun _ _=>Z,fun hh=>(q.no 11 hh).elim,f1⟩) Z Z)
     | 11,_ =>
      refine (anI fun HS=>anI fun a1=>anI fun e1=>anI fun c1=>anI fun d1=>anI fun o1=>anI fun h1=>anI fun k1=>anI fun q1=>fun f1=>?_) hM
      have hb9:=q.on 9
      obtain rfl:=o1 hb9 q.hb
      have hb10:=q.on 10
      obtain rfl:=k1 hb10 q.hb
      refine hs.at q [9,10] [] ?_
      replace HS:=HS.Fq (T:=(Ar .i64)) (j:=8) Z Ba uu ([A,x28.getD (((w64 (x371+1)).tmod 3).toNat) 0,x28.getD (((w64 (x371+2)).tmod 3).toNat) 0,x28.getD x371.toNat 0]:List Int) Z (Il Z)
      refine GO.H7 (t:=101) (m:=([A,x28.getD (((w64 (x371+1)).tmod 3).toNat) 0,x28.getD (((w64 (x371+2)).tmod 3).toNat) 0,x28.getD x371.toNat 0]:List Int).length) (c':=([A,x28.getD (((w64 (x371+1)).tmod 3).toNat) 0,x28.getD (((w64 (x371+2)).tmod 3).toNat) 0,x28.getD x371.toNat 0]:List Int).length) Z Z Z ?_
      replace HS:=HS.Fq (T:=(Ar .i64)) (j:=9) Z Ba uu ([0,2,3,1]:List Int) Z (Il Z)
      refine GO.H7 (t:=102) (m:=([0,2,3,1]:List Int).length) (c':=([0,2,3,1]:List Int).length) Z Z Z (fJ Wl Z (Fe.calls HS (ro 8 Z) (ro 9 Z) h478) (fun _ wd479 ⟨h480,HS⟩=>⟨_,h480,(hs.fin q Z fun _ hs=>⟨b473,b475,b481,A484,c485,_,_,Own (Ar .i64) 2 (sb b473) (([A,x28.getD (((w64 (x371+1)).tmod 3).toNat) 0,x28.getD (((w64 (x371+2)).tmod 3).toNat) 0,x28.getD x371.toNat 0]:List Int).length) uu ([A,x28.getD (((w64 (x371+1)).tmod 3).toNat) 0,x28.getD (((w64 (x371+2)).tmod 3).toNat) 0,x28.getD x371.toNat 0]:List Int),Own (Ar .i64) 2 (sb b475) (([0,2,3,1]:List Int).length) uu ([0,2,3,1]:List Int),_,hs,HS,a1,e1,c1,d1,fun _ h=>Bool.noConfusion h,fun _=>Z,fun _ h=>Bool.noConfusion h,fun _=>Z,f1⟩)⟩))
     | 12,_ =>
      refine hs.at q [2,3,4,11] [] (GO.Dr (.agg [I o,I (x28.getD x371.toNat 0),I x371,I t477].toArray) Z Z (fun _=>by kernel_rfl) Z (hs.fin q Z fun _ hs=>⟨_,_,_,_,_,_,_,_,_,_,hs,hM⟩))
     | 13,_ =>
      refine (anI fun HS=>anI fun a1=>anI fun e1=>anI fun c1=>anI fun d1=>anI fun o1=>anI fun h1=>anI fun k1=>anI fun q1=>fun f1=>?_) hM
      refine hs.at q [12] [] (GO.Cw (el:=122) ([I o,I (x28.getD x371.toNat 0),I x371,I t477]) HS Z Z (fun _=>by kernel_rfl) Z fun b481 wd482 HS=>hs.Oj q [13] (fun _ hs=>⟨b473,b475,b481,A484,c485,_,_,_,_,Box b481 122 [I o,I (x28.getD x371.toNat 0),I x371,I t477],hs,HS.pk 12 [1,2,3,4,5,6,7,8,9,10,0] Z,a1,e1,c1,d1,o1,h1,k1,q1,fun _=>Z⟩) Z Z)
     | 14,_ =>
      refine (anI fun HS=>anI fun a1=>anI fun e1=>anI fun c1=>anI fun d1=>anI fun o1=>anI fun h1=>anI fun k1=>anI fun q1=>fun f1=>?_) hM
      have hb13:=q.on 13
      obtain rfl:=f1 hb13
      obtain rfl:=c1 q.hb
      refine hs.at q [1,13] [] (GO.app1 (T:=Ci) (j:=7) (jb:=10) (⟨o,x28.getD x371.toNat 0,x371,t477⟩:Av) HS Z Z Ba Z Z Z U63 Q3 Z Z Z c486 Z fun A484 c485 wd483 HS=>hs.Oj q [14] (fun _ hs=>⟨b473,b475,b481,A484,c485,_,Own Ci 122 A484 c485 uu (x370++[(⟨o,x28.getD x371.toNat 0,x371,t477⟩:Av)]),_,_,_,hs,HS,a1,fun hh=>(q.no 16 hh).elim,fun h=>Bool.noConfusion h,fun _=>Z,o1,h1,k1,q1,f1⟩) Z Z)
     | 15,_ =>
      refine hs.at q [] [] (fL b287 2 Ko Z (hs.fin q Z fun _ hs=>⟨_,_,_,_,_,_,_,_,_,_,hs,hM⟩))
     | 16,_ =>
      refine (anI fun HS=>anI fun a1=>anI fun e1=>anI fun c1=>anI fun d1=>anI fun o1=>anI fun h1=>anI fun k1=>anI fun q1=>fun f1=>?_) hM
      obtain rfl:=a1 q.hb
      refine hs.at q [14,15] [] (GO.Ie (j:=5) (vs:=[sV A484 (x370++[(⟨o,x28.getD x371.toNat 0,x371,t477⟩:Av)]) c485]) ([sV (sb b285) ([o,e7.Tet]:List Int) (([o,e7.Tet]:List Int).length),sV A468 (x366++[((t455.set 2 (⟨(w64 (x371+1)).tmod 3,1⟩:Ab)).set 3 (⟨(w64 (x371+2)).tmod 3,1⟩:Ab))]) c469,sV A484 (x370++[(⟨o,x28.getD x371.toNat 0,x371,t477⟩:Av)]) c485]) HS Z Z Z Z Z (htN Pf Z) Z Z Z fun wd487 HS=>hs.We q Z fun _ hs=>⟨b473,b475,b481,A484,c485,Box b287 65 [sV (sb b285) ([o,e7.Tet]:List Int) (([o,e7.Tet]:List Int).length),sV A468 (x366++[((t455.set 2 (⟨(w64 (x371+1)).tmod 3,1⟩:Ab)).set 3 (⟨(w64 (x371+2)).tmod 3,1⟩:Ab))]) c469,sV A484 (x370++[(⟨o,x28.getD x371.toNat 0,x371,t477⟩:Av)]) c485],_,_,_,_,hs,HS,fun h=>Bool.noConfusion h,fun _=>Z,c1,d1,o1,h1,k1,q1,f1⟩)
     | k+17,hj=>exact absurd hj (Nat.not_lt.2 (Nat.le_add_left 17 k))
    ·
     intro b a w hall
     refine exI fun b473=>exI fun b475=>exI fun b481=>exI fun A484=>exI fun c485=>exI fun t1=>exI fun y1=>exI fun a2=>exI fun s1=>exI fun b2=>anI fun hs=>anI fun HS=>anI fun a1=>anI fun e1=>anI fun c1=>anI fun d1=>anI fun o1=>anI fun h1=>anI fun k1=>anI fun q1=>fun f1=>?_
     obtain rfl:=e1 (hall 16 (by decide))
     obtain rfl:=d1 (hall 14 (by decide))
     obtain rfl:=h1 (hall 11 (by decide))
     obtain rfl:=q1 (hall 11 (by decide))
     obtain rfl:=f1 (hall 13 (by decide))
     refine G.at (hs.all hall) (sQ (rG (fL b9 1 Gn Z (lB 3 HS Z na2 Z (aS Z (nL ?_))))))
     obtain ⟨t488,h489,H⟩:=bI H
     obtain ⟨t492,h493,H⟩:=bI H
     obtain ⟨t496,h497,H⟩:=bI H
     obtain ⟨t500,h501,H⟩:=bI H
     obtain ⟨t504,h505,H⟩:=bI H
     obtain ⟨t512,h513,H⟩:=bI H
     obtain ⟨c521,H⟩:=iN H
     refine G.K7 mixed (by decide) (fun b a w=>∃ (b508:Nat) (b510:Nat) (b516:Nat) (A519:Option Addr) (c520:Nat) (v1:Cy) (z1:Cy) (u1:Cy) (x1:Cy) (d2:Cy),RS 138 [(1,I o),(2,I A),(6,pT b3),(8,pT b9),(9,sV A26 x28 c27),(11,pT b287),(12,I x371),(13,I (x28.getD (((w64 (x371+1)).tmod 3).toNat) 0)),(14,I (x28.getD (((w64 (x371+2)).tmod 3).toNat) 0)),(15,I (x28.getD x371.toNat 0)),(17,I e7.Perm)] [rv 110 (.pointer (some ⟨b287,2,none⟩)),rv 111 (sV A484 (x370++[(⟨o,x28.getD x371.toNat 0,x371,t477⟩:Av)]) c485),rv 112 (pT b9),rv 113 (I e7.Tet),rv 114 (I e7.Perm),rv 115 (I (x28.getD x371.toNat 0)),rv 116 (I t488),rv 117 (I x371),rv 118 (I e7.Perm),rv 119 (I A),rv 120 (I t492),rv 121 (I e7.Perm),rv 122 (I (x28.getD (((w64 (x371+1)).tmod 3).toNat) 0)),rv 123 (I t496),rv 124 (I e7.Perm),rv 125 (I (x28.getD (((w64 (x371+2)).tmod 3).toNat) 0)),rv 126 (I t500),rv 127 (I e7.Perm),rv 128 (I (x28.getD x371.toNat 0)),rv 129 (I t504),rv 130 (.slice (sb b508) 4 4),rv 131 (.slice (sb b510) 4 4),rv 132 (I t512),rv 133 (.agg [I e7.Tet,I t488,I x371,I t512].toArray),rv 134 (.slice (sb b516) 1 1),rv 135 (sV A519 ((x370++[(⟨o,x28.getD x371.toNat 0,x371,t477⟩:Av)])++[(⟨e7.Tet,t488,x371,t512⟩:Av)]) c520),rv 136 (.pointer (some ⟨b287,2,none⟩)),none] b a∧St w0 w (Own (Ty.slice 107 Ad) 77 A468 c469 y471 (x366++[((t455.set 2 (⟨(w64 (x371+1)).tmod 3,1⟩:Ab)).set 3 (⟨(w64 (x371+2)).tmod 3,1⟩:Ab))])::Box b465 77 [sV A457 ((t455.set 2 (⟨(w64 (x371+1)).tmod 3,1⟩:Ab)).set 3 (⟨(w64 (x371+2)).tmod 3,1⟩:Ab)) c458]::Box b3 65 [.slice none 0 0,.slice none 0 0,.slice none 0 0]::Box b9 107 [I e7.Tet,I e7.Perm]::Own (Ar .i64) 2 A26 c27 uu x28::v1::Own (Ar .i64) 2 (sb b285) (([o,e7.Tet]:List Int).length) uu ([o,e7.Tet]:List Int)::z1::Own (Ar .i64) 2 (sb b473) (([A,x28.getD (((w64 (x371+1)).tmod 3).toNat) 0,x28.getD (((w64 (x371+2)).tmod 3).toNat) 0,x28.getD x371.toNat 0]:List Int).length) uu ([A,x28.getD (((w64 (x371+1)).tmod 3).toNat) 0,x28.getD (((w64 (x371+2)).tmod 3).toNat) 0,x28.getD x371.toNat 0]:List Int)::Own (Ar .i64) 2 (sb b475) (([0,2,3,1]:List Int).length) uu ([0,2,3,1]:List Int)::Box b481 122 [I o,I (x28.getD x371.toNat 0),I x371,I t477]::u1::x1::d2::L)∧(b 27=false→v1=Box b287 65 [sV (sb b285) ([o,e7.Tet]:List Int) (([o,e7.Tet]:List Int).length),sV A468 (x366++[((t455.set 2 (⟨(w64 (x371+1)).tmod 3,1⟩:Ab)).set 3 (⟨(w64 (x371+2)).tmod 3,1⟩:Ab))]) c469,sV A484 (x370++[(⟨o,x28.getD x371.toNat 0,x371,t477⟩:Av)]) c485])∧(b 27=true→v1=Box b287 65 [sV (sb b285) ([o,e7.Tet]:List Int) (([o,e7.Tet]:List Int).length),sV A468 (x366++[((t455.set 2 (⟨(w64 (x371+1)).tmod 3,1⟩:Ab)).set 3 (⟨(w64 (x371+2)).tmod 3,1⟩:Ab))]) c469,sV A519 ((x370++[(⟨o,x28.getD x371.toNat 0,x371,t477⟩:Av)])++[(⟨e7.Tet,t488,x371,t512⟩:Av)]) c520])∧(b 25=false→z1=Own Ci 122 A484 c485 uu (x370++[(⟨o,x28.getD x371.toNat 0,x371,t477⟩:Av)]))∧(b 25=true→z1=Own Ci 122 A519 c520 uu ((x370++[(⟨o,x28.getD x371.toNat 0,x371,t477⟩:Av)])++[(⟨e7.Tet,t488,x371,t512⟩:Av)]))∧(b 20=true→b 22=false→u1=Box b508 2 [I t492,I t496,I t500,I t504])∧(b 22=true→u1=Own (Ar .i64) 2 (sb b508) (([t492,t496,t500,t504]:List Int).length) uu ([t492,t496,t500,t504]:List Int))∧(b 21=true→b 22=false→x1=Box b510 2 [I 1,I 2,I 3,I 0])∧(b 22=true→x1=Own (Ar .i64) 2 (sb b510) (([1,2,3,0]:List Int).length) uu ([1,2,3,0]:List Int))∧(b 24=true→d2=Box b516 122 [I e7.Tet,I t488,I x371,I t512])) ?_ ?_ ?_
     · exact fun a hs=>⟨0,0,0,none,0,Box b287 65 [sV (sb b285) ([o,e7.Tet]:List Int) (([o,e7.Tet]:List Int).length),sV A468 (x366++[((t455.set 2 (⟨(w64 (x371+1)).tmod 3,1⟩:Ab)).set 3 (⟨(w64 (x371+2)).tmod 3,1⟩:Ab))]) c469,sV A484 (x370++[(⟨o,x28.getD x371.toNat 0,x371,t477⟩:Av)]) c485],Own Ci 122 A484 c485 uu (x370++[(⟨o,x28.getD x371.toNat 0,x371,t477⟩:Av)]),Emp,Emp,Emp,hs.init Z,(HS.drew.emp.emp.emp.pk 14 [3,4,5,6,7,8,9,10,11,12,13,2,1,0] Z),fun _=>Z,fun h=>Bool.noConfusion h,fun _=>Z,fun h=>Bool.noConfusion h,fun h=>Bool.noConfusion h,fun h=>Bool.noConfusion h,fun h=>Bool.noConfusion h,fun h=>Bool.noConfusion h,fun h=>Bool.noConfusion h⟩
     ·
      intro j b a w hj
      refine exI fun b508=>exI fun b510=>exI fun b516=>exI fun A519=>exI fun c520=>exI fun v1=>exI fun z1=>exI fun u1=>exI fun x1=>exI fun d2=>anI fun hs=>fun hM q=>?_
      have HS:=hM.1
      match j,hj with
      | 0,_ =>
       refine hs.at q [] [] (fL b287 2 Ko Z (hs.fin q Z fun _ hs=>⟨_,_,_,_,_,_,_,_,_,_,hs,hM⟩))
      | 1,_ =>
       refine (anI fun HS=>anI fun a1=>anI fun e1=>anI fun c1=>anI fun d1=>anI fun n1=>anI fun m1=>anI fun p1=>anI fun i1=>fun g1=>?_) hM
       have d27:=q.off 27
       obtain rfl:=a1 d27
       refine hs.at q [0] [] (lB 5 HS Z Pf Z (hs.fin q Z fun _ hs=>⟨b508,b510,b516,A519,c520,_,_,_,_,_,hs,HS,a1,e1,c1,d1,n1,m1,p1,i1,g1⟩))
      | 2,_ =>
       refine hs.at q [] [] (fL b9 0 Dp Z (hs.fin q Z fun _ hs=>⟨_,_,_,_,_,_,_,_,_,_,hs,hM⟩))
      | 3,_ =>
       refine hs.at q [2] [] (lB 3 HS Z na2 Z (hs.fin q Z fun _ hs=>⟨_,_,_,_,_,_,_,_,_,_,hs,hM⟩))
      | 4,_ =>
       refine hs.at q [] [] (mV Z (hs.fin q Z fun _ hs=>⟨_,_,_,_,_,_,_,_,_,_,hs,hM⟩))
      | 5,_ =>
       refine hs.at q [] [] (mV Z (hs.fin q Z fun _ hs=>⟨_,_,_,_,_,_,_,_,_,_,hs,hM⟩))
      | 6,_ =>
       refine hs.at q [4,5] [] (fJ Jt Z (Bq.calls HS  h489) (fun _ wd490 ⟨h491,HS⟩=>⟨_,h491,(hs.fin q Z fun _ hs=>⟨_,_,_,_,_,_,_,_,_,_,hs,HS,hM.2⟩)⟩))
      | 7,_ =>
       refine hs.at q [] [] (mV Z (hs.fin q Z fun _ hs=>⟨_,_,_,_,_,_,_,_,_,_,hs,hM⟩))
      | 8,_ =>
       refine hs.at q [] [] (mV Z (hs.fin q Z fun _ hs=>⟨_,_,_,_,_,_,_,_,_,_,hs,hM⟩))
      | 9,_ =>
       refine hs.at q [] [] (mV Z (hs.fin q Z fun _ hs=>⟨_,_,_,_,_,_,_,_,_,_,hs,hM⟩))
      | 10,_ =>
       refine hs.at q [8,9] [] (fJ Jt Z (Bq.calls HS  h493) (fun _ wd494 ⟨h495,HS⟩=>⟨_,h495,(hs.fin q Z fun _ hs=>⟨_,_,_,_,_,_,_,_,_,_,hs,HS,hM.2⟩)⟩))
      | 11,_ =>
       refine hs.at q [] [] (mV Z (hs.fin q Z fun _ hs=>⟨_,_,_,_,_,_,_,_,_,_,hs,hM⟩))
      | 12,_ =>
       refine hs.at q [] [] (mV Z (hs.fin q Z fun _ hs=>⟨_,_,_,_,_,_,_,_,_,_,hs,hM⟩))
      | 13,_ =>
       refine hs.at q [11,12] [] (fJ Jt Z (Bq.calls HS  h497) (fun _ wd498 ⟨h499,HS⟩=>⟨_,h499,(hs.fin q Z fun _ hs=>⟨_,_,_,_,_,_,_,_,_,_,hs,HS,hM.2⟩)⟩))
      | 14,_ =>
       refine hs.at q [] [] (mV Z (hs.fin q Z fun _ hs=>⟨_,_,_,_,_,_,_,_,_,_,hs,hM⟩))
      | 15,_ =>
       refine hs.at q [] [] (mV Z (hs.fin q Z fun _ hs=>⟨_,_,_,_,_,_,_,_,_,_,hs,hM⟩))
      | 16,_ =>
       refine hs.at q [14,15] [] (fJ Jt Z (Bq.calls HS  h501) (fun _ wd502 ⟨h503,HS⟩=>⟨_,h503,(hs.fin q Z fun _ hs=>⟨_,_,_,_,_,_,_,_,_,_,hs,HS,hM.2⟩)⟩))
      | 17,_ =>
       refine hs.at q [] [] (mV Z (hs.fin q Z fun _ hs=>⟨_,_,_,_,_,_,_,_,_,_,hs,hM⟩))
      | 18,_ =>
       refine hs.at q [] [] (mV Z (hs.fin q Z fun _ hs=>⟨_,_,_,_,_,_,_,_,_,_,hs,hM⟩))
      | 19,_ =>
       refine hs.at q [17,18] [] (fJ Jt Z (Bq.calls HS  h505) (fun _ wd506 ⟨h507,HS⟩=>⟨_,h507,(hs.fin q Z fun _ hs=>⟨_,_,_,_,_,_,_,_,_,_,hs,HS,hM.2⟩)⟩))
      | 20,_ =>
       refine (anI fun HS=>anI fun a1=>anI fun e1=>anI fun c1=>anI fun d1=>anI fun n1=>anI fun m1=>anI fun p1=>anI fun i1=>fun g1=>?_) hM
       refine hs.at q [10,13,16,19] [] (GO.Cw (el:=2) ([I t492,I t496,I t500,I t504]) HS Z Z (fun _=>by kernel_rfl) Z fun b508 wd509 HS=>hs.Oj q [20] (fun _ hs=>⟨b508,b510,b516,A519,c520,_,_,Box b508 2 [I t492,I t496,I t500,I t504],_,_,hs,HS.pk 15 [1,2,3,4,5,6,7,8,9,10,11,0,13,14] Z,a1,e1,c1,d1,fun _ _=>Z,fun hh=>(q.no 22 hh).elim,p1,i1,g1⟩) Z Z)
      | 21,_ =>
       refine (anI fun HS=>anI fun a1=>anI fun e1=>anI fun c1=>anI fun d1=>anI fun n1=>anI fun m1=>anI fun p1=>anI fun i1=>fun g1=>?_) hM
       refine hs.at q [] [] (GO.Cw (el:=2) ([I 1,I 2,I 3,I 0]) HS Z Z (fun _=>by kernel_rfl) Z fun b510 wd511 HS=>hs.Oj q [21] (fun _ hs=>⟨b508,b510,b516,A519,c520,_,_,_,Box b510 2 [I 1,I 2,I 3,I 0],_,hs,HS.pk 15 [1,2,3,4,5,6,7,8,9,10,11,12,0,14] Z,a1,e1,c1,d1,n1,m1,fun _ _=>Z,fun hh=>(q.no 22 hh).elim,g1⟩) Z Z)
      | 22,_ =>
       refine (anI fun HS=>anI fun a1=>anI fun e1=>anI fun c1=>anI fun d1=>anI fun n1=>anI fun m1=>anI fun p1=>anI fun i1=>fun g1=>?_) hM
       have hb20:=q.on 20
       obtain rfl:=n1 hb20 q.hb
       have hb21:=q.on 21
       obtain rfl:=p1 hb21 q.hb
       refine hs.at q [20,21] [] ?_
       replace HS:=HS.Fq (T:=(Ar .i64)) (j:=11) Z Ba uu ([t492,t496,t500,t504]:List Int) Z (Il Z)
       refine GO.H7 (t:=130) (m:=([t492,t496,t500,t504]:List Int).length) (c':=([t492,t496,t500,t504]:List Int).length) Z Z Z ?_
       replace HS:=HS.Fq (T:=(Ar .i64)) (j:=12) Z Ba uu ([1,2,3,0]:List Int) Z (Il Z)
       refine GO.H7 (t:=131) (m:=([1,2,3,0]:List Int).length) (c':=([1,2,3,0]:List Int).length) Z Z Z (fJ Wl Z (Fe.calls HS (ro 11 Z) (ro 12 Z) h513) (fun _ wd514 ⟨h515,HS⟩=>⟨_,h515,(hs.fin q Z fun _ hs=>⟨b508,b510,b516,A519,c520,_,_,Own (Ar .i64) 2 (sb b508) (([t492,t496,t500,t504]:List Int).length) uu ([t492,t496,t500,t504]:List Int),Own (Ar .i64) 2 (sb b510) (([1,2,3,0]:List Int).length) uu ([1,2,3,0]:List Int),_,hs,HS,a1,e1,c1,d1,fun _ h=>Bool.noConfusion h,fun _=>Z,fun _ h=>Bool.noConfusion h,fun _=>Z,g1⟩)⟩))
      | 23,_ =>
       refine hs.at q [3,6,7,22] [] (GO.Dr (.agg [I e7.Tet,I t488,I x371,I t512].toArray) Z Z (fun _=>by kernel_rfl) Z (hs.fin q Z fun _ hs=>⟨_,_,_,_,_,_,_,_,_,_,hs,hM⟩))
      | 24,_ =>
       refine (anI fun HS=>anI fun a1=>anI fun e1=>anI fun c1=>anI fun d1=>anI fun n1=>anI fun m1=>anI fun p1=>anI fun i1=>fun g1=>?_) hM
       refine hs.at q [23] [] (GO.Cw (el:=122) ([I e7.Tet,I t488,I x371,I t512]) HS Z Z (fun _=>by kernel_rfl) Z fun b516 wd517 HS=>hs.Oj q [24] (fun _ hs=>⟨b508,b510,b516,A519,c520,_,_,_,_,Box b516 122 [I e7.Tet,I t488,I x371,I t512],hs,HS.pk 15 [1,2,3,4,5,6,7,8,9,10,11,12,13,0] Z,a1,e1,c1,d1,n1,m1,p1,i1,fun _=>Z⟩) Z Z)
      | 25,_ =>
       refine (anI fun HS=>anI fun a1=>anI fun e1=>anI fun c1=>anI fun d1=>anI fun n1=>anI fun m1=>anI fun p1=>anI fun i1=>fun g1=>?_) hM
       have hb24:=q.on 24
       obtain rfl:=g1 hb24
       obtain rfl:=c1 q.hb
       refine hs.at q [1,24] [] (GO.app1 (T:=Ci) (j:=7) (jb:=13) (⟨e7.Tet,t488,x371,t512⟩:Av) HS Z Z Ba Z Z Z U63 Q3 Z Z Z c521 Z fun A519 c520 wd518 HS=>hs.Oj q [25] (fun _ hs=>⟨b508,b510,b516,A519,c520,_,Own Ci 122 A519 c520 uu ((x370++[(⟨o,x28.getD x371.toNat 0,x371,t477⟩:Av)])++[(⟨e7.Tet,t488,x371,t512⟩:Av)]),_,_,_,hs,HS,a1,fun hh=>(q.no 27 hh).elim,fun h=>Bool.noConfusion h,fun _=>Z,n1,m1,p1,i1,g1⟩) Z Z)
      | 26,_ =>
       refine hs.at q [] [] (fL b287 2 Ko Z (hs.fin q Z fun _ hs=>⟨_,_,_,_,_,_,_,_,_,_,hs,hM⟩))
      | 27,_ =>
       refine (anI fun HS=>anI fun a1=>anI fun e1=>anI fun c1=>anI fun d1=>anI fun n1=>anI fun m1=>anI fun p1=>anI fun i1=>fun g1=>?_) hM
       obtain rfl:=a1 q.hb
       refine hs.at q [25,26] [] (GO.Ie (j:=5) (vs:=[sV A519 ((x370++[(⟨o,x28.getD x371.toNat 0,x371,t477⟩:Av)])++[(⟨e7.Tet,t488,x371,t512⟩:Av)]) c520]) ([sV (sb b285) ([o,e7.Tet]:List Int) (([o,e7.Tet]:List Int).length),sV A468 (x366++[((t455.set 2 (⟨(w64 (x371+1)).tmod 3,1⟩:Ab)).set 3 (⟨(w64 (x371+2)).tmod 3,1⟩:Ab))]) c469,sV A519 ((x370++[(⟨o,x28.getD x371.toNat 0,x371,t477⟩:Av)])++[(⟨e7.Tet,t488,x371,t512⟩:Av)]) c520]) HS Z Z Z Z Z (htN Pf Z) Z Z Z fun wd522 HS=>hs.We q Z fun _ hs=>⟨b508,b510,b516,A519,c520,Box b287 65 [sV (sb b285) ([o,e7.Tet]:List Int) (([o,e7.Tet]:List Int).length),sV A468 (x366++[((t455.set 2 (⟨(w64 (x371+1)).tmod 3,1⟩:Ab)).set 3 (⟨(w64 (x371+2)).tmod 3,1⟩:Ab))]) c469,sV A519 ((x370++[(⟨o,x28.getD x371.toNat 0,x371,t477⟩:Av)])++[(⟨e7.Tet,t488,x371,t512⟩:Av)]) c520],_,_,_,_,hs,HS,fun h=>Bool.noConfusion h,fun _=>Z,c1,d1,n1,m1,p1,i1,g1⟩)
      | k+28,hj=>exact absurd hj (Nat.not_lt.2 (Nat.le_add_left 28 k))
     ·
      intro b a w hall
      refine exI fun b508=>exI fun b510=>exI fun b516=>exI fun A519=>exI fun c520=>exI fun v1=>exI fun z1=>exI fun u1=>exI fun x1=>exI fun d2=>anI fun hs=>anI fun HS=>anI fun a1=>anI fun e1=>anI fun c1=>anI fun d1=>anI fun n1=>anI fun m1=>anI fun p1=>anI fun i1=>fun g1=>?_
      obtain rfl:=e1 (hall 27 (by decide))
      obtain rfl:=d1 (hall 25 (by decide))
      obtain rfl:=m1 (hall 22 (by decide))
      obtain rfl:=i1 (hall 22 (by decide))
      obtain rfl:=g1 (hall 24 (by decide))
      refine G.at (hs.all hall) (rN 3 Z (gW (n2 q2 (lR _) _ _ _ _ _ _ _ _ _ H (HS.pk 14 [2,3,4,5,6,0,7] Z)) Z))
   replace HS:=HS.Dm (Ty.slice 107 Ad) 77 (fun _=>⟨none,0,uu⟩)
   replace HS:=HS.Dm Ci 122 uu
   exact gW (o2 c2 (lR _) _ _ _ _ _ _ _ _ _ H (HS.pk 7 [4,5,6,2,3,1,0] Z)) Z
  exact gW (s2 K (lR _) _ _ _ _ _ H (HS.pk 4 [2,1,0] Z)) Z
theorem Em.calls {n_:Int} {r1:List Int} (HS:St w0 w (L)) (H:Em.f K n_=some r1) :
    Calls prog 118 #[I n_] w (Em.post w0 L r1):=by
  unfold Em.f at H
  refine cG func118 Z ?_
  refine rN 3 Z (rG (GO.Cw (el:=2) ([]) HS Z Z (fun _=>by kernel_rfl) Z fun b1 wd2 HS=>?_))
  replace HS:=HS.Fq (T:=(Ar .i64)) (j:=0) Z Ba uu ([]:List Int) Z (Il Z)
  refine GO.H7 (t:=5) (m:=([]:List Int).length) (c':=([]:List Int).length) Z Z Z (aS Z (nL (rN 5 Z ?_)))
  refine G.name (fun h1 f1=>?_)
  have g1:∀ d1,d1≤K→∀ (A10:Option Addr) (c11:Nat) (c1:List Int) (a1:Int) (w:World),Em.l1 K d1 n_ c1 a1=some r1→St w0 w (Own (Ar .i64) 2 A10 c11 uu c1::L)→G prog 118 16 [(0,I n_),(3,sV A10 c1 c11),(4,I a1)] h1 w (Em.post w0 L r1):=by
   refine lp (fun _ _ _ _ w H _=>by rw [Em.l1] at H; cases H) fun e1 k1 i1 A10 c11 c1 a1 w H HS=>?_
   rw [Em.l1] at H
   subst f1
   refine rN 3 Z ?_
   rcases iS H with ⟨c21,H⟩ | ⟨c21,H⟩
   ·
    refine nB Z (tF c21) (rN 3 Z ?_)
    obtain rfl:=sI H
    exact rT _ func118 Z Z ⟨_,_,Z,HS⟩
   refine yB Z (tT c21) (rN 3 Z ?_)
   obtain ⟨c27,H⟩:=iN H
   refine rG (pS 2 Z (GO.Cw (el:=2) ([I a1]) HS Z Z (fun _=>by kernel_rfl) Z fun b22 wd23 HS=>GO.app1 (T:=(Ar .i64)) (j:=1) (jb:=0) a1 HS Z Z Ba Z Z Z U56 Ml Z Z Z c27 Z fun A25 c26 wd24 HS=>aS Z (nL (rN 3 Z (gW (i1 e1 (lR _) _ _ _ _ _ H (HS.pk 2 [1] Z)) Z)))))
  exact gW (g1 K (lR _) _ _ _ _ _ H HS) Z
theorem D6.calls {marks:List Int} {i k_:Int} {r1:List Int} (HS:St w0 w (Own (Ar .i64) 2 A_a c_a uu marks::L)) (H:D6.f K marks i k_=some r1) :
    Calls prog 119 #[sV A_a marks c_a,I i,I k_] w (D6.post w0 L A_a c_a r1):=by
  unfold D6.f at H
  refine cG func119 Z ?_
  refine sQ ?_
  obtain ⟨c1,H⟩:=iN H
  have h2:=(rk (ro 0 Z) HS)
  obtain ⟨c3,H⟩:=iN H
  have h4:=(rk (ro 0 Z) HS)
  refine G.lex mixed [0,1,2,4,5,6,3,7,8,9] (by kernel_rfl) ?_
  replace HS:=HS.drew
  refine GX.ps 2 Z (qL Z Z (fun _ _ g=>iX Z U56 sz2 h2 c1 g) Z (GX.ps 2 Z (qL Z Z (fun _ _ g=>iX Z U56 sz2 h4 c3 g) Z (GX.l1 Z Z Z (fun _ g=>GO.Cj (T:=(Ar .i64)) (n:=i.toNat) (o:=0) HS (ro 0 Z) Z Z (getD_some (d:=0) (ltN c1)) Z Z na2 Z g) Z (GX.l1 Z Z Z (fun _ g=>GO.Cj (T:=(Ar .i64)) (n:=k_.toNat) (o:=0) HS (ro 0 Z) Z Z (getD_some (d:=0) (ltN c3)) Z Z na2 Z g) Z (GX.l1 Z Z Z (fun _ g=>GO.min2 Z Z Z Z g) Z (GX.ps 1 Z (GX.nil (sQ ?_)))))))))
  have h5:=(rk (ro 0 Z) HS)
  have h6:=(rk (ro 0 Z) HS)
  refine G.lex mixed [0,1,2,4,5,6,3,7,8,9] (by kernel_rfl) ?_
  replace HS:=HS.drew
  refine GX.ps 2 Z (qL Z Z (fun _ _ g=>iX Z U56 sz2 h5 c1 g) Z (GX.ps 2 Z (qL Z Z (fun _ _ g=>iX Z U56 sz2 h6 c3 g) Z (GX.l1 Z Z Z (fun _ g=>GO.Cj (T:=(Ar .i64)) (n:=i.toNat) (o:=0) HS (ro 0 Z) Z Z (getD_some (d:=0) (ltN c1)) Z Z na2 Z g) Z (GX.l1 Z Z Z (fun _ g=>GO.Cj (T:=(Ar .i64)) (n:=k_.toNat) (o:=0) HS (ro 0 Z) Z Z (getD_some (d:=0) (ltN c3)) Z Z na2 Z g) Z (GX.l1 Z Z Z (fun _ g=>GO.max2 Z Z Z Z g) Z (GX.ps 1 Z (GX.nil (rN 4 Z ?_)))))))))
  refine G.name (fun h1 f1=>?_)
  have g1:∀ d1,d1≤K→∀ (x11:List Int) (a1:Int) (w:World),D6.l1 K d1 marks i k_ x11 a1=some r1→St w0 w (Own (Ar .i64) 2 A_a c_a uu x11::L)→G prog 119 43 [(0,sV A_a x11 c_a),(6,I (if marks.getD k_.toNat 0<marks.getD i.toNat 0 then marks.getD k_.toNat 0 else marks.getD i.toNat 0)),(7,I (if marks.getD k_.toNat 0 > marks.getD i.toNat 0 then marks.getD k_.toNat 0 else marks.getD i.toNat 0)),(8,I a1)] h1 w (D6.post w0 L A_a c_a r1):=by
   refine lp (fun _ _ w H _=>by rw [D6.l1] at H; cases H) fun b1 i1 e1 x11 a1 w H HS=>?_
   rw [D6.l1] at H
   subst f1
   refine rN 2 Z (rG (pS 2 Z (lS Z Z U56 Z (GO.lss Z Z Z Z (nL ?_)))))
   rcases iS H with ⟨c17,H⟩ | ⟨c17,H⟩
   ·
    refine nB Z (tF c17) (G.exit Z ?_)
    obtain rfl:=sI H
    exact G.Pz func119 Z ⟨Z,HS⟩
   refine yB Z (tT c17) (rN 4 Z ?_)
   obtain ⟨c18,H⟩:=iN H
   refine rG (pS 2 Z (iX Z U56 sz2 (rk (ro 0 Z) HS) c18 (GO.Cj (T:=(Ar .i64)) (n:=a1.toNat) (o:=0) HS (ro 0 Z) Z Z (getD_some (d:=0) (ltN c18)) Z Z na2 Z (pS 2 Z (nL ?_)))))
   rcases iS H with ⟨c19,H⟩ | ⟨c19,H⟩
   ·
    refine nB Z (tF c19) (rN 4 Z (gW (e1 b1 (lR _) _ _ _ H HS) Z))
   refine yB Z (tT c19) (rG (pS 3 Z (iX Z U56 sz2 (rk (ro 0 Z) HS) c18 (GO.Ii (T:=(Ar .i64)) (j:=0) (n:=a1.toNat) (o:=0) (vs:=[I (if marks.getD k_.toNat 0<marks.getD i.toNat 0 then marks.getD k_.toNat 0 else marks.getD i.toNat 0)]) (if marks.getD k_.toNat 0<marks.getD i.toNat 0 then marks.getD k_.toNat 0 else marks.getD i.toNat 0) HS Z Ba Z Z Z Z (htN na2 Z) Z (getD_some (d:=0) (ltN c18)) Z Z fun wd20 HS=>nL (G.len (t:=0) (m:=(x11.set a1.toNat (if marks.getD k_.toNat 0<marks.getD i.toNat 0 then marks.getD k_.toNat 0 else marks.getD i.toNat 0)).length) Z (by simp only [List.length_set] <;> rfl) (rN 3 Z (gW (e1 b1 (lR _) _ _ _ H HS) Z)))))))
  exact gW (g1 K (lR _) _ _ _ H HS) Z
theorem Gs.calls {e_ r1 r2:Int} (HS:St w0 w (L)) (H:Gs.f e_=some (r1,r2)) :
    Calls prog 120 #[I e_] w (Gs.post w0 L r1 r2):=by
  unfold Gs.f at H
  refine cG func120 Z ?_
  refine rN 3 Z ?_
  obtain ⟨c3,H⟩:=iN H
  obtain ⟨c6,H⟩:=iN H
  refine G.K7 mixed (by decide) (fun b a w=>∃ (b1:Nat) (b4:Nat) (g1:Cy) (f1:Cy),RS 12 [(0,I e_)] [rv 4 (.slice (sb b1) 6 6),rv 5 (I e_),rv 6 (.pointer (some (ea (sb b1) (e_.toNat * 1)))),rv 7 (I (([0,0,0,1,1,2]:List Int).getD e_.toNat 0)),rv 8 (.slice (sb b4) 6 6),rv 9 (I e_),rv 10 (.pointer (some (ea (sb b4) (e_.toNat * 1)))),rv 11 (I (([1,2,3,2,3,3]:List Int).getD e_.toNat 0)),rv 2 (I (([0,0,0,1,1,2]:List Int).getD e_.toNat 0)),rv 3 (I (([1,2,3,2,3,3]:List Int).getD e_.toNat 0))] b a∧St w0 w (g1::f1::L)∧(b 0=true→b 2=false→g1=Box b1 2 [I 0,I 0,I 0,I 1,I 1,I 2])∧(b 2=true→g1=Own (Ar .i64) 2 (sb b1) (([0,0,0,1,1,2]:List Int).length) uu ([0,0,0,1,1,2]:List Int))∧(b 4=true→b 6=false→f1=Box b4 2 [I 1,I 2,I 3,I 2,I 3,I 3])∧(b 6=true→f1=Own (Ar .i64) 2 (sb b4) (([1,2,3,2,3,3]:List Int).length) uu ([1,2,3,2,3,3]:List Int))) ?_ ?_ ?_
  · exact fun a hs=>⟨0,0,Emp,Emp,hs.init Z,(HS.drew.emp.emp.pk 2 [1,0] Z),fun h=>Bool.noConfusion h,fun h=>Bool.noConfusion h,fun h=>Bool.noConfusion h,fun h=>Bool.noConfusion h⟩
  ·
   intro j b a w hj
   refine exI fun b1=>exI fun b4=>exI fun g1=>exI fun f1=>anI fun hs=>fun hM q=>?_
   have HS:=hM.1
   match j,hj with
   | 0,_ =>
    refine (anI fun HS=>anI fun d1=>anI fun a1=>anI fun e1=>fun c1=>?_) hM
    refine hs.at q [] [] (GO.Cw (el:=2) ([I 0,I 0,I 0,I 1,I 1,I 2]) HS Z Z (fun _=>by kernel_rfl) Z fun b1 wd2 HS=>hs.Oj q [0,2] (fun _ hs=>⟨b1,b4,Box b1 2 [I 0,I 0,I 0,I 1,I 1,I 2],_,hs,HS.pk 3 [0,2] Z,fun _ _=>Z,fun hh=>(q.no 2 hh).elim,e1,c1⟩) Z Z)
   | 1,_ =>
    refine hs.at q [] [] (mV Z (hs.fin q Z fun _ hs=>⟨_,_,_,_,hs,hM⟩))
   | 2,_ =>
    refine (anI fun HS=>anI fun d1=>anI fun a1=>anI fun e1=>fun c1=>?_) hM
    have hb0:=q.on 0
    obtain rfl:=d1 hb0 q.hb
    refine hs.at q [0,1] [] ?_
    replace HS:=HS.Fq (T:=(Ar .i64)) (j:=0) Z Ba uu ([0,0,0,1,1,2]:List Int) Z (Il Z)
    refine GO.H7 (t:=4) (m:=([0,0,0,1,1,2]:List Int).length) (c':=([0,0,0,1,1,2]:List Int).length) Z Z Z (iX Z U56 sz2 (fun _=>⟨_,_,Z⟩) c3 (hs.fin q Z fun _ hs=>⟨b1,b4,Own (Ar .i64) 2 (sb b1) (([0,0,0,1,1,2]:List Int).length) uu ([0,0,0,1,1,2]:List Int),_,hs,HS,fun _ h=>Bool.noConfusion h,fun _=>Z,e1,c1⟩))
   | 3,_ =>
    refine (anI fun HS=>anI fun d1=>anI fun a1=>anI fun e1=>fun c1=>?_) hM
    have hb2:=q.on 2
    obtain rfl:=a1 hb2
    refine hs.at q [2] [] (GO.Cj (T:=(Ar .i64)) (n:=e_.toNat) (o:=0) HS (ro 0 Z) Z Z (getD_some (d:=0) (ltN c3)) Z Z na2 Z (hs.fin q Z fun _ hs=>⟨b1,b4,_,_,hs,HS,d1,a1,e1,c1⟩))
   | 4,_ =>
    refine (anI fun HS=>anI fun d1=>anI fun a1=>anI fun e1=>fun c1=>?_) hM
    refine hs.at q [] [] (GO.Cw (el:=2) ([I 1,I 2,I 3,I 2,I 3,I 3]) HS Z Z (fun _=>by kernel_rfl) Z fun b4 wd5 HS=>hs.Oj q [4,6] (fun _ hs=>⟨b1,b4,_,Box b4 2 [I 1,I 2,I 3,I 2,I 3,I 3],hs,HS.pk 3 [1,0] Z,d1,a1,fun _ _=>Z,fun hh=>(q.no 6 hh).elim⟩) Z Z)
   | 5,_ =>
    refine hs.at q [] [] (mV Z (hs.fin q Z fun _ hs=>⟨_,_,_,_,hs,hM⟩))
   | 6,_ =>
    refine (anI fun HS=>anI fun d1=>anI fun a1=>anI fun e1=>fun c1=>?_) hM
    have hb4:=q.on 4
    obtain rfl:=e1 hb4 q.hb
    refine hs.at q [4,5] [] ?_
    replace HS:=HS.Fq (T:=(Ar .i64)) (j:=1) Z Ba uu ([1,2,3,2,3,3]:List Int) Z (Il Z)
    refine GO.H7 (t:=8) (m:=([1,2,3,2,3,3]:List Int).length) (c':=([1,2,3,2,3,3]:List Int).length) Z Z Z (iX Z U56 sz2 (fun _=>⟨_,_,Z⟩) c6 (hs.fin q Z fun _ hs=>⟨b1,b4,_,Own (Ar .i64) 2 (sb b4) (([1,2,3,2,3,3]:List Int).length) uu ([1,2,3,2,3,3]:List Int),hs,HS,d1,a1,fun _ h=>Bool.noConfusion h,fun _=>Z⟩))
   | 7,_ =>
    refine (anI fun HS=>anI fun d1=>anI fun a1=>anI fun e1=>fun c1=>?_) hM
    have hb6:=q.on 6
    obtain rfl:=c1 hb6
    refine hs.at q [6] [] (GO.Cj (T:=(Ar .i64)) (n:=e_.toNat) (o:=0) HS (ro 1 Z) Z Z (getD_some (d:=0) (ltN c6)) Z Z na2 Z (hs.fin q Z fun _ hs=>⟨b1,b4,_,_,hs,HS,d1,a1,e1,c1⟩))
   | 8,_ =>
    refine hs.at q [3] [] (aS Z (hs.fin q Z fun _ hs=>⟨_,_,_,_,hs,hM⟩))
   | 9,_ =>
    refine hs.at q [7] [] (aS Z (hs.fin q Z fun _ hs=>⟨_,_,_,_,hs,hM⟩))
   | k+10,hj=>exact absurd hj (Nat.not_lt.2 (Nat.le_add_left 10 k))
  ·
   intro b a w hall
   refine exI fun b1=>exI fun b4=>exI fun g1=>exI fun f1=>anI fun hs=>anI fun HS=>anI fun d1=>anI fun a1=>anI fun e1=>fun c1=>?_
   obtain rfl:=a1 (hall 2 (by decide))
   obtain rfl:=c1 (hall 6 (by decide))
   refine G.at (hs.all hall) ?_
   obtain ⟨rfl,rfl⟩:=H9 H
   exact G.Hy _ _ func120 Z Z Z ⟨Z,(HS.pk 2 [] Z)⟩
theorem E8.calls {a_ b_ r1:Int} (HS:St w0 w (L)) (H:E8.f K a_ b_=some r1) :
    Calls prog 121 #[I a_,I b_] w (E8.post w0 L r1):=by
  unfold E8.f at H
  refine cG func121 Z ?_
  refine rN 7 Z ?_
  refine G.name (fun f1 d1=>?_)
  have e1:∀ b1,b1≤K→∀ (e_9:Int) (w:World),E8.l1 K b1 a_ b_ e_9=some r1→St w0 w (L)→G prog 121 30 [(0,I a_),(1,I b_),(5,I e_9)] f1 w (E8.post w0 L r1):=by
   refine lp (fun _ w H _=>by rw [E8.l1] at H; cases H) fun a1 g1 c1 e_9 w H HS=>?_
   rw [E8.l1] at H
   subst d1
   refine rN 3 Z ?_
   rcases iS H with ⟨c19,H⟩ | ⟨c19,H⟩
   ·
    refine nB Z (tF c19) (rN 3 Z ?_)
    obtain rfl:=sI H
    exact rT _ func121 Z Z ⟨Z,HS⟩
   refine yB Z (tT c19) (rN 4 Z ?_)
   obtain ⟨t20,t21,h22,H⟩:=Ea H
   refine rG (mV Z (fJ Tg Z (Gs.calls HS  h22) (fun _ wd23 ⟨h24,HS⟩=>⟨_,h24,(pS 5 Z (nL (sQ ?_)))⟩)))
   rcases iS H with ⟨c26,H⟩ | ⟨c26,H⟩
   ·
    refine rG (pS 3 Z (GO.min2 Z Z Z Z (pS 2 Z (kN 22 Z (tF c26) (oF Z (oF Z (oF Z (oF Z (oF Z (GO.Jm Z Z Z Z Z (nL (rN 5 Z (gW (c1 a1 (lR _) _ _ H HS) Z)))))))))))))
   refine rG (pS 3 Z (GO.min2 Z Z Z Z (pS 2 Z (kN 22 Z (tT c26) (oN Z (mV Z (bK (oN Z (mV Z (bK (oN Z (mV Z (bK (oN Z ?_))))))))))))))
   refine GO.max2 Z Z Z Z (bK (oN Z (GO.eql Z Z Z Z (bK (GO.Iz Z Z Z Z Z (nL ?_))))))
   rcases iE H with ⟨c27,H⟩ | ⟨c27,H⟩
   ·
    refine yB Z (tT c27) (rN 2 Z ?_)
    obtain rfl:=sI H
    exact rT _ func121 Z Z ⟨Z,HS⟩
   refine nB Z (tF c27) (rN 4 Z (gW (c1 a1 (lR _) _ _ H HS) Z))
  exact gW (e1 K (lR _) _ _ H HS) Z
theorem Cb.calls {marks:List Int} {width:Int} {r1:List (List Int)} {r2:Int} (HS:St w0 w (L)) (r_a:Ce w0 L (Ar .i64) A_a c_a uu marks) (H:Cb.f K marks width=some (r1,r2)) :
    Calls prog 122 #[sV A_a marks c_a,I width] w (Cb.post w0 L r1 r2):=by
  unfold Cb.f at H
  refine cG func122 Z ?_
  refine rN 3 Z ?_
  obtain ⟨c1,H⟩:=iN H
  obtain ⟨c2,H⟩:=iN H
  refine rG (mV Z (lS Z Z U56 Z (GO.make (T:=(Ar .i64)) 0 () HS Ba Z Z Z U56 Ml Z Z Z c1 c2 Z fun b3 wd4 HS=>aS Z (nL (rN 3 Z (rG (GO.Cw (el:=56) ([]) HS Z Z (fun _=>by kernel_rfl) Z fun b5 wd6 HS=>?_)))))))
  replace HS:=HS.Zh (T:=(Ty.slice 2 (Ar .i64))) (j:=0) Z (fun _=>⟨none,0,uu⟩)
  refine GO.H7 (t:=16) (m:=([]:List (List Int)).length) (c':=0) Z Z Z (aS Z (nL (rN 5 Z ?_)))
  refine G.name (fun s1 e2=>?_)
  have f2:∀ m1,m1≤K→∀ (a1:List Int) (b1 f1:Int) (w:World),Cb.l1 K m1 marks width a1 b1 f1=some (r1,r2)→St w0 w (Own (Ar .i64) 2 (sb b3) ((marks.length:Int).toNat) uu a1::Own (Ty.slice 2 (Ar .i64)) 56 (sb b5) 0 (fun _=>⟨none,0,uu⟩) ([]:List (List Int))::L)→G prog 122 67 [(0,sV A_a marks c_a),(1,I width),(6,sV (sb b3) a1 ((marks.length:Int).toNat)),(7,I b1),(8,sV (sb b5) ([]:List (List Int)) 0),(9,I f1)] s1 w (Cb.post w0 L r1 r2):=by
   refine lp (fun _ _ _ w H _=>by rw [Cb.l1] at H; cases H) fun i1 h2 q1 a1 b1 f1 w H HS=>?_
   rw [Cb.l1] at H
   subst e2
   refine rN 2 Z (rG (pS 2 Z (lS Z Z U56 Z (GO.lss Z Z Z Z (nL ?_)))))
   rcases iE H with ⟨c190,H⟩ | ⟨c190,H⟩
   ·
    refine yB Z (tT c190) (rN 4 Z ?_)
    obtain ⟨c191,H⟩:=iN H
    refine rG (pS 2 Z (iX Z U56 sz2 (rk (rD 2 r_a) HS) c191 (GO.Cj (T:=(Ar .i64)) (n:=f1.toNat) (o:=0) HS (rD 2 r_a) Z Z (getD_some (d:=0) (ltN c191)) Z Z na2 Z (pS 2 Z (nL ?_)))))
    rcases iS H with ⟨c192,H⟩ | ⟨c192,H⟩
    ·
     refine nB Z (tF c192) (rN 4 Z (gW (q1 i1 (lR _) _ _ _ _ H HS) Z))
    refine yB Z (tT c192) (sQ ?_)
    obtain ⟨c193,H⟩:=iN H
    refine rG (pS 3 Z (iX Z U56 sz2 (fun _=>⟨_,_,Z⟩) c193 (GO.Ii (T:=(Ar .i64)) (j:=0) (n:=f1.toNat) (o:=0) (vs:=[I b1]) b1 HS Z Ba Z Z Z Z (htN na2 Z) Z (getD_some (d:=0) (ltN c193)) Z Z fun wd194 HS=>nL (G.len (t:=6) (m:=(a1.set f1.toNat b1).length) Z (by simp only [List.length_set] <;> rfl) (rN 4 Z (gW (q1 i1 (lR _) _ _ _ _ H HS) Z))))))
   refine nB Z (tF c190) (rN 6 Z ?_)
   refine G.name (fun t1 z1=>?_)
   have d2:∀ k1,k1≤i1→∀ (A250:Option Addr) (c251:Nat) (d1:List (List Int)) (y253:Nat→(Ty.slice 2 (Ar .i64)).Lay) (g1:Int) (w:World),Cb.l7 K k1 marks width a1 b1 d1 g1=some (r1,r2)→St w0 w (Own (Ar .i64) 2 (sb b3) ((marks.length:Int).toNat) uu a1::Own (Ty.slice 2 (Ar .i64)) 56 A250 c251 y253 d1::L)→G prog 122 67 [(0,sV A_a marks c_a),(1,I width),(6,sV (sb b3) a1 ((marks.length:Int).toNat)),(7,I b1),(8,sV A250 d1 c251),(10,I g1)] t1 w (Cb.post w0 L r1 r2):=by
    refine lp (fun _ _ _ _ _ w H _=>by rw [Cb.l7] at H; cases H) fun o1 g2 y1 A250 c251 d1 y253 g1 w H HS=>?_
    rw [Cb.l7] at H
    subst z1
    refine rN 2 Z (rG (pS 2 Z (lS Z Z U56 Z (GO.lss Z Z Z Z (nL ?_)))))
    rcases iS H with ⟨c310,H⟩ | ⟨c310,H⟩
    ·
     refine nB Z (tF c310) (rN 3 Z ?_)
     obtain ⟨rfl,rfl⟩:=H9 H
     exact G.Hy _ _ func122 Z Z Z ⟨_,_,_,Z,(HS.pk 2 [1] Z)⟩
    refine yB Z (tT c310) (rN 4 Z (rG (GO.Cw (el:=2) ([]) HS Z Z (fun _=>by kernel_rfl) Z fun b311 wd312 HS=>?_)))
    replace HS:=HS.Fq (T:=(Ar .i64)) (j:=0) Z Ba uu ([]:List Int) Z (Il Z)
    refine GO.H7 (t:=42) (m:=([]:List Int).length) (c':=([]:List Int).length) Z Z Z (aS Z (nL (rN 5 Z ?_)))
    refine G.name (fun a2 x1=>?_)
    have u1:∀ p1,p1≤o1→∀ (A329:Option Addr) (c330:Nat) (h1:List Int) (e1:Int) (w:World),Cb.l10 K p1 marks width a1 b1 d1 g1 h1 e1=some (r1,r2)→St w0 w (Own (Ar .i64) 2 (sb b3) ((marks.length:Int).toNat) uu a1::Own (Ty.slice 2 (Ar .i64)) 56 A250 c251 y253 d1::Own (Ar .i64) 2 A329 c330 uu h1::L)→G prog 122 67 [(0,sV A_a marks c_a),(1,I width),(6,sV (sb b3) a1 ((marks.length:Int).toNat)),(7,I b1),(8,sV A250 d1 c251),(10,I g1),(11,sV A329 h1 c330),(12,I e1)] a2 w (Cb.post w0 L r1 r2):=by
     refine lp (fun _ _ _ _ w H _=>by rw [Cb.l10] at H; cases H) fun n1 v1 b2 A329 c330 h1 e1 w H HS=>?_
     rw [Cb.l10] at H
     subst x1
     refine rN 3 Z ?_
     rcases iS H with ⟨c349,H⟩ | ⟨c349,H⟩
     ·
      refine nB Z (tF c349) (G.exit Z ?_)
      obtain ⟨c363,H⟩:=iN H
      refine rG (pS 2 Z (GO.Cw (el:=56) ([sV A329 h1 c330]) HS Z Z (fun _=>by kernel_rfl) Z fun b358 wd359 HS=>?_))
      replace HS:=HS.pk 4 [2,0,3,1] Z
      refine GO.Ul (S:=(Ar .i64)) (u:=2) HS Z Z Z M8 jC Z Z c363 Z fun A361 c362 y364 wd360 HS=>aS Z (nL (rN 3 Z (gW (y1 n1 (Nat.le_of_succ_le v1) _ _ _ _ _ _ H (HS.pk 3 [2,0] Z)) Z)))
     refine yB Z (tT c349) (rN 3 Z ?_)
     obtain ⟨c350,H⟩:=iN H
     obtain ⟨c351,H⟩:=iN H
     obtain ⟨c357,H⟩:=iN H
     refine rG (pS 4 Z (iX Z U56 sz2 (rk (rD 3 r_a) HS) c350 (GO.Cj (T:=(Ar .i64)) (n:=e1.toNat) (o:=0) HS (rD 3 r_a) Z Z (getD_some (d:=0) (ltN c350)) Z Z na2 Z (iX Z U56 sz2 (fun _=>⟨_,_,Z⟩) c351 (GO.Cj (T:=(Ar .i64)) (n:=(marks.getD e1.toNat 0).toNat) (o:=0) HS (ro 0 Z) Z Z (getD_some (d:=0) (ltN c351)) Z Z na2 Z (GO.Cw (el:=2) ([I (a1.getD ((marks.getD e1.toNat 0).toNat) 0)]) HS Z Z (fun _=>by kernel_rfl) Z fun b352 wd353 HS=>GO.app1 (T:=(Ar .i64)) (j:=3) (jb:=0) (a1.getD ((marks.getD e1.toNat 0).toNat) 0) HS Z Z Ba Z Z Z U56 Ml Z Z Z c357 Z fun A355 c356 wd354 HS=>aS Z (nL (rN 3 Z (gW (b2 n1 (lR _) _ _ _ _ _ H (HS.pk 4 [1,2,3] Z)) Z)))))))))
    exact gW (u1 o1 (lR _) _ _ _ _ _ H (HS.pk 3 [1,2,0] Z)) Z
   exact gW (d2 i1 (lR _) _ _ _ _ _ _ H HS) Z
  exact gW (f2 K (lR _) _ _ _ _ H (HS.pk 2 [1,0] Z)) Z
theorem Bf.calls {a1:List (List Ab)} {y_a:Nat→(Ty.slice 107 Ad).Lay} {r1 r2 r3:List (List Int)} {r4:List Int} (HS:St w0 w (L)) (r_a:Ce w0 L (Ty.slice 107 Ad) A_a c_a y_a a1) (H:Bf.f K a1=some (r1,r2,r3,r4)) :
    Calls prog 78 #[.agg [sV A_a a1 c_a].toArray] w (Bf.post w0 L r1 r2 r3 r4):=by
  unfold Bf.f at H
  refine cG func78 Z ?_
  refine sQ (rG (bA HS Z fun b1 wd2 HS=>GO.alloc HS Z Ue Z Z fun b3 wd4 HS=>aS Z (nL (sQ ?_))))
  obtain ⟨t5,h6,H⟩:=bI H
  refine rG (lW 1 HS Z Dq (fJ Og Z (Cs.calls HS (rD 2 r_a) h6) (fun _ wd7 ⟨h8,HS⟩=>⟨_,h8,(aS Z (nL (sQ ?_)))⟩)))
  obtain ⟨t9,h10,H⟩:=bI H
  refine rG (pS 2 Z (fJ aF Z (Em.calls HS  h10) (fun _ wd13 ⟨A11,c12,h14,HS⟩=>⟨_,h14,(aS Z (nL (sQ ?_)))⟩)))
  obtain ⟨t15,h16,H⟩:=bI H
  refine rG (pS 2 Z (fJ aF Z (Em.calls HS  h16) (fun _ wd19 ⟨A17,c18,h20,HS⟩=>⟨_,h20,(aS Z (nL (sQ ?_)))⟩)))
  obtain ⟨t21,h22,H⟩:=bI H
  refine rG (pS 2 Z (fJ aF Z (Em.calls HS  h22) (fun _ wd25 ⟨A23,c24,h26,HS⟩=>⟨_,h26,(aS Z (nL (rN 5 Z ?_)))⟩)))
  refine G.name (fun a2 k2=>?_)
  have m2:∀ q1,q1≤K→∀ (k1 i1 x782:List Int) (x783:Int) (w:World),Bf.l1 K q1 a1 t5 k1 i1 x782 x783=some (r1,r2,r3,r4)→St w0 w (Box b1 31 [sV A_a a1 c_a]::Box b3 111 [.slice none 0 0,.slice none 0 0,.slice none 0 0]::Own (Ar .i64) 2 A11 c12 uu k1::Own (Ar .i64) 2 A17 c18 uu i1::Own (Ar .i64) 2 A23 c24 uu x782::L)→G prog 78 148 [(1,pT b1),(2,pT b3),(4,I t5),(5,sV A11 k1 c12),(6,sV A17 i1 c18),(7,sV A23 x782 c24),(8,I x783)] a2 w (Bf.post w0 L r1 r2 r3 r4):=by
   refine lp (fun _ _ _ _ w H _=>by rw [Bf.l1] at H; cases H) fun u1 p2 o2 k1 i1 x782 x783 w H HS=>?_
   rw [Bf.l1] at H
   subst k2
   refine rN 3 Z ?_
   rcases iS H with ⟨c1537,H⟩ | ⟨c1537,H⟩
   ·
    refine nB Z (tF c1537) (rN 2 Z (rG (GO.Dr (.agg [.slice none 0 0,.slice none 0 0,.slice none 0 0].toArray) Z Z (fun _=>by kernel_rfl) Z (GO.alloc HS Z Ue Z Z fun b2251 wd2252 HS=>sW 0 HS Z Pm Z fun wd2253 HS=>nL (sQ (rG (mV Z (GO.Cw (el:=2) ([I 0,I 0,I 0,I t5]) HS Z Z (fun _=>by kernel_rfl) Z fun b2254 wd2255 HS=>?_))))))))
    replace HS:=HS.Fq (T:=(Ar .i64)) (j:=0) Z Ba uu ([0,0,0,t5]:List Int) Z (Il Z)
    refine GO.H7 (t:=121) (m:=([0,0,0,t5]:List Int).length) (c':=([0,0,0,t5]:List Int).length) Z Z Z (aS Z (nL (sQ ?_)))
    obtain ⟨t2256,t2257,h2258,H⟩:=Ea H
    obtain ⟨c2265,H⟩:=iN H
    refine rG (pS 2 Z (fJ Z8 Z (Cb.calls HS (ro 4 Z) h2258) (fun _ wd2262 ⟨A2259,c2260,y2261,h2263,HS⟩=>⟨_,h2263,(pS 3 Z (fL b2251 0 Vq Z (GO.Ie (j:=2) (vs:=[sV A2259 t2256 c2260]) ([sV A2259 t2256 c2260,.slice none 0 0,.slice none 0 0]) HS Z Z Z Z Z (htN Lx Z) Z Z Z fun wd2264 HS=>iX Z U56 sz2 (fun _=>⟨_,_,Z⟩) c2265 (GO.Ii (T:=(Ar .i64)) (j:=1) (n:=0) (o:=0) (vs:=[I t2257]) t2257 HS Z Ba Z Z Z Z (htN na2 Z) Z (getD_some (d:=0) (ltN c2265)) Z Z fun wd2266 HS=>nL (G.len (t:=16) (m:=(([0,0,0,t5]:List Int).set 0 t2257).length) Z (by simp only [List.length_set] <;> rfl) (sQ ?_))))))⟩)))
    obtain ⟨t2267,t2268,h2269,H⟩:=Ea H
    obtain ⟨c2276,H⟩:=iN H
    refine rG (pS 2 Z (fJ Z8 Z (Cb.calls HS (ro 6 Z) h2269) (fun _ wd2273 ⟨A2270,c2271,y2272,h2274,HS⟩=>⟨_,h2274,(pS 3 Z (fL b2251 1 Lj Z (GO.Ie (j:=3) (vs:=[sV A2270 t2267 c2271]) ([sV A2259 t2256 c2260,sV A2270 t2267 c2271,.slice none 0 0]) HS Z Z Z Z Z (htN Lx Z) Z Z Z fun wd2275 HS=>iX Z U56 sz2 (fun _=>⟨_,_,Z⟩) c2276 (GO.Ii (T:=(Ar .i64)) (j:=2) (n:=1) (o:=0) (vs:=[I t2268]) t2268 HS Z Ba Z Z Z Z (htN na2 Z) Z (getD_some (d:=0) (ltN c2276)) Z Z fun wd2277 HS=>nL (G.len (t:=16) (m:=((([0,0,0,t5]:List Int).set 0 t2257).set 1 t2268).length) Z (by simp only [List.length_set] <;> rfl) (sQ ?_))))))⟩)))
    obtain ⟨t2278,t2279,h2280,H⟩:=Ea H
    obtain ⟨c2287,H⟩:=iN H
    refine rG (pS 2 Z (fJ Z8 Z (Cb.calls HS (ro 8 Z) h2280) (fun _ wd2284 ⟨A2281,c2282,y2283,h2285,HS⟩=>⟨_,h2285,(pS 3 Z (fL b2251 2 Wp Z (GO.Ie (j:=4) (vs:=[sV A2281 t2278 c2282]) ([sV A2259 t2256 c2260,sV A2270 t2267 c2271,sV A2281 t2278 c2282]) HS Z Z Z Z Z (htN Lx Z) Z Z Z fun wd2286 HS=>iX Z U56 sz2 (fun _=>⟨_,_,Z⟩) c2287 (GO.Ii (T:=(Ar .i64)) (j:=3) (n:=2) (o:=0) (vs:=[I t2279]) t2279 HS Z Ba Z Z Z Z (htN na2 Z) Z (getD_some (d:=0) (ltN c2287)) Z Z fun wd2288 HS=>nL (G.len (t:=16) (m:=(((([0,0,0,t5]:List Int).set 0 t2257).set 1 t2268).set 2 t2279).length) Z (by simp only [List.length_set] <;> rfl) (sQ (rG (lW 4 HS Z Pm (mV Z (sW 6 HS Z Pm Z fun wd2289 HS=>?_))))))))))⟩)))
    refine aS Z (nL ?_)
    obtain ⟨rfl,rfl,rfl,rfl⟩:=I8 H
    exact G.Hy _ _ func78 Z (Gz.Hu (j:=6) (vs:=[sV A2259 t2256 c2260,sV A2270 t2267 c2271,sV A2281 t2278 c2282]) HS Z Z Z Pm) Z ⟨_,_,_,_,_,_,_,_,_,_,_,Z,(HS.pk 10 [2,1,0,3] Z)⟩
   refine yB Z (tT c1537) (rN 7 Z ?_)
   refine G.name (fun h2 c2=>?_)
   have z1:∀ v1,v1≤u1→∀ (f1 d1 x1829:List Int) (x1830:Int) (w:World),Bf.l24 K v1 a1 t5 x783 f1 d1 x1829 x1830=some (r1,r2,r3,r4)→St w0 w (Box b1 31 [sV A_a a1 c_a]::Box b3 111 [.slice none 0 0,.slice none 0 0,.slice none 0 0]::Own (Ar .i64) 2 A11 c12 uu f1::Own (Ar .i64) 2 A17 c18 uu d1::Own (Ar .i64) 2 A23 c24 uu x1829::L)→G prog 78 148 [(1,pT b1),(2,pT b3),(4,I t5),(5,sV A11 f1 c12),(6,sV A17 d1 c18),(7,sV A23 x1829 c24),(8,I x783),(9,I x1830)] h2 w (Bf.post w0 L r1 r2 r3 r4):=by
    refine lp (fun _ _ _ _ w H _=>by rw [Bf.l24] at H; cases H) fun h1 f2 s1 f1 d1 x1829 x1830 w H HS=>?_
    rw [Bf.l24] at H
    subst c2
    refine rN 3 Z ?_
    rcases iS H with ⟨c2041,H⟩ | ⟨c2041,H⟩
    ·
     refine nB Z (tF c2041) (rN 4 Z (gW (o2 h1 (Nat.le_of_succ_le f2) _ _ _ _ _ H HS) Z))
    refine yB Z (tT c2041) (rN 4 Z ?_)
    obtain ⟨c2042,H⟩:=iN H
    obtain ⟨c2043,H⟩:=iN H
    obtain ⟨e2044,h2045,H⟩:=Di H
    refine rG (fL b1 0 Du Z (lB 0 HS Z Gu Z (mV Z (iX Z U29 Jg (rk (rD 5 r_a) HS) c2042 (GO.Cj (T:=(Ty.slice 107 Ad)) (n:=x783.toNat) (o:=0) HS (rD 5 r_a) Z Z (getD_some (d:=[]) (ltN c2042)) Z Z Jh Z (mV Z (GO.ix Z Z Z U77 G9 ((Ce.elem (rD 5 r_a) c2042.1 c2042.2) _ HS).2.2.1 c2043.1 c2043.2 Z (GO.Hw (T:=Ad) (n:=x1830.toNat) HS (Ce.elem (rD 5 r_a) c2042.1 c2042.2) Z Z (Cn (ltN c2043) h2045) D9 Z (GO.alloc HS Z Jz Z Z fun b2046 wd2047 HS=>sW 0 HS Z D9 Z fun wd2048 HS=>nL (rN 2 Z (rG (fL b2046 0 Dp Z ?_))))))))))))
    refine lB 0 HS Z na2 Z (GO.lss Z Z Z Z (nL ?_))
    rcases iE H with ⟨c2049,H⟩ | ⟨c2049,H⟩
    ·
     refine yB Z (tT c2049) (rN 3 Z (gW (s1 h1 (lR _) _ _ _ _ _ H (HS.pk 6 [1,2,3,4,5] Z)) Z))
    refine nB Z (tF c2049) (rN 2 Z ?_)
    obtain ⟨t2050,h2051,H⟩:=bI H
    obtain ⟨t2054,h2055,H⟩:=bI H
    obtain ⟨c2056,H⟩:=iN H
    refine G.H8 mixed (fun w=>St w0 w (Box b2046 107 [I e2044.Tet,I e2044.Perm]::L)) [6,9] [0,1,2,3,4,5,8,10,6,7,9,11,12,13] [] (by kernel_rfl) (by kernel_rfl) (HS.drew.pk 6 [0] Z) ?_
    replace HS:=HS.drew
    refine GX.ps 5 Z (qL Z Z (fun _ _ g=>fL b2046 0 Dp Z g) Z (qL Z Z (fun _ _ g=>fL b2046 1 Gn Z g) Z (GX.ps 1 Z (GX.ls Z Z Z (HS.pk 6 [0] Z) (fun _ HS _ g=>lB 0 HS Z na2 Z g) Z (GX.ps 1 Z (GX.ls Z Z Z (HS.pk 6 [0] Z) (fun _ HS _ g=>lB 0 HS Z na2 Z g) Z (GX.l2 Z (fJ Jt Z (Bq.calls HS  h2051) (fun _ wd2052 ⟨h2053,HS⟩=>⟨_,h2053,(GX.fin (HS.pk 6 [0] Z) (GX.ps 1 Z (GX.l2 Z ?_)))⟩)))))))))
    replace HS:=HS.pk 6 [5,0,1,2,3,4] Z
    refine fJ Zo Z (D6.calls HS  h2055) (fun _ wd2057 ⟨h2058,HS⟩=>⟨_,h2058,(GX.fin (HS.pk 6 [1] Z) (GX.nil (G.len (t:=7) (m:=t2054.length) Z (by simp only [List.length_set,c2056] <;> rfl) (rN 5 Z ?_))))⟩)
    refine G.name (fun x1 n2=>?_)
    have d2:∀ o1,o1≤h1→∀ (c1:List Int) (x2070:Int) (w:World),Bf.l32 K o1 a1 t5 x783 d1 x1830 e2044 t2054 c1 x2070=some (r1,r2,r3,r4)→St w0 w (Box b1 31 [sV A_a a1 c_a]::Box b3 111 [.slice none 0 0,.slice none 0 0,.slice none 0 0]::Own (Ar .i64) 2 A11 c12 uu c1::Own (Ar .i64) 2 A17 c18 uu d1::Own (Ar .i64) 2 A23 c24 uu t2054::Box b2046 107 [I e2044.Tet,I e2044.Perm]::L)→G prog 78 148 [(1,pT b1),(2,pT b3),(4,I t5),(5,sV A11 c1 c12),(6,sV A17 d1 c18),(7,sV A23 t2054 c24),(8,I x783),(9,I x1830),(10,pT b2046),(11,I x2070)] x1 w (Bf.post w0 L r1 r2 r3 r4):=by
     refine lp (fun _ _ w H _=>by rw [Bf.l32] at H; cases H) fun g1 y1 p1 c1 x2070 w H HS=>?_
     rw [Bf.l32] at H
     subst n2
     refine rN 3 Z ?_
     rcases iE H with ⟨c2161,H⟩ | ⟨c2161,H⟩
     ·
      refine yB Z (tT c2161) (rN 5 Z ?_)
      rcases iE H with ⟨c2162,H⟩ | ⟨c2162,H⟩
      ·
       refine nB Z (nT c2162) (rN 4 Z (gW (p1 g1 (lR _) _ _ _ H HS) Z))
      refine yB Z (nF c2162) ?_
      obtain ⟨t2163,h2164,H⟩:=bI H
      obtain ⟨t2167,h2168,H⟩:=bI H
      obtain ⟨c2169,H⟩:=iN H
      refine G.H8 mixed (fun w=>St w0 w (Box b2046 107 [I e2044.Tet,I e2044.Perm]::L)) [6,9] [0,1,2,3,4,5,8,10,6,7,9,11,12,13] [] (by kernel_rfl) (by kernel_rfl) (HS.drew.pk 6 [5] Z) ?_
      replace HS:=HS.drew
      refine GX.ps 5 Z (qL Z Z (fun _ _ g=>fL b2046 0 Dp Z g) Z (qL Z Z (fun _ _ g=>fL b2046 1 Gn Z g) Z (GX.ps 1 Z (GX.ls Z Z Z (HS.pk 6 [5] Z) (fun _ HS _ g=>lB 0 HS Z na2 Z g) Z (GX.ps 1 Z (GX.ls Z Z Z (HS.pk 6 [5] Z) (fun _ HS _ g=>lB 0 HS Z na2 Z g) Z (GX.l2 Z (fJ Jt Z (Bq.calls HS  h2164) (fun _ wd2165 ⟨h2166,HS⟩=>⟨_,h2166,(GX.fin (HS.pk 6 [5] Z) (GX.ps 1 Z (GX.l2 Z ?_)))⟩)))))))))
      replace HS:=HS.pk 6 [2,0,1,3,4,5] Z
      refine fJ Zo Z (D6.calls HS  h2168) (fun _ wd2170 ⟨h2171,HS⟩=>⟨_,h2171,(GX.fin (HS.pk 6 [5] Z) (GX.nil (G.len (t:=5) (m:=t2167.length) Z (by simp only [List.length_set,c2169] <;> rfl) (rN 3 Z (gW (p1 g1 (lR _) _ _ _ H (HS.pk 6 [1,2,0,3,4,5] Z)) Z)))))⟩)
     refine nB Z (tF c2161) (rN 5 Z ?_)
     refine G.name (fun e2 b2=>?_)
     have g2:∀ t1,t1≤g1→∀ (m1:List Int) (x2198:Int) (w:World),Bf.l34 K t1 a1 t5 x783 x1830 e2044 t2054 c1 m1 x2198=some (r1,r2,r3,r4)→St w0 w (Box b1 31 [sV A_a a1 c_a]::Box b3 111 [.slice none 0 0,.slice none 0 0,.slice none 0 0]::Own (Ar .i64) 2 A11 c12 uu c1::Own (Ar .i64) 2 A17 c18 uu m1::Own (Ar .i64) 2 A23 c24 uu t2054::Box b2046 107 [I e2044.Tet,I e2044.Perm]::L)→G prog 78 148 [(1,pT b1),(2,pT b3),(4,I t5),(5,sV A11 c1 c12),(6,sV A17 m1 c18),(7,sV A23 t2054 c24),(8,I x783),(9,I x1830),(10,pT b2046),(12,I x2198)] e2 w (Bf.post w0 L r1 r2 r3 r4):=by
      refine lp (fun _ _ w H _=>by rw [Bf.l34] at H; cases H) fun e1 i2 n1 m1 x2198 w H HS=>?_
      rw [Bf.l34] at H
      subst b2
      refine rN 3 Z ?_
      rcases iS H with ⟨c2225,H⟩ | ⟨c2225,H⟩
      ·
       refine nB Z (tF c2225) (rN 4 Z (gW (s1 e1 (Nat.le_trans (Nat.le_of_succ_le i2) (Nat.le_of_succ_le y1)) _ _ _ _ _ H (HS.pk 6 [0,1,2,3,4] Z)) Z))
      refine yB Z (tT c2225) (rN 4 Z ?_)
      obtain ⟨t2226,t2227,h2228,H⟩:=Ea H
      refine rG (mV Z (fJ Tg Z (Gs.calls HS  h2228) (fun _ wd2229 ⟨h2230,HS⟩=>⟨_,h2230,(pS 5 Z (nL (sQ ?_)))⟩)))
      rcases iE H with ⟨c2232,H⟩ | ⟨c2232,H⟩
      ·
       refine rG (pS 4 Z (kN 95 Z (nT c2232) (oF Z (oF Z (oF Z (GO.Jm Z Z Z Z Z (nL (rN 5 Z (gW (n1 e1 (lR _) _ _ _ H HS) Z)))))))))
      refine rG (pS 4 Z (kN 95 Z (nF c2232) (oN Z (mV Z (bK (oN Z (mV Z (bK (oN Z (GO.neq Z Z Z Z (bK (GO.Iz Z Z Z Z Z (nL ?_)))))))))))))
      rcases iE H with ⟨c2233,H⟩ | ⟨c2233,H⟩
      ·
       refine nB Z (nT c2233) (rN 4 Z (gW (n1 e1 (lR _) _ _ _ H HS) Z))
      refine yB Z (nF c2233) ?_
      obtain ⟨t2234,h2235,H⟩:=bI H
      obtain ⟨t2238,h2239,H⟩:=bI H
      obtain ⟨t2242,h2243,H⟩:=bI H
      obtain ⟨t2246,h2247,H⟩:=bI H
      obtain ⟨c2248,H⟩:=iN H
      refine G.H8 mixed (fun w=>St w0 w (Box b2046 107 [I e2044.Tet,I e2044.Perm]::L)) [6,9,13] [0,1,2,3,4,5,8,10,12,14,6,7,9,13,11,15,16,17,18] [] (by kernel_rfl) (by kernel_rfl) (HS.drew.pk 6 [5] Z) ?_
      replace HS:=HS.drew
      refine GX.ps 5 Z (qL Z Z (fun _ _ g=>fL b2046 0 Dp Z g) Z (qL Z Z (fun _ _ g=>fL b2046 1 Gn Z g) Z (GX.ps 1 Z (qL Z Z (fun _ _ g=>fL b2046 1 Gn Z g) Z (GX.ps 1 Z (GX.ls Z Z Z (HS.pk 6 [5] Z) (fun _ HS _ g=>lB 0 HS Z na2 Z g) Z (GX.ps 1 Z (GX.ls Z Z Z (HS.pk 6 [5] Z) (fun _ HS _ g=>lB 0 HS Z na2 Z g) Z (GX.ls Z Z Z (HS.pk 6 [5] Z) (fun _ HS _ g=>lB 0 HS Z na2 Z g) Z (GX.l2 Z (fJ Jt Z (Bq.calls HS  h2235) (fun _ wd2236 ⟨h2237,HS⟩=>⟨_,h2237,(GX.fin (HS.pk 6 [5] Z) (GX.l2 Z (fJ Jt Z (Bq.calls HS  h2239) (fun _ wd2240 ⟨h2241,HS⟩=>⟨_,h2241,?_⟩))))⟩))))))))))))
      refine GX.fin (HS.pk 6 [5] Z) (GX.l2 Z (fJ Z4 Z (E8.calls HS  h2243) (fun _ wd2244 ⟨h2245,HS⟩=>⟨_,h2245,(GX.fin (HS.pk 6 [5] Z) (GX.ps 1 Z (GX.l2 Z ?_)))⟩)))
      replace HS:=HS.pk 6 [3,0,1,2,4,5] Z
      refine fJ Zo Z (D6.calls HS  h2247) (fun _ wd2249 ⟨h2250,HS⟩=>⟨_,h2250,(GX.fin (HS.pk 6 [5] Z) (GX.nil (G.len (t:=6) (m:=t2246.length) Z (by simp only [List.length_set,c2248] <;> rfl) (rN 3 Z (gW (n1 e1 (lR _) _ _ _ H (HS.pk 6 [1,2,3,0,4,5] Z)) Z)))))⟩)
     exact gW (g2 g1 (lR _) _ _ _ H HS) Z
    exact gW (d2 h1 (lR _) _ _ _ H (HS.pk 6 [2,3,4,5,0,1] Z)) Z
   exact gW (z1 u1 (lR _) _ _ _ _ _ H HS) Z
  exact gW (m2 K (lR _) _ _ _ _ _ H (HS.pk 5 [4,3,2,1,0] Z)) Z
theorem Cm.calls {d1:List (List Ab)} {y_a:Nat→(Ty.slice 107 Ad).Lay} {r1:List (List Int)} (HS:St w0 w (L)) (r_a:Ce w0 L (Ty.slice 107 Ad) A_a c_a y_a d1) (H:Cm.f K d1=some r1) :
    Calls prog 154 #[.agg [sV A_a d1 c_a].toArray] w (Cm.post w0 L r1):=by
  unfold Cm.f at H
  refine cG func154 Z ?_
  refine sQ (rG (bA HS Z fun b1 wd2 HS=>aS Z (nL (sQ (rG (GO.Cw (el:=56) ([]) HS Z Z (fun _=>by kernel_rfl) Z fun b3 wd4 HS=>?_))))))
  replace HS:=HS.Zh (T:=(Ty.slice 2 (Ar .i64))) (j:=0) Z (fun _=>⟨none,0,uu⟩)
  refine GO.H7 (t:=6) (m:=([]:List (List Int)).length) (c':=0) Z Z Z (aS Z (nL (rN 5 Z ?_)))
  refine G.name (fun q1 t1=>?_)
  have u1:∀ h1,h1≤K→∀ (A55:Option Addr) (c56:Nat) (f1:List (List Int)) (y58:Nat→(Ty.slice 2 (Ar .i64)).Lay) (a1:Int) (w:World),Cm.l1 K h1 d1 f1 a1=some r1→St w0 w (Box b1 31 [sV A_a d1 c_a]::Own (Ty.slice 2 (Ar .i64)) 56 A55 c56 y58 f1::L)→G prog 154 35 [(1,pT b1),(3,sV A55 f1 c56),(4,I a1)] q1 w (Cm.post w0 L r1):=by
   refine lp (fun _ _ _ _ _ w H _=>by rw [Cm.l1] at H; cases H) fun k1 x1 v1 A55 c56 f1 y58 a1 w H HS=>?_
   rw [Cm.l1] at H
   subst t1
   refine rN 2 Z (rG (mV Z (fL b1 0 Du Z (lB 0 HS Z Gu Z (lS Z Z U29 Z (GO.lss Z Z Z Z (nL ?_)))))))
   rcases iS H with ⟨c110,H⟩ | ⟨c110,H⟩
   ·
    refine nB Z (tF c110) (rN 3 Z ?_)
    obtain rfl:=sI H
    exact rT _ func154 Z Z ⟨_,_,_,Z,(HS.pk 2 [1] Z)⟩
   refine yB Z (tT c110) (rN 7 Z ?_)
   refine G.name (fun s1 p1=>?_)
   have n1:∀ m1,m1≤k1→∀ (A125:Option Addr) (c126:Nat) (e1:List (List Int)) (y128:Nat→(Ty.slice 2 (Ar .i64)).Lay) (c1:Int) (w:World),Cm.l4 K m1 d1 a1 e1 c1=some r1→St w0 w (Box b1 31 [sV A_a d1 c_a]::Own (Ty.slice 2 (Ar .i64)) 56 A125 c126 y128 e1::L)→G prog 154 35 [(1,pT b1),(3,sV A125 e1 c126),(4,I a1),(5,I c1)] s1 w (Cm.post w0 L r1):=by
    refine lp (fun _ _ _ _ _ w H _=>by rw [Cm.l4] at H; cases H) fun g1 o1 i1 A125 c126 e1 y128 c1 w H HS=>?_
    rw [Cm.l4] at H
    subst p1
    refine rN 3 Z ?_
    rcases iS H with ⟨c145,H⟩ | ⟨c145,H⟩
    ·
     refine nB Z (tF c145) (rN 4 Z (gW (v1 g1 (Nat.le_of_succ_le o1) _ _ _ _ _ _ H HS) Z))
    refine yB Z (tT c145) (rN 4 Z ?_)
    obtain ⟨c146,H⟩:=iN H
    obtain ⟨c147,H⟩:=iN H
    obtain ⟨e148,h149,H⟩:=Di H
    refine rG (fL b1 0 Du Z (lB 0 HS Z Gu Z (mV Z (iX Z U29 Jg (rk (rD 2 r_a) HS) c146 (GO.Cj (T:=(Ty.slice 107 Ad)) (n:=a1.toNat) (o:=0) HS (rD 2 r_a) Z Z (getD_some (d:=[]) (ltN c146)) Z Z Jh Z (mV Z (GO.ix Z Z Z U77 G9 ((Ce.elem (rD 2 r_a) c146.1 c146.2) _ HS).2.2.1 c147.1 c147.2 Z (GO.fld (ea ((y_a a1.toNat).A) (c1.toNat * 2)) Z Z Dp Z Z (GO.Cj (T:=Ad) (n:=c1.toNat) (o:=0) HS (Ce.elem (rD 2 r_a) c146.1 c146.2) Z Z (Cn (ltN c147) h149) Z Z na2 Z (GO.lss Z Z Z Z (nL ?_)))))))))))
    rcases iS H with ⟨c150,H⟩ | ⟨c150,H⟩
    ·
     refine nB Z (tF c150) (rN 4 Z (gW (i1 g1 (lR _) _ _ _ _ _ _ H HS) Z))
    refine yB Z (tT c150) ?_
    obtain ⟨c158,H⟩:=iN H
    refine rG (pS 3 Z (GO.Cw (el:=2) ([I a1,I c1]) HS Z Z (fun _=>by kernel_rfl) Z fun b151 wd152 HS=>?_))
    replace HS:=HS.Fq (T:=(Ar .i64)) (j:=0) Z Ba uu ([a1,c1]:List Int) Z (Il Z)
    refine GO.H7 (t:=31) (m:=([a1,c1]:List Int).length) (c':=([a1,c1]:List Int).length) Z Z Z (GO.Cw (el:=56) ([sV (sb b151) ([a1,c1]:List Int) (([a1,c1]:List Int).length)]) HS Z Z (fun _=>by kernel_rfl) Z fun b153 wd154 HS=>?_)
    replace HS:=HS.pk 4 [3,0,1,2] Z
    refine GO.Ul (S:=(Ar .i64)) (u:=2) HS Z Z Z M8 jC Z Z c158 Z fun A156 c157 y159 wd155 HS=>aS Z (nL (rN 3 Z (gW (i1 g1 (lR _) _ _ _ _ _ _ H (HS.pk 3 [2,0] Z)) Z)))
   exact gW (n1 k1 (lR _) _ _ _ _ _ _ H HS) Z
  exact gW (u1 K (lR _) _ _ _ _ _ _ H (HS.pk 2 [1,0] Z)) Z
theorem Df.calls {flags:List Bool} {r1:List Int} (HS:St w0 w (L)) (r_a:Ce w0 L Hz A_a c_a uu flags) (H:Df.f K flags=some r1) :
    Calls prog 155 #[sV A_a flags c_a] w (Df.post w0 L r1):=by
  unfold Df.f at H
  refine cG func155 Z ?_
  refine rN 3 Z (rG (GO.Cw (el:=2) ([]) HS Z Z (fun _=>by kernel_rfl) Z fun b1 wd2 HS=>?_))
  replace HS:=HS.Fq (T:=(Ar .i64)) (j:=0) Z Ba uu ([]:List Int) Z (Il Z)
  refine GO.H7 (t:=5) (m:=([]:List Int).length) (c':=([]:List Int).length) Z Z Z (aS Z (nL (rN 5 Z ?_)))
  refine G.name (fun i1 g1=>?_)
  have h1:∀ e1,e1≤K→∀ (A12:Option Addr) (c13:Nat) (c1:List Int) (a1:Int) (w:World),Df.l1 K e1 flags c1 a1=some r1→St w0 w (Own (Ar .i64) 2 A12 c13 uu c1::L)→G prog 155 21 [(0,sV A_a flags c_a),(3,sV A12 c1 c13),(4,I a1)] i1 w (Df.post w0 L r1):=by
   refine lp (fun _ _ _ _ w H _=>by rw [Df.l1] at H; cases H) fun d1 k1 f1 A12 c13 c1 a1 w H HS=>?_
   rw [Df.l1] at H
   subst g1
   refine rN 2 Z (rG (pS 2 Z (lS Z Z Mq Z (GO.lss Z Z Z Z (nL ?_)))))
   rcases iS H with ⟨c25,H⟩ | ⟨c25,H⟩
   ·
    refine nB Z (tF c25) (rN 3 Z ?_)
    obtain rfl:=sI H
    exact rT _ func155 Z Z ⟨_,_,Z,HS⟩
   refine yB Z (tT c25) (rN 4 Z ?_)
   obtain ⟨c26,H⟩:=iN H
   refine rG (pS 2 Z (iX Z Mq sz4 (rk (rD 1 r_a) HS) c26 (GO.Cj (T:=Hz) (n:=a1.toNat) (o:=0) HS (rD 1 r_a) Z Z (getD_some (d:=false) (ltN c26)) Z Z na4 Z (nL ?_))))
   rcases iS H with ⟨c27,H⟩ | ⟨c27,H⟩
   ·
    refine nB Z (Db c27) (rN 4 Z (gW (f1 d1 (lR _) _ _ _ _ _ H HS) Z))
   refine yB Z c27 ?_
   obtain ⟨c33,H⟩:=iN H
   refine rG (pS 2 Z (GO.Cw (el:=2) ([I a1]) HS Z Z (fun _=>by kernel_rfl) Z fun b28 wd29 HS=>GO.app1 (T:=(Ar .i64)) (j:=1) (jb:=0) a1 HS Z Z Ba Z Z Z U56 Ml Z Z Z c33 Z fun A31 c32 wd30 HS=>aS Z (nL (rN 3 Z (gW (f1 d1 (lR _) _ _ _ _ _ H (HS.pk 2 [1] Z)) Z)))))
  exact gW (h1 K (lR _) _ _ _ _ _ H HS) Z
theorem Bb.calls {o1:List (List Ab)} {y_a:Nat→(Ty.slice 107 Ad).Lay} {r1 r2 r3:List Int} (HS:St w0 w (L)) (r_a:Ce w0 L (Ty.slice 107 Ad) A_a c_a y_a o1) (H:Bb.f K o1=some (r1,r2,r3)) :
    Calls prog 132 #[.agg [sV A_a o1 c_a].toArray] w (Bb.post w0 L r1 r2 r3):=by
  unfold Bb.f at H
  refine cG func132 Z ?_
  refine sQ (rG (bA HS Z fun b1 wd2 HS=>pS 3 Z (nL (rN 2 Z ?_))))
  obtain ⟨t3,h4,H⟩:=bI H
  refine rG (lW 0 HS Z Dq (fJ aQ Z (Aj.calls HS (rD 1 r_a) h4) (fun _ wd5 ⟨h6,HS⟩=>⟨_,h6,(GO.not Z Z Z (nL ?_))⟩)))
  rcases iS H with ⟨c7,H⟩ | ⟨c7,H⟩
  ·
   refine yB Z (congrArg Bool.not (Db c7)) (rN 2 Z ?_)
   replace HS:=HS.Dm (Ar .i64) 2 uu
   replace HS:=HS.Dm (Ar .i64) 2 uu
   replace HS:=HS.Dm (Ar .i64) 2 uu
   obtain ⟨rfl,rfl,rfl⟩:=Mm H
   exact G.dN _ _ _ func132 Z Z Z Z ⟨_,_,_,_,_,_,Z,(HS.pk 4 [2,1,0] Z)⟩
  refine nB Z (congrArg Bool.not c7) (rN 2 Z ?_)
  obtain ⟨t8,t9,t10,t11,h12,H⟩:=D8 H
  refine rG (lW 0 HS Z Dq (fJ Ym Z (Bf.calls HS (rD 1 r_a) h12) (fun _ wd24 ⟨A13,c14,y15,A16,c17,y18,A19,c20,y21,A22,c23,h25,HS⟩=>⟨_,h25,(pS 3 Z (GO.alloc HS Z Ue Z Z fun b26 wd27 HS=>sW 0 HS Z Pm Z fun wd28 HS=>aS Z (nL (sQ ?_))))⟩)))
  obtain ⟨c29,H⟩:=iN H
  obtain ⟨c30,H⟩:=iN H
  obtain ⟨c31,H⟩:=iN H
  refine rG (mV Z (iX Z U56 sz2 (rk (ro 4 Z) HS) c29 (GO.Cj (T:=(Ar .i64)) (n:=0) (o:=0) HS (ro 4 Z) Z Z (getD_some (d:=0) (ltN c29)) Z Z na2 Z (GO.make (T:=Hz) false () HS Ba Z Z Z Mq dM Z Z Z c30 c31 Z fun b32 wd33 HS=>aS Z (nL (sQ ?_))))))
  obtain ⟨c34,H⟩:=iN H
  obtain ⟨c35,H⟩:=iN H
  obtain ⟨c36,H⟩:=iN H
  refine rG (mV Z (iX Z U56 sz2 (rk (ro 5 Z) HS) c34 (GO.Cj (T:=(Ar .i64)) (n:=1) (o:=0) HS (ro 5 Z) Z Z (getD_some (d:=0) (ltN c34)) Z Z na2 Z (GO.make (T:=Hz) false () HS Ba Z Z Z Mq dM Z Z Z c35 c36 Z fun b37 wd38 HS=>aS Z (nL (sQ ?_))))))
  obtain ⟨c39,H⟩:=iN H
  obtain ⟨c40,H⟩:=iN H
  obtain ⟨c41,H⟩:=iN H
  refine rG (mV Z (iX Z U56 sz2 (rk (ro 6 Z) HS) c39 (GO.Cj (T:=(Ar .i64)) (n:=2) (o:=0) HS (ro 6 Z) Z Z (getD_some (d:=0) (ltN c39)) Z Z na2 Z (GO.make (T:=Hz) false () HS Ba Z Z Z Mq dM Z Z Z c40 c41 Z fun b42 wd43 HS=>aS Z (nL (sQ ?_))))))
  obtain ⟨t44,h45,H⟩:=bI H
  refine rG (lW 8 HS Z Dq (fJ sD Z (Cm.calls HS (rD 9 r_a) h45) (fun _ wd49 ⟨A46,c47,y48,h50,HS⟩=>⟨_,h50,(aS Z (nL (rN 5 Z ?_)))⟩)))
  refine G.name (fun x1 f2=>?_)
  have g2:∀ q1,q1≤K→∀ (i1 e1 c1:List Bool) (a1:Int) (w:World),Bb.l1 K q1 t8 t9 t10 t44 i1 e1 c1 a1=some (r1,r2,r3)→St w0 w (Box b26 111 [sV A13 t8 c14,sV A16 t9 c17,sV A19 t10 c20]::Own (Ty.slice 2 (Ar .i64)) 56 A13 c14 y15 t8::Own (Ty.slice 2 (Ar .i64)) 56 A16 c17 y18 t9::Own (Ty.slice 2 (Ar .i64)) 56 A19 c20 y21 t10::Own Hz 4 (sb b32) ((t11.getD 0 0).toNat) uu i1::Own Hz 4 (sb b37) ((t11.getD 1 0).toNat) uu e1::Own Hz 4 (sb b42) ((t11.getD 2 0).toNat) uu c1::Own (Ty.slice 2 (Ar .i64)) 56 A46 c47 y48 t44::L)→G prog 132 118 [(5,pT b26),(7,sV (sb b32) i1 ((t11.getD 0 0).toNat)),(8,sV (sb b37) e1 ((t11.getD 1 0).toNat)),(9,sV (sb b42) c1 ((t11.getD 2 0).toNat)),(10,sV A46 t44 c47),(11,I a1)] x1 w (Bb.post w0 L r1 r2 r3):=by
   refine lp (fun _ _ _ _ w H _=>by rw [Bb.l1] at H; cases H) fun t1 i2 h2 i1 e1 c1 a1 w H HS=>?_
   rw [Bb.l1] at H
   subst f2
   refine rN 2 Z (rG (pS 2 Z (lS Z Z M8 Z (GO.lss Z Z Z Z (nL ?_)))))
   rcases iS H with ⟨c305,H⟩ | ⟨c305,H⟩
   ·
    refine nB Z (tF c305) (rN 2 Z ?_)
    obtain ⟨t412,h413,H⟩:=bI H
    obtain ⟨t418,h419,H⟩:=bI H
    obtain ⟨t424,h425,H⟩:=bI H
    refine rG (mV Z (fJ Zr Z (Df.calls HS (ro 4 Z) h413) (fun _ wd416 ⟨A414,c415,h417,HS⟩=>⟨_,h417,(mV Z (fJ Zr Z (Df.calls HS (ro 6 Z) h419) (fun _ wd422 ⟨A420,c421,h423,HS⟩=>⟨_,h423,(mV Z (fJ Zr Z (Df.calls HS (ro 8 Z) h425) (fun _ wd428 ⟨A426,c427,h429,HS⟩=>⟨_,h429,(pS 3 Z (nL ?_))⟩)))⟩)))⟩)))
    obtain ⟨rfl,rfl,rfl⟩:=Mm H
    exact G.dN _ _ _ func132 Z Z Z Z ⟨_,_,_,_,_,_,Z,(HS.pk 11 [2,1,0] Z)⟩
   refine yB Z (tT c305) (rN 4 Z ?_)
   obtain ⟨c306,H⟩:=iN H
   obtain ⟨c307,H⟩:=iN H
   refine rG (pS 2 Z (iX Z M8 Pp (rk (ro 7 Z) HS) c306 (GO.Cj (T:=(Ty.slice 2 (Ar .i64))) (n:=a1.toNat) (o:=0) HS (ro 7 Z) Z Z (getD_some (d:=[]) (ltN c306)) Z Z Ih Z (GO.ix Z Z Z U56 sz2 ((Ce.elem (ro 7 Z) c306.1 c306.2) _ HS).2.2.1 c307.1 c307.2 Z (GO.Cj (T:=(Ar .i64)) (n:=0) (o:=0) HS (Ce.elem (ro 7 Z) c306.1 c306.2) Z Z (getD_some (d:=0) (ltN c307)) Z Z na2 Z (aS Z (nL (sQ ?_))))))))
   obtain ⟨c308,H⟩:=iN H
   refine rG (pS 2 Z (iX Z M8 Pp (rk (ro 7 Z) HS) c306 (GO.Cj (T:=(Ty.slice 2 (Ar .i64))) (n:=a1.toNat) (o:=0) HS (ro 7 Z) Z Z (getD_some (d:=[]) (ltN c306)) Z Z Ih Z (GO.ix Z Z Z U56 sz2 ((Ce.elem (ro 7 Z) c306.1 c306.2) _ HS).2.2.1 c308.1 c308.2 Z (GO.Cj (T:=(Ar .i64)) (n:=1) (o:=0) HS (Ce.elem (ro 7 Z) c306.1 c306.2) Z Z (getD_some (d:=0) (ltN c308)) Z Z na2 Z (aS Z (nL (sQ ?_))))))))
   obtain ⟨c309,H⟩:=iN H
   obtain ⟨c310,H⟩:=iN H
   obtain ⟨c311,H⟩:=iN H
   refine rG (mV Z (fL b26 2 Wp Z (lB 0 HS Z Lx Z (mV Z (iX Z M8 Pp (rk (ro 3 Z) HS) c309 (GO.Cj (T:=(Ty.slice 2 (Ar .i64))) (n:=((t44.getD a1.toNat []).getD 0 0).toNat) (o:=0) HS (ro 3 Z) Z Z (getD_some (d:=[]) (ltN c309)) Z Z Ih Z (mV Z (GO.ix Z Z Z U56 sz2 ((Ce.elem (ro 3 Z) c309.1 c309.2) _ HS).2.2.1 c310.1 c310.2 Z (GO.Cj (T:=(Ar .i64)) (n:=((t44.getD a1.toNat []).getD 1 0).toNat) (o:=0) HS (Ce.elem (ro 3 Z) c309.1 c309.2) Z Z (getD_some (d:=0) (ltN c310)) Z Z na2 Z (iX Z Mq sz4 (fun _=>⟨_,_,Z⟩) c311 (GO.Ii (T:=Hz) (j:=6) (n:=((t10.getD (((t44.getD a1.toNat []).getD 0 0).toNat) []).getD (((t44.getD a1.toNat []).getD 1 0).toNat) 0).toNat) (o:=0) (vs:=[.bool true]) true HS Z Ba Z Z Z Z (htN na4 Z) Z (getD_some (d:=false) (ltN c311)) Z Z fun wd312 HS=>nL (G.len (t:=9) (m:=(c1.set (((t10.getD (((t44.getD a1.toNat []).getD 0 0).toNat) []).getD (((t44.getD a1.toNat []).getD 1 0).toNat) 0).toNat) true).length) Z (by simp only [List.length_set] <;> rfl) (rN 5 Z ?_)))))))))))))
   refine G.name (fun d2 v1=>?_)
   have b2:∀ p1,p1≤t1→∀ (d1:List Bool) (g1:Int) (w:World),Bb.l8 K p1 t8 t9 t10 t44 e1 c1 a1 d1 g1=some (r1,r2,r3)→St w0 w (Box b26 111 [sV A13 t8 c14,sV A16 t9 c17,sV A19 t10 c20]::Own (Ty.slice 2 (Ar .i64)) 56 A13 c14 y15 t8::Own (Ty.slice 2 (Ar .i64)) 56 A16 c17 y18 t9::Own (Ty.slice 2 (Ar .i64)) 56 A19 c20 y21 t10::Own Hz 4 (sb b32) ((t11.getD 0 0).toNat) uu d1::Own Hz 4 (sb b37) ((t11.getD 1 0).toNat) uu e1::Own Hz 4 (sb b42) ((t11.getD 2 0).toNat) uu (c1.set (((t10.getD (((t44.getD a1.toNat []).getD 0 0).toNat) []).getD (((t44.getD a1.toNat []).getD 1 0).toNat) 0).toNat) true)::Own (Ty.slice 2 (Ar .i64)) 56 A46 c47 y48 t44::L)→G prog 132 118 [(5,pT b26),(7,sV (sb b32) d1 ((t11.getD 0 0).toNat)),(8,sV (sb b37) e1 ((t11.getD 1 0).toNat)),(9,sV (sb b42) (c1.set (((t10.getD (((t44.getD a1.toNat []).getD 0 0).toNat) []).getD (((t44.getD a1.toNat []).getD 1 0).toNat) 0).toNat) true) ((t11.getD 2 0).toNat)),(10,sV A46 t44 c47),(11,I a1),(12,I ((t44.getD a1.toNat []).getD 0 0)),(13,I ((t44.getD a1.toNat []).getD 1 0)),(14,I g1)] d2 w (Bb.post w0 L r1 r2 r3):=by
    refine lp (fun _ _ w H _=>by rw [Bb.l8] at H; cases H) fun m1 z1 s1 d1 g1 w H HS=>?_
    rw [Bb.l8] at H
    subst v1
    refine rN 3 Z ?_
    rcases iE H with ⟨c366,H⟩ | ⟨c366,H⟩
    ·
     refine yB Z (tT c366) (rN 5 Z ?_)
     rcases iE H with ⟨c367,H⟩ | ⟨c367,H⟩
     ·
      refine nB Z (nT c367) (rN 4 Z (gW (s1 m1 (lR _) _ _ _ H HS) Z))
     refine yB Z (nF c367) ?_
     obtain ⟨c368,H⟩:=iN H
     obtain ⟨c369,H⟩:=iN H
     obtain ⟨c370,H⟩:=iN H
     refine rG (mV Z (fL b26 0 Vq Z (lB 0 HS Z Lx Z (mV Z (iX Z M8 Pp (rk (ro 1 Z) HS) c368 (GO.Cj (T:=(Ty.slice 2 (Ar .i64))) (n:=((t44.getD a1.toNat []).getD 0 0).toNat) (o:=0) HS (ro 1 Z) Z Z (getD_some (d:=[]) (ltN c368)) Z Z Ih Z (mV Z (GO.ix Z Z Z U56 sz2 ((Ce.elem (ro 1 Z) c368.1 c368.2) _ HS).2.2.1 c369.1 c369.2 Z (GO.Cj (T:=(Ar .i64)) (n:=g1.toNat) (o:=0) HS (Ce.elem (ro 1 Z) c368.1 c368.2) Z Z (getD_some (d:=0) (ltN c369)) Z Z na2 Z (iX Z Mq sz4 (fun _=>⟨_,_,Z⟩) c370 (GO.Ii (T:=Hz) (j:=4) (n:=((t8.getD (((t44.getD a1.toNat []).getD 0 0).toNat) []).getD g1.toNat 0).toNat) (o:=0) (vs:=[.bool true]) true HS Z Ba Z Z Z Z (htN na4 Z) Z (getD_some (d:=false) (ltN c370)) Z Z fun wd371 HS=>nL (G.len (t:=7) (m:=(d1.set (((t8.getD (((t44.getD a1.toNat []).getD 0 0).toNat) []).getD g1.toNat 0).toNat) true).length) Z (by simp only [List.length_set] <;> rfl) (rN 3 Z ?_)))))))))))))
     exact gW (s1 m1 (lR _) _ _ _ H HS) Z
    refine nB Z (tF c366) (rN 5 Z ?_)
    refine G.name (fun e2 c2=>?_)
    have y1:∀ u1,u1≤m1→∀ (h1:List Bool) (f1:Int) (w:World),Bb.l10 K u1 t8 t9 t10 t44 c1 a1 d1 h1 f1=some (r1,r2,r3)→St w0 w (Box b26 111 [sV A13 t8 c14,sV A16 t9 c17,sV A19 t10 c20]::Own (Ty.slice 2 (Ar .i64)) 56 A13 c14 y15 t8::Own (Ty.slice 2 (Ar .i64)) 56 A16 c17 y18 t9::Own (Ty.slice 2 (Ar .i64)) 56 A19 c20 y21 t10::Own Hz 4 (sb b32) ((t11.getD 0 0).toNat) uu d1::Own Hz 4 (sb b37) ((t11.getD 1 0).toNat) uu h1::Own Hz 4 (sb b42) ((t11.getD 2 0).toNat) uu (c1.set (((t10.getD (((t44.getD a1.toNat []).getD 0 0).toNat) []).getD (((t44.getD a1.toNat []).getD 1 0).toNat) 0).toNat) true)::Own (Ty.slice 2 (Ar .i64)) 56 A46 c47 y48 t44::L)→G prog 132 118 [(5,pT b26),(7,sV (sb b32) d1 ((t11.getD 0 0).toNat)),(8,sV (sb b37) h1 ((t11.getD 1 0).toNat)),(9,sV (sb b42) (c1.set (((t10.getD (((t44.getD a1.toNat []).getD 0 0).toNat) []).getD (((t44.getD a1.toNat []).getD 1 0).toNat) 0).toNat) true) ((t11.getD 2 0).toNat)),(10,sV A46 t44 c47),(11,I a1),(12,I ((t44.getD a1.toNat []).getD 0 0)),(13,I ((t44.getD a1.toNat []).getD 1 0)),(15,I f1)] e2 w (Bb.post w0 L r1 r2 r3):=by
     refine lp (fun _ _ w H _=>by rw [Bb.l10] at H; cases H) fun k1 a2 n1 h1 f1 w H HS=>?_
     rw [Bb.l10] at H
     subst c2
     refine rN 3 Z ?_
     rcases iS H with ⟨c399,H⟩ | ⟨c399,H⟩
     ·
      refine nB Z (tF c399) (rN 4 Z (gW (h2 k1 (Nat.le_trans (Nat.le_of_succ_le a2) (Nat.le_of_succ_le z1)) _ _ _ _ _ H HS) Z))
     refine yB Z (tT c399) (rN 4 Z ?_)
     obtain ⟨t400,t401,h402,H⟩:=Ea H
     refine rG (mV Z (fJ Tg Z (Gs.calls HS  h402) (fun _ wd403 ⟨h404,HS⟩=>⟨_,h404,(pS 5 Z (nL (sQ ?_)))⟩)))
     rcases iE H with ⟨c406,H⟩ | ⟨c406,H⟩
     ·
      refine rG (pS 4 Z (kN 97 Z (nT c406) (oF Z (oF Z (oF Z (GO.Jm Z Z Z Z Z (nL (rN 5 Z (gW (n1 k1 (lR _) _ _ _ H HS) Z)))))))))
     refine rG (pS 4 Z (kN 97 Z (nF c406) (oN Z (mV Z (bK (oN Z (mV Z (bK (oN Z (GO.neq Z Z Z Z (bK (GO.Iz Z Z Z Z Z (nL ?_)))))))))))))
     rcases iE H with ⟨c407,H⟩ | ⟨c407,H⟩
     ·
      refine nB Z (nT c407) (rN 4 Z (gW (n1 k1 (lR _) _ _ _ H HS) Z))
     refine yB Z (nF c407) ?_
     obtain ⟨c408,H⟩:=iN H
     obtain ⟨c409,H⟩:=iN H
     obtain ⟨c410,H⟩:=iN H
     refine rG (mV Z (fL b26 1 Lj Z (lB 0 HS Z Lx Z (mV Z (iX Z M8 Pp (rk (ro 2 Z) HS) c408 (GO.Cj (T:=(Ty.slice 2 (Ar .i64))) (n:=((t44.getD a1.toNat []).getD 0 0).toNat) (o:=0) HS (ro 2 Z) Z Z (getD_some (d:=[]) (ltN c408)) Z Z Ih Z (mV Z (GO.ix Z Z Z U56 sz2 ((Ce.elem (ro 2 Z) c408.1 c408.2) _ HS).2.2.1 c409.1 c409.2 Z (GO.Cj (T:=(Ar .i64)) (n:=f1.toNat) (o:=0) HS (Ce.elem (ro 2 Z) c408.1 c408.2) Z Z (getD_some (d:=0) (ltN c409)) Z Z na2 Z (iX Z Mq sz4 (fun _=>⟨_,_,Z⟩) c410 (GO.Ii (T:=Hz) (j:=5) (n:=((t9.getD (((t44.getD a1.toNat []).getD 0 0).toNat) []).getD f1.toNat 0).toNat) (o:=0) (vs:=[.bool true]) true HS Z Ba Z Z Z Z (htN na4 Z) Z (getD_some (d:=false) (ltN c410)) Z Z fun wd411 HS=>nL (G.len (t:=8) (m:=(h1.set (((t9.getD (((t44.getD a1.toNat []).getD 0 0).toNat) []).getD f1.toNat 0).toNat) true).length) Z (by simp only [List.length_set] <;> rfl) (rN 3 Z ?_)))))))))))))
     exact gW (n1 k1 (lR _) _ _ _ H HS) Z
    exact gW (y1 m1 (lR _) _ _ _ H HS) Z
   exact gW (b2 t1 (lR _) _ _ _ H HS) Z
  exact gW (g2 K (lR _) _ _ _ _ _ H (HS.pk 10 [4,5,6,7,3,2,1,0] Z)) Z
end Go.Proofs.YtbjfinndngafoaaGreat
