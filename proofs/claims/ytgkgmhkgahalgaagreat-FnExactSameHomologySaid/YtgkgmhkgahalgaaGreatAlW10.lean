/-
  The walks through the functions: a call comes to what its list function says.
-/
import Derived.Test.YtgkgmhkgahalgaaGreatAlF
import Derived.Test.YtgkgmhkgahalgaaGreatAlW1
import Derived.Test.YtgkgmhkgahalgaaGreatAlW5
import Derived.Test.YtgkgmhkgahalgaaGreatAlW7
set_option linter.unusedVariables false
set_option linter.unusedSimpArgs false
namespace Go.Proofs.YtgkgmhkgahalgaaGreat
open Go.RowKit
open Tryz
variable {w0 w:World} {L:List Di} {K:Nat} {A_a A_b A_c A_d A_e A_f A_g A_h A_i A_j A_k A_l A_m A_n A_o A_p A_q A_r A_s A_t A_u A_v A_w A_x A_y A_z:Option Addr} {c_a c_b c_c c_d c_e c_f c_g c_h c_i c_j c_k c_l c_m c_n c_o c_p c_q c_r c_s c_t c_u c_v c_w c_x c_y c_z:Nat}
set_option maxRecDepth 20000
set_option maxHeartbeats 40000000
theorem Fx.calls {a_ b_:List Int} {r1:Bool} (HS:St w0 w (L)) (r_a:Cf w0 L (Ad .i64) A_a c_a uu a_) (r_b:Cf w0 L (Ad .i64) A_b c_b uu b_) (H:Fx.f K a_ b_=some r1) :
    Calls prog 43 #[sV A_a a_ c_a,sV A_b b_ c_b] w (Fx.post w0 L r1):=by
  unfold Fx.f at H
  refine cG func43 Z ?_
  refine rN 4 Z (rG (mV Z (lS Z Z U26 Z (mV Z (lS Z Z U26 Z (GO.neq Z Z Z Z (nL ?_)))))))
  rcases iS H with ⟨c1,H⟩ | ⟨c1,H⟩
  ·
   refine yB Z (nF c1) (rN 2 Z ?_)
   obtain rfl:=sI H
   exact rT _ func43 Z Z ⟨Z,HS⟩
  refine nB Z (nT c1) (rN 6 Z ?_)
  refine G.name (fun f1 d1=>?_)
  have e1:∀ a1,a1≤K→∀ (i_6:Int) (w:World),Fx.l1 K a1 a_ b_ i_6=some r1→St w0 w (L)→G prog 43 26 [(0,sV A_a a_ c_a),(1,sV A_b b_ c_b),(5,I i_6)] f1 w (Fx.post w0 L r1):=by
   refine lp (fun _ w H _=>by rw [Fx.l1] at H; cases H) fun b1 h1 g1 i_6 w H HS=>?_
   rw [Fx.l1] at H
   subst d1
   refine rN 2 Z (rG (pS 2 Z (lS Z Z U26 Z (GO.lss Z Z Z Z (nL ?_)))))
   rcases iS H with ⟨c11,H⟩ | ⟨c11,H⟩
   ·
    refine nB Z (tF c11) (rN 3 Z ?_)
    obtain rfl:=sI H
    exact rT _ func43 Z Z ⟨Z,HS⟩
   refine yB Z (tT c11) (rN 4 Z ?_)
   obtain ⟨c12,H⟩:=iN H
   obtain ⟨c13,H⟩:=iN H
   refine G.lex mixed [0,1,2,4,5,6,3,7,8] (by kernel_rfl) ?_
   replace HS:=HS.drew
   refine GX.ps 2 Z (qL Z Z (fun _ _ g=>iX Z U26 sz2 (rk r_a HS) c12 g) Z (GX.ps 2 Z (qL Z Z (fun _ _ g=>iX Z U26 sz2 (rk r_b HS) c13 g) Z (GX.l1 Z Z Z (fun _ g=>GO.Dn (T:=(Ad .i64)) (n:=i_6.toNat) (o:=0) HS r_a Z Z (getD_some (d:=0) (ltN c12)) Z Z na2 Z g) Z (GX.l1 Z Z Z (fun _ g=>GO.Dn (T:=(Ad .i64)) (n:=i_6.toNat) (o:=0) HS r_b Z Z (getD_some (d:=0) (ltN c13)) Z Z na2 Z g) Z (GX.ps 1 Z (GX.nil ?_)))))))
   rcases iS H with ⟨c14,H⟩ | ⟨c14,H⟩
   ·
    refine yB Z (nF c14) (rN 2 Z ?_)
    obtain rfl:=sI H
    exact rT _ func43 Z Z ⟨Z,HS⟩
   refine nB Z (nT c14) (rN 4 Z (gW (g1 b1 (lR _) _ _ H HS) Z))
  exact gW (e1 K (lR _) _ _ H HS) Z
theorem D7.calls {d1 c1:List (List Bc)} {y_a:Nat→(Ty.slice 83 Be).Lay} {y_b:Nat→(Ty.slice 83 Be).Lay} {r1:Bool} (HS:St w0 w (L)) (r_a:Cf w0 L (Ty.slice 83 Be) A_a c_a y_a d1) (r_b:Cf w0 L (Ty.slice 83 Be) A_b c_b y_b c1) (H:D7.f K d1 c1=some r1) :
    Calls prog 17 #[.agg [sV A_a d1 c_a].toArray,.agg [sV A_b c1 c_b].toArray] w (D7.post w0 L r1):=by
  unfold D7.f at H
  refine cG func17 Z ?_
  refine sQ (rG (bA HS Z fun b1 wd2 HS=>bA HS Z fun b3 wd4 HS=>aS Z (nL (sQ ?_))))
  obtain ⟨t5,t6,h7,H⟩:=Dl H
  refine rG (lW 1 HS Z Iw (fJ oK Z (Ed.calls HS (rD 2 r_a) h7) (fun _ wd11 ⟨A8,c9,y10,h12,HS⟩=>⟨_,h12,(pS 5 Z (nL (sQ ?_)))⟩)))
  obtain ⟨t13,t14,h15,H⟩:=Dl H
  refine rG (lW 1 HS Z Iw (fJ oK Z (Ed.calls HS (rD 3 r_b) h15) (fun _ wd19 ⟨A16,c17,y18,h20,HS⟩=>⟨_,h20,(pS 5 Z (nL (rN 2 Z ?_)))⟩)))
  rcases iS H with ⟨c22,H⟩ | ⟨c22,H⟩
  ·
   refine rG (pS 3 Z (kN 22 Z (nF c22) (oF Z (oF Z (GO.G5 Z Z Z Z Z (nL (rN 3 Z ?_)))))))
   obtain rfl:=sI H
   exact rT _ func17 Z Z ⟨Z,(HS.pk 4 [] Z)⟩
  refine rG (pS 3 Z (kN 22 Z (nT c22) (oN Z (mV Z (bK (oN Z (GO.neq Z Z Z Z (bK (GO.Hr Z Z Z Z Z (nL ?_))))))))))
  rcases iS H with ⟨c23,H⟩ | ⟨c23,H⟩
  ·
   refine yB Z (nF c23) (rN 2 Z ?_)
   obtain rfl:=sI H
   exact rT _ func17 Z Z ⟨Z,(HS.pk 4 [] Z)⟩
  refine nB Z (nT c23) (rN 6 Z ?_)
  refine G.name (fun i1 g1=>?_)
  have h1:∀ e1,e1≤K→∀ (a1:Int) (w:World),D7.l1 K e1 t5 t13 a1=some r1→St w0 w (Own De 28 A8 c9 y10 t5::Own De 28 A16 c17 y18 t13::L)→G prog 17 55 [(5,sV A8 t5 c9),(7,sV A16 t13 c17),(9,I a1)] i1 w (D7.post w0 L r1):=by
   refine lp (fun _ w H _=>by rw [D7.l1] at H; cases H) fun f1 m1 k1 a1 w H HS=>?_
   rw [D7.l1] at H
   subst g1
   refine rN 3 Z ?_
   rcases iS H with ⟨c58,H⟩ | ⟨c58,H⟩
   ·
    refine nB Z (tF c58) (rN 3 Z ?_)
    obtain rfl:=sI H
    exact rT _ func17 Z Z ⟨Z,(HS.pk 2 [] Z)⟩
   refine yB Z (tT c58) (rN 4 Z ?_)
   obtain ⟨c59,H⟩:=iN H
   have h60:=(rk (ro 0 Z) HS)
   obtain ⟨e61,h62,H⟩:=I9 H
   obtain ⟨c63,H⟩:=iN H
   have h64:=(rk (ro 1 Z) HS)
   obtain ⟨e65,h66,H⟩:=I9 H
   rcases iS H with ⟨c67,H⟩ | ⟨c67,H⟩
   ·
    refine G.lex mixed [0,1,2,3,5,6,7,8,4,9,10,11,12,13,14,15,17,18,19,20,16,21,22,23,24] (by kernel_rfl) ?_
    replace HS:=HS.drew
    refine GX.ps 2 Z (qL Z Z (fun _ _ g=>iX Z U46 Zp h60 c59 g) Z (qL Z Z (fun _ _ g=>GO.fld (ea A8 (a1.toNat * 2)) Z Z O7 Z Z g) Z (GX.ps 2 Z (qL Z Z (fun _ _ g=>iX Z U46 Zp h64 c63 g) Z (qL Z Z (fun _ _ g=>GO.fld (ea A16 (a1.toNat * 2)) Z Z O7 Z Z g) Z (GX.l1 Z Z Z (fun _ g=>GO.Dn (T:=De) (n:=a1.toNat) (o:=0) HS (ro 0 Z) Z Z (Hl (ltN c59) h62) Z Z na2 Z g) Z (GX.l1 Z Z Z (fun _ g=>GO.Dn (T:=De) (n:=a1.toNat) (o:=0) HS (ro 1 Z) Z Z (Hl (ltN c63) h66) Z Z na2 Z g) Z (GX.ps 1 Z (qL Z Z (fun _ _ g=>mV Z (kN 41 Z (nF c67) g)) Z (qL Z Z (fun _ _ g=>oF Z g) Z (qL Z Z (fun _ _ g=>oF Z g) Z (qL Z Z (fun _ _ g=>oF Z g) Z (qL Z Z (fun _ _ g=>oF Z g) Z (qL Z Z (fun _ _ g=>oF Z g) Z ?_))))))))))))))
    refine qL Z Z (fun _ _ g=>oF Z g) Z (qL Z Z (fun _ _ g=>oF Z g) Z (qL Z Z (fun _ _ g=>oF Z g) Z (GX.l1 Z Z Z (fun _ g=>oF Z g) Z (GX.l1 Z Z Z (fun _ g=>oF Z g) Z (GX.l2 Z (oF Z (GX.fin tv (qL Z Z (fun _ _ g=>oF Z g) Z (GX.ps 1 Z (GX.nil (rN 3 Z ?_)))))))))))
    obtain rfl:=sI H
    exact rT _ func17 Z Z ⟨Z,(HS.pk 2 [] Z)⟩
   have h68:=(rk (ro 0 Z) HS)
   have h69:=(rk (ro 1 Z) HS)
   obtain ⟨t70,h71,H⟩:=bI H
   refine G.lex mixed [0,1,2,3,5,6,7,8,4,9,10,11,12,13,14,15,17,18,19,20,16,21,22,23,24] (by kernel_rfl) ?_
   replace HS:=HS.drew
   refine GX.ps 2 Z (qL Z Z (fun _ _ g=>iX Z U46 Zp h60 c59 g) Z (qL Z Z (fun _ _ g=>GO.fld (ea A8 (a1.toNat * 2)) Z Z O7 Z Z g) Z (GX.ps 2 Z (qL Z Z (fun _ _ g=>iX Z U46 Zp h64 c63 g) Z (qL Z Z (fun _ _ g=>GO.fld (ea A16 (a1.toNat * 2)) Z Z O7 Z Z g) Z (GX.l1 Z Z Z (fun _ g=>GO.Dn (T:=De) (n:=a1.toNat) (o:=0) HS (ro 0 Z) Z Z (Hl (ltN c59) h62) Z Z na2 Z g) Z (GX.l1 Z Z Z (fun _ g=>GO.Dn (T:=De) (n:=a1.toNat) (o:=0) HS (ro 1 Z) Z Z (Hl (ltN c63) h66) Z Z na2 Z g) Z (GX.ps 1 Z (qL Z Z (fun _ _ g=>mV Z (kN 41 Z (nT c67) g)) Z (qL Z Z (fun _ _ g=>oN Z (mV Z (bK g))) Z (qL Z Z (fun _ _ g=>oN Z (mV Z (bK g))) Z (qL Z Z (fun _ _ g=>oN Z (iX Z U46 Zp h68 c59 (bK g))) Z (qL Z Z (fun _ _ g=>oN Z (GO.fld (ea A8 (a1.toNat * 2+1)) Z Z X4 (Xn _ _ _) Z (bK g))) Z (qL Z Z (fun _ _ g=>oN Z (mV Z (bK g))) Z ?_))))))))))))))
   refine qL Z Z (fun _ _ g=>oN Z (mV Z (bK g))) Z (qL Z Z (fun _ _ g=>oN Z (iX Z U46 Zp h69 c63 (bK g))) Z (qL Z Z (fun _ _ g=>oN Z (GO.fld (ea A16 (a1.toNat * 2+1)) Z Z X4 (Xn _ _ _) Z (bK g))) Z (GX.l1 Z Z Z (fun _ g=>oN Z (GO.Dn (T:=De) (n:=a1.toNat) (o:=1) HS (ro 0 Z) Z Z (Hl (ltN c59) h62) Z Z G6 Z (bK g))) Z (GX.l1 Z Z Z (fun _ g=>oN Z (GO.Dn (T:=De) (n:=a1.toNat) (o:=1) HS (ro 1 Z) Z Z (Hl (ltN c63) h66) Z Z G6 Z (bK g))) Z (GX.l2 Z (oN Z (fJ vS Z (Fx.calls HS (Cf.fld (ro 0 Z) (Hl (ltN c59) h62) (fun _ h=>h.2)) (Cf.fld (ro 1 Z) (Hl (ltN c63) h66) (fun _ h=>h.2)) h71) (fun _ wd72 ⟨h73,HS⟩=>⟨_,h73,(bK (GX.fin tv (qL Z Z (fun _ _ g=>oN Z (GO.not Z Z Z (bK g))) Z (GX.ps 1 Z (GX.nil ?_)))))⟩))))))))
   rcases iS H with ⟨c74,H⟩ | ⟨c74,H⟩
   ·
    refine yB Z (congrArg Bool.not (Cw c74)) (rN 2 Z ?_)
    obtain rfl:=sI H
    exact rT _ func17 Z Z ⟨Z,(HS.pk 2 [] Z)⟩
   refine nB Z (congrArg Bool.not c74) (rN 4 Z (gW (k1 f1 (lR _) _ _ H HS) Z))
  exact gW (h1 K (lR _) _ _ H (HS.pk 4 [1,0] Z)) Z
theorem Cy.calls {s1 s2:List Int} {r1:Bool} (HS:St w0 w (L)) (r_a:Cf w0 L (Ad .i64) A_a c_a uu s1) (r_b:Cf w0 L (Ad .i64) A_b c_b uu s2) (H:Cy.f K s1 s2=some r1) :
    Calls prog 92 #[sV A_a s1 c_a,sV A_b s2 c_b] w (Cy.post w0 L r1):=by
  unfold Cy.f at H
  refine cG func92 Z ?_
  refine rN 4 Z (rG (mV Z (lS Z Z U26 Z (mV Z (lS Z Z U26 Z (GO.neq Z Z Z Z (nL ?_)))))))
  rcases iS H with ⟨c1,H⟩ | ⟨c1,H⟩
  ·
   refine yB Z (nF c1) (rN 2 Z ?_)
   obtain rfl:=sI H
   exact rT _ func92 Z Z ⟨Z,HS⟩
  refine nB Z (nT c1) (rN 3 Z (rG (mV Z (lS Z Z U26 Z (mV Z (nL (rN 2 Z ?_)))))))
  refine G.name (fun f1 d1=>?_)
  have e1:∀ a1,a1≤K→∀ (x6:Int) (w:World),Cy.l1 K a1 s1 s2 x6=some r1→St w0 w (L)→G prog 92 26 [(0,sV A_a s1 c_a),(1,sV A_b s2 c_b),(12,I (s1.length:Int)),(13,I x6)] f1 w (Cy.post w0 L r1):=by
   refine lp (fun _ w H _=>by rw [Cy.l1] at H; cases H) fun b1 h1 g1 x6 w H HS=>?_
   rw [Cy.l1] at H
   subst d1
   refine rN 3 Z ?_
   rcases iS H with ⟨c11,H⟩ | ⟨c11,H⟩
   ·
    refine nB Z (tF c11) (rN 3 Z ?_)
    obtain rfl:=sI H
    exact rT _ func92 Z Z ⟨Z,HS⟩
   refine yB Z (tT c11) (rN 6 Z ?_)
   obtain ⟨c12,H⟩:=iN H
   obtain ⟨c13,H⟩:=iN H
   refine G.lex mixed [0,1,2,4,5,6,3,7,8] (by kernel_rfl) ?_
   replace HS:=HS.drew
   refine GX.ps 2 Z (qL Z Z (fun _ _ g=>iX Z U26 sz2 (rk r_a HS) c12 g) Z (GX.ps 2 Z (qL Z Z (fun _ _ g=>iX Z U26 sz2 (rk r_b HS) c13 g) Z (GX.l1 Z Z Z (fun _ g=>GO.Dn (T:=(Ad .i64)) (n:=x6.toNat) (o:=0) HS r_a Z Z (getD_some (d:=0) (ltN c12)) Z Z na2 Z g) Z (GX.l1 Z Z Z (fun _ g=>GO.Dn (T:=(Ad .i64)) (n:=x6.toNat) (o:=0) HS r_b Z Z (getD_some (d:=0) (ltN c13)) Z Z na2 Z g) Z (GX.ps 1 Z (GX.nil ?_)))))))
   rcases iS H with ⟨c14,H⟩ | ⟨c14,H⟩
   ·
    refine yB Z (nF c14) (rN 2 Z ?_)
    obtain rfl:=sI H
    exact rT _ func92 Z Z ⟨Z,HS⟩
   refine nB Z (nT c14) (rN 4 Z (gW (g1 b1 (lR _) _ _ H HS) Z))
  exact gW (e1 K (lR _) _ _ H HS) Z
theorem I8.calls {e1:Int} {a1:List Int} {d1:Int} {c1:List Int} {r1:Bool} (HS:St w0 w (L)) (r_a:Cf w0 L (Ad .i64) A_a c_a uu a1) (r_b:Cf w0 L (Ad .i64) A_b c_b uu c1) (H:I8.f K e1 a1 d1 c1=some r1) :
    Calls prog 45 #[.agg [I e1,sV A_a a1 c_a].toArray,.agg [I d1,sV A_b c1 c_b].toArray] w (I8.post w0 L r1):=by
  unfold I8.f at H
  refine cG func45 Z ?_
  refine sQ (rG (bA HS Z fun b1 wd2 HS=>bA HS Z fun b3 wd4 HS=>aS Z (nL (sQ ?_))))
  rcases iS H with ⟨c5,H⟩ | ⟨c5,H⟩
  ·
   refine rG (fL b1 0 O7 Z (lB 1 HS Z na2 Z (fL b3 0 O7 Z (lB 0 HS Z na2 Z (pS 2 Z (kN 10 Z (tF c5) (oF Z (oF Z (oF Z (oF Z (oF Z (pS 2 Z (nL ?_)))))))))))))
   obtain rfl:=sI H
   exact rT _ func45 Z Z ⟨Z,(HS.pk 2 [] Z)⟩
  obtain ⟨t6,h7,H⟩:=bI H
  refine rG (fL b1 0 O7 Z (lB 1 HS Z na2 Z (fL b3 0 O7 Z (lB 0 HS Z na2 Z (pS 2 Z (kN 10 Z (tT c5) (oN Z (fL b1 1 X4 Z (bK (oN Z (lB 1 HS Z G6 Z (bK (oN Z (fL b3 1 X4 Z ?_))))))))))))))
  refine bK (oN Z (lB 0 HS Z G6 Z (bK (oN Z (fJ xO Z (Cy.calls HS (rD 2 r_a) (rD 2 r_b) h7) (fun _ wd8 ⟨h9,HS⟩=>⟨_,h9,(bK (pS 2 Z (nL ?_)))⟩))))))
  obtain rfl:=sI H
  exact rT _ func45 Z Z ⟨Z,(HS.pk 2 [] Z)⟩
theorem Ae.calls {s1 s2:List Dr} {y_a:Nat→De.Lay} {y_b:Nat→De.Lay} {r1:Bool} (HS:St w0 w (L)) (r_a:Cf w0 L De A_a c_a y_a s1) (r_b:Cf w0 L De A_b c_b y_b s2) (H:Ae.f K s1 s2=some r1) :
    Calls prog 44 #[sV A_a s1 c_a,sV A_b s2 c_b,.func (.func 45) #[] #[]] w (Ae.post w0 L r1):=by
  unfold Ae.f at H
  refine cG func44 Z ?_
  refine rN 4 Z (rG (mV Z (lS Z Z U46 Z (mV Z (lS Z Z U46 Z (GO.neq Z Z Z Z (nL ?_)))))))
  rcases iS H with ⟨c1,H⟩ | ⟨c1,H⟩
  ·
   refine yB Z (nF c1) (rN 2 Z ?_)
   obtain rfl:=sI H
   exact rT _ func44 Z Z ⟨Z,HS⟩
  refine nB Z (nT c1) (rN 3 Z (rG (mV Z (lS Z Z U46 Z (mV Z (nL (rN 2 Z ?_)))))))
  refine G.name (fun f1 d1=>?_)
  have e1:∀ a1,a1≤K→∀ (x20:Int) (w:World),Ae.l1 K a1 s1 s2 x20=some r1→St w0 w (L)→G prog 44 32 [(1,sV A_b s2 c_b),(2,.func (.func 45) #[] #[]),(15,sV A_a s1 c_a),(16,I (s1.length:Int)),(17,I x20)] f1 w (Ae.post w0 L r1):=by
   refine lp (fun _ w H _=>by rw [Ae.l1] at H; cases H) fun b1 h1 g1 x20 w H HS=>?_
   rw [Ae.l1] at H
   subst d1
   refine rN 3 Z ?_
   rcases iS H with ⟨c39,H⟩ | ⟨c39,H⟩
   ·
    refine nB Z (tF c39) (rN 3 Z ?_)
    obtain rfl:=sI H
    exact rT _ func44 Z Z ⟨Z,HS⟩
   refine yB Z (tT c39) (rN 4 Z ?_)
   obtain ⟨c40,H⟩:=iN H
   obtain ⟨e41,h42,H⟩:=I9 H
   refine rG (mV Z (iX Z U46 Zp (rk r_a HS) c40 (GO.La (T:=De) (n:=x20.toNat) HS r_a Z Z (Hl (ltN c40) h42) J2 Z (GO.alloc HS Z Zx Z Z fun b43 wd44 HS=>aS Z (sW 0 HS Z J2 Z fun wd45 HS=>nL (sQ ?_))))))
   obtain ⟨c46,H⟩:=iN H
   obtain ⟨e47,h48,H⟩:=I9 H
   refine rG (pS 2 Z (iX Z U46 Zp (rk (rD 1 r_b) HS) c46 (GO.La (T:=De) (n:=x20.toNat) HS (rD 1 r_b) Z Z (Hl (ltN c46) h48) J2 Z (GO.alloc HS Z Zx Z Z fun b49 wd50 HS=>sW 0 HS Z J2 Z fun wd51 HS=>nL (sQ ?_)))))
   obtain ⟨t52,h53,H⟩:=bI H
   refine rG (mV Z (lW 1 HS Z J2 (lW 0 HS Z J2 (GO.clo Z Z func45 oL.2.1 oL.2.2 Z Z (I8.calls HS (Cf.fld (rD 2 r_a) (Hl (ltN c40) h42) (fun _ h=>h.2)) (Cf.fld (rD 2 r_b) (Hl (ltN c46) h48) (fun _ h=>h.2)) h53) (fun _ wd54 ⟨h55,HS⟩=>⟨_,h55,(GO.not Z Z Z (nL ?_))⟩)))))
   rcases iS H with ⟨c56,H⟩ | ⟨c56,H⟩
   ·
    refine yB Z (congrArg Bool.not (Cw c56)) (rN 2 Z ?_)
    obtain rfl:=sI H
    exact rT _ func44 Z Z ⟨Z,(HS.pk 2 [] Z)⟩
   refine nB Z (congrArg Bool.not c56) (rN 4 Z (gW (g1 b1 (lR _) _ _ H (HS.pk 2 [] Z)) Z))
  exact gW (e1 K (lR _) _ _ H HS) Z
theorem Ib.calls {c1 a1:List (List Bc)} {y_a:Nat→(Ty.slice 83 Be).Lay} {y_b:Nat→(Ty.slice 83 Be).Lay} {r1:Bool} (HS:St w0 w (L)) (r_a:Cf w0 L (Ty.slice 83 Be) A_a c_a y_a c1) (r_b:Cf w0 L (Ty.slice 83 Be) A_b c_b y_b a1) (H:Ib.f K c1 a1=some r1) :
    Calls prog 18 #[.agg [sV A_a c1 c_a].toArray,.agg [sV A_b a1 c_b].toArray] w (Ib.post w0 L r1):=by
  unfold Ib.f at H
  refine cG func18 Z ?_
  refine sQ (rG (bA HS Z fun b1 wd2 HS=>bA HS Z fun b3 wd4 HS=>aS Z (nL (sQ ?_))))
  obtain ⟨t5,t6,h7,H⟩:=Dl H
  refine rG (lW 1 HS Z Iw (fJ pU Z (Eb.calls HS (rD 2 r_a) h7) (fun _ wd11 ⟨A8,c9,y10,h12,HS⟩=>⟨_,h12,(pS 5 Z (nL (sQ ?_)))⟩)))
  obtain ⟨t13,t14,h15,H⟩:=Dl H
  refine rG (lW 1 HS Z Iw (fJ pU Z (Eb.calls HS (rD 3 r_b) h15) (fun _ wd19 ⟨A16,c17,y18,h20,HS⟩=>⟨_,h20,(pS 5 Z (nL (sQ ?_)))⟩)))
  rcases iS H with ⟨c21,H⟩ | ⟨c21,H⟩
  ·
   refine rG (pS 3 Z (kN 21 Z (tF c21) (oF Z (oF Z (pS 2 Z (oF Z (oF Z (oF Z (pS 2 Z (nL ?_))))))))))
   obtain rfl:=sI H
   exact rT _ func18 Z Z ⟨Z,(HS.pk 4 [] Z)⟩
  rcases iS H with ⟨c22,H⟩ | ⟨c22,H⟩
  ·
   refine rG (pS 3 Z (kN 21 Z (tT c21) (oN Z (mV Z (bK (oN Z (GO.eql Z Z Z Z (bK (pS 2 Z (kN 25 Z (tF c22) (oF Z (oF Z (oF Z (pS 2 Z ?_))))))))))))))
   refine nL ?_
   obtain rfl:=sI H
   exact rT _ func18 Z Z ⟨Z,(HS.pk 4 [] Z)⟩
  obtain ⟨t23,h24,H⟩:=bI H
  refine rG (pS 3 Z (kN 21 Z (tT c21) (oN Z (mV Z (bK (oN Z (GO.eql Z Z Z Z (bK (pS 2 Z (kN 25 Z (tT c22) (oN Z (mV Z (bK (oN Z ?_))))))))))))))
  refine mV Z (bK (oN Z (fJ vQ Z (Ae.calls HS (ro 1 Z) (ro 0 Z) h24) (fun _ wd25 ⟨h26,HS⟩=>⟨_,h26,(bK (pS 2 Z (nL ?_)))⟩))))
  obtain rfl:=sI H
  exact rT _ func18 Z Z ⟨Z,(HS.pk 4 [] Z)⟩
theorem Gn.calls {c1 a1:List (List Bc)} {y_a:Nat→(Ty.slice 129 Be).Lay} {y_b:Nat→(Ty.slice 129 Be).Lay} {r1:Bool} (HS:St w0 w (L)) (r_a:Cf w0 L (Ty.slice 129 Be) A_a c_a y_a c1) (r_b:Cf w0 L (Ty.slice 129 Be) A_b c_b y_b a1) (H:Gn.f K c1 a1=some r1) :
    Calls prog 4 #[.agg [sV A_a c1 c_a].toArray,.agg [sV A_b a1 c_b].toArray] w (Gn.post w0 L r1):=by
  unfold Gn.f at H
  refine cG func4 Z ?_
  refine sQ (rG (bA HS Z fun b1 wd2 HS=>bA HS Z fun b3 wd4 HS=>aS Z (nL (rN 3 Z ?_))))
  obtain ⟨t5,h6,H⟩:=bI H
  refine rG (lW 1 HS Z Y1 (mV Z (fJ xP Z (F4.calls HS (rD 2 r_a) h6) (fun _ wd7 ⟨h8,HS⟩=>⟨_,h8,(aS Z (nL (rN 3 Z ?_)))⟩))))
  rcases iE H with ⟨c9,H⟩ | ⟨c9,H⟩
  ·
   refine yB Z (tT c9) (rN 2 Z ?_)
   obtain rfl:=sI H
   exact rT _ func4 Z Z ⟨Z,(HS.pk 2 [] Z)⟩
  refine nB Z (tF c9) (rN 2 Z ?_)
  obtain ⟨t10,h11,H⟩:=bI H
  refine rG (lW 0 HS Z Y1 (mV Z (fJ xP Z (F4.calls HS (rD 2 r_b) h11) (fun _ wd12 ⟨h13,HS⟩=>⟨_,h13,(aS Z (nL (rN 3 Z ?_)))⟩))))
  rcases iE H with ⟨c14,H⟩ | ⟨c14,H⟩
  ·
   refine yB Z (tT c14) (rN 2 Z ?_)
   obtain rfl:=sI H
   exact rT _ func4 Z Z ⟨Z,(HS.pk 2 [] Z)⟩
  refine nB Z (tF c14) (rN 2 Z ?_)
  obtain ⟨t15,h16,H⟩:=bI H
  obtain ⟨t22,h23,H⟩:=bI H
  obtain ⟨t29,h30,H⟩:=bI H
  refine G.Iy mixed (fun w=>St w0 w (Box b3 24 [sV A_b a1 c_b]::Box b1 24 [sV A_a c1 c_a]::L)) [0,2] [0,2,1,3,4,5] [] (by kernel_rfl) (by kernel_rfl) HS.drew ?_
  replace HS:=HS.drew
  refine GX.ls Z Z Z HS (fun _ HS _ g=>lW 1 HS Z Y1 g) Z (GX.ls Z Z Z HS (fun _ HS _ g=>lW 0 HS Z Y1 g) Z (GX.l2 Z (fJ Wo Z (Dw.calls HS (rD 2 r_a) h16) (fun _ wd20 ⟨A17,c18,y19,h21,HS⟩=>⟨_,h21,(GX.fin (HS.pk 3 [1,2] Z) (GX.l2 Z (fJ Wo Z (Dw.calls HS (rD 3 r_b) h23) (fun _ wd27 ⟨A24,c25,y26,h28,HS⟩=>⟨_,h28,(GX.fin (HS.pk 4 [2,3] Z) (GX.l2 Z (fJ yH Z (D7.calls HS (ro 1 Z) (ro 0 Z) h30) (fun _ wd31 ⟨h32,HS⟩=>⟨_,h32,(GX.fin (HS.pk 4 [2,3] Z) (GX.ps 1 Z (GX.nil (sQ ?_))))⟩))))⟩))))⟩))))
  obtain ⟨t33,h34,H⟩:=bI H
  refine rG (lW 3 HS Z Y1 (fJ Wo Z (Dw.calls HS (rD 4 r_a) h34) (fun _ wd38 ⟨A35,c36,y37,h39,HS⟩=>⟨_,h39,(GO.alloc HS Z nH Z Z fun b40 wd41 HS=>sW 0 HS Z Iw Z fun wd42 HS=>nL (sQ ?_))⟩)))
  obtain ⟨t43,h44,H⟩:=bI H
  refine rG (lW 4 HS Z Y1 (fJ Wo Z (Dw.calls HS (rD 6 r_b) h44) (fun _ wd48 ⟨A45,c46,y47,h49,HS⟩=>⟨_,h49,(GO.alloc HS Z nH Z Z fun b50 wd51 HS=>sW 0 HS Z Iw Z fun wd52 HS=>nL (sQ ?_))⟩)))
  obtain ⟨t53,h54,H⟩:=bI H
  refine rG (lW 2 HS Z Iw (lW 0 HS Z Iw (fJ vJ Z (Ib.calls HS (ro 3 Z) (ro 1 Z) h54) (fun _ wd55 ⟨h56,HS⟩=>⟨_,h56,(aS Z (nL (rN 2 Z (rG (pS 2 Z (GO.yO Z Z Z U4 Z (nL ?_)))))))⟩))))
  rcases iS H with ⟨c57,H⟩ | ⟨c57,H⟩
  ·
   refine yB Z (congrArg Bool.not (Cw c57)) (rN 2 Z ?_)
   obtain rfl:=sI H
   exact rT _ func4 Z Z ⟨Z,(HS.pk 8 [] Z)⟩
  refine nB Z (congrArg Bool.not c57) (rN 3 Z ?_)
  obtain ⟨t58,h59,H⟩:=bI H
  obtain ⟨t65,h66,H⟩:=bI H
  refine G.Iy mixed (fun w=>St w0 w (Box b40 33 [sV A35 t33 c36]::Box b1 24 [sV A_a c1 c_a]::L)) [0,1] [0,1,2,3,4] [] (by kernel_rfl) (by kernel_rfl) (HS.drew.pk 8 [2,7] Z) ?_
  replace HS:=HS.drew
  refine GX.ls Z Z Z (HS.pk 8 [2,7] Z) (fun _ HS _ g=>lW 0 HS Z Iw g) Z (GX.ls Z Z Z (HS.pk 8 [2,7] Z) (fun _ HS _ g=>lW 1 HS Z Y1 g) Z (GX.l2 Z (fJ Wo Z (Dw.calls HS (rD 8 r_a) h59) (fun _ wd63 ⟨A60,c61,y62,h64,HS⟩=>⟨_,h64,(GX.fin (HS.pk 9 [3,8] Z) (GX.l2 Z (fJ pV Z (F7.calls HS (ro 4 Z) (ro 0 Z) h66) (fun _ wd67 ⟨h68,HS⟩=>⟨_,h68,(GX.fin (HS.pk 9 [3,8] Z) (GX.ps 1 Z (GX.nil ?_)))⟩))))⟩))))
  rcases iS H with ⟨c69,H⟩ | ⟨c69,H⟩
  ·
   refine yB Z (congrArg Bool.not (Cw c69)) (rN 2 Z ?_)
   obtain rfl:=sI H
   exact rT _ func4 Z Z ⟨Z,(HS.pk 9 [] Z)⟩
  refine nB Z (congrArg Bool.not c69) (rN 3 Z ?_)
  obtain ⟨t70,h71,H⟩:=bI H
  obtain ⟨t77,h78,H⟩:=bI H
  refine G.Iy mixed (fun w=>St w0 w (Box b50 33 [sV A45 t43 c46]::Box b3 24 [sV A_b a1 c_b]::L)) [0,1] [0,1,2,3,4] [] (by kernel_rfl) (by kernel_rfl) (HS.drew.pk 9 [1,7] Z) ?_
  replace HS:=HS.drew
  refine GX.ls Z Z Z (HS.pk 9 [1,7] Z) (fun _ HS _ g=>lW 0 HS Z Iw g) Z (GX.ls Z Z Z (HS.pk 9 [1,7] Z) (fun _ HS _ g=>lW 1 HS Z Y1 g) Z (GX.l2 Z (fJ Wo Z (Dw.calls HS (rD 9 r_b) h71) (fun _ wd75 ⟨A72,c73,y74,h76,HS⟩=>⟨_,h76,(GX.fin (HS.pk 10 [2,8] Z) (GX.l2 Z (fJ pV Z (F7.calls HS (ro 3 Z) (ro 0 Z) h78) (fun _ wd79 ⟨h80,HS⟩=>⟨_,h80,(GX.fin (HS.pk 10 [2,8] Z) (GX.ps 1 Z (GX.nil ?_)))⟩))))⟩))))
  rcases iS H with ⟨c81,H⟩ | ⟨c81,H⟩
  ·
   refine yB Z (congrArg Bool.not (Cw c81)) (rN 2 Z ?_)
   obtain rfl:=sI H
   exact rT _ func4 Z Z ⟨Z,(HS.pk 10 [] Z)⟩
  refine nB Z (congrArg Bool.not c81) (rN 3 Z ?_)
  obtain rfl:=sI H
  exact rT _ func4 Z Z ⟨Z,(HS.pk 10 [] Z)⟩
end Go.Proofs.YtgkgmhkgahalgaaGreat
