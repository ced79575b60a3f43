/-
  The walks through the functions: a call comes to what its list function says.
-/
import Derived.Test.YtgkgmhkgahalgaaGreatAlF
import Derived.Test.YtgkgmhkgahalgaaGreatAlW1
import Derived.Test.YtgkgmhkgahalgaaGreatAlW5
import Derived.Test.YtgkgmhkgahalgaaGreatAlW6
import Derived.Test.YtgkgmhkgahalgaaGreatAlW7
import Derived.Test.YtgkgmhkgahalgaaGreatAlW8
set_option linter.unusedVariables false
set_option linter.unusedSimpArgs false
namespace Go.Proofs.YtgkgmhkgahalgaaGreat
open Go.RowKit
open Tryz
variable {w0 w:World} {L:List Df} {K:Nat} {A_a A_b A_c A_d A_e A_f A_g A_h A_i A_j A_k A_l A_m A_n A_o A_p A_q A_r A_s A_t A_u A_v A_w A_x A_y A_z:Option Addr} {c_a c_b c_c c_d c_e c_f c_g c_h c_i c_j c_k c_l c_m c_n c_o c_p c_q c_r c_s c_t c_u c_v c_w c_x c_y c_z:Nat}
set_option maxRecDepth 20000
set_option maxHeartbeats 40000000
theorem Cu.calls {a_ b_:List Ch} {y_a:Nat→Cx.Lay} {y_b:Nat→Cx.Lay} {r1:Bool} (HS:St w0 w (L)) (r_a:Ce w0 L Cx A_a c_a y_a a_) (r_b:Ce w0 L Cx A_b c_b y_b b_) (H:Cu.f K a_ b_=some r1) :
    Calls prog 26 #[sV A_a a_ c_a,sV A_b b_ c_b] w (Cu.post w0 L r1):=by
  unfold Cu.f at H
  refine cG func26 Z ?_
  refine rN 4 Z (rG (mV Z (lS Z Z U46 Z (mV Z (lS Z Z U46 Z (GO.neq Z Z Z Z (nL ?_)))))))
  rcases iS H with ⟨c1,H⟩ | ⟨c1,H⟩
  ·
   refine yB Z (nF c1) (rN 2 Z ?_)
   obtain rfl:=sI H
   exact rT _ func26 Z Z ⟨Z,HS⟩
  refine nB Z (nT c1) (rN 6 Z ?_)
  refine G.name (fun g1 e1=>?_)
  have f1:∀ b1,b1≤K→∀ (a1:Int) (w:World),Cu.l1 K b1 a_ b_ a1=some r1→St w0 w (L)→G prog 26 27 [(0,sV A_a a_ c_a),(1,sV A_b b_ c_b),(5,I a1)] g1 w (Cu.post w0 L r1):=by
   refine lp (fun _ w H _=>by rw [Cu.l1] at H; cases H) fun d1 i1 h1 a1 w H HS=>?_
   rw [Cu.l1] at H
   subst e1
   refine rN 2 Z (rG (pS 2 Z (lS Z Z U46 Z (GO.lss Z Z Z Z (nL ?_)))))
   rcases iS H with ⟨c27,H⟩ | ⟨c27,H⟩
   ·
    refine nB Z (tF c27) (rN 3 Z ?_)
    obtain rfl:=sI H
    exact rT _ func26 Z Z ⟨Z,HS⟩
   refine yB Z (tT c27) (rN 4 Z ?_)
   obtain ⟨c28,H⟩:=iN H
   obtain ⟨e29,h30,H⟩:=Ih H
   obtain ⟨c31,H⟩:=iN H
   obtain ⟨e32,h33,H⟩:=Ih H
   obtain ⟨t34,h35,H⟩:=bI H
   refine G.lex mixed [0,1,2,4,5,6,3,7,8,9] (by kernel_rfl) ?_
   replace HS:=HS.drew
   refine GX.ps 2 Z (qL Z Z (fun _ _ g=>iX Z U46 gM (rk r_a HS) c28 g) Z (GX.ps 2 Z (qL Z Z (fun _ _ g=>iX Z U46 gM (rk r_b HS) c31 g) Z (GX.l1 Z Z Z (fun _ g=>GO.Lb (T:=Cx) (n:=a1.toNat) HS r_a Z Z (Hm (ltN c28) h30) Ka Z g) Z (GX.l1 Z Z Z (fun _ g=>GO.Lb (T:=Cx) (n:=a1.toNat) HS r_b Z Z (Hm (ltN c31) h33) Ka Z g) Z (GX.l2 Z (fJ wI Z (Hd.calls HS (Ce.fld r_a (Hm (ltN c28) h30) (fun _ h=>h.2)) (Ce.fld r_b (Hm (ltN c31) h33) (fun _ h=>h.2)) h35) (fun _ wd36 ⟨h37,HS⟩=>⟨_,h37,(GX.fin tv (GX.ps 1 Z (GX.nil ?_)))⟩))))))))
   rcases iS H with ⟨c38,H⟩ | ⟨c38,H⟩
   ·
    refine yB Z (congrArg Bool.not (Cy c38)) (rN 2 Z ?_)
    obtain rfl:=sI H
    exact rT _ func26 Z Z ⟨Z,HS⟩
   refine nB Z (congrArg Bool.not c38) (rN 4 Z (gW (h1 d1 (lR _) _ _ H HS) Z))
  exact gW (f1 K (lR _) _ _ H HS) Z
theorem Db.calls {a_:List Ch} {k_:Int} {y_a:Nat→Cx.Lay} {r1:Int} {r2:List Ch} (HS:St w0 w (Own Cx 28 A_a c_a y_a a_::L)) (H:Db.f K a_ k_=some (r1,r2)) :
    Calls prog 27 #[sV A_a a_ c_a,I k_] w (Db.post w0 L A_a c_a y_a r1 r2):=by
  unfold Db.f at H
  refine cG func27 Z ?_
  refine rN 7 Z ?_
  refine G.name (fun g1 e1=>?_)
  have f1:∀ c1,c1≤K→∀ (x15:List Ch) (b1 a1:Int) (w:World),Db.l1 K c1 x15 b1 a1=some (r1,r2)→St w0 w (Own Cx 28 A_a c_a y_a x15::L)→G prog 27 27 [(0,sV A_a x15 c_a),(1,I b1),(5,I a1)] g1 w (Db.post w0 L A_a c_a y_a r1 r2):=by
   refine lp (fun _ _ _ w H _=>by rw [Db.l1] at H; cases H) fun d1 i1 h1 x15 b1 a1 w H HS=>?_
   rw [Db.l1] at H
   subst e1
   refine rN 2 Z (rG (pS 2 Z (lS Z Z U46 Z (GO.lss Z Z Z Z (nL ?_)))))
   rcases iS H with ⟨c32,H⟩ | ⟨c32,H⟩
   ·
    refine nB Z (tF c32) (rN 3 Z ?_)
    obtain ⟨rfl,rfl⟩:=I6 H
    exact rT _ func27 Z Z ⟨Z,HS⟩
   refine yB Z (tT c32) (rN 4 Z ?_)
   obtain ⟨c33,H⟩:=iN H
   obtain ⟨e35,h36,H⟩:=Ih H
   refine rG (pS 3 Z (iX Z U46 gM (rk (ro 0 Z) HS) c33 (GO.fld (ea A_a (a1.toNat * 2)) Z Z X7 Z Z (GO.stK (T:=Cx) (j:=0) (n:=a1.toNat) (o:=0) (x0:=e35) (vs:=[I b1]) ({ e35 with Rank:=b1 }) HS Z (fun _ _ h=>h) Z Z Z Z (htN na2 Z) Z (Hm (ltN c33) h36) Z Z fun wd34 HS=>nL (G.len (t:=0) (m:=(x15.set a1.toNat ({ e35 with Rank:=b1 })).length) Z (by simp only [List.length_set] <;> rfl) (rN 2 Z ?_))))))
   obtain ⟨c37,H⟩:=iN H
   obtain ⟨e38,h39,H⟩:=Ih H
   obtain ⟨t40,t41,h42,H⟩:=De H
   obtain ⟨c43,H⟩:=iN H
   refine rG (pS 2 Z (iX Z U46 gM (rk (ro 0 Z) HS) c37 (GO.fld (ea A_a (a1.toNat * 2+1)) Z Z Yj (U7 _ _ _) Z (GO.Dt (T:=Cx) (n:=a1.toNat) (o:=1) HS (ro 0 Z) Z Z (Hm (ltN c37) h39) Z Z Ha Z (mV Z ?_)))))
   replace HS:=HS.lD Lg (Hm (ltN c37) h39)
   refine fJ zA Z (E5.calls HS  h42) (fun _ wd44 ⟨h45,HS⟩=>⟨_,h45,?_⟩)
   replace HS:=St.Zv (y:=t41) Lg (Hm (ltN c37) h39) (congrArg (fun m=>([I e38.Rank,.slice (y_a a1.toNat).2.A m (y_a a1.toNat).2.c]:List Value)) c43) HS
   refine aS Z (nL (G.len (t:=0) (m:=((x15.set a1.toNat ({ e35 with Rank:=b1 })).set a1.toNat { e38 with Ic:=t41 }).length) Z (by simp only [List.length_set,List.length_set] <;> rfl) (rN 3 Z (gW (h1 d1 (lR _) _ _ _ _ H HS) Z))))
  exact gW (f1 K (lR _) _ _ _ _ H HS) Z
theorem Cw.calls {a_:List Ch} {k_:Int} {y_a:Nat→Cx.Lay} {r1:Int} (HS:St w0 w (L)) (r_a:Ce w0 L Cx A_a c_a y_a a_) (H:Cw.f K a_ k_=some r1) :
    Calls prog 28 #[sV A_a a_ c_a,I k_] w (Cw.post w0 L r1):=by
  unfold Cw.f at H
  refine cG func28 Z ?_
  refine rN 7 Z ?_
  refine G.name (fun g1 e1=>?_)
  have f1:∀ c1,c1≤K→∀ (b1 a1:Int) (w:World),Cw.l1 K c1 a_ b1 a1=some r1→St w0 w (L)→G prog 28 31 [(0,sV A_a a_ c_a),(1,I b1),(5,I a1)] g1 w (Cw.post w0 L r1):=by
   refine lp (fun _ _ w H _=>by rw [Cw.l1] at H; cases H) fun d1 i1 h1 b1 a1 w H HS=>?_
   rw [Cw.l1] at H
   subst e1
   refine rN 2 Z (rG (pS 2 Z (lS Z Z U46 Z (GO.lss Z Z Z Z (nL ?_)))))
   rcases iS H with ⟨c23,H⟩ | ⟨c23,H⟩
   ·
    refine nB Z (tF c23) (rN 3 Z ?_)
    obtain rfl:=sI H
    exact rT _ func28 Z Z ⟨Z,HS⟩
   refine yB Z (tT c23) (rN 5 Z ?_)
   obtain ⟨c24,H⟩:=iN H
   obtain ⟨e25,h26,H⟩:=Ih H
   refine rG (pS 2 Z (iX Z U46 gM (rk r_a HS) c24 (GO.fld (ea A_a (a1.toNat * 2)) Z Z X7 Z Z (GO.Dt (T:=Cx) (n:=a1.toNat) (o:=0) HS r_a Z Z (Hm (ltN c24) h26) Z Z na2 Z (pS 2 Z (nL ?_))))))
   rcases iS H with ⟨c27,H⟩ | ⟨c27,H⟩
   ·
    refine yB Z (nF c27) (rN 2 Z ?_)
    obtain rfl:=sI H
    exact rT _ func28 Z Z ⟨Z,HS⟩
   refine nB Z (nT c27) (rN 4 Z ?_)
   obtain ⟨t28,h29,H⟩:=bI H
   refine rG (pS 2 Z (iX Z U46 gM (rk r_a HS) c24 (GO.fld (ea A_a (a1.toNat * 2+1)) Z Z Yj (U7 _ _ _) Z (GO.Dt (T:=Cx) (n:=a1.toNat) (o:=1) HS r_a Z Z (Hm (ltN c24) h26) Z Z Ha Z (mV Z (fJ wN Z (Fb.calls HS (Ce.fld r_a (Hm (ltN c24) h26) (fun _ h=>h.2)) h29) (fun _ wd30 ⟨h31,HS⟩=>⟨_,h31,(aS Z (nL (rN 2 Z ?_)))⟩)))))))
   rcases iE H with ⟨c32,H⟩ | ⟨c32,H⟩
   ·
    refine yB Z (tT c32) (rN 2 Z ?_)
    obtain rfl:=sI H
    exact rT _ func28 Z Z ⟨Z,HS⟩
   refine nB Z (tF c32) (rN 4 Z (gW (h1 d1 (lR _) _ _ _ H HS) Z))
  exact gW (f1 K (lR _) _ _ _ H HS) Z
theorem Gu.calls {a1:List (List Aw)} {y_a:Nat→(Ty.slice 129 Bb).Lay} {r1:Bool} (HS:St w0 w (L)) (r_a:Ce w0 L (Ty.slice 129 Bb) A_a c_a y_a a1) (H:Gu.f K a1=some r1) :
    Calls prog 6 #[.agg [sV A_a a1 c_a].toArray] w (Gu.post w0 L r1):=by
  unfold Gu.f at H
  refine cG func6 Z ?_
  refine sQ (rG (bA HS Z fun b1 wd2 HS=>aS Z (nL (rN 3 Z ?_))))
  obtain ⟨t3,h4,H⟩:=bI H
  refine rG (lW 0 HS Z jD (mV Z (fJ Aam Z (Gz.calls HS (rD 1 r_a) h4) (fun _ wd5 ⟨h6,HS⟩=>⟨_,h6,(aS Z (nL (rN 3 Z ?_)))⟩))))
  rcases iE H with ⟨c7,H⟩ | ⟨c7,H⟩
  ·
   refine yB Z (tT c7) (rN 2 Z ?_)
   obtain rfl:=sI H
   exact rT _ func6 Z Z ⟨Z,(HS.pk 1 [] Z)⟩
  refine nB Z (tF c7) (rN 2 Z ?_)
  obtain ⟨t8,h9,H⟩:=bI H
  obtain ⟨t15,t16,h17,H⟩:=De H
  refine rG (lW 0 HS Z jD (fJ fE Z (Ev.calls HS (rD 1 r_a) h9) (fun _ wd13 ⟨A10,c11,y12,h14,HS⟩=>⟨_,h14,(fJ wK Z (El.calls HS (ro 0 Z) h17) (fun _ wd21 ⟨A18,c19,y20,h22,HS⟩=>⟨_,h22,(pS 5 Z (nL (sQ ?_)))⟩))⟩)))
  obtain ⟨t23,h24,H⟩:=bI H
  refine rG (lW 2 HS Z jD (fJ fE Z (Ev.calls HS (rD 3 r_a) h24) (fun _ wd28 ⟨A25,c26,y27,h29,HS⟩=>⟨_,h29,(GO.alloc HS Z uI Z Z fun b30 wd31 HS=>sW 0 HS Z Jn Z fun wd32 HS=>nL (sQ ?_))⟩)))
  obtain ⟨t33,t34,h35,H⟩:=De H
  refine rG (lW 0 HS Z Jn (fJ qW Z (Eb.calls HS (ro 1 Z) h35) (fun _ wd39 ⟨A36,c37,y38,h40,HS⟩=>⟨_,h40,(pS 5 Z (nL (rN 2 Z ?_)))⟩)))
  obtain ⟨t46,h47,H⟩:=bI H
  rcases iS H with ⟨c50,H⟩ | ⟨c50,H⟩
  ·
   refine rG (pS 2 Z (fJ Wi Z (Cu.calls HS (ro 0 Z) (ro 3 Z) h47) (fun _ wd48 ⟨h49,HS⟩=>⟨_,h49,(pS 2 Z (kN 36 Z (congrArg Bool.not (Cy c50)) (oF Z (oF Z (oF Z (GO.Gw Z Z Z Z Z (nL (rN 3 Z ?_))))))))⟩)))
   obtain rfl:=sI H
   exact rT _ func6 Z Z ⟨Z,(HS.pk 6 [] Z)⟩
  refine rG (pS 2 Z (fJ Wi Z (Cu.calls HS (ro 0 Z) (ro 3 Z) h47) (fun _ wd48 ⟨h49,HS⟩=>⟨_,h49,(pS 2 Z (kN 36 Z (congrArg Bool.not c50) (oN Z (mV Z (bK (oN Z (mV Z (bK (oN Z (GO.neq Z Z Z Z (bK (GO.Hw Z Z Z Z Z ?_))))))))))))⟩)))
  refine nL ?_
  rcases iS H with ⟨c51,H⟩ | ⟨c51,H⟩
  ·
   refine yB Z (nF c51) (rN 2 Z ?_)
   obtain rfl:=sI H
   exact rT _ func6 Z Z ⟨Z,(HS.pk 6 [] Z)⟩
  refine nB Z (nT c51) (rN 3 Z ?_)
  obtain ⟨t52,h53,H⟩:=bI H
  obtain ⟨t59,h60,H⟩:=bI H
  refine G.Jg mixed (fun w=>St w0 w (Box b30 33 [sV A25 t23 c26]::Box b1 24 [sV A_a a1 c_a]::L)) [0,1] [0,1,2,3,4] [] (by kernel_rfl) (by kernel_rfl) (HS.drew.pk 6 [1,5] Z) ?_
  replace HS:=HS.drew
  refine GX.ls Z Z Z (HS.pk 6 [1,5] Z) (fun _ HS _ g=>lW 0 HS Z Jn g) Z (GX.ls Z Z Z (HS.pk 6 [1,5] Z) (fun _ HS _ g=>lW 1 HS Z jD g) Z (GX.l2 Z (fJ fE Z (Ev.calls HS (rD 6 r_a) h53) (fun _ wd57 ⟨A54,c55,y56,h58,HS⟩=>⟨_,h58,(GX.fin (HS.pk 7 [2,6] Z) (GX.l2 Z (fJ yS Z (Hr.calls HS (ro 3 Z) (ro 0 Z) h60) (fun _ wd61 ⟨h62,HS⟩=>⟨_,h62,(GX.fin (HS.pk 7 [2,6] Z) (GX.ps 1 Z (GX.nil ?_)))⟩))))⟩))))
  rcases iS H with ⟨c63,H⟩ | ⟨c63,H⟩
  ·
   refine yB Z (congrArg Bool.not (Cy c63)) (rN 2 Z ?_)
   obtain rfl:=sI H
   exact rT _ func6 Z Z ⟨Z,(HS.pk 7 [] Z)⟩
  refine nB Z (congrArg Bool.not c63) (rN 4 Z ?_)
  obtain ⟨t64,t65,h66,H⟩:=De H
  obtain ⟨c67,H⟩:=iN H
  refine rG (lW 2 HS Z Jn (mV Z ?_))
  replace HS:=HS.pk 7 [3,0,1,2,4,5,6] Z
  refine fJ xH Z (G5.calls HS  h66) (fun _ wd68 ⟨h69,HS⟩=>⟨_,h69,(aS Z (nL ?_))⟩)
  replace HS:=HS.F8 (j:=3) (cs':=[sV A25 t65 c26]) Z (by simp only [sV,List.length_set,c67] <;> rfl)
  refine rN 2 Z ?_
  rcases iE H with ⟨c76,H⟩ | ⟨c76,H⟩
  ·
   refine rG (pS 3 Z (kN 51 Z (tT c76) (oF Z (oF Z (oF Z (oF Z (pS 2 Z (oF Z (oF Z (oF Z (GO.Gw Z Z Z Z Z (nL (rN 3 Z ?_)))))))))))))
   obtain rfl:=sI H
   exact rT _ func6 Z Z ⟨Z,(HS.pk 7 [] Z)⟩
  obtain ⟨t77,h78,H⟩:=bI H
  rcases iS H with ⟨c81,H⟩ | ⟨c81,H⟩
  ·
   refine rG (pS 3 Z (kN 51 Z (tF c76) (oN Z (mV Z (bK (oN Z (mV Z (bK (oN Z (fJ Wi Z (Cu.calls HS (ro 2 Z) (ro 4 Z) h78) (fun _ wd79 ⟨h80,HS⟩=>⟨_,h80,(bK (oN Z (GO.not Z Z Z (bK ?_))))⟩)))))))))))
   refine pS 2 Z (kN 57 Z (congrArg Bool.not (Cy c81)) (oF Z (oF Z (oF Z (GO.Gw Z Z Z Z Z (nL (rN 3 Z ?_)))))))
   obtain rfl:=sI H
   exact rT _ func6 Z Z ⟨Z,(HS.pk 7 [] Z)⟩
  refine rG (pS 3 Z (kN 51 Z (tF c76) (oN Z (mV Z (bK (oN Z (mV Z (bK (oN Z (fJ Wi Z (Cu.calls HS (ro 2 Z) (ro 4 Z) h78) (fun _ wd79 ⟨h80,HS⟩=>⟨_,h80,(bK (oN Z (GO.not Z Z Z (bK ?_))))⟩)))))))))))
  refine pS 2 Z (kN 57 Z (congrArg Bool.not c81) (oN Z (mV Z (bK (oN Z (mV Z (bK (oN Z (GO.neq Z Z Z Z (bK (GO.Hw Z Z Z Z Z (nL (nB Z (nT c51) (rN 4 Z ?_))))))))))))))
  obtain ⟨t82,t83,h84,H⟩:=De H
  obtain ⟨c85,H⟩:=iN H
  refine rG (pS 2 Z ?_)
  replace HS:=HS.pk 7 [2,0,1,3,4,5,6] Z
  refine fJ xR Z (Db.calls HS  h84) (fun _ wd86 ⟨h87,HS⟩=>⟨_,h87,(aS Z (nL (G.len (t:=7) (m:=t83.length) Z (by simp only [List.length_set,c85] <;> rfl) (rN 3 Z ?_))))⟩)
  obtain ⟨t88,h89,H⟩:=bI H
  refine rG (pS 2 Z (fJ qU Z (Cw.calls HS (ro 0 Z) h89) (fun _ wd90 ⟨h91,HS⟩=>⟨_,h91,(aS Z (nL (rN 3 Z ?_)))⟩)))
  rcases iE H with ⟨c92,H⟩ | ⟨c92,H⟩
  ·
   refine yB Z (tT c92) (rN 2 Z ?_)
   obtain rfl:=sI H
   exact rT _ func6 Z Z ⟨Z,(HS.pk 7 [] Z)⟩
  refine nB Z (tF c92) (rN 4 Z ?_)
  rcases iS H with ⟨c93,H⟩ | ⟨c93,H⟩
  ·
   refine yB Z (nF c93) (rN 2 Z ?_)
   obtain rfl:=sI H
   exact rT _ func6 Z Z ⟨Z,(HS.pk 7 [] Z)⟩
  refine nB Z (nT c93) (rN 2 Z ?_)
  obtain ⟨t94,h95,H⟩:=bI H
  obtain ⟨t101,t102,h103,H⟩:=De H
  refine rG (lW 6 HS Z jD (fJ fE Z (Ev.calls HS (rD 7 r_a) h95) (fun _ wd99 ⟨A96,c97,y98,h100,HS⟩=>⟨_,h100,(fJ qW Z (Eb.calls HS (ro 0 Z) h103) (fun _ wd107 ⟨A104,c105,y106,h108,HS⟩=>⟨_,h108,(pS 5 Z (nL (rN 2 Z ?_)))⟩))⟩)))
  obtain ⟨t114,h115,H⟩:=bI H
  rcases iS H with ⟨c118,H⟩ | ⟨c118,H⟩
  ·
   refine rG (pS 2 Z (fJ Wi Z (Cu.calls HS (ro 0 Z) (ro 6 Z) h115) (fun _ wd116 ⟨h117,HS⟩=>⟨_,h117,(pS 2 Z (kN 83 Z (congrArg Bool.not (Cy c118)) (oF Z (oF Z (oF Z (GO.Gw Z Z Z Z Z (nL (rN 3 Z ?_))))))))⟩)))
   obtain rfl:=sI H
   exact rT _ func6 Z Z ⟨Z,(HS.pk 9 [] Z)⟩
  refine rG (pS 2 Z (fJ Wi Z (Cu.calls HS (ro 0 Z) (ro 6 Z) h115) (fun _ wd116 ⟨h117,HS⟩=>⟨_,h117,(pS 2 Z (kN 83 Z (congrArg Bool.not c118) (oN Z (mV Z (bK (oN Z (mV Z (bK (oN Z (GO.neq Z Z Z Z (bK (GO.Hw Z Z Z Z Z ?_))))))))))))⟩)))
  refine nL ?_
  rcases iS H with ⟨c119,H⟩ | ⟨c119,H⟩
  ·
   refine yB Z (nF c119) (rN 2 Z ?_)
   obtain rfl:=sI H
   exact rT _ func6 Z Z ⟨Z,(HS.pk 9 [] Z)⟩
  refine nB Z (nT c119) (rN 4 Z ?_)
  obtain ⟨t120,h121,H⟩:=bI H
  refine rG (pS 2 Z (fJ qU Z (Cw.calls HS (ro 2 Z) h121) (fun _ wd122 ⟨h123,HS⟩=>⟨_,h123,(aS Z (nL (rN 3 Z ?_)))⟩)))
  rcases iE H with ⟨c124,H⟩ | ⟨c124,H⟩
  ·
   refine yB Z (tT c124) (rN 2 Z ?_)
   obtain rfl:=sI H
   exact rT _ func6 Z Z ⟨Z,(HS.pk 9 [] Z)⟩
  refine nB Z (tF c124) (rN 4 Z ?_)
  rcases iS H with ⟨c125,H⟩ | ⟨c125,H⟩
  ·
   refine yB Z (nF c125) (rN 2 Z ?_)
   obtain rfl:=sI H
   exact rT _ func6 Z Z ⟨Z,(HS.pk 9 [] Z)⟩
  refine nB Z (nT c125) (rN 3 Z ?_)
  obtain rfl:=sI H
  exact rT _ func6 Z Z ⟨Z,(HS.pk 9 [] Z)⟩
end Go.Proofs.YtgkgmhkgahalgaaGreat
