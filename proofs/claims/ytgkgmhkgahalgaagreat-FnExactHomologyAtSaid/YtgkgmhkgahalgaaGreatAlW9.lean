/-
  The walks through the functions: a call comes to what its list function says.
-/
import Derived.Test.YtgkgmhkgahalgaaGreatAlF
import Derived.Test.YtgkgmhkgahalgaaGreatAlW1
import Derived.Test.YtgkgmhkgahalgaaGreatAlW3
import Derived.Test.YtgkgmhkgahalgaaGreatAlW5
import Derived.Test.YtgkgmhkgahalgaaGreatAlW6
import Derived.Test.YtgkgmhkgahalgaaGreatAlW8
set_option linter.unusedVariables false
set_option linter.unusedSimpArgs false
namespace Go.Proofs.YtgkgmhkgahalgaaGreat
open Go.RowKit
open Tryz
variable {w0 w:World} {L:List Dc} {K:Nat} {A_a A_b A_c A_d A_e A_f A_g A_h A_i A_j A_k A_l A_m A_n A_o A_p A_q A_r A_s A_t A_u A_v A_w A_x A_y A_z:Option Addr} {c_a c_b c_c c_d c_e c_f c_g c_h c_i c_j c_k c_l c_m c_n c_o c_p c_q c_r c_s c_t c_u c_v c_w c_x c_y c_z:Nat}
set_option maxRecDepth 20000
set_option maxHeartbeats 40000000
theorem Gy.calls {c1:Int} {a1:List Int} {k_:Int} {r1:Int} {r2:List Int} (HS:St w0 w (Own (Ad .i64) 2 A_a c_a uu a1::L)) (H:Gy.f K c1 a1 k_=some (r1,r2)) :
    Calls prog 15 #[.agg [I c1,sV A_a a1 c_a].toArray,I k_] w (Gy.post w0 L A_a c_a r1 r2):=by
  unfold Gy.f at H
  refine cG func15 Z ?_
  refine sQ (rG (bA HS Z fun b1 wd2 HS=>aS Z (nL (sQ ?_))))
  obtain ⟨t3,t4,h5,H⟩:=Dg H
  obtain ⟨c6,H⟩:=iN H
  refine rG (fL b1 1 Xz Z (lB 0 HS Z Gz Z (mV Z ?_)))
  replace HS:=HS.pk 2 [1,0] Z
  refine fJ yG Z (Eh.calls HS  h5) (fun _ wd7 ⟨h8,HS⟩=>⟨_,h8,(aS Z (nL ?_))⟩)
  replace HS:=HS.Fu (j:=1) (cs':=[I c1,sV A_a t4 c_a]) Z (by simp only [sV,List.length_set,c6] <;> rfl)
  refine rN 2 Z ?_
  obtain ⟨rfl,rfl⟩:=I7 H
  exact rT _ func15 Z Z ⟨Z,(HS.pk 2 [0] Z)⟩
theorem F7.calls {c1:Int} {a1:List Int} {k_:Int} {r1:Int} (HS:St w0 w (L)) (r_a:Cf w0 L (Ad .i64) A_a c_a uu a1) (H:F7.f K c1 a1 k_=some r1) :
    Calls prog 16 #[.agg [I c1,sV A_a a1 c_a].toArray,I k_] w (F7.post w0 L r1):=by
  unfold F7.f at H
  refine cG func16 Z ?_
  refine sQ (rG (bA HS Z fun b1 wd2 HS=>aS Z (nL (sQ ?_))))
  obtain ⟨t3,h4,H⟩:=bI H
  refine rG (fL b1 1 Xz Z (lB 0 HS Z Gz Z (mV Z (fJ vV Z (Ei.calls HS (rD 1 r_a) h4) (fun _ wd5 ⟨h6,HS⟩=>⟨_,h6,(aS Z (nL (rN 3 Z ?_)))⟩)))))
  rcases iE H with ⟨c7,H⟩ | ⟨c7,H⟩
  ·
   refine yB Z (tT c7) (rN 2 Z ?_)
   obtain rfl:=sI H
   exact rT _ func16 Z Z ⟨Z,(HS.pk 1 [] Z)⟩
  refine nB Z (tF c7) (rN 3 Z ?_)
  obtain rfl:=sI H
  exact rT _ func16 Z Z ⟨Z,(HS.pk 1 [] Z)⟩
theorem Gw.calls {a1:List (List Az)} {aK:Int} {y_a:Nat→(Ty.slice 129 Bc).Lay} {r1:Bool} (HS:St w0 w (L)) (r_a:Cf w0 L (Ty.slice 129 Bc) A_a c_a y_a a1) (H:Gw.f K a1 aK=some r1) :
    Calls prog 3 #[.agg [sV A_a a1 c_a].toArray,I aK] w (Gw.post w0 L r1):=by
  unfold Gw.f at H
  refine cG func3 Z ?_
  refine sQ (rG (bA HS Z fun b1 wd2 HS=>aS Z (nL (rN 3 Z ?_))))
  obtain ⟨t3,h4,H⟩:=bI H
  refine rG (lW 0 HS Z iK (mV Z (fJ zR Z (Gs.calls HS (rD 1 r_a) h4) (fun _ wd5 ⟨h6,HS⟩=>⟨_,h6,(aS Z (nL (rN 3 Z ?_)))⟩))))
  rcases iE H with ⟨c7,H⟩ | ⟨c7,H⟩
  ·
   refine yB Z (tT c7) (rN 2 Z ?_)
   obtain rfl:=sI H
   exact rT _ func3 Z Z ⟨Z,(HS.pk 1 [] Z)⟩
  refine nB Z (tF c7) (rN 2 Z ?_)
  obtain ⟨t8,h9,H⟩:=bI H
  obtain ⟨t15,t16,t17,h18,H⟩:=D9 H
  refine rG (lW 0 HS Z iK (fJ eG Z (Ep.calls HS (rD 1 r_a) h9) (fun _ wd13 ⟨A10,c11,y12,h14,HS⟩=>⟨_,h14,(mV Z (fJ zJ Z (Il.calls HS (ro 0 Z) h18) (fun _ wd21 ⟨A19,c20,h22,HS⟩=>⟨_,h22,(pS 3 Z (GO.alloc HS Z bW Z Z fun b23 wd24 HS=>sW 0 HS Z I9 Z fun wd25 HS=>aS Z (nL (sQ ?_))))⟩)))⟩)))
  obtain ⟨t26,h27,H⟩:=bI H
  refine rG (lW 3 HS Z iK (fJ eG Z (Ep.calls HS (rD 4 r_a) h27) (fun _ wd31 ⟨A28,c29,y30,h32,HS⟩=>⟨_,h32,(GO.alloc HS Z tL Z Z fun b33 wd34 HS=>sW 0 HS Z Jk Z fun wd35 HS=>nL (sQ ?_))⟩)))
  obtain ⟨t36,t37,t38,h39,H⟩:=D9 H
  refine rG (lW 0 HS Z Jk (mV Z (fJ qD Z (Hm.calls HS (ro 1 Z) h39) (fun _ wd42 ⟨A40,c41,h43,HS⟩=>⟨_,h43,(pS 3 Z (GO.alloc HS Z bW Z Z fun b44 wd45 HS=>sW 0 HS Z I9 Z fun wd46 HS=>aS Z (nL (rN 2 Z ?_))))⟩))))
  obtain ⟨t52,h53,H⟩:=bI H
  rcases iS H with ⟨c56,H⟩ | ⟨c56,H⟩
  ·
   refine rG (lW 0 HS Z I9 (lW 4 HS Z I9 (fJ Vu Z (El.calls HS (ro 1 Z) (ro 5 Z) h53) (fun _ wd54 ⟨h55,HS⟩=>⟨_,h55,(pS 2 Z (kN 40 Z (congrArg Bool.not (Cv c56)) (oF Z (oF Z (oF Z (GO.Gp Z Z Z Z Z (nL (rN 3 Z ?_))))))))⟩))))
   obtain rfl:=sI H
   exact rT _ func3 Z Z ⟨Z,(HS.pk 8 [] Z)⟩
  refine rG (lW 0 HS Z I9 (lW 4 HS Z I9 (fJ Vu Z (El.calls HS (ro 1 Z) (ro 5 Z) h53) (fun _ wd54 ⟨h55,HS⟩=>⟨_,h55,(pS 2 Z (kN 40 Z (congrArg Bool.not c56) (oN Z (mV Z (bK (oN Z (mV Z (bK (oN Z (GO.neq Z Z Z Z (bK ?_)))))))))))⟩))))
  refine GO.Hl Z Z Z Z Z (nL ?_)
  rcases iS H with ⟨c57,H⟩ | ⟨c57,H⟩
  ·
   refine yB Z (nF c57) (rN 2 Z ?_)
   obtain rfl:=sI H
   exact rT _ func3 Z Z ⟨Z,(HS.pk 8 [] Z)⟩
  refine nB Z (nT c57) (rN 3 Z ?_)
  obtain ⟨t58,h59,H⟩:=bI H
  obtain ⟨t65,h66,H⟩:=bI H
  refine G.I5 mixed (fun w=>St w0 w (Box b33 33 [sV A28 t26 c29]::Box b1 24 [sV A_a a1 c_a]::L)) [0,1] [0,1,2,3,4] [] (by kernel_rfl) (by kernel_rfl) (HS.drew.pk 8 [2,7] Z) ?_
  replace HS:=HS.drew
  refine GX.ls Z Z Z (HS.pk 8 [2,7] Z) (fun _ HS _ g=>lW 0 HS Z Jk g) Z (GX.ls Z Z Z (HS.pk 8 [2,7] Z) (fun _ HS _ g=>lW 1 HS Z iK g) Z (GX.l2 Z (fJ eG Z (Ep.calls HS (rD 8 r_a) h59) (fun _ wd63 ⟨A60,c61,y62,h64,HS⟩=>⟨_,h64,(GX.fin (HS.pk 9 [3,8] Z) (GX.l2 Z (fJ xY Z (He.calls HS (ro 4 Z) (ro 0 Z) h66) (fun _ wd67 ⟨h68,HS⟩=>⟨_,h68,(GX.fin (HS.pk 9 [3,8] Z) (GX.ps 1 Z (GX.nil ?_)))⟩))))⟩))))
  rcases iS H with ⟨c69,H⟩ | ⟨c69,H⟩
  ·
   refine yB Z (congrArg Bool.not (Cv c69)) (rN 2 Z ?_)
   obtain rfl:=sI H
   exact rT _ func3 Z Z ⟨Z,(HS.pk 9 [] Z)⟩
  refine nB Z (congrArg Bool.not c69) (rN 4 Z ?_)
  obtain ⟨t70,t71,h72,H⟩:=Dg H
  obtain ⟨c73,H⟩:=iN H
  refine rG (lW 3 HS Z Jk (mV Z ?_))
  replace HS:=HS.pk 9 [4,0,1,2,3,5,6,7,8] Z
  refine fJ wQ Z (Gt.calls HS  h72) (fun _ wd74 ⟨h75,HS⟩=>⟨_,h75,(aS Z (nL ?_))⟩)
  replace HS:=HS.Fu (j:=4) (cs':=[sV A28 t71 c29]) Z (by simp only [sV,List.length_set,c73] <;> rfl)
  refine rN 2 Z ?_
  rcases iE H with ⟨c82,H⟩ | ⟨c82,H⟩
  ·
   refine rG (pS 3 Z (kN 55 Z (tT c82) (oF Z (oF Z (oF Z (oF Z (pS 2 Z (oF Z (oF Z (oF Z (GO.Gp Z Z Z Z Z (nL (rN 3 Z ?_)))))))))))))
   obtain rfl:=sI H
   exact rT _ func3 Z Z ⟨Z,(HS.pk 9 [] Z)⟩
  obtain ⟨t83,h84,H⟩:=bI H
  rcases iS H with ⟨c87,H⟩ | ⟨c87,H⟩
  ·
   refine rG (pS 3 Z (kN 55 Z (tF c82) (oN Z (lW 2 HS Z I9 (bK (oN Z (lW 5 HS Z I9 (bK (oN Z (fJ Vu Z (El.calls HS (ro 3 Z) (ro 6 Z) h84) (fun _ wd85 ⟨h86,HS⟩=>⟨_,h86,(bK (oN Z (GO.not Z Z Z (bK ?_))))⟩)))))))))))
   refine pS 2 Z (kN 61 Z (congrArg Bool.not (Cv c87)) (oF Z (oF Z (oF Z (GO.Gp Z Z Z Z Z (nL (rN 3 Z ?_)))))))
   obtain rfl:=sI H
   exact rT _ func3 Z Z ⟨Z,(HS.pk 9 [] Z)⟩
  refine rG (pS 3 Z (kN 55 Z (tF c82) (oN Z (lW 2 HS Z I9 (bK (oN Z (lW 5 HS Z I9 (bK (oN Z (fJ Vu Z (El.calls HS (ro 3 Z) (ro 6 Z) h84) (fun _ wd85 ⟨h86,HS⟩=>⟨_,h86,(bK (oN Z (GO.not Z Z Z (bK ?_))))⟩)))))))))))
  refine pS 2 Z (kN 61 Z (congrArg Bool.not c87) (oN Z (mV Z (bK (oN Z (mV Z (bK (oN Z (GO.neq Z Z Z Z (bK (GO.Hl Z Z Z Z Z (nL (nB Z (nT c57) (rN 4 Z ?_))))))))))))))
  obtain ⟨t88,t89,h90,H⟩:=Dg H
  obtain ⟨c91,H⟩:=iN H
  refine rG (lW 2 HS Z I9 (mV Z ?_))
  replace HS:=HS.pk 9 [3,0,1,2,4,5,6,7,8] Z
  refine fJ wL Z (Gy.calls HS  h90) (fun _ wd92 ⟨h93,HS⟩=>⟨_,h93,(aS Z (nL ?_))⟩)
  replace HS:=HS.Fu (j:=3) (cs':=[I t36,sV A40 t89 c41]) Z (by simp only [sV,List.length_set,c91] <;> rfl)
  refine rN 3 Z ?_
  obtain ⟨t94,h95,H⟩:=bI H
  refine rG (lW 3 HS Z I9 (mV Z (fJ pK Z (F7.calls HS (ro 0 Z) h95) (fun _ wd96 ⟨h97,HS⟩=>⟨_,h97,(aS Z (nL (rN 3 Z ?_)))⟩))))
  rcases iE H with ⟨c98,H⟩ | ⟨c98,H⟩
  ·
   refine yB Z (tT c98) (rN 2 Z ?_)
   obtain rfl:=sI H
   exact rT _ func3 Z Z ⟨Z,(HS.pk 9 [] Z)⟩
  refine nB Z (tF c98) (rN 4 Z ?_)
  rcases iS H with ⟨c99,H⟩ | ⟨c99,H⟩
  ·
   refine yB Z (nF c99) (rN 2 Z ?_)
   obtain rfl:=sI H
   exact rT _ func3 Z Z ⟨Z,(HS.pk 9 [] Z)⟩
  refine nB Z (nT c99) (rN 2 Z ?_)
  obtain ⟨t100,h101,H⟩:=bI H
  obtain ⟨t107,t108,t109,h110,H⟩:=D9 H
  refine rG (lW 8 HS Z iK (fJ eG Z (Ep.calls HS (rD 9 r_a) h101) (fun _ wd105 ⟨A102,c103,y104,h106,HS⟩=>⟨_,h106,(mV Z (fJ qD Z (Hm.calls HS (ro 0 Z) h110) (fun _ wd113 ⟨A111,c112,h114,HS⟩=>⟨_,h114,(pS 3 Z (GO.alloc HS Z bW Z Z fun b115 wd116 HS=>sW 0 HS Z I9 Z fun wd117 HS=>aS Z (nL (rN 2 Z ?_))))⟩)))⟩)))
  obtain ⟨t123,h124,H⟩:=bI H
  rcases iS H with ⟨c127,H⟩ | ⟨c127,H⟩
  ·
   refine rG (lW 0 HS Z I9 (lW 8 HS Z I9 (fJ Vu Z (El.calls HS (ro 1 Z) (ro 9 Z) h124) (fun _ wd125 ⟨h126,HS⟩=>⟨_,h126,(pS 2 Z (kN 88 Z (congrArg Bool.not (Cv c127)) (oF Z (oF Z (oF Z (GO.Gp Z Z Z Z Z (nL (rN 3 Z ?_))))))))⟩))))
   obtain rfl:=sI H
   exact rT _ func3 Z Z ⟨Z,(HS.pk 12 [] Z)⟩
  refine rG (lW 0 HS Z I9 (lW 8 HS Z I9 (fJ Vu Z (El.calls HS (ro 1 Z) (ro 9 Z) h124) (fun _ wd125 ⟨h126,HS⟩=>⟨_,h126,(pS 2 Z (kN 88 Z (congrArg Bool.not c127) (oN Z (mV Z (bK (oN Z (mV Z (bK (oN Z (GO.neq Z Z Z Z (bK ?_)))))))))))⟩))))
  refine GO.Hl Z Z Z Z Z (nL ?_)
  rcases iS H with ⟨c128,H⟩ | ⟨c128,H⟩
  ·
   refine yB Z (nF c128) (rN 2 Z ?_)
   obtain rfl:=sI H
   exact rT _ func3 Z Z ⟨Z,(HS.pk 12 [] Z)⟩
  refine nB Z (nT c128) (rN 4 Z ?_)
  obtain ⟨t129,h130,H⟩:=bI H
  refine rG (lW 6 HS Z I9 (mV Z (fJ pK Z (F7.calls HS (ro 3 Z) h130) (fun _ wd131 ⟨h132,HS⟩=>⟨_,h132,(aS Z (nL (rN 3 Z ?_)))⟩))))
  rcases iE H with ⟨c133,H⟩ | ⟨c133,H⟩
  ·
   refine yB Z (tT c133) (rN 2 Z ?_)
   obtain rfl:=sI H
   exact rT _ func3 Z Z ⟨Z,(HS.pk 12 [] Z)⟩
  refine nB Z (tF c133) (rN 4 Z ?_)
  rcases iS H with ⟨c134,H⟩ | ⟨c134,H⟩
  ·
   refine yB Z (nF c134) (rN 2 Z ?_)
   obtain rfl:=sI H
   exact rT _ func3 Z Z ⟨Z,(HS.pk 12 [] Z)⟩
  refine nB Z (nT c134) (rN 3 Z ?_)
  obtain rfl:=sI H
  exact rT _ func3 Z Z ⟨Z,(HS.pk 12 [] Z)⟩
end Go.Proofs.YtgkgmhkgahalgaaGreat
