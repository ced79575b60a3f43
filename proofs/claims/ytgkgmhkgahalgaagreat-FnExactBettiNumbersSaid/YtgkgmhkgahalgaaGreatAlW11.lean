/-
  The walks through the functions: a call comes to what its list function says.
-/
import Derived.Test.YtgkgmhkgahalgaaGreatAlF
import Derived.Test.YtgkgmhkgahalgaaGreatAlW1
import Derived.Test.YtgkgmhkgahalgaaGreatAlW5
import Derived.Test.YtgkgmhkgahalgaaGreatAlW6
import Derived.Test.YtgkgmhkgahalgaaGreatAlW7
set_option linter.unusedVariables false
set_option linter.unusedSimpArgs false
namespace Go.Proofs.YtgkgmhkgahalgaaGreat
open Go.RowKit
open Tryz
variable {w0 w:World} {L:List Da} {K:Nat} {A_a A_b A_c A_d A_e A_f A_g A_h A_i A_j A_k A_l A_m A_n A_o A_p A_q A_r A_s A_t A_u A_v A_w A_x A_y A_z:Option Addr} {c_a c_b c_c c_d c_e c_f c_g c_h c_i c_j c_k c_l c_m c_n c_o c_p c_q c_r c_s c_t c_u c_v c_w c_x c_y c_z:Nat}
set_option maxRecDepth 20000
set_option maxHeartbeats 40000000
theorem Eg.calls {d1:List (List Av)} {y_a:Nat→(Ty.slice 83 Az).Lay} {r1:List Int} {r2:Int} (HS:St w0 w (L)) (r_a:Cf w0 L (Ty.slice 83 Az) A_a c_a y_a d1) (H:Eg.f K d1=some (r1,r2)) :
    Calls prog 19 #[.agg [sV A_a d1 c_a].toArray] w (Eg.post w0 L r1 r2):=by
  unfold Eg.f at H
  refine cG func19 Z ?_
  refine sQ (rG (bA HS Z fun b1 wd2 HS=>pS 2 Z (nL (sQ ?_))))
  obtain ⟨t3,t4,h5,H⟩:=Cz H
  refine rG (lW 0 HS Z Jf (fJ wB Z (Ej.calls HS (rD 1 r_a) h5) (fun _ wd9 ⟨A6,c7,y8,h10,HS⟩=>⟨_,h10,(pS 5 Z (nL (rN 3 Z ?_)))⟩)))
  rcases iS H with ⟨c11,H⟩ | ⟨c11,H⟩
  ·
   refine yB Z (nF c11) (rN 2 Z ?_)
   replace HS:=HS.Hr (Ad .i64) 2 uu
   obtain ⟨rfl,rfl⟩:=Ih H
   exact G.Iq _ _ func19 Z Z Z ⟨_,_,Z,(HS.pk 3 [0] Z)⟩
  refine nB Z (nT c11) (rN 2 Z (rG (GO.Ey (el:=2) ([]) HS Z Z (fun _=>by kernel_rfl) Z fun b12 wd13 HS=>?_)))
  replace HS:=HS.Ia (T:=(Ad .i64)) (j:=0) Z Au uu ([]:List Int) Z (K5 Z)
  refine GO.Kg (t:=16) (m:=([]:List Int).length) (c':=([]:List Int).length) Z Z Z (aS Z (nL (rN 5 Z ?_)))
  refine G.name (fun k1 g1=>?_)
  have h1:∀ e1,e1≤K→∀ (A23:Option Addr) (c24:Nat) (c1:List Int) (a1:Int) (w:World),Eg.l1 K e1 t3 c1 a1=some (r1,r2)→St w0 w (Own Er 28 A6 c7 y8 t3::Own (Ad .i64) 2 A23 c24 uu c1::L)→G prog 19 30 [(4,sV A6 t3 c7),(6,sV A23 c1 c24),(7,I a1)] k1 w (Eg.post w0 L r1 r2):=by
   refine lp (fun _ _ _ _ w H _=>by rw [Eg.l1] at H; cases H) fun f1 m1 i1 A23 c24 c1 a1 w H HS=>?_
   rw [Eg.l1] at H
   subst g1
   refine rN 3 Z ?_
   rcases iS H with ⟨c37,H⟩ | ⟨c37,H⟩
   ·
    refine nB Z (tF c37) (rN 3 Z ?_)
    obtain ⟨rfl,rfl⟩:=Ih H
    exact G.Iq _ _ func19 Z Z Z ⟨_,_,Z,(HS.pk 2 [1] Z)⟩
   refine yB Z (tT c37) (rN 3 Z ?_)
   obtain ⟨c38,H⟩:=iN H
   obtain ⟨e39,h40,H⟩:=Jb H
   obtain ⟨c46,H⟩:=iN H
   refine rG (pS 3 Z (iX Z U46 xR (rk (ro 0 Z) HS) c38 (GO.fld (ea A6 (a1.toNat * 2)) Z Z jK Z Z (GO.Dm (T:=Er) (n:=a1.toNat) (o:=0) HS (ro 0 Z) Z Z (I9 (ltN c38) h40) Z Z na2 Z (GO.Ey (el:=2) ([I e39.Rank]) HS Z Z (fun _=>by kernel_rfl) Z fun b41 wd42 HS=>GO.app1 (T:=(Ad .i64)) (j:=2) (jb:=0) e39.Rank HS Z Z Au Z Z Z U26 K7 Z Z Z c46 Z fun A44 c45 wd43 HS=>aS Z (nL (rN 3 Z (gW (i1 f1 (lR _) _ _ _ _ _ H (HS.pk 3 [1,2] Z)) Z))))))))
  exact gW (h1 K (lR _) _ _ _ _ _ H (HS.pk 3 [1,0] Z)) Z
theorem Dr.calls {c1:List (List Av)} {y_a:Nat→(Ty.slice 83 Az).Lay} {r1:List Int} {r2:Int} (HS:St w0 w (L)) (r_a:Cf w0 L (Ty.slice 83 Az) A_a c_a y_a c1) (H:Dr.f K c1=some (r1,r2)) :
    Calls prog 20 #[.agg [sV A_a c1 c_a].toArray] w (Dr.post w0 L r1 r2):=by
  unfold Dr.f at H
  refine cG func20 Z ?_
  refine sQ (rG (bA HS Z fun b1 wd2 HS=>pS 2 Z (nL (sQ ?_))))
  obtain ⟨t3,t4,h5,H⟩:=Cz H
  refine rG (lW 0 HS Z Jf (fJ yF Z (Eh.calls HS (rD 1 r_a) h5) (fun _ wd9 ⟨A6,c7,y8,h10,HS⟩=>⟨_,h10,(pS 5 Z (nL (rN 4 Z (rG (mV Z (lS Z Z U46 Z (mV Z (nL (rN 2 Z ?_)))))))))⟩)))
  refine G.name (fun h1 f1=>?_)
  have g1:∀ d1,d1≤K→∀ (A24:Option Addr) (c25:Nat) (a1:List Int) (x27:Int) (w:World),Dr.l1 K d1 t3 t4 a1 x27=some (r1,r2)→St w0 w (Own (Ad .i64) 2 A24 c25 uu a1::Own Er 28 A6 c7 y8 t3::L)→G prog 20 28 [(5,I t4),(6,sV A24 a1 c25),(14,sV A6 t3 c7),(15,I (t3.length:Int)),(16,I x27)] h1 w (Dr.post w0 L r1 r2):=by
   refine lp (fun _ _ _ _ w H _=>by rw [Dr.l1] at H; cases H) fun e1 k1 i1 A24 c25 a1 x27 w H HS=>?_
   rw [Dr.l1] at H
   subst f1
   refine rN 3 Z ?_
   rcases iS H with ⟨c41,H⟩ | ⟨c41,H⟩
   ·
    refine nB Z (tF c41) (rN 3 Z ?_)
    obtain ⟨rfl,rfl⟩:=Ih H
    exact G.Iq _ _ func20 Z Z Z ⟨_,_,Z,(HS.pk 2 [0] Z)⟩
   refine yB Z (tT c41) (rN 4 Z ?_)
   obtain ⟨c42,H⟩:=iN H
   obtain ⟨e43,h44,H⟩:=Jb H
   refine rG (iX Z U46 xR (rk (ro 1 Z) HS) c42 (GO.Lc (T:=Er) (n:=x27.toNat) HS (ro 1 Z) Z Z (I9 (ltN c42) h44) J7 Z (GO.alloc HS Z cZ Z Z fun b45 wd46 HS=>sW 0 HS Z J7 Z fun wd47 HS=>nL ?_)))
   obtain ⟨c53,H⟩:=iN H
   refine rG (mV Z (fL b45 0 jK Z (lB 0 HS Z na2 Z (GO.Ey (el:=2) ([I e43.Rank]) HS Z Z (fun _=>by kernel_rfl) Z fun b48 wd49 HS=>GO.app1 (T:=(Ad .i64)) (j:=2) (jb:=0) e43.Rank HS Z Z Au Z Z Z U26 K7 Z Z Z c53 Z fun A51 c52 wd50 HS=>aS Z (nL (rN 3 Z (gW (i1 e1 (lR _) _ _ _ _ _ H (HS.pk 4 [2,3] Z)) Z)))))))
  replace HS:=HS.Hr (Ad .i64) 2 uu
  exact gW (g1 K (lR _) _ _ _ _ _ H (HS.pk 3 [0,1] Z)) Z
theorem Gq.calls {a1:List (List Av)} {y_a:Nat→(Ty.slice 129 Az).Lay} {r1:Bool} (HS:St w0 w (L)) (r_a:Cf w0 L (Ty.slice 129 Az) A_a c_a y_a a1) (H:Gq.f K a1=some r1) :
    Calls prog 5 #[.agg [sV A_a a1 c_a].toArray] w (Gq.post w0 L r1):=by
  unfold Gq.f at H
  refine cG func5 Z ?_
  refine sQ (rG (bA HS Z fun b1 wd2 HS=>aS Z (nL (rN 3 Z ?_))))
  obtain ⟨t3,h4,H⟩:=bI H
  refine rG (lW 0 HS Z iT (mV Z (fJ Aac Z (Gx.calls HS (rD 1 r_a) h4) (fun _ wd5 ⟨h6,HS⟩=>⟨_,h6,(aS Z (nL (rN 3 Z ?_)))⟩))))
  rcases iE H with ⟨c7,H⟩ | ⟨c7,H⟩
  ·
   refine yB Z (tT c7) (rN 2 Z ?_)
   obtain rfl:=sI H
   exact rT _ func5 Z Z ⟨Z,(HS.pk 1 [] Z)⟩
  refine nB Z (tF c7) (rN 2 Z ?_)
  obtain ⟨t8,h9,H⟩:=bI H
  obtain ⟨t15,t16,h17,H⟩:=Cz H
  refine rG (lW 0 HS Z iT (fJ eX Z (Ew.calls HS (rD 1 r_a) h9) (fun _ wd13 ⟨A10,c11,y12,h14,HS⟩=>⟨_,h14,(fJ yR Z (Eg.calls HS (ro 0 Z) h17) (fun _ wd20 ⟨A18,c19,h21,HS⟩=>⟨_,h21,(pS 5 Z (nL (sQ ?_)))⟩))⟩)))
  obtain ⟨t22,h23,H⟩:=bI H
  refine rG (lW 2 HS Z iT (fJ eX Z (Ew.calls HS (rD 3 r_a) h23) (fun _ wd27 ⟨A24,c25,y26,h28,HS⟩=>⟨_,h28,(GO.alloc HS Z uA Z Z fun b29 wd30 HS=>sW 0 HS Z Jf Z fun wd31 HS=>nL (sQ ?_))⟩)))
  obtain ⟨t32,t33,h34,H⟩:=Cz H
  refine rG (lW 0 HS Z Jf (fJ qK Z (Dr.calls HS (ro 1 Z) h34) (fun _ wd37 ⟨A35,c36,h38,HS⟩=>⟨_,h38,(pS 5 Z (nL (rN 2 Z ?_)))⟩)))
  obtain ⟨t44,h45,H⟩:=bI H
  rcases iS H with ⟨c48,H⟩ | ⟨c48,H⟩
  ·
   refine rG (pS 2 Z (fJ Wx Z (Ee.calls HS (ro 0 Z) (ro 3 Z) h45) (fun _ wd46 ⟨h47,HS⟩=>⟨_,h47,(pS 2 Z (kN 36 Z (congrArg Bool.not (Cw c48)) (oF Z (oF Z (oF Z (GO.Gu Z Z Z Z Z (nL (rN 3 Z ?_))))))))⟩)))
   obtain rfl:=sI H
   exact rT _ func5 Z Z ⟨Z,(HS.pk 6 [] Z)⟩
  refine rG (pS 2 Z (fJ Wx Z (Ee.calls HS (ro 0 Z) (ro 3 Z) h45) (fun _ wd46 ⟨h47,HS⟩=>⟨_,h47,(pS 2 Z (kN 36 Z (congrArg Bool.not c48) (oN Z (mV Z (bK (oN Z (mV Z (bK (oN Z (GO.neq Z Z Z Z (bK (GO.Hq Z Z Z Z Z ?_))))))))))))⟩)))
  refine nL ?_
  rcases iS H with ⟨c49,H⟩ | ⟨c49,H⟩
  ·
   refine yB Z (nF c49) (rN 2 Z ?_)
   obtain rfl:=sI H
   exact rT _ func5 Z Z ⟨Z,(HS.pk 6 [] Z)⟩
  refine nB Z (nT c49) (rN 3 Z ?_)
  obtain ⟨t50,h51,H⟩:=bI H
  obtain ⟨t57,h58,H⟩:=bI H
  refine G.Jc mixed (fun w=>St w0 w (Box b29 33 [sV A24 t22 c25]::Box b1 24 [sV A_a a1 c_a]::L)) [0,1] [0,1,2,3,4] [] (by kernel_rfl) (by kernel_rfl) (HS.drew.pk 6 [1,5] Z) ?_
  replace HS:=HS.drew
  refine GX.ls Z Z Z (HS.pk 6 [1,5] Z) (fun _ HS _ g=>lW 0 HS Z Jf g) Z (GX.ls Z Z Z (HS.pk 6 [1,5] Z) (fun _ HS _ g=>lW 1 HS Z iT g) Z (GX.l2 Z (fJ eX Z (Ew.calls HS (rD 6 r_a) h51) (fun _ wd55 ⟨A52,c53,y54,h56,HS⟩=>⟨_,h56,(GX.fin (HS.pk 7 [2,6] Z) (GX.l2 Z (fJ yI Z (Hl.calls HS (ro 3 Z) (ro 0 Z) h58) (fun _ wd59 ⟨h60,HS⟩=>⟨_,h60,(GX.fin (HS.pk 7 [2,6] Z) (GX.ps 1 Z (GX.nil ?_)))⟩))))⟩))))
  rcases iS H with ⟨c61,H⟩ | ⟨c61,H⟩
  ·
   refine yB Z (congrArg Bool.not (Cw c61)) (rN 2 Z ?_)
   obtain rfl:=sI H
   exact rT _ func5 Z Z ⟨Z,(HS.pk 7 [] Z)⟩
  refine nB Z (congrArg Bool.not c61) (rN 4 Z ?_)
  obtain ⟨t62,t63,h64,H⟩:=Cz H
  obtain ⟨c65,H⟩:=iN H
  refine rG (lW 2 HS Z Jf (mV Z ?_))
  replace HS:=HS.pk 7 [3,0,1,2,4,5,6] Z
  refine fJ wV Z (Gy.calls HS  h64) (fun _ wd66 ⟨h67,HS⟩=>⟨_,h67,(aS Z (nL ?_))⟩)
  replace HS:=HS.F6 (j:=3) (cs':=[sV A24 t63 c25]) Z (by simp only [sV,List.length_set,c65] <;> rfl)
  refine rN 2 Z ?_
  rcases iE H with ⟨c74,H⟩ | ⟨c74,H⟩
  ·
   refine rG (pS 3 Z (kN 51 Z (tT c74) (oF Z (oF Z (oF Z (oF Z (pS 2 Z (oF Z (oF Z (oF Z (GO.Gu Z Z Z Z Z (nL (rN 3 Z ?_)))))))))))))
   obtain rfl:=sI H
   exact rT _ func5 Z Z ⟨Z,(HS.pk 7 [] Z)⟩
  obtain ⟨t75,h76,H⟩:=bI H
  rcases iS H with ⟨c79,H⟩ | ⟨c79,H⟩
  ·
   refine rG (pS 3 Z (kN 51 Z (tF c74) (oN Z (mV Z (bK (oN Z (mV Z (bK (oN Z (fJ Wx Z (Ee.calls HS (ro 2 Z) (ro 4 Z) h76) (fun _ wd77 ⟨h78,HS⟩=>⟨_,h78,(bK (oN Z (GO.not Z Z Z (bK ?_))))⟩)))))))))))
   refine pS 2 Z (kN 57 Z (congrArg Bool.not (Cw c79)) (oF Z (oF Z (oF Z (GO.Gu Z Z Z Z Z (nL (rN 3 Z ?_)))))))
   obtain rfl:=sI H
   exact rT _ func5 Z Z ⟨Z,(HS.pk 7 [] Z)⟩
  refine rG (pS 3 Z (kN 51 Z (tF c74) (oN Z (mV Z (bK (oN Z (mV Z (bK (oN Z (fJ Wx Z (Ee.calls HS (ro 2 Z) (ro 4 Z) h76) (fun _ wd77 ⟨h78,HS⟩=>⟨_,h78,(bK (oN Z (GO.not Z Z Z (bK ?_))))⟩)))))))))))
  refine pS 2 Z (kN 57 Z (congrArg Bool.not c79) (oN Z (mV Z (bK (oN Z (mV Z (bK (oN Z (GO.neq Z Z Z Z (bK (GO.Hq Z Z Z Z Z (nL (nB Z (nT c49) (rN 4 Z ?_))))))))))))))
  obtain ⟨t80,t81,h82,H⟩:=Cz H
  obtain ⟨c83,H⟩:=iN H
  refine rG (pS 2 Z ?_)
  replace HS:=HS.pk 7 [2,0,1,3,4,5,6] Z
  refine fJ yO Z (Ep.calls HS  h82) (fun _ wd84 ⟨h85,HS⟩=>⟨_,h85,(aS Z (nL (G.len (t:=7) (m:=t81.length) Z (by simp only [List.length_set,c83] <;> rfl) (rN 3 Z ?_))))⟩)
  obtain ⟨t86,h87,H⟩:=bI H
  refine rG (pS 2 Z (fJ pM Z (Ea.calls HS (ro 0 Z) h87) (fun _ wd88 ⟨h89,HS⟩=>⟨_,h89,(aS Z (nL (rN 3 Z ?_)))⟩)))
  rcases iE H with ⟨c90,H⟩ | ⟨c90,H⟩
  ·
   refine yB Z (tT c90) (rN 2 Z ?_)
   obtain rfl:=sI H
   exact rT _ func5 Z Z ⟨Z,(HS.pk 7 [] Z)⟩
  refine nB Z (tF c90) (rN 4 Z ?_)
  rcases iS H with ⟨c91,H⟩ | ⟨c91,H⟩
  ·
   refine yB Z (nF c91) (rN 2 Z ?_)
   obtain rfl:=sI H
   exact rT _ func5 Z Z ⟨Z,(HS.pk 7 [] Z)⟩
  refine nB Z (nT c91) (rN 2 Z ?_)
  obtain ⟨t92,h93,H⟩:=bI H
  obtain ⟨t99,t100,h101,H⟩:=Cz H
  refine rG (lW 6 HS Z iT (fJ eX Z (Ew.calls HS (rD 7 r_a) h93) (fun _ wd97 ⟨A94,c95,y96,h98,HS⟩=>⟨_,h98,(fJ qK Z (Dr.calls HS (ro 0 Z) h101) (fun _ wd104 ⟨A102,c103,h105,HS⟩=>⟨_,h105,(pS 5 Z (nL (rN 2 Z ?_)))⟩))⟩)))
  obtain ⟨t111,h112,H⟩:=bI H
  rcases iS H with ⟨c115,H⟩ | ⟨c115,H⟩
  ·
   refine rG (pS 2 Z (fJ Wx Z (Ee.calls HS (ro 0 Z) (ro 6 Z) h112) (fun _ wd113 ⟨h114,HS⟩=>⟨_,h114,(pS 2 Z (kN 83 Z (congrArg Bool.not (Cw c115)) (oF Z (oF Z (oF Z (GO.Gu Z Z Z Z Z (nL (rN 3 Z ?_))))))))⟩)))
   obtain rfl:=sI H
   exact rT _ func5 Z Z ⟨Z,(HS.pk 9 [] Z)⟩
  refine rG (pS 2 Z (fJ Wx Z (Ee.calls HS (ro 0 Z) (ro 6 Z) h112) (fun _ wd113 ⟨h114,HS⟩=>⟨_,h114,(pS 2 Z (kN 83 Z (congrArg Bool.not c115) (oN Z (mV Z (bK (oN Z (mV Z (bK (oN Z (GO.neq Z Z Z Z (bK (GO.Hq Z Z Z Z Z ?_))))))))))))⟩)))
  refine nL ?_
  rcases iS H with ⟨c116,H⟩ | ⟨c116,H⟩
  ·
   refine yB Z (nF c116) (rN 2 Z ?_)
   obtain rfl:=sI H
   exact rT _ func5 Z Z ⟨Z,(HS.pk 9 [] Z)⟩
  refine nB Z (nT c116) (rN 4 Z ?_)
  obtain ⟨t117,h118,H⟩:=bI H
  refine rG (pS 2 Z (fJ pM Z (Ea.calls HS (ro 2 Z) h118) (fun _ wd119 ⟨h120,HS⟩=>⟨_,h120,(aS Z (nL (rN 3 Z ?_)))⟩)))
  rcases iE H with ⟨c121,H⟩ | ⟨c121,H⟩
  ·
   refine yB Z (tT c121) (rN 2 Z ?_)
   obtain rfl:=sI H
   exact rT _ func5 Z Z ⟨Z,(HS.pk 9 [] Z)⟩
  refine nB Z (tF c121) (rN 4 Z ?_)
  rcases iS H with ⟨c122,H⟩ | ⟨c122,H⟩
  ·
   refine yB Z (nF c122) (rN 2 Z ?_)
   obtain rfl:=sI H
   exact rT _ func5 Z Z ⟨Z,(HS.pk 9 [] Z)⟩
  refine nB Z (nT c122) (rN 3 Z ?_)
  obtain rfl:=sI H
  exact rT _ func5 Z Z ⟨Z,(HS.pk 9 [] Z)⟩
end Go.Proofs.YtgkgmhkgahalgaaGreat
