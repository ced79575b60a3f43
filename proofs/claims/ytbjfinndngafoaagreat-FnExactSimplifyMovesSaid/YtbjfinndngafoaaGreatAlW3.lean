/-
  The walks through the functions: a call comes to what its list function says.
-/
import Derived.Test.YtbjfinndngafoaaGreatAlF
import Derived.Test.YtbjfinndngafoaaGreatAlW1
import Derived.Test.YtbjfinndngafoaaGreatAlW2
set_option linter.unusedVariables false
set_option linter.unusedSimpArgs false
namespace Go.Proofs.YtbjfinndngafoaaGreat
open Go.RowKit
open Tryz
variable {w0 w:World} {L:List Cy} {K:Nat} {A_a A_b A_c A_d A_e A_f A_g A_h A_i A_j A_k A_l A_m A_n A_o A_p A_q A_r A_s A_t A_u A_v A_w A_x A_y A_z:Option Addr} {c_a c_b c_c c_d c_e c_f c_g c_h c_i c_j c_k c_l c_m c_n c_o c_p c_q c_r c_s c_t c_u c_v c_w c_x c_y c_z:Nat}
set_option maxRecDepth 20000
set_option maxHeartbeats 40000000
theorem H6.calls {c1:List (List Ab)} {d1 a1 e1:Int} {y_a:Nat→(Ty.slice 107 Ad).Lay} {r1:List Int} {r2:List (List Ab)} {r3:List Av} {r4:Int} (HS:St w0 w (L)) (r_a:Ce w0 L (Ty.slice 107 Ad) A_a c_a y_a c1) (H:H6.f K c1 d1 a1 e1=some (r1,r2,r3,r4)) :
    Calls prog 40 #[.agg [sV A_a c1 c_a].toArray,.agg [I d1,I a1,I e1].toArray] w (H6.post w0 L r1 r2 r3 r4):=by
  unfold H6.f at H
  refine cG func40 Z ?_
  refine sQ (rG (bA HS Z fun b1 wd2 HS=>bA HS Z fun b3 wd4 HS=>GO.alloc HS Z Qr Z Z fun b5 wd6 HS=>aS Z (nL (rN 2 Z ?_))))
  obtain ⟨t7,h8,H⟩:=bI H
  refine rG (lW 2 HS Z Dq (fJ aQ Z (Aj.calls HS (rD 3 r_a) h8) (fun _ wd9 ⟨h10,HS⟩=>⟨_,h10,(GO.not Z Z Z (nL ?_))⟩)))
  rcases iS H with ⟨c11,H⟩ | ⟨c11,H⟩
  ·
   refine yB Z (congrArg Bool.not (Db c11)) (sQ (rG (GO.Dr (.agg [.slice none 0 0,.slice none 0 0,.slice none 0 0].toArray) Z Z (fun _=>by kernel_rfl) Z (sW 0 HS Z Ht Z fun wd82 HS=>aS Z (nL ?_)))))
   replace HS:=HS.Dm (Ar .i64) 2 uu
   replace HS:=HS.Dm (Ty.slice 107 Ad) 77 (fun _=>⟨none,0,uu⟩)
   replace HS:=HS.Dm Ci 122 uu
   obtain ⟨rfl,rfl,rfl,rfl⟩:=I8 H
   exact G.Hy _ _ func40 Z (Gz.Hu (j:=3) (vs:=[.slice none 0 0,.slice none 0 0,.slice none 0 0]) HS Z Z Z Ht) Z ⟨_,_,_,_,_,_,_,Z,(HS.pk 6 [2,1,0] Z)⟩
  refine nB Z (congrArg Bool.not c11) (rN 3 Z ?_)
  obtain ⟨t34,h35,H⟩:=bI H
  rcases iE H with ⟨c38,H⟩ | ⟨c38,H⟩
  ·
   refine G.H8 mixed (fun w=>St w0 w (Box b3 33 [I d1,I a1,I e1]::L)) [1,6,7,15,17] [0,1,2,3,4,5,6,7,8,9,10,11,12,13,14,16,15,17,18,19,20,21] [] (by kernel_rfl) (by kernel_rfl) (HS.drew.pk 3 [1] Z) ?_
   replace HS:=HS.drew
   refine qL Z Z (fun _ _ g=>fL b3 0 Kn Z g) Z (GX.ls Z Z Z (HS.pk 3 [1] Z) (fun _ HS _ g=>lB 0 HS Z na2 Z g) Z (GX.l2 Z (fJ Y0 Z (E9.calls HS  h35) (fun _ wd36 ⟨h37,HS⟩=>⟨_,h37,(GX.fin (HS.pk 3 [1] Z) (GX.ps 1 Z (qL Z Z (fun _ _ g=>mV Z (kN 16 Z (tT c38) g)) Z (qL Z Z (fun _ _ g=>oF Z g) Z (GX.ls Z Z Z (HS.pk 3 [1] Z) (fun _ HS _ g=>oF Z g) Z (GX.ls Z Z Z (HS.pk 3 [1] Z) (fun _ HS _ g=>oF Z g) Z (GX.l2 Z (oF Z (GX.fin (HS.pk 3 [1] Z) (qL Z Z (fun _ _ g=>oF Z g) Z (GX.l2 Z ?_)))))))))))⟩))))
   refine oF Z (GX.fin (HS.pk 3 [1] Z) (qL Z Z (fun _ _ g=>oF Z g) Z (GX.ps 2 Z (qL Z Z (fun _ _ g=>oF Z g) Z (qL Z Z (fun _ _ g=>oF Z g) Z (GX.ls Z Z Z (HS.pk 3 [1] Z) (fun _ HS _ g=>oF Z g) Z (GX.ls Z Z Z (HS.pk 3 [1] Z) (fun _ HS _ g=>oF Z g) Z (GX.l2 Z (oF Z (GX.fin (HS.pk 3 [1] Z) (GX.l2 Z (oF Z (GX.fin (HS.pk 3 [1] Z) (qL Z Z (fun _ _ g=>oF Z g) Z ?_))))))))))))))
   refine GX.ps 1 Z (GX.nil (rN 2 Z (rG (GO.Dr (.agg [.slice none 0 0,.slice none 0 0,.slice none 0 0].toArray) Z Z (fun _=>by kernel_rfl) Z (sW 0 HS Z Ht Z fun wd39 HS=>aS Z (nL ?_))))))
   replace HS:=HS.Dm (Ar .i64) 2 uu
   replace HS:=HS.Dm (Ty.slice 107 Ad) 77 (fun _=>⟨none,0,uu⟩)
   replace HS:=HS.Dm Ci 122 uu
   obtain ⟨rfl,rfl,rfl,rfl⟩:=I8 H
   exact G.Hy _ _ func40 Z (Gz.Hu (j:=3) (vs:=[.slice none 0 0,.slice none 0 0,.slice none 0 0]) HS Z Z Z Ht) Z ⟨_,_,_,_,_,_,_,Z,(HS.pk 6 [2,1,0] Z)⟩
  obtain ⟨t40,h41,H⟩:=bI H
  obtain ⟨t44,h45,H⟩:=bI H
  rcases iS H with ⟨c48,H⟩ | ⟨c48,H⟩
  ·
   refine G.H8 mixed (fun w=>St w0 w (Box b3 33 [I d1,I a1,I e1]::Box b1 31 [sV A_a c1 c_a]::L)) [1,6,7,15,17] [0,1,2,3,4,5,6,7,8,9,10,11,12,13,14,16,15,17,18,19,20,21] [] (by kernel_rfl) (by kernel_rfl) (HS.drew.pk 3 [1,2] Z) ?_
   replace HS:=HS.drew
   refine qL Z Z (fun _ _ g=>fL b3 0 Kn Z g) Z (GX.ls Z Z Z (HS.pk 3 [1,2] Z) (fun _ HS _ g=>lB 0 HS Z na2 Z g) Z (GX.l2 Z (fJ Y0 Z (E9.calls HS  h35) (fun _ wd36 ⟨h37,HS⟩=>⟨_,h37,(GX.fin (HS.pk 3 [1,2] Z) (GX.ps 1 Z (qL Z Z (fun _ _ g=>mV Z (kN 16 Z (tF c38) g)) Z (qL Z Z (fun _ _ g=>oN Z (fL b3 1 Ja Z (bK g))) Z (GX.ls Z Z Z (HS.pk 3 [1,2] Z) (fun _ HS _ g=>oN Z (lB 0 HS Z na2 Z (bK g))) Z (GX.ls Z Z Z (HS.pk 3 [1,2] Z) (fun _ HS _ g=>oN Z (lW 1 HS Z Dq (bK g))) Z (GX.l2 Z (oN Z (fJ Og Z (Cs.calls HS (rD 3 r_a) h41) (fun _ wd42 ⟨h43,HS⟩=>⟨_,h43,(bK (GX.fin (HS.pk 3 [1,2] Z) ?_))⟩))))))))))⟩))))
   refine qL Z Z (fun _ _ g=>oN Z (GO.sub Z Z Z Z (bK g))) Z (GX.l2 Z (oN Z (fJ X9 Z (Ia.calls HS  h45) (fun _ wd46 ⟨h47,HS⟩=>⟨_,h47,(bK (GX.fin (HS.pk 3 [1,2] Z) (qL Z Z (fun _ _ g=>oN Z (GO.not Z Z Z (bK g))) Z (GX.ps 1 Z (qL Z Z (fun _ _ g=>mV Z (kN 25 Z (congrArg Bool.not (Db c48)) g)) Z (qL Z Z (fun _ _ g=>oF Z g) Z (qL Z Z (fun _ _ g=>oF Z g) Z (GX.ls Z Z Z (HS.pk 3 [1,2] Z) (fun _ HS _ g=>oF Z g) Z (GX.ls Z Z Z (HS.pk 3 [1,2] Z) (fun _ HS _ g=>oF Z g) Z (GX.l2 Z (oF Z ?_)))))))))))⟩))))
   refine GX.fin (HS.pk 3 [1,2] Z) (GX.l2 Z (oF Z (GX.fin (HS.pk 3 [1,2] Z) (qL Z Z (fun _ _ g=>oF Z g) Z (GX.ps 1 Z (GX.nil (rN 2 Z (rG (GO.Dr (.agg [.slice none 0 0,.slice none 0 0,.slice none 0 0].toArray) Z Z (fun _=>by kernel_rfl) Z (sW 0 HS Z Ht Z fun wd81 HS=>aS Z (nL ?_)))))))))))
   replace HS:=HS.Dm (Ar .i64) 2 uu
   replace HS:=HS.Dm (Ty.slice 107 Ad) 77 (fun _=>⟨none,0,uu⟩)
   replace HS:=HS.Dm Ci 122 uu
   obtain ⟨rfl,rfl,rfl,rfl⟩:=I8 H
   exact G.Hy _ _ func40 Z (Gz.Hu (j:=3) (vs:=[.slice none 0 0,.slice none 0 0,.slice none 0 0]) HS Z Z Z Ht) Z ⟨_,_,_,_,_,_,_,Z,(HS.pk 6 [2,1,0] Z)⟩
  obtain ⟨t49,h50,H⟩:=bI H
  obtain ⟨t53,h54,H⟩:=bI H
  refine G.H8 mixed (fun w=>St w0 w (Box b3 33 [I d1,I a1,I e1]::Box b1 31 [sV A_a c1 c_a]::L)) [1,6,7,15,17] [0,1,2,3,4,5,6,7,8,9,10,11,12,13,14,16,15,17,18,19,20,21] [] (by kernel_rfl) (by kernel_rfl) (HS.drew.pk 3 [1,2] Z) ?_
  replace HS:=HS.drew
  refine qL Z Z (fun _ _ g=>fL b3 0 Kn Z g) Z (GX.ls Z Z Z (HS.pk 3 [1,2] Z) (fun _ HS _ g=>lB 0 HS Z na2 Z g) Z (GX.l2 Z (fJ Y0 Z (E9.calls HS  h35) (fun _ wd36 ⟨h37,HS⟩=>⟨_,h37,(GX.fin (HS.pk 3 [1,2] Z) (GX.ps 1 Z (qL Z Z (fun _ _ g=>mV Z (kN 16 Z (tF c38) g)) Z (qL Z Z (fun _ _ g=>oN Z (fL b3 1 Ja Z (bK g))) Z (GX.ls Z Z Z (HS.pk 3 [1,2] Z) (fun _ HS _ g=>oN Z (lB 0 HS Z na2 Z (bK g))) Z (GX.ls Z Z Z (HS.pk 3 [1,2] Z) (fun _ HS _ g=>oN Z (lW 1 HS Z Dq (bK g))) Z (GX.l2 Z (oN Z (fJ Og Z (Cs.calls HS (rD 3 r_a) h41) (fun _ wd42 ⟨h43,HS⟩=>⟨_,h43,(bK (GX.fin (HS.pk 3 [1,2] Z) ?_))⟩))))))))))⟩))))
  refine qL Z Z (fun _ _ g=>oN Z (GO.sub Z Z Z Z (bK g))) Z (GX.l2 Z (oN Z (fJ X9 Z (Ia.calls HS  h45) (fun _ wd46 ⟨h47,HS⟩=>⟨_,h47,(bK (GX.fin (HS.pk 3 [1,2] Z) (qL Z Z (fun _ _ g=>oN Z (GO.not Z Z Z (bK g))) Z (GX.ps 1 Z (qL Z Z (fun _ _ g=>mV Z (kN 25 Z (congrArg Bool.not c48) g)) Z (qL Z Z (fun _ _ g=>oN Z (fL b3 2 Kc Z (bK g))) Z (qL Z Z (fun _ _ g=>oN Z (fL b3 0 Kn Z (bK g))) Z (GX.ls Z Z Z (HS.pk 3 [1,2] Z) (fun _ HS _ g=>oN Z (lB 0 HS Z na2 Z (bK g))) Z (GX.ls Z Z Z (HS.pk 3 [1,2] Z) (fun _ HS _ g=>oN Z (lB 0 HS Z na2 Z (bK g))) Z (GX.l2 Z (oN Z ?_)))))))))))⟩))))
  refine fJ Y0 Z (E9.calls HS  h50) (fun _ wd51 ⟨h52,HS⟩=>⟨_,h52,(bK (GX.fin (HS.pk 3 [1,2] Z) (GX.l2 Z (oN Z (fJ X9 Z (Ia.calls HS  h54) (fun _ wd55 ⟨h56,HS⟩=>⟨_,h56,(bK (GX.fin (HS.pk 3 [1,2] Z) (qL Z Z (fun _ _ g=>oN Z (GO.not Z Z Z (bK g))) Z (GX.ps 1 Z (GX.nil ?_)))))⟩))))))⟩)
  rcases iS H with ⟨c57,H⟩ | ⟨c57,H⟩
  ·
   refine yB Z (congrArg Bool.not (Db c57)) (sQ (rG (GO.Dr (.agg [.slice none 0 0,.slice none 0 0,.slice none 0 0].toArray) Z Z (fun _=>by kernel_rfl) Z (sW 0 HS Z Ht Z fun wd80 HS=>aS Z (nL ?_)))))
   replace HS:=HS.Dm (Ar .i64) 2 uu
   replace HS:=HS.Dm (Ty.slice 107 Ad) 77 (fun _=>⟨none,0,uu⟩)
   replace HS:=HS.Dm Ci 122 uu
   obtain ⟨rfl,rfl,rfl,rfl⟩:=I8 H
   exact G.Hy _ _ func40 Z (Gz.Hu (j:=3) (vs:=[.slice none 0 0,.slice none 0 0,.slice none 0 0]) HS Z Z Z Ht) Z ⟨_,_,_,_,_,_,_,Z,(HS.pk 6 [2,1,0] Z)⟩
  refine nB Z (congrArg Bool.not c57) (rN 2 Z ?_)
  obtain ⟨t58,t59,t60,t61,h62,H⟩:=D8 H
  refine rG (lW 2 HS Z Dq (lW 1 HS Z Lb (fJ uW Z (Ig.calls HS (rD 3 r_a) h62) (fun _ wd70 ⟨A63,c64,A65,c66,y67,A68,c69,h71,HS⟩=>⟨_,h71,(pS 3 Z (GO.alloc HS Z Qr Z Z fun b72 wd73 HS=>sW 0 HS Z Ht Z fun wd74 HS=>aS Z (nL (rN 3 Z ?_))))⟩))))
  rcases iS H with ⟨c75,H⟩ | ⟨c75,H⟩
  ·
   refine yB Z (congrArg Bool.not (Db c75)) (sQ (rG (GO.Dr (.agg [.slice none 0 0,.slice none 0 0,.slice none 0 0].toArray) Z Z (fun _=>by kernel_rfl) Z (sW 4 HS Z Ht Z fun wd79 HS=>aS Z (nL ?_)))))
   replace HS:=HS.Dm (Ar .i64) 2 uu
   replace HS:=HS.Dm (Ty.slice 107 Ad) 77 (fun _=>⟨none,0,uu⟩)
   replace HS:=HS.Dm Ci 122 uu
   obtain ⟨rfl,rfl,rfl,rfl⟩:=I8 H
   exact G.Hy _ _ func40 Z (Gz.Hu (j:=7) (vs:=[.slice none 0 0,.slice none 0 0,.slice none 0 0]) HS Z Z Z Ht) Z ⟨_,_,_,_,_,_,_,Z,(HS.pk 10 [2,1,0] Z)⟩
  refine nB Z (congrArg Bool.not c75) (rN 3 Z (rG (fL b1 0 Du Z (lB 6 HS Z Gu Z (lS Z Z U29 Z (fL b72 0 P8 Z (lB 0 HS Z Ih Z (lS Z Z U56 Z (GO.sub Z Z Z Z (fL b72 1 N8 Z (lB 0 HS Z Gu Z (lS Z Z U29 Z (pS 2 Z (nL ?_))))))))))))))
  rcases iS H with ⟨c76,H⟩ | ⟨c76,H⟩
  ·
   refine nB Z (tF c76) (rN 2 Z (rG (lW 0 HS Z Ht (sW 4 HS Z Ht Z fun wd78 HS=>aS Z (nL ?_)))))
   obtain ⟨rfl,rfl,rfl,rfl⟩:=I8 H
   exact G.Hy _ _ func40 Z (Gz.Hu (j:=4) (vs:=[sV A63 t58 c64,sV A65 t59 c66,sV A68 t60 c69]) HS Z Z Z Ht) Z ⟨_,_,_,_,_,_,_,Z,(HS.pk 7 [1,2,3] Z)⟩
  refine yB Z (tT c76) (sQ (rG (GO.Dr (.agg [.slice none 0 0,.slice none 0 0,.slice none 0 0].toArray) Z Z (fun _=>by kernel_rfl) Z (sW 4 HS Z Ht Z fun wd77 HS=>aS Z (nL ?_)))))
  replace HS:=HS.Dm (Ar .i64) 2 uu
  replace HS:=HS.Dm (Ty.slice 107 Ad) 77 (fun _=>⟨none,0,uu⟩)
  replace HS:=HS.Dm Ci 122 uu
  obtain ⟨rfl,rfl,rfl,rfl⟩:=I8 H
  exact G.Hy _ _ func40 Z (Gz.Hu (j:=7) (vs:=[.slice none 0 0,.slice none 0 0,.slice none 0 0]) HS Z Z Z Ht) Z ⟨_,_,_,_,_,_,_,Z,(HS.pk 10 [2,1,0] Z)⟩
theorem Fy.calls {faces:List Ab} {r1:Bool} (HS:St w0 w (L)) (r_a:Ce w0 L Ad A_a c_a uu faces) (H:Fy.f faces=some r1) :
    Calls prog 68 #[sV A_a faces c_a] w (Fy.post w0 L r1):=by
  unfold Fy.f at H
  refine cG func68 Z ?_
  refine rN 3 Z (rG (mV Z (lS Z Z U77 Z (pS 2 Z (nL ?_)))))
  obtain rfl:=sI H
  exact rT _ func68 Z Z ⟨Z,HS⟩
theorem Az.calls {s:List (List Ab)} {y_a:Nat→(Ty.slice 107 Ad).Lay} {r1:Int} (HS:St w0 w (L)) (r_a:Ce w0 L (Ty.slice 107 Ad) A_a c_a y_a s) (H:Az.f K s=some r1) :
    Calls prog 108 #[sV A_a s c_a,.func (.func 68) #[] #[]] w (Az.post w0 L r1):=by
  unfold Az.f at H
  refine cG func108 Z ?_
  refine rN 4 Z (rG (mV Z (lS Z Z U29 Z (mV Z (nL (rN 2 Z ?_))))))
  refine G.name (fun e1 c1=>?_)
  have d1:∀ a1,a1≤K→∀ (x8:Int) (w:World),Az.l1 K a1 s x8=some r1→St w0 w (L)→G prog 108 19 [(0,sV A_a s c_a),(1,.func (.func 68) #[] #[]),(7,I (s.length:Int)),(8,I x8)] e1 w (Az.post w0 L r1):=by
   refine lp (fun _ w H _=>by rw [Az.l1] at H; cases H) fun b1 g1 f1 x8 w H HS=>?_
   rw [Az.l1] at H
   subst c1
   refine rN 3 Z ?_
   rcases iS H with ⟨c16,H⟩ | ⟨c16,H⟩
   ·
    refine nB Z (tF c16) (rN 3 Z ?_)
    obtain rfl:=sI H
    exact rT _ func108 Z Z ⟨Z,HS⟩
   refine yB Z (tT c16) (rN 6 Z ?_)
   obtain ⟨c17,H⟩:=iN H
   obtain ⟨t18,h19,H⟩:=bI H
   refine rG (pS 3 Z (iX Z U29 Jg (rk r_a HS) c17 (GO.Cj (T:=(Ty.slice 107 Ad)) (n:=x8.toNat) (o:=0) HS r_a Z Z (getD_some (d:=[]) (ltN c17)) Z Z Jh Z (GO.clo Z Z func68 pY.2.1 pY.2.2 Z Z (Fy.calls HS (Ce.elem r_a c17.1 c17.2) h19) (fun _ wd20 ⟨h21,HS⟩=>⟨_,h21,(nL ?_)⟩)))))
   rcases iE H with ⟨c22,H⟩ | ⟨c22,H⟩
   ·
    refine yB Z c22 (rN 2 Z ?_)
    obtain rfl:=sI H
    exact rT _ func108 Z Z ⟨Z,HS⟩
   refine nB Z (Db c22) (rN 4 Z (gW (f1 b1 (lR _) _ _ H HS) Z))
  exact gW (d1 K (lR _) _ _ H HS) Z
theorem Cf.calls {s:List (List Ab)} {y_a:Nat→(Ty.slice 107 Ad).Lay} {r1:Bool} (HS:St w0 w (L)) (r_a:Ce w0 L (Ty.slice 107 Ad) A_a c_a y_a s) (H:Cf.f K s=some r1) :
    Calls prog 67 #[sV A_a s c_a,.func (.func 68) #[] #[]] w (Cf.post w0 L r1):=by
  unfold Cf.f at H
  refine cG func67 Z ?_
  refine rN 3 Z ?_
  obtain ⟨t1,h2,H⟩:=bI H
  refine rG (pS 2 Z (fJ qD Z (Az.calls HS r_a h2) (fun _ wd3 ⟨h4,HS⟩=>⟨_,h4,(pS 2 Z (nL ?_))⟩)))
  obtain rfl:=sI H
  exact rT _ func67 Z Z ⟨Z,HS⟩
theorem Bw.calls {list:List (List Ab)} {y_a:Nat→(Ty.slice 107 Ad).Lay} {r1:Int} (HS:St w0 w (L)) (r_a:Ce w0 L (Ty.slice 107 Ad) A_a c_a y_a list) (H:Bw.f list=some r1) :
    Calls prog 49 #[sV A_a list c_a] w (Bw.post w0 L r1):=by
  unfold Bw.f at H
  refine cG func49 Z ?_
  refine rN 3 Z (rG (mV Z (lS Z Z U29 Z (aS Z (nL ?_)))))
  obtain rfl:=sI H
  exact rT _ func49 Z Z ⟨Z,HS⟩
theorem Hr.calls {x low high:Int} {r1:Bool} (HS:St w0 w (L)) (H:Hr.f x low high=some r1) :
    Calls prog 71 #[I x,I low,I high] w (Hr.post w0 L r1):=by
  unfold Hr.f at H
  refine cG func71 Z ?_
  refine rN 3 Z ?_
  rcases iS H with ⟨c1,H⟩ | ⟨c1,H⟩
  ·
   refine rG (pS 4 Z (kN 10 Z (tF c1) (oF Z (oF Z (oF Z (pS 2 Z (nL ?_)))))))
   obtain rfl:=sI H
   exact rT _ func71 Z Z ⟨Z,HS⟩
  refine rG (pS 4 Z (kN 10 Z (tT c1) (oN Z (mV Z (bK (oN Z (mV Z (bK (oN Z (GO.leq Z Z Z Z (bK (pS 2 Z (nL ?_)))))))))))))
  obtain rfl:=sI H
  exact rT _ func71 Z Z ⟨Z,HS⟩
theorem Dv.calls {list:List (List Ab)} {i:Int} {y_a:Nat→(Ty.slice 107 Ad).Lay} {r1:Bool} (HS:St w0 w (L)) (r_a:Ce w0 L (Ty.slice 107 Ad) A_a c_a y_a list) (H:Dv.f list i=some r1) :
    Calls prog 70 #[sV A_a list c_a,I i] w (Dv.post w0 L r1):=by
  unfold Dv.f at H
  refine cG func70 Z ?_
  refine rN 3 Z ?_
  obtain ⟨t1,h2,H⟩:=bI H
  obtain ⟨t5,h6,H⟩:=bI H
  refine rG (pS 2 Z (fJ O0 Z (Bw.calls HS r_a h2) (fun _ wd3 ⟨h4,HS⟩=>⟨_,h4,(GO.sub Z Z Z Z (fJ fV Z (Hr.calls HS  h6) (fun _ wd7 ⟨h8,HS⟩=>⟨_,h8,(aS Z (nL ?_))⟩)))⟩)))
  obtain rfl:=sI H
  exact rT _ func70 Z Z ⟨Z,HS⟩
theorem Je.calls {p:Int} {r1:Bool} (HS:St w0 w (L)) (H:Je.f p=some r1) :
    Calls prog 109 #[I p] w (Je.post w0 L r1):=by
  unfold Je.f at H
  refine cG func109 Z ?_
  refine rN 3 Z ?_
  obtain ⟨t1,h2,H⟩:=bI H
  refine rG (mV Z (fJ fV Z (Hr.calls HS  h2) (fun _ wd3 ⟨h4,HS⟩=>⟨_,h4,(aS Z (nL ?_))⟩)))
  obtain rfl:=sI H
  exact rT _ func109 Z Z ⟨Z,HS⟩
theorem Gp.calls {s:List Int} {i j_:Int} {r1:List Int} (HS:St w0 w (Own (Ar .i64) 2 A_a c_a uu s::L)) (H:Gp.f s i j_=some r1) :
    Calls prog 129 #[sV A_a s c_a,I i,I j_] w (Gp.post w0 L r1):=by
  unfold Gp.f at H
  refine cG func129 Z ?_
  refine rN 3 Z ?_
  obtain ⟨c1,H⟩:=iN H
  obtain ⟨c2,H⟩:=iN H
  refine rG (pS 4 Z (lS Z Z U56 Z (GO.slM Z Z Z Z Z U56 sz2 c1 c2 (Int.ofNat_le.2 ((ro 0 Z) _ HS).1) Z (nL (rN 3 Z ?_)))))
  rcases iE H with ⟨c3,H⟩ | ⟨c3,H⟩
  ·
   refine yB Z (tT c3) (rN 2 Z ?_)
   obtain rfl:=sI H
   exact rT _ func129 Z Z ⟨_,_,Z,HS⟩
  refine nB Z (tF c3) (rN 2 Z (rG (mV Z (lS Z Z U56 Z (aS Z (nL (sQ ?_)))))))
  obtain ⟨c4,H⟩:=iN H
  obtain ⟨c5,H⟩:=iN H
  obtain ⟨c7,H⟩:=iN H
  have h8:=dZ c7 (leN c5)
  refine G.lex mixed [0,1,3,4,2,5,6,7] (by kernel_rfl) ?_
  replace HS:=HS.drew
  refine GX.ps 4 Z (GX.l1 Z Z Z (fun _ g=>GO.slH (T:=(Ar .i64)) HS (ro 0 Z) Z Z Z U56 sz2 c4.1 c4.2 Z g) Z (GX.l1 Z Z Z (fun _ g=>GO.slL (T:=(Ar .i64)) HS (ro 0 Z) Z Z Z U56 sz2 c5.1 c5.2 Z g) Z (GX.l2 Z (GO.rW (T:=(Ar .i64)) (j:=0) (i1:=i.toNat) (l1:=j_.toNat) HS Z Ba (fun _ _=>Z) Z Z Z (by rw [List.drop_zero,List.length_take]; exact Nat.min_eq_left (leN c4)) (by rw [List.length_drop,List.take_length]) U56 Ml c7 (leN c5) Z fun wd6 HS=>GX.fin tv (GX.ps 1 Z (GX.nil (sQ ?_)))))))
  obtain ⟨c9,H⟩:=iN H
  obtain ⟨c10,H⟩:=iN H
  have h12:=U0 (xs:=(over s i.toNat (s.drop j_.toNat))) (z:=0) (dF (wD c9) (leN c10))
  refine rG (pS 2 Z (lS Z Z U56 Z (mV Z (GO.xC (T:=(Ar .i64)) (xs:=(over s i.toNat (s.drop j_.toNat))) ((ro 0 Z) _ HS).1 Z Z Z Z U56 sz2 c9 c10 Z (GO.eG (T:=(Ar .i64)) (j:=0) (l:=((((over s i.toNat (s.drop j_.toNat)).take (i.toNat+(s.length - j_.toNat))).drop 0).length:Int).toNat) 0 () HS Z Ba Z Z U56 zr2 Z Z (uF (leN c10) ((ro 0 Z) _ HS).1) (dF (wD c9) (leN c10)) (fun _=>Z) fun wd11 HS=>nL ?_)))))
  obtain ⟨c13,H⟩:=iN H
  refine G.len (t:=0) (m:=(((over (over s i.toNat (s.drop j_.toNat)) (((((over s i.toNat (s.drop j_.toNat)).take (i.toNat+(s.length - j_.toNat))).drop 0).length:Int).toNat) (List.replicate (((over s i.toNat (s.drop j_.toNat)).take ((s.length:Int).toNat)).drop (((((over s i.toNat (s.drop j_.toNat)).take (i.toNat+(s.length - j_.toNat))).drop 0).length:Int).toNat)).length 0)).take (i.toNat+(s.length - j_.toNat))).drop 0).length) Z (qC h12) (rN 2 Z ?_)
  replace HS:=HS.gK (A':=(Ke A_a 0 c_a 1)) (c':=(c_a - 0)) (j:=0) (l:=0) (h:=(i.toNat+(s.length - j_.toNat))) (m:=c_a) Z (Nat.zero_le _) c13 (Nat.le_trans c13 ((ro 0 Z) _ HS).1) (lR _) Z Z
  obtain rfl:=sI H
  exact rT _ func129 Z Z ⟨_,_,Z,HS⟩
theorem Ct.calls {p r1:Int} {r2 r3 r4:Int} (HS:St w0 w (L)) (H:Ct.f K p=some (r1,r2,r3,r4)) :
    Calls prog 93 #[I p] w (Ct.post w0 L r1 r2 r3 r4):=by
  unfold Ct.f at H
  refine cG func93 Z ?_
  refine sQ (rG (GO.alloc HS Z Ld Z Z fun b1 wd2 HS=>nL (sQ (rG (GO.alloc HS Z Ld Z Z fun b3 wd4 HS=>nL (sQ (rG (GO.Cw (el:=2) ([I 0,I 1,I 2,I 3]) HS Z Z (fun _=>by kernel_rfl) Z fun b5 wd6 HS=>?_))))))))
  replace HS:=HS.Fq (T:=(Ar .i64)) (j:=0) Z Ba uu ([0,1,2,3]:List Int) Z (Il Z)
  refine GO.H7 (t:=8) (m:=([0,1,2,3]:List Int).length) (c':=([0,1,2,3]:List Int).length) Z Z Z (aS Z (nL (rN 2 Z (rG (GO.Cw (el:=2) ([I 6,I 2,I 1,I 1]) HS Z Z (fun _=>by kernel_rfl) Z fun b7 wd8 HS=>lS Z Z U56 Z (mV Z (nL (rN 2 Z ?_))))))))
  replace HS:=HS.Fq (T:=(Ar .i64)) (j:=0) Z Ba uu ([6,2,1,1]:List Int) Z (Il Z)
  refine G.H7 (t:=9) (m:=([6,2,1,1]:List Int).length) (c':=([6,2,1,1]:List Int).length) Z Z Z ?_
  refine G.name (fun n1 k1=>?_)
  have m1:∀ h1,h1≤K→∀ (c1 e1:Int) (A21:Option Addr) (c22:Nat) (a1:List Int) (x24 f1:Int) (d1 g1:Int) (w:World),Ct.l1 K h1 c1 e1 a1 x24 f1 d1 g1=some (r1,r2,r3,r4)→St w0 w (Box b1 131 [I 0,I 0,I 0,I 0]::Box b3 131 [I e1,I f1,I d1,I g1]::Own (Ar .i64) 2 A21 c22 uu a1::Own (Ar .i64) 2 (sb b7) (([6,2,1,1]:List Int).length) uu ([6,2,1,1]:List Int)::L)→G prog 93 35 [(0,I c1),(2,pT b1),(3,pT b3),(4,sV A21 a1 c22),(9,sV (sb b7) ([6,2,1,1]:List Int) (([6,2,1,1]:List Int).length)),(10,I 4),(11,I x24)] n1 w (Ct.post w0 L r1 r2 r3 r4):=by
   refine lp (fun _ _ _ _ _ _ _ _ _ w H _=>by rw [Ct.l1] at H; cases H) fun i1 p1 o1 c1 e1 A21 c22 a1 x24 f1 d1 g1 w H HS=>?_
   rw [Ct.l1] at H
   subst k1
   refine rN 3 Z ?_
   rcases iS H with ⟨c54,H⟩ | ⟨c54,H⟩
   ·
    refine nB Z (tF c54) (rN 2 Z (rG (lW 1 HS Z Ki (sW 0 HS Z Ki Z fun wd66 HS=>nL ?_))))
    obtain ⟨rfl,rfl,rfl,rfl⟩:=I8 H
    exact rT _ func93 Z (Gz.Hu (j:=0) (vs:=[I e1,I f1,I d1,I g1]) HS Z Z Z Ki) ⟨Z,(HS.pk 4 [] Z)⟩
   refine yB Z (tT c54) (rN 4 Z ?_)
   obtain ⟨c55,H⟩:=iN H
   refine rG (mV Z (iX Z U56 sz2 (fun _=>⟨_,_,Z⟩) c55 (GO.Cj (T:=(Ar .i64)) (n:=x24.toNat) (o:=0) HS (ro 3 Z) Z Z (getD_some (d:=0) (ltN c55)) Z Z na2 Z (pS 2 Z (nL (sQ ?_))))))
   obtain ⟨c56,H⟩:=Qo H
   refine rG (pS 2 Z (GO.quo Z Z Z c56 Z (aS Z (nL (sQ (rG (pS 2 Z (GO.rem Z Z Z c56 Z (aS Z (nL (sQ ?_)))))))))))
   obtain ⟨c57,H⟩:=iN H
   obtain ⟨c58,H⟩:=iN H
   refine rG (pS 3 Z (iX Z U56 sz2 (rk (ro 2 Z) HS) c57 (GO.Cj (T:=(Ar .i64)) (n:=(w64 (c1.tdiv (([6,2,1,1]:List Int).getD x24.toNat 0))).toNat) (o:=0) HS (ro 2 Z) Z Z (getD_some (d:=0) (ltN c57)) Z Z na2 Z (GO.ixW Z Z Z Hf sz2 c58 Z (GO.stW (j:=1) (o:=0) (sz:=1) (vs:=[I (a1.getD ((w64 (c1.tdiv (([6,2,1,1]:List Int).getD x24.toNat 0))).toNat) 0)]) (fun u_=>[I (se 0 u_ (a1.getD ((w64 (c1.tdiv (([6,2,1,1]:List Int).getD x24.toNat 0))).toNat) 0) e1),I (se 1 u_ (a1.getD ((w64 (c1.tdiv (([6,2,1,1]:List Int).getD x24.toNat 0))).toNat) 0) f1),I (se 2 u_ (a1.getD ((w64 (c1.tdiv (([6,2,1,1]:List Int).getD x24.toNat 0))).toNat) 0) d1),I (se 3 u_ (a1.getD ((w64 (c1.tdiv (([6,2,1,1]:List Int).getD x24.toNat 0))).toNat) 0) g1)]) HS Z Z Z Z Z c58 (htN na2 Z) Z Z (four Z Z Z Z) fun wd59 HS=>nL ?_)))))
   obtain ⟨t60,h61,H⟩:=bI H
   refine rG (pS 4 Z ?_)
   replace HS:=HS.pk 4 [2,0,1,3] Z
   refine fJ qF Z (Gp.calls HS  h61) (fun _ wd64 ⟨A62,c63,h65,HS⟩=>⟨_,h65,(aS Z (nL (rN 3 Z (gW (o1 i1 (lR _) _ _ _ _ _ _ _ _ _ _ H (HS.pk 4 [1,2,0,3] Z)) Z))))⟩)
  exact gW (m1 K (lR _) _ _ _ _ _ _ _ _ _ _ H (HS.pk 4 [3,2,1,0] Z)) Z
theorem F5.calls {a1 c1:Int} {Cg r1:Int} (HS:St w0 w (L)) (H:F5.f K a1 c1 Cg=some r1) :
    Calls prog 92 #[.agg [I a1,I c1].toArray,I Cg] w (F5.post w0 L r1):=by
  unfold F5.f at H
  refine cG func92 Z ?_
  refine sQ (rG (bA HS Z fun b1 wd2 HS=>aS Z (nL (sQ ?_))))
  obtain ⟨t3,t4,t5,t6,h7,H⟩:=D8 H
  obtain ⟨c10,H⟩:=iN H
  refine rG (fL b1 1 Gn Z (lB 0 HS Z na2 Z (fJ Lc Z (Ct.calls HS  h7) (fun _ wd8 ⟨h9,HS⟩=>⟨_,h9,(mV Z (GO.Vn ([t3,t4,t5,t6]:List Int) Z Z Z Hf U2 sz2 Z c10.1 c10.2 Z (aS Z (nL ?_))))⟩))))
  obtain rfl:=sI H
  exact rT _ func92 Z Z ⟨Z,(HS.pk 1 [] Z)⟩
theorem Cu.calls {a1 c1:Int} {d1 e1 r1:Int} (HS:St w0 w (L)) (H:Cu.f K a1 c1 d1 e1=some r1) :
    Calls prog 130 #[.agg [I a1,I c1,I d1,I e1].toArray] w (Cu.post w0 L r1):=by
  unfold Cu.f at H
  refine cG func130 Z ?_
  refine sQ (rG (bA HS Z fun b1 wd2 HS=>aS Z (nL (rN 4 Z (rG (GO.Cw (el:=2) ([I 6,I 2,I 1,I 1]) HS Z Z (fun _=>by kernel_rfl) Z fun b3 wd4 HS=>lS Z Z U56 Z (mV Z (nL (rN 2 Z ?_)))))))))
  replace HS:=HS.Fq (T:=(Ar .i64)) (j:=0) Z Ba uu ([6,2,1,1]:List Int) Z (Il Z)
  refine G.H7 (t:=9) (m:=([6,2,1,1]:List Int).length) (c':=([6,2,1,1]:List Int).length) Z Z Z ?_
  refine G.name (fun s1 u1=>?_)
  have v1:∀ i1,i1≤K→∀ (f1 x19:Int) (w:World),Cu.l1 K i1 a1 c1 d1 e1 f1 x19=some r1→St w0 w (Box b1 131 [I a1,I c1,I d1,I e1]::Own (Ar .i64) 2 (sb b3) (([6,2,1,1]:List Int).length) uu ([6,2,1,1]:List Int)::L)→G prog 130 41 [(1,pT b1),(3,I f1),(9,sV (sb b3) ([6,2,1,1]:List Int) (([6,2,1,1]:List Int).length)),(10,I 4),(11,I x19)] s1 w (Cu.post w0 L r1):=by
   refine lp (fun _ _ w H _=>by rw [Cu.l1] at H; cases H) fun m1 y1 x1 f1 x19 w H HS=>?_
   rw [Cu.l1] at H
   subst u1
   refine rN 3 Z ?_
   rcases iS H with ⟨c35,H⟩ | ⟨c35,H⟩
   ·
    refine nB Z (tF c35) (rN 3 Z ?_)
    obtain rfl:=sI H
    exact rT _ func130 Z Z ⟨Z,(HS.pk 2 [] Z)⟩
   refine yB Z (tT c35) (rN 4 Z ?_)
   obtain ⟨c36,H⟩:=iN H
   refine rG (mV Z (iX Z U56 sz2 (fun _=>⟨_,_,Z⟩) c36 (GO.Cj (T:=(Ar .i64)) (n:=x19.toNat) (o:=0) HS (ro 1 Z) Z Z (getD_some (d:=0) (ltN c36)) Z Z na2 Z (pS 2 Z (nL (sQ ?_))))))
   obtain ⟨c37,H⟩:=iN H
   refine rG (mV Z (GO.ixW Z Z Z Hf sz2 c37 Z (GO.ldW (j:=0) ([a1,c1,d1,e1]:List Int) HS Z Z Z c37 Z Z na2 Z (aS Z (nL (rN 2 Z ?_))))))
   obtain ⟨c38,H⟩:=iN H
   refine rG (mV Z (GO.qE (m:=(([a1,c1,d1,e1]:List Int).take x19.toNat).length) Z Z Z Hf sz2 c38 (mW (leN c38)) Z (lS Z Z U56 Z (mV Z (nL (rN 2 Z ?_))))))
   refine G.name (fun t1 q1=>?_)
   have o1:∀ n1,n1≤m1→∀ (h1 x43:Int) (w:World),Cu.l4 K n1 a1 c1 d1 e1 f1 x19 h1 x43=some r1→St w0 w (Box b1 131 [I a1,I c1,I d1,I e1]::Own (Ar .i64) 2 (sb b3) (([6,2,1,1]:List Int).length) uu ([6,2,1,1]:List Int)::L)→G prog 130 41 [(1,pT b1),(3,I f1),(4,I x19),(5,I (([6,2,1,1]:List Int).getD x19.toNat 0)),(6,I h1),(9,sV (sb b3) ([6,2,1,1]:List Int) (([6,2,1,1]:List Int).length)),(10,I 4),(11,I x19),(20,sV (sb b1) (([a1,c1,d1,e1]:List Int).take x19.toNat) 4),(21,I ((([a1,c1,d1,e1]:List Int).take x19.toNat).length:Int)),(22,I x43)] t1 w (Cu.post w0 L r1):=by
    refine lp (fun _ _ w H _=>by rw [Cu.l4] at H; cases H) fun g1 p1 k1 h1 x43 w H HS=>?_
    rw [Cu.l4] at H
    subst q1
    refine rN 3 Z ?_
    rcases iS H with ⟨c47,H⟩ | ⟨c47,H⟩
    ·
     refine nB Z (tF c47) (rN 5 Z (gW (x1 g1 (Nat.le_of_succ_le p1) _ _ _ H HS) Z))
    refine yB Z (tT c47) (rN 4 Z ?_)
    obtain ⟨c48,H⟩:=iN H
    refine rG (iX Z U56 sz2 (fun _=>⟨_,_,Z⟩) c48 (GO.Cj (T:=(Ar .i64)) (n:=x43.toNat) (o:=0) HS (Ce.take (Ce.box (j:=0) uu ([a1,c1,d1,e1]:List Int) Z Z Z Z (fun _ _ _ _ _=>tv)) (leN c38)) Z Z (getD_some (d:=0) (ltN c48)) Z Z na2 Z (aS Z (nL (sQ (rG (pS 2 Z (GO.ixW Z Z Z Hf sz2 c37 Z (GO.ldW (j:=0) ([a1,c1,d1,e1]:List Int) HS Z Z Z c37 Z Z na2 Z (GO.lss Z Z Z Z (nL ?_)))))))))))
    rcases iS H with ⟨c49,H⟩ | ⟨c49,H⟩
    ·
     refine nB Z (tF c49) (rN 4 Z (gW (k1 g1 (lR _) _ _ _ H HS) Z))
    refine yB Z (tT c49) (rN 4 Z (gW (k1 g1 (lR _) _ _ _ H HS) Z))
   exact gW (o1 m1 (lR _) _ _ _ H HS) Z
  exact gW (v1 K (lR _) _ _ _ H (HS.pk 2 [1,0] Z)) Z
theorem Fa.calls {p r1:Int} (HS:St w0 w (L)) (H:Fa.f K p=some r1) :
    Calls prog 95 #[I p] w (Fa.post w0 L r1):=by
  unfold Fa.f at H
  refine cG func95 Z ?_
  refine rN 3 Z (rG (GO.alloc HS Z Ld Z Z fun b1 wd2 HS=>nL (rN 2 Z ?_)))
  obtain ⟨t3,t4,t5,t6,h7,H⟩:=D8 H
  refine rG (mV Z (fJ Lc Z (Ct.calls HS  h7) (fun _ wd8 ⟨h9,HS⟩=>⟨_,h9,(mV Z (nL (rN 2 Z ?_)))⟩)))
  refine G.name (fun k1 h1=>?_)
  have i1:∀ f1,f1≤K→∀ (e1 c1:Int) (d1 a1 x16:Int) (w:World),Fa.l1 K f1 t3 t4 t5 t6 e1 c1 d1 a1 x16=some r1→St w0 w (Box b1 131 [I e1,I c1,I d1,I a1]::L)→G prog 95 18 [(3,pT b1),(7,.agg [I t3,I t4,I t5,I t6].toArray),(8,I x16)] k1 w (Fa.post w0 L r1):=by
   refine lp (fun _ _ _ _ _ w H _=>by rw [Fa.l1] at H; cases H) fun g1 n1 m1 e1 c1 d1 a1 x16 w H HS=>?_
   rw [Fa.l1] at H
   subst h1
   refine rN 3 Z ?_
   rcases iS H with ⟨c25,H⟩ | ⟨c25,H⟩
   ·
    refine nB Z (tF c25) (rN 2 Z ?_)
    obtain ⟨t29,h30,H⟩:=bI H
    refine rG (lW 0 HS Z Ki (fJ Q8 Z (Cu.calls HS  h30) (fun _ wd31 ⟨h32,HS⟩=>⟨_,h32,(aS Z (nL ?_))⟩)))
    obtain rfl:=sI H
    exact rT _ func95 Z Z ⟨Z,(HS.pk 1 [] Z)⟩
   refine yB Z (tT c25) (rN 4 Z ?_)
   obtain ⟨c26,H⟩:=iN H
   refine rG (mV Z (GO.Vn ([t3,t4,t5,t6]:List Int) Z Z Z Hf U2 sz2 Z c26.1 c26.2 Z (pS 2 Z (nL ?_))))
   obtain ⟨c27,H⟩:=iN H
   refine rG (pS 2 Z (GO.ixW Z Z Z Hf sz2 c27 Z (GO.stW (j:=0) (o:=0) (sz:=1) (vs:=[I x16]) (fun u_=>[I (se 0 u_ x16 e1),I (se 1 u_ x16 c1),I (se 2 u_ x16 d1),I (se 3 u_ x16 a1)]) HS Z Z Z Z Z c27 (htN na2 Z) Z Z (four Z Z Z Z) fun wd28 HS=>nL (rN 3 Z (gW (m1 g1 (lR _) _ _ _ _ _ _ H HS) Z)))))
  exact gW (i1 K (lR _) _ _ _ _ _ _ H HS) Z
theorem F7.calls {a1 c1:Int} {tet r1 r2:Int} (HS:St w0 w (L)) (H:F7.f K a1 c1 tet=some (r1,r2)) :
    Calls prog 110 #[.agg [I a1,I c1].toArray,I tet] w (F7.post w0 L r1 r2):=by
  unfold F7.f at H
  refine cG func110 Z ?_
  refine sQ (rG (bA HS Z fun b1 wd2 HS=>GO.alloc HS Z Jz Z Z fun b3 wd4 HS=>nL (sQ ?_)))
  obtain ⟨t5,h6,H⟩:=bI H
  refine rG (mV Z (fL b1 1 Gn Z (lB 1 HS Z na2 Z (fJ Uy Z (Fa.calls HS  h6) (fun _ wd7 ⟨h8,HS⟩=>⟨_,h8,(GO.Dr (.agg [I tet,I t5].toArray) Z Z (fun _=>by kernel_rfl) Z (sW 0 HS Z D9 Z fun wd9 HS=>nL ?_))⟩)))))
  obtain ⟨rfl,rfl⟩:=H9 H
  exact rT _ func110 Z (Gz.Hu (j:=0) (vs:=[I tet,I t5]) HS Z Z Z D9) ⟨Z,(HS.pk 2 [] Z)⟩
theorem Ef.calls {a1:List (List Ab)} {tet f:Int} {y_a:Nat→(Ty.slice 107 Ad).Lay} {r1:Bool} (HS:St w0 w (L)) (r_a:Ce w0 L (Ty.slice 107 Ad) A_a c_a y_a a1) (H:Ef.f K a1 tet f=some r1) :
    Calls prog 69 #[.agg [sV A_a a1 c_a].toArray,I tet,I f] w (Ef.post w0 L r1):=by
  unfold Ef.f at H
  refine cG func69 Z ?_
  refine sQ (rG (bA HS Z fun b1 wd2 HS=>aS Z (nL (sQ ?_))))
  obtain ⟨c3,H⟩:=iN H
  obtain ⟨c4,H⟩:=iN H
  obtain ⟨e5,h6,H⟩:=Di H
  refine rG (fL b1 0 Du Z (lB 0 HS Z Gu Z (mV Z (iX Z U29 Jg (rk (rD 1 r_a) HS) c3 (GO.Cj (T:=(Ty.slice 107 Ad)) (n:=tet.toNat) (o:=0) HS (rD 1 r_a) Z Z (getD_some (d:=[]) (ltN c3)) Z Z Jh Z (mV Z (GO.ix Z Z Z U77 G9 ((Ce.elem (rD 1 r_a) c3.1 c3.2) _ HS).2.2.1 c4.1 c4.2 Z (GO.Hw (T:=Ad) (n:=f.toNat) HS (Ce.elem (rD 1 r_a) c3.1 c3.2) Z Z (Cn (ltN c4) h6) D9 Z (GO.alloc HS Z Jz Z Z fun b7 wd8 HS=>sW 0 HS Z D9 Z fun wd9 HS=>nL (rN 2 Z (rG (fL b7 0 Dp Z ?_))))))))))))
  refine lB 0 HS Z na2 Z (GO.eql Z Z Z Z (nL ?_))
  rcases iE H with ⟨c10,H⟩ | ⟨c10,H⟩
  ·
   refine yB Z (tT c10) (sQ (rG (fL b7 1 Gn Z (lB 0 HS Z na2 Z (pS 2 Z (nL ?_))))))
   obtain rfl:=sI H
   exact rT _ func69 Z Z ⟨Z,(HS.pk 2 [] Z)⟩
  refine nB Z (tF c10) (rN 3 Z ?_)
  obtain ⟨t20,h21,H⟩:=bI H
  rcases iS H with ⟨c24,H⟩ | ⟨c24,H⟩
  ·
   refine rG (fL b1 0 Du Z (lB 1 HS Z Gu Z (fL b7 0 Dp Z (lB 0 HS Z na2 Z (fJ bC Z (Dv.calls HS (rD 2 r_a) h21) (fun _ wd22 ⟨h23,HS⟩=>⟨_,h23,(pS 2 Z (kN 29 Z (congrArg Bool.not (Db c24)) (oF Z (oF Z (oF Z (oF Z (GO.Iz Z Z Z Z Z (nL (rN 3 Z ?_)))))))))⟩))))))
   obtain rfl:=sI H
   exact rT _ func69 Z Z ⟨Z,(HS.pk 2 [] Z)⟩
  obtain ⟨t25,h26,H⟩:=bI H
  refine rG (fL b1 0 Du Z (lB 1 HS Z Gu Z (fL b7 0 Dp Z (lB 0 HS Z na2 Z (fJ bC Z (Dv.calls HS (rD 2 r_a) h21) (fun _ wd22 ⟨h23,HS⟩=>⟨_,h23,(pS 2 Z (kN 29 Z (congrArg Bool.not c24) (oN Z (fL b7 1 Gn Z (bK (oN Z (lB 0 HS Z na2 Z (bK (oN Z ?_)))))))))⟩))))))
  refine fJ qU Z (Je.calls HS  h26) (fun _ wd27 ⟨h28,HS⟩=>⟨_,h28,(bK (oN Z (GO.not Z Z Z (bK (GO.Jm Z Z Z Z Z (nL ?_))))))⟩)
  rcases iS H with ⟨c29,H⟩ | ⟨c29,H⟩
  ·
   refine yB Z (congrArg Bool.not (Db c29)) (rN 2 Z ?_)
   obtain rfl:=sI H
   exact rT _ func69 Z Z ⟨Z,(HS.pk 2 [] Z)⟩
  refine nB Z (congrArg Bool.not c29) (rN 2 Z ?_)
  obtain ⟨t30,h31,H⟩:=bI H
  refine rG (lW 0 HS Z D9 (mV Z (fJ iZ Z (F5.calls HS  h31) (fun _ wd32 ⟨h33,HS⟩=>⟨_,h33,(aS Z (nL (sQ ?_)))⟩))))
  obtain ⟨c34,H⟩:=iN H
  obtain ⟨c35,H⟩:=iN H
  obtain ⟨e36,h37,H⟩:=Di H
  obtain ⟨t38,t39,h40,H⟩:=Ea H
  rcases iS H with ⟨c43,H⟩ | ⟨c43,H⟩
  ·
   refine G.H8 mixed (fun w=>St w0 w (Box b7 107 [I e5.Tet,I e5.Perm]::Box b1 31 [sV A_a a1 c_a]::L)) [1,3,5,8,9,15] [0,2,6,10,1,3,4,5,7,8,9,11,12,13,14,16,15,17,18,19,20,21,22,23,24] [] (by kernel_rfl) (by kernel_rfl) HS.drew ?_
   replace HS:=HS.drew
   refine qL Z Z (fun _ _ g=>fL b1 0 Du Z g) Z (qL Z Z (fun _ _ g=>fL b7 0 Dp Z g) Z (GX.ps 2 Z (GX.ls Z Z Z HS (fun _ HS _ g=>lB 1 HS Z Gu Z g) Z (GX.ls Z Z Z HS (fun _ HS _ g=>lB 0 HS Z na2 Z g) Z (qL Z Z (fun _ _ g=>iX Z U29 Jg (rk (rD 2 r_a) HS) c34 g) Z (GX.ls Z Z Z HS (fun _ HS _ g=>GO.Cj (T:=(Ty.slice 107 Ad)) (n:=e5.Tet.toNat) (o:=0) HS (rD 2 r_a) Z Z (getD_some (d:=[]) (ltN c34)) Z Z Jh Z g) Z (qL Z Z (fun _ _ g=>GO.ix Z Z Z U77 G9 ((Ce.elem (rD 2 r_a) c34.1 c34.2) _ HS).2.2.1 c35.1 c35.2 Z g) Z (GX.ls Z Z Z HS (fun _ HS _ g=>GO.Hw (T:=Ad) (n:=t30.toNat) HS (Ce.elem (rD 2 r_a) c34.1 c34.2) Z Z (Cn (ltN c35) h37) D9 Z g) Z (GX.ls Z Z Z HS (fun _ HS _ g=>lW 0 HS Z D9 g) Z (GX.l2 Z (fJ Wn Z (F7.calls HS  h40) (fun _ wd41 ⟨h42,HS⟩=>⟨_,h42,(GX.fin HS (qL Z Z (fun _ _ g=>GO.iC Z Z Z Vg (fun _=>Uv) Z g) Z (qL Z Z (fun _ _ g=>mV Z (kN 51 Z (tF c43) g)) Z ?_)))⟩))))))))))))
   refine qL Z Z (fun _ _ g=>oF Z g) Z (qL Z Z (fun _ _ g=>oF Z g) Z (GX.ls Z Z Z HS (fun _ HS _ g=>oF Z g) Z (qL Z Z (fun _ _ g=>oF Z g) Z (qL Z Z (fun _ _ g=>oF Z g) Z (qL Z Z (fun _ _ g=>GO.Xq Z Z Z Z Z Z g) Z (qL Z Z (fun _ _ g=>GO.Xq Z Z Z Z Z Z g) Z (qL Z Z (fun _ _ g=>GO.Xq Z Z Z Z Z Z g) Z (qL Z Z (fun _ _ g=>oF Z g) Z (GX.ps 2 Z (GX.nil ?_))))))))))
   obtain rfl:=sI H
   exact rT _ func69 Z Z ⟨Z,(HS.pk 2 [] Z)⟩
  rcases iS H with ⟨c44,H⟩ | ⟨c44,H⟩
  ·
   refine G.H8 mixed (fun w=>St w0 w (Box b7 107 [I e5.Tet,I e5.Perm]::Box b1 31 [sV A_a a1 c_a]::L)) [1,3,5,8,9,15] [0,2,6,10,1,3,4,5,7,8,9,11,12,13,14,16,15,17,18,19,20,21,22,23,24] [] (by kernel_rfl) (by kernel_rfl) HS.drew ?_
   replace HS:=HS.drew
   refine qL Z Z (fun _ _ g=>fL b1 0 Du Z g) Z (qL Z Z (fun _ _ g=>fL b7 0 Dp Z g) Z (GX.ps 2 Z (GX.ls Z Z Z HS (fun _ HS _ g=>lB 1 HS Z Gu Z g) Z (GX.ls Z Z Z HS (fun _ HS _ g=>lB 0 HS Z na2 Z g) Z (qL Z Z (fun _ _ g=>iX Z U29 Jg (rk (rD 2 r_a) HS) c34 g) Z (GX.ls Z Z Z HS (fun _ HS _ g=>GO.Cj (T:=(Ty.slice 107 Ad)) (n:=e5.Tet.toNat) (o:=0) HS (rD 2 r_a) Z Z (getD_some (d:=[]) (ltN c34)) Z Z Jh Z g) Z (qL Z Z (fun _ _ g=>GO.ix Z Z Z U77 G9 ((Ce.elem (rD 2 r_a) c34.1 c34.2) _ HS).2.2.1 c35.1 c35.2 Z g) Z (GX.ls Z Z Z HS (fun _ HS _ g=>GO.Hw (T:=Ad) (n:=t30.toNat) HS (Ce.elem (rD 2 r_a) c34.1 c34.2) Z Z (Cn (ltN c35) h37) D9 Z g) Z (GX.ls Z Z Z HS (fun _ HS _ g=>lW 0 HS Z D9 g) Z (GX.l2 Z (fJ Wn Z (F7.calls HS  h40) (fun _ wd41 ⟨h42,HS⟩=>⟨_,h42,(GX.fin HS (qL Z Z (fun _ _ g=>GO.iC Z Z Z Vg (fun _=>Uv) Z g) Z (qL Z Z (fun _ _ g=>mV Z (kN 51 Z (tT c43) g)) Z ?_)))⟩))))))))))))
   refine qL Z Z (fun _ _ g=>oN Z (fL b7 0 Dp Z (bK g))) Z (qL Z Z (fun _ _ g=>oN Z (mV Z (bK g))) Z (GX.ls Z Z Z HS (fun _ HS _ g=>oN Z (lB 0 HS Z na2 Z (bK g))) Z (qL Z Z (fun _ _ g=>oN Z (GO.neq Z Z Z Z (bK g))) Z (qL Z Z (fun _ _ g=>oN Z (mV Z (bK (kN 56 Z (nF c44) g)))) Z (qL Z Z (fun _ _ g=>oF Z g) Z (qL Z Z (fun _ _ g=>oF Z g) Z (qL Z Z (fun _ _ g=>oF Z g) Z (qL Z Z (fun _ _ g=>oN Z (GO.Iz Z Z Z Z Z (bK g))) Z (GX.ps 2 Z (GX.nil ?_))))))))))
   obtain rfl:=sI H
   exact rT _ func69 Z Z ⟨Z,(HS.pk 2 [] Z)⟩
  refine G.H8 mixed (fun w=>St w0 w (Box b7 107 [I e5.Tet,I e5.Perm]::Box b1 31 [sV A_a a1 c_a]::L)) [1,3,5,8,9,15] [0,2,6,10,1,3,4,5,7,8,9,11,12,13,14,16,15,17,18,19,20,21,22,23,24] [] (by kernel_rfl) (by kernel_rfl) HS.drew ?_
  replace HS:=HS.drew
  refine qL Z Z (fun _ _ g=>fL b1 0 Du Z g) Z (qL Z Z (fun _ _ g=>fL b7 0 Dp Z g) Z (GX.ps 2 Z (GX.ls Z Z Z HS (fun _ HS _ g=>lB 1 HS Z Gu Z g) Z (GX.ls Z Z Z HS (fun _ HS _ g=>lB 0 HS Z na2 Z g) Z (qL Z Z (fun _ _ g=>iX Z U29 Jg (rk (rD 2 r_a) HS) c34 g) Z (GX.ls Z Z Z HS (fun _ HS _ g=>GO.Cj (T:=(Ty.slice 107 Ad)) (n:=e5.Tet.toNat) (o:=0) HS (rD 2 r_a) Z Z (getD_some (d:=[]) (ltN c34)) Z Z Jh Z g) Z (qL Z Z (fun _ _ g=>GO.ix Z Z Z U77 G9 ((Ce.elem (rD 2 r_a) c34.1 c34.2) _ HS).2.2.1 c35.1 c35.2 Z g) Z (GX.ls Z Z Z HS (fun _ HS _ g=>GO.Hw (T:=Ad) (n:=t30.toNat) HS (Ce.elem (rD 2 r_a) c34.1 c34.2) Z Z (Cn (ltN c35) h37) D9 Z g) Z (GX.ls Z Z Z HS (fun _ HS _ g=>lW 0 HS Z D9 g) Z (GX.l2 Z (fJ Wn Z (F7.calls HS  h40) (fun _ wd41 ⟨h42,HS⟩=>⟨_,h42,(GX.fin HS (qL Z Z (fun _ _ g=>GO.iC Z Z Z Vg (fun _=>Uv) Z g) Z (qL Z Z (fun _ _ g=>mV Z (kN 51 Z (tT c43) g)) Z ?_)))⟩))))))))))))
  refine qL Z Z (fun _ _ g=>oN Z (fL b7 0 Dp Z (bK g))) Z (qL Z Z (fun _ _ g=>oN Z (mV Z (bK g))) Z (GX.ls Z Z Z HS (fun _ HS _ g=>oN Z (lB 0 HS Z na2 Z (bK g))) Z (qL Z Z (fun _ _ g=>oN Z (GO.neq Z Z Z Z (bK g))) Z (qL Z Z (fun _ _ g=>oN Z (mV Z (bK (kN 56 Z (nT c44) g)))) Z (qL Z Z (fun _ _ g=>oN Z (mV Z (bK g))) Z (qL Z Z (fun _ _ g=>oN Z (mV Z (bK g))) Z (qL Z Z (fun _ _ g=>oN Z (GO.neq Z Z Z Z (bK g))) Z (qL Z Z (fun _ _ g=>oN Z (GO.Jm Z Z Z Z Z (bK g))) Z (GX.ps 2 Z (GX.nil ?_))))))))))
  obtain rfl:=sI H
  exact rT _ func69 Z Z ⟨Z,(HS.pk 2 [] Z)⟩
theorem Bp.calls {a1:List (List Ab)} {y_a:Nat→(Ty.slice 107 Ad).Lay} {r1:Bool} (HS:St w0 w (L)) (r_a:Ce w0 L (Ty.slice 107 Ad) A_a c_a y_a a1) (H:Bp.f K a1=some r1) :
    Calls prog 42 #[.agg [sV A_a a1 c_a].toArray] w (Bp.post w0 L r1):=by
  unfold Bp.f at H
  refine cG func42 Z ?_
  refine sQ (rG (bA HS Z fun b1 wd2 HS=>aS Z (nL (rN 2 Z ?_))))
  rcases iE H with ⟨c8,H⟩ | ⟨c8,H⟩
  ·
   refine rG (fL b1 0 Du Z (lB 0 HS Z Gu Z (lS Z Z U29 Z (pS 2 Z (kN 9 Z (tT c8) (oF Z (oF Z (oF Z (GO.Iz Z Z Z Z Z (nL (rN 3 Z ?_)))))))))))
   obtain rfl:=sI H
   exact rT _ func42 Z Z ⟨Z,(HS.pk 1 [] Z)⟩
  obtain ⟨t9,h10,H⟩:=bI H
  refine rG (fL b1 0 Du Z (lB 0 HS Z Gu Z (lS Z Z U29 Z (pS 2 Z (kN 9 Z (tF c8) (oN Z (fL b1 0 Du Z (bK (oN Z (lB 0 HS Z Gu Z (bK (oN Z (fJ wQ Z (Cf.calls HS (rD 1 r_a) h10) (fun _ wd11 ⟨h12,HS⟩=>⟨_,h12,(bK ?_)⟩))))))))))))))
  refine GO.Jm Z Z Z Z Z (nL ?_)
  rcases iE H with ⟨c13,H⟩ | ⟨c13,H⟩
  ·
   refine yB Z c13 (rN 2 Z ?_)
   obtain rfl:=sI H
   exact rT _ func42 Z Z ⟨Z,(HS.pk 1 [] Z)⟩
  refine nB Z (Db c13) (rN 3 Z ?_)
  obtain ⟨t14,h15,H⟩:=bI H
  refine rG (fL b1 0 Du Z (lB 0 HS Z Gu Z (fJ O0 Z (Bw.calls HS (rD 1 r_a) h15) (fun _ wd16 ⟨h17,HS⟩=>⟨_,h17,(mV Z (nL (rN 2 Z ?_)))⟩))))
  refine G.name (fun p1 k1=>?_)
  have o1:∀ e1,e1≤K→∀ (x37:Int) (w:World),Bp.l1 K e1 a1 t14 x37=some r1→St w0 w (Box b1 31 [sV A_a a1 c_a]::L)→G prog 42 30 [(1,pT b1),(16,I t14),(17,I x37)] p1 w (Bp.post w0 L r1):=by
   refine lp (fun _ w H _=>by rw [Bp.l1] at H; cases H) fun c1 s1 q1 x37 w H HS=>?_
   rw [Bp.l1] at H
   subst k1
   refine rN 3 Z ?_
   rcases iS H with ⟨c57,H⟩ | ⟨c57,H⟩
   ·
    refine nB Z (tF c57) (rN 3 Z ?_)
    obtain rfl:=sI H
    exact rT _ func42 Z Z ⟨Z,(HS.pk 1 [] Z)⟩
   refine yB Z (tT c57) (rN 9 Z ?_)
   refine G.name (fun m1 n1=>?_)
   have g1:∀ f1,f1≤c1→∀ (x63:Int) (w:World),Bp.l4 K f1 a1 t14 x37 x63=some r1→St w0 w (Box b1 31 [sV A_a a1 c_a]::L)→G prog 42 30 [(1,pT b1),(3,I x37),(16,I t14),(17,I x37),(20,I x63)] m1 w (Bp.post w0 L r1):=by
    refine lp (fun _ w H _=>by rw [Bp.l4] at H; cases H) fun d1 h1 i1 x63 w H HS=>?_
    rw [Bp.l4] at H
    subst n1
    refine rN 3 Z ?_
    rcases iS H with ⟨c70,H⟩ | ⟨c70,H⟩
    ·
     refine nB Z (tF c70) (rN 4 Z (gW (q1 d1 (Nat.le_of_succ_le h1) _ _ H HS) Z))
    refine yB Z (tT c70) (rN 6 Z ?_)
    obtain ⟨t71,h72,H⟩:=bI H
    refine rG (lW 0 HS Z Dq (pS 2 Z (fJ vL Z (Ef.calls HS (rD 1 r_a) h72) (fun _ wd73 ⟨h74,HS⟩=>⟨_,h74,(GO.not Z Z Z (nL ?_))⟩))))
    rcases iS H with ⟨c75,H⟩ | ⟨c75,H⟩
    ·
     refine yB Z (congrArg Bool.not (Db c75)) (rN 2 Z ?_)
     obtain rfl:=sI H
     exact rT _ func42 Z Z ⟨Z,(HS.pk 1 [] Z)⟩
    refine nB Z (congrArg Bool.not c75) (rN 4 Z (gW (i1 d1 (lR _) _ _ H HS) Z))
   exact gW (g1 c1 (lR _) _ _ H HS) Z
  exact gW (o1 K (lR _) _ _ H HS) Z
theorem Dh.calls {s:List Ab} {r1:List Ab} (HS:St w0 w (L)) (r_a:Ce w0 L Ad A_a c_a uu s) (H:Dh.f s=some r1) :
    Calls prog 88 #[sV A_a s c_a] w (Dh.post w0 L r1):=by
  unfold Dh.f at H
  refine cG func88 Z ?_
  refine rN 4 Z (rG (mV Z (GO.xA Z Z Z U77 Z (nL ?_))))
  rcases Decidable.em (A_a.isNone=true) with c1 | c1
  ·
   obtain rfl:=Yo r_a HS c1
   refine yB Z c1 (rN 2 Z ?_)
   replace HS:=HS.Dm Ad 107 uu
   replace H:some ([]:List Ab)=some r1:=H
   obtain rfl:=sI H
   exact rT _ func88 Z Z ⟨_,_,Z,HS⟩
  refine nB Z (Db c1) (rN 2 Z ?_)
  obtain ⟨c7,H⟩:=iN H
  refine rG (GO.Cw (el:=107) ([]) HS Z Z (fun _=>by kernel_rfl) Z fun b2 wd3 HS=>mV Z ?_)
  replace HS:=HS.Fq (T:=Ad) (j:=0) Z Ba uu ([]:List Ab) Z (Il Z)
  refine GO.H7 (t:=5) (m:=([]:List Ab).length) (c':=([]:List Ab).length) Z Z Z (GO.lU (T:=Ad) (j:=0) HS Z (rD 1 r_a) Ba Z Z Z U77 Xp Z Z Z c7 Z (fun _=>Z) fun A5 c6 wd4 HS=>aS Z (nL ?_))
  obtain rfl:=sI H
  exact rT _ func88 Z Z ⟨_,_,Z,HS⟩
theorem Cr.calls {c1:List (List Ab)} {y_a:Nat→(Ty.slice 107 Ad).Lay} {r1:List (List Ab)} (HS:St w0 w (L)) (r_a:Ce w0 L (Ty.slice 107 Ad) A_a c_a y_a c1) (H:Cr.f K c1=some r1) :
    Calls prog 54 #[.agg [sV A_a c1 c_a].toArray] w (Cr.post w0 L r1):=by
  unfold Cr.f at H
  refine cG func54 Z ?_
  refine sQ (rG (bA HS Z fun b1 wd2 HS=>GO.alloc HS Z Lm Z Z fun b3 wd4 HS=>nL (sQ (rG (GO.alloc HS Z Lm Z Z fun b5 wd6 HS=>nL (rN 2 Z (rG (fL b1 0 Du Z (lB 2 HS Z Gu Z (lS Z Z U29 Z (mV Z ?_)))))))))))
  refine nL (rN 2 Z ?_)
  refine G.name (fun h1 f1=>?_)
  have g1:∀ d1,d1≤K→∀ (A24:Option Addr) (c25:Nat) (a1:List (List Ab)) (y27:Nat→(Ty.slice 107 Ad).Lay) (x28:Int) (w:World),Cr.l1 K d1 c1 a1 x28=some r1→St w0 w (Box b3 31 [.slice none 0 0]::Box b5 31 [sV A24 a1 c25]::Own (Ty.slice 107 Ad) 77 A24 c25 y27 a1::L)→G prog 54 22 [(2,pT b3),(3,pT b5),(7,sV A_a c1 c_a),(8,I (c1.length:Int)),(9,I x28)] h1 w (Cr.post w0 L r1):=by
   refine lp (fun _ _ _ _ _ w H _=>by rw [Cr.l1] at H; cases H) fun e1 k1 i1 A24 c25 a1 y27 x28 w H HS=>?_
   rw [Cr.l1] at H
   subst f1
   refine rN 3 Z ?_
   rcases iS H with ⟨c46,H⟩ | ⟨c46,H⟩
   ·
    refine nB Z (tF c46) (rN 2 Z (rG (lW 1 HS Z Dq (sW 0 HS Z Dq Z fun wd62 HS=>nL ?_))))
    obtain rfl:=sI H
    exact rT _ func54 Z (Gz.Hu (j:=0) (vs:=[sV A24 a1 c25]) HS Z Z Z Dq) ⟨_,_,_,Z,(HS.pk 3 [2] Z)⟩
   refine yB Z (tT c46) (rN 4 Z ?_)
   obtain ⟨c47,H⟩:=iN H
   refine rG (iX Z U29 Jg (rk (rD 3 r_a) HS) c47 (GO.Cj (T:=(Ty.slice 107 Ad)) (n:=x28.toNat) (o:=0) HS (rD 3 r_a) Z Z (getD_some (d:=[]) (ltN c47)) Z Z Jh Z (aS Z (nL ?_))))
   obtain ⟨t48,h49,H⟩:=bI H
   obtain ⟨c59,H⟩:=iN H
   refine G.H8 mixed (fun w=>St w0 w (Box b5 31 [sV A24 a1 c25]::L)) [1] [0,2,1,3,4,5,6,7] [7] (by kernel_rfl) (by kernel_rfl) (HS.drew.pk 3 [1] Z) ?_
   replace HS:=HS.drew
   refine qL Z Z (fun _ _ g=>fL b5 0 Du Z g) Z (GX.ps 1 Z (GX.ls Z Z Z (HS.pk 3 [1] Z) (fun _ HS _ g=>lB 0 HS Z Gu Z g) Z (GX.l2 Z (fJ nV Z (Dh.calls HS (Ce.elem (rD 3 r_a) c47.1 c47.2) h49) (fun _ wd52 ⟨A50,c51,h53,HS⟩=>⟨_,h53,(GX.fin (HS.pk 4 [2] Z) (GX.l2 Z (GO.Cw (el:=77) ([sV A50 t48 c51]) HS Z Z (fun _=>by kernel_rfl) Z fun b54 wd55 HS=>GX.fin (HS.pk 5 [3] Z) (GX.l2 Z ?_))))⟩)))))
   replace HS:=HS.pk 5 [4,0,1,2,3] Z
   refine GO.Ul (S:=Ad) (u:=107) HS Z Z Z U29 Qb Z Z c59 Z fun A57 c58 y60 wd56 HS=>GX.fin (HS.pk 4 [3] Z) (qL Z Z (fun _ _ g=>fL b5 0 Du Z g) Z (GX.l2 Z (GO.Ie (j:=3) (vs:=[sV A57 (a1++[t48]) c58]) ([sV A57 (a1++[t48]) c58]) HS Z Z Z Z Z (htN Gu Z) Z Z Z fun wd61 HS=>GX.Qt Z (GX.nil (rN 3 Z (gW (i1 e1 (lR _) _ _ _ _ _ _ H (HS.pk 4 [2,3,0] Z)) Z))))))
  replace HS:=HS.Dm (Ty.slice 107 Ad) 77 (fun _=>⟨none,0,uu⟩)
  exact gW (g1 K (lR _) _ _ _ _ _ _ H (HS.pk 4 [2,1,0] Z)) Z
theorem F6.calls {kind r1:Int} (HS:St w0 w (L)) (H:F6.f K kind=some r1) :
    Calls prog 72 #[I kind] w (F6.post w0 L r1):=by
  unfold F6.f at H
  refine cG func72 Z ?_
  refine rN 9 Z ?_
  refine G.Ov (fun c1 d1=>?_)
  have a1:∀ b1,b1≤K→∀ (x2:Bool) (w:World),F6.j1 K b1 kind x2=some r1→St w0 w (L)→G prog 72 11 [(3,I kind),(4,.bool x2)] c1 w (F6.post w0 L r1):=by
   refine jp (fun _ w H _=>by rw [F6.j1] at H; cases H) fun f1 e1 x2 w H HS=>?_
   rw [F6.j1] at H
   subst d1
   rcases iE H with ⟨c3,H⟩ | ⟨c3,H⟩
   ·
    refine yB Z c3 (rN 2 Z ?_)
    obtain rfl:=sI H
    exact rT _ func72 Z Z ⟨Z,HS⟩
   refine nB Z (Db c3) (rN 2 Z ?_)
   rcases iE H with ⟨c4,H⟩ | ⟨c4,H⟩
   ·
    refine yB Z (tT c4) (rN 2 Z ?_)
    obtain rfl:=sI H
    exact rT _ func72 Z Z ⟨Z,HS⟩
   refine nB Z (tF c4) (rN 2 Z ?_)
   rcases iE H with ⟨c5,H⟩ | ⟨c5,H⟩
   ·
    refine yB Z (tT c5) (rN 2 Z ?_)
    obtain rfl:=sI H
    exact rT _ func72 Z Z ⟨Z,HS⟩
   refine nB Z (tF c5) (rN 4 Z ?_)
   obtain rfl:=sI H
   exact rT _ func72 Z Z ⟨Z,HS⟩
  rcases iE H with ⟨c6,H⟩ | ⟨c6,H⟩
  ·
   refine yB Z (tT c6) (G.skip (gW (a1 K (lR _) _ _ H HS) Z))
  refine nB Z (tF c6) (rN 1 Z (gW (a1 K (lR _) _ _ H HS) Z))
theorem Bi.calls {a1 c1:Int} {r1:Bool} (HS:St w0 w (L)) (H:Bi.f a1 c1=some r1) :
    Calls prog 91 #[.agg [I a1,I c1].toArray] w (Bi.post w0 L r1):=by
  unfold Bi.f at H
  refine cG func91 Z ?_
  refine sQ (rG (bA HS Z fun b1 wd2 HS=>aS Z (nL (sQ (rG (fL b1 0 Dp Z (lB 0 HS Z na2 Z (pS 2 Z (nL ?_)))))))))
  obtain rfl:=sI H
  exact rT _ func91 Z Z ⟨Z,(HS.pk 1 [] Z)⟩
theorem Gj.calls {news:Int} {old:List Int} {r1:List Int} {r2:List (Gq × Eg)} {r3:Int} {r4:List Gi} (HS:St w0 w (Own (Ar .i64) 2 A_a c_a uu old::L)) (H:Gj.f news old=some (r1,r2,r3,r4)) :
    Calls prog 136 #[I news,sV A_a old c_a] w (Gj.post w0 L r1 r2 r3 r4):=by
  unfold Gj.f at H
  refine cG func136 Z ?_
  refine rN 3 Z (rG (mV Z (GO.Qn Gh Ey HS Z Z fun b1 wd2 HS=>mV Z (GO.Dr (.agg [sV A_a old c_a,.map (some b1),I news,.slice none 0 0].toArray) Z Z (fun _=>by kernel_rfl) Z (bA HS Z fun b3 wd4 HS=>aS Z (nL ?_))))))
  replace HS:=HS.Dm Ip 131 uu
  obtain ⟨rfl,rfl,rfl,rfl⟩:=I8 H
  exact rT _ func136 Z Z ⟨_,_,_,_,_,_,Z,(HS.pk 4 [1,3,2,0] Z)⟩
theorem Eo.calls {n_:Int} {r1:List Int} (HS:St w0 w (L)) (H:Eo.f K n_=some r1) :
    Calls prog 144 #[I n_] w (Eo.post w0 L r1):=by
  unfold Eo.f at H
  refine cG func144 Z ?_
  refine rN 9 Z ?_
  refine G.name (fun f1 d1=>?_)
  have e1:∀ b1,b1≤K→∀ (A8:Option Addr) (c9:Nat) (a1:List Int) (x11:Int) (w:World),Eo.l1 K b1 n_ a1 x11=some r1→St w0 w (Own (Ar .i64) 2 A8 c9 uu a1::L)→G prog 144 15 [(3,sV A8 a1 c9),(5,I n_),(6,I x11)] f1 w (Eo.post w0 L r1):=by
   refine lp (fun _ _ _ _ w H _=>by rw [Eo.l1] at H; cases H) fun c1 h1 g1 A8 c9 a1 x11 w H HS=>?_
   rw [Eo.l1] at H
   subst d1
   refine rN 3 Z ?_
   rcases iS H with ⟨c19,H⟩ | ⟨c19,H⟩
   ·
    refine nB Z (tF c19) (rN 3 Z ?_)
    obtain rfl:=sI H
    exact rT _ func144 Z Z ⟨_,_,Z,HS⟩
   refine yB Z (tT c19) (rN 5 Z ?_)
   obtain ⟨c25,H⟩:=iN H
   refine rG (pS 2 Z (GO.Cw (el:=2) ([I x11]) HS Z Z (fun _=>by kernel_rfl) Z fun b20 wd21 HS=>GO.app1 (T:=(Ar .i64)) (j:=1) (jb:=0) x11 HS Z Z Ba Z Z Z U56 Ml Z Z Z c25 Z fun A23 c24 wd22 HS=>aS Z (nL (rN 3 Z (gW (g1 c1 (lR _) _ _ _ _ _ H (HS.pk 2 [1] Z)) Z)))))
  replace HS:=HS.Dm (Ar .i64) 2 uu
  exact gW (e1 K (lR _) _ _ _ _ _ H HS) Z
theorem Ch.calls {s:List Int} {v:Int} {r1:Int} (HS:St w0 w (L)) (r_a:Ce w0 L (Ar .i64) A_a c_a uu s) (H:Ch.f K s v=some r1) :
    Calls prog 126 #[sV A_a s c_a,I v] w (Ch.post w0 L r1):=by
  unfold Ch.f at H
  refine cG func126 Z ?_
  refine rN 4 Z (rG (mV Z (lS Z Z U56 Z (mV Z (nL (rN 2 Z ?_))))))
  refine G.name (fun e1 c1=>?_)
  have d1:∀ a1,a1≤K→∀ (x4:Int) (w:World),Ch.l1 K a1 s v x4=some r1→St w0 w (L)→G prog 126 19 [(0,sV A_a s c_a),(1,I v),(7,I (s.length:Int)),(8,I x4)] e1 w (Ch.post w0 L r1):=by
   refine lp (fun _ w H _=>by rw [Ch.l1] at H; cases H) fun b1 g1 f1 x4 w H HS=>?_
   rw [Ch.l1] at H
   subst c1
   refine rN 3 Z ?_
   rcases iS H with ⟨c8,H⟩ | ⟨c8,H⟩
   ·
    refine nB Z (tF c8) (rN 3 Z ?_)
    obtain rfl:=sI H
    exact rT _ func126 Z Z ⟨Z,HS⟩
   refine yB Z (tT c8) (rN 6 Z ?_)
   obtain ⟨c9,H⟩:=iN H
   refine rG (pS 3 Z (iX Z U56 sz2 (rk r_a HS) c9 (GO.Cj (T:=(Ar .i64)) (n:=x4.toNat) (o:=0) HS r_a Z Z (getD_some (d:=0) (ltN c9)) Z Z na2 Z (GO.eql Z Z Z Z (nL ?_)))))
   rcases iE H with ⟨c10,H⟩ | ⟨c10,H⟩
   ·
    refine yB Z (tT c10) (rN 2 Z ?_)
    obtain rfl:=sI H
    exact rT _ func126 Z Z ⟨Z,HS⟩
   refine nB Z (tF c10) (rN 4 Z (gW (f1 b1 (lR _) _ _ H HS) Z))
  exact gW (d1 K (lR _) _ _ H HS) Z
theorem Dk.calls {s:List Int} {v:Int} {r1:Bool} (HS:St w0 w (L)) (r_a:Ce w0 L (Ar .i64) A_a c_a uu s) (H:Dk.f K s v=some r1) :
    Calls prog 87 #[sV A_a s c_a,I v] w (Dk.post w0 L r1):=by
  unfold Dk.f at H
  refine cG func87 Z ?_
  refine rN 3 Z ?_
  obtain ⟨t1,h2,H⟩:=bI H
  refine rG (pS 2 Z (fJ fB Z (Ch.calls HS r_a h2) (fun _ wd3 ⟨h4,HS⟩=>⟨_,h4,(pS 2 Z (nL ?_))⟩)))
  obtain rfl:=sI H
  exact rT _ func87 Z Z ⟨Z,HS⟩
theorem Gt.calls {v:Int} {a1:List Int} {b1:Nat} {r1:Bool} (HS:St w0 w (Box b1 56 [sV A_a a1 c_a]::L)) (r_a:Ce w0 L (Ar .i64) A_a c_a uu a1) (H:Gt.f K v a1=some r1) :
    Calls prog 159 #[I v,pT b1] w (Gt.post w0 L a1 b1 A_a c_a r1):=by
  unfold Gt.f at H
  refine cG func159 Z ?_
  refine rN 3 Z ?_
  obtain ⟨t1,h2,H⟩:=bI H
  refine rG (lB 0 HS Z Ih Z (mV Z (fJ bY Z (Dk.calls HS (rD 1 r_a) h2) (fun _ wd3 ⟨h4,HS⟩=>⟨_,h4,(aS Z (nL ?_))⟩))))
  obtain rfl:=sI H
  exact rT _ func159 Z Z ⟨Z,HS⟩
theorem Ca.calls {s a1:List Int} {A_a:Option Addr} {c_a b1:Nat} {r1:Int} (HS:St w0 w (Box b1 56 [sV A_b a1 c_b]::L)) (r_a:Ce w0 L (Ar .i64) A_a c_a uu s) (r_b:Ce w0 L (Ar .i64) A_b c_b uu a1) (H:Ca.f K s a1=some r1) :
    Calls prog 102 #[sV A_a s c_a,.func (.func 159) #[] #[pT b1]] w (Ca.post w0 L a1 b1 A_b c_b r1):=by
  unfold Ca.f at H
  refine cG func102 Z ?_
  refine rN 4 Z (rG (mV Z (lS Z Z U56 Z (mV Z (nL (rN 2 Z ?_))))))
  refine G.name (fun g1 e1=>?_)
  have f1:∀ c1,c1≤K→∀ (x8:Int) (w:World),Ca.l1 K c1 s a1 x8=some r1→St w0 w (Box b1 56 [sV A_b a1 c_b]::L)→G prog 102 19 [(0,sV A_a s c_a),(1,.func (.func 159) #[] #[pT b1]),(7,I (s.length:Int)),(8,I x8)] g1 w (Ca.post w0 L a1 b1 A_b c_b r1):=by
   refine lp (fun _ w H _=>by rw [Ca.l1] at H; cases H) fun d1 i1 h1 x8 w H HS=>?_
   rw [Ca.l1] at H
   subst e1
   refine rN 3 Z ?_
   rcases iS H with ⟨c16,H⟩ | ⟨c16,H⟩
   ·
    refine nB Z (tF c16) (rN 3 Z ?_)
    obtain rfl:=sI H
    exact rT _ func102 Z Z ⟨Z,HS⟩
   refine yB Z (tT c16) (rN 6 Z ?_)
   obtain ⟨c17,H⟩:=iN H
   obtain ⟨t18,h19,H⟩:=bI H
   refine rG (pS 3 Z (iX Z U56 sz2 (rk (rD 1 r_a) HS) c17 (GO.Cj (T:=(Ar .i64)) (n:=x8.toNat) (o:=0) HS (rD 1 r_a) Z Z (getD_some (d:=0) (ltN c17)) Z Z na2 Z ?_)))
   replace HS:=HS.pk 1 [0] Z
   refine GO.clo Z Z func159 Vu.2.1 Vu.2.2 Z Z (Gt.calls HS r_b h19) (fun _ wd20 ⟨h21,HS⟩=>⟨_,h21,(nL ?_)⟩)
   rcases iE H with ⟨c22,H⟩ | ⟨c22,H⟩
   ·
    refine yB Z c22 (rN 2 Z ?_)
    obtain rfl:=sI H
    exact rT _ func102 Z Z ⟨Z,HS⟩
   refine nB Z (Db c22) (rN 4 Z (gW (h1 d1 (lR _) _ _ H HS) Z))
  exact gW (f1 K (lR _) _ _ H HS) Z
theorem Bt.calls {s c1:List Int} {A_a:Option Addr} {c_a d1:Nat} {r1:List Int} (HS:St w0 w (Own (Ar .i64) 2 A_a c_a uu s::Box d1 56 [sV A_b c1 c_b]::L)) (r_b:Ce w0 L (Ar .i64) A_b c_b uu c1) (H:Bt.f K s c1=some r1) :
    Calls prog 158 #[sV A_a s c_a,.func (.func 159) #[] #[pT d1]] w (Bt.post w0 L c1 d1 A_b c_b r1):=by
  unfold Bt.f at H
  refine cG func158 Z ?_
  refine rN 3 Z ?_
  obtain ⟨t1,h2,H⟩:=bI H
  refine rG (pS 2 Z ?_)
  replace HS:=HS.pk 2 [1,0] Z
  refine fJ sG Z (Ca.calls HS (ro 0 Z) (rD 1 r_b) h2) (fun _ wd3 ⟨h4,HS⟩=>⟨_,h4,(aS Z (nL (rN 3 Z ?_)))⟩)
  rcases iE H with ⟨c5,H⟩ | ⟨c5,H⟩
  ·
   refine yB Z (tT c5) (rN 2 Z ?_)
   obtain rfl:=sI H
   exact rT _ func158 Z Z ⟨_,_,Z,(HS.pk 2 [1,0] Z)⟩
  refine nB Z (tF c5) (rN 6 Z ?_)
  refine G.name (fun k1 h1=>?_)
  have i1:∀ f1,f1≤K→∀ (x19:List Int) (a1 b1:Int) (w:World),Bt.l1 K f1 c1 x19 a1 b1=some r1→St w0 w (Own (Ar .i64) 2 A_a c_a uu x19::Box d1 56 [sV A_b c1 c_b]::L)→G prog 158 42 [(0,sV A_a x19 c_a),(1,.func (.func 159) #[] #[pT d1]),(5,I a1),(6,I b1)] k1 w (Bt.post w0 L c1 d1 A_b c_b r1):=by
   refine lp (fun _ _ _ w H _=>by rw [Bt.l1] at H; cases H) fun e1 m1 g1 x19 a1 b1 w H HS=>?_
   rw [Bt.l1] at H
   subst h1
   refine rN 2 Z (rG (pS 2 Z (lS Z Z U56 Z (GO.lss Z Z Z Z (nL ?_)))))
   rcases iS H with ⟨c35,H⟩ | ⟨c35,H⟩
   ·
    refine nB Z (tF c35) (rN 2 Z ?_)
    obtain ⟨c44,H⟩:=iN H
    have h46:=U0 (xs:=x19) (z:=0) (dF (leN c44) (lR _))
    refine rG (pS 2 Z (GO.slL (T:=(Ar .i64)) HS (ro 0 Z) Z Z Z U56 sz2 c44.1 c44.2 Z (GO.eG (T:=(Ar .i64)) (j:=0) (l:=a1.toNat) 0 () HS Z Ba Z Z U56 zr2 Z Z (uF (lR _) ((ro 0 Z) _ HS).1) (dF (leN c44) (lR _)) (fun _=>Z) fun wd45 HS=>nL (G.len (t:=0) (m:=(over x19 a1.toNat (List.replicate ((x19.take x19.length).drop a1.toNat).length 0)).length) Z (by simp only [List.length_set,h46] <;> rfl) (sQ ?_)))))
    obtain ⟨c47,H⟩:=iN H
    refine rG (pS 2 Z (GO.slH (T:=(Ar .i64)) HS (ro 0 Z) Z Z Z U56 sz2 c47.1 c47.2 Z (aS Z (nL ?_))))
    replace HS:=HS.gK (A':=(Ke A_a 0 c_a 1)) (c':=(c_a - 0)) (j:=0) (l:=0) (h:=a1.toNat) (m:=c_a) Z (Nat.zero_le _) (leN c47) (Nat.le_trans (leN c47) ((ro 0 Z) _ HS).1) (lR _) Z Z
    obtain rfl:=sI H
    exact rT _ func158 Z Z ⟨_,_,Z,HS⟩
   refine yB Z (tT c35) (rN 4 Z ?_)
   obtain ⟨c36,H⟩:=iN H
   refine rG (pS 2 Z (iX Z U56 sz2 (rk (ro 0 Z) HS) c36 (GO.Cj (T:=(Ar .i64)) (n:=b1.toNat) (o:=0) HS (ro 0 Z) Z Z (getD_some (d:=0) (ltN c36)) Z Z na2 Z (aS Z (nL (sQ ?_))))))
   obtain ⟨t37,h38,H⟩:=bI H
   refine rG (pS 2 Z ?_)
   replace HS:=HS.pk 2 [1,0] Z
   refine GO.clo Z Z func159 Vu.2.1 Vu.2.2 Z Z (Gt.calls HS (rD 1 r_b) h38) (fun _ wd39 ⟨h40,HS⟩=>⟨_,h40,(GO.not Z Z Z (nL ?_))⟩)
   rcases iE H with ⟨c41,H⟩ | ⟨c41,H⟩
   ·
    refine nB Z (congrArg Bool.not c41) (rN 4 Z (gW (g1 e1 (lR _) _ _ _ _ H (HS.pk 2 [1,0] Z)) Z))
   refine yB Z (congrArg Bool.not (Db c41)) (sQ ?_)
   obtain ⟨c42,H⟩:=iN H
   refine rG (pS 3 Z (iX Z U56 sz2 (rk (ro 1 Z) HS) c42 (GO.Ii (T:=(Ar .i64)) (j:=1) (n:=a1.toNat) (o:=0) (vs:=[I (x19.getD b1.toNat 0)]) (x19.getD b1.toNat 0) HS Z Ba Z Z Z Z (htN na2 Z) Z (getD_some (d:=0) (ltN c42)) Z Z fun wd43 HS=>nL (G.len (t:=0) (m:=(x19.set a1.toNat (x19.getD b1.toNat 0)).length) Z (by simp only [List.length_set] <;> rfl) (rN 4 Z (gW (g1 e1 (lR _) _ _ _ _ H (HS.pk 2 [1,0] Z)) Z))))))
  exact gW (i1 K (lR _) _ _ _ _ H (HS.pk 2 [1,0] Z)) Z
theorem Fb.calls {not:List Int} {r1:List Int} (HS:St w0 w (L)) (r_a:Ce w0 L (Ar .i64) A_a c_a uu not) (H:Fb.f K not=some r1) :
    Calls prog 137 #[sV A_a not c_a] w (Fb.post w0 L r1):=by
  unfold Fb.f at H
  refine cG func137 Z ?_
  refine sQ (rG (GO.box (cs:=[sV A_a not c_a]) HS Z Z Z Z fun b1 wd2 HS=>aS Z (nL (sQ ?_))))
  obtain ⟨t3,h4,H⟩:=bI H
  obtain ⟨t9,h10,H⟩:=bI H
  refine rG (fJ Xb Z (Eo.calls HS  h4) (fun _ wd7 ⟨A5,c6,h8,HS⟩=>⟨_,h8,(GO.Q6 Z Z Z Z ?_)⟩))
  replace HS:=HS.pk 2 [0,1] Z
  refine fJ sP Z (Bt.calls HS r_a h10) (fun _ wd13 ⟨A11,c12,h14,HS⟩=>⟨_,h14,(aS Z (nL ?_))⟩)
  obtain rfl:=sI H
  exact rT _ func137 Z Z ⟨_,_,Z,(HS.pk 2 [0] Z)⟩
theorem Fj.calls {a1:List Int} {k1:List (Gq × Eg)} {d1:Int} {c1:List Gi} {tet Cg:Int} {to g1:Int} {f1 h1 i1:Int} {b_c:Nat} {A_a:Option Addr} {c_a e1:Nat} {r1:List (Gq × Eg)} (HS:St w0 w (Box b_c 104 [sV A_a a1 c_a,.map (some e1),I d1,sV A_b c1 c_b]::Ir e1 Gh Ey k1::L)) (r_a:Ce w0 L (Ar .i64) A_a c_a uu a1) (r_b:Ce w0 L Ip A_b c_b uu c1) (H:Fj.f K a1 k1 d1 c1 tet Cg to g1 f1 h1 i1=some r1) :
    Calls prog 138 #[pT b_c,I tet,I Cg,I to,.agg [I g1,I f1,I h1,I i1].toArray] w (Fj.post w0 L a1 d1 c1 b_c A_a c_a e1 A_b c_b r1):=by
  unfold Fj.f at H
  refine cG func138 Z ?_
  refine sQ (rG (bA HS Z fun b1 wd2 HS=>nL ?_))
  obtain ⟨t3,h4,H⟩:=bI H
  refine G.H8 mixed (fun w=>St w0 w (Box b1 131 [I g1,I f1,I h1,I i1]::Box b_c 104 [sV A_a a1 c_a,.map (some e1),I d1,sV A_b c1 c_b]::L)) [3,8] [0,1,2,4,5,6,7,3,8,9,10,11] [] (by kernel_rfl) (by kernel_rfl) (HS.drew.pk 3 [0,1] Z) ?_
  replace HS:=HS.drew
  refine GX.ps 1 Z (qL Z Z (fun _ _ g=>GO.Ou Z Z Z g) Z (qL Z Z (fun _ _ g=>fL b_c 1 Wy Z g) Z (GX.ps 2 Z (qL Z Z (fun _ _ g=>GO.Dr (.agg [I tet,I Cg].toArray) Z Z (fun _=>by kernel_rfl) Z g) Z (GX.ps 1 Z (GX.ls Z Z Z (HS.pk 3 [0,1] Z) (fun _ HS _ g=>lB 1 HS Z gJ Z g) Z (GX.ls Z Z Z (HS.pk 3 [0,1] Z) (fun _ HS _ g=>lW 0 HS Z Ki g) Z (GX.l2 Z (fJ Q8 Z (Cu.calls HS  h4) (fun _ wd5 ⟨h6,HS⟩=>⟨_,h6,(GX.fin (HS.pk 3 [0,1] Z) (qL Z Z (fun _ _ g=>GO.Dr (.agg [I to,I t3].toArray) Z Z (fun _=>by kernel_rfl) Z g) Z (GX.l2 Z (GO.iM (⟨tet,Cg⟩:Gq) (⟨to,t3⟩:Eg) Tm HS (j:=2) Z Z Z Z Z sM fun wd7 HS=>GX.fin (HS.pk 3 [0,1] Z) ?_))))⟩))))))))))
  refine GX.nil ?_
  obtain rfl:=sI H
  exact G.Pz func138 Z ⟨Z,(HS.pk 3 [1,2] Z)⟩
theorem Gv.calls {i j_ r1:Int} (HS:St w0 w (L)) (H:Gv.f K i j_=some r1) :
    Calls prog 139 #[I i,I j_] w (Gv.post w0 L r1):=by
  unfold Gv.f at H
  refine cG func139 Z ?_
  refine rN 3 Z (rG (GO.Dr (.agg [I 0,I 1,I 2,I 3].toArray) Z Z (fun _=>by kernel_rfl) Z (GO.alloc HS Z Ld Z Z fun b1 wd2 HS=>sW 0 HS Z Ki Z fun wd3 HS=>nL (sQ ?_))))
  obtain ⟨c4,H⟩:=iN H
  obtain ⟨c6,H⟩:=iN H
  refine rG (pS 4 Z (GO.ixW Z Z Z Hf sz2 c4 Z (GO.stW (j:=0) (o:=0) (sz:=1) (vs:=[I j_]) (fun u_=>[I (se 0 u_ j_ 0),I (se 1 u_ j_ 1),I (se 2 u_ j_ 2),I (se 3 u_ j_ 3)]) HS Z Z Z Z Z c4 (htN na2 Z) Z Z (four Z Z Z Z) fun wd5 HS=>GO.ixW Z Z Z Hf sz2 c6 Z (GO.stW (j:=0) (o:=0) (sz:=1) (vs:=[I i]) (fun u_=>[I (se 0 u_ i (se 0 i j_ 0)),I (se 1 u_ i (se 1 i j_ 1)),I (se 2 u_ i (se 2 i j_ 2)),I (se 3 u_ i (se 3 i j_ 3))]) HS Z Z Z Z Z c6 (htN na2 Z) Z Z (four Z Z Z Z) fun wd7 HS=>nL (sQ ?_)))))
  obtain ⟨t8,h9,H⟩:=bI H
  refine rG (lW 0 HS Z Ki (fJ Q8 Z (Cu.calls HS  h9) (fun _ wd10 ⟨h11,HS⟩=>⟨_,h11,(aS Z (nL ?_))⟩)))
  obtain rfl:=sI H
  exact rT _ func139 Z Z ⟨Z,(HS.pk 1 [] Z)⟩
theorem Cc.calls {d1:List (List Ab)} {a_ f:Int} {y_a:Nat→(Ty.slice 107 Ad).Lay} {r1:Option (List Int × List (Gq × Eg) × Int × List Gi)} (HS:St w0 w (L)) (r_a:Ce w0 L (Ty.slice 107 Ad) A_a c_a y_a d1) (H:Cc.f K d1 a_ f=some r1) :
    Calls prog 111 #[.agg [sV A_a d1 c_a].toArray,I a_,I f] w (Cc.post w0 L r1):=by
  unfold Cc.f at H
  refine cG func111 Z ?_
  refine sQ (rG (bA HS Z fun b1 wd2 HS=>aS Z (nL (sQ ?_))))
  obtain ⟨c3,H⟩:=iN H
  obtain ⟨c4,H⟩:=iN H
  obtain ⟨e5,h6,H⟩:=Di H
  refine rG (fL b1 0 Du Z (lB 0 HS Z Gu Z (mV Z (iX Z U29 Jg (rk (rD 1 r_a) HS) c3 (GO.Cj (T:=(Ty.slice 107 Ad)) (n:=a_.toNat) (o:=0) HS (rD 1 r_a) Z Z (getD_some (d:=[]) (ltN c3)) Z Z Jh Z (mV Z (GO.ix Z Z Z U77 G9 ((Ce.elem (rD 1 r_a) c3.1 c3.2) _ HS).2.2.1 c4.1 c4.2 Z (GO.Hw (T:=Ad) (n:=f.toNat) HS (Ce.elem (rD 1 r_a) c3.1 c3.2) Z Z (Cn (ltN c4) h6) D9 Z (GO.alloc HS Z Jz Z Z fun b7 wd8 HS=>sW 0 HS Z D9 Z fun wd9 HS=>nL (rN 2 Z ?_))))))))))
  obtain ⟨t15,h16,H⟩:=bI H
  rcases iE H with ⟨c19,H⟩ | ⟨c19,H⟩
  ·
   refine rG (lW 0 HS Z D9 (fJ Nr Z (Bi.calls HS  h16) (fun _ wd17 ⟨h18,HS⟩=>⟨_,h18,(mV Z (kN 27 Z c19 (oF Z (oF Z (oF Z (oF Z (GO.Iz Z Z Z Z Z (nL (rN 3 Z ?_)))))))))⟩)))
   replace HS:=HS.emp
   obtain rfl:=sI H
   exact rT _ func111 Z Z ⟨0,none,0,0,none,0,Z,(HS.pk 3 [0] Z)⟩
  refine rG (lW 0 HS Z D9 (fJ Nr Z (Bi.calls HS  h16) (fun _ wd17 ⟨h18,HS⟩=>⟨_,h18,(mV Z (kN 27 Z (Db c19) (oN Z (fL b7 0 Dp Z (bK (oN Z (lB 0 HS Z na2 Z (bK (oN Z (mV Z (bK (oN Z ?_))))))))))))⟩)))
  refine GO.eql Z Z Z Z (bK (GO.Jm Z Z Z Z Z (nL ?_)))
  rcases iE H with ⟨c20,H⟩ | ⟨c20,H⟩
  ·
   refine yB Z (tT c20) (rN 2 Z ?_)
   replace HS:=HS.emp
   obtain rfl:=sI H
   exact rT _ func111 Z Z ⟨0,none,0,0,none,0,Z,(HS.pk 3 [0] Z)⟩
  refine nB Z (tF c20) (rN 2 Z ?_)
  obtain ⟨t23,t24,t25,t26,h27,H⟩:=D8 H
  refine rG (mV Z (fL b7 0 Dp Z (lB 0 HS Z na2 Z (GO.Cw (el:=2) ([I a_,I e5.Tet]) HS Z Z (fun _=>by kernel_rfl) Z fun b21 wd22 HS=>?_))))
  replace HS:=HS.Fq (T:=(Ar .i64)) (j:=0) Z Ba uu ([a_,e5.Tet]:List Int) Z (Il Z)
  refine GO.H7 (t:=36) (m:=([a_,e5.Tet]:List Int).length) (c':=([a_,e5.Tet]:List Int).length) Z Z Z ?_
  replace HS:=HS.pk 3 [0,1,2] Z
  refine fJ Vv Z (Gj.calls HS  h27) (fun _ wd34 ⟨b28,A29,c30,b31,A32,c33,h35,HS⟩=>⟨_,h35,(aS Z (nL (sQ ?_)))⟩)
  obtain ⟨t36,t37,t38,t39,h40,H⟩:=D8 H
  obtain ⟨t45,h46,H⟩:=bI H
  refine rG (fL b7 1 Gn Z (lB 4 HS Z na2 Z (fJ Lc Z (Ct.calls HS  h40) (fun _ wd41 ⟨h42,HS⟩=>⟨_,h42,(mV Z (GO.Cw (el:=2) ([I f]) HS Z Z (fun _=>by kernel_rfl) Z fun b43 wd44 HS=>?_))⟩))))
  replace HS:=HS.Fq (T:=(Ar .i64)) (j:=0) Z Ba uu ([f]:List Int) Z (Il Z)
  refine GO.H7 (t:=42) (m:=([f]:List Int).length) (c':=([f]:List Int).length) Z Z Z (fJ Qs Z (Fb.calls HS (ro 0 Z) h46) (fun _ wd49 ⟨A47,c48,h50,HS⟩=>⟨_,h50,(GO.alloc HS Z Ld Z Z fun b51 wd52 HS=>sW 0 HS Z Ki Z fun wd53 HS=>aS Z (nL (rN 5 Z ?_)))⟩))
  refine G.name (fun i1 g1=>?_)
  have h1:∀ e1,e1≤K→∀ (c1:List (Gq × Eg)) (A100:Option Addr) (c101:Nat) (a1:List Gi) (x103:Int) (w:World),Cc.l1 K e1 a_ f e5 t23 t25 t36 t37 t38 t39 t45 c1 a1 x103=some r1→St w0 w (Box b7 107 [I e5.Tet,I e5.Perm]::Box b28 104 [sV A29 t23 c30,.map (some b31),I t25,sV A100 a1 c101]::Own (Ar .i64) 2 A29 c30 uu t23::Ir b31 Gh Ey c1::Own Ip 131 A100 c101 uu a1::Box b51 131 [I t36,I t37,I t38,I t39]::Own (Ar .i64) 2 A47 c48 uu t45::L)→G prog 111 119 [(1,I a_),(2,I f),(7,pT b7),(8,pT b28),(9,pT b51),(10,sV A47 t45 c48),(44,I x103)] i1 w (Cc.post w0 L r1):=by
   refine lp (fun _ _ _ _ _ w H _=>by rw [Cc.l1] at H; cases H) fun f1 m1 k1 c1 A100 c101 a1 x103 w H HS=>?_
   rw [Cc.l1] at H
   subst g1
   refine rN 3 Z ?_
   rcases iS H with ⟨c150,H⟩ | ⟨c150,H⟩
   ·
    refine nB Z (tF c150) (rN 3 Z ?_)
    replace HS:=HS.pk 7 [1,2,3,4,0,5,6] Z
    replace HS:=St.opt (F:=(fun x=>[Box b28 104 [.slice A29 x.1.length c30,.map (some b31),I x.2.2.1,.slice A100 x.2.2.2.length c101],Own (Ar .i64) 2 A29 c30 uu x.1,Ir b31 Gh Ey x.2.1,Own Ip 131 A100 c101 uu x.2.2.2])) (t23,c1,t25,a1) HS Z
    obtain rfl:=sI H
    exact rT _ func111 Z Z ⟨_,_,_,_,_,_,Z,(HS.pk 4 [0] Z)⟩
   refine yB Z (tT c150) (rN 6 Z ?_)
   obtain ⟨c151,H⟩:=iN H
   have h152:=(rk (ro 6 Z) HS)
   obtain ⟨c153,H⟩:=iN H
   have h154:=(rk (ro 6 Z) HS)
   obtain ⟨c155,H⟩:=iN H
   have h156:=(rk (ro 6 Z) HS)
   refine G.lex mixed [0,1,2,4,5,6,7,8,10,11,12,13,14,3,16,9,17,15,18] (by kernel_rfl) ?_
   replace HS:=HS.drew
   refine GX.ps 2 Z (qL Z Z (fun _ _ g=>iX Z U56 sz2 h152 c151 g) Z (GX.ps 3 Z (qL Z Z (fun _ _ g=>GO.rem Z Z Z (by decide) Z g) Z (qL Z Z (fun _ _ g=>iX Z U56 sz2 h154 c153 g) Z (GX.ps 3 Z (qL Z Z (fun _ _ g=>GO.rem Z Z Z (by decide) Z g) Z (qL Z Z (fun _ _ g=>iX Z U56 sz2 h156 c155 g) Z (GX.l1 Z Z Z (fun _ g=>GO.Cj (T:=(Ar .i64)) (n:=x103.toNat) (o:=0) HS (ro 6 Z) Z Z (getD_some (d:=0) (ltN c151)) Z Z na2 Z g) Z (GX.ps 1 Z (GX.l1 Z Z Z (fun _ g=>GO.Cj (T:=(Ar .i64)) (n:=((w64 (x103+1)).tmod 3).toNat) (o:=0) HS (ro 6 Z) Z Z (getD_some (d:=0) (ltN c153)) Z Z na2 Z g) Z (GX.ps 1 Z (GX.l1 Z Z Z (fun _ g=>GO.Cj (T:=(Ar .i64)) (n:=((w64 (x103+2)).tmod 3).toNat) (o:=0) HS (ro 6 Z) Z Z (getD_some (d:=0) (ltN c155)) Z Z na2 Z g) Z (GX.ps 1 Z (GX.nil ?_))))))))))))))
   refine sQ (rG (GO.alloc HS Z Ld Z Z fun b157 wd158 HS=>GO.alloc HS Z Ld Z Z fun b159 wd160 HS=>nL (sQ ?_)))
   obtain ⟨c161,H⟩:=iN H
   obtain ⟨c163,H⟩:=iN H
   obtain ⟨c165,H⟩:=iN H
   obtain ⟨c167,H⟩:=iN H
   refine rG (pS 4 Z (GO.ixW Z Z Z Hf sz2 c161 Z (GO.stW (j:=1) (o:=0) (sz:=1) (vs:=[I 0]) (fun u_=>[I (se 0 u_ 0 0),I (se 1 u_ 0 0),I (se 2 u_ 0 0),I (se 3 u_ 0 0)]) HS Z Z Z Z Z c161 (htN na2 Z) Z Z (four Z Z Z Z) fun wd162 HS=>GO.ixW Z Z Z Hf sz2 c163 Z (GO.stW (j:=1) (o:=0) (sz:=1) (vs:=[I 1]) (fun u_=>[I (se 0 u_ 1 (se 0 f 0 0)),I (se 1 u_ 1 (se 1 f 0 0)),I (se 2 u_ 1 (se 2 f 0 0)),I (se 3 u_ 1 (se 3 f 0 0))]) HS Z Z Z Z Z c163 (htN na2 Z) Z Z (four Z Z Z Z) fun wd164 HS=>GO.ixW Z Z Z Hf sz2 c165 Z (GO.stW (j:=1) (o:=0) (sz:=1) (vs:=[I 2]) (fun u_=>[I (se 0 u_ 2 (se 0 (t45.getD x103.toNat 0) 1 (se 0 f 0 0))),I (se 1 u_ 2 (se 1 (t45.getD x103.toNat 0) 1 (se 1 f 0 0))),I (se 2 u_ 2 (se 2 (t45.getD x103.toNat 0) 1 (se 2 f 0 0))),I (se 3 u_ 2 (se 3 (t45.getD x103.toNat 0) 1 (se 3 f 0 0)))]) HS Z Z Z Z Z c165 (htN na2 Z) Z Z (four Z Z Z Z) fun wd166 HS=>GO.ixW Z Z Z Hf sz2 c167 Z (GO.stW (j:=1) (o:=0) (sz:=1) (vs:=[I 3]) (fun u_=>[I (se 0 u_ 3 (se 0 (t45.getD (((w64 (x103+1)).tmod 3).toNat) 0) 2 (se 0 (t45.getD x103.toNat 0) 1 (se 0 f 0 0)))),I (se 1 u_ 3 (se 1 (t45.getD (((w64 (x103+1)).tmod 3).toNat) 0) 2 (se 1 (t45.getD x103.toNat 0) 1 (se 1 f 0 0)))),I (se 2 u_ 3 (se 2 (t45.getD (((w64 (x103+1)).tmod 3).toNat) 0) 2 (se 2 (t45.getD x103.toNat 0) 1 (se 2 f 0 0)))),I (se 3 u_ 3 (se 3 (t45.getD (((w64 (x103+1)).tmod 3).toNat) 0) 2 (se 3 (t45.getD x103.toNat 0) 1 (se 3 f 0 0))))]) HS Z Z Z Z Z c167 (htN na2 Z) Z Z (four Z Z Z Z) fun wd168 HS=>nL (sQ ?_)))))))
   obtain ⟨c169,H⟩:=iN H
   obtain ⟨c171,H⟩:=iN H
   obtain ⟨c173,H⟩:=iN H
   obtain ⟨c175,H⟩:=iN H
   refine G.H8 mixed (fun w=>St w0 w (Box b51 131 [I t36,I t37,I t38,I t39]::L)) [2,5,8,11] [0,1,3,4,6,7,9,10,2,12,5,8,11,13,14,15,16,17,18,19] [] (by kernel_rfl) (by kernel_rfl) (HS.drew.pk 9 [7] Z) ?_
   replace HS:=HS.drew
   refine GX.ps 1 Z (qL Z Z (fun _ _ g=>GO.ixW Z Z Z Hf sz2 c161 Z g) Z (GX.ps 1 Z (qL Z Z (fun _ _ g=>GO.ixW Z Z Z Hf sz2 c163 Z g) Z (GX.ps 1 Z (qL Z Z (fun _ _ g=>GO.ixW Z Z Z Hf sz2 c165 Z g) Z (GX.ps 1 Z (qL Z Z (fun _ _ g=>GO.ixW Z Z Z Hf sz2 c167 Z g) Z (GX.ls Z Z Z (HS.pk 9 [7] Z) (fun _ HS _ g=>GO.ldW (j:=0) ([t36,t37,t38,t39]:List Int) HS Z Z Z c161 Z Z na2 Z g) Z (qL Z Z (fun _ _ g=>GO.ixW Z Z Z Hf sz2 c169 Z g) Z (GX.ls Z Z Z (HS.pk 9 [7] Z) (fun _ HS _ g=>GO.ldW (j:=0) ([t36,t37,t38,t39]:List Int) HS Z Z Z c163 Z Z na2 Z g) Z (GX.ls Z Z Z (HS.pk 9 [7] Z) (fun _ HS _ g=>GO.ldW (j:=0) ([t36,t37,t38,t39]:List Int) HS Z Z Z c165 Z Z na2 Z g) Z (GX.ls Z Z Z (HS.pk 9 [7] Z) (fun _ HS _ g=>GO.ldW (j:=0) ([t36,t37,t38,t39]:List Int) HS Z Z Z c167 Z Z na2 Z g) Z (GX.l2 Z (GO.stW (j:=0) (o:=0) (sz:=1) (vs:=[I 1]) (fun u_=>[I (se 0 u_ 1 0),I (se 1 u_ 1 0),I (se 2 u_ 1 0),I (se 3 u_ 1 0)]) HS Z Z Z Z Z c169 (htN na2 Z) Z Z (four Z Z Z Z) fun wd170 HS=>?_))))))))))))))
   refine GX.fin (HS.pk 9 [7] Z) (qL Z Z (fun _ _ g=>GO.ixW Z Z Z Hf sz2 c171 Z g) Z (GX.l2 Z (GO.stW (j:=0) (o:=0) (sz:=1) (vs:=[I 0]) (fun u_=>[I (se 0 u_ 0 (se 0 (([t36,t37,t38,t39]:List Int).getD f.toNat 0) 1 0)),I (se 1 u_ 0 (se 1 (([t36,t37,t38,t39]:List Int).getD f.toNat 0) 1 0)),I (se 2 u_ 0 (se 2 (([t36,t37,t38,t39]:List Int).getD f.toNat 0) 1 0)),I (se 3 u_ 0 (se 3 (([t36,t37,t38,t39]:List Int).getD f.toNat 0) 1 0))]) HS Z Z Z Z Z c171 (htN na2 Z) Z Z (four Z Z Z Z) fun wd172 HS=>GX.fin (HS.pk 9 [7] Z) (qL Z Z (fun _ _ g=>GO.ixW Z Z Z Hf sz2 c173 Z g) Z (GX.l2 Z (GO.stW (j:=0) (o:=0) (sz:=1) (vs:=[I 2]) (fun u_=>[I (se 0 u_ 2 (se 0 (([t36,t37,t38,t39]:List Int).getD (t45.getD x103.toNat 0).toNat 0) 0 (se 0 (([t36,t37,t38,t39]:List Int).getD f.toNat 0) 1 0))),I (se 1 u_ 2 (se 1 (([t36,t37,t38,t39]:List Int).getD (t45.getD x103.toNat 0).toNat 0) 0 (se 1 (([t36,t37,t38,t39]:List Int).getD f.toNat 0) 1 0))),I (se 2 u_ 2 (se 2 (([t36,t37,t38,t39]:List Int).getD (t45.getD x103.toNat 0).toNat 0) 0 (se 2 (([t36,t37,t38,t39]:List Int).getD f.toNat 0) 1 0))),I (se 3 u_ 2 (se 3 (([t36,t37,t38,t39]:List Int).getD (t45.getD x103.toNat 0).toNat 0) 0 (se 3 (([t36,t37,t38,t39]:List Int).getD f.toNat 0) 1 0)))]) HS Z Z Z Z Z c173 (htN na2 Z) Z Z (four Z Z Z Z) fun wd174 HS=>GX.fin (HS.pk 9 [7] Z) (qL Z Z (fun _ _ g=>GO.ixW Z Z Z Hf sz2 c175 Z g) Z (GX.l2 Z (GO.stW (j:=0) (o:=0) (sz:=1) (vs:=[I 3]) (fun u_=>[I (se 0 u_ 3 (se 0 (([t36,t37,t38,t39]:List Int).getD (t45.getD (((w64 (x103+1)).tmod 3).toNat) 0).toNat 0) 2 (se 0 (([t36,t37,t38,t39]:List Int).getD (t45.getD x103.toNat 0).toNat 0) 0 (se 0 (([t36,t37,t38,t39]:List Int).getD f.toNat 0) 1 0)))),I (se 1 u_ 3 (se 1 (([t36,t37,t38,t39]:List Int).getD (t45.getD (((w64 (x103+1)).tmod 3).toNat) 0).toNat 0) 2 (se 1 (([t36,t37,t38,t39]:List Int).getD (t45.getD x103.toNat 0).toNat 0) 0 (se 1 (([t36,t37,t38,t39]:List Int).getD f.toNat 0) 1 0)))),I (se 2 u_ 3 (se 2 (([t36,t37,t38,t39]:List Int).getD (t45.getD (((w64 (x103+1)).tmod 3).toNat) 0).toNat 0) 2 (se 2 (([t36,t37,t38,t39]:List Int).getD (t45.getD x103.toNat 0).toNat 0) 0 (se 2 (([t36,t37,t38,t39]:List Int).getD f.toNat 0) 1 0)))),I (se 3 u_ 3 (se 3 (([t36,t37,t38,t39]:List Int).getD (t45.getD (((w64 (x103+1)).tmod 3).toNat) 0).toNat 0) 2 (se 3 (([t36,t37,t38,t39]:List Int).getD (t45.getD x103.toNat 0).toNat 0) 0 (se 3 (([t36,t37,t38,t39]:List Int).getD f.toNat 0) 1 0))))]) HS Z Z Z Z Z c175 (htN na2 Z) Z Z (four Z Z Z Z) fun wd176 HS=>GX.fin (HS.pk 9 [7] Z) (GX.nil (sQ ?_)))))))))))
   obtain ⟨t177,h178,H⟩:=bI H
   refine rG (pS 4 Z (lW 1 HS Z Ki ?_))
   replace HS:=HS.pk 9 [3,5,0,1,2,4,6,7,8] Z
   refine fJ Qx Z (Fj.calls HS (ro 3 Z) (ro 4 Z) h178) (fun _ wd179 ⟨h180,HS⟩=>⟨_,h180,(nL (sQ ?_))⟩)
   obtain ⟨t181,h182,H⟩:=bI H
   refine G.lex mixed [0,1,3,4,6,2,5,7,8] (by kernel_rfl) ?_
   replace HS:=HS.drew
   refine GX.ps 1 Z (qL Z Z (fun _ _ g=>fL b7 0 Dp Z g) Z (GX.ps 1 Z (qL Z Z (fun _ _ g=>GO.ixW Z Z Z Hf sz2 c163 Z g) Z (GX.ps 1 Z (GX.l1 Z Z Z (fun _ g=>lB 4 HS Z na2 Z g) Z (GX.l1 Z Z Z (fun _ g=>GO.ldW (j:=7) ([t36,t37,t38,t39]:List Int) HS Z Z Z c163 Z Z na2 Z g) Z (GX.l1 Z Z Z (fun _ g=>lW 2 HS Z Ki g) Z (GX.l2 Z ?_))))))))
   replace HS:=HS.pk 9 [0,1,2,3,4,5,6,7,8] Z
   refine fJ Qx Z (Fj.calls HS (ro 3 Z) (ro 4 Z) h182) (fun _ wd183 ⟨h184,HS⟩=>⟨_,h184,(GX.fin tv (GX.nil ?_))⟩)
   obtain ⟨t185,h186,H⟩:=bI H
   obtain ⟨c194,H⟩:=iN H
   refine G.H8 mixed (fun w=>St w0 w (Box b28 104 [sV A29 t23 c30,.map (some b31),I t25,sV A100 a1 c101]::L)) [4] [0,1,2,3,5,6,7,8,4,9,10,11,12,13,14,15] [15] (by kernel_rfl) (by kernel_rfl) (HS.drew.pk 9 [0] Z) ?_
   replace HS:=HS.drew
   refine GX.ps 2 Z (qL Z Z (fun _ _ g=>GO.Ou Z Z Z g) Z (qL Z Z (fun _ _ g=>fL b28 3 O7 Z g) Z (GX.ps 3 Z (qL Z Z (fun _ _ g=>GO.rem Z Z Z (by decide) Z g) Z (GX.ls Z Z Z (HS.pk 9 [0] Z) (fun _ HS _ g=>lB 0 HS Z Vk Z g) Z (GX.l2 Z (fJ V9 Z (Gv.calls HS  h186) (fun _ wd187 ⟨h188,HS⟩=>⟨_,h188,(GX.fin (HS.pk 9 [0] Z) (qL Z Z (fun _ _ g=>GO.Dr (.agg [I x103,I 2,I ((w64 (x103+1)).tmod 3),I t185].toArray) Z Z (fun _=>by kernel_rfl) Z g) Z (GX.l2 Z (GO.Cw (el:=131) ([I x103,I 2,I ((w64 (x103+1)).tmod 3),I t185]) HS Z Z (fun _=>by kernel_rfl) Z fun b189 wd190 HS=>GX.fin (HS.pk 10 [1] Z) (GX.l2 Z (GO.app1 (T:=Ip) (j:=7) (jb:=0) (⟨x103,2,(w64 (x103+1)).tmod 3,t185⟩:Gi) HS Z Z Ba Z Z Z mD jI Z Z Z c194 Z fun A192 c193 wd191 HS=>?_))))))⟩))))))))
   refine GX.fin (HS.pk 10 [1] Z) (qL Z Z (fun _ _ g=>GO.Ou Z Z Z g) Z (qL Z Z (fun _ _ g=>fL b28 3 O7 Z g) Z (GX.l2 Z (GO.Ie (j:=1) (vs:=[sV A192 (a1++[(⟨x103,2,(w64 (x103+1)).tmod 3,t185⟩:Gi)]) c193]) ([sV A29 t23 c30,.map (some b31),I t25,sV A192 (a1++[(⟨x103,2,(w64 (x103+1)).tmod 3,t185⟩:Gi)]) c193]) HS Z Z Z Z Z (htN Vk Z) Z Z Z fun wd195 HS=>GX.Qt Z (GX.nil (rN 3 Z (gW (k1 f1 (lR _) _ _ _ _ _ _ H (HS.pk 10 [5,1,6,2,7,8,9] Z)) Z)))))))
  exact gW (h1 K (lR _) _ _ _ _ _ _ H (HS.pk 9 [7,3,4,5,6,0,1] Z)) Z
theorem Gm.calls {e_ r1 r2:Int} (HS:St w0 w (L)) (H:Gm.f K e_=some (r1,r2)) :
    Calls prog 150 #[I e_] w (Gm.post w0 L r1 r2):=by
  unfold Gm.f at H
  refine cG func150 Z ?_
  refine rN 7 Z ?_
  refine G.name (fun e1 c1=>?_)
  have d1:∀ a1,a1≤K→∀ (e_2 x3:Int) (w:World),Gm.l1 K a1 e_2 x3=some (r1,r2)→St w0 w (L)→G prog 150 23 [(0,I e_2),(6,I x3)] e1 w (Gm.post w0 L r1 r2):=by
   refine lp (fun _ _ w H _=>by rw [Gm.l1] at H; cases H) fun b1 g1 f1 e_2 x3 w H HS=>?_
   rw [Gm.l1] at H
   subst c1
   refine rN 3 Z ?_
   rcases iS H with ⟨c6,H⟩ | ⟨c6,H⟩
   ·
    refine nB Z (tF c6) (rN 3 Z ?_)
    obtain ⟨rfl,rfl⟩:=H9 H
    exact G.Hy _ _ func150 Z Z Z ⟨Z,HS⟩
   refine yB Z (tT c6) (rN 9 Z ?_)
   rcases iE H with ⟨c7,H⟩ | ⟨c7,H⟩
   ·
    refine yB Z (tT c7) (rN 2 Z ?_)
    obtain ⟨rfl,rfl⟩:=H9 H
    exact G.Hy _ _ func150 Z Z Z ⟨Z,HS⟩
   refine nB Z (tF c7) (rN 4 Z (gW (f1 b1 (lR _) _ _ _ H HS) Z))
  exact gW (d1 K (lR _) _ _ _ H HS) Z
theorem Ha.calls {a_ b_ r1:Int} (HS:St w0 w (L)) (H:Ha.f K a_ b_=some r1) :
    Calls prog 151 #[I a_,I b_] w (Ha.post w0 L r1):=by
  unfold Ha.f at H
  refine cG func151 Z ?_
  refine rN 5 Z ?_
  refine G.Ov (fun c1 d1=>?_)
  have a1:∀ b1,b1≤K→∀ (a_2 b_3:Int) (w:World),Ha.j1 K b1 a_2 b_3=some r1→St w0 w (L)→G prog 151 20 [(0,I a_2),(1,I b_3)] c1 w (Ha.post w0 L r1):=by
   refine jp (fun _ _ w H _=>by rw [Ha.j1] at H; cases H) fun f1 e1 a_2 b_3 w H HS=>?_
   rw [Ha.j1] at H
   subst d1
   refine sQ (rG (pS 4 Z (GO.quo Z Z Z (by decide) Z (pS 6 Z (nL ?_)))))
   obtain rfl:=sI H
   exact rT _ func151 Z Z ⟨Z,HS⟩
  rcases iS H with ⟨c4,H⟩ | ⟨c4,H⟩
  ·
   refine nB Z (tF c4) (G.skip (gW (a1 K (lR _) _ _ _ H HS) Z))
  refine yB Z (tT c4) (rN 1 Z (gW (a1 K (lR _) _ _ _ H HS) Z))
theorem Gf.calls {sets:List Int} {i k_:Int} {r1:List Int} (HS:St w0 w (Own (Ar .i64) 2 A_a c_a uu sets::L)) (H:Gf.f K sets i k_=some r1) :
    Calls prog 147 #[sV A_a sets c_a,I i,I k_] w (Gf.post w0 L A_a c_a r1):=by
  unfold Gf.f at H
  refine cG func147 Z ?_
  refine sQ ?_
  obtain ⟨c1,H⟩:=iN H
  have h2:=(rk (ro 0 Z) HS)
  obtain ⟨c3,H⟩:=iN H
  have h4:=(rk (ro 0 Z) HS)
  refine G.lex mixed [0,1,2,4,5,6,3,8,7,9] (by kernel_rfl) ?_
  replace HS:=HS.drew
  refine GX.ps 2 Z (qL Z Z (fun _ _ g=>iX Z U56 sz2 h2 c1 g) Z (GX.ps 2 Z (qL Z Z (fun _ _ g=>iX Z U56 sz2 h4 c3 g) Z (GX.l1 Z Z Z (fun _ g=>GO.Cj (T:=(Ar .i64)) (n:=k_.toNat) (o:=0) HS (ro 0 Z) Z Z (getD_some (d:=0) (ltN c1)) Z Z na2 Z g) Z (GX.ps 1 Z (GX.l1 Z Z Z (fun _ g=>GO.Cj (T:=(Ar .i64)) (n:=i.toNat) (o:=0) HS (ro 0 Z) Z Z (getD_some (d:=0) (ltN c3)) Z Z na2 Z g) Z (GX.ps 1 Z (GX.nil (sQ (rG (mV Z (lS Z Z U56 Z (mV Z (nL ?_))))))))))))))
  refine rN 2 Z ?_
  refine G.name (fun g1 e1=>?_)
  have f1:∀ b1,b1≤K→∀ (x9:List Int) (x10:Int) (w:World),Gf.l1 K b1 sets i k_ x9 x10=some r1→St w0 w (Own (Ar .i64) 2 A_a c_a uu x9::L)→G prog 147 33 [(0,sV A_a x9 c_a),(6,I (sets.getD k_.toNat 0)),(7,I (sets.getD i.toNat 0)),(18,sV A_a x9 c_a),(19,I (sets.length:Int)),(20,I x10)] g1 w (Gf.post w0 L A_a c_a r1):=by
   refine lp (fun _ _ w H _=>by rw [Gf.l1] at H; cases H) fun a1 h1 d1 x9 x10 w H HS=>?_
   rw [Gf.l1] at H
   subst e1
   refine rN 3 Z ?_
   rcases iS H with ⟨c15,H⟩ | ⟨c15,H⟩
   ·
    refine nB Z (tF c15) (G.exit Z ?_)
    obtain rfl:=sI H
    exact G.Pz func147 Z ⟨Z,HS⟩
   refine yB Z (tT c15) (rN 4 Z ?_)
   obtain ⟨c16,H⟩:=iN H
   refine rG (mV Z (iX Z U56 sz2 (rk (ro 0 Z) HS) c16 (GO.Cj (T:=(Ar .i64)) (n:=x10.toNat) (o:=0) HS (ro 0 Z) Z Z (getD_some (d:=0) (ltN c16)) Z Z na2 Z (pS 2 Z (nL (rN 2 Z ?_))))))
   rcases iS H with ⟨c17,H⟩ | ⟨c17,H⟩
   ·
    refine nB Z (tF c17) (rN 4 Z (gW (d1 a1 (lR _) _ _ _ H HS) Z))
   refine yB Z (tT c17) (rG (pS 3 Z (iX Z U56 sz2 (rk (ro 0 Z) HS) c16 (GO.Ii (T:=(Ar .i64)) (j:=0) (n:=x10.toNat) (o:=0) (vs:=[I (sets.getD i.toNat 0)]) (sets.getD i.toNat 0) HS Z Ba Z Z Z Z (htN na2 Z) Z (getD_some (d:=0) (ltN c16)) Z Z fun wd18 HS=>nL (G.len (t:=0) (m:=(x9.set x10.toNat (sets.getD i.toNat 0)).length) Z (by simp only [List.length_set] <;> rfl) (G.len (t:=18) (m:=(x9.set x10.toNat (sets.getD i.toNat 0)).length) Z (by simp only [List.length_set] <;> rfl) (rN 3 Z (gW (d1 a1 (lR _) _ _ _ H HS) Z))))))))
  exact gW (f1 K (lR _) _ _ _ H HS) Z
theorem Bd.calls {tet f:Int} {g1 h1:Int} {c1 a1:Int} {d1 f1:Int} {k1:List Int} {e1:Nat} {r1:List Int} (HS:St w0 w (Box e1 56 [sV A_a k1 c_a]::Own (Ar .i64) 2 A_a c_a uu k1::L)) (H:Bd.f K tet f g1 h1 c1 a1 d1 f1 k1=some r1) :
    Calls prog 149 #[I tet,I f,.agg [I g1,I h1].toArray,.agg [I c1,I a1,I d1,I f1].toArray,pT e1] w (Bd.post w0 L e1 A_a c_a r1):=by
  unfold Bd.f at H
  refine cG func149 Z ?_
  refine sQ (rG (bA HS Z fun b1 wd2 HS=>bA HS Z fun b3 wd4 HS=>nL (rN 4 Z ?_)))
  refine G.name (fun q1 o1=>?_)
  have p1:∀ n1,n1≤K→∀ (x24:List Int) (x25:Int) (w:World),Bd.l1 K n1 tet f g1 c1 a1 d1 f1 x24 x25=some r1→St w0 w (Box e1 56 [sV A_a x24 c_a]::Own (Ar .i64) 2 A_a c_a uu x24::Box b1 107 [I g1,I h1]::Box b3 131 [I c1,I a1,I d1,I f1]::L)→G prog 149 46 [(0,I tet),(1,I f),(4,pT e1),(7,pT b1),(8,pT b3),(12,I x25)] q1 w (Bd.post w0 L e1 A_a c_a r1):=by
   refine lp (fun _ _ w H _=>by rw [Bd.l1] at H; cases H) fun i1 s1 m1 x24 x25 w H HS=>?_
   rw [Bd.l1] at H
   subst o1
   refine rN 3 Z ?_
   rcases iS H with ⟨c46,H⟩ | ⟨c46,H⟩
   ·
    refine nB Z (tF c46) (G.exit Z ?_)
    obtain rfl:=sI H
    exact G.Pz func149 Z ⟨Z,(HS.pk 4 [0,1] Z)⟩
   refine yB Z (tT c46) (rN 6 Z ?_)
   obtain ⟨t47,t48,h49,H⟩:=Ea H
   refine rG (mV Z (fJ Ws Z (Gm.calls HS  h49) (fun _ wd50 ⟨h51,HS⟩=>⟨_,h51,(pS 5 Z (nL (sQ ?_)))⟩)))
   rcases iE H with ⟨c53,H⟩ | ⟨c53,H⟩
   ·
    refine rG (pS 4 Z (kN 23 Z (nT c53) (oF Z (oF Z (oF Z (GO.Jm Z Z Z Z Z (nL (rN 5 Z (gW (m1 i1 (lR _) _ _ _ H HS) Z)))))))))
   refine rG (pS 4 Z (kN 23 Z (nF c53) (oN Z (mV Z (bK (oN Z (mV Z (bK (oN Z (GO.neq Z Z Z Z (bK (GO.Iz Z Z Z Z Z (nL ?_)))))))))))))
   rcases iE H with ⟨c54,H⟩ | ⟨c54,H⟩
   ·
    refine nB Z (nT c54) (rN 4 Z (gW (m1 i1 (lR _) _ _ _ H HS) Z))
   refine yB Z (nF c54) ?_
   obtain ⟨c55,H⟩:=iN H
   obtain ⟨c56,H⟩:=iN H
   obtain ⟨t57,h58,H⟩:=bI H
   obtain ⟨t61,h62,H⟩:=bI H
   obtain ⟨c63,H⟩:=iN H
   refine G.H8 mixed (fun w=>St w0 w (Box e1 56 [sV A_a x24 c_a]::Box b1 107 [I g1,I h1]::Box b3 131 [I c1,I a1,I d1,I f1]::L)) [0,6,10,13] [1,2,3,4,5,8,9,11,12,0,6,7,10,13,14,15,16] [] (by kernel_rfl) (by kernel_rfl) (HS.drew.pk 4 [0,2,3] Z) ?_
   replace HS:=HS.drew
   refine GX.ps 4 Z (qL Z Z (fun _ _ g=>fL b1 0 Dp Z g) Z (GX.ps 1 Z (qL Z Z (fun _ _ g=>GO.ixW Z Z Z Hf sz2 c55 Z g) Z (GX.ps 1 Z (qL Z Z (fun _ _ g=>GO.ixW Z Z Z Hf sz2 c56 Z g) Z (GX.ls Z Z Z (HS.pk 4 [0,2,3] Z) (fun _ HS _ g=>lB 0 HS Z Ih Z g) Z (GX.ls Z Z Z (HS.pk 4 [0,2,3] Z) (fun _ HS _ g=>lB 1 HS Z na2 Z g) Z (GX.ps 1 Z (GX.ls Z Z Z (HS.pk 4 [0,2,3] Z) (fun _ HS _ g=>GO.ldW (j:=2) ([c1,a1,d1,f1]:List Int) HS Z Z Z c55 Z Z na2 Z g) Z (GX.ls Z Z Z (HS.pk 4 [0,2,3] Z) (fun _ HS _ g=>GO.ldW (j:=2) ([c1,a1,d1,f1]:List Int) HS Z Z Z c56 Z Z na2 Z g) Z (GX.l2 Z (fJ Xm Z (Ha.calls HS  h58) (fun _ wd59 ⟨h60,HS⟩=>⟨_,h60,(GX.fin (HS.pk 4 [0,2,3] Z) (GX.ps 1 Z ?_))⟩)))))))))))))
   refine GX.l2 Z ?_
   replace HS:=HS.pk 4 [1,0,2,3] Z
   refine fJ Z9 Z (Gf.calls HS  h62) (fun _ wd64 ⟨h65,HS⟩=>⟨_,h65,(GX.fin (HS.pk 4 [1,2,3] Z) (GX.nil ?_))⟩)
   replace HS:=HS.K3 (j:=1) (cs':=[sV A_a t61 c_a]) Z (by simp only [sV,List.length_set,c63] <;> rfl)
   refine rN 3 Z (gW (m1 i1 (lR _) _ _ _ H (HS.pk 4 [1,0,2,3] Z)) Z)
  exact gW (p1 K (lR _) _ _ _ H (HS.pk 4 [2,3,1,0] Z)) Z
theorem Ah.calls {a1:List (List Ab)} {d1:List Int} {y_a:Nat→(Ty.slice 107 Ad).Lay} {c1:Nat} {r1:List Int} (HS:St w0 w (Box c1 56 [sV A_b d1 c_b]::Own (Ar .i64) 2 A_b c_b uu d1::L)) (r_a:Ce w0 L (Ty.slice 107 Ad) A_a c_a y_a a1) (H:Ah.f K a1 d1=some r1) :
    Calls prog 145 #[.agg [sV A_a a1 c_a].toArray,.func (.func 149) #[] #[pT c1]] w (Ah.post w0 L c1 A_b c_b r1):=by
  unfold Ah.f at H
  refine cG func145 Z ?_
  refine sQ (rG (bA HS Z fun b1 wd2 HS=>nL (sQ (rG (fL b1 0 Du Z (lB 0 HS Z Gu Z (lS Z Z U29 Z (mV Z (nL (rN 2 Z ?_))))))))))
  refine G.name (fun s1 n1=>?_)
  have q1:∀ h1,h1≤K→∀ (x79:List Int) (x80:Int) (w:World),Ah.l1 K h1 a1 x79 x80=some r1→St w0 w (Box c1 56 [sV A_b x79 c_b]::Own (Ar .i64) 2 A_b c_b uu x79::L)→G prog 145 36 [(1,.func (.func 149) #[] #[pT c1]),(9,sV A_a a1 c_a),(10,I (a1.length:Int)),(11,I x80)] s1 w (Ah.post w0 L c1 A_b c_b r1):=by
   refine lp (fun _ _ w H _=>by rw [Ah.l1] at H; cases H) fun g1 u1 t1 x79 x80 w H HS=>?_
   rw [Ah.l1] at H
   subst n1
   refine rN 3 Z ?_
   rcases iS H with ⟨c157,H⟩ | ⟨c157,H⟩
   ·
    refine nB Z (tF c157) (G.exit Z ?_)
    obtain rfl:=sI H
    exact G.Pz func145 Z ⟨Z,HS⟩
   refine yB Z (tT c157) (rN 4 Z ?_)
   obtain ⟨c158,H⟩:=iN H
   refine rG (mV Z (iX Z U29 Jg (rk (rD 2 r_a) HS) c158 (GO.Cj (T:=(Ty.slice 107 Ad)) (n:=x80.toNat) (o:=0) HS (rD 2 r_a) Z Z (getD_some (d:=[]) (ltN c158)) Z Z Jh Z (pS 2 Z (nL (sQ (rG (mV Z (lS Z Z U77 Z (mV Z (nL (rN 2 Z ?_))))))))))))
   refine G.name (fun o1 p1=>?_)
   have k1:∀ i1,i1≤g1→∀ (x183:List Int) (x184:Int) (w:World),Ah.l4 K i1 a1 x80 x183 x184=some r1→St w0 w (Box c1 56 [sV A_b x183 c_b]::Own (Ar .i64) 2 A_b c_b uu x183::L)→G prog 145 36 [(1,.func (.func 149) #[] #[pT c1]),(4,I x80),(9,sV A_a a1 c_a),(10,I (a1.length:Int)),(11,I x80),(16,sV ((y_a x80.toNat).A) (a1.getD x80.toNat []) ((y_a x80.toNat).c)),(17,I ((a1.getD x80.toNat []).length:Int)),(18,I x184)] o1 w (Ah.post w0 L c1 A_b c_b r1):=by
    refine lp (fun _ _ w H _=>by rw [Ah.l4] at H; cases H) fun e1 m1 f1 x183 x184 w H HS=>?_
    rw [Ah.l4] at H
    subst p1
    refine rN 3 Z ?_
    rcases iS H with ⟨c209,H⟩ | ⟨c209,H⟩
    ·
     refine nB Z (tF c209) (rN 4 Z (gW (t1 e1 (Nat.le_of_succ_le m1) _ _ _ H HS) Z))
    refine yB Z (tT c209) (rN 4 Z ?_)
    obtain ⟨c210,H⟩:=iN H
    obtain ⟨e211,h212,H⟩:=Di H
    refine rG (mV Z (GO.ix Z Z Z U77 G9 ((Ce.elem (rD 2 r_a) c158.1 c158.2) _ HS).2.2.1 c210.1 c210.2 Z (GO.Hw (T:=Ad) (n:=x184.toNat) HS (Ce.elem (rD 2 r_a) c158.1 c158.2) Z Z (Cn (ltN c210) h212) D9 Z (GO.alloc HS Z Jz Z Z fun b213 wd214 HS=>aS Z (sW 0 HS Z D9 Z fun wd215 HS=>nL (sQ ?_))))))
    obtain ⟨t216,h217,H⟩:=bI H
    refine rG (lW 0 HS Z D9 (fJ Nr Z (Bi.calls HS  h217) (fun _ wd218 ⟨h219,HS⟩=>⟨_,h219,(GO.not Z Z Z (nL ?_))⟩)))
    rcases iE H with ⟨c220,H⟩ | ⟨c220,H⟩
    ·
     refine nB Z (congrArg Bool.not c220) (rN 4 Z (gW (f1 e1 (lR _) _ _ _ H (HS.pk 3 [1,2] Z)) Z))
    refine yB Z (congrArg Bool.not (Db c220)) ?_
    obtain ⟨t221,t222,t223,t224,h225,H⟩:=D8 H
    obtain ⟨t228,h229,H⟩:=bI H
    obtain ⟨c230,H⟩:=iN H
    refine G.H8 mixed (fun w=>St w0 w (Box b213 107 [I e211.Tet,I e211.Perm]::L)) [3,5] [0,1,2,4,3,5,6,7] [] (by kernel_rfl) (by kernel_rfl) (HS.drew.pk 3 [0] Z) ?_
    replace HS:=HS.drew
    refine GX.ps 3 Z (qL Z Z (fun _ _ g=>fL b213 1 Gn Z g) Z (GX.ls Z Z Z (HS.pk 3 [0] Z) (fun _ HS _ g=>lW 0 HS Z D9 g) Z (GX.ls Z Z Z (HS.pk 3 [0] Z) (fun _ HS _ g=>lB 0 HS Z na2 Z g) Z (GX.l2 Z (fJ Lc Z (Ct.calls HS  h225) (fun _ wd226 ⟨h227,HS⟩=>⟨_,h227,(GX.fin (HS.pk 3 [0] Z) (GX.l2 Z ?_))⟩))))))
    replace HS:=HS.pk 3 [1,2,0] Z
    refine GO.clo Z Z func149 iU.2.1 iU.2.2 Z Z (Bd.calls HS  h229) (fun _ wd231 ⟨h232,HS⟩=>⟨_,h232,(GX.fin (HS.pk 3 [2] Z) (GX.nil (rN 3 Z (gW (f1 e1 (lR _) _ _ _ H (HS.pk 3 [0,1] Z)) Z))))⟩)
   exact gW (k1 g1 (lR _) _ _ _ H HS) Z
  exact gW (q1 K (lR _) _ _ _ H (HS.pk 3 [1,2] Z)) Z
theorem Dc.calls {roots:List Int} {r1:List Int} (HS:St w0 w (L)) (r_a:Ce w0 L (Ar .i64) A_a c_a uu roots) (H:Dc.f K roots=some r1) :
    Calls prog 148 #[sV A_a roots c_a] w (Dc.post w0 L r1):=by
  unfold Dc.f at H
  refine cG func148 Z ?_
  refine rN 3 Z (rG (GO.Wx .i64 .i64 HS Z Z fun b1 wd2 HS=>aS Z (nL (rN 4 Z (rG (mV Z (lS Z Z U56 Z (mV Z (nL (rN 2 Z ?_))))))))))
  refine G.name (fun q1 m1=>?_)
  have o1:∀ g1,g1≤K→∀ (e1:List (Int × Int)) (A17:Option Addr) (c18:Nat) (a1:List Int) (x20:Int) (w:World),Dc.l1 K g1 roots e1 a1 x20=some r1→St w0 w (Qf b1 .i64 .i64 e1::Own (Ar .i64) 2 A17 c18 uu a1::L)→G prog 148 36 [(3,.map (some b1)),(4,sV A17 a1 c18),(10,sV A_a roots c_a),(11,I (roots.length:Int)),(12,I x20)] q1 w (Dc.post w0 L r1):=by
   refine lp (fun _ _ _ _ _ w H _=>by rw [Dc.l1] at H; cases H) fun d1 t1 s1 e1 A17 c18 a1 x20 w H HS=>?_
   rw [Dc.l1] at H
   subst m1
   refine rN 3 Z ?_
   rcases iS H with ⟨c34,H⟩ | ⟨c34,H⟩
   ·
    refine nB Z (tF c34) (rN 3 Z ?_)
    obtain rfl:=sI H
    exact rT _ func148 Z Z ⟨_,_,Z,(HS.pk 2 [1] Z)⟩
   refine yB Z (tT c34) (rN 4 Z ?_)
   obtain ⟨c35,H⟩:=iN H
   refine rG (iX Z U56 sz2 (rk (rD 2 r_a) HS) c35 (GO.Cj (T:=(Ar .i64)) (n:=x20.toNat) (o:=0) HS (rD 2 r_a) Z Z (getD_some (d:=0) (ltN c35)) Z Z na2 Z (aS Z (nL (rN 2 Z (rG (pS 2 Z (GO.nA (j:=0) HS Z Z Z Z lF U2 zr2 Z (pS 5 Z (nL (rN 2 Z ?_)))))))))))
   refine G.Ov (fun p1 n1=>?_)
   have f1:∀ h1,h1≤d1→∀ (c1:List (Int × Int)) (w:World),Dc.j4 K h1 roots a1 x20 c1=some r1→St w0 w (Qf b1 .i64 .i64 c1::Own (Ar .i64) 2 A17 c18 uu a1::L)→G prog 148 36 [(3,.map (some b1)),(4,sV A17 a1 c18),(6,I (roots.getD x20.toNat 0)),(10,sV A_a roots c_a),(11,I (roots.length:Int)),(12,I x20)] p1 w (Dc.post w0 L r1):=by
    refine jp (fun _ w H _=>by rw [Dc.j4] at H; cases H) fun k1 i1 c1 w H HS=>?_
    rw [Dc.j4] at H
    subst n1
    obtain ⟨c44,H⟩:=iN H
    refine rG (pS 3 Z (GO.vV (j:=0) HS Z Z Z Z lF U2 zr2 Z (GO.Cw (el:=2) ([I ((Kb c1 (roots.getD x20.toNat 0)).getD 0)]) HS Z Z (fun _=>by kernel_rfl) Z fun b39 wd40 HS=>GO.app1 (T:=(Ar .i64)) (j:=2) (jb:=0) ((Kb c1 (roots.getD x20.toNat 0)).getD 0) HS Z Z Ba Z Z Z U56 Ml Z Z Z c44 Z fun A42 c43 wd41 HS=>aS Z (nL (rN 3 Z (gW (s1 k1 (Nat.le_of_succ_le i1) _ _ _ _ _ _ H (HS.pk 3 [1,2] Z)) Z))))))
   rcases iE H with ⟨c45,H⟩ | ⟨c45,H⟩
   ·
    refine nB Z (congrArg Bool.not c45) (G.skip (gW (f1 d1 (lR _) _ _ H HS) Z))
   refine yB Z (congrArg Bool.not (Db c45)) (rG (pS 3 Z (GO.uZ (j:=0) HS Z Z Z lF Z (GO.uL (j:=0) HS Z Z Z Z Z lF U2 fun wd46 HS=>nL (gW (f1 d1 (lR _) _ _ H HS) Z)))))
  replace HS:=HS.Dm (Ar .i64) 2 uu
  exact gW (o1 K (lR _) _ _ _ _ _ _ H (HS.pk 2 [1,0] Z)) Z
theorem Bl.calls {a1:List (List Ab)} {y_a:Nat→(Ty.slice 107 Ad).Lay} {r1:List Int} (HS:St w0 w (L)) (r_a:Ce w0 L (Ty.slice 107 Ad) A_a c_a y_a a1) (H:Bl.f K a1=some r1) :
    Calls prog 124 #[.agg [sV A_a a1 c_a].toArray] w (Bl.post w0 L r1):=by
  unfold Bl.f at H
  refine cG func124 Z ?_
  refine sQ (rG (bA HS Z fun b1 wd2 HS=>aS Z (nL (sQ ?_))))
  obtain ⟨t3,h4,H⟩:=bI H
  obtain ⟨t7,h8,H⟩:=bI H
  refine rG (fL b1 0 Du Z (lB 0 HS Z Gu Z (fJ O0 Z (Bw.calls HS (rD 1 r_a) h4) (fun _ wd5 ⟨h6,HS⟩=>⟨_,h6,(GO.mul Z Z Z Z (fJ Xb Z (Eo.calls HS  h8) (fun _ wd11 ⟨A9,c10,h12,HS⟩=>⟨_,h12,(GO.alloc HS Z Zf Z Z fun b13 wd14 HS=>GO.Ie (j:=0) (vs:=[sV A9 t7 c10]) ([sV A9 t7 c10]) HS Z Z Z Z Z (htN Ih Z) Z Z Z fun wd15 HS=>nL (sQ ?_))⟩)))⟩))))
  obtain ⟨t16,h17,H⟩:=bI H
  obtain ⟨c18,H⟩:=iN H
  refine rG (lW 2 HS Z Dq (GO.Q6 Z Z Z Z ?_))
  replace HS:=HS.pk 3 [0,1,2] Z
  refine fJ Zw Z (Ah.calls HS (rD 1 r_a) h17) (fun _ wd19 ⟨h20,HS⟩=>⟨_,h20,(nL (sQ ?_))⟩)
  obtain ⟨t21,h22,H⟩:=bI H
  refine rG (lB 0 HS Z Ih Z (fJ Zl Z (Dc.calls HS (ro 1 Z) h22) (fun _ wd25 ⟨A23,c24,h26,HS⟩=>⟨_,h26,(aS Z (nL ?_))⟩)))
  obtain rfl:=sI H
  exact rT _ func124 Z Z ⟨_,_,Z,(HS.pk 4 [0] Z)⟩
theorem Cz.calls {x:List Int} {r1:Int} (HS:St w0 w (L)) (r_a:Ce w0 L (Ar .i64) A_a c_a uu x) (H:Cz.f K x=some r1) :
    Calls prog 168 #[sV A_a x c_a] w (Cz.post w0 L r1):=by
  unfold Cz.f at H
  refine cG func168 Z ?_
  refine rN 4 Z (rG (mV Z (lS Z Z U56 Z (GO.lss Z Z Z Z (nL ?_)))))
  rcases iE H with ⟨c2,H⟩ | ⟨c2,H⟩
  ·
   refine yB Z (tT c2) ?_
   cases H
  refine nB Z (tF c2) (rN 2 Z ?_)
  obtain ⟨c3,H⟩:=iN H
  refine rG (mV Z (iX Z U56 sz2 (rk r_a HS) c3 (GO.Cj (T:=(Ar .i64)) (n:=0) (o:=0) HS r_a Z Z (getD_some (d:=0) (ltN c3)) Z Z na2 Z (aS Z (nL (rN 5 Z ?_))))))
  refine G.name (fun f1 c1=>?_)
  have d1:∀ a1,a1≤K→∀ (m_6 i_7:Int) (w:World),Cz.l2 K a1 x m_6 i_7=some r1→St w0 w (L)→G prog 168 25 [(0,sV A_a x c_a),(3,I m_6),(4,I i_7)] f1 w (Cz.post w0 L r1):=by
   refine lp (fun _ _ w H _=>by rw [Cz.l2] at H; cases H) fun e1 g1 b1 m_6 i_7 w H HS=>?_
   rw [Cz.l2] at H
   subst c1
   refine rN 2 Z (rG (pS 2 Z (lS Z Z U56 Z (GO.lss Z Z Z Z (nL ?_)))))
   rcases iS H with ⟨c10,H⟩ | ⟨c10,H⟩
   ·
    refine nB Z (tF c10) (rN 3 Z ?_)
    obtain rfl:=sI H
    exact rT _ func168 Z Z ⟨Z,HS⟩
   refine yB Z (tT c10) (rN 3 Z ?_)
   obtain ⟨c11,H⟩:=iN H
   refine rG (pS 3 Z (iX Z U56 sz2 (rk r_a HS) c11 (GO.Cj (T:=(Ar .i64)) (n:=i_7.toNat) (o:=0) HS r_a Z Z (getD_some (d:=0) (ltN c11)) Z Z na2 Z (GO.max2 Z Z Z Z (aS Z (nL (rN 3 Z (gW (b1 e1 (lR _) _ _ _ H HS) Z))))))))
  exact gW (d1 K (lR _) _ _ _ H HS) Z
theorem Ho.calls {classes:List Int} {r1:Int} (HS:St w0 w (L)) (r_a:Ce w0 L (Ar .i64) A_a c_a uu classes) (H:Ho.f K classes=some r1) :
    Calls prog 160 #[sV A_a classes c_a] w (Ho.post w0 L r1):=by
  unfold Ho.f at H
  refine cG func160 Z ?_
  refine rN 4 Z (rG (mV Z (lS Z Z U56 Z (GO.eql Z Z Z Z (nL ?_)))))
  rcases iE H with ⟨c1,H⟩ | ⟨c1,H⟩
  ·
   refine yB Z (tT c1) (rN 2 Z ?_)
   obtain rfl:=sI H
   exact rT _ func160 Z Z ⟨Z,HS⟩
  refine nB Z (tF c1) (rN 2 Z ?_)
  obtain ⟨t2,h3,H⟩:=bI H
  refine rG (mV Z (fJ rF Z (Cz.calls HS r_a h3) (fun _ wd4 ⟨h5,HS⟩=>⟨_,h5,(pS 2 Z (nL ?_))⟩)))
  obtain rfl:=sI H
  exact rT _ func160 Z Z ⟨Z,HS⟩
theorem Ka.calls {x r1:Int} (HS:St w0 w (L)) (H:Ka.f x=some r1) :
    Calls prog 171 #[I x] w (Ka.post w0 L r1):=by
  unfold Ka.f at H
  refine cG func171 Z ?_
  refine rN 5 Z ?_
  rcases iE H with ⟨c1,H⟩ | ⟨c1,H⟩
  ·
   refine yB Z (tT c1) (rN 2 Z ?_)
   obtain rfl:=sI H
   exact rT _ func171 Z Z ⟨Z,HS⟩
  refine nB Z (tF c1) (rN 3 Z ?_)
  obtain rfl:=sI H
  exact rT _ func171 Z Z ⟨Z,HS⟩
theorem Cv.calls {next same:Int} {d1 a1:List Int} {b1:Int} {n1:List (Int × Bool)} {e1:List Int} {k1:Nat} {A_a:Option Addr} {c_a g1:Nat} {A_b:Option Addr} {c_b f1:Nat} {m1 h1 i1:Nat} {r1 r2:List Int} {r3:List (Int × Bool)} (HS:St w0 w (Box k1 56 [sV A_a d1 c_a]::Own (Ar .i64) 2 A_a c_a uu d1::Box g1 56 [sV A_b a1 c_b]::Own (Ar .i64) 2 A_b c_b uu a1::Box f1 3 [I b1]::Box m1 199 [.map (some h1)]::Ir h1 (Value.int .i64) Value.bool n1::Box i1 56 [sV A_c e1 c_c]::L)) (r_c:Ce w0 L (Ar .i64) A_c c_c uu e1) (H:Cv.f next same d1 a1 b1 n1 e1=some (r1,r2,r3)) :
    Calls prog 170 #[I next,I same,pT k1,pT g1,pT f1,pT m1,pT i1] w (Cv.post w0 L b1 e1 k1 A_a c_a g1 f1 m1 h1 i1 A_c c_c r1 r2 r3):=by
  unfold Cv.f at H
  refine cG func170 Z ?_
  refine sQ ?_
  obtain ⟨c1,H⟩:=iN H
  have h2:=(rk (ro 3 Z) HS)
  obtain ⟨c3,H⟩:=iN H
  have h4:=(rk (ro 1 Z) HS)
  refine G.lex mixed [7,0,1,2,3,4,5,6,8,9] (by kernel_rfl) ?_
  replace HS:=HS.drew
  refine GX.ps 1 Z (GX.l1 Z Z Z (fun _ g=>lB 0 HS Z Ih Z g) Z (GX.l1 Z Z Z (fun _ g=>lB 2 HS Z Ih Z g) Z (GX.l1 Z Z Z (fun _ g=>lB 4 HS Z na3 Z g) Z (qL Z Z (fun _ _ g=>iX Z U56 sz2 h2 c1 g) Z (GX.l1 Z Z Z (fun _ g=>GO.Cj (T:=(Ar .i64)) (n:=b1.toNat) (o:=0) HS (ro 3 Z) Z Z (getD_some (d:=0) (ltN c1)) Z Z na2 Z g) Z (qL Z Z (fun _ _ g=>iX Z U56 sz2 h4 c3 g) Z (GX.l1 Z Z Z (fun _ g=>GO.Cj (T:=(Ar .i64)) (n:=(a1.getD b1.toNat 0).toNat) (o:=0) HS (ro 1 Z) Z Z (getD_some (d:=0) (ltN c3)) Z Z na2 Z g) Z (GX.ps 2 Z (GX.nil (sQ ?_))))))))))
  obtain ⟨c5,H⟩:=iN H
  refine rG (lB 0 HS Z Ih Z (mV Z (iX Z U56 sz2 (rk (ro 1 Z) HS) c5 (GO.Cj (T:=(Ar .i64)) (n:=next.toNat) (o:=0) HS (ro 1 Z) Z Z (getD_some (d:=0) (ltN c5)) Z Z na2 Z (nL (rN 3 Z ?_))))))
  rcases iS H with ⟨c6,H⟩ | ⟨c6,H⟩
  ·
   refine nB Z (tF c6) (sQ (rG (mV Z (GO.neg Z Z Z (pS 2 Z (nL ?_))))))
   rcases iS H with ⟨c15,H⟩ | ⟨c15,H⟩
   ·
    refine nB Z (tF c15) (rN 2 Z ?_)
    obtain ⟨rfl,rfl,rfl⟩:=Mm H
    exact G.Pz func170 Z ⟨_,_,Z,HS⟩
   refine yB Z (tT c15) ?_
   obtain ⟨c16,H⟩:=iN H
   refine G.lex mixed [2,0,1,3,4,5] (by kernel_rfl) ?_
   replace HS:=HS.drew
   refine GX.ps 1 Z (GX.l1 Z Z Z (fun _ g=>lB 5 HS Z gB Z g) Z (GX.l1 Z Z Z (fun _ g=>lB 7 HS Z Ih Z g) Z (qL Z Z (fun _ _ g=>iX Z U56 sz2 (rk (rD 8 r_c) HS) c16 g) Z (GX.l1 Z Z Z (fun _ g=>GO.Cj (T:=(Ar .i64)) (n:=next.toNat) (o:=0) HS (rD 8 r_c) Z Z (getD_some (d:=0) (ltN c16)) Z Z na2 Z g) Z (GX.l2 Z (GO.iM (e1.getD next.toNat 0) true uR HS (j:=6) Z Z Z Z Z uN fun wd17 HS=>GX.fin tv (GX.nil (G.Sl ?_))))))))
   obtain ⟨rfl,rfl,rfl⟩:=Mm H
   exact G.Pz func170 Z ⟨_,_,Z,HS⟩
  refine yB Z (tT c6) (sQ (rG (lB 0 HS Z Ih Z (pS 2 Z (iX Z U56 sz2 (rk (ro 1 Z) HS) c5 (GO.Ii (T:=(Ar .i64)) (j:=1) (n:=next.toNat) (o:=0) (vs:=[I (w64 ((d1.getD ((a1.getD b1.toNat 0).toNat) 0) * same))]) (w64 ((d1.getD ((a1.getD b1.toNat 0).toNat) 0) * same)) HS Z Ba Z Z Z Z (htN na2 Z) Z (getD_some (d:=0) (ltN c5)) Z Z fun wd7 HS=>nL ?_))))))
  replace HS:=HS.K3 (j:=0) (cs':=[sV A_a (d1.set next.toNat (w64 ((d1.getD ((a1.getD b1.toNat 0).toNat) 0) * same))) c_a]) Z (by simp only [sV,List.length_set] <;> rfl)
  obtain ⟨c13,H⟩:=iN H
  refine rG (lB 2 HS Z Ih Z (mV Z (GO.Cw (el:=2) ([I next]) HS Z Z (fun _=>by kernel_rfl) Z fun b8 wd9 HS=>GO.app1 (T:=(Ar .i64)) (j:=4) (jb:=0) next HS Z Z Ba Z Z Z U56 Ml Z Z Z c13 Z fun A11 c12 wd10 HS=>GO.Ie (j:=3) (vs:=[sV A11 (a1++[next]) c12]) ([sV A11 (a1++[next]) c12]) HS Z Z Z Z Z (htN Ih Z) Z Z Z fun wd14 HS=>nL (G.Sl ?_))))
  obtain ⟨rfl,rfl,rfl⟩:=Mm H
  exact G.Pz func170 Z ⟨_,_,Z,(HS.pk 9 [1,2,3,4,5,6,7,8] Z)⟩
theorem Al.calls {k1:List (List Ab)} {id:Int} {m1 n1:List Int} {g1:Int} {q1:List (Int × Bool)} {a1:List Int} {y_a:Nat→(Ty.slice 107 Ad).Lay} {c1:Nat} {A_b:Option Addr} {c_b f1:Nat} {A_c:Option Addr} {c_c d1:Nat} {i1 h1 e1:Nat} {r1 r2:List Int} {r3:List (Int × Bool)} (HS:St w0 w (Box c1 56 [sV A_b m1 c_b]::Own (Ar .i64) 2 A_b c_b uu m1::Box f1 56 [sV A_c n1 c_c]::Own (Ar .i64) 2 A_c c_c uu n1::Box d1 3 [I g1]::Box i1 199 [.map (some h1)]::Ir h1 (Value.int .i64) Value.bool q1::Box e1 56 [sV A_d a1 c_d]::L)) (r_a:Ce w0 L (Ty.slice 107 Ad) A_a c_a y_a k1) (r_d:Ce w0 L (Ar .i64) A_d c_d uu a1) (H:Al.f K k1 id m1 n1 g1 q1 a1=some (r1,r2,r3)) :
    Calls prog 169 #[.agg [sV A_a k1 c_a].toArray,I id,.func (.func 170) #[] #[pT c1,pT f1,pT d1,pT i1,pT e1]] w (Al.post w0 L g1 a1 c1 A_b c_b f1 d1 i1 h1 e1 A_d c_d r1 r2 r3):=by
  unfold Al.f at H
  refine cG func169 Z ?_
  refine sQ (rG (bA HS Z fun b1 wd2 HS=>nL (sQ (rG (mV Z (GO.quo Z Z Z (by decide) Z (aS Z (nL (sQ ?_)))))))))
  obtain ⟨t3,t4,h5,H⟩:=Ea H
  refine rG (mV Z (GO.rem Z Z Z (by decide) Z (fJ Ws Z (Gm.calls HS  h5) (fun _ wd6 ⟨h7,HS⟩=>⟨_,h7,(pS 5 Z (nL (sQ ?_)))⟩))))
  obtain ⟨t10,h11,H⟩:=bI H
  refine rG (pS 2 Z (GO.Cw (el:=2) ([I t3,I t4]) HS Z Z (fun _=>by kernel_rfl) Z fun b8 wd9 HS=>?_))
  replace HS:=HS.Fq (T:=(Ar .i64)) (j:=0) Z Ba uu ([t3,t4]:List Int) Z (Il Z)
  refine GO.H7 (t:=23) (m:=([t3,t4]:List Int).length) (c':=([t3,t4]:List Int).length) Z Z Z (fJ Qs Z (Fb.calls HS (ro 0 Z) h11) (fun _ wd14 ⟨A12,c13,h15,HS⟩=>⟨_,h15,(lS Z Z U56 Z (mV Z (nL (rN 2 Z ?_))))⟩))
  refine G.name (fun t1 u1=>?_)
  have v1:∀ o1,o1≤K→∀ (x59:List Int) (A60:Option Addr) (c61:Nat) (x62:List Int) (x63:List (Int × Bool)) (x64:Int) (w:World),Al.l1 K o1 k1 id g1 a1 t3 t4 t10 x59 x62 x63 x64=some (r1,r2,r3)→St w0 w (Box c1 56 [sV A_b x59 c_b]::Own (Ar .i64) 2 A_b c_b uu x59::Box f1 56 [sV A60 x62 c61]::Own (Ar .i64) 2 A60 c61 uu x62::Box d1 3 [I g1]::Box i1 199 [.map (some h1)]::Ir h1 (Value.int .i64) Value.bool x63::Box e1 56 [sV A_d a1 c_d]::Box b1 31 [sV A_a k1 c_a]::Own (Ar .i64) 2 A12 c13 uu t10::L)→G prog 169 65 [(2,.func (.func 170) #[] #[pT c1,pT f1,pT d1,pT i1,pT e1]),(3,pT b1),(6,I (w64 (id.tdiv 6))),(7,I t3),(8,I t4),(24,sV A12 t10 c13),(25,I (t10.length:Int)),(26,I x64)] t1 w (Al.post w0 L g1 a1 c1 A_b c_b f1 d1 i1 h1 e1 A_d c_d r1 r2 r3):=by
   refine lp (fun _ _ _ _ _ _ w H _=>by rw [Al.l1] at H; cases H) fun p1 x1 s1 x59 A60 c61 x62 x63 x64 w H HS=>?_
   rw [Al.l1] at H
   subst u1
   refine rN 3 Z ?_
   rcases iS H with ⟨c108,H⟩ | ⟨c108,H⟩
   ·
    refine nB Z (tF c108) (G.exit Z ?_)
    obtain ⟨rfl,rfl,rfl⟩:=Mm H
    exact G.Pz func169 Z ⟨_,_,Z,(HS.pk 10 [0,1,2,3,4,5,6,7] Z)⟩
   refine yB Z (tT c108) (rN 4 Z ?_)
   obtain ⟨c109,H⟩:=iN H
   refine rG (iX Z U56 sz2 (rk (ro 9 Z) HS) c109 (GO.Cj (T:=(Ar .i64)) (n:=x64.toNat) (o:=0) HS (ro 9 Z) Z Z (getD_some (d:=0) (ltN c109)) Z Z na2 Z (aS Z (nL (sQ ?_)))))
   obtain ⟨c110,H⟩:=iN H
   obtain ⟨c111,H⟩:=iN H
   obtain ⟨e112,h113,H⟩:=Di H
   refine rG (fL b1 0 Du Z (lB 8 HS Z Gu Z (mV Z (iX Z U29 Jg (rk (rD 10 r_a) HS) c110 (GO.Cj (T:=(Ty.slice 107 Ad)) (n:=(w64 (id.tdiv 6)).toNat) (o:=0) HS (rD 10 r_a) Z Z (getD_some (d:=[]) (ltN c110)) Z Z Jh Z (mV Z (GO.ix Z Z Z U77 G9 ((Ce.elem (rD 10 r_a) c110.1 c110.2) _ HS).2.2.1 c111.1 c111.2 Z (GO.Hw (T:=Ad) (n:=(t10.getD x64.toNat 0).toNat) HS (Ce.elem (rD 10 r_a) c110.1 c110.2) Z Z (Cn (ltN c111) h113) D9 Z (GO.alloc HS Z Jz Z Z fun b114 wd115 HS=>sW 0 HS Z D9 Z fun wd116 HS=>nL (rN 2 Z ?_))))))))))
   obtain ⟨t117,h118,H⟩:=bI H
   refine rG (lW 0 HS Z D9 (fJ Nr Z (Bi.calls HS  h118) (fun _ wd119 ⟨h120,HS⟩=>⟨_,h120,(nL ?_)⟩)))
   rcases iE H with ⟨c121,H⟩ | ⟨c121,H⟩
   ·
    refine yB Z c121 (rN 3 Z (gW (s1 p1 (lR _) _ _ _ _ _ _ _ H (HS.pk 11 [1,2,3,4,5,6,7,8,9,10] Z)) Z))
   refine nB Z (Db c121) (rN 2 Z ?_)
   obtain ⟨t122,t123,t124,t125,h126,H⟩:=D8 H
   refine rG (fL b114 1 Gn Z (lB 0 HS Z na2 Z (fJ Lc Z (Ct.calls HS  h126) (fun _ wd127 ⟨h128,HS⟩=>⟨_,h128,(GO.alloc HS Z Ld Z Z fun b129 wd130 HS=>sW 0 HS Z Ki Z fun wd131 HS=>nL ?_)⟩))))
   obtain ⟨c132,H⟩:=iN H
   obtain ⟨c133,H⟩:=iN H
   obtain ⟨t134,h135,H⟩:=bI H
   obtain ⟨t138,h139,H⟩:=bI H
   obtain ⟨t142,t143,t144,h145,H⟩:=J3 H
   obtain ⟨c146,H⟩:=iN H
   refine G.H8 mixed (fun w=>St w0 w (Box b129 131 [I t122,I t123,I t124,I t125]::Box b114 107 [I e112.Tet,I e112.Perm]::L)) [2,6,9,14,17] [0,1,4,5,7,8,12,13,15,16,2,3,6,9,14,17,18,10,11,19,20] [] (by kernel_rfl) (by kernel_rfl) (HS.drew.pk 12 [0,1] Z) ?_
   replace HS:=HS.drew
   refine GX.ps 1 Z (qL Z Z (fun _ _ g=>fL b114 0 Dp Z g) Z (GX.ps 1 Z (qL Z Z (fun _ _ g=>GO.ixW Z Z Z Hf sz2 c132 Z g) Z (GX.ps 1 Z (qL Z Z (fun _ _ g=>GO.ixW Z Z Z Hf sz2 c133 Z g) Z (GX.ps 1 Z (qL Z Z (fun _ _ g=>GO.ixW Z Z Z Hf sz2 c133 Z g) Z (GX.ps 1 Z (qL Z Z (fun _ _ g=>GO.ixW Z Z Z Hf sz2 c132 Z g) Z (GX.ls Z Z Z (HS.pk 12 [0,1] Z) (fun _ HS _ g=>lB 1 HS Z na2 Z g) Z (GX.ps 1 Z (GX.ls Z Z Z (HS.pk 12 [0,1] Z) (fun _ HS _ g=>GO.ldW (j:=0) ([t122,t123,t124,t125]:List Int) HS Z Z Z c132 Z Z na2 Z g) Z (GX.ls Z Z Z (HS.pk 12 [0,1] Z) (fun _ HS _ g=>GO.ldW (j:=0) ([t122,t123,t124,t125]:List Int) HS Z Z Z c133 Z Z na2 Z g) Z (GX.ls Z Z Z (HS.pk 12 [0,1] Z) (fun _ HS _ g=>GO.ldW (j:=0) ([t122,t123,t124,t125]:List Int) HS Z Z Z c133 Z Z na2 Z g) Z ?_))))))))))))))
   refine GX.ls Z Z Z (HS.pk 12 [0,1] Z) (fun _ HS _ g=>GO.ldW (j:=0) ([t122,t123,t124,t125]:List Int) HS Z Z Z c132 Z Z na2 Z g) Z (GX.ps 1 Z (GX.l2 Z (fJ Xm Z (Ha.calls HS  h135) (fun _ wd136 ⟨h137,HS⟩=>⟨_,h137,(GX.fin (HS.pk 12 [0,1] Z) (GX.ps 1 Z (GX.l2 Z (fJ rJ Z (Ka.calls HS  h139) (fun _ wd140 ⟨h141,HS⟩=>⟨_,h141,(GX.fin (HS.pk 12 [0,1] Z) (GX.l2 Z ?_))⟩)))))⟩))))
   replace HS:=HS.pk 12 [2,3,4,5,6,7,8,9,0,1,10,11] Z
   refine GO.clo Z Z func170 iG.2.1 iG.2.2 Z Z (Cv.calls HS (rD 4 r_d) h145) (fun _ wd149 ⟨A147,c148,h150,HS⟩=>⟨_,h150,(GX.fin (HS.pk 12 [8,9] Z) (GX.nil (rN 3 Z (gW (s1 p1 (lR _) _ _ _ _ _ _ _ H (HS.pk 12 [0,1,2,3,4,5,6,7,10,11] Z)) Z))))⟩)
  exact gW (v1 K (lR _) _ _ _ _ _ _ _ H (HS.pk 11 [3,4,5,6,7,8,9,10,2,0] Z)) Z
theorem Am.calls {d1:List (List Ab)} {y_a:Nat→(Ty.slice 107 Ad).Lay} {r1:List Int} (HS:St w0 w (L)) (r_a:Ce w0 L (Ty.slice 107 Ad) A_a c_a y_a d1) (H:Am.f K d1=some r1) :
    Calls prog 161 #[.agg [sV A_a d1 c_a].toArray] w (Am.post w0 L r1):=by
  unfold Am.f at H
  refine cG func161 Z ?_
  refine sQ (rG (bA HS Z fun b1 wd2 HS=>aS Z (nL (sQ ?_))))
  obtain ⟨t3,h4,H⟩:=bI H
  refine rG (fL b1 0 Du Z (lB 0 HS Z Gu Z (fJ O0 Z (Bw.calls HS (rD 1 r_a) h4) (fun _ wd5 ⟨h6,HS⟩=>⟨_,h6,(pS 2 Z (nL (sQ ?_)))⟩))))
  obtain ⟨c7,H⟩:=iN H
  obtain ⟨c8,H⟩:=iN H
  refine rG (mV Z (GO.make (T:=(Ar .i64)) 0 () HS Ba Z Z Z U56 Ml Z Z Z c7 c8 Z fun b9 wd10 HS=>GO.alloc HS Z Zf Z Z fun b11 wd12 HS=>GO.Ie (j:=0) (vs:=[sV (sb b9) (List.replicate (w64 (6 * t3)).toNat (0:Int)) ((w64 (6 * t3)).toNat)]) ([sV (sb b9) (List.replicate (w64 (6 * t3)).toNat (0:Int)) ((w64 (6 * t3)).toNat)]) HS Z Z Z Z Z (htN Ih Z) Z Z Z fun wd13 HS=>nL (sQ ?_)))
  obtain ⟨t14,h15,H⟩:=bI H
  refine rG (lW 2 HS Z Dq (fJ Q5 Z (Bl.calls HS (rD 3 r_a) h15) (fun _ wd18 ⟨A16,c17,h19,HS⟩=>⟨_,h19,(GO.alloc HS Z Zf Z Z fun b20 wd21 HS=>GO.Ie (j:=0) (vs:=[sV A16 t14 c17]) ([sV A16 t14 c17]) HS Z Z Z Z Z (htN Ih Z) Z Z Z fun wd22 HS=>nL (sQ (rG (GO.Qn (Value.int .i64) Value.bool HS Z Z fun b23 wd24 HS=>GO.alloc HS Z wR Z Z fun b25 wd26 HS=>GO.Ie (j:=0) (vs:=[.map (some b23)]) ([.map (some b23)]) HS Z Z Z Z Z (htN gB Z) Z Z Z fun wd27 HS=>nL (rN 5 Z ?_)))))⟩)))
  refine G.name (fun u1 d2=>?_)
  have e2:∀ n1,n1≤K→∀ (c1:List Int) (f1:List (Int × Bool)) (x117:Int) (w:World),Am.l1 K n1 d1 t3 t14 c1 f1 x117=some r1→St w0 w (Box b1 31 [sV A_a d1 c_a]::Box b11 56 [sV (sb b9) c1 ((w64 (6 * t3)).toNat)]::Own (Ar .i64) 2 (sb b9) ((w64 (6 * t3)).toNat) uu c1::Box b20 56 [sV A16 t14 c17]::Own (Ar .i64) 2 A16 c17 uu t14::Box b25 199 [.map (some b23)]::Ir b23 (Value.int .i64) Value.bool f1::L)→G prog 161 65 [(1,pT b1),(4,pT b11),(5,pT b20),(6,pT b25),(20,I (w64 (6 * t3))),(21,I x117)] u1 w (Am.post w0 L r1):=by
   refine lp (fun _ _ _ w H _=>by rw [Am.l1] at H; cases H) fun g1 h2 t1 c1 f1 x117 w H HS=>?_
   rw [Am.l1] at H
   subst d2
   refine rN 3 Z ?_
   rcases iS H with ⟨c205,H⟩ | ⟨c205,H⟩
   ·
    refine nB Z (tF c205) (rN 3 Z (rG (lB 1 HS Z Ih Z (lS Z Z U56 Z (mV Z (nL (rN 2 Z ?_)))))))
    refine G.name (fun v1 b2=>?_)
    have c2:∀ m1,m1≤g1→∀ (e1:List Int) (x279:Int) (w:World),Am.l7 K m1 t14 c1 f1 e1 x279=some r1→St w0 w (Box b11 56 [sV (sb b9) e1 ((w64 (6 * t3)).toNat)]::Own (Ar .i64) 2 (sb b9) ((w64 (6 * t3)).toNat) uu e1::Box b20 56 [sV A16 t14 c17]::Own (Ar .i64) 2 A16 c17 uu t14::Box b25 199 [.map (some b23)]::Ir b23 (Value.int .i64) Value.bool f1::L)→G prog 161 65 [(4,pT b11),(5,pT b20),(6,pT b25),(50,I (c1.length:Int)),(51,I x279)] v1 w (Am.post w0 L r1):=by
     refine lp (fun _ _ w H _=>by rw [Am.l7] at H; cases H) fun q1 g2 p1 e1 x279 w H HS=>?_
     rw [Am.l7] at H
     subst b2
     refine rN 3 Z ?_
     rcases iS H with ⟨c286,H⟩ | ⟨c286,H⟩
     ·
      refine nB Z (tF c286) (rN 2 Z (rG (lB 0 HS Z Ih Z (aS Z (nL ?_)))))
      obtain rfl:=sI H
      exact rT _ func161 Z Z ⟨_,_,Z,(HS.pk 6 [1] Z)⟩
     refine yB Z (tT c286) (rN 6 Z ?_)
     obtain ⟨c287,H⟩:=iN H
     have h288:=(rk (ro 3 Z) HS)
     refine G.lex mixed [2,0,1,3,4,5] (by kernel_rfl) ?_
     replace HS:=HS.drew
     refine GX.ps 1 Z (GX.l1 Z Z Z (fun _ g=>lB 4 HS Z gB Z g) Z (GX.l1 Z Z Z (fun _ g=>lB 2 HS Z Ih Z g) Z (qL Z Z (fun _ _ g=>iX Z U56 sz2 h288 c287 g) Z (GX.l1 Z Z Z (fun _ g=>GO.Cj (T:=(Ar .i64)) (n:=x279.toNat) (o:=0) HS (ro 3 Z) Z Z (getD_some (d:=0) (ltN c287)) Z Z na2 Z g) Z (GX.l1 Z Z Z (fun _ g=>GO.pG false (t14.getD x279.toNat 0) uR HS (j:=5) Z Z Z Z uN zr4 Z Z g) Z (GX.nil ?_))))))
     rcases iS H with ⟨c289,H⟩ | ⟨c289,H⟩
     ·
      refine nB Z (Db c289) (rN 4 Z (gW (p1 q1 (lR _) _ _ _ H HS) Z))
     refine yB Z c289 ?_
     obtain ⟨c290,H⟩:=iN H
     refine rG (lB 0 HS Z Ih Z (mV Z (iX Z U56 sz2 (fun _=>⟨_,_,Z⟩) c290 (GO.Ii (T:=(Ar .i64)) (j:=1) (n:=x279.toNat) (o:=0) (vs:=[I 0]) 0 HS Z Ba Z Z Z Z (htN na2 Z) Z (getD_some (d:=0) (ltN c290)) Z Z fun wd291 HS=>nL ?_))))
     replace HS:=HS.K3 (j:=0) (cs':=[sV (sb b9) (e1.set x279.toNat 0) ((w64 (6 * t3)).toNat)]) Z (by simp only [sV,List.length_set] <;> rfl)
     refine rN 3 Z (gW (p1 q1 (lR _) _ _ _ H HS) Z)
    exact gW (c2 g1 (lR _) _ _ _ H (HS.pk 7 [1,2,3,4,5,6] Z)) Z
   refine yB Z (tT c205) (rN 7 Z ?_)
   obtain ⟨c206,H⟩:=iN H
   refine rG (lB 1 HS Z Ih Z (mV Z (iX Z U56 sz2 (fun _=>⟨_,_,Z⟩) c206 (GO.Cj (T:=(Ar .i64)) (n:=x117.toNat) (o:=0) HS (ro 2 Z) Z Z (getD_some (d:=0) (ltN c206)) Z Z na2 Z (GO.neq Z Z Z Z (nL ?_))))))
   rcases iS H with ⟨c207,H⟩ | ⟨c207,H⟩
   ·
    refine yB Z (nF c207) (rN 3 Z (gW (t1 g1 (lR _) _ _ _ _ H HS) Z))
   refine nB Z (nT c207) (rN 2 Z (rG (lB 1 HS Z Ih Z (mV Z (iX Z U56 sz2 (fun _=>⟨_,_,Z⟩) c206 (GO.Ii (T:=(Ar .i64)) (j:=2) (n:=x117.toNat) (o:=0) (vs:=[I 1]) 1 HS Z Ba Z Z Z Z (htN na2 Z) Z (getD_some (d:=0) (ltN c206)) Z Z fun wd208 HS=>nL ?_))))))
   replace HS:=HS.K3 (j:=1) (cs':=[sV (sb b9) (c1.set x117.toNat 1) ((w64 (6 * t3)).toNat)]) Z (by simp only [sV,List.length_set] <;> rfl)
   refine sQ (rG (mV Z (GO.Cw (el:=2) ([I x117]) HS Z Z (fun _=>by kernel_rfl) Z fun b209 wd210 HS=>GO.alloc HS Z Zf Z Z fun b211 wd212 HS=>?_)))
   replace HS:=HS.Fq (T:=(Ar .i64)) (j:=1) Z Ba uu ([x117]:List Int) Z (Il Z)
   refine GO.H7 (t:=33) (m:=([x117]:List Int).length) (c':=([x117]:List Int).length) Z Z Z (GO.Ie (j:=0) (vs:=[sV (sb b209) ([x117]:List Int) (([x117]:List Int).length)]) ([sV (sb b209) ([x117]:List Int) (([x117]:List Int).length)]) HS Z Z Z Z Z (htN Ih Z) Z Z Z fun wd213 HS=>nL (sQ (rG (GO.alloc HS Z zr3 Z Z fun b214 wd215 HS=>GO.Ie (j:=0) (vs:=[I 0]) ([I 0]) HS Z Z Z Z Z (htN na3 Z) Z Z Z fun wd216 HS=>nL (rN 2 Z ?_)))))
   refine G.name (fun y1 a2=>?_)
   have x1:∀ s1,s1≤g1→∀ (i1:List Int) (k1:List (Int × Bool)) (A235:Option Addr) (c236:Nat) (h1:List Int) (b238:Nat) (a1:Int) (w:World),Am.l6 K s1 d1 t3 t14 x117 i1 k1 h1 a1=some r1→St w0 w (Box b1 31 [sV A_a d1 c_a]::Box b11 56 [sV (sb b9) i1 ((w64 (6 * t3)).toNat)]::Own (Ar .i64) 2 (sb b9) ((w64 (6 * t3)).toNat) uu i1::Box b20 56 [sV A16 t14 c17]::Own (Ar .i64) 2 A16 c17 uu t14::Box b25 199 [.map (some b23)]::Ir b23 (Value.int .i64) Value.bool k1::Box b211 56 [sV A235 h1 c236]::Own (Ar .i64) 2 A235 c236 uu h1::Box b238 3 [I a1]::L)→G prog 161 65 [(1,pT b1),(4,pT b11),(5,pT b20),(6,pT b25),(8,pT b211),(9,pT b238),(20,I (w64 (6 * t3))),(21,I x117)] y1 w (Am.post w0 L r1):=by
    refine lp (fun _ _ _ _ _ _ _ w H _=>by rw [Am.l6] at H; cases H) fun o1 z1 f2 i1 k1 A235 c236 h1 b238 a1 w H HS=>?_
    rw [Am.l6] at H
    subst a2
    refine rN 2 Z (rG (lB 9 HS Z na3 Z (lB 7 HS Z Ih Z (lS Z Z U56 Z (GO.lss Z Z Z Z (nL ?_))))))
    rcases iS H with ⟨c256,H⟩ | ⟨c256,H⟩
    ·
     refine nB Z (tF c256) (rN 4 Z (gW (t1 o1 (Nat.le_of_succ_le z1) _ _ _ _ H (HS.pk 10 [0,1,2,3,4,5,6] Z)) Z))
    refine yB Z (tT c256) (rN 3 Z ?_)
    obtain ⟨c257,H⟩:=iN H
    have h258:=(rk (ro 8 Z) HS)
    obtain ⟨t259,t260,t261,h262,H⟩:=J3 H
    obtain ⟨c263,H⟩:=iN H
    refine G.lex mixed [5,0,1,2,3,4,6] (by kernel_rfl) ?_
    replace HS:=HS.drew
    refine qL Z Z (fun _ _ g=>GO.Q6 Z Z Z Z g) Z (GX.l1 Z Z Z (fun _ g=>lW 0 HS Z Dq g) Z (GX.l1 Z Z Z (fun _ g=>lB 7 HS Z Ih Z g) Z (GX.l1 Z Z Z (fun _ g=>lB 9 HS Z na3 Z g) Z (qL Z Z (fun _ _ g=>iX Z U56 sz2 h258 c257 g) Z (GX.l1 Z Z Z (fun _ g=>GO.Cj (T:=(Ar .i64)) (n:=a1.toNat) (o:=0) HS (ro 8 Z) Z Z (getD_some (d:=0) (ltN c257)) Z Z na2 Z g) Z (GX.l2 Z ?_))))))
    replace HS:=HS.pk 10 [1,2,7,8,9,5,6,3,0,4] Z
    refine fJ tK Z (Al.calls HS (rD 2 r_a) (ro 1 Z) h262) (fun _ wd266 ⟨A264,c265,h267,HS⟩=>⟨_,h267,(GX.fin tv (GX.nil (rN 3 Z (rG (lB 4 HS Z na3 Z (nL (rG (GO.alloc HS Z zr3 Z Z fun b268 wd269 HS=>GO.Ie (j:=0) (vs:=[I a1]) ([I a1]) HS Z Z Z Z Z (htN na3 Z) Z Z Z fun wd270 HS=>nL (rG (lB 0 HS Z na3 Z (GO.add Z Z Z Z (GO.Ie (j:=0) (vs:=[I (w64 (a1+1))]) ([I (w64 (a1+1))]) HS Z Z Z Z Z (htN na3 Z) Z Z Z fun wd271 HS=>?_))))))))))))⟩)
    refine nL (G.again (gW (f2 o1 (lR _) _ _ _ _ _ _ _ _ H (HS.pk 11 [9,1,2,8,10,6,7,3,4,0] Z)) Z))
   exact gW (x1 g1 (lR _) _ _ _ _ _ _ _ _ H (HS.pk 10 [3,4,5,6,7,8,9,1,2,0] Z)) Z
  exact gW (e2 K (lR _) _ _ _ _ H (HS.pk 7 [6,4,5,2,3,0,1] Z)) Z
theorem Bu.calls {c1:List (List Ab)} {y_a:Nat→(Ty.slice 107 Ad).Lay} {r1:List Bool} (HS:St w0 w (L)) (r_a:Ce w0 L (Ty.slice 107 Ad) A_a c_a y_a c1) (H:Bu.f K c1=some r1) :
    Calls prog 140 #[.agg [sV A_a c1 c_a].toArray] w (Bu.post w0 L r1):=by
  unfold Bu.f at H
  refine cG func140 Z ?_
  refine sQ (rG (bA HS Z fun b1 wd2 HS=>aS Z (nL (sQ ?_))))
  obtain ⟨t3,h4,H⟩:=bI H
  refine rG (lW 0 HS Z Dq (fJ Q5 Z (Bl.calls HS (rD 1 r_a) h4) (fun _ wd7 ⟨A5,c6,h8,HS⟩=>⟨_,h8,(aS Z (nL (sQ ?_)))⟩)))
  obtain ⟨t9,h10,H⟩:=bI H
  obtain ⟨c13,H⟩:=iN H
  obtain ⟨c14,H⟩:=iN H
  refine rG (mV Z (fJ iK Z (Ho.calls HS (ro 0 Z) h10) (fun _ wd11 ⟨h12,HS⟩=>⟨_,h12,(GO.make (T:=Hz) false () HS Ba Z Z Z Mq dM Z Z Z c13 c14 Z fun b15 wd16 HS=>aS Z (nL (rN 2 Z ?_)))⟩)))
  obtain ⟨t17,h18,H⟩:=bI H
  refine rG (lW 2 HS Z Dq (fJ uE Z (Am.calls HS (rD 3 r_a) h18) (fun _ wd21 ⟨A19,c20,h22,HS⟩=>⟨_,h22,(lS Z Z U56 Z (mV Z (nL (rN 2 Z ?_))))⟩)))
  refine G.name (fun h1 f1=>?_)
  have g1:∀ d1,d1≤K→∀ (a1:List Bool) (x29:Int) (w:World),Bu.l1 K d1 t3 t17 a1 x29=some r1→St w0 w (Own (Ar .i64) 2 A5 c6 uu t3::Own Hz 4 (sb b15) t9.toNat uu a1::Own (Ar .i64) 2 A19 c20 uu t17::L)→G prog 140 30 [(3,sV A5 t3 c6),(4,sV (sb b15) a1 t9.toNat),(13,sV A19 t17 c20),(14,I (t17.length:Int)),(15,I x29)] h1 w (Bu.post w0 L r1):=by
   refine lp (fun _ _ w H _=>by rw [Bu.l1] at H; cases H) fun e1 k1 i1 a1 x29 w H HS=>?_
   rw [Bu.l1] at H
   subst f1
   refine rN 3 Z ?_
   rcases iS H with ⟨c35,H⟩ | ⟨c35,H⟩
   ·
    refine nB Z (tF c35) (rN 3 Z ?_)
    obtain rfl:=sI H
    exact rT _ func140 Z Z ⟨_,_,Z,(HS.pk 3 [1] Z)⟩
   refine yB Z (tT c35) (rN 4 Z ?_)
   obtain ⟨c36,H⟩:=iN H
   refine rG (mV Z (iX Z U56 sz2 (rk (ro 2 Z) HS) c36 (GO.Cj (T:=(Ar .i64)) (n:=x29.toNat) (o:=0) HS (ro 2 Z) Z Z (getD_some (d:=0) (ltN c36)) Z Z na2 Z (pS 2 Z (nL ?_)))))
   obtain ⟨c37,H⟩:=iN H
   obtain ⟨c38,H⟩:=iN H
   refine rG (pS 3 Z (iX Z U56 sz2 (rk (ro 0 Z) HS) c37 (GO.Cj (T:=(Ar .i64)) (n:=x29.toNat) (o:=0) HS (ro 0 Z) Z Z (getD_some (d:=0) (ltN c37)) Z Z na2 Z (pS 2 Z (iX Z Mq sz4 (fun _=>⟨_,_,Z⟩) c38 (GO.Ii (T:=Hz) (j:=1) (n:=(t3.getD x29.toNat 0).toNat) (o:=0) (vs:=[.bool (decide (t17.getD x29.toNat 0=0))]) (decide (t17.getD x29.toNat 0=0)) HS Z Ba Z Z Z Z (htN na4 Z) Z (getD_some (d:=false) (ltN c38)) Z Z fun wd39 HS=>nL (G.len (t:=4) (m:=(a1.set ((t3.getD x29.toNat 0).toNat) (decide (t17.getD x29.toNat 0=0))).length) Z (by simp only [List.length_set] <;> rfl) (rN 3 Z (gW (i1 e1 (lR _) _ _ _ H HS) Z)))))))))
  exact gW (g1 K (lR _) _ _ _ H (HS.pk 4 [2,1,0] Z)) Z
theorem Ap.calls {a1:List (List Ab)} {y_a:Nat→(Ty.slice 107 Ad).Lay} {r1:List Bool} (HS:St w0 w (L)) (r_a:Ce w0 L (Ty.slice 107 Ad) A_a c_a y_a a1) (H:Ap.f K a1=some r1) :
    Calls prog 141 #[.agg [sV A_a a1 c_a].toArray] w (Ap.post w0 L r1):=by
  unfold Ap.f at H
  refine cG func141 Z ?_
  refine sQ (rG (bA HS Z fun b1 wd2 HS=>aS Z (nL (sQ ?_))))
  obtain ⟨t3,h4,H⟩:=bI H
  refine rG (lW 0 HS Z Dq (fJ Q5 Z (Bl.calls HS (rD 1 r_a) h4) (fun _ wd7 ⟨A5,c6,h8,HS⟩=>⟨_,h8,(aS Z (nL (sQ ?_)))⟩)))
  obtain ⟨t9,h10,H⟩:=bI H
  obtain ⟨c13,H⟩:=iN H
  obtain ⟨c14,H⟩:=iN H
  refine rG (mV Z (fJ iK Z (Ho.calls HS (ro 0 Z) h10) (fun _ wd11 ⟨h12,HS⟩=>⟨_,h12,(GO.make (T:=Hz) false () HS Ba Z Z Z Mq dM Z Z Z c13 c14 Z fun b15 wd16 HS=>aS Z (nL (rN 2 Z (rG (mV Z (lS Z Z U56 Z (mV Z (nL (rN 2 Z ?_)))))))))⟩)))
  refine G.name (fun t1 n1=>?_)
  have q1:∀ h1,h1≤K→∀ (d1:List Bool) (x77:Int) (w:World),Ap.l1 K h1 a1 t3 d1 x77=some r1→St w0 w (Box b1 31 [sV A_a a1 c_a]::Own Hz 4 (sb b15) t9.toNat uu d1::Own (Ar .i64) 2 A5 c6 uu t3::L)→G prog 141 60 [(1,pT b1),(4,sV (sb b15) d1 t9.toNat),(16,sV A5 t3 c6),(17,I (t3.length:Int)),(18,I x77)] t1 w (Ap.post w0 L r1):=by
   refine lp (fun _ _ w H _=>by rw [Ap.l1] at H; cases H) fun g1 u1 s1 d1 x77 w H HS=>?_
   rw [Ap.l1] at H
   subst n1
   refine rN 3 Z ?_
   rcases iS H with ⟨c137,H⟩ | ⟨c137,H⟩
   ·
    refine nB Z (tF c137) (rN 3 Z ?_)
    obtain rfl:=sI H
    exact rT _ func141 Z Z ⟨_,_,Z,(HS.pk 3 [1] Z)⟩
   refine yB Z (tT c137) (rN 4 Z ?_)
   obtain ⟨c138,H⟩:=iN H
   refine rG (mV Z (iX Z U56 sz2 (rk (ro 2 Z) HS) c138 (GO.Cj (T:=(Ar .i64)) (n:=x77.toNat) (o:=0) HS (ro 2 Z) Z Z (getD_some (d:=0) (ltN c138)) Z Z na2 Z (pS 2 Z (nL (sQ ?_))))))
   obtain ⟨t139,t140,h141,H⟩:=Ea H
   refine rG (mV Z (GO.rem Z Z Z (by decide) Z (fJ Ws Z (Gm.calls HS  h141) (fun _ wd142 ⟨h143,HS⟩=>⟨_,h143,(pS 5 Z (nL (sQ ?_)))⟩))))
   obtain ⟨t146,h147,H⟩:=bI H
   refine rG (pS 2 Z (GO.Cw (el:=2) ([I t139,I t140]) HS Z Z (fun _=>by kernel_rfl) Z fun b144 wd145 HS=>?_))
   replace HS:=HS.Fq (T:=(Ar .i64)) (j:=0) Z Ba uu ([t139,t140]:List Int) Z (Il Z)
   refine GO.H7 (t:=31) (m:=([t139,t140]:List Int).length) (c':=([t139,t140]:List Int).length) Z Z Z (fJ Qs Z (Fb.calls HS (ro 0 Z) h147) (fun _ wd150 ⟨A148,c149,h151,HS⟩=>⟨_,h151,(lS Z Z U56 Z (mV Z (nL (rN 2 Z ?_))))⟩))
   refine G.name (fun o1 p1=>?_)
   have k1:∀ i1,i1≤g1→∀ (c1:List Bool) (x167:Int) (w:World),Ap.l4 K i1 a1 t3 x77 t146 c1 x167=some r1→St w0 w (Box b1 31 [sV A_a a1 c_a]::Own Hz 4 (sb b15) t9.toNat uu c1::Own (Ar .i64) 2 A5 c6 uu t3::Own (Ar .i64) 2 A148 c149 uu t146::L)→G prog 141 60 [(1,pT b1),(4,sV (sb b15) c1 t9.toNat),(5,I x77),(6,I (t3.getD x77.toNat 0)),(16,sV A5 t3 c6),(17,I (t3.length:Int)),(18,I x77),(32,sV A148 t146 c149),(33,I (t146.length:Int)),(34,I x167)] o1 w (Ap.post w0 L r1):=by
    refine lp (fun _ _ w H _=>by rw [Ap.l4] at H; cases H) fun e1 m1 f1 c1 x167 w H HS=>?_
    rw [Ap.l4] at H
    subst p1
    refine rN 3 Z ?_
    rcases iS H with ⟨c182,H⟩ | ⟨c182,H⟩
    ·
     refine nB Z (tF c182) (rN 4 Z (gW (s1 e1 (Nat.le_of_succ_le m1) _ _ _ H (HS.pk 4 [0,1,2] Z)) Z))
    refine yB Z (tT c182) (rN 4 Z ?_)
    obtain ⟨c183,H⟩:=iN H
    refine rG (iX Z U56 sz2 (rk (ro 3 Z) HS) c183 (GO.Cj (T:=(Ar .i64)) (n:=x167.toNat) (o:=0) HS (ro 3 Z) Z Z (getD_some (d:=0) (ltN c183)) Z Z na2 Z (aS Z (nL ?_))))
    obtain ⟨c184,H⟩:=iN H
    rcases iE H with ⟨c185,H⟩ | ⟨c185,H⟩
    ·
     refine rG (pS 4 Z (iX Z Mq sz4 (fun _=>⟨_,_,Z⟩) c184 (GO.Cj (T:=Hz) (n:=(t3.getD x77.toNat 0).toNat) (o:=0) HS (ro 1 Z) Z Z (getD_some (d:=false) (ltN c184)) Z Z na4 Z (mV Z (kN 44 Z c185 (oF Z (oF Z (oF Z (oF Z (oF Z (oF Z (oF Z (oF Z (oF Z ?_))))))))))))))
     refine oF Z (GO.Iz Z Z Z Z Z (iX Z Mq sz4 (fun _=>⟨_,_,Z⟩) c184 (GO.Ii (T:=Hz) (j:=1) (n:=(t3.getD x77.toNat 0).toNat) (o:=0) (vs:=[.bool true]) true HS Z Ba Z Z Z Z (htN na4 Z) Z (getD_some (d:=false) (ltN c184)) Z Z fun wd186 HS=>nL (G.len (t:=4) (m:=(c1.set ((t3.getD x77.toNat 0).toNat) true).length) Z (by simp only [List.length_set] <;> rfl) (rN 3 Z (gW (f1 e1 (lR _) _ _ _ H HS) Z))))))
    obtain ⟨c187,H⟩:=iN H
    obtain ⟨c188,H⟩:=iN H
    obtain ⟨e189,h190,H⟩:=Di H
    obtain ⟨t191,h192,H⟩:=bI H
    refine rG (pS 4 Z (iX Z Mq sz4 (fun _=>⟨_,_,Z⟩) c184 (GO.Cj (T:=Hz) (n:=(t3.getD x77.toNat 0).toNat) (o:=0) HS (ro 1 Z) Z Z (getD_some (d:=false) (ltN c184)) Z Z na4 Z (mV Z (kN 44 Z (Db c185) (oN Z (fL b1 0 Du Z (bK (oN Z (lB 0 HS Z Gu Z (bK (oN Z (mV Z (bK ?_))))))))))))))
    refine oN Z (GO.quo Z Z Z (by decide) Z (bK (oN Z (iX Z U29 Jg (rk (rD 4 r_a) HS) c187 (bK (oN Z (GO.Cj (T:=(Ty.slice 107 Ad)) (n:=(w64 (x77.tdiv 6)).toNat) (o:=0) HS (rD 4 r_a) Z Z (getD_some (d:=[]) (ltN c187)) Z Z Jh Z (bK (oN Z (mV Z (bK (oN Z (GO.ix Z Z Z U77 G9 ((Ce.elem (rD 4 r_a) c187.1 c187.2) _ HS).2.2.1 c188.1 c188.2 Z (bK ?_))))))))))))))
    refine oN Z (GO.Hw (T:=Ad) (n:=(t146.getD x167.toNat 0).toNat) HS (Ce.elem (rD 4 r_a) c187.1 c187.2) Z Z (Cn (ltN c188) h190) D9 Z (bK (oN Z (fJ Nr Z (Bi.calls HS  h192) (fun _ wd193 ⟨h194,HS⟩=>⟨_,h194,(bK (GO.Jm Z Z Z Z Z (iX Z Mq sz4 (fun _=>⟨_,_,Z⟩) c184 (GO.Ii (T:=Hz) (j:=1) (n:=(t3.getD x77.toNat 0).toNat) (o:=0) (vs:=[.bool t191]) t191 HS Z Ba Z Z Z Z (htN na4 Z) Z (getD_some (d:=false) (ltN c184)) Z Z fun wd195 HS=>nL (G.len (t:=4) (m:=(c1.set ((t3.getD x77.toNat 0).toNat) t191).length) Z (by simp only [List.length_set] <;> rfl) (rN 3 Z (gW (f1 e1 (lR _) _ _ _ H HS) Z)))))))⟩)))))
   exact gW (k1 g1 (lR _) _ _ _ H (HS.pk 5 [2,3,4,0] Z)) Z
  exact gW (q1 K (lR _) _ _ _ H (HS.pk 3 [2,0,1] Z)) Z
theorem Bo.calls {c1:List (List Ab)} {a1:Int} {y_a:Nat→(Ty.slice 107 Ad).Lay} {r1 r2:Int} (HS:St w0 w (L)) (r_a:Ce w0 L (Ty.slice 107 Ad) A_a c_a y_a c1) (H:Bo.f K c1 a1=some (r1,r2)) :
    Calls prog 162 #[.agg [sV A_a c1 c_a].toArray,I a1] w (Bo.post w0 L r1 r2):=by
  unfold Bo.f at H
  refine cG func162 Z ?_
  refine sQ (rG (bA HS Z fun b1 wd2 HS=>GO.alloc HS Z Pk Z Z fun b3 wd4 HS=>nL (sQ ?_)))
  obtain ⟨t5,h6,H⟩:=bI H
  refine rG (lW 1 HS Z Dq (fJ Q5 Z (Bl.calls HS (rD 2 r_a) h6) (fun _ wd9 ⟨A7,c8,h10,HS⟩=>⟨_,h10,(aS Z (nL (rN 2 Z ?_)))⟩)))
  obtain ⟨t11,h12,H⟩:=bI H
  obtain ⟨c17,H⟩:=iN H
  refine rG (lW 2 HS Z Dq (fJ jR Z (Ap.calls HS (rD 3 r_a) h12) (fun _ wd15 ⟨A13,c14,h16,HS⟩=>⟨_,h16,(mV Z (iX Z Mq sz4 (rk (ro 0 Z) HS) c17 (GO.Cj (T:=Hz) (n:=a1.toNat) (o:=0) HS (ro 0 Z) Z Z (getD_some (d:=false) (ltN c17)) Z Z na4 Z (GO.not Z Z Z (nL ?_)))))⟩)))
  rcases iS H with ⟨c18,H⟩ | ⟨c18,H⟩
  ·
   refine yB Z (congrArg Bool.not (Db c18)) (sQ ?_)
   obtain ⟨t408,h409,H⟩:=bI H
   refine rG (pS 2 Z (fJ fB Z (Ch.calls HS (ro 1 Z) h409) (fun _ wd410 ⟨h411,HS⟩=>⟨_,h411,(aS Z (nL (sQ ?_)))⟩)))
   obtain ⟨t412,t413,h414,H⟩:=Ea H
   refine rG (mV Z (GO.rem Z Z Z (by decide) Z (fJ Ws Z (Gm.calls HS  h414) (fun _ wd415 ⟨h416,HS⟩=>⟨_,h416,(pS 5 Z (nL (sQ ?_)))⟩))))
   obtain ⟨t419,h420,H⟩:=bI H
   refine rG (pS 2 Z (GO.Cw (el:=2) ([I t412,I t413]) HS Z Z (fun _=>by kernel_rfl) Z fun b417 wd418 HS=>?_))
   replace HS:=HS.Fq (T:=(Ar .i64)) (j:=0) Z Ba uu ([t412,t413]:List Int) Z (Il Z)
   refine GO.H7 (t:=32) (m:=([t412,t413]:List Int).length) (c':=([t412,t413]:List Int).length) Z Z Z (fJ Qs Z (Fb.calls HS (ro 0 Z) h420) (fun _ wd423 ⟨A421,c422,h424,HS⟩=>⟨_,h424,(aS Z (nL (sQ ?_)))⟩))
   obtain ⟨c425,H⟩:=iN H
   have h426:=(rk (ro 0 Z) HS)
   obtain ⟨c427,H⟩:=iN H
   have h428:=(rk (ro 0 Z) HS)
   obtain ⟨t429,h430,H⟩:=bI H
   refine G.lex mixed [0,1,2,3,4,5,7,8,6,9,10,11,12,13] (by kernel_rfl) ?_
   replace HS:=HS.drew
   refine GX.ps 1 Z (qL Z Z (fun _ _ g=>GO.quo Z Z Z (by decide) Z g) Z (GX.ps 3 Z (qL Z Z (fun _ _ g=>iX Z U56 sz2 h426 c425 g) Z (GX.ps 1 Z (qL Z Z (fun _ _ g=>iX Z U56 sz2 h428 c427 g) Z (GX.l1 Z Z Z (fun _ g=>GO.Cj (T:=(Ar .i64)) (n:=0) (o:=0) HS (ro 0 Z) Z Z (getD_some (d:=0) (ltN c425)) Z Z na2 Z g) Z (GX.l1 Z Z Z (fun _ g=>GO.Cj (T:=(Ar .i64)) (n:=1) (o:=0) HS (ro 0 Z) Z Z (getD_some (d:=0) (ltN c427)) Z Z na2 Z g) Z (qL Z Z (fun _ _ g=>GO.Dr (.agg [I t412,I t413,I (t419.getD 0 0),I (t419.getD 1 0)].toArray) Z Z (fun _=>by kernel_rfl) Z g) Z (GX.l2 Z (fJ Q8 Z (Cu.calls HS  h430) (fun _ wd431 ⟨h432,HS⟩=>⟨_,h432,(GX.fin tv (qL Z Z (fun _ _ g=>GO.Dr (.agg [I (w64 (t408.tdiv 6)),I t429].toArray) Z Z (fun _=>by kernel_rfl) Z g) Z (GX.l2 Z (sW 4 HS Z Iq Z fun wd433 HS=>?_))))⟩)))))))))))
   refine GX.fin tv (GX.nil ?_)
   obtain ⟨rfl,rfl⟩:=H9 H
   exact rT _ func162 Z (Gz.Hu (j:=4) (vs:=[I (w64 (t408.tdiv 6)),I t429]) HS Z Z Z Iq) ⟨Z,(HS.pk 6 [] Z)⟩
  refine nB Z (congrArg Bool.not c18) (rN 3 Z ?_)
  obtain ⟨t19,h20,H⟩:=bI H
  refine rG (fL b1 0 Du Z (lB 3 HS Z Gu Z (fJ O0 Z (Bw.calls HS (rD 4 r_a) h20) (fun _ wd21 ⟨h22,HS⟩=>⟨_,h22,(mV Z (nL (rN 2 Z ?_)))⟩))))
  refine G.name (fun q1 m1=>?_)
  have p1:∀ g1,g1≤K→∀ (x151:Int) (w:World),Bo.l1 K g1 c1 a1 t5 t19 x151=some (r1,r2)→St w0 w (Box b1 31 [sV A_a c1 c_a]::Box b3 167 [I 0,I 0]::Own (Ar .i64) 2 A7 c8 uu t5::L)→G prog 162 89 [(1,I a1),(2,pT b1),(4,pT b3),(5,sV A7 t5 c8),(49,I t19),(50,I x151)] q1 w (Bo.post w0 L r1 r2):=by
   refine lp (fun _ w H _=>by rw [Bo.l1] at H; cases H) fun f1 t1 s1 x151 w H HS=>?_
   rw [Bo.l1] at H
   subst m1
   refine rN 3 Z ?_
   rcases iS H with ⟨c280,H⟩ | ⟨c280,H⟩
   ·
    refine nB Z (tF c280) (rN 2 Z (rG (GO.Dr (.agg [I 0,I 0].toArray) Z Z (fun _=>by kernel_rfl) Z (sW 1 HS Z Iq Z fun wd407 HS=>nL ?_))))
    obtain ⟨rfl,rfl⟩:=H9 H
    exact rT _ func162 Z (Gz.Hu (j:=1) (vs:=[I 0,I 0]) HS Z Z Z Iq) ⟨Z,(HS.pk 3 [] Z)⟩
   refine yB Z (tT c280) (rN 9 Z ?_)
   refine G.name (fun n1 o1=>?_)
   have i1:∀ h1,h1≤f1→∀ (x322:Int) (w:World),Bo.l4 K h1 c1 a1 t5 t19 x151 x322=some (r1,r2)→St w0 w (Box b1 31 [sV A_a c1 c_a]::Box b3 167 [I 0,I 0]::Own (Ar .i64) 2 A7 c8 uu t5::L)→G prog 162 89 [(1,I a1),(2,pT b1),(4,pT b3),(5,sV A7 t5 c8),(10,I x151),(49,I t19),(50,I x151),(53,I x322)] n1 w (Bo.post w0 L r1 r2):=by
    refine lp (fun _ w H _=>by rw [Bo.l4] at H; cases H) fun d1 k1 e1 x322 w H HS=>?_
    rw [Bo.l4] at H
    subst o1
    refine rN 3 Z ?_
    rcases iS H with ⟨c365,H⟩ | ⟨c365,H⟩
    ·
     refine nB Z (tF c365) (rN 4 Z (gW (s1 d1 (Nat.le_of_succ_le k1) _ _ H HS) Z))
    refine yB Z (tT c365) (rN 6 Z ?_)
    obtain ⟨t366,t367,t368,t369,h370,H⟩:=D8 H
    refine rG (mV Z (fJ Lc Z (Ct.calls HS  h370) (fun _ wd371 ⟨h372,HS⟩=>⟨_,h372,(GO.alloc HS Z Ld Z Z fun b373 wd374 HS=>sW 0 HS Z Ki Z fun wd375 HS=>nL (sQ ?_))⟩)))
    obtain ⟨t390,h391,H⟩:=bI H
    obtain ⟨c394,H⟩:=iN H
    have h395:=(rk (ro 3 Z) HS)
    rcases iS H with ⟨c396,H⟩ | ⟨c396,H⟩
    ·
     refine G.lex mixed [0,1,2,3,5,11,4,6,7,8,9,10,12,13,14,16,19,15,17,18,20,21,22,23,24] (by kernel_rfl) ?_
     replace HS:=HS.drew
     refine GX.ps 3 Z (qL Z Z (fun _ _ g=>GO.ixP 0 Z Z Z Z Hf sz2 Z Z g) Z (qL Z Z (fun _ _ g=>GO.ixP 1 Z Z Z Z Hf sz2 Z Z g) Z (GX.ps 1 Z (GX.l1 Z Z Z (fun _ g=>lB 0 HS Z na2 Z g) Z (GX.l1 Z Z Z (fun _ g=>lB 0 HS Z na2 Z g) Z (GX.l2 Z (fJ Xm Z (Ha.calls HS  h391) (fun _ wd392 ⟨h393,HS⟩=>⟨_,h393,(GX.fin tv (GX.ps 1 Z (qL Z Z (fun _ _ g=>iX Z U56 sz2 h395 c394 g) Z (GX.l1 Z Z Z (fun _ g=>GO.Cj (T:=(Ar .i64)) (n:=(w64 ((w64 (6 * x151))+t390)).toNat) (o:=0) HS (ro 3 Z) Z Z (getD_some (d:=0) (ltN c394)) Z Z na2 Z g) Z (GX.ps 1 Z (qL Z Z (fun _ _ g=>mV Z (kN 71 Z (tF c396) g)) Z (qL Z Z (fun _ _ g=>oF Z g) Z ?_)))))))⟩))))))))
     refine qL Z Z (fun _ _ g=>oF Z g) Z (qL Z Z (fun _ _ g=>oF Z g) Z (GX.l1 Z Z Z (fun _ g=>oF Z g) Z (qL Z Z (fun _ _ g=>oF Z g) Z (GX.l1 Z Z Z (fun _ g=>oF Z g) Z (GX.l1 Z Z Z (fun _ g=>oF Z g) Z (qL Z Z (fun _ _ g=>oF Z g) Z (GX.l1 Z Z Z (fun _ g=>oF Z g) Z (GX.l2 Z (oF Z (GX.fin tv (GX.ps 1 Z (GX.nil (rN 5 Z (gW (e1 d1 (lR _) _ _ H (HS.pk 4 [1,2,3] Z)) Z))))))))))))))
    obtain ⟨c397,H⟩:=iN H
    obtain ⟨c398,H⟩:=iN H
    obtain ⟨e399,h400,H⟩:=Di H
    obtain ⟨t401,h402,H⟩:=bI H
    refine G.lex mixed [0,1,2,3,5,11,4,6,7,8,9,10,12,13,14,16,19,15,17,18,20,21,22,23,24] (by kernel_rfl) ?_
    replace HS:=HS.drew
    refine GX.ps 3 Z (qL Z Z (fun _ _ g=>GO.ixP 0 Z Z Z Z Hf sz2 Z Z g) Z (qL Z Z (fun _ _ g=>GO.ixP 1 Z Z Z Z Hf sz2 Z Z g) Z (GX.ps 1 Z (GX.l1 Z Z Z (fun _ g=>lB 0 HS Z na2 Z g) Z (GX.l1 Z Z Z (fun _ g=>lB 0 HS Z na2 Z g) Z (GX.l2 Z (fJ Xm Z (Ha.calls HS  h391) (fun _ wd392 ⟨h393,HS⟩=>⟨_,h393,(GX.fin tv (GX.ps 1 Z (qL Z Z (fun _ _ g=>iX Z U56 sz2 h395 c394 g) Z (GX.l1 Z Z Z (fun _ g=>GO.Cj (T:=(Ar .i64)) (n:=(w64 ((w64 (6 * x151))+t390)).toNat) (o:=0) HS (ro 3 Z) Z Z (getD_some (d:=0) (ltN c394)) Z Z na2 Z g) Z (GX.ps 1 Z (qL Z Z (fun _ _ g=>mV Z (kN 71 Z (tT c396) g)) Z (qL Z Z (fun _ _ g=>oN Z (fL b1 0 Du Z (bK g))) Z ?_)))))))⟩))))))))
    refine qL Z Z (fun _ _ g=>oN Z (mV Z (bK g))) Z (qL Z Z (fun _ _ g=>oN Z (GO.ixP 3 Z Z Z Z Hf sz2 Z Z (bK g))) Z (GX.l1 Z Z Z (fun _ g=>oN Z (lB 1 HS Z Gu Z (bK g))) Z (qL Z Z (fun _ _ g=>oN Z (iX Z U29 Jg (rk (rD 4 r_a) HS) c397 (bK g))) Z (GX.l1 Z Z Z (fun _ g=>oN Z (GO.Cj (T:=(Ty.slice 107 Ad)) (n:=x151.toNat) (o:=0) HS (rD 4 r_a) Z Z (getD_some (d:=[]) (ltN c397)) Z Z Jh Z (bK g))) Z (GX.l1 Z Z Z (fun _ g=>oN Z (lB 0 HS Z na2 Z (bK g))) Z (qL Z Z (fun _ _ g=>oN Z (GO.ix Z Z Z U77 G9 ((Ce.elem (rD 4 r_a) c397.1 c397.2) _ HS).2.2.1 c398.1 c398.2 Z (bK g))) Z (GX.l1 Z Z Z (fun _ g=>oN Z (GO.Hw (T:=Ad) (n:=t369.toNat) HS (Ce.elem (rD 4 r_a) c397.1 c397.2) Z Z (Cn (ltN c398) h400) D9 Z (bK g))) Z (GX.l2 Z (oN Z (fJ Nr Z (Bi.calls HS  h402) (fun _ wd403 ⟨h404,HS⟩=>⟨_,h404,(bK (GX.fin tv (GX.ps 1 Z (GX.nil ?_))))⟩)))))))))))
    rcases iS H with ⟨c405,H⟩ | ⟨c405,H⟩
    ·
     refine nB Z (Db c405) (rN 4 Z (gW (e1 d1 (lR _) _ _ H (HS.pk 4 [1,2,3] Z)) Z))
    refine yB Z c405 (sQ (rG (pS 2 Z (GO.Dr (.agg [I x151,I x322].toArray) Z Z (fun _=>by kernel_rfl) Z (sW 2 HS Z Iq Z fun wd406 HS=>nL ?_)))))
    obtain ⟨rfl,rfl⟩:=H9 H
    exact rT _ func162 Z (Gz.Hu (j:=2) (vs:=[I x151,I x322]) HS Z Z Z Iq) ⟨Z,(HS.pk 4 [] Z)⟩
   exact gW (i1 f1 (lR _) _ _ H HS) Z
  exact gW (p1 K (lR _) _ _ H (HS.pk 4 [3,2,1] Z)) Z
theorem F3.calls {a1:List (List Ab)} {c1 d1:Int} {y_a:Nat→(Ty.slice 107 Ad).Lay} {r1 r2:Int} {r3:Bool} (HS:St w0 w (L)) (r_a:Ce w0 L (Ty.slice 107 Ad) A_a c_a y_a a1) (H:F3.f K a1 c1 d1=some (r1,r2,r3)) :
    Calls prog 163 #[.agg [sV A_a a1 c_a].toArray,.agg [I c1,I d1].toArray] w (F3.post w0 L r1 r2 r3):=by
  unfold F3.f at H
  refine cG func163 Z ?_
  refine sQ (rG (bA HS Z fun b1 wd2 HS=>bA HS Z fun b3 wd4 HS=>GO.alloc HS Z Pk Z Z fun b5 wd6 HS=>aS Z (nL (sQ ?_))))
  obtain ⟨t7,t8,t9,t10,h11,H⟩:=D8 H
  refine rG (fL b3 1 M0 Z (lB 1 HS Z na2 Z (fJ Lc Z (Ct.calls HS  h11) (fun _ wd12 ⟨h13,HS⟩=>⟨_,h13,(GO.alloc HS Z Ld Z Z fun b14 wd15 HS=>sW 0 HS Z Ki Z fun wd16 HS=>nL (sQ ?_))⟩))))
  obtain ⟨c17,H⟩:=iN H
  obtain ⟨c18,H⟩:=iN H
  obtain ⟨e19,h20,H⟩:=Di H
  refine G.H8 mixed (fun w=>St w0 w (Box b14 131 [I t7,I t8,I t9,I t10]::Box b3 167 [I c1,I d1]::Box b1 31 [sV A_a a1 c_a]::L)) [1,3,5,7,9] [0,2,6,1,3,4,5,7,8,9,10,11] [] (by kernel_rfl) (by kernel_rfl) (HS.drew.pk 4 [0,2,3] Z) ?_
  replace HS:=HS.drew
  refine qL Z Z (fun _ _ g=>fL b1 0 Du Z g) Z (qL Z Z (fun _ _ g=>fL b3 0 Gx Z g) Z (qL Z Z (fun _ _ g=>GO.ixP 2 Z Z Z Z Hf sz2 Z Z g) Z (GX.ls Z Z Z (HS.pk 4 [0,2,3] Z) (fun _ HS _ g=>lB 2 HS Z Gu Z g) Z (GX.ls Z Z Z (HS.pk 4 [0,2,3] Z) (fun _ HS _ g=>lB 1 HS Z na2 Z g) Z (qL Z Z (fun _ _ g=>iX Z U29 Jg (rk (rD 4 r_a) HS) c17 g) Z (GX.ls Z Z Z (HS.pk 4 [0,2,3] Z) (fun _ HS _ g=>GO.Cj (T:=(Ty.slice 107 Ad)) (n:=c1.toNat) (o:=0) HS (rD 3 r_a) Z Z (getD_some (d:=[]) (ltN c17)) Z Z Jh Z g) Z (GX.ls Z Z Z (HS.pk 4 [0,2,3] Z) (fun _ HS _ g=>lB 0 HS Z na2 Z g) Z (qL Z Z (fun _ _ g=>GO.ix Z Z Z U77 G9 ((Ce.elem (rD 4 r_a) c17.1 c17.2) _ HS).2.2.1 c18.1 c18.2 Z g) Z (GX.ls Z Z Z (HS.pk 4 [0,2,3] Z) (fun _ HS _ g=>GO.Hw (T:=Ad) (n:=t9.toNat) HS (Ce.elem (rD 3 r_a) c17.1 c17.2) Z Z (Cn (ltN c18) h20) D9 Z g) Z (GX.l2 Z (GO.alloc HS Z Jz Z Z fun b21 wd22 HS=>GX.fin (HS.pk 5 [1,3,4] Z) (GX.l2 Z (sW 0 HS Z D9 Z fun wd23 HS=>?_)))))))))))))
  refine GX.fin (HS.pk 5 [1,3,4] Z) (GX.nil (rN 2 Z ?_))
  obtain ⟨t24,h25,H⟩:=bI H
  refine rG (lW 0 HS Z D9 (fJ Nr Z (Bi.calls HS  h25) (fun _ wd26 ⟨h27,HS⟩=>⟨_,h27,(nL ?_)⟩)))
  rcases iE H with ⟨c28,H⟩ | ⟨c28,H⟩
  ·
   refine yB Z c28 (sQ (rG (GO.Dr (.agg [I 0,I 0].toArray) Z Z (fun _=>by kernel_rfl) Z (sW 2 HS Z Iq Z fun wd29 HS=>aS Z (nL ?_)))))
   obtain ⟨rfl,rfl,rfl⟩:=Mm H
   exact G.Hy _ _ func163 Z (Gz.Hu (j:=2) (vs:=[I 0,I 0]) HS Z Z Z Iq) Z ⟨Z,(HS.pk 5 [] Z)⟩
  refine nB Z (Db c28) (rN 2 Z ?_)
  obtain ⟨t30,t31,t32,t33,h34,H⟩:=D8 H
  refine rG (fL b21 1 Gn Z (lB 0 HS Z na2 Z (fJ Lc Z (Ct.calls HS  h34) (fun _ wd35 ⟨h36,HS⟩=>⟨_,h36,(GO.alloc HS Z Ld Z Z fun b37 wd38 HS=>sW 0 HS Z Ki Z fun wd39 HS=>nL (sQ ?_))⟩))))
  obtain ⟨c40,H⟩:=iN H
  obtain ⟨c41,H⟩:=iN H
  obtain ⟨c42,H⟩:=iN H
  obtain ⟨c43,H⟩:=iN H
  obtain ⟨t44,h45,H⟩:=bI H
  refine G.H8 mixed (fun w=>St w0 w (Box b37 131 [I t30,I t31,I t32,I t33]::Box b21 107 [I e19.Tet,I e19.Perm]::Box b14 131 [I t7,I t8,I t9,I t10]::L)) [1,3,5,7,9,11,13,15,17] [0,2,6,10,14,1,3,4,5,7,8,9,11,12,13,15,16,17,18,19,20,21,22] [] (by kernel_rfl) (by kernel_rfl) (HS.drew.pk 6 [0,1,2] Z) ?_
  replace HS:=HS.drew
  refine qL Z Z (fun _ _ g=>fL b21 0 Dp Z g) Z (qL Z Z (fun _ _ g=>GO.ixP 0 Z Z Z Z Hf sz2 Z Z g) Z (qL Z Z (fun _ _ g=>GO.ixP 1 Z Z Z Z Hf sz2 Z Z g) Z (qL Z Z (fun _ _ g=>GO.ixP 3 Z Z Z Z Hf sz2 Z Z g) Z (qL Z Z (fun _ _ g=>GO.ixP 2 Z Z Z Z Hf sz2 Z Z g) Z (GX.ls Z Z Z (HS.pk 6 [0,1,2] Z) (fun _ HS _ g=>lB 1 HS Z na2 Z g) Z (GX.ls Z Z Z (HS.pk 6 [0,1,2] Z) (fun _ HS _ g=>lB 2 HS Z na2 Z g) Z (qL Z Z (fun _ _ g=>GO.ixW Z Z Z Hf sz2 c40 Z g) Z (GX.ls Z Z Z (HS.pk 6 [0,1,2] Z) (fun _ HS _ g=>GO.ldW (j:=0) ([t30,t31,t32,t33]:List Int) HS Z Z Z c40 Z Z na2 Z g) Z (GX.ls Z Z Z (HS.pk 6 [0,1,2] Z) (fun _ HS _ g=>lB 2 HS Z na2 Z g) Z (qL Z Z (fun _ _ g=>GO.ixW Z Z Z Hf sz2 c41 Z g) Z (GX.ls Z Z Z (HS.pk 6 [0,1,2] Z) (fun _ HS _ g=>GO.ldW (j:=0) ([t30,t31,t32,t33]:List Int) HS Z Z Z c41 Z Z na2 Z g) Z (GX.ls Z Z Z (HS.pk 6 [0,1,2] Z) (fun _ HS _ g=>lB 2 HS Z na2 Z g) Z (qL Z Z (fun _ _ g=>GO.ixW Z Z Z Hf sz2 c42 Z g) Z (GX.ls Z Z Z (HS.pk 6 [0,1,2] Z) (fun _ HS _ g=>GO.ldW (j:=0) ([t30,t31,t32,t33]:List Int) HS Z Z Z c42 Z Z na2 Z g) Z ?_))))))))))))))
  refine GX.ls Z Z Z (HS.pk 6 [0,1,2] Z) (fun _ HS _ g=>lB 2 HS Z na2 Z g) Z (qL Z Z (fun _ _ g=>GO.ixW Z Z Z Hf sz2 c43 Z g) Z (GX.ls Z Z Z (HS.pk 6 [0,1,2] Z) (fun _ HS _ g=>GO.ldW (j:=0) ([t30,t31,t32,t33]:List Int) HS Z Z Z c43 Z Z na2 Z g) Z (qL Z Z (fun _ _ g=>GO.Dr (.agg [I (([t30,t31,t32,t33]:List Int).getD t7.toNat 0),I (([t30,t31,t32,t33]:List Int).getD t8.toNat 0),I (([t30,t31,t32,t33]:List Int).getD t10.toNat 0),I (([t30,t31,t32,t33]:List Int).getD t9.toNat 0)].toArray) Z Z (fun _=>by kernel_rfl) Z g) Z (GX.l2 Z (fJ Q8 Z (Cu.calls HS  h45) (fun _ wd46 ⟨h47,HS⟩=>⟨_,h47,(GX.fin (HS.pk 6 [0,1,2] Z) (qL Z Z (fun _ _ g=>GO.Dr (.agg [I e19.Tet,I t44].toArray) Z Z (fun _=>by kernel_rfl) Z g) Z (GX.l2 Z (sW 3 HS Z Iq Z fun wd48 HS=>GX.fin (HS.pk 6 [0,1,2] Z) (GX.ps 1 Z (GX.nil ?_))))))⟩))))))
  obtain ⟨rfl,rfl,rfl⟩:=Mm H
  exact G.Hy _ _ func163 Z (Gz.Hu (j:=3) (vs:=[I e19.Tet,I t44]) HS Z Z Z Iq) Z ⟨Z,(HS.pk 6 [] Z)⟩
end Go.Proofs.YtbjfinndngafoaaGreat
