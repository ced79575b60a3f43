/-
  The walks through the functions: a call comes to what its list function says.
-/
import Derived.Test.YtgkgmhkgahalgaaGreatAlF
import Derived.Test.YtgkgmhkgahalgaaGreatAlW3
import Derived.Test.YtgkgmhkgahalgaaGreatAlW5
set_option linter.unusedVariables false
set_option linter.unusedSimpArgs false
namespace Go.Proofs.YtgkgmhkgahalgaaGreat
open Go.RowKit
open Tryz
variable {w0 w:World} {L:List Df} {K:Nat} {A_a A_b A_c A_d A_e A_f A_g A_h A_i A_j A_k A_l A_m A_n A_o A_p A_q A_r A_s A_t A_u A_v A_w A_x A_y A_z:Option Addr} {c_a c_b c_c c_d c_e c_f c_g c_h c_i c_j c_k c_l c_m c_n c_o c_p c_q c_r c_s c_t c_u c_v c_w c_x c_y c_z:Nat}
set_option maxRecDepth 20000
set_option maxHeartbeats 40000000
theorem El.calls {a1:List (List Aw)} {y_a:Nat→(Ty.slice 83 Bb).Lay} {r1:List Ch} {r2:Int} (HS:St w0 w (L)) (r_a:Ce w0 L (Ty.slice 83 Bb) A_a c_a y_a a1) (H:El.f K a1=some (r1,r2)) :
    Calls prog 24 #[.agg [sV A_a a1 c_a].toArray] w (El.post w0 L r1 r2):=by
  unfold El.f at H
  refine cG func24 Z ?_
  refine sQ (rG (bA HS Z fun b1 wd2 HS=>pS 2 Z (nL (sQ (rG (GO.Fj (el:=28) ([]) HS Z Z (fun _=>by kernel_rfl) Z fun b3 wd4 HS=>?_))))))
  replace HS:=HS.Xy (T:=Cx) (j:=0) Z (fun _=>K3)
  refine GO.Kj (t:=8) (m:=([]:List Ch).length) (c':=0) Z Z Z (aS Z (nL (rN 5 Z ?_)))
  refine G.name (fun i1 g1=>?_)
  have h1:∀ e1,e1≤K→∀ (A24:Option Addr) (c25:Nat) (c1:List Ch) (y27:Nat→Cx.Lay) (d1:Int) (w:World),El.l1 K e1 a1 c1 d1=some (r1,r2)→St w0 w (Box b1 33 [sV A_a a1 c_a]::Own Cx 28 A24 c25 y27 c1::L)→G prog 24 27 [(1,pT b1),(4,sV A24 c1 c25),(5,I d1)] i1 w (El.post w0 L r1 r2):=by
   refine lp (fun _ _ _ _ _ w H _=>by rw [El.l1] at H; cases H) fun f1 m1 k1 A24 c25 c1 y27 d1 w H HS=>?_
   rw [El.l1] at H
   subst g1
   refine rN 3 Z ?_
   rcases iS H with ⟨c49,H⟩ | ⟨c49,H⟩
   ·
    refine nB Z (tF c49) (rN 3 Z ?_)
    obtain ⟨rfl,rfl⟩:=I6 H
    exact G.I9 _ _ func24 Z Z Z ⟨_,_,_,Z,(HS.pk 2 [1] Z)⟩
   refine yB Z (tT c49) (rN 4 Z ?_)
   obtain ⟨t50,t51,t52,h53,H⟩:=Ej H
   refine rG (lW 0 HS Z Jn (mV Z (fJ Aad Z (I5.calls HS (rD 2 r_a) h53) (fun _ wd56 ⟨A54,c55,h57,HS⟩=>⟨_,h57,(pS 3 Z (GO.alloc HS Z gV Z Z fun b58 wd59 HS=>sW 0 HS Z Ka Z fun wd60 HS=>aS Z (nL (rN 3 Z ?_))))⟩))))
   rcases iS H with ⟨c61,H⟩ | ⟨c61,H⟩
   ·
    refine yB Z (nF c61) (rN 2 Z ?_)
    replace HS:=HS.H9 Cx 28 (fun _=>K3)
    obtain ⟨rfl,rfl⟩:=I6 H
    exact G.I9 _ _ func24 Z Z Z ⟨_,_,_,Z,(HS.pk 5 [0] Z)⟩
   refine nB Z (nT c61) (G.skip ?_)
   obtain ⟨c67,H⟩:=iN H
   refine rG (mV Z (lW 0 HS Z Ka (GO.Fj (el:=28) ([I t50,sV A54 t51 c55]) HS Z Z (fun _=>by kernel_rfl) Z fun b62 wd63 HS=>?_)))
   replace HS:=HS.pk 5 [2,4,0,1,3] Z
   replace HS:=Nz (Rank:=t50) HS
   replace HS:=HS.pk 5 [1,2,0,3,4] Z
   refine GO.xZ (T:=Cx) ((),⟨A54,c55,uu⟩) (⟨t50,t51⟩:Ch) HS Z Z Z U46 qA Z Z Z c67 Z fun A65 c66 y68 wd64 HS=>aS Z (nL (rN 3 Z (gW (k1 f1 (lR _) _ _ _ _ _ _ H (HS.pk 4 [3,0] Z)) Z)))
  exact gW (h1 K (lR _) _ _ _ _ _ _ H (HS.pk 2 [1,0] Z)) Z
theorem Eb.calls {a1:List (List Aw)} {y_a:Nat→(Ty.slice 83 Bb).Lay} {r1:List Ch} {r2:Int} (HS:St w0 w (L)) (r_a:Ce w0 L (Ty.slice 83 Bb) A_a c_a y_a a1) (H:Eb.f K a1=some (r1,r2)) :
    Calls prog 25 #[.agg [sV A_a a1 c_a].toArray] w (Eb.post w0 L r1 r2):=by
  unfold Eb.f at H
  refine cG func25 Z ?_
  refine sQ (rG (bA HS Z fun b1 wd2 HS=>pS 2 Z (nL (rN 7 Z ?_))))
  refine G.name (fun h1 f1=>?_)
  have g1:∀ d1,d1≤K→∀ (A22:Option Addr) (c23:Nat) (c1:List Ch) (y25:Nat→Cx.Lay) (x26:Int) (w:World),Eb.l1 K d1 a1 c1 x26=some (r1,r2)→St w0 w (Box b1 33 [sV A_a a1 c_a]::Own Cx 28 A22 c23 y25 c1::L)→G prog 25 26 [(1,pT b1),(4,sV A22 c1 c23),(8,I x26)] h1 w (Eb.post w0 L r1 r2):=by
   refine lp (fun _ _ _ _ _ w H _=>by rw [Eb.l1] at H; cases H) fun e1 k1 i1 A22 c23 c1 y25 x26 w H HS=>?_
   rw [Eb.l1] at H
   subst f1
   refine rN 3 Z ?_
   rcases iS H with ⟨c47,H⟩ | ⟨c47,H⟩
   ·
    refine nB Z (tF c47) (rN 3 Z ?_)
    obtain ⟨rfl,rfl⟩:=I6 H
    exact G.I9 _ _ func25 Z Z Z ⟨_,_,_,Z,(HS.pk 2 [1] Z)⟩
   refine yB Z (tT c47) (rN 6 Z ?_)
   obtain ⟨t48,t49,t50,h51,H⟩:=Ej H
   refine rG (lW 0 HS Z Jn (mV Z (fJ yM Z (Iz.calls HS (rD 2 r_a) h51) (fun _ wd54 ⟨A52,c53,h55,HS⟩=>⟨_,h55,(pS 3 Z (GO.alloc HS Z gV Z Z fun b56 wd57 HS=>sW 0 HS Z Ka Z fun wd58 HS=>aS Z (nL (rN 3 Z ?_))))⟩))))
   rcases iS H with ⟨c59,H⟩ | ⟨c59,H⟩
   ·
    refine yB Z (nF c59) (rN 2 Z ?_)
    replace HS:=HS.H9 Cx 28 (fun _=>K3)
    obtain ⟨rfl,rfl⟩:=I6 H
    exact G.I9 _ _ func25 Z Z Z ⟨_,_,_,Z,(HS.pk 5 [0] Z)⟩
   refine nB Z (nT c59) (G.skip ?_)
   obtain ⟨c65,H⟩:=iN H
   refine rG (mV Z (lW 0 HS Z Ka (GO.Fj (el:=28) ([I t48,sV A52 t49 c53]) HS Z Z (fun _=>by kernel_rfl) Z fun b60 wd61 HS=>?_)))
   replace HS:=HS.pk 5 [2,4,0,1,3] Z
   replace HS:=Nz (Rank:=t48) HS
   replace HS:=HS.pk 5 [1,2,0,3,4] Z
   refine GO.xZ (T:=Cx) ((),⟨A52,c53,uu⟩) (⟨t48,t49⟩:Ch) HS Z Z Z U46 qA Z Z Z c65 Z fun A63 c64 y66 wd62 HS=>aS Z (nL (rN 3 Z (gW (i1 e1 (lR _) _ _ _ _ _ _ H (HS.pk 4 [3,0] Z)) Z)))
  replace HS:=HS.H9 Cx 28 (fun _=>K3)
  exact gW (g1 K (lR _) _ _ _ _ _ _ H (HS.pk 2 [1,0] Z)) Z
end Go.Proofs.YtgkgmhkgahalgaaGreat
