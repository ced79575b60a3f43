/-
  The walks through the functions: a call comes to what its list function says.
-/
import Derived.Test.YtgkgmhkgahalgaaGreatAlF
import Derived.Test.YtgkgmhkgahalgaaGreatAlW6
set_option linter.unusedVariables false
set_option linter.unusedSimpArgs false
namespace Go.Proofs.YtgkgmhkgahalgaaGreat
open Go.RowKit
open Tryz
variable {w0 w:World} {L:List Df} {K:Nat} {A_a A_b A_c A_d A_e A_f A_g A_h A_i A_j A_k A_l A_m A_n A_o A_p A_q A_r A_s A_t A_u A_v A_w A_x A_y A_z:Option Addr} {c_a c_b c_c c_d c_e c_f c_g c_h c_i c_j c_k c_l c_m c_n c_o c_p c_q c_r c_s c_t c_u c_v c_w c_x c_y c_z:Nat}
set_option maxRecDepth 20000
set_option maxHeartbeats 40000000
theorem Hd.calls {d1:Int} {c1:List Int} {e1:Int} {a1:List Int} {r1:Bool} (HS:St w0 w (L)) (r_a:Ce w0 L (Ad .i64) A_a c_a uu c1) (r_b:Ce w0 L (Ad .i64) A_b c_b uu a1) (H:Hd.f K d1 c1 e1 a1=some r1) :
    Calls prog 12 #[.agg [I d1,sV A_a c1 c_a].toArray,.agg [I e1,sV A_b a1 c_b].toArray] w (Hd.post w0 L r1):=by
  unfold Hd.f at H
  refine cG func12 Z ?_
  refine sQ (rG (bA HS Z fun b1 wd2 HS=>bA HS Z fun b3 wd4 HS=>aS Z (nL (rN 2 Z (rG (fL b1 0 X7 Z (lB 1 HS Z na2 Z (fL b3 0 X7 Z (lB 0 HS Z na2 Z (GO.neq Z Z Z Z (nL ?_)))))))))))
  rcases iS H with ⟨c5,H⟩ | ⟨c5,H⟩
  ·
   refine yB Z (nF c5) (rN 2 Z ?_)
   obtain rfl:=sI H
   exact rT _ func12 Z Z ⟨Z,(HS.pk 2 [] Z)⟩
  refine nB Z (nT c5) (rN 3 Z ?_)
  obtain ⟨t6,h7,H⟩:=bI H
  refine rG (fL b1 1 Yj Z (lB 1 HS Z Ha Z (fL b3 1 Yj Z (lB 0 HS Z Ha Z (fJ yV Z (Gd.calls HS (rD 2 r_a) (rD 2 r_b) h7) (fun _ wd8 ⟨h9,HS⟩=>⟨_,h9,(GO.not Z Z Z (nL ?_))⟩))))))
  rcases iS H with ⟨c10,H⟩ | ⟨c10,H⟩
  ·
   refine yB Z (congrArg Bool.not (Cy c10)) (rN 2 Z ?_)
   obtain rfl:=sI H
   exact rT _ func12 Z Z ⟨Z,(HS.pk 2 [] Z)⟩
  refine nB Z (congrArg Bool.not c10) (rN 3 Z ?_)
  obtain rfl:=sI H
  exact rT _ func12 Z Z ⟨Z,(HS.pk 2 [] Z)⟩
end Go.Proofs.YtgkgmhkgahalgaaGreat
