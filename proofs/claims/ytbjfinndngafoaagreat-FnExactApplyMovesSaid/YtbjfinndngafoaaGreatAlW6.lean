/-
  The walks through the functions: a call comes to what its list function says.
-/
import Derived.Test.YtbjfinndngafoaaGreatAlF
set_option linter.unusedVariables false
set_option linter.unusedSimpArgs false
namespace Go.Proofs.YtbjfinndngafoaaGreat
open Go.RowKit
open Tryz
variable {w0 w:World} {L:List Cn} {K:Nat} {A_a A_b A_c A_d A_e A_f A_g A_h A_i A_j A_k A_l A_m A_n A_o A_p A_q A_r A_s A_t A_u A_v A_w A_x A_y A_z:Option Addr} {c_a c_b c_c c_d c_e c_f c_g c_h c_i c_j c_k c_l c_m c_n c_o c_p c_q c_r c_s c_t c_u c_v c_w c_x c_y c_z:Nat}
set_option maxRecDepth 20000
set_option maxHeartbeats 40000000
theorem Jf.calls {a1 c1:Int} {d1 r1:Int} {r2 r3:Int} (HS:St w0 w (L)) (H:Jf.f a1 c1 d1=some (r1,r2,r3)) :
    Calls prog 13 #[.agg [I a1,I c1,I d1].toArray] w (Jf.post w0 L r1 r2 r3):=by
  unfold Jf.f at H
  refine cG func13 Z ?_
  refine sQ (rG (bA HS Z fun b1 wd2 HS=>GO.alloc HS Z pW Z Z fun b3 wd4 HS=>nL (sQ (rG (GO.alloc HS Z pW Z Z fun b5 wd6 HS=>nL (sQ (rG (fL b1 0 oV Z (lB 2 HS Z na2 Z (fL b5 0 Lh Z (GO.Gz (j:=0) (vs:=[I a1]) ([I a1,I 0,I 0]) HS Z Z Z Z Z (htN na2 Z) Z Z Z fun wd7 HS=>?_)))))))))))
  refine nL (sQ (rG (fL b1 1 pU Z (lB 2 HS Z na2 Z (fL b5 1 J4 Z (GO.Gz (j:=0) (vs:=[I c1]) ([I a1,I c1,I 0]) HS Z Z Z Z Z (htN na2 Z) Z Z Z fun wd8 HS=>nL (sQ (rG (fL b1 2 oW Z (lB 2 HS Z na2 Z (fL b5 2 K4 Z (GO.Gz (j:=0) (vs:=[I d1]) ([I a1,I c1,I d1]) HS Z Z Z Z Z (htN na2 Z) Z Z Z fun wd9 HS=>nL ?_))))))))))))
  refine sQ (rG (lW 0 HS Z Pp (sW 1 HS Z Pp Z fun wd10 HS=>nL ?_)))
  obtain ⟨rfl,rfl,rfl⟩:=Kh H
  exact rT _ func13 Z (Gc.Gr (j:=1) (vs:=[I a1,I c1,I d1]) HS Z Z Z Pp) ⟨Z,(HS.pk 3 [] Z)⟩
end Go.Proofs.YtbjfinndngafoaaGreat
