/-
  The walks through the functions: a call comes to what its list function says.
-/
import Derived.Test.YtjopfecenllmgaaGreatDoorAlF
import Derived.Test.YtjopfecenllmgaaGreatDoorAlW2
import Derived.Test.YtjopfecenllmgaaGreatDoorAlW3
set_option linter.unusedSimpArgs false
set_option linter.unusedVariables false
namespace Go.Proofs.YtjopfecenllmgaaGreatDoor
open Go.RowKit
open Tryz
variable {w0 w:World} {L:List Cn} {K:Nat} {A_a A_b A_c A_d A_e A_f A_g A_h A_i A_j A_k A_l A_m A_n A_o A_p A_q A_r A_s A_t A_u A_v A_w A_x A_y A_z:Option Addr} {c_a c_b c_c c_d c_e c_f c_g c_h c_i c_j c_k c_l c_m c_n c_o c_p c_q c_r c_s c_t c_u c_v c_w c_x c_y c_z:Nat}
set_option maxRecDepth 20000
set_option maxHeartbeats 40000000
theorem Ic.calls {n1:ByteArray} {o1:Int} {g1:List (List Br)} {a1:List Ah} {h1 i1:Int} {e1:List Int} {k1 m1:Int} {c1:List Cc} {f1 d1:List Int} {y_a:Nat→(Ty.slice 168 Az).Lay} {r1:Bool} (HS:St w0 w (L)) (r_a:Av w0 L (Ty.slice 168 Az) A_a c_a y_a g1) (r_b:Av w0 L Au A_b c_b uu a1) (r_c:Av w0 L (Bi .i64) A_c c_c uu e1) (r_d:Av w0 L Ci A_d c_d uu c1) (r_e:Av w0 L (Bi .i64) A_e c_e uu f1) (r_f:Av w0 L (Bi .i64) A_f c_f uu d1) (H:Ic.f K n1 o1 g1 a1 h1 i1 e1 k1 m1 c1 f1 d1=some r1) :
    Calls prog 62 #[.agg [.string n1,I o1,sV A_a g1 c_a,sV A_b a1 c_b,I h1,I i1,sV A_c e1 c_c,I k1,I m1,sV A_d c1 c_d,sV A_e f1 c_e,sV A_f d1 c_f].toArray] w (Ic.post w0 L r1):=by
  unfold Ic.f at H
  refine cG func62 Z ?_
  refine sQ ?_
  refine rG ?_
  refine bA HS Z ?_; intro b1 wd2 HS
  refine aS Z ?_
  refine nL ?_
  refine rN 2 Z ?_
  obtain ⟨t12,h13,H⟩:=bI H
  rcases iS H with ⟨c16,H⟩ | ⟨c16,H⟩
  ·
   refine rG ?_
   refine fL b1 0 Jz Z ?_
   refine lB 0 HS Z na9 Z ?_
   refine fJ gY Z (Hm.calls HS  h13) (fun _ wd14 ⟨h15,HS⟩=>⟨_,h15,?_⟩)
   refine pS 2 Z ?_
   refine kN 8 Z (congrArg Bool.not (Bt c16)) ?_
   refine oF Z ?_
   refine oF Z ?_
   refine oF Z ?_
   refine oF Z ?_
   refine GO.Ii Z Z Z Z Z ?_
   refine nL ?_
   refine rN 3 Z ?_
   obtain rfl:=sI H
   exact rT _ func62 Z Z ⟨Z,(HS.pk 1 [] Z)⟩
  obtain ⟨t17,h18,H⟩:=bI H
  refine rG ?_
  refine fL b1 0 Jz Z ?_
  refine lB 0 HS Z na9 Z ?_
  refine fJ gY Z (Hm.calls HS  h13) (fun _ wd14 ⟨h15,HS⟩=>⟨_,h15,?_⟩)
  refine pS 2 Z ?_
  refine kN 8 Z (congrArg Bool.not c16) ?_
  refine oN Z ?_
  refine fL b1 1 Lf Z ?_
  refine bK ?_
  refine oN Z ?_
  refine lB 0 HS Z na2 Z ?_
  refine bK ?_
  refine oN Z ?_
  refine fJ Ox Z (Cu.calls HS  h18) (fun _ wd19 ⟨h20,HS⟩=>⟨_,h20,?_⟩)
  refine bK ?_
  refine oN Z ?_
  refine GO.not Z Z Z ?_
  refine bK ?_
  refine GO.Ki Z Z Z Z Z ?_
  refine nL ?_
  rcases iS H with ⟨c21,H⟩ | ⟨c21,H⟩
  ·
   refine yB Z (congrArg Bool.not (Bt c21)) ?_
   refine rN 2 Z ?_
   obtain rfl:=sI H
   exact rT _ func62 Z Z ⟨Z,(HS.pk 1 [] Z)⟩
  refine nB Z (congrArg Bool.not c21) ?_
  refine rN 2 Z ?_
  obtain ⟨t22,t23,t24,t25,h26,H⟩:=Hz H
  refine rG ?_
  refine lW 0 HS Z Mf ?_
  refine fJ oM Z (Lh.calls HS (rD 1 r_a) (rD 1 r_b) (rD 1 r_c) (rD 1 r_d) (rD 1 r_e) (rD 1 r_f) h26) (fun _ wd27 ⟨h28,HS⟩=>⟨_,h28,?_⟩)
  refine GO.alloc HS Z uP Z Z ?_; intro b29 wd30 HS
  refine sW 0 HS Z Yf Z ?_; intro wd31 HS
  refine nL ?_
  refine sQ ?_
  rcases iE H with ⟨c32,H⟩ | ⟨c32,H⟩
  ·
   refine rG ?_
   refine fL b1 1 Lf Z ?_
   refine lB 1 HS Z na2 Z ?_
   refine GO.sub Z Z Z Z ?_
   refine GO.ixP 0 Z Z Z c32 pI sz4 Z Z ?_
   refine GO.H9 (j:=0) (vs:=[.bool false]) ([.bool false,.bool t23,.bool t24,.bool t25]) HS Z Z Z Z Z (htN na4 Z) Z Z Z ?_; intro wd33 HS
   refine nL ?_
   refine rN 2 Z ?_
   refine rG ?_
   refine lW 0 HS Z Yf ?_
   refine GO.Gj (.agg [.bool false,.bool false,.bool false,.bool false].toArray) Z Z (fun _=>by kernel_rfl) Z ?_
   refine GO.fT Z Z Z bT (fun _=>dZ) Z ?_
   refine nL ?_
   rcases iS H with ⟨c34,H⟩ | ⟨c34,H⟩
   ·
    refine yB Z (nF c34) ?_
    refine rN 2 Z ?_
    obtain rfl:=sI H
    exact rT _ func62 Z Z ⟨Z,(HS.pk 2 [] Z)⟩
   refine nB Z (nT c34) ?_
   refine rN 3 Z ?_
   refine rG ?_
   refine fL b1 1 Lf Z ?_
   refine lB 1 HS Z na2 Z ?_
   refine nL ?_
   refine rN 3 Z ?_
   rcases iE H with ⟨c35,H⟩ | ⟨c35,H⟩
   ·
    refine yB Z (tT c35) ?_
    refine sQ ?_
    obtain ⟨t36,h37,H⟩:=bI H
    refine rG ?_
    refine fL b1 2 M9 Z ?_
    refine GO.Du (j:=1) ([sV A_a g1 c_a]) HS Z Z Z Z O0 Z ?_
    refine fJ Z7 Z (Bv.calls HS (rD 2 r_a) h37) (fun _ wd38 ⟨h39,HS⟩=>⟨_,h39,?_⟩)
    refine aS Z ?_
    refine nL ?_
    obtain rfl:=sI H
    exact rT _ func62 Z Z ⟨Z,(HS.pk 2 [] Z)⟩
   refine nB Z (tF c35) ?_
   refine rN 2 Z ?_
   rcases iE H with ⟨c40,H⟩ | ⟨c40,H⟩
   ·
    refine yB Z (tT c40) ?_
    refine sQ ?_
    obtain ⟨t41,h42,H⟩:=bI H
    refine rG ?_
    refine fL b1 3 Mm Z ?_
    refine GO.Du (j:=1) ([sV A_b a1 c_b,I h1]) HS Z Z Z Z Oe Z ?_
    refine fJ bH Z (G8.calls HS (rD 2 r_b) h42) (fun _ wd43 ⟨h44,HS⟩=>⟨_,h44,?_⟩)
    refine aS Z ?_
    refine nL ?_
    obtain rfl:=sI H
    exact rT _ func62 Z Z ⟨Z,(HS.pk 2 [] Z)⟩
   refine nB Z (tF c40) ?_
   refine rN 2 Z ?_
   rcases iE H with ⟨c45,H⟩ | ⟨c45,H⟩
   ·
    refine yB Z (tT c45) ?_
    refine sQ ?_
    obtain ⟨t46,h47,H⟩:=bI H
    refine rG ?_
    refine fL b1 5 M7 Z ?_
    refine GO.Du (j:=1) ([I i1,sV A_c e1 c_c]) HS Z Z Z Z R9 Z ?_
    refine fJ bE Z (Ih.calls HS (rD 2 r_c) h47) (fun _ wd48 ⟨h49,HS⟩=>⟨_,h49,?_⟩)
    refine aS Z ?_
    refine nL ?_
    obtain rfl:=sI H
    exact rT _ func62 Z Z ⟨Z,(HS.pk 2 [] Z)⟩
   refine nB Z (tF c45) ?_
   refine rN 3 Z ?_
   obtain ⟨t50,h51,H⟩:=bI H
   refine rG ?_
   refine fL b1 7 Mc Z ?_
   refine GO.Du (j:=1) ([I k1,I m1,sV A_d c1 c_d,sV A_e f1 c_e,sV A_f d1 c_f]) HS Z Z Z Z Rw Z ?_
   refine fJ bJ Z (Ig.calls HS (rD 2 r_d) (rD 2 r_e) (rD 2 r_f) h51) (fun _ wd52 ⟨h53,HS⟩=>⟨_,h53,?_⟩)
   refine aS Z ?_
   refine nL ?_
   obtain rfl:=sI H
   exact rT _ func62 Z Z ⟨Z,(HS.pk 2 [] Z)⟩
  rcases iE H with ⟨c54,H⟩ | ⟨c54,H⟩
  ·
   refine rG ?_
   refine fL b1 1 Lf Z ?_
   refine lB 1 HS Z na2 Z ?_
   refine GO.sub Z Z Z Z ?_
   refine GO.ixP 1 Z Z Z c54 pI sz4 Z Z ?_
   refine GO.H9 (j:=0) (vs:=[.bool false]) ([.bool t22,.bool false,.bool t24,.bool t25]) HS Z Z Z Z Z (htN na4 Z) Z Z Z ?_; intro wd55 HS
   refine nL ?_
   refine rN 2 Z ?_
   refine rG ?_
   refine lW 0 HS Z Yf ?_
   refine GO.Gj (.agg [.bool false,.bool false,.bool false,.bool false].toArray) Z Z (fun _=>by kernel_rfl) Z ?_
   refine GO.fT Z Z Z bT (fun _=>dZ) Z ?_
   refine nL ?_
   rcases iS H with ⟨c56,H⟩ | ⟨c56,H⟩
   ·
    refine yB Z (nF c56) ?_
    refine rN 2 Z ?_
    obtain rfl:=sI H
    exact rT _ func62 Z Z ⟨Z,(HS.pk 2 [] Z)⟩
   refine nB Z (nT c56) ?_
   refine rN 3 Z ?_
   refine rG ?_
   refine fL b1 1 Lf Z ?_
   refine lB 1 HS Z na2 Z ?_
   refine nL ?_
   refine rN 3 Z ?_
   rcases iE H with ⟨c57,H⟩ | ⟨c57,H⟩
   ·
    refine yB Z (tT c57) ?_
    refine sQ ?_
    obtain ⟨t58,h59,H⟩:=bI H
    refine rG ?_
    refine fL b1 2 M9 Z ?_
    refine GO.Du (j:=1) ([sV A_a g1 c_a]) HS Z Z Z Z O0 Z ?_
    refine fJ Z7 Z (Bv.calls HS (rD 2 r_a) h59) (fun _ wd60 ⟨h61,HS⟩=>⟨_,h61,?_⟩)
    refine aS Z ?_
    refine nL ?_
    obtain rfl:=sI H
    exact rT _ func62 Z Z ⟨Z,(HS.pk 2 [] Z)⟩
   refine nB Z (tF c57) ?_
   refine rN 2 Z ?_
   rcases iE H with ⟨c62,H⟩ | ⟨c62,H⟩
   ·
    refine yB Z (tT c62) ?_
    refine sQ ?_
    obtain ⟨t63,h64,H⟩:=bI H
    refine rG ?_
    refine fL b1 3 Mm Z ?_
    refine GO.Du (j:=1) ([sV A_b a1 c_b,I h1]) HS Z Z Z Z Oe Z ?_
    refine fJ bH Z (G8.calls HS (rD 2 r_b) h64) (fun _ wd65 ⟨h66,HS⟩=>⟨_,h66,?_⟩)
    refine aS Z ?_
    refine nL ?_
    obtain rfl:=sI H
    exact rT _ func62 Z Z ⟨Z,(HS.pk 2 [] Z)⟩
   refine nB Z (tF c62) ?_
   refine rN 2 Z ?_
   rcases iE H with ⟨c67,H⟩ | ⟨c67,H⟩
   ·
    refine yB Z (tT c67) ?_
    refine sQ ?_
    obtain ⟨t68,h69,H⟩:=bI H
    refine rG ?_
    refine fL b1 5 M7 Z ?_
    refine GO.Du (j:=1) ([I i1,sV A_c e1 c_c]) HS Z Z Z Z R9 Z ?_
    refine fJ bE Z (Ih.calls HS (rD 2 r_c) h69) (fun _ wd70 ⟨h71,HS⟩=>⟨_,h71,?_⟩)
    refine aS Z ?_
    refine nL ?_
    obtain rfl:=sI H
    exact rT _ func62 Z Z ⟨Z,(HS.pk 2 [] Z)⟩
   refine nB Z (tF c67) ?_
   refine rN 3 Z ?_
   obtain ⟨t72,h73,H⟩:=bI H
   refine rG ?_
   refine fL b1 7 Mc Z ?_
   refine GO.Du (j:=1) ([I k1,I m1,sV A_d c1 c_d,sV A_e f1 c_e,sV A_f d1 c_f]) HS Z Z Z Z Rw Z ?_
   refine fJ bJ Z (Ig.calls HS (rD 2 r_d) (rD 2 r_e) (rD 2 r_f) h73) (fun _ wd74 ⟨h75,HS⟩=>⟨_,h75,?_⟩)
   refine aS Z ?_
   refine nL ?_
   obtain rfl:=sI H
   exact rT _ func62 Z Z ⟨Z,(HS.pk 2 [] Z)⟩
  rcases iE H with ⟨c76,H⟩ | ⟨c76,H⟩
  ·
   refine rG ?_
   refine fL b1 1 Lf Z ?_
   refine lB 1 HS Z na2 Z ?_
   refine GO.sub Z Z Z Z ?_
   refine GO.ixP 2 Z Z Z c76 pI sz4 Z Z ?_
   refine GO.H9 (j:=0) (vs:=[.bool false]) ([.bool t22,.bool t23,.bool false,.bool t25]) HS Z Z Z Z Z (htN na4 Z) Z Z Z ?_; intro wd77 HS
   refine nL ?_
   refine rN 2 Z ?_
   refine rG ?_
   refine lW 0 HS Z Yf ?_
   refine GO.Gj (.agg [.bool false,.bool false,.bool false,.bool false].toArray) Z Z (fun _=>by kernel_rfl) Z ?_
   refine GO.fT Z Z Z bT (fun _=>dZ) Z ?_
   refine nL ?_
   rcases iS H with ⟨c78,H⟩ | ⟨c78,H⟩
   ·
    refine yB Z (nF c78) ?_
    refine rN 2 Z ?_
    obtain rfl:=sI H
    exact rT _ func62 Z Z ⟨Z,(HS.pk 2 [] Z)⟩
   refine nB Z (nT c78) ?_
   refine rN 3 Z ?_
   refine rG ?_
   refine fL b1 1 Lf Z ?_
   refine lB 1 HS Z na2 Z ?_
   refine nL ?_
   refine rN 3 Z ?_
   rcases iE H with ⟨c79,H⟩ | ⟨c79,H⟩
   ·
    refine yB Z (tT c79) ?_
    refine sQ ?_
    obtain ⟨t80,h81,H⟩:=bI H
    refine rG ?_
    refine fL b1 2 M9 Z ?_
    refine GO.Du (j:=1) ([sV A_a g1 c_a]) HS Z Z Z Z O0 Z ?_
    refine fJ Z7 Z (Bv.calls HS (rD 2 r_a) h81) (fun _ wd82 ⟨h83,HS⟩=>⟨_,h83,?_⟩)
    refine aS Z ?_
    refine nL ?_
    obtain rfl:=sI H
    exact rT _ func62 Z Z ⟨Z,(HS.pk 2 [] Z)⟩
   refine nB Z (tF c79) ?_
   refine rN 2 Z ?_
   rcases iE H with ⟨c84,H⟩ | ⟨c84,H⟩
   ·
    refine yB Z (tT c84) ?_
    refine sQ ?_
    obtain ⟨t85,h86,H⟩:=bI H
    refine rG ?_
    refine fL b1 3 Mm Z ?_
    refine GO.Du (j:=1) ([sV A_b a1 c_b,I h1]) HS Z Z Z Z Oe Z ?_
    refine fJ bH Z (G8.calls HS (rD 2 r_b) h86) (fun _ wd87 ⟨h88,HS⟩=>⟨_,h88,?_⟩)
    refine aS Z ?_
    refine nL ?_
    obtain rfl:=sI H
    exact rT _ func62 Z Z ⟨Z,(HS.pk 2 [] Z)⟩
   refine nB Z (tF c84) ?_
   refine rN 2 Z ?_
   rcases iE H with ⟨c89,H⟩ | ⟨c89,H⟩
   ·
    refine yB Z (tT c89) ?_
    refine sQ ?_
    obtain ⟨t90,h91,H⟩:=bI H
    refine rG ?_
    refine fL b1 5 M7 Z ?_
    refine GO.Du (j:=1) ([I i1,sV A_c e1 c_c]) HS Z Z Z Z R9 Z ?_
    refine fJ bE Z (Ih.calls HS (rD 2 r_c) h91) (fun _ wd92 ⟨h93,HS⟩=>⟨_,h93,?_⟩)
    refine aS Z ?_
    refine nL ?_
    obtain rfl:=sI H
    exact rT _ func62 Z Z ⟨Z,(HS.pk 2 [] Z)⟩
   refine nB Z (tF c89) ?_
   refine rN 3 Z ?_
   obtain ⟨t94,h95,H⟩:=bI H
   refine rG ?_
   refine fL b1 7 Mc Z ?_
   refine GO.Du (j:=1) ([I k1,I m1,sV A_d c1 c_d,sV A_e f1 c_e,sV A_f d1 c_f]) HS Z Z Z Z Rw Z ?_
   refine fJ bJ Z (Ig.calls HS (rD 2 r_d) (rD 2 r_e) (rD 2 r_f) h95) (fun _ wd96 ⟨h97,HS⟩=>⟨_,h97,?_⟩)
   refine aS Z ?_
   refine nL ?_
   obtain rfl:=sI H
   exact rT _ func62 Z Z ⟨Z,(HS.pk 2 [] Z)⟩
  rcases iS H with ⟨c98,H⟩ | ⟨c98,H⟩
  ·
   cases H
  refine rG ?_
  refine fL b1 1 Lf Z ?_
  refine lB 1 HS Z na2 Z ?_
  refine GO.sub Z Z Z Z ?_
  refine GO.ixP 3 Z Z Z c98 pI sz4 Z Z ?_
  refine GO.H9 (j:=0) (vs:=[.bool false]) ([.bool t22,.bool t23,.bool t24,.bool false]) HS Z Z Z Z Z (htN na4 Z) Z Z Z ?_; intro wd99 HS
  refine nL ?_
  refine rN 2 Z ?_
  refine rG ?_
  refine lW 0 HS Z Yf ?_
  refine GO.Gj (.agg [.bool false,.bool false,.bool false,.bool false].toArray) Z Z (fun _=>by kernel_rfl) Z ?_
  refine GO.fT Z Z Z bT (fun _=>dZ) Z ?_
  refine nL ?_
  rcases iS H with ⟨c100,H⟩ | ⟨c100,H⟩
  ·
   refine yB Z (nF c100) ?_
   refine rN 2 Z ?_
   obtain rfl:=sI H
   exact rT _ func62 Z Z ⟨Z,(HS.pk 2 [] Z)⟩
  refine nB Z (nT c100) ?_
  refine rN 3 Z ?_
  refine rG ?_
  refine fL b1 1 Lf Z ?_
  refine lB 1 HS Z na2 Z ?_
  refine nL ?_
  refine rN 3 Z ?_
  rcases iE H with ⟨c101,H⟩ | ⟨c101,H⟩
  ·
   refine yB Z (tT c101) ?_
   refine sQ ?_
   obtain ⟨t102,h103,H⟩:=bI H
   refine rG ?_
   refine fL b1 2 M9 Z ?_
   refine GO.Du (j:=1) ([sV A_a g1 c_a]) HS Z Z Z Z O0 Z ?_
   refine fJ Z7 Z (Bv.calls HS (rD 2 r_a) h103) (fun _ wd104 ⟨h105,HS⟩=>⟨_,h105,?_⟩)
   refine aS Z ?_
   refine nL ?_
   obtain rfl:=sI H
   exact rT _ func62 Z Z ⟨Z,(HS.pk 2 [] Z)⟩
  refine nB Z (tF c101) ?_
  refine rN 2 Z ?_
  rcases iE H with ⟨c106,H⟩ | ⟨c106,H⟩
  ·
   refine yB Z (tT c106) ?_
   refine sQ ?_
   obtain ⟨t107,h108,H⟩:=bI H
   refine rG ?_
   refine fL b1 3 Mm Z ?_
   refine GO.Du (j:=1) ([sV A_b a1 c_b,I h1]) HS Z Z Z Z Oe Z ?_
   refine fJ bH Z (G8.calls HS (rD 2 r_b) h108) (fun _ wd109 ⟨h110,HS⟩=>⟨_,h110,?_⟩)
   refine aS Z ?_
   refine nL ?_
   obtain rfl:=sI H
   exact rT _ func62 Z Z ⟨Z,(HS.pk 2 [] Z)⟩
  refine nB Z (tF c106) ?_
  refine rN 2 Z ?_
  rcases iE H with ⟨c111,H⟩ | ⟨c111,H⟩
  ·
   refine yB Z (tT c111) ?_
   refine sQ ?_
   obtain ⟨t112,h113,H⟩:=bI H
   refine rG ?_
   refine fL b1 5 M7 Z ?_
   refine GO.Du (j:=1) ([I i1,sV A_c e1 c_c]) HS Z Z Z Z R9 Z ?_
   refine fJ bE Z (Ih.calls HS (rD 2 r_c) h113) (fun _ wd114 ⟨h115,HS⟩=>⟨_,h115,?_⟩)
   refine aS Z ?_
   refine nL ?_
   obtain rfl:=sI H
   exact rT _ func62 Z Z ⟨Z,(HS.pk 2 [] Z)⟩
  refine nB Z (tF c111) ?_
  refine rN 3 Z ?_
  obtain ⟨t116,h117,H⟩:=bI H
  refine rG ?_
  refine fL b1 7 Mc Z ?_
  refine GO.Du (j:=1) ([I k1,I m1,sV A_d c1 c_d,sV A_e f1 c_e,sV A_f d1 c_f]) HS Z Z Z Z Rw Z ?_
  refine fJ bJ Z (Ig.calls HS (rD 2 r_d) (rD 2 r_e) (rD 2 r_f) h117) (fun _ wd118 ⟨h119,HS⟩=>⟨_,h119,?_⟩)
  refine aS Z ?_
  refine nL ?_
  obtain rfl:=sI H
  exact rT _ func62 Z Z ⟨Z,(HS.pk 2 [] Z)⟩
theorem Ev.calls {items:List Af} {y_a:Nat→Aa.Lay} {r1:Bool} (HS:St w0 w (L)) (r_a:Av w0 L Aa A_a c_a y_a items) (H:Ev.f K items=some r1) :
    Calls prog 61 #[sV A_a items c_a] w (Ev.post w0 L r1):=by
  unfold Ev.f at H
  refine cG func61 Z ?_
  refine rN 4 Z (rG (mV Z (lS Z Z U44 Z (mV Z (nL (rN 2 Z ?_))))))
  refine G.name (fun f1 d1=>?_)
  have e1:∀ b1,b1≤K→∀ (x13:Int) (w:World),Ev.l1 K b1 items x13=some r1→St w0 w (L)→G prog 61 34 [(0,sV A_a items c_a),(5,sV A_a items c_a),(6,I (items.length:Int)),(7,I x13)] f1 w (Ev.post w0 L r1):=by
   refine lp (fun _ w H _=>by rw [Ev.l1] at H; cases H) fun a1 g1 c1 x13 w H HS=>?_
   rw [Ev.l1] at H
   subst d1
   refine rN 3 Z ?_
   rcases iS H with ⟨c31,H⟩ | ⟨c31,H⟩
   ·
    refine nB Z (tF c31) (rN 2 Z (rG (mV Z (lS Z Z U44 Z (pS 2 Z (nL ?_))))))
    obtain rfl:=sI H
    exact rT _ func61 Z Z ⟨Z,HS⟩
   refine yB Z (tT c31) (rN 4 Z ?_)
   obtain ⟨c32,H⟩:=iN H
   obtain ⟨e33,h34,H⟩:=Cr H
   refine rG (mV Z (iX Z U44 J7 (rk r_a HS) c32 (GO.J4 (T:=Aa) (n:=x13.toNat) HS r_a Z Z (Ba (ltN c32) h34) Mf Z (GO.alloc HS Z fI Z Z fun b35 wd36 HS=>aS Z (sW 0 HS Z Mf Z fun wd37 HS=>nL (sQ ?_))))))
   obtain ⟨t38,h39,H⟩:=bI H
   rcases iS H with ⟨c42,H⟩ | ⟨c42,H⟩
   ·
    refine G.lex mixed [0,1,2,3,4,5,6,7,8,9,10,11,13,12,14,15,16,17] (by kernel_rfl) ?_
    replace HS:=HS.drew
    refine GX.l1 Z Z Z (fun _ g=>lW 0 HS Z Mf g) Z (GX.l2 Z (fJ Zt Z (Ic.calls HS (Av.fld (rD 1 r_a) (Ba (ltN c32) h34) (fun _ h=>h.2.2.1)) (Av.fld (rD 1 r_a) (Ba (ltN c32) h34) (fun _ h=>h.2.2.2.1)) (Av.fld (rD 1 r_a) (Ba (ltN c32) h34) (fun _ h=>h.2.2.2.2.2.2.1)) (Av.fld (rD 1 r_a) (Ba (ltN c32) h34) (fun _ h=>h.2.2.2.2.2.2.2.2.2.1)) (Av.fld (rD 1 r_a) (Ba (ltN c32) h34) (fun _ h=>h.2.2.2.2.2.2.2.2.2.2.1)) (Av.fld (rD 1 r_a) (Ba (ltN c32) h34) (fun _ h=>h.2.2.2.2.2.2.2.2.2.2.2)) h39) (fun _ wd40 ⟨h41,HS⟩=>⟨_,h41,(GX.fin tv (GX.ps 1 Z (qL Z Z (fun _ _ g=>mV Z (kN 15 Z (congrArg Bool.not (Bt c42)) g)) Z (qL Z Z (fun _ _ g=>oF Z g) Z (qL Z Z (fun _ _ g=>oF Z g) Z (qL Z Z (fun _ _ g=>oF Z g) Z (qL Z Z (fun _ _ g=>GO.Od Z Z Z Z Z Z g) Z (qL Z Z (fun _ _ g=>GO.Od Z Z Z Z Z Z g) Z (qL Z Z (fun _ _ g=>GO.Od Z Z Z Z Z Z g) Z (qL Z Z (fun _ _ g=>GO.Od Z Z Z Z Z Z g) Z (qL Z Z (fun _ _ g=>GO.Od Z Z Z Z Z Z g) Z (qL Z Z (fun _ _ g=>GO.Od Z Z Z Z Z Z g) Z ?_))))))))))))⟩)))
    refine GX.l1 Z Z Z (fun _ g=>GO.Od Z Z Z Z Z Z g) Z (GX.l1 Z Z Z (fun _ g=>GO.Od Z Z Z Z Z Z g) Z (qL Z Z (fun _ _ g=>GO.Od Z Z Z Z Z Z g) Z (qL Z Z (fun _ _ g=>oF Z g) Z (GX.ps 1 Z (GX.nil (rN 3 Z ?_))))))
    obtain rfl:=sI H
    exact rT _ func61 Z Z ⟨Z,(HS.pk 1 [] Z)⟩
   rcases iS H with ⟨c43,H⟩ | ⟨c43,H⟩
   ·
    refine G.lex mixed [0,1,2,3,4,5,6,7,8,9,10,11,13,12,14,15,16,17] (by kernel_rfl) ?_
    replace HS:=HS.drew
    refine GX.l1 Z Z Z (fun _ g=>lW 0 HS Z Mf g) Z (GX.l2 Z (fJ Zt Z (Ic.calls HS (Av.fld (rD 1 r_a) (Ba (ltN c32) h34) (fun _ h=>h.2.2.1)) (Av.fld (rD 1 r_a) (Ba (ltN c32) h34) (fun _ h=>h.2.2.2.1)) (Av.fld (rD 1 r_a) (Ba (ltN c32) h34) (fun _ h=>h.2.2.2.2.2.2.1)) (Av.fld (rD 1 r_a) (Ba (ltN c32) h34) (fun _ h=>h.2.2.2.2.2.2.2.2.2.1)) (Av.fld (rD 1 r_a) (Ba (ltN c32) h34) (fun _ h=>h.2.2.2.2.2.2.2.2.2.2.1)) (Av.fld (rD 1 r_a) (Ba (ltN c32) h34) (fun _ h=>h.2.2.2.2.2.2.2.2.2.2.2)) h39) (fun _ wd40 ⟨h41,HS⟩=>⟨_,h41,(GX.fin tv (GX.ps 1 Z (qL Z Z (fun _ _ g=>mV Z (kN 15 Z (congrArg Bool.not c42) g)) Z (qL Z Z (fun _ _ g=>oN Z (mV Z (bK g))) Z (qL Z Z (fun _ _ g=>oN Z (GO.gtr Z Z Z Z (bK g))) Z (qL Z Z (fun _ _ g=>oN Z (mV Z (bK (kN 18 Z (tF c43) g)))) Z (qL Z Z (fun _ _ g=>oF Z g) Z (qL Z Z (fun _ _ g=>oF Z g) Z (qL Z Z (fun _ _ g=>oF Z g) Z (qL Z Z (fun _ _ g=>oF Z g) Z (qL Z Z (fun _ _ g=>oF Z g) Z (qL Z Z (fun _ _ g=>oF Z g) Z ?_))))))))))))⟩)))
    refine GX.l1 Z Z Z (fun _ g=>oF Z g) Z (GX.l1 Z Z Z (fun _ g=>oF Z g) Z (qL Z Z (fun _ _ g=>oF Z g) Z (qL Z Z (fun _ _ g=>oN Z (GO.Ki Z Z Z Z Z (bK g))) Z (GX.ps 1 Z (GX.nil (rN 5 Z (gW (c1 a1 (lR _) _ _ H (HS.pk 1 [] Z)) Z)))))))
   obtain ⟨c44,H⟩:=iN H
   obtain ⟨e45,h46,H⟩:=Cr H
   refine G.lex mixed [0,1,2,3,4,5,6,7,8,9,10,11,13,12,14,15,16,17] (by kernel_rfl) ?_
   replace HS:=HS.drew
   refine GX.l1 Z Z Z (fun _ g=>lW 0 HS Z Mf g) Z (GX.l2 Z (fJ Zt Z (Ic.calls HS (Av.fld (rD 1 r_a) (Ba (ltN c32) h34) (fun _ h=>h.2.2.1)) (Av.fld (rD 1 r_a) (Ba (ltN c32) h34) (fun _ h=>h.2.2.2.1)) (Av.fld (rD 1 r_a) (Ba (ltN c32) h34) (fun _ h=>h.2.2.2.2.2.2.1)) (Av.fld (rD 1 r_a) (Ba (ltN c32) h34) (fun _ h=>h.2.2.2.2.2.2.2.2.2.1)) (Av.fld (rD 1 r_a) (Ba (ltN c32) h34) (fun _ h=>h.2.2.2.2.2.2.2.2.2.2.1)) (Av.fld (rD 1 r_a) (Ba (ltN c32) h34) (fun _ h=>h.2.2.2.2.2.2.2.2.2.2.2)) h39) (fun _ wd40 ⟨h41,HS⟩=>⟨_,h41,(GX.fin tv (GX.ps 1 Z (qL Z Z (fun _ _ g=>mV Z (kN 15 Z (congrArg Bool.not c42) g)) Z (qL Z Z (fun _ _ g=>oN Z (mV Z (bK g))) Z (qL Z Z (fun _ _ g=>oN Z (GO.gtr Z Z Z Z (bK g))) Z (qL Z Z (fun _ _ g=>oN Z (mV Z (bK (kN 18 Z (tT c43) g)))) Z (qL Z Z (fun _ _ g=>oN Z (mV Z (bK g))) Z (qL Z Z (fun _ _ g=>oN Z (mV Z (bK g))) Z (qL Z Z (fun _ _ g=>oN Z (GO.sub Z Z Z Z (bK g))) Z (qL Z Z (fun _ _ g=>oN Z (iX Z U44 J7 (rk (rD 1 r_a) HS) c44 (bK g))) Z (qL Z Z (fun _ _ g=>oN Z (GO.fld (ea A_a (((w64 (x13 - 1)).toNat) * 12)) Z Z Jz Z Z (bK g))) Z (qL Z Z (fun _ _ g=>oN Z (fL b35 0 Jz Z (bK g))) Z ?_))))))))))))⟩)))
   refine GX.l1 Z Z Z (fun _ g=>oN Z (GO.Gb (T:=Aa) (n:=(w64 (x13 - 1)).toNat) (o:=0) HS (rD 1 r_a) Z Z (Ba (ltN c44) h46) Z Z na9 Z (bK g))) Z (GX.l1 Z Z Z (fun _ g=>oN Z (lB 0 HS Z na9 Z (bK g))) Z (qL Z Z (fun _ _ g=>oN Z (GO.vL Z Z Z Z (bK g))) Z (qL Z Z (fun _ _ g=>oN Z (GO.Ii Z Z Z Z Z (bK g))) Z (GX.ps 1 Z (GX.nil ?_)))))
   rcases iS H with ⟨c47,H⟩ | ⟨c47,H⟩
   ·
    refine yB Z (congrArg Bool.not (Bt c47)) (rN 2 Z ?_)
    obtain rfl:=sI H
    exact rT _ func61 Z Z ⟨Z,(HS.pk 1 [] Z)⟩
   refine nB Z (congrArg Bool.not c47) (rN 4 Z (gW (c1 a1 (lR _) _ _ H (HS.pk 1 [] Z)) Z))
  exact gW (e1 K (lR _) _ _ H HS) Z
theorem Kg.calls {items:List Af} {y_a:Nat→Aa.Lay} {r1:Bool} (HS:St w0 w (L)) (r_a:Av w0 L Aa A_a c_a y_a items) (H:Kg.f K items=some r1) :
    Calls prog 60 #[sV A_a items c_a] w (Kg.post w0 L r1):=by
  unfold Kg.f at H
  refine cG func60 Z ?_
  refine rN 3 Z ?_
  obtain ⟨t1,h2,H⟩:=bI H
  refine rG (mV Z (fJ zO Z (Ev.calls HS r_a h2) (fun _ wd3 ⟨h4,HS⟩=>⟨_,h4,(pS 2 Z (nL ?_))⟩)))
  obtain rfl:=sI H
  exact rT _ func60 Z Z ⟨Z,HS⟩
theorem Bb.calls {s:List (List Af)} {y_a:Nat→(Ty.slice 62 Aa).Lay} {r1:Int} (HS:St w0 w (L)) (r_a:Av w0 L (Ty.slice 62 Aa) A_a c_a y_a s) (H:Bb.f K s=some r1) :
    Calls prog 110 #[sV A_a s c_a,.func (.func 60) #[] #[]] w (Bb.post w0 L r1):=by
  unfold Bb.f at H
  refine cG func110 Z ?_
  refine rN 4 Z (rG (mV Z (lS Z Z U45 Z (mV Z (nL (rN 2 Z ?_))))))
  refine G.name (fun e1 c1=>?_)
  have d1:∀ a1,a1≤K→∀ (x8:Int) (w:World),Bb.l1 K a1 s x8=some r1→St w0 w (L)→G prog 110 19 [(0,sV A_a s c_a),(1,.func (.func 60) #[] #[]),(7,I (s.length:Int)),(8,I x8)] e1 w (Bb.post w0 L r1):=by
   refine lp (fun _ w H _=>by rw [Bb.l1] at H; cases H) fun b1 g1 f1 x8 w H HS=>?_
   rw [Bb.l1] at H
   subst c1
   refine rN 3 Z ?_
   rcases iS H with ⟨c16,H⟩ | ⟨c16,H⟩
   ·
    refine nB Z (tF c16) (rN 3 Z ?_)
    obtain rfl:=sI H
    exact rT _ func110 Z Z ⟨Z,HS⟩
   refine yB Z (tT c16) (rN 6 Z ?_)
   obtain ⟨c17,H⟩:=iN H
   obtain ⟨t18,h19,H⟩:=bI H
   refine rG (pS 3 Z (iX Z U45 Sm (rk r_a HS) c17 (GO.Gb (T:=(Ty.slice 62 Aa)) (n:=x8.toNat) (o:=0) HS r_a Z Z (getD_some (d:=[]) (ltN c17)) Z Z Mr Z (GO.clo Z Z func60 uW.2.1 uW.2.2 Z Z (Kg.calls HS (Av.elem r_a c17.1 c17.2) h19) (fun _ wd20 ⟨h21,HS⟩=>⟨_,h21,(nL ?_)⟩)))))
   rcases iE H with ⟨c22,H⟩ | ⟨c22,H⟩
   ·
    refine yB Z c22 (rN 2 Z ?_)
    obtain rfl:=sI H
    exact rT _ func110 Z Z ⟨Z,HS⟩
   refine nB Z (Bt c22) (rN 4 Z (gW (f1 b1 (lR _) _ _ H HS) Z))
  exact gW (d1 K (lR _) _ _ H HS) Z
theorem Bu.calls {s:List (List Af)} {y_a:Nat→(Ty.slice 62 Aa).Lay} {r1:Bool} (HS:St w0 w (L)) (r_a:Av w0 L (Ty.slice 62 Aa) A_a c_a y_a s) (H:Bu.f K s=some r1) :
    Calls prog 59 #[sV A_a s c_a,.func (.func 60) #[] #[]] w (Bu.post w0 L r1):=by
  unfold Bu.f at H
  refine cG func59 Z ?_
  refine rN 3 Z ?_
  obtain ⟨t1,h2,H⟩:=bI H
  refine rG (pS 2 Z (fJ wX Z (Bb.calls HS r_a h2) (fun _ wd3 ⟨h4,HS⟩=>⟨_,h4,(pS 2 Z (nL ?_))⟩)))
  obtain rfl:=sI H
  exact rT _ func59 Z Z ⟨Z,HS⟩
theorem Dk.calls {a1:List Af} {d1 c1:List (List Af)} {y_a:Nat→Aa.Lay} {y_b:Nat→(Ty.slice 62 Aa).Lay} {y_c:Nat→(Ty.slice 62 Aa).Lay} {r1:Bool} (HS:St w0 w (L)) (r_a:Av w0 L Aa A_a c_a y_a a1) (r_b:Av w0 L (Ty.slice 62 Aa) A_b c_b y_b d1) (r_c:Av w0 L (Ty.slice 62 Aa) A_c c_c y_c c1) (H:Dk.f K a1 d1 c1=some r1) :
    Calls prog 27 #[.agg [sV A_a a1 c_a,sV A_b d1 c_b,sV A_c c1 c_c].toArray] w (Dk.post w0 L r1):=by
  unfold Dk.f at H
  refine cG func27 Z ?_
  refine sQ (rG (bA HS Z fun b1 wd2 HS=>aS Z (nL (rN 2 Z (rG (fL b1 0 Ju Z (lB 0 HS Z Mr Z (GO.Gr (el:=44) ([sV A_a a1 c_a]) HS Z Z (fun _=>by kernel_rfl) Z fun b3 wd4 HS=>fL b1 1 Mq Z (lB 1 HS Z Nr Z (fL b1 2 O6 Z (lB 1 HS Z Nr Z (GO.Oj (t:=7) (m:=([a1]:List (List Af)).length) (c':=1) Z Z Z ?_))))))))))))
  refine GO.Gr (el:=45) ([sV (sb b3) ([a1]:List (List Af)) 1,sV A_b d1 c_b,sV A_c c1 c_c]) HS Z Z (fun _=>by kernel_rfl) Z fun b5 wd6 HS=>lS Z Z zR Z (mV Z (nL (rN 2 Z (G.Oj (t:=12) (m:=([([a1]:List (List Af)),d1,c1]:List (List (List Af))).length) (c':=3) Z Z Z ?_))))
  refine G.name (fun i1 g1=>?_)
  have h1:∀ e1,e1≤K→∀ (x14:Int) (w:World),Dk.l1 K e1 a1 d1 c1 x14=some r1→St w0 w (Box b5 45 [sV (sb b3) ([a1]:List (List Af)) 1,sV A_b d1 c_b,sV A_c c1 c_c]::Box b3 44 [sV A_a a1 c_a]::L)→G prog 27 26 [(12,sV (sb b5) ([([a1]:List (List Af)),d1,c1]:List (List (List Af))) 3),(13,I 3),(14,I x14)] i1 w (Dk.post w0 L r1):=by
   refine lp (fun _ w H _=>by rw [Dk.l1] at H; cases H) fun f1 m1 k1 x14 w H HS=>?_
   rw [Dk.l1] at H
   subst g1
   refine rN 3 Z ?_
   rcases iS H with ⟨c23,H⟩ | ⟨c23,H⟩
   ·
    refine nB Z (tF c23) (rN 3 Z ?_)
    obtain rfl:=sI H
    exact rT _ func27 Z Z ⟨Z,(HS.pk 2 [] Z)⟩
   refine yB Z (tT c23) (rN 4 Z ?_)
   obtain ⟨c24,H⟩:=iN H
   refine rG (iX Z zR Abt (fun _=>⟨_,_,Z⟩) c24 (GO.Gb (T:=(Ty.slice 44 (Ty.slice 62 Aa))) (n:=x14.toNat) (o:=0) HS (Av.box (T:=(Ty.slice 44 (Ty.slice 62 Aa))) (j:=0) (fun k=>match k with | 0=>⟨(sb b3),1,(fun _=>⟨A_a,c_a,y_a⟩)⟩ | 1=>⟨A_b,c_b,y_b⟩ | _=>⟨A_c,c_c,y_c⟩) ([([a1]:List (List Af)),d1,c1]:List (List (List Af))) Z Z Z Z (V4 (fun w hs=>(Av.box (T:=(Ty.slice 62 Aa)) (j:=1) (fun _=>⟨A_a,c_a,y_a⟩) ([a1]:List (List Af)) Z Z Z Z (V4 (fun w hs=>(rD 2 r_a) w hs) rA)) w hs) (V4 (fun w hs=>(rD 2 r_b) w hs) (V4 (fun w hs=>(rD 2 r_c) w hs) rA)))) Z Z (getD_some (d:=[]) (ltN c24)) Z Z Nr Z (aS Z (nL (sQ ?_)))))
   rcases iE H with ⟨c25,H⟩ | ⟨c25,H⟩
   ·
    refine rG (mV Z (lS Z Z U45 Z (pS 2 Z (kN 21 Z (tT c25) (oF Z (oF Z (GO.Ii Z Z Z Z Z (nL (rN 3 Z ?_)))))))))
    obtain rfl:=sI H
    exact rT _ func27 Z Z ⟨Z,(HS.pk 2 [] Z)⟩
   obtain ⟨t26,h27,H⟩:=bI H
   refine rG (mV Z (lS Z Z U45 Z (pS 2 Z (kN 21 Z (tF c25) (oN Z (mV Z (bK (oN Z (fJ AaE Z (Bu.calls HS (Av.elem (Av.box (T:=(Ty.slice 44 (Ty.slice 62 Aa))) (j:=0) (fun k=>match k with | 0=>⟨(sb b3),1,(fun _=>⟨A_a,c_a,y_a⟩)⟩ | 1=>⟨A_b,c_b,y_b⟩ | _=>⟨A_c,c_c,y_c⟩) ([([a1]:List (List Af)),d1,c1]:List (List (List Af))) Z Z Z Z (V4 (fun w hs=>(Av.box (T:=(Ty.slice 62 Aa)) (j:=1) (fun _=>⟨A_a,c_a,y_a⟩) ([a1]:List (List Af)) Z Z Z Z (V4 (fun w hs=>(rD 2 r_a) w hs) rA)) w hs) (V4 (fun w hs=>(rD 2 r_b) w hs) (V4 (fun w hs=>(rD 2 r_c) w hs) rA)))) c24.1 c24.2) h27) (fun _ wd28 ⟨h29,HS⟩=>⟨_,h29,(bK (GO.Ki Z Z Z Z Z (nL ?_)))⟩))))))))))
   rcases iE H with ⟨c30,H⟩ | ⟨c30,H⟩
   ·
    refine yB Z c30 (rN 2 Z ?_)
    obtain rfl:=sI H
    exact rT _ func27 Z Z ⟨Z,(HS.pk 2 [] Z)⟩
   refine nB Z (Bt c30) (rN 4 Z (gW (k1 f1 (lR _) _ _ H HS) Z))
  exact gW (h1 K (lR _) _ _ H (HS.pk 3 [0,1] Z)) Z
theorem K3.calls {n1:ByteArray} {o1:Int} {g1:List (List Br)} {a1:List Ah} {h1 i1:Int} {e1:List Int} {k1 m1:Int} {c1:List Cc} {f1 d1:List Int} {y_a:Nat→(Ty.slice 168 Az).Lay} {r1:Bool} (HS:St w0 w (L)) (r_a:Av w0 L (Ty.slice 168 Az) A_a c_a y_a g1) (r_b:Av w0 L Au A_b c_b uu a1) (r_c:Av w0 L (Bi .i64) A_c c_c uu e1) (r_d:Av w0 L Ci A_d c_d uu c1) (r_e:Av w0 L (Bi .i64) A_e c_e uu f1) (r_f:Av w0 L (Bi .i64) A_f c_f uu d1) (H:K3.f n1 o1 g1 a1 h1 i1 e1 k1 m1 c1 f1 d1=some r1) :
    Calls prog 64 #[.agg [.string n1,I o1,sV A_a g1 c_a,sV A_b a1 c_b,I h1,I i1,sV A_c e1 c_c,I k1,I m1,sV A_d c1 c_d,sV A_e f1 c_e,sV A_f d1 c_f].toArray] w (K3.post w0 L r1):=by
  unfold K3.f at H
  refine cG func64 Z ?_
  refine sQ ?_
  refine rG ?_
  refine bA HS Z ?_; intro b1 wd2 HS
  refine aS Z ?_
  refine nL ?_
  refine sQ ?_
  rcases iS H with ⟨c3,H⟩ | ⟨c3,H⟩
  ·
   refine rG ?_
   refine fL b1 0 Jz Z ?_
   refine lB 0 HS Z na9 Z ?_
   refine GO.R5 Z Z Z Z ?_
   refine mV Z ?_
   refine kN 6 Z (Bt c3) ?_
   refine oF Z ?_
   refine oF Z ?_
   refine oF Z ?_
   refine pS 2 Z ?_
   refine oF Z ?_
   refine oF Z ?_
   refine oF Z ?_
   refine oF Z ?_
   refine pS 2 Z ?_
   refine nL ?_
   obtain rfl:=sI H
   exact rT _ func64 Z Z ⟨Z,(HS.pk 1 [] Z)⟩
  rcases iS H with ⟨c4,H⟩ | ⟨c4,H⟩
  ·
   refine rG ?_
   refine fL b1 0 Jz Z ?_
   refine lB 0 HS Z na9 Z ?_
   refine GO.R5 Z Z Z Z ?_
   refine mV Z ?_
   refine kN 6 Z c3 ?_
   refine oN Z ?_
   refine fL b1 1 Lf Z ?_
   refine bK ?_
   refine oN Z ?_
   refine lB 0 HS Z na2 Z ?_
   refine bK ?_
   refine oN Z ?_
   refine GO.eql Z Z Z Z ?_
   refine bK ?_
   refine pS 2 Z ?_
   refine kN 11 Z (tF c4) ?_
   refine oF Z ?_
   refine oF Z ?_
   refine oF Z ?_
   refine oF Z ?_
   refine pS 2 Z ?_
   refine nL ?_
   obtain rfl:=sI H
   exact rT _ func64 Z Z ⟨Z,(HS.pk 1 [] Z)⟩
  obtain ⟨t5,t6,t7,t8,h9,H⟩:=Hz H
  refine rG ?_
  refine fL b1 0 Jz Z ?_
  refine lB 0 HS Z na9 Z ?_
  refine GO.R5 Z Z Z Z ?_
  refine mV Z ?_
  refine kN 6 Z c3 ?_
  refine oN Z ?_
  refine fL b1 1 Lf Z ?_
  refine bK ?_
  refine oN Z ?_
  refine lB 0 HS Z na2 Z ?_
  refine bK ?_
  refine oN Z ?_
  refine GO.eql Z Z Z Z ?_
  refine bK ?_
  refine pS 2 Z ?_
  refine kN 11 Z (tT c4) ?_
  refine oN Z ?_
  refine lW 0 HS Z Mf ?_
  refine bK ?_
  refine oN Z ?_
  refine fJ oM Z (Lh.calls HS (rD 1 r_a) (rD 1 r_b) (rD 1 r_c) (rD 1 r_d) (rD 1 r_e) (rD 1 r_f) h9) (fun _ wd10 ⟨h11,HS⟩=>⟨_,h11,?_⟩)
  refine bK ?_
  refine oN Z ?_
  refine GO.Gj (.agg [.bool false,.bool false,.bool false,.bool false].toArray) Z Z (fun _=>by kernel_rfl) Z ?_
  refine bK ?_
  refine oN Z ?_
  refine GO.qZ Z Z Z bT (fun _=>dZ) Z ?_
  refine bK ?_
  refine pS 2 Z ?_
  refine nL ?_
  obtain rfl:=sI H
  exact rT _ func64 Z Z ⟨Z,(HS.pk 1 [] Z)⟩
theorem Ep.calls {q1:Int} {p1 i1:ByteArray} {h1:Int} {d1:List (List Br)} {f1:List Ah} {k1 o1:Int} {a1:List Int} {n1 m1:Int} {e1:List Cc} {c1 g1:List Int} {y_a:Nat→(Ty.slice 168 Az).Lay} {r1:Bool} (HS:St w0 w (L)) (r_a:Av w0 L (Ty.slice 168 Az) A_a c_a y_a d1) (r_b:Av w0 L Au A_b c_b uu f1) (r_c:Av w0 L (Bi .i64) A_c c_c uu a1) (r_d:Av w0 L Ci A_d c_d uu e1) (r_e:Av w0 L (Bi .i64) A_e c_e uu c1) (r_f:Av w0 L (Bi .i64) A_f c_f uu g1) (H:Ep.f K q1 p1 i1 h1 d1 f1 k1 o1 a1 n1 m1 e1 c1 g1=some r1) :
    Calls prog 28 #[.agg [I q1,.string p1,.string i1,I h1,sV A_a d1 c_a,sV A_b f1 c_b,I k1,I o1,sV A_c a1 c_c,I n1,I m1,sV A_d e1 c_d,sV A_e c1 c_e,sV A_f g1 c_f].toArray] w (Ep.post w0 L r1):=by
  unfold Ep.f at H
  refine cG func28 Z ?_
  refine sQ (rG (bA HS Z fun b1 wd2 HS=>aS Z (nL (rN 2 Z (rG (fL b1 0 Uj Z (lB 0 HS Z na2 Z (nL (rN 3 Z ?_)))))))))
  rcases iE H with ⟨c3,H⟩ | ⟨c3,H⟩
  ·
   refine yB Z (tT c3) (sQ ?_)
   obtain ⟨t4,h5,H⟩:=bI H
   rcases iS H with ⟨c8,H⟩ | ⟨c8,H⟩
   ·
    refine rG (fL b1 2 Pv Z (GO.Du (j:=0) ([.string i1,I h1,sV A_a d1 c_a,sV A_b f1 c_b,I k1,I o1,sV A_c a1 c_c,I n1,I m1,sV A_d e1 c_d,sV A_e c1 c_e,sV A_f g1 c_f]) HS Z Z Z Z Mf Z (fJ Zt Z (Ic.calls HS (rD 1 r_a) (rD 1 r_b) (rD 1 r_c) (rD 1 r_d) (rD 1 r_e) (rD 1 r_f) h5) (fun _ wd6 ⟨h7,HS⟩=>⟨_,h7,(mV Z (kN 10 Z (Bt c8) (oF Z (oF Z (oF Z (pS 2 Z (nL ?_)))))))⟩))))
    obtain rfl:=sI H
    exact rT _ func28 Z Z ⟨Z,(HS.pk 1 [] Z)⟩
   refine rG (fL b1 2 Pv Z (GO.Du (j:=0) ([.string i1,I h1,sV A_a d1 c_a,sV A_b f1 c_b,I k1,I o1,sV A_c a1 c_c,I n1,I m1,sV A_d e1 c_d,sV A_e c1 c_e,sV A_f g1 c_f]) HS Z Z Z Z Mf Z (fJ Zt Z (Ic.calls HS (rD 1 r_a) (rD 1 r_b) (rD 1 r_c) (rD 1 r_d) (rD 1 r_e) (rD 1 r_f) h5) (fun _ wd6 ⟨h7,HS⟩=>⟨_,h7,(mV Z (kN 10 Z c8 (oN Z (fL b1 1 Ow Z (bK (oN Z (lB 0 HS Z na9 Z (bK (oN Z (GO.R5 Z Z Z Z (bK ?_)))))))))))⟩))))
   refine pS 2 Z (nL ?_)
   obtain rfl:=sI H
   exact rT _ func28 Z Z ⟨Z,(HS.pk 1 [] Z)⟩
  refine nB Z (tF c3) (rN 2 Z ?_)
  rcases iE H with ⟨c9,H⟩ | ⟨c9,H⟩
  ·
   refine yB Z (tT c9) (sQ ?_)
   obtain ⟨t10,h11,H⟩:=bI H
   rcases iS H with ⟨c14,H⟩ | ⟨c14,H⟩
   ·
    refine rG (fL b1 1 Ow Z (lB 0 HS Z na9 Z (fJ gY Z (Hm.calls HS  h11) (fun _ wd12 ⟨h13,HS⟩=>⟨_,h13,(mV Z (kN 20 Z (Bt c14) (oF Z (oF Z (oF Z (pS 2 Z (nL ?_)))))))⟩))))
    obtain rfl:=sI H
    exact rT _ func28 Z Z ⟨Z,(HS.pk 1 [] Z)⟩
   obtain ⟨t15,h16,H⟩:=bI H
   refine rG (fL b1 1 Ow Z (lB 0 HS Z na9 Z (fJ gY Z (Hm.calls HS  h11) (fun _ wd12 ⟨h13,HS⟩=>⟨_,h13,(mV Z (kN 20 Z c14 (oN Z (fL b1 2 Pv Z (bK (oN Z (GO.Du (j:=0) ([.string i1,I h1,sV A_a d1 c_a,sV A_b f1 c_b,I k1,I o1,sV A_c a1 c_c,I n1,I m1,sV A_d e1 c_d,sV A_e c1 c_e,sV A_f g1 c_f]) HS Z Z Z Z Mf Z (bK (oN Z (fJ uF Z (K3.calls HS (rD 1 r_a) (rD 1 r_b) (rD 1 r_c) (rD 1 r_d) (rD 1 r_e) (rD 1 r_f) h16) (fun _ wd17 ⟨h18,HS⟩=>⟨_,h18,(bK ?_)⟩)))))))))))⟩))))
   refine pS 2 Z (nL ?_)
   obtain rfl:=sI H
   exact rT _ func28 Z Z ⟨Z,(HS.pk 1 [] Z)⟩
  refine nB Z (tF c9) (rN 3 Z ?_)
  refine G.Qj (fun u1 v1=>?_)
  have t1:∀ s1,s1≤K→∀ (x20:Bool) (w:World),Ep.j1 K s1 p1 i1 h1 d1 f1 k1 o1 a1 n1 m1 e1 c1 g1 x20=some r1→St w0 w (Box b1 64 [I q1,.string p1,.string i1,I h1,sV A_a d1 c_a,sV A_b f1 c_b,I k1,I o1,sV A_c a1 c_c,I n1,I m1,sV A_d e1 c_d,sV A_e c1 c_e,sV A_f g1 c_f]::L)→G prog 28 36 [(1,pT b1),(25,.bool x20)] u1 w (Ep.post w0 L r1):=by
   refine jp (fun _ w H _=>by rw [Ep.j1] at H; cases H) fun x1 y1 x20 w H HS=>?_
   rw [Ep.j1] at H
   subst v1
   rcases iS H with ⟨c21,H⟩ | ⟨c21,H⟩
   ·
    refine nB Z (Bt c21) (rN 4 Z ?_)
    obtain rfl:=sI H
    exact rT _ func28 Z Z ⟨Z,(HS.pk 1 [] Z)⟩
   refine yB Z c21 (sQ ?_)
   rcases iS H with ⟨c22,H⟩ | ⟨c22,H⟩
   ·
    refine rG (fL b1 1 Ow Z (lB 0 HS Z na9 Z (GO.R5 Z Z Z Z (mV Z (kN 31 Z (Bt c22) (oF Z (oF Z (oF Z (pS 2 Z (nL ?_))))))))))
    obtain rfl:=sI H
    exact rT _ func28 Z Z ⟨Z,(HS.pk 1 [] Z)⟩
   obtain ⟨t23,h24,H⟩:=bI H
   refine rG (fL b1 1 Ow Z (lB 0 HS Z na9 Z (GO.R5 Z Z Z Z (mV Z (kN 31 Z c22 (oN Z (fL b1 2 Pv Z (bK (oN Z (GO.Du (j:=0) ([.string i1,I h1,sV A_a d1 c_a,sV A_b f1 c_b,I k1,I o1,sV A_c a1 c_c,I n1,I m1,sV A_d e1 c_d,sV A_e c1 c_e,sV A_f g1 c_f]) HS Z Z Z Z Mf Z (bK (oN Z (fJ uF Z (K3.calls HS (rD 1 r_a) (rD 1 r_b) (rD 1 r_c) (rD 1 r_d) (rD 1 r_e) (rD 1 r_f) h24) (fun _ wd25 ⟨h26,HS⟩=>⟨_,h26,(bK ?_)⟩))))))))))))))
   refine pS 2 Z (nL ?_)
   obtain rfl:=sI H
   exact rT _ func28 Z Z ⟨Z,(HS.pk 1 [] Z)⟩
  rcases iE H with ⟨c27,H⟩ | ⟨c27,H⟩
  ·
   refine yB Z (tT c27) (G.skip (gW (t1 K (lR _) _ _ H HS) Z))
  refine nB Z (tF c27) (rN 1 Z (gW (t1 K (lR _) _ _ H HS) Z))
theorem F8.calls {a_ b_:ByteArray} {r1:Int} (HS:St w0 w (L)) (H:F8.f a_ b_=some r1) :
    Calls prog 166 #[.string a_,.string b_] w (F8.post w0 L r1):=by
  unfold F8.f at H
  refine cG func166 Z ?_
  refine rN 3 Z (rG (pS 2 Z (GO.Abe Z func200 (by kernel_rfl) (by kernel_rfl) (by kernel_rfl) (by kernel_rfl) Z Z Z (aS Z (nL ?_)))))
  obtain rfl:=sI H
  exact rT _ func166 Z Z ⟨Z,HS⟩
theorem strings_Compare.calls {a_ b_:ByteArray} {r1:Int} (HS:St w0 w (L)) (H:strings_Compare.f a_ b_=some r1) :
    Calls prog 121 #[.string a_,.string b_] w (strings_Compare.post w0 L r1):=by
  unfold strings_Compare.f at H
  refine cG func121 Z ?_
  refine rN 3 Z ?_
  obtain ⟨t1,h2,H⟩:=bI H
  refine rG (pS 2 Z (fJ xH Z (F8.calls HS  h2) (fun _ wd3 ⟨h4,HS⟩=>⟨_,h4,(aS Z (nL ?_))⟩)))
  obtain rfl:=sI H
  exact rT _ func121 Z Z ⟨Z,HS⟩
theorem Jl.calls {n1:ByteArray} {o1:Int} {g1:List (List Br)} {a1:List Ah} {h1 i1:Int} {e1:List Int} {k1 m1:Int} {c1:List Cc} {f1 d1:List Int} {name:ByteArray} {y_a:Nat→(Ty.slice 168 Az).Lay} {r1:Int} (HS:St w0 w (L)) (r_a:Av w0 L (Ty.slice 168 Az) A_a c_a y_a g1) (r_b:Av w0 L Au A_b c_b uu a1) (r_c:Av w0 L (Bi .i64) A_c c_c uu e1) (r_d:Av w0 L Ci A_d c_d uu c1) (r_e:Av w0 L (Bi .i64) A_e c_e uu f1) (r_f:Av w0 L (Bi .i64) A_f c_f uu d1) (H:Jl.f n1 o1 g1 a1 h1 i1 e1 k1 m1 c1 f1 d1 name=some r1) :
    Calls prog 120 #[.agg [.string n1,I o1,sV A_a g1 c_a,sV A_b a1 c_b,I h1,I i1,sV A_c e1 c_c,I k1,I m1,sV A_d c1 c_d,sV A_e f1 c_e,sV A_f d1 c_f].toArray,.string name] w (Jl.post w0 L r1):=by
  unfold Jl.f at H
  refine cG func120 Z ?_
  refine sQ (rG (bA HS Z fun b1 wd2 HS=>aS Z (nL (sQ ?_))))
  obtain ⟨t3,h4,H⟩:=bI H
  refine rG (fL b1 0 Jz Z (lB 0 HS Z na9 Z (mV Z (fJ yG Z (strings_Compare.calls HS  h4) (fun _ wd5 ⟨h6,HS⟩=>⟨_,h6,(aS Z (nL ?_))⟩)))))
  obtain rfl:=sI H
  exact rT _ func120 Z Z ⟨Z,(HS.pk 1 [] Z)⟩
theorem Ap.calls {x:List Af} {target:ByteArray} {y_a:Nat→Aa.Lay} {r1:Int} {r2:Bool} (HS:St w0 w (L)) (r_a:Av w0 L Aa A_a c_a y_a x) (H:Ap.f K x target=some (r1,r2)) :
    Calls prog 119 #[sV A_a x c_a,.string target,.func (.func 120) #[] #[]] w (Ap.post w0 L r1 r2):=by
  unfold Ap.f at H
  refine cG func119 Z ?_
  refine rN 3 Z (rG (mV Z (lS Z Z U44 Z (aS Z (nL (rN 5 Z ?_))))))
  refine G.name (fun h1 f1=>?_)
  have g1:∀ d1,d1≤K→∀ (a1 b1:Int) (w:World),Ap.l1 K d1 x target a1 b1=some (r1,r2)→St w0 w (L)→G prog 119 49 [(0,sV A_a x c_a),(1,.string target),(2,.func (.func 120) #[] #[]),(8,I (x.length:Int)),(9,I a1),(10,I b1)] h1 w (Ap.post w0 L r1 r2):=by
   refine lp (fun _ _ w H _=>by rw [Ap.l1] at H; cases H) fun c1 i1 e1 a1 b1 w H HS=>?_
   rw [Ap.l1] at H
   subst f1
   refine rN 3 Z ?_
   rcases iE H with ⟨c29,H⟩ | ⟨c29,H⟩
   ·
    refine yB Z (tT c29) (rN 3 Z (rG (pS 3 Z (GO.conv Z Z U3 mJ Z (GO.shr Z Z Z (by decide) (by decide) Z (GO.conv Z Z mJ U3 Z (aS Z (nL (sQ ?_)))))))))
    obtain ⟨c30,H⟩:=iN H
    obtain ⟨e31,h32,H⟩:=Cr H
    obtain ⟨t33,h34,H⟩:=bI H
    refine rG (pS 3 Z (iX Z U44 J7 (rk r_a HS) c30 (GO.J4 (T:=Aa) (n:=(w64 ((IntKind.wrap .u64 (w64 (a1+b1))) / 2 ^ 1)).toNat) HS r_a Z Z (Ba (ltN c30) h32) Mf Z (mV Z (GO.clo Z Z func120 aO.2.1 aO.2.2 Z Z (Jl.calls HS (Av.fld r_a (Ba (ltN c30) h32) (fun _ h=>h.2.2.1)) (Av.fld r_a (Ba (ltN c30) h32) (fun _ h=>h.2.2.2.1)) (Av.fld r_a (Ba (ltN c30) h32) (fun _ h=>h.2.2.2.2.2.2.1)) (Av.fld r_a (Ba (ltN c30) h32) (fun _ h=>h.2.2.2.2.2.2.2.2.2.1)) (Av.fld r_a (Ba (ltN c30) h32) (fun _ h=>h.2.2.2.2.2.2.2.2.2.2.1)) (Av.fld r_a (Ba (ltN c30) h32) (fun _ h=>h.2.2.2.2.2.2.2.2.2.2.2)) h34) (fun _ wd35 ⟨h36,HS⟩=>⟨_,h36,(GO.lss Z Z Z Z (nL ?_))⟩))))))
    rcases iS H with ⟨c37,H⟩ | ⟨c37,H⟩
    ·
     refine nB Z (tF c37) (rN 3 Z (gW (e1 c1 (lR _) _ _ _ H HS) Z))
    refine yB Z (tT c37) (rN 3 Z (gW (e1 c1 (lR _) _ _ _ H HS) Z))
   refine nB Z (tF c29) (rN 2 Z ?_)
   rcases iS H with ⟨c38,H⟩ | ⟨c38,H⟩
   ·
    refine rG (pS 5 Z (kN 39 Z (tF c38) (oF Z (oF Z (oF Z (oF Z (oF Z (oF Z (oF Z (oF Z (pS 3 Z (nL ?_))))))))))))
    obtain ⟨rfl,rfl⟩:=Nq H
    exact G.Lb _ _ func119 Z Z Z ⟨Z,HS⟩
   obtain ⟨c39,H⟩:=iN H
   obtain ⟨e40,h41,H⟩:=Cr H
   obtain ⟨t42,h43,H⟩:=bI H
   refine rG (pS 5 Z (kN 39 Z (tT c38) (oN Z (mV Z (bK (oN Z (mV Z (bK (oN Z (mV Z (bK (oN Z (iX Z U44 J7 (rk r_a HS) c39 (bK ?_))))))))))))))
   refine oN Z (GO.J4 (T:=Aa) (n:=a1.toNat) HS r_a Z Z (Ba (ltN c39) h41) Mf Z (bK (oN Z (mV Z (bK (oN Z (GO.clo Z Z func120 aO.2.1 aO.2.2 Z Z (Jl.calls HS (Av.fld r_a (Ba (ltN c39) h41) (fun _ h=>h.2.2.1)) (Av.fld r_a (Ba (ltN c39) h41) (fun _ h=>h.2.2.2.1)) (Av.fld r_a (Ba (ltN c39) h41) (fun _ h=>h.2.2.2.2.2.2.1)) (Av.fld r_a (Ba (ltN c39) h41) (fun _ h=>h.2.2.2.2.2.2.2.2.2.1)) (Av.fld r_a (Ba (ltN c39) h41) (fun _ h=>h.2.2.2.2.2.2.2.2.2.2.1)) (Av.fld r_a (Ba (ltN c39) h41) (fun _ h=>h.2.2.2.2.2.2.2.2.2.2.2)) h43) (fun _ wd44 ⟨h45,HS⟩=>⟨_,h45,(bK (oN Z (GO.eql Z Z Z Z (bK (pS 3 Z (nL ?_))))))⟩))))))))
   obtain ⟨rfl,rfl⟩:=Nq H
   exact G.Lb _ _ func119 Z Z Z ⟨Z,HS⟩
  exact gW (g1 K (lR _) _ _ _ H HS) Z
theorem Kw.calls {items:List Af} {name:ByteArray} {y_a:Nat→Aa.Lay} {r1:Int} {r2:Bool} (HS:St w0 w (L)) (r_a:Av w0 L Aa A_a c_a y_a items) (H:Kw.f K items name=some (r1,r2)) :
    Calls prog 65 #[sV A_a items c_a,.string name] w (Kw.post w0 L r1 r2):=by
  unfold Kw.f at H
  refine cG func65 Z ?_
  refine rN 3 Z ?_
  obtain ⟨t1,t2,h3,H⟩:=Dt H
  refine rG (pS 2 Z (fJ wW Z (Ap.calls HS r_a h3) (fun _ wd4 ⟨h5,HS⟩=>⟨_,h5,(pS 4 Z (nL ?_))⟩)))
  obtain ⟨rfl,rfl⟩:=Nq H
  exact G.Lb _ _ func65 Z Z Z ⟨Z,HS⟩
theorem Ej.calls {s:List Br} {r1:List Br} (HS:St w0 w (L)) (r_a:Av w0 L Az A_a c_a uu s) (H:Ej.f s=some r1) :
    Calls prog 167 #[sV A_a s c_a] w (Ej.post w0 L r1):=by
  unfold Ej.f at H
  refine cG func167 Z ?_
  refine rN 4 Z (rG (mV Z (GO.iQ Z Z Z P8 Z (nL ?_))))
  rcases Decidable.em (A_a.isNone=true) with c1 | c1
  ·
   obtain rfl:=Q9 r_a HS c1
   refine yB Z c1 (rN 2 Z ?_)
   replace HS:=HS.Da Az 168 uu
   replace H:some ([]:List Br)=some r1:=H
   obtain rfl:=sI H
   exact rT _ func167 Z Z ⟨_,_,Z,HS⟩
  refine nB Z (Bt c1) (rN 2 Z ?_)
  obtain ⟨c7,H⟩:=iN H
  refine rG (GO.Gr (el:=168) ([]) HS Z Z (fun _=>by kernel_rfl) Z fun b2 wd3 HS=>mV Z ?_)
  replace HS:=HS.Le (T:=Az) (j:=0) Z Bw uu ([]:List Br) Z (Qd Z)
  refine GO.Oj (t:=5) (m:=([]:List Br).length) (c':=([]:List Br).length) Z Z Z (GO.Wh (T:=Az) (j:=0) HS Z (rD 1 r_a) Bw Z Z Z P8 eO Z Z Z c7 Z (fun _=>Z) fun A5 c6 wd4 HS=>aS Z (nL ?_))
  obtain rfl:=sI H
  exact rT _ func167 Z Z ⟨_,_,Z,HS⟩
theorem Cv.calls {c1:List (List Br)} {y_a:Nat→(Ty.slice 168 Az).Lay} {r1:List (List Br)} (HS:St w0 w (L)) (r_a:Av w0 L (Ty.slice 168 Az) A_a c_a y_a c1) (H:Cv.f K c1=some r1) :
    Calls prog 122 #[.agg [sV A_a c1 c_a].toArray] w (Cv.post w0 L r1):=by
  unfold Cv.f at H
  refine cG func122 Z ?_
  refine sQ (rG (bA HS Z fun b1 wd2 HS=>GO.alloc HS Z jC Z Z fun b3 wd4 HS=>nL (sQ (rG (GO.alloc HS Z jC Z Z fun b5 wd6 HS=>nL (rN 2 Z (rG (fL b1 0 J2 Z (lB 2 HS Z O1 Z (lS Z Z U51 Z (mV Z ?_)))))))))))
  refine nL (rN 2 Z ?_)
  refine G.name (fun h1 f1=>?_)
  have g1:∀ d1,d1≤K→∀ (A24:Option Addr) (c25:Nat) (a1:List (List Br)) (y27:Nat→(Ty.slice 168 Az).Lay) (x28:Int) (w:World),Cv.l1 K d1 c1 a1 x28=some r1→St w0 w (Box b3 53 [.slice none 0 0]::Box b5 53 [sV A24 a1 c25]::Own (Ty.slice 168 Az) 161 A24 c25 y27 a1::L)→G prog 122 22 [(2,pT b3),(3,pT b5),(7,sV A_a c1 c_a),(8,I (c1.length:Int)),(9,I x28)] h1 w (Cv.post w0 L r1):=by
   refine lp (fun _ _ _ _ _ w H _=>by rw [Cv.l1] at H; cases H) fun e1 k1 i1 A24 c25 a1 y27 x28 w H HS=>?_
   rw [Cv.l1] at H
   subst f1
   refine rN 3 Z ?_
   rcases iS H with ⟨c46,H⟩ | ⟨c46,H⟩
   ·
    refine nB Z (tF c46) (rN 2 Z (rG (lW 1 HS Z O0 (sW 0 HS Z O0 Z fun wd62 HS=>nL ?_))))
    obtain rfl:=sI H
    exact rT _ func122 Z (Iq.Ji (j:=0) (vs:=[sV A24 a1 c25]) HS Z Z Z O0) ⟨_,_,_,Z,(HS.pk 3 [2] Z)⟩
   refine yB Z (tT c46) (rN 4 Z ?_)
   obtain ⟨c47,H⟩:=iN H
   refine rG (iX Z U51 P7 (rk (rD 3 r_a) HS) c47 (GO.Gb (T:=(Ty.slice 168 Az)) (n:=x28.toNat) (o:=0) HS (rD 3 r_a) Z Z (getD_some (d:=[]) (ltN c47)) Z Z Qc Z (aS Z (nL ?_))))
   obtain ⟨t48,h49,H⟩:=bI H
   obtain ⟨c59,H⟩:=iN H
   refine G.O7 mixed (fun w=>St w0 w (Box b5 53 [sV A24 a1 c25]::L)) [1] [0,2,1,3,4,5,6,7] [7] (by kernel_rfl) (by kernel_rfl) (HS.drew.pk 3 [1] Z) ?_
   replace HS:=HS.drew
   refine qL Z Z (fun _ _ g=>fL b5 0 J2 Z g) Z (GX.ps 1 Z (GX.ls Z Z Z (HS.pk 3 [1] Z) (fun _ HS _ g=>lB 0 HS Z O1 Z g) Z (GX.l2 Z (fJ wQ Z (Ej.calls HS (Av.elem (rD 3 r_a) c47.1 c47.2) h49) (fun _ wd52 ⟨A50,c51,h53,HS⟩=>⟨_,h53,(GX.fin (HS.pk 4 [2] Z) (GX.l2 Z (GO.Gr (el:=161) ([sV A50 t48 c51]) HS Z Z (fun _=>by kernel_rfl) Z fun b54 wd55 HS=>GX.fin (HS.pk 5 [3] Z) (GX.l2 Z ?_))))⟩)))))
   replace HS:=HS.pk 5 [4,0,1,2,3] Z
   refine GO.dW (S:=Az) (u:=168) HS Z Z Z U51 gK Z Z c59 Z fun A57 c58 y60 wd56 HS=>GX.fin (HS.pk 4 [3] Z) (qL Z Z (fun _ _ g=>fL b5 0 J2 Z g) Z (GX.l2 Z (GO.H9 (j:=3) (vs:=[sV A57 (a1++[t48]) c58]) ([sV A57 (a1++[t48]) c58]) HS Z Z Z Z Z (htN O1 Z) Z Z Z fun wd61 HS=>GX.kX Z (GX.nil (rN 3 Z (gW (i1 e1 (lR _) _ _ _ _ _ _ H (HS.pk 4 [2,3,0] Z)) Z))))))
  replace HS:=HS.Da (Ty.slice 168 Az) 161 (fun _=>⟨none,0,uu⟩)
  exact gW (g1 K (lR _) _ _ _ _ _ _ H (HS.pk 4 [2,1,0] Z)) Z
theorem Db.calls {s:List Ah} {r1:List Ah} (HS:St w0 w (L)) (r_a:Av w0 L Au A_a c_a uu s) (H:Db.f s=some r1) :
    Calls prog 168 #[sV A_a s c_a] w (Db.post w0 L r1):=by
  unfold Db.f at H
  refine cG func168 Z ?_
  refine rN 4 Z (rG (mV Z (GO.iQ Z Z Z U54 Z (nL ?_))))
  rcases Decidable.em (A_a.isNone=true) with c1 | c1
  ·
   obtain rfl:=Q9 r_a HS c1
   refine yB Z c1 (rN 2 Z ?_)
   replace HS:=HS.Da Au 163 uu
   replace H:some ([]:List Ah)=some r1:=H
   obtain rfl:=sI H
   exact rT _ func168 Z Z ⟨_,_,Z,HS⟩
  refine nB Z (Bt c1) (rN 2 Z ?_)
  obtain ⟨c7,H⟩:=iN H
  refine rG (GO.Gr (el:=163) ([]) HS Z Z (fun _=>by kernel_rfl) Z fun b2 wd3 HS=>mV Z ?_)
  replace HS:=HS.Le (T:=Au) (j:=0) Z Bw uu ([]:List Ah) Z (Qd Z)
  refine GO.Oj (t:=5) (m:=([]:List Ah).length) (c':=([]:List Ah).length) Z Z Z (GO.Wh (T:=Au) (j:=0) HS Z (rD 1 r_a) Bw Z Z Z U54 eU Z Z Z c7 Z (fun _=>Z) fun A5 c6 wd4 HS=>aS Z (nL ?_))
  obtain rfl:=sI H
  exact rT _ func168 Z Z ⟨_,_,Z,HS⟩
theorem Ke.calls {c1:List Ah} {a1:Int} {r1:List Ah} {r2:Int} (HS:St w0 w (L)) (r_a:Av w0 L Au A_a c_a uu c1) (H:Ke.f c1 a1=some (r1,r2)) :
    Calls prog 123 #[.agg [sV A_a c1 c_a,I a1].toArray] w (Ke.post w0 L r1 r2):=by
  unfold Ke.f at H
  refine cG func123 Z ?_
  refine sQ (rG (bA HS Z fun b1 wd2 HS=>GO.alloc HS Z qB Z Z fun b3 wd4 HS=>nL (sQ ?_)))
  obtain ⟨t5,h6,H⟩:=bI H
  refine rG (fL b1 0 Jr Z (lB 1 HS Z Ol Z (fJ wJ Z (Db.calls HS (rD 2 r_a) h6) (fun _ wd9 ⟨A7,c8,h10,HS⟩=>⟨_,h10,(fL b1 0 Jr Z (GO.H9 (j:=2) (vs:=[sV A7 t5 c8]) ([sV A7 t5 c8,I a1]) HS Z Z Z Z Z (htN Ol Z) Z Z Z fun wd11 HS=>nL (sQ (rG (lW 2 HS Z Oe (sW 1 HS Z Oe Z fun wd12 HS=>nL ?_))))))⟩))))
  obtain ⟨rfl,rfl⟩:=Nq H
  exact rT _ func123 Z (Iq.Ji (j:=1) (vs:=[sV A7 t5 c8,I a1]) HS Z Z Z Oe) ⟨_,_,Z,(HS.pk 3 [0] Z)⟩
theorem D7.calls {s:List Int} {r1:List Int} (HS:St w0 w (L)) (r_a:Av w0 L (Bi .i64) A_a c_a uu s) (H:D7.f s=some r1) :
    Calls prog 124 #[sV A_a s c_a] w (D7.post w0 L r1):=by
  unfold D7.f at H
  refine cG func124 Z ?_
  refine rN 4 Z (rG (mV Z (GO.iQ Z Z Z U32 Z (nL ?_))))
  rcases Decidable.em (A_a.isNone=true) with c1 | c1
  ·
   obtain rfl:=Q9 r_a HS c1
   refine yB Z c1 (rN 2 Z ?_)
   replace HS:=HS.Da (Bi .i64) 2 uu
   replace H:some ([]:List Int)=some r1:=H
   obtain rfl:=sI H
   exact rT _ func124 Z Z ⟨_,_,Z,HS⟩
  refine nB Z (Bt c1) (rN 2 Z ?_)
  obtain ⟨c7,H⟩:=iN H
  refine rG (GO.Gr (el:=2) ([]) HS Z Z (fun _=>by kernel_rfl) Z fun b2 wd3 HS=>mV Z ?_)
  replace HS:=HS.Le (T:=(Bi .i64)) (j:=0) Z Bw uu ([]:List Int) Z (Qd Z)
  refine GO.Oj (t:=5) (m:=([]:List Int).length) (c':=([]:List Int).length) Z Z Z (GO.Wh (T:=(Bi .i64)) (j:=0) HS Z (rD 1 r_a) Bw Z Z Z U32 Va Z Z Z c7 Z (fun _=>Z) fun A5 c6 wd4 HS=>aS Z (nL ?_))
  obtain rfl:=sI H
  exact rT _ func124 Z Z ⟨_,_,Z,HS⟩
theorem Eg.calls {s:List Cc} {r1:List Cc} (HS:St w0 w (L)) (r_a:Av w0 L Ci A_a c_a uu s) (H:Eg.f s=some r1) :
    Calls prog 125 #[sV A_a s c_a] w (Eg.post w0 L r1):=by
  unfold Eg.f at H
  refine cG func125 Z ?_
  refine rN 4 Z (rG (mV Z (GO.iQ Z Z Z U58 Z (nL ?_))))
  rcases Decidable.em (A_a.isNone=true) with c1 | c1
  ·
   obtain rfl:=Q9 r_a HS c1
   refine yB Z c1 (rN 2 Z ?_)
   replace HS:=HS.Da Ci 153 uu
   replace H:some ([]:List Cc)=some r1:=H
   obtain rfl:=sI H
   exact rT _ func125 Z Z ⟨_,_,Z,HS⟩
  refine nB Z (Bt c1) (rN 2 Z ?_)
  obtain ⟨c7,H⟩:=iN H
  refine rG (GO.Gr (el:=153) ([]) HS Z Z (fun _=>by kernel_rfl) Z fun b2 wd3 HS=>mV Z ?_)
  replace HS:=HS.Le (T:=Ci) (j:=0) Z Bw uu ([]:List Cc) Z (Qd Z)
  refine GO.Oj (t:=5) (m:=([]:List Cc).length) (c':=([]:List Cc).length) Z Z Z (GO.Wh (T:=Ci) (j:=0) HS Z (rD 1 r_a) Bw Z Z Z U58 gH Z Z Z c7 Z (fun _=>Z) fun A5 c6 wd4 HS=>aS Z (nL ?_))
  obtain rfl:=sI H
  exact rT _ func125 Z Z ⟨_,_,Z,HS⟩
theorem Im.calls {e1:ByteArray} {f1:Int} {o1:List (List Br)} {k1:List Ah} {n1 a1:Int} {m1:List Int} {c1 d1:Int} {i1:List Cc} {h1 g1:List Int} {y_a:Nat→(Ty.slice 168 Az).Lay} {r1:ByteArray} {r2:Int} {r3:List (List Br)} {r4:List Ah} {r5 r6:Int} {r7:List Int} {r8 r9:Int} {r10:List Cc} {r11 r12:List Int} (HS:St w0 w (L)) (r_a:Av w0 L (Ty.slice 168 Az) A_a c_a y_a o1) (r_b:Av w0 L Au A_b c_b uu k1) (r_c:Av w0 L (Bi .i64) A_c c_c uu m1) (r_d:Av w0 L Ci A_d c_d uu i1) (r_e:Av w0 L (Bi .i64) A_e c_e uu h1) (r_f:Av w0 L (Bi .i64) A_f c_f uu g1) (H:Im.f K e1 f1 o1 k1 n1 a1 m1 c1 d1 i1 h1 g1=some (r1,r2,r3,r4,r5,r6,r7,r8,r9,r10,r11,r12)) :
    Calls prog 67 #[.agg [.string e1,I f1,sV A_a o1 c_a,sV A_b k1 c_b,I n1,I a1,sV A_c m1 c_c,I c1,I d1,sV A_d i1 c_d,sV A_e h1 c_e,sV A_f g1 c_f].toArray] w (Im.post w0 L r1 r2 r3 r4 r5 r6 r7 r8 r9 r10 r11 r12):=by
  unfold Im.f at H
  refine cG func67 Z ?_
  refine sQ (rG (bA HS Z fun b1 wd2 HS=>GO.alloc HS Z fI Z Z fun b3 wd4 HS=>nL (sQ ?_)))
  obtain ⟨t5,h6,H⟩:=bI H
  refine rG (fL b1 2 M9 Z (GO.Du (j:=1) ([sV A_a o1 c_a]) HS Z Z Z Z O0 Z (fJ yL Z (Cv.calls HS (rD 2 r_a) h6) (fun _ wd10 ⟨A7,c8,y9,h11,HS⟩=>⟨_,h11,(fL b1 2 M9 Z (GO.H9 (j:=2) (vs:=[sV A7 t5 c8]) ([.string e1,I f1,sV A7 t5 c8,sV A_b k1 c_b,I n1,I a1,sV A_c m1 c_c,I c1,I d1,sV A_d i1 c_d,sV A_e h1 c_e,sV A_f g1 c_f]) HS Z Z Z Z Z (htA O0) Z Z Z fun wd12 HS=>nL (sQ ?_)))⟩))))
  obtain ⟨t13,t14,h15,H⟩:=Dt H
  refine rG (fL b1 3 Mm Z (GO.Du (j:=2) ([sV A_b k1 c_b,I n1]) HS Z Z Z Z Oe Z (fJ zI Z (Ke.calls HS (rD 3 r_b) h15) (fun _ wd18 ⟨A16,c17,h19,HS⟩=>⟨_,h19,(fL b1 3 Mm Z (GO.H9 (j:=3) (vs:=[sV A16 t13 c17,I t14]) ([.string e1,I f1,sV A7 t5 c8,sV A16 t13 c17,I t14,I a1,sV A_c m1 c_c,I c1,I d1,sV A_d i1 c_d,sV A_e h1 c_e,sV A_f g1 c_f]) HS Z Z Z Z Z (htA Oe) Z Z Z fun wd20 HS=>nL (sQ ?_)))⟩))))
  obtain ⟨t21,h22,H⟩:=bI H
  refine rG (fL b1 5 M7 Z (fL b1 6 Oi Z (lB 3 HS Z Jb Z (fJ fP Z (D7.calls HS (rD 4 r_c) h22) (fun _ wd25 ⟨A23,c24,h26,HS⟩=>⟨_,h26,(fL b1 5 M7 Z (fL b1 6 Oi Z (GO.H9 (j:=4) (vs:=[sV A23 t21 c24]) ([.string e1,I f1,sV A7 t5 c8,sV A16 t13 c17,I t14,I a1,sV A23 t21 c24,I c1,I d1,sV A_d i1 c_d,sV A_e h1 c_e,sV A_f g1 c_f]) HS Z Z Z Z Z (htN Jb Z) Z Z Z fun wd27 HS=>nL (sQ (rG (fL b1 7 Mc Z (aS Z (nL (sQ ?_)))))))))⟩)))))
  obtain ⟨t28,h29,H⟩:=bI H
  obtain ⟨t34,h35,H⟩:=bI H
  obtain ⟨t40,h41,H⟩:=bI H
  refine G.O7 mixed (fun w=>St w0 w (Box b1 62 [.string e1,I f1,sV A7 t5 c8,sV A16 t13 c17,I t14,I a1,sV A23 t21 c24,I c1,I d1,sV A_d i1 c_d,sV A_e h1 c_e,sV A_f g1 c_f]::L)) [6,11,16] [0,1,2,3,4,5,8,9,10,13,14,15,6,11,16,7,12,17,18,19,20,21,22,23,24,25,26] [20,23,26] (by kernel_rfl) (by kernel_rfl) (HS.drew.pk 5 [4] Z) ?_
  replace HS:=HS.drew
  refine GX.ps 4 Z (qL Z Z (fun _ _ g=>GO.jF Z Z Z g) Z (qL Z Z (fun _ _ g=>fL b1 9 Jp Z g) Z (GX.ps 1 Z (qL Z Z (fun _ _ g=>GO.jF Z Z Z g) Z (qL Z Z (fun _ _ g=>fL b1 10 Kb Z g) Z (GX.ps 1 Z (qL Z Z (fun _ _ g=>GO.jF Z Z Z g) Z (qL Z Z (fun _ _ g=>fL b1 11 M6 Z g) Z (GX.ls Z Z Z (HS.pk 5 [4] Z) (fun _ HS _ g=>lB 0 HS Z Om Z g) Z (GX.ls Z Z Z (HS.pk 5 [4] Z) (fun _ HS _ g=>lB 0 HS Z Jb Z g) Z (GX.ls Z Z Z (HS.pk 5 [4] Z) (fun _ HS _ g=>lB 0 HS Z Jb Z g) Z (GX.l2 Z (fJ yV Z (Eg.calls HS (rD 5 r_d) h29) (fun _ wd32 ⟨A30,c31,h33,HS⟩=>⟨_,h33,(GX.fin (HS.pk 6 [5] Z) ?_)⟩))))))))))))))
  refine GX.l2 Z (fJ fP Z (D7.calls HS (rD 6 r_e) h35) (fun _ wd38 ⟨A36,c37,h39,HS⟩=>⟨_,h39,(GX.fin (HS.pk 7 [6] Z) (GX.l2 Z (fJ fP Z (D7.calls HS (rD 7 r_f) h41) (fun _ wd44 ⟨A42,c43,h45,HS⟩=>⟨_,h45,(GX.fin (HS.pk 8 [7] Z) (qL Z Z (fun _ _ g=>GO.jF Z Z Z g) Z (qL Z Z (fun _ _ g=>fL b1 9 Jp Z g) Z (GX.l2 Z (GO.H9 (j:=7) (vs:=[sV A30 t28 c31]) ([.string e1,I f1,sV A7 t5 c8,sV A16 t13 c17,I t14,I a1,sV A23 t21 c24,I c1,I d1,sV A30 t28 c31,sV A_e h1 c_e,sV A_f g1 c_f]) HS Z Z Z Z Z (htN Om Z) Z Z Z fun wd46 HS=>GX.kX Z (qL Z Z (fun _ _ g=>GO.jF Z Z Z g) Z (qL Z Z (fun _ _ g=>fL b1 10 Kb Z g) Z (GX.l2 Z (GO.H9 (j:=7) (vs:=[sV A36 t34 c37]) ([.string e1,I f1,sV A7 t5 c8,sV A16 t13 c17,I t14,I a1,sV A23 t21 c24,I c1,I d1,sV A30 t28 c31,sV A36 t34 c37,sV A_f g1 c_f]) HS Z Z Z Z Z (htN Jb Z) Z Z Z fun wd47 HS=>?_)))))))))⟩))))⟩))
  refine GX.kX Z (qL Z Z (fun _ _ g=>GO.jF Z Z Z g) Z (qL Z Z (fun _ _ g=>fL b1 11 M6 Z g) Z (GX.l2 Z (GO.H9 (j:=7) (vs:=[sV A42 t40 c43]) ([.string e1,I f1,sV A7 t5 c8,sV A16 t13 c17,I t14,I a1,sV A23 t21 c24,I c1,I d1,sV A30 t28 c31,sV A36 t34 c37,sV A42 t40 c43]) HS Z Z Z Z Z (htN Jb Z) Z Z Z fun wd48 HS=>GX.kX Z (GX.nil (sQ (rG (lW 7 HS Z Mf (sW 6 HS Z Mf Z fun wd49 HS=>nL ?_)))))))))
  obtain ⟨rfl,rfl,rfl,rfl,rfl,rfl,rfl,rfl,rfl,rfl,rfl,rfl⟩:=fQ H
  exact rT _ func67 Z (Iq.Ji (j:=6) (vs:=[.string e1,I f1,sV A7 t5 c8,sV A16 t13 c17,I t14,I a1,sV A23 t21 c24,I c1,I d1,sV A30 t28 c31,sV A36 t34 c37,sV A42 t40 c43]) HS Z Z Z Mf) ⟨_,_,_,_,_,_,_,_,_,_,_,_,_,Z,(HS.pk 8 [5,4,3,2,1,0] Z)⟩
theorem Dn.calls {items:List Af} {y_a:Nat→Aa.Lay} {r1:List Af} (HS:St w0 w (L)) (r_a:Av w0 L Aa A_a c_a y_a items) (H:Dn.f K items=some r1) :
    Calls prog 66 #[sV A_a items c_a] w (Dn.post w0 L r1):=by
  unfold Dn.f at H
  refine cG func66 Z ?_
  refine rN 6 Z (rG (mV Z (lS Z Z U44 Z (mV Z (nL (rN 2 Z ?_))))))
  refine G.name (fun g1 d1=>?_)
  have e1:∀ b1,b1≤K→∀ (A43:Option Addr) (c44:Nat) (a1:List Af) (y46:Nat→Aa.Lay) (x47:Int) (w:World),Dn.l1 K b1 items a1 x47=some r1→St w0 w (Own Aa 62 A43 c44 y46 a1::L)→G prog 66 19 [(3,sV A43 a1 c44),(6,sV A_a items c_a),(7,I (items.length:Int)),(8,I x47)] g1 w (Dn.post w0 L r1):=by
   refine lp (fun _ _ _ _ _ w H _=>by rw [Dn.l1] at H; cases H) fun c1 h1 f1 A43 c44 a1 y46 x47 w H HS=>?_
   rw [Dn.l1] at H
   subst d1
   refine rN 3 Z ?_
   rcases iS H with ⟨c90,H⟩ | ⟨c90,H⟩
   ·
    refine nB Z (tF c90) (rN 3 Z ?_)
    obtain rfl:=sI H
    exact rT _ func66 Z Z ⟨_,_,_,Z,HS⟩
   refine yB Z (tT c90) (rN 4 Z ?_)
   obtain ⟨c91,H⟩:=iN H
   obtain ⟨e92,h93,H⟩:=Cr H
   refine rG (iX Z U44 J7 (rk (rD 1 r_a) HS) c91 (GO.J4 (T:=Aa) (n:=x47.toNat) HS (rD 1 r_a) Z Z (Ba (ltN c91) h93) Mf Z (GO.alloc HS Z fI Z Z fun b94 wd95 HS=>sW 0 HS Z Mf Z fun wd96 HS=>nL ?_)))
   obtain ⟨t97,t98,t99,t100,t101,t102,t103,t104,t105,t106,t107,t108,h109,H⟩:=M3 H
   obtain ⟨c130,H⟩:=iN H
   refine rG (mV Z (lW 0 HS Z Mf (fJ nQ Z (Im.calls HS (Av.fld (rD 2 r_a) (Ba (ltN c91) h93) (fun _ h=>h.2.2.1)) (Av.fld (rD 2 r_a) (Ba (ltN c91) h93) (fun _ h=>h.2.2.2.1)) (Av.fld (rD 2 r_a) (Ba (ltN c91) h93) (fun _ h=>h.2.2.2.2.2.2.1)) (Av.fld (rD 2 r_a) (Ba (ltN c91) h93) (fun _ h=>h.2.2.2.2.2.2.2.2.2.1)) (Av.fld (rD 2 r_a) (Ba (ltN c91) h93) (fun _ h=>h.2.2.2.2.2.2.2.2.2.2.1)) (Av.fld (rD 2 r_a) (Ba (ltN c91) h93) (fun _ h=>h.2.2.2.2.2.2.2.2.2.2.2)) h109) (fun _ wd123 ⟨A110,c111,y112,A113,c114,A115,c116,A117,c118,A119,c120,A121,c122,h124,HS⟩=>⟨_,h124,(GO.Gr (el:=62) ([.string t97,I t98,sV A110 t99 c111,sV A113 t100 c114,I t101,I t102,sV A115 t103 c116,I t104,I t105,sV A117 t106 c118,sV A119 t107 c120,sV A121 t108 c122]) HS Z Z (fun _=>by kernel_rfl) Z fun b125 wd126 HS=>?_)⟩))))
   replace HS:=HS.pk 9 [6,5,4,3,2,1,8,0,7] Z
   replace HS:=Np (Name:=t97) (Kind:=t98) (Al:=t101) (Ao:=t102) (Am:=t104) (Aj:=t105) HS
   replace HS:=HS.pk 4 [1,2,0,3] Z
   refine GO.jK (T:=Aa) ((),(),⟨A110,c111,y112⟩,⟨A113,c114,uu⟩,(),(),⟨A115,c116,uu⟩,(),(),⟨A117,c118,uu⟩,⟨A119,c120,uu⟩,⟨A121,c122,uu⟩) (⟨t97,t98,t99,t100,t101,t102,t103,t104,t105,t106,t107,t108⟩:Af) HS Z Z Z U44 T9 Z Z Z c130 Z fun A128 c129 y131 wd127 HS=>aS Z (nL (rN 3 Z (gW (f1 c1 (lR _) _ _ _ _ _ _ H (HS.pk 3 [0] Z)) Z)))
  replace HS:=HS.Da Aa 62 (fun _=>Bh)
  exact gW (e1 K (lR _) _ _ _ _ _ _ H HS) Z
theorem Dq.calls {s:List Af} {i:Int} {A:Option Addr} {c b:Nat} {ly:Nat→Aa.Lay} {y0:Af} {r1:List Af} (l:Aa.Lay) (HS:St w0 w (Own Aa 62 A c ly s::Box b 62 (Aa.cells l y0)::Elt Aa l y0::L)) (H:Dq.f s i y0=some r1) :
    Calls prog 68 #[.slice A s.length c,I i,.slice (some ⟨b,0,none⟩) 1 1] w (Dq.post w0 (Box b 62 (Aa.cells l y0)::L) r1):=by
  unfold Dq.f at H
  obtain ⟨c1,H⟩:=iN H
  obtain ⟨c2,H⟩:=iN H
  obtain rfl:=sI H
  obtain ⟨k,rfl⟩:∃ k:Nat,i=(k:Int):=⟨i.toNat,by omega⟩
  rw [Int.toNat_natCast]
  have hk:k≤s.length:=by omega
  have hle:s.length≤c:=((Av.own (j:=0) Z) _ HS).1
  have hb:s.length+1≤140737488355328:=by omega
  have hw1:IntKind.i64.wrap ((s.length:Int)+((1:Nat):Int))=((s.length+1:Nat):Int):=(Ip (by omega) (by omega)).trans (by omega)
  have hw3:IntKind.i64.wrap ((k:Int)+((1:Nat):Int))=((k+1:Nat):Int):=(Ip (by omega) (by omega)).trans (by omega)
  have hw2:IntKind.i64.wrap (((s.length+1:Nat):Int) - (k:Int))=((s.length+1 - k:Nat):Int):=(Ip (by omega) (by omega)).trans (by omega)
  refine cG func68 Z (sQ (rG (aS Z (nL (sQ (rG (pS 2 Z (GO.dU hle Z Z Z underlying44 J7 (by omega) (by omega) Z (nL (sQ (rG (mV Z (lS Z Z underlying44 Z (aS Z (nL (sQ (sQ (rG (pS 2 Z (nL ?_))))))))))))))))))))
  refine nB Z (tF (by decide)) (rN 2 Z ?_)
  refine rG (mV Z (lS Z Z underlying44 Z (aS Z (nL (sQ (sQ (rG (pS 3 Z (nL ?_)))))))))
  by_cases he:(k:Int)=(s.length:Int)
  · refine yB Z (tT he) (sQ (rG (pS 2 Z (GO.jK (T:=Aa) l y0 HS Z Z Z underlying44 T9 Z Z Z c2 Z fun A' c' ly' wd HS=>aS Z (nL ?_)))))
    have e:s.take k++y0::s.drop k=s++[y0]:=by rw [List.take_of_length_le (by omega),List.drop_of_length_le (by omega)]
    rw [e]
    exact rT _ func68 Z Z ⟨_,_,_,Z,HS⟩
  have hk2:k<s.length:=by omega
  refine nB Z (tF he) (rN 3 Z ?_)
  have HS1:=HS.Abu
  have hl:(hds Aa ly 0 s).length=s.length:=Po _ _
  obtain ⟨g0,o0,rfl⟩:=((Av.own (j:=0) Z) _ HS1).2.2.1 (by omega)
  generalize hH:hds Aa ly 0 s=Hd at HS1 hl
  have hr1:(s.take k++y0::s.drop k).length=s.length+1:=by rw [List.length_append,List.length_take,List.length_cons,List.length_drop]; omega
  refine rG (pS 4 Z (GO.Abk Z Z underlying44 Z (pS 1 Z (nL ?_))))
  by_cases hc:c<s.length+1
  · refine yB Z (tT (by rw [hw1]; omega)) (sQ (rG (pS 2 Z (GO.Aap Z Z Z underlying44 J7 (by omega) (by omega) Z (pS 5 Z ?_)))))
    refine GO.eqV 34 (.slice (some ⟨g0,o0,none⟩) k c) Z Z (GO.eqV 39 (I ((s.length+1 - k:Nat):Int)) Z (by rw [hw1,hw2]) ?_)
    have hkm:k+(s.length+1 - k)=s.length+1:=by omega
    refine GO.Abp (sz:=12) (j:=0) ⟨[.string ByteArray.empty,I 0,.slice none 0 0,.slice none 0 0,I 0,I 0,.slice none 0 0,I 0,I 0,.slice none 0 0,.slice none 0 0,.slice none 0 0],by decide,by decide⟩ HS1 Z (by omega) (by omega) Z Z Z (by omega) (by omega) underlying44 underlying3 T9 Z Z Z (by rw [hkm]; exact c2) Z fun A' c' wd HS=>GO.eqV 40 (.slice A' (s.length+1) c') Z (by rw [hkm]) (aS Z (nL (sQ (rG ?_))))
    have hl2:(Hd.take k++List.replicate (s.length+1 - k) (⟨[.string ByteArray.empty,I 0,.slice none 0 0,.slice none 0 0,I 0,I 0,.slice none 0 0,I 0,I 0,.slice none 0 0,.slice none 0 0,.slice none 0 0],by decide,by decide⟩:Raw 12)).length=s.length+1:=by rw [List.length_append,List.length_take,List.length_replicate]; omega
    have hle':s.length+1≤c':=by rw [← hl2]; exact ((Av.own (j:=0) Z) _ HS).1
    refine pS 2 Z (GO.dU hle' Z Z Z underlying44 J7 (by omega) (by omega) Z (pS 1 Z (GO.bP (T:=Nv 12) (j:=0) (l:=k) HS Z (Av.box (j:=3) (fun _=>()) [hd Aa l y0] Z (List.append_nil _) Z Z (fun _ _ _ _ _=>tv)) Bw Z Z Z underlying44 J7 Z (fun _=>xO (by omega)) (by rw [hl2,Int.toNat_natCast]; omega) (fun _ _=>Z) (fun _=>Z) fun wd HS=>nL (sQ ?_))))
    refine G.lex mixed [0,1,2,3,5,6,4,7,8] (by kernel_rfl) ?_
    replace HS:=HS.drew
    refine GX.ps 6 Z (GX.l1 Z Z Z (fun _ g=>GO.dU hle' Z Z Z underlying44 J7 (by rw [hw3]; omega) (by rw [hw3]; omega) Z g) Z (GX.l1 Z Z Z (fun _ g=>GO.dU hle Z Z Z underlying44 J7 (by omega) (by omega) Z g) Z (GX.l2 Z ?_)))
    refine GO.eqV 50 (.slice (Ja A' (k+1) c' 12) (s.length+1 - (k+1)) (c' - (k+1))) Z (by rw [hw3]; exact Z) (GO.eqV 53 (.slice (Ja (some ⟨g0,o0,none⟩) k c 12) ((Hd.take Hd.length).drop k).length (c - k)) Z (by rw [List.take_length,List.length_drop,hl]; exact Z) ?_)
    refine GO.bP (T:=Nv 12) (j:=0) (l:=k+1) HS Z (Av.cut (Av.own (j:=1) Z) (by omega) (lR _)) Bw Z Z Z underlying44 J7 Z (fun _=>xO (by omega)) (by rw [Ls (by rw [List.length_take,List.length_singleton,hl2]; omega),hl2]; omega) (fun _ _=>Z) (fun _=>Z) fun wd HS=>GX.fin tv (GX.nil (rN 2 Z ?_))
    replace HS:St w0 wd (Own (Nv 12) 62 A' c' (fun _=>()) (over (over (Hd.take k++List.replicate (s.length+1 - k) ⟨[.string ByteArray.empty,I 0,.slice none 0 0,.slice none 0 0,I 0,I 0,.slice none 0 0,I 0,I 0,.slice none 0 0,.slice none 0 0,.slice none 0 0],by decide,by decide⟩) k ([hd Aa l y0].take (s.length+1 - k))) (k+1) (((Hd.take Hd.length).drop k).take (s.length+1 - (k+1))))::Own (Nv 12) 62 (some ⟨g0,o0,none⟩) c (fun _=>()) Hd::Q7 Aa ly s::Box b 62 (Aa.cells l y0)::Elt Aa l y0::L):=HS
    rw [qG hl hk2,← hH] at HS
    have h9:=St.Aat (T:=Aa) (t:=62) (A:=A') (c:=c') (ly:=ly) (l:=l) (y0:=y0) (L:=Box b 62 (Aa.cells l y0)::L) (Nat.le_of_lt hk2) (HS.pk 5 [0,2,4,3] Z)
    refine G.eqV 6 (.slice A' (s.take k++y0::s.drop k).length c') Z (by rw [hr1]) ?_
    exact rT _ func68 Z Z ⟨_,_,_,Z,h9⟩
  refine nB Z (tF (by rw [hw1]; omega)) (rN 2 Z ?_)
  have hc':s.length+1≤c:=by omega
  refine rG (pS 4 Z (GO.Aap Z Z Z underlying44 J7 (by rw [hw1]; omega) (by rw [hw1]; omega) Z (aS Z (nL ?_))))
  refine G.eqV 0 (.slice (some ⟨g0,o0,none⟩) (s.length+1) c) Z (by rw [hw1]; exact Z) (sQ (sQ (rG (pS 5 Z ?_))))
  refine GO.dU hc' Z Z Z underlying44 J7 (by rw [hw3]; omega) (by rw [hw3]; omega) Z (GO.eqV 66 (.slice (Ja (some ⟨g0,o0,none⟩) (k+1) c 12) (s.length+1 - (k+1)) (c - (k+1))) Z (by rw [hw3]; exact Z) ?_)
  refine GO.ovl (tS:=44) (tR:=4) HS1 (by omega) Z Z func126 (by kernel_rfl) (by kernel_rfl) (by kernel_rfl) (by kernel_rfl) underlying44 J7 Z Z Z (pS 1 Z (nL (yB Z Z (sQ ?_))))
  refine G.lex mixed [0,1,2,3,5,6,4,7,8] (by kernel_rfl) ?_
  replace HS1:=HS1.drew
  refine GX.ps 6 Z (GX.l1 Z Z Z (fun _ g=>GO.dU hc' Z Z Z underlying44 J7 (by rw [hw3]; omega) (by rw [hw3]; omega) Z g) Z (GX.l1 Z Z Z (fun _ g=>GO.dU hc' Z Z Z underlying44 J7 (by omega) (by omega) Z g) Z (GX.l2 Z ?_)))
  refine GO.eqV 73 (.slice (Ja (some ⟨g0,o0,none⟩) (k+1) c 12) (s.length+1 - (k+1)) (c - (k+1))) Z (by rw [hw3]; exact Z) ?_
  refine GO.wC (j:=0) (k:=k) HS1 Z Z Z Z underlying44 J7 (by omega) (by omega) (by rw [Int.toNat_natCast]; omega) (by omega) Z fun wd HS=>GX.fin tv (GX.nil (sQ (rG ?_)))
  refine pS 2 Z (GO.dU hc' Z Z Z underlying44 J7 (by omega) (by omega) Z (pS 1 Z (GO.bP (T:=Nv 12) (j:=0) (l:=k) HS Z (Av.box (j:=2) (fun _=>()) [hd Aa l y0] Z (List.append_nil _) Z Z (fun _ _ _ _ _=>tv)) Bw Z Z Z underlying44 J7 Z (fun _=>xO (by omega)) (by rw [List.length_append,List.length_take,List.length_drop,Int.toNat_natCast]; omega) (fun _ _=>Z) (fun _=>Z) fun wd HS=>nL (rN 2 Z ?_))))
  replace HS:St w0 wd (Own (Nv 12) 62 (some ⟨g0,o0,none⟩) c (fun _=>()) (over (Hd.take (k+1)++Hd.drop k) k ([hd Aa l y0].take (s.length+1 - k)))::Q7 Aa ly s::Box b 62 (Aa.cells l y0)::Elt Aa l y0::L):=HS
  rw [yM hl hk2,← hH] at HS
  have h9:=St.Aat (T:=Aa) (t:=62) (A:=some ⟨g0,o0,none⟩) (c:=c) (ly:=ly) (l:=l) (y0:=y0) (L:=Box b 62 (Aa.cells l y0)::L) (Nat.le_of_lt hk2) (HS.pk 4 [0,1,3,2] Z)
  refine G.eqV 6 (.slice (some ⟨g0,o0,none⟩) (s.take k++y0::s.drop k).length c) Z (by rw [hr1]) ?_
  exact rT _ func68 Z Z ⟨_,_,_,Z,h9⟩
theorem E9.calls {lists:List (List Af)} {y_a:Nat→(Ty.slice 62 Aa).Lay} {r1:List (List Af)} (HS:St w0 w (L)) (r_a:Av w0 L (Ty.slice 62 Aa) A_a c_a y_a lists) (H:E9.f K lists=some r1) :
    Calls prog 128 #[sV A_a lists c_a] w (E9.post w0 L r1):=by
  unfold E9.f at H
  refine cG func128 Z ?_
  refine rN 6 Z (rG (mV Z (lS Z Z U45 Z (mV Z (nL (rN 2 Z ?_))))))
  refine G.name (fun f1 d1=>?_)
  have e1:∀ b1,b1≤K→∀ (A17:Option Addr) (c18:Nat) (a1:List (List Af)) (y20:Nat→(Ty.slice 62 Aa).Lay) (x21:Int) (w:World),E9.l1 K b1 lists a1 x21=some r1→St w0 w (Own (Ty.slice 62 Aa) 44 A17 c18 y20 a1::L)→G prog 128 19 [(3,sV A17 a1 c18),(6,sV A_a lists c_a),(7,I (lists.length:Int)),(8,I x21)] f1 w (E9.post w0 L r1):=by
   refine lp (fun _ _ _ _ _ w H _=>by rw [E9.l1] at H; cases H) fun c1 h1 g1 A17 c18 a1 y20 x21 w H HS=>?_
   rw [E9.l1] at H
   subst d1
   refine rN 3 Z ?_
   rcases iS H with ⟨c38,H⟩ | ⟨c38,H⟩
   ·
    refine nB Z (tF c38) (rN 3 Z ?_)
    obtain rfl:=sI H
    exact rT _ func128 Z Z ⟨_,_,_,Z,HS⟩
   refine yB Z (tT c38) (rN 4 Z ?_)
   obtain ⟨c39,H⟩:=iN H
   refine rG (iX Z U45 Sm (rk (rD 1 r_a) HS) c39 (GO.Gb (T:=(Ty.slice 62 Aa)) (n:=x21.toNat) (o:=0) HS (rD 1 r_a) Z Z (getD_some (d:=[]) (ltN c39)) Z Z Mr Z (aS Z (nL ?_))))
   obtain ⟨t40,h41,H⟩:=bI H
   obtain ⟨c52,H⟩:=iN H
   refine rG (pS 2 Z (fJ iI Z (Dn.calls HS (Av.elem (rD 1 r_a) c39.1 c39.2) h41) (fun _ wd45 ⟨A42,c43,y44,h46,HS⟩=>⟨_,h46,(GO.Gr (el:=44) ([sV A42 t40 c43]) HS Z Z (fun _=>by kernel_rfl) Z fun b47 wd48 HS=>?_)⟩)))
   replace HS:=HS.pk 3 [2,0,1] Z
   refine GO.dW (S:=Aa) (u:=62) HS Z Z Z U45 dS Z Z c52 Z fun A50 c51 y53 wd49 HS=>aS Z (nL (rN 3 Z (gW (g1 c1 (lR _) _ _ _ _ _ _ H (HS.pk 2 [0] Z)) Z)))
  replace HS:=HS.Da (Ty.slice 62 Aa) 44 (fun _=>⟨none,0,(fun _=>Bh)⟩)
  exact gW (e1 K (lR _) _ _ _ _ _ _ H HS) Z
theorem Gu.calls {d1:List Af} {c1 a1:List (List Af)} {y_a:Nat→Aa.Lay} {y_b:Nat→(Ty.slice 62 Aa).Lay} {y_c:Nat→(Ty.slice 62 Aa).Lay} {r1:List Af} {r2 r3:List (List Af)} (HS:St w0 w (L)) (r_a:Av w0 L Aa A_a c_a y_a d1) (r_b:Av w0 L (Ty.slice 62 Aa) A_b c_b y_b c1) (r_c:Av w0 L (Ty.slice 62 Aa) A_c c_c y_c a1) (H:Gu.f K d1 c1 a1=some (r1,r2,r3)) :
    Calls prog 70 #[.agg [sV A_a d1 c_a,sV A_b c1 c_b,sV A_c a1 c_c].toArray] w (Gu.post w0 L r1 r2 r3):=by
  unfold Gu.f at H
  refine cG func70 Z ?_
  refine sQ (rG (bA HS Z fun b1 wd2 HS=>GO.alloc HS Z Rs Z Z fun b3 wd4 HS=>nL (sQ ?_)))
  obtain ⟨t5,h6,H⟩:=bI H
  obtain ⟨t12,h13,H⟩:=bI H
  obtain ⟨t19,h20,H⟩:=bI H
  refine G.O7 mixed (fun w=>St w0 w (Box b1 47 [sV A_a d1 c_a,sV A_b c1 c_b,sV A_c a1 c_c]::L)) [1,4,7] [0,3,6,1,4,7,2,5,8,9,10] [] (by kernel_rfl) (by kernel_rfl) (HS.drew.pk 2 [1] Z) ?_
  replace HS:=HS.drew
  refine qL Z Z (fun _ _ g=>fL b1 0 Ju Z g) Z (qL Z Z (fun _ _ g=>fL b1 1 Mq Z g) Z (qL Z Z (fun _ _ g=>fL b1 2 O6 Z g) Z (GX.ls Z Z Z (HS.pk 2 [1] Z) (fun _ HS _ g=>lB 0 HS Z Mr Z g) Z (GX.ls Z Z Z (HS.pk 2 [1] Z) (fun _ HS _ g=>lB 0 HS Z Nr Z g) Z (GX.ls Z Z Z (HS.pk 2 [1] Z) (fun _ HS _ g=>lB 0 HS Z Nr Z g) Z (GX.l2 Z (fJ iI Z (Dn.calls HS (rD 2 r_a) h6) (fun _ wd10 ⟨A7,c8,y9,h11,HS⟩=>⟨_,h11,(GX.fin (HS.pk 3 [2] Z) (GX.l2 Z (fJ kQ Z (E9.calls HS (rD 3 r_b) h13) (fun _ wd17 ⟨A14,c15,y16,h18,HS⟩=>⟨_,h18,(GX.fin (HS.pk 4 [3] Z) (GX.l2 Z (fJ kQ Z (E9.calls HS (rD 4 r_c) h20) (fun _ wd24 ⟨A21,c22,y23,h25,HS⟩=>⟨_,h25,(GX.fin (HS.pk 5 [4] Z) ?_)⟩))))⟩))))⟩))))))))
  refine qL Z Z (fun _ _ g=>GO.Gj (.agg [sV A7 t5 c8,sV A14 t12 c15,sV A21 t19 c22].toArray) Z Z (fun _=>by kernel_rfl) Z g) Z (GX.l2 Z (sW 3 HS Z Eu Z fun wd26 HS=>GX.fin (HS.pk 5 [4] Z) (GX.nil ?_)))
  obtain ⟨rfl,rfl,rfl⟩:=Rb H
  exact rT _ func70 Z (Iq.Ji (j:=3) (vs:=[sV A7 t5 c8,sV A14 t12 c15,sV A21 t19 c22]) HS Z Z Z Eu) ⟨_,_,_,_,_,_,_,_,_,Z,(HS.pk 5 [2,1,0] Z)⟩
theorem Lj.calls {lists:List (List Af)} {items:List Af} {y_a:Nat→(Ty.slice 62 Aa).Lay} {y_b:Nat→Aa.Lay} {r1:List (List Af)} (HS:St w0 w (Own (Ty.slice 62 Aa) 44 A_a c_a y_a lists::Own Aa 62 A_b c_b y_b items::L)) (H:Lj.f lists items=some r1) :
    Calls prog 72 #[sV A_a lists c_a,sV A_b items c_b] w (Lj.post w0 L r1):=by
  unfold Lj.f at H
  refine cG func72 Z ?_
  refine rN 3 Z ?_
  obtain ⟨c6,H⟩:=iN H
  refine rG (pS 2 Z (GO.Gr (el:=44) ([sV A_b items c_b]) HS Z Z (fun _=>by kernel_rfl) Z fun b1 wd2 HS=>?_))
  replace HS:=HS.pk 3 [1,0,2] Z
  refine GO.dW (S:=Aa) (u:=62) HS Z Z Z U45 dS Z Z c6 Z fun A4 c5 y7 wd3 HS=>aS Z (nL (sQ ?_))
  obtain ⟨c8,H⟩:=iN H
  refine rG (pS 2 Z (lS Z Z U45 Z (GO.sub Z Z Z Z (GO.max2 Z Z Z Z (GO.slL (T:=(Ty.slice 62 Aa)) HS (ro 0 Z) Z Z Z U45 Sm c8.1 c8.2 Z (aS Z (nL ?_)))))))
  replace HS:=HS.Xl (A':=(Ja A4 ((if w64 (((lists++[items]).length:Int) - 6) > 0 then w64 (((lists++[items]).length:Int) - 6) else 0).toNat) c5 1)) (c':=(c5 - (if w64 (((lists++[items]).length:Int) - 6) > 0 then w64 (((lists++[items]).length:Int) - 6) else 0).toNat)) (j:=0) (l:=(if w64 (((lists++[items]).length:Int) - 6) > 0 then w64 (((lists++[items]).length:Int) - 6) else 0).toNat) (h:=(lists++[items]).length) (m:=c5) Z (leN c8) (lR _) (Nat.le_trans (lR _) ((ro 0 Z) _ HS).1) (lR _) Z Z
  obtain rfl:=sI H
  exact rT _ func72 Z Z ⟨_,_,_,Z,(HS.pk 2 [0] Z)⟩
theorem J6.calls {d1:List Af} {c1 a1:List (List Af)} {items:List Af} {y_a:Nat→Aa.Lay} {y_b:Nat→(Ty.slice 62 Aa).Lay} {y_c:Nat→(Ty.slice 62 Aa).Lay} {y_d:Nat→Aa.Lay} {r1 r2:List (List Af)} (HS:St w0 w (Own Aa 62 A_a c_a y_a d1::Own (Ty.slice 62 Aa) 44 A_b c_b y_b c1::L)) (r_c:Av w0 L (Ty.slice 62 Aa) A_c c_c y_c a1) (r_d:Av w0 L Aa A_d c_d y_d items) (H:J6.f d1 c1 a1 items=some (r1,r2)) :
    Calls prog 69 #[.agg [sV A_a d1 c_a,sV A_b c1 c_b,sV A_c a1 c_c].toArray,sV A_d items c_d] w (J6.post w0 L items A_d c_d r1 r2):=by
  unfold J6.f at H
  refine cG func69 Z ?_
  refine sQ (rG (bA HS Z fun b1 wd2 HS=>GO.alloc HS Z Rs Z Z fun b3 wd4 HS=>nL (sQ ?_)))
  obtain ⟨t5,h6,H⟩:=bI H
  refine rG (mV Z (fL b1 1 Mq Z (lB 1 HS Z Nr Z (fL b1 0 Ju Z (lB 1 HS Z Mr Z ?_)))))
  replace HS:=HS.pk 4 [3,2,0,1] Z
  refine fJ sZ Z (Lj.calls HS  h6) (fun _ wd10 ⟨A7,c8,y9,h11,HS⟩=>⟨_,h11,(GO.Gj (.agg [sV A_d items c_d,sV A7 t5 c8,.slice none 0 0].toArray) Z Z (fun _=>by kernel_rfl) Z (sW 1 HS Z Eu Z fun wd12 HS=>nL ?_))⟩)
  replace HS:=HS.Da (Ty.slice 62 Aa) 44 (fun _=>⟨none,0,(fun _=>Bh)⟩)
  obtain ⟨rfl,rfl⟩:=Nq H
  exact rT _ func69 Z (Iq.Ji (j:=2) (vs:=[sV A_d items c_d,sV A7 t5 c8,.slice none 0 0]) HS Z Z Z Eu) ⟨_,_,_,_,_,_,Z,(HS.pk 4 [1,0] Z)⟩
theorem C9.calls {d1:List Af} {a1 c1:List (List Af)} {p1:ByteArray} {q1:Int} {i1:List (List Br)} {g1:List Ah} {o1 n1:Int} {e1:List Int} {s1 t1:Int} {k1:List Cc} {m1 h1:List Int} {y_a:Nat→Aa.Lay} {y_b:Nat→(Ty.slice 62 Aa).Lay} {y_c:Nat→(Ty.slice 62 Aa).Lay} {y_d:Nat→(Ty.slice 168 Az).Lay} {r1:List Af} {r2 r3:List (List Af)} {r4:Int} (HS:St w0 w (L)) (r_a:Av w0 L Aa A_a c_a y_a d1) (r_b:Av w0 L (Ty.slice 62 Aa) A_b c_b y_b a1) (r_c:Av w0 L (Ty.slice 62 Aa) A_c c_c y_c c1) (r_d:Av w0 L (Ty.slice 168 Az) A_d c_d y_d i1) (r_e:Av w0 L Au A_e c_e uu g1) (r_f:Av w0 L (Bi .i64) A_f c_f uu e1) (r_g:Av w0 L Ci A_g c_g uu k1) (r_h:Av w0 L (Bi .i64) A_h c_h uu m1) (r_i:Av w0 L (Bi .i64) A_i c_i uu h1) (H:C9.f K d1 a1 c1 p1 q1 i1 g1 o1 n1 e1 s1 t1 k1 m1 h1=some (r1,r2,r3,r4)) :
    Calls prog 29 #[.agg [sV A_a d1 c_a,sV A_b a1 c_b,sV A_c c1 c_c].toArray,.agg [.string p1,I q1,sV A_d i1 c_d,sV A_e g1 c_e,I o1,I n1,sV A_f e1 c_f,I s1,I t1,sV A_g k1 c_g,sV A_h m1 c_h,sV A_i h1 c_i].toArray] w (C9.post w0 L r1 r2 r3 r4):=by
  unfold C9.f at H
  refine cG func29 Z ?_
  refine sQ (rG (bA HS Z fun b1 wd2 HS=>bA HS Z fun b3 wd4 HS=>GO.alloc HS Z Rs Z Z fun b5 wd6 HS=>aS Z (nL (sQ ?_))))
  obtain ⟨t7,t8,h9,H⟩:=Dt H
  refine rG (fL b1 0 Ju Z (lB 2 HS Z Mr Z (fL b3 0 Jz Z (lB 1 HS Z na9 Z (fJ tN Z (Kw.calls HS (rD 3 r_a) h9) (fun _ wd10 ⟨h11,HS⟩=>⟨_,h11,(pS 5 Z (nL (rN 3 Z ?_)))⟩))))))
  obtain ⟨t21,h22,H⟩:=bI H
  rcases iS H with ⟨c25,H⟩ | ⟨c25,H⟩
  ·
   refine rG (lW 2 HS Z Eu (fJ Y9 Z (Dk.calls HS (rD 3 r_a) (rD 3 r_b) (rD 3 r_c) h22) (fun _ wd23 ⟨h24,HS⟩=>⟨_,h24,(pS 2 Z (kN 21 Z (congrArg Bool.not (Bt c25)) (oF Z (oF Z (oF Z (pS 2 Z (nL (rN 2 Z (rG (GO.Gj (.agg [.slice none 0 0,.slice none 0 0,.slice none 0 0].toArray) Z Z (fun _=>by kernel_rfl) Z (sW 0 HS Z Eu Z fun wd214 HS=>aS Z ?_)))))))))))⟩)))
   refine nL ?_
   replace HS:=HS.Da Aa 62 (fun _=>Bh)
   replace HS:=HS.Da (Ty.slice 62 Aa) 44 (fun _=>⟨none,0,(fun _=>Bh)⟩)
   replace HS:=HS.Da (Ty.slice 62 Aa) 44 (fun _=>⟨none,0,(fun _=>Bh)⟩)
   obtain ⟨rfl,rfl,rfl,rfl⟩:=Kc H
   exact G.Lb _ _ func29 Z (Iq.Ji (j:=3) (vs:=[.slice none 0 0,.slice none 0 0,.slice none 0 0]) HS Z Z Z Eu) Z ⟨_,_,_,_,_,_,_,_,_,Z,(HS.pk 6 [2,1,0] Z)⟩
  obtain ⟨t26,h27,H⟩:=bI H
  refine rG (lW 2 HS Z Eu (fJ Y9 Z (Dk.calls HS (rD 3 r_a) (rD 3 r_b) (rD 3 r_c) h22) (fun _ wd23 ⟨h24,HS⟩=>⟨_,h24,(pS 2 Z (kN 21 Z (congrArg Bool.not c25) (oN Z (lW 1 HS Z Mf (bK (oN Z (fJ Zt Z (Ic.calls HS (rD 3 r_d) (rD 3 r_e) (rD 3 r_f) (rD 3 r_g) (rD 3 r_h) (rD 3 r_i) h27) (fun _ wd28 ⟨h29,HS⟩=>⟨_,h29,(bK (oN Z (GO.not Z Z Z (bK (pS 2 Z ?_)))))⟩))))))))⟩)))
  refine nL ?_
  rcases iS H with ⟨c30,H⟩ | ⟨c30,H⟩
  ·
   refine yB Z (congrArg Bool.not (Bt c30)) (sQ (rG (GO.Gj (.agg [.slice none 0 0,.slice none 0 0,.slice none 0 0].toArray) Z Z (fun _=>by kernel_rfl) Z (sW 0 HS Z Eu Z fun wd213 HS=>aS Z (nL ?_)))))
   replace HS:=HS.Da Aa 62 (fun _=>Bh)
   replace HS:=HS.Da (Ty.slice 62 Aa) 44 (fun _=>⟨none,0,(fun _=>Bh)⟩)
   replace HS:=HS.Da (Ty.slice 62 Aa) 44 (fun _=>⟨none,0,(fun _=>Bh)⟩)
   obtain ⟨rfl,rfl,rfl,rfl⟩:=Kc H
   exact G.Lb _ _ func29 Z (Iq.Ji (j:=3) (vs:=[.slice none 0 0,.slice none 0 0,.slice none 0 0]) HS Z Z Z Eu) Z ⟨_,_,_,_,_,_,_,_,_,Z,(HS.pk 6 [2,1,0] Z)⟩
  refine nB Z (congrArg Bool.not c30) (sQ ?_)
  refine G.Qj (fun a2 c2=>?_)
  have z1:∀ x1,x1≤K→∀ (x33:Bool) (w:World),C9.j1 K x1 d1 a1 c1 p1 q1 i1 g1 o1 n1 e1 s1 t1 k1 m1 h1 t7 t8 x33=some (r1,r2,r3,r4)→St w0 w (Box b1 47 [sV A_a d1 c_a,sV A_b a1 c_b,sV A_c c1 c_c]::Box b3 62 [.string p1,I q1,sV A_d i1 c_d,sV A_e g1 c_e,I o1,I n1,sV A_f e1 c_f,I s1,I t1,sV A_g k1 c_g,sV A_h m1 c_h,sV A_i h1 c_i]::Box b5 47 [.slice none 0 0,.slice none 0 0,.slice none 0 0]::L)→G prog 29 56 [(2,pT b1),(3,pT b3),(4,pT b5),(6,I t7),(7,.bool t8),(27,.bool x33)] a2 w (C9.post w0 L r1 r2 r3 r4):=by
   refine jp (fun _ w H _=>by rw [C9.j1] at H; cases H) fun u1 f2 x33 w H HS=>?_
   rw [C9.j1] at H
   subst c2
   rcases iE H with ⟨c34,H⟩ | ⟨c34,H⟩
   ·
    refine yB Z c34 (sQ (rG (GO.Gj (.agg [.slice none 0 0,.slice none 0 0,.slice none 0 0].toArray) Z Z (fun _=>by kernel_rfl) Z (sW 2 HS Z Eu Z fun wd35 HS=>aS Z (nL ?_)))))
    replace HS:=HS.Da Aa 62 (fun _=>Bh)
    replace HS:=HS.Da (Ty.slice 62 Aa) 44 (fun _=>⟨none,0,(fun _=>Bh)⟩)
    replace HS:=HS.Da (Ty.slice 62 Aa) 44 (fun _=>⟨none,0,(fun _=>Bh)⟩)
    obtain ⟨rfl,rfl,rfl,rfl⟩:=Kc H
    exact G.Lb _ _ func29 Z (Iq.Ji (j:=5) (vs:=[.slice none 0 0,.slice none 0 0,.slice none 0 0]) HS Z Z Z Eu) Z ⟨_,_,_,_,_,_,_,_,_,Z,(HS.pk 6 [2,1,0] Z)⟩
   refine nB Z (Bt c34) (rN 3 Z ?_)
   obtain ⟨t36,h37,H⟩:=bI H
   refine rG (fL b1 0 Ju Z (lB 0 HS Z Mr Z (fJ iI Z (Dn.calls HS (rD 3 r_a) h37) (fun _ wd41 ⟨A38,c39,y40,h42,HS⟩=>⟨_,h42,(aS Z (nL (rN 3 Z ?_)))⟩))))
   refine G.Qj (fun d2 b2=>?_)
   have v1:∀ y1,y1≤u1→∀ (A112:Option Addr) (c113:Nat) (f1:List Af) (y115:Nat→Aa.Lay) (w:World),C9.j2 K y1 d1 a1 c1 f1=some (r1,r2,r3,r4)→St w0 w (Box b1 47 [sV A_a d1 c_a,sV A_b a1 c_b,sV A_c c1 c_c]::Box b5 47 [.slice none 0 0,.slice none 0 0,.slice none 0 0]::Own Aa 62 A112 c113 y115 f1::L)→G prog 29 56 [(2,pT b1),(4,pT b5),(8,sV A112 f1 c113)] d2 w (C9.post w0 L r1 r2 r3 r4):=by
    refine jp (fun _ _ _ _ w H _=>by rw [C9.j2] at H; cases H) fun e2 g2 A112 c113 f1 y115 w H HS=>?_
    rw [C9.j2] at H
    subst b2
    refine sQ ?_
    obtain ⟨t116,t117,t118,h119,H⟩:=M5 H
    obtain ⟨t131,t132,h133,H⟩:=Dt H
    refine rG (lW 0 HS Z Eu (fJ lH Z (Gu.calls HS (rD 3 r_a) (rD 3 r_b) (rD 3 r_c) h119) (fun _ wd129 ⟨A120,c121,y122,A123,c124,y125,A126,c127,y128,h130,HS⟩=>⟨_,h130,(mV Z ?_)⟩)))
    replace HS:=HS.pk 6 [0,1,2,3,4,5] Z
    refine fJ tX Z (J6.calls HS (ro 0 Z) (ro 3 Z) h133) (fun _ wd140 ⟨A134,c135,y136,A137,c138,y139,h141,HS⟩=>⟨_,h141,(sW 4 HS Z Eu Z fun wd142 HS=>aS Z (nL ?_))⟩)
    obtain ⟨rfl,rfl,rfl,rfl⟩:=Kc H
    exact G.Lb _ _ func29 Z (Iq.Ji (j:=4) (vs:=[sV A112 f1 c113,sV A134 t131 c135,sV A137 t132 c138]) HS Z Z Z Eu) Z ⟨_,_,_,_,_,_,_,_,_,Z,(HS.pk 6 [5,0,1] Z)⟩
   rcases iE H with ⟨c143,H⟩ | ⟨c143,H⟩
   ·
    refine yB Z c143 ?_
    obtain ⟨t144,t145,t146,t147,t148,t149,t150,t151,t152,t153,t154,t155,h156,H⟩:=M3 H
    obtain ⟨c172,H⟩:=iN H
    refine rG (pS 2 Z (lW 2 HS Z Mf (fJ nQ Z (Im.calls HS (rD 4 r_d) (rD 4 r_e) (rD 4 r_f) (rD 4 r_g) (rD 4 r_h) (rD 4 r_i) h156) (fun _ wd170 ⟨A157,c158,y159,A160,c161,A162,c163,A164,c165,A166,c167,A168,c169,h171,HS⟩=>⟨_,h171,(iX Z U44 J7 (rk (ro 6 Z) HS) c172 ?_)⟩))))
    replace HS:=HS.pk 10 [5,4,3,2,1,0,6,7,8,9] Z
    replace HS:=Np (Name:=t144) (Kind:=t145) (Al:=t148) (Ao:=t149) (Am:=t151) (Aj:=t152) HS
    replace HS:=HS.pk 5 [1,0,2,3,4] Z
    refine GO.stE (T:=Aa) (n:=t7.toNat) ((),(),⟨A157,c158,y159⟩,⟨A160,c161,uu⟩,(),(),⟨A162,c163,uu⟩,(),(),⟨A164,c165,uu⟩,⟨A166,c167,uu⟩,⟨A168,c169,uu⟩) (⟨t144,t145,t146,t147,t148,t149,t150,t151,t152,t153,t154,t155⟩:Af) HS Z Z Z Z (htA Mf) Z (ltN c172) fun y174 wd173 HS=>nL (G.len (t:=8) (m:=(t36.set t7.toNat (⟨t144,t145,t146,t147,t148,t149,t150,t151,t152,t153,t154,t155⟩:Af)).length) Z (by simp only [List.length_set] <;> rfl) (gW (v1 u1 (lR _) _ _ _ _ _ H (HS.pk 4 [1,3,0] Z)) Z))
   refine nB Z (Bt c143) ?_
   obtain ⟨t175,t176,t177,t178,t179,t180,t181,t182,t183,t184,t185,t186,h187,H⟩:=M3 H
   obtain ⟨t208,h209,H⟩:=bI H
   refine rG (pS 2 Z (lW 2 HS Z Mf (fJ nQ Z (Im.calls HS (rD 4 r_d) (rD 4 r_e) (rD 4 r_f) (rD 4 r_g) (rD 4 r_h) (rD 4 r_i) h187) (fun _ wd201 ⟨A188,c189,y190,A191,c192,A193,c194,A195,c196,A197,c198,A199,c200,h202,HS⟩=>⟨_,h202,(GO.Gr (el:=62) ([.string t175,I t176,sV A188 t177 c189,sV A191 t178 c192,I t179,I t180,sV A193 t181 c194,I t182,I t183,sV A195 t184 c196,sV A197 t185 c198,sV A199 t186 c200]) HS Z Z (fun _=>by kernel_rfl) Z fun b203 wd204 HS=>?_)⟩))))
   replace HS:=HS.pk 11 [6,5,4,3,2,1,7,0,8,9,10] Z
   replace HS:=Np (Name:=t175) (Kind:=t176) (Al:=t179) (Ao:=t180) (Am:=t182) (Aj:=t183) HS
   replace HS:=HS.pk 6 [1,2,0,3,4,5] Z
   refine fJ AaX Z (Dq.calls ((),(),⟨A188,c189,y190⟩,⟨A191,c192,uu⟩,(),(),⟨A193,c194,uu⟩,(),(),⟨A195,c196,uu⟩,⟨A197,c198,uu⟩,⟨A199,c200,uu⟩) HS h209) (fun _ wd211 ⟨A205,c206,y207,h210,HS⟩=>⟨_,h210,(aS Z (nL (gW (v1 u1 (lR _) _ _ _ _ _ H (HS.pk 5 [2,4,0] Z)) Z)))⟩)
  rcases iS H with ⟨c212,H⟩ | ⟨c212,H⟩
  ·
   refine rG (fL b1 0 Ju Z (lB 2 HS Z Mr Z (lS Z Z U44 Z (pS 2 Z (kN 32 Z (tF c212) (oF Z (oF Z (pS 2 Z (nL (gW (z1 K (lR _) _ _ H (HS.pk 3 [2,1,0] Z)) Z))))))))))
  refine rG (fL b1 0 Ju Z (lB 2 HS Z Mr Z (lS Z Z U44 Z (pS 2 Z (kN 32 Z (tT c212) (oN Z (mV Z (bK (oN Z (GO.not Z Z Z (bK (pS 2 Z (nL (gW (z1 K (lR _) _ _ H (HS.pk 3 [2,1,0] Z)) Z))))))))))))))
theorem Dr.calls {s:List Af} {i j_:Int} {y_a:Nat→Aa.Lay} {r1:List Af} (HS:St w0 w (Own Aa 62 A_a c_a y_a s::L)) (H:Dr.f s i j_=some r1) :
    Calls prog 71 #[sV A_a s c_a,I i,I j_] w (Dr.post w0 L r1):=by
  unfold Dr.f at H
  refine cG func71 Z ?_
  refine rN 3 Z ?_
  obtain ⟨c1,H⟩:=iN H
  obtain ⟨c2,H⟩:=iN H
  refine rG (pS 4 Z (lS Z Z U44 Z (GO.slM Z Z Z Z Z U44 J7 c1 c2 (Int.ofNat_le.2 ((ro 0 Z) _ HS).1) Z (nL (rN 3 Z ?_)))))
  rcases iE H with ⟨c3,H⟩ | ⟨c3,H⟩
  ·
   refine yB Z (tT c3) (rN 2 Z ?_)
   obtain rfl:=sI H
   exact rT _ func71 Z Z ⟨_,_,_,Z,HS⟩
  refine nB Z (tF c3) (rN 2 Z (rG (mV Z (lS Z Z U44 Z (aS Z (nL (sQ ?_)))))))
  obtain ⟨c4,H⟩:=iN H
  obtain ⟨c5,H⟩:=iN H
  obtain ⟨c7,H⟩:=iN H
  have h8:=Tx (xs:=allRows s.length) c7 (Nat.le_trans (leN c5) (Nat.le_of_eq (I6 _).symm))
  refine G.lex mixed [0,1,3,4,2,5,6,7] (by kernel_rfl) ?_
  replace HS:=HS.drew
  refine GX.ps 4 Z (GX.l1 Z Z Z (fun _ g=>GO.slH (T:=Aa) HS (ro 0 Z) Z Z Z U44 J7 c4.1 c4.2 Z g) Z (GX.l1 Z Z Z (fun _ g=>GO.slL (T:=Aa) HS (ro 0 Z) Z Z Z U44 J7 c5.1 c5.2 Z g) Z (GX.l2 Z ?_)))
  replace HS:=HS.mQ Bj Bh
  refine GO.fH (T:=(TIx Aa y_a s Bj Bh)) (j:=0) (i1:=i.toNat) (l1:=j_.toNat) HS Z Bw (fun _ _=>Z) Z Z Z (by rw [List.drop_zero,List.length_take]; exact Nat.min_eq_left (leN c4)) (by rw [List.length_drop,List.take_length,I6]) U44 T9 c7 (Nat.le_trans (leN c5) (Nat.le_of_eq (I6 _).symm)) Z fun wd6 HS=>GX.fin tv (GX.ps 1 Z (GX.nil (sQ ?_)))
  obtain ⟨c9,H⟩:=iN H
  obtain ⟨c10,H⟩:=iN H
  have h12:=Y0 (xs:=(over (allRows s.length) i.toNat ((allRows s.length).drop j_.toNat))) (z:=none) (iW (qX c9) (leN c10))
  refine rG (pS 2 Z (lS Z Z U44 Z (mV Z (GO.uT (T:=(TIx Aa y_a s Bj Bh)) (xs:=(over (allRows s.length) i.toNat ((allRows s.length).drop j_.toNat))) ((ro 0 Z) _ HS).1 Z Z Z Z U44 J7 c9 c10 Z (GO.kK (T:=(TIx Aa y_a s Bj Bh)) (j:=0) (l:=((((over (allRows s.length) i.toNat ((allRows s.length).drop j_.toNat)).take (i.toNat+((allRows s.length).length - j_.toNat))).drop 0).length:Int).toNat) none () HS Z Bw Z Z U44 fI Z Z (zG (leN c10) ((ro 0 Z) _ HS).1) (iW (qX c9) (leN c10)) (fun _=>Z) fun wd11 HS=>nL ?_)))))
  obtain ⟨c13,H⟩:=iN H
  refine G.len (t:=0) (m:=(((over (over (allRows s.length) i.toNat ((allRows s.length).drop j_.toNat)) (((((over (allRows s.length) i.toNat ((allRows s.length).drop j_.toNat)).take (i.toNat+((allRows s.length).length - j_.toNat))).drop 0).length:Int).toNat) (List.replicate (((over (allRows s.length) i.toNat ((allRows s.length).drop j_.toNat)).take ((s.length:Int).toNat)).drop (((((over (allRows s.length) i.toNat ((allRows s.length).drop j_.toNat)).take (i.toNat+((allRows s.length).length - j_.toNat))).drop 0).length:Int).toNat)).length none)).take (i.toNat+((allRows s.length).length - j_.toNat))).drop 0).length) Z (kF h12) (rN 2 Z ?_)
  obtain ⟨r14,h15,H⟩:=bI H
  obtain ⟨y16,h17,HS⟩:=St.dE (A':=(Ja A_a 0 c_a 12)) (c':=(c_a - 0)) HS c13 h15 (Ps _ _ _) Z
  refine G.len (t:=6) (m:=r14.length) Z (by rw [h17,List.drop_zero,List.length_take]; exact Nat.min_eq_left c13) ?_
  obtain rfl:=sI H
  exact rT _ func71 Z Z ⟨_,_,_,Z,HS⟩
theorem K8.calls {d1:List Af} {c1 a1:List (List Af)} {name:ByteArray} {y_a:Nat→Aa.Lay} {y_b:Nat→(Ty.slice 62 Aa).Lay} {y_c:Nat→(Ty.slice 62 Aa).Lay} {r1:List Af} {r2 r3:List (List Af)} {r4:Int} (HS:St w0 w (L)) (r_a:Av w0 L Aa A_a c_a y_a d1) (r_b:Av w0 L (Ty.slice 62 Aa) A_b c_b y_b c1) (r_c:Av w0 L (Ty.slice 62 Aa) A_c c_c y_c a1) (H:K8.f K d1 c1 a1 name=some (r1,r2,r3,r4)) :
    Calls prog 30 #[.agg [sV A_a d1 c_a,sV A_b c1 c_b,sV A_c a1 c_c].toArray,.string name] w (K8.post w0 L r1 r2 r3 r4):=by
  unfold K8.f at H
  refine cG func30 Z ?_
  refine sQ (rG (bA HS Z fun b1 wd2 HS=>GO.alloc HS Z Rs Z Z fun b3 wd4 HS=>aS Z (nL (sQ ?_))))
  obtain ⟨t5,t6,h7,H⟩:=Dt H
  refine rG (fL b1 0 Ju Z (lB 1 HS Z Mr Z (mV Z (fJ tN Z (Kw.calls HS (rD 2 r_a) h7) (fun _ wd8 ⟨h9,HS⟩=>⟨_,h9,(pS 5 Z (nL (rN 3 Z ?_)))⟩)))))
  obtain ⟨t10,h11,H⟩:=bI H
  refine rG (lW 1 HS Z Eu (fJ Y9 Z (Dk.calls HS (rD 2 r_a) (rD 2 r_b) (rD 2 r_c) h11) (fun _ wd12 ⟨h13,HS⟩=>⟨_,h13,(pS 2 Z (nL ?_))⟩)))
  rcases iS H with ⟨c14,H⟩ | ⟨c14,H⟩
  ·
   refine yB Z (congrArg Bool.not (Bt c14)) (sQ (rG (GO.Gj (.agg [.slice none 0 0,.slice none 0 0,.slice none 0 0].toArray) Z Z (fun _=>by kernel_rfl) Z (sW 0 HS Z Eu Z fun wd58 HS=>aS Z (nL ?_)))))
   replace HS:=HS.Da Aa 62 (fun _=>Bh)
   replace HS:=HS.Da (Ty.slice 62 Aa) 44 (fun _=>⟨none,0,(fun _=>Bh)⟩)
   replace HS:=HS.Da (Ty.slice 62 Aa) 44 (fun _=>⟨none,0,(fun _=>Bh)⟩)
   obtain ⟨rfl,rfl,rfl,rfl⟩:=Kc H
   exact G.Lb _ _ func30 Z (Iq.Ji (j:=3) (vs:=[.slice none 0 0,.slice none 0 0,.slice none 0 0]) HS Z Z Z Eu) Z ⟨_,_,_,_,_,_,_,_,_,Z,(HS.pk 5 [2,1,0] Z)⟩
  refine nB Z (congrArg Bool.not c14) (rN 2 Z ?_)
  rcases iS H with ⟨c15,H⟩ | ⟨c15,H⟩
  ·
   refine yB Z (congrArg Bool.not (Bt c15)) (sQ (rG (GO.Gj (.agg [.slice none 0 0,.slice none 0 0,.slice none 0 0].toArray) Z Z (fun _=>by kernel_rfl) Z (sW 0 HS Z Eu Z fun wd57 HS=>aS Z (nL ?_)))))
   replace HS:=HS.Da Aa 62 (fun _=>Bh)
   replace HS:=HS.Da (Ty.slice 62 Aa) 44 (fun _=>⟨none,0,(fun _=>Bh)⟩)
   replace HS:=HS.Da (Ty.slice 62 Aa) 44 (fun _=>⟨none,0,(fun _=>Bh)⟩)
   obtain ⟨rfl,rfl,rfl,rfl⟩:=Kc H
   exact G.Lb _ _ func30 Z (Iq.Ji (j:=3) (vs:=[.slice none 0 0,.slice none 0 0,.slice none 0 0]) HS Z Z Z Eu) Z ⟨_,_,_,_,_,_,_,_,_,Z,(HS.pk 5 [2,1,0] Z)⟩
  refine nB Z (congrArg Bool.not c15) (rN 3 Z ?_)
  obtain ⟨t16,t17,t18,h19,H⟩:=M5 H
  obtain ⟨t31,h32,H⟩:=bI H
  obtain ⟨t38,h39,H⟩:=bI H
  obtain ⟨t45,t46,h47,H⟩:=Dt H
  refine G.O7 mixed (fun w=>St w0 w (Box b1 47 [sV A_a d1 c_a,sV A_b c1 c_b,sV A_c a1 c_c]::L)) [0,3] [2,5,6,7,0,3,1,4,8,9,10,11] [] (by kernel_rfl) (by kernel_rfl) (HS.drew.pk 2 [1] Z) ?_
  replace HS:=HS.drew
  refine qL Z Z (fun _ _ g=>fL b1 0 Ju Z g) Z (GX.ps 3 Z (GX.ls Z Z Z (HS.pk 2 [1] Z) (fun _ HS _ g=>lW 0 HS Z Eu g) Z (GX.ls Z Z Z (HS.pk 2 [1] Z) (fun _ HS _ g=>lB 0 HS Z Mr Z g) Z (GX.l2 Z (fJ lH Z (Gu.calls HS (rD 2 r_a) (rD 2 r_b) (rD 2 r_c) h19) (fun _ wd29 ⟨A20,c21,y22,A23,c24,y25,A26,c27,y28,h30,HS⟩=>⟨_,h30,(GX.fin (HS.pk 5 [4] Z) (GX.l2 Z (fJ iI Z (Dn.calls HS (rD 5 r_a) h32) (fun _ wd36 ⟨A33,c34,y35,h37,HS⟩=>⟨_,h37,(GX.fin (HS.pk 6 [5] Z) (GX.l2 Z ?_))⟩))))⟩))))))
  replace HS:=HS.pk 6 [0,1,2,3,4,5] Z
  refine fJ Aae Z (Dr.calls HS  h39) (fun _ wd43 ⟨A40,c41,y42,h44,HS⟩=>⟨_,h44,(GX.fin (HS.pk 6 [5] Z) (GX.l2 Z ?_))⟩)
  replace HS:=HS.pk 6 [1,2,0,3,4,5] Z
  refine fJ tX Z (J6.calls HS (ro 1 Z) (ro 0 Z) h47) (fun _ wd54 ⟨A48,c49,y50,A51,c52,y53,h55,HS⟩=>⟨_,h55,(GX.fin (HS.pk 6 [5] Z) (GX.l2 Z (sW 4 HS Z Eu Z fun wd56 HS=>GX.fin (HS.pk 6 [5] Z) (GX.ps 1 Z (GX.nil ?_)))))⟩)
  obtain ⟨rfl,rfl,rfl,rfl⟩:=Kc H
  exact G.Lb _ _ func30 Z (Iq.Ji (j:=4) (vs:=[sV A40 t38 c41,sV A48 t45 c49,sV A51 t46 c52]) HS Z Z Z Eu) Z ⟨_,_,_,_,_,_,_,_,_,Z,(HS.pk 6 [2,0,1] Z)⟩
theorem Hw.calls {d1:List Af} {c1 a1:List (List Af)} {y_a:Nat→Aa.Lay} {y_b:Nat→(Ty.slice 62 Aa).Lay} {y_c:Nat→(Ty.slice 62 Aa).Lay} {r1:List Af} {r2 r3:List (List Af)} {r4:Int} (HS:St w0 w (L)) (r_a:Av w0 L Aa A_a c_a y_a d1) (r_b:Av w0 L (Ty.slice 62 Aa) A_b c_b y_b c1) (r_c:Av w0 L (Ty.slice 62 Aa) A_c c_c y_c a1) (H:Hw.f K d1 c1 a1=some (r1,r2,r3,r4)) :
    Calls prog 31 #[.agg [sV A_a d1 c_a,sV A_b c1 c_b,sV A_c a1 c_c].toArray] w (Hw.post w0 L r1 r2 r3 r4):=by
  unfold Hw.f at H
  refine cG func31 Z ?_
  refine sQ (rG (bA HS Z fun b1 wd2 HS=>GO.alloc HS Z Rs Z Z fun b3 wd4 HS=>aS Z (nL (rN 3 Z ?_))))
  obtain ⟨t5,h6,H⟩:=bI H
  refine rG (lW 1 HS Z Eu (fJ Y9 Z (Dk.calls HS (rD 2 r_a) (rD 2 r_b) (rD 2 r_c) h6) (fun _ wd7 ⟨h8,HS⟩=>⟨_,h8,(pS 2 Z (nL ?_))⟩)))
  rcases iS H with ⟨c9,H⟩ | ⟨c9,H⟩
  ·
   refine yB Z (congrArg Bool.not (Bt c9)) (sQ (rG (GO.Gj (.agg [.slice none 0 0,.slice none 0 0,.slice none 0 0].toArray) Z Z (fun _=>by kernel_rfl) Z (sW 0 HS Z Eu Z fun wd41 HS=>aS Z (nL ?_)))))
   replace HS:=HS.Da Aa 62 (fun _=>Bh)
   replace HS:=HS.Da (Ty.slice 62 Aa) 44 (fun _=>⟨none,0,(fun _=>Bh)⟩)
   replace HS:=HS.Da (Ty.slice 62 Aa) 44 (fun _=>⟨none,0,(fun _=>Bh)⟩)
   obtain ⟨rfl,rfl,rfl,rfl⟩:=Kc H
   exact G.Lb _ _ func31 Z (Iq.Ji (j:=3) (vs:=[.slice none 0 0,.slice none 0 0,.slice none 0 0]) HS Z Z Z Eu) Z ⟨_,_,_,_,_,_,_,_,_,Z,(HS.pk 5 [2,1,0] Z)⟩
  refine nB Z (congrArg Bool.not c9) (sQ (rG (fL b1 1 Mq Z (lB 1 HS Z Nr Z (lS Z Z U45 Z (pS 2 Z (nL ?_)))))))
  rcases iE H with ⟨c10,H⟩ | ⟨c10,H⟩
  ·
   refine yB Z (tT c10) (sQ (rG (GO.Gj (.agg [.slice none 0 0,.slice none 0 0,.slice none 0 0].toArray) Z Z (fun _=>by kernel_rfl) Z (sW 0 HS Z Eu Z fun wd11 HS=>aS Z (nL ?_)))))
   replace HS:=HS.Da Aa 62 (fun _=>Bh)
   replace HS:=HS.Da (Ty.slice 62 Aa) 44 (fun _=>⟨none,0,(fun _=>Bh)⟩)
   replace HS:=HS.Da (Ty.slice 62 Aa) 44 (fun _=>⟨none,0,(fun _=>Bh)⟩)
   obtain ⟨rfl,rfl,rfl,rfl⟩:=Kc H
   exact G.Lb _ _ func31 Z (Iq.Ji (j:=3) (vs:=[.slice none 0 0,.slice none 0 0,.slice none 0 0]) HS Z Z Z Eu) Z ⟨_,_,_,_,_,_,_,_,_,Z,(HS.pk 5 [2,1,0] Z)⟩
  refine nB Z (tF c10) (rN 3 Z ?_)
  obtain ⟨t12,t13,t14,h15,H⟩:=M5 H
  refine rG (lW 1 HS Z Eu (fJ lH Z (Gu.calls HS (rD 2 r_a) (rD 2 r_b) (rD 2 r_c) h15) (fun _ wd25 ⟨A16,c17,y18,A19,c20,y21,A22,c23,y24,h26,HS⟩=>⟨_,h26,(GO.alloc HS Z Rs Z Z fun b27 wd28 HS=>sW 0 HS Z Eu Z fun wd29 HS=>nL (sQ (rG (fL b27 1 Mq Z (lB 0 HS Z Nr Z (lS Z Z U45 Z (pS 2 Z (nL (sQ ?_)))))))))⟩)))
  obtain ⟨c30,H⟩:=iN H
  have h31:=(rk (ro 2 Z) HS)
  obtain ⟨c32,H⟩:=iN H
  obtain ⟨t33,h34,H⟩:=bI H
  refine G.O7 mixed (fun w=>St w0 w (Box b27 47 [sV A16 t12 c17,sV A19 t13 c20,sV A22 t14 c23]::Own (Ty.slice 62 Aa) 44 A19 c20 y21 t13::L)) [1,4,6,9,11,13] [0,2,5,7,8,10,12,1,3,4,6,9,11,13,14,15,16,17] [] (by kernel_rfl) (by kernel_rfl) (HS.drew.pk 6 [0,2] Z) ?_
  replace HS:=HS.drew
  refine qL Z Z (fun _ _ g=>fL b27 1 Mq Z g) Z (GX.ps 1 Z (qL Z Z (fun _ _ g=>fL b27 1 Mq Z g) Z (GX.ps 2 Z (qL Z Z (fun _ _ g=>fL b27 2 O6 Z g) Z (qL Z Z (fun _ _ g=>fL b27 0 Ju Z g) Z (GX.ls Z Z Z (HS.pk 6 [0,2] Z) (fun _ HS _ g=>lB 0 HS Z Nr Z g) Z (qL Z Z (fun _ _ g=>iX Z U45 Sm h31 c30 g) Z (GX.ls Z Z Z (HS.pk 6 [0,2] Z) (fun _ HS _ g=>GO.Gb (T:=(Ty.slice 62 Aa)) (n:=(w64 ((t13.length:Int) - 1)).toNat) (o:=0) HS (ro 1 Z) Z Z (getD_some (d:=[]) (ltN c30)) Z Z Mr Z g) Z (GX.ls Z Z Z (HS.pk 6 [0,2] Z) (fun _ HS _ g=>lB 0 HS Z Nr Z g) Z (GX.ls Z Z Z (HS.pk 6 [0,2] Z) (fun _ HS _ g=>GO.Abn (xs:=t13) ((ro 1 Z) _ HS).1 Z Z Z Z U45 Sm c32 (Int.le_refl _) c32.2 Z g) Z (GX.ls Z Z Z (HS.pk 6 [0,2] Z) (fun _ HS _ g=>lB 0 HS Z Nr Z g) Z (GX.ls Z Z Z (HS.pk 6 [0,2] Z) (fun _ HS _ g=>lB 0 HS Z Mr Z g) Z (GX.l2 Z ?_)))))))))))))
  replace HS:=HS.pk 6 [3,1,0,2,4,5] Z
  refine fJ sZ Z (Lj.calls HS  h34) (fun _ wd38 ⟨A35,c36,y37,h39,HS⟩=>⟨_,h39,(GX.fin (HS.pk 5 [1,2] Z) (qL Z Z (fun _ _ g=>GO.Gj (.agg [sV ((y21 ((w64 ((t13.length:Int) - 1)).toNat)).A) (t13.getD ((w64 ((t13.length:Int) - 1)).toNat) []) ((y21 ((w64 ((t13.length:Int) - 1)).toNat)).c),sV (Ja A19 0 ((w64 ((t13.length:Int) - 1)).toNat) 1) ((t13.take ((w64 ((t13.length:Int) - 1)).toNat)).drop 0) ((w64 ((t13.length:Int) - 1)).toNat - 0),sV A35 t33 c36].toArray) Z Z (fun _=>by kernel_rfl) Z g) Z (GX.l2 Z (sW 3 HS Z Eu Z fun wd40 HS=>GX.fin (HS.pk 5 [1,2] Z) (GX.ps 1 Z (GX.nil ?_))))))⟩)
  replace HS:=HS.pk 5 [2,0,1,3,4] Z
  replace HS:=HS.wD (A':=(Ja A19 0 ((w64 ((t13.length:Int) - 1)).toNat) 1)) (c':=((w64 ((t13.length:Int) - 1)).toNat - 0)) (n:=(w64 ((t13.length:Int) - 1)).toNat) (m:=(w64 ((t13.length:Int) - 1)).toNat) (ltN c30) (lR _) (Nat.le_trans (leN c32) ((ro 0 Z) _ HS).1) Z Z
  obtain ⟨rfl,rfl,rfl,rfl⟩:=Kc H
  exact G.Lb _ _ func31 Z (Iq.Ji (j:=4) (vs:=[sV ((y21 ((w64 ((t13.length:Int) - 1)).toNat)).A) (t13.getD ((w64 ((t13.length:Int) - 1)).toNat) []) ((y21 ((w64 ((t13.length:Int) - 1)).toNat)).c),sV (Ja A19 0 ((w64 ((t13.length:Int) - 1)).toNat) 1) ((t13.take ((w64 ((t13.length:Int) - 1)).toNat)).drop 0) ((w64 ((t13.length:Int) - 1)).toNat - 0),sV A35 t33 c36]) HS Z Z Z Eu) Z ⟨_,_,_,_,_,_,_,_,_,Z,(HS.pk 6 [0,1,2] Z)⟩
theorem Kv.calls {d1:List Af} {c1 a1:List (List Af)} {y_a:Nat→Aa.Lay} {y_b:Nat→(Ty.slice 62 Aa).Lay} {y_c:Nat→(Ty.slice 62 Aa).Lay} {r1:List Af} {r2 r3:List (List Af)} {r4:Int} (HS:St w0 w (L)) (r_a:Av w0 L Aa A_a c_a y_a d1) (r_b:Av w0 L (Ty.slice 62 Aa) A_b c_b y_b c1) (r_c:Av w0 L (Ty.slice 62 Aa) A_c c_c y_c a1) (H:Kv.f K d1 c1 a1=some (r1,r2,r3,r4)) :
    Calls prog 32 #[.agg [sV A_a d1 c_a,sV A_b c1 c_b,sV A_c a1 c_c].toArray] w (Kv.post w0 L r1 r2 r3 r4):=by
  unfold Kv.f at H
  refine cG func32 Z ?_
  refine sQ ?_
  refine rG ?_
  refine bA HS Z ?_; intro b1 wd2 HS
  refine GO.alloc HS Z Rs Z Z ?_; intro b3 wd4 HS
  refine aS Z ?_
  refine nL ?_
  refine sQ ?_
  obtain ⟨t5,t6,t7,t8,h9,H⟩:=Hz H
  refine rG ?_
  refine fL b1 0 Ju Z ?_
  refine lB 1 HS Z Mr Z ?_
  refine fL b1 2 O6 Z ?_
  refine lB 1 HS Z Nr Z ?_
  refine fL b1 1 Mq Z ?_
  refine lB 1 HS Z Nr Z ?_
  refine GO.Gj (.agg [sV A_a d1 c_a,sV A_c a1 c_c,sV A_b c1 c_b].toArray) Z Z (fun _=>by kernel_rfl) Z ?_
  refine fJ uJ Z (Hw.calls HS (rD 2 r_a) (rD 2 r_c) (rD 2 r_b) h9) (fun _ wd19 ⟨A10,c11,y12,A13,c14,y15,A16,c17,y18,h20,HS⟩=>⟨_,h20,?_⟩)
  refine pS 3 Z ?_
  refine GO.alloc HS Z Rs Z Z ?_; intro b21 wd22 HS
  refine sW 0 HS Z Eu Z ?_; intro wd23 HS
  refine aS Z ?_
  refine nL ?_
  refine sQ ?_
  refine rG ?_
  refine fL b21 0 Ju Z ?_
  refine lB 0 HS Z Mr Z ?_
  refine fL b21 2 O6 Z ?_
  refine lB 0 HS Z Nr Z ?_
  refine fL b21 1 Mq Z ?_
  refine lB 0 HS Z Nr Z ?_
  refine GO.Gj (.agg [sV A10 t5 c11,sV A16 t7 c17,sV A13 t6 c14].toArray) Z Z (fun _=>by kernel_rfl) Z ?_
  refine mV Z ?_
  refine sW 4 HS Z Eu Z ?_; intro wd24 HS
  refine aS Z ?_
  refine nL ?_
  obtain ⟨rfl,rfl,rfl,rfl⟩:=Kc H
  exact G.Lb _ _ func32 Z (Iq.Ji (j:=4) (vs:=[sV A10 t5 c11,sV A16 t7 c17,sV A13 t6 c14]) HS Z Z Z Eu) Z ⟨_,_,_,_,_,_,_,_,_,Z,(HS.pk 6 [1,3,2] Z)⟩
theorem Il.calls {s1:List Af} {o1 m1:List (List Af)} {u1:Int} {t1 i1:ByteArray} {h1:Int} {g1:List (List Br)} {f1:List Ah} {p1 q1:Int} {d1:List Int} {n1 k1:Int} {e1:List Cc} {a1 c1:List Int} {y_a:Nat→Aa.Lay} {y_b:Nat→(Ty.slice 62 Aa).Lay} {y_c:Nat→(Ty.slice 62 Aa).Lay} {y_d:Nat→(Ty.slice 168 Az).Lay} {r1:List Af} {r2 r3:List (List Af)} {r4:Int} (HS:St w0 w (L)) (r_a:Av w0 L Aa A_a c_a y_a s1) (r_b:Av w0 L (Ty.slice 62 Aa) A_b c_b y_b o1) (r_c:Av w0 L (Ty.slice 62 Aa) A_c c_c y_c m1) (r_d:Av w0 L (Ty.slice 168 Az) A_d c_d y_d g1) (r_e:Av w0 L Au A_e c_e uu f1) (r_f:Av w0 L (Bi .i64) A_f c_f uu d1) (r_g:Av w0 L Ci A_g c_g uu e1) (r_h:Av w0 L (Bi .i64) A_h c_h uu a1) (r_i:Av w0 L (Bi .i64) A_i c_i uu c1) (H:Il.f K s1 o1 m1 u1 t1 i1 h1 g1 f1 p1 q1 d1 n1 k1 e1 a1 c1=some (r1,r2,r3,r4)) :
    Calls prog 9 #[.agg [sV A_a s1 c_a,sV A_b o1 c_b,sV A_c m1 c_c].toArray,.agg [I u1,.string t1,.string i1,I h1,sV A_d g1 c_d,sV A_e f1 c_e,I p1,I q1,sV A_f d1 c_f,I n1,I k1,sV A_g e1 c_g,sV A_h a1 c_h,sV A_i c1 c_i].toArray] w (Il.post w0 L r1 r2 r3 r4):=by
  unfold Il.f at H
  refine cG func9 Z ?_
  refine sQ (rG (bA HS Z fun b1 wd2 HS=>bA HS Z fun b3 wd4 HS=>GO.alloc HS Z Rs Z Z fun b5 wd6 HS=>aS Z (nL (rN 2 Z ?_))))
  obtain ⟨t16,h17,H⟩:=bI H
  rcases iS H with ⟨c20,H⟩ | ⟨c20,H⟩
  ·
   refine rG (lW 2 HS Z Eu (fJ Y9 Z (Dk.calls HS (rD 3 r_a) (rD 3 r_b) (rD 3 r_c) h17) (fun _ wd18 ⟨h19,HS⟩=>⟨_,h19,(pS 2 Z (kN 9 Z (congrArg Bool.not (Bt c20)) (oF Z (oF Z (oF Z (GO.Ii Z Z Z Z Z (nL (rN 2 Z (rG (GO.Gj (.agg [.slice none 0 0,.slice none 0 0,.slice none 0 0].toArray) Z Z (fun _=>by kernel_rfl) Z (sW 0 HS Z Eu Z fun wd98 HS=>aS Z ?_)))))))))))⟩)))
   refine nL ?_
   replace HS:=HS.Da Aa 62 (fun _=>Bh)
   replace HS:=HS.Da (Ty.slice 62 Aa) 44 (fun _=>⟨none,0,(fun _=>Bh)⟩)
   replace HS:=HS.Da (Ty.slice 62 Aa) 44 (fun _=>⟨none,0,(fun _=>Bh)⟩)
   obtain ⟨rfl,rfl,rfl,rfl⟩:=Kc H
   exact G.Lb _ _ func9 Z (Iq.Ji (j:=3) (vs:=[.slice none 0 0,.slice none 0 0,.slice none 0 0]) HS Z Z Z Eu) Z ⟨_,_,_,_,_,_,_,_,_,Z,(HS.pk 6 [2,1,0] Z)⟩
  obtain ⟨t21,h22,H⟩:=bI H
  refine rG (lW 2 HS Z Eu (fJ Y9 Z (Dk.calls HS (rD 3 r_a) (rD 3 r_b) (rD 3 r_c) h17) (fun _ wd18 ⟨h19,HS⟩=>⟨_,h19,(pS 2 Z (kN 9 Z (congrArg Bool.not c20) (oN Z (lW 1 HS Z bN (bK (oN Z (fJ Aay Z (Ep.calls HS (rD 3 r_d) (rD 3 r_e) (rD 3 r_f) (rD 3 r_g) (rD 3 r_h) (rD 3 r_i) h22) (fun _ wd23 ⟨h24,HS⟩=>⟨_,h24,(bK (oN Z (GO.not Z Z Z (bK (GO.Ki Z Z Z Z Z ?_)))))⟩))))))))⟩)))
  refine nL ?_
  rcases iS H with ⟨c25,H⟩ | ⟨c25,H⟩
  ·
   refine yB Z (congrArg Bool.not (Bt c25)) (sQ (rG (GO.Gj (.agg [.slice none 0 0,.slice none 0 0,.slice none 0 0].toArray) Z Z (fun _=>by kernel_rfl) Z (sW 0 HS Z Eu Z fun wd97 HS=>aS Z (nL ?_)))))
   replace HS:=HS.Da Aa 62 (fun _=>Bh)
   replace HS:=HS.Da (Ty.slice 62 Aa) 44 (fun _=>⟨none,0,(fun _=>Bh)⟩)
   replace HS:=HS.Da (Ty.slice 62 Aa) 44 (fun _=>⟨none,0,(fun _=>Bh)⟩)
   obtain ⟨rfl,rfl,rfl,rfl⟩:=Kc H
   exact G.Lb _ _ func9 Z (Iq.Ji (j:=3) (vs:=[.slice none 0 0,.slice none 0 0,.slice none 0 0]) HS Z Z Z Eu) Z ⟨_,_,_,_,_,_,_,_,_,Z,(HS.pk 6 [2,1,0] Z)⟩
  refine nB Z (congrArg Bool.not c25) (rN 3 Z (rG (fL b3 0 Uj Z (lB 1 HS Z na2 Z (nL (rN 3 Z ?_))))))
  rcases iE H with ⟨c26,H⟩ | ⟨c26,H⟩
  ·
   refine yB Z (tT c26) (sQ ?_)
   obtain ⟨t27,t28,t29,t30,h31,H⟩:=Hz H
   refine rG (lW 2 HS Z Eu (fL b3 2 Pv Z (GO.Du (j:=1) ([.string i1,I h1,sV A_d g1 c_d,sV A_e f1 c_e,I p1,I q1,sV A_f d1 c_f,I n1,I k1,sV A_g e1 c_g,sV A_h a1 c_h,sV A_i c1 c_i]) HS Z Z Z Z Mf Z (fJ Aaf Z (C9.calls HS (rD 3 r_a) (rD 3 r_b) (rD 3 r_c) (rD 3 r_d) (rD 3 r_e) (rD 3 r_f) (rD 3 r_g) (rD 3 r_h) (rD 3 r_i) h31) (fun _ wd41 ⟨A32,c33,y34,A35,c36,y37,A38,c39,y40,h42,HS⟩=>⟨_,h42,(pS 2 Z (sW 3 HS Z Eu Z fun wd43 HS=>aS Z (nL ?_)))⟩)))))
   obtain ⟨rfl,rfl,rfl,rfl⟩:=Kc H
   exact G.Lb _ _ func9 Z (Iq.Ji (j:=3) (vs:=[sV A32 t27 c33,sV A35 t28 c36,sV A38 t29 c39]) HS Z Z Z Eu) Z ⟨_,_,_,_,_,_,_,_,_,Z,(HS.pk 6 [0,1,2] Z)⟩
  refine nB Z (tF c26) (rN 2 Z ?_)
  rcases iE H with ⟨c44,H⟩ | ⟨c44,H⟩
  ·
   refine yB Z (tT c44) (sQ ?_)
   obtain ⟨t45,t46,t47,t48,h49,H⟩:=Hz H
   refine rG (lW 2 HS Z Eu (fL b3 1 Ow Z (lB 1 HS Z na9 Z (fJ AaI Z (K8.calls HS (rD 3 r_a) (rD 3 r_b) (rD 3 r_c) h49) (fun _ wd59 ⟨A50,c51,y52,A53,c54,y55,A56,c57,y58,h60,HS⟩=>⟨_,h60,(pS 2 Z (sW 3 HS Z Eu Z fun wd61 HS=>aS Z (nL ?_)))⟩)))))
   obtain ⟨rfl,rfl,rfl,rfl⟩:=Kc H
   exact G.Lb _ _ func9 Z (Iq.Ji (j:=3) (vs:=[sV A50 t45 c51,sV A53 t46 c54,sV A56 t47 c57]) HS Z Z Z Eu) Z ⟨_,_,_,_,_,_,_,_,_,Z,(HS.pk 6 [0,1,2] Z)⟩
  refine nB Z (tF c44) (rN 2 Z ?_)
  rcases iE H with ⟨c62,H⟩ | ⟨c62,H⟩
  ·
   refine yB Z (tT c62) (sQ ?_)
   obtain ⟨t63,t64,t65,t66,h67,H⟩:=Hz H
   refine rG (lW 2 HS Z Eu (fJ uJ Z (Hw.calls HS (rD 3 r_a) (rD 3 r_b) (rD 3 r_c) h67) (fun _ wd77 ⟨A68,c69,y70,A71,c72,y73,A74,c75,y76,h78,HS⟩=>⟨_,h78,(pS 2 Z (sW 3 HS Z Eu Z fun wd79 HS=>aS Z (nL ?_)))⟩)))
   obtain ⟨rfl,rfl,rfl,rfl⟩:=Kc H
   exact G.Lb _ _ func9 Z (Iq.Ji (j:=3) (vs:=[sV A68 t63 c69,sV A71 t64 c72,sV A74 t65 c75]) HS Z Z Z Eu) Z ⟨_,_,_,_,_,_,_,_,_,Z,(HS.pk 6 [0,1,2] Z)⟩
  refine nB Z (tF c62) (rN 3 Z ?_)
  obtain ⟨t80,t81,t82,t83,h84,H⟩:=Hz H
  refine rG (lW 2 HS Z Eu (fJ Aa1 Z (Kv.calls HS (rD 3 r_a) (rD 3 r_b) (rD 3 r_c) h84) (fun _ wd94 ⟨A85,c86,y87,A88,c89,y90,A91,c92,y93,h95,HS⟩=>⟨_,h95,(pS 2 Z (sW 3 HS Z Eu Z fun wd96 HS=>aS Z (nL ?_)))⟩)))
  obtain ⟨rfl,rfl,rfl,rfl⟩:=Kc H
  exact G.Lb _ _ func9 Z (Iq.Ji (j:=3) (vs:=[sV A85 t80 c86,sV A88 t81 c89,sV A91 t82 c92]) HS Z Z Z Eu) Z ⟨_,_,_,_,_,_,_,_,_,Z,(HS.pk 6 [0,1,2] Z)⟩
theorem Nh.calls {c1 e1:Int} {a1 d1:Int} {r1:Bool} (HS:St w0 w (L)) (H:Nh.f c1 e1 a1 d1=some r1) :
    Calls prog 202 #[.agg [I c1,I e1].toArray,.agg [I a1,I d1].toArray] w (Nh.post w0 L r1):=by
  unfold Nh.f at H
  refine cG func202 Z ?_
  refine sQ (rG (bA HS Z fun b1 wd2 HS=>bA HS Z fun b3 wd4 HS=>aS Z (nL (rN 2 Z (rG (fL b1 0 K5 Z (lB 1 HS Z na2 Z (fL b3 0 K5 Z (lB 0 HS Z na2 Z (GO.neq Z Z Z Z (nL ?_)))))))))))
  rcases iS H with ⟨c5,H⟩ | ⟨c5,H⟩
  ·
   refine yB Z (nF c5) (rN 2 Z ?_)
   obtain rfl:=sI H
   exact rT _ func202 Z Z ⟨Z,(HS.pk 2 [] Z)⟩
  refine nB Z (nT c5) (rN 3 Z (rG (fL b1 1 Oq Z (lB 1 HS Z na2 Z (fL b3 1 Oq Z (lB 0 HS Z na2 Z (GO.neq Z Z Z Z (nL ?_))))))))
  rcases iS H with ⟨c6,H⟩ | ⟨c6,H⟩
  ·
   refine yB Z (nF c6) (rN 2 Z ?_)
   obtain rfl:=sI H
   exact rT _ func202 Z Z ⟨Z,(HS.pk 2 [] Z)⟩
  refine nB Z (nT c6) (rN 3 Z ?_)
  obtain rfl:=sI H
  exact rT _ func202 Z Z ⟨Z,(HS.pk 2 [] Z)⟩
theorem Gz.calls {a_ b_:List Br} {r1:Bool} (HS:St w0 w (L)) (r_a:Av w0 L Az A_a c_a uu a_) (r_b:Av w0 L Az A_b c_b uu b_) (H:Gz.f K a_ b_=some r1) :
    Calls prog 170 #[sV A_a a_ c_a,sV A_b b_ c_b] w (Gz.post w0 L r1):=by
  unfold Gz.f at H
  refine cG func170 Z ?_
  refine rN 4 Z (rG (mV Z (lS Z Z P8 Z (mV Z (lS Z Z P8 Z (GO.neq Z Z Z Z (nL ?_)))))))
  rcases iS H with ⟨c1,H⟩ | ⟨c1,H⟩
  ·
   refine yB Z (nF c1) (rN 2 Z ?_)
   obtain rfl:=sI H
   exact rT _ func170 Z Z ⟨Z,HS⟩
  refine nB Z (nT c1) (rN 6 Z ?_)
  refine G.name (fun g1 e1=>?_)
  have f1:∀ b1,b1≤K→∀ (a1:Int) (w:World),Gz.l1 K b1 a_ b_ a1=some r1→St w0 w (L)→G prog 170 27 [(0,sV A_a a_ c_a),(1,sV A_b b_ c_b),(5,I a1)] g1 w (Gz.post w0 L r1):=by
   refine lp (fun _ w H _=>by rw [Gz.l1] at H; cases H) fun d1 i1 h1 a1 w H HS=>?_
   rw [Gz.l1] at H
   subst e1
   refine rN 2 Z (rG (pS 2 Z (lS Z Z P8 Z (GO.lss Z Z Z Z (nL ?_)))))
   rcases iS H with ⟨c27,H⟩ | ⟨c27,H⟩
   ·
    refine nB Z (tF c27) (rN 3 Z ?_)
    obtain rfl:=sI H
    exact rT _ func170 Z Z ⟨Z,HS⟩
   refine yB Z (tT c27) (rN 4 Z ?_)
   obtain ⟨c28,H⟩:=iN H
   obtain ⟨e29,h30,H⟩:=Cr H
   obtain ⟨c31,H⟩:=iN H
   obtain ⟨e32,h33,H⟩:=Cr H
   obtain ⟨t34,h35,H⟩:=bI H
   refine G.lex mixed [0,1,2,4,5,6,3,7,8,9] (by kernel_rfl) ?_
   replace HS:=HS.drew
   refine GX.ps 2 Z (qL Z Z (fun _ _ g=>iX Z P8 Qt (rk r_a HS) c28 g) Z (GX.ps 2 Z (qL Z Z (fun _ _ g=>iX Z P8 Qt (rk r_b HS) c31 g) Z (GX.l1 Z Z Z (fun _ g=>GO.J4 (T:=Az) (n:=a1.toNat) HS r_a Z Z (Ba (ltN c28) h30) Nk Z g) Z (GX.l1 Z Z Z (fun _ g=>GO.J4 (T:=Az) (n:=a1.toNat) HS r_b Z Z (Ba (ltN c31) h33) Nk Z g) Z (GX.l2 Z (fJ wT Z (Nh.calls HS  h35) (fun _ wd36 ⟨h37,HS⟩=>⟨_,h37,(GX.fin tv (GX.ps 1 Z (GX.nil ?_)))⟩))))))))
   rcases iS H with ⟨c38,H⟩ | ⟨c38,H⟩
   ·
    refine yB Z (congrArg Bool.not (Bt c38)) (rN 2 Z ?_)
    obtain rfl:=sI H
    exact rT _ func170 Z Z ⟨Z,HS⟩
   refine nB Z (congrArg Bool.not c38) (rN 4 Z (gW (h1 d1 (lR _) _ _ H HS) Z))
  exact gW (f1 K (lR _) _ _ H HS) Z
theorem Fy.calls {a_ b_:List (List Br)} {y_a:Nat→(Ty.slice 168 Az).Lay} {y_b:Nat→(Ty.slice 168 Az).Lay} {r1:Bool} (HS:St w0 w (L)) (r_a:Av w0 L (Ty.slice 168 Az) A_a c_a y_a a_) (r_b:Av w0 L (Ty.slice 168 Az) A_b c_b y_b b_) (H:Fy.f K a_ b_=some r1) :
    Calls prog 129 #[sV A_a a_ c_a,sV A_b b_ c_b] w (Fy.post w0 L r1):=by
  unfold Fy.f at H
  refine cG func129 Z ?_
  refine rN 4 Z (rG (mV Z (lS Z Z U51 Z (mV Z (lS Z Z U51 Z (GO.neq Z Z Z Z (nL ?_)))))))
  rcases iS H with ⟨c1,H⟩ | ⟨c1,H⟩
  ·
   refine yB Z (nF c1) (rN 2 Z ?_)
   obtain rfl:=sI H
   exact rT _ func129 Z Z ⟨Z,HS⟩
  refine nB Z (nT c1) (rN 6 Z ?_)
  refine G.name (fun g1 e1=>?_)
  have f1:∀ b1,b1≤K→∀ (a1:Int) (w:World),Fy.l1 K b1 a_ b_ a1=some r1→St w0 w (L)→G prog 129 27 [(0,sV A_a a_ c_a),(1,sV A_b b_ c_b),(5,I a1)] g1 w (Fy.post w0 L r1):=by
   refine lp (fun _ w H _=>by rw [Fy.l1] at H; cases H) fun d1 i1 h1 a1 w H HS=>?_
   rw [Fy.l1] at H
   subst e1
   refine rN 2 Z (rG (pS 2 Z (lS Z Z U51 Z (GO.lss Z Z Z Z (nL ?_)))))
   rcases iS H with ⟨c19,H⟩ | ⟨c19,H⟩
   ·
    refine nB Z (tF c19) (rN 3 Z ?_)
    obtain rfl:=sI H
    exact rT _ func129 Z Z ⟨Z,HS⟩
   refine yB Z (tT c19) (rN 4 Z ?_)
   obtain ⟨c20,H⟩:=iN H
   obtain ⟨c21,H⟩:=iN H
   obtain ⟨t22,h23,H⟩:=bI H
   refine G.lex mixed [0,1,2,4,5,6,3,7,8,9] (by kernel_rfl) ?_
   replace HS:=HS.drew
   refine GX.ps 2 Z (qL Z Z (fun _ _ g=>iX Z U51 P7 (rk r_a HS) c20 g) Z (GX.ps 2 Z (qL Z Z (fun _ _ g=>iX Z U51 P7 (rk r_b HS) c21 g) Z (GX.l1 Z Z Z (fun _ g=>GO.Gb (T:=(Ty.slice 168 Az)) (n:=a1.toNat) (o:=0) HS r_a Z Z (getD_some (d:=[]) (ltN c20)) Z Z Qc Z g) Z (GX.l1 Z Z Z (fun _ g=>GO.Gb (T:=(Ty.slice 168 Az)) (n:=a1.toNat) (o:=0) HS r_b Z Z (getD_some (d:=[]) (ltN c21)) Z Z Qc Z g) Z (GX.l2 Z (fJ xK Z (Gz.calls HS (Av.elem r_a c20.1 c20.2) (Av.elem r_b c21.1 c21.2) h23) (fun _ wd24 ⟨h25,HS⟩=>⟨_,h25,(GX.fin tv (GX.ps 1 Z (GX.nil ?_)))⟩))))))))
   rcases iS H with ⟨c26,H⟩ | ⟨c26,H⟩
   ·
    refine yB Z (congrArg Bool.not (Bt c26)) (rN 2 Z ?_)
    obtain rfl:=sI H
    exact rT _ func129 Z Z ⟨Z,HS⟩
   refine nB Z (congrArg Bool.not c26) (rN 4 Z (gW (h1 d1 (lR _) _ _ H HS) Z))
  exact gW (f1 K (lR _) _ _ H HS) Z
theorem Ir.calls {c1 a1:List (List Br)} {y_a:Nat→(Ty.slice 168 Az).Lay} {y_b:Nat→(Ty.slice 168 Az).Lay} {r1:Bool} (HS:St w0 w (L)) (r_a:Av w0 L (Ty.slice 168 Az) A_a c_a y_a c1) (r_b:Av w0 L (Ty.slice 168 Az) A_b c_b y_b a1) (H:Ir.f K c1 a1=some r1) :
    Calls prog 73 #[.agg [sV A_a c1 c_a].toArray,.agg [sV A_b a1 c_b].toArray] w (Ir.post w0 L r1):=by
  unfold Ir.f at H
  refine cG func73 Z ?_
  refine sQ (rG (bA HS Z fun b1 wd2 HS=>bA HS Z fun b3 wd4 HS=>aS Z (nL (rN 2 Z ?_))))
  obtain ⟨t5,h6,H⟩:=bI H
  refine rG (fL b1 0 J2 Z (lB 1 HS Z O1 Z (fL b3 0 J2 Z (lB 0 HS Z O1 Z (fJ vE Z (Fy.calls HS (rD 2 r_a) (rD 2 r_b) h6) (fun _ wd7 ⟨h8,HS⟩=>⟨_,h8,(GO.not Z Z Z (nL ?_))⟩))))))
  rcases iS H with ⟨c9,H⟩ | ⟨c9,H⟩
  ·
   refine yB Z (congrArg Bool.not (Bt c9)) (rN 2 Z ?_)
   obtain rfl:=sI H
   exact rT _ func73 Z Z ⟨Z,(HS.pk 2 [] Z)⟩
  refine nB Z (congrArg Bool.not c9) (rN 3 Z ?_)
  obtain rfl:=sI H
  exact rT _ func73 Z Z ⟨Z,(HS.pk 2 [] Z)⟩
theorem K4.calls {a_A a_B:Int} {a_C a_D:Int} {c1 b_A:Int} {b_B b_C:Int} {b_D a1:Int} {r1:Bool} (HS:St w0 w (L)) (H:K4.f a_A a_B a_C a_D c1 b_A b_B b_C b_D a1=some r1) :
    Calls prog 171 #[.agg [I a_A,I a_B,I a_C,I a_D,I c1].toArray,.agg [I b_A,I b_B,I b_C,I b_D,I a1].toArray] w (K4.post w0 L r1):=by
  unfold K4.f at H
  refine cG func171 Z ?_
  refine sQ (rG (bA HS Z fun b1 wd2 HS=>bA HS Z fun b3 wd4 HS=>aS Z (nL (rN 2 Z (rG (fL b1 0 Rx Z (lB 1 HS Z na2 Z (fL b3 0 Rx Z (lB 0 HS Z na2 Z (GO.neq Z Z Z Z (nL ?_)))))))))))
  rcases iS H with ⟨c5,H⟩ | ⟨c5,H⟩
  ·
   refine yB Z (nF c5) (rN 2 Z ?_)
   obtain rfl:=sI H
   exact rT _ func171 Z Z ⟨Z,(HS.pk 2 [] Z)⟩
  refine nB Z (nT c5) (rN 3 Z (rG (fL b1 1 Rv Z (lB 1 HS Z na2 Z (fL b3 1 Rv Z (lB 0 HS Z na2 Z (GO.neq Z Z Z Z (nL ?_))))))))
  rcases iS H with ⟨c6,H⟩ | ⟨c6,H⟩
  ·
   refine yB Z (nF c6) (rN 2 Z ?_)
   obtain rfl:=sI H
   exact rT _ func171 Z Z ⟨Z,(HS.pk 2 [] Z)⟩
  refine nB Z (nT c6) (rN 3 Z (rG (fL b1 2 R4 Z (lB 1 HS Z na2 Z (fL b3 2 R4 Z (lB 0 HS Z na2 Z (GO.neq Z Z Z Z (nL ?_))))))))
  rcases iS H with ⟨c7,H⟩ | ⟨c7,H⟩
  ·
   refine yB Z (nF c7) (rN 2 Z ?_)
   obtain rfl:=sI H
   exact rT _ func171 Z Z ⟨Z,(HS.pk 2 [] Z)⟩
  refine nB Z (nT c7) (rN 3 Z (rG (fL b1 3 Rz Z (lB 1 HS Z na2 Z (fL b3 3 Rz Z (lB 0 HS Z na2 Z (GO.neq Z Z Z Z (nL ?_))))))))
  rcases iS H with ⟨c8,H⟩ | ⟨c8,H⟩
  ·
   refine yB Z (nF c8) (rN 2 Z ?_)
   obtain rfl:=sI H
   exact rT _ func171 Z Z ⟨Z,(HS.pk 2 [] Z)⟩
  refine nB Z (nT c8) (rN 3 Z (rG (fL b1 4 M0 Z (lB 1 HS Z na2 Z (fL b3 4 M0 Z (lB 0 HS Z na2 Z (GO.neq Z Z Z Z (nL ?_))))))))
  rcases iS H with ⟨c9,H⟩ | ⟨c9,H⟩
  ·
   refine yB Z (nF c9) (rN 2 Z ?_)
   obtain rfl:=sI H
   exact rT _ func171 Z Z ⟨Z,(HS.pk 2 [] Z)⟩
  refine nB Z (nT c9) (rN 3 Z ?_)
  obtain rfl:=sI H
  exact rT _ func171 Z Z ⟨Z,(HS.pk 2 [] Z)⟩
theorem Em.calls {a_ b_:List Ah} {r1:Bool} (HS:St w0 w (L)) (r_a:Av w0 L Au A_a c_a uu a_) (r_b:Av w0 L Au A_b c_b uu b_) (H:Em.f K a_ b_=some r1) :
    Calls prog 130 #[sV A_a a_ c_a,sV A_b b_ c_b] w (Em.post w0 L r1):=by
  unfold Em.f at H
  refine cG func130 Z ?_
  refine rN 4 Z (rG (mV Z (lS Z Z U54 Z (mV Z (lS Z Z U54 Z (GO.neq Z Z Z Z (nL ?_)))))))
  rcases iS H with ⟨c1,H⟩ | ⟨c1,H⟩
  ·
   refine yB Z (nF c1) (rN 2 Z ?_)
   obtain rfl:=sI H
   exact rT _ func130 Z Z ⟨Z,HS⟩
  refine nB Z (nT c1) (rN 6 Z ?_)
  refine G.name (fun g1 e1=>?_)
  have f1:∀ b1,b1≤K→∀ (a1:Int) (w:World),Em.l1 K b1 a_ b_ a1=some r1→St w0 w (L)→G prog 130 27 [(0,sV A_a a_ c_a),(1,sV A_b b_ c_b),(5,I a1)] g1 w (Em.post w0 L r1):=by
   refine lp (fun _ w H _=>by rw [Em.l1] at H; cases H) fun d1 i1 h1 a1 w H HS=>?_
   rw [Em.l1] at H
   subst e1
   refine rN 2 Z (rG (pS 2 Z (lS Z Z U54 Z (GO.lss Z Z Z Z (nL ?_)))))
   rcases iS H with ⟨c27,H⟩ | ⟨c27,H⟩
   ·
    refine nB Z (tF c27) (rN 3 Z ?_)
    obtain rfl:=sI H
    exact rT _ func130 Z Z ⟨Z,HS⟩
   refine yB Z (tT c27) (rN 4 Z ?_)
   obtain ⟨c28,H⟩:=iN H
   obtain ⟨e29,h30,H⟩:=Cr H
   obtain ⟨c31,H⟩:=iN H
   obtain ⟨e32,h33,H⟩:=Cr H
   obtain ⟨t34,h35,H⟩:=bI H
   refine G.lex mixed [0,1,2,4,5,6,3,7,8,9] (by kernel_rfl) ?_
   replace HS:=HS.drew
   refine GX.ps 2 Z (qL Z Z (fun _ _ g=>iX Z U54 Oz (rk r_a HS) c28 g) Z (GX.ps 2 Z (qL Z Z (fun _ _ g=>iX Z U54 Oz (rk r_b HS) c31 g) Z (GX.l1 Z Z Z (fun _ g=>GO.J4 (T:=Au) (n:=a1.toNat) HS r_a Z Z (Ba (ltN c28) h30) Ni Z g) Z (GX.l1 Z Z Z (fun _ g=>GO.J4 (T:=Au) (n:=a1.toNat) HS r_b Z Z (Ba (ltN c31) h33) Ni Z g) Z (GX.l2 Z (fJ wL Z (K4.calls HS  h35) (fun _ wd36 ⟨h37,HS⟩=>⟨_,h37,(GX.fin tv (GX.ps 1 Z (GX.nil ?_)))⟩))))))))
   rcases iS H with ⟨c38,H⟩ | ⟨c38,H⟩
   ·
    refine yB Z (congrArg Bool.not (Bt c38)) (rN 2 Z ?_)
    obtain rfl:=sI H
    exact rT _ func130 Z Z ⟨Z,HS⟩
   refine nB Z (congrArg Bool.not c38) (rN 4 Z (gW (h1 d1 (lR _) _ _ H HS) Z))
  exact gW (f1 K (lR _) _ _ H HS) Z
theorem Lr.calls {c1:List Ah} {e1:Int} {a1:List Ah} {d1:Int} {r1:Bool} (HS:St w0 w (L)) (r_a:Av w0 L Au A_a c_a uu c1) (r_b:Av w0 L Au A_b c_b uu a1) (H:Lr.f K c1 e1 a1 d1=some r1) :
    Calls prog 74 #[.agg [sV A_a c1 c_a,I e1].toArray,.agg [sV A_b a1 c_b,I d1].toArray] w (Lr.post w0 L r1):=by
  unfold Lr.f at H
  refine cG func74 Z ?_
  refine sQ (rG (bA HS Z fun b1 wd2 HS=>bA HS Z fun b3 wd4 HS=>aS Z (nL (rN 2 Z ?_))))
  obtain ⟨t5,h6,H⟩:=bI H
  refine rG (fL b1 0 Jr Z (lB 1 HS Z Ol Z (fL b3 0 Jr Z (lB 0 HS Z Ol Z (fJ yC Z (Em.calls HS (rD 2 r_a) (rD 2 r_b) h6) (fun _ wd7 ⟨h8,HS⟩=>⟨_,h8,(GO.not Z Z Z (nL ?_))⟩))))))
  rcases iS H with ⟨c9,H⟩ | ⟨c9,H⟩
  ·
   refine yB Z (congrArg Bool.not (Bt c9)) (rN 2 Z ?_)
   obtain rfl:=sI H
   exact rT _ func74 Z Z ⟨Z,(HS.pk 2 [] Z)⟩
  refine nB Z (congrArg Bool.not c9) (rN 3 Z (rG (fL b1 1 Qi Z (lB 1 HS Z na2 Z (fL b3 1 Qi Z (lB 0 HS Z na2 Z (GO.neq Z Z Z Z (nL ?_))))))))
  rcases iS H with ⟨c10,H⟩ | ⟨c10,H⟩
  ·
   refine yB Z (nF c10) (rN 2 Z ?_)
   obtain rfl:=sI H
   exact rT _ func74 Z Z ⟨Z,(HS.pk 2 [] Z)⟩
  refine nB Z (nT c10) (rN 3 Z ?_)
  obtain rfl:=sI H
  exact rT _ func74 Z Z ⟨Z,(HS.pk 2 [] Z)⟩
theorem Eo.calls {a_ b_:List Int} {r1:Bool} (HS:St w0 w (L)) (r_a:Av w0 L (Bi .i64) A_a c_a uu a_) (r_b:Av w0 L (Bi .i64) A_b c_b uu b_) (H:Eo.f K a_ b_=some r1) :
    Calls prog 131 #[sV A_a a_ c_a,sV A_b b_ c_b] w (Eo.post w0 L r1):=by
  unfold Eo.f at H
  refine cG func131 Z ?_
  refine rN 4 Z (rG (mV Z (lS Z Z U32 Z (mV Z (lS Z Z U32 Z (GO.neq Z Z Z Z (nL ?_)))))))
  rcases iS H with ⟨c1,H⟩ | ⟨c1,H⟩
  ·
   refine yB Z (nF c1) (rN 2 Z ?_)
   obtain rfl:=sI H
   exact rT _ func131 Z Z ⟨Z,HS⟩
  refine nB Z (nT c1) (rN 6 Z ?_)
  refine G.name (fun f1 d1=>?_)
  have e1:∀ a1,a1≤K→∀ (i_6:Int) (w:World),Eo.l1 K a1 a_ b_ i_6=some r1→St w0 w (L)→G prog 131 26 [(0,sV A_a a_ c_a),(1,sV A_b b_ c_b),(5,I i_6)] f1 w (Eo.post w0 L r1):=by
   refine lp (fun _ w H _=>by rw [Eo.l1] at H; cases H) fun b1 h1 g1 i_6 w H HS=>?_
   rw [Eo.l1] at H
   subst d1
   refine rN 2 Z (rG (pS 2 Z (lS Z Z U32 Z (GO.lss Z Z Z Z (nL ?_)))))
   rcases iS H with ⟨c11,H⟩ | ⟨c11,H⟩
   ·
    refine nB Z (tF c11) (rN 3 Z ?_)
    obtain rfl:=sI H
    exact rT _ func131 Z Z ⟨Z,HS⟩
   refine yB Z (tT c11) (rN 4 Z ?_)
   obtain ⟨c12,H⟩:=iN H
   obtain ⟨c13,H⟩:=iN H
   refine G.lex mixed [0,1,2,4,5,6,3,7,8] (by kernel_rfl) ?_
   replace HS:=HS.drew
   refine GX.ps 2 Z (qL Z Z (fun _ _ g=>iX Z U32 sz2 (rk r_a HS) c12 g) Z (GX.ps 2 Z (qL Z Z (fun _ _ g=>iX Z U32 sz2 (rk r_b HS) c13 g) Z (GX.l1 Z Z Z (fun _ g=>GO.Gb (T:=(Bi .i64)) (n:=i_6.toNat) (o:=0) HS r_a Z Z (getD_some (d:=0) (ltN c12)) Z Z na2 Z g) Z (GX.l1 Z Z Z (fun _ g=>GO.Gb (T:=(Bi .i64)) (n:=i_6.toNat) (o:=0) HS r_b Z Z (getD_some (d:=0) (ltN c13)) Z Z na2 Z g) Z (GX.ps 1 Z (GX.nil ?_)))))))
   rcases iS H with ⟨c14,H⟩ | ⟨c14,H⟩
   ·
    refine yB Z (nF c14) (rN 2 Z ?_)
    obtain rfl:=sI H
    exact rT _ func131 Z Z ⟨Z,HS⟩
   refine nB Z (nT c14) (rN 4 Z (gW (g1 b1 (lR _) _ _ H HS) Z))
  exact gW (e1 K (lR _) _ _ H HS) Z
theorem Mx.calls {e1:Int} {a1:List Int} {d1:Int} {c1:List Int} {r1:Bool} (HS:St w0 w (L)) (r_a:Av w0 L (Bi .i64) A_a c_a uu a1) (r_b:Av w0 L (Bi .i64) A_b c_b uu c1) (H:Mx.f K e1 a1 d1 c1=some r1) :
    Calls prog 75 #[.agg [I e1,sV A_a a1 c_a].toArray,.agg [I d1,sV A_b c1 c_b].toArray] w (Mx.post w0 L r1):=by
  unfold Mx.f at H
  refine cG func75 Z ?_
  refine sQ (rG (bA HS Z fun b1 wd2 HS=>bA HS Z fun b3 wd4 HS=>aS Z (nL (rN 2 Z (rG (fL b1 0 Ou Z (lB 1 HS Z na2 Z (fL b3 0 Ou Z (lB 0 HS Z na2 Z (GO.neq Z Z Z Z (nL ?_)))))))))))
  rcases iS H with ⟨c5,H⟩ | ⟨c5,H⟩
  ·
   refine yB Z (nF c5) (rN 2 Z ?_)
   obtain rfl:=sI H
   exact rT _ func75 Z Z ⟨Z,(HS.pk 2 [] Z)⟩
  refine nB Z (nT c5) (rN 3 Z ?_)
  obtain ⟨t6,h7,H⟩:=bI H
  refine rG (fL b1 1 Oi Z (lB 1 HS Z Jb Z (fL b3 1 Oi Z (lB 0 HS Z Jb Z (fJ fF Z (Eo.calls HS (rD 2 r_a) (rD 2 r_b) h7) (fun _ wd8 ⟨h9,HS⟩=>⟨_,h9,(GO.not Z Z Z (nL ?_))⟩))))))
  rcases iS H with ⟨c10,H⟩ | ⟨c10,H⟩
  ·
   refine yB Z (congrArg Bool.not (Bt c10)) (rN 2 Z ?_)
   obtain rfl:=sI H
   exact rT _ func75 Z Z ⟨Z,(HS.pk 2 [] Z)⟩
  refine nB Z (congrArg Bool.not c10) (rN 3 Z ?_)
  obtain rfl:=sI H
  exact rT _ func75 Z Z ⟨Z,(HS.pk 2 [] Z)⟩
theorem Ng.calls {d1 e1:Int} {c1 g1:Int} {a1 f1:Int} {r1:Bool} (HS:St w0 w (L)) (H:Ng.f d1 e1 c1 g1 a1 f1=some r1) :
    Calls prog 172 #[.agg [I d1,I e1,I c1].toArray,.agg [I g1,I a1,I f1].toArray] w (Ng.post w0 L r1):=by
  unfold Ng.f at H
  refine cG func172 Z ?_
  refine sQ (rG (bA HS Z fun b1 wd2 HS=>bA HS Z fun b3 wd4 HS=>aS Z (nL (rN 2 Z (rG (fL b1 0 Ot Z (lB 1 HS Z na2 Z (fL b3 0 Ot Z (lB 0 HS Z na2 Z (GO.neq Z Z Z Z (nL ?_)))))))))))
  rcases iS H with ⟨c5,H⟩ | ⟨c5,H⟩
  ·
   refine yB Z (nF c5) (rN 2 Z ?_)
   obtain rfl:=sI H
   exact rT _ func172 Z Z ⟨Z,(HS.pk 2 [] Z)⟩
  refine nB Z (nT c5) (rN 3 Z (rG (fL b1 1 Pi Z (lB 1 HS Z na2 Z (fL b3 1 Pi Z (lB 0 HS Z na2 Z (GO.neq Z Z Z Z (nL ?_))))))))
  rcases iS H with ⟨c6,H⟩ | ⟨c6,H⟩
  ·
   refine yB Z (nF c6) (rN 2 Z ?_)
   obtain rfl:=sI H
   exact rT _ func172 Z Z ⟨Z,(HS.pk 2 [] Z)⟩
  refine nB Z (nT c6) (rN 3 Z (rG (fL b1 2 Qp Z (lB 1 HS Z na2 Z (fL b3 2 Qp Z (lB 0 HS Z na2 Z (GO.neq Z Z Z Z (nL ?_))))))))
  rcases iS H with ⟨c7,H⟩ | ⟨c7,H⟩
  ·
   refine yB Z (nF c7) (rN 2 Z ?_)
   obtain rfl:=sI H
   exact rT _ func172 Z Z ⟨Z,(HS.pk 2 [] Z)⟩
  refine nB Z (nT c7) (rN 3 Z ?_)
  obtain rfl:=sI H
  exact rT _ func172 Z Z ⟨Z,(HS.pk 2 [] Z)⟩
theorem Gv.calls {a_ b_:List Cc} {r1:Bool} (HS:St w0 w (L)) (r_a:Av w0 L Ci A_a c_a uu a_) (r_b:Av w0 L Ci A_b c_b uu b_) (H:Gv.f K a_ b_=some r1) :
    Calls prog 132 #[sV A_a a_ c_a,sV A_b b_ c_b] w (Gv.post w0 L r1):=by
  unfold Gv.f at H
  refine cG func132 Z ?_
  refine rN 4 Z (rG (mV Z (lS Z Z U58 Z (mV Z (lS Z Z U58 Z (GO.neq Z Z Z Z (nL ?_)))))))
  rcases iS H with ⟨c1,H⟩ | ⟨c1,H⟩
  ·
   refine yB Z (nF c1) (rN 2 Z ?_)
   obtain rfl:=sI H
   exact rT _ func132 Z Z ⟨Z,HS⟩
  refine nB Z (nT c1) (rN 6 Z ?_)
  refine G.name (fun g1 e1=>?_)
  have f1:∀ b1,b1≤K→∀ (a1:Int) (w:World),Gv.l1 K b1 a_ b_ a1=some r1→St w0 w (L)→G prog 132 27 [(0,sV A_a a_ c_a),(1,sV A_b b_ c_b),(5,I a1)] g1 w (Gv.post w0 L r1):=by
   refine lp (fun _ w H _=>by rw [Gv.l1] at H; cases H) fun d1 i1 h1 a1 w H HS=>?_
   rw [Gv.l1] at H
   subst e1
   refine rN 2 Z (rG (pS 2 Z (lS Z Z U58 Z (GO.lss Z Z Z Z (nL ?_)))))
   rcases iS H with ⟨c27,H⟩ | ⟨c27,H⟩
   ·
    refine nB Z (tF c27) (rN 3 Z ?_)
    obtain rfl:=sI H
    exact rT _ func132 Z Z ⟨Z,HS⟩
   refine yB Z (tT c27) (rN 4 Z ?_)
   obtain ⟨c28,H⟩:=iN H
   obtain ⟨e29,h30,H⟩:=Cr H
   obtain ⟨c31,H⟩:=iN H
   obtain ⟨e32,h33,H⟩:=Cr H
   obtain ⟨t34,h35,H⟩:=bI H
   refine G.lex mixed [0,1,2,4,5,6,3,7,8,9] (by kernel_rfl) ?_
   replace HS:=HS.drew
   refine GX.ps 2 Z (qL Z Z (fun _ _ g=>iX Z U58 Sr (rk r_a HS) c28 g) Z (GX.ps 2 Z (qL Z Z (fun _ _ g=>iX Z U58 Sr (rk r_b HS) c31 g) Z (GX.l1 Z Z Z (fun _ g=>GO.J4 (T:=Ci) (n:=a1.toNat) HS r_a Z Z (Ba (ltN c28) h30) U6 Z g) Z (GX.l1 Z Z Z (fun _ g=>GO.J4 (T:=Ci) (n:=a1.toNat) HS r_b Z Z (Ba (ltN c31) h33) U6 Z g) Z (GX.l2 Z (fJ xW Z (Ng.calls HS  h35) (fun _ wd36 ⟨h37,HS⟩=>⟨_,h37,(GX.fin tv (GX.ps 1 Z (GX.nil ?_)))⟩))))))))
   rcases iS H with ⟨c38,H⟩ | ⟨c38,H⟩
   ·
    refine yB Z (congrArg Bool.not (Bt c38)) (rN 2 Z ?_)
    obtain rfl:=sI H
    exact rT _ func132 Z Z ⟨Z,HS⟩
   refine nB Z (congrArg Bool.not c38) (rN 4 Z (gW (h1 d1 (lR _) _ _ H HS) Z))
  exact gW (f1 K (lR _) _ _ H HS) Z
theorem Jh.calls {m1 k1:Int} {f1:List Cc} {g1 c1:List Int} {i1 h1:Int} {a1:List Cc} {d1 e1:List Int} {r1:Bool} (HS:St w0 w (L)) (r_a:Av w0 L Ci A_a c_a uu f1) (r_b:Av w0 L (Bi .i64) A_b c_b uu g1) (r_c:Av w0 L (Bi .i64) A_c c_c uu c1) (r_d:Av w0 L Ci A_d c_d uu a1) (r_e:Av w0 L (Bi .i64) A_e c_e uu d1) (r_f:Av w0 L (Bi .i64) A_f c_f uu e1) (H:Jh.f K m1 k1 f1 g1 c1 i1 h1 a1 d1 e1=some r1) :
    Calls prog 76 #[.agg [I m1,I k1,sV A_a f1 c_a,sV A_b g1 c_b,sV A_c c1 c_c].toArray,.agg [I i1,I h1,sV A_d a1 c_d,sV A_e d1 c_e,sV A_f e1 c_f].toArray] w (Jh.post w0 L r1):=by
  unfold Jh.f at H
  refine cG func76 Z ?_
  refine sQ (rG (bA HS Z fun b1 wd2 HS=>bA HS Z fun b3 wd4 HS=>aS Z (nL (rN 2 Z (rG (fL b1 0 Nz Z (lB 1 HS Z na2 Z (fL b3 0 Nz Z (lB 0 HS Z na2 Z (GO.neq Z Z Z Z (nL ?_)))))))))))
  rcases iS H with ⟨c5,H⟩ | ⟨c5,H⟩
  ·
   refine yB Z (nF c5) (rN 2 Z ?_)
   obtain rfl:=sI H
   exact rT _ func76 Z Z ⟨Z,(HS.pk 2 [] Z)⟩
  refine nB Z (nT c5) (rN 3 Z (rG (fL b1 1 N7 Z (lB 1 HS Z na2 Z (fL b3 1 N7 Z (lB 0 HS Z na2 Z (GO.neq Z Z Z Z (nL ?_))))))))
  rcases iS H with ⟨c6,H⟩ | ⟨c6,H⟩
  ·
   refine yB Z (nF c6) (rN 2 Z ?_)
   obtain rfl:=sI H
   exact rT _ func76 Z Z ⟨Z,(HS.pk 2 [] Z)⟩
  refine nB Z (nT c6) (rN 3 Z ?_)
  obtain ⟨t7,h8,H⟩:=bI H
  refine rG (fL b1 2 Jp Z (lB 1 HS Z Om Z (fL b3 2 Jp Z (lB 0 HS Z Om Z (fJ wN Z (Gv.calls HS (rD 2 r_a) (rD 2 r_d) h8) (fun _ wd9 ⟨h10,HS⟩=>⟨_,h10,(GO.not Z Z Z (nL ?_))⟩))))))
  rcases iS H with ⟨c11,H⟩ | ⟨c11,H⟩
  ·
   refine yB Z (congrArg Bool.not (Bt c11)) (rN 2 Z ?_)
   obtain rfl:=sI H
   exact rT _ func76 Z Z ⟨Z,(HS.pk 2 [] Z)⟩
  refine nB Z (congrArg Bool.not c11) (rN 3 Z ?_)
  obtain ⟨t12,h13,H⟩:=bI H
  refine rG (fL b1 3 Kb Z (lB 1 HS Z Jb Z (fL b3 3 Kb Z (lB 0 HS Z Jb Z (fJ fF Z (Eo.calls HS (rD 2 r_b) (rD 2 r_e) h13) (fun _ wd14 ⟨h15,HS⟩=>⟨_,h15,(GO.not Z Z Z (nL ?_))⟩))))))
  rcases iS H with ⟨c16,H⟩ | ⟨c16,H⟩
  ·
   refine yB Z (congrArg Bool.not (Bt c16)) (rN 2 Z ?_)
   obtain rfl:=sI H
   exact rT _ func76 Z Z ⟨Z,(HS.pk 2 [] Z)⟩
  refine nB Z (congrArg Bool.not c16) (rN 3 Z ?_)
  obtain ⟨t17,h18,H⟩:=bI H
  refine rG (fL b1 4 M6 Z (lB 1 HS Z Jb Z (fL b3 4 M6 Z (lB 0 HS Z Jb Z (fJ fF Z (Eo.calls HS (rD 2 r_c) (rD 2 r_f) h18) (fun _ wd19 ⟨h20,HS⟩=>⟨_,h20,(GO.not Z Z Z (nL ?_))⟩))))))
  rcases iS H with ⟨c21,H⟩ | ⟨c21,H⟩
  ·
   refine yB Z (congrArg Bool.not (Bt c21)) (rN 2 Z ?_)
   obtain rfl:=sI H
   exact rT _ func76 Z Z ⟨Z,(HS.pk 2 [] Z)⟩
  refine nB Z (congrArg Bool.not c21) (rN 3 Z ?_)
  obtain rfl:=sI H
  exact rT _ func76 Z Z ⟨Z,(HS.pk 2 [] Z)⟩
end Go.Proofs.YtjopfecenllmgaaGreatDoor
