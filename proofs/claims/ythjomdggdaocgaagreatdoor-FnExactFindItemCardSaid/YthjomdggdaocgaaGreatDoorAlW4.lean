/-
  The walks through the functions: a call comes to what its list function says.
-/
import Derived.Test.YthjomdggdaocgaaGreatDoorAlF
import Derived.Test.YthjomdggdaocgaaGreatDoorAlW2
import Derived.Test.YthjomdggdaocgaaGreatDoorAlW3
set_option linter.unusedVariables false
set_option linter.unusedSimpArgs false
namespace Go.Proofs.YthjomdggdaocgaaGreatDoor
open Go.RowKit
open Tryz
variable {w0 w : World} {L : List HObj} {K : Nat}
set_option maxRecDepth 20000
set_option maxHeartbeats 40000000
theorem impl_isItem.calls {o1 : ByteArray} {n1 : Int} {g1 : List (List GFace)} {a1 : List GCrossing} {h1 m1 : Int} {e1 : List Int} {k1 i1 : Int} {c1 : List GMove} {f1 d1 : List Int} {A_a : Option Addr} {c_a : Nat} {y_a : Nat → (Ty.slice 140 T_GFace).Lay} {A_b : Option Addr} {c_b : Nat} {A_c : Option Addr} {c_c : Nat} {A_d : Option Addr} {c_d : Nat} {A_e : Option Addr} {c_e : Nat} {A_f : Option Addr} {c_f : Nat} {r1 : Bool} (HS : St w0 w (L)) (r_a : RdIn w0 L (Ty.slice 140 T_GFace) A_a c_a y_a g1) (r_b : RdIn w0 L T_GCrossing A_b c_b (fun _ => ()) a1) (r_c : RdIn w0 L (TInt .i64) A_c c_c (fun _ => ()) e1) (r_d : RdIn w0 L T_GMove A_d c_d (fun _ => ()) c1) (r_e : RdIn w0 L (TInt .i64) A_e c_e (fun _ => ()) f1) (r_f : RdIn w0 L (TInt .i64) A_f c_f (fun _ => ()) d1) (H : impl_isItem.f K o1 n1 g1 a1 h1 m1 e1 k1 i1 c1 f1 d1 = some r1) :
    Calls prog 103 #[.agg [.string o1, I n1, .slice A_a g1.length c_a, .slice A_b a1.length c_b, I h1, I m1, .slice A_c e1.length c_c, I k1, I i1, .slice A_d c1.length c_d, .slice A_e f1.length c_e, .slice A_f d1.length c_f].toArray] w (impl_isItem.post w0 L r1) := by
  unfold impl_isItem.f at H
  refine cG func103 Z ?_
  refine sQ ?_
  refine rG ?_
  refine GO.box (cs := [.string o1, I n1, .slice A_a g1.length c_a, .slice A_b a1.length c_b, I h1, I m1, .slice A_c e1.length c_c, I k1, I i1, .slice A_d c1.length c_d, .slice A_e f1.length c_e, .slice A_f d1.length c_f]) HS Z Z Z Z ?_; intro b1 wd2 HS
  refine aS Z ?_
  refine nL ?_
  refine rN 2 Z ?_
  obtain ⟨t12, h13, H⟩ := bI H
  rcases iE H with ⟨c16, H⟩ | ⟨c16, H⟩
  ·
   obtain ⟨t17, h18, H⟩ := bI H
   refine rG ?_
   refine fL b1 0 fl48_0 Z ?_
   refine lB 0 HS Z na9 Z ?_
   refine fN Z func135 fok135.1 fok135.2 Z Z (impl_isItemName.calls HS  h13) (fun _ wd14 ⟨h15, HS⟩ => ⟨_, h15, ?_⟩)
   refine pS 2 Z ?_
   refine kN 8 Z (congrArg Bool.not c16) ?_
   refine oN Z ?_
   refine fL b1 1 fl48_1 Z ?_
   refine bK ?_
   refine oN Z ?_
   refine lB 0 HS Z na2 Z ?_
   refine bK ?_
   refine oN Z ?_
   refine fN Z func136 fok136.1 fok136.2 Z Z (impl_inRange.calls HS  h18) (fun _ wd19 ⟨h20, HS⟩ => ⟨_, h20, ?_⟩)
   refine bK ?_
   refine oN Z ?_
   refine GO.not Z Z Z ?_
   refine bK ?_
   refine GO.pickF Z Z Z Z Z ?_
   refine nL ?_
   rcases iE H with ⟨c21, H⟩ | ⟨c21, H⟩
   ·
    refine nB Z (congrArg Bool.not c21) ?_
    refine rN 2 Z ?_
    obtain ⟨t22, t23, t24, t25, h26, H⟩ := bind4_elim H
    refine rG ?_
    refine GO.ldBoxA (j := 0) ([.string o1, I n1, .slice A_a g1.length c_a, .slice A_b a1.length c_b, I h1, I m1, .slice A_c e1.length c_c, I k1, I i1, .slice A_d c1.length c_d, .slice A_e f1.length c_e, .slice A_f d1.length c_f]) HS Z Z Z Z ag48 Z ?_
    refine fN Z func137 fok137.1 fok137.2 Z Z (impl_fields.calls HS (rD 1 r_a) (rD 1 r_b) (rD 1 r_c) (rD 1 r_d) (rD 1 r_e) (rD 1 r_f) h26) (fun _ wd27 ⟨h28, HS⟩ => ⟨_, h28, ?_⟩)
    refine GO.alloc HS Z zr164 Z Z ?_; intro b29 wd30 HS
    refine GO.stBox (j := 0) (vs := [.bool t22, .bool t23, .bool t24, .bool t25]) ([.bool t22, .bool t23, .bool t24, .bool t25]) HS Z Z Z Z Z (htA ag164) Z Z Z ?_; intro wd31 HS
    refine nL ?_
    refine sQ ?_
    rcases iE H with ⟨c32, H⟩ | ⟨c32, H⟩
    ·
     refine rG ?_
     refine fL b1 1 fl48_1 Z ?_
     refine lB 1 HS Z na2 Z ?_
     refine GO.sub Z Z Z Z ?_
     refine GO.ixP 0 Z Z Z c32 underlying164 sz4 Z Z ?_
     refine GO.stBox (j := 0) (vs := [.bool false]) ([.bool false, .bool t23, .bool t24, .bool t25]) HS Z Z Z Z Z (htN na4 Z) Z Z Z ?_; intro wd33 HS
     refine nL ?_
     refine rN 2 Z ?_
     refine rG ?_
     refine GO.ldBoxA (j := 0) ([.bool false, .bool t23, .bool t24, .bool t25]) HS Z Z Z Z ag164 Z ?_
     refine GO.buildV (.agg [.bool false, .bool false, .bool false, .bool false].toArray) Z Z (fun _ => by kernel_rfl) Z ?_
     refine GO.neqA Z Z Z ng164 (fun _ => eq164) Z ?_
     refine nL ?_
     rcases iE H with ⟨c34, H⟩ | ⟨c34, H⟩
     ·
      refine nB Z (nT c34) ?_
      refine rN 3 Z ?_
      refine rG ?_
      refine fL b1 1 fl48_1 Z ?_
      refine lB 1 HS Z na2 Z ?_
      refine nL ?_
      refine rN 3 Z ?_
      rcases iE H with ⟨c35, H⟩ | ⟨c35, H⟩
      ·
       refine yB Z (tT c35) ?_
       refine sQ ?_
       obtain ⟨t36, h37, H⟩ := bI H
       refine rG ?_
       refine fL b1 2 fl48_2 Z ?_
       refine GO.ldBoxA (j := 1) ([.slice A_a g1.length c_a]) HS Z Z Z Z ag37 Z ?_
       refine fN Z func138 fok138.1 fok138.2 Z Z (impl_isTriangulation.calls HS (rD 2 r_a) h37) (fun _ wd38 ⟨h39, HS⟩ => ⟨_, h39, ?_⟩)
       refine aS Z ?_
       refine nL ?_
       obtain rfl := sI H
       exact rT _ func103 Z Z ⟨Z, (HS.pk 2 [] Z)⟩
      refine nB Z (tF c35) ?_
      refine rN 2 Z ?_
      rcases iE H with ⟨c40, H⟩ | ⟨c40, H⟩
      ·
       refine yB Z (tT c40) ?_
       refine sQ ?_
       obtain ⟨t41, h42, H⟩ := bI H
       refine rG ?_
       refine fL b1 3 fl48_3 Z ?_
       refine GO.ldBoxA (j := 1) ([.slice A_b a1.length c_b, I h1]) HS Z Z Z Z ag40 Z ?_
       refine fN Z func139 fok139.1 fok139.2 Z Z (impl_isDiagram.calls HS (rD 2 r_b) h42) (fun _ wd43 ⟨h44, HS⟩ => ⟨_, h44, ?_⟩)
       refine aS Z ?_
       refine nL ?_
       obtain rfl := sI H
       exact rT _ func103 Z Z ⟨Z, (HS.pk 2 [] Z)⟩
      refine nB Z (tF c40) ?_
      refine rN 2 Z ?_
      rcases iE H with ⟨c45, H⟩ | ⟨c45, H⟩
      ·
       refine yB Z (tT c45) ?_
       refine sQ ?_
       obtain ⟨t46, h47, H⟩ := bI H
       refine rG ?_
       refine fL b1 5 fl48_4 Z ?_
       refine GO.ldBoxA (j := 1) ([I m1, .slice A_c e1.length c_c]) HS Z Z Z Z ag43 Z ?_
       refine fN Z func140 fok140.1 fok140.2 Z Z (impl_isBraid.calls HS (rD 2 r_c) h47) (fun _ wd48 ⟨h49, HS⟩ => ⟨_, h49, ?_⟩)
       refine aS Z ?_
       refine nL ?_
       obtain rfl := sI H
       exact rT _ func103 Z Z ⟨Z, (HS.pk 2 [] Z)⟩
      refine nB Z (tF c45) ?_
      refine rN 3 Z ?_
      obtain ⟨t50, h51, H⟩ := bI H
      refine rG ?_
      refine fL b1 7 fl48_5 Z ?_
      refine GO.ldBoxA (j := 1) ([I k1, I i1, .slice A_d c1.length c_d, .slice A_e f1.length c_e, .slice A_f d1.length c_f]) HS Z Z Z Z ag46 Z ?_
      refine fN Z func141 fok141.1 fok141.2 Z Z (impl_isPlain.calls HS (rD 2 r_d) (rD 2 r_e) (rD 2 r_f) h51) (fun _ wd52 ⟨h53, HS⟩ => ⟨_, h53, ?_⟩)
      refine aS Z ?_
      refine nL ?_
      obtain rfl := sI H
      exact rT _ func103 Z Z ⟨Z, (HS.pk 2 [] Z)⟩
     refine yB Z (nF c34) ?_
     refine rN 2 Z ?_
     obtain rfl := sI H
     exact rT _ func103 Z Z ⟨Z, (HS.pk 2 [] Z)⟩
    rcases iE H with ⟨c54, H⟩ | ⟨c54, H⟩
    ·
     refine rG ?_
     refine fL b1 1 fl48_1 Z ?_
     refine lB 1 HS Z na2 Z ?_
     refine GO.sub Z Z Z Z ?_
     refine GO.ixP 1 Z Z Z c54 underlying164 sz4 Z Z ?_
     refine GO.stBox (j := 0) (vs := [.bool false]) ([.bool t22, .bool false, .bool t24, .bool t25]) HS Z Z Z Z Z (htN na4 Z) Z Z Z ?_; intro wd55 HS
     refine nL ?_
     refine rN 2 Z ?_
     refine rG ?_
     refine GO.ldBoxA (j := 0) ([.bool t22, .bool false, .bool t24, .bool t25]) HS Z Z Z Z ag164 Z ?_
     refine GO.buildV (.agg [.bool false, .bool false, .bool false, .bool false].toArray) Z Z (fun _ => by kernel_rfl) Z ?_
     refine GO.neqA Z Z Z ng164 (fun _ => eq164) Z ?_
     refine nL ?_
     rcases iE H with ⟨c56, H⟩ | ⟨c56, H⟩
     ·
      refine nB Z (nT c56) ?_
      refine rN 3 Z ?_
      refine rG ?_
      refine fL b1 1 fl48_1 Z ?_
      refine lB 1 HS Z na2 Z ?_
      refine nL ?_
      refine rN 3 Z ?_
      rcases iE H with ⟨c57, H⟩ | ⟨c57, H⟩
      ·
       refine yB Z (tT c57) ?_
       refine sQ ?_
       obtain ⟨t58, h59, H⟩ := bI H
       refine rG ?_
       refine fL b1 2 fl48_2 Z ?_
       refine GO.ldBoxA (j := 1) ([.slice A_a g1.length c_a]) HS Z Z Z Z ag37 Z ?_
       refine fN Z func138 fok138.1 fok138.2 Z Z (impl_isTriangulation.calls HS (rD 2 r_a) h59) (fun _ wd60 ⟨h61, HS⟩ => ⟨_, h61, ?_⟩)
       refine aS Z ?_
       refine nL ?_
       obtain rfl := sI H
       exact rT _ func103 Z Z ⟨Z, (HS.pk 2 [] Z)⟩
      refine nB Z (tF c57) ?_
      refine rN 2 Z ?_
      rcases iE H with ⟨c62, H⟩ | ⟨c62, H⟩
      ·
       refine yB Z (tT c62) ?_
       refine sQ ?_
       obtain ⟨t63, h64, H⟩ := bI H
       refine rG ?_
       refine fL b1 3 fl48_3 Z ?_
       refine GO.ldBoxA (j := 1) ([.slice A_b a1.length c_b, I h1]) HS Z Z Z Z ag40 Z ?_
       refine fN Z func139 fok139.1 fok139.2 Z Z (impl_isDiagram.calls HS (rD 2 r_b) h64) (fun _ wd65 ⟨h66, HS⟩ => ⟨_, h66, ?_⟩)
       refine aS Z ?_
       refine nL ?_
       obtain rfl := sI H
       exact rT _ func103 Z Z ⟨Z, (HS.pk 2 [] Z)⟩
      refine nB Z (tF c62) ?_
      refine rN 2 Z ?_
      rcases iE H with ⟨c67, H⟩ | ⟨c67, H⟩
      ·
       refine yB Z (tT c67) ?_
       refine sQ ?_
       obtain ⟨t68, h69, H⟩ := bI H
       refine rG ?_
       refine fL b1 5 fl48_4 Z ?_
       refine GO.ldBoxA (j := 1) ([I m1, .slice A_c e1.length c_c]) HS Z Z Z Z ag43 Z ?_
       refine fN Z func140 fok140.1 fok140.2 Z Z (impl_isBraid.calls HS (rD 2 r_c) h69) (fun _ wd70 ⟨h71, HS⟩ => ⟨_, h71, ?_⟩)
       refine aS Z ?_
       refine nL ?_
       obtain rfl := sI H
       exact rT _ func103 Z Z ⟨Z, (HS.pk 2 [] Z)⟩
      refine nB Z (tF c67) ?_
      refine rN 3 Z ?_
      obtain ⟨t72, h73, H⟩ := bI H
      refine rG ?_
      refine fL b1 7 fl48_5 Z ?_
      refine GO.ldBoxA (j := 1) ([I k1, I i1, .slice A_d c1.length c_d, .slice A_e f1.length c_e, .slice A_f d1.length c_f]) HS Z Z Z Z ag46 Z ?_
      refine fN Z func141 fok141.1 fok141.2 Z Z (impl_isPlain.calls HS (rD 2 r_d) (rD 2 r_e) (rD 2 r_f) h73) (fun _ wd74 ⟨h75, HS⟩ => ⟨_, h75, ?_⟩)
      refine aS Z ?_
      refine nL ?_
      obtain rfl := sI H
      exact rT _ func103 Z Z ⟨Z, (HS.pk 2 [] Z)⟩
     refine yB Z (nF c56) ?_
     refine rN 2 Z ?_
     obtain rfl := sI H
     exact rT _ func103 Z Z ⟨Z, (HS.pk 2 [] Z)⟩
    rcases iE H with ⟨c76, H⟩ | ⟨c76, H⟩
    ·
     refine rG ?_
     refine fL b1 1 fl48_1 Z ?_
     refine lB 1 HS Z na2 Z ?_
     refine GO.sub Z Z Z Z ?_
     refine GO.ixP 2 Z Z Z c76 underlying164 sz4 Z Z ?_
     refine GO.stBox (j := 0) (vs := [.bool false]) ([.bool t22, .bool t23, .bool false, .bool t25]) HS Z Z Z Z Z (htN na4 Z) Z Z Z ?_; intro wd77 HS
     refine nL ?_
     refine rN 2 Z ?_
     refine rG ?_
     refine GO.ldBoxA (j := 0) ([.bool t22, .bool t23, .bool false, .bool t25]) HS Z Z Z Z ag164 Z ?_
     refine GO.buildV (.agg [.bool false, .bool false, .bool false, .bool false].toArray) Z Z (fun _ => by kernel_rfl) Z ?_
     refine GO.neqA Z Z Z ng164 (fun _ => eq164) Z ?_
     refine nL ?_
     rcases iE H with ⟨c78, H⟩ | ⟨c78, H⟩
     ·
      refine nB Z (nT c78) ?_
      refine rN 3 Z ?_
      refine rG ?_
      refine fL b1 1 fl48_1 Z ?_
      refine lB 1 HS Z na2 Z ?_
      refine nL ?_
      refine rN 3 Z ?_
      rcases iE H with ⟨c79, H⟩ | ⟨c79, H⟩
      ·
       refine yB Z (tT c79) ?_
       refine sQ ?_
       obtain ⟨t80, h81, H⟩ := bI H
       refine rG ?_
       refine fL b1 2 fl48_2 Z ?_
       refine GO.ldBoxA (j := 1) ([.slice A_a g1.length c_a]) HS Z Z Z Z ag37 Z ?_
       refine fN Z func138 fok138.1 fok138.2 Z Z (impl_isTriangulation.calls HS (rD 2 r_a) h81) (fun _ wd82 ⟨h83, HS⟩ => ⟨_, h83, ?_⟩)
       refine aS Z ?_
       refine nL ?_
       obtain rfl := sI H
       exact rT _ func103 Z Z ⟨Z, (HS.pk 2 [] Z)⟩
      refine nB Z (tF c79) ?_
      refine rN 2 Z ?_
      rcases iE H with ⟨c84, H⟩ | ⟨c84, H⟩
      ·
       refine yB Z (tT c84) ?_
       refine sQ ?_
       obtain ⟨t85, h86, H⟩ := bI H
       refine rG ?_
       refine fL b1 3 fl48_3 Z ?_
       refine GO.ldBoxA (j := 1) ([.slice A_b a1.length c_b, I h1]) HS Z Z Z Z ag40 Z ?_
       refine fN Z func139 fok139.1 fok139.2 Z Z (impl_isDiagram.calls HS (rD 2 r_b) h86) (fun _ wd87 ⟨h88, HS⟩ => ⟨_, h88, ?_⟩)
       refine aS Z ?_
       refine nL ?_
       obtain rfl := sI H
       exact rT _ func103 Z Z ⟨Z, (HS.pk 2 [] Z)⟩
      refine nB Z (tF c84) ?_
      refine rN 2 Z ?_
      rcases iE H with ⟨c89, H⟩ | ⟨c89, H⟩
      ·
       refine yB Z (tT c89) ?_
       refine sQ ?_
       obtain ⟨t90, h91, H⟩ := bI H
       refine rG ?_
       refine fL b1 5 fl48_4 Z ?_
       refine GO.ldBoxA (j := 1) ([I m1, .slice A_c e1.length c_c]) HS Z Z Z Z ag43 Z ?_
       refine fN Z func140 fok140.1 fok140.2 Z Z (impl_isBraid.calls HS (rD 2 r_c) h91) (fun _ wd92 ⟨h93, HS⟩ => ⟨_, h93, ?_⟩)
       refine aS Z ?_
       refine nL ?_
       obtain rfl := sI H
       exact rT _ func103 Z Z ⟨Z, (HS.pk 2 [] Z)⟩
      refine nB Z (tF c89) ?_
      refine rN 3 Z ?_
      obtain ⟨t94, h95, H⟩ := bI H
      refine rG ?_
      refine fL b1 7 fl48_5 Z ?_
      refine GO.ldBoxA (j := 1) ([I k1, I i1, .slice A_d c1.length c_d, .slice A_e f1.length c_e, .slice A_f d1.length c_f]) HS Z Z Z Z ag46 Z ?_
      refine fN Z func141 fok141.1 fok141.2 Z Z (impl_isPlain.calls HS (rD 2 r_d) (rD 2 r_e) (rD 2 r_f) h95) (fun _ wd96 ⟨h97, HS⟩ => ⟨_, h97, ?_⟩)
      refine aS Z ?_
      refine nL ?_
      obtain rfl := sI H
      exact rT _ func103 Z Z ⟨Z, (HS.pk 2 [] Z)⟩
     refine yB Z (nF c78) ?_
     refine rN 2 Z ?_
     obtain rfl := sI H
     exact rT _ func103 Z Z ⟨Z, (HS.pk 2 [] Z)⟩
    rcases iE H with ⟨c98, H⟩ | ⟨c98, H⟩
    ·
     refine rG ?_
     refine fL b1 1 fl48_1 Z ?_
     refine lB 1 HS Z na2 Z ?_
     refine GO.sub Z Z Z Z ?_
     refine GO.ixP 3 Z Z Z c98 underlying164 sz4 Z Z ?_
     refine GO.stBox (j := 0) (vs := [.bool false]) ([.bool t22, .bool t23, .bool t24, .bool false]) HS Z Z Z Z Z (htN na4 Z) Z Z Z ?_; intro wd99 HS
     refine nL ?_
     refine rN 2 Z ?_
     refine rG ?_
     refine GO.ldBoxA (j := 0) ([.bool t22, .bool t23, .bool t24, .bool false]) HS Z Z Z Z ag164 Z ?_
     refine GO.buildV (.agg [.bool false, .bool false, .bool false, .bool false].toArray) Z Z (fun _ => by kernel_rfl) Z ?_
     refine GO.neqA Z Z Z ng164 (fun _ => eq164) Z ?_
     refine nL ?_
     rcases iE H with ⟨c100, H⟩ | ⟨c100, H⟩
     ·
      refine nB Z (nT c100) ?_
      refine rN 3 Z ?_
      refine rG ?_
      refine fL b1 1 fl48_1 Z ?_
      refine lB 1 HS Z na2 Z ?_
      refine nL ?_
      refine rN 3 Z ?_
      rcases iE H with ⟨c101, H⟩ | ⟨c101, H⟩
      ·
       refine yB Z (tT c101) ?_
       refine sQ ?_
       obtain ⟨t102, h103, H⟩ := bI H
       refine rG ?_
       refine fL b1 2 fl48_2 Z ?_
       refine GO.ldBoxA (j := 1) ([.slice A_a g1.length c_a]) HS Z Z Z Z ag37 Z ?_
       refine fN Z func138 fok138.1 fok138.2 Z Z (impl_isTriangulation.calls HS (rD 2 r_a) h103) (fun _ wd104 ⟨h105, HS⟩ => ⟨_, h105, ?_⟩)
       refine aS Z ?_
       refine nL ?_
       obtain rfl := sI H
       exact rT _ func103 Z Z ⟨Z, (HS.pk 2 [] Z)⟩
      refine nB Z (tF c101) ?_
      refine rN 2 Z ?_
      rcases iE H with ⟨c106, H⟩ | ⟨c106, H⟩
      ·
       refine yB Z (tT c106) ?_
       refine sQ ?_
       obtain ⟨t107, h108, H⟩ := bI H
       refine rG ?_
       refine fL b1 3 fl48_3 Z ?_
       refine GO.ldBoxA (j := 1) ([.slice A_b a1.length c_b, I h1]) HS Z Z Z Z ag40 Z ?_
       refine fN Z func139 fok139.1 fok139.2 Z Z (impl_isDiagram.calls HS (rD 2 r_b) h108) (fun _ wd109 ⟨h110, HS⟩ => ⟨_, h110, ?_⟩)
       refine aS Z ?_
       refine nL ?_
       obtain rfl := sI H
       exact rT _ func103 Z Z ⟨Z, (HS.pk 2 [] Z)⟩
      refine nB Z (tF c106) ?_
      refine rN 2 Z ?_
      rcases iE H with ⟨c111, H⟩ | ⟨c111, H⟩
      ·
       refine yB Z (tT c111) ?_
       refine sQ ?_
       obtain ⟨t112, h113, H⟩ := bI H
       refine rG ?_
       refine fL b1 5 fl48_4 Z ?_
       refine GO.ldBoxA (j := 1) ([I m1, .slice A_c e1.length c_c]) HS Z Z Z Z ag43 Z ?_
       refine fN Z func140 fok140.1 fok140.2 Z Z (impl_isBraid.calls HS (rD 2 r_c) h113) (fun _ wd114 ⟨h115, HS⟩ => ⟨_, h115, ?_⟩)
       refine aS Z ?_
       refine nL ?_
       obtain rfl := sI H
       exact rT _ func103 Z Z ⟨Z, (HS.pk 2 [] Z)⟩
      refine nB Z (tF c111) ?_
      refine rN 3 Z ?_
      obtain ⟨t116, h117, H⟩ := bI H
      refine rG ?_
      refine fL b1 7 fl48_5 Z ?_
      refine GO.ldBoxA (j := 1) ([I k1, I i1, .slice A_d c1.length c_d, .slice A_e f1.length c_e, .slice A_f d1.length c_f]) HS Z Z Z Z ag46 Z ?_
      refine fN Z func141 fok141.1 fok141.2 Z Z (impl_isPlain.calls HS (rD 2 r_d) (rD 2 r_e) (rD 2 r_f) h117) (fun _ wd118 ⟨h119, HS⟩ => ⟨_, h119, ?_⟩)
      refine aS Z ?_
      refine nL ?_
      obtain rfl := sI H
      exact rT _ func103 Z Z ⟨Z, (HS.pk 2 [] Z)⟩
     refine yB Z (nF c100) ?_
     refine rN 2 Z ?_
     obtain rfl := sI H
     exact rT _ func103 Z Z ⟨Z, (HS.pk 2 [] Z)⟩
    cases H
   refine yB Z (congrArg Bool.not (bnot_of c21)) ?_
   refine rN 2 Z ?_
   obtain rfl := sI H
   exact rT _ func103 Z Z ⟨Z, (HS.pk 1 [] Z)⟩
  refine rG ?_
  refine fL b1 0 fl48_0 Z ?_
  refine lB 0 HS Z na9 Z ?_
  refine fN Z func135 fok135.1 fok135.2 Z Z (impl_isItemName.calls HS  h13) (fun _ wd14 ⟨h15, HS⟩ => ⟨_, h15, ?_⟩)
  refine pS 2 Z ?_
  refine kN 8 Z (congrArg Bool.not (bnot_of c16)) ?_
  refine oF Z ?_
  refine oF Z ?_
  refine oF Z ?_
  refine oF Z ?_
  refine GO.pickT Z Z Z Z Z ?_
  refine nL ?_
  refine rN 3 Z ?_
  obtain rfl := sI H
  exact rT _ func103 Z Z ⟨Z, (HS.pk 1 [] Z)⟩
theorem impl_areItems.calls {items : List GItem} {A_a : Option Addr} {c_a : Nat} {y_a : Nat → T_GItem_47.Lay} {r1 : Bool} (HS : St w0 w (L)) (r_a : RdIn w0 L T_GItem_47 A_a c_a y_a items) (H : impl_areItems.f K items = some r1) :
    Calls prog 62 #[.slice A_a items.length c_a] w (impl_areItems.post w0 L r1) := by
  unfold impl_areItems.f at H
  refine cG func62 Z ?_
  refine rN 4 Z (rG (mV Z (lS Z Z underlying28 Z (mV Z (nL (rN 2 Z ?_))))))
  refine G.name (fun g1 e1 => ?_)
  have f1 : ∀ a1, a1 ≤ K → ∀ (x13 : Int) (w : World), impl_areItems.l1 K a1 items x13 = some r1 → St w0 w (L) → G prog 62 34 [(0, .slice A_a items.length c_a), (5, .slice A_a items.length c_a), (6, I (items.length : Int)), (7, I x13)] g1 w (impl_areItems.post w0 L r1) := by
   intro a1
   induction a1 using Nat.strongRecOn with
   | _ a1 b1 =>
    intro d1 x13 w H HS
    cases a1 with
    | zero => rw [impl_areItems.l1] at H; cases H
    | succ c1 =>
     rw [impl_areItems.l1] at H
     subst e1
     refine rN 3 Z ?_
     rcases iE H with ⟨c31, H⟩ | ⟨c31, H⟩
     ·
      refine yB Z (tT c31) (rN 4 Z ?_)
      obtain ⟨c32, H⟩ := iN H
      obtain ⟨e33, h34, H⟩ := bnd_elim H
      refine rG (mV Z (GO.ix Z Z Z underlying28 sz48 (r_a _ HS).2.2.1 c32.1 c32.2 Z (GO.ldRdA (T := T_GItem_47) (n := x13.toNat) HS r_a Z Z (getD_eq (ltN c32) h34) ag48 Z (GO.alloc HS Z zr48 Z Z fun b35 wd36 HS => aS Z (GO.stBox (j := 0) (vs := [.string e33.Name, I e33.Kind, .slice ((y_a x13.toNat).2.2.1.A) e33.Triangulation_Tets.length ((y_a x13.toNat).2.2.1.c), .slice ((y_a x13.toNat).2.2.2.1.A) e33.Diagram_Crossings.length ((y_a x13.toNat).2.2.2.1.c), I e33.Diagram_Circles, I e33.Braid_Strands, .slice ((y_a x13.toNat).2.2.2.2.2.2.1.A) e33.Braid_Word.length ((y_a x13.toNat).2.2.2.2.2.2.1.c), I e33.Certificate_Name, I e33.Certificate_Trait, .slice ((y_a x13.toNat).2.2.2.2.2.2.2.2.2.1.A) e33.Certificate_Moves.length ((y_a x13.toNat).2.2.2.2.2.2.2.2.2.1.c), .slice ((y_a x13.toNat).2.2.2.2.2.2.2.2.2.2.1.A) e33.Certificate_Tets.length ((y_a x13.toNat).2.2.2.2.2.2.2.2.2.2.1.c), .slice ((y_a x13.toNat).2.2.2.2.2.2.2.2.2.2.2.A) e33.Certificate_Perms.length ((y_a x13.toNat).2.2.2.2.2.2.2.2.2.2.2.c)]) ([.string e33.Name, I e33.Kind, .slice ((y_a x13.toNat).2.2.1.A) e33.Triangulation_Tets.length ((y_a x13.toNat).2.2.1.c), .slice ((y_a x13.toNat).2.2.2.1.A) e33.Diagram_Crossings.length ((y_a x13.toNat).2.2.2.1.c), I e33.Diagram_Circles, I e33.Braid_Strands, .slice ((y_a x13.toNat).2.2.2.2.2.2.1.A) e33.Braid_Word.length ((y_a x13.toNat).2.2.2.2.2.2.1.c), I e33.Certificate_Name, I e33.Certificate_Trait, .slice ((y_a x13.toNat).2.2.2.2.2.2.2.2.2.1.A) e33.Certificate_Moves.length ((y_a x13.toNat).2.2.2.2.2.2.2.2.2.1.c), .slice ((y_a x13.toNat).2.2.2.2.2.2.2.2.2.2.1.A) e33.Certificate_Tets.length ((y_a x13.toNat).2.2.2.2.2.2.2.2.2.2.1.c), .slice ((y_a x13.toNat).2.2.2.2.2.2.2.2.2.2.2.A) e33.Certificate_Perms.length ((y_a x13.toNat).2.2.2.2.2.2.2.2.2.2.2.c)]) HS Z Z Z Z Z (htA ag48) Z Z Z fun wd37 HS => nL (sQ ?_))))))
      obtain ⟨t38, h39, H⟩ := bI H
      rcases iE H with ⟨c42, H⟩ | ⟨c42, H⟩
      ·
       rcases iE H with ⟨c43, H⟩ | ⟨c43, H⟩
       ·
        obtain ⟨c44, H⟩ := iN H
        obtain ⟨e45, h46, H⟩ := bnd_elim H
        refine G.lex mixed [0, 1, 2, 3, 4, 5, 6, 7, 8, 9, 10, 11, 13, 12, 14, 15, 16, 17] (by kernel_rfl) ?_
        replace HS := HS.drew
        refine GX.l1 Z Z Z (fun _ g => GO.ldBoxA (j := 0) ([.string e33.Name, I e33.Kind, .slice ((y_a x13.toNat).2.2.1.A) e33.Triangulation_Tets.length ((y_a x13.toNat).2.2.1.c), .slice ((y_a x13.toNat).2.2.2.1.A) e33.Diagram_Crossings.length ((y_a x13.toNat).2.2.2.1.c), I e33.Diagram_Circles, I e33.Braid_Strands, .slice ((y_a x13.toNat).2.2.2.2.2.2.1.A) e33.Braid_Word.length ((y_a x13.toNat).2.2.2.2.2.2.1.c), I e33.Certificate_Name, I e33.Certificate_Trait, .slice ((y_a x13.toNat).2.2.2.2.2.2.2.2.2.1.A) e33.Certificate_Moves.length ((y_a x13.toNat).2.2.2.2.2.2.2.2.2.1.c), .slice ((y_a x13.toNat).2.2.2.2.2.2.2.2.2.2.1.A) e33.Certificate_Tets.length ((y_a x13.toNat).2.2.2.2.2.2.2.2.2.2.1.c), .slice ((y_a x13.toNat).2.2.2.2.2.2.2.2.2.2.2.A) e33.Certificate_Perms.length ((y_a x13.toNat).2.2.2.2.2.2.2.2.2.2.2.c)]) HS Z Z Z Z ag48 Z g) Z (GX.l2 Z (fN Z func103 fok103.1 fok103.2 Z Z (impl_isItem.calls HS (RdIn.fld (rD 1 r_a) (getD_eq (ltN c32) h34) (fun _ h => h.2.2.1)) (RdIn.fld (rD 1 r_a) (getD_eq (ltN c32) h34) (fun _ h => h.2.2.2.1)) (RdIn.fld (rD 1 r_a) (getD_eq (ltN c32) h34) (fun _ h => h.2.2.2.2.2.2.1)) (RdIn.fld (rD 1 r_a) (getD_eq (ltN c32) h34) (fun _ h => h.2.2.2.2.2.2.2.2.2.1)) (RdIn.fld (rD 1 r_a) (getD_eq (ltN c32) h34) (fun _ h => h.2.2.2.2.2.2.2.2.2.2.1)) (RdIn.fld (rD 1 r_a) (getD_eq (ltN c32) h34) (fun _ h => h.2.2.2.2.2.2.2.2.2.2.2)) h39) (fun _ wd40 ⟨h41, HS⟩ => ⟨_, h41, (GX.fin tv (GX.ps 1 Z (qL Z Z (fun _ _ g => mV Z (kN 15 Z (congrArg Bool.not c42) g)) Z (qL Z Z (fun _ _ g => oN Z (mV Z (bK g))) Z (qL Z Z (fun _ _ g => oN Z (GO.gtr Z Z Z Z (bK g))) Z (qL Z Z (fun _ _ g => oN Z (mV Z (bK (kN 18 Z (tT c43) g)))) Z (qL Z Z (fun _ _ g => oN Z (mV Z (bK g))) Z (qL Z Z (fun _ _ g => oN Z (mV Z (bK g))) Z (qL Z Z (fun _ _ g => oN Z (GO.sub Z Z Z Z (bK g))) Z (qL Z Z (fun _ _ g => oN Z (GO.ix Z Z Z underlying28 sz48 ((rD 1 r_a) _ HS).2.2.1 c44.1 c44.2 Z (bK g))) Z (qL Z Z (fun _ _ g => oN Z (GO.fld (ea A_a (((w64 (x13 - 1)).toNat) * 12)) Z Z fl48_0 Z Z (bK g))) Z (qL Z Z (fun _ _ g => oN Z (fL b35 0 fl48_0 Z (bK g))) Z ?_))))))))))))⟩)))
        refine GX.l1 Z Z Z (fun _ g => oN Z (GO.ldRd (T := T_GItem_47) (n := (w64 (x13 - 1)).toNat) (o := 0) HS (rD 1 r_a) Z Z (getD_eq (ltN c44) h46) Z Z na9 Z (bK g))) Z (GX.l1 Z Z Z (fun _ g => oN Z (lB 0 HS Z na9 Z (bK g))) Z (qL Z Z (fun _ _ g => oN Z (GO.geqS Z Z Z Z (bK g))) Z (qL Z Z (fun _ _ g => oN Z (GO.pickT Z Z Z Z Z (bK g))) Z (GX.ps 1 Z (GX.nil ?_)))))
        rcases iE H with ⟨c47, H⟩ | ⟨c47, H⟩
        ·
         refine nB Z (congrArg Bool.not c47) (rN 4 Z (G.weak ?_ (b1 c1 (Nat.lt_succ_of_le (lR _)) (Nat.le_of_succ_le d1) _ _ H (HS.pk 1 [] Z))))
         exact ⟨Z, Z, Z, Z, tv⟩
        refine yB Z (congrArg Bool.not (bnot_of c47)) (rN 2 Z ?_)
        obtain rfl := sI H
        exact rT _ func62 Z Z ⟨Z, (HS.pk 1 [] Z)⟩
       refine G.lex mixed [0, 1, 2, 3, 4, 5, 6, 7, 8, 9, 10, 11, 13, 12, 14, 15, 16, 17] (by kernel_rfl) ?_
       replace HS := HS.drew
       refine GX.l1 Z Z Z (fun _ g => GO.ldBoxA (j := 0) ([.string e33.Name, I e33.Kind, .slice ((y_a x13.toNat).2.2.1.A) e33.Triangulation_Tets.length ((y_a x13.toNat).2.2.1.c), .slice ((y_a x13.toNat).2.2.2.1.A) e33.Diagram_Crossings.length ((y_a x13.toNat).2.2.2.1.c), I e33.Diagram_Circles, I e33.Braid_Strands, .slice ((y_a x13.toNat).2.2.2.2.2.2.1.A) e33.Braid_Word.length ((y_a x13.toNat).2.2.2.2.2.2.1.c), I e33.Certificate_Name, I e33.Certificate_Trait, .slice ((y_a x13.toNat).2.2.2.2.2.2.2.2.2.1.A) e33.Certificate_Moves.length ((y_a x13.toNat).2.2.2.2.2.2.2.2.2.1.c), .slice ((y_a x13.toNat).2.2.2.2.2.2.2.2.2.2.1.A) e33.Certificate_Tets.length ((y_a x13.toNat).2.2.2.2.2.2.2.2.2.2.1.c), .slice ((y_a x13.toNat).2.2.2.2.2.2.2.2.2.2.2.A) e33.Certificate_Perms.length ((y_a x13.toNat).2.2.2.2.2.2.2.2.2.2.2.c)]) HS Z Z Z Z ag48 Z g) Z (GX.l2 Z (fN Z func103 fok103.1 fok103.2 Z Z (impl_isItem.calls HS (RdIn.fld (rD 1 r_a) (getD_eq (ltN c32) h34) (fun _ h => h.2.2.1)) (RdIn.fld (rD 1 r_a) (getD_eq (ltN c32) h34) (fun _ h => h.2.2.2.1)) (RdIn.fld (rD 1 r_a) (getD_eq (ltN c32) h34) (fun _ h => h.2.2.2.2.2.2.1)) (RdIn.fld (rD 1 r_a) (getD_eq (ltN c32) h34) (fun _ h => h.2.2.2.2.2.2.2.2.2.1)) (RdIn.fld (rD 1 r_a) (getD_eq (ltN c32) h34) (fun _ h => h.2.2.2.2.2.2.2.2.2.2.1)) (RdIn.fld (rD 1 r_a) (getD_eq (ltN c32) h34) (fun _ h => h.2.2.2.2.2.2.2.2.2.2.2)) h39) (fun _ wd40 ⟨h41, HS⟩ => ⟨_, h41, (GX.fin tv (GX.ps 1 Z (qL Z Z (fun _ _ g => mV Z (kN 15 Z (congrArg Bool.not c42) g)) Z (qL Z Z (fun _ _ g => oN Z (mV Z (bK g))) Z (qL Z Z (fun _ _ g => oN Z (GO.gtr Z Z Z Z (bK g))) Z (qL Z Z (fun _ _ g => oN Z (mV Z (bK (kN 18 Z (tF c43) g)))) Z (qL Z Z (fun _ _ g => oF Z g) Z (qL Z Z (fun _ _ g => oF Z g) Z (qL Z Z (fun _ _ g => oF Z g) Z (qL Z Z (fun _ _ g => oF Z g) Z (qL Z Z (fun _ _ g => oF Z g) Z (qL Z Z (fun _ _ g => oF Z g) Z ?_))))))))))))⟩)))
       refine GX.l1 Z Z Z (fun _ g => oF Z g) Z (GX.l1 Z Z Z (fun _ g => oF Z g) Z (qL Z Z (fun _ _ g => oF Z g) Z (qL Z Z (fun _ _ g => oN Z (GO.pickF Z Z Z Z Z (bK g))) Z (GX.ps 1 Z (GX.nil (rN 5 Z (G.weak ?_ (b1 c1 (Nat.lt_succ_of_le (lR _)) (Nat.le_of_succ_le d1) _ _ H (HS.pk 1 [] Z)))))))))
       exact ⟨Z, Z, Z, Z, tv⟩
      refine G.lex mixed [0, 1, 2, 3, 4, 5, 6, 7, 8, 9, 10, 11, 13, 12, 14, 15, 16, 17] (by kernel_rfl) ?_
      replace HS := HS.drew
      refine GX.l1 Z Z Z (fun _ g => GO.ldBoxA (j := 0) ([.string e33.Name, I e33.Kind, .slice ((y_a x13.toNat).2.2.1.A) e33.Triangulation_Tets.length ((y_a x13.toNat).2.2.1.c), .slice ((y_a x13.toNat).2.2.2.1.A) e33.Diagram_Crossings.length ((y_a x13.toNat).2.2.2.1.c), I e33.Diagram_Circles, I e33.Braid_Strands, .slice ((y_a x13.toNat).2.2.2.2.2.2.1.A) e33.Braid_Word.length ((y_a x13.toNat).2.2.2.2.2.2.1.c), I e33.Certificate_Name, I e33.Certificate_Trait, .slice ((y_a x13.toNat).2.2.2.2.2.2.2.2.2.1.A) e33.Certificate_Moves.length ((y_a x13.toNat).2.2.2.2.2.2.2.2.2.1.c), .slice ((y_a x13.toNat).2.2.2.2.2.2.2.2.2.2.1.A) e33.Certificate_Tets.length ((y_a x13.toNat).2.2.2.2.2.2.2.2.2.2.1.c), .slice ((y_a x13.toNat).2.2.2.2.2.2.2.2.2.2.2.A) e33.Certificate_Perms.length ((y_a x13.toNat).2.2.2.2.2.2.2.2.2.2.2.c)]) HS Z Z Z Z ag48 Z g) Z (GX.l2 Z (fN Z func103 fok103.1 fok103.2 Z Z (impl_isItem.calls HS (RdIn.fld (rD 1 r_a) (getD_eq (ltN c32) h34) (fun _ h => h.2.2.1)) (RdIn.fld (rD 1 r_a) (getD_eq (ltN c32) h34) (fun _ h => h.2.2.2.1)) (RdIn.fld (rD 1 r_a) (getD_eq (ltN c32) h34) (fun _ h => h.2.2.2.2.2.2.1)) (RdIn.fld (rD 1 r_a) (getD_eq (ltN c32) h34) (fun _ h => h.2.2.2.2.2.2.2.2.2.1)) (RdIn.fld (rD 1 r_a) (getD_eq (ltN c32) h34) (fun _ h => h.2.2.2.2.2.2.2.2.2.2.1)) (RdIn.fld (rD 1 r_a) (getD_eq (ltN c32) h34) (fun _ h => h.2.2.2.2.2.2.2.2.2.2.2)) h39) (fun _ wd40 ⟨h41, HS⟩ => ⟨_, h41, (GX.fin tv (GX.ps 1 Z (qL Z Z (fun _ _ g => mV Z (kN 15 Z (congrArg Bool.not (bnot_of c42)) g)) Z (qL Z Z (fun _ _ g => oF Z g) Z (qL Z Z (fun _ _ g => oF Z g) Z (qL Z Z (fun _ _ g => oF Z g) Z (qL Z Z (fun _ _ g => GO.offU Z Z Z Z Z Z g) Z (qL Z Z (fun _ _ g => GO.offU Z Z Z Z Z Z g) Z (qL Z Z (fun _ _ g => GO.offU Z Z Z Z Z Z g) Z (qL Z Z (fun _ _ g => GO.offU Z Z Z Z Z Z g) Z (qL Z Z (fun _ _ g => GO.offU Z Z Z Z Z Z g) Z (qL Z Z (fun _ _ g => GO.offU Z Z Z Z Z Z g) Z ?_))))))))))))⟩)))
      refine GX.l1 Z Z Z (fun _ g => GO.offU Z Z Z Z Z Z g) Z (GX.l1 Z Z Z (fun _ g => GO.offU Z Z Z Z Z Z g) Z (qL Z Z (fun _ _ g => GO.offU Z Z Z Z Z Z g) Z (qL Z Z (fun _ _ g => oF Z g) Z (GX.ps 1 Z (GX.nil (rN 3 Z ?_))))))
      obtain rfl := sI H
      exact rT _ func62 Z Z ⟨Z, (HS.pk 1 [] Z)⟩
     refine nB Z (tF c31) (rN 2 Z (rG (mV Z (lS Z Z underlying28 Z (pS 2 Z (nL ?_))))))
     obtain rfl := sI H
     exact rT _ func62 Z Z ⟨Z, HS⟩
  refine G.weak ?_ (f1 K (lR _) _ _ H HS)
  exact ⟨Z, Z, Z, Z, tv⟩
theorem impl_isBench_fn1.calls {items : List GItem} {A_a : Option Addr} {c_a : Nat} {y_a : Nat → T_GItem_47.Lay} {r1 : Bool} (HS : St w0 w (L)) (r_a : RdIn w0 L T_GItem_47 A_a c_a y_a items) (H : impl_isBench_fn1.f K items = some r1) :
    Calls prog 61 #[.slice A_a items.length c_a] w (impl_isBench_fn1.post w0 L r1) := by
  unfold impl_isBench_fn1.f at H
  refine cG func61 Z ?_
  refine rN 3 Z ?_
  obtain ⟨t1, h2, H⟩ := bI H
  refine rG (mV Z (fN Z func62 fok62.1 fok62.2 Z Z (impl_areItems.calls HS r_a h2) (fun _ wd3 ⟨h4, HS⟩ => ⟨_, h4, (pS 2 Z (nL ?_))⟩)))
  obtain rfl := sI H
  exact rT _ func61 Z Z ⟨Z, HS⟩
theorem slices_IndexFunc_impl_Item_impl_Item_isBench_fn1.calls {s : List (List GItem)} {A_a : Option Addr} {c_a : Nat} {y_a : Nat → (Ty.slice 48 T_GItem_47).Lay} {r1 : Int} (HS : St w0 w (L)) (r_a : RdIn w0 L (Ty.slice 48 T_GItem_47) A_a c_a y_a s) (H : slices_IndexFunc_impl_Item_impl_Item_isBench_fn1.f K s = some r1) :
    Calls prog 102 #[.slice A_a s.length c_a, .func (.func 61) #[] #[]] w (slices_IndexFunc_impl_Item_impl_Item_isBench_fn1.post w0 L r1) := by
  unfold slices_IndexFunc_impl_Item_impl_Item_isBench_fn1.f at H
  refine cG func102 Z ?_
  refine rN 4 Z (rG (mV Z (lS Z Z underlying29 Z (mV Z (nL (rN 2 Z ?_))))))
  refine G.name (fun g1 b1 => ?_)
  have c1 : ∀ a1, a1 ≤ K → ∀ (x8 : Int) (w : World), slices_IndexFunc_impl_Item_impl_Item_isBench_fn1.l1 K a1 s x8 = some r1 → St w0 w (L) → G prog 102 19 [(0, .slice A_a s.length c_a), (1, .func (.func 61) #[] #[]), (7, I (s.length : Int)), (8, I x8)] g1 w (slices_IndexFunc_impl_Item_impl_Item_isBench_fn1.post w0 L r1) := by
   intro a1
   induction a1 using Nat.strongRecOn with
   | _ a1 d1 =>
    intro f1 x8 w H HS
    cases a1 with
    | zero => rw [slices_IndexFunc_impl_Item_impl_Item_isBench_fn1.l1] at H; cases H
    | succ e1 =>
     rw [slices_IndexFunc_impl_Item_impl_Item_isBench_fn1.l1] at H
     subst b1
     refine rN 3 Z ?_
     rcases iE H with ⟨c16, H⟩ | ⟨c16, H⟩
     ·
      refine yB Z (tT c16) (rN 6 Z ?_)
      obtain ⟨c17, H⟩ := iN H
      obtain ⟨t18, h19, H⟩ := bI H
      refine rG (pS 3 Z (GO.ix Z Z Z underlying29 sz28 (r_a _ HS).2.2.1 c17.1 c17.2 Z (GO.ldRd (T := (Ty.slice 48 T_GItem_47)) (n := x8.toNat) (o := 0) HS r_a Z Z (getD_some (d := []) (ltN c17)) Z Z na28 Z (GO.clo Z Z func61 fok61.1 fok61.2 Z Z (impl_isBench_fn1.calls HS (RdIn.elem r_a c17.1 c17.2) h19) (fun _ wd20 ⟨h21, HS⟩ => ⟨_, h21, (nL ?_)⟩)))))
      rcases iE H with ⟨c22, H⟩ | ⟨c22, H⟩
      ·
       refine yB Z c22 (rN 2 Z ?_)
       obtain rfl := sI H
       exact rT _ func102 Z Z ⟨Z, HS⟩
      refine nB Z (bnot_of c22) (rN 4 Z (G.weak ?_ (d1 e1 (Nat.lt_succ_of_le (lR _)) (Nat.le_of_succ_le f1) _ _ H HS)))
      exact ⟨Z, Z, Z, Z, tv⟩
     refine nB Z (tF c16) (rN 3 Z ?_)
     obtain rfl := sI H
     exact rT _ func102 Z Z ⟨Z, HS⟩
  refine G.weak ?_ (c1 K (lR _) _ _ H HS)
  exact ⟨Z, Z, Z, Z, tv⟩
theorem slices_ContainsFunc_impl_Item_impl_Item_isBench_fn1.calls {s : List (List GItem)} {A_a : Option Addr} {c_a : Nat} {y_a : Nat → (Ty.slice 48 T_GItem_47).Lay} {r1 : Bool} (HS : St w0 w (L)) (r_a : RdIn w0 L (Ty.slice 48 T_GItem_47) A_a c_a y_a s) (H : slices_ContainsFunc_impl_Item_impl_Item_isBench_fn1.f K s = some r1) :
    Calls prog 60 #[.slice A_a s.length c_a, .func (.func 61) #[] #[]] w (slices_ContainsFunc_impl_Item_impl_Item_isBench_fn1.post w0 L r1) := by
  unfold slices_ContainsFunc_impl_Item_impl_Item_isBench_fn1.f at H
  refine cG func60 Z ?_
  refine rN 3 Z ?_
  obtain ⟨t1, h2, H⟩ := bI H
  refine rG (pS 2 Z (fN Z func102 fok102.1 fok102.2 Z Z (slices_IndexFunc_impl_Item_impl_Item_isBench_fn1.calls HS r_a h2) (fun _ wd3 ⟨h4, HS⟩ => ⟨_, h4, (pS 2 Z (nL ?_))⟩)))
  obtain rfl := sI H
  exact rT _ func60 Z Z ⟨Z, HS⟩
theorem impl_isBench.calls {a1 : List GItem} {d1 c1 : List (List GItem)} {A_a : Option Addr} {c_a : Nat} {y_a : Nat → T_GItem_47.Lay} {A_b : Option Addr} {c_b : Nat} {y_b : Nat → (Ty.slice 48 T_GItem_47).Lay} {A_c : Option Addr} {c_c : Nat} {y_c : Nat → (Ty.slice 48 T_GItem_47).Lay} {r1 : Bool} (HS : St w0 w (L)) (r_a : RdIn w0 L T_GItem_47 A_a c_a y_a a1) (r_b : RdIn w0 L (Ty.slice 48 T_GItem_47) A_b c_b y_b d1) (r_c : RdIn w0 L (Ty.slice 48 T_GItem_47) A_c c_c y_c c1) (H : impl_isBench.f K a1 d1 c1 = some r1) :
    Calls prog 29 #[.agg [.slice A_a a1.length c_a, .slice A_b d1.length c_b, .slice A_c c1.length c_c].toArray] w (impl_isBench.post w0 L r1) := by
  unfold impl_isBench.f at H
  refine cG func29 Z ?_
  refine sQ (rG (GO.box (cs := [.slice A_a a1.length c_a, .slice A_b d1.length c_b, .slice A_c c1.length c_c]) HS Z Z Z Z fun b1 wd2 HS => aS Z (nL (rN 2 Z (rG (fL b1 0 fl31_0 Z (lB 0 HS Z na28 Z (GO.buildS (el := 28) ([.slice A_a a1.length c_a]) HS Z Z (fun _ => by kernel_rfl) Z fun b3 wd4 HS => fL b1 1 fl31_1 Z (lB 1 HS Z na29 Z (fL b1 2 fl31_2 Z (lB 1 HS Z na29 Z (GO.lenC (t := 7) (m := ([a1] : List (List GItem)).length) (c' := 1) Z Z Z ?_))))))))))))
  refine GO.buildS (el := 29) ([.slice (some ⟨b3, 0, none⟩) ([a1] : List (List GItem)).length 1, .slice A_b d1.length c_b, .slice A_c c1.length c_c]) HS Z Z (fun _ => by kernel_rfl) Z fun b5 wd6 HS => lS Z Z underlying98 Z (mV Z (nL (rN 2 Z (G.lenC (t := 12) (m := ([([a1] : List (List GItem)), d1, c1] : List (List (List GItem))).length) (c' := 3) Z Z Z ?_))))
  refine G.name (fun m1 f1 => ?_)
  have g1 : ∀ e1, e1 ≤ K → ∀ (x14 : Int) (w : World), impl_isBench.l1 K e1 a1 d1 c1 x14 = some r1 → St w0 w (Box b5 29 [.slice (some ⟨b3, 0, none⟩) ([a1] : List (List GItem)).length 1, .slice A_b d1.length c_b, .slice A_c c1.length c_c] :: Box b3 28 [.slice A_a a1.length c_a] :: L) → G prog 29 26 [(12, .slice (some ⟨b5, 0, none⟩) ([([a1] : List (List GItem)), d1, c1] : List (List (List GItem))).length 3), (13, I 3), (14, I x14)] m1 w (impl_isBench.post w0 L r1) := by
   intro e1
   induction e1 using Nat.strongRecOn with
   | _ e1 h1 =>
    intro k1 x14 w H HS
    cases e1 with
    | zero => rw [impl_isBench.l1] at H; cases H
    | succ i1 =>
     rw [impl_isBench.l1] at H
     subst f1
     refine rN 3 Z ?_
     rcases iE H with ⟨c23, H⟩ | ⟨c23, H⟩
     ·
      refine yB Z (tT c23) (rN 4 Z ?_)
      obtain ⟨c24, H⟩ := iN H
      refine rG (GO.ix Z Z Z underlying98 sz29 (fun _ => ⟨_, _, Z⟩) c24.1 c24.2 Z (GO.ldRd (T := (Ty.slice 28 (Ty.slice 48 T_GItem_47))) (n := x14.toNat) (o := 0) HS (RdIn.box (T := (Ty.slice 28 (Ty.slice 48 T_GItem_47))) (j := 0) (fun k => match k with | 0 => ⟨(some ⟨b3, 0, none⟩), 1, (fun _ => ⟨A_a, c_a, y_a⟩)⟩ | 1 => ⟨A_b, c_b, y_b⟩ | _ => ⟨A_c, c_c, y_c⟩) ([([a1] : List (List GItem)), d1, c1] : List (List (List GItem))) Z Z Z Z (kCons (fun w hs => (RdIn.box (T := (Ty.slice 48 T_GItem_47)) (j := 1) (fun _ => ⟨A_a, c_a, y_a⟩) ([a1] : List (List GItem)) Z Z Z Z (kCons (fun w hs => (rD 2 r_a) w hs) kNil)) w hs) (kCons (fun w hs => (rD 2 r_b) w hs) (kCons (fun w hs => (rD 2 r_c) w hs) kNil)))) Z Z (getD_some (d := []) (ltN c24)) Z Z na29 Z (aS Z (nL (sQ ?_)))))
      rcases iE H with ⟨c25, H⟩ | ⟨c25, H⟩
      ·
       refine rG (mV Z (lS Z Z underlying29 Z (pS 2 Z (kN 21 Z (tT c25) (oF Z (oF Z (GO.pickT Z Z Z Z Z (nL (rN 3 Z ?_)))))))))
       obtain rfl := sI H
       exact rT _ func29 Z Z ⟨Z, (HS.pk 2 [] Z)⟩
      obtain ⟨t26, h27, H⟩ := bI H
      refine rG (mV Z (lS Z Z underlying29 Z (pS 2 Z (kN 21 Z (tF c25) (oN Z (mV Z (bK (oN Z (fN Z func60 fok60.1 fok60.2 Z Z (slices_ContainsFunc_impl_Item_impl_Item_isBench_fn1.calls HS (RdIn.elem (RdIn.box (T := (Ty.slice 28 (Ty.slice 48 T_GItem_47))) (j := 0) (fun k => match k with | 0 => ⟨(some ⟨b3, 0, none⟩), 1, (fun _ => ⟨A_a, c_a, y_a⟩)⟩ | 1 => ⟨A_b, c_b, y_b⟩ | _ => ⟨A_c, c_c, y_c⟩) ([([a1] : List (List GItem)), d1, c1] : List (List (List GItem))) Z Z Z Z (kCons (fun w hs => (RdIn.box (T := (Ty.slice 48 T_GItem_47)) (j := 1) (fun _ => ⟨A_a, c_a, y_a⟩) ([a1] : List (List GItem)) Z Z Z Z (kCons (fun w hs => (rD 2 r_a) w hs) kNil)) w hs) (kCons (fun w hs => (rD 2 r_b) w hs) (kCons (fun w hs => (rD 2 r_c) w hs) kNil)))) c24.1 c24.2) h27) (fun _ wd28 ⟨h29, HS⟩ => ⟨_, h29, (bK (GO.pickF Z Z Z Z Z (nL ?_)))⟩))))))))))
      rcases iE H with ⟨c30, H⟩ | ⟨c30, H⟩
      ·
       refine yB Z c30 (rN 2 Z ?_)
       obtain rfl := sI H
       exact rT _ func29 Z Z ⟨Z, (HS.pk 2 [] Z)⟩
      refine nB Z (bnot_of c30) (rN 4 Z (G.weak ?_ (h1 i1 (Nat.lt_succ_of_le (lR _)) (Nat.le_of_succ_le k1) _ _ H HS)))
      exact ⟨Z, Z, Z, tv⟩
     refine nB Z (tF c23) (rN 3 Z ?_)
     obtain rfl := sI H
     exact rT _ func29 Z Z ⟨Z, (HS.pk 2 [] Z)⟩
  refine G.weak ?_ (g1 K (lR _) _ _ H (HS.pk 3 [0, 1] Z))
  exact ⟨Z, Z, Z, tv⟩
theorem slices_Clone_impl_Face_impl_Face.calls {s : List GFace} {A_a : Option Addr} {c_a : Nat} {r1 : List GFace} (HS : St w0 w (L)) (r_a : RdIn w0 L T_GFace A_a c_a (fun _ => ()) s) (H : slices_Clone_impl_Face_impl_Face.f s = some r1) :
    Calls prog 105 #[.slice A_a s.length c_a] w (slices_Clone_impl_Face_impl_Face.post w0 L r1) := by
  unfold slices_Clone_impl_Face_impl_Face.f at H
  refine cG func105 Z ?_
  refine rN 4 Z (rG (mV Z (GO.eqNil Z Z Z underlying136 Z (nL ?_))))
  rcases Decidable.em (A_a.isNone = true) with c1 | c1
  ·
   obtain rfl := nil_of_none r_a HS c1
   refine yB Z c1 (rN 2 Z ?_)
   replace HS := HS.nilRow T_GFace 140 (fun _ => ())
   replace H : some ([] : List GFace) = some r1 := H
   obtain rfl := sI H
   exact rT _ func105 Z Z ⟨_, _, Z, HS⟩
  refine nB Z (bnot_of c1) (rN 2 Z ?_)
  obtain ⟨c7, H⟩ := iN H
  refine rG (GO.buildS (el := 140) ([]) HS Z Z (fun _ => by kernel_rfl) Z fun b2 wd3 HS => mV Z ?_)
  replace HS := HS.boxRow (T := T_GFace) (j := 0) Z flat_flat (fun _ => ()) ([] : List GFace) Z (bndL Z)
  refine GO.lenC (t := 5) (m := ([] : List GFace).length) (c' := ([] : List GFace).length) Z Z Z (GO.appS (T := T_GFace) (j := 0) HS Z (rD 1 r_a) flat_flat Z Z Z underlying136 inf140 Z Z Z c7 Z (fun _ => Z) fun A5 c6 wd4 HS => aS Z (nL ?_))
  obtain rfl := sI H
  exact rT _ func105 Z Z ⟨_, _, Z, HS⟩
theorem impl_copyTriangulation.calls {c1 : List (List GFace)} {A_a : Option Addr} {c_a : Nat} {y_a : Nat → (Ty.slice 140 T_GFace).Lay} {r1 : List (List GFace)} (HS : St w0 w (L)) (r_a : RdIn w0 L (Ty.slice 140 T_GFace) A_a c_a y_a c1) (H : impl_copyTriangulation.f K c1 = some r1) :
    Calls prog 68 #[.agg [.slice A_a c1.length c_a].toArray] w (impl_copyTriangulation.post w0 L r1) := by
  unfold impl_copyTriangulation.f at H
  refine cG func68 Z ?_
  refine sQ (rG (GO.box (cs := [.slice A_a c1.length c_a]) HS Z Z Z Z fun b1 wd2 HS => GO.alloc HS Z zr37 Z Z fun b3 wd4 HS => nL (sQ (rG (GO.alloc HS Z zr37 Z Z fun b5 wd6 HS => nL (rN 2 Z (rG (fL b1 0 fl37_0 Z (lB 2 HS Z na35 Z (lS Z Z underlying35 Z (mV Z ?_)))))))))))
  refine nL (rN 2 Z ?_)
  refine G.name (fun k1 e1 => ?_)
  have f1 : ∀ d1, d1 ≤ K → ∀ (A24 : Option Addr) (c25 : Nat) (a1 : List (List GFace)) (y27 : Nat → (Ty.slice 140 T_GFace).Lay) (x28 : Int) (w : World), impl_copyTriangulation.l1 K d1 c1 a1 x28 = some r1 → St w0 w (Box b3 37 [.slice none 0 0] :: Box b5 37 [.slice A24 a1.length c25] :: Own (Ty.slice 140 T_GFace) 136 A24 c25 y27 a1 :: L) → G prog 68 22 [(2, .pointer (some ⟨b3, 0, none⟩)), (3, .pointer (some ⟨b5, 0, none⟩)), (7, .slice A_a c1.length c_a), (8, I (c1.length : Int)), (9, I x28)] k1 w (impl_copyTriangulation.post w0 L r1) := by
   intro d1
   induction d1 using Nat.strongRecOn with
   | _ d1 g1 =>
    intro i1 A24 c25 a1 y27 x28 w H HS
    cases d1 with
    | zero => rw [impl_copyTriangulation.l1] at H; cases H
    | succ h1 =>
     rw [impl_copyTriangulation.l1] at H
     subst e1
     refine rN 3 Z ?_
     rcases iE H with ⟨c46, H⟩ | ⟨c46, H⟩
     ·
      refine yB Z (tT c46) (rN 4 Z ?_)
      obtain ⟨c47, H⟩ := iN H
      refine rG (GO.ix Z Z Z underlying35 sz136 ((rD 3 r_a) _ HS).2.2.1 c47.1 c47.2 Z (GO.ldRd (T := (Ty.slice 140 T_GFace)) (n := x28.toNat) (o := 0) HS (rD 3 r_a) Z Z (getD_some (d := []) (ltN c47)) Z Z na136 Z (aS Z (nL ?_))))
      obtain ⟨t48, h49, H⟩ := bI H
      obtain ⟨c59, H⟩ := iN H
      refine G.lexS mixed (fun w => St w0 w (Box b5 37 [.slice A24 a1.length c25] :: L)) [1] [0, 2, 1, 3, 4, 5, 6, 7] [7] (by kernel_rfl) (by kernel_rfl) (HS.drew.pk 3 [1] Z) ?_
      replace HS := HS.drew
      refine qL Z Z (fun _ _ g => fL b5 0 fl37_0 Z g) Z (GX.ps 1 Z (GX.ls Z Z Z (HS.pk 3 [1] Z) (fun _ HS _ g => lB 0 HS Z na35 Z g) Z (GX.l2 Z (fN Z func105 fok105.1 fok105.2 Z Z (slices_Clone_impl_Face_impl_Face.calls HS (RdIn.elem (rD 3 r_a) c47.1 c47.2) h49) (fun _ wd52 ⟨A50, c51, h53, HS⟩ => ⟨_, h53, (GX.fin (HS.pk 4 [2] Z) (GX.l2 Z (GO.buildS (el := 136) ([.slice A50 t48.length c51]) HS Z Z (fun _ => by kernel_rfl) Z fun b54 wd55 HS => GX.fin (HS.pk 5 [3] Z) (GX.l2 Z ?_))))⟩)))))
      replace HS := HS.pk 5 [4, 0, 1, 2, 3] Z
      refine GO.appR (S := T_GFace) (u := 140) HS Z Z Z underlying35 inf136 Z Z c59 Z fun A57 c58 y60 wd56 HS => GX.fin (HS.pk 4 [3] Z) (qL Z Z (fun _ _ g => fL b5 0 fl37_0 Z g) Z (GX.l2 Z (GO.stBox (j := 3) (vs := [.slice A57 (a1 ++ [t48]).length c58]) ([.slice A57 (a1 ++ [t48]).length c58]) HS Z Z Z Z Z (htN na35 Z) Z Z Z fun wd61 HS => GX.finZ Z (GX.nil (rN 3 Z (G.weak ?_ (g1 h1 (Nat.lt_succ_of_le (lR _)) (Nat.le_of_succ_le i1) _ _ _ _ _ _ H (HS.pk 4 [2, 3, 0] Z))))))))
      exact ⟨Z, Z, Z, Z, Z, tv⟩
     refine nB Z (tF c46) (rN 2 Z (rG (GO.ldBoxA (j := 1) ([.slice A24 a1.length c25]) HS Z Z Z Z ag37 Z (GO.stBox (j := 0) (vs := [.slice A24 a1.length c25]) ([.slice A24 a1.length c25]) HS Z Z Z Z Z (htA ag37) Z Z Z fun wd62 HS => nL ?_))))
     obtain rfl := sI H
     exact rT _ func68 Z (Res1.boxA (j := 0) (vs := [.slice A24 a1.length c25]) HS Z Z Z ag37) ⟨_, _, _, Z, (HS.pk 3 [2] Z)⟩
  replace HS := HS.nilRow (Ty.slice 140 T_GFace) 136 (fun _ => ⟨none, 0, (fun _ => ())⟩)
  refine G.weak ?_ (f1 K (lR _) _ _ _ _ _ _ H (HS.pk 4 [2, 1, 0] Z))
  exact ⟨Z, Z, Z, Z, Z, tv⟩
theorem slices_Clone_impl_Crossing_impl_Crossing.calls {s : List GCrossing} {A_a : Option Addr} {c_a : Nat} {r1 : List GCrossing} (HS : St w0 w (L)) (r_a : RdIn w0 L T_GCrossing A_a c_a (fun _ => ()) s) (H : slices_Clone_impl_Crossing_impl_Crossing.f s = some r1) :
    Calls prog 106 #[.slice A_a s.length c_a] w (slices_Clone_impl_Crossing_impl_Crossing.post w0 L r1) := by
  unfold slices_Clone_impl_Crossing_impl_Crossing.f at H
  refine cG func106 Z ?_
  refine rN 4 Z (rG (mV Z (GO.eqNil Z Z Z underlying38 Z (nL ?_))))
  rcases Decidable.em (A_a.isNone = true) with c1 | c1
  ·
   obtain rfl := nil_of_none r_a HS c1
   refine yB Z c1 (rN 2 Z ?_)
   replace HS := HS.nilRow T_GCrossing 143 (fun _ => ())
   replace H : some ([] : List GCrossing) = some r1 := H
   obtain rfl := sI H
   exact rT _ func106 Z Z ⟨_, _, Z, HS⟩
  refine nB Z (bnot_of c1) (rN 2 Z ?_)
  obtain ⟨c7, H⟩ := iN H
  refine rG (GO.buildS (el := 143) ([]) HS Z Z (fun _ => by kernel_rfl) Z fun b2 wd3 HS => mV Z ?_)
  replace HS := HS.boxRow (T := T_GCrossing) (j := 0) Z flat_flat (fun _ => ()) ([] : List GCrossing) Z (bndL Z)
  refine GO.lenC (t := 5) (m := ([] : List GCrossing).length) (c' := ([] : List GCrossing).length) Z Z Z (GO.appS (T := T_GCrossing) (j := 0) HS Z (rD 1 r_a) flat_flat Z Z Z underlying38 inf143 Z Z Z c7 Z (fun _ => Z) fun A5 c6 wd4 HS => aS Z (nL ?_))
  obtain rfl := sI H
  exact rT _ func106 Z Z ⟨_, _, Z, HS⟩
theorem impl_copyDiagram.calls {c1 : List GCrossing} {a1 : Int} {A_a : Option Addr} {c_a : Nat} {r1 : List GCrossing} {r2 : Int} (HS : St w0 w (L)) (r_a : RdIn w0 L T_GCrossing A_a c_a (fun _ => ()) c1) (H : impl_copyDiagram.f c1 a1 = some (r1, r2)) :
    Calls prog 69 #[.agg [.slice A_a c1.length c_a, I a1].toArray] w (impl_copyDiagram.post w0 L r1 r2) := by
  unfold impl_copyDiagram.f at H
  refine cG func69 Z ?_
  refine sQ (rG (GO.box (cs := [.slice A_a c1.length c_a, I a1]) HS Z Z Z Z fun b1 wd2 HS => GO.alloc HS Z zr40 Z Z fun b3 wd4 HS => nL (sQ ?_)))
  obtain ⟨t5, h6, H⟩ := bI H
  refine rG (fL b1 0 fl40_0 Z (lB 1 HS Z na38 Z (fN Z func106 fok106.1 fok106.2 Z Z (slices_Clone_impl_Crossing_impl_Crossing.calls HS (rD 2 r_a) h6) (fun _ wd9 ⟨A7, c8, h10, HS⟩ => ⟨_, h10, (fL b1 0 fl40_0 Z (GO.stBox (j := 2) (vs := [.slice A7 t5.length c8]) ([.slice A7 t5.length c8, I a1]) HS Z Z Z Z Z (htN na38 Z) Z Z Z fun wd11 HS => nL (sQ (rG (GO.ldBoxA (j := 2) ([.slice A7 t5.length c8, I a1]) HS Z Z Z Z ag40 Z (GO.stBox (j := 1) (vs := [.slice A7 t5.length c8, I a1]) ([.slice A7 t5.length c8, I a1]) HS Z Z Z Z Z (htA ag40) Z Z Z fun wd12 HS => nL ?_))))))⟩))))
  obtain ⟨rfl, rfl⟩ := some2 H
  exact rT _ func69 Z (Res1.boxA (j := 1) (vs := [.slice A7 t5.length c8, I a1]) HS Z Z Z ag40) ⟨_, _, Z, (HS.pk 3 [0] Z)⟩
theorem slices_Clone_int64_int64.calls {s : List Int} {A_a : Option Addr} {c_a : Nat} {r1 : List Int} (HS : St w0 w (L)) (r_a : RdIn w0 L (TInt .i64) A_a c_a (fun _ => ()) s) (H : slices_Clone_int64_int64.f s = some r1) :
    Calls prog 70 #[.slice A_a s.length c_a] w (slices_Clone_int64_int64.post w0 L r1) := by
  unfold slices_Clone_int64_int64.f at H
  refine cG func70 Z ?_
  refine rN 4 Z (rG (mV Z (GO.eqNil Z Z Z underlying41 Z (nL ?_))))
  rcases Decidable.em (A_a.isNone = true) with c1 | c1
  ·
   obtain rfl := nil_of_none r_a HS c1
   refine yB Z c1 (rN 2 Z ?_)
   replace HS := HS.nilRow (TInt .i64) 2 (fun _ => ())
   replace H : some ([] : List Int) = some r1 := H
   obtain rfl := sI H
   exact rT _ func70 Z Z ⟨_, _, Z, HS⟩
  refine nB Z (bnot_of c1) (rN 2 Z ?_)
  obtain ⟨c7, H⟩ := iN H
  refine rG (GO.buildS (el := 2) ([]) HS Z Z (fun _ => by kernel_rfl) Z fun b2 wd3 HS => mV Z ?_)
  replace HS := HS.boxRow (T := (TInt .i64)) (j := 0) Z flat_flat (fun _ => ()) ([] : List Int) Z (bndL Z)
  refine GO.lenC (t := 5) (m := ([] : List Int).length) (c' := ([] : List Int).length) Z Z Z (GO.appS (T := (TInt .i64)) (j := 0) HS Z (rD 1 r_a) flat_flat Z Z Z underlying41 inf2 Z Z Z c7 Z (fun _ => Z) fun A5 c6 wd4 HS => aS Z (nL ?_))
  obtain rfl := sI H
  exact rT _ func70 Z Z ⟨_, _, Z, HS⟩
theorem slices_Clone_impl_Move_impl_Move.calls {s : List GMove} {A_a : Option Addr} {c_a : Nat} {r1 : List GMove} (HS : St w0 w (L)) (r_a : RdIn w0 L T_GMove A_a c_a (fun _ => ()) s) (H : slices_Clone_impl_Move_impl_Move.f s = some r1) :
    Calls prog 71 #[.slice A_a s.length c_a] w (slices_Clone_impl_Move_impl_Move.post w0 L r1) := by
  unfold slices_Clone_impl_Move_impl_Move.f at H
  refine cG func71 Z ?_
  refine rN 4 Z (rG (mV Z (GO.eqNil Z Z Z underlying44 Z (nL ?_))))
  rcases Decidable.em (A_a.isNone = true) with c1 | c1
  ·
   obtain rfl := nil_of_none r_a HS c1
   refine yB Z c1 (rN 2 Z ?_)
   replace HS := HS.nilRow T_GMove 110 (fun _ => ())
   replace H : some ([] : List GMove) = some r1 := H
   obtain rfl := sI H
   exact rT _ func71 Z Z ⟨_, _, Z, HS⟩
  refine nB Z (bnot_of c1) (rN 2 Z ?_)
  obtain ⟨c7, H⟩ := iN H
  refine rG (GO.buildS (el := 110) ([]) HS Z Z (fun _ => by kernel_rfl) Z fun b2 wd3 HS => mV Z ?_)
  replace HS := HS.boxRow (T := T_GMove) (j := 0) Z flat_flat (fun _ => ()) ([] : List GMove) Z (bndL Z)
  refine GO.lenC (t := 5) (m := ([] : List GMove).length) (c' := ([] : List GMove).length) Z Z Z (GO.appS (T := T_GMove) (j := 0) HS Z (rD 1 r_a) flat_flat Z Z Z underlying44 inf110 Z Z Z c7 Z (fun _ => Z) fun A5 c6 wd4 HS => aS Z (nL ?_))
  obtain rfl := sI H
  exact rT _ func71 Z Z ⟨_, _, Z, HS⟩
theorem impl_copyItem.calls {f1 : ByteArray} {a1 : Int} {o1 : List (List GFace)} {k1 : List GCrossing} {n1 e1 : Int} {m1 : List Int} {d1 c1 : Int} {i1 : List GMove} {h1 g1 : List Int} {A_a : Option Addr} {c_a : Nat} {y_a : Nat → (Ty.slice 140 T_GFace).Lay} {A_b : Option Addr} {c_b : Nat} {A_c : Option Addr} {c_c : Nat} {A_d : Option Addr} {c_d : Nat} {A_e : Option Addr} {c_e : Nat} {A_f : Option Addr} {c_f : Nat} {r1 : ByteArray} {r2 : Int} {r3 : List (List GFace)} {r4 : List GCrossing} {r5 r6 : Int} {r7 : List Int} {r8 r9 : Int} {r10 : List GMove} {r11 r12 : List Int} (HS : St w0 w (L)) (r_a : RdIn w0 L (Ty.slice 140 T_GFace) A_a c_a y_a o1) (r_b : RdIn w0 L T_GCrossing A_b c_b (fun _ => ()) k1) (r_c : RdIn w0 L (TInt .i64) A_c c_c (fun _ => ()) m1) (r_d : RdIn w0 L T_GMove A_d c_d (fun _ => ()) i1) (r_e : RdIn w0 L (TInt .i64) A_e c_e (fun _ => ()) h1) (r_f : RdIn w0 L (TInt .i64) A_f c_f (fun _ => ()) g1) (H : impl_copyItem.f K f1 a1 o1 k1 n1 e1 m1 d1 c1 i1 h1 g1 = some (r1, r2, r3, r4, r5, r6, r7, r8, r9, r10, r11, r12)) :
    Calls prog 35 #[.agg [.string f1, I a1, .slice A_a o1.length c_a, .slice A_b k1.length c_b, I n1, I e1, .slice A_c m1.length c_c, I d1, I c1, .slice A_d i1.length c_d, .slice A_e h1.length c_e, .slice A_f g1.length c_f].toArray] w (impl_copyItem.post w0 L r1 r2 r3 r4 r5 r6 r7 r8 r9 r10 r11 r12) := by
  unfold impl_copyItem.f at H
  refine cG func35 Z ?_
  refine sQ (rG (GO.box (cs := [.string f1, I a1, .slice A_a o1.length c_a, .slice A_b k1.length c_b, I n1, I e1, .slice A_c m1.length c_c, I d1, I c1, .slice A_d i1.length c_d, .slice A_e h1.length c_e, .slice A_f g1.length c_f]) HS Z Z Z Z fun b1 wd2 HS => GO.alloc HS Z zr48 Z Z fun b3 wd4 HS => nL (sQ ?_)))
  obtain ⟨t5, h6, H⟩ := bI H
  refine rG (fL b1 2 fl48_2 Z (GO.ldBoxA (j := 1) ([.slice A_a o1.length c_a]) HS Z Z Z Z ag37 Z (fN Z func68 fok68.1 fok68.2 Z Z (impl_copyTriangulation.calls HS (rD 2 r_a) h6) (fun _ wd10 ⟨A7, c8, y9, h11, HS⟩ => ⟨_, h11, (fL b1 2 fl48_2 Z (GO.stBox (j := 2) (vs := [.slice A7 t5.length c8]) ([.string f1, I a1, .slice A7 t5.length c8, .slice A_b k1.length c_b, I n1, I e1, .slice A_c m1.length c_c, I d1, I c1, .slice A_d i1.length c_d, .slice A_e h1.length c_e, .slice A_f g1.length c_f]) HS Z Z Z Z Z (htA ag37) Z Z Z fun wd12 HS => nL (sQ ?_)))⟩))))
  obtain ⟨t13, t14, h15, H⟩ := bind2_elim H
  refine rG (fL b1 3 fl48_3 Z (GO.ldBoxA (j := 2) ([.slice A_b k1.length c_b, I n1]) HS Z Z Z Z ag40 Z (fN Z func69 fok69.1 fok69.2 Z Z (impl_copyDiagram.calls HS (rD 3 r_b) h15) (fun _ wd18 ⟨A16, c17, h19, HS⟩ => ⟨_, h19, (fL b1 3 fl48_3 Z (GO.stBox (j := 3) (vs := [.slice A16 t13.length c17, I t14]) ([.string f1, I a1, .slice A7 t5.length c8, .slice A16 t13.length c17, I t14, I e1, .slice A_c m1.length c_c, I d1, I c1, .slice A_d i1.length c_d, .slice A_e h1.length c_e, .slice A_f g1.length c_f]) HS Z Z Z Z Z (htA ag40) Z Z Z fun wd20 HS => nL (sQ ?_)))⟩))))
  obtain ⟨t21, h22, H⟩ := bI H
  refine rG (fL b1 5 fl48_4 Z (fL b1 6 fl43_1 Z (lB 3 HS Z na41 Z (fN Z func70 fok70.1 fok70.2 Z Z (slices_Clone_int64_int64.calls HS (rD 4 r_c) h22) (fun _ wd25 ⟨A23, c24, h26, HS⟩ => ⟨_, h26, (fL b1 5 fl48_4 Z (fL b1 6 fl43_1 Z (GO.stBox (j := 4) (vs := [.slice A23 t21.length c24]) ([.string f1, I a1, .slice A7 t5.length c8, .slice A16 t13.length c17, I t14, I e1, .slice A23 t21.length c24, I d1, I c1, .slice A_d i1.length c_d, .slice A_e h1.length c_e, .slice A_f g1.length c_f]) HS Z Z Z Z Z (htN na41 Z) Z Z Z fun wd27 HS => nL (sQ (rG (fL b1 7 fl48_5 Z (aS Z (nL (sQ ?_)))))))))⟩)))))
  obtain ⟨t28, h29, H⟩ := bI H
  obtain ⟨t34, h35, H⟩ := bI H
  obtain ⟨t40, h41, H⟩ := bI H
  refine G.lexS mixed (fun w => St w0 w (Box b1 48 [.string f1, I a1, .slice A7 t5.length c8, .slice A16 t13.length c17, I t14, I e1, .slice A23 t21.length c24, I d1, I c1, .slice A_d i1.length c_d, .slice A_e h1.length c_e, .slice A_f g1.length c_f] :: L)) [6, 11, 16] [0, 1, 2, 3, 4, 5, 8, 9, 10, 13, 14, 15, 6, 11, 16, 7, 12, 17, 18, 19, 20, 21, 22, 23, 24, 25, 26] [20, 23, 26] (by kernel_rfl) (by kernel_rfl) (HS.drew.pk 5 [4] Z) ?_
  replace HS := HS.drew
  refine GX.ps 4 Z (qL Z Z (fun _ _ g => GO.nilP Z Z Z g) Z (qL Z Z (fun _ _ g => fL b1 9 fl46_2 Z g) Z (GX.ps 1 Z (qL Z Z (fun _ _ g => GO.nilP Z Z Z g) Z (qL Z Z (fun _ _ g => fL b1 10 fl46_3 Z g) Z (GX.ps 1 Z (qL Z Z (fun _ _ g => GO.nilP Z Z Z g) Z (qL Z Z (fun _ _ g => fL b1 11 fl46_4 Z g) Z (GX.ls Z Z Z (HS.pk 5 [4] Z) (fun _ HS _ g => lB 0 HS Z na44 Z g) Z (GX.ls Z Z Z (HS.pk 5 [4] Z) (fun _ HS _ g => lB 0 HS Z na41 Z g) Z (GX.ls Z Z Z (HS.pk 5 [4] Z) (fun _ HS _ g => lB 0 HS Z na41 Z g) Z (GX.l2 Z (fN Z func71 fok71.1 fok71.2 Z Z (slices_Clone_impl_Move_impl_Move.calls HS (rD 5 r_d) h29) (fun _ wd32 ⟨A30, c31, h33, HS⟩ => ⟨_, h33, (GX.fin (HS.pk 6 [5] Z) ?_)⟩))))))))))))))
  refine GX.l2 Z (fN Z func70 fok70.1 fok70.2 Z Z (slices_Clone_int64_int64.calls HS (rD 6 r_e) h35) (fun _ wd38 ⟨A36, c37, h39, HS⟩ => ⟨_, h39, (GX.fin (HS.pk 7 [6] Z) (GX.l2 Z (fN Z func70 fok70.1 fok70.2 Z Z (slices_Clone_int64_int64.calls HS (rD 7 r_f) h41) (fun _ wd44 ⟨A42, c43, h45, HS⟩ => ⟨_, h45, (GX.fin (HS.pk 8 [7] Z) (qL Z Z (fun _ _ g => GO.nilP Z Z Z g) Z (qL Z Z (fun _ _ g => fL b1 9 fl46_2 Z g) Z (GX.l2 Z (GO.stBox (j := 7) (vs := [.slice A30 t28.length c31]) ([.string f1, I a1, .slice A7 t5.length c8, .slice A16 t13.length c17, I t14, I e1, .slice A23 t21.length c24, I d1, I c1, .slice A30 t28.length c31, .slice A_e h1.length c_e, .slice A_f g1.length c_f]) HS Z Z Z Z Z (htN na44 Z) Z Z Z fun wd46 HS => GX.finZ Z (qL Z Z (fun _ _ g => GO.nilP Z Z Z g) Z (qL Z Z (fun _ _ g => fL b1 10 fl46_3 Z g) Z (GX.l2 Z (GO.stBox (j := 7) (vs := [.slice A36 t34.length c37]) ([.string f1, I a1, .slice A7 t5.length c8, .slice A16 t13.length c17, I t14, I e1, .slice A23 t21.length c24, I d1, I c1, .slice A30 t28.length c31, .slice A36 t34.length c37, .slice A_f g1.length c_f]) HS Z Z Z Z Z (htN na41 Z) Z Z Z fun wd47 HS => ?_)))))))))⟩))))⟩))
  refine GX.finZ Z (qL Z Z (fun _ _ g => GO.nilP Z Z Z g) Z (qL Z Z (fun _ _ g => fL b1 11 fl46_4 Z g) Z (GX.l2 Z (GO.stBox (j := 7) (vs := [.slice A42 t40.length c43]) ([.string f1, I a1, .slice A7 t5.length c8, .slice A16 t13.length c17, I t14, I e1, .slice A23 t21.length c24, I d1, I c1, .slice A30 t28.length c31, .slice A36 t34.length c37, .slice A42 t40.length c43]) HS Z Z Z Z Z (htN na41 Z) Z Z Z fun wd48 HS => GX.finZ Z (GX.nil (sQ (rG (GO.ldBoxA (j := 7) ([.string f1, I a1, .slice A7 t5.length c8, .slice A16 t13.length c17, I t14, I e1, .slice A23 t21.length c24, I d1, I c1, .slice A30 t28.length c31, .slice A36 t34.length c37, .slice A42 t40.length c43]) HS Z Z Z Z ag48 Z (GO.stBox (j := 6) (vs := [.string f1, I a1, .slice A7 t5.length c8, .slice A16 t13.length c17, I t14, I e1, .slice A23 t21.length c24, I d1, I c1, .slice A30 t28.length c31, .slice A36 t34.length c37, .slice A42 t40.length c43]) ([.string f1, I a1, .slice A7 t5.length c8, .slice A16 t13.length c17, I t14, I e1, .slice A23 t21.length c24, I d1, I c1, .slice A30 t28.length c31, .slice A36 t34.length c37, .slice A42 t40.length c43]) HS Z Z Z Z Z (htA ag48) Z Z Z fun wd49 HS => nL ?_)))))))))
  obtain ⟨rfl, rfl, rfl, rfl, rfl, rfl, rfl, rfl, rfl, rfl, rfl, rfl⟩ := some12 H
  exact rT _ func35 Z (Res1.boxA (j := 6) (vs := [.string f1, I a1, .slice A7 t5.length c8, .slice A16 t13.length c17, I t14, I e1, .slice A23 t21.length c24, I d1, I c1, .slice A30 t28.length c31, .slice A36 t34.length c37, .slice A42 t40.length c43]) HS Z Z Z ag48) ⟨_, _, _, _, _, _, _, _, _, _, _, _, _, Z, (HS.pk 8 [5, 4, 3, 2, 1, 0] Z)⟩
theorem impl_FindItem.calls {c1 : List GItem} {a1 d1 : List (List GItem)} {name : ByteArray} {A_a : Option Addr} {c_a : Nat} {y_a : Nat → T_GItem_47.Lay} {A_b : Option Addr} {c_b : Nat} {y_b : Nat → (Ty.slice 48 T_GItem_47).Lay} {A_c : Option Addr} {c_c : Nat} {y_c : Nat → (Ty.slice 48 T_GItem_47).Lay} {r1 : ByteArray} {r2 : Int} {r3 : List (List GFace)} {r4 : List GCrossing} {r5 r6 : Int} {r7 : List Int} {r8 r9 : Int} {r10 : List GMove} {r11 r12 : List Int} {r13 : Bool} (HS : St w0 w (L)) (r_a : RdIn w0 L T_GItem_47 A_a c_a y_a c1) (r_b : RdIn w0 L (Ty.slice 48 T_GItem_47) A_b c_b y_b a1) (r_c : RdIn w0 L (Ty.slice 48 T_GItem_47) A_c c_c y_c d1) (H : impl_FindItem.f K c1 a1 d1 name = some (r1, r2, r3, r4, r5, r6, r7, r8, r9, r10, r11, r12, r13)) :
    Calls prog 13 #[.agg [.slice A_a c1.length c_a, .slice A_b a1.length c_b, .slice A_c d1.length c_c].toArray, .string name] w (impl_FindItem.post w0 L r1 r2 r3 r4 r5 r6 r7 r8 r9 r10 r11 r12 r13) := by
  unfold impl_FindItem.f at H
  refine cG func13 Z ?_
  refine sQ (rG (GO.box (cs := [.slice A_a c1.length c_a, .slice A_b a1.length c_b, .slice A_c d1.length c_c]) HS Z Z Z Z fun b1 wd2 HS => GO.alloc HS Z zr48 Z Z fun b3 wd4 HS => aS Z (nL (sQ ?_))))
  obtain ⟨t5, t6, h7, H⟩ := bind2_elim H
  refine rG (fL b1 0 fl31_0 Z (lB 1 HS Z na28 Z (mV Z (fN Z func34 fok34.1 fok34.2 Z Z (impl_itemAt.calls HS (rD 2 r_a) h7) (fun _ wd8 ⟨h9, HS⟩ => ⟨_, h9, (pS 5 Z (nL (rN 2 Z ?_)))⟩)))))
  obtain ⟨t15, h16, H⟩ := bI H
  rcases iE H with ⟨c19, H⟩ | ⟨c19, H⟩
  ·
   refine rG (GO.ldBoxA (j := 1) ([.slice A_a c1.length c_a, .slice A_b a1.length c_b, .slice A_c d1.length c_c]) HS Z Z Z Z ag31 Z (fN Z func29 fok29.1 fok29.2 Z Z (impl_isBench.calls HS (rD 2 r_a) (rD 2 r_b) (rD 2 r_c) h16) (fun _ wd17 ⟨h18, HS⟩ => ⟨_, h18, (pS 2 Z (kN 18 Z (congrArg Bool.not c19) (oN Z (mV Z (bK (oN Z (GO.not Z Z Z (bK (GO.pickF Z Z Z Z Z (nL ?_))))))))))⟩)))
   rcases iE H with ⟨c20, H⟩ | ⟨c20, H⟩
   ·
    refine nB Z (congrArg Bool.not c20) (rN 2 Z ?_)
    obtain ⟨c21, H⟩ := iN H
    obtain ⟨e22, h23, H⟩ := bnd_elim H
    obtain ⟨t24, t25, t26, t27, t28, t29, t30, t31, t32, t33, t34, t35, h36, H⟩ := bind12_elim H
    refine rG (fL b1 0 fl31_0 Z (lB 1 HS Z na28 Z (mV Z (GO.ix Z Z Z underlying28 sz48 ((rD 2 r_a) _ HS).2.2.1 c21.1 c21.2 Z (GO.ldRdA (T := T_GItem_47) (n := t5.toNat) HS (rD 2 r_a) Z Z (getD_eq (ltN c21) h23) ag48 Z (fN Z func35 fok35.1 fok35.2 Z Z (impl_copyItem.calls HS (RdIn.fld (rD 2 r_a) (getD_eq (ltN c21) h23) (fun _ h => h.2.2.1)) (RdIn.fld (rD 2 r_a) (getD_eq (ltN c21) h23) (fun _ h => h.2.2.2.1)) (RdIn.fld (rD 2 r_a) (getD_eq (ltN c21) h23) (fun _ h => h.2.2.2.2.2.2.1)) (RdIn.fld (rD 2 r_a) (getD_eq (ltN c21) h23) (fun _ h => h.2.2.2.2.2.2.2.2.2.1)) (RdIn.fld (rD 2 r_a) (getD_eq (ltN c21) h23) (fun _ h => h.2.2.2.2.2.2.2.2.2.2.1)) (RdIn.fld (rD 2 r_a) (getD_eq (ltN c21) h23) (fun _ h => h.2.2.2.2.2.2.2.2.2.2.2)) h36) (fun _ wd50 ⟨A37, c38, y39, A40, c41, A42, c43, A44, c45, A46, c47, A48, c49, h51, HS⟩ => ⟨_, h51, (GO.stBox (j := 6) (vs := [.string t24, I t25, .slice A37 t26.length c38, .slice A40 t27.length c41, I t28, I t29, .slice A42 t30.length c43, I t31, I t32, .slice A44 t33.length c45, .slice A46 t34.length c47, .slice A48 t35.length c49]) ([.string t24, I t25, .slice A37 t26.length c38, .slice A40 t27.length c41, I t28, I t29, .slice A42 t30.length c43, I t31, I t32, .slice A44 t33.length c45, .slice A46 t34.length c47, .slice A48 t35.length c49]) HS Z Z Z Z Z (htA ag48) Z Z Z fun wd52 HS => aS Z (nL ?_))⟩)))))))
    obtain ⟨rfl, rfl, rfl, rfl, rfl, rfl, rfl, rfl, rfl, rfl, rfl, rfl, rfl⟩ := some13 H
    exact G.ret2 _ _ func13 Z (Res1.boxA (j := 6) (vs := [.string t24, I t25, .slice A37 t26.length c38, .slice A40 t27.length c41, I t28, I t29, .slice A42 t30.length c43, I t31, I t32, .slice A44 t33.length c45, .slice A46 t34.length c47, .slice A48 t35.length c49]) HS Z Z Z ag48) Z ⟨_, _, _, _, _, _, _, _, _, _, _, _, _, Z, (HS.pk 8 [0, 1, 2, 3, 4, 5] Z)⟩
   refine yB Z (congrArg Bool.not (bnot_of c20)) (sQ (rG (GO.buildV (.agg [.string ByteArray.empty, I 0, .slice none 0 0, .slice none 0 0, I 0, I 0, .slice none 0 0, I 0, I 0, .slice none 0 0, .slice none 0 0, .slice none 0 0].toArray) Z Z (fun _ => by kernel_rfl) Z (GO.stBox (j := 0) (vs := [.string ByteArray.empty, I 0, .slice none 0 0, .slice none 0 0, I 0, I 0, .slice none 0 0, I 0, I 0, .slice none 0 0, .slice none 0 0, .slice none 0 0]) ([.string ByteArray.empty, I 0, .slice none 0 0, .slice none 0 0, I 0, I 0, .slice none 0 0, I 0, I 0, .slice none 0 0, .slice none 0 0, .slice none 0 0]) HS Z Z Z Z Z (htA ag48) Z Z Z fun wd53 HS => aS Z (nL ?_)))))
   replace HS := HS.nilRow (Ty.slice 140 T_GFace) 136 (fun _ => ⟨none, 0, (fun _ => ())⟩)
   replace HS := HS.nilRow T_GCrossing 143 (fun _ => ())
   replace HS := HS.nilRow (TInt .i64) 2 (fun _ => ())
   replace HS := HS.nilRow T_GMove 110 (fun _ => ())
   replace HS := HS.nilRow (TInt .i64) 2 (fun _ => ())
   replace HS := HS.nilRow (TInt .i64) 2 (fun _ => ())
   obtain ⟨rfl, rfl, rfl, rfl, rfl, rfl, rfl, rfl, rfl, rfl, rfl, rfl, rfl⟩ := some13 H
   exact G.ret2 _ _ func13 Z (Res1.boxA (j := 6) (vs := [.string ByteArray.empty, I 0, .slice none 0 0, .slice none 0 0, I 0, I 0, .slice none 0 0, I 0, I 0, .slice none 0 0, .slice none 0 0, .slice none 0 0]) HS Z Z Z ag48) Z ⟨_, _, _, _, _, _, _, _, _, _, _, _, _, Z, (HS.pk 8 [5, 4, 3, 2, 1, 0] Z)⟩
  refine rG (GO.ldBoxA (j := 1) ([.slice A_a c1.length c_a, .slice A_b a1.length c_b, .slice A_c d1.length c_c]) HS Z Z Z Z ag31 Z (fN Z func29 fok29.1 fok29.2 Z Z (impl_isBench.calls HS (rD 2 r_a) (rD 2 r_b) (rD 2 r_c) h16) (fun _ wd17 ⟨h18, HS⟩ => ⟨_, h18, (pS 2 Z (kN 18 Z (congrArg Bool.not (bnot_of c19)) (oF Z (oF Z (GO.pickT Z Z Z Z Z (nL (rN 2 Z (rG (GO.buildV (.agg [.string ByteArray.empty, I 0, .slice none 0 0, .slice none 0 0, I 0, I 0, .slice none 0 0, I 0, I 0, .slice none 0 0, .slice none 0 0, .slice none 0 0].toArray) Z Z (fun _ => by kernel_rfl) Z (GO.stBox (j := 0) (vs := [.string ByteArray.empty, I 0, .slice none 0 0, .slice none 0 0, I 0, I 0, .slice none 0 0, I 0, I 0, .slice none 0 0, .slice none 0 0, .slice none 0 0]) ([.string ByteArray.empty, I 0, .slice none 0 0, .slice none 0 0, I 0, I 0, .slice none 0 0, I 0, I 0, .slice none 0 0, .slice none 0 0, .slice none 0 0]) HS Z Z Z Z Z (htA ag48) Z Z Z fun wd54 HS => aS Z (nL ?_)))))))))))⟩)))
  replace HS := HS.nilRow (Ty.slice 140 T_GFace) 136 (fun _ => ⟨none, 0, (fun _ => ())⟩)
  replace HS := HS.nilRow T_GCrossing 143 (fun _ => ())
  replace HS := HS.nilRow (TInt .i64) 2 (fun _ => ())
  replace HS := HS.nilRow T_GMove 110 (fun _ => ())
  replace HS := HS.nilRow (TInt .i64) 2 (fun _ => ())
  replace HS := HS.nilRow (TInt .i64) 2 (fun _ => ())
  obtain ⟨rfl, rfl, rfl, rfl, rfl, rfl, rfl, rfl, rfl, rfl, rfl, rfl, rfl⟩ := some13 H
  exact G.ret2 _ _ func13 Z (Res1.boxA (j := 6) (vs := [.string ByteArray.empty, I 0, .slice none 0 0, .slice none 0 0, I 0, I 0, .slice none 0 0, I 0, I 0, .slice none 0 0, .slice none 0 0, .slice none 0 0]) HS Z Z Z ag48) Z ⟨_, _, _, _, _, _, _, _, _, _, _, _, _, Z, (HS.pk 8 [5, 4, 3, 2, 1, 0] Z)⟩
theorem laws_eqFace.calls {a1 d1 : Int} {e1 c1 : Int} {r1 : Bool} (HS : St w0 w (L)) (H : laws_eqFace.f a1 d1 e1 c1 = some r1) :
    Calls prog 143 #[.agg [I a1, I d1].toArray, .agg [I e1, I c1].toArray] w (laws_eqFace.post w0 L r1) := by
  unfold laws_eqFace.f at H
  refine cG func143 Z ?_
  refine sQ (rG (GO.box (cs := [I a1, I d1]) HS Z Z Z Z fun b1 wd2 HS => GO.box (cs := [I e1, I c1]) HS Z Z Z Z fun b3 wd4 HS => aS Z (nL (rN 2 Z (rG (fL b1 0 fl140_0 Z (lB 1 HS Z na2 Z (fL b3 0 fl140_0 Z (lB 0 HS Z na2 Z (GO.neq Z Z Z Z (nL ?_)))))))))))
  rcases iE H with ⟨c5, H⟩ | ⟨c5, H⟩
  ·
   refine nB Z (nT c5) (rN 3 Z (rG (fL b1 1 fl140_1 Z (lB 1 HS Z na2 Z (fL b3 1 fl140_1 Z (lB 0 HS Z na2 Z (GO.neq Z Z Z Z (nL ?_))))))))
   rcases iE H with ⟨c6, H⟩ | ⟨c6, H⟩
   ·
    refine nB Z (nT c6) (rN 3 Z ?_)
    obtain rfl := sI H
    exact rT _ func143 Z Z ⟨Z, (HS.pk 2 [] Z)⟩
   refine yB Z (nF c6) (rN 2 Z ?_)
   obtain rfl := sI H
   exact rT _ func143 Z Z ⟨Z, (HS.pk 2 [] Z)⟩
  refine yB Z (nF c5) (rN 2 Z ?_)
  obtain rfl := sI H
  exact rT _ func143 Z Z ⟨Z, (HS.pk 2 [] Z)⟩
theorem laws_eqFaceS.calls {a_ b_ : List GFace} {A_a : Option Addr} {c_a : Nat} {A_b : Option Addr} {c_b : Nat} {r1 : Bool} (HS : St w0 w (L)) (r_a : RdIn w0 L T_GFace A_a c_a (fun _ => ()) a_) (r_b : RdIn w0 L T_GFace A_b c_b (fun _ => ()) b_) (H : laws_eqFaceS.f K a_ b_ = some r1) :
    Calls prog 107 #[.slice A_a a_.length c_a, .slice A_b b_.length c_b] w (laws_eqFaceS.post w0 L r1) := by
  unfold laws_eqFaceS.f at H
  refine cG func107 Z ?_
  refine rN 4 Z (rG (mV Z (lS Z Z underlying136 Z (mV Z (lS Z Z underlying136 Z (GO.neq Z Z Z Z (nL ?_)))))))
  rcases iE H with ⟨c1, H⟩ | ⟨c1, H⟩
  ·
   refine nB Z (nT c1) (rN 6 Z ?_)
   refine G.name (fun i1 d1 => ?_)
   have e1 : ∀ a1, a1 ≤ K → ∀ (b1 : Int) (w : World), laws_eqFaceS.l1 K a1 a_ b_ b1 = some r1 → St w0 w (L) → G prog 107 27 [(0, .slice A_a a_.length c_a), (1, .slice A_b b_.length c_b), (5, I b1)] i1 w (laws_eqFaceS.post w0 L r1) := by
    intro a1
    induction a1 using Nat.strongRecOn with
    | _ a1 f1 =>
     intro h1 b1 w H HS
     cases a1 with
     | zero => rw [laws_eqFaceS.l1] at H; cases H
     | succ g1 =>
      rw [laws_eqFaceS.l1] at H
      subst d1
      refine rN 2 Z (rG (pS 2 Z (lS Z Z underlying136 Z (GO.lss Z Z Z Z (nL ?_)))))
      rcases iE H with ⟨c27, H⟩ | ⟨c27, H⟩
      ·
       refine yB Z (tT c27) (rN 4 Z ?_)
       obtain ⟨c28, H⟩ := iN H
       obtain ⟨e29, h30, H⟩ := bnd_elim H
       obtain ⟨c31, H⟩ := iN H
       obtain ⟨e32, h33, H⟩ := bnd_elim H
       obtain ⟨t34, h35, H⟩ := bI H
       refine G.lex mixed [0, 1, 2, 4, 5, 6, 3, 7, 8, 9] (by kernel_rfl) ?_
       replace HS := HS.drew
       refine GX.ps 2 Z (qL Z Z (fun _ _ g => GO.ix Z Z Z underlying136 sz140 (r_a _ HS).2.2.1 c28.1 c28.2 Z g) Z (GX.ps 2 Z (qL Z Z (fun _ _ g => GO.ix Z Z Z underlying136 sz140 (r_b _ HS).2.2.1 c31.1 c31.2 Z g) Z (GX.l1 Z Z Z (fun _ g => GO.ldRdA (T := T_GFace) (n := b1.toNat) HS r_a Z Z (getD_eq (ltN c28) h30) ag140 Z g) Z (GX.l1 Z Z Z (fun _ g => GO.ldRdA (T := T_GFace) (n := b1.toNat) HS r_b Z Z (getD_eq (ltN c31) h33) ag140 Z g) Z (GX.l2 Z (fN Z func143 fok143.1 fok143.2 Z Z (laws_eqFace.calls HS  h35) (fun _ wd36 ⟨h37, HS⟩ => ⟨_, h37, (GX.fin tv (GX.ps 1 Z (GX.nil ?_)))⟩))))))))
       rcases iE H with ⟨c38, H⟩ | ⟨c38, H⟩
       ·
        refine nB Z (congrArg Bool.not c38) (rN 4 Z (G.weak ?_ (f1 g1 (Nat.lt_succ_of_le (lR _)) (Nat.le_of_succ_le h1) _ _ H HS)))
        exact ⟨Z, Z, Z, tv⟩
       refine yB Z (congrArg Bool.not (bnot_of c38)) (rN 2 Z ?_)
       obtain rfl := sI H
       exact rT _ func107 Z Z ⟨Z, HS⟩
      refine nB Z (tF c27) (rN 3 Z ?_)
      obtain rfl := sI H
      exact rT _ func107 Z Z ⟨Z, HS⟩
   refine G.weak ?_ (e1 K (lR _) _ _ H HS)
   exact ⟨Z, Z, Z, tv⟩
  refine yB Z (nF c1) (rN 2 Z ?_)
  obtain rfl := sI H
  exact rT _ func107 Z Z ⟨Z, HS⟩
theorem laws_eqFaceSS.calls {a_ b_ : List (List GFace)} {A_a : Option Addr} {c_a : Nat} {y_a : Nat → (Ty.slice 140 T_GFace).Lay} {A_b : Option Addr} {c_b : Nat} {y_b : Nat → (Ty.slice 140 T_GFace).Lay} {r1 : Bool} (HS : St w0 w (L)) (r_a : RdIn w0 L (Ty.slice 140 T_GFace) A_a c_a y_a a_) (r_b : RdIn w0 L (Ty.slice 140 T_GFace) A_b c_b y_b b_) (H : laws_eqFaceSS.f K a_ b_ = some r1) :
    Calls prog 72 #[.slice A_a a_.length c_a, .slice A_b b_.length c_b] w (laws_eqFaceSS.post w0 L r1) := by
  unfold laws_eqFaceSS.f at H
  refine cG func72 Z ?_
  refine rN 4 Z (rG (mV Z (lS Z Z underlying35 Z (mV Z (lS Z Z underlying35 Z (GO.neq Z Z Z Z (nL ?_)))))))
  rcases iE H with ⟨c1, H⟩ | ⟨c1, H⟩
  ·
   refine nB Z (nT c1) (rN 6 Z ?_)
   refine G.name (fun i1 d1 => ?_)
   have e1 : ∀ a1, a1 ≤ K → ∀ (b1 : Int) (w : World), laws_eqFaceSS.l1 K a1 a_ b_ b1 = some r1 → St w0 w (L) → G prog 72 27 [(0, .slice A_a a_.length c_a), (1, .slice A_b b_.length c_b), (5, I b1)] i1 w (laws_eqFaceSS.post w0 L r1) := by
    intro a1
    induction a1 using Nat.strongRecOn with
    | _ a1 f1 =>
     intro h1 b1 w H HS
     cases a1 with
     | zero => rw [laws_eqFaceSS.l1] at H; cases H
     | succ g1 =>
      rw [laws_eqFaceSS.l1] at H
      subst d1
      refine rN 2 Z (rG (pS 2 Z (lS Z Z underlying35 Z (GO.lss Z Z Z Z (nL ?_)))))
      rcases iE H with ⟨c19, H⟩ | ⟨c19, H⟩
      ·
       refine yB Z (tT c19) (rN 4 Z ?_)
       obtain ⟨c20, H⟩ := iN H
       obtain ⟨c21, H⟩ := iN H
       obtain ⟨t22, h23, H⟩ := bI H
       refine G.lex mixed [0, 1, 2, 4, 5, 6, 3, 7, 8, 9] (by kernel_rfl) ?_
       replace HS := HS.drew
       refine GX.ps 2 Z (qL Z Z (fun _ _ g => GO.ix Z Z Z underlying35 sz136 (r_a _ HS).2.2.1 c20.1 c20.2 Z g) Z (GX.ps 2 Z (qL Z Z (fun _ _ g => GO.ix Z Z Z underlying35 sz136 (r_b _ HS).2.2.1 c21.1 c21.2 Z g) Z (GX.l1 Z Z Z (fun _ g => GO.ldRd (T := (Ty.slice 140 T_GFace)) (n := b1.toNat) (o := 0) HS r_a Z Z (getD_some (d := []) (ltN c20)) Z Z na136 Z g) Z (GX.l1 Z Z Z (fun _ g => GO.ldRd (T := (Ty.slice 140 T_GFace)) (n := b1.toNat) (o := 0) HS r_b Z Z (getD_some (d := []) (ltN c21)) Z Z na136 Z g) Z (GX.l2 Z (fN Z func107 fok107.1 fok107.2 Z Z (laws_eqFaceS.calls HS (RdIn.elem r_a c20.1 c20.2) (RdIn.elem r_b c21.1 c21.2) h23) (fun _ wd24 ⟨h25, HS⟩ => ⟨_, h25, (GX.fin tv (GX.ps 1 Z (GX.nil ?_)))⟩))))))))
       rcases iE H with ⟨c26, H⟩ | ⟨c26, H⟩
       ·
        refine nB Z (congrArg Bool.not c26) (rN 4 Z (G.weak ?_ (f1 g1 (Nat.lt_succ_of_le (lR _)) (Nat.le_of_succ_le h1) _ _ H HS)))
        exact ⟨Z, Z, Z, tv⟩
       refine yB Z (congrArg Bool.not (bnot_of c26)) (rN 2 Z ?_)
       obtain rfl := sI H
       exact rT _ func72 Z Z ⟨Z, HS⟩
      refine nB Z (tF c19) (rN 3 Z ?_)
      obtain rfl := sI H
      exact rT _ func72 Z Z ⟨Z, HS⟩
   refine G.weak ?_ (e1 K (lR _) _ _ H HS)
   exact ⟨Z, Z, Z, tv⟩
  refine yB Z (nF c1) (rN 2 Z ?_)
  obtain rfl := sI H
  exact rT _ func72 Z Z ⟨Z, HS⟩
theorem laws_eqTriangulation.calls {a1 c1 : List (List GFace)} {A_a : Option Addr} {c_a : Nat} {y_a : Nat → (Ty.slice 140 T_GFace).Lay} {A_b : Option Addr} {c_b : Nat} {y_b : Nat → (Ty.slice 140 T_GFace).Lay} {r1 : Bool} (HS : St w0 w (L)) (r_a : RdIn w0 L (Ty.slice 140 T_GFace) A_a c_a y_a a1) (r_b : RdIn w0 L (Ty.slice 140 T_GFace) A_b c_b y_b c1) (H : laws_eqTriangulation.f K a1 c1 = some r1) :
    Calls prog 36 #[.agg [.slice A_a a1.length c_a].toArray, .agg [.slice A_b c1.length c_b].toArray] w (laws_eqTriangulation.post w0 L r1) := by
  unfold laws_eqTriangulation.f at H
  refine cG func36 Z ?_
  refine sQ (rG (GO.box (cs := [.slice A_a a1.length c_a]) HS Z Z Z Z fun b1 wd2 HS => GO.box (cs := [.slice A_b c1.length c_b]) HS Z Z Z Z fun b3 wd4 HS => aS Z (nL (rN 2 Z ?_))))
  obtain ⟨t5, h6, H⟩ := bI H
  refine rG (fL b1 0 fl37_0 Z (lB 1 HS Z na35 Z (fL b3 0 fl37_0 Z (lB 0 HS Z na35 Z (fN Z func72 fok72.1 fok72.2 Z Z (laws_eqFaceSS.calls HS (rD 2 r_a) (rD 2 r_b) h6) (fun _ wd7 ⟨h8, HS⟩ => ⟨_, h8, (GO.not Z Z Z (nL ?_))⟩))))))
  rcases iE H with ⟨c9, H⟩ | ⟨c9, H⟩
  ·
   refine nB Z (congrArg Bool.not c9) (rN 3 Z ?_)
   obtain rfl := sI H
   exact rT _ func36 Z Z ⟨Z, (HS.pk 2 [] Z)⟩
  refine yB Z (congrArg Bool.not (bnot_of c9)) (rN 2 Z ?_)
  obtain rfl := sI H
  exact rT _ func36 Z Z ⟨Z, (HS.pk 2 [] Z)⟩
theorem laws_eqCrossing.calls {a_A a_B : Int} {a_C a_D : Int} {c1 b_A : Int} {b_B b_C : Int} {b_D a1 : Int} {r1 : Bool} (HS : St w0 w (L)) (H : laws_eqCrossing.f a_A a_B a_C a_D c1 b_A b_B b_C b_D a1 = some r1) :
    Calls prog 108 #[.agg [I a_A, I a_B, I a_C, I a_D, I c1].toArray, .agg [I b_A, I b_B, I b_C, I b_D, I a1].toArray] w (laws_eqCrossing.post w0 L r1) := by
  unfold laws_eqCrossing.f at H
  refine cG func108 Z ?_
  refine sQ (rG (GO.box (cs := [I a_A, I a_B, I a_C, I a_D, I c1]) HS Z Z Z Z fun b1 wd2 HS => GO.box (cs := [I b_A, I b_B, I b_C, I b_D, I a1]) HS Z Z Z Z fun b3 wd4 HS => aS Z (nL (rN 2 Z (rG (fL b1 0 fl143_0 Z (lB 1 HS Z na2 Z (fL b3 0 fl143_0 Z (lB 0 HS Z na2 Z (GO.neq Z Z Z Z (nL ?_)))))))))))
  rcases iE H with ⟨c5, H⟩ | ⟨c5, H⟩
  ·
   refine nB Z (nT c5) (rN 3 Z (rG (fL b1 1 fl143_1 Z (lB 1 HS Z na2 Z (fL b3 1 fl143_1 Z (lB 0 HS Z na2 Z (GO.neq Z Z Z Z (nL ?_))))))))
   rcases iE H with ⟨c6, H⟩ | ⟨c6, H⟩
   ·
    refine nB Z (nT c6) (rN 3 Z (rG (fL b1 2 fl143_2 Z (lB 1 HS Z na2 Z (fL b3 2 fl143_2 Z (lB 0 HS Z na2 Z (GO.neq Z Z Z Z (nL ?_))))))))
    rcases iE H with ⟨c7, H⟩ | ⟨c7, H⟩
    ·
     refine nB Z (nT c7) (rN 3 Z (rG (fL b1 3 fl143_3 Z (lB 1 HS Z na2 Z (fL b3 3 fl143_3 Z (lB 0 HS Z na2 Z (GO.neq Z Z Z Z (nL ?_))))))))
     rcases iE H with ⟨c8, H⟩ | ⟨c8, H⟩
     ·
      refine nB Z (nT c8) (rN 3 Z (rG (fL b1 4 fl143_4 Z (lB 1 HS Z na2 Z (fL b3 4 fl143_4 Z (lB 0 HS Z na2 Z (GO.neq Z Z Z Z (nL ?_))))))))
      rcases iE H with ⟨c9, H⟩ | ⟨c9, H⟩
      ·
       refine nB Z (nT c9) (rN 3 Z ?_)
       obtain rfl := sI H
       exact rT _ func108 Z Z ⟨Z, (HS.pk 2 [] Z)⟩
      refine yB Z (nF c9) (rN 2 Z ?_)
      obtain rfl := sI H
      exact rT _ func108 Z Z ⟨Z, (HS.pk 2 [] Z)⟩
     refine yB Z (nF c8) (rN 2 Z ?_)
     obtain rfl := sI H
     exact rT _ func108 Z Z ⟨Z, (HS.pk 2 [] Z)⟩
    refine yB Z (nF c7) (rN 2 Z ?_)
    obtain rfl := sI H
    exact rT _ func108 Z Z ⟨Z, (HS.pk 2 [] Z)⟩
   refine yB Z (nF c6) (rN 2 Z ?_)
   obtain rfl := sI H
   exact rT _ func108 Z Z ⟨Z, (HS.pk 2 [] Z)⟩
  refine yB Z (nF c5) (rN 2 Z ?_)
  obtain rfl := sI H
  exact rT _ func108 Z Z ⟨Z, (HS.pk 2 [] Z)⟩
theorem laws_eqCrossingS.calls {a_ b_ : List GCrossing} {A_a : Option Addr} {c_a : Nat} {A_b : Option Addr} {c_b : Nat} {r1 : Bool} (HS : St w0 w (L)) (r_a : RdIn w0 L T_GCrossing A_a c_a (fun _ => ()) a_) (r_b : RdIn w0 L T_GCrossing A_b c_b (fun _ => ()) b_) (H : laws_eqCrossingS.f K a_ b_ = some r1) :
    Calls prog 73 #[.slice A_a a_.length c_a, .slice A_b b_.length c_b] w (laws_eqCrossingS.post w0 L r1) := by
  unfold laws_eqCrossingS.f at H
  refine cG func73 Z ?_
  refine rN 4 Z (rG (mV Z (lS Z Z underlying38 Z (mV Z (lS Z Z underlying38 Z (GO.neq Z Z Z Z (nL ?_)))))))
  rcases iE H with ⟨c1, H⟩ | ⟨c1, H⟩
  ·
   refine nB Z (nT c1) (rN 6 Z ?_)
   refine G.name (fun i1 d1 => ?_)
   have e1 : ∀ a1, a1 ≤ K → ∀ (b1 : Int) (w : World), laws_eqCrossingS.l1 K a1 a_ b_ b1 = some r1 → St w0 w (L) → G prog 73 27 [(0, .slice A_a a_.length c_a), (1, .slice A_b b_.length c_b), (5, I b1)] i1 w (laws_eqCrossingS.post w0 L r1) := by
    intro a1
    induction a1 using Nat.strongRecOn with
    | _ a1 f1 =>
     intro h1 b1 w H HS
     cases a1 with
     | zero => rw [laws_eqCrossingS.l1] at H; cases H
     | succ g1 =>
      rw [laws_eqCrossingS.l1] at H
      subst d1
      refine rN 2 Z (rG (pS 2 Z (lS Z Z underlying38 Z (GO.lss Z Z Z Z (nL ?_)))))
      rcases iE H with ⟨c27, H⟩ | ⟨c27, H⟩
      ·
       refine yB Z (tT c27) (rN 4 Z ?_)
       obtain ⟨c28, H⟩ := iN H
       obtain ⟨e29, h30, H⟩ := bnd_elim H
       obtain ⟨c31, H⟩ := iN H
       obtain ⟨e32, h33, H⟩ := bnd_elim H
       obtain ⟨t34, h35, H⟩ := bI H
       refine G.lex mixed [0, 1, 2, 4, 5, 6, 3, 7, 8, 9] (by kernel_rfl) ?_
       replace HS := HS.drew
       refine GX.ps 2 Z (qL Z Z (fun _ _ g => GO.ix Z Z Z underlying38 sz143 (r_a _ HS).2.2.1 c28.1 c28.2 Z g) Z (GX.ps 2 Z (qL Z Z (fun _ _ g => GO.ix Z Z Z underlying38 sz143 (r_b _ HS).2.2.1 c31.1 c31.2 Z g) Z (GX.l1 Z Z Z (fun _ g => GO.ldRdA (T := T_GCrossing) (n := b1.toNat) HS r_a Z Z (getD_eq (ltN c28) h30) ag143 Z g) Z (GX.l1 Z Z Z (fun _ g => GO.ldRdA (T := T_GCrossing) (n := b1.toNat) HS r_b Z Z (getD_eq (ltN c31) h33) ag143 Z g) Z (GX.l2 Z (fN Z func108 fok108.1 fok108.2 Z Z (laws_eqCrossing.calls HS  h35) (fun _ wd36 ⟨h37, HS⟩ => ⟨_, h37, (GX.fin tv (GX.ps 1 Z (GX.nil ?_)))⟩))))))))
       rcases iE H with ⟨c38, H⟩ | ⟨c38, H⟩
       ·
        refine nB Z (congrArg Bool.not c38) (rN 4 Z (G.weak ?_ (f1 g1 (Nat.lt_succ_of_le (lR _)) (Nat.le_of_succ_le h1) _ _ H HS)))
        exact ⟨Z, Z, Z, tv⟩
       refine yB Z (congrArg Bool.not (bnot_of c38)) (rN 2 Z ?_)
       obtain rfl := sI H
       exact rT _ func73 Z Z ⟨Z, HS⟩
      refine nB Z (tF c27) (rN 3 Z ?_)
      obtain rfl := sI H
      exact rT _ func73 Z Z ⟨Z, HS⟩
   refine G.weak ?_ (e1 K (lR _) _ _ H HS)
   exact ⟨Z, Z, Z, tv⟩
  refine yB Z (nF c1) (rN 2 Z ?_)
  obtain rfl := sI H
  exact rT _ func73 Z Z ⟨Z, HS⟩
theorem laws_eqDiagram.calls {a1 : List GCrossing} {e1 : Int} {c1 : List GCrossing} {d1 : Int} {A_a : Option Addr} {c_a : Nat} {A_b : Option Addr} {c_b : Nat} {r1 : Bool} (HS : St w0 w (L)) (r_a : RdIn w0 L T_GCrossing A_a c_a (fun _ => ()) a1) (r_b : RdIn w0 L T_GCrossing A_b c_b (fun _ => ()) c1) (H : laws_eqDiagram.f K a1 e1 c1 d1 = some r1) :
    Calls prog 37 #[.agg [.slice A_a a1.length c_a, I e1].toArray, .agg [.slice A_b c1.length c_b, I d1].toArray] w (laws_eqDiagram.post w0 L r1) := by
  unfold laws_eqDiagram.f at H
  refine cG func37 Z ?_
  refine sQ (rG (GO.box (cs := [.slice A_a a1.length c_a, I e1]) HS Z Z Z Z fun b1 wd2 HS => GO.box (cs := [.slice A_b c1.length c_b, I d1]) HS Z Z Z Z fun b3 wd4 HS => aS Z (nL (rN 2 Z ?_))))
  obtain ⟨t5, h6, H⟩ := bI H
  refine rG (fL b1 0 fl40_0 Z (lB 1 HS Z na38 Z (fL b3 0 fl40_0 Z (lB 0 HS Z na38 Z (fN Z func73 fok73.1 fok73.2 Z Z (laws_eqCrossingS.calls HS (rD 2 r_a) (rD 2 r_b) h6) (fun _ wd7 ⟨h8, HS⟩ => ⟨_, h8, (GO.not Z Z Z (nL ?_))⟩))))))
  rcases iE H with ⟨c9, H⟩ | ⟨c9, H⟩
  ·
   refine nB Z (congrArg Bool.not c9) (rN 3 Z (rG (fL b1 1 fl40_1 Z (lB 1 HS Z na2 Z (fL b3 1 fl40_1 Z (lB 0 HS Z na2 Z (GO.neq Z Z Z Z (nL ?_))))))))
   rcases iE H with ⟨c10, H⟩ | ⟨c10, H⟩
   ·
    refine nB Z (nT c10) (rN 3 Z ?_)
    obtain rfl := sI H
    exact rT _ func37 Z Z ⟨Z, (HS.pk 2 [] Z)⟩
   refine yB Z (nF c10) (rN 2 Z ?_)
   obtain rfl := sI H
   exact rT _ func37 Z Z ⟨Z, (HS.pk 2 [] Z)⟩
  refine yB Z (congrArg Bool.not (bnot_of c9)) (rN 2 Z ?_)
  obtain rfl := sI H
  exact rT _ func37 Z Z ⟨Z, (HS.pk 2 [] Z)⟩
theorem laws_eqInt64S.calls {a_ b_ : List Int} {A_a : Option Addr} {c_a : Nat} {A_b : Option Addr} {c_b : Nat} {r1 : Bool} (HS : St w0 w (L)) (r_a : RdIn w0 L (TInt .i64) A_a c_a (fun _ => ()) a_) (r_b : RdIn w0 L (TInt .i64) A_b c_b (fun _ => ()) b_) (H : laws_eqInt64S.f K a_ b_ = some r1) :
    Calls prog 74 #[.slice A_a a_.length c_a, .slice A_b b_.length c_b] w (laws_eqInt64S.post w0 L r1) := by
  unfold laws_eqInt64S.f at H
  refine cG func74 Z ?_
  refine rN 4 Z (rG (mV Z (lS Z Z underlying41 Z (mV Z (lS Z Z underlying41 Z (GO.neq Z Z Z Z (nL ?_)))))))
  rcases iE H with ⟨c1, H⟩ | ⟨c1, H⟩
  ·
   refine nB Z (nT c1) (rN 6 Z ?_)
   refine G.name (fun h1 b1 => ?_)
   have d1 : ∀ a1, a1 ≤ K → ∀ (i_6 : Int) (w : World), laws_eqInt64S.l1 K a1 a_ b_ i_6 = some r1 → St w0 w (L) → G prog 74 26 [(0, .slice A_a a_.length c_a), (1, .slice A_b b_.length c_b), (5, I i_6)] h1 w (laws_eqInt64S.post w0 L r1) := by
    intro a1
    induction a1 using Nat.strongRecOn with
    | _ a1 e1 =>
     intro g1 i_6 w H HS
     cases a1 with
     | zero => rw [laws_eqInt64S.l1] at H; cases H
     | succ f1 =>
      rw [laws_eqInt64S.l1] at H
      subst b1
      refine rN 2 Z (rG (pS 2 Z (lS Z Z underlying41 Z (GO.lss Z Z Z Z (nL ?_)))))
      rcases iE H with ⟨c11, H⟩ | ⟨c11, H⟩
      ·
       refine yB Z (tT c11) (rN 4 Z ?_)
       obtain ⟨c12, H⟩ := iN H
       obtain ⟨c13, H⟩ := iN H
       refine G.lex mixed [0, 1, 2, 4, 5, 6, 3, 7, 8] (by kernel_rfl) ?_
       replace HS := HS.drew
       refine GX.ps 2 Z (qL Z Z (fun _ _ g => GO.ix Z Z Z underlying41 sz2 (r_a _ HS).2.2.1 c12.1 c12.2 Z g) Z (GX.ps 2 Z (qL Z Z (fun _ _ g => GO.ix Z Z Z underlying41 sz2 (r_b _ HS).2.2.1 c13.1 c13.2 Z g) Z (GX.l1 Z Z Z (fun _ g => GO.ldRd (T := (TInt .i64)) (n := i_6.toNat) (o := 0) HS r_a Z Z (getD_some (d := 0) (ltN c12)) Z Z na2 Z g) Z (GX.l1 Z Z Z (fun _ g => GO.ldRd (T := (TInt .i64)) (n := i_6.toNat) (o := 0) HS r_b Z Z (getD_some (d := 0) (ltN c13)) Z Z na2 Z g) Z (GX.ps 1 Z (GX.nil ?_)))))))
       rcases iE H with ⟨c14, H⟩ | ⟨c14, H⟩
       ·
        refine nB Z (nT c14) (rN 4 Z (G.weak ?_ (e1 f1 (Nat.lt_succ_of_le (lR _)) (Nat.le_of_succ_le g1) _ _ H HS)))
        exact ⟨Z, Z, Z, tv⟩
       refine yB Z (nF c14) (rN 2 Z ?_)
       obtain rfl := sI H
       exact rT _ func74 Z Z ⟨Z, HS⟩
      refine nB Z (tF c11) (rN 3 Z ?_)
      obtain rfl := sI H
      exact rT _ func74 Z Z ⟨Z, HS⟩
   refine G.weak ?_ (d1 K (lR _) _ _ H HS)
   exact ⟨Z, Z, Z, tv⟩
  refine yB Z (nF c1) (rN 2 Z ?_)
  obtain rfl := sI H
  exact rT _ func74 Z Z ⟨Z, HS⟩
theorem laws_eqBraid.calls {e1 : Int} {c1 : List Int} {d1 : Int} {a1 : List Int} {A_a : Option Addr} {c_a : Nat} {A_b : Option Addr} {c_b : Nat} {r1 : Bool} (HS : St w0 w (L)) (r_a : RdIn w0 L (TInt .i64) A_a c_a (fun _ => ()) c1) (r_b : RdIn w0 L (TInt .i64) A_b c_b (fun _ => ()) a1) (H : laws_eqBraid.f K e1 c1 d1 a1 = some r1) :
    Calls prog 38 #[.agg [I e1, .slice A_a c1.length c_a].toArray, .agg [I d1, .slice A_b a1.length c_b].toArray] w (laws_eqBraid.post w0 L r1) := by
  unfold laws_eqBraid.f at H
  refine cG func38 Z ?_
  refine sQ (rG (GO.box (cs := [I e1, .slice A_a c1.length c_a]) HS Z Z Z Z fun b1 wd2 HS => GO.box (cs := [I d1, .slice A_b a1.length c_b]) HS Z Z Z Z fun b3 wd4 HS => aS Z (nL (rN 2 Z (rG (fL b1 0 fl43_0 Z (lB 1 HS Z na2 Z (fL b3 0 fl43_0 Z (lB 0 HS Z na2 Z (GO.neq Z Z Z Z (nL ?_)))))))))))
  rcases iE H with ⟨c5, H⟩ | ⟨c5, H⟩
  ·
   refine nB Z (nT c5) (rN 3 Z ?_)
   obtain ⟨t6, h7, H⟩ := bI H
   refine rG (fL b1 1 fl43_1 Z (lB 1 HS Z na41 Z (fL b3 1 fl43_1 Z (lB 0 HS Z na41 Z (fN Z func74 fok74.1 fok74.2 Z Z (laws_eqInt64S.calls HS (rD 2 r_a) (rD 2 r_b) h7) (fun _ wd8 ⟨h9, HS⟩ => ⟨_, h9, (GO.not Z Z Z (nL ?_))⟩))))))
   rcases iE H with ⟨c10, H⟩ | ⟨c10, H⟩
   ·
    refine nB Z (congrArg Bool.not c10) (rN 3 Z ?_)
    obtain rfl := sI H
    exact rT _ func38 Z Z ⟨Z, (HS.pk 2 [] Z)⟩
   refine yB Z (congrArg Bool.not (bnot_of c10)) (rN 2 Z ?_)
   obtain rfl := sI H
   exact rT _ func38 Z Z ⟨Z, (HS.pk 2 [] Z)⟩
  refine yB Z (nF c5) (rN 2 Z ?_)
  obtain rfl := sI H
  exact rT _ func38 Z Z ⟨Z, (HS.pk 2 [] Z)⟩
theorem laws_eqMove.calls {g1 c1 : Int} {e1 f1 : Int} {d1 a1 : Int} {r1 : Bool} (HS : St w0 w (L)) (H : laws_eqMove.f g1 c1 e1 f1 d1 a1 = some r1) :
    Calls prog 109 #[.agg [I g1, I c1, I e1].toArray, .agg [I f1, I d1, I a1].toArray] w (laws_eqMove.post w0 L r1) := by
  unfold laws_eqMove.f at H
  refine cG func109 Z ?_
  refine sQ (rG (GO.box (cs := [I g1, I c1, I e1]) HS Z Z Z Z fun b1 wd2 HS => GO.box (cs := [I f1, I d1, I a1]) HS Z Z Z Z fun b3 wd4 HS => aS Z (nL (rN 2 Z (rG (fL b1 0 fl110_0 Z (lB 1 HS Z na2 Z (fL b3 0 fl110_0 Z (lB 0 HS Z na2 Z (GO.neq Z Z Z Z (nL ?_)))))))))))
  rcases iE H with ⟨c5, H⟩ | ⟨c5, H⟩
  ·
   refine nB Z (nT c5) (rN 3 Z (rG (fL b1 1 fl110_1 Z (lB 1 HS Z na2 Z (fL b3 1 fl110_1 Z (lB 0 HS Z na2 Z (GO.neq Z Z Z Z (nL ?_))))))))
   rcases iE H with ⟨c6, H⟩ | ⟨c6, H⟩
   ·
    refine nB Z (nT c6) (rN 3 Z (rG (fL b1 2 fl110_2 Z (lB 1 HS Z na2 Z (fL b3 2 fl110_2 Z (lB 0 HS Z na2 Z (GO.neq Z Z Z Z (nL ?_))))))))
    rcases iE H with ⟨c7, H⟩ | ⟨c7, H⟩
    ·
     refine nB Z (nT c7) (rN 3 Z ?_)
     obtain rfl := sI H
     exact rT _ func109 Z Z ⟨Z, (HS.pk 2 [] Z)⟩
    refine yB Z (nF c7) (rN 2 Z ?_)
    obtain rfl := sI H
    exact rT _ func109 Z Z ⟨Z, (HS.pk 2 [] Z)⟩
   refine yB Z (nF c6) (rN 2 Z ?_)
   obtain rfl := sI H
   exact rT _ func109 Z Z ⟨Z, (HS.pk 2 [] Z)⟩
  refine yB Z (nF c5) (rN 2 Z ?_)
  obtain rfl := sI H
  exact rT _ func109 Z Z ⟨Z, (HS.pk 2 [] Z)⟩
theorem laws_eqMoveS.calls {a_ b_ : List GMove} {A_a : Option Addr} {c_a : Nat} {A_b : Option Addr} {c_b : Nat} {r1 : Bool} (HS : St w0 w (L)) (r_a : RdIn w0 L T_GMove A_a c_a (fun _ => ()) a_) (r_b : RdIn w0 L T_GMove A_b c_b (fun _ => ()) b_) (H : laws_eqMoveS.f K a_ b_ = some r1) :
    Calls prog 75 #[.slice A_a a_.length c_a, .slice A_b b_.length c_b] w (laws_eqMoveS.post w0 L r1) := by
  unfold laws_eqMoveS.f at H
  refine cG func75 Z ?_
  refine rN 4 Z (rG (mV Z (lS Z Z underlying44 Z (mV Z (lS Z Z underlying44 Z (GO.neq Z Z Z Z (nL ?_)))))))
  rcases iE H with ⟨c1, H⟩ | ⟨c1, H⟩
  ·
   refine nB Z (nT c1) (rN 6 Z ?_)
   refine G.name (fun i1 d1 => ?_)
   have e1 : ∀ a1, a1 ≤ K → ∀ (b1 : Int) (w : World), laws_eqMoveS.l1 K a1 a_ b_ b1 = some r1 → St w0 w (L) → G prog 75 27 [(0, .slice A_a a_.length c_a), (1, .slice A_b b_.length c_b), (5, I b1)] i1 w (laws_eqMoveS.post w0 L r1) := by
    intro a1
    induction a1 using Nat.strongRecOn with
    | _ a1 f1 =>
     intro h1 b1 w H HS
     cases a1 with
     | zero => rw [laws_eqMoveS.l1] at H; cases H
     | succ g1 =>
      rw [laws_eqMoveS.l1] at H
      subst d1
      refine rN 2 Z (rG (pS 2 Z (lS Z Z underlying44 Z (GO.lss Z Z Z Z (nL ?_)))))
      rcases iE H with ⟨c27, H⟩ | ⟨c27, H⟩
      ·
       refine yB Z (tT c27) (rN 4 Z ?_)
       obtain ⟨c28, H⟩ := iN H
       obtain ⟨e29, h30, H⟩ := bnd_elim H
       obtain ⟨c31, H⟩ := iN H
       obtain ⟨e32, h33, H⟩ := bnd_elim H
       obtain ⟨t34, h35, H⟩ := bI H
       refine G.lex mixed [0, 1, 2, 4, 5, 6, 3, 7, 8, 9] (by kernel_rfl) ?_
       replace HS := HS.drew
       refine GX.ps 2 Z (qL Z Z (fun _ _ g => GO.ix Z Z Z underlying44 sz110 (r_a _ HS).2.2.1 c28.1 c28.2 Z g) Z (GX.ps 2 Z (qL Z Z (fun _ _ g => GO.ix Z Z Z underlying44 sz110 (r_b _ HS).2.2.1 c31.1 c31.2 Z g) Z (GX.l1 Z Z Z (fun _ g => GO.ldRdA (T := T_GMove) (n := b1.toNat) HS r_a Z Z (getD_eq (ltN c28) h30) ag110 Z g) Z (GX.l1 Z Z Z (fun _ g => GO.ldRdA (T := T_GMove) (n := b1.toNat) HS r_b Z Z (getD_eq (ltN c31) h33) ag110 Z g) Z (GX.l2 Z (fN Z func109 fok109.1 fok109.2 Z Z (laws_eqMove.calls HS  h35) (fun _ wd36 ⟨h37, HS⟩ => ⟨_, h37, (GX.fin tv (GX.ps 1 Z (GX.nil ?_)))⟩))))))))
       rcases iE H with ⟨c38, H⟩ | ⟨c38, H⟩
       ·
        refine nB Z (congrArg Bool.not c38) (rN 4 Z (G.weak ?_ (f1 g1 (Nat.lt_succ_of_le (lR _)) (Nat.le_of_succ_le h1) _ _ H HS)))
        exact ⟨Z, Z, Z, tv⟩
       refine yB Z (congrArg Bool.not (bnot_of c38)) (rN 2 Z ?_)
       obtain rfl := sI H
       exact rT _ func75 Z Z ⟨Z, HS⟩
      refine nB Z (tF c27) (rN 3 Z ?_)
      obtain rfl := sI H
      exact rT _ func75 Z Z ⟨Z, HS⟩
   refine G.weak ?_ (e1 K (lR _) _ _ H HS)
   exact ⟨Z, Z, Z, tv⟩
  refine yB Z (nF c1) (rN 2 Z ?_)
  obtain rfl := sI H
  exact rT _ func75 Z Z ⟨Z, HS⟩
theorem laws_eqCertificate.calls {h1 i1 : Int} {c1 : List GMove} {a1 e1 : List Int} {k1 m1 : Int} {d1 : List GMove} {f1 g1 : List Int} {A_a : Option Addr} {c_a : Nat} {A_b : Option Addr} {c_b : Nat} {A_c : Option Addr} {c_c : Nat} {A_d : Option Addr} {c_d : Nat} {A_e : Option Addr} {c_e : Nat} {A_f : Option Addr} {c_f : Nat} {r1 : Bool} (HS : St w0 w (L)) (r_a : RdIn w0 L T_GMove A_a c_a (fun _ => ()) c1) (r_b : RdIn w0 L (TInt .i64) A_b c_b (fun _ => ()) a1) (r_c : RdIn w0 L (TInt .i64) A_c c_c (fun _ => ()) e1) (r_d : RdIn w0 L T_GMove A_d c_d (fun _ => ()) d1) (r_e : RdIn w0 L (TInt .i64) A_e c_e (fun _ => ()) f1) (r_f : RdIn w0 L (TInt .i64) A_f c_f (fun _ => ()) g1) (H : laws_eqCertificate.f K h1 i1 c1 a1 e1 k1 m1 d1 f1 g1 = some r1) :
    Calls prog 39 #[.agg [I h1, I i1, .slice A_a c1.length c_a, .slice A_b a1.length c_b, .slice A_c e1.length c_c].toArray, .agg [I k1, I m1, .slice A_d d1.length c_d, .slice A_e f1.length c_e, .slice A_f g1.length c_f].toArray] w (laws_eqCertificate.post w0 L r1) := by
  unfold laws_eqCertificate.f at H
  refine cG func39 Z ?_
  refine sQ (rG (GO.box (cs := [I h1, I i1, .slice A_a c1.length c_a, .slice A_b a1.length c_b, .slice A_c e1.length c_c]) HS Z Z Z Z fun b1 wd2 HS => GO.box (cs := [I k1, I m1, .slice A_d d1.length c_d, .slice A_e f1.length c_e, .slice A_f g1.length c_f]) HS Z Z Z Z fun b3 wd4 HS => aS Z (nL (rN 2 Z (rG (fL b1 0 fl46_0 Z (lB 1 HS Z na2 Z (fL b3 0 fl46_0 Z (lB 0 HS Z na2 Z (GO.neq Z Z Z Z (nL ?_)))))))))))
  rcases iE H with ⟨c5, H⟩ | ⟨c5, H⟩
  ·
   refine nB Z (nT c5) (rN 3 Z (rG (fL b1 1 fl46_1 Z (lB 1 HS Z na2 Z (fL b3 1 fl46_1 Z (lB 0 HS Z na2 Z (GO.neq Z Z Z Z (nL ?_))))))))
   rcases iE H with ⟨c6, H⟩ | ⟨c6, H⟩
   ·
    refine nB Z (nT c6) (rN 3 Z ?_)
    obtain ⟨t7, h8, H⟩ := bI H
    refine rG (fL b1 2 fl46_2 Z (lB 1 HS Z na44 Z (fL b3 2 fl46_2 Z (lB 0 HS Z na44 Z (fN Z func75 fok75.1 fok75.2 Z Z (laws_eqMoveS.calls HS (rD 2 r_a) (rD 2 r_d) h8) (fun _ wd9 ⟨h10, HS⟩ => ⟨_, h10, (GO.not Z Z Z (nL ?_))⟩))))))
    rcases iE H with ⟨c11, H⟩ | ⟨c11, H⟩
    ·
     refine nB Z (congrArg Bool.not c11) (rN 3 Z ?_)
     obtain ⟨t12, h13, H⟩ := bI H
     refine rG (fL b1 3 fl46_3 Z (lB 1 HS Z na41 Z (fL b3 3 fl46_3 Z (lB 0 HS Z na41 Z (fN Z func74 fok74.1 fok74.2 Z Z (laws_eqInt64S.calls HS (rD 2 r_b) (rD 2 r_e) h13) (fun _ wd14 ⟨h15, HS⟩ => ⟨_, h15, (GO.not Z Z Z (nL ?_))⟩))))))
     rcases iE H with ⟨c16, H⟩ | ⟨c16, H⟩
     ·
      refine nB Z (congrArg Bool.not c16) (rN 3 Z ?_)
      obtain ⟨t17, h18, H⟩ := bI H
      refine rG (fL b1 4 fl46_4 Z (lB 1 HS Z na41 Z (fL b3 4 fl46_4 Z (lB 0 HS Z na41 Z (fN Z func74 fok74.1 fok74.2 Z Z (laws_eqInt64S.calls HS (rD 2 r_c) (rD 2 r_f) h18) (fun _ wd19 ⟨h20, HS⟩ => ⟨_, h20, (GO.not Z Z Z (nL ?_))⟩))))))
      rcases iE H with ⟨c21, H⟩ | ⟨c21, H⟩
      ·
       refine nB Z (congrArg Bool.not c21) (rN 3 Z ?_)
       obtain rfl := sI H
       exact rT _ func39 Z Z ⟨Z, (HS.pk 2 [] Z)⟩
      refine yB Z (congrArg Bool.not (bnot_of c21)) (rN 2 Z ?_)
      obtain rfl := sI H
      exact rT _ func39 Z Z ⟨Z, (HS.pk 2 [] Z)⟩
     refine yB Z (congrArg Bool.not (bnot_of c16)) (rN 2 Z ?_)
     obtain rfl := sI H
     exact rT _ func39 Z Z ⟨Z, (HS.pk 2 [] Z)⟩
    refine yB Z (congrArg Bool.not (bnot_of c11)) (rN 2 Z ?_)
    obtain rfl := sI H
    exact rT _ func39 Z Z ⟨Z, (HS.pk 2 [] Z)⟩
   refine yB Z (nF c6) (rN 2 Z ?_)
   obtain rfl := sI H
   exact rT _ func39 Z Z ⟨Z, (HS.pk 2 [] Z)⟩
  refine yB Z (nF c5) (rN 2 Z ?_)
  obtain rfl := sI H
  exact rT _ func39 Z Z ⟨Z, (HS.pk 2 [] Z)⟩
theorem laws_eqItem.calls {z1 : ByteArray} {c2 : Int} {f1 : List (List GFace)} {m1 : List GCrossing} {v1 t1 : Int} {n1 : List Int} {p1 y1 : Int} {h1 : List GMove} {k1 g1 : List Int} {b2 : ByteArray} {a2 : Int} {a1 : List (List GFace)} {c1 : List GCrossing} {u1 q1 : Int} {o1 : List Int} {s1 x1 : Int} {e1 : List GMove} {d1 i1 : List Int} {A_a : Option Addr} {c_a : Nat} {y_a : Nat → (Ty.slice 140 T_GFace).Lay} {A_b : Option Addr} {c_b : Nat} {A_c : Option Addr} {c_c : Nat} {A_d : Option Addr} {c_d : Nat} {A_e : Option Addr} {c_e : Nat} {A_f : Option Addr} {c_f : Nat} {A_g : Option Addr} {c_g : Nat} {y_g : Nat → (Ty.slice 140 T_GFace).Lay} {A_h : Option Addr} {c_h : Nat} {A_i : Option Addr} {c_i : Nat} {A_j : Option Addr} {c_j : Nat} {A_k : Option Addr} {c_k : Nat} {A_l : Option Addr} {c_l : Nat} {r1 : Bool} (HS : St w0 w (L)) (r_a : RdIn w0 L (Ty.slice 140 T_GFace) A_a c_a y_a f1) (r_b : RdIn w0 L T_GCrossing A_b c_b (fun _ => ()) m1) (r_c : RdIn w0 L (TInt .i64) A_c c_c (fun _ => ()) n1) (r_d : RdIn w0 L T_GMove A_d c_d (fun _ => ()) h1) (r_e : RdIn w0 L (TInt .i64) A_e c_e (fun _ => ()) k1) (r_f : RdIn w0 L (TInt .i64) A_f c_f (fun _ => ()) g1) (r_g : RdIn w0 L (Ty.slice 140 T_GFace) A_g c_g y_g a1) (r_h : RdIn w0 L T_GCrossing A_h c_h (fun _ => ()) c1) (r_i : RdIn w0 L (TInt .i64) A_i c_i (fun _ => ()) o1) (r_j : RdIn w0 L T_GMove A_j c_j (fun _ => ()) e1) (r_k : RdIn w0 L (TInt .i64) A_k c_k (fun _ => ()) d1) (r_l : RdIn w0 L (TInt .i64) A_l c_l (fun _ => ()) i1) (H : laws_eqItem.f K z1 c2 f1 m1 v1 t1 n1 p1 y1 h1 k1 g1 b2 a2 a1 c1 u1 q1 o1 s1 x1 e1 d1 i1 = some r1) :
    Calls prog 14 #[.agg [.string z1, I c2, .slice A_a f1.length c_a, .slice A_b m1.length c_b, I v1, I t1, .slice A_c n1.length c_c, I p1, I y1, .slice A_d h1.length c_d, .slice A_e k1.length c_e, .slice A_f g1.length c_f].toArray, .agg [.string b2, I a2, .slice A_g a1.length c_g, .slice A_h c1.length c_h, I u1, I q1, .slice A_i o1.length c_i, I s1, I x1, .slice A_j e1.length c_j, .slice A_k d1.length c_k, .slice A_l i1.length c_l].toArray] w (laws_eqItem.post w0 L r1) := by
  unfold laws_eqItem.f at H
  refine cG func14 Z ?_
  refine sQ (rG (GO.box (cs := [.string z1, I c2, .slice A_a f1.length c_a, .slice A_b m1.length c_b, I v1, I t1, .slice A_c n1.length c_c, I p1, I y1, .slice A_d h1.length c_d, .slice A_e k1.length c_e, .slice A_f g1.length c_f]) HS Z Z Z Z fun b1 wd2 HS => GO.box (cs := [.string b2, I a2, .slice A_g a1.length c_g, .slice A_h c1.length c_h, I u1, I q1, .slice A_i o1.length c_i, I s1, I x1, .slice A_j e1.length c_j, .slice A_k d1.length c_k, .slice A_l i1.length c_l]) HS Z Z Z Z fun b3 wd4 HS => aS Z (nL (rN 2 Z (rG (fL b1 0 fl48_0 Z (lB 1 HS Z na9 Z (fL b3 0 fl48_0 Z (lB 0 HS Z na9 Z (GO.neqS Z Z Z Z (nL ?_)))))))))))
  rcases iE H with ⟨c5, H⟩ | ⟨c5, H⟩
  ·
   refine nB Z (congrArg Bool.not c5) (rN 3 Z (rG (fL b1 1 fl48_1 Z (lB 1 HS Z na2 Z (fL b3 1 fl48_1 Z (lB 0 HS Z na2 Z (GO.neq Z Z Z Z (nL ?_))))))))
   rcases iE H with ⟨c6, H⟩ | ⟨c6, H⟩
   ·
    refine nB Z (nT c6) (rN 3 Z ?_)
    obtain ⟨t7, h8, H⟩ := bI H
    refine rG (fL b1 2 fl48_2 Z (GO.ldBoxA (j := 1) ([.slice A_a f1.length c_a]) HS Z Z Z Z ag37 Z (fL b3 2 fl48_2 Z (GO.ldBoxA (j := 0) ([.slice A_g a1.length c_g]) HS Z Z Z Z ag37 Z (fN Z func36 fok36.1 fok36.2 Z Z (laws_eqTriangulation.calls HS (rD 2 r_a) (rD 2 r_g) h8) (fun _ wd9 ⟨h10, HS⟩ => ⟨_, h10, (GO.not Z Z Z (nL ?_))⟩))))))
    rcases iE H with ⟨c11, H⟩ | ⟨c11, H⟩
    ·
     refine nB Z (congrArg Bool.not c11) (rN 3 Z ?_)
     obtain ⟨t12, h13, H⟩ := bI H
     refine rG (fL b1 3 fl48_3 Z (GO.ldBoxA (j := 1) ([.slice A_b m1.length c_b, I v1]) HS Z Z Z Z ag40 Z (fL b3 3 fl48_3 Z (GO.ldBoxA (j := 0) ([.slice A_h c1.length c_h, I u1]) HS Z Z Z Z ag40 Z (fN Z func37 fok37.1 fok37.2 Z Z (laws_eqDiagram.calls HS (rD 2 r_b) (rD 2 r_h) h13) (fun _ wd14 ⟨h15, HS⟩ => ⟨_, h15, (GO.not Z Z Z (nL ?_))⟩))))))
     rcases iE H with ⟨c16, H⟩ | ⟨c16, H⟩
     ·
      refine nB Z (congrArg Bool.not c16) (rN 3 Z ?_)
      obtain ⟨t17, h18, H⟩ := bI H
      refine rG (fL b1 5 fl48_4 Z (GO.ldBoxA (j := 1) ([I t1, .slice A_c n1.length c_c]) HS Z Z Z Z ag43 Z (fL b3 5 fl48_4 Z (GO.ldBoxA (j := 0) ([I q1, .slice A_i o1.length c_i]) HS Z Z Z Z ag43 Z (fN Z func38 fok38.1 fok38.2 Z Z (laws_eqBraid.calls HS (rD 2 r_c) (rD 2 r_i) h18) (fun _ wd19 ⟨h20, HS⟩ => ⟨_, h20, (GO.not Z Z Z (nL ?_))⟩))))))
      rcases iE H with ⟨c21, H⟩ | ⟨c21, H⟩
      ·
       refine nB Z (congrArg Bool.not c21) (rN 3 Z ?_)
       obtain ⟨t22, h23, H⟩ := bI H
       refine rG (fL b1 7 fl48_5 Z (GO.ldBoxA (j := 1) ([I p1, I y1, .slice A_d h1.length c_d, .slice A_e k1.length c_e, .slice A_f g1.length c_f]) HS Z Z Z Z ag46 Z (fL b3 7 fl48_5 Z (GO.ldBoxA (j := 0) ([I s1, I x1, .slice A_j e1.length c_j, .slice A_k d1.length c_k, .slice A_l i1.length c_l]) HS Z Z Z Z ag46 Z (fN Z func39 fok39.1 fok39.2 Z Z (laws_eqCertificate.calls HS (rD 2 r_d) (rD 2 r_e) (rD 2 r_f) (rD 2 r_j) (rD 2 r_k) (rD 2 r_l) h23) (fun _ wd24 ⟨h25, HS⟩ => ⟨_, h25, (GO.not Z Z Z (nL ?_))⟩))))))
       rcases iE H with ⟨c26, H⟩ | ⟨c26, H⟩
       ·
        refine nB Z (congrArg Bool.not c26) (rN 3 Z ?_)
        obtain rfl := sI H
        exact rT _ func14 Z Z ⟨Z, (HS.pk 2 [] Z)⟩
       refine yB Z (congrArg Bool.not (bnot_of c26)) (rN 2 Z ?_)
       obtain rfl := sI H
       exact rT _ func14 Z Z ⟨Z, (HS.pk 2 [] Z)⟩
      refine yB Z (congrArg Bool.not (bnot_of c21)) (rN 2 Z ?_)
      obtain rfl := sI H
      exact rT _ func14 Z Z ⟨Z, (HS.pk 2 [] Z)⟩
     refine yB Z (congrArg Bool.not (bnot_of c16)) (rN 2 Z ?_)
     obtain rfl := sI H
     exact rT _ func14 Z Z ⟨Z, (HS.pk 2 [] Z)⟩
    refine yB Z (congrArg Bool.not (bnot_of c11)) (rN 2 Z ?_)
    obtain rfl := sI H
    exact rT _ func14 Z Z ⟨Z, (HS.pk 2 [] Z)⟩
   refine yB Z (nF c6) (rN 2 Z ?_)
   obtain rfl := sI H
   exact rT _ func14 Z Z ⟨Z, (HS.pk 2 [] Z)⟩
  refine yB Z (congrArg Bool.not (bnot_of c5)) (rN 2 Z ?_)
  obtain rfl := sI H
  exact rT _ func14 Z Z ⟨Z, (HS.pk 2 [] Z)⟩
theorem laws_eqItemS.calls {a_ b_ : List GItem} {A_a : Option Addr} {c_a : Nat} {y_a : Nat → T_GItem_47.Lay} {A_b : Option Addr} {c_b : Nat} {y_b : Nat → T_GItem_47.Lay} {r1 : Bool} (HS : St w0 w (L)) (r_a : RdIn w0 L T_GItem_47 A_a c_a y_a a_) (r_b : RdIn w0 L T_GItem_47 A_b c_b y_b b_) (H : laws_eqItemS.f K a_ b_ = some r1) :
    Calls prog 30 #[.slice A_a a_.length c_a, .slice A_b b_.length c_b] w (laws_eqItemS.post w0 L r1) := by
  unfold laws_eqItemS.f at H
  refine cG func30 Z ?_
  refine rN 4 Z (rG (mV Z (lS Z Z underlying28 Z (mV Z (lS Z Z underlying28 Z (GO.neq Z Z Z Z (nL ?_)))))))
  rcases iE H with ⟨c1, H⟩ | ⟨c1, H⟩
  ·
   refine nB Z (nT c1) (rN 6 Z ?_)
   refine G.name (fun i1 d1 => ?_)
   have e1 : ∀ a1, a1 ≤ K → ∀ (b1 : Int) (w : World), laws_eqItemS.l1 K a1 a_ b_ b1 = some r1 → St w0 w (L) → G prog 30 27 [(0, .slice A_a a_.length c_a), (1, .slice A_b b_.length c_b), (5, I b1)] i1 w (laws_eqItemS.post w0 L r1) := by
    intro a1
    induction a1 using Nat.strongRecOn with
    | _ a1 f1 =>
     intro h1 b1 w H HS
     cases a1 with
     | zero => rw [laws_eqItemS.l1] at H; cases H
     | succ g1 =>
      rw [laws_eqItemS.l1] at H
      subst d1
      refine rN 2 Z (rG (pS 2 Z (lS Z Z underlying28 Z (GO.lss Z Z Z Z (nL ?_)))))
      rcases iE H with ⟨c27, H⟩ | ⟨c27, H⟩
      ·
       refine yB Z (tT c27) (rN 4 Z ?_)
       obtain ⟨c28, H⟩ := iN H
       obtain ⟨e29, h30, H⟩ := bnd_elim H
       obtain ⟨c31, H⟩ := iN H
       obtain ⟨e32, h33, H⟩ := bnd_elim H
       obtain ⟨t34, h35, H⟩ := bI H
       refine G.lex mixed [0, 1, 2, 4, 5, 6, 3, 7, 8, 9] (by kernel_rfl) ?_
       replace HS := HS.drew
       refine GX.ps 2 Z (qL Z Z (fun _ _ g => GO.ix Z Z Z underlying28 sz48 (r_a _ HS).2.2.1 c28.1 c28.2 Z g) Z (GX.ps 2 Z (qL Z Z (fun _ _ g => GO.ix Z Z Z underlying28 sz48 (r_b _ HS).2.2.1 c31.1 c31.2 Z g) Z (GX.l1 Z Z Z (fun _ g => GO.ldRdA (T := T_GItem_47) (n := b1.toNat) HS r_a Z Z (getD_eq (ltN c28) h30) ag48 Z g) Z (GX.l1 Z Z Z (fun _ g => GO.ldRdA (T := T_GItem_47) (n := b1.toNat) HS r_b Z Z (getD_eq (ltN c31) h33) ag48 Z g) Z (GX.l2 Z (fN Z func14 fok14.1 fok14.2 Z Z (laws_eqItem.calls HS (RdIn.fld r_a (getD_eq (ltN c28) h30) (fun _ h => h.2.2.1)) (RdIn.fld r_a (getD_eq (ltN c28) h30) (fun _ h => h.2.2.2.1)) (RdIn.fld r_a (getD_eq (ltN c28) h30) (fun _ h => h.2.2.2.2.2.2.1)) (RdIn.fld r_a (getD_eq (ltN c28) h30) (fun _ h => h.2.2.2.2.2.2.2.2.2.1)) (RdIn.fld r_a (getD_eq (ltN c28) h30) (fun _ h => h.2.2.2.2.2.2.2.2.2.2.1)) (RdIn.fld r_a (getD_eq (ltN c28) h30) (fun _ h => h.2.2.2.2.2.2.2.2.2.2.2)) (RdIn.fld r_b (getD_eq (ltN c31) h33) (fun _ h => h.2.2.1)) (RdIn.fld r_b (getD_eq (ltN c31) h33) (fun _ h => h.2.2.2.1)) (RdIn.fld r_b (getD_eq (ltN c31) h33) (fun _ h => h.2.2.2.2.2.2.1)) (RdIn.fld r_b (getD_eq (ltN c31) h33) (fun _ h => h.2.2.2.2.2.2.2.2.2.1)) (RdIn.fld r_b (getD_eq (ltN c31) h33) (fun _ h => h.2.2.2.2.2.2.2.2.2.2.1)) (RdIn.fld r_b (getD_eq (ltN c31) h33) (fun _ h => h.2.2.2.2.2.2.2.2.2.2.2)) h35) (fun _ wd36 ⟨h37, HS⟩ => ⟨_, h37, (GX.fin tv (GX.ps 1 Z (GX.nil ?_)))⟩))))))))
       rcases iE H with ⟨c38, H⟩ | ⟨c38, H⟩
       ·
        refine nB Z (congrArg Bool.not c38) (rN 4 Z (G.weak ?_ (f1 g1 (Nat.lt_succ_of_le (lR _)) (Nat.le_of_succ_le h1) _ _ H HS)))
        exact ⟨Z, Z, Z, tv⟩
       refine yB Z (congrArg Bool.not (bnot_of c38)) (rN 2 Z ?_)
       obtain rfl := sI H
       exact rT _ func30 Z Z ⟨Z, HS⟩
      refine nB Z (tF c27) (rN 3 Z ?_)
      obtain rfl := sI H
      exact rT _ func30 Z Z ⟨Z, HS⟩
   refine G.weak ?_ (e1 K (lR _) _ _ H HS)
   exact ⟨Z, Z, Z, tv⟩
  refine yB Z (nF c1) (rN 2 Z ?_)
  obtain rfl := sI H
  exact rT _ func30 Z Z ⟨Z, HS⟩
theorem laws_eqItemSS.calls {a_ b_ : List (List GItem)} {A_a : Option Addr} {c_a : Nat} {y_a : Nat → (Ty.slice 48 T_GItem_47).Lay} {A_b : Option Addr} {c_b : Nat} {y_b : Nat → (Ty.slice 48 T_GItem_47).Lay} {r1 : Bool} (HS : St w0 w (L)) (r_a : RdIn w0 L (Ty.slice 48 T_GItem_47) A_a c_a y_a a_) (r_b : RdIn w0 L (Ty.slice 48 T_GItem_47) A_b c_b y_b b_) (H : laws_eqItemSS.f K a_ b_ = some r1) :
    Calls prog 31 #[.slice A_a a_.length c_a, .slice A_b b_.length c_b] w (laws_eqItemSS.post w0 L r1) := by
  unfold laws_eqItemSS.f at H
  refine cG func31 Z ?_
  refine rN 4 Z (rG (mV Z (lS Z Z underlying29 Z (mV Z (lS Z Z underlying29 Z (GO.neq Z Z Z Z (nL ?_)))))))
  rcases iE H with ⟨c1, H⟩ | ⟨c1, H⟩
  ·
   refine nB Z (nT c1) (rN 6 Z ?_)
   refine G.name (fun i1 d1 => ?_)
   have e1 : ∀ a1, a1 ≤ K → ∀ (b1 : Int) (w : World), laws_eqItemSS.l1 K a1 a_ b_ b1 = some r1 → St w0 w (L) → G prog 31 27 [(0, .slice A_a a_.length c_a), (1, .slice A_b b_.length c_b), (5, I b1)] i1 w (laws_eqItemSS.post w0 L r1) := by
    intro a1
    induction a1 using Nat.strongRecOn with
    | _ a1 f1 =>
     intro h1 b1 w H HS
     cases a1 with
     | zero => rw [laws_eqItemSS.l1] at H; cases H
     | succ g1 =>
      rw [laws_eqItemSS.l1] at H
      subst d1
      refine rN 2 Z (rG (pS 2 Z (lS Z Z underlying29 Z (GO.lss Z Z Z Z (nL ?_)))))
      rcases iE H with ⟨c19, H⟩ | ⟨c19, H⟩
      ·
       refine yB Z (tT c19) (rN 4 Z ?_)
       obtain ⟨c20, H⟩ := iN H
       obtain ⟨c21, H⟩ := iN H
       obtain ⟨t22, h23, H⟩ := bI H
       refine G.lex mixed [0, 1, 2, 4, 5, 6, 3, 7, 8, 9] (by kernel_rfl) ?_
       replace HS := HS.drew
       refine GX.ps 2 Z (qL Z Z (fun _ _ g => GO.ix Z Z Z underlying29 sz28 (r_a _ HS).2.2.1 c20.1 c20.2 Z g) Z (GX.ps 2 Z (qL Z Z (fun _ _ g => GO.ix Z Z Z underlying29 sz28 (r_b _ HS).2.2.1 c21.1 c21.2 Z g) Z (GX.l1 Z Z Z (fun _ g => GO.ldRd (T := (Ty.slice 48 T_GItem_47)) (n := b1.toNat) (o := 0) HS r_a Z Z (getD_some (d := []) (ltN c20)) Z Z na28 Z g) Z (GX.l1 Z Z Z (fun _ g => GO.ldRd (T := (Ty.slice 48 T_GItem_47)) (n := b1.toNat) (o := 0) HS r_b Z Z (getD_some (d := []) (ltN c21)) Z Z na28 Z g) Z (GX.l2 Z (fN Z func30 fok30.1 fok30.2 Z Z (laws_eqItemS.calls HS (RdIn.elem r_a c20.1 c20.2) (RdIn.elem r_b c21.1 c21.2) h23) (fun _ wd24 ⟨h25, HS⟩ => ⟨_, h25, (GX.fin tv (GX.ps 1 Z (GX.nil ?_)))⟩))))))))
       rcases iE H with ⟨c26, H⟩ | ⟨c26, H⟩
       ·
        refine nB Z (congrArg Bool.not c26) (rN 4 Z (G.weak ?_ (f1 g1 (Nat.lt_succ_of_le (lR _)) (Nat.le_of_succ_le h1) _ _ H HS)))
        exact ⟨Z, Z, Z, tv⟩
       refine yB Z (congrArg Bool.not (bnot_of c26)) (rN 2 Z ?_)
       obtain rfl := sI H
       exact rT _ func31 Z Z ⟨Z, HS⟩
      refine nB Z (tF c19) (rN 3 Z ?_)
      obtain rfl := sI H
      exact rT _ func31 Z Z ⟨Z, HS⟩
   refine G.weak ?_ (e1 K (lR _) _ _ H HS)
   exact ⟨Z, Z, Z, tv⟩
  refine yB Z (nF c1) (rN 2 Z ?_)
  obtain rfl := sI H
  exact rT _ func31 Z Z ⟨Z, HS⟩
theorem laws_eqBench.calls {g1 : List GItem} {d1 e1 : List (List GItem)} {a1 : List GItem} {f1 c1 : List (List GItem)} {A_a : Option Addr} {c_a : Nat} {y_a : Nat → T_GItem_47.Lay} {A_b : Option Addr} {c_b : Nat} {y_b : Nat → (Ty.slice 48 T_GItem_47).Lay} {A_c : Option Addr} {c_c : Nat} {y_c : Nat → (Ty.slice 48 T_GItem_47).Lay} {A_d : Option Addr} {c_d : Nat} {y_d : Nat → T_GItem_47.Lay} {A_e : Option Addr} {c_e : Nat} {y_e : Nat → (Ty.slice 48 T_GItem_47).Lay} {A_f : Option Addr} {c_f : Nat} {y_f : Nat → (Ty.slice 48 T_GItem_47).Lay} {r1 : Bool} (HS : St w0 w (L)) (r_a : RdIn w0 L T_GItem_47 A_a c_a y_a g1) (r_b : RdIn w0 L (Ty.slice 48 T_GItem_47) A_b c_b y_b d1) (r_c : RdIn w0 L (Ty.slice 48 T_GItem_47) A_c c_c y_c e1) (r_d : RdIn w0 L T_GItem_47 A_d c_d y_d a1) (r_e : RdIn w0 L (Ty.slice 48 T_GItem_47) A_e c_e y_e f1) (r_f : RdIn w0 L (Ty.slice 48 T_GItem_47) A_f c_f y_f c1) (H : laws_eqBench.f K g1 d1 e1 a1 f1 c1 = some r1) :
    Calls prog 11 #[.agg [.slice A_a g1.length c_a, .slice A_b d1.length c_b, .slice A_c e1.length c_c].toArray, .agg [.slice A_d a1.length c_d, .slice A_e f1.length c_e, .slice A_f c1.length c_f].toArray] w (laws_eqBench.post w0 L r1) := by
  unfold laws_eqBench.f at H
  refine cG func11 Z ?_
  refine sQ (rG (GO.box (cs := [.slice A_a g1.length c_a, .slice A_b d1.length c_b, .slice A_c e1.length c_c]) HS Z Z Z Z fun b1 wd2 HS => GO.box (cs := [.slice A_d a1.length c_d, .slice A_e f1.length c_e, .slice A_f c1.length c_f]) HS Z Z Z Z fun b3 wd4 HS => aS Z (nL (rN 2 Z ?_))))
  obtain ⟨t5, h6, H⟩ := bI H
  refine rG (fL b1 0 fl31_0 Z (lB 1 HS Z na28 Z (fL b3 0 fl31_0 Z (lB 0 HS Z na28 Z (fN Z func30 fok30.1 fok30.2 Z Z (laws_eqItemS.calls HS (rD 2 r_a) (rD 2 r_d) h6) (fun _ wd7 ⟨h8, HS⟩ => ⟨_, h8, (GO.not Z Z Z (nL ?_))⟩))))))
  rcases iE H with ⟨c9, H⟩ | ⟨c9, H⟩
  ·
   refine nB Z (congrArg Bool.not c9) (rN 3 Z ?_)
   obtain ⟨t10, h11, H⟩ := bI H
   refine rG (fL b1 1 fl31_1 Z (lB 1 HS Z na29 Z (fL b3 1 fl31_1 Z (lB 0 HS Z na29 Z (fN Z func31 fok31.1 fok31.2 Z Z (laws_eqItemSS.calls HS (rD 2 r_b) (rD 2 r_e) h11) (fun _ wd12 ⟨h13, HS⟩ => ⟨_, h13, (GO.not Z Z Z (nL ?_))⟩))))))
   rcases iE H with ⟨c14, H⟩ | ⟨c14, H⟩
   ·
    refine nB Z (congrArg Bool.not c14) (rN 3 Z ?_)
    obtain ⟨t15, h16, H⟩ := bI H
    refine rG (fL b1 2 fl31_2 Z (lB 1 HS Z na29 Z (fL b3 2 fl31_2 Z (lB 0 HS Z na29 Z (fN Z func31 fok31.1 fok31.2 Z Z (laws_eqItemSS.calls HS (rD 2 r_c) (rD 2 r_f) h16) (fun _ wd17 ⟨h18, HS⟩ => ⟨_, h18, (GO.not Z Z Z (nL ?_))⟩))))))
    rcases iE H with ⟨c19, H⟩ | ⟨c19, H⟩
    ·
     refine nB Z (congrArg Bool.not c19) (rN 3 Z ?_)
     obtain rfl := sI H
     exact rT _ func11 Z Z ⟨Z, (HS.pk 2 [] Z)⟩
    refine yB Z (congrArg Bool.not (bnot_of c19)) (rN 2 Z ?_)
    obtain rfl := sI H
    exact rT _ func11 Z Z ⟨Z, (HS.pk 2 [] Z)⟩
   refine yB Z (congrArg Bool.not (bnot_of c14)) (rN 2 Z ?_)
   obtain rfl := sI H
   exact rT _ func11 Z Z ⟨Z, (HS.pk 2 [] Z)⟩
  refine yB Z (congrArg Bool.not (bnot_of c9)) (rN 2 Z ?_)
  obtain rfl := sI H
  exact rT _ func11 Z Z ⟨Z, (HS.pk 2 [] Z)⟩
theorem laws_markText.calls {k_ : Int} {r1 : ByteArray} (HS : St w0 w (L)) (H : laws_markText.f K k_ = some r1) :
    Calls prog 76 #[I k_] w (laws_markText.post w0 L r1) := by
  unfold laws_markText.f at H
  refine cG func76 Z ?_
  refine rN 5 Z ?_
  rcases iE H with ⟨c1, H⟩ | ⟨c1, H⟩
  ·
   refine yB Z (tT c1) (rN 2 Z ?_)
   obtain rfl := sI H
   exact rT _ func76 Z Z ⟨Z, HS⟩
  refine nB Z (tF c1) (rN 6 Z ?_)
  refine G.name (fun i1 d1 => ?_)
  have e1 : ∀ a1, a1 ≤ K → ∀ (k_7 : Int) (b1 : ByteArray) (w : World), laws_markText.l1 K a1 k_7 b1 = some r1 → St w0 w (L) → G prog 76 20 [(0, I k_7), (3, .string b1)] i1 w (laws_markText.post w0 L r1) := by
   intro a1
   induction a1 using Nat.strongRecOn with
   | _ a1 f1 =>
    intro h1 k_7 b1 w H HS
    cases a1 with
    | zero => rw [laws_markText.l1] at H; cases H
    | succ g1 =>
     rw [laws_markText.l1] at H
     subst d1
     refine rN 3 Z ?_
     rcases iE H with ⟨c14, H⟩ | ⟨c14, H⟩
     ·
      refine yB Z (tT c14) (rN 3 Z ?_)
      obtain ⟨c17, H⟩ := iN H
      refine rG (mV Z (GO.rem Z Z Z (by decide) Z (GO.add Z Z Z Z (GO.conv Z Z underlying3 underlying5 Z (GO.buildS (el := 5) ([.int .u8 (IntKind.wrap .u8 (w64 (48 + (k_7.tmod 10))))]) HS Z Z (fun _ => by kernel_rfl) Z fun b15 wd16 HS => ?_)))))
      replace HS := HS.boxRow (T := (TInt .u8)) (j := 0) Z flat_flat (fun _ => ()) ([IntKind.wrap .u8 (w64 (48 + (k_7.tmod 10)))] : List Int) Z (bndL Z)
      refine GO.lenC (t := 12) (m := ([IntKind.wrap .u8 (w64 (48 + (k_7.tmod 10)))] : List Int).length) (c' := ([IntKind.wrap .u8 (w64 (48 + (k_7.tmod 10)))] : List Int).length) Z Z Z (GO.bytesStr HS (RdIn.own (j := 0) Z) Z Z underlying147 underlying5 underlying9 Z (mV Z (GO.catS Z Z Z c17 Z (aS Z (nL (rG (mV Z (GO.quo Z Z Z (by decide) Z (aS Z (nL (rN 2 Z (G.weak ?_ (f1 g1 (Nat.lt_succ_of_le (lR _)) (Nat.le_of_succ_le h1) _ _ _ H (HS.pk 1 [] Z))))))))))))))
      exact ⟨Z, Z, tv⟩
     refine nB Z (tF c14) (rN 2 Z ?_)
     obtain ⟨c18, H⟩ := iN H
     refine rG (mV Z (GO.catS Z Z Z c18 Z (aS Z (nL ?_))))
     obtain rfl := sI H
     exact rT _ func76 Z Z ⟨Z, HS⟩
  refine G.weak ?_ (e1 K (lR _) _ _ _ H HS)
  exact ⟨Z, Z, tv⟩
theorem laws_markFaceS.calls {a_ : List GFace} {k_ : Int} {A_a : Option Addr} {c_a : Nat} {r1 : Int} {r2 : List GFace} (HS : St w0 w (Own T_GFace 140 A_a c_a (fun _ => ()) a_ :: L)) (H : laws_markFaceS.f K a_ k_ = some (r1, r2)) :
    Calls prog 110 #[.slice A_a a_.length c_a, I k_] w (laws_markFaceS.post w0 L A_a c_a r1 r2) := by
  unfold laws_markFaceS.f at H
  refine cG func110 Z ?_
  refine rN 7 Z ?_
  refine G.name (fun i1 d1 => ?_)
  have e1 : ∀ c1, c1 ≤ K → ∀ (x10 : List GFace) (b1 a1 : Int) (w : World), laws_markFaceS.l1 K c1 x10 b1 a1 = some (r1, r2) → St w0 w (Own T_GFace 140 A_a c_a (fun _ => ()) x10 :: L) → G prog 110 27 [(0, .slice A_a x10.length c_a), (1, I b1), (5, I a1)] i1 w (laws_markFaceS.post w0 L A_a c_a r1 r2) := by
   intro c1
   induction c1 using Nat.strongRecOn with
   | _ c1 f1 =>
    intro h1 x10 b1 a1 w H HS
    cases c1 with
    | zero => rw [laws_markFaceS.l1] at H; cases H
    | succ g1 =>
     rw [laws_markFaceS.l1] at H
     subst d1
     refine rN 2 Z (rG (pS 2 Z (lS Z Z underlying136 Z (GO.lss Z Z Z Z (nL ?_)))))
     rcases iE H with ⟨c22, H⟩ | ⟨c22, H⟩
     ·
      refine yB Z (tT c22) (rN 4 Z ?_)
      obtain ⟨c23, H⟩ := iN H
      obtain ⟨e25, h26, H⟩ := bnd_elim H
      refine rG (pS 3 Z (GO.ix Z Z Z underlying136 sz140 ((RdIn.own (j := 0) Z) _ HS).2.2.1 c23.1 c23.2 Z (GO.fld (ea A_a (a1.toNat * 2)) Z Z fl140_0 Z Z (GO.stRow (T := T_GFace) (j := 0) (n := a1.toNat) (o := 0) (vs := [I b1]) ({ e25 with Tet := b1 }) HS Z flat_flat Z Z Z Z (htN na2 Z) Z (getD_eq (ltN c23) h26) Z Z fun wd24 HS => nL (G.len (t := 0) (m := (x10.set a1.toNat ({ e25 with Tet := b1 })).length) Z (by simp only [List.length_set] <;> rfl) (rN 3 Z ?_))))))
      obtain ⟨c27, H⟩ := iN H
      obtain ⟨e29, h30, H⟩ := bnd_elim H
      refine rG (pS 3 Z (GO.ix Z Z Z underlying136 sz140 ((RdIn.own (j := 0) Z) _ HS).2.2.1 c27.1 c27.2 Z (GO.fld (ea A_a (a1.toNat * 2 + 1)) Z Z fl140_1 (ea_add _ _ _) Z (GO.stRow (T := T_GFace) (j := 0) (n := a1.toNat) (o := 1) (vs := [I (w64 (b1 + 1))]) ({ e29 with Perm := w64 (b1 + 1) }) HS Z flat_flat Z Z Z Z (htN na2 Z) Z (getD_eq (ltN c27) h30) Z Z fun wd28 HS => nL (G.len (t := 0) (m := ((x10.set a1.toNat ({ e25 with Tet := b1 })).set a1.toNat ({ e29 with Perm := w64 (b1 + 1) })).length) Z (by simp only [List.length_set] <;> rfl) (rN 4 Z (G.weak ?_ (f1 g1 (Nat.lt_succ_of_le (lR _)) (Nat.le_of_succ_le h1) _ _ _ _ H HS))))))))
      exact ⟨Z, Z, Z, tv⟩
     refine nB Z (tF c22) (rN 3 Z ?_)
     obtain ⟨rfl, rfl⟩ := some2 H
     exact rT _ func110 Z Z ⟨Z, HS⟩
  refine G.weak ?_ (e1 K (lR _) _ _ _ _ H HS)
  exact ⟨Z, Z, Z, tv⟩
theorem laws_markFaceSS.calls {a_ : List (List GFace)} {k_ : Int} {A_a : Option Addr} {c_a : Nat} {y_a : Nat → (Ty.slice 140 T_GFace).Lay} {r1 : Int} {r2 : List (List GFace)} (HS : St w0 w (Own (Ty.slice 140 T_GFace) 136 A_a c_a y_a a_ :: L)) (H : laws_markFaceSS.f K a_ k_ = some (r1, r2)) :
    Calls prog 77 #[.slice A_a a_.length c_a, I k_] w (laws_markFaceSS.post w0 L A_a c_a y_a r1 r2) := by
  unfold laws_markFaceSS.f at H
  refine cG func77 Z ?_
  refine rN 7 Z ?_
  refine G.name (fun i1 d1 => ?_)
  have e1 : ∀ b1, b1 ≤ K → ∀ (x9 : List (List GFace)) (c1 a1 : Int) (w : World), laws_markFaceSS.l1 K b1 x9 c1 a1 = some (r1, r2) → St w0 w (Own (Ty.slice 140 T_GFace) 136 A_a c_a y_a x9 :: L) → G prog 77 19 [(0, .slice A_a x9.length c_a), (1, I c1), (5, I a1)] i1 w (laws_markFaceSS.post w0 L A_a c_a y_a r1 r2) := by
   intro b1
   induction b1 using Nat.strongRecOn with
   | _ b1 f1 =>
    intro h1 x9 c1 a1 w H HS
    cases b1 with
    | zero => rw [laws_markFaceSS.l1] at H; cases H
    | succ g1 =>
     rw [laws_markFaceSS.l1] at H
     subst d1
     refine rN 2 Z (rG (pS 2 Z (lS Z Z underlying35 Z (GO.lss Z Z Z Z (nL ?_)))))
     rcases iE H with ⟨c20, H⟩ | ⟨c20, H⟩
     ·
      refine yB Z (tT c20) (rN 3 Z ?_)
      obtain ⟨c21, H⟩ := iN H
      obtain ⟨t22, t23, h24, H⟩ := bind2_elim H
      obtain ⟨c25, H⟩ := iN H
      refine rG (pS 2 Z (GO.ix Z Z Z underlying35 sz136 ((RdIn.own (j := 0) Z) _ HS).2.2.1 c21.1 c21.2 Z (GO.ldRd (T := (Ty.slice 140 T_GFace)) (n := a1.toNat) (o := 0) HS (RdIn.own (j := 0) Z) Z Z (getD_some (d := []) (ltN c21)) Z Z na136 Z (mV Z ?_))))
      replace HS := HS.focusO Fld.id (getD_some (d := []) (ltN c21))
      refine fN Z func110 fok110.1 fok110.2 Z Z (laws_markFaceS.calls HS  h24) (fun _ wd26 ⟨h27, HS⟩ => ⟨_, h27, ?_⟩)
      replace HS := St.unfocusO (y := t23) Fld.id (getD_some (d := []) (ltN c21)) (congrArg (fun m => ([.slice ((y_a a1.toNat).A) m ((y_a a1.toNat).c)] : List Value)) c25) HS
      refine aS Z (nL (G.len (t := 0) (m := (x9.set a1.toNat t23).length) Z (by simp only [List.length_set, List.length_set] <;> rfl) (rN 3 Z (G.weak ?_ (f1 g1 (Nat.lt_succ_of_le (lR _)) (Nat.le_of_succ_le h1) _ _ _ _ H HS)))))
      exact ⟨Z, Z, Z, tv⟩
     refine nB Z (tF c20) (rN 3 Z ?_)
     obtain ⟨rfl, rfl⟩ := some2 H
     exact rT _ func77 Z Z ⟨Z, HS⟩
  refine G.weak ?_ (e1 K (lR _) _ _ _ _ H HS)
  exact ⟨Z, Z, Z, tv⟩
theorem laws_markCrossingS.calls {a_ : List GCrossing} {k_ : Int} {A_a : Option Addr} {c_a : Nat} {r1 : Int} {r2 : List GCrossing} (HS : St w0 w (Own T_GCrossing 143 A_a c_a (fun _ => ()) a_ :: L)) (H : laws_markCrossingS.f K a_ k_ = some (r1, r2)) :
    Calls prog 78 #[.slice A_a a_.length c_a, I k_] w (laws_markCrossingS.post w0 L A_a c_a r1 r2) := by
  unfold laws_markCrossingS.f at H
  refine cG func78 Z ?_
  refine rN 7 Z ?_
  refine G.name (fun i1 d1 => ?_)
  have e1 : ∀ c1, c1 ≤ K → ∀ (x22 : List GCrossing) (b1 a1 : Int) (w : World), laws_markCrossingS.l1 K c1 x22 b1 a1 = some (r1, r2) → St w0 w (Own T_GCrossing 143 A_a c_a (fun _ => ()) x22 :: L) → G prog 78 48 [(0, .slice A_a x22.length c_a), (1, I b1), (5, I a1)] i1 w (laws_markCrossingS.post w0 L A_a c_a r1 r2) := by
   intro c1
   induction c1 using Nat.strongRecOn with
   | _ c1 f1 =>
    intro h1 x22 b1 a1 w H HS
    cases c1 with
    | zero => rw [laws_markCrossingS.l1] at H; cases H
    | succ g1 =>
     rw [laws_markCrossingS.l1] at H
     subst d1
     refine rN 2 Z (rG (pS 2 Z (lS Z Z underlying38 Z (GO.lss Z Z Z Z (nL ?_)))))
     rcases iE H with ⟨c46, H⟩ | ⟨c46, H⟩
     ·
      refine yB Z (tT c46) (rN 4 Z ?_)
      obtain ⟨c47, H⟩ := iN H
      obtain ⟨e49, h50, H⟩ := bnd_elim H
      refine rG (pS 3 Z (GO.ix Z Z Z underlying38 sz143 ((RdIn.own (j := 0) Z) _ HS).2.2.1 c47.1 c47.2 Z (GO.fld (ea A_a (a1.toNat * 5)) Z Z fl143_0 Z Z (GO.stRow (T := T_GCrossing) (j := 0) (n := a1.toNat) (o := 0) (vs := [I b1]) ({ e49 with A := b1 }) HS Z flat_flat Z Z Z Z (htN na2 Z) Z (getD_eq (ltN c47) h50) Z Z fun wd48 HS => nL (G.len (t := 0) (m := (x22.set a1.toNat ({ e49 with A := b1 })).length) Z (by simp only [List.length_set] <;> rfl) (rN 3 Z ?_))))))
      obtain ⟨c51, H⟩ := iN H
      obtain ⟨e53, h54, H⟩ := bnd_elim H
      refine rG (pS 3 Z (GO.ix Z Z Z underlying38 sz143 ((RdIn.own (j := 0) Z) _ HS).2.2.1 c51.1 c51.2 Z (GO.fld (ea A_a (a1.toNat * 5 + 1)) Z Z fl143_1 (ea_add _ _ _) Z (GO.stRow (T := T_GCrossing) (j := 0) (n := a1.toNat) (o := 1) (vs := [I (w64 (b1 + 1))]) ({ e53 with B := w64 (b1 + 1) }) HS Z flat_flat Z Z Z Z (htN na2 Z) Z (getD_eq (ltN c51) h54) Z Z fun wd52 HS => nL (G.len (t := 0) (m := ((x22.set a1.toNat ({ e49 with A := b1 })).set a1.toNat ({ e53 with B := w64 (b1 + 1) })).length) Z (by simp only [List.length_set] <;> rfl) (rN 3 Z ?_))))))
      obtain ⟨c55, H⟩ := iN H
      obtain ⟨e57, h58, H⟩ := bnd_elim H
      refine rG (pS 3 Z (GO.ix Z Z Z underlying38 sz143 ((RdIn.own (j := 0) Z) _ HS).2.2.1 c55.1 c55.2 Z (GO.fld (ea A_a (a1.toNat * 5 + 2)) Z Z fl143_2 (ea_add _ _ _) Z (GO.stRow (T := T_GCrossing) (j := 0) (n := a1.toNat) (o := 2) (vs := [I (w64 ((w64 (b1 + 1)) + 1))]) ({ e57 with C := w64 ((w64 (b1 + 1)) + 1) }) HS Z flat_flat Z Z Z Z (htN na2 Z) Z (getD_eq (ltN c55) h58) Z Z fun wd56 HS => nL (G.len (t := 0) (m := (((x22.set a1.toNat ({ e49 with A := b1 })).set a1.toNat ({ e53 with B := w64 (b1 + 1) })).set a1.toNat ({ e57 with C := w64 ((w64 (b1 + 1)) + 1) })).length) Z (by simp only [List.length_set] <;> rfl) (rN 3 Z ?_))))))
      obtain ⟨c59, H⟩ := iN H
      obtain ⟨e61, h62, H⟩ := bnd_elim H
      refine rG (pS 3 Z (GO.ix Z Z Z underlying38 sz143 ((RdIn.own (j := 0) Z) _ HS).2.2.1 c59.1 c59.2 Z (GO.fld (ea A_a (a1.toNat * 5 + 3)) Z Z fl143_3 (ea_add _ _ _) Z (GO.stRow (T := T_GCrossing) (j := 0) (n := a1.toNat) (o := 3) (vs := [I (w64 ((w64 ((w64 (b1 + 1)) + 1)) + 1))]) ({ e61 with D := w64 ((w64 ((w64 (b1 + 1)) + 1)) + 1) }) HS Z flat_flat Z Z Z Z (htN na2 Z) Z (getD_eq (ltN c59) h62) Z Z fun wd60 HS => nL (G.len (t := 0) (m := ((((x22.set a1.toNat ({ e49 with A := b1 })).set a1.toNat ({ e53 with B := w64 (b1 + 1) })).set a1.toNat ({ e57 with C := w64 ((w64 (b1 + 1)) + 1) })).set a1.toNat ({ e61 with D := w64 ((w64 ((w64 (b1 + 1)) + 1)) + 1) })).length) Z (by simp only [List.length_set] <;> rfl) (rN 3 Z ?_))))))
      obtain ⟨c63, H⟩ := iN H
      obtain ⟨e65, h66, H⟩ := bnd_elim H
      refine rG (pS 3 Z (GO.ix Z Z Z underlying38 sz143 ((RdIn.own (j := 0) Z) _ HS).2.2.1 c63.1 c63.2 Z (GO.fld (ea A_a (a1.toNat * 5 + 4)) Z Z fl143_4 (ea_add _ _ _) Z (GO.stRow (T := T_GCrossing) (j := 0) (n := a1.toNat) (o := 4) (vs := [I (w64 ((w64 ((w64 ((w64 (b1 + 1)) + 1)) + 1)) + 1))]) ({ e65 with Sign := w64 ((w64 ((w64 ((w64 (b1 + 1)) + 1)) + 1)) + 1) }) HS Z flat_flat Z Z Z Z (htN na2 Z) Z (getD_eq (ltN c63) h66) Z Z fun wd64 HS => nL (G.len (t := 0) (m := (((((x22.set a1.toNat ({ e49 with A := b1 })).set a1.toNat ({ e53 with B := w64 (b1 + 1) })).set a1.toNat ({ e57 with C := w64 ((w64 (b1 + 1)) + 1) })).set a1.toNat ({ e61 with D := w64 ((w64 ((w64 (b1 + 1)) + 1)) + 1) })).set a1.toNat ({ e65 with Sign := w64 ((w64 ((w64 ((w64 (b1 + 1)) + 1)) + 1)) + 1) })).length) Z (by simp only [List.length_set] <;> rfl) (rN 4 Z (G.weak ?_ (f1 g1 (Nat.lt_succ_of_le (lR _)) (Nat.le_of_succ_le h1) _ _ _ _ H HS))))))))
      exact ⟨Z, Z, Z, tv⟩
     refine nB Z (tF c46) (rN 3 Z ?_)
     obtain ⟨rfl, rfl⟩ := some2 H
     exact rT _ func78 Z Z ⟨Z, HS⟩
  refine G.weak ?_ (e1 K (lR _) _ _ _ _ H HS)
  exact ⟨Z, Z, Z, tv⟩
theorem laws_markInt64S.calls {a_ : List Int} {k_ : Int} {A_a : Option Addr} {c_a : Nat} {r1 : Int} {r2 : List Int} (HS : St w0 w (Own (TInt .i64) 2 A_a c_a (fun _ => ()) a_ :: L)) (H : laws_markInt64S.f K a_ k_ = some (r1, r2)) :
    Calls prog 79 #[.slice A_a a_.length c_a, I k_] w (laws_markInt64S.post w0 L A_a c_a r1 r2) := by
  unfold laws_markInt64S.f at H
  refine cG func79 Z ?_
  refine rN 7 Z ?_
  refine G.name (fun g1 b1 => ?_)
  have c1 : ∀ a1, a1 ≤ K → ∀ (x4 : List Int) (k_5 i_6 : Int) (w : World), laws_markInt64S.l1 K a1 x4 k_5 i_6 = some (r1, r2) → St w0 w (Own (TInt .i64) 2 A_a c_a (fun _ => ()) x4 :: L) → G prog 79 19 [(0, .slice A_a x4.length c_a), (1, I k_5), (5, I i_6)] g1 w (laws_markInt64S.post w0 L A_a c_a r1 r2) := by
   intro a1
   induction a1 using Nat.strongRecOn with
   | _ a1 d1 =>
    intro f1 x4 k_5 i_6 w H HS
    cases a1 with
    | zero => rw [laws_markInt64S.l1] at H; cases H
    | succ e1 =>
     rw [laws_markInt64S.l1] at H
     subst b1
     refine rN 2 Z (rG (pS 2 Z (lS Z Z underlying41 Z (GO.lss Z Z Z Z (nL ?_)))))
     rcases iE H with ⟨c10, H⟩ | ⟨c10, H⟩
     ·
      refine yB Z (tT c10) (rN 4 Z ?_)
      obtain ⟨c11, H⟩ := iN H
      refine rG (pS 3 Z (GO.ix Z Z Z underlying41 sz2 ((RdIn.own (j := 0) Z) _ HS).2.2.1 c11.1 c11.2 Z (GO.stRow (T := (TInt .i64)) (j := 0) (n := i_6.toNat) (o := 0) (vs := [I k_5]) k_5 HS Z flat_flat Z Z Z Z (htN na2 Z) Z (getD_some (d := 0) (ltN c11)) Z Z fun wd12 HS => nL (G.len (t := 0) (m := (x4.set i_6.toNat k_5).length) Z (by simp only [List.length_set] <;> rfl) (rN 4 Z (G.weak ?_ (d1 e1 (Nat.lt_succ_of_le (lR _)) (Nat.le_of_succ_le f1) _ _ _ _ H HS)))))))
      exact ⟨Z, Z, Z, tv⟩
     refine nB Z (tF c10) (rN 3 Z ?_)
     obtain ⟨rfl, rfl⟩ := some2 H
     exact rT _ func79 Z Z ⟨Z, HS⟩
  refine G.weak ?_ (c1 K (lR _) _ _ _ _ H HS)
  exact ⟨Z, Z, Z, tv⟩
theorem laws_markMoveS.calls {a_ : List GMove} {k_ : Int} {A_a : Option Addr} {c_a : Nat} {r1 : Int} {r2 : List GMove} (HS : St w0 w (Own T_GMove 110 A_a c_a (fun _ => ()) a_ :: L)) (H : laws_markMoveS.f K a_ k_ = some (r1, r2)) :
    Calls prog 80 #[.slice A_a a_.length c_a, I k_] w (laws_markMoveS.post w0 L A_a c_a r1 r2) := by
  unfold laws_markMoveS.f at H
  refine cG func80 Z ?_
  refine rN 7 Z ?_
  refine G.name (fun i1 d1 => ?_)
  have e1 : ∀ c1, c1 ≤ K → ∀ (x14 : List GMove) (b1 a1 : Int) (w : World), laws_markMoveS.l1 K c1 x14 b1 a1 = some (r1, r2) → St w0 w (Own T_GMove 110 A_a c_a (fun _ => ()) x14 :: L) → G prog 80 34 [(0, .slice A_a x14.length c_a), (1, I b1), (5, I a1)] i1 w (laws_markMoveS.post w0 L A_a c_a r1 r2) := by
   intro c1
   induction c1 using Nat.strongRecOn with
   | _ c1 f1 =>
    intro h1 x14 b1 a1 w H HS
    cases c1 with
    | zero => rw [laws_markMoveS.l1] at H; cases H
    | succ g1 =>
     rw [laws_markMoveS.l1] at H
     subst d1
     refine rN 2 Z (rG (pS 2 Z (lS Z Z underlying44 Z (GO.lss Z Z Z Z (nL ?_)))))
     rcases iE H with ⟨c30, H⟩ | ⟨c30, H⟩
     ·
      refine yB Z (tT c30) (rN 4 Z ?_)
      obtain ⟨c31, H⟩ := iN H
      obtain ⟨e33, h34, H⟩ := bnd_elim H
      refine rG (pS 3 Z (GO.ix Z Z Z underlying44 sz110 ((RdIn.own (j := 0) Z) _ HS).2.2.1 c31.1 c31.2 Z (GO.fld (ea A_a (a1.toNat * 3)) Z Z fl110_0 Z Z (GO.stRow (T := T_GMove) (j := 0) (n := a1.toNat) (o := 0) (vs := [I b1]) ({ e33 with Kind := b1 }) HS Z flat_flat Z Z Z Z (htN na2 Z) Z (getD_eq (ltN c31) h34) Z Z fun wd32 HS => nL (G.len (t := 0) (m := (x14.set a1.toNat ({ e33 with Kind := b1 })).length) Z (by simp only [List.length_set] <;> rfl) (rN 3 Z ?_))))))
      obtain ⟨c35, H⟩ := iN H
      obtain ⟨e37, h38, H⟩ := bnd_elim H
      refine rG (pS 3 Z (GO.ix Z Z Z underlying44 sz110 ((RdIn.own (j := 0) Z) _ HS).2.2.1 c35.1 c35.2 Z (GO.fld (ea A_a (a1.toNat * 3 + 1)) Z Z fl110_1 (ea_add _ _ _) Z (GO.stRow (T := T_GMove) (j := 0) (n := a1.toNat) (o := 1) (vs := [I (w64 (b1 + 1))]) ({ e37 with Tet := w64 (b1 + 1) }) HS Z flat_flat Z Z Z Z (htN na2 Z) Z (getD_eq (ltN c35) h38) Z Z fun wd36 HS => nL (G.len (t := 0) (m := ((x14.set a1.toNat ({ e33 with Kind := b1 })).set a1.toNat ({ e37 with Tet := w64 (b1 + 1) })).length) Z (by simp only [List.length_set] <;> rfl) (rN 3 Z ?_))))))
      obtain ⟨c39, H⟩ := iN H
      obtain ⟨e41, h42, H⟩ := bnd_elim H
      refine rG (pS 3 Z (GO.ix Z Z Z underlying44 sz110 ((RdIn.own (j := 0) Z) _ HS).2.2.1 c39.1 c39.2 Z (GO.fld (ea A_a (a1.toNat * 3 + 2)) Z Z fl110_2 (ea_add _ _ _) Z (GO.stRow (T := T_GMove) (j := 0) (n := a1.toNat) (o := 2) (vs := [I (w64 ((w64 (b1 + 1)) + 1))]) ({ e41 with Index := w64 ((w64 (b1 + 1)) + 1) }) HS Z flat_flat Z Z Z Z (htN na2 Z) Z (getD_eq (ltN c39) h42) Z Z fun wd40 HS => nL (G.len (t := 0) (m := (((x14.set a1.toNat ({ e33 with Kind := b1 })).set a1.toNat ({ e37 with Tet := w64 (b1 + 1) })).set a1.toNat ({ e41 with Index := w64 ((w64 (b1 + 1)) + 1) })).length) Z (by simp only [List.length_set] <;> rfl) (rN 4 Z (G.weak ?_ (f1 g1 (Nat.lt_succ_of_le (lR _)) (Nat.le_of_succ_le h1) _ _ _ _ H HS))))))))
      exact ⟨Z, Z, Z, tv⟩
     refine nB Z (tF c30) (rN 3 Z ?_)
     obtain ⟨rfl, rfl⟩ := some2 H
     exact rT _ func80 Z Z ⟨Z, HS⟩
  refine G.weak ?_ (e1 K (lR _) _ _ _ _ H HS)
  exact ⟨Z, Z, Z, tv⟩
theorem laws_markItemS.calls {a_ : List GItem} {k_ : Int} {A_a : Option Addr} {c_a : Nat} {y_a : Nat → T_GItem_47.Lay} {r1 : Int} {r2 : List GItem} (HS : St w0 w (Own T_GItem_47 48 A_a c_a y_a a_ :: L)) (H : laws_markItemS.f K a_ k_ = some (r1, r2)) :
    Calls prog 40 #[.slice A_a a_.length c_a, I k_] w (laws_markItemS.post w0 L A_a c_a y_a r1 r2) := by
  unfold laws_markItemS.f at H
  refine cG func40 Z ?_
  refine rN 7 Z ?_
  refine G.name (fun i1 d1 => ?_)
  have e1 : ∀ c1, c1 ≤ K → ∀ (x84 : List GItem) (b1 a1 : Int) (w : World), laws_markItemS.l1 K c1 x84 b1 a1 = some (r1, r2) → St w0 w (Own T_GItem_47 48 A_a c_a y_a x84 :: L) → G prog 40 108 [(0, .slice A_a x84.length c_a), (1, I b1), (5, I a1)] i1 w (laws_markItemS.post w0 L A_a c_a y_a r1 r2) := by
   intro c1
   induction c1 using Nat.strongRecOn with
   | _ c1 f1 =>
    intro h1 x84 b1 a1 w H HS
    cases c1 with
    | zero => rw [laws_markItemS.l1] at H; cases H
    | succ g1 =>
     rw [laws_markItemS.l1] at H
     subst d1
     refine rN 2 Z (rG (pS 2 Z (lS Z Z underlying28 Z (GO.lss Z Z Z Z (nL ?_)))))
     rcases iE H with ⟨c170, H⟩ | ⟨c170, H⟩
     ·
      refine yB Z (tT c170) (rN 4 Z ?_)
      obtain ⟨t171, h172, H⟩ := bI H
      obtain ⟨c175, H⟩ := iN H
      obtain ⟨e177, h178, H⟩ := bnd_elim H
      refine rG (pS 3 Z (fN Z func76 fok76.1 fok76.2 Z Z (laws_markText.calls HS  h172) (fun _ wd173 ⟨h174, HS⟩ => ⟨_, h174, (GO.ix Z Z Z underlying28 sz48 ((RdIn.own (j := 0) Z) _ HS).2.2.1 c175.1 c175.2 Z (GO.fld (ea A_a (a1.toNat * 12)) Z Z fl48_0 Z Z (GO.stK (T := T_GItem_47) (j := 0) (n := a1.toNat) (o := 0) (x0 := e177) (vs := [.string t171]) ({ e177 with Name := t171 }) HS Z (fun _ _ h => h) Z Z Z Z (htN na9 Z) Z (getD_eq (ltN c175) h178) Z Z fun wd176 HS => nL (G.len (t := 0) (m := (x84.set a1.toNat ({ e177 with Name := t171 })).length) Z (by simp only [List.length_set] <;> rfl) (rN 3 Z ?_)))))⟩)))
      obtain ⟨c179, H⟩ := iN H
      obtain ⟨e181, h182, H⟩ := bnd_elim H
      refine rG (pS 3 Z (GO.ix Z Z Z underlying28 sz48 ((RdIn.own (j := 0) Z) _ HS).2.2.1 c179.1 c179.2 Z (GO.fld (ea A_a (a1.toNat * 12 + 1)) Z Z fl48_1 (ea_add _ _ _) Z (GO.stK (T := T_GItem_47) (j := 0) (n := a1.toNat) (o := 1) (x0 := e181) (vs := [I (w64 (b1 + 1))]) ({ e181 with Kind := w64 (b1 + 1) }) HS Z (fun _ _ h => h) Z Z Z Z (htN na2 Z) Z (getD_eq (ltN c179) h182) Z Z fun wd180 HS => nL (G.len (t := 0) (m := ((x84.set a1.toNat ({ e177 with Name := t171 })).set a1.toNat ({ e181 with Kind := w64 (b1 + 1) })).length) Z (by simp only [List.length_set] <;> rfl) (rN 3 Z ?_))))))
      obtain ⟨c183, H⟩ := iN H
      obtain ⟨e184, h185, H⟩ := bnd_elim H
      obtain ⟨t186, t187, h188, H⟩ := bind2_elim H
      obtain ⟨c189, H⟩ := iN H
      refine rG (pS 2 Z (GO.ix Z Z Z underlying28 sz48 ((RdIn.own (j := 0) Z) _ HS).2.2.1 c183.1 c183.2 Z (GO.fld (ea A_a (a1.toNat * 12 + 2)) Z Z fl48_2 (ea_add _ _ _) Z (GO.fld (ea A_a (a1.toNat * 12 + 2)) Z Z fl37_0 Z Z (GO.ldRd (T := T_GItem_47) (n := a1.toNat) (o := 2) HS (RdIn.own (j := 0) Z) Z Z (getD_eq (ltN c183) h185) Z Z na35 Z (mV Z ?_))))))
      replace HS := HS.focusO F_GItem_47_Triangulation_Tets (getD_eq (ltN c183) h185)
      refine fN Z func77 fok77.1 fok77.2 Z Z (laws_markFaceSS.calls HS  h188) (fun _ wd190 ⟨h191, HS⟩ => ⟨_, h191, ?_⟩)
      replace HS := St.unfocusO (y := t187) F_GItem_47_Triangulation_Tets (getD_eq (ltN c183) h185) (congrArg (fun m => ([.string e184.Name, I e184.Kind, .slice (y_a a1.toNat).2.2.1.A m (y_a a1.toNat).2.2.1.c, .slice (y_a a1.toNat).2.2.2.1.A e184.Diagram_Crossings.length (y_a a1.toNat).2.2.2.1.c, I e184.Diagram_Circles, I e184.Braid_Strands, .slice (y_a a1.toNat).2.2.2.2.2.2.1.A e184.Braid_Word.length (y_a a1.toNat).2.2.2.2.2.2.1.c, I e184.Certificate_Name, I e184.Certificate_Trait, .slice (y_a a1.toNat).2.2.2.2.2.2.2.2.2.1.A e184.Certificate_Moves.length (y_a a1.toNat).2.2.2.2.2.2.2.2.2.1.c, .slice (y_a a1.toNat).2.2.2.2.2.2.2.2.2.2.1.A e184.Certificate_Tets.length (y_a a1.toNat).2.2.2.2.2.2.2.2.2.2.1.c, .slice (y_a a1.toNat).2.2.2.2.2.2.2.2.2.2.2.A e184.Certificate_Perms.length (y_a a1.toNat).2.2.2.2.2.2.2.2.2.2.2.c] : List Value)) c189) HS
      refine aS Z (nL (G.len (t := 0) (m := (((x84.set a1.toNat ({ e177 with Name := t171 })).set a1.toNat ({ e181 with Kind := w64 (b1 + 1) })).set a1.toNat { e184 with Triangulation_Tets := t187 }).length) Z (by simp only [List.length_set, List.length_set] <;> rfl) (sQ ?_)))
      obtain ⟨c192, H⟩ := iN H
      obtain ⟨e193, h194, H⟩ := bnd_elim H
      obtain ⟨t195, t196, h197, H⟩ := bind2_elim H
      obtain ⟨c198, H⟩ := iN H
      refine rG (pS 2 Z (GO.ix Z Z Z underlying28 sz48 ((RdIn.own (j := 0) Z) _ HS).2.2.1 c192.1 c192.2 Z (GO.fld (ea A_a (a1.toNat * 12 + 3)) Z Z fl48_3 (ea_add _ _ _) Z (GO.fld (ea A_a (a1.toNat * 12 + 3)) Z Z fl40_0 Z Z (GO.ldRd (T := T_GItem_47) (n := a1.toNat) (o := 3) HS (RdIn.own (j := 0) Z) Z Z (getD_eq (ltN c192) h194) Z Z na38 Z (mV Z ?_))))))
      replace HS := HS.focusO F_GItem_47_Diagram_Crossings (getD_eq (ltN c192) h194)
      refine fN Z func78 fok78.1 fok78.2 Z Z (laws_markCrossingS.calls HS  h197) (fun _ wd199 ⟨h200, HS⟩ => ⟨_, h200, ?_⟩)
      replace HS := St.unfocusO (y := t196) F_GItem_47_Diagram_Crossings (getD_eq (ltN c192) h194) (congrArg (fun m => ([.string e193.Name, I e193.Kind, .slice (y_a a1.toNat).2.2.1.A e193.Triangulation_Tets.length (y_a a1.toNat).2.2.1.c, .slice (y_a a1.toNat).2.2.2.1.A m (y_a a1.toNat).2.2.2.1.c, I e193.Diagram_Circles, I e193.Braid_Strands, .slice (y_a a1.toNat).2.2.2.2.2.2.1.A e193.Braid_Word.length (y_a a1.toNat).2.2.2.2.2.2.1.c, I e193.Certificate_Name, I e193.Certificate_Trait, .slice (y_a a1.toNat).2.2.2.2.2.2.2.2.2.1.A e193.Certificate_Moves.length (y_a a1.toNat).2.2.2.2.2.2.2.2.2.1.c, .slice (y_a a1.toNat).2.2.2.2.2.2.2.2.2.2.1.A e193.Certificate_Tets.length (y_a a1.toNat).2.2.2.2.2.2.2.2.2.2.1.c, .slice (y_a a1.toNat).2.2.2.2.2.2.2.2.2.2.2.A e193.Certificate_Perms.length (y_a a1.toNat).2.2.2.2.2.2.2.2.2.2.2.c] : List Value)) c198) HS
      refine aS Z (nL (G.len (t := 0) (m := ((((x84.set a1.toNat ({ e177 with Name := t171 })).set a1.toNat ({ e181 with Kind := w64 (b1 + 1) })).set a1.toNat { e184 with Triangulation_Tets := t187 }).set a1.toNat { e193 with Diagram_Crossings := t196 }).length) Z (by simp only [List.length_set, List.length_set] <;> rfl) (sQ ?_)))
      obtain ⟨c201, H⟩ := iN H
      obtain ⟨e203, h204, H⟩ := bnd_elim H
      refine rG (pS 3 Z (GO.ix Z Z Z underlying28 sz48 ((RdIn.own (j := 0) Z) _ HS).2.2.1 c201.1 c201.2 Z (GO.fld (ea A_a (a1.toNat * 12 + 3)) Z Z fl48_3 (ea_add _ _ _) Z (GO.fld (ea A_a (a1.toNat * 12 + 4)) Z Z fl40_1 (by rw [ea_add, Nat.add_assoc]) Z (GO.stK (T := T_GItem_47) (j := 0) (n := a1.toNat) (o := 4) (x0 := e203) (vs := [I t195]) ({ e203 with Diagram_Circles := t195 }) HS Z (fun _ _ h => h) Z Z Z Z (htN na2 Z) Z (getD_eq (ltN c201) h204) Z Z fun wd202 HS => nL (G.len (t := 0) (m := (((((x84.set a1.toNat ({ e177 with Name := t171 })).set a1.toNat ({ e181 with Kind := w64 (b1 + 1) })).set a1.toNat { e184 with Triangulation_Tets := t187 }).set a1.toNat { e193 with Diagram_Crossings := t196 }).set a1.toNat ({ e203 with Diagram_Circles := t195 })).length) Z (by simp only [List.length_set] <;> rfl) (rN 3 Z ?_)))))))
      obtain ⟨c205, H⟩ := iN H
      obtain ⟨e207, h208, H⟩ := bnd_elim H
      refine rG (pS 3 Z (GO.ix Z Z Z underlying28 sz48 ((RdIn.own (j := 0) Z) _ HS).2.2.1 c205.1 c205.2 Z (GO.fld (ea A_a (a1.toNat * 12 + 5)) Z Z fl48_4 (ea_add _ _ _) Z (GO.fld (ea A_a (a1.toNat * 12 + 5)) Z Z fl43_0 Z Z (GO.stK (T := T_GItem_47) (j := 0) (n := a1.toNat) (o := 5) (x0 := e207) (vs := [I (w64 (t195 + 1))]) ({ e207 with Braid_Strands := w64 (t195 + 1) }) HS Z (fun _ _ h => h) Z Z Z Z (htN na2 Z) Z (getD_eq (ltN c205) h208) Z Z fun wd206 HS => nL (G.len (t := 0) (m := ((((((x84.set a1.toNat ({ e177 with Name := t171 })).set a1.toNat ({ e181 with Kind := w64 (b1 + 1) })).set a1.toNat { e184 with Triangulation_Tets := t187 }).set a1.toNat { e193 with Diagram_Crossings := t196 }).set a1.toNat ({ e203 with Diagram_Circles := t195 })).set a1.toNat ({ e207 with Braid_Strands := w64 (t195 + 1) })).length) Z (by simp only [List.length_set] <;> rfl) (rN 3 Z ?_)))))))
      obtain ⟨c209, H⟩ := iN H
      obtain ⟨e210, h211, H⟩ := bnd_elim H
      obtain ⟨t212, t213, h214, H⟩ := bind2_elim H
      obtain ⟨c215, H⟩ := iN H
      refine rG (pS 2 Z (GO.ix Z Z Z underlying28 sz48 ((RdIn.own (j := 0) Z) _ HS).2.2.1 c209.1 c209.2 Z (GO.fld (ea A_a (a1.toNat * 12 + 5)) Z Z fl48_4 (ea_add _ _ _) Z (GO.fld (ea A_a (a1.toNat * 12 + 6)) Z Z fl43_1 (by rw [ea_add, Nat.add_assoc]) Z (GO.ldRd (T := T_GItem_47) (n := a1.toNat) (o := 6) HS (RdIn.own (j := 0) Z) Z Z (getD_eq (ltN c209) h211) Z Z na41 Z (mV Z ?_))))))
      replace HS := HS.focusO F_GItem_47_Braid_Word (getD_eq (ltN c209) h211)
      refine fN Z func79 fok79.1 fok79.2 Z Z (laws_markInt64S.calls HS  h214) (fun _ wd216 ⟨h217, HS⟩ => ⟨_, h217, ?_⟩)
      replace HS := St.unfocusO (y := t213) F_GItem_47_Braid_Word (getD_eq (ltN c209) h211) (congrArg (fun m => ([.string e210.Name, I e210.Kind, .slice (y_a a1.toNat).2.2.1.A e210.Triangulation_Tets.length (y_a a1.toNat).2.2.1.c, .slice (y_a a1.toNat).2.2.2.1.A e210.Diagram_Crossings.length (y_a a1.toNat).2.2.2.1.c, I e210.Diagram_Circles, I e210.Braid_Strands, .slice (y_a a1.toNat).2.2.2.2.2.2.1.A m (y_a a1.toNat).2.2.2.2.2.2.1.c, I e210.Certificate_Name, I e210.Certificate_Trait, .slice (y_a a1.toNat).2.2.2.2.2.2.2.2.2.1.A e210.Certificate_Moves.length (y_a a1.toNat).2.2.2.2.2.2.2.2.2.1.c, .slice (y_a a1.toNat).2.2.2.2.2.2.2.2.2.2.1.A e210.Certificate_Tets.length (y_a a1.toNat).2.2.2.2.2.2.2.2.2.2.1.c, .slice (y_a a1.toNat).2.2.2.2.2.2.2.2.2.2.2.A e210.Certificate_Perms.length (y_a a1.toNat).2.2.2.2.2.2.2.2.2.2.2.c] : List Value)) c215) HS
      refine aS Z (nL (G.len (t := 0) (m := (((((((x84.set a1.toNat ({ e177 with Name := t171 })).set a1.toNat ({ e181 with Kind := w64 (b1 + 1) })).set a1.toNat { e184 with Triangulation_Tets := t187 }).set a1.toNat { e193 with Diagram_Crossings := t196 }).set a1.toNat ({ e203 with Diagram_Circles := t195 })).set a1.toNat ({ e207 with Braid_Strands := w64 (t195 + 1) })).set a1.toNat { e210 with Braid_Word := t213 }).length) Z (by simp only [List.length_set, List.length_set] <;> rfl) (sQ ?_)))
      obtain ⟨c218, H⟩ := iN H
      obtain ⟨e220, h221, H⟩ := bnd_elim H
      refine rG (pS 3 Z (GO.ix Z Z Z underlying28 sz48 ((RdIn.own (j := 0) Z) _ HS).2.2.1 c218.1 c218.2 Z (GO.fld (ea A_a (a1.toNat * 12 + 7)) Z Z fl48_5 (ea_add _ _ _) Z (GO.fld (ea A_a (a1.toNat * 12 + 7)) Z Z fl46_0 Z Z (GO.stK (T := T_GItem_47) (j := 0) (n := a1.toNat) (o := 7) (x0 := e220) (vs := [I t212]) ({ e220 with Certificate_Name := t212 }) HS Z (fun _ _ h => h) Z Z Z Z (htN na2 Z) Z (getD_eq (ltN c218) h221) Z Z fun wd219 HS => nL (G.len (t := 0) (m := ((((((((x84.set a1.toNat ({ e177 with Name := t171 })).set a1.toNat ({ e181 with Kind := w64 (b1 + 1) })).set a1.toNat { e184 with Triangulation_Tets := t187 }).set a1.toNat { e193 with Diagram_Crossings := t196 }).set a1.toNat ({ e203 with Diagram_Circles := t195 })).set a1.toNat ({ e207 with Braid_Strands := w64 (t195 + 1) })).set a1.toNat { e210 with Braid_Word := t213 }).set a1.toNat ({ e220 with Certificate_Name := t212 })).length) Z (by simp only [List.length_set] <;> rfl) (rN 3 Z ?_)))))))
      obtain ⟨c222, H⟩ := iN H
      obtain ⟨e224, h225, H⟩ := bnd_elim H
      refine rG (pS 3 Z (GO.ix Z Z Z underlying28 sz48 ((RdIn.own (j := 0) Z) _ HS).2.2.1 c222.1 c222.2 Z (GO.fld (ea A_a (a1.toNat * 12 + 7)) Z Z fl48_5 (ea_add _ _ _) Z (GO.fld (ea A_a (a1.toNat * 12 + 8)) Z Z fl46_1 (by rw [ea_add, Nat.add_assoc]) Z (GO.stK (T := T_GItem_47) (j := 0) (n := a1.toNat) (o := 8) (x0 := e224) (vs := [I (w64 (t212 + 1))]) ({ e224 with Certificate_Trait := w64 (t212 + 1) }) HS Z (fun _ _ h => h) Z Z Z Z (htN na2 Z) Z (getD_eq (ltN c222) h225) Z Z fun wd223 HS => nL (G.len (t := 0) (m := (((((((((x84.set a1.toNat ({ e177 with Name := t171 })).set a1.toNat ({ e181 with Kind := w64 (b1 + 1) })).set a1.toNat { e184 with Triangulation_Tets := t187 }).set a1.toNat { e193 with Diagram_Crossings := t196 }).set a1.toNat ({ e203 with Diagram_Circles := t195 })).set a1.toNat ({ e207 with Braid_Strands := w64 (t195 + 1) })).set a1.toNat { e210 with Braid_Word := t213 }).set a1.toNat ({ e220 with Certificate_Name := t212 })).set a1.toNat ({ e224 with Certificate_Trait := w64 (t212 + 1) })).length) Z (by simp only [List.length_set] <;> rfl) (rN 3 Z ?_)))))))
      obtain ⟨c226, H⟩ := iN H
      obtain ⟨e227, h228, H⟩ := bnd_elim H
      obtain ⟨t229, t230, h231, H⟩ := bind2_elim H
      obtain ⟨c232, H⟩ := iN H
      refine rG (pS 2 Z (GO.ix Z Z Z underlying28 sz48 ((RdIn.own (j := 0) Z) _ HS).2.2.1 c226.1 c226.2 Z (GO.fld (ea A_a (a1.toNat * 12 + 7)) Z Z fl48_5 (ea_add _ _ _) Z (GO.fld (ea A_a (a1.toNat * 12 + 9)) Z Z fl46_2 (by rw [ea_add, Nat.add_assoc]) Z (GO.ldRd (T := T_GItem_47) (n := a1.toNat) (o := 9) HS (RdIn.own (j := 0) Z) Z Z (getD_eq (ltN c226) h228) Z Z na44 Z (mV Z ?_))))))
      replace HS := HS.focusO F_GItem_47_Certificate_Moves (getD_eq (ltN c226) h228)
      refine fN Z func80 fok80.1 fok80.2 Z Z (laws_markMoveS.calls HS  h231) (fun _ wd233 ⟨h234, HS⟩ => ⟨_, h234, ?_⟩)
      replace HS := St.unfocusO (y := t230) F_GItem_47_Certificate_Moves (getD_eq (ltN c226) h228) (congrArg (fun m => ([.string e227.Name, I e227.Kind, .slice (y_a a1.toNat).2.2.1.A e227.Triangulation_Tets.length (y_a a1.toNat).2.2.1.c, .slice (y_a a1.toNat).2.2.2.1.A e227.Diagram_Crossings.length (y_a a1.toNat).2.2.2.1.c, I e227.Diagram_Circles, I e227.Braid_Strands, .slice (y_a a1.toNat).2.2.2.2.2.2.1.A e227.Braid_Word.length (y_a a1.toNat).2.2.2.2.2.2.1.c, I e227.Certificate_Name, I e227.Certificate_Trait, .slice (y_a a1.toNat).2.2.2.2.2.2.2.2.2.1.A m (y_a a1.toNat).2.2.2.2.2.2.2.2.2.1.c, .slice (y_a a1.toNat).2.2.2.2.2.2.2.2.2.2.1.A e227.Certificate_Tets.length (y_a a1.toNat).2.2.2.2.2.2.2.2.2.2.1.c, .slice (y_a a1.toNat).2.2.2.2.2.2.2.2.2.2.2.A e227.Certificate_Perms.length (y_a a1.toNat).2.2.2.2.2.2.2.2.2.2.2.c] : List Value)) c232) HS
      refine aS Z (nL (G.len (t := 0) (m := ((((((((((x84.set a1.toNat ({ e177 with Name := t171 })).set a1.toNat ({ e181 with Kind := w64 (b1 + 1) })).set a1.toNat { e184 with Triangulation_Tets := t187 }).set a1.toNat { e193 with Diagram_Crossings := t196 }).set a1.toNat ({ e203 with Diagram_Circles := t195 })).set a1.toNat ({ e207 with Braid_Strands := w64 (t195 + 1) })).set a1.toNat { e210 with Braid_Word := t213 }).set a1.toNat ({ e220 with Certificate_Name := t212 })).set a1.toNat ({ e224 with Certificate_Trait := w64 (t212 + 1) })).set a1.toNat { e227 with Certificate_Moves := t230 }).length) Z (by simp only [List.length_set, List.length_set] <;> rfl) (sQ ?_)))
      obtain ⟨c235, H⟩ := iN H
      obtain ⟨e236, h237, H⟩ := bnd_elim H
      obtain ⟨t238, t239, h240, H⟩ := bind2_elim H
      obtain ⟨c241, H⟩ := iN H
      refine rG (pS 2 Z (GO.ix Z Z Z underlying28 sz48 ((RdIn.own (j := 0) Z) _ HS).2.2.1 c235.1 c235.2 Z (GO.fld (ea A_a (a1.toNat * 12 + 7)) Z Z fl48_5 (ea_add _ _ _) Z (GO.fld (ea A_a (a1.toNat * 12 + 10)) Z Z fl46_3 (by rw [ea_add, Nat.add_assoc]) Z (GO.ldRd (T := T_GItem_47) (n := a1.toNat) (o := 10) HS (RdIn.own (j := 0) Z) Z Z (getD_eq (ltN c235) h237) Z Z na41 Z (mV Z ?_))))))
      replace HS := HS.focusO F_GItem_47_Certificate_Tets (getD_eq (ltN c235) h237)
      refine fN Z func79 fok79.1 fok79.2 Z Z (laws_markInt64S.calls HS  h240) (fun _ wd242 ⟨h243, HS⟩ => ⟨_, h243, ?_⟩)
      replace HS := St.unfocusO (y := t239) F_GItem_47_Certificate_Tets (getD_eq (ltN c235) h237) (congrArg (fun m => ([.string e236.Name, I e236.Kind, .slice (y_a a1.toNat).2.2.1.A e236.Triangulation_Tets.length (y_a a1.toNat).2.2.1.c, .slice (y_a a1.toNat).2.2.2.1.A e236.Diagram_Crossings.length (y_a a1.toNat).2.2.2.1.c, I e236.Diagram_Circles, I e236.Braid_Strands, .slice (y_a a1.toNat).2.2.2.2.2.2.1.A e236.Braid_Word.length (y_a a1.toNat).2.2.2.2.2.2.1.c, I e236.Certificate_Name, I e236.Certificate_Trait, .slice (y_a a1.toNat).2.2.2.2.2.2.2.2.2.1.A e236.Certificate_Moves.length (y_a a1.toNat).2.2.2.2.2.2.2.2.2.1.c, .slice (y_a a1.toNat).2.2.2.2.2.2.2.2.2.2.1.A m (y_a a1.toNat).2.2.2.2.2.2.2.2.2.2.1.c, .slice (y_a a1.toNat).2.2.2.2.2.2.2.2.2.2.2.A e236.Certificate_Perms.length (y_a a1.toNat).2.2.2.2.2.2.2.2.2.2.2.c] : List Value)) c241) HS
      refine aS Z (nL (G.len (t := 0) (m := (((((((((((x84.set a1.toNat ({ e177 with Name := t171 })).set a1.toNat ({ e181 with Kind := w64 (b1 + 1) })).set a1.toNat { e184 with Triangulation_Tets := t187 }).set a1.toNat { e193 with Diagram_Crossings := t196 }).set a1.toNat ({ e203 with Diagram_Circles := t195 })).set a1.toNat ({ e207 with Braid_Strands := w64 (t195 + 1) })).set a1.toNat { e210 with Braid_Word := t213 }).set a1.toNat ({ e220 with Certificate_Name := t212 })).set a1.toNat ({ e224 with Certificate_Trait := w64 (t212 + 1) })).set a1.toNat { e227 with Certificate_Moves := t230 }).set a1.toNat { e236 with Certificate_Tets := t239 }).length) Z (by simp only [List.length_set, List.length_set] <;> rfl) ?_))
      obtain ⟨c244, H⟩ := iN H
      obtain ⟨e245, h246, H⟩ := bnd_elim H
      obtain ⟨t247, t248, h249, H⟩ := bind2_elim H
      obtain ⟨c250, H⟩ := iN H
      refine rG (pS 2 Z (GO.ix Z Z Z underlying28 sz48 ((RdIn.own (j := 0) Z) _ HS).2.2.1 c244.1 c244.2 Z (GO.fld (ea A_a (a1.toNat * 12 + 7)) Z Z fl48_5 (ea_add _ _ _) Z (GO.fld (ea A_a (a1.toNat * 12 + 11)) Z Z fl46_4 (by rw [ea_add, Nat.add_assoc]) Z (GO.ldRd (T := T_GItem_47) (n := a1.toNat) (o := 11) HS (RdIn.own (j := 0) Z) Z Z (getD_eq (ltN c244) h246) Z Z na41 Z (mV Z ?_))))))
      replace HS := HS.focusO F_GItem_47_Certificate_Perms (getD_eq (ltN c244) h246)
      refine fN Z func79 fok79.1 fok79.2 Z Z (laws_markInt64S.calls HS  h249) (fun _ wd251 ⟨h252, HS⟩ => ⟨_, h252, ?_⟩)
      replace HS := St.unfocusO (y := t248) F_GItem_47_Certificate_Perms (getD_eq (ltN c244) h246) (congrArg (fun m => ([.string e245.Name, I e245.Kind, .slice (y_a a1.toNat).2.2.1.A e245.Triangulation_Tets.length (y_a a1.toNat).2.2.1.c, .slice (y_a a1.toNat).2.2.2.1.A e245.Diagram_Crossings.length (y_a a1.toNat).2.2.2.1.c, I e245.Diagram_Circles, I e245.Braid_Strands, .slice (y_a a1.toNat).2.2.2.2.2.2.1.A e245.Braid_Word.length (y_a a1.toNat).2.2.2.2.2.2.1.c, I e245.Certificate_Name, I e245.Certificate_Trait, .slice (y_a a1.toNat).2.2.2.2.2.2.2.2.2.1.A e245.Certificate_Moves.length (y_a a1.toNat).2.2.2.2.2.2.2.2.2.1.c, .slice (y_a a1.toNat).2.2.2.2.2.2.2.2.2.2.1.A e245.Certificate_Tets.length (y_a a1.toNat).2.2.2.2.2.2.2.2.2.2.1.c, .slice (y_a a1.toNat).2.2.2.2.2.2.2.2.2.2.2.A m (y_a a1.toNat).2.2.2.2.2.2.2.2.2.2.2.c] : List Value)) c250) HS
      refine aS Z (nL (G.len (t := 0) (m := ((((((((((((x84.set a1.toNat ({ e177 with Name := t171 })).set a1.toNat ({ e181 with Kind := w64 (b1 + 1) })).set a1.toNat { e184 with Triangulation_Tets := t187 }).set a1.toNat { e193 with Diagram_Crossings := t196 }).set a1.toNat ({ e203 with Diagram_Circles := t195 })).set a1.toNat ({ e207 with Braid_Strands := w64 (t195 + 1) })).set a1.toNat { e210 with Braid_Word := t213 }).set a1.toNat ({ e220 with Certificate_Name := t212 })).set a1.toNat ({ e224 with Certificate_Trait := w64 (t212 + 1) })).set a1.toNat { e227 with Certificate_Moves := t230 }).set a1.toNat { e236 with Certificate_Tets := t239 }).set a1.toNat { e245 with Certificate_Perms := t248 }).length) Z (by simp only [List.length_set, List.length_set] <;> rfl) (rN 3 Z (G.weak ?_ (f1 g1 (Nat.lt_succ_of_le (lR _)) (Nat.le_of_succ_le h1) _ _ _ _ H HS)))))
      exact ⟨Z, Z, Z, tv⟩
     refine nB Z (tF c170) (rN 3 Z ?_)
     obtain ⟨rfl, rfl⟩ := some2 H
     exact rT _ func40 Z Z ⟨Z, HS⟩
  refine G.weak ?_ (e1 K (lR _) _ _ _ _ H HS)
  exact ⟨Z, Z, Z, tv⟩
theorem laws_markItemSS.calls {a_ : List (List GItem)} {k_ : Int} {A_a : Option Addr} {c_a : Nat} {y_a : Nat → (Ty.slice 48 T_GItem_47).Lay} {r1 : Int} {r2 : List (List GItem)} (HS : St w0 w (Own (Ty.slice 48 T_GItem_47) 28 A_a c_a y_a a_ :: L)) (H : laws_markItemSS.f K a_ k_ = some (r1, r2)) :
    Calls prog 41 #[.slice A_a a_.length c_a, I k_] w (laws_markItemSS.post w0 L A_a c_a y_a r1 r2) := by
  unfold laws_markItemSS.f at H
  refine cG func41 Z ?_
  refine rN 7 Z ?_
  refine G.name (fun i1 d1 => ?_)
  have e1 : ∀ b1, b1 ≤ K → ∀ (x9 : List (List GItem)) (c1 a1 : Int) (w : World), laws_markItemSS.l1 K b1 x9 c1 a1 = some (r1, r2) → St w0 w (Own (Ty.slice 48 T_GItem_47) 28 A_a c_a y_a x9 :: L) → G prog 41 19 [(0, .slice A_a x9.length c_a), (1, I c1), (5, I a1)] i1 w (laws_markItemSS.post w0 L A_a c_a y_a r1 r2) := by
   intro b1
   induction b1 using Nat.strongRecOn with
   | _ b1 f1 =>
    intro h1 x9 c1 a1 w H HS
    cases b1 with
    | zero => rw [laws_markItemSS.l1] at H; cases H
    | succ g1 =>
     rw [laws_markItemSS.l1] at H
     subst d1
     refine rN 2 Z (rG (pS 2 Z (lS Z Z underlying29 Z (GO.lss Z Z Z Z (nL ?_)))))
     rcases iE H with ⟨c20, H⟩ | ⟨c20, H⟩
     ·
      refine yB Z (tT c20) (rN 3 Z ?_)
      obtain ⟨c21, H⟩ := iN H
      obtain ⟨t22, t23, h24, H⟩ := bind2_elim H
      obtain ⟨c25, H⟩ := iN H
      refine rG (pS 2 Z (GO.ix Z Z Z underlying29 sz28 ((RdIn.own (j := 0) Z) _ HS).2.2.1 c21.1 c21.2 Z (GO.ldRd (T := (Ty.slice 48 T_GItem_47)) (n := a1.toNat) (o := 0) HS (RdIn.own (j := 0) Z) Z Z (getD_some (d := []) (ltN c21)) Z Z na28 Z (mV Z ?_))))
      replace HS := HS.focusO Fld.id (getD_some (d := []) (ltN c21))
      refine fN Z func40 fok40.1 fok40.2 Z Z (laws_markItemS.calls HS  h24) (fun _ wd26 ⟨h27, HS⟩ => ⟨_, h27, ?_⟩)
      replace HS := St.unfocusO (y := t23) Fld.id (getD_some (d := []) (ltN c21)) (congrArg (fun m => ([.slice ((y_a a1.toNat).A) m ((y_a a1.toNat).c)] : List Value)) c25) HS
      refine aS Z (nL (G.len (t := 0) (m := (x9.set a1.toNat t23).length) Z (by simp only [List.length_set, List.length_set] <;> rfl) (rN 3 Z (G.weak ?_ (f1 g1 (Nat.lt_succ_of_le (lR _)) (Nat.le_of_succ_le h1) _ _ _ _ H HS)))))
      exact ⟨Z, Z, Z, tv⟩
     refine nB Z (tF c20) (rN 3 Z ?_)
     obtain ⟨rfl, rfl⟩ := some2 H
     exact rT _ func41 Z Z ⟨Z, HS⟩
  refine G.weak ?_ (e1 K (lR _) _ _ _ _ H HS)
  exact ⟨Z, Z, Z, tv⟩
theorem laws_markBench.calls {d1 : List GItem} {c1 a1 : List (List GItem)} {k_ : Int} {A_a : Option Addr} {c_a : Nat} {y_a : Nat → T_GItem_47.Lay} {A_b : Option Addr} {c_b : Nat} {y_b : Nat → (Ty.slice 48 T_GItem_47).Lay} {A_c : Option Addr} {c_c : Nat} {y_c : Nat → (Ty.slice 48 T_GItem_47).Lay} {r1 : Int} {r2 : List GItem} {r3 r4 : List (List GItem)} (HS : St w0 w (Own T_GItem_47 48 A_a c_a y_a d1 :: Own (Ty.slice 48 T_GItem_47) 28 A_b c_b y_b c1 :: Own (Ty.slice 48 T_GItem_47) 28 A_c c_c y_c a1 :: L)) (H : laws_markBench.f K d1 c1 a1 k_ = some (r1, r2, r3, r4)) :
    Calls prog 15 #[.agg [.slice A_a d1.length c_a, .slice A_b c1.length c_b, .slice A_c a1.length c_c].toArray, I k_] w (laws_markBench.post w0 L A_a c_a y_a A_b c_b y_b A_c c_c y_c r1 r2 r3 r4) := by
  unfold laws_markBench.f at H
  refine cG func15 Z ?_
  refine sQ (rG (GO.box (cs := [.slice A_a d1.length c_a, .slice A_b c1.length c_b, .slice A_c a1.length c_c]) HS Z Z Z Z fun b1 wd2 HS => aS Z (nL (sQ ?_))))
  obtain ⟨t3, t4, h5, H⟩ := bind2_elim H
  obtain ⟨c6, H⟩ := iN H
  refine rG (fL b1 0 fl31_0 Z (lB 0 HS Z na28 Z (mV Z ?_)))
  replace HS := HS.pk 4 [1, 0, 2, 3] Z
  refine fN Z func40 fok40.1 fok40.2 Z Z (laws_markItemS.calls HS  h5) (fun _ wd7 ⟨h8, HS⟩ => ⟨_, h8, (aS Z (nL ?_))⟩)
  replace HS := HS.boxEq (j := 1) (cs' := [.slice A_a t4.length c_a, .slice A_b c1.length c_b, .slice A_c a1.length c_c]) Z (by simp only [List.length_set, c6] <;> rfl)
  refine sQ ?_
  obtain ⟨t9, t10, h11, H⟩ := bind2_elim H
  obtain ⟨c12, H⟩ := iN H
  refine rG (fL b1 1 fl31_1 Z (lB 1 HS Z na29 Z (mV Z ?_)))
  replace HS := HS.pk 4 [2, 0, 1, 3] Z
  refine fN Z func41 fok41.1 fok41.2 Z Z (laws_markItemSS.calls HS  h11) (fun _ wd13 ⟨h14, HS⟩ => ⟨_, h14, (aS Z (nL ?_))⟩)
  replace HS := HS.boxEq (j := 2) (cs' := [.slice A_a t4.length c_a, .slice A_b t10.length c_b, .slice A_c a1.length c_c]) Z (by simp only [List.length_set, c12] <;> rfl)
  refine sQ ?_
  obtain ⟨t15, t16, h17, H⟩ := bind2_elim H
  obtain ⟨c18, H⟩ := iN H
  refine rG (fL b1 2 fl31_2 Z (lB 2 HS Z na29 Z (mV Z ?_)))
  replace HS := HS.pk 4 [3, 0, 1, 2] Z
  refine fN Z func41 fok41.1 fok41.2 Z Z (laws_markItemSS.calls HS  h17) (fun _ wd19 ⟨h20, HS⟩ => ⟨_, h20, (aS Z (nL ?_))⟩)
  replace HS := HS.boxEq (j := 3) (cs' := [.slice A_a t4.length c_a, .slice A_b t10.length c_b, .slice A_c t16.length c_c]) Z (by simp only [List.length_set, c18] <;> rfl)
  refine rN 2 Z ?_
  obtain ⟨rfl, rfl, rfl, rfl⟩ := some4 H
  exact rT _ func15 Z Z ⟨Z, (HS.pk 4 [2, 1, 0] Z)⟩
theorem laws_markTriangulation.calls {a1 : List (List GFace)} {k_ : Int} {A_a : Option Addr} {c_a : Nat} {y_a : Nat → (Ty.slice 140 T_GFace).Lay} {r1 : Int} {r2 : List (List GFace)} (HS : St w0 w (Own (Ty.slice 140 T_GFace) 136 A_a c_a y_a a1 :: L)) (H : laws_markTriangulation.f K a1 k_ = some (r1, r2)) :
    Calls prog 42 #[.agg [.slice A_a a1.length c_a].toArray, I k_] w (laws_markTriangulation.post w0 L A_a c_a y_a r1 r2) := by
  unfold laws_markTriangulation.f at H
  refine cG func42 Z ?_
  refine sQ (rG (GO.box (cs := [.slice A_a a1.length c_a]) HS Z Z Z Z fun b1 wd2 HS => aS Z (nL (sQ ?_))))
  obtain ⟨t3, t4, h5, H⟩ := bind2_elim H
  obtain ⟨c6, H⟩ := iN H
  refine rG (fL b1 0 fl37_0 Z (lB 0 HS Z na35 Z (mV Z ?_)))
  replace HS := HS.pk 2 [1, 0] Z
  refine fN Z func77 fok77.1 fok77.2 Z Z (laws_markFaceSS.calls HS  h5) (fun _ wd7 ⟨h8, HS⟩ => ⟨_, h8, (aS Z (nL ?_))⟩)
  replace HS := HS.boxEq (j := 1) (cs' := [.slice A_a t4.length c_a]) Z (by simp only [List.length_set, c6] <;> rfl)
  refine rN 2 Z ?_
  obtain ⟨rfl, rfl⟩ := some2 H
  exact rT _ func42 Z Z ⟨Z, (HS.pk 2 [0] Z)⟩
theorem laws_markDiagram.calls {a1 : List GCrossing} {c1 k_ : Int} {A_a : Option Addr} {c_a : Nat} {r1 : Int} {r2 : List GCrossing} (HS : St w0 w (Own T_GCrossing 143 A_a c_a (fun _ => ()) a1 :: L)) (H : laws_markDiagram.f K a1 c1 k_ = some (r1, r2)) :
    Calls prog 43 #[.agg [.slice A_a a1.length c_a, I c1].toArray, I k_] w (laws_markDiagram.post w0 L A_a c_a r1 r2) := by
  unfold laws_markDiagram.f at H
  refine cG func43 Z ?_
  refine sQ (rG (GO.box (cs := [.slice A_a a1.length c_a, I c1]) HS Z Z Z Z fun b1 wd2 HS => aS Z (nL (sQ ?_))))
  obtain ⟨t3, t4, h5, H⟩ := bind2_elim H
  obtain ⟨c6, H⟩ := iN H
  refine rG (fL b1 0 fl40_0 Z (lB 0 HS Z na38 Z (mV Z ?_)))
  replace HS := HS.pk 2 [1, 0] Z
  refine fN Z func78 fok78.1 fok78.2 Z Z (laws_markCrossingS.calls HS  h5) (fun _ wd7 ⟨h8, HS⟩ => ⟨_, h8, (aS Z (nL ?_))⟩)
  replace HS := HS.boxEq (j := 1) (cs' := [.slice A_a t4.length c_a, I c1]) Z (by simp only [List.length_set, c6] <;> rfl)
  refine rN 2 Z ?_
  obtain ⟨rfl, rfl⟩ := some2 H
  exact rT _ func43 Z Z ⟨Z, (HS.pk 2 [0] Z)⟩
theorem laws_markBraid.calls {c1 : Int} {a1 : List Int} {k_ : Int} {A_a : Option Addr} {c_a : Nat} {r1 : Int} {r2 : List Int} (HS : St w0 w (Own (TInt .i64) 2 A_a c_a (fun _ => ()) a1 :: L)) (H : laws_markBraid.f K c1 a1 k_ = some (r1, r2)) :
    Calls prog 44 #[.agg [I c1, .slice A_a a1.length c_a].toArray, I k_] w (laws_markBraid.post w0 L A_a c_a r1 r2) := by
  unfold laws_markBraid.f at H
  refine cG func44 Z ?_
  refine sQ (rG (GO.box (cs := [I c1, .slice A_a a1.length c_a]) HS Z Z Z Z fun b1 wd2 HS => aS Z (nL (sQ ?_))))
  obtain ⟨t3, t4, h5, H⟩ := bind2_elim H
  obtain ⟨c6, H⟩ := iN H
  refine rG (fL b1 1 fl43_1 Z (lB 0 HS Z na41 Z (mV Z ?_)))
  replace HS := HS.pk 2 [1, 0] Z
  refine fN Z func79 fok79.1 fok79.2 Z Z (laws_markInt64S.calls HS  h5) (fun _ wd7 ⟨h8, HS⟩ => ⟨_, h8, (aS Z (nL ?_))⟩)
  replace HS := HS.boxEq (j := 1) (cs' := [I c1, .slice A_a t4.length c_a]) Z (by simp only [List.length_set, c6] <;> rfl)
  refine rN 2 Z ?_
  obtain ⟨rfl, rfl⟩ := some2 H
  exact rT _ func44 Z Z ⟨Z, (HS.pk 2 [0] Z)⟩
theorem laws_markCertificate.calls {a1 c1 : Int} {f1 : List GMove} {e1 d1 : List Int} {k_ : Int} {A_a : Option Addr} {c_a : Nat} {A_b : Option Addr} {c_b : Nat} {A_c : Option Addr} {c_c : Nat} {r1 : Int} {r2 : List GMove} {r3 r4 : List Int} (HS : St w0 w (Own T_GMove 110 A_a c_a (fun _ => ()) f1 :: Own (TInt .i64) 2 A_b c_b (fun _ => ()) e1 :: Own (TInt .i64) 2 A_c c_c (fun _ => ()) d1 :: L)) (H : laws_markCertificate.f K a1 c1 f1 e1 d1 k_ = some (r1, r2, r3, r4)) :
    Calls prog 45 #[.agg [I a1, I c1, .slice A_a f1.length c_a, .slice A_b e1.length c_b, .slice A_c d1.length c_c].toArray, I k_] w (laws_markCertificate.post w0 L A_a c_a A_b c_b A_c c_c r1 r2 r3 r4) := by
  unfold laws_markCertificate.f at H
  refine cG func45 Z ?_
  refine sQ (rG (GO.box (cs := [I a1, I c1, .slice A_a f1.length c_a, .slice A_b e1.length c_b, .slice A_c d1.length c_c]) HS Z Z Z Z fun b1 wd2 HS => aS Z (nL (sQ ?_))))
  obtain ⟨t3, t4, h5, H⟩ := bind2_elim H
  obtain ⟨c6, H⟩ := iN H
  refine rG (fL b1 2 fl46_2 Z (lB 0 HS Z na44 Z (mV Z ?_)))
  replace HS := HS.pk 4 [1, 0, 2, 3] Z
  refine fN Z func80 fok80.1 fok80.2 Z Z (laws_markMoveS.calls HS  h5) (fun _ wd7 ⟨h8, HS⟩ => ⟨_, h8, (aS Z (nL ?_))⟩)
  replace HS := HS.boxEq (j := 1) (cs' := [I a1, I c1, .slice A_a t4.length c_a, .slice A_b e1.length c_b, .slice A_c d1.length c_c]) Z (by simp only [List.length_set, c6] <;> rfl)
  refine sQ ?_
  obtain ⟨t9, t10, h11, H⟩ := bind2_elim H
  obtain ⟨c12, H⟩ := iN H
  refine rG (fL b1 3 fl46_3 Z (lB 1 HS Z na41 Z (mV Z ?_)))
  replace HS := HS.pk 4 [2, 0, 1, 3] Z
  refine fN Z func79 fok79.1 fok79.2 Z Z (laws_markInt64S.calls HS  h11) (fun _ wd13 ⟨h14, HS⟩ => ⟨_, h14, (aS Z (nL ?_))⟩)
  replace HS := HS.boxEq (j := 2) (cs' := [I a1, I c1, .slice A_a t4.length c_a, .slice A_b t10.length c_b, .slice A_c d1.length c_c]) Z (by simp only [List.length_set, c12] <;> rfl)
  refine sQ ?_
  obtain ⟨t15, t16, h17, H⟩ := bind2_elim H
  obtain ⟨c18, H⟩ := iN H
  refine rG (fL b1 4 fl46_4 Z (lB 2 HS Z na41 Z (mV Z ?_)))
  replace HS := HS.pk 4 [3, 0, 1, 2] Z
  refine fN Z func79 fok79.1 fok79.2 Z Z (laws_markInt64S.calls HS  h17) (fun _ wd19 ⟨h20, HS⟩ => ⟨_, h20, (aS Z (nL ?_))⟩)
  replace HS := HS.boxEq (j := 3) (cs' := [I a1, I c1, .slice A_a t4.length c_a, .slice A_b t10.length c_b, .slice A_c t16.length c_c]) Z (by simp only [List.length_set, c18] <;> rfl)
  refine rN 2 Z ?_
  obtain ⟨rfl, rfl, rfl, rfl⟩ := some4 H
  exact rT _ func45 Z Z ⟨Z, (HS.pk 4 [2, 1, 0] Z)⟩
end Go.Proofs.YthjomdggdaocgaaGreatDoor
