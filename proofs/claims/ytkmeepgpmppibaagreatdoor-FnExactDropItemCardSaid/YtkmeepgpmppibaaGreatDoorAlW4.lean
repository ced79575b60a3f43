/-
  The walks through the functions: a call comes to what its list function says.
-/
import Derived.Test.YtkmeepgpmppibaaGreatDoorAlF
import Derived.Test.YtkmeepgpmppibaaGreatDoorAlW2
import Derived.Test.YtkmeepgpmppibaaGreatDoorAlW3
set_option linter.unusedVariables false
set_option linter.unusedSimpArgs false
namespace Go.Proofs.YtkmeepgpmppibaaGreatDoor
open Go.RowKit
open Tryz
variable {w0 w : World} {L : List HObj} {K : Nat}
set_option maxRecDepth 20000
set_option maxHeartbeats 40000000
theorem impl_isPlain.calls {e1 f1 : Int} {a1 : List GMove} {d1 c1 : List Int} {A_a : Option Addr} {c_a : Nat} {A_b : Option Addr} {c_b : Nat} {A_c : Option Addr} {c_c : Nat} {r1 : Bool} (HS : St w0 w (L)) (r_a : RdIn w0 L T_GMove A_a c_a (fun _ => ()) a1) (r_b : RdIn w0 L (TInt .i64) A_b c_b (fun _ => ()) d1) (r_c : RdIn w0 L (TInt .i64) A_c c_c (fun _ => ()) c1) (H : impl_isPlain.f K e1 f1 a1 d1 c1 = some r1) :
    Calls prog 102 #[.agg [I e1, I f1, .slice A_a a1.length c_a, .slice A_b d1.length c_b, .slice A_c c1.length c_c].toArray] w (impl_isPlain.post w0 L r1) := by
  unfold impl_isPlain.f at H
  refine cG func102 Z ?_
  refine sQ (rG (GO.box (cs := [I e1, I f1, .slice A_a a1.length c_a, .slice A_b d1.length c_b, .slice A_c c1.length c_c]) HS Z Z Z Z fun b1 wd2 HS => aS Z (nL (rN 3 Z ?_))))
  obtain ⟨t12, h13, H⟩ := bI H
  rcases iE H with ⟨c16, H⟩ | ⟨c16, H⟩
  ·
   obtain ⟨t17, h18, H⟩ := bI H
   refine rG (fL b1 0 fl62_0 Z (lB 0 HS Z na2 Z (fN Z func146 fok146.1 fok146.2 Z Z (impl_isName.calls HS  h13) (fun _ wd14 ⟨h15, HS⟩ => ⟨_, h15, (pS 2 Z (kN 8 Z (congrArg Bool.not c16) (oN Z (fL b1 1 fl62_1 Z (bK (oN Z (lB 0 HS Z na2 Z (bK (oN Z (fN Z func97 fok97.1 fok97.2 Z Z (impl_inRange.calls HS  h18) (fun _ wd19 ⟨h20, HS⟩ => ⟨_, h20, (bK ?_)⟩)))))))))))⟩))))
   refine oN Z (GO.not Z Z Z (bK (pS 2 Z (nL ?_))))
   rcases iE H with ⟨c21, H⟩ | ⟨c21, H⟩
   ·
    refine nB Z (congrArg Bool.not c21) (sQ (rG (fL b1 1 fl62_1 Z (lB 0 HS Z na2 Z (pS 2 Z (nL ?_))))))
    rcases iE H with ⟨c22, H⟩ | ⟨c22, H⟩
    ·
     refine nB Z (nT c22) (rN 3 Z ?_)
     rcases iE H with ⟨c23, H⟩ | ⟨c23, H⟩
     ·
      obtain ⟨t24, h25, H⟩ := bI H
      rcases iE H with ⟨c28, H⟩ | ⟨c28, H⟩
      ·
       refine rG (fL b1 2 fl62_2 Z (lB 0 HS Z na60 Z (lS Z Z underlying60 Z (pS 2 Z (kN 38 Z (tT c23) (oN Z (fL b1 2 fl62_2 Z (bK (oN Z (lB 0 HS Z na60 Z (bK (oN Z (fN Z func147 fok147.1 fok147.2 Z Z (slices_ContainsFunc_impl_Move_impl_Move_isPlain_fn1.calls HS (rD 1 r_a) h25) (fun _ wd26 ⟨h27, HS⟩ => ⟨_, h27, (bK ?_)⟩))))))))))))))
       refine oN Z (GO.not Z Z Z (bK (pS 2 Z (kN 44 Z (congrArg Bool.not c28) (oF Z (oF Z (oF Z (oF Z (oF Z (oF Z (oF Z (pS 2 Z (oF Z (oF Z ?_))))))))))))))
       refine oF Z (oF Z (pS 2 Z (oF Z (oF Z (oF Z (oF Z (pS 2 Z (oF Z (oF Z (oF Z (oF Z (pS 2 Z (nL ?_)))))))))))))
       obtain rfl := sI H
       exact rT _ func102 Z Z ⟨Z, (HS.pk 1 [] Z)⟩
      rcases iE H with ⟨c29, H⟩ | ⟨c29, H⟩
      ·
       rcases iE H with ⟨c30, H⟩ | ⟨c30, H⟩
       ·
        obtain ⟨t31, h32, H⟩ := bI H
        rcases iE H with ⟨c35, H⟩ | ⟨c35, H⟩
        ·
         refine rG (fL b1 2 fl62_2 Z (lB 0 HS Z na60 Z (lS Z Z underlying60 Z (pS 2 Z (kN 38 Z (tT c23) (oN Z (fL b1 2 fl62_2 Z (bK (oN Z (lB 0 HS Z na60 Z (bK (oN Z (fN Z func147 fok147.1 fok147.2 Z Z (slices_ContainsFunc_impl_Move_impl_Move_isPlain_fn1.calls HS (rD 1 r_a) h25) (fun _ wd26 ⟨h27, HS⟩ => ⟨_, h27, (bK ?_)⟩))))))))))))))
         refine oN Z (GO.not Z Z Z (bK (pS 2 Z (kN 44 Z (congrArg Bool.not (bnot_of c28)) (oN Z (fL b1 3 fl62_3 Z (bK (oN Z (lB 0 HS Z na43 Z (bK (oN Z (lS Z Z underlying43 Z (bK (oN Z ?_))))))))))))))
         refine fL b1 4 fl62_4 Z (bK (oN Z (lB 0 HS Z na43 Z (bK (oN Z (lS Z Z underlying43 Z (bK (oN Z (GO.eql Z Z Z Z (bK (pS 2 Z (kN 53 Z (tT c29) (oN Z (fL b1 3 fl62_3 Z ?_))))))))))))))
         refine bK (oN Z (lB 0 HS Z na43 Z (bK (oN Z (lS Z Z underlying43 Z (bK (oN Z (GO.leq Z Z Z Z (bK (pS 2 Z (kN 59 Z (tT c30) (oN Z (fL b1 3 fl62_3 Z (bK ?_))))))))))))))
         refine oN Z (lB 0 HS Z na43 Z (bK (oN Z (fN Z func143 fok143.1 fok143.2 Z Z (slices_ContainsFunc_int64_int64_isPlain_fn2.calls HS (rD 1 r_b) h32) (fun _ wd33 ⟨h34, HS⟩ => ⟨_, h34, (bK (oN Z (GO.not Z Z Z (bK (pS 2 Z (kN 65 Z (congrArg Bool.not c35) (oF Z (oF Z (oF Z (oF Z ?_))))))))))⟩)))))
         refine pS 2 Z (nL ?_)
         obtain rfl := sI H
         exact rT _ func102 Z Z ⟨Z, (HS.pk 1 [] Z)⟩
        obtain ⟨t36, h37, H⟩ := bI H
        refine rG (fL b1 2 fl62_2 Z (lB 0 HS Z na60 Z (lS Z Z underlying60 Z (pS 2 Z (kN 38 Z (tT c23) (oN Z (fL b1 2 fl62_2 Z (bK (oN Z (lB 0 HS Z na60 Z (bK (oN Z (fN Z func147 fok147.1 fok147.2 Z Z (slices_ContainsFunc_impl_Move_impl_Move_isPlain_fn1.calls HS (rD 1 r_a) h25) (fun _ wd26 ⟨h27, HS⟩ => ⟨_, h27, (bK ?_)⟩))))))))))))))
        refine oN Z (GO.not Z Z Z (bK (pS 2 Z (kN 44 Z (congrArg Bool.not (bnot_of c28)) (oN Z (fL b1 3 fl62_3 Z (bK (oN Z (lB 0 HS Z na43 Z (bK (oN Z (lS Z Z underlying43 Z (bK (oN Z ?_))))))))))))))
        refine fL b1 4 fl62_4 Z (bK (oN Z (lB 0 HS Z na43 Z (bK (oN Z (lS Z Z underlying43 Z (bK (oN Z (GO.eql Z Z Z Z (bK (pS 2 Z (kN 53 Z (tT c29) (oN Z (fL b1 3 fl62_3 Z ?_))))))))))))))
        refine bK (oN Z (lB 0 HS Z na43 Z (bK (oN Z (lS Z Z underlying43 Z (bK (oN Z (GO.leq Z Z Z Z (bK (pS 2 Z (kN 59 Z (tT c30) (oN Z (fL b1 3 fl62_3 Z (bK ?_))))))))))))))
        refine oN Z (lB 0 HS Z na43 Z (bK (oN Z (fN Z func143 fok143.1 fok143.2 Z Z (slices_ContainsFunc_int64_int64_isPlain_fn2.calls HS (rD 1 r_b) h32) (fun _ wd33 ⟨h34, HS⟩ => ⟨_, h34, (bK (oN Z (GO.not Z Z Z (bK (pS 2 Z (kN 65 Z (congrArg Bool.not (bnot_of c35)) (oN Z (fL b1 4 fl62_4 Z (bK (oN Z ?_))))))))))⟩)))))
        refine lB 0 HS Z na43 Z (bK (oN Z (fN Z func143 fok143.1 fok143.2 Z Z (slices_ContainsFunc_int64_int64_isPlain_fn3.calls HS (rD 1 r_c) h37) (fun _ wd38 ⟨h39, HS⟩ => ⟨_, h39, (bK (oN Z (GO.not Z Z Z (bK (pS 2 Z (nL ?_))))))⟩))))
        obtain rfl := sI H
        exact rT _ func102 Z Z ⟨Z, (HS.pk 1 [] Z)⟩
       refine rG (fL b1 2 fl62_2 Z (lB 0 HS Z na60 Z (lS Z Z underlying60 Z (pS 2 Z (kN 38 Z (tT c23) (oN Z (fL b1 2 fl62_2 Z (bK (oN Z (lB 0 HS Z na60 Z (bK (oN Z (fN Z func147 fok147.1 fok147.2 Z Z (slices_ContainsFunc_impl_Move_impl_Move_isPlain_fn1.calls HS (rD 1 r_a) h25) (fun _ wd26 ⟨h27, HS⟩ => ⟨_, h27, (bK ?_)⟩))))))))))))))
       refine oN Z (GO.not Z Z Z (bK (pS 2 Z (kN 44 Z (congrArg Bool.not (bnot_of c28)) (oN Z (fL b1 3 fl62_3 Z (bK (oN Z (lB 0 HS Z na43 Z (bK (oN Z (lS Z Z underlying43 Z (bK (oN Z ?_))))))))))))))
       refine fL b1 4 fl62_4 Z (bK (oN Z (lB 0 HS Z na43 Z (bK (oN Z (lS Z Z underlying43 Z (bK (oN Z (GO.eql Z Z Z Z (bK (pS 2 Z (kN 53 Z (tT c29) (oN Z (fL b1 3 fl62_3 Z ?_))))))))))))))
       refine bK (oN Z (lB 0 HS Z na43 Z (bK (oN Z (lS Z Z underlying43 Z (bK (oN Z (GO.leq Z Z Z Z (bK (pS 2 Z (kN 59 Z (tF c30) (oF Z (oF Z (oF Z ?_))))))))))))))
       refine oF Z (pS 2 Z (oF Z (oF Z (oF Z (oF Z (pS 2 Z (nL ?_)))))))
       obtain rfl := sI H
       exact rT _ func102 Z Z ⟨Z, (HS.pk 1 [] Z)⟩
      refine rG (fL b1 2 fl62_2 Z (lB 0 HS Z na60 Z (lS Z Z underlying60 Z (pS 2 Z (kN 38 Z (tT c23) (oN Z (fL b1 2 fl62_2 Z (bK (oN Z (lB 0 HS Z na60 Z (bK (oN Z (fN Z func147 fok147.1 fok147.2 Z Z (slices_ContainsFunc_impl_Move_impl_Move_isPlain_fn1.calls HS (rD 1 r_a) h25) (fun _ wd26 ⟨h27, HS⟩ => ⟨_, h27, (bK ?_)⟩))))))))))))))
      refine oN Z (GO.not Z Z Z (bK (pS 2 Z (kN 44 Z (congrArg Bool.not (bnot_of c28)) (oN Z (fL b1 3 fl62_3 Z (bK (oN Z (lB 0 HS Z na43 Z (bK (oN Z (lS Z Z underlying43 Z (bK (oN Z ?_))))))))))))))
      refine fL b1 4 fl62_4 Z (bK (oN Z (lB 0 HS Z na43 Z (bK (oN Z (lS Z Z underlying43 Z (bK (oN Z (GO.eql Z Z Z Z (bK (pS 2 Z (kN 53 Z (tF c29) (oF Z (oF Z ?_))))))))))))))
      refine oF Z (oF Z (pS 2 Z (oF Z (oF Z (oF Z (oF Z (pS 2 Z (oF Z (oF Z (oF Z (oF Z (pS 2 Z (nL ?_)))))))))))))
      obtain rfl := sI H
      exact rT _ func102 Z Z ⟨Z, (HS.pk 1 [] Z)⟩
     refine rG (fL b1 2 fl62_2 Z (lB 0 HS Z na60 Z (lS Z Z underlying60 Z (pS 2 Z (kN 38 Z (tF c23) (oF Z (oF Z (oF Z (oF Z (pS 2 Z (oF Z (oF Z (oF Z (oF Z ?_))))))))))))))
     refine oF Z (oF Z (oF Z (pS 2 Z (oF Z (oF Z (oF Z (oF Z (pS 2 Z (oF Z (oF Z (oF Z (oF Z (pS 2 Z (oF Z ?_))))))))))))))
     refine oF Z (oF Z (oF Z (pS 2 Z (nL ?_))))
     obtain rfl := sI H
     exact rT _ func102 Z Z ⟨Z, (HS.pk 1 [] Z)⟩
    refine yB Z (nF c22) (sQ ?_)
    rcases iE H with ⟨c40, H⟩ | ⟨c40, H⟩
    ·
     rcases iE H with ⟨c41, H⟩ | ⟨c41, H⟩
     ·
      refine rG (fL b1 2 fl62_2 Z (lB 0 HS Z na60 Z (lS Z Z underlying60 Z (pS 2 Z (kN 22 Z (tT c40) (oN Z (fL b1 3 fl62_3 Z (bK (oN Z (lB 0 HS Z na43 Z (bK (oN Z (lS Z Z underlying43 Z (bK ?_))))))))))))))
      refine oN Z (GO.eql Z Z Z Z (bK (pS 2 Z (kN 28 Z (tT c41) (oN Z (fL b1 4 fl62_4 Z (bK (oN Z (lB 0 HS Z na43 Z (bK (oN Z (lS Z Z underlying43 Z (bK (oN Z ?_))))))))))))))
      refine GO.eql Z Z Z Z (bK (pS 2 Z (nL ?_)))
      obtain rfl := sI H
      exact rT _ func102 Z Z ⟨Z, (HS.pk 1 [] Z)⟩
     refine rG (fL b1 2 fl62_2 Z (lB 0 HS Z na60 Z (lS Z Z underlying60 Z (pS 2 Z (kN 22 Z (tT c40) (oN Z (fL b1 3 fl62_3 Z (bK (oN Z (lB 0 HS Z na43 Z (bK (oN Z (lS Z Z underlying43 Z (bK ?_))))))))))))))
     refine oN Z (GO.eql Z Z Z Z (bK (pS 2 Z (kN 28 Z (tF c41) (oF Z (oF Z (oF Z (oF Z (pS 2 Z (nL ?_))))))))))
     obtain rfl := sI H
     exact rT _ func102 Z Z ⟨Z, (HS.pk 1 [] Z)⟩
    refine rG (fL b1 2 fl62_2 Z (lB 0 HS Z na60 Z (lS Z Z underlying60 Z (pS 2 Z (kN 22 Z (tF c40) (oF Z (oF Z (oF Z (oF Z (pS 2 Z (oF Z (oF Z (oF Z (oF Z ?_))))))))))))))
    refine pS 2 Z (nL ?_)
    obtain rfl := sI H
    exact rT _ func102 Z Z ⟨Z, (HS.pk 1 [] Z)⟩
   refine yB Z (congrArg Bool.not (bnot_of c21)) (rN 2 Z ?_)
   obtain rfl := sI H
   exact rT _ func102 Z Z ⟨Z, (HS.pk 1 [] Z)⟩
  refine rG (fL b1 0 fl62_0 Z (lB 0 HS Z na2 Z (fN Z func146 fok146.1 fok146.2 Z Z (impl_isName.calls HS  h13) (fun _ wd14 ⟨h15, HS⟩ => ⟨_, h15, (pS 2 Z (kN 8 Z (congrArg Bool.not (bnot_of c16)) (oF Z (oF Z (oF Z (oF Z (pS 2 Z (nL (rN 3 Z ?_)))))))))⟩))))
  obtain rfl := sI H
  exact rT _ func102 Z Z ⟨Z, (HS.pk 1 [] Z)⟩
theorem impl_isItem.calls {n1 : ByteArray} {o1 : Int} {c1 : List (List GFace)} {e1 : List GCrossing} {h1 m1 : Int} {a1 : List Int} {i1 k1 : Int} {g1 : List GMove} {f1 d1 : List Int} {A_a : Option Addr} {c_a : Nat} {y_a : Nat → (Ty.slice 157 T_GFace).Lay} {A_b : Option Addr} {c_b : Nat} {A_c : Option Addr} {c_c : Nat} {A_d : Option Addr} {c_d : Nat} {A_e : Option Addr} {c_e : Nat} {A_f : Option Addr} {c_f : Nat} {r1 : Bool} (HS : St w0 w (L)) (r_a : RdIn w0 L (Ty.slice 157 T_GFace) A_a c_a y_a c1) (r_b : RdIn w0 L T_GCrossing A_b c_b (fun _ => ()) e1) (r_c : RdIn w0 L (TInt .i64) A_c c_c (fun _ => ()) a1) (r_d : RdIn w0 L T_GMove A_d c_d (fun _ => ()) g1) (r_e : RdIn w0 L (TInt .i64) A_e c_e (fun _ => ()) f1) (r_f : RdIn w0 L (TInt .i64) A_f c_f (fun _ => ()) d1) (H : impl_isItem.f K n1 o1 c1 e1 h1 m1 a1 i1 k1 g1 f1 d1 = some r1) :
    Calls prog 48 #[.agg [.string n1, I o1, .slice A_a c1.length c_a, .slice A_b e1.length c_b, I h1, I m1, .slice A_c a1.length c_c, I i1, I k1, .slice A_d g1.length c_d, .slice A_e f1.length c_e, .slice A_f d1.length c_f].toArray] w (impl_isItem.post w0 L r1) := by
  unfold impl_isItem.f at H
  refine cG func48 Z ?_
  refine sQ ?_
  refine rG ?_
  refine GO.box (cs := [.string n1, I o1, .slice A_a c1.length c_a, .slice A_b e1.length c_b, I h1, I m1, .slice A_c a1.length c_c, I i1, I k1, .slice A_d g1.length c_d, .slice A_e f1.length c_e, .slice A_f d1.length c_f]) HS Z Z Z Z ?_; intro b1 wd2 HS
  refine aS Z ?_
  refine nL ?_
  refine rN 2 Z ?_
  obtain ⟨t12, h13, H⟩ := bI H
  rcases iE H with ⟨c16, H⟩ | ⟨c16, H⟩
  ·
   obtain ⟨t17, h18, H⟩ := bI H
   refine rG ?_
   refine fL b1 0 fl64_0 Z ?_
   refine lB 0 HS Z na9 Z ?_
   refine fN Z func96 fok96.1 fok96.2 Z Z (impl_isItemName.calls HS  h13) (fun _ wd14 ⟨h15, HS⟩ => ⟨_, h15, ?_⟩)
   refine pS 2 Z ?_
   refine kN 8 Z (congrArg Bool.not c16) ?_
   refine oN Z ?_
   refine fL b1 1 fl64_1 Z ?_
   refine bK ?_
   refine oN Z ?_
   refine lB 0 HS Z na2 Z ?_
   refine bK ?_
   refine oN Z ?_
   refine fN Z func97 fok97.1 fok97.2 Z Z (impl_inRange.calls HS  h18) (fun _ wd19 ⟨h20, HS⟩ => ⟨_, h20, ?_⟩)
   refine bK ?_
   refine oN Z ?_
   refine GO.not Z Z Z ?_
   refine bK ?_
   refine GO.pickF Z Z Z Z Z ?_
   refine nL ?_
   rcases iE H with ⟨c21, H⟩ | ⟨c21, H⟩
   ·
    refine nB Z (congrArg Bool.not c21) ?_
    refine rN 2 Z ?_
    obtain ⟨t22, t23, t24, t25, h26, H⟩ := bind4_elim H
    refine rG ?_
    refine GO.ldBoxA (j := 0) ([.string n1, I o1, .slice A_a c1.length c_a, .slice A_b e1.length c_b, I h1, I m1, .slice A_c a1.length c_c, I i1, I k1, .slice A_d g1.length c_d, .slice A_e f1.length c_e, .slice A_f d1.length c_f]) HS Z Z Z Z ag64 Z ?_
    refine fN Z func98 fok98.1 fok98.2 Z Z (impl_fields.calls HS (rD 1 r_a) (rD 1 r_b) (rD 1 r_c) (rD 1 r_d) (rD 1 r_e) (rD 1 r_f) h26) (fun _ wd27 ⟨h28, HS⟩ => ⟨_, h28, ?_⟩)
    refine GO.alloc HS Z zr134 Z Z ?_; intro b29 wd30 HS
    refine GO.stBox (j := 0) (vs := [.bool t22, .bool t23, .bool t24, .bool t25]) ([.bool t22, .bool t23, .bool t24, .bool t25]) HS Z Z Z Z Z (htA ag134) Z Z Z ?_; intro wd31 HS
    refine nL ?_
    refine sQ ?_
    rcases iE H with ⟨c32, H⟩ | ⟨c32, H⟩
    ·
     refine rG ?_
     refine fL b1 1 fl64_1 Z ?_
     refine lB 1 HS Z na2 Z ?_
     refine GO.sub Z Z Z Z ?_
     refine GO.ixP 0 Z Z Z c32 underlying134 sz4 Z Z ?_
     refine GO.stBox (j := 0) (vs := [.bool false]) ([.bool false, .bool t23, .bool t24, .bool t25]) HS Z Z Z Z Z (htN na4 Z) Z Z Z ?_; intro wd33 HS
     refine nL ?_
     refine rN 2 Z ?_
     refine rG ?_
     refine GO.ldBoxA (j := 0) ([.bool false, .bool t23, .bool t24, .bool t25]) HS Z Z Z Z ag134 Z ?_
     refine GO.buildV (.agg [.bool false, .bool false, .bool false, .bool false].toArray) Z Z (fun _ => by kernel_rfl) Z ?_
     refine GO.neqA Z Z Z ng134 (fun _ => eq134) Z ?_
     refine nL ?_
     rcases iE H with ⟨c34, H⟩ | ⟨c34, H⟩
     ·
      refine nB Z (nT c34) ?_
      refine rN 3 Z ?_
      refine rG ?_
      refine fL b1 1 fl64_1 Z ?_
      refine lB 1 HS Z na2 Z ?_
      refine nL ?_
      refine rN 3 Z ?_
      rcases iE H with ⟨c35, H⟩ | ⟨c35, H⟩
      ·
       refine yB Z (tT c35) ?_
       refine sQ ?_
       obtain ⟨t36, h37, H⟩ := bI H
       refine rG ?_
       refine fL b1 2 fl64_2 Z ?_
       refine GO.ldBoxA (j := 1) ([.slice A_a c1.length c_a]) HS Z Z Z Z ag55 Z ?_
       refine fN Z func99 fok99.1 fok99.2 Z Z (impl_isTriangulation.calls HS (rD 2 r_a) h37) (fun _ wd38 ⟨h39, HS⟩ => ⟨_, h39, ?_⟩)
       refine aS Z ?_
       refine nL ?_
       obtain rfl := sI H
       exact rT _ func48 Z Z ⟨Z, (HS.pk 2 [] Z)⟩
      refine nB Z (tF c35) ?_
      refine rN 2 Z ?_
      rcases iE H with ⟨c40, H⟩ | ⟨c40, H⟩
      ·
       refine yB Z (tT c40) ?_
       refine sQ ?_
       obtain ⟨t41, h42, H⟩ := bI H
       refine rG ?_
       refine fL b1 3 fl64_3 Z ?_
       refine GO.ldBoxA (j := 1) ([.slice A_b e1.length c_b, I h1]) HS Z Z Z Z ag58 Z ?_
       refine fN Z func100 fok100.1 fok100.2 Z Z (impl_isDiagram.calls HS (rD 2 r_b) h42) (fun _ wd43 ⟨h44, HS⟩ => ⟨_, h44, ?_⟩)
       refine aS Z ?_
       refine nL ?_
       obtain rfl := sI H
       exact rT _ func48 Z Z ⟨Z, (HS.pk 2 [] Z)⟩
      refine nB Z (tF c40) ?_
      refine rN 2 Z ?_
      rcases iE H with ⟨c45, H⟩ | ⟨c45, H⟩
      ·
       refine yB Z (tT c45) ?_
       refine sQ ?_
       obtain ⟨t46, h47, H⟩ := bI H
       refine rG ?_
       refine fL b1 5 fl64_4 Z ?_
       refine GO.ldBoxA (j := 1) ([I m1, .slice A_c a1.length c_c]) HS Z Z Z Z ag59 Z ?_
       refine fN Z func101 fok101.1 fok101.2 Z Z (impl_isBraid.calls HS (rD 2 r_c) h47) (fun _ wd48 ⟨h49, HS⟩ => ⟨_, h49, ?_⟩)
       refine aS Z ?_
       refine nL ?_
       obtain rfl := sI H
       exact rT _ func48 Z Z ⟨Z, (HS.pk 2 [] Z)⟩
      refine nB Z (tF c45) ?_
      refine rN 3 Z ?_
      obtain ⟨t50, h51, H⟩ := bI H
      refine rG ?_
      refine fL b1 7 fl64_5 Z ?_
      refine GO.ldBoxA (j := 1) ([I i1, I k1, .slice A_d g1.length c_d, .slice A_e f1.length c_e, .slice A_f d1.length c_f]) HS Z Z Z Z ag62 Z ?_
      refine fN Z func102 fok102.1 fok102.2 Z Z (impl_isPlain.calls HS (rD 2 r_d) (rD 2 r_e) (rD 2 r_f) h51) (fun _ wd52 ⟨h53, HS⟩ => ⟨_, h53, ?_⟩)
      refine aS Z ?_
      refine nL ?_
      obtain rfl := sI H
      exact rT _ func48 Z Z ⟨Z, (HS.pk 2 [] Z)⟩
     refine yB Z (nF c34) ?_
     refine rN 2 Z ?_
     obtain rfl := sI H
     exact rT _ func48 Z Z ⟨Z, (HS.pk 2 [] Z)⟩
    rcases iE H with ⟨c54, H⟩ | ⟨c54, H⟩
    ·
     refine rG ?_
     refine fL b1 1 fl64_1 Z ?_
     refine lB 1 HS Z na2 Z ?_
     refine GO.sub Z Z Z Z ?_
     refine GO.ixP 1 Z Z Z c54 underlying134 sz4 Z Z ?_
     refine GO.stBox (j := 0) (vs := [.bool false]) ([.bool t22, .bool false, .bool t24, .bool t25]) HS Z Z Z Z Z (htN na4 Z) Z Z Z ?_; intro wd55 HS
     refine nL ?_
     refine rN 2 Z ?_
     refine rG ?_
     refine GO.ldBoxA (j := 0) ([.bool t22, .bool false, .bool t24, .bool t25]) HS Z Z Z Z ag134 Z ?_
     refine GO.buildV (.agg [.bool false, .bool false, .bool false, .bool false].toArray) Z Z (fun _ => by kernel_rfl) Z ?_
     refine GO.neqA Z Z Z ng134 (fun _ => eq134) Z ?_
     refine nL ?_
     rcases iE H with ⟨c56, H⟩ | ⟨c56, H⟩
     ·
      refine nB Z (nT c56) ?_
      refine rN 3 Z ?_
      refine rG ?_
      refine fL b1 1 fl64_1 Z ?_
      refine lB 1 HS Z na2 Z ?_
      refine nL ?_
      refine rN 3 Z ?_
      rcases iE H with ⟨c57, H⟩ | ⟨c57, H⟩
      ·
       refine yB Z (tT c57) ?_
       refine sQ ?_
       obtain ⟨t58, h59, H⟩ := bI H
       refine rG ?_
       refine fL b1 2 fl64_2 Z ?_
       refine GO.ldBoxA (j := 1) ([.slice A_a c1.length c_a]) HS Z Z Z Z ag55 Z ?_
       refine fN Z func99 fok99.1 fok99.2 Z Z (impl_isTriangulation.calls HS (rD 2 r_a) h59) (fun _ wd60 ⟨h61, HS⟩ => ⟨_, h61, ?_⟩)
       refine aS Z ?_
       refine nL ?_
       obtain rfl := sI H
       exact rT _ func48 Z Z ⟨Z, (HS.pk 2 [] Z)⟩
      refine nB Z (tF c57) ?_
      refine rN 2 Z ?_
      rcases iE H with ⟨c62, H⟩ | ⟨c62, H⟩
      ·
       refine yB Z (tT c62) ?_
       refine sQ ?_
       obtain ⟨t63, h64, H⟩ := bI H
       refine rG ?_
       refine fL b1 3 fl64_3 Z ?_
       refine GO.ldBoxA (j := 1) ([.slice A_b e1.length c_b, I h1]) HS Z Z Z Z ag58 Z ?_
       refine fN Z func100 fok100.1 fok100.2 Z Z (impl_isDiagram.calls HS (rD 2 r_b) h64) (fun _ wd65 ⟨h66, HS⟩ => ⟨_, h66, ?_⟩)
       refine aS Z ?_
       refine nL ?_
       obtain rfl := sI H
       exact rT _ func48 Z Z ⟨Z, (HS.pk 2 [] Z)⟩
      refine nB Z (tF c62) ?_
      refine rN 2 Z ?_
      rcases iE H with ⟨c67, H⟩ | ⟨c67, H⟩
      ·
       refine yB Z (tT c67) ?_
       refine sQ ?_
       obtain ⟨t68, h69, H⟩ := bI H
       refine rG ?_
       refine fL b1 5 fl64_4 Z ?_
       refine GO.ldBoxA (j := 1) ([I m1, .slice A_c a1.length c_c]) HS Z Z Z Z ag59 Z ?_
       refine fN Z func101 fok101.1 fok101.2 Z Z (impl_isBraid.calls HS (rD 2 r_c) h69) (fun _ wd70 ⟨h71, HS⟩ => ⟨_, h71, ?_⟩)
       refine aS Z ?_
       refine nL ?_
       obtain rfl := sI H
       exact rT _ func48 Z Z ⟨Z, (HS.pk 2 [] Z)⟩
      refine nB Z (tF c67) ?_
      refine rN 3 Z ?_
      obtain ⟨t72, h73, H⟩ := bI H
      refine rG ?_
      refine fL b1 7 fl64_5 Z ?_
      refine GO.ldBoxA (j := 1) ([I i1, I k1, .slice A_d g1.length c_d, .slice A_e f1.length c_e, .slice A_f d1.length c_f]) HS Z Z Z Z ag62 Z ?_
      refine fN Z func102 fok102.1 fok102.2 Z Z (impl_isPlain.calls HS (rD 2 r_d) (rD 2 r_e) (rD 2 r_f) h73) (fun _ wd74 ⟨h75, HS⟩ => ⟨_, h75, ?_⟩)
      refine aS Z ?_
      refine nL ?_
      obtain rfl := sI H
      exact rT _ func48 Z Z ⟨Z, (HS.pk 2 [] Z)⟩
     refine yB Z (nF c56) ?_
     refine rN 2 Z ?_
     obtain rfl := sI H
     exact rT _ func48 Z Z ⟨Z, (HS.pk 2 [] Z)⟩
    rcases iE H with ⟨c76, H⟩ | ⟨c76, H⟩
    ·
     refine rG ?_
     refine fL b1 1 fl64_1 Z ?_
     refine lB 1 HS Z na2 Z ?_
     refine GO.sub Z Z Z Z ?_
     refine GO.ixP 2 Z Z Z c76 underlying134 sz4 Z Z ?_
     refine GO.stBox (j := 0) (vs := [.bool false]) ([.bool t22, .bool t23, .bool false, .bool t25]) HS Z Z Z Z Z (htN na4 Z) Z Z Z ?_; intro wd77 HS
     refine nL ?_
     refine rN 2 Z ?_
     refine rG ?_
     refine GO.ldBoxA (j := 0) ([.bool t22, .bool t23, .bool false, .bool t25]) HS Z Z Z Z ag134 Z ?_
     refine GO.buildV (.agg [.bool false, .bool false, .bool false, .bool false].toArray) Z Z (fun _ => by kernel_rfl) Z ?_
     refine GO.neqA Z Z Z ng134 (fun _ => eq134) Z ?_
     refine nL ?_
     rcases iE H with ⟨c78, H⟩ | ⟨c78, H⟩
     ·
      refine nB Z (nT c78) ?_
      refine rN 3 Z ?_
      refine rG ?_
      refine fL b1 1 fl64_1 Z ?_
      refine lB 1 HS Z na2 Z ?_
      refine nL ?_
      refine rN 3 Z ?_
      rcases iE H with ⟨c79, H⟩ | ⟨c79, H⟩
      ·
       refine yB Z (tT c79) ?_
       refine sQ ?_
       obtain ⟨t80, h81, H⟩ := bI H
       refine rG ?_
       refine fL b1 2 fl64_2 Z ?_
       refine GO.ldBoxA (j := 1) ([.slice A_a c1.length c_a]) HS Z Z Z Z ag55 Z ?_
       refine fN Z func99 fok99.1 fok99.2 Z Z (impl_isTriangulation.calls HS (rD 2 r_a) h81) (fun _ wd82 ⟨h83, HS⟩ => ⟨_, h83, ?_⟩)
       refine aS Z ?_
       refine nL ?_
       obtain rfl := sI H
       exact rT _ func48 Z Z ⟨Z, (HS.pk 2 [] Z)⟩
      refine nB Z (tF c79) ?_
      refine rN 2 Z ?_
      rcases iE H with ⟨c84, H⟩ | ⟨c84, H⟩
      ·
       refine yB Z (tT c84) ?_
       refine sQ ?_
       obtain ⟨t85, h86, H⟩ := bI H
       refine rG ?_
       refine fL b1 3 fl64_3 Z ?_
       refine GO.ldBoxA (j := 1) ([.slice A_b e1.length c_b, I h1]) HS Z Z Z Z ag58 Z ?_
       refine fN Z func100 fok100.1 fok100.2 Z Z (impl_isDiagram.calls HS (rD 2 r_b) h86) (fun _ wd87 ⟨h88, HS⟩ => ⟨_, h88, ?_⟩)
       refine aS Z ?_
       refine nL ?_
       obtain rfl := sI H
       exact rT _ func48 Z Z ⟨Z, (HS.pk 2 [] Z)⟩
      refine nB Z (tF c84) ?_
      refine rN 2 Z ?_
      rcases iE H with ⟨c89, H⟩ | ⟨c89, H⟩
      ·
       refine yB Z (tT c89) ?_
       refine sQ ?_
       obtain ⟨t90, h91, H⟩ := bI H
       refine rG ?_
       refine fL b1 5 fl64_4 Z ?_
       refine GO.ldBoxA (j := 1) ([I m1, .slice A_c a1.length c_c]) HS Z Z Z Z ag59 Z ?_
       refine fN Z func101 fok101.1 fok101.2 Z Z (impl_isBraid.calls HS (rD 2 r_c) h91) (fun _ wd92 ⟨h93, HS⟩ => ⟨_, h93, ?_⟩)
       refine aS Z ?_
       refine nL ?_
       obtain rfl := sI H
       exact rT _ func48 Z Z ⟨Z, (HS.pk 2 [] Z)⟩
      refine nB Z (tF c89) ?_
      refine rN 3 Z ?_
      obtain ⟨t94, h95, H⟩ := bI H
      refine rG ?_
      refine fL b1 7 fl64_5 Z ?_
      refine GO.ldBoxA (j := 1) ([I i1, I k1, .slice A_d g1.length c_d, .slice A_e f1.length c_e, .slice A_f d1.length c_f]) HS Z Z Z Z ag62 Z ?_
      refine fN Z func102 fok102.1 fok102.2 Z Z (impl_isPlain.calls HS (rD 2 r_d) (rD 2 r_e) (rD 2 r_f) h95) (fun _ wd96 ⟨h97, HS⟩ => ⟨_, h97, ?_⟩)
      refine aS Z ?_
      refine nL ?_
      obtain rfl := sI H
      exact rT _ func48 Z Z ⟨Z, (HS.pk 2 [] Z)⟩
     refine yB Z (nF c78) ?_
     refine rN 2 Z ?_
     obtain rfl := sI H
     exact rT _ func48 Z Z ⟨Z, (HS.pk 2 [] Z)⟩
    rcases iE H with ⟨c98, H⟩ | ⟨c98, H⟩
    ·
     refine rG ?_
     refine fL b1 1 fl64_1 Z ?_
     refine lB 1 HS Z na2 Z ?_
     refine GO.sub Z Z Z Z ?_
     refine GO.ixP 3 Z Z Z c98 underlying134 sz4 Z Z ?_
     refine GO.stBox (j := 0) (vs := [.bool false]) ([.bool t22, .bool t23, .bool t24, .bool false]) HS Z Z Z Z Z (htN na4 Z) Z Z Z ?_; intro wd99 HS
     refine nL ?_
     refine rN 2 Z ?_
     refine rG ?_
     refine GO.ldBoxA (j := 0) ([.bool t22, .bool t23, .bool t24, .bool false]) HS Z Z Z Z ag134 Z ?_
     refine GO.buildV (.agg [.bool false, .bool false, .bool false, .bool false].toArray) Z Z (fun _ => by kernel_rfl) Z ?_
     refine GO.neqA Z Z Z ng134 (fun _ => eq134) Z ?_
     refine nL ?_
     rcases iE H with ⟨c100, H⟩ | ⟨c100, H⟩
     ·
      refine nB Z (nT c100) ?_
      refine rN 3 Z ?_
      refine rG ?_
      refine fL b1 1 fl64_1 Z ?_
      refine lB 1 HS Z na2 Z ?_
      refine nL ?_
      refine rN 3 Z ?_
      rcases iE H with ⟨c101, H⟩ | ⟨c101, H⟩
      ·
       refine yB Z (tT c101) ?_
       refine sQ ?_
       obtain ⟨t102, h103, H⟩ := bI H
       refine rG ?_
       refine fL b1 2 fl64_2 Z ?_
       refine GO.ldBoxA (j := 1) ([.slice A_a c1.length c_a]) HS Z Z Z Z ag55 Z ?_
       refine fN Z func99 fok99.1 fok99.2 Z Z (impl_isTriangulation.calls HS (rD 2 r_a) h103) (fun _ wd104 ⟨h105, HS⟩ => ⟨_, h105, ?_⟩)
       refine aS Z ?_
       refine nL ?_
       obtain rfl := sI H
       exact rT _ func48 Z Z ⟨Z, (HS.pk 2 [] Z)⟩
      refine nB Z (tF c101) ?_
      refine rN 2 Z ?_
      rcases iE H with ⟨c106, H⟩ | ⟨c106, H⟩
      ·
       refine yB Z (tT c106) ?_
       refine sQ ?_
       obtain ⟨t107, h108, H⟩ := bI H
       refine rG ?_
       refine fL b1 3 fl64_3 Z ?_
       refine GO.ldBoxA (j := 1) ([.slice A_b e1.length c_b, I h1]) HS Z Z Z Z ag58 Z ?_
       refine fN Z func100 fok100.1 fok100.2 Z Z (impl_isDiagram.calls HS (rD 2 r_b) h108) (fun _ wd109 ⟨h110, HS⟩ => ⟨_, h110, ?_⟩)
       refine aS Z ?_
       refine nL ?_
       obtain rfl := sI H
       exact rT _ func48 Z Z ⟨Z, (HS.pk 2 [] Z)⟩
      refine nB Z (tF c106) ?_
      refine rN 2 Z ?_
      rcases iE H with ⟨c111, H⟩ | ⟨c111, H⟩
      ·
       refine yB Z (tT c111) ?_
       refine sQ ?_
       obtain ⟨t112, h113, H⟩ := bI H
       refine rG ?_
       refine fL b1 5 fl64_4 Z ?_
       refine GO.ldBoxA (j := 1) ([I m1, .slice A_c a1.length c_c]) HS Z Z Z Z ag59 Z ?_
       refine fN Z func101 fok101.1 fok101.2 Z Z (impl_isBraid.calls HS (rD 2 r_c) h113) (fun _ wd114 ⟨h115, HS⟩ => ⟨_, h115, ?_⟩)
       refine aS Z ?_
       refine nL ?_
       obtain rfl := sI H
       exact rT _ func48 Z Z ⟨Z, (HS.pk 2 [] Z)⟩
      refine nB Z (tF c111) ?_
      refine rN 3 Z ?_
      obtain ⟨t116, h117, H⟩ := bI H
      refine rG ?_
      refine fL b1 7 fl64_5 Z ?_
      refine GO.ldBoxA (j := 1) ([I i1, I k1, .slice A_d g1.length c_d, .slice A_e f1.length c_e, .slice A_f d1.length c_f]) HS Z Z Z Z ag62 Z ?_
      refine fN Z func102 fok102.1 fok102.2 Z Z (impl_isPlain.calls HS (rD 2 r_d) (rD 2 r_e) (rD 2 r_f) h117) (fun _ wd118 ⟨h119, HS⟩ => ⟨_, h119, ?_⟩)
      refine aS Z ?_
      refine nL ?_
      obtain rfl := sI H
      exact rT _ func48 Z Z ⟨Z, (HS.pk 2 [] Z)⟩
     refine yB Z (nF c100) ?_
     refine rN 2 Z ?_
     obtain rfl := sI H
     exact rT _ func48 Z Z ⟨Z, (HS.pk 2 [] Z)⟩
    cases H
   refine yB Z (congrArg Bool.not (bnot_of c21)) ?_
   refine rN 2 Z ?_
   obtain rfl := sI H
   exact rT _ func48 Z Z ⟨Z, (HS.pk 1 [] Z)⟩
  refine rG ?_
  refine fL b1 0 fl64_0 Z ?_
  refine lB 0 HS Z na9 Z ?_
  refine fN Z func96 fok96.1 fok96.2 Z Z (impl_isItemName.calls HS  h13) (fun _ wd14 ⟨h15, HS⟩ => ⟨_, h15, ?_⟩)
  refine pS 2 Z ?_
  refine kN 8 Z (congrArg Bool.not (bnot_of c16)) ?_
  refine oF Z ?_
  refine oF Z ?_
  refine oF Z ?_
  refine oF Z ?_
  refine GO.pickT Z Z Z Z Z ?_
  refine nL ?_
  refine rN 3 Z ?_
  obtain rfl := sI H
  exact rT _ func48 Z Z ⟨Z, (HS.pk 1 [] Z)⟩
theorem impl_areItems.calls {items : List GItem} {A_a : Option Addr} {c_a : Nat} {y_a : Nat → T_GItem_63.Lay} {r1 : Bool} (HS : St w0 w (L)) (r_a : RdIn w0 L T_GItem_63 A_a c_a y_a items) (H : impl_areItems.f K items = some r1) :
    Calls prog 67 #[.slice A_a items.length c_a] w (impl_areItems.post w0 L r1) := by
  unfold impl_areItems.f at H
  refine cG func67 Z ?_
  refine rN 4 Z (rG (mV Z (lS Z Z underlying27 Z (mV Z (nL (rN 2 Z ?_))))))
  refine G.name (fun f1 e1 => ?_)
  have g1 : ∀ a1, a1 ≤ K → ∀ (x13 : Int) (w : World), impl_areItems.l1 K a1 items x13 = some r1 → St w0 w (L) → G prog 67 34 [(0, .slice A_a items.length c_a), (5, .slice A_a items.length c_a), (6, I (items.length : Int)), (7, I x13)] f1 w (impl_areItems.post w0 L r1) := by
   intro a1
   induction a1 using Nat.strongRecOn with
   | _ a1 d1 =>
    intro c1 x13 w H HS
    cases a1 with
    | zero => rw [impl_areItems.l1] at H; cases H
    | succ b1 =>
     rw [impl_areItems.l1] at H
     subst e1
     refine rN 3 Z ?_
     rcases iE H with ⟨c31, H⟩ | ⟨c31, H⟩
     ·
      refine yB Z (tT c31) (rN 4 Z ?_)
      obtain ⟨c32, H⟩ := iN H
      obtain ⟨e33, h34, H⟩ := bnd_elim H
      refine rG (mV Z (GO.ix Z Z Z underlying27 sz64 (r_a _ HS).2.2.1 c32.1 c32.2 Z (GO.ldRdA (T := T_GItem_63) (n := x13.toNat) HS r_a Z Z (getD_eq (ltN c32) h34) ag64 Z (GO.alloc HS Z zr64 Z Z fun b35 wd36 HS => aS Z (GO.stBox (j := 0) (vs := [.string e33.Name, I e33.Kind, .slice ((y_a x13.toNat).2.2.1.A) e33.Triangulation_Tets.length ((y_a x13.toNat).2.2.1.c), .slice ((y_a x13.toNat).2.2.2.1.A) e33.Diagram_Crossings.length ((y_a x13.toNat).2.2.2.1.c), I e33.Diagram_Circles, I e33.Braid_Strands, .slice ((y_a x13.toNat).2.2.2.2.2.2.1.A) e33.Braid_Word.length ((y_a x13.toNat).2.2.2.2.2.2.1.c), I e33.Certificate_Name, I e33.Certificate_Trait, .slice ((y_a x13.toNat).2.2.2.2.2.2.2.2.2.1.A) e33.Certificate_Moves.length ((y_a x13.toNat).2.2.2.2.2.2.2.2.2.1.c), .slice ((y_a x13.toNat).2.2.2.2.2.2.2.2.2.2.1.A) e33.Certificate_Tets.length ((y_a x13.toNat).2.2.2.2.2.2.2.2.2.2.1.c), .slice ((y_a x13.toNat).2.2.2.2.2.2.2.2.2.2.2.A) e33.Certificate_Perms.length ((y_a x13.toNat).2.2.2.2.2.2.2.2.2.2.2.c)]) ([.string e33.Name, I e33.Kind, .slice ((y_a x13.toNat).2.2.1.A) e33.Triangulation_Tets.length ((y_a x13.toNat).2.2.1.c), .slice ((y_a x13.toNat).2.2.2.1.A) e33.Diagram_Crossings.length ((y_a x13.toNat).2.2.2.1.c), I e33.Diagram_Circles, I e33.Braid_Strands, .slice ((y_a x13.toNat).2.2.2.2.2.2.1.A) e33.Braid_Word.length ((y_a x13.toNat).2.2.2.2.2.2.1.c), I e33.Certificate_Name, I e33.Certificate_Trait, .slice ((y_a x13.toNat).2.2.2.2.2.2.2.2.2.1.A) e33.Certificate_Moves.length ((y_a x13.toNat).2.2.2.2.2.2.2.2.2.1.c), .slice ((y_a x13.toNat).2.2.2.2.2.2.2.2.2.2.1.A) e33.Certificate_Tets.length ((y_a x13.toNat).2.2.2.2.2.2.2.2.2.2.1.c), .slice ((y_a x13.toNat).2.2.2.2.2.2.2.2.2.2.2.A) e33.Certificate_Perms.length ((y_a x13.toNat).2.2.2.2.2.2.2.2.2.2.2.c)]) HS Z Z Z Z Z (htA ag64) Z Z Z fun wd37 HS => nL (sQ ?_))))))
      obtain ⟨t38, h39, H⟩ := bI H
      rcases iE H with ⟨c42, H⟩ | ⟨c42, H⟩
      ·
       rcases iE H with ⟨c43, H⟩ | ⟨c43, H⟩
       ·
        obtain ⟨c44, H⟩ := iN H
        obtain ⟨e45, h46, H⟩ := bnd_elim H
        refine G.lex mixed [0, 1, 2, 3, 4, 5, 6, 7, 8, 9, 10, 11, 13, 12, 14, 15, 16, 17] (by kernel_rfl) ?_
        replace HS := HS.drew
        refine GX.l1 Z Z Z (fun _ g => GO.ldBoxA (j := 0) ([.string e33.Name, I e33.Kind, .slice ((y_a x13.toNat).2.2.1.A) e33.Triangulation_Tets.length ((y_a x13.toNat).2.2.1.c), .slice ((y_a x13.toNat).2.2.2.1.A) e33.Diagram_Crossings.length ((y_a x13.toNat).2.2.2.1.c), I e33.Diagram_Circles, I e33.Braid_Strands, .slice ((y_a x13.toNat).2.2.2.2.2.2.1.A) e33.Braid_Word.length ((y_a x13.toNat).2.2.2.2.2.2.1.c), I e33.Certificate_Name, I e33.Certificate_Trait, .slice ((y_a x13.toNat).2.2.2.2.2.2.2.2.2.1.A) e33.Certificate_Moves.length ((y_a x13.toNat).2.2.2.2.2.2.2.2.2.1.c), .slice ((y_a x13.toNat).2.2.2.2.2.2.2.2.2.2.1.A) e33.Certificate_Tets.length ((y_a x13.toNat).2.2.2.2.2.2.2.2.2.2.1.c), .slice ((y_a x13.toNat).2.2.2.2.2.2.2.2.2.2.2.A) e33.Certificate_Perms.length ((y_a x13.toNat).2.2.2.2.2.2.2.2.2.2.2.c)]) HS Z Z Z Z ag64 Z g) Z (GX.l2 Z (fN Z func48 fok48.1 fok48.2 Z Z (impl_isItem.calls HS (RdIn.fld (rD 1 r_a) (getD_eq (ltN c32) h34) (fun _ h => h.2.2.1)) (RdIn.fld (rD 1 r_a) (getD_eq (ltN c32) h34) (fun _ h => h.2.2.2.1)) (RdIn.fld (rD 1 r_a) (getD_eq (ltN c32) h34) (fun _ h => h.2.2.2.2.2.2.1)) (RdIn.fld (rD 1 r_a) (getD_eq (ltN c32) h34) (fun _ h => h.2.2.2.2.2.2.2.2.2.1)) (RdIn.fld (rD 1 r_a) (getD_eq (ltN c32) h34) (fun _ h => h.2.2.2.2.2.2.2.2.2.2.1)) (RdIn.fld (rD 1 r_a) (getD_eq (ltN c32) h34) (fun _ h => h.2.2.2.2.2.2.2.2.2.2.2)) h39) (fun _ wd40 ⟨h41, HS⟩ => ⟨_, h41, (GX.fin tv (GX.ps 1 Z (qL Z Z (fun _ _ g => mV Z (kN 15 Z (congrArg Bool.not c42) g)) Z (qL Z Z (fun _ _ g => oN Z (mV Z (bK g))) Z (qL Z Z (fun _ _ g => oN Z (GO.gtr Z Z Z Z (bK g))) Z (qL Z Z (fun _ _ g => oN Z (mV Z (bK (kN 18 Z (tT c43) g)))) Z (qL Z Z (fun _ _ g => oN Z (mV Z (bK g))) Z (qL Z Z (fun _ _ g => oN Z (mV Z (bK g))) Z (qL Z Z (fun _ _ g => oN Z (GO.sub Z Z Z Z (bK g))) Z (qL Z Z (fun _ _ g => oN Z (GO.ix Z Z Z underlying27 sz64 ((rD 1 r_a) _ HS).2.2.1 c44.1 c44.2 Z (bK g))) Z (qL Z Z (fun _ _ g => oN Z (GO.fld (ea A_a (((w64 (x13 - 1)).toNat) * 12)) Z Z fl64_0 Z Z (bK g))) Z (qL Z Z (fun _ _ g => oN Z (fL b35 0 fl64_0 Z (bK g))) Z ?_))))))))))))⟩)))
        refine GX.l1 Z Z Z (fun _ g => oN Z (GO.ldRd (T := T_GItem_63) (n := (w64 (x13 - 1)).toNat) (o := 0) HS (rD 1 r_a) Z Z (getD_eq (ltN c44) h46) Z Z na9 Z (bK g))) Z (GX.l1 Z Z Z (fun _ g => oN Z (lB 0 HS Z na9 Z (bK g))) Z (qL Z Z (fun _ _ g => oN Z (GO.geqS Z Z Z Z (bK g))) Z (qL Z Z (fun _ _ g => oN Z (GO.pickT Z Z Z Z Z (bK g))) Z (GX.ps 1 Z (GX.nil ?_)))))
        rcases iE H with ⟨c47, H⟩ | ⟨c47, H⟩
        ·
         refine nB Z (congrArg Bool.not c47) (rN 4 Z (G.weak ?_ (d1 b1 (Nat.lt_succ_of_le (lR _)) (Nat.le_of_succ_le c1) _ _ H (HS.pk 1 [] Z))))
         exact ⟨Z, Z, Z, Z, tv⟩
        refine yB Z (congrArg Bool.not (bnot_of c47)) (rN 2 Z ?_)
        obtain rfl := sI H
        exact rT _ func67 Z Z ⟨Z, (HS.pk 1 [] Z)⟩
       refine G.lex mixed [0, 1, 2, 3, 4, 5, 6, 7, 8, 9, 10, 11, 13, 12, 14, 15, 16, 17] (by kernel_rfl) ?_
       replace HS := HS.drew
       refine GX.l1 Z Z Z (fun _ g => GO.ldBoxA (j := 0) ([.string e33.Name, I e33.Kind, .slice ((y_a x13.toNat).2.2.1.A) e33.Triangulation_Tets.length ((y_a x13.toNat).2.2.1.c), .slice ((y_a x13.toNat).2.2.2.1.A) e33.Diagram_Crossings.length ((y_a x13.toNat).2.2.2.1.c), I e33.Diagram_Circles, I e33.Braid_Strands, .slice ((y_a x13.toNat).2.2.2.2.2.2.1.A) e33.Braid_Word.length ((y_a x13.toNat).2.2.2.2.2.2.1.c), I e33.Certificate_Name, I e33.Certificate_Trait, .slice ((y_a x13.toNat).2.2.2.2.2.2.2.2.2.1.A) e33.Certificate_Moves.length ((y_a x13.toNat).2.2.2.2.2.2.2.2.2.1.c), .slice ((y_a x13.toNat).2.2.2.2.2.2.2.2.2.2.1.A) e33.Certificate_Tets.length ((y_a x13.toNat).2.2.2.2.2.2.2.2.2.2.1.c), .slice ((y_a x13.toNat).2.2.2.2.2.2.2.2.2.2.2.A) e33.Certificate_Perms.length ((y_a x13.toNat).2.2.2.2.2.2.2.2.2.2.2.c)]) HS Z Z Z Z ag64 Z g) Z (GX.l2 Z (fN Z func48 fok48.1 fok48.2 Z Z (impl_isItem.calls HS (RdIn.fld (rD 1 r_a) (getD_eq (ltN c32) h34) (fun _ h => h.2.2.1)) (RdIn.fld (rD 1 r_a) (getD_eq (ltN c32) h34) (fun _ h => h.2.2.2.1)) (RdIn.fld (rD 1 r_a) (getD_eq (ltN c32) h34) (fun _ h => h.2.2.2.2.2.2.1)) (RdIn.fld (rD 1 r_a) (getD_eq (ltN c32) h34) (fun _ h => h.2.2.2.2.2.2.2.2.2.1)) (RdIn.fld (rD 1 r_a) (getD_eq (ltN c32) h34) (fun _ h => h.2.2.2.2.2.2.2.2.2.2.1)) (RdIn.fld (rD 1 r_a) (getD_eq (ltN c32) h34) (fun _ h => h.2.2.2.2.2.2.2.2.2.2.2)) h39) (fun _ wd40 ⟨h41, HS⟩ => ⟨_, h41, (GX.fin tv (GX.ps 1 Z (qL Z Z (fun _ _ g => mV Z (kN 15 Z (congrArg Bool.not c42) g)) Z (qL Z Z (fun _ _ g => oN Z (mV Z (bK g))) Z (qL Z Z (fun _ _ g => oN Z (GO.gtr Z Z Z Z (bK g))) Z (qL Z Z (fun _ _ g => oN Z (mV Z (bK (kN 18 Z (tF c43) g)))) Z (qL Z Z (fun _ _ g => oF Z g) Z (qL Z Z (fun _ _ g => oF Z g) Z (qL Z Z (fun _ _ g => oF Z g) Z (qL Z Z (fun _ _ g => oF Z g) Z (qL Z Z (fun _ _ g => oF Z g) Z (qL Z Z (fun _ _ g => oF Z g) Z ?_))))))))))))⟩)))
       refine GX.l1 Z Z Z (fun _ g => oF Z g) Z (GX.l1 Z Z Z (fun _ g => oF Z g) Z (qL Z Z (fun _ _ g => oF Z g) Z (qL Z Z (fun _ _ g => oN Z (GO.pickF Z Z Z Z Z (bK g))) Z (GX.ps 1 Z (GX.nil (rN 5 Z (G.weak ?_ (d1 b1 (Nat.lt_succ_of_le (lR _)) (Nat.le_of_succ_le c1) _ _ H (HS.pk 1 [] Z)))))))))
       exact ⟨Z, Z, Z, Z, tv⟩
      refine G.lex mixed [0, 1, 2, 3, 4, 5, 6, 7, 8, 9, 10, 11, 13, 12, 14, 15, 16, 17] (by kernel_rfl) ?_
      replace HS := HS.drew
      refine GX.l1 Z Z Z (fun _ g => GO.ldBoxA (j := 0) ([.string e33.Name, I e33.Kind, .slice ((y_a x13.toNat).2.2.1.A) e33.Triangulation_Tets.length ((y_a x13.toNat).2.2.1.c), .slice ((y_a x13.toNat).2.2.2.1.A) e33.Diagram_Crossings.length ((y_a x13.toNat).2.2.2.1.c), I e33.Diagram_Circles, I e33.Braid_Strands, .slice ((y_a x13.toNat).2.2.2.2.2.2.1.A) e33.Braid_Word.length ((y_a x13.toNat).2.2.2.2.2.2.1.c), I e33.Certificate_Name, I e33.Certificate_Trait, .slice ((y_a x13.toNat).2.2.2.2.2.2.2.2.2.1.A) e33.Certificate_Moves.length ((y_a x13.toNat).2.2.2.2.2.2.2.2.2.1.c), .slice ((y_a x13.toNat).2.2.2.2.2.2.2.2.2.2.1.A) e33.Certificate_Tets.length ((y_a x13.toNat).2.2.2.2.2.2.2.2.2.2.1.c), .slice ((y_a x13.toNat).2.2.2.2.2.2.2.2.2.2.2.A) e33.Certificate_Perms.length ((y_a x13.toNat).2.2.2.2.2.2.2.2.2.2.2.c)]) HS Z Z Z Z ag64 Z g) Z (GX.l2 Z (fN Z func48 fok48.1 fok48.2 Z Z (impl_isItem.calls HS (RdIn.fld (rD 1 r_a) (getD_eq (ltN c32) h34) (fun _ h => h.2.2.1)) (RdIn.fld (rD 1 r_a) (getD_eq (ltN c32) h34) (fun _ h => h.2.2.2.1)) (RdIn.fld (rD 1 r_a) (getD_eq (ltN c32) h34) (fun _ h => h.2.2.2.2.2.2.1)) (RdIn.fld (rD 1 r_a) (getD_eq (ltN c32) h34) (fun _ h => h.2.2.2.2.2.2.2.2.2.1)) (RdIn.fld (rD 1 r_a) (getD_eq (ltN c32) h34) (fun _ h => h.2.2.2.2.2.2.2.2.2.2.1)) (RdIn.fld (rD 1 r_a) (getD_eq (ltN c32) h34) (fun _ h => h.2.2.2.2.2.2.2.2.2.2.2)) h39) (fun _ wd40 ⟨h41, HS⟩ => ⟨_, h41, (GX.fin tv (GX.ps 1 Z (qL Z Z (fun _ _ g => mV Z (kN 15 Z (congrArg Bool.not (bnot_of c42)) g)) Z (qL Z Z (fun _ _ g => oF Z g) Z (qL Z Z (fun _ _ g => oF Z g) Z (qL Z Z (fun _ _ g => oF Z g) Z (qL Z Z (fun _ _ g => GO.offU Z Z Z Z Z Z g) Z (qL Z Z (fun _ _ g => GO.offU Z Z Z Z Z Z g) Z (qL Z Z (fun _ _ g => GO.offU Z Z Z Z Z Z g) Z (qL Z Z (fun _ _ g => GO.offU Z Z Z Z Z Z g) Z (qL Z Z (fun _ _ g => GO.offU Z Z Z Z Z Z g) Z (qL Z Z (fun _ _ g => GO.offU Z Z Z Z Z Z g) Z ?_))))))))))))⟩)))
      refine GX.l1 Z Z Z (fun _ g => GO.offU Z Z Z Z Z Z g) Z (GX.l1 Z Z Z (fun _ g => GO.offU Z Z Z Z Z Z g) Z (qL Z Z (fun _ _ g => GO.offU Z Z Z Z Z Z g) Z (qL Z Z (fun _ _ g => oF Z g) Z (GX.ps 1 Z (GX.nil (rN 3 Z ?_))))))
      obtain rfl := sI H
      exact rT _ func67 Z Z ⟨Z, (HS.pk 1 [] Z)⟩
     refine nB Z (tF c31) (rN 2 Z (rG (mV Z (lS Z Z underlying27 Z (pS 2 Z (nL ?_))))))
     obtain rfl := sI H
     exact rT _ func67 Z Z ⟨Z, HS⟩
  refine G.weak ?_ (g1 K (lR _) _ _ H HS)
  exact ⟨Z, Z, Z, Z, tv⟩
theorem impl_isBench_fn1.calls {items : List GItem} {A_a : Option Addr} {c_a : Nat} {y_a : Nat → T_GItem_63.Lay} {r1 : Bool} (HS : St w0 w (L)) (r_a : RdIn w0 L T_GItem_63 A_a c_a y_a items) (H : impl_isBench_fn1.f K items = some r1) :
    Calls prog 66 #[.slice A_a items.length c_a] w (impl_isBench_fn1.post w0 L r1) := by
  unfold impl_isBench_fn1.f at H
  refine cG func66 Z ?_
  refine rN 3 Z ?_
  obtain ⟨t1, h2, H⟩ := bI H
  refine rG (mV Z (fN Z func67 fok67.1 fok67.2 Z Z (impl_areItems.calls HS r_a h2) (fun _ wd3 ⟨h4, HS⟩ => ⟨_, h4, (pS 2 Z (nL ?_))⟩)))
  obtain rfl := sI H
  exact rT _ func66 Z Z ⟨Z, HS⟩
theorem slices_IndexFunc_impl_Item_impl_Item_isBench_fn1.calls {s : List (List GItem)} {A_a : Option Addr} {c_a : Nat} {y_a : Nat → (Ty.slice 64 T_GItem_63).Lay} {r1 : Int} (HS : St w0 w (L)) (r_a : RdIn w0 L (Ty.slice 64 T_GItem_63) A_a c_a y_a s) (H : slices_IndexFunc_impl_Item_impl_Item_isBench_fn1.f K s = some r1) :
    Calls prog 114 #[.slice A_a s.length c_a, .func (.func 66) #[] #[]] w (slices_IndexFunc_impl_Item_impl_Item_isBench_fn1.post w0 L r1) := by
  unfold slices_IndexFunc_impl_Item_impl_Item_isBench_fn1.f at H
  refine cG func114 Z ?_
  refine rN 4 Z (rG (mV Z (lS Z Z underlying28 Z (mV Z (nL (rN 2 Z ?_))))))
  refine G.name (fun f1 c1 => ?_)
  have g1 : ∀ a1, a1 ≤ K → ∀ (x8 : Int) (w : World), slices_IndexFunc_impl_Item_impl_Item_isBench_fn1.l1 K a1 s x8 = some r1 → St w0 w (L) → G prog 114 19 [(0, .slice A_a s.length c_a), (1, .func (.func 66) #[] #[]), (7, I (s.length : Int)), (8, I x8)] f1 w (slices_IndexFunc_impl_Item_impl_Item_isBench_fn1.post w0 L r1) := by
   intro a1
   induction a1 using Nat.strongRecOn with
   | _ a1 e1 =>
    intro d1 x8 w H HS
    cases a1 with
    | zero => rw [slices_IndexFunc_impl_Item_impl_Item_isBench_fn1.l1] at H; cases H
    | succ b1 =>
     rw [slices_IndexFunc_impl_Item_impl_Item_isBench_fn1.l1] at H
     subst c1
     refine rN 3 Z ?_
     rcases iE H with ⟨c16, H⟩ | ⟨c16, H⟩
     ·
      refine yB Z (tT c16) (rN 6 Z ?_)
      obtain ⟨c17, H⟩ := iN H
      obtain ⟨t18, h19, H⟩ := bI H
      refine rG (pS 3 Z (GO.ix Z Z Z underlying28 sz27 (r_a _ HS).2.2.1 c17.1 c17.2 Z (GO.ldRd (T := (Ty.slice 64 T_GItem_63)) (n := x8.toNat) (o := 0) HS r_a Z Z (getD_some (d := []) (ltN c17)) Z Z na27 Z (GO.clo Z Z func66 fok66.1 fok66.2 Z Z (impl_isBench_fn1.calls HS (RdIn.elem r_a c17.1 c17.2) h19) (fun _ wd20 ⟨h21, HS⟩ => ⟨_, h21, (nL ?_)⟩)))))
      rcases iE H with ⟨c22, H⟩ | ⟨c22, H⟩
      ·
       refine yB Z c22 (rN 2 Z ?_)
       obtain rfl := sI H
       exact rT _ func114 Z Z ⟨Z, HS⟩
      refine nB Z (bnot_of c22) (rN 4 Z (G.weak ?_ (e1 b1 (Nat.lt_succ_of_le (lR _)) (Nat.le_of_succ_le d1) _ _ H HS)))
      exact ⟨Z, Z, Z, Z, tv⟩
     refine nB Z (tF c16) (rN 3 Z ?_)
     obtain rfl := sI H
     exact rT _ func114 Z Z ⟨Z, HS⟩
  refine G.weak ?_ (g1 K (lR _) _ _ H HS)
  exact ⟨Z, Z, Z, Z, tv⟩
theorem slices_ContainsFunc_impl_Item_impl_Item_isBench_fn1.calls {s : List (List GItem)} {A_a : Option Addr} {c_a : Nat} {y_a : Nat → (Ty.slice 64 T_GItem_63).Lay} {r1 : Bool} (HS : St w0 w (L)) (r_a : RdIn w0 L (Ty.slice 64 T_GItem_63) A_a c_a y_a s) (H : slices_ContainsFunc_impl_Item_impl_Item_isBench_fn1.f K s = some r1) :
    Calls prog 65 #[.slice A_a s.length c_a, .func (.func 66) #[] #[]] w (slices_ContainsFunc_impl_Item_impl_Item_isBench_fn1.post w0 L r1) := by
  unfold slices_ContainsFunc_impl_Item_impl_Item_isBench_fn1.f at H
  refine cG func65 Z ?_
  refine rN 3 Z ?_
  obtain ⟨t1, h2, H⟩ := bI H
  refine rG (pS 2 Z (fN Z func114 fok114.1 fok114.2 Z Z (slices_IndexFunc_impl_Item_impl_Item_isBench_fn1.calls HS r_a h2) (fun _ wd3 ⟨h4, HS⟩ => ⟨_, h4, (pS 2 Z (nL ?_))⟩)))
  obtain rfl := sI H
  exact rT _ func65 Z Z ⟨Z, HS⟩
theorem impl_isBench.calls {a1 : List GItem} {d1 c1 : List (List GItem)} {A_a : Option Addr} {c_a : Nat} {y_a : Nat → T_GItem_63.Lay} {A_b : Option Addr} {c_b : Nat} {y_b : Nat → (Ty.slice 64 T_GItem_63).Lay} {A_c : Option Addr} {c_c : Nat} {y_c : Nat → (Ty.slice 64 T_GItem_63).Lay} {r1 : Bool} (HS : St w0 w (L)) (r_a : RdIn w0 L T_GItem_63 A_a c_a y_a a1) (r_b : RdIn w0 L (Ty.slice 64 T_GItem_63) A_b c_b y_b d1) (r_c : RdIn w0 L (Ty.slice 64 T_GItem_63) A_c c_c y_c c1) (H : impl_isBench.f K a1 d1 c1 = some r1) :
    Calls prog 27 #[.agg [.slice A_a a1.length c_a, .slice A_b d1.length c_b, .slice A_c c1.length c_c].toArray] w (impl_isBench.post w0 L r1) := by
  unfold impl_isBench.f at H
  refine cG func27 Z ?_
  refine sQ (rG (GO.box (cs := [.slice A_a a1.length c_a, .slice A_b d1.length c_b, .slice A_c c1.length c_c]) HS Z Z Z Z fun b1 wd2 HS => aS Z (nL (rN 2 Z (rG (fL b1 0 fl30_0 Z (lB 0 HS Z na27 Z (GO.buildS (el := 27) ([.slice A_a a1.length c_a]) HS Z Z (fun _ => by kernel_rfl) Z fun b3 wd4 HS => fL b1 1 fl30_1 Z (lB 1 HS Z na28 Z (fL b1 2 fl30_2 Z (lB 1 HS Z na28 Z (GO.lenC (t := 7) (m := ([a1] : List (List GItem)).length) (c' := 1) Z Z Z ?_))))))))))))
  refine GO.buildS (el := 28) ([.slice (some ⟨b3, 0, none⟩) ([a1] : List (List GItem)).length 1, .slice A_b d1.length c_b, .slice A_c c1.length c_c]) HS Z Z (fun _ => by kernel_rfl) Z fun b5 wd6 HS => lS Z Z underlying111 Z (mV Z (nL (rN 2 Z (G.lenC (t := 12) (m := ([([a1] : List (List GItem)), d1, c1] : List (List (List GItem))).length) (c' := 3) Z Z Z ?_))))
  refine G.name (fun k1 g1 => ?_)
  have m1 : ∀ e1, e1 ≤ K → ∀ (x14 : Int) (w : World), impl_isBench.l1 K e1 a1 d1 c1 x14 = some r1 → St w0 w (Box b5 28 [.slice (some ⟨b3, 0, none⟩) ([a1] : List (List GItem)).length 1, .slice A_b d1.length c_b, .slice A_c c1.length c_c] :: Box b3 27 [.slice A_a a1.length c_a] :: L) → G prog 27 26 [(12, .slice (some ⟨b5, 0, none⟩) ([([a1] : List (List GItem)), d1, c1] : List (List (List GItem))).length 3), (13, I 3), (14, I x14)] k1 w (impl_isBench.post w0 L r1) := by
   intro e1
   induction e1 using Nat.strongRecOn with
   | _ e1 i1 =>
    intro h1 x14 w H HS
    cases e1 with
    | zero => rw [impl_isBench.l1] at H; cases H
    | succ f1 =>
     rw [impl_isBench.l1] at H
     subst g1
     refine rN 3 Z ?_
     rcases iE H with ⟨c23, H⟩ | ⟨c23, H⟩
     ·
      refine yB Z (tT c23) (rN 4 Z ?_)
      obtain ⟨c24, H⟩ := iN H
      refine rG (GO.ix Z Z Z underlying111 sz28 (fun _ => ⟨_, _, Z⟩) c24.1 c24.2 Z (GO.ldRd (T := (Ty.slice 27 (Ty.slice 64 T_GItem_63))) (n := x14.toNat) (o := 0) HS (RdIn.box (T := (Ty.slice 27 (Ty.slice 64 T_GItem_63))) (j := 0) (fun k => match k with | 0 => ⟨(some ⟨b3, 0, none⟩), 1, (fun _ => ⟨A_a, c_a, y_a⟩)⟩ | 1 => ⟨A_b, c_b, y_b⟩ | _ => ⟨A_c, c_c, y_c⟩) ([([a1] : List (List GItem)), d1, c1] : List (List (List GItem))) Z Z Z Z (kCons (fun w hs => (RdIn.box (T := (Ty.slice 64 T_GItem_63)) (j := 1) (fun _ => ⟨A_a, c_a, y_a⟩) ([a1] : List (List GItem)) Z Z Z Z (kCons (fun w hs => (rD 2 r_a) w hs) kNil)) w hs) (kCons (fun w hs => (rD 2 r_b) w hs) (kCons (fun w hs => (rD 2 r_c) w hs) kNil)))) Z Z (getD_some (d := []) (ltN c24)) Z Z na28 Z (aS Z (nL (sQ ?_)))))
      rcases iE H with ⟨c25, H⟩ | ⟨c25, H⟩
      ·
       refine rG (mV Z (lS Z Z underlying28 Z (pS 2 Z (kN 21 Z (tT c25) (oF Z (oF Z (GO.pickT Z Z Z Z Z (nL (rN 3 Z ?_)))))))))
       obtain rfl := sI H
       exact rT _ func27 Z Z ⟨Z, (HS.pk 2 [] Z)⟩
      obtain ⟨t26, h27, H⟩ := bI H
      refine rG (mV Z (lS Z Z underlying28 Z (pS 2 Z (kN 21 Z (tF c25) (oN Z (mV Z (bK (oN Z (fN Z func65 fok65.1 fok65.2 Z Z (slices_ContainsFunc_impl_Item_impl_Item_isBench_fn1.calls HS (RdIn.elem (RdIn.box (T := (Ty.slice 27 (Ty.slice 64 T_GItem_63))) (j := 0) (fun k => match k with | 0 => ⟨(some ⟨b3, 0, none⟩), 1, (fun _ => ⟨A_a, c_a, y_a⟩)⟩ | 1 => ⟨A_b, c_b, y_b⟩ | _ => ⟨A_c, c_c, y_c⟩) ([([a1] : List (List GItem)), d1, c1] : List (List (List GItem))) Z Z Z Z (kCons (fun w hs => (RdIn.box (T := (Ty.slice 64 T_GItem_63)) (j := 1) (fun _ => ⟨A_a, c_a, y_a⟩) ([a1] : List (List GItem)) Z Z Z Z (kCons (fun w hs => (rD 2 r_a) w hs) kNil)) w hs) (kCons (fun w hs => (rD 2 r_b) w hs) (kCons (fun w hs => (rD 2 r_c) w hs) kNil)))) c24.1 c24.2) h27) (fun _ wd28 ⟨h29, HS⟩ => ⟨_, h29, (bK (GO.pickF Z Z Z Z Z (nL ?_)))⟩))))))))))
      rcases iE H with ⟨c30, H⟩ | ⟨c30, H⟩
      ·
       refine yB Z c30 (rN 2 Z ?_)
       obtain rfl := sI H
       exact rT _ func27 Z Z ⟨Z, (HS.pk 2 [] Z)⟩
      refine nB Z (bnot_of c30) (rN 4 Z (G.weak ?_ (i1 f1 (Nat.lt_succ_of_le (lR _)) (Nat.le_of_succ_le h1) _ _ H HS)))
      exact ⟨Z, Z, Z, tv⟩
     refine nB Z (tF c23) (rN 3 Z ?_)
     obtain rfl := sI H
     exact rT _ func27 Z Z ⟨Z, (HS.pk 2 [] Z)⟩
  refine G.weak ?_ (m1 K (lR _) _ _ H (HS.pk 3 [0, 1] Z))
  exact ⟨Z, Z, Z, tv⟩
theorem slices_Clone_impl_Face_impl_Face.calls {s : List GFace} {A_a : Option Addr} {c_a : Nat} {r1 : List GFace} (HS : St w0 w (L)) (r_a : RdIn w0 L T_GFace A_a c_a (fun _ => ()) s) (H : slices_Clone_impl_Face_impl_Face.f s = some r1) :
    Calls prog 153 #[.slice A_a s.length c_a] w (slices_Clone_impl_Face_impl_Face.post w0 L r1) := by
  unfold slices_Clone_impl_Face_impl_Face.f at H
  refine cG func153 Z ?_
  refine rN 4 Z (rG (mV Z (GO.eqNil Z Z Z underlying150 Z (nL ?_))))
  rcases Decidable.em (A_a.isNone = true) with c1 | c1
  ·
   obtain rfl := nil_of_none r_a HS c1
   refine yB Z c1 (rN 2 Z ?_)
   replace HS := HS.nilRow T_GFace 157 (fun _ => ())
   replace H : some ([] : List GFace) = some r1 := H
   obtain rfl := sI H
   exact rT _ func153 Z Z ⟨_, _, Z, HS⟩
  refine nB Z (bnot_of c1) (rN 2 Z ?_)
  obtain ⟨c7, H⟩ := iN H
  refine rG (GO.buildS (el := 157) ([]) HS Z Z (fun _ => by kernel_rfl) Z fun b2 wd3 HS => mV Z ?_)
  replace HS := HS.boxRow (T := T_GFace) (j := 0) Z flat_flat (fun _ => ()) ([] : List GFace) Z (bndL Z)
  refine GO.lenC (t := 5) (m := ([] : List GFace).length) (c' := ([] : List GFace).length) Z Z Z (GO.appS (T := T_GFace) (j := 0) HS Z (rD 1 r_a) flat_flat Z Z Z underlying150 inf157 Z Z Z c7 Z (fun _ => Z) fun A5 c6 wd4 HS => aS Z (nL ?_))
  obtain rfl := sI H
  exact rT _ func153 Z Z ⟨_, _, Z, HS⟩
theorem impl_copyTriangulation.calls {c1 : List (List GFace)} {A_a : Option Addr} {c_a : Nat} {y_a : Nat → (Ty.slice 157 T_GFace).Lay} {r1 : List (List GFace)} (HS : St w0 w (L)) (r_a : RdIn w0 L (Ty.slice 157 T_GFace) A_a c_a y_a c1) (H : impl_copyTriangulation.f K c1 = some r1) :
    Calls prog 103 #[.agg [.slice A_a c1.length c_a].toArray] w (impl_copyTriangulation.post w0 L r1) := by
  unfold impl_copyTriangulation.f at H
  refine cG func103 Z ?_
  refine sQ (rG (GO.box (cs := [.slice A_a c1.length c_a]) HS Z Z Z Z fun b1 wd2 HS => GO.alloc HS Z zr55 Z Z fun b3 wd4 HS => nL (sQ (rG (GO.alloc HS Z zr55 Z Z fun b5 wd6 HS => nL (rN 2 Z (rG (fL b1 0 fl55_0 Z (lB 2 HS Z na53 Z (lS Z Z underlying53 Z (mV Z ?_)))))))))))
  refine nL (rN 2 Z ?_)
  refine G.name (fun i1 f1 => ?_)
  have k1 : ∀ d1, d1 ≤ K → ∀ (A24 : Option Addr) (c25 : Nat) (a1 : List (List GFace)) (y27 : Nat → (Ty.slice 157 T_GFace).Lay) (x28 : Int) (w : World), impl_copyTriangulation.l1 K d1 c1 a1 x28 = some r1 → St w0 w (Box b3 55 [.slice none 0 0] :: Box b5 55 [.slice A24 a1.length c25] :: Own (Ty.slice 157 T_GFace) 150 A24 c25 y27 a1 :: L) → G prog 103 22 [(2, .pointer (some ⟨b3, 0, none⟩)), (3, .pointer (some ⟨b5, 0, none⟩)), (7, .slice A_a c1.length c_a), (8, I (c1.length : Int)), (9, I x28)] i1 w (impl_copyTriangulation.post w0 L r1) := by
   intro d1
   induction d1 using Nat.strongRecOn with
   | _ d1 h1 =>
    intro g1 A24 c25 a1 y27 x28 w H HS
    cases d1 with
    | zero => rw [impl_copyTriangulation.l1] at H; cases H
    | succ e1 =>
     rw [impl_copyTriangulation.l1] at H
     subst f1
     refine rN 3 Z ?_
     rcases iE H with ⟨c46, H⟩ | ⟨c46, H⟩
     ·
      refine yB Z (tT c46) (rN 4 Z ?_)
      obtain ⟨c47, H⟩ := iN H
      refine rG (GO.ix Z Z Z underlying53 sz150 ((rD 3 r_a) _ HS).2.2.1 c47.1 c47.2 Z (GO.ldRd (T := (Ty.slice 157 T_GFace)) (n := x28.toNat) (o := 0) HS (rD 3 r_a) Z Z (getD_some (d := []) (ltN c47)) Z Z na150 Z (aS Z (nL ?_))))
      obtain ⟨t48, h49, H⟩ := bI H
      obtain ⟨c59, H⟩ := iN H
      refine G.lexS mixed (fun w => St w0 w (Box b5 55 [.slice A24 a1.length c25] :: L)) [1] [0, 2, 1, 3, 4, 5, 6, 7] [7] (by kernel_rfl) (by kernel_rfl) (HS.drew.pk 3 [1] Z) ?_
      replace HS := HS.drew
      refine qL Z Z (fun _ _ g => fL b5 0 fl55_0 Z g) Z (GX.ps 1 Z (GX.ls Z Z Z (HS.pk 3 [1] Z) (fun _ HS _ g => lB 0 HS Z na53 Z g) Z (GX.l2 Z (fN Z func153 fok153.1 fok153.2 Z Z (slices_Clone_impl_Face_impl_Face.calls HS (RdIn.elem (rD 3 r_a) c47.1 c47.2) h49) (fun _ wd52 ⟨A50, c51, h53, HS⟩ => ⟨_, h53, (GX.fin (HS.pk 4 [2] Z) (GX.l2 Z (GO.buildS (el := 150) ([.slice A50 t48.length c51]) HS Z Z (fun _ => by kernel_rfl) Z fun b54 wd55 HS => GX.fin (HS.pk 5 [3] Z) (GX.l2 Z ?_))))⟩)))))
      replace HS := HS.pk 5 [4, 0, 1, 2, 3] Z
      refine GO.appR (S := T_GFace) (u := 157) HS Z Z Z underlying53 inf150 Z Z c59 Z fun A57 c58 y60 wd56 HS => GX.fin (HS.pk 4 [3] Z) (qL Z Z (fun _ _ g => fL b5 0 fl55_0 Z g) Z (GX.l2 Z (GO.stBox (j := 3) (vs := [.slice A57 (a1 ++ [t48]).length c58]) ([.slice A57 (a1 ++ [t48]).length c58]) HS Z Z Z Z Z (htN na53 Z) Z Z Z fun wd61 HS => GX.finZ Z (GX.nil (rN 3 Z (G.weak ?_ (h1 e1 (Nat.lt_succ_of_le (lR _)) (Nat.le_of_succ_le g1) _ _ _ _ _ _ H (HS.pk 4 [2, 3, 0] Z))))))))
      exact ⟨Z, Z, Z, Z, Z, tv⟩
     refine nB Z (tF c46) (rN 2 Z (rG (GO.ldBoxA (j := 1) ([.slice A24 a1.length c25]) HS Z Z Z Z ag55 Z (GO.stBox (j := 0) (vs := [.slice A24 a1.length c25]) ([.slice A24 a1.length c25]) HS Z Z Z Z Z (htA ag55) Z Z Z fun wd62 HS => nL ?_))))
     obtain rfl := sI H
     exact rT _ func103 Z (Res1.boxA (j := 0) (vs := [.slice A24 a1.length c25]) HS Z Z Z ag55) ⟨_, _, _, Z, (HS.pk 3 [2] Z)⟩
  replace HS := HS.nilRow (Ty.slice 157 T_GFace) 150 (fun _ => ⟨none, 0, (fun _ => ())⟩)
  refine G.weak ?_ (k1 K (lR _) _ _ _ _ _ _ H (HS.pk 4 [2, 1, 0] Z))
  exact ⟨Z, Z, Z, Z, Z, tv⟩
theorem slices_Clone_impl_Crossing_impl_Crossing.calls {s : List GCrossing} {A_a : Option Addr} {c_a : Nat} {r1 : List GCrossing} (HS : St w0 w (L)) (r_a : RdIn w0 L T_GCrossing A_a c_a (fun _ => ()) s) (H : slices_Clone_impl_Crossing_impl_Crossing.f s = some r1) :
    Calls prog 154 #[.slice A_a s.length c_a] w (slices_Clone_impl_Crossing_impl_Crossing.post w0 L r1) := by
  unfold slices_Clone_impl_Crossing_impl_Crossing.f at H
  refine cG func154 Z ?_
  refine rN 4 Z (rG (mV Z (GO.eqNil Z Z Z underlying56 Z (nL ?_))))
  rcases Decidable.em (A_a.isNone = true) with c1 | c1
  ·
   obtain rfl := nil_of_none r_a HS c1
   refine yB Z c1 (rN 2 Z ?_)
   replace HS := HS.nilRow T_GCrossing 152 (fun _ => ())
   replace H : some ([] : List GCrossing) = some r1 := H
   obtain rfl := sI H
   exact rT _ func154 Z Z ⟨_, _, Z, HS⟩
  refine nB Z (bnot_of c1) (rN 2 Z ?_)
  obtain ⟨c7, H⟩ := iN H
  refine rG (GO.buildS (el := 152) ([]) HS Z Z (fun _ => by kernel_rfl) Z fun b2 wd3 HS => mV Z ?_)
  replace HS := HS.boxRow (T := T_GCrossing) (j := 0) Z flat_flat (fun _ => ()) ([] : List GCrossing) Z (bndL Z)
  refine GO.lenC (t := 5) (m := ([] : List GCrossing).length) (c' := ([] : List GCrossing).length) Z Z Z (GO.appS (T := T_GCrossing) (j := 0) HS Z (rD 1 r_a) flat_flat Z Z Z underlying56 inf152 Z Z Z c7 Z (fun _ => Z) fun A5 c6 wd4 HS => aS Z (nL ?_))
  obtain rfl := sI H
  exact rT _ func154 Z Z ⟨_, _, Z, HS⟩
theorem impl_copyDiagram.calls {c1 : List GCrossing} {a1 : Int} {A_a : Option Addr} {c_a : Nat} {r1 : List GCrossing} {r2 : Int} (HS : St w0 w (L)) (r_a : RdIn w0 L T_GCrossing A_a c_a (fun _ => ()) c1) (H : impl_copyDiagram.f c1 a1 = some (r1, r2)) :
    Calls prog 104 #[.agg [.slice A_a c1.length c_a, I a1].toArray] w (impl_copyDiagram.post w0 L r1 r2) := by
  unfold impl_copyDiagram.f at H
  refine cG func104 Z ?_
  refine sQ (rG (GO.box (cs := [.slice A_a c1.length c_a, I a1]) HS Z Z Z Z fun b1 wd2 HS => GO.alloc HS Z zr58 Z Z fun b3 wd4 HS => nL (sQ ?_)))
  obtain ⟨t5, h6, H⟩ := bI H
  refine rG (fL b1 0 fl58_0 Z (lB 1 HS Z na56 Z (fN Z func154 fok154.1 fok154.2 Z Z (slices_Clone_impl_Crossing_impl_Crossing.calls HS (rD 2 r_a) h6) (fun _ wd9 ⟨A7, c8, h10, HS⟩ => ⟨_, h10, (fL b1 0 fl58_0 Z (GO.stBox (j := 2) (vs := [.slice A7 t5.length c8]) ([.slice A7 t5.length c8, I a1]) HS Z Z Z Z Z (htN na56 Z) Z Z Z fun wd11 HS => nL (sQ (rG (GO.ldBoxA (j := 2) ([.slice A7 t5.length c8, I a1]) HS Z Z Z Z ag58 Z (GO.stBox (j := 1) (vs := [.slice A7 t5.length c8, I a1]) ([.slice A7 t5.length c8, I a1]) HS Z Z Z Z Z (htA ag58) Z Z Z fun wd12 HS => nL ?_))))))⟩))))
  obtain ⟨rfl, rfl⟩ := some2 H
  exact rT _ func104 Z (Res1.boxA (j := 1) (vs := [.slice A7 t5.length c8, I a1]) HS Z Z Z ag58) ⟨_, _, Z, (HS.pk 3 [0] Z)⟩
theorem slices_Clone_int64_int64.calls {s : List Int} {A_a : Option Addr} {c_a : Nat} {r1 : List Int} (HS : St w0 w (L)) (r_a : RdIn w0 L (TInt .i64) A_a c_a (fun _ => ()) s) (H : slices_Clone_int64_int64.f s = some r1) :
    Calls prog 105 #[.slice A_a s.length c_a] w (slices_Clone_int64_int64.post w0 L r1) := by
  unfold slices_Clone_int64_int64.f at H
  refine cG func105 Z ?_
  refine rN 4 Z (rG (mV Z (GO.eqNil Z Z Z underlying43 Z (nL ?_))))
  rcases Decidable.em (A_a.isNone = true) with c1 | c1
  ·
   obtain rfl := nil_of_none r_a HS c1
   refine yB Z c1 (rN 2 Z ?_)
   replace HS := HS.nilRow (TInt .i64) 2 (fun _ => ())
   replace H : some ([] : List Int) = some r1 := H
   obtain rfl := sI H
   exact rT _ func105 Z Z ⟨_, _, Z, HS⟩
  refine nB Z (bnot_of c1) (rN 2 Z ?_)
  obtain ⟨c7, H⟩ := iN H
  refine rG (GO.buildS (el := 2) ([]) HS Z Z (fun _ => by kernel_rfl) Z fun b2 wd3 HS => mV Z ?_)
  replace HS := HS.boxRow (T := (TInt .i64)) (j := 0) Z flat_flat (fun _ => ()) ([] : List Int) Z (bndL Z)
  refine GO.lenC (t := 5) (m := ([] : List Int).length) (c' := ([] : List Int).length) Z Z Z (GO.appS (T := (TInt .i64)) (j := 0) HS Z (rD 1 r_a) flat_flat Z Z Z underlying43 inf2 Z Z Z c7 Z (fun _ => Z) fun A5 c6 wd4 HS => aS Z (nL ?_))
  obtain rfl := sI H
  exact rT _ func105 Z Z ⟨_, _, Z, HS⟩
theorem slices_Clone_impl_Move_impl_Move.calls {s : List GMove} {A_a : Option Addr} {c_a : Nat} {r1 : List GMove} (HS : St w0 w (L)) (r_a : RdIn w0 L T_GMove A_a c_a (fun _ => ()) s) (H : slices_Clone_impl_Move_impl_Move.f s = some r1) :
    Calls prog 106 #[.slice A_a s.length c_a] w (slices_Clone_impl_Move_impl_Move.post w0 L r1) := by
  unfold slices_Clone_impl_Move_impl_Move.f at H
  refine cG func106 Z ?_
  refine rN 4 Z (rG (mV Z (GO.eqNil Z Z Z underlying60 Z (nL ?_))))
  rcases Decidable.em (A_a.isNone = true) with c1 | c1
  ·
   obtain rfl := nil_of_none r_a HS c1
   refine yB Z c1 (rN 2 Z ?_)
   replace HS := HS.nilRow T_GMove 140 (fun _ => ())
   replace H : some ([] : List GMove) = some r1 := H
   obtain rfl := sI H
   exact rT _ func106 Z Z ⟨_, _, Z, HS⟩
  refine nB Z (bnot_of c1) (rN 2 Z ?_)
  obtain ⟨c7, H⟩ := iN H
  refine rG (GO.buildS (el := 140) ([]) HS Z Z (fun _ => by kernel_rfl) Z fun b2 wd3 HS => mV Z ?_)
  replace HS := HS.boxRow (T := T_GMove) (j := 0) Z flat_flat (fun _ => ()) ([] : List GMove) Z (bndL Z)
  refine GO.lenC (t := 5) (m := ([] : List GMove).length) (c' := ([] : List GMove).length) Z Z Z (GO.appS (T := T_GMove) (j := 0) HS Z (rD 1 r_a) flat_flat Z Z Z underlying60 inf140 Z Z Z c7 Z (fun _ => Z) fun A5 c6 wd4 HS => aS Z (nL ?_))
  obtain rfl := sI H
  exact rT _ func106 Z Z ⟨_, _, Z, HS⟩
theorem impl_copyItem.calls {e1 : ByteArray} {f1 : Int} {n1 : List (List GFace)} {m1 : List GCrossing} {o1 d1 : Int} {k1 : List Int} {a1 c1 : Int} {i1 : List GMove} {h1 g1 : List Int} {A_a : Option Addr} {c_a : Nat} {y_a : Nat → (Ty.slice 157 T_GFace).Lay} {A_b : Option Addr} {c_b : Nat} {A_c : Option Addr} {c_c : Nat} {A_d : Option Addr} {c_d : Nat} {A_e : Option Addr} {c_e : Nat} {A_f : Option Addr} {c_f : Nat} {r1 : ByteArray} {r2 : Int} {r3 : List (List GFace)} {r4 : List GCrossing} {r5 r6 : Int} {r7 : List Int} {r8 r9 : Int} {r10 : List GMove} {r11 r12 : List Int} (HS : St w0 w (L)) (r_a : RdIn w0 L (Ty.slice 157 T_GFace) A_a c_a y_a n1) (r_b : RdIn w0 L T_GCrossing A_b c_b (fun _ => ()) m1) (r_c : RdIn w0 L (TInt .i64) A_c c_c (fun _ => ()) k1) (r_d : RdIn w0 L T_GMove A_d c_d (fun _ => ()) i1) (r_e : RdIn w0 L (TInt .i64) A_e c_e (fun _ => ()) h1) (r_f : RdIn w0 L (TInt .i64) A_f c_f (fun _ => ()) g1) (H : impl_copyItem.f K e1 f1 n1 m1 o1 d1 k1 a1 c1 i1 h1 g1 = some (r1, r2, r3, r4, r5, r6, r7, r8, r9, r10, r11, r12)) :
    Calls prog 49 #[.agg [.string e1, I f1, .slice A_a n1.length c_a, .slice A_b m1.length c_b, I o1, I d1, .slice A_c k1.length c_c, I a1, I c1, .slice A_d i1.length c_d, .slice A_e h1.length c_e, .slice A_f g1.length c_f].toArray] w (impl_copyItem.post w0 L r1 r2 r3 r4 r5 r6 r7 r8 r9 r10 r11 r12) := by
  unfold impl_copyItem.f at H
  refine cG func49 Z ?_
  refine sQ (rG (GO.box (cs := [.string e1, I f1, .slice A_a n1.length c_a, .slice A_b m1.length c_b, I o1, I d1, .slice A_c k1.length c_c, I a1, I c1, .slice A_d i1.length c_d, .slice A_e h1.length c_e, .slice A_f g1.length c_f]) HS Z Z Z Z fun b1 wd2 HS => GO.alloc HS Z zr64 Z Z fun b3 wd4 HS => nL (sQ ?_)))
  obtain ⟨t5, h6, H⟩ := bI H
  refine rG (fL b1 2 fl64_2 Z (GO.ldBoxA (j := 1) ([.slice A_a n1.length c_a]) HS Z Z Z Z ag55 Z (fN Z func103 fok103.1 fok103.2 Z Z (impl_copyTriangulation.calls HS (rD 2 r_a) h6) (fun _ wd10 ⟨A7, c8, y9, h11, HS⟩ => ⟨_, h11, (fL b1 2 fl64_2 Z (GO.stBox (j := 2) (vs := [.slice A7 t5.length c8]) ([.string e1, I f1, .slice A7 t5.length c8, .slice A_b m1.length c_b, I o1, I d1, .slice A_c k1.length c_c, I a1, I c1, .slice A_d i1.length c_d, .slice A_e h1.length c_e, .slice A_f g1.length c_f]) HS Z Z Z Z Z (htA ag55) Z Z Z fun wd12 HS => nL (sQ ?_)))⟩))))
  obtain ⟨t13, t14, h15, H⟩ := bind2_elim H
  refine rG (fL b1 3 fl64_3 Z (GO.ldBoxA (j := 2) ([.slice A_b m1.length c_b, I o1]) HS Z Z Z Z ag58 Z (fN Z func104 fok104.1 fok104.2 Z Z (impl_copyDiagram.calls HS (rD 3 r_b) h15) (fun _ wd18 ⟨A16, c17, h19, HS⟩ => ⟨_, h19, (fL b1 3 fl64_3 Z (GO.stBox (j := 3) (vs := [.slice A16 t13.length c17, I t14]) ([.string e1, I f1, .slice A7 t5.length c8, .slice A16 t13.length c17, I t14, I d1, .slice A_c k1.length c_c, I a1, I c1, .slice A_d i1.length c_d, .slice A_e h1.length c_e, .slice A_f g1.length c_f]) HS Z Z Z Z Z (htA ag58) Z Z Z fun wd20 HS => nL (sQ ?_)))⟩))))
  obtain ⟨t21, h22, H⟩ := bI H
  refine rG (fL b1 5 fl64_4 Z (fL b1 6 fl59_1 Z (lB 3 HS Z na43 Z (fN Z func105 fok105.1 fok105.2 Z Z (slices_Clone_int64_int64.calls HS (rD 4 r_c) h22) (fun _ wd25 ⟨A23, c24, h26, HS⟩ => ⟨_, h26, (fL b1 5 fl64_4 Z (fL b1 6 fl59_1 Z (GO.stBox (j := 4) (vs := [.slice A23 t21.length c24]) ([.string e1, I f1, .slice A7 t5.length c8, .slice A16 t13.length c17, I t14, I d1, .slice A23 t21.length c24, I a1, I c1, .slice A_d i1.length c_d, .slice A_e h1.length c_e, .slice A_f g1.length c_f]) HS Z Z Z Z Z (htN na43 Z) Z Z Z fun wd27 HS => nL (sQ (rG (fL b1 7 fl64_5 Z (aS Z (nL (sQ ?_)))))))))⟩)))))
  obtain ⟨t28, h29, H⟩ := bI H
  obtain ⟨t34, h35, H⟩ := bI H
  obtain ⟨t40, h41, H⟩ := bI H
  refine G.lexS mixed (fun w => St w0 w (Box b1 64 [.string e1, I f1, .slice A7 t5.length c8, .slice A16 t13.length c17, I t14, I d1, .slice A23 t21.length c24, I a1, I c1, .slice A_d i1.length c_d, .slice A_e h1.length c_e, .slice A_f g1.length c_f] :: L)) [6, 11, 16] [0, 1, 2, 3, 4, 5, 8, 9, 10, 13, 14, 15, 6, 11, 16, 7, 12, 17, 18, 19, 20, 21, 22, 23, 24, 25, 26] [20, 23, 26] (by kernel_rfl) (by kernel_rfl) (HS.drew.pk 5 [4] Z) ?_
  replace HS := HS.drew
  refine GX.ps 4 Z (qL Z Z (fun _ _ g => GO.nilP Z Z Z g) Z (qL Z Z (fun _ _ g => fL b1 9 fl62_2 Z g) Z (GX.ps 1 Z (qL Z Z (fun _ _ g => GO.nilP Z Z Z g) Z (qL Z Z (fun _ _ g => fL b1 10 fl62_3 Z g) Z (GX.ps 1 Z (qL Z Z (fun _ _ g => GO.nilP Z Z Z g) Z (qL Z Z (fun _ _ g => fL b1 11 fl62_4 Z g) Z (GX.ls Z Z Z (HS.pk 5 [4] Z) (fun _ HS _ g => lB 0 HS Z na60 Z g) Z (GX.ls Z Z Z (HS.pk 5 [4] Z) (fun _ HS _ g => lB 0 HS Z na43 Z g) Z (GX.ls Z Z Z (HS.pk 5 [4] Z) (fun _ HS _ g => lB 0 HS Z na43 Z g) Z (GX.l2 Z (fN Z func106 fok106.1 fok106.2 Z Z (slices_Clone_impl_Move_impl_Move.calls HS (rD 5 r_d) h29) (fun _ wd32 ⟨A30, c31, h33, HS⟩ => ⟨_, h33, (GX.fin (HS.pk 6 [5] Z) ?_)⟩))))))))))))))
  refine GX.l2 Z (fN Z func105 fok105.1 fok105.2 Z Z (slices_Clone_int64_int64.calls HS (rD 6 r_e) h35) (fun _ wd38 ⟨A36, c37, h39, HS⟩ => ⟨_, h39, (GX.fin (HS.pk 7 [6] Z) (GX.l2 Z (fN Z func105 fok105.1 fok105.2 Z Z (slices_Clone_int64_int64.calls HS (rD 7 r_f) h41) (fun _ wd44 ⟨A42, c43, h45, HS⟩ => ⟨_, h45, (GX.fin (HS.pk 8 [7] Z) (qL Z Z (fun _ _ g => GO.nilP Z Z Z g) Z (qL Z Z (fun _ _ g => fL b1 9 fl62_2 Z g) Z (GX.l2 Z (GO.stBox (j := 7) (vs := [.slice A30 t28.length c31]) ([.string e1, I f1, .slice A7 t5.length c8, .slice A16 t13.length c17, I t14, I d1, .slice A23 t21.length c24, I a1, I c1, .slice A30 t28.length c31, .slice A_e h1.length c_e, .slice A_f g1.length c_f]) HS Z Z Z Z Z (htN na60 Z) Z Z Z fun wd46 HS => GX.finZ Z (qL Z Z (fun _ _ g => GO.nilP Z Z Z g) Z (qL Z Z (fun _ _ g => fL b1 10 fl62_3 Z g) Z (GX.l2 Z (GO.stBox (j := 7) (vs := [.slice A36 t34.length c37]) ([.string e1, I f1, .slice A7 t5.length c8, .slice A16 t13.length c17, I t14, I d1, .slice A23 t21.length c24, I a1, I c1, .slice A30 t28.length c31, .slice A36 t34.length c37, .slice A_f g1.length c_f]) HS Z Z Z Z Z (htN na43 Z) Z Z Z fun wd47 HS => ?_)))))))))⟩))))⟩))
  refine GX.finZ Z (qL Z Z (fun _ _ g => GO.nilP Z Z Z g) Z (qL Z Z (fun _ _ g => fL b1 11 fl62_4 Z g) Z (GX.l2 Z (GO.stBox (j := 7) (vs := [.slice A42 t40.length c43]) ([.string e1, I f1, .slice A7 t5.length c8, .slice A16 t13.length c17, I t14, I d1, .slice A23 t21.length c24, I a1, I c1, .slice A30 t28.length c31, .slice A36 t34.length c37, .slice A42 t40.length c43]) HS Z Z Z Z Z (htN na43 Z) Z Z Z fun wd48 HS => GX.finZ Z (GX.nil (sQ (rG (GO.ldBoxA (j := 7) ([.string e1, I f1, .slice A7 t5.length c8, .slice A16 t13.length c17, I t14, I d1, .slice A23 t21.length c24, I a1, I c1, .slice A30 t28.length c31, .slice A36 t34.length c37, .slice A42 t40.length c43]) HS Z Z Z Z ag64 Z (GO.stBox (j := 6) (vs := [.string e1, I f1, .slice A7 t5.length c8, .slice A16 t13.length c17, I t14, I d1, .slice A23 t21.length c24, I a1, I c1, .slice A30 t28.length c31, .slice A36 t34.length c37, .slice A42 t40.length c43]) ([.string e1, I f1, .slice A7 t5.length c8, .slice A16 t13.length c17, I t14, I d1, .slice A23 t21.length c24, I a1, I c1, .slice A30 t28.length c31, .slice A36 t34.length c37, .slice A42 t40.length c43]) HS Z Z Z Z Z (htA ag64) Z Z Z fun wd49 HS => nL ?_)))))))))
  obtain ⟨rfl, rfl, rfl, rfl, rfl, rfl, rfl, rfl, rfl, rfl, rfl, rfl⟩ := some12 H
  exact rT _ func49 Z (Res1.boxA (j := 6) (vs := [.string e1, I f1, .slice A7 t5.length c8, .slice A16 t13.length c17, I t14, I d1, .slice A23 t21.length c24, I a1, I c1, .slice A30 t28.length c31, .slice A36 t34.length c37, .slice A42 t40.length c43]) HS Z Z Z ag64) ⟨_, _, _, _, _, _, _, _, _, _, _, _, _, Z, (HS.pk 8 [5, 4, 3, 2, 1, 0] Z)⟩
theorem impl_copyItems.calls {items : List GItem} {A_a : Option Addr} {c_a : Nat} {y_a : Nat → T_GItem_63.Lay} {r1 : List GItem} (HS : St w0 w (L)) (r_a : RdIn w0 L T_GItem_63 A_a c_a y_a items) (H : impl_copyItems.f K items = some r1) :
    Calls prog 31 #[.slice A_a items.length c_a] w (impl_copyItems.post w0 L r1) := by
  unfold impl_copyItems.f at H
  refine cG func31 Z ?_
  refine rN 6 Z (rG (mV Z (lS Z Z underlying27 Z (mV Z (nL (rN 2 Z ?_))))))
  refine G.name (fun g1 d1 => ?_)
  have h1 : ∀ a1, a1 ≤ K → ∀ (A43 : Option Addr) (c44 : Nat) (b1 : List GItem) (y46 : Nat → T_GItem_63.Lay) (x47 : Int) (w : World), impl_copyItems.l1 K a1 items b1 x47 = some r1 → St w0 w (Own T_GItem_63 64 A43 c44 y46 b1 :: L) → G prog 31 19 [(3, .slice A43 b1.length c44), (6, .slice A_a items.length c_a), (7, I (items.length : Int)), (8, I x47)] g1 w (impl_copyItems.post w0 L r1) := by
   intro a1
   induction a1 using Nat.strongRecOn with
   | _ a1 f1 =>
    intro e1 A43 c44 b1 y46 x47 w H HS
    cases a1 with
    | zero => rw [impl_copyItems.l1] at H; cases H
    | succ c1 =>
     rw [impl_copyItems.l1] at H
     subst d1
     refine rN 3 Z ?_
     rcases iE H with ⟨c90, H⟩ | ⟨c90, H⟩
     ·
      refine yB Z (tT c90) (rN 4 Z ?_)
      obtain ⟨c91, H⟩ := iN H
      obtain ⟨e92, h93, H⟩ := bnd_elim H
      refine rG (GO.ix Z Z Z underlying27 sz64 ((rD 1 r_a) _ HS).2.2.1 c91.1 c91.2 Z (GO.ldRdA (T := T_GItem_63) (n := x47.toNat) HS (rD 1 r_a) Z Z (getD_eq (ltN c91) h93) ag64 Z (GO.alloc HS Z zr64 Z Z fun b94 wd95 HS => GO.stBox (j := 0) (vs := [.string e92.Name, I e92.Kind, .slice ((y_a x47.toNat).2.2.1.A) e92.Triangulation_Tets.length ((y_a x47.toNat).2.2.1.c), .slice ((y_a x47.toNat).2.2.2.1.A) e92.Diagram_Crossings.length ((y_a x47.toNat).2.2.2.1.c), I e92.Diagram_Circles, I e92.Braid_Strands, .slice ((y_a x47.toNat).2.2.2.2.2.2.1.A) e92.Braid_Word.length ((y_a x47.toNat).2.2.2.2.2.2.1.c), I e92.Certificate_Name, I e92.Certificate_Trait, .slice ((y_a x47.toNat).2.2.2.2.2.2.2.2.2.1.A) e92.Certificate_Moves.length ((y_a x47.toNat).2.2.2.2.2.2.2.2.2.1.c), .slice ((y_a x47.toNat).2.2.2.2.2.2.2.2.2.2.1.A) e92.Certificate_Tets.length ((y_a x47.toNat).2.2.2.2.2.2.2.2.2.2.1.c), .slice ((y_a x47.toNat).2.2.2.2.2.2.2.2.2.2.2.A) e92.Certificate_Perms.length ((y_a x47.toNat).2.2.2.2.2.2.2.2.2.2.2.c)]) ([.string e92.Name, I e92.Kind, .slice ((y_a x47.toNat).2.2.1.A) e92.Triangulation_Tets.length ((y_a x47.toNat).2.2.1.c), .slice ((y_a x47.toNat).2.2.2.1.A) e92.Diagram_Crossings.length ((y_a x47.toNat).2.2.2.1.c), I e92.Diagram_Circles, I e92.Braid_Strands, .slice ((y_a x47.toNat).2.2.2.2.2.2.1.A) e92.Braid_Word.length ((y_a x47.toNat).2.2.2.2.2.2.1.c), I e92.Certificate_Name, I e92.Certificate_Trait, .slice ((y_a x47.toNat).2.2.2.2.2.2.2.2.2.1.A) e92.Certificate_Moves.length ((y_a x47.toNat).2.2.2.2.2.2.2.2.2.1.c), .slice ((y_a x47.toNat).2.2.2.2.2.2.2.2.2.2.1.A) e92.Certificate_Tets.length ((y_a x47.toNat).2.2.2.2.2.2.2.2.2.2.1.c), .slice ((y_a x47.toNat).2.2.2.2.2.2.2.2.2.2.2.A) e92.Certificate_Perms.length ((y_a x47.toNat).2.2.2.2.2.2.2.2.2.2.2.c)]) HS Z Z Z Z Z (htA ag64) Z Z Z fun wd96 HS => nL ?_)))
      obtain ⟨t97, t98, t99, t100, t101, t102, t103, t104, t105, t106, t107, t108, h109, H⟩ := bind12_elim H
      obtain ⟨c130, H⟩ := iN H
      refine rG (mV Z (GO.ldBoxA (j := 0) ([.string e92.Name, I e92.Kind, .slice ((y_a x47.toNat).2.2.1.A) e92.Triangulation_Tets.length ((y_a x47.toNat).2.2.1.c), .slice ((y_a x47.toNat).2.2.2.1.A) e92.Diagram_Crossings.length ((y_a x47.toNat).2.2.2.1.c), I e92.Diagram_Circles, I e92.Braid_Strands, .slice ((y_a x47.toNat).2.2.2.2.2.2.1.A) e92.Braid_Word.length ((y_a x47.toNat).2.2.2.2.2.2.1.c), I e92.Certificate_Name, I e92.Certificate_Trait, .slice ((y_a x47.toNat).2.2.2.2.2.2.2.2.2.1.A) e92.Certificate_Moves.length ((y_a x47.toNat).2.2.2.2.2.2.2.2.2.1.c), .slice ((y_a x47.toNat).2.2.2.2.2.2.2.2.2.2.1.A) e92.Certificate_Tets.length ((y_a x47.toNat).2.2.2.2.2.2.2.2.2.2.1.c), .slice ((y_a x47.toNat).2.2.2.2.2.2.2.2.2.2.2.A) e92.Certificate_Perms.length ((y_a x47.toNat).2.2.2.2.2.2.2.2.2.2.2.c)]) HS Z Z Z Z ag64 Z (fN Z func49 fok49.1 fok49.2 Z Z (impl_copyItem.calls HS (RdIn.fld (rD 2 r_a) (getD_eq (ltN c91) h93) (fun _ h => h.2.2.1)) (RdIn.fld (rD 2 r_a) (getD_eq (ltN c91) h93) (fun _ h => h.2.2.2.1)) (RdIn.fld (rD 2 r_a) (getD_eq (ltN c91) h93) (fun _ h => h.2.2.2.2.2.2.1)) (RdIn.fld (rD 2 r_a) (getD_eq (ltN c91) h93) (fun _ h => h.2.2.2.2.2.2.2.2.2.1)) (RdIn.fld (rD 2 r_a) (getD_eq (ltN c91) h93) (fun _ h => h.2.2.2.2.2.2.2.2.2.2.1)) (RdIn.fld (rD 2 r_a) (getD_eq (ltN c91) h93) (fun _ h => h.2.2.2.2.2.2.2.2.2.2.2)) h109) (fun _ wd123 ⟨A110, c111, y112, A113, c114, A115, c116, A117, c118, A119, c120, A121, c122, h124, HS⟩ => ⟨_, h124, (GO.buildS (el := 64) ([.string t97, I t98, .slice A110 t99.length c111, .slice A113 t100.length c114, I t101, I t102, .slice A115 t103.length c116, I t104, I t105, .slice A117 t106.length c118, .slice A119 t107.length c120, .slice A121 t108.length c122]) HS Z Z (fun _ => by kernel_rfl) Z fun b125 wd126 HS => ?_)⟩))))
      replace HS := HS.pk 9 [6, 5, 4, 3, 2, 1, 8, 0, 7] Z
      replace HS := mk_GItem_63 (Name := t97) (Kind := t98) (Diagram_Circles := t101) (Braid_Strands := t102) (Certificate_Name := t104) (Certificate_Trait := t105) HS
      replace HS := HS.pk 4 [1, 2, 0, 3] Z
      refine GO.appE (T := T_GItem_63) ((), (), ⟨A110, c111, y112⟩, ⟨A113, c114, (fun _ => ())⟩, (), (), ⟨A115, c116, (fun _ => ())⟩, (), (), ⟨A117, c118, (fun _ => ())⟩, ⟨A119, c120, (fun _ => ())⟩, ⟨A121, c122, (fun _ => ())⟩) (⟨t97, t98, t99, t100, t101, t102, t103, t104, t105, t106, t107, t108⟩ : GItem) HS Z Z Z underlying27 inf64 Z Z Z c130 Z fun A128 c129 y131 wd127 HS => aS Z (nL (rN 3 Z (G.weak ?_ (f1 c1 (Nat.lt_succ_of_le (lR _)) (Nat.le_of_succ_le e1) _ _ _ _ _ _ H (HS.pk 3 [0] Z)))))
      exact ⟨Z, Z, Z, Z, tv⟩
     refine nB Z (tF c90) (rN 3 Z ?_)
     obtain rfl := sI H
     exact rT _ func31 Z Z ⟨_, _, _, Z, HS⟩
  replace HS := HS.nilRow T_GItem_63 64 (fun _ => ((), (), ⟨none, 0, (fun _ => ⟨none, 0, (fun _ => ())⟩)⟩, ⟨none, 0, (fun _ => ())⟩, (), (), ⟨none, 0, (fun _ => ())⟩, (), (), ⟨none, 0, (fun _ => ())⟩, ⟨none, 0, (fun _ => ())⟩, ⟨none, 0, (fun _ => ())⟩))
  refine G.weak ?_ (h1 K (lR _) _ _ _ _ _ _ H HS)
  exact ⟨Z, Z, Z, Z, tv⟩
theorem impl_copySteps.calls {lists : List (List GItem)} {A_a : Option Addr} {c_a : Nat} {y_a : Nat → (Ty.slice 64 T_GItem_63).Lay} {r1 : List (List GItem)} (HS : St w0 w (L)) (r_a : RdIn w0 L (Ty.slice 64 T_GItem_63) A_a c_a y_a lists) (H : impl_copySteps.f K lists = some r1) :
    Calls prog 69 #[.slice A_a lists.length c_a] w (impl_copySteps.post w0 L r1) := by
  unfold impl_copySteps.f at H
  refine cG func69 Z ?_
  refine rN 6 Z (rG (mV Z (lS Z Z underlying28 Z (mV Z (nL (rN 2 Z ?_))))))
  refine G.name (fun g1 d1 => ?_)
  have h1 : ∀ a1, a1 ≤ K → ∀ (A17 : Option Addr) (c18 : Nat) (b1 : List (List GItem)) (y20 : Nat → (Ty.slice 64 T_GItem_63).Lay) (x21 : Int) (w : World), impl_copySteps.l1 K a1 lists b1 x21 = some r1 → St w0 w (Own (Ty.slice 64 T_GItem_63) 27 A17 c18 y20 b1 :: L) → G prog 69 19 [(3, .slice A17 b1.length c18), (6, .slice A_a lists.length c_a), (7, I (lists.length : Int)), (8, I x21)] g1 w (impl_copySteps.post w0 L r1) := by
   intro a1
   induction a1 using Nat.strongRecOn with
   | _ a1 f1 =>
    intro e1 A17 c18 b1 y20 x21 w H HS
    cases a1 with
    | zero => rw [impl_copySteps.l1] at H; cases H
    | succ c1 =>
     rw [impl_copySteps.l1] at H
     subst d1
     refine rN 3 Z ?_
     rcases iE H with ⟨c38, H⟩ | ⟨c38, H⟩
     ·
      refine yB Z (tT c38) (rN 4 Z ?_)
      obtain ⟨c39, H⟩ := iN H
      refine rG (GO.ix Z Z Z underlying28 sz27 ((rD 1 r_a) _ HS).2.2.1 c39.1 c39.2 Z (GO.ldRd (T := (Ty.slice 64 T_GItem_63)) (n := x21.toNat) (o := 0) HS (rD 1 r_a) Z Z (getD_some (d := []) (ltN c39)) Z Z na27 Z (aS Z (nL ?_))))
      obtain ⟨t40, h41, H⟩ := bI H
      obtain ⟨c52, H⟩ := iN H
      refine rG (pS 2 Z (fN Z func31 fok31.1 fok31.2 Z Z (impl_copyItems.calls HS (RdIn.elem (rD 1 r_a) c39.1 c39.2) h41) (fun _ wd45 ⟨A42, c43, y44, h46, HS⟩ => ⟨_, h46, (GO.buildS (el := 27) ([.slice A42 t40.length c43]) HS Z Z (fun _ => by kernel_rfl) Z fun b47 wd48 HS => ?_)⟩)))
      replace HS := HS.pk 3 [2, 0, 1] Z
      refine GO.appR (S := T_GItem_63) (u := 64) HS Z Z Z underlying28 inf27 Z Z c52 Z fun A50 c51 y53 wd49 HS => aS Z (nL (rN 3 Z (G.weak ?_ (f1 c1 (Nat.lt_succ_of_le (lR _)) (Nat.le_of_succ_le e1) _ _ _ _ _ _ H (HS.pk 2 [0] Z)))))
      exact ⟨Z, Z, Z, Z, tv⟩
     refine nB Z (tF c38) (rN 3 Z ?_)
     obtain rfl := sI H
     exact rT _ func69 Z Z ⟨_, _, _, Z, HS⟩
  replace HS := HS.nilRow (Ty.slice 64 T_GItem_63) 27 (fun _ => ⟨none, 0, (fun _ => ((), (), ⟨none, 0, (fun _ => ⟨none, 0, (fun _ => ())⟩)⟩, ⟨none, 0, (fun _ => ())⟩, (), (), ⟨none, 0, (fun _ => ())⟩, (), (), ⟨none, 0, (fun _ => ())⟩, ⟨none, 0, (fun _ => ())⟩, ⟨none, 0, (fun _ => ())⟩))⟩)
  refine G.weak ?_ (h1 K (lR _) _ _ _ _ _ _ H HS)
  exact ⟨Z, Z, Z, Z, tv⟩
theorem impl_copyBench.calls {a1 : List GItem} {c1 d1 : List (List GItem)} {A_a : Option Addr} {c_a : Nat} {y_a : Nat → T_GItem_63.Lay} {A_b : Option Addr} {c_b : Nat} {y_b : Nat → (Ty.slice 64 T_GItem_63).Lay} {A_c : Option Addr} {c_c : Nat} {y_c : Nat → (Ty.slice 64 T_GItem_63).Lay} {r1 : List GItem} {r2 r3 : List (List GItem)} (HS : St w0 w (L)) (r_a : RdIn w0 L T_GItem_63 A_a c_a y_a a1) (r_b : RdIn w0 L (Ty.slice 64 T_GItem_63) A_b c_b y_b c1) (r_c : RdIn w0 L (Ty.slice 64 T_GItem_63) A_c c_c y_c d1) (H : impl_copyBench.f K a1 c1 d1 = some (r1, r2, r3)) :
    Calls prog 29 #[.agg [.slice A_a a1.length c_a, .slice A_b c1.length c_b, .slice A_c d1.length c_c].toArray] w (impl_copyBench.post w0 L r1 r2 r3) := by
  unfold impl_copyBench.f at H
  refine cG func29 Z ?_
  refine sQ (rG (GO.box (cs := [.slice A_a a1.length c_a, .slice A_b c1.length c_b, .slice A_c d1.length c_c]) HS Z Z Z Z fun b1 wd2 HS => GO.alloc HS Z zr30 Z Z fun b3 wd4 HS => nL (sQ ?_)))
  obtain ⟨t5, h6, H⟩ := bI H
  obtain ⟨t12, h13, H⟩ := bI H
  obtain ⟨t19, h20, H⟩ := bI H
  refine G.lexS mixed (fun w => St w0 w (Box b1 30 [.slice A_a a1.length c_a, .slice A_b c1.length c_b, .slice A_c d1.length c_c] :: L)) [1, 4, 7] [0, 3, 6, 1, 4, 7, 2, 5, 8, 9, 10] [] (by kernel_rfl) (by kernel_rfl) (HS.drew.pk 2 [1] Z) ?_
  replace HS := HS.drew
  refine qL Z Z (fun _ _ g => fL b1 0 fl30_0 Z g) Z (qL Z Z (fun _ _ g => fL b1 1 fl30_1 Z g) Z (qL Z Z (fun _ _ g => fL b1 2 fl30_2 Z g) Z (GX.ls Z Z Z (HS.pk 2 [1] Z) (fun _ HS _ g => lB 0 HS Z na27 Z g) Z (GX.ls Z Z Z (HS.pk 2 [1] Z) (fun _ HS _ g => lB 0 HS Z na28 Z g) Z (GX.ls Z Z Z (HS.pk 2 [1] Z) (fun _ HS _ g => lB 0 HS Z na28 Z g) Z (GX.l2 Z (fN Z func31 fok31.1 fok31.2 Z Z (impl_copyItems.calls HS (rD 2 r_a) h6) (fun _ wd10 ⟨A7, c8, y9, h11, HS⟩ => ⟨_, h11, (GX.fin (HS.pk 3 [2] Z) (GX.l2 Z (fN Z func69 fok69.1 fok69.2 Z Z (impl_copySteps.calls HS (rD 3 r_b) h13) (fun _ wd17 ⟨A14, c15, y16, h18, HS⟩ => ⟨_, h18, (GX.fin (HS.pk 4 [3] Z) (GX.l2 Z (fN Z func69 fok69.1 fok69.2 Z Z (impl_copySteps.calls HS (rD 4 r_c) h20) (fun _ wd24 ⟨A21, c22, y23, h25, HS⟩ => ⟨_, h25, (GX.fin (HS.pk 5 [4] Z) ?_)⟩))))⟩))))⟩))))))))
  refine qL Z Z (fun _ _ g => GO.buildV (.agg [.slice A7 t5.length c8, .slice A14 t12.length c15, .slice A21 t19.length c22].toArray) Z Z (fun _ => by kernel_rfl) Z g) Z (GX.l2 Z (GO.stBox (j := 3) (vs := [.slice A7 t5.length c8, .slice A14 t12.length c15, .slice A21 t19.length c22]) ([.slice A7 t5.length c8, .slice A14 t12.length c15, .slice A21 t19.length c22]) HS Z Z Z Z Z (htA ag30) Z Z Z fun wd26 HS => GX.fin (HS.pk 5 [4] Z) (GX.nil ?_)))
  obtain ⟨rfl, rfl, rfl⟩ := some3 H
  exact rT _ func29 Z (Res1.boxA (j := 3) (vs := [.slice A7 t5.length c8, .slice A14 t12.length c15, .slice A21 t19.length c22]) HS Z Z Z ag30) ⟨_, _, _, _, _, _, _, _, _, Z, (HS.pk 5 [2, 1, 0] Z)⟩
theorem slices_Delete_impl_Item_impl_Item.calls {s : List GItem} {i j_ : Int} {A_a : Option Addr} {c_a : Nat} {y_a : Nat → T_GItem_63.Lay} {r1 : List GItem} (HS : St w0 w (Own T_GItem_63 64 A_a c_a y_a s :: L)) (H : slices_Delete_impl_Item_impl_Item.f s i j_ = some r1) :
    Calls prog 30 #[.slice A_a s.length c_a, I i, I j_] w (slices_Delete_impl_Item_impl_Item.post w0 L r1) := by
  unfold slices_Delete_impl_Item_impl_Item.f at H
  refine cG func30 Z ?_
  refine rN 3 Z ?_
  obtain ⟨c1, H⟩ := iN H
  obtain ⟨c2, H⟩ := iN H
  refine rG (pS 4 Z (lS Z Z underlying27 Z (GO.slM Z Z Z Z Z underlying27 sz64 c1 c2 (Int.ofNat_le.2 ((RdIn.own (j := 0) Z) _ HS).1) Z (nL (rN 3 Z ?_)))))
  rcases iE H with ⟨c3, H⟩ | ⟨c3, H⟩
  ·
   refine yB Z (tT c3) (rN 2 Z ?_)
   obtain rfl := sI H
   exact rT _ func30 Z Z ⟨_, _, _, Z, HS⟩
  refine nB Z (tF c3) (rN 2 Z (rG (mV Z (lS Z Z underlying27 Z (aS Z (nL (sQ ?_)))))))
  obtain ⟨c4, H⟩ := iN H
  obtain ⟨c5, H⟩ := iN H
  obtain ⟨c7, H⟩ := iN H
  have h8 := over_lenD (xs := allRows s.length) c7 (Nat.le_trans (leN c5) (Nat.le_of_eq (allRows_length _).symm))
  refine G.lex mixed [0, 1, 3, 4, 2, 5, 6, 7] (by kernel_rfl) ?_
  replace HS := HS.drew
  refine GX.ps 4 Z (GX.l1 Z Z Z (fun _ g => GO.slH (T := T_GItem_63) HS (RdIn.own (j := 0) Z) Z Z Z underlying27 sz64 c4.1 c4.2 Z g) Z (GX.l1 Z Z Z (fun _ g => GO.slL (T := T_GItem_63) HS (RdIn.own (j := 0) Z) Z Z Z underlying27 sz64 c5.1 c5.2 Z g) Z (GX.l2 Z ?_)))
  replace HS := HS.splitT z_GItem ((), (), ⟨none, 0, (fun _ => ⟨none, 0, (fun _ => ())⟩)⟩, ⟨none, 0, (fun _ => ())⟩, (), (), ⟨none, 0, (fun _ => ())⟩, (), (), ⟨none, 0, (fun _ => ())⟩, ⟨none, 0, (fun _ => ())⟩, ⟨none, 0, (fun _ => ())⟩)
  refine GO.appCut (T := (TIx T_GItem_63 y_a s z_GItem ((), (), ⟨none, 0, (fun _ => ⟨none, 0, (fun _ => ())⟩)⟩, ⟨none, 0, (fun _ => ())⟩, (), (), ⟨none, 0, (fun _ => ())⟩, (), (), ⟨none, 0, (fun _ => ())⟩, ⟨none, 0, (fun _ => ())⟩, ⟨none, 0, (fun _ => ())⟩))) (j := 0) (i1 := i.toNat) (l1 := j_.toNat) HS Z flat_flat (fun _ _ => Z) Z Z Z (by rw [List.drop_zero, List.length_take]; exact Nat.min_eq_left (leN c4)) (by rw [List.length_drop, List.take_length, allRows_length]) underlying27 inf64 c7 (Nat.le_trans (leN c5) (Nat.le_of_eq (allRows_length _).symm)) Z fun wd6 HS => GX.fin tv (GX.ps 1 Z (GX.nil (sQ ?_)))
  obtain ⟨c9, H⟩ := iN H
  obtain ⟨c10, H⟩ := iN H
  have h12 := over_lenR (xs := (over (allRows s.length) i.toNat ((allRows s.length).drop j_.toNat))) (z := none) (cutN (leNN c9) (leN c10))
  refine rG (pS 2 Z (lS Z Z underlying27 Z (mV Z (GO.slCut (T := (TIx T_GItem_63 y_a s z_GItem ((), (), ⟨none, 0, (fun _ => ⟨none, 0, (fun _ => ())⟩)⟩, ⟨none, 0, (fun _ => ())⟩, (), (), ⟨none, 0, (fun _ => ())⟩, (), (), ⟨none, 0, (fun _ => ())⟩, ⟨none, 0, (fun _ => ())⟩, ⟨none, 0, (fun _ => ())⟩))) (xs := (over (allRows s.length) i.toNat ((allRows s.length).drop j_.toNat))) ((RdIn.own (j := 0) Z) _ HS).1 Z Z Z Z underlying27 sz64 c9 c10 Z (GO.clearC (T := (TIx T_GItem_63 y_a s z_GItem ((), (), ⟨none, 0, (fun _ => ⟨none, 0, (fun _ => ())⟩)⟩, ⟨none, 0, (fun _ => ())⟩, (), (), ⟨none, 0, (fun _ => ())⟩, (), (), ⟨none, 0, (fun _ => ())⟩, ⟨none, 0, (fun _ => ())⟩, ⟨none, 0, (fun _ => ())⟩))) (j := 0) (l := ((((over (allRows s.length) i.toNat ((allRows s.length).drop j_.toNat)).take (i.toNat + ((allRows s.length).length - j_.toNat))).drop 0).length : Int).toNat) none () HS Z flat_flat Z Z underlying27 zr64 Z Z (cutC (leN c10) ((RdIn.own (j := 0) Z) _ HS).1) (cutN (leNN c9) (leN c10)) (fun _ => Z) fun wd11 HS => nL ?_)))))
  obtain ⟨c13, H⟩ := iN H
  refine G.len (t := 0) (m := (((over (over (allRows s.length) i.toNat ((allRows s.length).drop j_.toNat)) (((((over (allRows s.length) i.toNat ((allRows s.length).drop j_.toNat)).take (i.toNat + ((allRows s.length).length - j_.toNat))).drop 0).length : Int).toNat) (List.replicate (((over (allRows s.length) i.toNat ((allRows s.length).drop j_.toNat)).take ((s.length : Int).toNat)).drop (((((over (allRows s.length) i.toNat ((allRows s.length).drop j_.toNat)).take (i.toNat + ((allRows s.length).length - j_.toNat))).drop 0).length : Int).toNat)).length none)).take (i.toNat + ((allRows s.length).length - j_.toNat))).drop 0).length) Z (lenCut h12) (rN 2 Z ?_)
  obtain ⟨r14, h15, H⟩ := bI H
  obtain ⟨y16, h17, HS⟩ := St.unsplitT (A' := (cutA A_a 0 c_a 12)) (c' := (c_a - 0)) HS c13 h15 (cutA_zero _ _ _) Z
  refine G.len (t := 6) (m := r14.length) Z (by rw [h17, List.drop_zero, List.length_take]; exact Nat.min_eq_left c13) ?_
  obtain rfl := sI H
  exact rT _ func30 Z Z ⟨_, _, _, Z, HS⟩
theorem impl_pushed.calls {lists : List (List GItem)} {items : List GItem} {A_a : Option Addr} {c_a : Nat} {y_a : Nat → (Ty.slice 64 T_GItem_63).Lay} {A_b : Option Addr} {c_b : Nat} {y_b : Nat → T_GItem_63.Lay} {r1 : List (List GItem)} (HS : St w0 w (Own (Ty.slice 64 T_GItem_63) 27 A_a c_a y_a lists :: Own T_GItem_63 64 A_b c_b y_b items :: L)) (H : impl_pushed.f lists items = some r1) :
    Calls prog 68 #[.slice A_a lists.length c_a, .slice A_b items.length c_b] w (impl_pushed.post w0 L r1) := by
  unfold impl_pushed.f at H
  refine cG func68 Z ?_
  refine rN 3 Z ?_
  obtain ⟨c6, H⟩ := iN H
  refine rG (pS 2 Z (GO.buildS (el := 27) ([.slice A_b items.length c_b]) HS Z Z (fun _ => by kernel_rfl) Z fun b1 wd2 HS => ?_))
  replace HS := HS.pk 3 [1, 0, 2] Z
  refine GO.appR (S := T_GItem_63) (u := 64) HS Z Z Z underlying28 inf27 Z Z c6 Z fun A4 c5 y7 wd3 HS => aS Z (nL (sQ ?_))
  obtain ⟨c8, H⟩ := iN H
  refine rG (pS 2 Z (lS Z Z underlying28 Z (GO.sub Z Z Z Z (GO.max2 Z Z Z Z (GO.slL (T := (Ty.slice 64 T_GItem_63)) HS (RdIn.own (j := 0) Z) Z Z Z underlying28 sz27 c8.1 c8.2 Z (aS Z (nL ?_)))))))
  replace HS := HS.cutOwn (A' := (cutA A4 ((if w64 (((lists ++ [items]).length : Int) - 6) > 0 then w64 (((lists ++ [items]).length : Int) - 6) else 0).toNat) c5 1)) (c' := (c5 - (if w64 (((lists ++ [items]).length : Int) - 6) > 0 then w64 (((lists ++ [items]).length : Int) - 6) else 0).toNat)) (j := 0) (l := (if w64 (((lists ++ [items]).length : Int) - 6) > 0 then w64 (((lists ++ [items]).length : Int) - 6) else 0).toNat) (h := (lists ++ [items]).length) (m := c5) Z (leN c8) (lR _) (Nat.le_trans (lR _) ((RdIn.own (j := 0) Z) _ HS).1) (lR _) Z Z
  obtain rfl := sI H
  exact rT _ func68 Z Z ⟨_, _, _, Z, (HS.pk 2 [0] Z)⟩
theorem impl_setItems.calls {a1 : List GItem} {c1 d1 : List (List GItem)} {items : List GItem} {A_a : Option Addr} {c_a : Nat} {y_a : Nat → T_GItem_63.Lay} {A_b : Option Addr} {c_b : Nat} {y_b : Nat → (Ty.slice 64 T_GItem_63).Lay} {A_c : Option Addr} {c_c : Nat} {y_c : Nat → (Ty.slice 64 T_GItem_63).Lay} {A_d : Option Addr} {c_d : Nat} {y_d : Nat → T_GItem_63.Lay} {r1 r2 : List (List GItem)} (HS : St w0 w (Own T_GItem_63 64 A_a c_a y_a a1 :: Own (Ty.slice 64 T_GItem_63) 27 A_b c_b y_b c1 :: L)) (r_c : RdIn w0 L (Ty.slice 64 T_GItem_63) A_c c_c y_c d1) (r_d : RdIn w0 L T_GItem_63 A_d c_d y_d items) (H : impl_setItems.f a1 c1 d1 items = some (r1, r2)) :
    Calls prog 28 #[.agg [.slice A_a a1.length c_a, .slice A_b c1.length c_b, .slice A_c d1.length c_c].toArray, .slice A_d items.length c_d] w (impl_setItems.post w0 L items A_d c_d r1 r2) := by
  unfold impl_setItems.f at H
  refine cG func28 Z ?_
  refine sQ (rG (GO.box (cs := [.slice A_a a1.length c_a, .slice A_b c1.length c_b, .slice A_c d1.length c_c]) HS Z Z Z Z fun b1 wd2 HS => GO.alloc HS Z zr30 Z Z fun b3 wd4 HS => nL (sQ ?_)))
  obtain ⟨t5, h6, H⟩ := bI H
  refine rG (mV Z (fL b1 1 fl30_1 Z (lB 1 HS Z na28 Z (fL b1 0 fl30_0 Z (lB 1 HS Z na27 Z ?_)))))
  replace HS := HS.pk 4 [3, 2, 0, 1] Z
  refine fN Z func68 fok68.1 fok68.2 Z Z (impl_pushed.calls HS  h6) (fun _ wd10 ⟨A7, c8, y9, h11, HS⟩ => ⟨_, h11, (GO.buildV (.agg [.slice A_d items.length c_d, .slice A7 t5.length c8, .slice none 0 0].toArray) Z Z (fun _ => by kernel_rfl) Z (GO.stBox (j := 1) (vs := [.slice A_d items.length c_d, .slice A7 t5.length c8, .slice none 0 0]) ([.slice A_d items.length c_d, .slice A7 t5.length c8, .slice none 0 0]) HS Z Z Z Z Z (htA ag30) Z Z Z fun wd12 HS => nL ?_))⟩)
  replace HS := HS.nilRow (Ty.slice 64 T_GItem_63) 27 (fun _ => ⟨none, 0, (fun _ => ((), (), ⟨none, 0, (fun _ => ⟨none, 0, (fun _ => ())⟩)⟩, ⟨none, 0, (fun _ => ())⟩, (), (), ⟨none, 0, (fun _ => ())⟩, (), (), ⟨none, 0, (fun _ => ())⟩, ⟨none, 0, (fun _ => ())⟩, ⟨none, 0, (fun _ => ())⟩))⟩)
  obtain ⟨rfl, rfl⟩ := some2 H
  exact rT _ func28 Z (Res1.boxA (j := 2) (vs := [.slice A_d items.length c_d, .slice A7 t5.length c8, .slice none 0 0]) HS Z Z Z ag30) ⟨_, _, _, _, _, _, Z, (HS.pk 4 [1, 0] Z)⟩
theorem impl_DropItem.calls {a1 : List GItem} {c1 d1 : List (List GItem)} {name : ByteArray} {A_a : Option Addr} {c_a : Nat} {y_a : Nat → T_GItem_63.Lay} {A_b : Option Addr} {c_b : Nat} {y_b : Nat → (Ty.slice 64 T_GItem_63).Lay} {A_c : Option Addr} {c_c : Nat} {y_c : Nat → (Ty.slice 64 T_GItem_63).Lay} {r1 : List GItem} {r2 r3 : List (List GItem)} {r4 : Int} (HS : St w0 w (L)) (r_a : RdIn w0 L T_GItem_63 A_a c_a y_a a1) (r_b : RdIn w0 L (Ty.slice 64 T_GItem_63) A_b c_b y_b c1) (r_c : RdIn w0 L (Ty.slice 64 T_GItem_63) A_c c_c y_c d1) (H : impl_DropItem.f K a1 c1 d1 name = some (r1, r2, r3, r4)) :
    Calls prog 8 #[.agg [.slice A_a a1.length c_a, .slice A_b c1.length c_b, .slice A_c d1.length c_c].toArray, .string name] w (impl_DropItem.post w0 L r1 r2 r3 r4) := by
  unfold impl_DropItem.f at H
  refine cG func8 Z ?_
  refine sQ (rG (GO.box (cs := [.slice A_a a1.length c_a, .slice A_b c1.length c_b, .slice A_c d1.length c_c]) HS Z Z Z Z fun b1 wd2 HS => GO.alloc HS Z zr30 Z Z fun b3 wd4 HS => aS Z (nL (sQ ?_))))
  obtain ⟨t5, t6, h7, H⟩ := bind2_elim H
  refine rG (fL b1 0 fl30_0 Z (lB 1 HS Z na27 Z (mV Z (fN Z func26 fok26.1 fok26.2 Z Z (impl_itemAt.calls HS (rD 2 r_a) h7) (fun _ wd8 ⟨h9, HS⟩ => ⟨_, h9, (pS 5 Z (nL (rN 3 Z ?_)))⟩)))))
  obtain ⟨t10, h11, H⟩ := bI H
  refine rG (GO.ldBoxA (j := 1) ([.slice A_a a1.length c_a, .slice A_b c1.length c_b, .slice A_c d1.length c_c]) HS Z Z Z Z ag30 Z (fN Z func27 fok27.1 fok27.2 Z Z (impl_isBench.calls HS (rD 2 r_a) (rD 2 r_b) (rD 2 r_c) h11) (fun _ wd12 ⟨h13, HS⟩ => ⟨_, h13, (pS 2 Z (nL ?_))⟩)))
  rcases iE H with ⟨c14, H⟩ | ⟨c14, H⟩
  ·
   refine nB Z (congrArg Bool.not c14) (rN 2 Z ?_)
   rcases iE H with ⟨c15, H⟩ | ⟨c15, H⟩
   ·
    refine nB Z (congrArg Bool.not c15) (rN 3 Z ?_)
    obtain ⟨t16, t17, t18, h19, H⟩ := bind3_elim H
    obtain ⟨t31, h32, H⟩ := bI H
    obtain ⟨t38, h39, H⟩ := bI H
    obtain ⟨t45, t46, h47, H⟩ := bind2_elim H
    refine G.lexS mixed (fun w => St w0 w (Box b1 30 [.slice A_a a1.length c_a, .slice A_b c1.length c_b, .slice A_c d1.length c_c] :: L)) [0, 3] [2, 5, 6, 7, 0, 3, 1, 4, 8, 9, 10, 11] [] (by kernel_rfl) (by kernel_rfl) (HS.drew.pk 2 [1] Z) ?_
    replace HS := HS.drew
    refine qL Z Z (fun _ _ g => fL b1 0 fl30_0 Z g) Z (GX.ps 3 Z (GX.ls Z Z Z (HS.pk 2 [1] Z) (fun _ HS _ g => GO.ldBoxA (j := 0) ([.slice A_a a1.length c_a, .slice A_b c1.length c_b, .slice A_c d1.length c_c]) HS Z Z Z Z ag30 Z g) Z (GX.ls Z Z Z (HS.pk 2 [1] Z) (fun _ HS _ g => lB 0 HS Z na27 Z g) Z (GX.l2 Z (fN Z func29 fok29.1 fok29.2 Z Z (impl_copyBench.calls HS (rD 2 r_a) (rD 2 r_b) (rD 2 r_c) h19) (fun _ wd29 ⟨A20, c21, y22, A23, c24, y25, A26, c27, y28, h30, HS⟩ => ⟨_, h30, (GX.fin (HS.pk 5 [4] Z) (GX.l2 Z (fN Z func31 fok31.1 fok31.2 Z Z (impl_copyItems.calls HS (rD 5 r_a) h32) (fun _ wd36 ⟨A33, c34, y35, h37, HS⟩ => ⟨_, h37, (GX.fin (HS.pk 6 [5] Z) (GX.l2 Z ?_))⟩))))⟩))))))
    replace HS := HS.pk 6 [0, 1, 2, 3, 4, 5] Z
    refine fN Z func30 fok30.1 fok30.2 Z Z (slices_Delete_impl_Item_impl_Item.calls HS  h39) (fun _ wd43 ⟨A40, c41, y42, h44, HS⟩ => ⟨_, h44, (GX.fin (HS.pk 6 [5] Z) (GX.l2 Z ?_))⟩)
    replace HS := HS.pk 6 [1, 2, 0, 3, 4, 5] Z
    refine fN Z func28 fok28.1 fok28.2 Z Z (impl_setItems.calls HS (RdIn.own (j := 1) Z) (RdIn.own (j := 0) Z) h47) (fun _ wd54 ⟨A48, c49, y50, A51, c52, y53, h55, HS⟩ => ⟨_, h55, (GX.fin (HS.pk 6 [5] Z) (GX.l2 Z (GO.stBox (j := 4) (vs := [.slice A40 t38.length c41, .slice A48 t45.length c49, .slice A51 t46.length c52]) ([.slice A40 t38.length c41, .slice A48 t45.length c49, .slice A51 t46.length c52]) HS Z Z Z Z Z (htA ag30) Z Z Z fun wd56 HS => GX.fin (HS.pk 6 [5] Z) (GX.ps 1 Z (GX.nil ?_)))))⟩)
    obtain ⟨rfl, rfl, rfl, rfl⟩ := some4 H
    exact G.ret2 _ _ func8 Z (Res1.boxA (j := 4) (vs := [.slice A40 t38.length c41, .slice A48 t45.length c49, .slice A51 t46.length c52]) HS Z Z Z ag30) Z ⟨_, _, _, _, _, _, _, _, _, Z, (HS.pk 6 [2, 0, 1] Z)⟩
   refine yB Z (congrArg Bool.not (bnot_of c15)) (sQ (rG (GO.buildV (.agg [.slice none 0 0, .slice none 0 0, .slice none 0 0].toArray) Z Z (fun _ => by kernel_rfl) Z (GO.stBox (j := 0) (vs := [.slice none 0 0, .slice none 0 0, .slice none 0 0]) ([.slice none 0 0, .slice none 0 0, .slice none 0 0]) HS Z Z Z Z Z (htA ag30) Z Z Z fun wd57 HS => aS Z (nL ?_)))))
   replace HS := HS.nilRow T_GItem_63 64 (fun _ => ((), (), ⟨none, 0, (fun _ => ⟨none, 0, (fun _ => ())⟩)⟩, ⟨none, 0, (fun _ => ())⟩, (), (), ⟨none, 0, (fun _ => ())⟩, (), (), ⟨none, 0, (fun _ => ())⟩, ⟨none, 0, (fun _ => ())⟩, ⟨none, 0, (fun _ => ())⟩))
   replace HS := HS.nilRow (Ty.slice 64 T_GItem_63) 27 (fun _ => ⟨none, 0, (fun _ => ((), (), ⟨none, 0, (fun _ => ⟨none, 0, (fun _ => ())⟩)⟩, ⟨none, 0, (fun _ => ())⟩, (), (), ⟨none, 0, (fun _ => ())⟩, (), (), ⟨none, 0, (fun _ => ())⟩, ⟨none, 0, (fun _ => ())⟩, ⟨none, 0, (fun _ => ())⟩))⟩)
   replace HS := HS.nilRow (Ty.slice 64 T_GItem_63) 27 (fun _ => ⟨none, 0, (fun _ => ((), (), ⟨none, 0, (fun _ => ⟨none, 0, (fun _ => ())⟩)⟩, ⟨none, 0, (fun _ => ())⟩, (), (), ⟨none, 0, (fun _ => ())⟩, (), (), ⟨none, 0, (fun _ => ())⟩, ⟨none, 0, (fun _ => ())⟩, ⟨none, 0, (fun _ => ())⟩))⟩)
   obtain ⟨rfl, rfl, rfl, rfl⟩ := some4 H
   exact G.ret2 _ _ func8 Z (Res1.boxA (j := 3) (vs := [.slice none 0 0, .slice none 0 0, .slice none 0 0]) HS Z Z Z ag30) Z ⟨_, _, _, _, _, _, _, _, _, Z, (HS.pk 5 [2, 1, 0] Z)⟩
  refine yB Z (congrArg Bool.not (bnot_of c14)) (sQ (rG (GO.buildV (.agg [.slice none 0 0, .slice none 0 0, .slice none 0 0].toArray) Z Z (fun _ => by kernel_rfl) Z (GO.stBox (j := 0) (vs := [.slice none 0 0, .slice none 0 0, .slice none 0 0]) ([.slice none 0 0, .slice none 0 0, .slice none 0 0]) HS Z Z Z Z Z (htA ag30) Z Z Z fun wd58 HS => aS Z (nL ?_)))))
  replace HS := HS.nilRow T_GItem_63 64 (fun _ => ((), (), ⟨none, 0, (fun _ => ⟨none, 0, (fun _ => ())⟩)⟩, ⟨none, 0, (fun _ => ())⟩, (), (), ⟨none, 0, (fun _ => ())⟩, (), (), ⟨none, 0, (fun _ => ())⟩, ⟨none, 0, (fun _ => ())⟩, ⟨none, 0, (fun _ => ())⟩))
  replace HS := HS.nilRow (Ty.slice 64 T_GItem_63) 27 (fun _ => ⟨none, 0, (fun _ => ((), (), ⟨none, 0, (fun _ => ⟨none, 0, (fun _ => ())⟩)⟩, ⟨none, 0, (fun _ => ())⟩, (), (), ⟨none, 0, (fun _ => ())⟩, (), (), ⟨none, 0, (fun _ => ())⟩, ⟨none, 0, (fun _ => ())⟩, ⟨none, 0, (fun _ => ())⟩))⟩)
  replace HS := HS.nilRow (Ty.slice 64 T_GItem_63) 27 (fun _ => ⟨none, 0, (fun _ => ((), (), ⟨none, 0, (fun _ => ⟨none, 0, (fun _ => ())⟩)⟩, ⟨none, 0, (fun _ => ())⟩, (), (), ⟨none, 0, (fun _ => ())⟩, (), (), ⟨none, 0, (fun _ => ())⟩, ⟨none, 0, (fun _ => ())⟩, ⟨none, 0, (fun _ => ())⟩))⟩)
  obtain ⟨rfl, rfl, rfl, rfl⟩ := some4 H
  exact G.ret2 _ _ func8 Z (Res1.boxA (j := 3) (vs := [.slice none 0 0, .slice none 0 0, .slice none 0 0]) HS Z Z Z ag30) Z ⟨_, _, _, _, _, _, _, _, _, Z, (HS.pk 5 [2, 1, 0] Z)⟩
theorem laws_eqFace.calls {d1 e1 : Int} {c1 a1 : Int} {r1 : Bool} (HS : St w0 w (L)) (H : laws_eqFace.f d1 e1 c1 a1 = some r1) :
    Calls prog 188 #[.agg [I d1, I e1].toArray, .agg [I c1, I a1].toArray] w (laws_eqFace.post w0 L r1) := by
  unfold laws_eqFace.f at H
  refine cG func188 Z ?_
  refine sQ (rG (GO.box (cs := [I d1, I e1]) HS Z Z Z Z fun b1 wd2 HS => GO.box (cs := [I c1, I a1]) HS Z Z Z Z fun b3 wd4 HS => aS Z (nL (rN 2 Z (rG (fL b1 0 fl157_0 Z (lB 1 HS Z na2 Z (fL b3 0 fl157_0 Z (lB 0 HS Z na2 Z (GO.neq Z Z Z Z (nL ?_)))))))))))
  rcases iE H with ⟨c5, H⟩ | ⟨c5, H⟩
  ·
   refine nB Z (nT c5) (rN 3 Z (rG (fL b1 1 fl157_1 Z (lB 1 HS Z na2 Z (fL b3 1 fl157_1 Z (lB 0 HS Z na2 Z (GO.neq Z Z Z Z (nL ?_))))))))
   rcases iE H with ⟨c6, H⟩ | ⟨c6, H⟩
   ·
    refine nB Z (nT c6) (rN 3 Z ?_)
    obtain rfl := sI H
    exact rT _ func188 Z Z ⟨Z, (HS.pk 2 [] Z)⟩
   refine yB Z (nF c6) (rN 2 Z ?_)
   obtain rfl := sI H
   exact rT _ func188 Z Z ⟨Z, (HS.pk 2 [] Z)⟩
  refine yB Z (nF c5) (rN 2 Z ?_)
  obtain rfl := sI H
  exact rT _ func188 Z Z ⟨Z, (HS.pk 2 [] Z)⟩
theorem laws_eqFaceS.calls {a_ b_ : List GFace} {A_a : Option Addr} {c_a : Nat} {A_b : Option Addr} {c_b : Nat} {r1 : Bool} (HS : St w0 w (L)) (r_a : RdIn w0 L T_GFace A_a c_a (fun _ => ()) a_) (r_b : RdIn w0 L T_GFace A_b c_b (fun _ => ()) b_) (H : laws_eqFaceS.f K a_ b_ = some r1) :
    Calls prog 156 #[.slice A_a a_.length c_a, .slice A_b b_.length c_b] w (laws_eqFaceS.post w0 L r1) := by
  unfold laws_eqFaceS.f at H
  refine cG func156 Z ?_
  refine rN 4 Z (rG (mV Z (lS Z Z underlying150 Z (mV Z (lS Z Z underlying150 Z (GO.neq Z Z Z Z (nL ?_)))))))
  rcases iE H with ⟨c1, H⟩ | ⟨c1, H⟩
  ·
   refine nB Z (nT c1) (rN 6 Z ?_)
   refine G.name (fun h1 e1 => ?_)
   have i1 : ∀ a1, a1 ≤ K → ∀ (b1 : Int) (w : World), laws_eqFaceS.l1 K a1 a_ b_ b1 = some r1 → St w0 w (L) → G prog 156 27 [(0, .slice A_a a_.length c_a), (1, .slice A_b b_.length c_b), (5, I b1)] h1 w (laws_eqFaceS.post w0 L r1) := by
    intro a1
    induction a1 using Nat.strongRecOn with
    | _ a1 g1 =>
     intro f1 b1 w H HS
     cases a1 with
     | zero => rw [laws_eqFaceS.l1] at H; cases H
     | succ d1 =>
      rw [laws_eqFaceS.l1] at H
      subst e1
      refine rN 2 Z (rG (pS 2 Z (lS Z Z underlying150 Z (GO.lss Z Z Z Z (nL ?_)))))
      rcases iE H with ⟨c27, H⟩ | ⟨c27, H⟩
      ·
       refine yB Z (tT c27) (rN 4 Z ?_)
       obtain ⟨c28, H⟩ := iN H
       obtain ⟨e29, h30, H⟩ := bnd_elim H
       obtain ⟨c31, H⟩ := iN H
       obtain ⟨e32, h33, H⟩ := bnd_elim H
       obtain ⟨t34, h35, H⟩ := bI H
       refine G.lex mixed [0, 1, 2, 4, 5, 6, 3, 7, 8, 9] (by kernel_rfl) ?_
       replace HS := HS.drew
       refine GX.ps 2 Z (qL Z Z (fun _ _ g => GO.ix Z Z Z underlying150 sz157 (r_a _ HS).2.2.1 c28.1 c28.2 Z g) Z (GX.ps 2 Z (qL Z Z (fun _ _ g => GO.ix Z Z Z underlying150 sz157 (r_b _ HS).2.2.1 c31.1 c31.2 Z g) Z (GX.l1 Z Z Z (fun _ g => GO.ldRdA (T := T_GFace) (n := b1.toNat) HS r_a Z Z (getD_eq (ltN c28) h30) ag157 Z g) Z (GX.l1 Z Z Z (fun _ g => GO.ldRdA (T := T_GFace) (n := b1.toNat) HS r_b Z Z (getD_eq (ltN c31) h33) ag157 Z g) Z (GX.l2 Z (fN Z func188 fok188.1 fok188.2 Z Z (laws_eqFace.calls HS  h35) (fun _ wd36 ⟨h37, HS⟩ => ⟨_, h37, (GX.fin tv (GX.ps 1 Z (GX.nil ?_)))⟩))))))))
       rcases iE H with ⟨c38, H⟩ | ⟨c38, H⟩
       ·
        refine nB Z (congrArg Bool.not c38) (rN 4 Z (G.weak ?_ (g1 d1 (Nat.lt_succ_of_le (lR _)) (Nat.le_of_succ_le f1) _ _ H HS)))
        exact ⟨Z, Z, Z, tv⟩
       refine yB Z (congrArg Bool.not (bnot_of c38)) (rN 2 Z ?_)
       obtain rfl := sI H
       exact rT _ func156 Z Z ⟨Z, HS⟩
      refine nB Z (tF c27) (rN 3 Z ?_)
      obtain rfl := sI H
      exact rT _ func156 Z Z ⟨Z, HS⟩
   refine G.weak ?_ (i1 K (lR _) _ _ H HS)
   exact ⟨Z, Z, Z, tv⟩
  refine yB Z (nF c1) (rN 2 Z ?_)
  obtain rfl := sI H
  exact rT _ func156 Z Z ⟨Z, HS⟩
theorem laws_eqFaceSS.calls {a_ b_ : List (List GFace)} {A_a : Option Addr} {c_a : Nat} {y_a : Nat → (Ty.slice 157 T_GFace).Lay} {A_b : Option Addr} {c_b : Nat} {y_b : Nat → (Ty.slice 157 T_GFace).Lay} {r1 : Bool} (HS : St w0 w (L)) (r_a : RdIn w0 L (Ty.slice 157 T_GFace) A_a c_a y_a a_) (r_b : RdIn w0 L (Ty.slice 157 T_GFace) A_b c_b y_b b_) (H : laws_eqFaceSS.f K a_ b_ = some r1) :
    Calls prog 109 #[.slice A_a a_.length c_a, .slice A_b b_.length c_b] w (laws_eqFaceSS.post w0 L r1) := by
  unfold laws_eqFaceSS.f at H
  refine cG func109 Z ?_
  refine rN 4 Z (rG (mV Z (lS Z Z underlying53 Z (mV Z (lS Z Z underlying53 Z (GO.neq Z Z Z Z (nL ?_)))))))
  rcases iE H with ⟨c1, H⟩ | ⟨c1, H⟩
  ·
   refine nB Z (nT c1) (rN 6 Z ?_)
   refine G.name (fun h1 e1 => ?_)
   have i1 : ∀ a1, a1 ≤ K → ∀ (b1 : Int) (w : World), laws_eqFaceSS.l1 K a1 a_ b_ b1 = some r1 → St w0 w (L) → G prog 109 27 [(0, .slice A_a a_.length c_a), (1, .slice A_b b_.length c_b), (5, I b1)] h1 w (laws_eqFaceSS.post w0 L r1) := by
    intro a1
    induction a1 using Nat.strongRecOn with
    | _ a1 g1 =>
     intro f1 b1 w H HS
     cases a1 with
     | zero => rw [laws_eqFaceSS.l1] at H; cases H
     | succ d1 =>
      rw [laws_eqFaceSS.l1] at H
      subst e1
      refine rN 2 Z (rG (pS 2 Z (lS Z Z underlying53 Z (GO.lss Z Z Z Z (nL ?_)))))
      rcases iE H with ⟨c19, H⟩ | ⟨c19, H⟩
      ·
       refine yB Z (tT c19) (rN 4 Z ?_)
       obtain ⟨c20, H⟩ := iN H
       obtain ⟨c21, H⟩ := iN H
       obtain ⟨t22, h23, H⟩ := bI H
       refine G.lex mixed [0, 1, 2, 4, 5, 6, 3, 7, 8, 9] (by kernel_rfl) ?_
       replace HS := HS.drew
       refine GX.ps 2 Z (qL Z Z (fun _ _ g => GO.ix Z Z Z underlying53 sz150 (r_a _ HS).2.2.1 c20.1 c20.2 Z g) Z (GX.ps 2 Z (qL Z Z (fun _ _ g => GO.ix Z Z Z underlying53 sz150 (r_b _ HS).2.2.1 c21.1 c21.2 Z g) Z (GX.l1 Z Z Z (fun _ g => GO.ldRd (T := (Ty.slice 157 T_GFace)) (n := b1.toNat) (o := 0) HS r_a Z Z (getD_some (d := []) (ltN c20)) Z Z na150 Z g) Z (GX.l1 Z Z Z (fun _ g => GO.ldRd (T := (Ty.slice 157 T_GFace)) (n := b1.toNat) (o := 0) HS r_b Z Z (getD_some (d := []) (ltN c21)) Z Z na150 Z g) Z (GX.l2 Z (fN Z func156 fok156.1 fok156.2 Z Z (laws_eqFaceS.calls HS (RdIn.elem r_a c20.1 c20.2) (RdIn.elem r_b c21.1 c21.2) h23) (fun _ wd24 ⟨h25, HS⟩ => ⟨_, h25, (GX.fin tv (GX.ps 1 Z (GX.nil ?_)))⟩))))))))
       rcases iE H with ⟨c26, H⟩ | ⟨c26, H⟩
       ·
        refine nB Z (congrArg Bool.not c26) (rN 4 Z (G.weak ?_ (g1 d1 (Nat.lt_succ_of_le (lR _)) (Nat.le_of_succ_le f1) _ _ H HS)))
        exact ⟨Z, Z, Z, tv⟩
       refine yB Z (congrArg Bool.not (bnot_of c26)) (rN 2 Z ?_)
       obtain rfl := sI H
       exact rT _ func109 Z Z ⟨Z, HS⟩
      refine nB Z (tF c19) (rN 3 Z ?_)
      obtain rfl := sI H
      exact rT _ func109 Z Z ⟨Z, HS⟩
   refine G.weak ?_ (i1 K (lR _) _ _ H HS)
   exact ⟨Z, Z, Z, tv⟩
  refine yB Z (nF c1) (rN 2 Z ?_)
  obtain rfl := sI H
  exact rT _ func109 Z Z ⟨Z, HS⟩
theorem laws_eqTriangulation.calls {c1 a1 : List (List GFace)} {A_a : Option Addr} {c_a : Nat} {y_a : Nat → (Ty.slice 157 T_GFace).Lay} {A_b : Option Addr} {c_b : Nat} {y_b : Nat → (Ty.slice 157 T_GFace).Lay} {r1 : Bool} (HS : St w0 w (L)) (r_a : RdIn w0 L (Ty.slice 157 T_GFace) A_a c_a y_a c1) (r_b : RdIn w0 L (Ty.slice 157 T_GFace) A_b c_b y_b a1) (H : laws_eqTriangulation.f K c1 a1 = some r1) :
    Calls prog 51 #[.agg [.slice A_a c1.length c_a].toArray, .agg [.slice A_b a1.length c_b].toArray] w (laws_eqTriangulation.post w0 L r1) := by
  unfold laws_eqTriangulation.f at H
  refine cG func51 Z ?_
  refine sQ (rG (GO.box (cs := [.slice A_a c1.length c_a]) HS Z Z Z Z fun b1 wd2 HS => GO.box (cs := [.slice A_b a1.length c_b]) HS Z Z Z Z fun b3 wd4 HS => aS Z (nL (rN 2 Z ?_))))
  obtain ⟨t5, h6, H⟩ := bI H
  refine rG (fL b1 0 fl55_0 Z (lB 1 HS Z na53 Z (fL b3 0 fl55_0 Z (lB 0 HS Z na53 Z (fN Z func109 fok109.1 fok109.2 Z Z (laws_eqFaceSS.calls HS (rD 2 r_a) (rD 2 r_b) h6) (fun _ wd7 ⟨h8, HS⟩ => ⟨_, h8, (GO.not Z Z Z (nL ?_))⟩))))))
  rcases iE H with ⟨c9, H⟩ | ⟨c9, H⟩
  ·
   refine nB Z (congrArg Bool.not c9) (rN 3 Z ?_)
   obtain rfl := sI H
   exact rT _ func51 Z Z ⟨Z, (HS.pk 2 [] Z)⟩
  refine yB Z (congrArg Bool.not (bnot_of c9)) (rN 2 Z ?_)
  obtain rfl := sI H
  exact rT _ func51 Z Z ⟨Z, (HS.pk 2 [] Z)⟩
theorem laws_eqCrossing.calls {a_A a_B : Int} {a_C a_D : Int} {a1 b_A : Int} {b_B b_C : Int} {b_D c1 : Int} {r1 : Bool} (HS : St w0 w (L)) (H : laws_eqCrossing.f a_A a_B a_C a_D a1 b_A b_B b_C b_D c1 = some r1) :
    Calls prog 157 #[.agg [I a_A, I a_B, I a_C, I a_D, I a1].toArray, .agg [I b_A, I b_B, I b_C, I b_D, I c1].toArray] w (laws_eqCrossing.post w0 L r1) := by
  unfold laws_eqCrossing.f at H
  refine cG func157 Z ?_
  refine sQ (rG (GO.box (cs := [I a_A, I a_B, I a_C, I a_D, I a1]) HS Z Z Z Z fun b1 wd2 HS => GO.box (cs := [I b_A, I b_B, I b_C, I b_D, I c1]) HS Z Z Z Z fun b3 wd4 HS => aS Z (nL (rN 2 Z (rG (fL b1 0 fl152_0 Z (lB 1 HS Z na2 Z (fL b3 0 fl152_0 Z (lB 0 HS Z na2 Z (GO.neq Z Z Z Z (nL ?_)))))))))))
  rcases iE H with ⟨c5, H⟩ | ⟨c5, H⟩
  ·
   refine nB Z (nT c5) (rN 3 Z (rG (fL b1 1 fl152_1 Z (lB 1 HS Z na2 Z (fL b3 1 fl152_1 Z (lB 0 HS Z na2 Z (GO.neq Z Z Z Z (nL ?_))))))))
   rcases iE H with ⟨c6, H⟩ | ⟨c6, H⟩
   ·
    refine nB Z (nT c6) (rN 3 Z (rG (fL b1 2 fl152_2 Z (lB 1 HS Z na2 Z (fL b3 2 fl152_2 Z (lB 0 HS Z na2 Z (GO.neq Z Z Z Z (nL ?_))))))))
    rcases iE H with ⟨c7, H⟩ | ⟨c7, H⟩
    ·
     refine nB Z (nT c7) (rN 3 Z (rG (fL b1 3 fl152_3 Z (lB 1 HS Z na2 Z (fL b3 3 fl152_3 Z (lB 0 HS Z na2 Z (GO.neq Z Z Z Z (nL ?_))))))))
     rcases iE H with ⟨c8, H⟩ | ⟨c8, H⟩
     ·
      refine nB Z (nT c8) (rN 3 Z (rG (fL b1 4 fl152_4 Z (lB 1 HS Z na2 Z (fL b3 4 fl152_4 Z (lB 0 HS Z na2 Z (GO.neq Z Z Z Z (nL ?_))))))))
      rcases iE H with ⟨c9, H⟩ | ⟨c9, H⟩
      ·
       refine nB Z (nT c9) (rN 3 Z ?_)
       obtain rfl := sI H
       exact rT _ func157 Z Z ⟨Z, (HS.pk 2 [] Z)⟩
      refine yB Z (nF c9) (rN 2 Z ?_)
      obtain rfl := sI H
      exact rT _ func157 Z Z ⟨Z, (HS.pk 2 [] Z)⟩
     refine yB Z (nF c8) (rN 2 Z ?_)
     obtain rfl := sI H
     exact rT _ func157 Z Z ⟨Z, (HS.pk 2 [] Z)⟩
    refine yB Z (nF c7) (rN 2 Z ?_)
    obtain rfl := sI H
    exact rT _ func157 Z Z ⟨Z, (HS.pk 2 [] Z)⟩
   refine yB Z (nF c6) (rN 2 Z ?_)
   obtain rfl := sI H
   exact rT _ func157 Z Z ⟨Z, (HS.pk 2 [] Z)⟩
  refine yB Z (nF c5) (rN 2 Z ?_)
  obtain rfl := sI H
  exact rT _ func157 Z Z ⟨Z, (HS.pk 2 [] Z)⟩
theorem laws_eqCrossingS.calls {a_ b_ : List GCrossing} {A_a : Option Addr} {c_a : Nat} {A_b : Option Addr} {c_b : Nat} {r1 : Bool} (HS : St w0 w (L)) (r_a : RdIn w0 L T_GCrossing A_a c_a (fun _ => ()) a_) (r_b : RdIn w0 L T_GCrossing A_b c_b (fun _ => ()) b_) (H : laws_eqCrossingS.f K a_ b_ = some r1) :
    Calls prog 110 #[.slice A_a a_.length c_a, .slice A_b b_.length c_b] w (laws_eqCrossingS.post w0 L r1) := by
  unfold laws_eqCrossingS.f at H
  refine cG func110 Z ?_
  refine rN 4 Z (rG (mV Z (lS Z Z underlying56 Z (mV Z (lS Z Z underlying56 Z (GO.neq Z Z Z Z (nL ?_)))))))
  rcases iE H with ⟨c1, H⟩ | ⟨c1, H⟩
  ·
   refine nB Z (nT c1) (rN 6 Z ?_)
   refine G.name (fun h1 e1 => ?_)
   have i1 : ∀ a1, a1 ≤ K → ∀ (b1 : Int) (w : World), laws_eqCrossingS.l1 K a1 a_ b_ b1 = some r1 → St w0 w (L) → G prog 110 27 [(0, .slice A_a a_.length c_a), (1, .slice A_b b_.length c_b), (5, I b1)] h1 w (laws_eqCrossingS.post w0 L r1) := by
    intro a1
    induction a1 using Nat.strongRecOn with
    | _ a1 g1 =>
     intro f1 b1 w H HS
     cases a1 with
     | zero => rw [laws_eqCrossingS.l1] at H; cases H
     | succ d1 =>
      rw [laws_eqCrossingS.l1] at H
      subst e1
      refine rN 2 Z (rG (pS 2 Z (lS Z Z underlying56 Z (GO.lss Z Z Z Z (nL ?_)))))
      rcases iE H with ⟨c27, H⟩ | ⟨c27, H⟩
      ·
       refine yB Z (tT c27) (rN 4 Z ?_)
       obtain ⟨c28, H⟩ := iN H
       obtain ⟨e29, h30, H⟩ := bnd_elim H
       obtain ⟨c31, H⟩ := iN H
       obtain ⟨e32, h33, H⟩ := bnd_elim H
       obtain ⟨t34, h35, H⟩ := bI H
       refine G.lex mixed [0, 1, 2, 4, 5, 6, 3, 7, 8, 9] (by kernel_rfl) ?_
       replace HS := HS.drew
       refine GX.ps 2 Z (qL Z Z (fun _ _ g => GO.ix Z Z Z underlying56 sz152 (r_a _ HS).2.2.1 c28.1 c28.2 Z g) Z (GX.ps 2 Z (qL Z Z (fun _ _ g => GO.ix Z Z Z underlying56 sz152 (r_b _ HS).2.2.1 c31.1 c31.2 Z g) Z (GX.l1 Z Z Z (fun _ g => GO.ldRdA (T := T_GCrossing) (n := b1.toNat) HS r_a Z Z (getD_eq (ltN c28) h30) ag152 Z g) Z (GX.l1 Z Z Z (fun _ g => GO.ldRdA (T := T_GCrossing) (n := b1.toNat) HS r_b Z Z (getD_eq (ltN c31) h33) ag152 Z g) Z (GX.l2 Z (fN Z func157 fok157.1 fok157.2 Z Z (laws_eqCrossing.calls HS  h35) (fun _ wd36 ⟨h37, HS⟩ => ⟨_, h37, (GX.fin tv (GX.ps 1 Z (GX.nil ?_)))⟩))))))))
       rcases iE H with ⟨c38, H⟩ | ⟨c38, H⟩
       ·
        refine nB Z (congrArg Bool.not c38) (rN 4 Z (G.weak ?_ (g1 d1 (Nat.lt_succ_of_le (lR _)) (Nat.le_of_succ_le f1) _ _ H HS)))
        exact ⟨Z, Z, Z, tv⟩
       refine yB Z (congrArg Bool.not (bnot_of c38)) (rN 2 Z ?_)
       obtain rfl := sI H
       exact rT _ func110 Z Z ⟨Z, HS⟩
      refine nB Z (tF c27) (rN 3 Z ?_)
      obtain rfl := sI H
      exact rT _ func110 Z Z ⟨Z, HS⟩
   refine G.weak ?_ (i1 K (lR _) _ _ H HS)
   exact ⟨Z, Z, Z, tv⟩
  refine yB Z (nF c1) (rN 2 Z ?_)
  obtain rfl := sI H
  exact rT _ func110 Z Z ⟨Z, HS⟩
theorem laws_eqDiagram.calls {c1 : List GCrossing} {d1 : Int} {a1 : List GCrossing} {e1 : Int} {A_a : Option Addr} {c_a : Nat} {A_b : Option Addr} {c_b : Nat} {r1 : Bool} (HS : St w0 w (L)) (r_a : RdIn w0 L T_GCrossing A_a c_a (fun _ => ()) c1) (r_b : RdIn w0 L T_GCrossing A_b c_b (fun _ => ()) a1) (H : laws_eqDiagram.f K c1 d1 a1 e1 = some r1) :
    Calls prog 52 #[.agg [.slice A_a c1.length c_a, I d1].toArray, .agg [.slice A_b a1.length c_b, I e1].toArray] w (laws_eqDiagram.post w0 L r1) := by
  unfold laws_eqDiagram.f at H
  refine cG func52 Z ?_
  refine sQ (rG (GO.box (cs := [.slice A_a c1.length c_a, I d1]) HS Z Z Z Z fun b1 wd2 HS => GO.box (cs := [.slice A_b a1.length c_b, I e1]) HS Z Z Z Z fun b3 wd4 HS => aS Z (nL (rN 2 Z ?_))))
  obtain ⟨t5, h6, H⟩ := bI H
  refine rG (fL b1 0 fl58_0 Z (lB 1 HS Z na56 Z (fL b3 0 fl58_0 Z (lB 0 HS Z na56 Z (fN Z func110 fok110.1 fok110.2 Z Z (laws_eqCrossingS.calls HS (rD 2 r_a) (rD 2 r_b) h6) (fun _ wd7 ⟨h8, HS⟩ => ⟨_, h8, (GO.not Z Z Z (nL ?_))⟩))))))
  rcases iE H with ⟨c9, H⟩ | ⟨c9, H⟩
  ·
   refine nB Z (congrArg Bool.not c9) (rN 3 Z (rG (fL b1 1 fl58_1 Z (lB 1 HS Z na2 Z (fL b3 1 fl58_1 Z (lB 0 HS Z na2 Z (GO.neq Z Z Z Z (nL ?_))))))))
   rcases iE H with ⟨c10, H⟩ | ⟨c10, H⟩
   ·
    refine nB Z (nT c10) (rN 3 Z ?_)
    obtain rfl := sI H
    exact rT _ func52 Z Z ⟨Z, (HS.pk 2 [] Z)⟩
   refine yB Z (nF c10) (rN 2 Z ?_)
   obtain rfl := sI H
   exact rT _ func52 Z Z ⟨Z, (HS.pk 2 [] Z)⟩
  refine yB Z (congrArg Bool.not (bnot_of c9)) (rN 2 Z ?_)
  obtain rfl := sI H
  exact rT _ func52 Z Z ⟨Z, (HS.pk 2 [] Z)⟩
theorem laws_eqInt64S.calls {a_ b_ : List Int} {A_a : Option Addr} {c_a : Nat} {A_b : Option Addr} {c_b : Nat} {r1 : Bool} (HS : St w0 w (L)) (r_a : RdIn w0 L (TInt .i64) A_a c_a (fun _ => ()) a_) (r_b : RdIn w0 L (TInt .i64) A_b c_b (fun _ => ()) b_) (H : laws_eqInt64S.f K a_ b_ = some r1) :
    Calls prog 111 #[.slice A_a a_.length c_a, .slice A_b b_.length c_b] w (laws_eqInt64S.post w0 L r1) := by
  unfold laws_eqInt64S.f at H
  refine cG func111 Z ?_
  refine rN 4 Z (rG (mV Z (lS Z Z underlying43 Z (mV Z (lS Z Z underlying43 Z (GO.neq Z Z Z Z (nL ?_)))))))
  rcases iE H with ⟨c1, H⟩ | ⟨c1, H⟩
  ·
   refine nB Z (nT c1) (rN 6 Z ?_)
   refine G.name (fun g1 d1 => ?_)
   have h1 : ∀ a1, a1 ≤ K → ∀ (i_6 : Int) (w : World), laws_eqInt64S.l1 K a1 a_ b_ i_6 = some r1 → St w0 w (L) → G prog 111 26 [(0, .slice A_a a_.length c_a), (1, .slice A_b b_.length c_b), (5, I i_6)] g1 w (laws_eqInt64S.post w0 L r1) := by
    intro a1
    induction a1 using Nat.strongRecOn with
    | _ a1 f1 =>
     intro e1 i_6 w H HS
     cases a1 with
     | zero => rw [laws_eqInt64S.l1] at H; cases H
     | succ b1 =>
      rw [laws_eqInt64S.l1] at H
      subst d1
      refine rN 2 Z (rG (pS 2 Z (lS Z Z underlying43 Z (GO.lss Z Z Z Z (nL ?_)))))
      rcases iE H with ⟨c11, H⟩ | ⟨c11, H⟩
      ·
       refine yB Z (tT c11) (rN 4 Z ?_)
       obtain ⟨c12, H⟩ := iN H
       obtain ⟨c13, H⟩ := iN H
       refine G.lex mixed [0, 1, 2, 4, 5, 6, 3, 7, 8] (by kernel_rfl) ?_
       replace HS := HS.drew
       refine GX.ps 2 Z (qL Z Z (fun _ _ g => GO.ix Z Z Z underlying43 sz2 (r_a _ HS).2.2.1 c12.1 c12.2 Z g) Z (GX.ps 2 Z (qL Z Z (fun _ _ g => GO.ix Z Z Z underlying43 sz2 (r_b _ HS).2.2.1 c13.1 c13.2 Z g) Z (GX.l1 Z Z Z (fun _ g => GO.ldRd (T := (TInt .i64)) (n := i_6.toNat) (o := 0) HS r_a Z Z (getD_some (d := 0) (ltN c12)) Z Z na2 Z g) Z (GX.l1 Z Z Z (fun _ g => GO.ldRd (T := (TInt .i64)) (n := i_6.toNat) (o := 0) HS r_b Z Z (getD_some (d := 0) (ltN c13)) Z Z na2 Z g) Z (GX.ps 1 Z (GX.nil ?_)))))))
       rcases iE H with ⟨c14, H⟩ | ⟨c14, H⟩
       ·
        refine nB Z (nT c14) (rN 4 Z (G.weak ?_ (f1 b1 (Nat.lt_succ_of_le (lR _)) (Nat.le_of_succ_le e1) _ _ H HS)))
        exact ⟨Z, Z, Z, tv⟩
       refine yB Z (nF c14) (rN 2 Z ?_)
       obtain rfl := sI H
       exact rT _ func111 Z Z ⟨Z, HS⟩
      refine nB Z (tF c11) (rN 3 Z ?_)
      obtain rfl := sI H
      exact rT _ func111 Z Z ⟨Z, HS⟩
   refine G.weak ?_ (h1 K (lR _) _ _ H HS)
   exact ⟨Z, Z, Z, tv⟩
  refine yB Z (nF c1) (rN 2 Z ?_)
  obtain rfl := sI H
  exact rT _ func111 Z Z ⟨Z, HS⟩
theorem laws_eqBraid.calls {e1 : Int} {a1 : List Int} {d1 : Int} {c1 : List Int} {A_a : Option Addr} {c_a : Nat} {A_b : Option Addr} {c_b : Nat} {r1 : Bool} (HS : St w0 w (L)) (r_a : RdIn w0 L (TInt .i64) A_a c_a (fun _ => ()) a1) (r_b : RdIn w0 L (TInt .i64) A_b c_b (fun _ => ()) c1) (H : laws_eqBraid.f K e1 a1 d1 c1 = some r1) :
    Calls prog 53 #[.agg [I e1, .slice A_a a1.length c_a].toArray, .agg [I d1, .slice A_b c1.length c_b].toArray] w (laws_eqBraid.post w0 L r1) := by
  unfold laws_eqBraid.f at H
  refine cG func53 Z ?_
  refine sQ (rG (GO.box (cs := [I e1, .slice A_a a1.length c_a]) HS Z Z Z Z fun b1 wd2 HS => GO.box (cs := [I d1, .slice A_b c1.length c_b]) HS Z Z Z Z fun b3 wd4 HS => aS Z (nL (rN 2 Z (rG (fL b1 0 fl59_0 Z (lB 1 HS Z na2 Z (fL b3 0 fl59_0 Z (lB 0 HS Z na2 Z (GO.neq Z Z Z Z (nL ?_)))))))))))
  rcases iE H with ⟨c5, H⟩ | ⟨c5, H⟩
  ·
   refine nB Z (nT c5) (rN 3 Z ?_)
   obtain ⟨t6, h7, H⟩ := bI H
   refine rG (fL b1 1 fl59_1 Z (lB 1 HS Z na43 Z (fL b3 1 fl59_1 Z (lB 0 HS Z na43 Z (fN Z func111 fok111.1 fok111.2 Z Z (laws_eqInt64S.calls HS (rD 2 r_a) (rD 2 r_b) h7) (fun _ wd8 ⟨h9, HS⟩ => ⟨_, h9, (GO.not Z Z Z (nL ?_))⟩))))))
   rcases iE H with ⟨c10, H⟩ | ⟨c10, H⟩
   ·
    refine nB Z (congrArg Bool.not c10) (rN 3 Z ?_)
    obtain rfl := sI H
    exact rT _ func53 Z Z ⟨Z, (HS.pk 2 [] Z)⟩
   refine yB Z (congrArg Bool.not (bnot_of c10)) (rN 2 Z ?_)
   obtain rfl := sI H
   exact rT _ func53 Z Z ⟨Z, (HS.pk 2 [] Z)⟩
  refine yB Z (nF c5) (rN 2 Z ?_)
  obtain rfl := sI H
  exact rT _ func53 Z Z ⟨Z, (HS.pk 2 [] Z)⟩
theorem laws_eqMove.calls {a1 c1 : Int} {e1 g1 : Int} {d1 f1 : Int} {r1 : Bool} (HS : St w0 w (L)) (H : laws_eqMove.f a1 c1 e1 g1 d1 f1 = some r1) :
    Calls prog 158 #[.agg [I a1, I c1, I e1].toArray, .agg [I g1, I d1, I f1].toArray] w (laws_eqMove.post w0 L r1) := by
  unfold laws_eqMove.f at H
  refine cG func158 Z ?_
  refine sQ (rG (GO.box (cs := [I a1, I c1, I e1]) HS Z Z Z Z fun b1 wd2 HS => GO.box (cs := [I g1, I d1, I f1]) HS Z Z Z Z fun b3 wd4 HS => aS Z (nL (rN 2 Z (rG (fL b1 0 fl140_0 Z (lB 1 HS Z na2 Z (fL b3 0 fl140_0 Z (lB 0 HS Z na2 Z (GO.neq Z Z Z Z (nL ?_)))))))))))
  rcases iE H with ⟨c5, H⟩ | ⟨c5, H⟩
  ·
   refine nB Z (nT c5) (rN 3 Z (rG (fL b1 1 fl140_1 Z (lB 1 HS Z na2 Z (fL b3 1 fl140_1 Z (lB 0 HS Z na2 Z (GO.neq Z Z Z Z (nL ?_))))))))
   rcases iE H with ⟨c6, H⟩ | ⟨c6, H⟩
   ·
    refine nB Z (nT c6) (rN 3 Z (rG (fL b1 2 fl140_2 Z (lB 1 HS Z na2 Z (fL b3 2 fl140_2 Z (lB 0 HS Z na2 Z (GO.neq Z Z Z Z (nL ?_))))))))
    rcases iE H with ⟨c7, H⟩ | ⟨c7, H⟩
    ·
     refine nB Z (nT c7) (rN 3 Z ?_)
     obtain rfl := sI H
     exact rT _ func158 Z Z ⟨Z, (HS.pk 2 [] Z)⟩
    refine yB Z (nF c7) (rN 2 Z ?_)
    obtain rfl := sI H
    exact rT _ func158 Z Z ⟨Z, (HS.pk 2 [] Z)⟩
   refine yB Z (nF c6) (rN 2 Z ?_)
   obtain rfl := sI H
   exact rT _ func158 Z Z ⟨Z, (HS.pk 2 [] Z)⟩
  refine yB Z (nF c5) (rN 2 Z ?_)
  obtain rfl := sI H
  exact rT _ func158 Z Z ⟨Z, (HS.pk 2 [] Z)⟩
theorem laws_eqMoveS.calls {a_ b_ : List GMove} {A_a : Option Addr} {c_a : Nat} {A_b : Option Addr} {c_b : Nat} {r1 : Bool} (HS : St w0 w (L)) (r_a : RdIn w0 L T_GMove A_a c_a (fun _ => ()) a_) (r_b : RdIn w0 L T_GMove A_b c_b (fun _ => ()) b_) (H : laws_eqMoveS.f K a_ b_ = some r1) :
    Calls prog 112 #[.slice A_a a_.length c_a, .slice A_b b_.length c_b] w (laws_eqMoveS.post w0 L r1) := by
  unfold laws_eqMoveS.f at H
  refine cG func112 Z ?_
  refine rN 4 Z (rG (mV Z (lS Z Z underlying60 Z (mV Z (lS Z Z underlying60 Z (GO.neq Z Z Z Z (nL ?_)))))))
  rcases iE H with ⟨c1, H⟩ | ⟨c1, H⟩
  ·
   refine nB Z (nT c1) (rN 6 Z ?_)
   refine G.name (fun h1 e1 => ?_)
   have i1 : ∀ a1, a1 ≤ K → ∀ (b1 : Int) (w : World), laws_eqMoveS.l1 K a1 a_ b_ b1 = some r1 → St w0 w (L) → G prog 112 27 [(0, .slice A_a a_.length c_a), (1, .slice A_b b_.length c_b), (5, I b1)] h1 w (laws_eqMoveS.post w0 L r1) := by
    intro a1
    induction a1 using Nat.strongRecOn with
    | _ a1 g1 =>
     intro f1 b1 w H HS
     cases a1 with
     | zero => rw [laws_eqMoveS.l1] at H; cases H
     | succ d1 =>
      rw [laws_eqMoveS.l1] at H
      subst e1
      refine rN 2 Z (rG (pS 2 Z (lS Z Z underlying60 Z (GO.lss Z Z Z Z (nL ?_)))))
      rcases iE H with ⟨c27, H⟩ | ⟨c27, H⟩
      ·
       refine yB Z (tT c27) (rN 4 Z ?_)
       obtain ⟨c28, H⟩ := iN H
       obtain ⟨e29, h30, H⟩ := bnd_elim H
       obtain ⟨c31, H⟩ := iN H
       obtain ⟨e32, h33, H⟩ := bnd_elim H
       obtain ⟨t34, h35, H⟩ := bI H
       refine G.lex mixed [0, 1, 2, 4, 5, 6, 3, 7, 8, 9] (by kernel_rfl) ?_
       replace HS := HS.drew
       refine GX.ps 2 Z (qL Z Z (fun _ _ g => GO.ix Z Z Z underlying60 sz140 (r_a _ HS).2.2.1 c28.1 c28.2 Z g) Z (GX.ps 2 Z (qL Z Z (fun _ _ g => GO.ix Z Z Z underlying60 sz140 (r_b _ HS).2.2.1 c31.1 c31.2 Z g) Z (GX.l1 Z Z Z (fun _ g => GO.ldRdA (T := T_GMove) (n := b1.toNat) HS r_a Z Z (getD_eq (ltN c28) h30) ag140 Z g) Z (GX.l1 Z Z Z (fun _ g => GO.ldRdA (T := T_GMove) (n := b1.toNat) HS r_b Z Z (getD_eq (ltN c31) h33) ag140 Z g) Z (GX.l2 Z (fN Z func158 fok158.1 fok158.2 Z Z (laws_eqMove.calls HS  h35) (fun _ wd36 ⟨h37, HS⟩ => ⟨_, h37, (GX.fin tv (GX.ps 1 Z (GX.nil ?_)))⟩))))))))
       rcases iE H with ⟨c38, H⟩ | ⟨c38, H⟩
       ·
        refine nB Z (congrArg Bool.not c38) (rN 4 Z (G.weak ?_ (g1 d1 (Nat.lt_succ_of_le (lR _)) (Nat.le_of_succ_le f1) _ _ H HS)))
        exact ⟨Z, Z, Z, tv⟩
       refine yB Z (congrArg Bool.not (bnot_of c38)) (rN 2 Z ?_)
       obtain rfl := sI H
       exact rT _ func112 Z Z ⟨Z, HS⟩
      refine nB Z (tF c27) (rN 3 Z ?_)
      obtain rfl := sI H
      exact rT _ func112 Z Z ⟨Z, HS⟩
   refine G.weak ?_ (i1 K (lR _) _ _ H HS)
   exact ⟨Z, Z, Z, tv⟩
  refine yB Z (nF c1) (rN 2 Z ?_)
  obtain rfl := sI H
  exact rT _ func112 Z Z ⟨Z, HS⟩
theorem laws_eqCertificate.calls {m1 k1 : Int} {c1 : List GMove} {f1 d1 : List Int} {i1 h1 : Int} {e1 : List GMove} {a1 g1 : List Int} {A_a : Option Addr} {c_a : Nat} {A_b : Option Addr} {c_b : Nat} {A_c : Option Addr} {c_c : Nat} {A_d : Option Addr} {c_d : Nat} {A_e : Option Addr} {c_e : Nat} {A_f : Option Addr} {c_f : Nat} {r1 : Bool} (HS : St w0 w (L)) (r_a : RdIn w0 L T_GMove A_a c_a (fun _ => ()) c1) (r_b : RdIn w0 L (TInt .i64) A_b c_b (fun _ => ()) f1) (r_c : RdIn w0 L (TInt .i64) A_c c_c (fun _ => ()) d1) (r_d : RdIn w0 L T_GMove A_d c_d (fun _ => ()) e1) (r_e : RdIn w0 L (TInt .i64) A_e c_e (fun _ => ()) a1) (r_f : RdIn w0 L (TInt .i64) A_f c_f (fun _ => ()) g1) (H : laws_eqCertificate.f K m1 k1 c1 f1 d1 i1 h1 e1 a1 g1 = some r1) :
    Calls prog 54 #[.agg [I m1, I k1, .slice A_a c1.length c_a, .slice A_b f1.length c_b, .slice A_c d1.length c_c].toArray, .agg [I i1, I h1, .slice A_d e1.length c_d, .slice A_e a1.length c_e, .slice A_f g1.length c_f].toArray] w (laws_eqCertificate.post w0 L r1) := by
  unfold laws_eqCertificate.f at H
  refine cG func54 Z ?_
  refine sQ (rG (GO.box (cs := [I m1, I k1, .slice A_a c1.length c_a, .slice A_b f1.length c_b, .slice A_c d1.length c_c]) HS Z Z Z Z fun b1 wd2 HS => GO.box (cs := [I i1, I h1, .slice A_d e1.length c_d, .slice A_e a1.length c_e, .slice A_f g1.length c_f]) HS Z Z Z Z fun b3 wd4 HS => aS Z (nL (rN 2 Z (rG (fL b1 0 fl62_0 Z (lB 1 HS Z na2 Z (fL b3 0 fl62_0 Z (lB 0 HS Z na2 Z (GO.neq Z Z Z Z (nL ?_)))))))))))
  rcases iE H with ⟨c5, H⟩ | ⟨c5, H⟩
  ·
   refine nB Z (nT c5) (rN 3 Z (rG (fL b1 1 fl62_1 Z (lB 1 HS Z na2 Z (fL b3 1 fl62_1 Z (lB 0 HS Z na2 Z (GO.neq Z Z Z Z (nL ?_))))))))
   rcases iE H with ⟨c6, H⟩ | ⟨c6, H⟩
   ·
    refine nB Z (nT c6) (rN 3 Z ?_)
    obtain ⟨t7, h8, H⟩ := bI H
    refine rG (fL b1 2 fl62_2 Z (lB 1 HS Z na60 Z (fL b3 2 fl62_2 Z (lB 0 HS Z na60 Z (fN Z func112 fok112.1 fok112.2 Z Z (laws_eqMoveS.calls HS (rD 2 r_a) (rD 2 r_d) h8) (fun _ wd9 ⟨h10, HS⟩ => ⟨_, h10, (GO.not Z Z Z (nL ?_))⟩))))))
    rcases iE H with ⟨c11, H⟩ | ⟨c11, H⟩
    ·
     refine nB Z (congrArg Bool.not c11) (rN 3 Z ?_)
     obtain ⟨t12, h13, H⟩ := bI H
     refine rG (fL b1 3 fl62_3 Z (lB 1 HS Z na43 Z (fL b3 3 fl62_3 Z (lB 0 HS Z na43 Z (fN Z func111 fok111.1 fok111.2 Z Z (laws_eqInt64S.calls HS (rD 2 r_b) (rD 2 r_e) h13) (fun _ wd14 ⟨h15, HS⟩ => ⟨_, h15, (GO.not Z Z Z (nL ?_))⟩))))))
     rcases iE H with ⟨c16, H⟩ | ⟨c16, H⟩
     ·
      refine nB Z (congrArg Bool.not c16) (rN 3 Z ?_)
      obtain ⟨t17, h18, H⟩ := bI H
      refine rG (fL b1 4 fl62_4 Z (lB 1 HS Z na43 Z (fL b3 4 fl62_4 Z (lB 0 HS Z na43 Z (fN Z func111 fok111.1 fok111.2 Z Z (laws_eqInt64S.calls HS (rD 2 r_c) (rD 2 r_f) h18) (fun _ wd19 ⟨h20, HS⟩ => ⟨_, h20, (GO.not Z Z Z (nL ?_))⟩))))))
      rcases iE H with ⟨c21, H⟩ | ⟨c21, H⟩
      ·
       refine nB Z (congrArg Bool.not c21) (rN 3 Z ?_)
       obtain rfl := sI H
       exact rT _ func54 Z Z ⟨Z, (HS.pk 2 [] Z)⟩
      refine yB Z (congrArg Bool.not (bnot_of c21)) (rN 2 Z ?_)
      obtain rfl := sI H
      exact rT _ func54 Z Z ⟨Z, (HS.pk 2 [] Z)⟩
     refine yB Z (congrArg Bool.not (bnot_of c16)) (rN 2 Z ?_)
     obtain rfl := sI H
     exact rT _ func54 Z Z ⟨Z, (HS.pk 2 [] Z)⟩
    refine yB Z (congrArg Bool.not (bnot_of c11)) (rN 2 Z ?_)
    obtain rfl := sI H
    exact rT _ func54 Z Z ⟨Z, (HS.pk 2 [] Z)⟩
   refine yB Z (nF c6) (rN 2 Z ?_)
   obtain rfl := sI H
   exact rT _ func54 Z Z ⟨Z, (HS.pk 2 [] Z)⟩
  refine yB Z (nF c5) (rN 2 Z ?_)
  obtain rfl := sI H
  exact rT _ func54 Z Z ⟨Z, (HS.pk 2 [] Z)⟩
theorem laws_eqItem.calls {c2 : ByteArray} {z1 : Int} {o1 : List (List GFace)} {n1 : List GCrossing} {u1 x1 : Int} {f1 : List Int} {p1 s1 : Int} {m1 : List GMove} {i1 d1 : List Int} {b2 : ByteArray} {a2 : Int} {k1 : List (List GFace)} {h1 : List GCrossing} {v1 y1 : Int} {c1 : List Int} {t1 q1 : Int} {a1 : List GMove} {e1 g1 : List Int} {A_a : Option Addr} {c_a : Nat} {y_a : Nat → (Ty.slice 157 T_GFace).Lay} {A_b : Option Addr} {c_b : Nat} {A_c : Option Addr} {c_c : Nat} {A_d : Option Addr} {c_d : Nat} {A_e : Option Addr} {c_e : Nat} {A_f : Option Addr} {c_f : Nat} {A_g : Option Addr} {c_g : Nat} {y_g : Nat → (Ty.slice 157 T_GFace).Lay} {A_h : Option Addr} {c_h : Nat} {A_i : Option Addr} {c_i : Nat} {A_j : Option Addr} {c_j : Nat} {A_k : Option Addr} {c_k : Nat} {A_l : Option Addr} {c_l : Nat} {r1 : Bool} (HS : St w0 w (L)) (r_a : RdIn w0 L (Ty.slice 157 T_GFace) A_a c_a y_a o1) (r_b : RdIn w0 L T_GCrossing A_b c_b (fun _ => ()) n1) (r_c : RdIn w0 L (TInt .i64) A_c c_c (fun _ => ()) f1) (r_d : RdIn w0 L T_GMove A_d c_d (fun _ => ()) m1) (r_e : RdIn w0 L (TInt .i64) A_e c_e (fun _ => ()) i1) (r_f : RdIn w0 L (TInt .i64) A_f c_f (fun _ => ()) d1) (r_g : RdIn w0 L (Ty.slice 157 T_GFace) A_g c_g y_g k1) (r_h : RdIn w0 L T_GCrossing A_h c_h (fun _ => ()) h1) (r_i : RdIn w0 L (TInt .i64) A_i c_i (fun _ => ()) c1) (r_j : RdIn w0 L T_GMove A_j c_j (fun _ => ()) a1) (r_k : RdIn w0 L (TInt .i64) A_k c_k (fun _ => ()) e1) (r_l : RdIn w0 L (TInt .i64) A_l c_l (fun _ => ()) g1) (H : laws_eqItem.f K c2 z1 o1 n1 u1 x1 f1 p1 s1 m1 i1 d1 b2 a2 k1 h1 v1 y1 c1 t1 q1 a1 e1 g1 = some r1) :
    Calls prog 16 #[.agg [.string c2, I z1, .slice A_a o1.length c_a, .slice A_b n1.length c_b, I u1, I x1, .slice A_c f1.length c_c, I p1, I s1, .slice A_d m1.length c_d, .slice A_e i1.length c_e, .slice A_f d1.length c_f].toArray, .agg [.string b2, I a2, .slice A_g k1.length c_g, .slice A_h h1.length c_h, I v1, I y1, .slice A_i c1.length c_i, I t1, I q1, .slice A_j a1.length c_j, .slice A_k e1.length c_k, .slice A_l g1.length c_l].toArray] w (laws_eqItem.post w0 L r1) := by
  unfold laws_eqItem.f at H
  refine cG func16 Z ?_
  refine sQ (rG (GO.box (cs := [.string c2, I z1, .slice A_a o1.length c_a, .slice A_b n1.length c_b, I u1, I x1, .slice A_c f1.length c_c, I p1, I s1, .slice A_d m1.length c_d, .slice A_e i1.length c_e, .slice A_f d1.length c_f]) HS Z Z Z Z fun b1 wd2 HS => GO.box (cs := [.string b2, I a2, .slice A_g k1.length c_g, .slice A_h h1.length c_h, I v1, I y1, .slice A_i c1.length c_i, I t1, I q1, .slice A_j a1.length c_j, .slice A_k e1.length c_k, .slice A_l g1.length c_l]) HS Z Z Z Z fun b3 wd4 HS => aS Z (nL (rN 2 Z (rG (fL b1 0 fl64_0 Z (lB 1 HS Z na9 Z (fL b3 0 fl64_0 Z (lB 0 HS Z na9 Z (GO.neqS Z Z Z Z (nL ?_)))))))))))
  rcases iE H with ⟨c5, H⟩ | ⟨c5, H⟩
  ·
   refine nB Z (congrArg Bool.not c5) (rN 3 Z (rG (fL b1 1 fl64_1 Z (lB 1 HS Z na2 Z (fL b3 1 fl64_1 Z (lB 0 HS Z na2 Z (GO.neq Z Z Z Z (nL ?_))))))))
   rcases iE H with ⟨c6, H⟩ | ⟨c6, H⟩
   ·
    refine nB Z (nT c6) (rN 3 Z ?_)
    obtain ⟨t7, h8, H⟩ := bI H
    refine rG (fL b1 2 fl64_2 Z (GO.ldBoxA (j := 1) ([.slice A_a o1.length c_a]) HS Z Z Z Z ag55 Z (fL b3 2 fl64_2 Z (GO.ldBoxA (j := 0) ([.slice A_g k1.length c_g]) HS Z Z Z Z ag55 Z (fN Z func51 fok51.1 fok51.2 Z Z (laws_eqTriangulation.calls HS (rD 2 r_a) (rD 2 r_g) h8) (fun _ wd9 ⟨h10, HS⟩ => ⟨_, h10, (GO.not Z Z Z (nL ?_))⟩))))))
    rcases iE H with ⟨c11, H⟩ | ⟨c11, H⟩
    ·
     refine nB Z (congrArg Bool.not c11) (rN 3 Z ?_)
     obtain ⟨t12, h13, H⟩ := bI H
     refine rG (fL b1 3 fl64_3 Z (GO.ldBoxA (j := 1) ([.slice A_b n1.length c_b, I u1]) HS Z Z Z Z ag58 Z (fL b3 3 fl64_3 Z (GO.ldBoxA (j := 0) ([.slice A_h h1.length c_h, I v1]) HS Z Z Z Z ag58 Z (fN Z func52 fok52.1 fok52.2 Z Z (laws_eqDiagram.calls HS (rD 2 r_b) (rD 2 r_h) h13) (fun _ wd14 ⟨h15, HS⟩ => ⟨_, h15, (GO.not Z Z Z (nL ?_))⟩))))))
     rcases iE H with ⟨c16, H⟩ | ⟨c16, H⟩
     ·
      refine nB Z (congrArg Bool.not c16) (rN 3 Z ?_)
      obtain ⟨t17, h18, H⟩ := bI H
      refine rG (fL b1 5 fl64_4 Z (GO.ldBoxA (j := 1) ([I x1, .slice A_c f1.length c_c]) HS Z Z Z Z ag59 Z (fL b3 5 fl64_4 Z (GO.ldBoxA (j := 0) ([I y1, .slice A_i c1.length c_i]) HS Z Z Z Z ag59 Z (fN Z func53 fok53.1 fok53.2 Z Z (laws_eqBraid.calls HS (rD 2 r_c) (rD 2 r_i) h18) (fun _ wd19 ⟨h20, HS⟩ => ⟨_, h20, (GO.not Z Z Z (nL ?_))⟩))))))
      rcases iE H with ⟨c21, H⟩ | ⟨c21, H⟩
      ·
       refine nB Z (congrArg Bool.not c21) (rN 3 Z ?_)
       obtain ⟨t22, h23, H⟩ := bI H
       refine rG (fL b1 7 fl64_5 Z (GO.ldBoxA (j := 1) ([I p1, I s1, .slice A_d m1.length c_d, .slice A_e i1.length c_e, .slice A_f d1.length c_f]) HS Z Z Z Z ag62 Z (fL b3 7 fl64_5 Z (GO.ldBoxA (j := 0) ([I t1, I q1, .slice A_j a1.length c_j, .slice A_k e1.length c_k, .slice A_l g1.length c_l]) HS Z Z Z Z ag62 Z (fN Z func54 fok54.1 fok54.2 Z Z (laws_eqCertificate.calls HS (rD 2 r_d) (rD 2 r_e) (rD 2 r_f) (rD 2 r_j) (rD 2 r_k) (rD 2 r_l) h23) (fun _ wd24 ⟨h25, HS⟩ => ⟨_, h25, (GO.not Z Z Z (nL ?_))⟩))))))
       rcases iE H with ⟨c26, H⟩ | ⟨c26, H⟩
       ·
        refine nB Z (congrArg Bool.not c26) (rN 3 Z ?_)
        obtain rfl := sI H
        exact rT _ func16 Z Z ⟨Z, (HS.pk 2 [] Z)⟩
       refine yB Z (congrArg Bool.not (bnot_of c26)) (rN 2 Z ?_)
       obtain rfl := sI H
       exact rT _ func16 Z Z ⟨Z, (HS.pk 2 [] Z)⟩
      refine yB Z (congrArg Bool.not (bnot_of c21)) (rN 2 Z ?_)
      obtain rfl := sI H
      exact rT _ func16 Z Z ⟨Z, (HS.pk 2 [] Z)⟩
     refine yB Z (congrArg Bool.not (bnot_of c16)) (rN 2 Z ?_)
     obtain rfl := sI H
     exact rT _ func16 Z Z ⟨Z, (HS.pk 2 [] Z)⟩
    refine yB Z (congrArg Bool.not (bnot_of c11)) (rN 2 Z ?_)
    obtain rfl := sI H
    exact rT _ func16 Z Z ⟨Z, (HS.pk 2 [] Z)⟩
   refine yB Z (nF c6) (rN 2 Z ?_)
   obtain rfl := sI H
   exact rT _ func16 Z Z ⟨Z, (HS.pk 2 [] Z)⟩
  refine yB Z (congrArg Bool.not (bnot_of c5)) (rN 2 Z ?_)
  obtain rfl := sI H
  exact rT _ func16 Z Z ⟨Z, (HS.pk 2 [] Z)⟩
theorem laws_eqItemS.calls {a_ b_ : List GItem} {A_a : Option Addr} {c_a : Nat} {y_a : Nat → T_GItem_63.Lay} {A_b : Option Addr} {c_b : Nat} {y_b : Nat → T_GItem_63.Lay} {r1 : Bool} (HS : St w0 w (L)) (r_a : RdIn w0 L T_GItem_63 A_a c_a y_a a_) (r_b : RdIn w0 L T_GItem_63 A_b c_b y_b b_) (H : laws_eqItemS.f K a_ b_ = some r1) :
    Calls prog 32 #[.slice A_a a_.length c_a, .slice A_b b_.length c_b] w (laws_eqItemS.post w0 L r1) := by
  unfold laws_eqItemS.f at H
  refine cG func32 Z ?_
  refine rN 4 Z (rG (mV Z (lS Z Z underlying27 Z (mV Z (lS Z Z underlying27 Z (GO.neq Z Z Z Z (nL ?_)))))))
  rcases iE H with ⟨c1, H⟩ | ⟨c1, H⟩
  ·
   refine nB Z (nT c1) (rN 6 Z ?_)
   refine G.name (fun h1 e1 => ?_)
   have i1 : ∀ a1, a1 ≤ K → ∀ (b1 : Int) (w : World), laws_eqItemS.l1 K a1 a_ b_ b1 = some r1 → St w0 w (L) → G prog 32 27 [(0, .slice A_a a_.length c_a), (1, .slice A_b b_.length c_b), (5, I b1)] h1 w (laws_eqItemS.post w0 L r1) := by
    intro a1
    induction a1 using Nat.strongRecOn with
    | _ a1 g1 =>
     intro f1 b1 w H HS
     cases a1 with
     | zero => rw [laws_eqItemS.l1] at H; cases H
     | succ d1 =>
      rw [laws_eqItemS.l1] at H
      subst e1
      refine rN 2 Z (rG (pS 2 Z (lS Z Z underlying27 Z (GO.lss Z Z Z Z (nL ?_)))))
      rcases iE H with ⟨c27, H⟩ | ⟨c27, H⟩
      ·
       refine yB Z (tT c27) (rN 4 Z ?_)
       obtain ⟨c28, H⟩ := iN H
       obtain ⟨e29, h30, H⟩ := bnd_elim H
       obtain ⟨c31, H⟩ := iN H
       obtain ⟨e32, h33, H⟩ := bnd_elim H
       obtain ⟨t34, h35, H⟩ := bI H
       refine G.lex mixed [0, 1, 2, 4, 5, 6, 3, 7, 8, 9] (by kernel_rfl) ?_
       replace HS := HS.drew
       refine GX.ps 2 Z (qL Z Z (fun _ _ g => GO.ix Z Z Z underlying27 sz64 (r_a _ HS).2.2.1 c28.1 c28.2 Z g) Z (GX.ps 2 Z (qL Z Z (fun _ _ g => GO.ix Z Z Z underlying27 sz64 (r_b _ HS).2.2.1 c31.1 c31.2 Z g) Z (GX.l1 Z Z Z (fun _ g => GO.ldRdA (T := T_GItem_63) (n := b1.toNat) HS r_a Z Z (getD_eq (ltN c28) h30) ag64 Z g) Z (GX.l1 Z Z Z (fun _ g => GO.ldRdA (T := T_GItem_63) (n := b1.toNat) HS r_b Z Z (getD_eq (ltN c31) h33) ag64 Z g) Z (GX.l2 Z (fN Z func16 fok16.1 fok16.2 Z Z (laws_eqItem.calls HS (RdIn.fld r_a (getD_eq (ltN c28) h30) (fun _ h => h.2.2.1)) (RdIn.fld r_a (getD_eq (ltN c28) h30) (fun _ h => h.2.2.2.1)) (RdIn.fld r_a (getD_eq (ltN c28) h30) (fun _ h => h.2.2.2.2.2.2.1)) (RdIn.fld r_a (getD_eq (ltN c28) h30) (fun _ h => h.2.2.2.2.2.2.2.2.2.1)) (RdIn.fld r_a (getD_eq (ltN c28) h30) (fun _ h => h.2.2.2.2.2.2.2.2.2.2.1)) (RdIn.fld r_a (getD_eq (ltN c28) h30) (fun _ h => h.2.2.2.2.2.2.2.2.2.2.2)) (RdIn.fld r_b (getD_eq (ltN c31) h33) (fun _ h => h.2.2.1)) (RdIn.fld r_b (getD_eq (ltN c31) h33) (fun _ h => h.2.2.2.1)) (RdIn.fld r_b (getD_eq (ltN c31) h33) (fun _ h => h.2.2.2.2.2.2.1)) (RdIn.fld r_b (getD_eq (ltN c31) h33) (fun _ h => h.2.2.2.2.2.2.2.2.2.1)) (RdIn.fld r_b (getD_eq (ltN c31) h33) (fun _ h => h.2.2.2.2.2.2.2.2.2.2.1)) (RdIn.fld r_b (getD_eq (ltN c31) h33) (fun _ h => h.2.2.2.2.2.2.2.2.2.2.2)) h35) (fun _ wd36 ⟨h37, HS⟩ => ⟨_, h37, (GX.fin tv (GX.ps 1 Z (GX.nil ?_)))⟩))))))))
       rcases iE H with ⟨c38, H⟩ | ⟨c38, H⟩
       ·
        refine nB Z (congrArg Bool.not c38) (rN 4 Z (G.weak ?_ (g1 d1 (Nat.lt_succ_of_le (lR _)) (Nat.le_of_succ_le f1) _ _ H HS)))
        exact ⟨Z, Z, Z, tv⟩
       refine yB Z (congrArg Bool.not (bnot_of c38)) (rN 2 Z ?_)
       obtain rfl := sI H
       exact rT _ func32 Z Z ⟨Z, HS⟩
      refine nB Z (tF c27) (rN 3 Z ?_)
      obtain rfl := sI H
      exact rT _ func32 Z Z ⟨Z, HS⟩
   refine G.weak ?_ (i1 K (lR _) _ _ H HS)
   exact ⟨Z, Z, Z, tv⟩
  refine yB Z (nF c1) (rN 2 Z ?_)
  obtain rfl := sI H
  exact rT _ func32 Z Z ⟨Z, HS⟩
theorem laws_eqItemSS.calls {a_ b_ : List (List GItem)} {A_a : Option Addr} {c_a : Nat} {y_a : Nat → (Ty.slice 64 T_GItem_63).Lay} {A_b : Option Addr} {c_b : Nat} {y_b : Nat → (Ty.slice 64 T_GItem_63).Lay} {r1 : Bool} (HS : St w0 w (L)) (r_a : RdIn w0 L (Ty.slice 64 T_GItem_63) A_a c_a y_a a_) (r_b : RdIn w0 L (Ty.slice 64 T_GItem_63) A_b c_b y_b b_) (H : laws_eqItemSS.f K a_ b_ = some r1) :
    Calls prog 33 #[.slice A_a a_.length c_a, .slice A_b b_.length c_b] w (laws_eqItemSS.post w0 L r1) := by
  unfold laws_eqItemSS.f at H
  refine cG func33 Z ?_
  refine rN 4 Z (rG (mV Z (lS Z Z underlying28 Z (mV Z (lS Z Z underlying28 Z (GO.neq Z Z Z Z (nL ?_)))))))
  rcases iE H with ⟨c1, H⟩ | ⟨c1, H⟩
  ·
   refine nB Z (nT c1) (rN 6 Z ?_)
   refine G.name (fun h1 e1 => ?_)
   have i1 : ∀ a1, a1 ≤ K → ∀ (b1 : Int) (w : World), laws_eqItemSS.l1 K a1 a_ b_ b1 = some r1 → St w0 w (L) → G prog 33 27 [(0, .slice A_a a_.length c_a), (1, .slice A_b b_.length c_b), (5, I b1)] h1 w (laws_eqItemSS.post w0 L r1) := by
    intro a1
    induction a1 using Nat.strongRecOn with
    | _ a1 g1 =>
     intro f1 b1 w H HS
     cases a1 with
     | zero => rw [laws_eqItemSS.l1] at H; cases H
     | succ d1 =>
      rw [laws_eqItemSS.l1] at H
      subst e1
      refine rN 2 Z (rG (pS 2 Z (lS Z Z underlying28 Z (GO.lss Z Z Z Z (nL ?_)))))
      rcases iE H with ⟨c19, H⟩ | ⟨c19, H⟩
      ·
       refine yB Z (tT c19) (rN 4 Z ?_)
       obtain ⟨c20, H⟩ := iN H
       obtain ⟨c21, H⟩ := iN H
       obtain ⟨t22, h23, H⟩ := bI H
       refine G.lex mixed [0, 1, 2, 4, 5, 6, 3, 7, 8, 9] (by kernel_rfl) ?_
       replace HS := HS.drew
       refine GX.ps 2 Z (qL Z Z (fun _ _ g => GO.ix Z Z Z underlying28 sz27 (r_a _ HS).2.2.1 c20.1 c20.2 Z g) Z (GX.ps 2 Z (qL Z Z (fun _ _ g => GO.ix Z Z Z underlying28 sz27 (r_b _ HS).2.2.1 c21.1 c21.2 Z g) Z (GX.l1 Z Z Z (fun _ g => GO.ldRd (T := (Ty.slice 64 T_GItem_63)) (n := b1.toNat) (o := 0) HS r_a Z Z (getD_some (d := []) (ltN c20)) Z Z na27 Z g) Z (GX.l1 Z Z Z (fun _ g => GO.ldRd (T := (Ty.slice 64 T_GItem_63)) (n := b1.toNat) (o := 0) HS r_b Z Z (getD_some (d := []) (ltN c21)) Z Z na27 Z g) Z (GX.l2 Z (fN Z func32 fok32.1 fok32.2 Z Z (laws_eqItemS.calls HS (RdIn.elem r_a c20.1 c20.2) (RdIn.elem r_b c21.1 c21.2) h23) (fun _ wd24 ⟨h25, HS⟩ => ⟨_, h25, (GX.fin tv (GX.ps 1 Z (GX.nil ?_)))⟩))))))))
       rcases iE H with ⟨c26, H⟩ | ⟨c26, H⟩
       ·
        refine nB Z (congrArg Bool.not c26) (rN 4 Z (G.weak ?_ (g1 d1 (Nat.lt_succ_of_le (lR _)) (Nat.le_of_succ_le f1) _ _ H HS)))
        exact ⟨Z, Z, Z, tv⟩
       refine yB Z (congrArg Bool.not (bnot_of c26)) (rN 2 Z ?_)
       obtain rfl := sI H
       exact rT _ func33 Z Z ⟨Z, HS⟩
      refine nB Z (tF c19) (rN 3 Z ?_)
      obtain rfl := sI H
      exact rT _ func33 Z Z ⟨Z, HS⟩
   refine G.weak ?_ (i1 K (lR _) _ _ H HS)
   exact ⟨Z, Z, Z, tv⟩
  refine yB Z (nF c1) (rN 2 Z ?_)
  obtain rfl := sI H
  exact rT _ func33 Z Z ⟨Z, HS⟩
theorem laws_eqBench.calls {g1 : List GItem} {e1 a1 : List (List GItem)} {f1 : List GItem} {d1 c1 : List (List GItem)} {A_a : Option Addr} {c_a : Nat} {y_a : Nat → T_GItem_63.Lay} {A_b : Option Addr} {c_b : Nat} {y_b : Nat → (Ty.slice 64 T_GItem_63).Lay} {A_c : Option Addr} {c_c : Nat} {y_c : Nat → (Ty.slice 64 T_GItem_63).Lay} {A_d : Option Addr} {c_d : Nat} {y_d : Nat → T_GItem_63.Lay} {A_e : Option Addr} {c_e : Nat} {y_e : Nat → (Ty.slice 64 T_GItem_63).Lay} {A_f : Option Addr} {c_f : Nat} {y_f : Nat → (Ty.slice 64 T_GItem_63).Lay} {r1 : Bool} (HS : St w0 w (L)) (r_a : RdIn w0 L T_GItem_63 A_a c_a y_a g1) (r_b : RdIn w0 L (Ty.slice 64 T_GItem_63) A_b c_b y_b e1) (r_c : RdIn w0 L (Ty.slice 64 T_GItem_63) A_c c_c y_c a1) (r_d : RdIn w0 L T_GItem_63 A_d c_d y_d f1) (r_e : RdIn w0 L (Ty.slice 64 T_GItem_63) A_e c_e y_e d1) (r_f : RdIn w0 L (Ty.slice 64 T_GItem_63) A_f c_f y_f c1) (H : laws_eqBench.f K g1 e1 a1 f1 d1 c1 = some r1) :
    Calls prog 9 #[.agg [.slice A_a g1.length c_a, .slice A_b e1.length c_b, .slice A_c a1.length c_c].toArray, .agg [.slice A_d f1.length c_d, .slice A_e d1.length c_e, .slice A_f c1.length c_f].toArray] w (laws_eqBench.post w0 L r1) := by
  unfold laws_eqBench.f at H
  refine cG func9 Z ?_
  refine sQ (rG (GO.box (cs := [.slice A_a g1.length c_a, .slice A_b e1.length c_b, .slice A_c a1.length c_c]) HS Z Z Z Z fun b1 wd2 HS => GO.box (cs := [.slice A_d f1.length c_d, .slice A_e d1.length c_e, .slice A_f c1.length c_f]) HS Z Z Z Z fun b3 wd4 HS => aS Z (nL (rN 2 Z ?_))))
  obtain ⟨t5, h6, H⟩ := bI H
  refine rG (fL b1 0 fl30_0 Z (lB 1 HS Z na27 Z (fL b3 0 fl30_0 Z (lB 0 HS Z na27 Z (fN Z func32 fok32.1 fok32.2 Z Z (laws_eqItemS.calls HS (rD 2 r_a) (rD 2 r_d) h6) (fun _ wd7 ⟨h8, HS⟩ => ⟨_, h8, (GO.not Z Z Z (nL ?_))⟩))))))
  rcases iE H with ⟨c9, H⟩ | ⟨c9, H⟩
  ·
   refine nB Z (congrArg Bool.not c9) (rN 3 Z ?_)
   obtain ⟨t10, h11, H⟩ := bI H
   refine rG (fL b1 1 fl30_1 Z (lB 1 HS Z na28 Z (fL b3 1 fl30_1 Z (lB 0 HS Z na28 Z (fN Z func33 fok33.1 fok33.2 Z Z (laws_eqItemSS.calls HS (rD 2 r_b) (rD 2 r_e) h11) (fun _ wd12 ⟨h13, HS⟩ => ⟨_, h13, (GO.not Z Z Z (nL ?_))⟩))))))
   rcases iE H with ⟨c14, H⟩ | ⟨c14, H⟩
   ·
    refine nB Z (congrArg Bool.not c14) (rN 3 Z ?_)
    obtain ⟨t15, h16, H⟩ := bI H
    refine rG (fL b1 2 fl30_2 Z (lB 1 HS Z na28 Z (fL b3 2 fl30_2 Z (lB 0 HS Z na28 Z (fN Z func33 fok33.1 fok33.2 Z Z (laws_eqItemSS.calls HS (rD 2 r_c) (rD 2 r_f) h16) (fun _ wd17 ⟨h18, HS⟩ => ⟨_, h18, (GO.not Z Z Z (nL ?_))⟩))))))
    rcases iE H with ⟨c19, H⟩ | ⟨c19, H⟩
    ·
     refine nB Z (congrArg Bool.not c19) (rN 3 Z ?_)
     obtain rfl := sI H
     exact rT _ func9 Z Z ⟨Z, (HS.pk 2 [] Z)⟩
    refine yB Z (congrArg Bool.not (bnot_of c19)) (rN 2 Z ?_)
    obtain rfl := sI H
    exact rT _ func9 Z Z ⟨Z, (HS.pk 2 [] Z)⟩
   refine yB Z (congrArg Bool.not (bnot_of c14)) (rN 2 Z ?_)
   obtain rfl := sI H
   exact rT _ func9 Z Z ⟨Z, (HS.pk 2 [] Z)⟩
  refine yB Z (congrArg Bool.not (bnot_of c9)) (rN 2 Z ?_)
  obtain rfl := sI H
  exact rT _ func9 Z Z ⟨Z, (HS.pk 2 [] Z)⟩
theorem laws_markText.calls {k_ : Int} {r1 : ByteArray} (HS : St w0 w (L)) (H : laws_markText.f K k_ = some r1) :
    Calls prog 70 #[I k_] w (laws_markText.post w0 L r1) := by
  unfold laws_markText.f at H
  refine cG func70 Z ?_
  refine rN 5 Z ?_
  rcases iE H with ⟨c1, H⟩ | ⟨c1, H⟩
  ·
   refine yB Z (tT c1) (rN 2 Z ?_)
   obtain rfl := sI H
   exact rT _ func70 Z Z ⟨Z, HS⟩
  refine nB Z (tF c1) (rN 6 Z ?_)
  refine G.name (fun h1 e1 => ?_)
  have i1 : ∀ a1, a1 ≤ K → ∀ (k_7 : Int) (b1 : ByteArray) (w : World), laws_markText.l1 K a1 k_7 b1 = some r1 → St w0 w (L) → G prog 70 20 [(0, I k_7), (3, .string b1)] h1 w (laws_markText.post w0 L r1) := by
   intro a1
   induction a1 using Nat.strongRecOn with
   | _ a1 g1 =>
    intro f1 k_7 b1 w H HS
    cases a1 with
    | zero => rw [laws_markText.l1] at H; cases H
    | succ d1 =>
     rw [laws_markText.l1] at H
     subst e1
     refine rN 3 Z ?_
     rcases iE H with ⟨c14, H⟩ | ⟨c14, H⟩
     ·
      refine yB Z (tT c14) (rN 3 Z ?_)
      obtain ⟨c17, H⟩ := iN H
      refine rG (mV Z (GO.rem Z Z Z (by decide) Z (GO.add Z Z Z Z (GO.conv Z Z underlying3 underlying5 Z (GO.buildS (el := 5) ([.int .u8 (IntKind.wrap .u8 (w64 (48 + (k_7.tmod 10))))]) HS Z Z (fun _ => by kernel_rfl) Z fun b15 wd16 HS => ?_)))))
      replace HS := HS.boxRow (T := (TInt .u8)) (j := 0) Z flat_flat (fun _ => ()) ([IntKind.wrap .u8 (w64 (48 + (k_7.tmod 10)))] : List Int) Z (bndL Z)
      refine GO.lenC (t := 12) (m := ([IntKind.wrap .u8 (w64 (48 + (k_7.tmod 10)))] : List Int).length) (c' := ([IntKind.wrap .u8 (w64 (48 + (k_7.tmod 10)))] : List Int).length) Z Z Z (GO.bytesStr HS (RdIn.own (j := 0) Z) Z Z underlying148 underlying5 underlying9 Z (mV Z (GO.catS Z Z Z c17 Z (aS Z (nL (rG (mV Z (GO.quo Z Z Z (by decide) Z (aS Z (nL (rN 2 Z (G.weak ?_ (g1 d1 (Nat.lt_succ_of_le (lR _)) (Nat.le_of_succ_le f1) _ _ _ H (HS.pk 1 [] Z))))))))))))))
      exact ⟨Z, Z, tv⟩
     refine nB Z (tF c14) (rN 2 Z ?_)
     obtain ⟨c18, H⟩ := iN H
     refine rG (mV Z (GO.catS Z Z Z c18 Z (aS Z (nL ?_))))
     obtain rfl := sI H
     exact rT _ func70 Z Z ⟨Z, HS⟩
  refine G.weak ?_ (i1 K (lR _) _ _ _ H HS)
  exact ⟨Z, Z, tv⟩
theorem laws_markFaceS.calls {a_ : List GFace} {k_ : Int} {A_a : Option Addr} {c_a : Nat} {r1 : Int} {r2 : List GFace} (HS : St w0 w (Own T_GFace 157 A_a c_a (fun _ => ()) a_ :: L)) (H : laws_markFaceS.f K a_ k_ = some (r1, r2)) :
    Calls prog 115 #[.slice A_a a_.length c_a, I k_] w (laws_markFaceS.post w0 L A_a c_a r1 r2) := by
  unfold laws_markFaceS.f at H
  refine cG func115 Z ?_
  refine rN 7 Z ?_
  refine G.name (fun h1 e1 => ?_)
  have i1 : ∀ c1, c1 ≤ K → ∀ (x10 : List GFace) (b1 a1 : Int) (w : World), laws_markFaceS.l1 K c1 x10 b1 a1 = some (r1, r2) → St w0 w (Own T_GFace 157 A_a c_a (fun _ => ()) x10 :: L) → G prog 115 27 [(0, .slice A_a x10.length c_a), (1, I b1), (5, I a1)] h1 w (laws_markFaceS.post w0 L A_a c_a r1 r2) := by
   intro c1
   induction c1 using Nat.strongRecOn with
   | _ c1 g1 =>
    intro f1 x10 b1 a1 w H HS
    cases c1 with
    | zero => rw [laws_markFaceS.l1] at H; cases H
    | succ d1 =>
     rw [laws_markFaceS.l1] at H
     subst e1
     refine rN 2 Z (rG (pS 2 Z (lS Z Z underlying150 Z (GO.lss Z Z Z Z (nL ?_)))))
     rcases iE H with ⟨c22, H⟩ | ⟨c22, H⟩
     ·
      refine yB Z (tT c22) (rN 4 Z ?_)
      obtain ⟨c23, H⟩ := iN H
      obtain ⟨e25, h26, H⟩ := bnd_elim H
      refine rG (pS 3 Z (GO.ix Z Z Z underlying150 sz157 ((RdIn.own (j := 0) Z) _ HS).2.2.1 c23.1 c23.2 Z (GO.fld (ea A_a (a1.toNat * 2)) Z Z fl157_0 Z Z (GO.stRow (T := T_GFace) (j := 0) (n := a1.toNat) (o := 0) (vs := [I b1]) ({ e25 with Tet := b1 }) HS Z flat_flat Z Z Z Z (htN na2 Z) Z (getD_eq (ltN c23) h26) Z Z fun wd24 HS => nL (G.len (t := 0) (m := (x10.set a1.toNat ({ e25 with Tet := b1 })).length) Z (by simp only [List.length_set] <;> rfl) (rN 3 Z ?_))))))
      obtain ⟨c27, H⟩ := iN H
      obtain ⟨e29, h30, H⟩ := bnd_elim H
      refine rG (pS 3 Z (GO.ix Z Z Z underlying150 sz157 ((RdIn.own (j := 0) Z) _ HS).2.2.1 c27.1 c27.2 Z (GO.fld (ea A_a (a1.toNat * 2 + 1)) Z Z fl157_1 (ea_add _ _ _) Z (GO.stRow (T := T_GFace) (j := 0) (n := a1.toNat) (o := 1) (vs := [I (w64 (b1 + 1))]) ({ e29 with Perm := w64 (b1 + 1) }) HS Z flat_flat Z Z Z Z (htN na2 Z) Z (getD_eq (ltN c27) h30) Z Z fun wd28 HS => nL (G.len (t := 0) (m := ((x10.set a1.toNat ({ e25 with Tet := b1 })).set a1.toNat ({ e29 with Perm := w64 (b1 + 1) })).length) Z (by simp only [List.length_set] <;> rfl) (rN 4 Z (G.weak ?_ (g1 d1 (Nat.lt_succ_of_le (lR _)) (Nat.le_of_succ_le f1) _ _ _ _ H HS))))))))
      exact ⟨Z, Z, Z, tv⟩
     refine nB Z (tF c22) (rN 3 Z ?_)
     obtain ⟨rfl, rfl⟩ := some2 H
     exact rT _ func115 Z Z ⟨Z, HS⟩
  refine G.weak ?_ (i1 K (lR _) _ _ _ _ H HS)
  exact ⟨Z, Z, Z, tv⟩
theorem laws_markFaceSS.calls {a_ : List (List GFace)} {k_ : Int} {A_a : Option Addr} {c_a : Nat} {y_a : Nat → (Ty.slice 157 T_GFace).Lay} {r1 : Int} {r2 : List (List GFace)} (HS : St w0 w (Own (Ty.slice 157 T_GFace) 150 A_a c_a y_a a_ :: L)) (H : laws_markFaceSS.f K a_ k_ = some (r1, r2)) :
    Calls prog 71 #[.slice A_a a_.length c_a, I k_] w (laws_markFaceSS.post w0 L A_a c_a y_a r1 r2) := by
  unfold laws_markFaceSS.f at H
  refine cG func71 Z ?_
  refine rN 7 Z ?_
  refine G.name (fun h1 e1 => ?_)
  have i1 : ∀ b1, b1 ≤ K → ∀ (x9 : List (List GFace)) (c1 a1 : Int) (w : World), laws_markFaceSS.l1 K b1 x9 c1 a1 = some (r1, r2) → St w0 w (Own (Ty.slice 157 T_GFace) 150 A_a c_a y_a x9 :: L) → G prog 71 19 [(0, .slice A_a x9.length c_a), (1, I c1), (5, I a1)] h1 w (laws_markFaceSS.post w0 L A_a c_a y_a r1 r2) := by
   intro b1
   induction b1 using Nat.strongRecOn with
   | _ b1 g1 =>
    intro f1 x9 c1 a1 w H HS
    cases b1 with
    | zero => rw [laws_markFaceSS.l1] at H; cases H
    | succ d1 =>
     rw [laws_markFaceSS.l1] at H
     subst e1
     refine rN 2 Z (rG (pS 2 Z (lS Z Z underlying53 Z (GO.lss Z Z Z Z (nL ?_)))))
     rcases iE H with ⟨c20, H⟩ | ⟨c20, H⟩
     ·
      refine yB Z (tT c20) (rN 3 Z ?_)
      obtain ⟨c21, H⟩ := iN H
      obtain ⟨t22, t23, h24, H⟩ := bind2_elim H
      obtain ⟨c25, H⟩ := iN H
      refine rG (pS 2 Z (GO.ix Z Z Z underlying53 sz150 ((RdIn.own (j := 0) Z) _ HS).2.2.1 c21.1 c21.2 Z (GO.ldRd (T := (Ty.slice 157 T_GFace)) (n := a1.toNat) (o := 0) HS (RdIn.own (j := 0) Z) Z Z (getD_some (d := []) (ltN c21)) Z Z na150 Z (mV Z ?_))))
      replace HS := HS.focusO Fld.id (getD_some (d := []) (ltN c21))
      refine fN Z func115 fok115.1 fok115.2 Z Z (laws_markFaceS.calls HS  h24) (fun _ wd26 ⟨h27, HS⟩ => ⟨_, h27, ?_⟩)
      replace HS := St.unfocusO (y := t23) Fld.id (getD_some (d := []) (ltN c21)) (congrArg (fun m => ([.slice ((y_a a1.toNat).A) m ((y_a a1.toNat).c)] : List Value)) c25) HS
      refine aS Z (nL (G.len (t := 0) (m := (x9.set a1.toNat t23).length) Z (by simp only [List.length_set, List.length_set] <;> rfl) (rN 3 Z (G.weak ?_ (g1 d1 (Nat.lt_succ_of_le (lR _)) (Nat.le_of_succ_le f1) _ _ _ _ H HS)))))
      exact ⟨Z, Z, Z, tv⟩
     refine nB Z (tF c20) (rN 3 Z ?_)
     obtain ⟨rfl, rfl⟩ := some2 H
     exact rT _ func71 Z Z ⟨Z, HS⟩
  refine G.weak ?_ (i1 K (lR _) _ _ _ _ H HS)
  exact ⟨Z, Z, Z, tv⟩
theorem laws_markCrossingS.calls {a_ : List GCrossing} {k_ : Int} {A_a : Option Addr} {c_a : Nat} {r1 : Int} {r2 : List GCrossing} (HS : St w0 w (Own T_GCrossing 152 A_a c_a (fun _ => ()) a_ :: L)) (H : laws_markCrossingS.f K a_ k_ = some (r1, r2)) :
    Calls prog 72 #[.slice A_a a_.length c_a, I k_] w (laws_markCrossingS.post w0 L A_a c_a r1 r2) := by
  unfold laws_markCrossingS.f at H
  refine cG func72 Z ?_
  refine rN 7 Z ?_
  refine G.name (fun h1 e1 => ?_)
  have i1 : ∀ c1, c1 ≤ K → ∀ (x22 : List GCrossing) (b1 a1 : Int) (w : World), laws_markCrossingS.l1 K c1 x22 b1 a1 = some (r1, r2) → St w0 w (Own T_GCrossing 152 A_a c_a (fun _ => ()) x22 :: L) → G prog 72 48 [(0, .slice A_a x22.length c_a), (1, I b1), (5, I a1)] h1 w (laws_markCrossingS.post w0 L A_a c_a r1 r2) := by
   intro c1
   induction c1 using Nat.strongRecOn with
   | _ c1 g1 =>
    intro f1 x22 b1 a1 w H HS
    cases c1 with
    | zero => rw [laws_markCrossingS.l1] at H; cases H
    | succ d1 =>
     rw [laws_markCrossingS.l1] at H
     subst e1
     refine rN 2 Z (rG (pS 2 Z (lS Z Z underlying56 Z (GO.lss Z Z Z Z (nL ?_)))))
     rcases iE H with ⟨c46, H⟩ | ⟨c46, H⟩
     ·
      refine yB Z (tT c46) (rN 4 Z ?_)
      obtain ⟨c47, H⟩ := iN H
      obtain ⟨e49, h50, H⟩ := bnd_elim H
      refine rG (pS 3 Z (GO.ix Z Z Z underlying56 sz152 ((RdIn.own (j := 0) Z) _ HS).2.2.1 c47.1 c47.2 Z (GO.fld (ea A_a (a1.toNat * 5)) Z Z fl152_0 Z Z (GO.stRow (T := T_GCrossing) (j := 0) (n := a1.toNat) (o := 0) (vs := [I b1]) ({ e49 with A := b1 }) HS Z flat_flat Z Z Z Z (htN na2 Z) Z (getD_eq (ltN c47) h50) Z Z fun wd48 HS => nL (G.len (t := 0) (m := (x22.set a1.toNat ({ e49 with A := b1 })).length) Z (by simp only [List.length_set] <;> rfl) (rN 3 Z ?_))))))
      obtain ⟨c51, H⟩ := iN H
      obtain ⟨e53, h54, H⟩ := bnd_elim H
      refine rG (pS 3 Z (GO.ix Z Z Z underlying56 sz152 ((RdIn.own (j := 0) Z) _ HS).2.2.1 c51.1 c51.2 Z (GO.fld (ea A_a (a1.toNat * 5 + 1)) Z Z fl152_1 (ea_add _ _ _) Z (GO.stRow (T := T_GCrossing) (j := 0) (n := a1.toNat) (o := 1) (vs := [I (w64 (b1 + 1))]) ({ e53 with B := w64 (b1 + 1) }) HS Z flat_flat Z Z Z Z (htN na2 Z) Z (getD_eq (ltN c51) h54) Z Z fun wd52 HS => nL (G.len (t := 0) (m := ((x22.set a1.toNat ({ e49 with A := b1 })).set a1.toNat ({ e53 with B := w64 (b1 + 1) })).length) Z (by simp only [List.length_set] <;> rfl) (rN 3 Z ?_))))))
      obtain ⟨c55, H⟩ := iN H
      obtain ⟨e57, h58, H⟩ := bnd_elim H
      refine rG (pS 3 Z (GO.ix Z Z Z underlying56 sz152 ((RdIn.own (j := 0) Z) _ HS).2.2.1 c55.1 c55.2 Z (GO.fld (ea A_a (a1.toNat * 5 + 2)) Z Z fl152_2 (ea_add _ _ _) Z (GO.stRow (T := T_GCrossing) (j := 0) (n := a1.toNat) (o := 2) (vs := [I (w64 ((w64 (b1 + 1)) + 1))]) ({ e57 with C := w64 ((w64 (b1 + 1)) + 1) }) HS Z flat_flat Z Z Z Z (htN na2 Z) Z (getD_eq (ltN c55) h58) Z Z fun wd56 HS => nL (G.len (t := 0) (m := (((x22.set a1.toNat ({ e49 with A := b1 })).set a1.toNat ({ e53 with B := w64 (b1 + 1) })).set a1.toNat ({ e57 with C := w64 ((w64 (b1 + 1)) + 1) })).length) Z (by simp only [List.length_set] <;> rfl) (rN 3 Z ?_))))))
      obtain ⟨c59, H⟩ := iN H
      obtain ⟨e61, h62, H⟩ := bnd_elim H
      refine rG (pS 3 Z (GO.ix Z Z Z underlying56 sz152 ((RdIn.own (j := 0) Z) _ HS).2.2.1 c59.1 c59.2 Z (GO.fld (ea A_a (a1.toNat * 5 + 3)) Z Z fl152_3 (ea_add _ _ _) Z (GO.stRow (T := T_GCrossing) (j := 0) (n := a1.toNat) (o := 3) (vs := [I (w64 ((w64 ((w64 (b1 + 1)) + 1)) + 1))]) ({ e61 with D := w64 ((w64 ((w64 (b1 + 1)) + 1)) + 1) }) HS Z flat_flat Z Z Z Z (htN na2 Z) Z (getD_eq (ltN c59) h62) Z Z fun wd60 HS => nL (G.len (t := 0) (m := ((((x22.set a1.toNat ({ e49 with A := b1 })).set a1.toNat ({ e53 with B := w64 (b1 + 1) })).set a1.toNat ({ e57 with C := w64 ((w64 (b1 + 1)) + 1) })).set a1.toNat ({ e61 with D := w64 ((w64 ((w64 (b1 + 1)) + 1)) + 1) })).length) Z (by simp only [List.length_set] <;> rfl) (rN 3 Z ?_))))))
      obtain ⟨c63, H⟩ := iN H
      obtain ⟨e65, h66, H⟩ := bnd_elim H
      refine rG (pS 3 Z (GO.ix Z Z Z underlying56 sz152 ((RdIn.own (j := 0) Z) _ HS).2.2.1 c63.1 c63.2 Z (GO.fld (ea A_a (a1.toNat * 5 + 4)) Z Z fl152_4 (ea_add _ _ _) Z (GO.stRow (T := T_GCrossing) (j := 0) (n := a1.toNat) (o := 4) (vs := [I (w64 ((w64 ((w64 ((w64 (b1 + 1)) + 1)) + 1)) + 1))]) ({ e65 with Sign := w64 ((w64 ((w64 ((w64 (b1 + 1)) + 1)) + 1)) + 1) }) HS Z flat_flat Z Z Z Z (htN na2 Z) Z (getD_eq (ltN c63) h66) Z Z fun wd64 HS => nL (G.len (t := 0) (m := (((((x22.set a1.toNat ({ e49 with A := b1 })).set a1.toNat ({ e53 with B := w64 (b1 + 1) })).set a1.toNat ({ e57 with C := w64 ((w64 (b1 + 1)) + 1) })).set a1.toNat ({ e61 with D := w64 ((w64 ((w64 (b1 + 1)) + 1)) + 1) })).set a1.toNat ({ e65 with Sign := w64 ((w64 ((w64 ((w64 (b1 + 1)) + 1)) + 1)) + 1) })).length) Z (by simp only [List.length_set] <;> rfl) (rN 4 Z (G.weak ?_ (g1 d1 (Nat.lt_succ_of_le (lR _)) (Nat.le_of_succ_le f1) _ _ _ _ H HS))))))))
      exact ⟨Z, Z, Z, tv⟩
     refine nB Z (tF c46) (rN 3 Z ?_)
     obtain ⟨rfl, rfl⟩ := some2 H
     exact rT _ func72 Z Z ⟨Z, HS⟩
  refine G.weak ?_ (i1 K (lR _) _ _ _ _ H HS)
  exact ⟨Z, Z, Z, tv⟩
end Go.Proofs.YtkmeepgpmppibaaGreatDoor
