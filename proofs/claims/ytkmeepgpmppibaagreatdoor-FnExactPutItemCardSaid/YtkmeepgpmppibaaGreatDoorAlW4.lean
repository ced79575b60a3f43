/-
  The walks through the functions: a call comes to what its list function says.
-/
import Derived.Test.YtkmeepgpmppibaaGreatDoorAlF
import Derived.Test.YtkmeepgpmppibaaGreatDoorAlW2
import Derived.Test.YtkmeepgpmppibaaGreatDoorAlW3
set_option linter.unusedVariables false
set_option linter.unusedSimpArgs false
namespace Go.Proofs.YtkmeepgpmppibaaGreatDoor
open Go.RowKit
open Tryz
variable {w0 w : World} {L : List Cu} {K : Nat}
set_option maxRecDepth 20000
set_option maxHeartbeats 40000000
theorem Gz.calls {e1 f1 : Int} {a1 : List Ci} {d1 c1 : List Int} {A_a : Option Addr} {c_a : Nat} {A_b : Option Addr} {c_b : Nat} {A_c : Option Addr} {c_c : Nat} {r1 : Bool} (HS : St w0 w (L)) (r_a : Aq w0 L Cq A_a c_a (fun _ => ()) a1) (r_b : Aq w0 L (Bq .i64) A_b c_b (fun _ => ()) d1) (r_c : Aq w0 L (Bq .i64) A_c c_c (fun _ => ()) c1) (H : Gz.f K e1 f1 a1 d1 c1 = some r1) :
    Calls prog 102 #[.agg [I e1, I f1, .slice A_a a1.length c_a, .slice A_b d1.length c_b, .slice A_c c1.length c_c].toArray] w (Gz.post w0 L r1) := by
  unfold Gz.f at H
  refine cG func102 Z ?_
  refine sQ (rG (GO.box (cs := [I e1, I f1, .slice A_a a1.length c_a, .slice A_b d1.length c_b, .slice A_c c1.length c_c]) HS Z Z Z Z fun b1 wd2 HS => aS Z (nL (rN 3 Z ?_))))
  obtain ⟨t12, h13, H⟩ := bI H
  rcases iE H with ⟨c16, H⟩ | ⟨c16, H⟩
  ·
   obtain ⟨t17, h18, H⟩ := bI H
   refine rG (fL b1 0 Mw Z (lB 0 HS Z na2 Z (fN Z func146 Zl.1 Zl.2 Z Z (La.calls HS  h13) (fun _ wd14 ⟨h15, HS⟩ => ⟨_, h15, (pS 2 Z (kN 8 Z (congrArg Bool.not c16) (oN Z (fL b1 1 M0 Z (bK (oN Z (lB 0 HS Z na2 Z (bK (oN Z (fN Z func97 Kw.1 Kw.2 Z Z (Ct.calls HS  h18) (fun _ wd19 ⟨h20, HS⟩ => ⟨_, h20, (bK ?_)⟩)))))))))))⟩))))
   refine oN Z (GO.not Z Z Z (bK (pS 2 Z (nL ?_))))
   rcases iE H with ⟨c21, H⟩ | ⟨c21, H⟩
   ·
    refine nB Z (congrArg Bool.not c21) (sQ (rG (fL b1 1 M0 Z (lB 0 HS Z na2 Z (pS 2 Z (nL ?_))))))
    rcases iE H with ⟨c22, H⟩ | ⟨c22, H⟩
    ·
     refine nB Z (nT c22) (rN 3 Z ?_)
     rcases iE H with ⟨c23, H⟩ | ⟨c23, H⟩
     ·
      obtain ⟨t24, h25, H⟩ := bI H
      rcases iE H with ⟨c28, H⟩ | ⟨c28, H⟩
      ·
       refine rG (fL b1 2 Ir Z (lB 0 HS Z Nh Z (lS Z Z underlying60 Z (pS 2 Z (kN 38 Z (tT c23) (oN Z (fL b1 2 Ir Z (bK (oN Z (lB 0 HS Z Nh Z (bK (oN Z (fN Z func147 Px.1 Px.2 Z Z (Bw.calls HS (rD 1 r_a) h25) (fun _ wd26 ⟨h27, HS⟩ => ⟨_, h27, (bK ?_)⟩))))))))))))))
       refine oN Z (GO.not Z Z Z (bK (pS 2 Z (kN 44 Z (congrArg Bool.not c28) (oF Z (oF Z (oF Z (oF Z (oF Z (oF Z (oF Z (pS 2 Z (oF Z (oF Z ?_))))))))))))))
       refine oF Z (oF Z (pS 2 Z (oF Z (oF Z (oF Z (oF Z (pS 2 Z (oF Z (oF Z (oF Z (oF Z (pS 2 Z (nL ?_)))))))))))))
       obtain rfl := sI H
       exact rT _ func102 Z Z ⟨Z, (HS.pk 1 [] Z)⟩
      rcases iE H with ⟨c29, H⟩ | ⟨c29, H⟩
      ·
       rcases iE H with ⟨c30, H⟩ | ⟨c30, H⟩
       ·
        obtain ⟨t31, h32, H⟩ := bI H
        rcases iE H with ⟨c35, H⟩ | ⟨c35, H⟩
        ·
         refine rG (fL b1 2 Ir Z (lB 0 HS Z Nh Z (lS Z Z underlying60 Z (pS 2 Z (kN 38 Z (tT c23) (oN Z (fL b1 2 Ir Z (bK (oN Z (lB 0 HS Z Nh Z (bK (oN Z (fN Z func147 Px.1 Px.2 Z Z (Bw.calls HS (rD 1 r_a) h25) (fun _ wd26 ⟨h27, HS⟩ => ⟨_, h27, (bK ?_)⟩))))))))))))))
         refine oN Z (GO.not Z Z Z (bK (pS 2 Z (kN 44 Z (congrArg Bool.not (Ca c28)) (oN Z (fL b1 3 Je Z (bK (oN Z (lB 0 HS Z H7 Z (bK (oN Z (lS Z Z underlying43 Z (bK (oN Z ?_))))))))))))))
         refine fL b1 4 Lm Z (bK (oN Z (lB 0 HS Z H7 Z (bK (oN Z (lS Z Z underlying43 Z (bK (oN Z (GO.eql Z Z Z Z (bK (pS 2 Z (kN 53 Z (tT c29) (oN Z (fL b1 3 Je Z ?_))))))))))))))
         refine bK (oN Z (lB 0 HS Z H7 Z (bK (oN Z (lS Z Z underlying43 Z (bK (oN Z (GO.leq Z Z Z Z (bK (pS 2 Z (kN 59 Z (tT c30) (oN Z (fL b1 3 Je Z (bK ?_))))))))))))))
         refine oN Z (lB 0 HS Z H7 Z (bK (oN Z (fN Z func143 Q9.1 Q9.2 Z Z (Co.calls HS (rD 1 r_b) h32) (fun _ wd33 ⟨h34, HS⟩ => ⟨_, h34, (bK (oN Z (GO.not Z Z Z (bK (pS 2 Z (kN 65 Z (congrArg Bool.not c35) (oF Z (oF Z (oF Z (oF Z ?_))))))))))⟩)))))
         refine pS 2 Z (nL ?_)
         obtain rfl := sI H
         exact rT _ func102 Z Z ⟨Z, (HS.pk 1 [] Z)⟩
        obtain ⟨t36, h37, H⟩ := bI H
        refine rG (fL b1 2 Ir Z (lB 0 HS Z Nh Z (lS Z Z underlying60 Z (pS 2 Z (kN 38 Z (tT c23) (oN Z (fL b1 2 Ir Z (bK (oN Z (lB 0 HS Z Nh Z (bK (oN Z (fN Z func147 Px.1 Px.2 Z Z (Bw.calls HS (rD 1 r_a) h25) (fun _ wd26 ⟨h27, HS⟩ => ⟨_, h27, (bK ?_)⟩))))))))))))))
        refine oN Z (GO.not Z Z Z (bK (pS 2 Z (kN 44 Z (congrArg Bool.not (Ca c28)) (oN Z (fL b1 3 Je Z (bK (oN Z (lB 0 HS Z H7 Z (bK (oN Z (lS Z Z underlying43 Z (bK (oN Z ?_))))))))))))))
        refine fL b1 4 Lm Z (bK (oN Z (lB 0 HS Z H7 Z (bK (oN Z (lS Z Z underlying43 Z (bK (oN Z (GO.eql Z Z Z Z (bK (pS 2 Z (kN 53 Z (tT c29) (oN Z (fL b1 3 Je Z ?_))))))))))))))
        refine bK (oN Z (lB 0 HS Z H7 Z (bK (oN Z (lS Z Z underlying43 Z (bK (oN Z (GO.leq Z Z Z Z (bK (pS 2 Z (kN 59 Z (tT c30) (oN Z (fL b1 3 Je Z (bK ?_))))))))))))))
        refine oN Z (lB 0 HS Z H7 Z (bK (oN Z (fN Z func143 Q9.1 Q9.2 Z Z (Co.calls HS (rD 1 r_b) h32) (fun _ wd33 ⟨h34, HS⟩ => ⟨_, h34, (bK (oN Z (GO.not Z Z Z (bK (pS 2 Z (kN 65 Z (congrArg Bool.not (Ca c35)) (oN Z (fL b1 4 Lm Z (bK (oN Z ?_))))))))))⟩)))))
        refine lB 0 HS Z H7 Z (bK (oN Z (fN Z func143 Q9.1 Q9.2 Z Z (Cx.calls HS (rD 1 r_c) h37) (fun _ wd38 ⟨h39, HS⟩ => ⟨_, h39, (bK (oN Z (GO.not Z Z Z (bK (pS 2 Z (nL ?_))))))⟩))))
        obtain rfl := sI H
        exact rT _ func102 Z Z ⟨Z, (HS.pk 1 [] Z)⟩
       refine rG (fL b1 2 Ir Z (lB 0 HS Z Nh Z (lS Z Z underlying60 Z (pS 2 Z (kN 38 Z (tT c23) (oN Z (fL b1 2 Ir Z (bK (oN Z (lB 0 HS Z Nh Z (bK (oN Z (fN Z func147 Px.1 Px.2 Z Z (Bw.calls HS (rD 1 r_a) h25) (fun _ wd26 ⟨h27, HS⟩ => ⟨_, h27, (bK ?_)⟩))))))))))))))
       refine oN Z (GO.not Z Z Z (bK (pS 2 Z (kN 44 Z (congrArg Bool.not (Ca c28)) (oN Z (fL b1 3 Je Z (bK (oN Z (lB 0 HS Z H7 Z (bK (oN Z (lS Z Z underlying43 Z (bK (oN Z ?_))))))))))))))
       refine fL b1 4 Lm Z (bK (oN Z (lB 0 HS Z H7 Z (bK (oN Z (lS Z Z underlying43 Z (bK (oN Z (GO.eql Z Z Z Z (bK (pS 2 Z (kN 53 Z (tT c29) (oN Z (fL b1 3 Je Z ?_))))))))))))))
       refine bK (oN Z (lB 0 HS Z H7 Z (bK (oN Z (lS Z Z underlying43 Z (bK (oN Z (GO.leq Z Z Z Z (bK (pS 2 Z (kN 59 Z (tF c30) (oF Z (oF Z (oF Z ?_))))))))))))))
       refine oF Z (pS 2 Z (oF Z (oF Z (oF Z (oF Z (pS 2 Z (nL ?_)))))))
       obtain rfl := sI H
       exact rT _ func102 Z Z ⟨Z, (HS.pk 1 [] Z)⟩
      refine rG (fL b1 2 Ir Z (lB 0 HS Z Nh Z (lS Z Z underlying60 Z (pS 2 Z (kN 38 Z (tT c23) (oN Z (fL b1 2 Ir Z (bK (oN Z (lB 0 HS Z Nh Z (bK (oN Z (fN Z func147 Px.1 Px.2 Z Z (Bw.calls HS (rD 1 r_a) h25) (fun _ wd26 ⟨h27, HS⟩ => ⟨_, h27, (bK ?_)⟩))))))))))))))
      refine oN Z (GO.not Z Z Z (bK (pS 2 Z (kN 44 Z (congrArg Bool.not (Ca c28)) (oN Z (fL b1 3 Je Z (bK (oN Z (lB 0 HS Z H7 Z (bK (oN Z (lS Z Z underlying43 Z (bK (oN Z ?_))))))))))))))
      refine fL b1 4 Lm Z (bK (oN Z (lB 0 HS Z H7 Z (bK (oN Z (lS Z Z underlying43 Z (bK (oN Z (GO.eql Z Z Z Z (bK (pS 2 Z (kN 53 Z (tF c29) (oF Z (oF Z ?_))))))))))))))
      refine oF Z (oF Z (pS 2 Z (oF Z (oF Z (oF Z (oF Z (pS 2 Z (oF Z (oF Z (oF Z (oF Z (pS 2 Z (nL ?_)))))))))))))
      obtain rfl := sI H
      exact rT _ func102 Z Z ⟨Z, (HS.pk 1 [] Z)⟩
     refine rG (fL b1 2 Ir Z (lB 0 HS Z Nh Z (lS Z Z underlying60 Z (pS 2 Z (kN 38 Z (tF c23) (oF Z (oF Z (oF Z (oF Z (pS 2 Z (oF Z (oF Z (oF Z (oF Z ?_))))))))))))))
     refine oF Z (oF Z (oF Z (pS 2 Z (oF Z (oF Z (oF Z (oF Z (pS 2 Z (oF Z (oF Z (oF Z (oF Z (pS 2 Z (oF Z ?_))))))))))))))
     refine oF Z (oF Z (oF Z (pS 2 Z (nL ?_))))
     obtain rfl := sI H
     exact rT _ func102 Z Z ⟨Z, (HS.pk 1 [] Z)⟩
    refine yB Z (nF c22) (sQ ?_)
    rcases iE H with ⟨c40, H⟩ | ⟨c40, H⟩
    ·
     rcases iE H with ⟨c41, H⟩ | ⟨c41, H⟩
     ·
      refine rG (fL b1 2 Ir Z (lB 0 HS Z Nh Z (lS Z Z underlying60 Z (pS 2 Z (kN 22 Z (tT c40) (oN Z (fL b1 3 Je Z (bK (oN Z (lB 0 HS Z H7 Z (bK (oN Z (lS Z Z underlying43 Z (bK ?_))))))))))))))
      refine oN Z (GO.eql Z Z Z Z (bK (pS 2 Z (kN 28 Z (tT c41) (oN Z (fL b1 4 Lm Z (bK (oN Z (lB 0 HS Z H7 Z (bK (oN Z (lS Z Z underlying43 Z (bK (oN Z ?_))))))))))))))
      refine GO.eql Z Z Z Z (bK (pS 2 Z (nL ?_)))
      obtain rfl := sI H
      exact rT _ func102 Z Z ⟨Z, (HS.pk 1 [] Z)⟩
     refine rG (fL b1 2 Ir Z (lB 0 HS Z Nh Z (lS Z Z underlying60 Z (pS 2 Z (kN 22 Z (tT c40) (oN Z (fL b1 3 Je Z (bK (oN Z (lB 0 HS Z H7 Z (bK (oN Z (lS Z Z underlying43 Z (bK ?_))))))))))))))
     refine oN Z (GO.eql Z Z Z Z (bK (pS 2 Z (kN 28 Z (tF c41) (oF Z (oF Z (oF Z (oF Z (pS 2 Z (nL ?_))))))))))
     obtain rfl := sI H
     exact rT _ func102 Z Z ⟨Z, (HS.pk 1 [] Z)⟩
    refine rG (fL b1 2 Ir Z (lB 0 HS Z Nh Z (lS Z Z underlying60 Z (pS 2 Z (kN 22 Z (tF c40) (oF Z (oF Z (oF Z (oF Z (pS 2 Z (oF Z (oF Z (oF Z (oF Z ?_))))))))))))))
    refine pS 2 Z (nL ?_)
    obtain rfl := sI H
    exact rT _ func102 Z Z ⟨Z, (HS.pk 1 [] Z)⟩
   refine yB Z (congrArg Bool.not (Ca c21)) (rN 2 Z ?_)
   obtain rfl := sI H
   exact rT _ func102 Z Z ⟨Z, (HS.pk 1 [] Z)⟩
  refine rG (fL b1 0 Mw Z (lB 0 HS Z na2 Z (fN Z func146 Zl.1 Zl.2 Z Z (La.calls HS  h13) (fun _ wd14 ⟨h15, HS⟩ => ⟨_, h15, (pS 2 Z (kN 8 Z (congrArg Bool.not (Ca c16)) (oF Z (oF Z (oF Z (oF Z (pS 2 Z (nL (rN 3 Z ?_)))))))))⟩))))
  obtain rfl := sI H
  exact rT _ func102 Z Z ⟨Z, (HS.pk 1 [] Z)⟩
theorem Ig.calls {o1 : ByteArray} {n1 : Int} {c1 : List (List Bt)} {g1 : List Al} {h1 k1 : Int} {d1 : List Int} {i1 m1 : Int} {e1 : List Ci} {f1 a1 : List Int} {A_a : Option Addr} {c_a : Nat} {y_a : Nat → (Ty.slice 157 Bc).Lay} {A_b : Option Addr} {c_b : Nat} {A_c : Option Addr} {c_c : Nat} {A_d : Option Addr} {c_d : Nat} {A_e : Option Addr} {c_e : Nat} {A_f : Option Addr} {c_f : Nat} {r1 : Bool} (HS : St w0 w (L)) (r_a : Aq w0 L (Ty.slice 157 Bc) A_a c_a y_a c1) (r_b : Aq w0 L Bb A_b c_b (fun _ => ()) g1) (r_c : Aq w0 L (Bq .i64) A_c c_c (fun _ => ()) d1) (r_d : Aq w0 L Cq A_d c_d (fun _ => ()) e1) (r_e : Aq w0 L (Bq .i64) A_e c_e (fun _ => ()) f1) (r_f : Aq w0 L (Bq .i64) A_f c_f (fun _ => ()) a1) (H : Ig.f K o1 n1 c1 g1 h1 k1 d1 i1 m1 e1 f1 a1 = some r1) :
    Calls prog 48 #[.agg [.string o1, I n1, .slice A_a c1.length c_a, .slice A_b g1.length c_b, I h1, I k1, .slice A_c d1.length c_c, I i1, I m1, .slice A_d e1.length c_d, .slice A_e f1.length c_e, .slice A_f a1.length c_f].toArray] w (Ig.post w0 L r1) := by
  unfold Ig.f at H
  refine cG func48 Z ?_
  refine sQ ?_
  refine rG ?_
  refine GO.box (cs := [.string o1, I n1, .slice A_a c1.length c_a, .slice A_b g1.length c_b, I h1, I k1, .slice A_c d1.length c_c, I i1, I m1, .slice A_d e1.length c_d, .slice A_e f1.length c_e, .slice A_f a1.length c_f]) HS Z Z Z Z ?_; intro b1 wd2 HS
  refine aS Z ?_
  refine nL ?_
  refine rN 2 Z ?_
  obtain ⟨t12, h13, H⟩ := bI H
  rcases iE H with ⟨c16, H⟩ | ⟨c16, H⟩
  ·
   obtain ⟨t17, h18, H⟩ := bI H
   refine rG ?_
   refine fL b1 0 K7 Z ?_
   refine lB 0 HS Z na9 Z ?_
   refine fN Z func96 gK.1 gK.2 Z Z (Io.calls HS  h13) (fun _ wd14 ⟨h15, HS⟩ => ⟨_, h15, ?_⟩)
   refine pS 2 Z ?_
   refine kN 8 Z (congrArg Bool.not c16) ?_
   refine oN Z ?_
   refine fL b1 1 Mk Z ?_
   refine bK ?_
   refine oN Z ?_
   refine lB 0 HS Z na2 Z ?_
   refine bK ?_
   refine oN Z ?_
   refine fN Z func97 Kw.1 Kw.2 Z Z (Ct.calls HS  h18) (fun _ wd19 ⟨h20, HS⟩ => ⟨_, h20, ?_⟩)
   refine bK ?_
   refine oN Z ?_
   refine GO.not Z Z Z ?_
   refine bK ?_
   refine GO.Js Z Z Z Z Z ?_
   refine nL ?_
   rcases iE H with ⟨c21, H⟩ | ⟨c21, H⟩
   ·
    refine nB Z (congrArg Bool.not c21) ?_
    refine rN 2 Z ?_
    obtain ⟨t22, t23, t24, t25, h26, H⟩ := K6 H
    refine rG ?_
    refine GO.Bu (j := 0) ([.string o1, I n1, .slice A_a c1.length c_a, .slice A_b g1.length c_b, I h1, I k1, .slice A_c d1.length c_c, I i1, I m1, .slice A_d e1.length c_d, .slice A_e f1.length c_e, .slice A_f a1.length c_f]) HS Z Z Z Z Mq Z ?_
    refine fN Z func98 uF.1 uF.2 Z Z (Le.calls HS (rD 1 r_a) (rD 1 r_b) (rD 1 r_c) (rD 1 r_d) (rD 1 r_e) (rD 1 r_f) h26) (fun _ wd27 ⟨h28, HS⟩ => ⟨_, h28, ?_⟩)
    refine GO.alloc HS Z uH Z Z ?_; intro b29 wd30 HS
    refine GO.C8 (j := 0) (vs := [.bool t22, .bool t23, .bool t24, .bool t25]) ([.bool t22, .bool t23, .bool t24, .bool t25]) HS Z Z Z Z Z (htA Vn) Z Z Z ?_; intro wd31 HS
    refine nL ?_
    refine sQ ?_
    rcases iE H with ⟨c32, H⟩ | ⟨c32, H⟩
    ·
     refine rG ?_
     refine fL b1 1 Mk Z ?_
     refine lB 1 HS Z na2 Z ?_
     refine GO.sub Z Z Z Z ?_
     refine GO.ixP 0 Z Z Z c32 underlying134 sz4 Z Z ?_
     refine GO.C8 (j := 0) (vs := [.bool false]) ([.bool false, .bool t23, .bool t24, .bool t25]) HS Z Z Z Z Z (htN na4 Z) Z Z Z ?_; intro wd33 HS
     refine nL ?_
     refine rN 2 Z ?_
     refine rG ?_
     refine GO.Bu (j := 0) ([.bool false, .bool t23, .bool t24, .bool t25]) HS Z Z Z Z Vn Z ?_
     refine GO.I9 (.agg [.bool false, .bool false, .bool false, .bool false].toArray) Z Z (fun _ => by kernel_rfl) Z ?_
     refine GO.bT Z Z Z gM (fun _ => eP) Z ?_
     refine nL ?_
     rcases iE H with ⟨c34, H⟩ | ⟨c34, H⟩
     ·
      refine nB Z (nT c34) ?_
      refine rN 3 Z ?_
      refine rG ?_
      refine fL b1 1 Mk Z ?_
      refine lB 1 HS Z na2 Z ?_
      refine nL ?_
      refine rN 3 Z ?_
      rcases iE H with ⟨c35, H⟩ | ⟨c35, H⟩
      ·
       refine yB Z (tT c35) ?_
       refine sQ ?_
       obtain ⟨t36, h37, H⟩ := bI H
       refine rG ?_
       refine fL b1 2 Nk Z ?_
       refine GO.Bu (j := 1) ([.slice A_a c1.length c_a]) HS Z Z Z Z Oc Z ?_
       refine fN Z func99 U2.1 U2.2 Z Z (Bp.calls HS (rD 2 r_a) h37) (fun _ wd38 ⟨h39, HS⟩ => ⟨_, h39, ?_⟩)
       refine aS Z ?_
       refine nL ?_
       obtain rfl := sI H
       exact rT _ func48 Z Z ⟨Z, (HS.pk 2 [] Z)⟩
      refine nB Z (tF c35) ?_
      refine rN 2 Z ?_
      rcases iE H with ⟨c40, H⟩ | ⟨c40, H⟩
      ·
       refine yB Z (tT c40) ?_
       refine sQ ?_
       obtain ⟨t41, h42, H⟩ := bI H
       refine rG ?_
       refine fL b1 3 L8 Z ?_
       refine GO.Bu (j := 1) ([.slice A_b g1.length c_b, I h1]) HS Z Z Z Z Np Z ?_
       refine fN Z func100 Qu.1 Qu.2 Z Z (Gf.calls HS (rD 2 r_b) h42) (fun _ wd43 ⟨h44, HS⟩ => ⟨_, h44, ?_⟩)
       refine aS Z ?_
       refine nL ?_
       obtain rfl := sI H
       exact rT _ func48 Z Z ⟨Z, (HS.pk 2 [] Z)⟩
      refine nB Z (tF c40) ?_
      refine rN 2 Z ?_
      rcases iE H with ⟨c45, H⟩ | ⟨c45, H⟩
      ·
       refine yB Z (tT c45) ?_
       refine sQ ?_
       obtain ⟨t46, h47, H⟩ := bI H
       refine rG ?_
       refine fL b1 5 Ml Z ?_
       refine GO.Bu (j := 1) ([I k1, .slice A_c d1.length c_c]) HS Z Z Z Z Rz Z ?_
       refine fN Z func101 Rn.1 Rn.2 Z Z (G5.calls HS (rD 2 r_c) h47) (fun _ wd48 ⟨h49, HS⟩ => ⟨_, h49, ?_⟩)
       refine aS Z ?_
       refine nL ?_
       obtain rfl := sI H
       exact rT _ func48 Z Z ⟨Z, (HS.pk 2 [] Z)⟩
      refine nB Z (tF c45) ?_
      refine rN 3 Z ?_
      obtain ⟨t50, h51, H⟩ := bI H
      refine rG ?_
      refine fL b1 7 K4 Z ?_
      refine GO.Bu (j := 1) ([I i1, I m1, .slice A_d e1.length c_d, .slice A_e f1.length c_e, .slice A_f a1.length c_f]) HS Z Z Z Z Qn Z ?_
      refine fN Z func102 Rq.1 Rq.2 Z Z (Gz.calls HS (rD 2 r_d) (rD 2 r_e) (rD 2 r_f) h51) (fun _ wd52 ⟨h53, HS⟩ => ⟨_, h53, ?_⟩)
      refine aS Z ?_
      refine nL ?_
      obtain rfl := sI H
      exact rT _ func48 Z Z ⟨Z, (HS.pk 2 [] Z)⟩
     refine yB Z (nF c34) ?_
     refine rN 2 Z ?_
     obtain rfl := sI H
     exact rT _ func48 Z Z ⟨Z, (HS.pk 2 [] Z)⟩
    rcases iE H with ⟨c54, H⟩ | ⟨c54, H⟩
    ·
     refine rG ?_
     refine fL b1 1 Mk Z ?_
     refine lB 1 HS Z na2 Z ?_
     refine GO.sub Z Z Z Z ?_
     refine GO.ixP 1 Z Z Z c54 underlying134 sz4 Z Z ?_
     refine GO.C8 (j := 0) (vs := [.bool false]) ([.bool t22, .bool false, .bool t24, .bool t25]) HS Z Z Z Z Z (htN na4 Z) Z Z Z ?_; intro wd55 HS
     refine nL ?_
     refine rN 2 Z ?_
     refine rG ?_
     refine GO.Bu (j := 0) ([.bool t22, .bool false, .bool t24, .bool t25]) HS Z Z Z Z Vn Z ?_
     refine GO.I9 (.agg [.bool false, .bool false, .bool false, .bool false].toArray) Z Z (fun _ => by kernel_rfl) Z ?_
     refine GO.bT Z Z Z gM (fun _ => eP) Z ?_
     refine nL ?_
     rcases iE H with ⟨c56, H⟩ | ⟨c56, H⟩
     ·
      refine nB Z (nT c56) ?_
      refine rN 3 Z ?_
      refine rG ?_
      refine fL b1 1 Mk Z ?_
      refine lB 1 HS Z na2 Z ?_
      refine nL ?_
      refine rN 3 Z ?_
      rcases iE H with ⟨c57, H⟩ | ⟨c57, H⟩
      ·
       refine yB Z (tT c57) ?_
       refine sQ ?_
       obtain ⟨t58, h59, H⟩ := bI H
       refine rG ?_
       refine fL b1 2 Nk Z ?_
       refine GO.Bu (j := 1) ([.slice A_a c1.length c_a]) HS Z Z Z Z Oc Z ?_
       refine fN Z func99 U2.1 U2.2 Z Z (Bp.calls HS (rD 2 r_a) h59) (fun _ wd60 ⟨h61, HS⟩ => ⟨_, h61, ?_⟩)
       refine aS Z ?_
       refine nL ?_
       obtain rfl := sI H
       exact rT _ func48 Z Z ⟨Z, (HS.pk 2 [] Z)⟩
      refine nB Z (tF c57) ?_
      refine rN 2 Z ?_
      rcases iE H with ⟨c62, H⟩ | ⟨c62, H⟩
      ·
       refine yB Z (tT c62) ?_
       refine sQ ?_
       obtain ⟨t63, h64, H⟩ := bI H
       refine rG ?_
       refine fL b1 3 L8 Z ?_
       refine GO.Bu (j := 1) ([.slice A_b g1.length c_b, I h1]) HS Z Z Z Z Np Z ?_
       refine fN Z func100 Qu.1 Qu.2 Z Z (Gf.calls HS (rD 2 r_b) h64) (fun _ wd65 ⟨h66, HS⟩ => ⟨_, h66, ?_⟩)
       refine aS Z ?_
       refine nL ?_
       obtain rfl := sI H
       exact rT _ func48 Z Z ⟨Z, (HS.pk 2 [] Z)⟩
      refine nB Z (tF c62) ?_
      refine rN 2 Z ?_
      rcases iE H with ⟨c67, H⟩ | ⟨c67, H⟩
      ·
       refine yB Z (tT c67) ?_
       refine sQ ?_
       obtain ⟨t68, h69, H⟩ := bI H
       refine rG ?_
       refine fL b1 5 Ml Z ?_
       refine GO.Bu (j := 1) ([I k1, .slice A_c d1.length c_c]) HS Z Z Z Z Rz Z ?_
       refine fN Z func101 Rn.1 Rn.2 Z Z (G5.calls HS (rD 2 r_c) h69) (fun _ wd70 ⟨h71, HS⟩ => ⟨_, h71, ?_⟩)
       refine aS Z ?_
       refine nL ?_
       obtain rfl := sI H
       exact rT _ func48 Z Z ⟨Z, (HS.pk 2 [] Z)⟩
      refine nB Z (tF c67) ?_
      refine rN 3 Z ?_
      obtain ⟨t72, h73, H⟩ := bI H
      refine rG ?_
      refine fL b1 7 K4 Z ?_
      refine GO.Bu (j := 1) ([I i1, I m1, .slice A_d e1.length c_d, .slice A_e f1.length c_e, .slice A_f a1.length c_f]) HS Z Z Z Z Qn Z ?_
      refine fN Z func102 Rq.1 Rq.2 Z Z (Gz.calls HS (rD 2 r_d) (rD 2 r_e) (rD 2 r_f) h73) (fun _ wd74 ⟨h75, HS⟩ => ⟨_, h75, ?_⟩)
      refine aS Z ?_
      refine nL ?_
      obtain rfl := sI H
      exact rT _ func48 Z Z ⟨Z, (HS.pk 2 [] Z)⟩
     refine yB Z (nF c56) ?_
     refine rN 2 Z ?_
     obtain rfl := sI H
     exact rT _ func48 Z Z ⟨Z, (HS.pk 2 [] Z)⟩
    rcases iE H with ⟨c76, H⟩ | ⟨c76, H⟩
    ·
     refine rG ?_
     refine fL b1 1 Mk Z ?_
     refine lB 1 HS Z na2 Z ?_
     refine GO.sub Z Z Z Z ?_
     refine GO.ixP 2 Z Z Z c76 underlying134 sz4 Z Z ?_
     refine GO.C8 (j := 0) (vs := [.bool false]) ([.bool t22, .bool t23, .bool false, .bool t25]) HS Z Z Z Z Z (htN na4 Z) Z Z Z ?_; intro wd77 HS
     refine nL ?_
     refine rN 2 Z ?_
     refine rG ?_
     refine GO.Bu (j := 0) ([.bool t22, .bool t23, .bool false, .bool t25]) HS Z Z Z Z Vn Z ?_
     refine GO.I9 (.agg [.bool false, .bool false, .bool false, .bool false].toArray) Z Z (fun _ => by kernel_rfl) Z ?_
     refine GO.bT Z Z Z gM (fun _ => eP) Z ?_
     refine nL ?_
     rcases iE H with ⟨c78, H⟩ | ⟨c78, H⟩
     ·
      refine nB Z (nT c78) ?_
      refine rN 3 Z ?_
      refine rG ?_
      refine fL b1 1 Mk Z ?_
      refine lB 1 HS Z na2 Z ?_
      refine nL ?_
      refine rN 3 Z ?_
      rcases iE H with ⟨c79, H⟩ | ⟨c79, H⟩
      ·
       refine yB Z (tT c79) ?_
       refine sQ ?_
       obtain ⟨t80, h81, H⟩ := bI H
       refine rG ?_
       refine fL b1 2 Nk Z ?_
       refine GO.Bu (j := 1) ([.slice A_a c1.length c_a]) HS Z Z Z Z Oc Z ?_
       refine fN Z func99 U2.1 U2.2 Z Z (Bp.calls HS (rD 2 r_a) h81) (fun _ wd82 ⟨h83, HS⟩ => ⟨_, h83, ?_⟩)
       refine aS Z ?_
       refine nL ?_
       obtain rfl := sI H
       exact rT _ func48 Z Z ⟨Z, (HS.pk 2 [] Z)⟩
      refine nB Z (tF c79) ?_
      refine rN 2 Z ?_
      rcases iE H with ⟨c84, H⟩ | ⟨c84, H⟩
      ·
       refine yB Z (tT c84) ?_
       refine sQ ?_
       obtain ⟨t85, h86, H⟩ := bI H
       refine rG ?_
       refine fL b1 3 L8 Z ?_
       refine GO.Bu (j := 1) ([.slice A_b g1.length c_b, I h1]) HS Z Z Z Z Np Z ?_
       refine fN Z func100 Qu.1 Qu.2 Z Z (Gf.calls HS (rD 2 r_b) h86) (fun _ wd87 ⟨h88, HS⟩ => ⟨_, h88, ?_⟩)
       refine aS Z ?_
       refine nL ?_
       obtain rfl := sI H
       exact rT _ func48 Z Z ⟨Z, (HS.pk 2 [] Z)⟩
      refine nB Z (tF c84) ?_
      refine rN 2 Z ?_
      rcases iE H with ⟨c89, H⟩ | ⟨c89, H⟩
      ·
       refine yB Z (tT c89) ?_
       refine sQ ?_
       obtain ⟨t90, h91, H⟩ := bI H
       refine rG ?_
       refine fL b1 5 Ml Z ?_
       refine GO.Bu (j := 1) ([I k1, .slice A_c d1.length c_c]) HS Z Z Z Z Rz Z ?_
       refine fN Z func101 Rn.1 Rn.2 Z Z (G5.calls HS (rD 2 r_c) h91) (fun _ wd92 ⟨h93, HS⟩ => ⟨_, h93, ?_⟩)
       refine aS Z ?_
       refine nL ?_
       obtain rfl := sI H
       exact rT _ func48 Z Z ⟨Z, (HS.pk 2 [] Z)⟩
      refine nB Z (tF c89) ?_
      refine rN 3 Z ?_
      obtain ⟨t94, h95, H⟩ := bI H
      refine rG ?_
      refine fL b1 7 K4 Z ?_
      refine GO.Bu (j := 1) ([I i1, I m1, .slice A_d e1.length c_d, .slice A_e f1.length c_e, .slice A_f a1.length c_f]) HS Z Z Z Z Qn Z ?_
      refine fN Z func102 Rq.1 Rq.2 Z Z (Gz.calls HS (rD 2 r_d) (rD 2 r_e) (rD 2 r_f) h95) (fun _ wd96 ⟨h97, HS⟩ => ⟨_, h97, ?_⟩)
      refine aS Z ?_
      refine nL ?_
      obtain rfl := sI H
      exact rT _ func48 Z Z ⟨Z, (HS.pk 2 [] Z)⟩
     refine yB Z (nF c78) ?_
     refine rN 2 Z ?_
     obtain rfl := sI H
     exact rT _ func48 Z Z ⟨Z, (HS.pk 2 [] Z)⟩
    rcases iE H with ⟨c98, H⟩ | ⟨c98, H⟩
    ·
     refine rG ?_
     refine fL b1 1 Mk Z ?_
     refine lB 1 HS Z na2 Z ?_
     refine GO.sub Z Z Z Z ?_
     refine GO.ixP 3 Z Z Z c98 underlying134 sz4 Z Z ?_
     refine GO.C8 (j := 0) (vs := [.bool false]) ([.bool t22, .bool t23, .bool t24, .bool false]) HS Z Z Z Z Z (htN na4 Z) Z Z Z ?_; intro wd99 HS
     refine nL ?_
     refine rN 2 Z ?_
     refine rG ?_
     refine GO.Bu (j := 0) ([.bool t22, .bool t23, .bool t24, .bool false]) HS Z Z Z Z Vn Z ?_
     refine GO.I9 (.agg [.bool false, .bool false, .bool false, .bool false].toArray) Z Z (fun _ => by kernel_rfl) Z ?_
     refine GO.bT Z Z Z gM (fun _ => eP) Z ?_
     refine nL ?_
     rcases iE H with ⟨c100, H⟩ | ⟨c100, H⟩
     ·
      refine nB Z (nT c100) ?_
      refine rN 3 Z ?_
      refine rG ?_
      refine fL b1 1 Mk Z ?_
      refine lB 1 HS Z na2 Z ?_
      refine nL ?_
      refine rN 3 Z ?_
      rcases iE H with ⟨c101, H⟩ | ⟨c101, H⟩
      ·
       refine yB Z (tT c101) ?_
       refine sQ ?_
       obtain ⟨t102, h103, H⟩ := bI H
       refine rG ?_
       refine fL b1 2 Nk Z ?_
       refine GO.Bu (j := 1) ([.slice A_a c1.length c_a]) HS Z Z Z Z Oc Z ?_
       refine fN Z func99 U2.1 U2.2 Z Z (Bp.calls HS (rD 2 r_a) h103) (fun _ wd104 ⟨h105, HS⟩ => ⟨_, h105, ?_⟩)
       refine aS Z ?_
       refine nL ?_
       obtain rfl := sI H
       exact rT _ func48 Z Z ⟨Z, (HS.pk 2 [] Z)⟩
      refine nB Z (tF c101) ?_
      refine rN 2 Z ?_
      rcases iE H with ⟨c106, H⟩ | ⟨c106, H⟩
      ·
       refine yB Z (tT c106) ?_
       refine sQ ?_
       obtain ⟨t107, h108, H⟩ := bI H
       refine rG ?_
       refine fL b1 3 L8 Z ?_
       refine GO.Bu (j := 1) ([.slice A_b g1.length c_b, I h1]) HS Z Z Z Z Np Z ?_
       refine fN Z func100 Qu.1 Qu.2 Z Z (Gf.calls HS (rD 2 r_b) h108) (fun _ wd109 ⟨h110, HS⟩ => ⟨_, h110, ?_⟩)
       refine aS Z ?_
       refine nL ?_
       obtain rfl := sI H
       exact rT _ func48 Z Z ⟨Z, (HS.pk 2 [] Z)⟩
      refine nB Z (tF c106) ?_
      refine rN 2 Z ?_
      rcases iE H with ⟨c111, H⟩ | ⟨c111, H⟩
      ·
       refine yB Z (tT c111) ?_
       refine sQ ?_
       obtain ⟨t112, h113, H⟩ := bI H
       refine rG ?_
       refine fL b1 5 Ml Z ?_
       refine GO.Bu (j := 1) ([I k1, .slice A_c d1.length c_c]) HS Z Z Z Z Rz Z ?_
       refine fN Z func101 Rn.1 Rn.2 Z Z (G5.calls HS (rD 2 r_c) h113) (fun _ wd114 ⟨h115, HS⟩ => ⟨_, h115, ?_⟩)
       refine aS Z ?_
       refine nL ?_
       obtain rfl := sI H
       exact rT _ func48 Z Z ⟨Z, (HS.pk 2 [] Z)⟩
      refine nB Z (tF c111) ?_
      refine rN 3 Z ?_
      obtain ⟨t116, h117, H⟩ := bI H
      refine rG ?_
      refine fL b1 7 K4 Z ?_
      refine GO.Bu (j := 1) ([I i1, I m1, .slice A_d e1.length c_d, .slice A_e f1.length c_e, .slice A_f a1.length c_f]) HS Z Z Z Z Qn Z ?_
      refine fN Z func102 Rq.1 Rq.2 Z Z (Gz.calls HS (rD 2 r_d) (rD 2 r_e) (rD 2 r_f) h117) (fun _ wd118 ⟨h119, HS⟩ => ⟨_, h119, ?_⟩)
      refine aS Z ?_
      refine nL ?_
      obtain rfl := sI H
      exact rT _ func48 Z Z ⟨Z, (HS.pk 2 [] Z)⟩
     refine yB Z (nF c100) ?_
     refine rN 2 Z ?_
     obtain rfl := sI H
     exact rT _ func48 Z Z ⟨Z, (HS.pk 2 [] Z)⟩
    cases H
   refine yB Z (congrArg Bool.not (Ca c21)) ?_
   refine rN 2 Z ?_
   obtain rfl := sI H
   exact rT _ func48 Z Z ⟨Z, (HS.pk 1 [] Z)⟩
  refine rG ?_
  refine fL b1 0 K7 Z ?_
  refine lB 0 HS Z na9 Z ?_
  refine fN Z func96 gK.1 gK.2 Z Z (Io.calls HS  h13) (fun _ wd14 ⟨h15, HS⟩ => ⟨_, h15, ?_⟩)
  refine pS 2 Z ?_
  refine kN 8 Z (congrArg Bool.not (Ca c16)) ?_
  refine oF Z ?_
  refine oF Z ?_
  refine oF Z ?_
  refine oF Z ?_
  refine GO.Ip Z Z Z Z Z ?_
  refine nL ?_
  refine rN 3 Z ?_
  obtain rfl := sI H
  exact rT _ func48 Z Z ⟨Z, (HS.pk 1 [] Z)⟩
theorem Ee.calls {items : List Am} {A_a : Option Addr} {c_a : Nat} {y_a : Nat → Aa.Lay} {r1 : Bool} (HS : St w0 w (L)) (r_a : Aq w0 L Aa A_a c_a y_a items) (H : Ee.f K items = some r1) :
    Calls prog 67 #[.slice A_a items.length c_a] w (Ee.post w0 L r1) := by
  unfold Ee.f at H
  refine cG func67 Z ?_
  refine rN 4 Z (rG (mV Z (lS Z Z underlying27 Z (mV Z (nL (rN 2 Z ?_))))))
  refine G.name (fun e1 f1 => ?_)
  have g1 : ∀ a1, a1 ≤ K → ∀ (x13 : Int) (w : World), Ee.l1 K a1 items x13 = some r1 → St w0 w (L) → G prog 67 34 [(0, .slice A_a items.length c_a), (5, .slice A_a items.length c_a), (6, I (items.length : Int)), (7, I x13)] e1 w (Ee.post w0 L r1) := by
   intro a1
   induction a1 using Nat.strongRecOn with
   | _ a1 c1 =>
    intro d1 x13 w H HS
    cases a1 with
    | zero => rw [Ee.l1] at H; cases H
    | succ b1 =>
     rw [Ee.l1] at H
     subst f1
     refine rN 3 Z ?_
     rcases iE H with ⟨c31, H⟩ | ⟨c31, H⟩
     ·
      refine yB Z (tT c31) (rN 4 Z ?_)
      obtain ⟨c32, H⟩ := iN H
      obtain ⟨e33, h34, H⟩ := Cn H
      refine rG (mV Z (GO.ix Z Z Z underlying27 Jt (r_a _ HS).2.2.1 c32.1 c32.2 Z (GO.Ja (T := Aa) (n := x13.toNat) HS r_a Z Z (getD_eq (ltN c32) h34) Mq Z (GO.alloc HS Z dJ Z Z fun b35 wd36 HS => aS Z (GO.C8 (j := 0) (vs := [.string e33.Name, I e33.Kind, .slice ((y_a x13.toNat).2.2.1.A) e33.Ad.length ((y_a x13.toNat).2.2.1.c), .slice ((y_a x13.toNat).2.2.2.1.A) e33.Ae.length ((y_a x13.toNat).2.2.2.1.c), I e33.Aj, I e33.Ao, .slice ((y_a x13.toNat).2.2.2.2.2.2.1.A) e33.Av.length ((y_a x13.toNat).2.2.2.2.2.2.1.c), I e33.Ak, I e33.Ah, .slice ((y_a x13.toNat).2.2.2.2.2.2.2.2.2.1.A) e33.Af.length ((y_a x13.toNat).2.2.2.2.2.2.2.2.2.1.c), .slice ((y_a x13.toNat).2.2.2.2.2.2.2.2.2.2.1.A) e33.Ai.length ((y_a x13.toNat).2.2.2.2.2.2.2.2.2.2.1.c), .slice ((y_a x13.toNat).2.2.2.2.2.2.2.2.2.2.2.A) e33.Ag.length ((y_a x13.toNat).2.2.2.2.2.2.2.2.2.2.2.c)]) ([.string e33.Name, I e33.Kind, .slice ((y_a x13.toNat).2.2.1.A) e33.Ad.length ((y_a x13.toNat).2.2.1.c), .slice ((y_a x13.toNat).2.2.2.1.A) e33.Ae.length ((y_a x13.toNat).2.2.2.1.c), I e33.Aj, I e33.Ao, .slice ((y_a x13.toNat).2.2.2.2.2.2.1.A) e33.Av.length ((y_a x13.toNat).2.2.2.2.2.2.1.c), I e33.Ak, I e33.Ah, .slice ((y_a x13.toNat).2.2.2.2.2.2.2.2.2.1.A) e33.Af.length ((y_a x13.toNat).2.2.2.2.2.2.2.2.2.1.c), .slice ((y_a x13.toNat).2.2.2.2.2.2.2.2.2.2.1.A) e33.Ai.length ((y_a x13.toNat).2.2.2.2.2.2.2.2.2.2.1.c), .slice ((y_a x13.toNat).2.2.2.2.2.2.2.2.2.2.2.A) e33.Ag.length ((y_a x13.toNat).2.2.2.2.2.2.2.2.2.2.2.c)]) HS Z Z Z Z Z (htA Mq) Z Z Z fun wd37 HS => nL (sQ ?_))))))
      obtain ⟨t38, h39, H⟩ := bI H
      rcases iE H with ⟨c42, H⟩ | ⟨c42, H⟩
      ·
       rcases iE H with ⟨c43, H⟩ | ⟨c43, H⟩
       ·
        obtain ⟨c44, H⟩ := iN H
        obtain ⟨e45, h46, H⟩ := Cn H
        refine G.lex mixed [0, 1, 2, 3, 4, 5, 6, 7, 8, 9, 10, 11, 13, 12, 14, 15, 16, 17] (by kernel_rfl) ?_
        replace HS := HS.drew
        refine GX.l1 Z Z Z (fun _ g => GO.Bu (j := 0) ([.string e33.Name, I e33.Kind, .slice ((y_a x13.toNat).2.2.1.A) e33.Ad.length ((y_a x13.toNat).2.2.1.c), .slice ((y_a x13.toNat).2.2.2.1.A) e33.Ae.length ((y_a x13.toNat).2.2.2.1.c), I e33.Aj, I e33.Ao, .slice ((y_a x13.toNat).2.2.2.2.2.2.1.A) e33.Av.length ((y_a x13.toNat).2.2.2.2.2.2.1.c), I e33.Ak, I e33.Ah, .slice ((y_a x13.toNat).2.2.2.2.2.2.2.2.2.1.A) e33.Af.length ((y_a x13.toNat).2.2.2.2.2.2.2.2.2.1.c), .slice ((y_a x13.toNat).2.2.2.2.2.2.2.2.2.2.1.A) e33.Ai.length ((y_a x13.toNat).2.2.2.2.2.2.2.2.2.2.1.c), .slice ((y_a x13.toNat).2.2.2.2.2.2.2.2.2.2.2.A) e33.Ag.length ((y_a x13.toNat).2.2.2.2.2.2.2.2.2.2.2.c)]) HS Z Z Z Z Mq Z g) Z (GX.l2 Z (fN Z func48 Va.1 Va.2 Z Z (Ig.calls HS (Aq.fld (rD 1 r_a) (getD_eq (ltN c32) h34) (fun _ h => h.2.2.1)) (Aq.fld (rD 1 r_a) (getD_eq (ltN c32) h34) (fun _ h => h.2.2.2.1)) (Aq.fld (rD 1 r_a) (getD_eq (ltN c32) h34) (fun _ h => h.2.2.2.2.2.2.1)) (Aq.fld (rD 1 r_a) (getD_eq (ltN c32) h34) (fun _ h => h.2.2.2.2.2.2.2.2.2.1)) (Aq.fld (rD 1 r_a) (getD_eq (ltN c32) h34) (fun _ h => h.2.2.2.2.2.2.2.2.2.2.1)) (Aq.fld (rD 1 r_a) (getD_eq (ltN c32) h34) (fun _ h => h.2.2.2.2.2.2.2.2.2.2.2)) h39) (fun _ wd40 ⟨h41, HS⟩ => ⟨_, h41, (GX.fin tv (GX.ps 1 Z (qL Z Z (fun _ _ g => mV Z (kN 15 Z (congrArg Bool.not c42) g)) Z (qL Z Z (fun _ _ g => oN Z (mV Z (bK g))) Z (qL Z Z (fun _ _ g => oN Z (GO.gtr Z Z Z Z (bK g))) Z (qL Z Z (fun _ _ g => oN Z (mV Z (bK (kN 18 Z (tT c43) g)))) Z (qL Z Z (fun _ _ g => oN Z (mV Z (bK g))) Z (qL Z Z (fun _ _ g => oN Z (mV Z (bK g))) Z (qL Z Z (fun _ _ g => oN Z (GO.sub Z Z Z Z (bK g))) Z (qL Z Z (fun _ _ g => oN Z (GO.ix Z Z Z underlying27 Jt ((rD 1 r_a) _ HS).2.2.1 c44.1 c44.2 Z (bK g))) Z (qL Z Z (fun _ _ g => oN Z (GO.fld (ea A_a (((w64 (x13 - 1)).toNat) * 12)) Z Z K7 Z Z (bK g))) Z (qL Z Z (fun _ _ g => oN Z (fL b35 0 K7 Z (bK g))) Z ?_))))))))))))⟩)))
        refine GX.l1 Z Z Z (fun _ g => oN Z (GO.Fq (T := Aa) (n := (w64 (x13 - 1)).toNat) (o := 0) HS (rD 1 r_a) Z Z (getD_eq (ltN c44) h46) Z Z na9 Z (bK g))) Z (GX.l1 Z Z Z (fun _ g => oN Z (lB 0 HS Z na9 Z (bK g))) Z (qL Z Z (fun _ _ g => oN Z (GO.wC Z Z Z Z (bK g))) Z (qL Z Z (fun _ _ g => oN Z (GO.Ip Z Z Z Z Z (bK g))) Z (GX.ps 1 Z (GX.nil ?_)))))
        rcases iE H with ⟨c47, H⟩ | ⟨c47, H⟩
        ·
         refine nB Z (congrArg Bool.not c47) (rN 4 Z (G.weak ?_ (c1 b1 (Nat.lt_succ_of_le (lR _)) (Nat.le_of_succ_le d1) _ _ H (HS.pk 1 [] Z))))
         exact ⟨Z, Z, Z, Z, tv⟩
        refine yB Z (congrArg Bool.not (Ca c47)) (rN 2 Z ?_)
        obtain rfl := sI H
        exact rT _ func67 Z Z ⟨Z, (HS.pk 1 [] Z)⟩
       refine G.lex mixed [0, 1, 2, 3, 4, 5, 6, 7, 8, 9, 10, 11, 13, 12, 14, 15, 16, 17] (by kernel_rfl) ?_
       replace HS := HS.drew
       refine GX.l1 Z Z Z (fun _ g => GO.Bu (j := 0) ([.string e33.Name, I e33.Kind, .slice ((y_a x13.toNat).2.2.1.A) e33.Ad.length ((y_a x13.toNat).2.2.1.c), .slice ((y_a x13.toNat).2.2.2.1.A) e33.Ae.length ((y_a x13.toNat).2.2.2.1.c), I e33.Aj, I e33.Ao, .slice ((y_a x13.toNat).2.2.2.2.2.2.1.A) e33.Av.length ((y_a x13.toNat).2.2.2.2.2.2.1.c), I e33.Ak, I e33.Ah, .slice ((y_a x13.toNat).2.2.2.2.2.2.2.2.2.1.A) e33.Af.length ((y_a x13.toNat).2.2.2.2.2.2.2.2.2.1.c), .slice ((y_a x13.toNat).2.2.2.2.2.2.2.2.2.2.1.A) e33.Ai.length ((y_a x13.toNat).2.2.2.2.2.2.2.2.2.2.1.c), .slice ((y_a x13.toNat).2.2.2.2.2.2.2.2.2.2.2.A) e33.Ag.length ((y_a x13.toNat).2.2.2.2.2.2.2.2.2.2.2.c)]) HS Z Z Z Z Mq Z g) Z (GX.l2 Z (fN Z func48 Va.1 Va.2 Z Z (Ig.calls HS (Aq.fld (rD 1 r_a) (getD_eq (ltN c32) h34) (fun _ h => h.2.2.1)) (Aq.fld (rD 1 r_a) (getD_eq (ltN c32) h34) (fun _ h => h.2.2.2.1)) (Aq.fld (rD 1 r_a) (getD_eq (ltN c32) h34) (fun _ h => h.2.2.2.2.2.2.1)) (Aq.fld (rD 1 r_a) (getD_eq (ltN c32) h34) (fun _ h => h.2.2.2.2.2.2.2.2.2.1)) (Aq.fld (rD 1 r_a) (getD_eq (ltN c32) h34) (fun _ h => h.2.2.2.2.2.2.2.2.2.2.1)) (Aq.fld (rD 1 r_a) (getD_eq (ltN c32) h34) (fun _ h => h.2.2.2.2.2.2.2.2.2.2.2)) h39) (fun _ wd40 ⟨h41, HS⟩ => ⟨_, h41, (GX.fin tv (GX.ps 1 Z (qL Z Z (fun _ _ g => mV Z (kN 15 Z (congrArg Bool.not c42) g)) Z (qL Z Z (fun _ _ g => oN Z (mV Z (bK g))) Z (qL Z Z (fun _ _ g => oN Z (GO.gtr Z Z Z Z (bK g))) Z (qL Z Z (fun _ _ g => oN Z (mV Z (bK (kN 18 Z (tF c43) g)))) Z (qL Z Z (fun _ _ g => oF Z g) Z (qL Z Z (fun _ _ g => oF Z g) Z (qL Z Z (fun _ _ g => oF Z g) Z (qL Z Z (fun _ _ g => oF Z g) Z (qL Z Z (fun _ _ g => oF Z g) Z (qL Z Z (fun _ _ g => oF Z g) Z ?_))))))))))))⟩)))
       refine GX.l1 Z Z Z (fun _ g => oF Z g) Z (GX.l1 Z Z Z (fun _ g => oF Z g) Z (qL Z Z (fun _ _ g => oF Z g) Z (qL Z Z (fun _ _ g => oN Z (GO.Js Z Z Z Z Z (bK g))) Z (GX.ps 1 Z (GX.nil (rN 5 Z (G.weak ?_ (c1 b1 (Nat.lt_succ_of_le (lR _)) (Nat.le_of_succ_le d1) _ _ H (HS.pk 1 [] Z)))))))))
       exact ⟨Z, Z, Z, Z, tv⟩
      refine G.lex mixed [0, 1, 2, 3, 4, 5, 6, 7, 8, 9, 10, 11, 13, 12, 14, 15, 16, 17] (by kernel_rfl) ?_
      replace HS := HS.drew
      refine GX.l1 Z Z Z (fun _ g => GO.Bu (j := 0) ([.string e33.Name, I e33.Kind, .slice ((y_a x13.toNat).2.2.1.A) e33.Ad.length ((y_a x13.toNat).2.2.1.c), .slice ((y_a x13.toNat).2.2.2.1.A) e33.Ae.length ((y_a x13.toNat).2.2.2.1.c), I e33.Aj, I e33.Ao, .slice ((y_a x13.toNat).2.2.2.2.2.2.1.A) e33.Av.length ((y_a x13.toNat).2.2.2.2.2.2.1.c), I e33.Ak, I e33.Ah, .slice ((y_a x13.toNat).2.2.2.2.2.2.2.2.2.1.A) e33.Af.length ((y_a x13.toNat).2.2.2.2.2.2.2.2.2.1.c), .slice ((y_a x13.toNat).2.2.2.2.2.2.2.2.2.2.1.A) e33.Ai.length ((y_a x13.toNat).2.2.2.2.2.2.2.2.2.2.1.c), .slice ((y_a x13.toNat).2.2.2.2.2.2.2.2.2.2.2.A) e33.Ag.length ((y_a x13.toNat).2.2.2.2.2.2.2.2.2.2.2.c)]) HS Z Z Z Z Mq Z g) Z (GX.l2 Z (fN Z func48 Va.1 Va.2 Z Z (Ig.calls HS (Aq.fld (rD 1 r_a) (getD_eq (ltN c32) h34) (fun _ h => h.2.2.1)) (Aq.fld (rD 1 r_a) (getD_eq (ltN c32) h34) (fun _ h => h.2.2.2.1)) (Aq.fld (rD 1 r_a) (getD_eq (ltN c32) h34) (fun _ h => h.2.2.2.2.2.2.1)) (Aq.fld (rD 1 r_a) (getD_eq (ltN c32) h34) (fun _ h => h.2.2.2.2.2.2.2.2.2.1)) (Aq.fld (rD 1 r_a) (getD_eq (ltN c32) h34) (fun _ h => h.2.2.2.2.2.2.2.2.2.2.1)) (Aq.fld (rD 1 r_a) (getD_eq (ltN c32) h34) (fun _ h => h.2.2.2.2.2.2.2.2.2.2.2)) h39) (fun _ wd40 ⟨h41, HS⟩ => ⟨_, h41, (GX.fin tv (GX.ps 1 Z (qL Z Z (fun _ _ g => mV Z (kN 15 Z (congrArg Bool.not (Ca c42)) g)) Z (qL Z Z (fun _ _ g => oF Z g) Z (qL Z Z (fun _ _ g => oF Z g) Z (qL Z Z (fun _ _ g => oF Z g) Z (qL Z Z (fun _ _ g => GO.M7 Z Z Z Z Z Z g) Z (qL Z Z (fun _ _ g => GO.M7 Z Z Z Z Z Z g) Z (qL Z Z (fun _ _ g => GO.M7 Z Z Z Z Z Z g) Z (qL Z Z (fun _ _ g => GO.M7 Z Z Z Z Z Z g) Z (qL Z Z (fun _ _ g => GO.M7 Z Z Z Z Z Z g) Z (qL Z Z (fun _ _ g => GO.M7 Z Z Z Z Z Z g) Z ?_))))))))))))⟩)))
      refine GX.l1 Z Z Z (fun _ g => GO.M7 Z Z Z Z Z Z g) Z (GX.l1 Z Z Z (fun _ g => GO.M7 Z Z Z Z Z Z g) Z (qL Z Z (fun _ _ g => GO.M7 Z Z Z Z Z Z g) Z (qL Z Z (fun _ _ g => oF Z g) Z (GX.ps 1 Z (GX.nil (rN 3 Z ?_))))))
      obtain rfl := sI H
      exact rT _ func67 Z Z ⟨Z, (HS.pk 1 [] Z)⟩
     refine nB Z (tF c31) (rN 2 Z (rG (mV Z (lS Z Z underlying27 Z (pS 2 Z (nL ?_))))))
     obtain rfl := sI H
     exact rT _ func67 Z Z ⟨Z, HS⟩
  refine G.weak ?_ (g1 K (lR _) _ _ H HS)
  exact ⟨Z, Z, Z, Z, tv⟩
theorem Jg.calls {items : List Am} {A_a : Option Addr} {c_a : Nat} {y_a : Nat → Aa.Lay} {r1 : Bool} (HS : St w0 w (L)) (r_a : Aq w0 L Aa A_a c_a y_a items) (H : Jg.f K items = some r1) :
    Calls prog 66 #[.slice A_a items.length c_a] w (Jg.post w0 L r1) := by
  unfold Jg.f at H
  refine cG func66 Z ?_
  refine rN 3 Z ?_
  obtain ⟨t1, h2, H⟩ := bI H
  refine rG (mV Z (fN Z func67 uQ.1 uQ.2 Z Z (Ee.calls HS r_a h2) (fun _ wd3 ⟨h4, HS⟩ => ⟨_, h4, (pS 2 Z (nL ?_))⟩)))
  obtain rfl := sI H
  exact rT _ func66 Z Z ⟨Z, HS⟩
theorem Az.calls {s : List (List Am)} {A_a : Option Addr} {c_a : Nat} {y_a : Nat → (Ty.slice 64 Aa).Lay} {r1 : Int} (HS : St w0 w (L)) (r_a : Aq w0 L (Ty.slice 64 Aa) A_a c_a y_a s) (H : Az.f K s = some r1) :
    Calls prog 114 #[.slice A_a s.length c_a, .func (.func 66) #[] #[]] w (Az.post w0 L r1) := by
  unfold Az.f at H
  refine cG func114 Z ?_
  refine rN 4 Z (rG (mV Z (lS Z Z underlying28 Z (mV Z (nL (rN 2 Z ?_))))))
  refine G.name (fun b1 e1 => ?_)
  have f1 : ∀ a1, a1 ≤ K → ∀ (x8 : Int) (w : World), Az.l1 K a1 s x8 = some r1 → St w0 w (L) → G prog 114 19 [(0, .slice A_a s.length c_a), (1, .func (.func 66) #[] #[]), (7, I (s.length : Int)), (8, I x8)] b1 w (Az.post w0 L r1) := by
   intro a1
   induction a1 using Nat.strongRecOn with
   | _ a1 d1 =>
    intro g1 x8 w H HS
    cases a1 with
    | zero => rw [Az.l1] at H; cases H
    | succ c1 =>
     rw [Az.l1] at H
     subst e1
     refine rN 3 Z ?_
     rcases iE H with ⟨c16, H⟩ | ⟨c16, H⟩
     ·
      refine yB Z (tT c16) (rN 6 Z ?_)
      obtain ⟨c17, H⟩ := iN H
      obtain ⟨t18, h19, H⟩ := bI H
      refine rG (pS 3 Z (GO.ix Z Z Z underlying28 V5 (r_a _ HS).2.2.1 c17.1 c17.2 Z (GO.Fq (T := (Ty.slice 64 Aa)) (n := x8.toNat) (o := 0) HS r_a Z Z (getD_some (d := []) (ltN c17)) Z Z Nq Z (GO.clo Z Z func66 vB.1 vB.2 Z Z (Jg.calls HS (Aq.elem r_a c17.1 c17.2) h19) (fun _ wd20 ⟨h21, HS⟩ => ⟨_, h21, (nL ?_)⟩)))))
      rcases iE H with ⟨c22, H⟩ | ⟨c22, H⟩
      ·
       refine yB Z c22 (rN 2 Z ?_)
       obtain rfl := sI H
       exact rT _ func114 Z Z ⟨Z, HS⟩
      refine nB Z (Ca c22) (rN 4 Z (G.weak ?_ (d1 c1 (Nat.lt_succ_of_le (lR _)) (Nat.le_of_succ_le g1) _ _ H HS)))
      exact ⟨Z, Z, Z, Z, tv⟩
     refine nB Z (tF c16) (rN 3 Z ?_)
     obtain rfl := sI H
     exact rT _ func114 Z Z ⟨Z, HS⟩
  refine G.weak ?_ (f1 K (lR _) _ _ H HS)
  exact ⟨Z, Z, Z, Z, tv⟩
theorem Bo.calls {s : List (List Am)} {A_a : Option Addr} {c_a : Nat} {y_a : Nat → (Ty.slice 64 Aa).Lay} {r1 : Bool} (HS : St w0 w (L)) (r_a : Aq w0 L (Ty.slice 64 Aa) A_a c_a y_a s) (H : Bo.f K s = some r1) :
    Calls prog 65 #[.slice A_a s.length c_a, .func (.func 66) #[] #[]] w (Bo.post w0 L r1) := by
  unfold Bo.f at H
  refine cG func65 Z ?_
  refine rN 3 Z ?_
  obtain ⟨t1, h2, H⟩ := bI H
  refine rG (pS 2 Z (fN Z func114 nU.1 nU.2 Z Z (Az.calls HS r_a h2) (fun _ wd3 ⟨h4, HS⟩ => ⟨_, h4, (pS 2 Z (nL ?_))⟩)))
  obtain rfl := sI H
  exact rT _ func65 Z Z ⟨Z, HS⟩
theorem Ep.calls {a1 : List Am} {c1 d1 : List (List Am)} {A_a : Option Addr} {c_a : Nat} {y_a : Nat → Aa.Lay} {A_b : Option Addr} {c_b : Nat} {y_b : Nat → (Ty.slice 64 Aa).Lay} {A_c : Option Addr} {c_c : Nat} {y_c : Nat → (Ty.slice 64 Aa).Lay} {r1 : Bool} (HS : St w0 w (L)) (r_a : Aq w0 L Aa A_a c_a y_a a1) (r_b : Aq w0 L (Ty.slice 64 Aa) A_b c_b y_b c1) (r_c : Aq w0 L (Ty.slice 64 Aa) A_c c_c y_c d1) (H : Ep.f K a1 c1 d1 = some r1) :
    Calls prog 27 #[.agg [.slice A_a a1.length c_a, .slice A_b c1.length c_b, .slice A_c d1.length c_c].toArray] w (Ep.post w0 L r1) := by
  unfold Ep.f at H
  refine cG func27 Z ?_
  refine sQ (rG (GO.box (cs := [.slice A_a a1.length c_a, .slice A_b c1.length c_b, .slice A_c d1.length c_c]) HS Z Z Z Z fun b1 wd2 HS => aS Z (nL (rN 2 Z (rG (fL b1 0 K5 Z (lB 0 HS Z Nq Z (GO.F3 (el := 27) ([.slice A_a a1.length c_a]) HS Z Z (fun _ => by kernel_rfl) Z fun b3 wd4 HS => fL b1 1 Po Z (lB 1 HS Z Qa Z (fL b1 2 Rc Z (lB 1 HS Z Qa Z (GO.Nb (t := 7) (m := ([a1] : List (List Am)).length) (c' := 1) Z Z Z ?_))))))))))))
  refine GO.F3 (el := 28) ([.slice (some ⟨b3, 0, none⟩) ([a1] : List (List Am)).length 1, .slice A_b c1.length c_b, .slice A_c d1.length c_c]) HS Z Z (fun _ => by kernel_rfl) Z fun b5 wd6 HS => lS Z Z underlying111 Z (mV Z (nL (rN 2 Z (G.Nb (t := 12) (m := ([([a1] : List (List Am)), c1, d1] : List (List (List Am))).length) (c' := 3) Z Z Z ?_))))
  refine G.name (fun f1 i1 => ?_)
  have k1 : ∀ e1, e1 ≤ K → ∀ (x14 : Int) (w : World), Ep.l1 K e1 a1 c1 d1 x14 = some r1 → St w0 w (Box b5 28 [.slice (some ⟨b3, 0, none⟩) ([a1] : List (List Am)).length 1, .slice A_b c1.length c_b, .slice A_c d1.length c_c] :: Box b3 27 [.slice A_a a1.length c_a] :: L) → G prog 27 26 [(12, .slice (some ⟨b5, 0, none⟩) ([([a1] : List (List Am)), c1, d1] : List (List (List Am))).length 3), (13, I 3), (14, I x14)] f1 w (Ep.post w0 L r1) := by
   intro e1
   induction e1 using Nat.strongRecOn with
   | _ e1 h1 =>
    intro m1 x14 w H HS
    cases e1 with
    | zero => rw [Ep.l1] at H; cases H
    | succ g1 =>
     rw [Ep.l1] at H
     subst i1
     refine rN 3 Z ?_
     rcases iE H with ⟨c23, H⟩ | ⟨c23, H⟩
     ·
      refine yB Z (tT c23) (rN 4 Z ?_)
      obtain ⟨c24, H⟩ := iN H
      refine rG (GO.ix Z Z Z underlying111 yF (fun _ => ⟨_, _, Z⟩) c24.1 c24.2 Z (GO.Fq (T := (Ty.slice 27 (Ty.slice 64 Aa))) (n := x14.toNat) (o := 0) HS (Aq.box (T := (Ty.slice 27 (Ty.slice 64 Aa))) (j := 0) (fun k => match k with | 0 => ⟨(some ⟨b3, 0, none⟩), 1, (fun _ => ⟨A_a, c_a, y_a⟩)⟩ | 1 => ⟨A_b, c_b, y_b⟩ | _ => ⟨A_c, c_c, y_c⟩) ([([a1] : List (List Am)), c1, d1] : List (List (List Am))) Z Z Z Z (U1 (fun w hs => (Aq.box (T := (Ty.slice 64 Aa)) (j := 1) (fun _ => ⟨A_a, c_a, y_a⟩) ([a1] : List (List Am)) Z Z Z Z (U1 (fun w hs => (rD 2 r_a) w hs) pR)) w hs) (U1 (fun w hs => (rD 2 r_b) w hs) (U1 (fun w hs => (rD 2 r_c) w hs) pR)))) Z Z (getD_some (d := []) (ltN c24)) Z Z Qa Z (aS Z (nL (sQ ?_)))))
      rcases iE H with ⟨c25, H⟩ | ⟨c25, H⟩
      ·
       refine rG (mV Z (lS Z Z underlying28 Z (pS 2 Z (kN 21 Z (tT c25) (oF Z (oF Z (GO.Ip Z Z Z Z Z (nL (rN 3 Z ?_)))))))))
       obtain rfl := sI H
       exact rT _ func27 Z Z ⟨Z, (HS.pk 2 [] Z)⟩
      obtain ⟨t26, h27, H⟩ := bI H
      refine rG (mV Z (lS Z Z underlying28 Z (pS 2 Z (kN 21 Z (tF c25) (oN Z (mV Z (bK (oN Z (fN Z func65 tQ.1 tQ.2 Z Z (Bo.calls HS (Aq.elem (Aq.box (T := (Ty.slice 27 (Ty.slice 64 Aa))) (j := 0) (fun k => match k with | 0 => ⟨(some ⟨b3, 0, none⟩), 1, (fun _ => ⟨A_a, c_a, y_a⟩)⟩ | 1 => ⟨A_b, c_b, y_b⟩ | _ => ⟨A_c, c_c, y_c⟩) ([([a1] : List (List Am)), c1, d1] : List (List (List Am))) Z Z Z Z (U1 (fun w hs => (Aq.box (T := (Ty.slice 64 Aa)) (j := 1) (fun _ => ⟨A_a, c_a, y_a⟩) ([a1] : List (List Am)) Z Z Z Z (U1 (fun w hs => (rD 2 r_a) w hs) pR)) w hs) (U1 (fun w hs => (rD 2 r_b) w hs) (U1 (fun w hs => (rD 2 r_c) w hs) pR)))) c24.1 c24.2) h27) (fun _ wd28 ⟨h29, HS⟩ => ⟨_, h29, (bK (GO.Js Z Z Z Z Z (nL ?_)))⟩))))))))))
      rcases iE H with ⟨c30, H⟩ | ⟨c30, H⟩
      ·
       refine yB Z c30 (rN 2 Z ?_)
       obtain rfl := sI H
       exact rT _ func27 Z Z ⟨Z, (HS.pk 2 [] Z)⟩
      refine nB Z (Ca c30) (rN 4 Z (G.weak ?_ (h1 g1 (Nat.lt_succ_of_le (lR _)) (Nat.le_of_succ_le m1) _ _ H HS)))
      exact ⟨Z, Z, Z, tv⟩
     refine nB Z (tF c23) (rN 3 Z ?_)
     obtain rfl := sI H
     exact rT _ func27 Z Z ⟨Z, (HS.pk 2 [] Z)⟩
  refine G.weak ?_ (k1 K (lR _) _ _ H (HS.pk 3 [0, 1] Z))
  exact ⟨Z, Z, Z, tv⟩
theorem Dy.calls {s : List Bt} {A_a : Option Addr} {c_a : Nat} {r1 : List Bt} (HS : St w0 w (L)) (r_a : Aq w0 L Bc A_a c_a (fun _ => ()) s) (H : Dy.f s = some r1) :
    Calls prog 153 #[.slice A_a s.length c_a] w (Dy.post w0 L r1) := by
  unfold Dy.f at H
  refine cG func153 Z ?_
  refine rN 4 Z (rG (mV Z (GO.eU Z Z Z underlying150 Z (nL ?_))))
  rcases Decidable.em (A_a.isNone = true) with c1 | c1
  ·
   obtain rfl := Pv r_a HS c1
   refine yB Z c1 (rN 2 Z ?_)
   replace HS := HS.Gr Bc 157 (fun _ => ())
   replace H : some ([] : List Bt) = some r1 := H
   obtain rfl := sI H
   exact rT _ func153 Z Z ⟨_, _, Z, HS⟩
  refine nB Z (Ca c1) (rN 2 Z ?_)
  obtain ⟨c7, H⟩ := iN H
  refine rG (GO.F3 (el := 157) ([]) HS Z Z (fun _ => by kernel_rfl) Z fun b2 wd3 HS => mV Z ?_)
  replace HS := HS.J6 (T := Bc) (j := 0) Z Bv (fun _ => ()) ([] : List Bt) Z (O3 Z)
  refine GO.Nb (t := 5) (m := ([] : List Bt).length) (c' := ([] : List Bt).length) Z Z Z (GO.Vb (T := Bc) (j := 0) HS Z (rD 1 r_a) Bv Z Z Z underlying150 bY Z Z Z c7 Z (fun _ => Z) fun A5 c6 wd4 HS => aS Z (nL ?_))
  obtain rfl := sI H
  exact rT _ func153 Z Z ⟨_, _, Z, HS⟩
theorem Cv.calls {c1 : List (List Bt)} {A_a : Option Addr} {c_a : Nat} {y_a : Nat → (Ty.slice 157 Bc).Lay} {r1 : List (List Bt)} (HS : St w0 w (L)) (r_a : Aq w0 L (Ty.slice 157 Bc) A_a c_a y_a c1) (H : Cv.f K c1 = some r1) :
    Calls prog 103 #[.agg [.slice A_a c1.length c_a].toArray] w (Cv.post w0 L r1) := by
  unfold Cv.f at H
  refine cG func103 Z ?_
  refine sQ (rG (GO.box (cs := [.slice A_a c1.length c_a]) HS Z Z Z Z fun b1 wd2 HS => GO.alloc HS Z gP Z Z fun b3 wd4 HS => nL (sQ (rG (GO.alloc HS Z gP Z Z fun b5 wd6 HS => nL (rN 2 Z (rG (fL b1 0 I8 Z (lB 2 HS Z Nt Z (lS Z Z underlying53 Z (mV Z ?_)))))))))))
  refine nL (rN 2 Z ?_)
  refine G.name (fun e1 h1 => ?_)
  have i1 : ∀ d1, d1 ≤ K → ∀ (A24 : Option Addr) (c25 : Nat) (a1 : List (List Bt)) (y27 : Nat → (Ty.slice 157 Bc).Lay) (x28 : Int) (w : World), Cv.l1 K d1 c1 a1 x28 = some r1 → St w0 w (Box b3 55 [.slice none 0 0] :: Box b5 55 [.slice A24 a1.length c25] :: Own (Ty.slice 157 Bc) 150 A24 c25 y27 a1 :: L) → G prog 103 22 [(2, .pointer (some ⟨b3, 0, none⟩)), (3, .pointer (some ⟨b5, 0, none⟩)), (7, .slice A_a c1.length c_a), (8, I (c1.length : Int)), (9, I x28)] e1 w (Cv.post w0 L r1) := by
   intro d1
   induction d1 using Nat.strongRecOn with
   | _ d1 g1 =>
    intro k1 A24 c25 a1 y27 x28 w H HS
    cases d1 with
    | zero => rw [Cv.l1] at H; cases H
    | succ f1 =>
     rw [Cv.l1] at H
     subst h1
     refine rN 3 Z ?_
     rcases iE H with ⟨c46, H⟩ | ⟨c46, H⟩
     ·
      refine yB Z (tT c46) (rN 4 Z ?_)
      obtain ⟨c47, H⟩ := iN H
      refine rG (GO.ix Z Z Z underlying53 Ou ((rD 3 r_a) _ HS).2.2.1 c47.1 c47.2 Z (GO.Fq (T := (Ty.slice 157 Bc)) (n := x28.toNat) (o := 0) HS (rD 3 r_a) Z Z (getD_some (d := []) (ltN c47)) Z Z Ox Z (aS Z (nL ?_))))
      obtain ⟨t48, h49, H⟩ := bI H
      obtain ⟨c59, H⟩ := iN H
      refine G.Oi mixed (fun w => St w0 w (Box b5 55 [.slice A24 a1.length c25] :: L)) [1] [0, 2, 1, 3, 4, 5, 6, 7] [7] (by kernel_rfl) (by kernel_rfl) (HS.drew.pk 3 [1] Z) ?_
      replace HS := HS.drew
      refine qL Z Z (fun _ _ g => fL b5 0 I8 Z g) Z (GX.ps 1 Z (GX.ls Z Z Z (HS.pk 3 [1] Z) (fun _ HS _ g => lB 0 HS Z Nt Z g) Z (GX.l2 Z (fN Z func153 kM.1 kM.2 Z Z (Dy.calls HS (Aq.elem (rD 3 r_a) c47.1 c47.2) h49) (fun _ wd52 ⟨A50, c51, h53, HS⟩ => ⟨_, h53, (GX.fin (HS.pk 4 [2] Z) (GX.l2 Z (GO.F3 (el := 150) ([.slice A50 t48.length c51]) HS Z Z (fun _ => by kernel_rfl) Z fun b54 wd55 HS => GX.fin (HS.pk 5 [3] Z) (GX.l2 Z ?_))))⟩)))))
      replace HS := HS.pk 5 [4, 0, 1, 2, 3] Z
      refine GO.aT (S := Bc) (u := 157) HS Z Z Z underlying53 cZ Z Z c59 Z fun A57 c58 y60 wd56 HS => GX.fin (HS.pk 4 [3] Z) (qL Z Z (fun _ _ g => fL b5 0 I8 Z g) Z (GX.l2 Z (GO.C8 (j := 3) (vs := [.slice A57 (a1 ++ [t48]).length c58]) ([.slice A57 (a1 ++ [t48]).length c58]) HS Z Z Z Z Z (htN Nt Z) Z Z Z fun wd61 HS => GX.kU Z (GX.nil (rN 3 Z (G.weak ?_ (g1 f1 (Nat.lt_succ_of_le (lR _)) (Nat.le_of_succ_le k1) _ _ _ _ _ _ H (HS.pk 4 [2, 3, 0] Z))))))))
      exact ⟨Z, Z, Z, Z, Z, tv⟩
     refine nB Z (tF c46) (rN 2 Z (rG (GO.Bu (j := 1) ([.slice A24 a1.length c25]) HS Z Z Z Z Oc Z (GO.C8 (j := 0) (vs := [.slice A24 a1.length c25]) ([.slice A24 a1.length c25]) HS Z Z Z Z Z (htA Oc) Z Z Z fun wd62 HS => nL ?_))))
     obtain rfl := sI H
     exact rT _ func103 Z (Ki.Lr (j := 0) (vs := [.slice A24 a1.length c25]) HS Z Z Z Oc) ⟨_, _, _, Z, (HS.pk 3 [2] Z)⟩
  replace HS := HS.Gr (Ty.slice 157 Bc) 150 (fun _ => ⟨none, 0, (fun _ => ())⟩)
  refine G.weak ?_ (i1 K (lR _) _ _ _ _ _ _ H (HS.pk 4 [2, 1, 0] Z))
  exact ⟨Z, Z, Z, Z, Z, tv⟩
theorem Db.calls {s : List Al} {A_a : Option Addr} {c_a : Nat} {r1 : List Al} (HS : St w0 w (L)) (r_a : Aq w0 L Bb A_a c_a (fun _ => ()) s) (H : Db.f s = some r1) :
    Calls prog 154 #[.slice A_a s.length c_a] w (Db.post w0 L r1) := by
  unfold Db.f at H
  refine cG func154 Z ?_
  refine rN 4 Z (rG (mV Z (GO.eU Z Z Z underlying56 Z (nL ?_))))
  rcases Decidable.em (A_a.isNone = true) with c1 | c1
  ·
   obtain rfl := Pv r_a HS c1
   refine yB Z c1 (rN 2 Z ?_)
   replace HS := HS.Gr Bb 152 (fun _ => ())
   replace H : some ([] : List Al) = some r1 := H
   obtain rfl := sI H
   exact rT _ func154 Z Z ⟨_, _, Z, HS⟩
  refine nB Z (Ca c1) (rN 2 Z ?_)
  obtain ⟨c7, H⟩ := iN H
  refine rG (GO.F3 (el := 152) ([]) HS Z Z (fun _ => by kernel_rfl) Z fun b2 wd3 HS => mV Z ?_)
  replace HS := HS.J6 (T := Bb) (j := 0) Z Bv (fun _ => ()) ([] : List Al) Z (O3 Z)
  refine GO.Nb (t := 5) (m := ([] : List Al).length) (c' := ([] : List Al).length) Z Z Z (GO.Vb (T := Bb) (j := 0) HS Z (rD 1 r_a) Bv Z Z Z underlying56 dI Z Z Z c7 Z (fun _ => Z) fun A5 c6 wd4 HS => aS Z (nL ?_))
  obtain rfl := sI H
  exact rT _ func154 Z Z ⟨_, _, Z, HS⟩
theorem Ji.calls {c1 : List Al} {a1 : Int} {A_a : Option Addr} {c_a : Nat} {r1 : List Al} {r2 : Int} (HS : St w0 w (L)) (r_a : Aq w0 L Bb A_a c_a (fun _ => ()) c1) (H : Ji.f c1 a1 = some (r1, r2)) :
    Calls prog 104 #[.agg [.slice A_a c1.length c_a, I a1].toArray] w (Ji.post w0 L r1 r2) := by
  unfold Ji.f at H
  refine cG func104 Z ?_
  refine sQ (rG (GO.box (cs := [.slice A_a c1.length c_a, I a1]) HS Z Z Z Z fun b1 wd2 HS => GO.alloc HS Z qX Z Z fun b3 wd4 HS => nL (sQ ?_)))
  obtain ⟨t5, h6, H⟩ := bI H
  refine rG (fL b1 0 Iu Z (lB 1 HS Z Ni Z (fN Z func154 jF.1 jF.2 Z Z (Db.calls HS (rD 2 r_a) h6) (fun _ wd9 ⟨A7, c8, h10, HS⟩ => ⟨_, h10, (fL b1 0 Iu Z (GO.C8 (j := 2) (vs := [.slice A7 t5.length c8]) ([.slice A7 t5.length c8, I a1]) HS Z Z Z Z Z (htN Ni Z) Z Z Z fun wd11 HS => nL (sQ (rG (GO.Bu (j := 2) ([.slice A7 t5.length c8, I a1]) HS Z Z Z Z Np Z (GO.C8 (j := 1) (vs := [.slice A7 t5.length c8, I a1]) ([.slice A7 t5.length c8, I a1]) HS Z Z Z Z Z (htA Np) Z Z Z fun wd12 HS => nL ?_))))))⟩))))
  obtain ⟨rfl, rfl⟩ := Mf H
  exact rT _ func104 Z (Ki.Lr (j := 1) (vs := [.slice A7 t5.length c8, I a1]) HS Z Z Z Np) ⟨_, _, Z, (HS.pk 3 [0] Z)⟩
theorem Dr.calls {s : List Int} {A_a : Option Addr} {c_a : Nat} {r1 : List Int} (HS : St w0 w (L)) (r_a : Aq w0 L (Bq .i64) A_a c_a (fun _ => ()) s) (H : Dr.f s = some r1) :
    Calls prog 105 #[.slice A_a s.length c_a] w (Dr.post w0 L r1) := by
  unfold Dr.f at H
  refine cG func105 Z ?_
  refine rN 4 Z (rG (mV Z (GO.eU Z Z Z underlying43 Z (nL ?_))))
  rcases Decidable.em (A_a.isNone = true) with c1 | c1
  ·
   obtain rfl := Pv r_a HS c1
   refine yB Z c1 (rN 2 Z ?_)
   replace HS := HS.Gr (Bq .i64) 2 (fun _ => ())
   replace H : some ([] : List Int) = some r1 := H
   obtain rfl := sI H
   exact rT _ func105 Z Z ⟨_, _, Z, HS⟩
  refine nB Z (Ca c1) (rN 2 Z ?_)
  obtain ⟨c7, H⟩ := iN H
  refine rG (GO.F3 (el := 2) ([]) HS Z Z (fun _ => by kernel_rfl) Z fun b2 wd3 HS => mV Z ?_)
  replace HS := HS.J6 (T := (Bq .i64)) (j := 0) Z Bv (fun _ => ()) ([] : List Int) Z (O3 Z)
  refine GO.Nb (t := 5) (m := ([] : List Int).length) (c' := ([] : List Int).length) Z Z Z (GO.Vb (T := (Bq .i64)) (j := 0) HS Z (rD 1 r_a) Bv Z Z Z underlying43 S9 Z Z Z c7 Z (fun _ => Z) fun A5 c6 wd4 HS => aS Z (nL ?_))
  obtain rfl := sI H
  exact rT _ func105 Z Z ⟨_, _, Z, HS⟩
theorem Dz.calls {s : List Ci} {A_a : Option Addr} {c_a : Nat} {r1 : List Ci} (HS : St w0 w (L)) (r_a : Aq w0 L Cq A_a c_a (fun _ => ()) s) (H : Dz.f s = some r1) :
    Calls prog 106 #[.slice A_a s.length c_a] w (Dz.post w0 L r1) := by
  unfold Dz.f at H
  refine cG func106 Z ?_
  refine rN 4 Z (rG (mV Z (GO.eU Z Z Z underlying60 Z (nL ?_))))
  rcases Decidable.em (A_a.isNone = true) with c1 | c1
  ·
   obtain rfl := Pv r_a HS c1
   refine yB Z c1 (rN 2 Z ?_)
   replace HS := HS.Gr Cq 140 (fun _ => ())
   replace H : some ([] : List Ci) = some r1 := H
   obtain rfl := sI H
   exact rT _ func106 Z Z ⟨_, _, Z, HS⟩
  refine nB Z (Ca c1) (rN 2 Z ?_)
  obtain ⟨c7, H⟩ := iN H
  refine rG (GO.F3 (el := 140) ([]) HS Z Z (fun _ => by kernel_rfl) Z fun b2 wd3 HS => mV Z ?_)
  replace HS := HS.J6 (T := Cq) (j := 0) Z Bv (fun _ => ()) ([] : List Ci) Z (O3 Z)
  refine GO.Nb (t := 5) (m := ([] : List Ci).length) (c' := ([] : List Ci).length) Z Z Z (GO.Vb (T := Cq) (j := 0) HS Z (rD 1 r_a) Bv Z Z Z underlying60 bV Z Z Z c7 Z (fun _ => Z) fun A5 c6 wd4 HS => aS Z (nL ?_))
  obtain rfl := sI H
  exact rT _ func106 Z Z ⟨_, _, Z, HS⟩
theorem G9.calls {f1 : ByteArray} {e1 : Int} {o1 : List (List Bt)} {m1 : List Al} {n1 c1 : Int} {k1 : List Int} {a1 d1 : Int} {i1 : List Ci} {h1 g1 : List Int} {A_a : Option Addr} {c_a : Nat} {y_a : Nat → (Ty.slice 157 Bc).Lay} {A_b : Option Addr} {c_b : Nat} {A_c : Option Addr} {c_c : Nat} {A_d : Option Addr} {c_d : Nat} {A_e : Option Addr} {c_e : Nat} {A_f : Option Addr} {c_f : Nat} {r1 : ByteArray} {r2 : Int} {r3 : List (List Bt)} {r4 : List Al} {r5 r6 : Int} {r7 : List Int} {r8 r9 : Int} {r10 : List Ci} {r11 r12 : List Int} (HS : St w0 w (L)) (r_a : Aq w0 L (Ty.slice 157 Bc) A_a c_a y_a o1) (r_b : Aq w0 L Bb A_b c_b (fun _ => ()) m1) (r_c : Aq w0 L (Bq .i64) A_c c_c (fun _ => ()) k1) (r_d : Aq w0 L Cq A_d c_d (fun _ => ()) i1) (r_e : Aq w0 L (Bq .i64) A_e c_e (fun _ => ()) h1) (r_f : Aq w0 L (Bq .i64) A_f c_f (fun _ => ()) g1) (H : G9.f K f1 e1 o1 m1 n1 c1 k1 a1 d1 i1 h1 g1 = some (r1, r2, r3, r4, r5, r6, r7, r8, r9, r10, r11, r12)) :
    Calls prog 49 #[.agg [.string f1, I e1, .slice A_a o1.length c_a, .slice A_b m1.length c_b, I n1, I c1, .slice A_c k1.length c_c, I a1, I d1, .slice A_d i1.length c_d, .slice A_e h1.length c_e, .slice A_f g1.length c_f].toArray] w (G9.post w0 L r1 r2 r3 r4 r5 r6 r7 r8 r9 r10 r11 r12) := by
  unfold G9.f at H
  refine cG func49 Z ?_
  refine sQ (rG (GO.box (cs := [.string f1, I e1, .slice A_a o1.length c_a, .slice A_b m1.length c_b, I n1, I c1, .slice A_c k1.length c_c, I a1, I d1, .slice A_d i1.length c_d, .slice A_e h1.length c_e, .slice A_f g1.length c_f]) HS Z Z Z Z fun b1 wd2 HS => GO.alloc HS Z dJ Z Z fun b3 wd4 HS => nL (sQ ?_)))
  obtain ⟨t5, h6, H⟩ := bI H
  refine rG (fL b1 2 Nk Z (GO.Bu (j := 1) ([.slice A_a o1.length c_a]) HS Z Z Z Z Oc Z (fN Z func103 lG.1 lG.2 Z Z (Cv.calls HS (rD 2 r_a) h6) (fun _ wd10 ⟨A7, c8, y9, h11, HS⟩ => ⟨_, h11, (fL b1 2 Nk Z (GO.C8 (j := 2) (vs := [.slice A7 t5.length c8]) ([.string f1, I e1, .slice A7 t5.length c8, .slice A_b m1.length c_b, I n1, I c1, .slice A_c k1.length c_c, I a1, I d1, .slice A_d i1.length c_d, .slice A_e h1.length c_e, .slice A_f g1.length c_f]) HS Z Z Z Z Z (htA Oc) Z Z Z fun wd12 HS => nL (sQ ?_)))⟩))))
  obtain ⟨t13, t14, h15, H⟩ := Dk H
  refine rG (fL b1 3 L8 Z (GO.Bu (j := 2) ([.slice A_b m1.length c_b, I n1]) HS Z Z Z Z Np Z (fN Z func104 lK.1 lK.2 Z Z (Ji.calls HS (rD 3 r_b) h15) (fun _ wd18 ⟨A16, c17, h19, HS⟩ => ⟨_, h19, (fL b1 3 L8 Z (GO.C8 (j := 3) (vs := [.slice A16 t13.length c17, I t14]) ([.string f1, I e1, .slice A7 t5.length c8, .slice A16 t13.length c17, I t14, I c1, .slice A_c k1.length c_c, I a1, I d1, .slice A_d i1.length c_d, .slice A_e h1.length c_e, .slice A_f g1.length c_f]) HS Z Z Z Z Z (htA Np) Z Z Z fun wd20 HS => nL (sQ ?_)))⟩))))
  obtain ⟨t21, h22, H⟩ := bI H
  refine rG (fL b1 5 Ml Z (fL b1 6 Nc Z (lB 3 HS Z H7 Z (fN Z func105 Uk.1 Uk.2 Z Z (Dr.calls HS (rD 4 r_c) h22) (fun _ wd25 ⟨A23, c24, h26, HS⟩ => ⟨_, h26, (fL b1 5 Ml Z (fL b1 6 Nc Z (GO.C8 (j := 4) (vs := [.slice A23 t21.length c24]) ([.string f1, I e1, .slice A7 t5.length c8, .slice A16 t13.length c17, I t14, I c1, .slice A23 t21.length c24, I a1, I d1, .slice A_d i1.length c_d, .slice A_e h1.length c_e, .slice A_f g1.length c_f]) HS Z Z Z Z Z (htN H7 Z) Z Z Z fun wd27 HS => nL (sQ (rG (fL b1 7 K4 Z (aS Z (nL (sQ ?_)))))))))⟩)))))
  obtain ⟨t28, h29, H⟩ := bI H
  obtain ⟨t34, h35, H⟩ := bI H
  obtain ⟨t40, h41, H⟩ := bI H
  refine G.Oi mixed (fun w => St w0 w (Box b1 64 [.string f1, I e1, .slice A7 t5.length c8, .slice A16 t13.length c17, I t14, I c1, .slice A23 t21.length c24, I a1, I d1, .slice A_d i1.length c_d, .slice A_e h1.length c_e, .slice A_f g1.length c_f] :: L)) [6, 11, 16] [0, 1, 2, 3, 4, 5, 8, 9, 10, 13, 14, 15, 6, 11, 16, 7, 12, 17, 18, 19, 20, 21, 22, 23, 24, 25, 26] [20, 23, 26] (by kernel_rfl) (by kernel_rfl) (HS.drew.pk 5 [4] Z) ?_
  replace HS := HS.drew
  refine GX.ps 4 Z (qL Z Z (fun _ _ g => GO.iQ Z Z Z g) Z (qL Z Z (fun _ _ g => fL b1 9 Ir Z g) Z (GX.ps 1 Z (qL Z Z (fun _ _ g => GO.iQ Z Z Z g) Z (qL Z Z (fun _ _ g => fL b1 10 Je Z g) Z (GX.ps 1 Z (qL Z Z (fun _ _ g => GO.iQ Z Z Z g) Z (qL Z Z (fun _ _ g => fL b1 11 Lm Z g) Z (GX.ls Z Z Z (HS.pk 5 [4] Z) (fun _ HS _ g => lB 0 HS Z Nh Z g) Z (GX.ls Z Z Z (HS.pk 5 [4] Z) (fun _ HS _ g => lB 0 HS Z H7 Z g) Z (GX.ls Z Z Z (HS.pk 5 [4] Z) (fun _ HS _ g => lB 0 HS Z H7 Z g) Z (GX.l2 Z (fN Z func106 kX.1 kX.2 Z Z (Dz.calls HS (rD 5 r_d) h29) (fun _ wd32 ⟨A30, c31, h33, HS⟩ => ⟨_, h33, (GX.fin (HS.pk 6 [5] Z) ?_)⟩))))))))))))))
  refine GX.l2 Z (fN Z func105 Uk.1 Uk.2 Z Z (Dr.calls HS (rD 6 r_e) h35) (fun _ wd38 ⟨A36, c37, h39, HS⟩ => ⟨_, h39, (GX.fin (HS.pk 7 [6] Z) (GX.l2 Z (fN Z func105 Uk.1 Uk.2 Z Z (Dr.calls HS (rD 7 r_f) h41) (fun _ wd44 ⟨A42, c43, h45, HS⟩ => ⟨_, h45, (GX.fin (HS.pk 8 [7] Z) (qL Z Z (fun _ _ g => GO.iQ Z Z Z g) Z (qL Z Z (fun _ _ g => fL b1 9 Ir Z g) Z (GX.l2 Z (GO.C8 (j := 7) (vs := [.slice A30 t28.length c31]) ([.string f1, I e1, .slice A7 t5.length c8, .slice A16 t13.length c17, I t14, I c1, .slice A23 t21.length c24, I a1, I d1, .slice A30 t28.length c31, .slice A_e h1.length c_e, .slice A_f g1.length c_f]) HS Z Z Z Z Z (htN Nh Z) Z Z Z fun wd46 HS => GX.kU Z (qL Z Z (fun _ _ g => GO.iQ Z Z Z g) Z (qL Z Z (fun _ _ g => fL b1 10 Je Z g) Z (GX.l2 Z (GO.C8 (j := 7) (vs := [.slice A36 t34.length c37]) ([.string f1, I e1, .slice A7 t5.length c8, .slice A16 t13.length c17, I t14, I c1, .slice A23 t21.length c24, I a1, I d1, .slice A30 t28.length c31, .slice A36 t34.length c37, .slice A_f g1.length c_f]) HS Z Z Z Z Z (htN H7 Z) Z Z Z fun wd47 HS => ?_)))))))))⟩))))⟩))
  refine GX.kU Z (qL Z Z (fun _ _ g => GO.iQ Z Z Z g) Z (qL Z Z (fun _ _ g => fL b1 11 Lm Z g) Z (GX.l2 Z (GO.C8 (j := 7) (vs := [.slice A42 t40.length c43]) ([.string f1, I e1, .slice A7 t5.length c8, .slice A16 t13.length c17, I t14, I c1, .slice A23 t21.length c24, I a1, I d1, .slice A30 t28.length c31, .slice A36 t34.length c37, .slice A42 t40.length c43]) HS Z Z Z Z Z (htN H7 Z) Z Z Z fun wd48 HS => GX.kU Z (GX.nil (sQ (rG (GO.Bu (j := 7) ([.string f1, I e1, .slice A7 t5.length c8, .slice A16 t13.length c17, I t14, I c1, .slice A23 t21.length c24, I a1, I d1, .slice A30 t28.length c31, .slice A36 t34.length c37, .slice A42 t40.length c43]) HS Z Z Z Z Mq Z (GO.C8 (j := 6) (vs := [.string f1, I e1, .slice A7 t5.length c8, .slice A16 t13.length c17, I t14, I c1, .slice A23 t21.length c24, I a1, I d1, .slice A30 t28.length c31, .slice A36 t34.length c37, .slice A42 t40.length c43]) ([.string f1, I e1, .slice A7 t5.length c8, .slice A16 t13.length c17, I t14, I c1, .slice A23 t21.length c24, I a1, I d1, .slice A30 t28.length c31, .slice A36 t34.length c37, .slice A42 t40.length c43]) HS Z Z Z Z Z (htA Mq) Z Z Z fun wd49 HS => nL ?_)))))))))
  obtain ⟨rfl, rfl, rfl, rfl, rfl, rfl, rfl, rfl, rfl, rfl, rfl, rfl⟩ := cK H
  exact rT _ func49 Z (Ki.Lr (j := 6) (vs := [.string f1, I e1, .slice A7 t5.length c8, .slice A16 t13.length c17, I t14, I c1, .slice A23 t21.length c24, I a1, I d1, .slice A30 t28.length c31, .slice A36 t34.length c37, .slice A42 t40.length c43]) HS Z Z Z Mq) ⟨_, _, _, _, _, _, _, _, _, _, _, _, _, Z, (HS.pk 8 [5, 4, 3, 2, 1, 0] Z)⟩
theorem Dn.calls {items : List Am} {A_a : Option Addr} {c_a : Nat} {y_a : Nat → Aa.Lay} {r1 : List Am} (HS : St w0 w (L)) (r_a : Aq w0 L Aa A_a c_a y_a items) (H : Dn.f K items = some r1) :
    Calls prog 31 #[.slice A_a items.length c_a] w (Dn.post w0 L r1) := by
  unfold Dn.f at H
  refine cG func31 Z ?_
  refine rN 6 Z (rG (mV Z (lS Z Z underlying27 Z (mV Z (nL (rN 2 Z ?_))))))
  refine G.name (fun c1 f1 => ?_)
  have g1 : ∀ a1, a1 ≤ K → ∀ (A43 : Option Addr) (c44 : Nat) (b1 : List Am) (y46 : Nat → Aa.Lay) (x47 : Int) (w : World), Dn.l1 K a1 items b1 x47 = some r1 → St w0 w (Own Aa 64 A43 c44 y46 b1 :: L) → G prog 31 19 [(3, .slice A43 b1.length c44), (6, .slice A_a items.length c_a), (7, I (items.length : Int)), (8, I x47)] c1 w (Dn.post w0 L r1) := by
   intro a1
   induction a1 using Nat.strongRecOn with
   | _ a1 e1 =>
    intro h1 A43 c44 b1 y46 x47 w H HS
    cases a1 with
    | zero => rw [Dn.l1] at H; cases H
    | succ d1 =>
     rw [Dn.l1] at H
     subst f1
     refine rN 3 Z ?_
     rcases iE H with ⟨c90, H⟩ | ⟨c90, H⟩
     ·
      refine yB Z (tT c90) (rN 4 Z ?_)
      obtain ⟨c91, H⟩ := iN H
      obtain ⟨e92, h93, H⟩ := Cn H
      refine rG (GO.ix Z Z Z underlying27 Jt ((rD 1 r_a) _ HS).2.2.1 c91.1 c91.2 Z (GO.Ja (T := Aa) (n := x47.toNat) HS (rD 1 r_a) Z Z (getD_eq (ltN c91) h93) Mq Z (GO.alloc HS Z dJ Z Z fun b94 wd95 HS => GO.C8 (j := 0) (vs := [.string e92.Name, I e92.Kind, .slice ((y_a x47.toNat).2.2.1.A) e92.Ad.length ((y_a x47.toNat).2.2.1.c), .slice ((y_a x47.toNat).2.2.2.1.A) e92.Ae.length ((y_a x47.toNat).2.2.2.1.c), I e92.Aj, I e92.Ao, .slice ((y_a x47.toNat).2.2.2.2.2.2.1.A) e92.Av.length ((y_a x47.toNat).2.2.2.2.2.2.1.c), I e92.Ak, I e92.Ah, .slice ((y_a x47.toNat).2.2.2.2.2.2.2.2.2.1.A) e92.Af.length ((y_a x47.toNat).2.2.2.2.2.2.2.2.2.1.c), .slice ((y_a x47.toNat).2.2.2.2.2.2.2.2.2.2.1.A) e92.Ai.length ((y_a x47.toNat).2.2.2.2.2.2.2.2.2.2.1.c), .slice ((y_a x47.toNat).2.2.2.2.2.2.2.2.2.2.2.A) e92.Ag.length ((y_a x47.toNat).2.2.2.2.2.2.2.2.2.2.2.c)]) ([.string e92.Name, I e92.Kind, .slice ((y_a x47.toNat).2.2.1.A) e92.Ad.length ((y_a x47.toNat).2.2.1.c), .slice ((y_a x47.toNat).2.2.2.1.A) e92.Ae.length ((y_a x47.toNat).2.2.2.1.c), I e92.Aj, I e92.Ao, .slice ((y_a x47.toNat).2.2.2.2.2.2.1.A) e92.Av.length ((y_a x47.toNat).2.2.2.2.2.2.1.c), I e92.Ak, I e92.Ah, .slice ((y_a x47.toNat).2.2.2.2.2.2.2.2.2.1.A) e92.Af.length ((y_a x47.toNat).2.2.2.2.2.2.2.2.2.1.c), .slice ((y_a x47.toNat).2.2.2.2.2.2.2.2.2.2.1.A) e92.Ai.length ((y_a x47.toNat).2.2.2.2.2.2.2.2.2.2.1.c), .slice ((y_a x47.toNat).2.2.2.2.2.2.2.2.2.2.2.A) e92.Ag.length ((y_a x47.toNat).2.2.2.2.2.2.2.2.2.2.2.c)]) HS Z Z Z Z Z (htA Mq) Z Z Z fun wd96 HS => nL ?_)))
      obtain ⟨t97, t98, t99, t100, t101, t102, t103, t104, t105, t106, t107, t108, h109, H⟩ := Jw H
      obtain ⟨c130, H⟩ := iN H
      refine rG (mV Z (GO.Bu (j := 0) ([.string e92.Name, I e92.Kind, .slice ((y_a x47.toNat).2.2.1.A) e92.Ad.length ((y_a x47.toNat).2.2.1.c), .slice ((y_a x47.toNat).2.2.2.1.A) e92.Ae.length ((y_a x47.toNat).2.2.2.1.c), I e92.Aj, I e92.Ao, .slice ((y_a x47.toNat).2.2.2.2.2.2.1.A) e92.Av.length ((y_a x47.toNat).2.2.2.2.2.2.1.c), I e92.Ak, I e92.Ah, .slice ((y_a x47.toNat).2.2.2.2.2.2.2.2.2.1.A) e92.Af.length ((y_a x47.toNat).2.2.2.2.2.2.2.2.2.1.c), .slice ((y_a x47.toNat).2.2.2.2.2.2.2.2.2.2.1.A) e92.Ai.length ((y_a x47.toNat).2.2.2.2.2.2.2.2.2.2.1.c), .slice ((y_a x47.toNat).2.2.2.2.2.2.2.2.2.2.2.A) e92.Ag.length ((y_a x47.toNat).2.2.2.2.2.2.2.2.2.2.2.c)]) HS Z Z Z Z Mq Z (fN Z func49 Yl.1 Yl.2 Z Z (G9.calls HS (Aq.fld (rD 2 r_a) (getD_eq (ltN c91) h93) (fun _ h => h.2.2.1)) (Aq.fld (rD 2 r_a) (getD_eq (ltN c91) h93) (fun _ h => h.2.2.2.1)) (Aq.fld (rD 2 r_a) (getD_eq (ltN c91) h93) (fun _ h => h.2.2.2.2.2.2.1)) (Aq.fld (rD 2 r_a) (getD_eq (ltN c91) h93) (fun _ h => h.2.2.2.2.2.2.2.2.2.1)) (Aq.fld (rD 2 r_a) (getD_eq (ltN c91) h93) (fun _ h => h.2.2.2.2.2.2.2.2.2.2.1)) (Aq.fld (rD 2 r_a) (getD_eq (ltN c91) h93) (fun _ h => h.2.2.2.2.2.2.2.2.2.2.2)) h109) (fun _ wd123 ⟨A110, c111, y112, A113, c114, A115, c116, A117, c118, A119, c120, A121, c122, h124, HS⟩ => ⟨_, h124, (GO.F3 (el := 64) ([.string t97, I t98, .slice A110 t99.length c111, .slice A113 t100.length c114, I t101, I t102, .slice A115 t103.length c116, I t104, I t105, .slice A117 t106.length c118, .slice A119 t107.length c120, .slice A121 t108.length c122]) HS Z Z (fun _ => by kernel_rfl) Z fun b125 wd126 HS => ?_)⟩))))
      replace HS := HS.pk 9 [6, 5, 4, 3, 2, 1, 8, 0, 7] Z
      replace HS := Mh (Name := t97) (Kind := t98) (Aj := t101) (Ao := t102) (Ak := t104) (Ah := t105) HS
      replace HS := HS.pk 4 [1, 2, 0, 3] Z
      refine GO.iG (T := Aa) ((), (), ⟨A110, c111, y112⟩, ⟨A113, c114, (fun _ => ())⟩, (), (), ⟨A115, c116, (fun _ => ())⟩, (), (), ⟨A117, c118, (fun _ => ())⟩, ⟨A119, c120, (fun _ => ())⟩, ⟨A121, c122, (fun _ => ())⟩) (⟨t97, t98, t99, t100, t101, t102, t103, t104, t105, t106, t107, t108⟩ : Am) HS Z Z Z underlying27 Uu Z Z Z c130 Z fun A128 c129 y131 wd127 HS => aS Z (nL (rN 3 Z (G.weak ?_ (e1 d1 (Nat.lt_succ_of_le (lR _)) (Nat.le_of_succ_le h1) _ _ _ _ _ _ H (HS.pk 3 [0] Z)))))
      exact ⟨Z, Z, Z, Z, tv⟩
     refine nB Z (tF c90) (rN 3 Z ?_)
     obtain rfl := sI H
     exact rT _ func31 Z Z ⟨_, _, _, Z, HS⟩
  replace HS := HS.Gr Aa 64 (fun _ => ((), (), ⟨none, 0, (fun _ => ⟨none, 0, (fun _ => ())⟩)⟩, ⟨none, 0, (fun _ => ())⟩, (), (), ⟨none, 0, (fun _ => ())⟩, (), (), ⟨none, 0, (fun _ => ())⟩, ⟨none, 0, (fun _ => ())⟩, ⟨none, 0, (fun _ => ())⟩))
  refine G.weak ?_ (g1 K (lR _) _ _ _ _ _ _ H HS)
  exact ⟨Z, Z, Z, Z, tv⟩
theorem Di.calls {s : List Am} {i : Int} {A : Option Addr} {c b : Nat} {ly : Nat → Aa.Lay} {y0 : Am} {r1 : List Am} (l : Aa.Lay) (HS : St w0 w (Own Aa 64 A c ly s :: Box b 64 (Aa.cells l y0) :: Elt Aa l y0 :: L)) (H : Di.f s i y0 = some r1) :
    Calls prog 50 #[.slice A s.length c, I i, .slice (some ⟨b, 0, none⟩) 1 1] w (Di.post w0 (Box b 64 (Aa.cells l y0) :: L) r1) := by
  unfold Di.f at H
  obtain ⟨c1, H⟩ := iN H
  obtain ⟨c2, H⟩ := iN H
  obtain rfl := sI H
  obtain ⟨k, rfl⟩ : ∃ k : Nat, i = (k : Int) := ⟨i.toNat, by omega⟩
  rw [Int.toNat_natCast]
  have hk : k ≤ s.length := by omega
  have hle : s.length ≤ c := ((Aq.own (j := 0) Z) _ HS).1
  have hb : s.length + 1 ≤ 140737488355328 := by omega
  have hw1 : IntKind.i64.wrap ((s.length : Int) + ((1 : Nat) : Int)) = ((s.length + 1 : Nat) : Int) := (H8 (by omega) (by omega)).trans (by omega)
  have hw3 : IntKind.i64.wrap ((k : Int) + ((1 : Nat) : Int)) = ((k + 1 : Nat) : Int) := (H8 (by omega) (by omega)).trans (by omega)
  have hw2 : IntKind.i64.wrap (((s.length + 1 : Nat) : Int) - (k : Int)) = ((s.length + 1 - k : Nat) : Int) := (H8 (by omega) (by omega)).trans (by omega)
  refine cG func50 Z (sQ (rG (aS Z (nL (sQ (rG (pS 2 Z (GO.aH hle Z Z Z underlying27 Jt (by omega) (by omega) Z (nL (sQ (rG (mV Z (lS Z Z underlying27 Z (aS Z (nL (sQ (sQ (rG (pS 2 Z (nL ?_))))))))))))))))))))
  refine nB Z (tF (by decide)) (rN 2 Z ?_)
  refine rG (mV Z (lS Z Z underlying27 Z (aS Z (nL (sQ (sQ (rG (pS 3 Z (nL ?_)))))))))
  by_cases he : (k : Int) = (s.length : Int)
  · refine yB Z (tT he) (sQ (rG (pS 2 Z (GO.iG (T := Aa) l y0 HS Z Z Z underlying27 Uu Z Z Z c2 Z fun A' c' ly' wd HS => aS Z (nL ?_)))))
    have e : s.take k ++ y0 :: s.drop k = s ++ [y0] := by rw [List.take_of_length_le (by omega), List.drop_of_length_le (by omega)]
    rw [e]
    exact rT _ func50 Z Z ⟨_, _, _, Z, HS⟩
  have hk2 : k < s.length := by omega
  refine nB Z (tF he) (rN 3 Z ?_)
  have HS1 := HS.yH
  have hl : (hds Aa ly 0 s).length = s.length := Oe _ _
  obtain ⟨g0, o0, rfl⟩ := ((Aq.own (j := 0) Z) _ HS1).2.2.1 (by omega)
  generalize hH : hds Aa ly 0 s = Hd at HS1 hl
  have hr1 : (s.take k ++ y0 :: s.drop k).length = s.length + 1 := by rw [List.length_append, List.length_take, List.length_cons, List.length_drop]; omega
  refine rG (pS 4 Z (GO.yR Z Z underlying27 Z (pS 1 Z (nL ?_))))
  by_cases hc : c < s.length + 1
  · refine yB Z (tT (by rw [hw1]; omega)) (sQ (rG (pS 2 Z (GO.xM Z Z Z underlying27 Jt (by omega) (by omega) Z (pS 5 Z ?_)))))
    refine GO.eqV 34 (.slice (some ⟨g0, o0, none⟩) k c) Z Z (GO.eqV 39 (I ((s.length + 1 - k : Nat) : Int)) Z (by rw [hw1, hw2]) ?_)
    have hkm : k + (s.length + 1 - k) = s.length + 1 := by omega
    refine GO.yI (sz := 12) (j := 0) ⟨[.string ByteArray.empty, I 0, .slice none 0 0, .slice none 0 0, I 0, I 0, .slice none 0 0, I 0, I 0, .slice none 0 0, .slice none 0 0, .slice none 0 0], by decide, by decide⟩ HS1 Z (by omega) (by omega) Z Z Z (by omega) (by omega) underlying27 underlying3 Uu Z Z Z (by rw [hkm]; exact c2) Z fun A' c' wd HS => GO.eqV 40 (.slice A' (s.length + 1) c') Z (by rw [hkm]) (aS Z (nL (sQ (rG ?_))))
    have hl2 : (Hd.take k ++ List.replicate (s.length + 1 - k) (⟨[.string ByteArray.empty, I 0, .slice none 0 0, .slice none 0 0, I 0, I 0, .slice none 0 0, I 0, I 0, .slice none 0 0, .slice none 0 0, .slice none 0 0], by decide, by decide⟩ : Raw 12)).length = s.length + 1 := by rw [List.length_append, List.length_take, List.length_replicate]; omega
    have hle' : s.length + 1 ≤ c' := by rw [← hl2]; exact ((Aq.own (j := 0) Z) _ HS).1
    refine pS 2 Z (GO.aH hle' Z Z Z underlying27 Jt (by omega) (by omega) Z (pS 1 Z (GO.aO (T := Mv 12) (j := 0) (l := k) HS Z (Aq.box (j := 3) (fun _ => ()) [hd Aa l y0] Z (List.append_nil _) Z Z (fun _ _ _ _ _ => tv)) Bv Z Z Z underlying27 Jt Z (fun _ => vW (by omega)) (by rw [hl2, Int.toNat_natCast]; omega) (fun _ _ => Z) (fun _ => Z) fun wd HS => nL (sQ ?_))))
    refine G.lex mixed [0, 1, 2, 3, 5, 6, 4, 7, 8] (by kernel_rfl) ?_
    replace HS := HS.drew
    refine GX.ps 6 Z (GX.l1 Z Z Z (fun _ g => GO.aH hle' Z Z Z underlying27 Jt (by rw [hw3]; omega) (by rw [hw3]; omega) Z g) Z (GX.l1 Z Z Z (fun _ g => GO.aH hle Z Z Z underlying27 Jt (by omega) (by omega) Z g) Z (GX.l2 Z ?_)))
    refine GO.eqV 50 (.slice (Jz A' (k + 1) c' 12) (s.length + 1 - (k + 1)) (c' - (k + 1))) Z (by rw [hw3]; exact Z) (GO.eqV 53 (.slice (Jz (some ⟨g0, o0, none⟩) k c 12) ((Hd.take Hd.length).drop k).length (c - k)) Z (by rw [List.take_length, List.length_drop, hl]; exact Z) ?_)
    refine GO.aO (T := Mv 12) (j := 0) (l := k + 1) HS Z (Aq.cut (Aq.own (j := 1) Z) (by omega) (lR _)) Bv Z Z Z underlying27 Jt Z (fun _ => vW (by omega)) (by rw [Lh (by rw [List.length_take, List.length_singleton, hl2]; omega), hl2]; omega) (fun _ _ => Z) (fun _ => Z) fun wd HS => GX.fin tv (GX.nil (rN 2 Z ?_))
    replace HS : St w0 wd (Own (Mv 12) 64 A' c' (fun _ => ()) (over (over (Hd.take k ++ List.replicate (s.length + 1 - k) ⟨[.string ByteArray.empty, I 0, .slice none 0 0, .slice none 0 0, I 0, I 0, .slice none 0 0, I 0, I 0, .slice none 0 0, .slice none 0 0, .slice none 0 0], by decide, by decide⟩) k ([hd Aa l y0].take (s.length + 1 - k))) (k + 1) (((Hd.take Hd.length).drop k).take (s.length + 1 - (k + 1)))) :: Own (Mv 12) 64 (some ⟨g0, o0, none⟩) c (fun _ => ()) Hd :: Te Aa ly s :: Box b 64 (Aa.cells l y0) :: Elt Aa l y0 :: L) := HS
    rw [pM hl hk2, ← hH] at HS
    have h9 := St.wW (T := Aa) (t := 64) (A := A') (c := c') (ly := ly) (l := l) (y0 := y0) (L := Box b 64 (Aa.cells l y0) :: L) (Nat.le_of_lt hk2) (HS.pk 5 [0, 2, 4, 3] Z)
    refine G.eqV 6 (.slice A' (s.take k ++ y0 :: s.drop k).length c') Z (by rw [hr1]) ?_
    exact rT _ func50 Z Z ⟨_, _, _, Z, h9⟩
  refine nB Z (tF (by rw [hw1]; omega)) (rN 2 Z ?_)
  have hc' : s.length + 1 ≤ c := by omega
  refine rG (pS 4 Z (GO.xM Z Z Z underlying27 Jt (by rw [hw1]; omega) (by rw [hw1]; omega) Z (aS Z (nL ?_))))
  refine G.eqV 0 (.slice (some ⟨g0, o0, none⟩) (s.length + 1) c) Z (by rw [hw1]; exact Z) (sQ (sQ (rG (pS 5 Z ?_))))
  refine GO.aH hc' Z Z Z underlying27 Jt (by rw [hw3]; omega) (by rw [hw3]; omega) Z (GO.eqV 66 (.slice (Jz (some ⟨g0, o0, none⟩) (k + 1) c 12) (s.length + 1 - (k + 1)) (c - (k + 1))) Z (by rw [hw3]; exact Z) ?_)
  refine GO.ovl (tS := 27) (tR := 4) HS1 (by omega) Z Z func107 (by kernel_rfl) (by kernel_rfl) (by kernel_rfl) (by kernel_rfl) underlying27 Jt Z Z Z (pS 1 Z (nL (yB Z Z (sQ ?_))))
  refine G.lex mixed [0, 1, 2, 3, 5, 6, 4, 7, 8] (by kernel_rfl) ?_
  replace HS1 := HS1.drew
  refine GX.ps 6 Z (GX.l1 Z Z Z (fun _ g => GO.aH hc' Z Z Z underlying27 Jt (by rw [hw3]; omega) (by rw [hw3]; omega) Z g) Z (GX.l1 Z Z Z (fun _ g => GO.aH hc' Z Z Z underlying27 Jt (by omega) (by omega) Z g) Z (GX.l2 Z ?_)))
  refine GO.eqV 73 (.slice (Jz (some ⟨g0, o0, none⟩) (k + 1) c 12) (s.length + 1 - (k + 1)) (c - (k + 1))) Z (by rw [hw3]; exact Z) ?_
  refine GO.vU (j := 0) (k := k) HS1 Z Z Z Z underlying27 Jt (by omega) (by omega) (by rw [Int.toNat_natCast]; omega) (by omega) Z fun wd HS => GX.fin tv (GX.nil (sQ (rG ?_)))
  refine pS 2 Z (GO.aH hc' Z Z Z underlying27 Jt (by omega) (by omega) Z (pS 1 Z (GO.aO (T := Mv 12) (j := 0) (l := k) HS Z (Aq.box (j := 2) (fun _ => ()) [hd Aa l y0] Z (List.append_nil _) Z Z (fun _ _ _ _ _ => tv)) Bv Z Z Z underlying27 Jt Z (fun _ => vW (by omega)) (by rw [List.length_append, List.length_take, List.length_drop, Int.toNat_natCast]; omega) (fun _ _ => Z) (fun _ => Z) fun wd HS => nL (rN 2 Z ?_))))
  replace HS : St w0 wd (Own (Mv 12) 64 (some ⟨g0, o0, none⟩) c (fun _ => ()) (over (Hd.take (k + 1) ++ Hd.drop k) k ([hd Aa l y0].take (s.length + 1 - k))) :: Te Aa ly s :: Box b 64 (Aa.cells l y0) :: Elt Aa l y0 :: L) := HS
  rw [vX hl hk2, ← hH] at HS
  have h9 := St.wW (T := Aa) (t := 64) (A := some ⟨g0, o0, none⟩) (c := c) (ly := ly) (l := l) (y0 := y0) (L := Box b 64 (Aa.cells l y0) :: L) (Nat.le_of_lt hk2) (HS.pk 4 [0, 1, 3, 2] Z)
  refine G.eqV 6 (.slice (some ⟨g0, o0, none⟩) (s.take k ++ y0 :: s.drop k).length c) Z (by rw [hr1]) ?_
  exact rT _ func50 Z Z ⟨_, _, _, Z, h9⟩
theorem En.calls {lists : List (List Am)} {A_a : Option Addr} {c_a : Nat} {y_a : Nat → (Ty.slice 64 Aa).Lay} {r1 : List (List Am)} (HS : St w0 w (L)) (r_a : Aq w0 L (Ty.slice 64 Aa) A_a c_a y_a lists) (H : En.f K lists = some r1) :
    Calls prog 69 #[.slice A_a lists.length c_a] w (En.post w0 L r1) := by
  unfold En.f at H
  refine cG func69 Z ?_
  refine rN 6 Z (rG (mV Z (lS Z Z underlying28 Z (mV Z (nL (rN 2 Z ?_))))))
  refine G.name (fun c1 f1 => ?_)
  have g1 : ∀ a1, a1 ≤ K → ∀ (A17 : Option Addr) (c18 : Nat) (b1 : List (List Am)) (y20 : Nat → (Ty.slice 64 Aa).Lay) (x21 : Int) (w : World), En.l1 K a1 lists b1 x21 = some r1 → St w0 w (Own (Ty.slice 64 Aa) 27 A17 c18 y20 b1 :: L) → G prog 69 19 [(3, .slice A17 b1.length c18), (6, .slice A_a lists.length c_a), (7, I (lists.length : Int)), (8, I x21)] c1 w (En.post w0 L r1) := by
   intro a1
   induction a1 using Nat.strongRecOn with
   | _ a1 e1 =>
    intro h1 A17 c18 b1 y20 x21 w H HS
    cases a1 with
    | zero => rw [En.l1] at H; cases H
    | succ d1 =>
     rw [En.l1] at H
     subst f1
     refine rN 3 Z ?_
     rcases iE H with ⟨c38, H⟩ | ⟨c38, H⟩
     ·
      refine yB Z (tT c38) (rN 4 Z ?_)
      obtain ⟨c39, H⟩ := iN H
      refine rG (GO.ix Z Z Z underlying28 V5 ((rD 1 r_a) _ HS).2.2.1 c39.1 c39.2 Z (GO.Fq (T := (Ty.slice 64 Aa)) (n := x21.toNat) (o := 0) HS (rD 1 r_a) Z Z (getD_some (d := []) (ltN c39)) Z Z Nq Z (aS Z (nL ?_))))
      obtain ⟨t40, h41, H⟩ := bI H
      obtain ⟨c52, H⟩ := iN H
      refine rG (pS 2 Z (fN Z func31 Yv.1 Yv.2 Z Z (Dn.calls HS (Aq.elem (rD 1 r_a) c39.1 c39.2) h41) (fun _ wd45 ⟨A42, c43, y44, h46, HS⟩ => ⟨_, h46, (GO.F3 (el := 27) ([.slice A42 t40.length c43]) HS Z Z (fun _ => by kernel_rfl) Z fun b47 wd48 HS => ?_)⟩)))
      replace HS := HS.pk 3 [2, 0, 1] Z
      refine GO.aT (S := Aa) (u := 64) HS Z Z Z underlying28 aI Z Z c52 Z fun A50 c51 y53 wd49 HS => aS Z (nL (rN 3 Z (G.weak ?_ (e1 d1 (Nat.lt_succ_of_le (lR _)) (Nat.le_of_succ_le h1) _ _ _ _ _ _ H (HS.pk 2 [0] Z)))))
      exact ⟨Z, Z, Z, Z, tv⟩
     refine nB Z (tF c38) (rN 3 Z ?_)
     obtain rfl := sI H
     exact rT _ func69 Z Z ⟨_, _, _, Z, HS⟩
  replace HS := HS.Gr (Ty.slice 64 Aa) 27 (fun _ => ⟨none, 0, (fun _ => ((), (), ⟨none, 0, (fun _ => ⟨none, 0, (fun _ => ())⟩)⟩, ⟨none, 0, (fun _ => ())⟩, (), (), ⟨none, 0, (fun _ => ())⟩, (), (), ⟨none, 0, (fun _ => ())⟩, ⟨none, 0, (fun _ => ())⟩, ⟨none, 0, (fun _ => ())⟩))⟩)
  refine G.weak ?_ (g1 K (lR _) _ _ _ _ _ _ H HS)
  exact ⟨Z, Z, Z, Z, tv⟩
theorem Jr.calls {a1 : List Am} {c1 d1 : List (List Am)} {A_a : Option Addr} {c_a : Nat} {y_a : Nat → Aa.Lay} {A_b : Option Addr} {c_b : Nat} {y_b : Nat → (Ty.slice 64 Aa).Lay} {A_c : Option Addr} {c_c : Nat} {y_c : Nat → (Ty.slice 64 Aa).Lay} {r1 : List Am} {r2 r3 : List (List Am)} (HS : St w0 w (L)) (r_a : Aq w0 L Aa A_a c_a y_a a1) (r_b : Aq w0 L (Ty.slice 64 Aa) A_b c_b y_b c1) (r_c : Aq w0 L (Ty.slice 64 Aa) A_c c_c y_c d1) (H : Jr.f K a1 c1 d1 = some (r1, r2, r3)) :
    Calls prog 29 #[.agg [.slice A_a a1.length c_a, .slice A_b c1.length c_b, .slice A_c d1.length c_c].toArray] w (Jr.post w0 L r1 r2 r3) := by
  unfold Jr.f at H
  refine cG func29 Z ?_
  refine sQ (rG (GO.box (cs := [.slice A_a a1.length c_a, .slice A_b c1.length c_b, .slice A_c d1.length c_c]) HS Z Z Z Z fun b1 wd2 HS => GO.alloc HS Z Xn Z Z fun b3 wd4 HS => nL (sQ ?_)))
  obtain ⟨t5, h6, H⟩ := bI H
  obtain ⟨t12, h13, H⟩ := bI H
  obtain ⟨t19, h20, H⟩ := bI H
  refine G.Oi mixed (fun w => St w0 w (Box b1 30 [.slice A_a a1.length c_a, .slice A_b c1.length c_b, .slice A_c d1.length c_c] :: L)) [1, 4, 7] [0, 3, 6, 1, 4, 7, 2, 5, 8, 9, 10] [] (by kernel_rfl) (by kernel_rfl) (HS.drew.pk 2 [1] Z) ?_
  replace HS := HS.drew
  refine qL Z Z (fun _ _ g => fL b1 0 K5 Z g) Z (qL Z Z (fun _ _ g => fL b1 1 Po Z g) Z (qL Z Z (fun _ _ g => fL b1 2 Rc Z g) Z (GX.ls Z Z Z (HS.pk 2 [1] Z) (fun _ HS _ g => lB 0 HS Z Nq Z g) Z (GX.ls Z Z Z (HS.pk 2 [1] Z) (fun _ HS _ g => lB 0 HS Z Qa Z g) Z (GX.ls Z Z Z (HS.pk 2 [1] Z) (fun _ HS _ g => lB 0 HS Z Qa Z g) Z (GX.l2 Z (fN Z func31 Yv.1 Yv.2 Z Z (Dn.calls HS (rD 2 r_a) h6) (fun _ wd10 ⟨A7, c8, y9, h11, HS⟩ => ⟨_, h11, (GX.fin (HS.pk 3 [2] Z) (GX.l2 Z (fN Z func69 fQ.1 fQ.2 Z Z (En.calls HS (rD 3 r_b) h13) (fun _ wd17 ⟨A14, c15, y16, h18, HS⟩ => ⟨_, h18, (GX.fin (HS.pk 4 [3] Z) (GX.l2 Z (fN Z func69 fQ.1 fQ.2 Z Z (En.calls HS (rD 4 r_c) h20) (fun _ wd24 ⟨A21, c22, y23, h25, HS⟩ => ⟨_, h25, (GX.fin (HS.pk 5 [4] Z) ?_)⟩))))⟩))))⟩))))))))
  refine qL Z Z (fun _ _ g => GO.I9 (.agg [.slice A7 t5.length c8, .slice A14 t12.length c15, .slice A21 t19.length c22].toArray) Z Z (fun _ => by kernel_rfl) Z g) Z (GX.l2 Z (GO.C8 (j := 3) (vs := [.slice A7 t5.length c8, .slice A14 t12.length c15, .slice A21 t19.length c22]) ([.slice A7 t5.length c8, .slice A14 t12.length c15, .slice A21 t19.length c22]) HS Z Z Z Z Z (htA Km) Z Z Z fun wd26 HS => GX.fin (HS.pk 5 [4] Z) (GX.nil ?_)))
  obtain ⟨rfl, rfl, rfl⟩ := Pp H
  exact rT _ func29 Z (Ki.Lr (j := 3) (vs := [.slice A7 t5.length c8, .slice A14 t12.length c15, .slice A21 t19.length c22]) HS Z Z Z Km) ⟨_, _, _, _, _, _, _, _, _, Z, (HS.pk 5 [2, 1, 0] Z)⟩
theorem Lc.calls {lists : List (List Am)} {items : List Am} {A_a : Option Addr} {c_a : Nat} {y_a : Nat → (Ty.slice 64 Aa).Lay} {A_b : Option Addr} {c_b : Nat} {y_b : Nat → Aa.Lay} {r1 : List (List Am)} (HS : St w0 w (Own (Ty.slice 64 Aa) 27 A_a c_a y_a lists :: Own Aa 64 A_b c_b y_b items :: L)) (H : Lc.f lists items = some r1) :
    Calls prog 68 #[.slice A_a lists.length c_a, .slice A_b items.length c_b] w (Lc.post w0 L r1) := by
  unfold Lc.f at H
  refine cG func68 Z ?_
  refine rN 3 Z ?_
  obtain ⟨c6, H⟩ := iN H
  refine rG (pS 2 Z (GO.F3 (el := 27) ([.slice A_b items.length c_b]) HS Z Z (fun _ => by kernel_rfl) Z fun b1 wd2 HS => ?_))
  replace HS := HS.pk 3 [1, 0, 2] Z
  refine GO.aT (S := Aa) (u := 64) HS Z Z Z underlying28 aI Z Z c6 Z fun A4 c5 y7 wd3 HS => aS Z (nL (sQ ?_))
  obtain ⟨c8, H⟩ := iN H
  refine rG (pS 2 Z (lS Z Z underlying28 Z (GO.sub Z Z Z Z (GO.max2 Z Z Z Z (GO.slL (T := (Ty.slice 64 Aa)) HS (Aq.own (j := 0) Z) Z Z Z underlying28 V5 c8.1 c8.2 Z (aS Z (nL ?_)))))))
  replace HS := HS.dD (A' := (Jz A4 ((if w64 (((lists ++ [items]).length : Int) - 6) > 0 then w64 (((lists ++ [items]).length : Int) - 6) else 0).toNat) c5 1)) (c' := (c5 - (if w64 (((lists ++ [items]).length : Int) - 6) > 0 then w64 (((lists ++ [items]).length : Int) - 6) else 0).toNat)) (j := 0) (l := (if w64 (((lists ++ [items]).length : Int) - 6) > 0 then w64 (((lists ++ [items]).length : Int) - 6) else 0).toNat) (h := (lists ++ [items]).length) (m := c5) Z (leN c8) (lR _) (Nat.le_trans (lR _) ((Aq.own (j := 0) Z) _ HS).1) (lR _) Z Z
  obtain rfl := sI H
  exact rT _ func68 Z Z ⟨_, _, _, Z, (HS.pk 2 [0] Z)⟩
theorem Kv.calls {a1 : List Am} {c1 d1 : List (List Am)} {items : List Am} {A_a : Option Addr} {c_a : Nat} {y_a : Nat → Aa.Lay} {A_b : Option Addr} {c_b : Nat} {y_b : Nat → (Ty.slice 64 Aa).Lay} {A_c : Option Addr} {c_c : Nat} {y_c : Nat → (Ty.slice 64 Aa).Lay} {A_d : Option Addr} {c_d : Nat} {y_d : Nat → Aa.Lay} {r1 r2 : List (List Am)} (HS : St w0 w (Own Aa 64 A_a c_a y_a a1 :: Own (Ty.slice 64 Aa) 27 A_b c_b y_b c1 :: L)) (r_c : Aq w0 L (Ty.slice 64 Aa) A_c c_c y_c d1) (r_d : Aq w0 L Aa A_d c_d y_d items) (H : Kv.f a1 c1 d1 items = some (r1, r2)) :
    Calls prog 28 #[.agg [.slice A_a a1.length c_a, .slice A_b c1.length c_b, .slice A_c d1.length c_c].toArray, .slice A_d items.length c_d] w (Kv.post w0 L items A_d c_d r1 r2) := by
  unfold Kv.f at H
  refine cG func28 Z ?_
  refine sQ (rG (GO.box (cs := [.slice A_a a1.length c_a, .slice A_b c1.length c_b, .slice A_c d1.length c_c]) HS Z Z Z Z fun b1 wd2 HS => GO.alloc HS Z Xn Z Z fun b3 wd4 HS => nL (sQ ?_)))
  obtain ⟨t5, h6, H⟩ := bI H
  refine rG (mV Z (fL b1 1 Po Z (lB 1 HS Z Qa Z (fL b1 0 K5 Z (lB 1 HS Z Nq Z ?_)))))
  replace HS := HS.pk 4 [3, 2, 0, 1] Z
  refine fN Z func68 uE.1 uE.2 Z Z (Lc.calls HS  h6) (fun _ wd10 ⟨A7, c8, y9, h11, HS⟩ => ⟨_, h11, (GO.I9 (.agg [.slice A_d items.length c_d, .slice A7 t5.length c8, .slice none 0 0].toArray) Z Z (fun _ => by kernel_rfl) Z (GO.C8 (j := 1) (vs := [.slice A_d items.length c_d, .slice A7 t5.length c8, .slice none 0 0]) ([.slice A_d items.length c_d, .slice A7 t5.length c8, .slice none 0 0]) HS Z Z Z Z Z (htA Km) Z Z Z fun wd12 HS => nL ?_))⟩)
  replace HS := HS.Gr (Ty.slice 64 Aa) 27 (fun _ => ⟨none, 0, (fun _ => ((), (), ⟨none, 0, (fun _ => ⟨none, 0, (fun _ => ())⟩)⟩, ⟨none, 0, (fun _ => ())⟩, (), (), ⟨none, 0, (fun _ => ())⟩, (), (), ⟨none, 0, (fun _ => ())⟩, ⟨none, 0, (fun _ => ())⟩, ⟨none, 0, (fun _ => ())⟩))⟩)
  obtain ⟨rfl, rfl⟩ := Mf H
  exact rT _ func28 Z (Ki.Lr (j := 2) (vs := [.slice A_d items.length c_d, .slice A7 t5.length c8, .slice none 0 0]) HS Z Z Z Km) ⟨_, _, _, _, _, _, Z, (HS.pk 4 [1, 0] Z)⟩
theorem Cw.calls {d1 : List Am} {a1 c1 : List (List Am)} {s1 : ByteArray} {p1 : Int} {i1 : List (List Bt)} {e1 : List Al} {m1 n1 : Int} {f1 : List Int} {q1 o1 : Int} {k1 : List Ci} {g1 h1 : List Int} {A_a : Option Addr} {c_a : Nat} {y_a : Nat → Aa.Lay} {A_b : Option Addr} {c_b : Nat} {y_b : Nat → (Ty.slice 64 Aa).Lay} {A_c : Option Addr} {c_c : Nat} {y_c : Nat → (Ty.slice 64 Aa).Lay} {A_d : Option Addr} {c_d : Nat} {y_d : Nat → (Ty.slice 157 Bc).Lay} {A_e : Option Addr} {c_e : Nat} {A_f : Option Addr} {c_f : Nat} {A_g : Option Addr} {c_g : Nat} {A_h : Option Addr} {c_h : Nat} {A_i : Option Addr} {c_i : Nat} {r1 : List Am} {r2 r3 : List (List Am)} {r4 : Int} (HS : St w0 w (L)) (r_a : Aq w0 L Aa A_a c_a y_a d1) (r_b : Aq w0 L (Ty.slice 64 Aa) A_b c_b y_b a1) (r_c : Aq w0 L (Ty.slice 64 Aa) A_c c_c y_c c1) (r_d : Aq w0 L (Ty.slice 157 Bc) A_d c_d y_d i1) (r_e : Aq w0 L Bb A_e c_e (fun _ => ()) e1) (r_f : Aq w0 L (Bq .i64) A_f c_f (fun _ => ()) f1) (r_g : Aq w0 L Cq A_g c_g (fun _ => ()) k1) (r_h : Aq w0 L (Bq .i64) A_h c_h (fun _ => ()) g1) (r_i : Aq w0 L (Bq .i64) A_i c_i (fun _ => ()) h1) (H : Cw.f K d1 a1 c1 s1 p1 i1 e1 m1 n1 f1 q1 o1 k1 g1 h1 = some (r1, r2, r3, r4)) :
    Calls prog 15 #[.agg [.slice A_a d1.length c_a, .slice A_b a1.length c_b, .slice A_c c1.length c_c].toArray, .agg [.string s1, I p1, .slice A_d i1.length c_d, .slice A_e e1.length c_e, I m1, I n1, .slice A_f f1.length c_f, I q1, I o1, .slice A_g k1.length c_g, .slice A_h g1.length c_h, .slice A_i h1.length c_i].toArray] w (Cw.post w0 L r1 r2 r3 r4) := by
  unfold Cw.f at H
  refine cG func15 Z ?_
  refine sQ (rG (GO.box (cs := [.slice A_a d1.length c_a, .slice A_b a1.length c_b, .slice A_c c1.length c_c]) HS Z Z Z Z fun b1 wd2 HS => GO.box (cs := [.string s1, I p1, .slice A_d i1.length c_d, .slice A_e e1.length c_e, I m1, I n1, .slice A_f f1.length c_f, I q1, I o1, .slice A_g k1.length c_g, .slice A_h g1.length c_h, .slice A_i h1.length c_i]) HS Z Z Z Z fun b3 wd4 HS => GO.alloc HS Z Xn Z Z fun b5 wd6 HS => aS Z (nL (sQ ?_))))
  obtain ⟨t7, t8, h9, H⟩ := Dk H
  refine rG (fL b1 0 K5 Z (lB 2 HS Z Nq Z (fL b3 0 K7 Z (lB 1 HS Z na9 Z (fN Z func26 uS.1 uS.2 Z Z (Li.calls HS (rD 3 r_a) h9) (fun _ wd10 ⟨h11, HS⟩ => ⟨_, h11, (pS 5 Z (nL (rN 3 Z ?_)))⟩))))))
  obtain ⟨t21, h22, H⟩ := bI H
  rcases iE H with ⟨c25, H⟩ | ⟨c25, H⟩
  ·
   obtain ⟨t26, h27, H⟩ := bI H
   refine rG (GO.Bu (j := 2) ([.slice A_a d1.length c_a, .slice A_b a1.length c_b, .slice A_c c1.length c_c]) HS Z Z Z Z Km Z (fN Z func27 eZ.1 eZ.2 Z Z (Ep.calls HS (rD 3 r_a) (rD 3 r_b) (rD 3 r_c) h22) (fun _ wd23 ⟨h24, HS⟩ => ⟨_, h24, (pS 2 Z (kN 21 Z (congrArg Bool.not c25) (oN Z (GO.Bu (j := 1) ([.string s1, I p1, .slice A_d i1.length c_d, .slice A_e e1.length c_e, I m1, I n1, .slice A_f f1.length c_f, I q1, I o1, .slice A_g k1.length c_g, .slice A_h g1.length c_h, .slice A_i h1.length c_i]) HS Z Z Z Z Mq Z (bK (oN Z (fN Z func48 Va.1 Va.2 Z Z (Ig.calls HS (rD 3 r_d) (rD 3 r_e) (rD 3 r_f) (rD 3 r_g) (rD 3 r_h) (rD 3 r_i) h27) (fun _ wd28 ⟨h29, HS⟩ => ⟨_, h29, (bK (oN Z (GO.not Z Z Z (bK (pS 2 Z ?_)))))⟩))))))))⟩)))
   refine nL ?_
   rcases iE H with ⟨c30, H⟩ | ⟨c30, H⟩
   ·
    refine nB Z (congrArg Bool.not c30) (sQ ?_)
    refine G.Ps (fun a2 b2 => ?_)
    have z1 : ∀ u1, u1 ≤ K → ∀ (x33 : Bool) (w : World), Cw.j1 K u1 d1 a1 c1 s1 p1 i1 e1 m1 n1 f1 q1 o1 k1 g1 h1 t7 t8 x33 = some (r1, r2, r3, r4) → St w0 w (Box b1 30 [.slice A_a d1.length c_a, .slice A_b a1.length c_b, .slice A_c c1.length c_c] :: Box b3 64 [.string s1, I p1, .slice A_d i1.length c_d, .slice A_e e1.length c_e, I m1, I n1, .slice A_f f1.length c_f, I q1, I o1, .slice A_g k1.length c_g, .slice A_h g1.length c_h, .slice A_i h1.length c_i] :: Box b5 30 [.slice none 0 0, .slice none 0 0, .slice none 0 0] :: L) → G prog 15 56 [(2, .pointer (some ⟨b1, 0, none⟩)), (3, .pointer (some ⟨b3, 0, none⟩)), (4, .pointer (some ⟨b5, 0, none⟩)), (6, I t7), (7, .bool t8), (27, .bool x33)] a2 w (Cw.post w0 L r1 r2 r3 r4) := by
     intro u1 f2 x33 w H HS
     cases u1 with
     | zero => rw [Cw.j1] at H; cases H
     | succ x1 =>
      rw [Cw.j1] at H
      subst b2
      rcases iE H with ⟨c34, H⟩ | ⟨c34, H⟩
      ·
       refine yB Z c34 (sQ (rG (GO.I9 (.agg [.slice none 0 0, .slice none 0 0, .slice none 0 0].toArray) Z Z (fun _ => by kernel_rfl) Z (GO.C8 (j := 2) (vs := [.slice none 0 0, .slice none 0 0, .slice none 0 0]) ([.slice none 0 0, .slice none 0 0, .slice none 0 0]) HS Z Z Z Z Z (htA Km) Z Z Z fun wd35 HS => aS Z (nL ?_)))))
       replace HS := HS.Gr Aa 64 (fun _ => ((), (), ⟨none, 0, (fun _ => ⟨none, 0, (fun _ => ())⟩)⟩, ⟨none, 0, (fun _ => ())⟩, (), (), ⟨none, 0, (fun _ => ())⟩, (), (), ⟨none, 0, (fun _ => ())⟩, ⟨none, 0, (fun _ => ())⟩, ⟨none, 0, (fun _ => ())⟩))
       replace HS := HS.Gr (Ty.slice 64 Aa) 27 (fun _ => ⟨none, 0, (fun _ => ((), (), ⟨none, 0, (fun _ => ⟨none, 0, (fun _ => ())⟩)⟩, ⟨none, 0, (fun _ => ())⟩, (), (), ⟨none, 0, (fun _ => ())⟩, (), (), ⟨none, 0, (fun _ => ())⟩, ⟨none, 0, (fun _ => ())⟩, ⟨none, 0, (fun _ => ())⟩))⟩)
       replace HS := HS.Gr (Ty.slice 64 Aa) 27 (fun _ => ⟨none, 0, (fun _ => ((), (), ⟨none, 0, (fun _ => ⟨none, 0, (fun _ => ())⟩)⟩, ⟨none, 0, (fun _ => ())⟩, (), (), ⟨none, 0, (fun _ => ())⟩, (), (), ⟨none, 0, (fun _ => ())⟩, ⟨none, 0, (fun _ => ())⟩, ⟨none, 0, (fun _ => ())⟩))⟩)
       obtain ⟨rfl, rfl, rfl, rfl⟩ := Qb H
       exact G.Oy _ _ func15 Z (Ki.Lr (j := 5) (vs := [.slice none 0 0, .slice none 0 0, .slice none 0 0]) HS Z Z Z Km) Z ⟨_, _, _, _, _, _, _, _, _, Z, (HS.pk 6 [2, 1, 0] Z)⟩
      refine nB Z (Ca c34) (rN 3 Z ?_)
      obtain ⟨t36, h37, H⟩ := bI H
      refine rG (fL b1 0 K5 Z (lB 0 HS Z Nq Z (fN Z func31 Yv.1 Yv.2 Z Z (Dn.calls HS (rD 3 r_a) h37) (fun _ wd41 ⟨A38, c39, y40, h42, HS⟩ => ⟨_, h42, (aS Z (nL (rN 3 Z ?_)))⟩))))
      refine G.Ps (fun c2 d2 => ?_)
      have y1 : ∀ v1, v1 ≤ x1 → ∀ (A112 : Option Addr) (c113 : Nat) (t1 : List Am) (y115 : Nat → Aa.Lay) (w : World), Cw.j2 K v1 d1 a1 c1 t1 = some (r1, r2, r3, r4) → St w0 w (Box b1 30 [.slice A_a d1.length c_a, .slice A_b a1.length c_b, .slice A_c c1.length c_c] :: Box b5 30 [.slice none 0 0, .slice none 0 0, .slice none 0 0] :: Own Aa 64 A112 c113 y115 t1 :: L) → G prog 15 56 [(2, .pointer (some ⟨b1, 0, none⟩)), (4, .pointer (some ⟨b5, 0, none⟩)), (8, .slice A112 t1.length c113)] c2 w (Cw.post w0 L r1 r2 r3 r4) := by
       intro v1 g2 A112 c113 t1 y115 w H HS
       cases v1 with
       | zero => rw [Cw.j2] at H; cases H
       | succ e2 =>
        rw [Cw.j2] at H
        subst d2
        refine sQ ?_
        obtain ⟨t116, t117, t118, h119, H⟩ := Na H
        obtain ⟨t131, t132, h133, H⟩ := Dk H
        refine rG (GO.Bu (j := 0) ([.slice A_a d1.length c_a, .slice A_b a1.length c_b, .slice A_c c1.length c_c]) HS Z Z Z Z Km Z (fN Z func29 uW.1 uW.2 Z Z (Jr.calls HS (rD 3 r_a) (rD 3 r_b) (rD 3 r_c) h119) (fun _ wd129 ⟨A120, c121, y122, A123, c124, y125, A126, c127, y128, h130, HS⟩ => ⟨_, h130, (mV Z ?_)⟩)))
        replace HS := HS.pk 6 [0, 1, 2, 3, 4, 5] Z
        refine fN Z func28 uU.1 uU.2 Z Z (Kv.calls HS (Aq.own (j := 0) Z) (Aq.own (j := 3) Z) h133) (fun _ wd140 ⟨A134, c135, y136, A137, c138, y139, h141, HS⟩ => ⟨_, h141, (GO.C8 (j := 4) (vs := [.slice A112 t1.length c113, .slice A134 t131.length c135, .slice A137 t132.length c138]) ([.slice A112 t1.length c113, .slice A134 t131.length c135, .slice A137 t132.length c138]) HS Z Z Z Z Z (htA Km) Z Z Z fun wd142 HS => aS Z (nL ?_))⟩)
        obtain ⟨rfl, rfl, rfl, rfl⟩ := Qb H
        exact G.Oy _ _ func15 Z (Ki.Lr (j := 4) (vs := [.slice A112 t1.length c113, .slice A134 t131.length c135, .slice A137 t132.length c138]) HS Z Z Z Km) Z ⟨_, _, _, _, _, _, _, _, _, Z, (HS.pk 6 [5, 0, 1] Z)⟩
      rcases iE H with ⟨c143, H⟩ | ⟨c143, H⟩
      ·
       refine yB Z c143 ?_
       obtain ⟨t144, t145, t146, t147, t148, t149, t150, t151, t152, t153, t154, t155, h156, H⟩ := Jw H
       obtain ⟨c172, H⟩ := iN H
       refine rG (pS 2 Z (GO.Bu (j := 2) ([.string s1, I p1, .slice A_d i1.length c_d, .slice A_e e1.length c_e, I m1, I n1, .slice A_f f1.length c_f, I q1, I o1, .slice A_g k1.length c_g, .slice A_h g1.length c_h, .slice A_i h1.length c_i]) HS Z Z Z Z Mq Z (fN Z func49 Yl.1 Yl.2 Z Z (G9.calls HS (rD 4 r_d) (rD 4 r_e) (rD 4 r_f) (rD 4 r_g) (rD 4 r_h) (rD 4 r_i) h156) (fun _ wd170 ⟨A157, c158, y159, A160, c161, A162, c163, A164, c165, A166, c167, A168, c169, h171, HS⟩ => ⟨_, h171, (GO.ix Z Z Z underlying27 Jt ((Aq.own (j := 6) Z) _ HS).2.2.1 c172.1 c172.2 Z ?_)⟩))))
       replace HS := HS.pk 10 [5, 4, 3, 2, 1, 0, 6, 7, 8, 9] Z
       replace HS := Mh (Name := t144) (Kind := t145) (Aj := t148) (Ao := t149) (Ak := t151) (Ah := t152) HS
       replace HS := HS.pk 5 [1, 0, 2, 3, 4] Z
       refine GO.stE (T := Aa) (n := t7.toNat) ((), (), ⟨A157, c158, y159⟩, ⟨A160, c161, (fun _ => ())⟩, (), (), ⟨A162, c163, (fun _ => ())⟩, (), (), ⟨A164, c165, (fun _ => ())⟩, ⟨A166, c167, (fun _ => ())⟩, ⟨A168, c169, (fun _ => ())⟩) (⟨t144, t145, t146, t147, t148, t149, t150, t151, t152, t153, t154, t155⟩ : Am) HS Z Z Z Z (htA Mq) Z (ltN c172) fun y174 wd173 HS => nL (G.len (t := 8) (m := (t36.set t7.toNat (⟨t144, t145, t146, t147, t148, t149, t150, t151, t152, t153, t154, t155⟩ : Am)).length) Z (by simp only [List.length_set] <;> rfl) (G.weak ?_ (y1 x1 (lR _) _ _ _ _ _ H (HS.pk 4 [1, 3, 0] Z))))
       exact ⟨Z, Z, Z, tv⟩
      refine nB Z (Ca c143) ?_
      obtain ⟨t175, t176, t177, t178, t179, t180, t181, t182, t183, t184, t185, t186, h187, H⟩ := Jw H
      obtain ⟨t208, h209, H⟩ := bI H
      refine rG (pS 2 Z (GO.Bu (j := 2) ([.string s1, I p1, .slice A_d i1.length c_d, .slice A_e e1.length c_e, I m1, I n1, .slice A_f f1.length c_f, I q1, I o1, .slice A_g k1.length c_g, .slice A_h g1.length c_h, .slice A_i h1.length c_i]) HS Z Z Z Z Mq Z (fN Z func49 Yl.1 Yl.2 Z Z (G9.calls HS (rD 4 r_d) (rD 4 r_e) (rD 4 r_f) (rD 4 r_g) (rD 4 r_h) (rD 4 r_i) h187) (fun _ wd201 ⟨A188, c189, y190, A191, c192, A193, c194, A195, c196, A197, c198, A199, c200, h202, HS⟩ => ⟨_, h202, (GO.F3 (el := 64) ([.string t175, I t176, .slice A188 t177.length c189, .slice A191 t178.length c192, I t179, I t180, .slice A193 t181.length c194, I t182, I t183, .slice A195 t184.length c196, .slice A197 t185.length c198, .slice A199 t186.length c200]) HS Z Z (fun _ => by kernel_rfl) Z fun b203 wd204 HS => ?_)⟩))))
      replace HS := HS.pk 11 [6, 5, 4, 3, 2, 1, 7, 0, 8, 9, 10] Z
      replace HS := Mh (Name := t175) (Kind := t176) (Aj := t179) (Ao := t180) (Ak := t182) (Ah := t183) HS
      replace HS := HS.pk 6 [1, 2, 0, 3, 4, 5] Z
      refine fN Z func50 sS.1 sS.2 Z Z (Di.calls ((), (), ⟨A188, c189, y190⟩, ⟨A191, c192, (fun _ => ())⟩, (), (), ⟨A193, c194, (fun _ => ())⟩, (), (), ⟨A195, c196, (fun _ => ())⟩, ⟨A197, c198, (fun _ => ())⟩, ⟨A199, c200, (fun _ => ())⟩) HS h209) (fun _ wd211 ⟨A205, c206, y207, h210, HS⟩ => ⟨_, h210, (aS Z (nL (G.weak ?_ (y1 x1 (lR _) _ _ _ _ _ H (HS.pk 5 [2, 4, 0] Z)))))⟩)
      exact ⟨Z, Z, Z, tv⟩
    rcases iE H with ⟨c212, H⟩ | ⟨c212, H⟩
    ·
     refine rG (fL b1 0 K5 Z (lB 2 HS Z Nq Z (lS Z Z underlying27 Z (pS 2 Z (kN 32 Z (tT c212) (oN Z (mV Z (bK (oN Z (GO.not Z Z Z (bK (pS 2 Z (nL (G.weak ?_ (z1 K (lR _) _ _ H (HS.pk 3 [2, 1, 0] Z))))))))))))))))
     exact ⟨Z, Z, Z, Z, Z, Z, tv⟩
    refine rG (fL b1 0 K5 Z (lB 2 HS Z Nq Z (lS Z Z underlying27 Z (pS 2 Z (kN 32 Z (tF c212) (oF Z (oF Z (pS 2 Z (nL (G.weak ?_ (z1 K (lR _) _ _ H (HS.pk 3 [2, 1, 0] Z))))))))))))
    exact ⟨Z, Z, Z, Z, Z, Z, tv⟩
   refine yB Z (congrArg Bool.not (Ca c30)) (sQ (rG (GO.I9 (.agg [.slice none 0 0, .slice none 0 0, .slice none 0 0].toArray) Z Z (fun _ => by kernel_rfl) Z (GO.C8 (j := 0) (vs := [.slice none 0 0, .slice none 0 0, .slice none 0 0]) ([.slice none 0 0, .slice none 0 0, .slice none 0 0]) HS Z Z Z Z Z (htA Km) Z Z Z fun wd213 HS => aS Z (nL ?_)))))
   replace HS := HS.Gr Aa 64 (fun _ => ((), (), ⟨none, 0, (fun _ => ⟨none, 0, (fun _ => ())⟩)⟩, ⟨none, 0, (fun _ => ())⟩, (), (), ⟨none, 0, (fun _ => ())⟩, (), (), ⟨none, 0, (fun _ => ())⟩, ⟨none, 0, (fun _ => ())⟩, ⟨none, 0, (fun _ => ())⟩))
   replace HS := HS.Gr (Ty.slice 64 Aa) 27 (fun _ => ⟨none, 0, (fun _ => ((), (), ⟨none, 0, (fun _ => ⟨none, 0, (fun _ => ())⟩)⟩, ⟨none, 0, (fun _ => ())⟩, (), (), ⟨none, 0, (fun _ => ())⟩, (), (), ⟨none, 0, (fun _ => ())⟩, ⟨none, 0, (fun _ => ())⟩, ⟨none, 0, (fun _ => ())⟩))⟩)
   replace HS := HS.Gr (Ty.slice 64 Aa) 27 (fun _ => ⟨none, 0, (fun _ => ((), (), ⟨none, 0, (fun _ => ⟨none, 0, (fun _ => ())⟩)⟩, ⟨none, 0, (fun _ => ())⟩, (), (), ⟨none, 0, (fun _ => ())⟩, (), (), ⟨none, 0, (fun _ => ())⟩, ⟨none, 0, (fun _ => ())⟩, ⟨none, 0, (fun _ => ())⟩))⟩)
   obtain ⟨rfl, rfl, rfl, rfl⟩ := Qb H
   exact G.Oy _ _ func15 Z (Ki.Lr (j := 3) (vs := [.slice none 0 0, .slice none 0 0, .slice none 0 0]) HS Z Z Z Km) Z ⟨_, _, _, _, _, _, _, _, _, Z, (HS.pk 6 [2, 1, 0] Z)⟩
  refine rG (GO.Bu (j := 2) ([.slice A_a d1.length c_a, .slice A_b a1.length c_b, .slice A_c c1.length c_c]) HS Z Z Z Z Km Z (fN Z func27 eZ.1 eZ.2 Z Z (Ep.calls HS (rD 3 r_a) (rD 3 r_b) (rD 3 r_c) h22) (fun _ wd23 ⟨h24, HS⟩ => ⟨_, h24, (pS 2 Z (kN 21 Z (congrArg Bool.not (Ca c25)) (oF Z (oF Z (oF Z (pS 2 Z (nL (rN 2 Z (rG (GO.I9 (.agg [.slice none 0 0, .slice none 0 0, .slice none 0 0].toArray) Z Z (fun _ => by kernel_rfl) Z (GO.C8 (j := 0) (vs := [.slice none 0 0, .slice none 0 0, .slice none 0 0]) ([.slice none 0 0, .slice none 0 0, .slice none 0 0]) HS Z Z Z Z Z (htA Km) Z Z Z fun wd214 HS => aS Z ?_)))))))))))⟩)))
  refine nL ?_
  replace HS := HS.Gr Aa 64 (fun _ => ((), (), ⟨none, 0, (fun _ => ⟨none, 0, (fun _ => ())⟩)⟩, ⟨none, 0, (fun _ => ())⟩, (), (), ⟨none, 0, (fun _ => ())⟩, (), (), ⟨none, 0, (fun _ => ())⟩, ⟨none, 0, (fun _ => ())⟩, ⟨none, 0, (fun _ => ())⟩))
  replace HS := HS.Gr (Ty.slice 64 Aa) 27 (fun _ => ⟨none, 0, (fun _ => ((), (), ⟨none, 0, (fun _ => ⟨none, 0, (fun _ => ())⟩)⟩, ⟨none, 0, (fun _ => ())⟩, (), (), ⟨none, 0, (fun _ => ())⟩, (), (), ⟨none, 0, (fun _ => ())⟩, ⟨none, 0, (fun _ => ())⟩, ⟨none, 0, (fun _ => ())⟩))⟩)
  replace HS := HS.Gr (Ty.slice 64 Aa) 27 (fun _ => ⟨none, 0, (fun _ => ((), (), ⟨none, 0, (fun _ => ⟨none, 0, (fun _ => ())⟩)⟩, ⟨none, 0, (fun _ => ())⟩, (), (), ⟨none, 0, (fun _ => ())⟩, (), (), ⟨none, 0, (fun _ => ())⟩, ⟨none, 0, (fun _ => ())⟩, ⟨none, 0, (fun _ => ())⟩))⟩)
  obtain ⟨rfl, rfl, rfl, rfl⟩ := Qb H
  exact G.Oy _ _ func15 Z (Ki.Lr (j := 3) (vs := [.slice none 0 0, .slice none 0 0, .slice none 0 0]) HS Z Z Z Km) Z ⟨_, _, _, _, _, _, _, _, _, Z, (HS.pk 6 [2, 1, 0] Z)⟩
theorem Mg.calls {a1 c1 : Int} {d1 e1 : Int} {r1 : Bool} (HS : St w0 w (L)) (H : Mg.f a1 c1 d1 e1 = some r1) :
    Calls prog 188 #[.agg [I a1, I c1].toArray, .agg [I d1, I e1].toArray] w (Mg.post w0 L r1) := by
  unfold Mg.f at H
  refine cG func188 Z ?_
  refine sQ (rG (GO.box (cs := [I a1, I c1]) HS Z Z Z Z fun b1 wd2 HS => GO.box (cs := [I d1, I e1]) HS Z Z Z Z fun b3 wd4 HS => aS Z (nL (rN 2 Z (rG (fL b1 0 J2 Z (lB 1 HS Z na2 Z (fL b3 0 J2 Z (lB 0 HS Z na2 Z (GO.neq Z Z Z Z (nL ?_)))))))))))
  rcases iE H with ⟨c5, H⟩ | ⟨c5, H⟩
  ·
   refine nB Z (nT c5) (rN 3 Z (rG (fL b1 1 Ng Z (lB 1 HS Z na2 Z (fL b3 1 Ng Z (lB 0 HS Z na2 Z (GO.neq Z Z Z Z (nL ?_))))))))
   rcases iE H with ⟨c6, H⟩ | ⟨c6, H⟩
   ·
    refine nB Z (nT c6) (rN 3 Z ?_)
    obtain rfl := sI H
    exact rT _ func188 Z Z ⟨Z, (HS.pk 2 [] Z)⟩
   refine yB Z (nF c6) (rN 2 Z ?_)
   obtain rfl := sI H
   exact rT _ func188 Z Z ⟨Z, (HS.pk 2 [] Z)⟩
  refine yB Z (nF c5) (rN 2 Z ?_)
  obtain rfl := sI H
  exact rT _ func188 Z Z ⟨Z, (HS.pk 2 [] Z)⟩
theorem F9.calls {a_ b_ : List Bt} {A_a : Option Addr} {c_a : Nat} {A_b : Option Addr} {c_b : Nat} {r1 : Bool} (HS : St w0 w (L)) (r_a : Aq w0 L Bc A_a c_a (fun _ => ()) a_) (r_b : Aq w0 L Bc A_b c_b (fun _ => ()) b_) (H : F9.f K a_ b_ = some r1) :
    Calls prog 156 #[.slice A_a a_.length c_a, .slice A_b b_.length c_b] w (F9.post w0 L r1) := by
  unfold F9.f at H
  refine cG func156 Z ?_
  refine rN 4 Z (rG (mV Z (lS Z Z underlying150 Z (mV Z (lS Z Z underlying150 Z (GO.neq Z Z Z Z (nL ?_)))))))
  rcases iE H with ⟨c1, H⟩ | ⟨c1, H⟩
  ·
   refine nB Z (nT c1) (rN 6 Z ?_)
   refine G.name (fun d1 g1 => ?_)
   have h1 : ∀ a1, a1 ≤ K → ∀ (b1 : Int) (w : World), F9.l1 K a1 a_ b_ b1 = some r1 → St w0 w (L) → G prog 156 27 [(0, .slice A_a a_.length c_a), (1, .slice A_b b_.length c_b), (5, I b1)] d1 w (F9.post w0 L r1) := by
    intro a1
    induction a1 using Nat.strongRecOn with
    | _ a1 f1 =>
     intro i1 b1 w H HS
     cases a1 with
     | zero => rw [F9.l1] at H; cases H
     | succ e1 =>
      rw [F9.l1] at H
      subst g1
      refine rN 2 Z (rG (pS 2 Z (lS Z Z underlying150 Z (GO.lss Z Z Z Z (nL ?_)))))
      rcases iE H with ⟨c27, H⟩ | ⟨c27, H⟩
      ·
       refine yB Z (tT c27) (rN 4 Z ?_)
       obtain ⟨c28, H⟩ := iN H
       obtain ⟨e29, h30, H⟩ := Cn H
       obtain ⟨c31, H⟩ := iN H
       obtain ⟨e32, h33, H⟩ := Cn H
       obtain ⟨t34, h35, H⟩ := bI H
       refine G.lex mixed [0, 1, 2, 4, 5, 6, 3, 7, 8, 9] (by kernel_rfl) ?_
       replace HS := HS.drew
       refine GX.ps 2 Z (qL Z Z (fun _ _ g => GO.ix Z Z Z underlying150 Pm (r_a _ HS).2.2.1 c28.1 c28.2 Z g) Z (GX.ps 2 Z (qL Z Z (fun _ _ g => GO.ix Z Z Z underlying150 Pm (r_b _ HS).2.2.1 c31.1 c31.2 Z g) Z (GX.l1 Z Z Z (fun _ g => GO.Ja (T := Bc) (n := b1.toNat) HS r_a Z Z (getD_eq (ltN c28) h30) Ma Z g) Z (GX.l1 Z Z Z (fun _ g => GO.Ja (T := Bc) (n := b1.toNat) HS r_b Z Z (getD_eq (ltN c31) h33) Ma Z g) Z (GX.l2 Z (fN Z func188 nZ.1 nZ.2 Z Z (Mg.calls HS  h35) (fun _ wd36 ⟨h37, HS⟩ => ⟨_, h37, (GX.fin tv (GX.ps 1 Z (GX.nil ?_)))⟩))))))))
       rcases iE H with ⟨c38, H⟩ | ⟨c38, H⟩
       ·
        refine nB Z (congrArg Bool.not c38) (rN 4 Z (G.weak ?_ (f1 e1 (Nat.lt_succ_of_le (lR _)) (Nat.le_of_succ_le i1) _ _ H HS)))
        exact ⟨Z, Z, Z, tv⟩
       refine yB Z (congrArg Bool.not (Ca c38)) (rN 2 Z ?_)
       obtain rfl := sI H
       exact rT _ func156 Z Z ⟨Z, HS⟩
      refine nB Z (tF c27) (rN 3 Z ?_)
      obtain rfl := sI H
      exact rT _ func156 Z Z ⟨Z, HS⟩
   refine G.weak ?_ (h1 K (lR _) _ _ H HS)
   exact ⟨Z, Z, Z, tv⟩
  refine yB Z (nF c1) (rN 2 Z ?_)
  obtain rfl := sI H
  exact rT _ func156 Z Z ⟨Z, HS⟩
theorem E9.calls {a_ b_ : List (List Bt)} {A_a : Option Addr} {c_a : Nat} {y_a : Nat → (Ty.slice 157 Bc).Lay} {A_b : Option Addr} {c_b : Nat} {y_b : Nat → (Ty.slice 157 Bc).Lay} {r1 : Bool} (HS : St w0 w (L)) (r_a : Aq w0 L (Ty.slice 157 Bc) A_a c_a y_a a_) (r_b : Aq w0 L (Ty.slice 157 Bc) A_b c_b y_b b_) (H : E9.f K a_ b_ = some r1) :
    Calls prog 109 #[.slice A_a a_.length c_a, .slice A_b b_.length c_b] w (E9.post w0 L r1) := by
  unfold E9.f at H
  refine cG func109 Z ?_
  refine rN 4 Z (rG (mV Z (lS Z Z underlying53 Z (mV Z (lS Z Z underlying53 Z (GO.neq Z Z Z Z (nL ?_)))))))
  rcases iE H with ⟨c1, H⟩ | ⟨c1, H⟩
  ·
   refine nB Z (nT c1) (rN 6 Z ?_)
   refine G.name (fun d1 g1 => ?_)
   have h1 : ∀ a1, a1 ≤ K → ∀ (b1 : Int) (w : World), E9.l1 K a1 a_ b_ b1 = some r1 → St w0 w (L) → G prog 109 27 [(0, .slice A_a a_.length c_a), (1, .slice A_b b_.length c_b), (5, I b1)] d1 w (E9.post w0 L r1) := by
    intro a1
    induction a1 using Nat.strongRecOn with
    | _ a1 f1 =>
     intro i1 b1 w H HS
     cases a1 with
     | zero => rw [E9.l1] at H; cases H
     | succ e1 =>
      rw [E9.l1] at H
      subst g1
      refine rN 2 Z (rG (pS 2 Z (lS Z Z underlying53 Z (GO.lss Z Z Z Z (nL ?_)))))
      rcases iE H with ⟨c19, H⟩ | ⟨c19, H⟩
      ·
       refine yB Z (tT c19) (rN 4 Z ?_)
       obtain ⟨c20, H⟩ := iN H
       obtain ⟨c21, H⟩ := iN H
       obtain ⟨t22, h23, H⟩ := bI H
       refine G.lex mixed [0, 1, 2, 4, 5, 6, 3, 7, 8, 9] (by kernel_rfl) ?_
       replace HS := HS.drew
       refine GX.ps 2 Z (qL Z Z (fun _ _ g => GO.ix Z Z Z underlying53 Ou (r_a _ HS).2.2.1 c20.1 c20.2 Z g) Z (GX.ps 2 Z (qL Z Z (fun _ _ g => GO.ix Z Z Z underlying53 Ou (r_b _ HS).2.2.1 c21.1 c21.2 Z g) Z (GX.l1 Z Z Z (fun _ g => GO.Fq (T := (Ty.slice 157 Bc)) (n := b1.toNat) (o := 0) HS r_a Z Z (getD_some (d := []) (ltN c20)) Z Z Ox Z g) Z (GX.l1 Z Z Z (fun _ g => GO.Fq (T := (Ty.slice 157 Bc)) (n := b1.toNat) (o := 0) HS r_b Z Z (getD_some (d := []) (ltN c21)) Z Z Ox Z g) Z (GX.l2 Z (fN Z func156 jC.1 jC.2 Z Z (F9.calls HS (Aq.elem r_a c20.1 c20.2) (Aq.elem r_b c21.1 c21.2) h23) (fun _ wd24 ⟨h25, HS⟩ => ⟨_, h25, (GX.fin tv (GX.ps 1 Z (GX.nil ?_)))⟩))))))))
       rcases iE H with ⟨c26, H⟩ | ⟨c26, H⟩
       ·
        refine nB Z (congrArg Bool.not c26) (rN 4 Z (G.weak ?_ (f1 e1 (Nat.lt_succ_of_le (lR _)) (Nat.le_of_succ_le i1) _ _ H HS)))
        exact ⟨Z, Z, Z, tv⟩
       refine yB Z (congrArg Bool.not (Ca c26)) (rN 2 Z ?_)
       obtain rfl := sI H
       exact rT _ func109 Z Z ⟨Z, HS⟩
      refine nB Z (tF c19) (rN 3 Z ?_)
      obtain rfl := sI H
      exact rT _ func109 Z Z ⟨Z, HS⟩
   refine G.weak ?_ (h1 K (lR _) _ _ H HS)
   exact ⟨Z, Z, Z, tv⟩
  refine yB Z (nF c1) (rN 2 Z ?_)
  obtain rfl := sI H
  exact rT _ func109 Z Z ⟨Z, HS⟩
theorem Hl.calls {a1 c1 : List (List Bt)} {A_a : Option Addr} {c_a : Nat} {y_a : Nat → (Ty.slice 157 Bc).Lay} {A_b : Option Addr} {c_b : Nat} {y_b : Nat → (Ty.slice 157 Bc).Lay} {r1 : Bool} (HS : St w0 w (L)) (r_a : Aq w0 L (Ty.slice 157 Bc) A_a c_a y_a a1) (r_b : Aq w0 L (Ty.slice 157 Bc) A_b c_b y_b c1) (H : Hl.f K a1 c1 = some r1) :
    Calls prog 51 #[.agg [.slice A_a a1.length c_a].toArray, .agg [.slice A_b c1.length c_b].toArray] w (Hl.post w0 L r1) := by
  unfold Hl.f at H
  refine cG func51 Z ?_
  refine sQ (rG (GO.box (cs := [.slice A_a a1.length c_a]) HS Z Z Z Z fun b1 wd2 HS => GO.box (cs := [.slice A_b c1.length c_b]) HS Z Z Z Z fun b3 wd4 HS => aS Z (nL (rN 2 Z ?_))))
  obtain ⟨t5, h6, H⟩ := bI H
  refine rG (fL b1 0 I8 Z (lB 1 HS Z Nt Z (fL b3 0 I8 Z (lB 0 HS Z Nt Z (fN Z func109 kW.1 kW.2 Z Z (E9.calls HS (rD 2 r_a) (rD 2 r_b) h6) (fun _ wd7 ⟨h8, HS⟩ => ⟨_, h8, (GO.not Z Z Z (nL ?_))⟩))))))
  rcases iE H with ⟨c9, H⟩ | ⟨c9, H⟩
  ·
   refine nB Z (congrArg Bool.not c9) (rN 3 Z ?_)
   obtain rfl := sI H
   exact rT _ func51 Z Z ⟨Z, (HS.pk 2 [] Z)⟩
  refine yB Z (congrArg Bool.not (Ca c9)) (rN 2 Z ?_)
  obtain rfl := sI H
  exact rT _ func51 Z Z ⟨Z, (HS.pk 2 [] Z)⟩
theorem Jv.calls {a_A a_B : Int} {a_C a_D : Int} {c1 b_A : Int} {b_B b_C : Int} {b_D a1 : Int} {r1 : Bool} (HS : St w0 w (L)) (H : Jv.f a_A a_B a_C a_D c1 b_A b_B b_C b_D a1 = some r1) :
    Calls prog 157 #[.agg [I a_A, I a_B, I a_C, I a_D, I c1].toArray, .agg [I b_A, I b_B, I b_C, I b_D, I a1].toArray] w (Jv.post w0 L r1) := by
  unfold Jv.f at H
  refine cG func157 Z ?_
  refine sQ (rG (GO.box (cs := [I a_A, I a_B, I a_C, I a_D, I c1]) HS Z Z Z Z fun b1 wd2 HS => GO.box (cs := [I b_A, I b_B, I b_C, I b_D, I a1]) HS Z Z Z Z fun b3 wd4 HS => aS Z (nL (rN 2 Z (rG (fL b1 0 Qf Z (lB 1 HS Z na2 Z (fL b3 0 Qf Z (lB 0 HS Z na2 Z (GO.neq Z Z Z Z (nL ?_)))))))))))
  rcases iE H with ⟨c5, H⟩ | ⟨c5, H⟩
  ·
   refine nB Z (nT c5) (rN 3 Z (rG (fL b1 1 Qj Z (lB 1 HS Z na2 Z (fL b3 1 Qj Z (lB 0 HS Z na2 Z (GO.neq Z Z Z Z (nL ?_))))))))
   rcases iE H with ⟨c6, H⟩ | ⟨c6, H⟩
   ·
    refine nB Z (nT c6) (rN 3 Z (rG (fL b1 2 Qg Z (lB 1 HS Z na2 Z (fL b3 2 Qg Z (lB 0 HS Z na2 Z (GO.neq Z Z Z Z (nL ?_))))))))
    rcases iE H with ⟨c7, H⟩ | ⟨c7, H⟩
    ·
     refine nB Z (nT c7) (rN 3 Z (rG (fL b1 3 Qd Z (lB 1 HS Z na2 Z (fL b3 3 Qd Z (lB 0 HS Z na2 Z (GO.neq Z Z Z Z (nL ?_))))))))
     rcases iE H with ⟨c8, H⟩ | ⟨c8, H⟩
     ·
      refine nB Z (nT c8) (rN 3 Z (rG (fL b1 4 Lg Z (lB 1 HS Z na2 Z (fL b3 4 Lg Z (lB 0 HS Z na2 Z (GO.neq Z Z Z Z (nL ?_))))))))
      rcases iE H with ⟨c9, H⟩ | ⟨c9, H⟩
      ·
       refine nB Z (nT c9) (rN 3 Z ?_)
       obtain rfl := sI H
       exact rT _ func157 Z Z ⟨Z, (HS.pk 2 [] Z)⟩
      refine yB Z (nF c9) (rN 2 Z ?_)
      obtain rfl := sI H
      exact rT _ func157 Z Z ⟨Z, (HS.pk 2 [] Z)⟩
     refine yB Z (nF c8) (rN 2 Z ?_)
     obtain rfl := sI H
     exact rT _ func157 Z Z ⟨Z, (HS.pk 2 [] Z)⟩
    refine yB Z (nF c7) (rN 2 Z ?_)
    obtain rfl := sI H
    exact rT _ func157 Z Z ⟨Z, (HS.pk 2 [] Z)⟩
   refine yB Z (nF c6) (rN 2 Z ?_)
   obtain rfl := sI H
   exact rT _ func157 Z Z ⟨Z, (HS.pk 2 [] Z)⟩
  refine yB Z (nF c5) (rN 2 Z ?_)
  obtain rfl := sI H
  exact rT _ func157 Z Z ⟨Z, (HS.pk 2 [] Z)⟩
theorem D7.calls {a_ b_ : List Al} {A_a : Option Addr} {c_a : Nat} {A_b : Option Addr} {c_b : Nat} {r1 : Bool} (HS : St w0 w (L)) (r_a : Aq w0 L Bb A_a c_a (fun _ => ()) a_) (r_b : Aq w0 L Bb A_b c_b (fun _ => ()) b_) (H : D7.f K a_ b_ = some r1) :
    Calls prog 110 #[.slice A_a a_.length c_a, .slice A_b b_.length c_b] w (D7.post w0 L r1) := by
  unfold D7.f at H
  refine cG func110 Z ?_
  refine rN 4 Z (rG (mV Z (lS Z Z underlying56 Z (mV Z (lS Z Z underlying56 Z (GO.neq Z Z Z Z (nL ?_)))))))
  rcases iE H with ⟨c1, H⟩ | ⟨c1, H⟩
  ·
   refine nB Z (nT c1) (rN 6 Z ?_)
   refine G.name (fun d1 g1 => ?_)
   have h1 : ∀ a1, a1 ≤ K → ∀ (b1 : Int) (w : World), D7.l1 K a1 a_ b_ b1 = some r1 → St w0 w (L) → G prog 110 27 [(0, .slice A_a a_.length c_a), (1, .slice A_b b_.length c_b), (5, I b1)] d1 w (D7.post w0 L r1) := by
    intro a1
    induction a1 using Nat.strongRecOn with
    | _ a1 f1 =>
     intro i1 b1 w H HS
     cases a1 with
     | zero => rw [D7.l1] at H; cases H
     | succ e1 =>
      rw [D7.l1] at H
      subst g1
      refine rN 2 Z (rG (pS 2 Z (lS Z Z underlying56 Z (GO.lss Z Z Z Z (nL ?_)))))
      rcases iE H with ⟨c27, H⟩ | ⟨c27, H⟩
      ·
       refine yB Z (tT c27) (rN 4 Z ?_)
       obtain ⟨c28, H⟩ := iN H
       obtain ⟨e29, h30, H⟩ := Cn H
       obtain ⟨c31, H⟩ := iN H
       obtain ⟨e32, h33, H⟩ := Cn H
       obtain ⟨t34, h35, H⟩ := bI H
       refine G.lex mixed [0, 1, 2, 4, 5, 6, 3, 7, 8, 9] (by kernel_rfl) ?_
       replace HS := HS.drew
       refine GX.ps 2 Z (qL Z Z (fun _ _ g => GO.ix Z Z Z underlying56 Nu (r_a _ HS).2.2.1 c28.1 c28.2 Z g) Z (GX.ps 2 Z (qL Z Z (fun _ _ g => GO.ix Z Z Z underlying56 Nu (r_b _ HS).2.2.1 c31.1 c31.2 Z g) Z (GX.l1 Z Z Z (fun _ g => GO.Ja (T := Bb) (n := b1.toNat) HS r_a Z Z (getD_eq (ltN c28) h30) Me Z g) Z (GX.l1 Z Z Z (fun _ g => GO.Ja (T := Bb) (n := b1.toNat) HS r_b Z Z (getD_eq (ltN c31) h33) Me Z g) Z (GX.l2 Z (fN Z func157 oJ.1 oJ.2 Z Z (Jv.calls HS  h35) (fun _ wd36 ⟨h37, HS⟩ => ⟨_, h37, (GX.fin tv (GX.ps 1 Z (GX.nil ?_)))⟩))))))))
       rcases iE H with ⟨c38, H⟩ | ⟨c38, H⟩
       ·
        refine nB Z (congrArg Bool.not c38) (rN 4 Z (G.weak ?_ (f1 e1 (Nat.lt_succ_of_le (lR _)) (Nat.le_of_succ_le i1) _ _ H HS)))
        exact ⟨Z, Z, Z, tv⟩
       refine yB Z (congrArg Bool.not (Ca c38)) (rN 2 Z ?_)
       obtain rfl := sI H
       exact rT _ func110 Z Z ⟨Z, HS⟩
      refine nB Z (tF c27) (rN 3 Z ?_)
      obtain rfl := sI H
      exact rT _ func110 Z Z ⟨Z, HS⟩
   refine G.weak ?_ (h1 K (lR _) _ _ H HS)
   exact ⟨Z, Z, Z, tv⟩
  refine yB Z (nF c1) (rN 2 Z ?_)
  obtain rfl := sI H
  exact rT _ func110 Z Z ⟨Z, HS⟩
theorem Ke.calls {a1 : List Al} {d1 : Int} {c1 : List Al} {e1 : Int} {A_a : Option Addr} {c_a : Nat} {A_b : Option Addr} {c_b : Nat} {r1 : Bool} (HS : St w0 w (L)) (r_a : Aq w0 L Bb A_a c_a (fun _ => ()) a1) (r_b : Aq w0 L Bb A_b c_b (fun _ => ()) c1) (H : Ke.f K a1 d1 c1 e1 = some r1) :
    Calls prog 52 #[.agg [.slice A_a a1.length c_a, I d1].toArray, .agg [.slice A_b c1.length c_b, I e1].toArray] w (Ke.post w0 L r1) := by
  unfold Ke.f at H
  refine cG func52 Z ?_
  refine sQ (rG (GO.box (cs := [.slice A_a a1.length c_a, I d1]) HS Z Z Z Z fun b1 wd2 HS => GO.box (cs := [.slice A_b c1.length c_b, I e1]) HS Z Z Z Z fun b3 wd4 HS => aS Z (nL (rN 2 Z ?_))))
  obtain ⟨t5, h6, H⟩ := bI H
  refine rG (fL b1 0 Iu Z (lB 1 HS Z Ni Z (fL b3 0 Iu Z (lB 0 HS Z Ni Z (fN Z func110 lC.1 lC.2 Z Z (D7.calls HS (rD 2 r_a) (rD 2 r_b) h6) (fun _ wd7 ⟨h8, HS⟩ => ⟨_, h8, (GO.not Z Z Z (nL ?_))⟩))))))
  rcases iE H with ⟨c9, H⟩ | ⟨c9, H⟩
  ·
   refine nB Z (congrArg Bool.not c9) (rN 3 Z (rG (fL b1 1 O1 Z (lB 1 HS Z na2 Z (fL b3 1 O1 Z (lB 0 HS Z na2 Z (GO.neq Z Z Z Z (nL ?_))))))))
   rcases iE H with ⟨c10, H⟩ | ⟨c10, H⟩
   ·
    refine nB Z (nT c10) (rN 3 Z ?_)
    obtain rfl := sI H
    exact rT _ func52 Z Z ⟨Z, (HS.pk 2 [] Z)⟩
   refine yB Z (nF c10) (rN 2 Z ?_)
   obtain rfl := sI H
   exact rT _ func52 Z Z ⟨Z, (HS.pk 2 [] Z)⟩
  refine yB Z (congrArg Bool.not (Ca c9)) (rN 2 Z ?_)
  obtain rfl := sI H
  exact rT _ func52 Z Z ⟨Z, (HS.pk 2 [] Z)⟩
theorem Ea.calls {a_ b_ : List Int} {A_a : Option Addr} {c_a : Nat} {A_b : Option Addr} {c_b : Nat} {r1 : Bool} (HS : St w0 w (L)) (r_a : Aq w0 L (Bq .i64) A_a c_a (fun _ => ()) a_) (r_b : Aq w0 L (Bq .i64) A_b c_b (fun _ => ()) b_) (H : Ea.f K a_ b_ = some r1) :
    Calls prog 111 #[.slice A_a a_.length c_a, .slice A_b b_.length c_b] w (Ea.post w0 L r1) := by
  unfold Ea.f at H
  refine cG func111 Z ?_
  refine rN 4 Z (rG (mV Z (lS Z Z underlying43 Z (mV Z (lS Z Z underlying43 Z (GO.neq Z Z Z Z (nL ?_)))))))
  rcases iE H with ⟨c1, H⟩ | ⟨c1, H⟩
  ·
   refine nB Z (nT c1) (rN 6 Z ?_)
   refine G.name (fun b1 f1 => ?_)
   have g1 : ∀ a1, a1 ≤ K → ∀ (i_6 : Int) (w : World), Ea.l1 K a1 a_ b_ i_6 = some r1 → St w0 w (L) → G prog 111 26 [(0, .slice A_a a_.length c_a), (1, .slice A_b b_.length c_b), (5, I i_6)] b1 w (Ea.post w0 L r1) := by
    intro a1
    induction a1 using Nat.strongRecOn with
    | _ a1 e1 =>
     intro h1 i_6 w H HS
     cases a1 with
     | zero => rw [Ea.l1] at H; cases H
     | succ d1 =>
      rw [Ea.l1] at H
      subst f1
      refine rN 2 Z (rG (pS 2 Z (lS Z Z underlying43 Z (GO.lss Z Z Z Z (nL ?_)))))
      rcases iE H with ⟨c11, H⟩ | ⟨c11, H⟩
      ·
       refine yB Z (tT c11) (rN 4 Z ?_)
       obtain ⟨c12, H⟩ := iN H
       obtain ⟨c13, H⟩ := iN H
       refine G.lex mixed [0, 1, 2, 4, 5, 6, 3, 7, 8] (by kernel_rfl) ?_
       replace HS := HS.drew
       refine GX.ps 2 Z (qL Z Z (fun _ _ g => GO.ix Z Z Z underlying43 sz2 (r_a _ HS).2.2.1 c12.1 c12.2 Z g) Z (GX.ps 2 Z (qL Z Z (fun _ _ g => GO.ix Z Z Z underlying43 sz2 (r_b _ HS).2.2.1 c13.1 c13.2 Z g) Z (GX.l1 Z Z Z (fun _ g => GO.Fq (T := (Bq .i64)) (n := i_6.toNat) (o := 0) HS r_a Z Z (getD_some (d := 0) (ltN c12)) Z Z na2 Z g) Z (GX.l1 Z Z Z (fun _ g => GO.Fq (T := (Bq .i64)) (n := i_6.toNat) (o := 0) HS r_b Z Z (getD_some (d := 0) (ltN c13)) Z Z na2 Z g) Z (GX.ps 1 Z (GX.nil ?_)))))))
       rcases iE H with ⟨c14, H⟩ | ⟨c14, H⟩
       ·
        refine nB Z (nT c14) (rN 4 Z (G.weak ?_ (e1 d1 (Nat.lt_succ_of_le (lR _)) (Nat.le_of_succ_le h1) _ _ H HS)))
        exact ⟨Z, Z, Z, tv⟩
       refine yB Z (nF c14) (rN 2 Z ?_)
       obtain rfl := sI H
       exact rT _ func111 Z Z ⟨Z, HS⟩
      refine nB Z (tF c11) (rN 3 Z ?_)
      obtain rfl := sI H
      exact rT _ func111 Z Z ⟨Z, HS⟩
   refine G.weak ?_ (g1 K (lR _) _ _ H HS)
   exact ⟨Z, Z, Z, tv⟩
  refine yB Z (nF c1) (rN 2 Z ?_)
  obtain rfl := sI H
  exact rT _ func111 Z Z ⟨Z, HS⟩
theorem Ll.calls {e1 : Int} {a1 : List Int} {d1 : Int} {c1 : List Int} {A_a : Option Addr} {c_a : Nat} {A_b : Option Addr} {c_b : Nat} {r1 : Bool} (HS : St w0 w (L)) (r_a : Aq w0 L (Bq .i64) A_a c_a (fun _ => ()) a1) (r_b : Aq w0 L (Bq .i64) A_b c_b (fun _ => ()) c1) (H : Ll.f K e1 a1 d1 c1 = some r1) :
    Calls prog 53 #[.agg [I e1, .slice A_a a1.length c_a].toArray, .agg [I d1, .slice A_b c1.length c_b].toArray] w (Ll.post w0 L r1) := by
  unfold Ll.f at H
  refine cG func53 Z ?_
  refine sQ (rG (GO.box (cs := [I e1, .slice A_a a1.length c_a]) HS Z Z Z Z fun b1 wd2 HS => GO.box (cs := [I d1, .slice A_b c1.length c_b]) HS Z Z Z Z fun b3 wd4 HS => aS Z (nL (rN 2 Z (rG (fL b1 0 Nl Z (lB 1 HS Z na2 Z (fL b3 0 Nl Z (lB 0 HS Z na2 Z (GO.neq Z Z Z Z (nL ?_)))))))))))
  rcases iE H with ⟨c5, H⟩ | ⟨c5, H⟩
  ·
   refine nB Z (nT c5) (rN 3 Z ?_)
   obtain ⟨t6, h7, H⟩ := bI H
   refine rG (fL b1 1 Nc Z (lB 1 HS Z H7 Z (fL b3 1 Nc Z (lB 0 HS Z H7 Z (fN Z func111 Tz.1 Tz.2 Z Z (Ea.calls HS (rD 2 r_a) (rD 2 r_b) h7) (fun _ wd8 ⟨h9, HS⟩ => ⟨_, h9, (GO.not Z Z Z (nL ?_))⟩))))))
   rcases iE H with ⟨c10, H⟩ | ⟨c10, H⟩
   ·
    refine nB Z (congrArg Bool.not c10) (rN 3 Z ?_)
    obtain rfl := sI H
    exact rT _ func53 Z Z ⟨Z, (HS.pk 2 [] Z)⟩
   refine yB Z (congrArg Bool.not (Ca c10)) (rN 2 Z ?_)
   obtain rfl := sI H
   exact rT _ func53 Z Z ⟨Z, (HS.pk 2 [] Z)⟩
  refine yB Z (nF c5) (rN 2 Z ?_)
  obtain rfl := sI H
  exact rT _ func53 Z Z ⟨Z, (HS.pk 2 [] Z)⟩
theorem Mi.calls {g1 f1 : Int} {a1 d1 : Int} {e1 c1 : Int} {r1 : Bool} (HS : St w0 w (L)) (H : Mi.f g1 f1 a1 d1 e1 c1 = some r1) :
    Calls prog 158 #[.agg [I g1, I f1, I a1].toArray, .agg [I d1, I e1, I c1].toArray] w (Mi.post w0 L r1) := by
  unfold Mi.f at H
  refine cG func158 Z ?_
  refine sQ (rG (GO.box (cs := [I g1, I f1, I a1]) HS Z Z Z Z fun b1 wd2 HS => GO.box (cs := [I d1, I e1, I c1]) HS Z Z Z Z fun b3 wd4 HS => aS Z (nL (rN 2 Z (rG (fL b1 0 Nj Z (lB 1 HS Z na2 Z (fL b3 0 Nj Z (lB 0 HS Z na2 Z (GO.neq Z Z Z Z (nL ?_)))))))))))
  rcases iE H with ⟨c5, H⟩ | ⟨c5, H⟩
  ·
   refine nB Z (nT c5) (rN 3 Z (rG (fL b1 1 Nz Z (lB 1 HS Z na2 Z (fL b3 1 Nz Z (lB 0 HS Z na2 Z (GO.neq Z Z Z Z (nL ?_))))))))
   rcases iE H with ⟨c6, H⟩ | ⟨c6, H⟩
   ·
    refine nB Z (nT c6) (rN 3 Z (rG (fL b1 2 O7 Z (lB 1 HS Z na2 Z (fL b3 2 O7 Z (lB 0 HS Z na2 Z (GO.neq Z Z Z Z (nL ?_))))))))
    rcases iE H with ⟨c7, H⟩ | ⟨c7, H⟩
    ·
     refine nB Z (nT c7) (rN 3 Z ?_)
     obtain rfl := sI H
     exact rT _ func158 Z Z ⟨Z, (HS.pk 2 [] Z)⟩
    refine yB Z (nF c7) (rN 2 Z ?_)
    obtain rfl := sI H
    exact rT _ func158 Z Z ⟨Z, (HS.pk 2 [] Z)⟩
   refine yB Z (nF c6) (rN 2 Z ?_)
   obtain rfl := sI H
   exact rT _ func158 Z Z ⟨Z, (HS.pk 2 [] Z)⟩
  refine yB Z (nF c5) (rN 2 Z ?_)
  obtain rfl := sI H
  exact rT _ func158 Z Z ⟨Z, (HS.pk 2 [] Z)⟩
theorem F7.calls {a_ b_ : List Ci} {A_a : Option Addr} {c_a : Nat} {A_b : Option Addr} {c_b : Nat} {r1 : Bool} (HS : St w0 w (L)) (r_a : Aq w0 L Cq A_a c_a (fun _ => ()) a_) (r_b : Aq w0 L Cq A_b c_b (fun _ => ()) b_) (H : F7.f K a_ b_ = some r1) :
    Calls prog 112 #[.slice A_a a_.length c_a, .slice A_b b_.length c_b] w (F7.post w0 L r1) := by
  unfold F7.f at H
  refine cG func112 Z ?_
  refine rN 4 Z (rG (mV Z (lS Z Z underlying60 Z (mV Z (lS Z Z underlying60 Z (GO.neq Z Z Z Z (nL ?_)))))))
  rcases iE H with ⟨c1, H⟩ | ⟨c1, H⟩
  ·
   refine nB Z (nT c1) (rN 6 Z ?_)
   refine G.name (fun d1 g1 => ?_)
   have h1 : ∀ a1, a1 ≤ K → ∀ (b1 : Int) (w : World), F7.l1 K a1 a_ b_ b1 = some r1 → St w0 w (L) → G prog 112 27 [(0, .slice A_a a_.length c_a), (1, .slice A_b b_.length c_b), (5, I b1)] d1 w (F7.post w0 L r1) := by
    intro a1
    induction a1 using Nat.strongRecOn with
    | _ a1 f1 =>
     intro i1 b1 w H HS
     cases a1 with
     | zero => rw [F7.l1] at H; cases H
     | succ e1 =>
      rw [F7.l1] at H
      subst g1
      refine rN 2 Z (rG (pS 2 Z (lS Z Z underlying60 Z (GO.lss Z Z Z Z (nL ?_)))))
      rcases iE H with ⟨c27, H⟩ | ⟨c27, H⟩
      ·
       refine yB Z (tT c27) (rN 4 Z ?_)
       obtain ⟨c28, H⟩ := iN H
       obtain ⟨e29, h30, H⟩ := Cn H
       obtain ⟨c31, H⟩ := iN H
       obtain ⟨e32, h33, H⟩ := Cn H
       obtain ⟨t34, h35, H⟩ := bI H
       refine G.lex mixed [0, 1, 2, 4, 5, 6, 3, 7, 8, 9] (by kernel_rfl) ?_
       replace HS := HS.drew
       refine GX.ps 2 Z (qL Z Z (fun _ _ g => GO.ix Z Z Z underlying60 Q0 (r_a _ HS).2.2.1 c28.1 c28.2 Z g) Z (GX.ps 2 Z (qL Z Z (fun _ _ g => GO.ix Z Z Z underlying60 Q0 (r_b _ HS).2.2.1 c31.1 c31.2 Z g) Z (GX.l1 Z Z Z (fun _ g => GO.Ja (T := Cq) (n := b1.toNat) HS r_a Z Z (getD_eq (ltN c28) h30) Ta Z g) Z (GX.l1 Z Z Z (fun _ g => GO.Ja (T := Cq) (n := b1.toNat) HS r_b Z Z (getD_eq (ltN c31) h33) Ta Z g) Z (GX.l2 Z (fN Z func158 nW.1 nW.2 Z Z (Mi.calls HS  h35) (fun _ wd36 ⟨h37, HS⟩ => ⟨_, h37, (GX.fin tv (GX.ps 1 Z (GX.nil ?_)))⟩))))))))
       rcases iE H with ⟨c38, H⟩ | ⟨c38, H⟩
       ·
        refine nB Z (congrArg Bool.not c38) (rN 4 Z (G.weak ?_ (f1 e1 (Nat.lt_succ_of_le (lR _)) (Nat.le_of_succ_le i1) _ _ H HS)))
        exact ⟨Z, Z, Z, tv⟩
       refine yB Z (congrArg Bool.not (Ca c38)) (rN 2 Z ?_)
       obtain rfl := sI H
       exact rT _ func112 Z Z ⟨Z, HS⟩
      refine nB Z (tF c27) (rN 3 Z ?_)
      obtain rfl := sI H
      exact rT _ func112 Z Z ⟨Z, HS⟩
   refine G.weak ?_ (h1 K (lR _) _ _ H HS)
   exact ⟨Z, Z, Z, tv⟩
  refine yB Z (nF c1) (rN 2 Z ?_)
  obtain rfl := sI H
  exact rT _ func112 Z Z ⟨Z, HS⟩
theorem Ie.calls {k1 m1 : Int} {f1 : List Ci} {a1 e1 : List Int} {h1 i1 : Int} {c1 : List Ci} {g1 d1 : List Int} {A_a : Option Addr} {c_a : Nat} {A_b : Option Addr} {c_b : Nat} {A_c : Option Addr} {c_c : Nat} {A_d : Option Addr} {c_d : Nat} {A_e : Option Addr} {c_e : Nat} {A_f : Option Addr} {c_f : Nat} {r1 : Bool} (HS : St w0 w (L)) (r_a : Aq w0 L Cq A_a c_a (fun _ => ()) f1) (r_b : Aq w0 L (Bq .i64) A_b c_b (fun _ => ()) a1) (r_c : Aq w0 L (Bq .i64) A_c c_c (fun _ => ()) e1) (r_d : Aq w0 L Cq A_d c_d (fun _ => ()) c1) (r_e : Aq w0 L (Bq .i64) A_e c_e (fun _ => ()) g1) (r_f : Aq w0 L (Bq .i64) A_f c_f (fun _ => ()) d1) (H : Ie.f K k1 m1 f1 a1 e1 h1 i1 c1 g1 d1 = some r1) :
    Calls prog 54 #[.agg [I k1, I m1, .slice A_a f1.length c_a, .slice A_b a1.length c_b, .slice A_c e1.length c_c].toArray, .agg [I h1, I i1, .slice A_d c1.length c_d, .slice A_e g1.length c_e, .slice A_f d1.length c_f].toArray] w (Ie.post w0 L r1) := by
  unfold Ie.f at H
  refine cG func54 Z ?_
  refine sQ (rG (GO.box (cs := [I k1, I m1, .slice A_a f1.length c_a, .slice A_b a1.length c_b, .slice A_c e1.length c_c]) HS Z Z Z Z fun b1 wd2 HS => GO.box (cs := [I h1, I i1, .slice A_d c1.length c_d, .slice A_e g1.length c_e, .slice A_f d1.length c_f]) HS Z Z Z Z fun b3 wd4 HS => aS Z (nL (rN 2 Z (rG (fL b1 0 Mw Z (lB 1 HS Z na2 Z (fL b3 0 Mw Z (lB 0 HS Z na2 Z (GO.neq Z Z Z Z (nL ?_)))))))))))
  rcases iE H with ⟨c5, H⟩ | ⟨c5, H⟩
  ·
   refine nB Z (nT c5) (rN 3 Z (rG (fL b1 1 M0 Z (lB 1 HS Z na2 Z (fL b3 1 M0 Z (lB 0 HS Z na2 Z (GO.neq Z Z Z Z (nL ?_))))))))
   rcases iE H with ⟨c6, H⟩ | ⟨c6, H⟩
   ·
    refine nB Z (nT c6) (rN 3 Z ?_)
    obtain ⟨t7, h8, H⟩ := bI H
    refine rG (fL b1 2 Ir Z (lB 1 HS Z Nh Z (fL b3 2 Ir Z (lB 0 HS Z Nh Z (fN Z func112 oU.1 oU.2 Z Z (F7.calls HS (rD 2 r_a) (rD 2 r_d) h8) (fun _ wd9 ⟨h10, HS⟩ => ⟨_, h10, (GO.not Z Z Z (nL ?_))⟩))))))
    rcases iE H with ⟨c11, H⟩ | ⟨c11, H⟩
    ·
     refine nB Z (congrArg Bool.not c11) (rN 3 Z ?_)
     obtain ⟨t12, h13, H⟩ := bI H
     refine rG (fL b1 3 Je Z (lB 1 HS Z H7 Z (fL b3 3 Je Z (lB 0 HS Z H7 Z (fN Z func111 Tz.1 Tz.2 Z Z (Ea.calls HS (rD 2 r_b) (rD 2 r_e) h13) (fun _ wd14 ⟨h15, HS⟩ => ⟨_, h15, (GO.not Z Z Z (nL ?_))⟩))))))
     rcases iE H with ⟨c16, H⟩ | ⟨c16, H⟩
     ·
      refine nB Z (congrArg Bool.not c16) (rN 3 Z ?_)
      obtain ⟨t17, h18, H⟩ := bI H
      refine rG (fL b1 4 Lm Z (lB 1 HS Z H7 Z (fL b3 4 Lm Z (lB 0 HS Z H7 Z (fN Z func111 Tz.1 Tz.2 Z Z (Ea.calls HS (rD 2 r_c) (rD 2 r_f) h18) (fun _ wd19 ⟨h20, HS⟩ => ⟨_, h20, (GO.not Z Z Z (nL ?_))⟩))))))
      rcases iE H with ⟨c21, H⟩ | ⟨c21, H⟩
      ·
       refine nB Z (congrArg Bool.not c21) (rN 3 Z ?_)
       obtain rfl := sI H
       exact rT _ func54 Z Z ⟨Z, (HS.pk 2 [] Z)⟩
      refine yB Z (congrArg Bool.not (Ca c21)) (rN 2 Z ?_)
      obtain rfl := sI H
      exact rT _ func54 Z Z ⟨Z, (HS.pk 2 [] Z)⟩
     refine yB Z (congrArg Bool.not (Ca c16)) (rN 2 Z ?_)
     obtain rfl := sI H
     exact rT _ func54 Z Z ⟨Z, (HS.pk 2 [] Z)⟩
    refine yB Z (congrArg Bool.not (Ca c11)) (rN 2 Z ?_)
    obtain rfl := sI H
    exact rT _ func54 Z Z ⟨Z, (HS.pk 2 [] Z)⟩
   refine yB Z (nF c6) (rN 2 Z ?_)
   obtain rfl := sI H
   exact rT _ func54 Z Z ⟨Z, (HS.pk 2 [] Z)⟩
  refine yB Z (nF c5) (rN 2 Z ?_)
  obtain rfl := sI H
  exact rT _ func54 Z Z ⟨Z, (HS.pk 2 [] Z)⟩
theorem Ka.calls {b2 : ByteArray} {z1 : Int} {c1 : List (List Bt)} {d1 : List Al} {s1 t1 : Int} {e1 : List Int} {v1 p1 : Int} {g1 : List Ci} {o1 f1 : List Int} {c2 : ByteArray} {a2 : Int} {h1 : List (List Bt)} {k1 : List Al} {u1 y1 : Int} {m1 : List Int} {q1 x1 : Int} {a1 : List Ci} {n1 i1 : List Int} {A_a : Option Addr} {c_a : Nat} {y_a : Nat → (Ty.slice 157 Bc).Lay} {A_b : Option Addr} {c_b : Nat} {A_c : Option Addr} {c_c : Nat} {A_d : Option Addr} {c_d : Nat} {A_e : Option Addr} {c_e : Nat} {A_f : Option Addr} {c_f : Nat} {A_g : Option Addr} {c_g : Nat} {y_g : Nat → (Ty.slice 157 Bc).Lay} {A_h : Option Addr} {c_h : Nat} {A_i : Option Addr} {c_i : Nat} {A_j : Option Addr} {c_j : Nat} {A_k : Option Addr} {c_k : Nat} {A_l : Option Addr} {c_l : Nat} {r1 : Bool} (HS : St w0 w (L)) (r_a : Aq w0 L (Ty.slice 157 Bc) A_a c_a y_a c1) (r_b : Aq w0 L Bb A_b c_b (fun _ => ()) d1) (r_c : Aq w0 L (Bq .i64) A_c c_c (fun _ => ()) e1) (r_d : Aq w0 L Cq A_d c_d (fun _ => ()) g1) (r_e : Aq w0 L (Bq .i64) A_e c_e (fun _ => ()) o1) (r_f : Aq w0 L (Bq .i64) A_f c_f (fun _ => ()) f1) (r_g : Aq w0 L (Ty.slice 157 Bc) A_g c_g y_g h1) (r_h : Aq w0 L Bb A_h c_h (fun _ => ()) k1) (r_i : Aq w0 L (Bq .i64) A_i c_i (fun _ => ()) m1) (r_j : Aq w0 L Cq A_j c_j (fun _ => ()) a1) (r_k : Aq w0 L (Bq .i64) A_k c_k (fun _ => ()) n1) (r_l : Aq w0 L (Bq .i64) A_l c_l (fun _ => ()) i1) (H : Ka.f K b2 z1 c1 d1 s1 t1 e1 v1 p1 g1 o1 f1 c2 a2 h1 k1 u1 y1 m1 q1 x1 a1 n1 i1 = some r1) :
    Calls prog 16 #[.agg [.string b2, I z1, .slice A_a c1.length c_a, .slice A_b d1.length c_b, I s1, I t1, .slice A_c e1.length c_c, I v1, I p1, .slice A_d g1.length c_d, .slice A_e o1.length c_e, .slice A_f f1.length c_f].toArray, .agg [.string c2, I a2, .slice A_g h1.length c_g, .slice A_h k1.length c_h, I u1, I y1, .slice A_i m1.length c_i, I q1, I x1, .slice A_j a1.length c_j, .slice A_k n1.length c_k, .slice A_l i1.length c_l].toArray] w (Ka.post w0 L r1) := by
  unfold Ka.f at H
  refine cG func16 Z ?_
  refine sQ (rG (GO.box (cs := [.string b2, I z1, .slice A_a c1.length c_a, .slice A_b d1.length c_b, I s1, I t1, .slice A_c e1.length c_c, I v1, I p1, .slice A_d g1.length c_d, .slice A_e o1.length c_e, .slice A_f f1.length c_f]) HS Z Z Z Z fun b1 wd2 HS => GO.box (cs := [.string c2, I a2, .slice A_g h1.length c_g, .slice A_h k1.length c_h, I u1, I y1, .slice A_i m1.length c_i, I q1, I x1, .slice A_j a1.length c_j, .slice A_k n1.length c_k, .slice A_l i1.length c_l]) HS Z Z Z Z fun b3 wd4 HS => aS Z (nL (rN 2 Z (rG (fL b1 0 K7 Z (lB 1 HS Z na9 Z (fL b3 0 K7 Z (lB 0 HS Z na9 Z (GO.wF Z Z Z Z (nL ?_)))))))))))
  rcases iE H with ⟨c5, H⟩ | ⟨c5, H⟩
  ·
   refine nB Z (congrArg Bool.not c5) (rN 3 Z (rG (fL b1 1 Mk Z (lB 1 HS Z na2 Z (fL b3 1 Mk Z (lB 0 HS Z na2 Z (GO.neq Z Z Z Z (nL ?_))))))))
   rcases iE H with ⟨c6, H⟩ | ⟨c6, H⟩
   ·
    refine nB Z (nT c6) (rN 3 Z ?_)
    obtain ⟨t7, h8, H⟩ := bI H
    refine rG (fL b1 2 Nk Z (GO.Bu (j := 1) ([.slice A_a c1.length c_a]) HS Z Z Z Z Oc Z (fL b3 2 Nk Z (GO.Bu (j := 0) ([.slice A_g h1.length c_g]) HS Z Z Z Z Oc Z (fN Z func51 vG.1 vG.2 Z Z (Hl.calls HS (rD 2 r_a) (rD 2 r_g) h8) (fun _ wd9 ⟨h10, HS⟩ => ⟨_, h10, (GO.not Z Z Z (nL ?_))⟩))))))
    rcases iE H with ⟨c11, H⟩ | ⟨c11, H⟩
    ·
     refine nB Z (congrArg Bool.not c11) (rN 3 Z ?_)
     obtain ⟨t12, h13, H⟩ := bI H
     refine rG (fL b1 3 L8 Z (GO.Bu (j := 1) ([.slice A_b d1.length c_b, I s1]) HS Z Z Z Z Np Z (fL b3 3 L8 Z (GO.Bu (j := 0) ([.slice A_h k1.length c_h, I u1]) HS Z Z Z Z Np Z (fN Z func52 sP.1 sP.2 Z Z (Ke.calls HS (rD 2 r_b) (rD 2 r_h) h13) (fun _ wd14 ⟨h15, HS⟩ => ⟨_, h15, (GO.not Z Z Z (nL ?_))⟩))))))
     rcases iE H with ⟨c16, H⟩ | ⟨c16, H⟩
     ·
      refine nB Z (congrArg Bool.not c16) (rN 3 Z ?_)
      obtain ⟨t17, h18, H⟩ := bI H
      refine rG (fL b1 5 Ml Z (GO.Bu (j := 1) ([I t1, .slice A_c e1.length c_c]) HS Z Z Z Z Rz Z (fL b3 5 Ml Z (GO.Bu (j := 0) ([I y1, .slice A_i m1.length c_i]) HS Z Z Z Z Rz Z (fN Z func53 sD.1 sD.2 Z Z (Ll.calls HS (rD 2 r_c) (rD 2 r_i) h18) (fun _ wd19 ⟨h20, HS⟩ => ⟨_, h20, (GO.not Z Z Z (nL ?_))⟩))))))
      rcases iE H with ⟨c21, H⟩ | ⟨c21, H⟩
      ·
       refine nB Z (congrArg Bool.not c21) (rN 3 Z ?_)
       obtain ⟨t22, h23, H⟩ := bI H
       refine rG (fL b1 7 K4 Z (GO.Bu (j := 1) ([I v1, I p1, .slice A_d g1.length c_d, .slice A_e o1.length c_e, .slice A_f f1.length c_f]) HS Z Z Z Z Qn Z (fL b3 7 K4 Z (GO.Bu (j := 0) ([I q1, I x1, .slice A_j a1.length c_j, .slice A_k n1.length c_k, .slice A_l i1.length c_l]) HS Z Z Z Z Qn Z (fN Z func54 vI.1 vI.2 Z Z (Ie.calls HS (rD 2 r_d) (rD 2 r_e) (rD 2 r_f) (rD 2 r_j) (rD 2 r_k) (rD 2 r_l) h23) (fun _ wd24 ⟨h25, HS⟩ => ⟨_, h25, (GO.not Z Z Z (nL ?_))⟩))))))
       rcases iE H with ⟨c26, H⟩ | ⟨c26, H⟩
       ·
        refine nB Z (congrArg Bool.not c26) (rN 3 Z ?_)
        obtain rfl := sI H
        exact rT _ func16 Z Z ⟨Z, (HS.pk 2 [] Z)⟩
       refine yB Z (congrArg Bool.not (Ca c26)) (rN 2 Z ?_)
       obtain rfl := sI H
       exact rT _ func16 Z Z ⟨Z, (HS.pk 2 [] Z)⟩
      refine yB Z (congrArg Bool.not (Ca c21)) (rN 2 Z ?_)
      obtain rfl := sI H
      exact rT _ func16 Z Z ⟨Z, (HS.pk 2 [] Z)⟩
     refine yB Z (congrArg Bool.not (Ca c16)) (rN 2 Z ?_)
     obtain rfl := sI H
     exact rT _ func16 Z Z ⟨Z, (HS.pk 2 [] Z)⟩
    refine yB Z (congrArg Bool.not (Ca c11)) (rN 2 Z ?_)
    obtain rfl := sI H
    exact rT _ func16 Z Z ⟨Z, (HS.pk 2 [] Z)⟩
   refine yB Z (nF c6) (rN 2 Z ?_)
   obtain rfl := sI H
   exact rT _ func16 Z Z ⟨Z, (HS.pk 2 [] Z)⟩
  refine yB Z (congrArg Bool.not (Ca c5)) (rN 2 Z ?_)
  obtain rfl := sI H
  exact rT _ func16 Z Z ⟨Z, (HS.pk 2 [] Z)⟩
theorem Fw.calls {a_ b_ : List Am} {A_a : Option Addr} {c_a : Nat} {y_a : Nat → Aa.Lay} {A_b : Option Addr} {c_b : Nat} {y_b : Nat → Aa.Lay} {r1 : Bool} (HS : St w0 w (L)) (r_a : Aq w0 L Aa A_a c_a y_a a_) (r_b : Aq w0 L Aa A_b c_b y_b b_) (H : Fw.f K a_ b_ = some r1) :
    Calls prog 32 #[.slice A_a a_.length c_a, .slice A_b b_.length c_b] w (Fw.post w0 L r1) := by
  unfold Fw.f at H
  refine cG func32 Z ?_
  refine rN 4 Z (rG (mV Z (lS Z Z underlying27 Z (mV Z (lS Z Z underlying27 Z (GO.neq Z Z Z Z (nL ?_)))))))
  rcases iE H with ⟨c1, H⟩ | ⟨c1, H⟩
  ·
   refine nB Z (nT c1) (rN 6 Z ?_)
   refine G.name (fun d1 g1 => ?_)
   have h1 : ∀ a1, a1 ≤ K → ∀ (b1 : Int) (w : World), Fw.l1 K a1 a_ b_ b1 = some r1 → St w0 w (L) → G prog 32 27 [(0, .slice A_a a_.length c_a), (1, .slice A_b b_.length c_b), (5, I b1)] d1 w (Fw.post w0 L r1) := by
    intro a1
    induction a1 using Nat.strongRecOn with
    | _ a1 f1 =>
     intro i1 b1 w H HS
     cases a1 with
     | zero => rw [Fw.l1] at H; cases H
     | succ e1 =>
      rw [Fw.l1] at H
      subst g1
      refine rN 2 Z (rG (pS 2 Z (lS Z Z underlying27 Z (GO.lss Z Z Z Z (nL ?_)))))
      rcases iE H with ⟨c27, H⟩ | ⟨c27, H⟩
      ·
       refine yB Z (tT c27) (rN 4 Z ?_)
       obtain ⟨c28, H⟩ := iN H
       obtain ⟨e29, h30, H⟩ := Cn H
       obtain ⟨c31, H⟩ := iN H
       obtain ⟨e32, h33, H⟩ := Cn H
       obtain ⟨t34, h35, H⟩ := bI H
       refine G.lex mixed [0, 1, 2, 4, 5, 6, 3, 7, 8, 9] (by kernel_rfl) ?_
       replace HS := HS.drew
       refine GX.ps 2 Z (qL Z Z (fun _ _ g => GO.ix Z Z Z underlying27 Jt (r_a _ HS).2.2.1 c28.1 c28.2 Z g) Z (GX.ps 2 Z (qL Z Z (fun _ _ g => GO.ix Z Z Z underlying27 Jt (r_b _ HS).2.2.1 c31.1 c31.2 Z g) Z (GX.l1 Z Z Z (fun _ g => GO.Ja (T := Aa) (n := b1.toNat) HS r_a Z Z (getD_eq (ltN c28) h30) Mq Z g) Z (GX.l1 Z Z Z (fun _ g => GO.Ja (T := Aa) (n := b1.toNat) HS r_b Z Z (getD_eq (ltN c31) h33) Mq Z g) Z (GX.l2 Z (fN Z func16 fT.1 fT.2 Z Z (Ka.calls HS (Aq.fld r_a (getD_eq (ltN c28) h30) (fun _ h => h.2.2.1)) (Aq.fld r_a (getD_eq (ltN c28) h30) (fun _ h => h.2.2.2.1)) (Aq.fld r_a (getD_eq (ltN c28) h30) (fun _ h => h.2.2.2.2.2.2.1)) (Aq.fld r_a (getD_eq (ltN c28) h30) (fun _ h => h.2.2.2.2.2.2.2.2.2.1)) (Aq.fld r_a (getD_eq (ltN c28) h30) (fun _ h => h.2.2.2.2.2.2.2.2.2.2.1)) (Aq.fld r_a (getD_eq (ltN c28) h30) (fun _ h => h.2.2.2.2.2.2.2.2.2.2.2)) (Aq.fld r_b (getD_eq (ltN c31) h33) (fun _ h => h.2.2.1)) (Aq.fld r_b (getD_eq (ltN c31) h33) (fun _ h => h.2.2.2.1)) (Aq.fld r_b (getD_eq (ltN c31) h33) (fun _ h => h.2.2.2.2.2.2.1)) (Aq.fld r_b (getD_eq (ltN c31) h33) (fun _ h => h.2.2.2.2.2.2.2.2.2.1)) (Aq.fld r_b (getD_eq (ltN c31) h33) (fun _ h => h.2.2.2.2.2.2.2.2.2.2.1)) (Aq.fld r_b (getD_eq (ltN c31) h33) (fun _ h => h.2.2.2.2.2.2.2.2.2.2.2)) h35) (fun _ wd36 ⟨h37, HS⟩ => ⟨_, h37, (GX.fin tv (GX.ps 1 Z (GX.nil ?_)))⟩))))))))
       rcases iE H with ⟨c38, H⟩ | ⟨c38, H⟩
       ·
        refine nB Z (congrArg Bool.not c38) (rN 4 Z (G.weak ?_ (f1 e1 (Nat.lt_succ_of_le (lR _)) (Nat.le_of_succ_le i1) _ _ H HS)))
        exact ⟨Z, Z, Z, tv⟩
       refine yB Z (congrArg Bool.not (Ca c38)) (rN 2 Z ?_)
       obtain rfl := sI H
       exact rT _ func32 Z Z ⟨Z, HS⟩
      refine nB Z (tF c27) (rN 3 Z ?_)
      obtain rfl := sI H
      exact rT _ func32 Z Z ⟨Z, HS⟩
   refine G.weak ?_ (h1 K (lR _) _ _ H HS)
   exact ⟨Z, Z, Z, tv⟩
  refine yB Z (nF c1) (rN 2 Z ?_)
  obtain rfl := sI H
  exact rT _ func32 Z Z ⟨Z, HS⟩
theorem E8.calls {a_ b_ : List (List Am)} {A_a : Option Addr} {c_a : Nat} {y_a : Nat → (Ty.slice 64 Aa).Lay} {A_b : Option Addr} {c_b : Nat} {y_b : Nat → (Ty.slice 64 Aa).Lay} {r1 : Bool} (HS : St w0 w (L)) (r_a : Aq w0 L (Ty.slice 64 Aa) A_a c_a y_a a_) (r_b : Aq w0 L (Ty.slice 64 Aa) A_b c_b y_b b_) (H : E8.f K a_ b_ = some r1) :
    Calls prog 33 #[.slice A_a a_.length c_a, .slice A_b b_.length c_b] w (E8.post w0 L r1) := by
  unfold E8.f at H
  refine cG func33 Z ?_
  refine rN 4 Z (rG (mV Z (lS Z Z underlying28 Z (mV Z (lS Z Z underlying28 Z (GO.neq Z Z Z Z (nL ?_)))))))
  rcases iE H with ⟨c1, H⟩ | ⟨c1, H⟩
  ·
   refine nB Z (nT c1) (rN 6 Z ?_)
   refine G.name (fun d1 g1 => ?_)
   have h1 : ∀ a1, a1 ≤ K → ∀ (b1 : Int) (w : World), E8.l1 K a1 a_ b_ b1 = some r1 → St w0 w (L) → G prog 33 27 [(0, .slice A_a a_.length c_a), (1, .slice A_b b_.length c_b), (5, I b1)] d1 w (E8.post w0 L r1) := by
    intro a1
    induction a1 using Nat.strongRecOn with
    | _ a1 f1 =>
     intro i1 b1 w H HS
     cases a1 with
     | zero => rw [E8.l1] at H; cases H
     | succ e1 =>
      rw [E8.l1] at H
      subst g1
      refine rN 2 Z (rG (pS 2 Z (lS Z Z underlying28 Z (GO.lss Z Z Z Z (nL ?_)))))
      rcases iE H with ⟨c19, H⟩ | ⟨c19, H⟩
      ·
       refine yB Z (tT c19) (rN 4 Z ?_)
       obtain ⟨c20, H⟩ := iN H
       obtain ⟨c21, H⟩ := iN H
       obtain ⟨t22, h23, H⟩ := bI H
       refine G.lex mixed [0, 1, 2, 4, 5, 6, 3, 7, 8, 9] (by kernel_rfl) ?_
       replace HS := HS.drew
       refine GX.ps 2 Z (qL Z Z (fun _ _ g => GO.ix Z Z Z underlying28 V5 (r_a _ HS).2.2.1 c20.1 c20.2 Z g) Z (GX.ps 2 Z (qL Z Z (fun _ _ g => GO.ix Z Z Z underlying28 V5 (r_b _ HS).2.2.1 c21.1 c21.2 Z g) Z (GX.l1 Z Z Z (fun _ g => GO.Fq (T := (Ty.slice 64 Aa)) (n := b1.toNat) (o := 0) HS r_a Z Z (getD_some (d := []) (ltN c20)) Z Z Nq Z g) Z (GX.l1 Z Z Z (fun _ g => GO.Fq (T := (Ty.slice 64 Aa)) (n := b1.toNat) (o := 0) HS r_b Z Z (getD_some (d := []) (ltN c21)) Z Z Nq Z g) Z (GX.l2 Z (fN Z func32 fD.1 fD.2 Z Z (Fw.calls HS (Aq.elem r_a c20.1 c20.2) (Aq.elem r_b c21.1 c21.2) h23) (fun _ wd24 ⟨h25, HS⟩ => ⟨_, h25, (GX.fin tv (GX.ps 1 Z (GX.nil ?_)))⟩))))))))
       rcases iE H with ⟨c26, H⟩ | ⟨c26, H⟩
       ·
        refine nB Z (congrArg Bool.not c26) (rN 4 Z (G.weak ?_ (f1 e1 (Nat.lt_succ_of_le (lR _)) (Nat.le_of_succ_le i1) _ _ H HS)))
        exact ⟨Z, Z, Z, tv⟩
       refine yB Z (congrArg Bool.not (Ca c26)) (rN 2 Z ?_)
       obtain rfl := sI H
       exact rT _ func33 Z Z ⟨Z, HS⟩
      refine nB Z (tF c19) (rN 3 Z ?_)
      obtain rfl := sI H
      exact rT _ func33 Z Z ⟨Z, HS⟩
   refine G.weak ?_ (h1 K (lR _) _ _ H HS)
   exact ⟨Z, Z, Z, tv⟩
  refine yB Z (nF c1) (rN 2 Z ?_)
  obtain rfl := sI H
  exact rT _ func33 Z Z ⟨Z, HS⟩
end Go.Proofs.YtkmeepgpmppibaaGreatDoor
