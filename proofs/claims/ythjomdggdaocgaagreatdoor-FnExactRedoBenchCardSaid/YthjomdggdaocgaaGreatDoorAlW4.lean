/-
  The walks through the functions: a call comes to what its list function says.
-/
import Derived.Test.YthjomdggdaocgaaGreatDoorAlF
import Derived.Test.YthjomdggdaocgaaGreatDoorAlW2
import Derived.Test.YthjomdggdaocgaaGreatDoorAlW3
set_option linter.unusedVariables false
set_option linter.unusedSimpArgs false
namespace Go.Proofs.YthjomdggdaocgaaGreatDoor
open Go.RowKit
open Tryz
variable {w0 w : World} {L : List HObj} {K : Nat}
set_option maxRecDepth 20000
set_option maxHeartbeats 40000000
theorem impl_Diagram_drawing.calls {a1 : List GCrossing} {c1 : Int} {A_a : Option Addr} {c_a : Nat} {r1 r2 : List GEnd} {r3 : Bool} (HS : St w0 w (L)) (r_a : RdIn w0 L T_GCrossing A_a c_a (fun _ => ()) a1) (H : impl_Diagram_drawing.f K a1 c1 = some (r1, r2, r3)) :
    Calls prog 163 #[.agg [.slice A_a a1.length c_a, I c1].toArray] w (impl_Diagram_drawing.post w0 L r1 r2 r3) := by
  unfold impl_Diagram_drawing.f at H
  refine cG func163 Z ?_
  refine sQ (rG (GO.box (cs := [.slice A_a a1.length c_a, I c1]) HS Z Z Z Z fun b1 wd2 HS => GO.alloc HS Z zr191 Z Z fun b3 wd4 HS => aS Z (nL (sQ ?_))))
  obtain ⟨t5, h6, H⟩ := bI H
  refine rG (fL b1 0 fl40_0 Z (lB 1 HS Z na38 Z (fN Z func181 fok181.1 fok181.2 Z Z (impl_size_impl_Crossing.calls HS (rD 2 r_a) h6) (fun _ wd7 ⟨h8, HS⟩ => ⟨_, h8, (aS Z (nL (rN 2 Z ?_)))⟩))))
  rcases iE H with ⟨c19, H⟩ | ⟨c19, H⟩
  ·
   refine rG (pS 3 Z (kN 12 Z (tT c19) (oF Z (oF Z (oF Z (oF Z (pS 2 Z (oF Z (oF Z (oF Z (GO.pickT Z Z Z Z Z (nL (rN 2 Z (rG ?_))))))))))))))
   refine GO.buildV (.agg [.slice none 0 0, .slice none 0 0].toArray) Z Z (fun _ => by kernel_rfl) Z (GO.stBox (j := 0) (vs := [.slice none 0 0, .slice none 0 0]) ([.slice none 0 0, .slice none 0 0]) HS Z Z Z Z Z (htA ag191) Z Z Z fun wd20 HS => aS Z (nL ?_))
   replace HS := HS.nilRow T_GEnd 219 (fun _ => ())
   replace HS := HS.nilRow T_GEnd 219 (fun _ => ())
   obtain ⟨rfl, rfl, rfl⟩ := some3 H
   exact G.ret2 _ _ func163 Z (Res1.boxA (j := 2) (vs := [.slice none 0 0, .slice none 0 0]) HS Z Z Z ag191) Z ⟨_, _, _, _, Z, (HS.pk 4 [1, 0] Z)⟩
  obtain ⟨t21, h22, H⟩ := bI H
  rcases iE H with ⟨c25, H⟩ | ⟨c25, H⟩
  ·
   obtain ⟨t26, h27, H⟩ := bI H
   refine rG (pS 3 Z (kN 12 Z (tF c19) (oN Z (fL b1 1 fl40_1 Z (bK (oN Z (lB 1 HS Z na2 Z (bK (oN Z (fN Z func136 fok136.1 fok136.2 Z Z (impl_inRange.calls HS  h22) (fun _ wd23 ⟨h24, HS⟩ => ⟨_, h24, (bK (oN Z (GO.not Z Z Z (bK ?_))))⟩)))))))))))
   refine pS 2 Z (kN 18 Z (congrArg Bool.not c25) (oN Z (fL b1 0 fl40_0 Z (bK (oN Z (lB 1 HS Z na38 Z (bK (oN Z (fN Z func182 fok182.1 fok182.2 Z Z (slices_ContainsFunc_impl_Crossing_impl_Crossing_109.calls HS (rD 2 r_a) h27) (fun _ wd28 ⟨h29, HS⟩ => ⟨_, h29, (bK (GO.pickF Z Z Z Z Z (nL ?_)))⟩))))))))))
   rcases iE H with ⟨c30, H⟩ | ⟨c30, H⟩
   ·
    refine yB Z c30 (sQ (rG (GO.buildV (.agg [.slice none 0 0, .slice none 0 0].toArray) Z Z (fun _ => by kernel_rfl) Z (GO.stBox (j := 0) (vs := [.slice none 0 0, .slice none 0 0]) ([.slice none 0 0, .slice none 0 0]) HS Z Z Z Z Z (htA ag191) Z Z Z fun wd31 HS => aS Z (nL ?_)))))
    replace HS := HS.nilRow T_GEnd 219 (fun _ => ())
    replace HS := HS.nilRow T_GEnd 219 (fun _ => ())
    obtain ⟨rfl, rfl, rfl⟩ := some3 H
    exact G.ret2 _ _ func163 Z (Res1.boxA (j := 2) (vs := [.slice none 0 0, .slice none 0 0]) HS Z Z Z ag191) Z ⟨_, _, _, _, Z, (HS.pk 4 [1, 0] Z)⟩
   refine nB Z (bnot_of c30) (rN 2 Z ?_)
   obtain ⟨t32, t33, t34, h35, H⟩ := bind3_elim H
   refine rG (GO.ldBoxA (j := 1) ([.slice A_a a1.length c_a, I c1]) HS Z Z Z Z ag40 Z (fN Z func184 fok184.1 fok184.2 Z Z (impl_Diagram_arrows.calls HS (rD 2 r_a) h35) (fun _ wd40 ⟨A36, c37, A38, c39, h41, HS⟩ => ⟨_, h41, (pS 3 Z (GO.alloc HS Z zr191 Z Z fun b42 wd43 HS => GO.stBox (j := 0) (vs := [.slice A36 t32.length c37, .slice A38 t33.length c39]) ([.slice A36 t32.length c37, .slice A38 t33.length c39]) HS Z Z Z Z Z (htA ag191) Z Z Z fun wd44 HS => aS Z (nL (rN 2 Z ?_))))⟩)))
   rcases iE H with ⟨c67, H⟩ | ⟨c67, H⟩
   ·
    obtain ⟨t68, h69, H⟩ := bI H
    obtain ⟨t75, h76, H⟩ := bI H
    obtain ⟨t79, h80, H⟩ := bI H
    obtain ⟨t85, h86, H⟩ := bI H
    refine G.lexS mixed (fun w => St w0 w (Box b42 191 [.slice A36 t32.length c37, .slice A38 t33.length c39] :: Box b1 40 [.slice A_a a1.length c_a, I c1] :: L)) [3, 4, 8, 9] [0, 1, 2, 7, 3, 4, 8, 9, 5, 6, 10, 11, 12, 13, 14, 15] [] (by kernel_rfl) (by kernel_rfl) (HS.drew.pk 5 [0, 4] Z) ?_
    replace HS := HS.drew
    refine GX.ps 2 Z (qL Z Z (fun _ _ g => mV Z (kN 31 Z (congrArg Bool.not c67) g)) Z (qL Z Z (fun _ _ g => oN Z (mV Z (bK g))) Z (GX.ls Z Z Z (HS.pk 5 [0, 4] Z) (fun _ HS _ g => oN Z (GO.ldBoxA (j := 1) ([.slice A_a a1.length c_a, I c1]) HS Z Z Z Z ag40 Z (bK g))) Z (GX.ls Z Z Z (HS.pk 5 [0, 4] Z) (fun _ HS _ g => oN Z (GO.ldBoxA (j := 0) ([.slice A36 t32.length c37, .slice A38 t33.length c39]) HS Z Z Z Z ag191 Z (bK g))) Z (GX.ls Z Z Z (HS.pk 5 [0, 4] Z) (fun _ HS _ g => oN Z (GO.ldBoxA (j := 1) ([.slice A_a a1.length c_a, I c1]) HS Z Z Z Z ag40 Z (bK g))) Z (GX.ls Z Z Z (HS.pk 5 [0, 4] Z) (fun _ HS _ g => oN Z (GO.ldBoxA (j := 0) ([.slice A36 t32.length c37, .slice A38 t33.length c39]) HS Z Z Z Z ag191 Z (bK g))) Z (GX.l2 Z (oN Z (fN Z func186 fok186.1 fok186.2 Z Z (impl_Diagram_regions.calls HS (rD 5 r_a) (RdIn.own (j := 1) Z) (RdIn.own (j := 2) Z) h69) (fun _ wd73 ⟨A70, c71, y72, h74, HS⟩ => ⟨_, h74, (bK (GX.fin (HS.pk 6 [1, 5] Z) (GX.l2 Z (oN Z (fN Z func185 fok185.1 fok185.2 Z Z (impl_size_int64.calls HS (RdIn.own (j := 0) Z) h76) (fun _ wd77 ⟨h78, HS⟩ => ⟨_, h78, ?_⟩))))))⟩))))))))))
    refine bK (GX.fin (HS.pk 6 [1, 5] Z) (GX.l2 Z (oN Z (fN Z func188 fok188.1 fok188.2 Z Z (impl_Diagram_parts.calls HS (rD 6 r_a) (RdIn.own (j := 2) Z) (RdIn.own (j := 3) Z) h80) (fun _ wd83 ⟨A81, c82, h84, HS⟩ => ⟨_, h84, (bK (GX.fin (HS.pk 7 [2, 6] Z) (GX.l2 Z (oN Z (fN Z func187 fok187.1 fok187.2 Z Z (impl_classCount.calls HS (RdIn.own (j := 0) Z) h86) (fun _ wd87 ⟨h88, HS⟩ => ⟨_, h88, (bK (GX.fin (HS.pk 7 [2, 6] Z) (qL Z Z (fun _ _ g => oN Z (GO.mul Z Z Z Z (bK g))) Z (qL Z Z (fun _ _ g => oN Z (GO.add Z Z Z Z (bK g))) Z (qL Z Z (fun _ _ g => oN Z (GO.neq Z Z Z Z (bK g))) Z ?_)))))⟩))))))⟩)))))
    refine GX.ps 1 Z (GX.nil ?_)
    rcases iE H with ⟨c89, H⟩ | ⟨c89, H⟩
    ·
     refine nB Z (nT c89) (rN 2 Z (rG (GO.ldBoxA (j := 2) ([.slice A36 t32.length c37, .slice A38 t33.length c39]) HS Z Z Z Z ag191 Z (GO.stBox (j := 5) (vs := [.slice A36 t32.length c37, .slice A38 t33.length c39]) ([.slice A36 t32.length c37, .slice A38 t33.length c39]) HS Z Z Z Z Z (htA ag191) Z Z Z fun wd90 HS => aS Z (nL ?_)))))
     obtain ⟨rfl, rfl, rfl⟩ := some3 H
     exact G.ret2 _ _ func163 Z (Res1.boxA (j := 5) (vs := [.slice A36 t32.length c37, .slice A38 t33.length c39]) HS Z Z Z ag191) Z ⟨_, _, _, _, Z, (HS.pk 7 [3, 4] Z)⟩
    refine yB Z (nF c89) (sQ (rG (GO.buildV (.agg [.slice none 0 0, .slice none 0 0].toArray) Z Z (fun _ => by kernel_rfl) Z (GO.stBox (j := 5) (vs := [.slice none 0 0, .slice none 0 0]) ([.slice none 0 0, .slice none 0 0]) HS Z Z Z Z Z (htA ag191) Z Z Z fun wd91 HS => aS Z (nL ?_)))))
    replace HS := HS.nilRow T_GEnd 219 (fun _ => ())
    replace HS := HS.nilRow T_GEnd 219 (fun _ => ())
    obtain ⟨rfl, rfl, rfl⟩ := some3 H
    exact G.ret2 _ _ func163 Z (Res1.boxA (j := 7) (vs := [.slice none 0 0, .slice none 0 0]) HS Z Z Z ag191) Z ⟨_, _, _, _, Z, (HS.pk 9 [1, 0] Z)⟩
   refine G.lexS mixed (fun w => St w0 w (L)) [3, 4, 8, 9] [0, 1, 2, 7, 3, 4, 8, 9, 5, 6, 10, 11, 12, 13, 14, 15] [] (by kernel_rfl) (by kernel_rfl) (HS.drew.pk 5 [] Z) ?_
   replace HS := HS.drew
   refine GX.ps 2 Z (qL Z Z (fun _ _ g => mV Z (kN 31 Z (congrArg Bool.not (bnot_of c67)) g)) Z (qL Z Z (fun _ _ g => oF Z g) Z (GX.ls Z Z Z (HS.pk 5 [] Z) (fun _ HS _ g => oF Z g) Z (GX.ls Z Z Z (HS.pk 5 [] Z) (fun _ HS _ g => oF Z g) Z (GX.ls Z Z Z (HS.pk 5 [] Z) (fun _ HS _ g => oF Z g) Z (GX.ls Z Z Z (HS.pk 5 [] Z) (fun _ HS _ g => oF Z g) Z (GX.l2 Z (oF Z (GX.fin (HS.pk 5 [] Z) (GX.l2 Z (oF Z (GX.fin (HS.pk 5 [] Z) (GX.l2 Z (oF Z ?_))))))))))))))
   refine GX.fin (HS.pk 5 [] Z) (GX.l2 Z (oF Z (GX.fin (HS.pk 5 [] Z) (qL Z Z (fun _ _ g => oF Z g) Z (qL Z Z (fun _ _ g => oF Z g) Z (qL Z Z (fun _ _ g => oF Z g) Z (GX.ps 1 Z (GX.nil (rN 2 Z (rG (GO.buildV (.agg [.slice none 0 0, .slice none 0 0].toArray) Z Z (fun _ => by kernel_rfl) Z (GO.stBox (j := 3) (vs := [.slice none 0 0, .slice none 0 0]) ([.slice none 0 0, .slice none 0 0]) HS Z Z Z Z Z (htA ag191) Z Z Z fun wd92 HS => aS Z (nL ?_)))))))))))))
   replace HS := HS.nilRow T_GEnd 219 (fun _ => ())
   replace HS := HS.nilRow T_GEnd 219 (fun _ => ())
   obtain ⟨rfl, rfl, rfl⟩ := some3 H
   exact G.ret2 _ _ func163 Z (Res1.boxA (j := 5) (vs := [.slice none 0 0, .slice none 0 0]) HS Z Z Z ag191) Z ⟨_, _, _, _, Z, (HS.pk 7 [1, 0] Z)⟩
  refine rG (pS 3 Z (kN 12 Z (tF c19) (oN Z (fL b1 1 fl40_1 Z (bK (oN Z (lB 1 HS Z na2 Z (bK (oN Z (fN Z func136 fok136.1 fok136.2 Z Z (impl_inRange.calls HS  h22) (fun _ wd23 ⟨h24, HS⟩ => ⟨_, h24, (bK (oN Z (GO.not Z Z Z (bK ?_))))⟩)))))))))))
  refine pS 2 Z (kN 18 Z (congrArg Bool.not (bnot_of c25)) (oF Z (oF Z (oF Z (GO.pickT Z Z Z Z Z (nL (rN 2 Z (rG (GO.buildV (.agg [.slice none 0 0, .slice none 0 0].toArray) Z Z (fun _ => by kernel_rfl) Z (GO.stBox (j := 0) (vs := [.slice none 0 0, .slice none 0 0]) ([.slice none 0 0, .slice none 0 0]) HS Z Z Z Z Z (htA ag191) Z Z Z fun wd93 HS => aS Z (nL ?_)))))))))))
  replace HS := HS.nilRow T_GEnd 219 (fun _ => ())
  replace HS := HS.nilRow T_GEnd 219 (fun _ => ())
  obtain ⟨rfl, rfl, rfl⟩ := some3 H
  exact G.ret2 _ _ func163 Z (Res1.boxA (j := 2) (vs := [.slice none 0 0, .slice none 0 0]) HS Z Z Z ag191) Z ⟨_, _, _, _, Z, (HS.pk 4 [1, 0] Z)⟩
theorem impl_isDiagram.calls {a1 : List GCrossing} {c1 : Int} {A_a : Option Addr} {c_a : Nat} {r1 : Bool} (HS : St w0 w (L)) (r_a : RdIn w0 L T_GCrossing A_a c_a (fun _ => ()) a1) (H : impl_isDiagram.f K a1 c1 = some r1) :
    Calls prog 139 #[.agg [.slice A_a a1.length c_a, I c1].toArray] w (impl_isDiagram.post w0 L r1) := by
  unfold impl_isDiagram.f at H
  refine cG func139 Z ?_
  refine sQ (rG (GO.box (cs := [.slice A_a a1.length c_a, I c1]) HS Z Z Z Z fun b1 wd2 HS => aS Z (nL (sQ ?_))))
  obtain ⟨t3, t4, t5, h6, H⟩ := bind3_elim H
  refine rG (GO.ldBoxA (j := 0) ([.slice A_a a1.length c_a, I c1]) HS Z Z Z Z ag40 Z (fN Z func163 fok163.1 fok163.2 Z Z (impl_Diagram_drawing.calls HS (rD 1 r_a) h6) (fun _ wd11 ⟨A7, c8, A9, c10, h12, HS⟩ => ⟨_, h12, (pS 3 Z (GO.alloc HS Z zr191 Z Z fun b13 wd14 HS => GO.stBox (j := 0) (vs := [.slice A7 t3.length c8, .slice A9 t4.length c10]) ([.slice A7 t3.length c8, .slice A9 t4.length c10]) HS Z Z Z Z Z (htA ag191) Z Z Z fun wd15 HS => aS Z (nL (rN 2 Z ?_))))⟩)))
  obtain rfl := sI H
  exact rT _ func139 Z Z ⟨Z, (HS.pk 4 [] Z)⟩
theorem impl_isLetter.calls {strands letter : Int} {r1 : Bool} (HS : St w0 w (L)) (H : impl_isLetter.f strands letter = some r1) :
    Calls prog 166 #[I strands, I letter] w (impl_isLetter.post w0 L r1) := by
  unfold impl_isLetter.f at H
  refine cG func166 Z ?_
  refine rN 3 Z ?_
  rcases iE H with ⟨c1, H⟩ | ⟨c1, H⟩
  ·
   refine rG (pS 3 Z (kN 7 Z (nT c1) (oF Z (oF Z (oF Z (oF Z (oF Z (oF Z (pS 2 Z (nL ?_))))))))))
   obtain rfl := sI H
   exact rT _ func166 Z Z ⟨Z, HS⟩
  obtain ⟨t2, h3, H⟩ := bI H
  refine rG (pS 3 Z (kN 7 Z (nF c1) (oN Z (mV Z (bK (oN Z (mV Z (bK (oN Z (GO.sub Z Z Z Z (bK (oN Z (mV Z (bK ?_))))))))))))))
  refine oN Z (GO.sub Z Z Z Z (bK (oN Z (fN Z func136 fok136.1 fok136.2 Z Z (impl_inRange.calls HS  h3) (fun _ wd4 ⟨h5, HS⟩ => ⟨_, h5, (bK (pS 2 Z (nL ?_)))⟩)))))
  obtain rfl := sI H
  exact rT _ func166 Z Z ⟨Z, HS⟩
theorem impl_isBraid_fn1_free.calls {x c1 : Int} {b1 : List Int} {a1 : Nat} {A_a : Option Addr} {c_a : Nat} {r1 : Bool} (HS : St w0 w (Box a1 43 [I c1, .slice A_a b1.length c_a] :: L)) (r_a : RdIn w0 L (TInt .i64) A_a c_a (fun _ => ()) b1) (H : impl_isBraid_fn1_free.f x c1 b1 = some r1) :
    Calls prog 165 #[I x, .pointer (some ⟨a1, 0, none⟩)] w (impl_isBraid_fn1_free.post w0 L c1 b1 a1 A_a c_a r1) := by
  unfold impl_isBraid_fn1_free.f at H
  refine cG func165 Z ?_
  refine rN 3 Z ?_
  obtain ⟨t1, h2, H⟩ := bI H
  refine rG (fL a1 0 fl43_0 Z (lB 0 HS Z na2 Z (mV Z (fN Z func166 fok166.1 fok166.2 Z Z (impl_isLetter.calls HS  h2) (fun _ wd3 ⟨h4, HS⟩ => ⟨_, h4, (pS 2 Z (nL ?_))⟩)))))
  obtain rfl := sI H
  exact rT _ func165 Z Z ⟨Z, HS⟩
theorem slices_IndexFunc_int64_int64_isBraid_fn1.calls {s : List Int} {c1 : Int} {a1 : List Int} {A_a : Option Addr} {c_a b1 : Nat} {A_b : Option Addr} {c_b : Nat} {r1 : Int} (HS : St w0 w (Box b1 43 [I c1, .slice A_b a1.length c_b] :: L)) (r_a : RdIn w0 L (TInt .i64) A_a c_a (fun _ => ()) s) (r_b : RdIn w0 L (TInt .i64) A_b c_b (fun _ => ()) a1) (H : slices_IndexFunc_int64_int64_isBraid_fn1.f K s c1 a1 = some r1) :
    Calls prog 189 #[.slice A_a s.length c_a, .func (.func 165) #[] #[.pointer (some ⟨b1, 0, none⟩)]] w (slices_IndexFunc_int64_int64_isBraid_fn1.post w0 L c1 a1 b1 A_b c_b r1) := by
  unfold slices_IndexFunc_int64_int64_isBraid_fn1.f at H
  refine cG func189 Z ?_
  refine rN 4 Z (rG (mV Z (lS Z Z underlying41 Z (mV Z (nL (rN 2 Z ?_))))))
  refine G.name (fun f1 g1 => ?_)
  have h1 : ∀ d1, d1 ≤ K → ∀ (x8 : Int) (w : World), slices_IndexFunc_int64_int64_isBraid_fn1.l1 K d1 s c1 a1 x8 = some r1 → St w0 w (Box b1 43 [I c1, .slice A_b a1.length c_b] :: L) → G prog 189 19 [(0, .slice A_a s.length c_a), (1, .func (.func 165) #[] #[.pointer (some ⟨b1, 0, none⟩)]), (7, I (s.length : Int)), (8, I x8)] f1 w (slices_IndexFunc_int64_int64_isBraid_fn1.post w0 L c1 a1 b1 A_b c_b r1) := by
   intro d1
   induction d1 using Nat.strongRecOn with
   | _ d1 e1 =>
    intro i1 x8 w H HS
    cases d1 with
    | zero => rw [slices_IndexFunc_int64_int64_isBraid_fn1.l1] at H; cases H
    | succ k1 =>
     rw [slices_IndexFunc_int64_int64_isBraid_fn1.l1] at H
     subst g1
     refine rN 3 Z ?_
     rcases iE H with ⟨c16, H⟩ | ⟨c16, H⟩
     ·
      refine yB Z (tT c16) (rN 6 Z ?_)
      obtain ⟨c17, H⟩ := iN H
      obtain ⟨t18, h19, H⟩ := bI H
      refine rG (pS 3 Z (GO.ix Z Z Z underlying41 sz2 ((rD 1 r_a) _ HS).2.2.1 c17.1 c17.2 Z (GO.ldRd (T := (TInt .i64)) (n := x8.toNat) (o := 0) HS (rD 1 r_a) Z Z (getD_some (d := 0) (ltN c17)) Z Z na2 Z ?_)))
      replace HS := HS.pk 1 [0] Z
      refine GO.clo Z Z func165 fok165.1 fok165.2 Z Z (impl_isBraid_fn1_free.calls HS r_b h19) (fun _ wd20 ⟨h21, HS⟩ => ⟨_, h21, (nL ?_)⟩)
      rcases iE H with ⟨c22, H⟩ | ⟨c22, H⟩
      ·
       refine yB Z c22 (rN 2 Z ?_)
       obtain rfl := sI H
       exact rT _ func189 Z Z ⟨Z, HS⟩
      refine nB Z (bnot_of c22) (rN 4 Z (G.weak ?_ (e1 k1 (Nat.lt_succ_of_le (lR _)) (Nat.le_of_succ_le i1) _ _ H HS)))
      exact ⟨Z, Z, Z, Z, tv⟩
     refine nB Z (tF c16) (rN 3 Z ?_)
     obtain rfl := sI H
     exact rT _ func189 Z Z ⟨Z, HS⟩
  refine G.weak ?_ (h1 K (lR _) _ _ H HS)
  exact ⟨Z, Z, Z, Z, tv⟩
theorem slices_ContainsFunc_int64_int64_isBraid_fn1.calls {s : List Int} {b1 : Int} {a1 : List Int} {A_a : Option Addr} {c_a c1 : Nat} {A_b : Option Addr} {c_b : Nat} {r1 : Bool} (HS : St w0 w (Box c1 43 [I b1, .slice A_b a1.length c_b] :: L)) (r_a : RdIn w0 L (TInt .i64) A_a c_a (fun _ => ()) s) (r_b : RdIn w0 L (TInt .i64) A_b c_b (fun _ => ()) a1) (H : slices_ContainsFunc_int64_int64_isBraid_fn1.f K s b1 a1 = some r1) :
    Calls prog 164 #[.slice A_a s.length c_a, .func (.func 165) #[] #[.pointer (some ⟨c1, 0, none⟩)]] w (slices_ContainsFunc_int64_int64_isBraid_fn1.post w0 L b1 a1 c1 A_b c_b r1) := by
  unfold slices_ContainsFunc_int64_int64_isBraid_fn1.f at H
  refine cG func164 Z ?_
  refine rN 3 Z ?_
  obtain ⟨t1, h2, H⟩ := bI H
  refine rG (pS 2 Z ?_)
  replace HS := HS.pk 1 [0] Z
  refine fN Z func189 fok189.1 fok189.2 Z Z (slices_IndexFunc_int64_int64_isBraid_fn1.calls HS r_a r_b h2) (fun _ wd3 ⟨h4, HS⟩ => ⟨_, h4, (pS 2 Z (nL ?_))⟩)
  obtain rfl := sI H
  exact rT _ func164 Z Z ⟨Z, HS⟩
theorem impl_isBraid.calls {c1 : Int} {a1 : List Int} {A_a : Option Addr} {c_a : Nat} {r1 : Bool} (HS : St w0 w (L)) (r_a : RdIn w0 L (TInt .i64) A_a c_a (fun _ => ()) a1) (H : impl_isBraid.f K c1 a1 = some r1) :
    Calls prog 140 #[.agg [I c1, .slice A_a a1.length c_a].toArray] w (impl_isBraid.post w0 L r1) := by
  unfold impl_isBraid.f at H
  refine cG func140 Z ?_
  refine sQ (rG (GO.box (cs := [I c1, .slice A_a a1.length c_a]) HS Z Z Z Z fun b1 wd2 HS => aS Z (nL (sQ ?_))))
  obtain ⟨t3, h4, H⟩ := bI H
  rcases iE H with ⟨c7, H⟩ | ⟨c7, H⟩
  ·
   rcases iE H with ⟨c8, H⟩ | ⟨c8, H⟩
   ·
    obtain ⟨t9, h10, H⟩ := bI H
    refine rG (fL b1 0 fl43_0 Z (lB 0 HS Z na2 Z (fN Z func136 fok136.1 fok136.2 Z Z (impl_inRange.calls HS  h4) (fun _ wd5 ⟨h6, HS⟩ => ⟨_, h6, (mV Z (kN 6 Z c7 (oN Z (fL b1 1 fl43_1 Z (bK (oN Z (lB 0 HS Z na41 Z (bK (oN Z (lS Z Z underlying41 Z (bK ?_)))))))))))⟩))))
    refine oN Z (GO.leq Z Z Z Z (bK (pS 2 Z (kN 12 Z (tT c8) (oN Z (fL b1 1 fl43_1 Z (bK (oN Z (lB 0 HS Z na41 Z (bK (oN Z (GO.mkFunc Z Z Z Z (bK (oN Z ?_))))))))))))))
    replace HS := HS.pk 1 [0] Z
    refine fN Z func164 fok164.1 fok164.2 Z Z (slices_ContainsFunc_int64_int64_isBraid_fn1.calls HS r_a r_a h10) (fun _ wd11 ⟨h12, HS⟩ => ⟨_, h12, (bK (oN Z (GO.not Z Z Z (bK (pS 2 Z (nL ?_))))))⟩)
    obtain rfl := sI H
    exact rT _ func140 Z Z ⟨Z, (HS.pk 1 [] Z)⟩
   refine rG (fL b1 0 fl43_0 Z (lB 0 HS Z na2 Z (fN Z func136 fok136.1 fok136.2 Z Z (impl_inRange.calls HS  h4) (fun _ wd5 ⟨h6, HS⟩ => ⟨_, h6, (mV Z (kN 6 Z c7 (oN Z (fL b1 1 fl43_1 Z (bK (oN Z (lB 0 HS Z na41 Z (bK (oN Z (lS Z Z underlying41 Z (bK ?_)))))))))))⟩))))
   refine oN Z (GO.leq Z Z Z Z (bK (pS 2 Z (kN 12 Z (tF c8) (oF Z (oF Z (oF Z (oF Z (oF Z (pS 2 Z (nL ?_)))))))))))
   obtain rfl := sI H
   exact rT _ func140 Z Z ⟨Z, (HS.pk 1 [] Z)⟩
  refine rG (fL b1 0 fl43_0 Z (lB 0 HS Z na2 Z (fN Z func136 fok136.1 fok136.2 Z Z (impl_inRange.calls HS  h4) (fun _ wd5 ⟨h6, HS⟩ => ⟨_, h6, (mV Z (kN 6 Z (bnot_of c7) (oF Z (oF Z (oF Z (oF Z (pS 2 Z (oF Z (oF Z (oF Z (oF Z ?_)))))))))))⟩))))
  refine oF Z (pS 2 Z (nL ?_))
  obtain rfl := sI H
  exact rT _ func140 Z Z ⟨Z, (HS.pk 1 [] Z)⟩
theorem impl_isName.calls {name : Int} {r1 : Bool} (HS : St w0 w (L)) (H : impl_isName.f name = some r1) :
    Calls prog 167 #[I name] w (impl_isName.post w0 L r1) := by
  unfold impl_isName.f at H
  refine cG func167 Z ?_
  refine rN 3 Z ?_
  obtain ⟨t1, h2, H⟩ := bI H
  refine rG (mV Z (fN Z func136 fok136.1 fok136.2 Z Z (impl_inRange.calls HS  h2) (fun _ wd3 ⟨h4, HS⟩ => ⟨_, h4, (aS Z (nL ?_))⟩)))
  obtain rfl := sI H
  exact rT _ func167 Z Z ⟨Z, HS⟩
theorem impl_indices.calls {kind r1 : Int} (HS : St w0 w (L)) (H : impl_indices.f K kind = some r1) :
    Calls prog 191 #[I kind] w (impl_indices.post w0 L r1) := by
  unfold impl_indices.f at H
  refine cG func191 Z ?_
  refine rN 9 Z ?_
  refine G.nameT (fun c1 d1 => ?_)
  have b1 : ∀ a1, a1 ≤ K → ∀ (x2 : Bool) (w : World), impl_indices.j1 K a1 kind x2 = some r1 → St w0 w (L) → G prog 191 11 [(3, I kind), (4, .bool x2)] c1 w (impl_indices.post w0 L r1) := by
   intro a1 f1 x2 w H HS
   cases a1 with
   | zero => rw [impl_indices.j1] at H; cases H
   | succ e1 =>
    rw [impl_indices.j1] at H
    subst d1
    rcases iE H with ⟨c3, H⟩ | ⟨c3, H⟩
    ·
     refine yB Z c3 (rN 2 Z ?_)
     obtain rfl := sI H
     exact rT _ func191 Z Z ⟨Z, HS⟩
    refine nB Z (bnot_of c3) (rN 2 Z ?_)
    rcases iE H with ⟨c4, H⟩ | ⟨c4, H⟩
    ·
     refine yB Z (tT c4) (rN 2 Z ?_)
     obtain rfl := sI H
     exact rT _ func191 Z Z ⟨Z, HS⟩
    refine nB Z (tF c4) (rN 2 Z ?_)
    rcases iE H with ⟨c5, H⟩ | ⟨c5, H⟩
    ·
     refine yB Z (tT c5) (rN 2 Z ?_)
     obtain rfl := sI H
     exact rT _ func191 Z Z ⟨Z, HS⟩
    refine nB Z (tF c5) (rN 4 Z ?_)
    obtain rfl := sI H
    exact rT _ func191 Z Z ⟨Z, HS⟩
  rcases iE H with ⟨c6, H⟩ | ⟨c6, H⟩
  ·
   refine yB Z (tT c6) (G.skip (G.weak ?_ (b1 K (lR _) _ _ H HS)))
   exact ⟨Z, Z, tv⟩
  refine nB Z (tF c6) (rN 1 Z (G.weak ?_ (b1 K (lR _) _ _ H HS)))
  exact ⟨Z, Z, tv⟩
theorem internal_strconv_small.calls {i : Int} {r1 : ByteArray} (HS : St w0 w (L)) (H : internal_strconv_small.f i = some r1) :
    Calls prog 214 #[I i] w (internal_strconv_small.post w0 L r1) := by
  unfold internal_strconv_small.f at H
  refine cG func214 Z ?_
  refine rN 5 Z ?_
  rcases iE H with ⟨c1, H⟩ | ⟨c1, H⟩
  ·
   refine yB Z (tT c1) (sQ ?_)
   obtain ⟨c2, H⟩ := iN H
   obtain ⟨c3, H⟩ := iN H
   refine rG (pS 3 Z (GO.cutLH Z Z Z Z underlying9 c2 c3 Z (aS Z (nL ?_))))
   obtain rfl := sI H
   exact rT _ func214 Z Z ⟨Z, HS⟩
  refine nB Z (tF c1) (rN 2 Z ?_)
  obtain ⟨c4, H⟩ := iN H
  obtain ⟨c5, H⟩ := iN H
  refine rG (pS 5 Z (GO.cutLH Z Z Z Z underlying9 c4 c5 Z (aS Z (nL ?_))))
  obtain rfl := sI H
  exact rT _ func214 Z Z ⟨Z, HS⟩
theorem internal_strconv_FormatInt.calls {i base : Int} {r1 : ByteArray} (HS : St w0 w (L)) (H : internal_strconv_FormatInt.f K i base = some r1) :
    Calls prog 211 #[I i, I base] w (internal_strconv_FormatInt.post w0 L r1) := by
  unfold internal_strconv_FormatInt.f at H
  refine cG func211 Z ?_
  refine rN 5 Z ?_
  rcases iE H with ⟨c1, H⟩ | ⟨c1, H⟩
  ·
   refine yB Z (tT c1) (rN 2 Z ?_)
   refine G.nameT (fun h1 i1 => ?_)
   have g1 : ∀ a1, a1 ≤ K → ∀ (x4 : Bool) (w : World), internal_strconv_FormatInt.j1 K a1 i x4 = some r1 → St w0 w (L) → G prog 211 54 [(0, I i), (17, .bool x4)] h1 w (internal_strconv_FormatInt.post w0 L r1) := by
    intro a1 p1 x4 w H HS
    cases a1 with
    | zero => rw [internal_strconv_FormatInt.j1] at H; cases H
    | succ d1 =>
     rw [internal_strconv_FormatInt.j1] at H
     subst i1
     rcases iE H with ⟨c5, H⟩ | ⟨c5, H⟩
     ·
      refine yB Z c5 (sQ ?_)
      obtain ⟨t6, h7, H⟩ := bI H
      refine rG (mV Z (fN Z func214 fok214.1 fok214.2 Z Z (internal_strconv_small.calls HS  h7) (fun _ wd8 ⟨h9, HS⟩ => ⟨_, h9, (aS Z (nL ?_))⟩)))
      obtain rfl := sI H
      exact rT _ func211 Z Z ⟨Z, HS⟩
     refine nB Z (bnot_of c5) (rN 2 Z (rG (GO.alloc HS Z zr238 Z Z fun b10 wd11 HS => nL (sQ (rG (mV Z (GO.conv Z Z underlying2 underlying235 Z (aS Z (nL (rN 3 Z ?_))))))))))
     refine G.nameT (fun k1 m1 => ?_)
     have f1 : ∀ b1, b1 ≤ d1 → ∀ (e1 : Int) (w : World), internal_strconv_FormatInt.j2 K b1 e1 = some r1 → St w0 w (Box b10 238 [.int .u8 0, .int .u8 0, .int .u8 0, .int .u8 0, .int .u8 0, .int .u8 0, .int .u8 0, .int .u8 0, .int .u8 0, .int .u8 0, .int .u8 0, .int .u8 0, .int .u8 0, .int .u8 0, .int .u8 0, .int .u8 0, .int .u8 0, .int .u8 0, .int .u8 0, .int .u8 0, .int .u8 0, .int .u8 0, .int .u8 0, .int .u8 0] :: L) → G prog 211 54 [(0, I i), (5, .pointer (some ⟨b10, 0, none⟩)), (6, .int .u64 e1)] k1 w (internal_strconv_FormatInt.post w0 L r1) := by
      intro b1 n1 e1 w H HS
      cases b1 with
      | zero => rw [internal_strconv_FormatInt.j2] at H; cases H
      | succ o1 =>
       rw [internal_strconv_FormatInt.j2] at H
       subst m1
       refine sQ ?_
       cases H
     rcases iE H with ⟨c14, H⟩ | ⟨c14, H⟩
     ·
      refine yB Z (tT c14) (rG (mV Z (GO.neg Z Z Z (aS Z (nL (G.weak ?_ (f1 d1 (lR _) _ _ H HS)))))))
      exact ⟨Z, Z, Z, tv⟩
     refine nB Z (tF c14) (G.skip (G.weak ?_ (f1 d1 (lR _) _ _ H HS)))
     exact ⟨Z, Z, Z, tv⟩
   rcases iE H with ⟨c15, H⟩ | ⟨c15, H⟩
   ·
    refine rG (pS 3 Z (kN 14 Z (tT c15) (oN Z (mV Z (bK (oN Z (GO.lss Z Z Z Z (bK (GO.pickT Z Z Z Z Z (nL (G.weak ?_ (g1 K (lR _) _ _ H HS))))))))))))
    exact ⟨Z, Z, tv⟩
   refine rG (pS 3 Z (kN 14 Z (tF c15) (oF Z (oF Z (GO.pickF Z Z Z Z Z (nL (G.weak ?_ (g1 K (lR _) _ _ H HS))))))))
   exact ⟨Z, Z, tv⟩
  refine nB Z (tF c1) (rN 2 Z ?_)
  cases H
theorem strconv_FormatInt.calls {i base : Int} {r1 : ByteArray} (HS : St w0 w (L)) (H : strconv_FormatInt.f K i base = some r1) :
    Calls prog 206 #[I i, I base] w (strconv_FormatInt.post w0 L r1) := by
  unfold strconv_FormatInt.f at H
  refine cG func206 Z ?_
  refine rN 3 Z ?_
  obtain ⟨t1, h2, H⟩ := bI H
  refine rG (pS 2 Z (fN Z func211 fok211.1 fok211.2 Z Z (internal_strconv_FormatInt.calls HS  h2) (fun _ wd3 ⟨h4, HS⟩ => ⟨_, h4, (aS Z (nL ?_))⟩)))
  obtain rfl := sI H
  exact rT _ func206 Z Z ⟨Z, HS⟩
theorem impl_decimal.calls {n_ : Int} {r1 : ByteArray} (HS : St w0 w (L)) (H : impl_decimal.f K n_ = some r1) :
    Calls prog 192 #[I n_] w (impl_decimal.post w0 L r1) := by
  unfold impl_decimal.f at H
  refine cG func192 Z ?_
  refine rN 3 Z ?_
  obtain ⟨t1, h2, H⟩ := bI H
  refine rG (mV Z (fN Z func206 fok206.1 fok206.2 Z Z (strconv_FormatInt.calls HS  h2) (fun _ wd3 ⟨h4, HS⟩ => ⟨_, h4, (aS Z (nL ?_))⟩)))
  obtain rfl := sI H
  exact rT _ func192 Z Z ⟨Z, HS⟩
theorem impl_MoveText.calls {c1 d1 a1 : Int} {r1 : ByteArray} (HS : St w0 w (L)) (H : impl_MoveText.f K c1 d1 a1 = some r1) :
    Calls prog 170 #[.agg [I c1, I d1, I a1].toArray] w (impl_MoveText.post w0 L r1) := by
  unfold impl_MoveText.f at H
  refine cG func170 Z ?_
  refine sQ (rG (GO.box (cs := [I c1, I d1, I a1]) HS Z Z Z Z fun b1 wd2 HS => aS Z (nL (rN 2 Z ?_))))
  obtain ⟨t16, h17, H⟩ := bI H
  rcases iE H with ⟨c20, H⟩ | ⟨c20, H⟩
  ·
   obtain ⟨t21, h22, H⟩ := bI H
   obtain ⟨t25, h26, H⟩ := bI H
   refine G.lexS mixed (fun w => St w0 w (Box b1 110 [I c1, I d1, I a1] :: L)) [1, 6, 8] [0, 1, 2, 3, 4, 5, 7, 6, 8, 9, 10, 11, 12, 13] [] (by kernel_rfl) (by kernel_rfl) HS.drew ?_
   replace HS := HS.drew
   refine qL Z Z (fun _ _ g => fL b1 1 fl110_1 Z g) Z (GX.ls Z Z Z HS (fun _ HS _ g => lB 0 HS Z na2 Z g) Z (GX.l2 Z (fN Z func136 fok136.1 fok136.2 Z Z (impl_inRange.calls HS  h17) (fun _ wd18 ⟨h19, HS⟩ => ⟨_, h19, (GX.fin HS (GX.ps 1 Z (qL Z Z (fun _ _ g => mV Z (kN 7 Z (congrArg Bool.not c20) g)) Z (qL Z Z (fun _ _ g => oN Z (fL b1 2 fl110_2 Z (bK g))) Z (qL Z Z (fun _ _ g => oN Z (fL b1 0 fl110_0 Z (bK g))) Z (GX.ls Z Z Z HS (fun _ HS _ g => oN Z (lB 0 HS Z na2 Z (bK g))) Z (GX.ls Z Z Z HS (fun _ HS _ g => oN Z (lB 0 HS Z na2 Z (bK g))) Z (GX.l2 Z (oN Z (fN Z func191 fok191.1 fok191.2 Z Z (impl_indices.calls HS  h22) (fun _ wd23 ⟨h24, HS⟩ => ⟨_, h24, (bK ?_)⟩)))))))))))⟩))))
   refine GX.fin HS (qL Z Z (fun _ _ g => oN Z (GO.sub Z Z Z Z (bK g))) Z (GX.l2 Z (oN Z (fN Z func136 fok136.1 fok136.2 Z Z (impl_inRange.calls HS  h26) (fun _ wd27 ⟨h28, HS⟩ => ⟨_, h28, (bK (GX.fin HS (qL Z Z (fun _ _ g => oN Z (GO.not Z Z Z (bK g))) Z (GX.ps 1 Z (GX.nil ?_)))))⟩)))))
   rcases iE H with ⟨c29, H⟩ | ⟨c29, H⟩
   ·
    refine nB Z (congrArg Bool.not c29) (rN 2 Z ?_)
    obtain ⟨c30, H⟩ := iN H
    obtain ⟨c31, H⟩ := iN H
    obtain ⟨c32, H⟩ := iN H
    obtain ⟨t33, h34, H⟩ := bI H
    obtain ⟨c37, H⟩ := iN H
    obtain ⟨c38, H⟩ := iN H
    obtain ⟨t39, h40, H⟩ := bI H
    obtain ⟨c43, H⟩ := iN H
    refine G.lexS mixed (fun w => St w0 w (Box b1 110 [I c1, I d1, I a1] :: L)) [1, 5, 7, 10, 15] [0, 4, 9, 14, 1, 2, 3, 5, 6, 7, 8, 10, 15, 11, 12, 13, 16, 17, 18] [] (by kernel_rfl) (by kernel_rfl) HS.drew ?_
    replace HS := HS.drew
    refine qL Z Z (fun _ _ g => fL b1 0 fl110_0 Z g) Z (qL Z Z (fun _ _ g => fL b1 0 fl110_0 Z g) Z (qL Z Z (fun _ _ g => fL b1 1 fl110_1 Z g) Z (qL Z Z (fun _ _ g => fL b1 2 fl110_2 Z g) Z (GX.ls Z Z Z HS (fun _ HS _ g => lB 0 HS Z na2 Z g) Z (GX.ps 2 Z (GX.ls Z Z Z HS (fun _ HS _ g => lB 0 HS Z na2 Z g) Z (GX.ps 1 Z (GX.ls Z Z Z HS (fun _ HS _ g => GO.cutLH Z Z Z Z underlying9 c30 c31 Z g) Z (qL Z Z (fun _ _ g => GO.catS Z Z Z c32 Z g) Z (GX.ls Z Z Z HS (fun _ HS _ g => lB 0 HS Z na2 Z g) Z (GX.ls Z Z Z HS (fun _ HS _ g => lB 0 HS Z na2 Z g) Z (GX.l2 Z (fN Z func192 fok192.1 fok192.2 Z Z (impl_decimal.calls HS  h34) (fun _ wd35 ⟨h36, HS⟩ => ⟨_, h36, (GX.fin HS ?_)⟩))))))))))))))
    refine qL Z Z (fun _ _ g => GO.catS Z Z Z c37 Z g) Z (qL Z Z (fun _ _ g => GO.catS Z Z Z c38 Z g) Z (GX.l2 Z (fN Z func192 fok192.1 fok192.2 Z Z (impl_decimal.calls HS  h40) (fun _ wd41 ⟨h42, HS⟩ => ⟨_, h42, (GX.fin HS (qL Z Z (fun _ _ g => GO.catS Z Z Z c43 Z g) Z (GX.ps 1 Z (GX.nil ?_))))⟩))))
    obtain rfl := sI H
    exact rT _ func170 Z Z ⟨Z, (HS.pk 1 [] Z)⟩
   refine yB Z (congrArg Bool.not (bnot_of c29)) (rN 2 Z ?_)
   obtain rfl := sI H
   exact rT _ func170 Z Z ⟨Z, (HS.pk 1 [] Z)⟩
  refine G.lexS mixed (fun w => St w0 w (Box b1 110 [I c1, I d1, I a1] :: L)) [1, 6, 8] [0, 1, 2, 3, 4, 5, 7, 6, 8, 9, 10, 11, 12, 13] [] (by kernel_rfl) (by kernel_rfl) HS.drew ?_
  replace HS := HS.drew
  refine qL Z Z (fun _ _ g => fL b1 1 fl110_1 Z g) Z (GX.ls Z Z Z HS (fun _ HS _ g => lB 0 HS Z na2 Z g) Z (GX.l2 Z (fN Z func136 fok136.1 fok136.2 Z Z (impl_inRange.calls HS  h17) (fun _ wd18 ⟨h19, HS⟩ => ⟨_, h19, (GX.fin HS (GX.ps 1 Z (qL Z Z (fun _ _ g => mV Z (kN 7 Z (congrArg Bool.not (bnot_of c20)) g)) Z (qL Z Z (fun _ _ g => oF Z g) Z (qL Z Z (fun _ _ g => oF Z g) Z (GX.ls Z Z Z HS (fun _ HS _ g => oF Z g) Z (GX.ls Z Z Z HS (fun _ HS _ g => oF Z g) Z (GX.l2 Z (oF Z (GX.fin HS (qL Z Z (fun _ _ g => oF Z g) Z ?_)))))))))))⟩))))
  refine GX.l2 Z (oF Z (GX.fin HS (qL Z Z (fun _ _ g => oF Z g) Z (GX.ps 1 Z (GX.nil (rN 3 Z ?_))))))
  obtain rfl := sI H
  exact rT _ func170 Z Z ⟨Z, (HS.pk 1 [] Z)⟩
theorem impl_isPlain_fn1.calls {c1 d1 a1 : Int} {r1 : Bool} (HS : St w0 w (L)) (H : impl_isPlain_fn1.f K c1 d1 a1 = some r1) :
    Calls prog 169 #[.agg [I c1, I d1, I a1].toArray] w (impl_isPlain_fn1.post w0 L r1) := by
  unfold impl_isPlain_fn1.f at H
  refine cG func169 Z ?_
  refine sQ (rG (GO.box (cs := [I c1, I d1, I a1]) HS Z Z Z Z fun b1 wd2 HS => aS Z (nL (sQ ?_))))
  obtain ⟨t3, h4, H⟩ := bI H
  refine rG (GO.ldBoxA (j := 0) ([I c1, I d1, I a1]) HS Z Z Z Z ag110 Z (fN Z func170 fok170.1 fok170.2 Z Z (impl_MoveText.calls HS  h4) (fun _ wd5 ⟨h6, HS⟩ => ⟨_, h6, (GO.eqlS Z Z Z Z (aS Z (nL ?_)))⟩)))
  obtain rfl := sI H
  exact rT _ func169 Z Z ⟨Z, (HS.pk 1 [] Z)⟩
theorem slices_IndexFunc_impl_Move_impl_Move_isPlain_fn1.calls {s : List GMove} {A_a : Option Addr} {c_a : Nat} {r1 : Int} (HS : St w0 w (L)) (r_a : RdIn w0 L T_GMove A_a c_a (fun _ => ()) s) (H : slices_IndexFunc_impl_Move_impl_Move_isPlain_fn1.f K s = some r1) :
    Calls prog 190 #[.slice A_a s.length c_a, .func (.func 169) #[] #[]] w (slices_IndexFunc_impl_Move_impl_Move_isPlain_fn1.post w0 L r1) := by
  unfold slices_IndexFunc_impl_Move_impl_Move_isPlain_fn1.f at H
  refine cG func190 Z ?_
  refine rN 4 Z (rG (mV Z (lS Z Z underlying44 Z (mV Z (nL (rN 2 Z ?_))))))
  refine G.name (fun c1 d1 => ?_)
  have e1 : ∀ a1, a1 ≤ K → ∀ (x10 : Int) (w : World), slices_IndexFunc_impl_Move_impl_Move_isPlain_fn1.l1 K a1 s x10 = some r1 → St w0 w (L) → G prog 190 19 [(0, .slice A_a s.length c_a), (1, .func (.func 169) #[] #[]), (7, I (s.length : Int)), (8, I x10)] c1 w (slices_IndexFunc_impl_Move_impl_Move_isPlain_fn1.post w0 L r1) := by
   intro a1
   induction a1 using Nat.strongRecOn with
   | _ a1 b1 =>
    intro f1 x10 w H HS
    cases a1 with
    | zero => rw [slices_IndexFunc_impl_Move_impl_Move_isPlain_fn1.l1] at H; cases H
    | succ g1 =>
     rw [slices_IndexFunc_impl_Move_impl_Move_isPlain_fn1.l1] at H
     subst d1
     refine rN 3 Z ?_
     rcases iE H with ⟨c20, H⟩ | ⟨c20, H⟩
     ·
      refine yB Z (tT c20) (rN 6 Z ?_)
      obtain ⟨c21, H⟩ := iN H
      obtain ⟨e22, h23, H⟩ := bnd_elim H
      obtain ⟨t24, h25, H⟩ := bI H
      refine rG (pS 3 Z (GO.ix Z Z Z underlying44 sz110 (r_a _ HS).2.2.1 c21.1 c21.2 Z (GO.ldRdA (T := T_GMove) (n := x10.toNat) HS r_a Z Z (getD_eq (ltN c21) h23) ag110 Z (GO.clo Z Z func169 fok169.1 fok169.2 Z Z (impl_isPlain_fn1.calls HS  h25) (fun _ wd26 ⟨h27, HS⟩ => ⟨_, h27, (nL ?_)⟩)))))
      rcases iE H with ⟨c28, H⟩ | ⟨c28, H⟩
      ·
       refine yB Z c28 (rN 2 Z ?_)
       obtain rfl := sI H
       exact rT _ func190 Z Z ⟨Z, HS⟩
      refine nB Z (bnot_of c28) (rN 4 Z (G.weak ?_ (b1 g1 (Nat.lt_succ_of_le (lR _)) (Nat.le_of_succ_le f1) _ _ H HS)))
      exact ⟨Z, Z, Z, Z, tv⟩
     refine nB Z (tF c20) (rN 3 Z ?_)
     obtain rfl := sI H
     exact rT _ func190 Z Z ⟨Z, HS⟩
  refine G.weak ?_ (e1 K (lR _) _ _ H HS)
  exact ⟨Z, Z, Z, Z, tv⟩
theorem slices_ContainsFunc_impl_Move_impl_Move_isPlain_fn1.calls {s : List GMove} {A_a : Option Addr} {c_a : Nat} {r1 : Bool} (HS : St w0 w (L)) (r_a : RdIn w0 L T_GMove A_a c_a (fun _ => ()) s) (H : slices_ContainsFunc_impl_Move_impl_Move_isPlain_fn1.f K s = some r1) :
    Calls prog 168 #[.slice A_a s.length c_a, .func (.func 169) #[] #[]] w (slices_ContainsFunc_impl_Move_impl_Move_isPlain_fn1.post w0 L r1) := by
  unfold slices_ContainsFunc_impl_Move_impl_Move_isPlain_fn1.f at H
  refine cG func168 Z ?_
  refine rN 3 Z ?_
  obtain ⟨t1, h2, H⟩ := bI H
  refine rG (pS 2 Z (fN Z func190 fok190.1 fok190.2 Z Z (slices_IndexFunc_impl_Move_impl_Move_isPlain_fn1.calls HS r_a h2) (fun _ wd3 ⟨h4, HS⟩ => ⟨_, h4, (pS 2 Z (nL ?_))⟩)))
  obtain rfl := sI H
  exact rT _ func168 Z Z ⟨Z, HS⟩
theorem impl_isPlain_fn2.calls {k_ : Int} {r1 : Bool} (HS : St w0 w (L)) (H : impl_isPlain_fn2.f k_ = some r1) :
    Calls prog 171 #[I k_] w (impl_isPlain_fn2.post w0 L r1) := by
  unfold impl_isPlain_fn2.f at H
  refine cG func171 Z ?_
  refine rN 3 Z ?_
  obtain ⟨t1, h2, H⟩ := bI H
  refine rG (mV Z (fN Z func136 fok136.1 fok136.2 Z Z (impl_inRange.calls HS  h2) (fun _ wd3 ⟨h4, HS⟩ => ⟨_, h4, (pS 2 Z (nL ?_))⟩)))
  obtain rfl := sI H
  exact rT _ func171 Z Z ⟨Z, HS⟩
theorem slices_IndexFunc_int64_int64_isPlain_fn2.calls {s : List Int} {A_a : Option Addr} {c_a : Nat} {r1 : Int} (HS : St w0 w (L)) (r_a : RdIn w0 L (TInt .i64) A_a c_a (fun _ => ()) s) (H : slices_IndexFunc_int64_int64_isPlain_fn2.f K s = some r1) :
    Calls prog 189 #[.slice A_a s.length c_a, .func (.func 171) #[] #[]] w (slices_IndexFunc_int64_int64_isPlain_fn2.post w0 L r1) := by
  unfold slices_IndexFunc_int64_int64_isPlain_fn2.f at H
  refine cG func189 Z ?_
  refine rN 4 Z (rG (mV Z (lS Z Z underlying41 Z (mV Z (nL (rN 2 Z ?_))))))
  refine G.name (fun c1 d1 => ?_)
  have e1 : ∀ a1, a1 ≤ K → ∀ (x8 : Int) (w : World), slices_IndexFunc_int64_int64_isPlain_fn2.l1 K a1 s x8 = some r1 → St w0 w (L) → G prog 189 19 [(0, .slice A_a s.length c_a), (1, .func (.func 171) #[] #[]), (7, I (s.length : Int)), (8, I x8)] c1 w (slices_IndexFunc_int64_int64_isPlain_fn2.post w0 L r1) := by
   intro a1
   induction a1 using Nat.strongRecOn with
   | _ a1 b1 =>
    intro f1 x8 w H HS
    cases a1 with
    | zero => rw [slices_IndexFunc_int64_int64_isPlain_fn2.l1] at H; cases H
    | succ g1 =>
     rw [slices_IndexFunc_int64_int64_isPlain_fn2.l1] at H
     subst d1
     refine rN 3 Z ?_
     rcases iE H with ⟨c16, H⟩ | ⟨c16, H⟩
     ·
      refine yB Z (tT c16) (rN 6 Z ?_)
      obtain ⟨c17, H⟩ := iN H
      obtain ⟨t18, h19, H⟩ := bI H
      refine rG (pS 3 Z (GO.ix Z Z Z underlying41 sz2 (r_a _ HS).2.2.1 c17.1 c17.2 Z (GO.ldRd (T := (TInt .i64)) (n := x8.toNat) (o := 0) HS r_a Z Z (getD_some (d := 0) (ltN c17)) Z Z na2 Z (GO.clo Z Z func171 fok171.1 fok171.2 Z Z (impl_isPlain_fn2.calls HS  h19) (fun _ wd20 ⟨h21, HS⟩ => ⟨_, h21, (nL ?_)⟩)))))
      rcases iE H with ⟨c22, H⟩ | ⟨c22, H⟩
      ·
       refine yB Z c22 (rN 2 Z ?_)
       obtain rfl := sI H
       exact rT _ func189 Z Z ⟨Z, HS⟩
      refine nB Z (bnot_of c22) (rN 4 Z (G.weak ?_ (b1 g1 (Nat.lt_succ_of_le (lR _)) (Nat.le_of_succ_le f1) _ _ H HS)))
      exact ⟨Z, Z, Z, Z, tv⟩
     refine nB Z (tF c16) (rN 3 Z ?_)
     obtain rfl := sI H
     exact rT _ func189 Z Z ⟨Z, HS⟩
  refine G.weak ?_ (e1 K (lR _) _ _ H HS)
  exact ⟨Z, Z, Z, Z, tv⟩
theorem slices_ContainsFunc_int64_int64_isPlain_fn2.calls {s : List Int} {A_a : Option Addr} {c_a : Nat} {r1 : Bool} (HS : St w0 w (L)) (r_a : RdIn w0 L (TInt .i64) A_a c_a (fun _ => ()) s) (H : slices_ContainsFunc_int64_int64_isPlain_fn2.f K s = some r1) :
    Calls prog 164 #[.slice A_a s.length c_a, .func (.func 171) #[] #[]] w (slices_ContainsFunc_int64_int64_isPlain_fn2.post w0 L r1) := by
  unfold slices_ContainsFunc_int64_int64_isPlain_fn2.f at H
  refine cG func164 Z ?_
  refine rN 3 Z ?_
  obtain ⟨t1, h2, H⟩ := bI H
  refine rG (pS 2 Z (fN Z func189 fok189.1 fok189.2 Z Z (slices_IndexFunc_int64_int64_isPlain_fn2.calls HS r_a h2) (fun _ wd3 ⟨h4, HS⟩ => ⟨_, h4, (pS 2 Z (nL ?_))⟩)))
  obtain rfl := sI H
  exact rT _ func164 Z Z ⟨Z, HS⟩
theorem impl_isPlain_fn3.calls {p : Int} {r1 : Bool} (HS : St w0 w (L)) (H : impl_isPlain_fn3.f p = some r1) :
    Calls prog 172 #[I p] w (impl_isPlain_fn3.post w0 L r1) := by
  unfold impl_isPlain_fn3.f at H
  refine cG func172 Z ?_
  refine rN 3 Z ?_
  obtain ⟨t1, h2, H⟩ := bI H
  refine rG (mV Z (fN Z func173 fok173.1 fok173.2 Z Z (impl_isPerm.calls HS  h2) (fun _ wd3 ⟨h4, HS⟩ => ⟨_, h4, (pS 2 Z (nL ?_))⟩)))
  obtain rfl := sI H
  exact rT _ func172 Z Z ⟨Z, HS⟩
theorem slices_IndexFunc_int64_int64_isPlain_fn3.calls {s : List Int} {A_a : Option Addr} {c_a : Nat} {r1 : Int} (HS : St w0 w (L)) (r_a : RdIn w0 L (TInt .i64) A_a c_a (fun _ => ()) s) (H : slices_IndexFunc_int64_int64_isPlain_fn3.f K s = some r1) :
    Calls prog 189 #[.slice A_a s.length c_a, .func (.func 172) #[] #[]] w (slices_IndexFunc_int64_int64_isPlain_fn3.post w0 L r1) := by
  unfold slices_IndexFunc_int64_int64_isPlain_fn3.f at H
  refine cG func189 Z ?_
  refine rN 4 Z (rG (mV Z (lS Z Z underlying41 Z (mV Z (nL (rN 2 Z ?_))))))
  refine G.name (fun c1 d1 => ?_)
  have e1 : ∀ a1, a1 ≤ K → ∀ (x8 : Int) (w : World), slices_IndexFunc_int64_int64_isPlain_fn3.l1 K a1 s x8 = some r1 → St w0 w (L) → G prog 189 19 [(0, .slice A_a s.length c_a), (1, .func (.func 172) #[] #[]), (7, I (s.length : Int)), (8, I x8)] c1 w (slices_IndexFunc_int64_int64_isPlain_fn3.post w0 L r1) := by
   intro a1
   induction a1 using Nat.strongRecOn with
   | _ a1 b1 =>
    intro f1 x8 w H HS
    cases a1 with
    | zero => rw [slices_IndexFunc_int64_int64_isPlain_fn3.l1] at H; cases H
    | succ g1 =>
     rw [slices_IndexFunc_int64_int64_isPlain_fn3.l1] at H
     subst d1
     refine rN 3 Z ?_
     rcases iE H with ⟨c16, H⟩ | ⟨c16, H⟩
     ·
      refine yB Z (tT c16) (rN 6 Z ?_)
      obtain ⟨c17, H⟩ := iN H
      obtain ⟨t18, h19, H⟩ := bI H
      refine rG (pS 3 Z (GO.ix Z Z Z underlying41 sz2 (r_a _ HS).2.2.1 c17.1 c17.2 Z (GO.ldRd (T := (TInt .i64)) (n := x8.toNat) (o := 0) HS r_a Z Z (getD_some (d := 0) (ltN c17)) Z Z na2 Z (GO.clo Z Z func172 fok172.1 fok172.2 Z Z (impl_isPlain_fn3.calls HS  h19) (fun _ wd20 ⟨h21, HS⟩ => ⟨_, h21, (nL ?_)⟩)))))
      rcases iE H with ⟨c22, H⟩ | ⟨c22, H⟩
      ·
       refine yB Z c22 (rN 2 Z ?_)
       obtain rfl := sI H
       exact rT _ func189 Z Z ⟨Z, HS⟩
      refine nB Z (bnot_of c22) (rN 4 Z (G.weak ?_ (b1 g1 (Nat.lt_succ_of_le (lR _)) (Nat.le_of_succ_le f1) _ _ H HS)))
      exact ⟨Z, Z, Z, Z, tv⟩
     refine nB Z (tF c16) (rN 3 Z ?_)
     obtain rfl := sI H
     exact rT _ func189 Z Z ⟨Z, HS⟩
  refine G.weak ?_ (e1 K (lR _) _ _ H HS)
  exact ⟨Z, Z, Z, Z, tv⟩
theorem slices_ContainsFunc_int64_int64_isPlain_fn3.calls {s : List Int} {A_a : Option Addr} {c_a : Nat} {r1 : Bool} (HS : St w0 w (L)) (r_a : RdIn w0 L (TInt .i64) A_a c_a (fun _ => ()) s) (H : slices_ContainsFunc_int64_int64_isPlain_fn3.f K s = some r1) :
    Calls prog 164 #[.slice A_a s.length c_a, .func (.func 172) #[] #[]] w (slices_ContainsFunc_int64_int64_isPlain_fn3.post w0 L r1) := by
  unfold slices_ContainsFunc_int64_int64_isPlain_fn3.f at H
  refine cG func164 Z ?_
  refine rN 3 Z ?_
  obtain ⟨t1, h2, H⟩ := bI H
  refine rG (pS 2 Z (fN Z func189 fok189.1 fok189.2 Z Z (slices_IndexFunc_int64_int64_isPlain_fn3.calls HS r_a h2) (fun _ wd3 ⟨h4, HS⟩ => ⟨_, h4, (pS 2 Z (nL ?_))⟩)))
  obtain rfl := sI H
  exact rT _ func164 Z Z ⟨Z, HS⟩
theorem impl_isPlain.calls {f1 e1 : Int} {c1 : List GMove} {d1 a1 : List Int} {A_a : Option Addr} {c_a : Nat} {A_b : Option Addr} {c_b : Nat} {A_c : Option Addr} {c_c : Nat} {r1 : Bool} (HS : St w0 w (L)) (r_a : RdIn w0 L T_GMove A_a c_a (fun _ => ()) c1) (r_b : RdIn w0 L (TInt .i64) A_b c_b (fun _ => ()) d1) (r_c : RdIn w0 L (TInt .i64) A_c c_c (fun _ => ()) a1) (H : impl_isPlain.f K f1 e1 c1 d1 a1 = some r1) :
    Calls prog 141 #[.agg [I f1, I e1, .slice A_a c1.length c_a, .slice A_b d1.length c_b, .slice A_c a1.length c_c].toArray] w (impl_isPlain.post w0 L r1) := by
  unfold impl_isPlain.f at H
  refine cG func141 Z ?_
  refine sQ (rG (GO.box (cs := [I f1, I e1, .slice A_a c1.length c_a, .slice A_b d1.length c_b, .slice A_c a1.length c_c]) HS Z Z Z Z fun b1 wd2 HS => aS Z (nL (rN 3 Z ?_))))
  obtain ⟨t12, h13, H⟩ := bI H
  rcases iE H with ⟨c16, H⟩ | ⟨c16, H⟩
  ·
   obtain ⟨t17, h18, H⟩ := bI H
   refine rG (fL b1 0 fl46_0 Z (lB 0 HS Z na2 Z (fN Z func167 fok167.1 fok167.2 Z Z (impl_isName.calls HS  h13) (fun _ wd14 ⟨h15, HS⟩ => ⟨_, h15, (pS 2 Z (kN 8 Z (congrArg Bool.not c16) (oN Z (fL b1 1 fl46_1 Z (bK (oN Z (lB 0 HS Z na2 Z (bK (oN Z (fN Z func136 fok136.1 fok136.2 Z Z (impl_inRange.calls HS  h18) (fun _ wd19 ⟨h20, HS⟩ => ⟨_, h20, (bK ?_)⟩)))))))))))⟩))))
   refine oN Z (GO.not Z Z Z (bK (pS 2 Z (nL ?_))))
   rcases iE H with ⟨c21, H⟩ | ⟨c21, H⟩
   ·
    refine nB Z (congrArg Bool.not c21) (sQ (rG (fL b1 1 fl46_1 Z (lB 0 HS Z na2 Z (pS 2 Z (nL ?_))))))
    rcases iE H with ⟨c22, H⟩ | ⟨c22, H⟩
    ·
     refine nB Z (nT c22) (rN 3 Z ?_)
     rcases iE H with ⟨c23, H⟩ | ⟨c23, H⟩
     ·
      obtain ⟨t24, h25, H⟩ := bI H
      rcases iE H with ⟨c28, H⟩ | ⟨c28, H⟩
      ·
       refine rG (fL b1 2 fl46_2 Z (lB 0 HS Z na44 Z (lS Z Z underlying44 Z (pS 2 Z (kN 38 Z (tT c23) (oN Z (fL b1 2 fl46_2 Z (bK (oN Z (lB 0 HS Z na44 Z (bK (oN Z (fN Z func168 fok168.1 fok168.2 Z Z (slices_ContainsFunc_impl_Move_impl_Move_isPlain_fn1.calls HS (rD 1 r_a) h25) (fun _ wd26 ⟨h27, HS⟩ => ⟨_, h27, (bK ?_)⟩))))))))))))))
       refine oN Z (GO.not Z Z Z (bK (pS 2 Z (kN 44 Z (congrArg Bool.not c28) (oF Z (oF Z (oF Z (oF Z (oF Z (oF Z (oF Z (pS 2 Z (oF Z (oF Z ?_))))))))))))))
       refine oF Z (oF Z (pS 2 Z (oF Z (oF Z (oF Z (oF Z (pS 2 Z (oF Z (oF Z (oF Z (oF Z (pS 2 Z (nL ?_)))))))))))))
       obtain rfl := sI H
       exact rT _ func141 Z Z ⟨Z, (HS.pk 1 [] Z)⟩
      rcases iE H with ⟨c29, H⟩ | ⟨c29, H⟩
      ·
       rcases iE H with ⟨c30, H⟩ | ⟨c30, H⟩
       ·
        obtain ⟨t31, h32, H⟩ := bI H
        rcases iE H with ⟨c35, H⟩ | ⟨c35, H⟩
        ·
         refine rG (fL b1 2 fl46_2 Z (lB 0 HS Z na44 Z (lS Z Z underlying44 Z (pS 2 Z (kN 38 Z (tT c23) (oN Z (fL b1 2 fl46_2 Z (bK (oN Z (lB 0 HS Z na44 Z (bK (oN Z (fN Z func168 fok168.1 fok168.2 Z Z (slices_ContainsFunc_impl_Move_impl_Move_isPlain_fn1.calls HS (rD 1 r_a) h25) (fun _ wd26 ⟨h27, HS⟩ => ⟨_, h27, (bK ?_)⟩))))))))))))))
         refine oN Z (GO.not Z Z Z (bK (pS 2 Z (kN 44 Z (congrArg Bool.not (bnot_of c28)) (oN Z (fL b1 3 fl46_3 Z (bK (oN Z (lB 0 HS Z na41 Z (bK (oN Z (lS Z Z underlying41 Z (bK (oN Z ?_))))))))))))))
         refine fL b1 4 fl46_4 Z (bK (oN Z (lB 0 HS Z na41 Z (bK (oN Z (lS Z Z underlying41 Z (bK (oN Z (GO.eql Z Z Z Z (bK (pS 2 Z (kN 53 Z (tT c29) (oN Z (fL b1 3 fl46_3 Z ?_))))))))))))))
         refine bK (oN Z (lB 0 HS Z na41 Z (bK (oN Z (lS Z Z underlying41 Z (bK (oN Z (GO.leq Z Z Z Z (bK (pS 2 Z (kN 59 Z (tT c30) (oN Z (fL b1 3 fl46_3 Z (bK ?_))))))))))))))
         refine oN Z (lB 0 HS Z na41 Z (bK (oN Z (fN Z func164 fok164.1 fok164.2 Z Z (slices_ContainsFunc_int64_int64_isPlain_fn2.calls HS (rD 1 r_b) h32) (fun _ wd33 ⟨h34, HS⟩ => ⟨_, h34, (bK (oN Z (GO.not Z Z Z (bK (pS 2 Z (kN 65 Z (congrArg Bool.not c35) (oF Z (oF Z (oF Z (oF Z ?_))))))))))⟩)))))
         refine pS 2 Z (nL ?_)
         obtain rfl := sI H
         exact rT _ func141 Z Z ⟨Z, (HS.pk 1 [] Z)⟩
        obtain ⟨t36, h37, H⟩ := bI H
        refine rG (fL b1 2 fl46_2 Z (lB 0 HS Z na44 Z (lS Z Z underlying44 Z (pS 2 Z (kN 38 Z (tT c23) (oN Z (fL b1 2 fl46_2 Z (bK (oN Z (lB 0 HS Z na44 Z (bK (oN Z (fN Z func168 fok168.1 fok168.2 Z Z (slices_ContainsFunc_impl_Move_impl_Move_isPlain_fn1.calls HS (rD 1 r_a) h25) (fun _ wd26 ⟨h27, HS⟩ => ⟨_, h27, (bK ?_)⟩))))))))))))))
        refine oN Z (GO.not Z Z Z (bK (pS 2 Z (kN 44 Z (congrArg Bool.not (bnot_of c28)) (oN Z (fL b1 3 fl46_3 Z (bK (oN Z (lB 0 HS Z na41 Z (bK (oN Z (lS Z Z underlying41 Z (bK (oN Z ?_))))))))))))))
        refine fL b1 4 fl46_4 Z (bK (oN Z (lB 0 HS Z na41 Z (bK (oN Z (lS Z Z underlying41 Z (bK (oN Z (GO.eql Z Z Z Z (bK (pS 2 Z (kN 53 Z (tT c29) (oN Z (fL b1 3 fl46_3 Z ?_))))))))))))))
        refine bK (oN Z (lB 0 HS Z na41 Z (bK (oN Z (lS Z Z underlying41 Z (bK (oN Z (GO.leq Z Z Z Z (bK (pS 2 Z (kN 59 Z (tT c30) (oN Z (fL b1 3 fl46_3 Z (bK ?_))))))))))))))
        refine oN Z (lB 0 HS Z na41 Z (bK (oN Z (fN Z func164 fok164.1 fok164.2 Z Z (slices_ContainsFunc_int64_int64_isPlain_fn2.calls HS (rD 1 r_b) h32) (fun _ wd33 ⟨h34, HS⟩ => ⟨_, h34, (bK (oN Z (GO.not Z Z Z (bK (pS 2 Z (kN 65 Z (congrArg Bool.not (bnot_of c35)) (oN Z (fL b1 4 fl46_4 Z (bK (oN Z ?_))))))))))⟩)))))
        refine lB 0 HS Z na41 Z (bK (oN Z (fN Z func164 fok164.1 fok164.2 Z Z (slices_ContainsFunc_int64_int64_isPlain_fn3.calls HS (rD 1 r_c) h37) (fun _ wd38 ⟨h39, HS⟩ => ⟨_, h39, (bK (oN Z (GO.not Z Z Z (bK (pS 2 Z (nL ?_))))))⟩))))
        obtain rfl := sI H
        exact rT _ func141 Z Z ⟨Z, (HS.pk 1 [] Z)⟩
       refine rG (fL b1 2 fl46_2 Z (lB 0 HS Z na44 Z (lS Z Z underlying44 Z (pS 2 Z (kN 38 Z (tT c23) (oN Z (fL b1 2 fl46_2 Z (bK (oN Z (lB 0 HS Z na44 Z (bK (oN Z (fN Z func168 fok168.1 fok168.2 Z Z (slices_ContainsFunc_impl_Move_impl_Move_isPlain_fn1.calls HS (rD 1 r_a) h25) (fun _ wd26 ⟨h27, HS⟩ => ⟨_, h27, (bK ?_)⟩))))))))))))))
       refine oN Z (GO.not Z Z Z (bK (pS 2 Z (kN 44 Z (congrArg Bool.not (bnot_of c28)) (oN Z (fL b1 3 fl46_3 Z (bK (oN Z (lB 0 HS Z na41 Z (bK (oN Z (lS Z Z underlying41 Z (bK (oN Z ?_))))))))))))))
       refine fL b1 4 fl46_4 Z (bK (oN Z (lB 0 HS Z na41 Z (bK (oN Z (lS Z Z underlying41 Z (bK (oN Z (GO.eql Z Z Z Z (bK (pS 2 Z (kN 53 Z (tT c29) (oN Z (fL b1 3 fl46_3 Z ?_))))))))))))))
       refine bK (oN Z (lB 0 HS Z na41 Z (bK (oN Z (lS Z Z underlying41 Z (bK (oN Z (GO.leq Z Z Z Z (bK (pS 2 Z (kN 59 Z (tF c30) (oF Z (oF Z (oF Z ?_))))))))))))))
       refine oF Z (pS 2 Z (oF Z (oF Z (oF Z (oF Z (pS 2 Z (nL ?_)))))))
       obtain rfl := sI H
       exact rT _ func141 Z Z ⟨Z, (HS.pk 1 [] Z)⟩
      refine rG (fL b1 2 fl46_2 Z (lB 0 HS Z na44 Z (lS Z Z underlying44 Z (pS 2 Z (kN 38 Z (tT c23) (oN Z (fL b1 2 fl46_2 Z (bK (oN Z (lB 0 HS Z na44 Z (bK (oN Z (fN Z func168 fok168.1 fok168.2 Z Z (slices_ContainsFunc_impl_Move_impl_Move_isPlain_fn1.calls HS (rD 1 r_a) h25) (fun _ wd26 ⟨h27, HS⟩ => ⟨_, h27, (bK ?_)⟩))))))))))))))
      refine oN Z (GO.not Z Z Z (bK (pS 2 Z (kN 44 Z (congrArg Bool.not (bnot_of c28)) (oN Z (fL b1 3 fl46_3 Z (bK (oN Z (lB 0 HS Z na41 Z (bK (oN Z (lS Z Z underlying41 Z (bK (oN Z ?_))))))))))))))
      refine fL b1 4 fl46_4 Z (bK (oN Z (lB 0 HS Z na41 Z (bK (oN Z (lS Z Z underlying41 Z (bK (oN Z (GO.eql Z Z Z Z (bK (pS 2 Z (kN 53 Z (tF c29) (oF Z (oF Z ?_))))))))))))))
      refine oF Z (oF Z (pS 2 Z (oF Z (oF Z (oF Z (oF Z (pS 2 Z (oF Z (oF Z (oF Z (oF Z (pS 2 Z (nL ?_)))))))))))))
      obtain rfl := sI H
      exact rT _ func141 Z Z ⟨Z, (HS.pk 1 [] Z)⟩
     refine rG (fL b1 2 fl46_2 Z (lB 0 HS Z na44 Z (lS Z Z underlying44 Z (pS 2 Z (kN 38 Z (tF c23) (oF Z (oF Z (oF Z (oF Z (pS 2 Z (oF Z (oF Z (oF Z (oF Z ?_))))))))))))))
     refine oF Z (oF Z (oF Z (pS 2 Z (oF Z (oF Z (oF Z (oF Z (pS 2 Z (oF Z (oF Z (oF Z (oF Z (pS 2 Z (oF Z ?_))))))))))))))
     refine oF Z (oF Z (oF Z (pS 2 Z (nL ?_))))
     obtain rfl := sI H
     exact rT _ func141 Z Z ⟨Z, (HS.pk 1 [] Z)⟩
    refine yB Z (nF c22) (sQ ?_)
    rcases iE H with ⟨c40, H⟩ | ⟨c40, H⟩
    ·
     rcases iE H with ⟨c41, H⟩ | ⟨c41, H⟩
     ·
      refine rG (fL b1 2 fl46_2 Z (lB 0 HS Z na44 Z (lS Z Z underlying44 Z (pS 2 Z (kN 22 Z (tT c40) (oN Z (fL b1 3 fl46_3 Z (bK (oN Z (lB 0 HS Z na41 Z (bK (oN Z (lS Z Z underlying41 Z (bK ?_))))))))))))))
      refine oN Z (GO.eql Z Z Z Z (bK (pS 2 Z (kN 28 Z (tT c41) (oN Z (fL b1 4 fl46_4 Z (bK (oN Z (lB 0 HS Z na41 Z (bK (oN Z (lS Z Z underlying41 Z (bK (oN Z ?_))))))))))))))
      refine GO.eql Z Z Z Z (bK (pS 2 Z (nL ?_)))
      obtain rfl := sI H
      exact rT _ func141 Z Z ⟨Z, (HS.pk 1 [] Z)⟩
     refine rG (fL b1 2 fl46_2 Z (lB 0 HS Z na44 Z (lS Z Z underlying44 Z (pS 2 Z (kN 22 Z (tT c40) (oN Z (fL b1 3 fl46_3 Z (bK (oN Z (lB 0 HS Z na41 Z (bK (oN Z (lS Z Z underlying41 Z (bK ?_))))))))))))))
     refine oN Z (GO.eql Z Z Z Z (bK (pS 2 Z (kN 28 Z (tF c41) (oF Z (oF Z (oF Z (oF Z (pS 2 Z (nL ?_))))))))))
     obtain rfl := sI H
     exact rT _ func141 Z Z ⟨Z, (HS.pk 1 [] Z)⟩
    refine rG (fL b1 2 fl46_2 Z (lB 0 HS Z na44 Z (lS Z Z underlying44 Z (pS 2 Z (kN 22 Z (tF c40) (oF Z (oF Z (oF Z (oF Z (pS 2 Z (oF Z (oF Z (oF Z (oF Z ?_))))))))))))))
    refine pS 2 Z (nL ?_)
    obtain rfl := sI H
    exact rT _ func141 Z Z ⟨Z, (HS.pk 1 [] Z)⟩
   refine yB Z (congrArg Bool.not (bnot_of c21)) (rN 2 Z ?_)
   obtain rfl := sI H
   exact rT _ func141 Z Z ⟨Z, (HS.pk 1 [] Z)⟩
  refine rG (fL b1 0 fl46_0 Z (lB 0 HS Z na2 Z (fN Z func167 fok167.1 fok167.2 Z Z (impl_isName.calls HS  h13) (fun _ wd14 ⟨h15, HS⟩ => ⟨_, h15, (pS 2 Z (kN 8 Z (congrArg Bool.not (bnot_of c16)) (oF Z (oF Z (oF Z (oF Z (pS 2 Z (nL (rN 3 Z ?_)))))))))⟩))))
  obtain rfl := sI H
  exact rT _ func141 Z Z ⟨Z, (HS.pk 1 [] Z)⟩
theorem impl_isItem.calls {o1 : ByteArray} {n1 : Int} {e1 : List (List GFace)} {a1 : List GCrossing} {k1 m1 : Int} {g1 : List Int} {i1 h1 : Int} {f1 : List GMove} {d1 c1 : List Int} {A_a : Option Addr} {c_a : Nat} {y_a : Nat → (Ty.slice 140 T_GFace).Lay} {A_b : Option Addr} {c_b : Nat} {A_c : Option Addr} {c_c : Nat} {A_d : Option Addr} {c_d : Nat} {A_e : Option Addr} {c_e : Nat} {A_f : Option Addr} {c_f : Nat} {r1 : Bool} (HS : St w0 w (L)) (r_a : RdIn w0 L (Ty.slice 140 T_GFace) A_a c_a y_a e1) (r_b : RdIn w0 L T_GCrossing A_b c_b (fun _ => ()) a1) (r_c : RdIn w0 L (TInt .i64) A_c c_c (fun _ => ()) g1) (r_d : RdIn w0 L T_GMove A_d c_d (fun _ => ()) f1) (r_e : RdIn w0 L (TInt .i64) A_e c_e (fun _ => ()) d1) (r_f : RdIn w0 L (TInt .i64) A_f c_f (fun _ => ()) c1) (H : impl_isItem.f K o1 n1 e1 a1 k1 m1 g1 i1 h1 f1 d1 c1 = some r1) :
    Calls prog 103 #[.agg [.string o1, I n1, .slice A_a e1.length c_a, .slice A_b a1.length c_b, I k1, I m1, .slice A_c g1.length c_c, I i1, I h1, .slice A_d f1.length c_d, .slice A_e d1.length c_e, .slice A_f c1.length c_f].toArray] w (impl_isItem.post w0 L r1) := by
  unfold impl_isItem.f at H
  refine cG func103 Z ?_
  refine sQ ?_
  refine rG ?_
  refine GO.box (cs := [.string o1, I n1, .slice A_a e1.length c_a, .slice A_b a1.length c_b, I k1, I m1, .slice A_c g1.length c_c, I i1, I h1, .slice A_d f1.length c_d, .slice A_e d1.length c_e, .slice A_f c1.length c_f]) HS Z Z Z Z ?_; intro b1 wd2 HS
  refine aS Z ?_
  refine nL ?_
  refine rN 2 Z ?_
  obtain ⟨t12, h13, H⟩ := bI H
  rcases iE H with ⟨c16, H⟩ | ⟨c16, H⟩
  ·
   obtain ⟨t17, h18, H⟩ := bI H
   refine rG ?_
   refine fL b1 0 fl48_0 Z ?_
   refine lB 0 HS Z na9 Z ?_
   refine fN Z func135 fok135.1 fok135.2 Z Z (impl_isItemName.calls HS  h13) (fun _ wd14 ⟨h15, HS⟩ => ⟨_, h15, ?_⟩)
   refine pS 2 Z ?_
   refine kN 8 Z (congrArg Bool.not c16) ?_
   refine oN Z ?_
   refine fL b1 1 fl48_1 Z ?_
   refine bK ?_
   refine oN Z ?_
   refine lB 0 HS Z na2 Z ?_
   refine bK ?_
   refine oN Z ?_
   refine fN Z func136 fok136.1 fok136.2 Z Z (impl_inRange.calls HS  h18) (fun _ wd19 ⟨h20, HS⟩ => ⟨_, h20, ?_⟩)
   refine bK ?_
   refine oN Z ?_
   refine GO.not Z Z Z ?_
   refine bK ?_
   refine GO.pickF Z Z Z Z Z ?_
   refine nL ?_
   rcases iE H with ⟨c21, H⟩ | ⟨c21, H⟩
   ·
    refine nB Z (congrArg Bool.not c21) ?_
    refine rN 2 Z ?_
    obtain ⟨t22, t23, t24, t25, h26, H⟩ := bind4_elim H
    refine rG ?_
    refine GO.ldBoxA (j := 0) ([.string o1, I n1, .slice A_a e1.length c_a, .slice A_b a1.length c_b, I k1, I m1, .slice A_c g1.length c_c, I i1, I h1, .slice A_d f1.length c_d, .slice A_e d1.length c_e, .slice A_f c1.length c_f]) HS Z Z Z Z ag48 Z ?_
    refine fN Z func137 fok137.1 fok137.2 Z Z (impl_fields.calls HS (rD 1 r_a) (rD 1 r_b) (rD 1 r_c) (rD 1 r_d) (rD 1 r_e) (rD 1 r_f) h26) (fun _ wd27 ⟨h28, HS⟩ => ⟨_, h28, ?_⟩)
    refine GO.alloc HS Z zr164 Z Z ?_; intro b29 wd30 HS
    refine GO.stBox (j := 0) (vs := [.bool t22, .bool t23, .bool t24, .bool t25]) ([.bool t22, .bool t23, .bool t24, .bool t25]) HS Z Z Z Z Z (htA ag164) Z Z Z ?_; intro wd31 HS
    refine nL ?_
    refine sQ ?_
    rcases iE H with ⟨c32, H⟩ | ⟨c32, H⟩
    ·
     refine rG ?_
     refine fL b1 1 fl48_1 Z ?_
     refine lB 1 HS Z na2 Z ?_
     refine GO.sub Z Z Z Z ?_
     refine GO.ixP 0 Z Z Z c32 underlying164 sz4 Z Z ?_
     refine GO.stBox (j := 0) (vs := [.bool false]) ([.bool false, .bool t23, .bool t24, .bool t25]) HS Z Z Z Z Z (htN na4 Z) Z Z Z ?_; intro wd33 HS
     refine nL ?_
     refine rN 2 Z ?_
     refine rG ?_
     refine GO.ldBoxA (j := 0) ([.bool false, .bool t23, .bool t24, .bool t25]) HS Z Z Z Z ag164 Z ?_
     refine GO.buildV (.agg [.bool false, .bool false, .bool false, .bool false].toArray) Z Z (fun _ => by kernel_rfl) Z ?_
     refine GO.neqA Z Z Z ng164 (fun _ => eq164) Z ?_
     refine nL ?_
     rcases iE H with ⟨c34, H⟩ | ⟨c34, H⟩
     ·
      refine nB Z (nT c34) ?_
      refine rN 3 Z ?_
      refine rG ?_
      refine fL b1 1 fl48_1 Z ?_
      refine lB 1 HS Z na2 Z ?_
      refine nL ?_
      refine rN 3 Z ?_
      rcases iE H with ⟨c35, H⟩ | ⟨c35, H⟩
      ·
       refine yB Z (tT c35) ?_
       refine sQ ?_
       obtain ⟨t36, h37, H⟩ := bI H
       refine rG ?_
       refine fL b1 2 fl48_2 Z ?_
       refine GO.ldBoxA (j := 1) ([.slice A_a e1.length c_a]) HS Z Z Z Z ag37 Z ?_
       refine fN Z func138 fok138.1 fok138.2 Z Z (impl_isTriangulation.calls HS (rD 2 r_a) h37) (fun _ wd38 ⟨h39, HS⟩ => ⟨_, h39, ?_⟩)
       refine aS Z ?_
       refine nL ?_
       obtain rfl := sI H
       exact rT _ func103 Z Z ⟨Z, (HS.pk 2 [] Z)⟩
      refine nB Z (tF c35) ?_
      refine rN 2 Z ?_
      rcases iE H with ⟨c40, H⟩ | ⟨c40, H⟩
      ·
       refine yB Z (tT c40) ?_
       refine sQ ?_
       obtain ⟨t41, h42, H⟩ := bI H
       refine rG ?_
       refine fL b1 3 fl48_3 Z ?_
       refine GO.ldBoxA (j := 1) ([.slice A_b a1.length c_b, I k1]) HS Z Z Z Z ag40 Z ?_
       refine fN Z func139 fok139.1 fok139.2 Z Z (impl_isDiagram.calls HS (rD 2 r_b) h42) (fun _ wd43 ⟨h44, HS⟩ => ⟨_, h44, ?_⟩)
       refine aS Z ?_
       refine nL ?_
       obtain rfl := sI H
       exact rT _ func103 Z Z ⟨Z, (HS.pk 2 [] Z)⟩
      refine nB Z (tF c40) ?_
      refine rN 2 Z ?_
      rcases iE H with ⟨c45, H⟩ | ⟨c45, H⟩
      ·
       refine yB Z (tT c45) ?_
       refine sQ ?_
       obtain ⟨t46, h47, H⟩ := bI H
       refine rG ?_
       refine fL b1 5 fl48_4 Z ?_
       refine GO.ldBoxA (j := 1) ([I m1, .slice A_c g1.length c_c]) HS Z Z Z Z ag43 Z ?_
       refine fN Z func140 fok140.1 fok140.2 Z Z (impl_isBraid.calls HS (rD 2 r_c) h47) (fun _ wd48 ⟨h49, HS⟩ => ⟨_, h49, ?_⟩)
       refine aS Z ?_
       refine nL ?_
       obtain rfl := sI H
       exact rT _ func103 Z Z ⟨Z, (HS.pk 2 [] Z)⟩
      refine nB Z (tF c45) ?_
      refine rN 3 Z ?_
      obtain ⟨t50, h51, H⟩ := bI H
      refine rG ?_
      refine fL b1 7 fl48_5 Z ?_
      refine GO.ldBoxA (j := 1) ([I i1, I h1, .slice A_d f1.length c_d, .slice A_e d1.length c_e, .slice A_f c1.length c_f]) HS Z Z Z Z ag46 Z ?_
      refine fN Z func141 fok141.1 fok141.2 Z Z (impl_isPlain.calls HS (rD 2 r_d) (rD 2 r_e) (rD 2 r_f) h51) (fun _ wd52 ⟨h53, HS⟩ => ⟨_, h53, ?_⟩)
      refine aS Z ?_
      refine nL ?_
      obtain rfl := sI H
      exact rT _ func103 Z Z ⟨Z, (HS.pk 2 [] Z)⟩
     refine yB Z (nF c34) ?_
     refine rN 2 Z ?_
     obtain rfl := sI H
     exact rT _ func103 Z Z ⟨Z, (HS.pk 2 [] Z)⟩
    rcases iE H with ⟨c54, H⟩ | ⟨c54, H⟩
    ·
     refine rG ?_
     refine fL b1 1 fl48_1 Z ?_
     refine lB 1 HS Z na2 Z ?_
     refine GO.sub Z Z Z Z ?_
     refine GO.ixP 1 Z Z Z c54 underlying164 sz4 Z Z ?_
     refine GO.stBox (j := 0) (vs := [.bool false]) ([.bool t22, .bool false, .bool t24, .bool t25]) HS Z Z Z Z Z (htN na4 Z) Z Z Z ?_; intro wd55 HS
     refine nL ?_
     refine rN 2 Z ?_
     refine rG ?_
     refine GO.ldBoxA (j := 0) ([.bool t22, .bool false, .bool t24, .bool t25]) HS Z Z Z Z ag164 Z ?_
     refine GO.buildV (.agg [.bool false, .bool false, .bool false, .bool false].toArray) Z Z (fun _ => by kernel_rfl) Z ?_
     refine GO.neqA Z Z Z ng164 (fun _ => eq164) Z ?_
     refine nL ?_
     rcases iE H with ⟨c56, H⟩ | ⟨c56, H⟩
     ·
      refine nB Z (nT c56) ?_
      refine rN 3 Z ?_
      refine rG ?_
      refine fL b1 1 fl48_1 Z ?_
      refine lB 1 HS Z na2 Z ?_
      refine nL ?_
      refine rN 3 Z ?_
      rcases iE H with ⟨c57, H⟩ | ⟨c57, H⟩
      ·
       refine yB Z (tT c57) ?_
       refine sQ ?_
       obtain ⟨t58, h59, H⟩ := bI H
       refine rG ?_
       refine fL b1 2 fl48_2 Z ?_
       refine GO.ldBoxA (j := 1) ([.slice A_a e1.length c_a]) HS Z Z Z Z ag37 Z ?_
       refine fN Z func138 fok138.1 fok138.2 Z Z (impl_isTriangulation.calls HS (rD 2 r_a) h59) (fun _ wd60 ⟨h61, HS⟩ => ⟨_, h61, ?_⟩)
       refine aS Z ?_
       refine nL ?_
       obtain rfl := sI H
       exact rT _ func103 Z Z ⟨Z, (HS.pk 2 [] Z)⟩
      refine nB Z (tF c57) ?_
      refine rN 2 Z ?_
      rcases iE H with ⟨c62, H⟩ | ⟨c62, H⟩
      ·
       refine yB Z (tT c62) ?_
       refine sQ ?_
       obtain ⟨t63, h64, H⟩ := bI H
       refine rG ?_
       refine fL b1 3 fl48_3 Z ?_
       refine GO.ldBoxA (j := 1) ([.slice A_b a1.length c_b, I k1]) HS Z Z Z Z ag40 Z ?_
       refine fN Z func139 fok139.1 fok139.2 Z Z (impl_isDiagram.calls HS (rD 2 r_b) h64) (fun _ wd65 ⟨h66, HS⟩ => ⟨_, h66, ?_⟩)
       refine aS Z ?_
       refine nL ?_
       obtain rfl := sI H
       exact rT _ func103 Z Z ⟨Z, (HS.pk 2 [] Z)⟩
      refine nB Z (tF c62) ?_
      refine rN 2 Z ?_
      rcases iE H with ⟨c67, H⟩ | ⟨c67, H⟩
      ·
       refine yB Z (tT c67) ?_
       refine sQ ?_
       obtain ⟨t68, h69, H⟩ := bI H
       refine rG ?_
       refine fL b1 5 fl48_4 Z ?_
       refine GO.ldBoxA (j := 1) ([I m1, .slice A_c g1.length c_c]) HS Z Z Z Z ag43 Z ?_
       refine fN Z func140 fok140.1 fok140.2 Z Z (impl_isBraid.calls HS (rD 2 r_c) h69) (fun _ wd70 ⟨h71, HS⟩ => ⟨_, h71, ?_⟩)
       refine aS Z ?_
       refine nL ?_
       obtain rfl := sI H
       exact rT _ func103 Z Z ⟨Z, (HS.pk 2 [] Z)⟩
      refine nB Z (tF c67) ?_
      refine rN 3 Z ?_
      obtain ⟨t72, h73, H⟩ := bI H
      refine rG ?_
      refine fL b1 7 fl48_5 Z ?_
      refine GO.ldBoxA (j := 1) ([I i1, I h1, .slice A_d f1.length c_d, .slice A_e d1.length c_e, .slice A_f c1.length c_f]) HS Z Z Z Z ag46 Z ?_
      refine fN Z func141 fok141.1 fok141.2 Z Z (impl_isPlain.calls HS (rD 2 r_d) (rD 2 r_e) (rD 2 r_f) h73) (fun _ wd74 ⟨h75, HS⟩ => ⟨_, h75, ?_⟩)
      refine aS Z ?_
      refine nL ?_
      obtain rfl := sI H
      exact rT _ func103 Z Z ⟨Z, (HS.pk 2 [] Z)⟩
     refine yB Z (nF c56) ?_
     refine rN 2 Z ?_
     obtain rfl := sI H
     exact rT _ func103 Z Z ⟨Z, (HS.pk 2 [] Z)⟩
    rcases iE H with ⟨c76, H⟩ | ⟨c76, H⟩
    ·
     refine rG ?_
     refine fL b1 1 fl48_1 Z ?_
     refine lB 1 HS Z na2 Z ?_
     refine GO.sub Z Z Z Z ?_
     refine GO.ixP 2 Z Z Z c76 underlying164 sz4 Z Z ?_
     refine GO.stBox (j := 0) (vs := [.bool false]) ([.bool t22, .bool t23, .bool false, .bool t25]) HS Z Z Z Z Z (htN na4 Z) Z Z Z ?_; intro wd77 HS
     refine nL ?_
     refine rN 2 Z ?_
     refine rG ?_
     refine GO.ldBoxA (j := 0) ([.bool t22, .bool t23, .bool false, .bool t25]) HS Z Z Z Z ag164 Z ?_
     refine GO.buildV (.agg [.bool false, .bool false, .bool false, .bool false].toArray) Z Z (fun _ => by kernel_rfl) Z ?_
     refine GO.neqA Z Z Z ng164 (fun _ => eq164) Z ?_
     refine nL ?_
     rcases iE H with ⟨c78, H⟩ | ⟨c78, H⟩
     ·
      refine nB Z (nT c78) ?_
      refine rN 3 Z ?_
      refine rG ?_
      refine fL b1 1 fl48_1 Z ?_
      refine lB 1 HS Z na2 Z ?_
      refine nL ?_
      refine rN 3 Z ?_
      rcases iE H with ⟨c79, H⟩ | ⟨c79, H⟩
      ·
       refine yB Z (tT c79) ?_
       refine sQ ?_
       obtain ⟨t80, h81, H⟩ := bI H
       refine rG ?_
       refine fL b1 2 fl48_2 Z ?_
       refine GO.ldBoxA (j := 1) ([.slice A_a e1.length c_a]) HS Z Z Z Z ag37 Z ?_
       refine fN Z func138 fok138.1 fok138.2 Z Z (impl_isTriangulation.calls HS (rD 2 r_a) h81) (fun _ wd82 ⟨h83, HS⟩ => ⟨_, h83, ?_⟩)
       refine aS Z ?_
       refine nL ?_
       obtain rfl := sI H
       exact rT _ func103 Z Z ⟨Z, (HS.pk 2 [] Z)⟩
      refine nB Z (tF c79) ?_
      refine rN 2 Z ?_
      rcases iE H with ⟨c84, H⟩ | ⟨c84, H⟩
      ·
       refine yB Z (tT c84) ?_
       refine sQ ?_
       obtain ⟨t85, h86, H⟩ := bI H
       refine rG ?_
       refine fL b1 3 fl48_3 Z ?_
       refine GO.ldBoxA (j := 1) ([.slice A_b a1.length c_b, I k1]) HS Z Z Z Z ag40 Z ?_
       refine fN Z func139 fok139.1 fok139.2 Z Z (impl_isDiagram.calls HS (rD 2 r_b) h86) (fun _ wd87 ⟨h88, HS⟩ => ⟨_, h88, ?_⟩)
       refine aS Z ?_
       refine nL ?_
       obtain rfl := sI H
       exact rT _ func103 Z Z ⟨Z, (HS.pk 2 [] Z)⟩
      refine nB Z (tF c84) ?_
      refine rN 2 Z ?_
      rcases iE H with ⟨c89, H⟩ | ⟨c89, H⟩
      ·
       refine yB Z (tT c89) ?_
       refine sQ ?_
       obtain ⟨t90, h91, H⟩ := bI H
       refine rG ?_
       refine fL b1 5 fl48_4 Z ?_
       refine GO.ldBoxA (j := 1) ([I m1, .slice A_c g1.length c_c]) HS Z Z Z Z ag43 Z ?_
       refine fN Z func140 fok140.1 fok140.2 Z Z (impl_isBraid.calls HS (rD 2 r_c) h91) (fun _ wd92 ⟨h93, HS⟩ => ⟨_, h93, ?_⟩)
       refine aS Z ?_
       refine nL ?_
       obtain rfl := sI H
       exact rT _ func103 Z Z ⟨Z, (HS.pk 2 [] Z)⟩
      refine nB Z (tF c89) ?_
      refine rN 3 Z ?_
      obtain ⟨t94, h95, H⟩ := bI H
      refine rG ?_
      refine fL b1 7 fl48_5 Z ?_
      refine GO.ldBoxA (j := 1) ([I i1, I h1, .slice A_d f1.length c_d, .slice A_e d1.length c_e, .slice A_f c1.length c_f]) HS Z Z Z Z ag46 Z ?_
      refine fN Z func141 fok141.1 fok141.2 Z Z (impl_isPlain.calls HS (rD 2 r_d) (rD 2 r_e) (rD 2 r_f) h95) (fun _ wd96 ⟨h97, HS⟩ => ⟨_, h97, ?_⟩)
      refine aS Z ?_
      refine nL ?_
      obtain rfl := sI H
      exact rT _ func103 Z Z ⟨Z, (HS.pk 2 [] Z)⟩
     refine yB Z (nF c78) ?_
     refine rN 2 Z ?_
     obtain rfl := sI H
     exact rT _ func103 Z Z ⟨Z, (HS.pk 2 [] Z)⟩
    rcases iE H with ⟨c98, H⟩ | ⟨c98, H⟩
    ·
     refine rG ?_
     refine fL b1 1 fl48_1 Z ?_
     refine lB 1 HS Z na2 Z ?_
     refine GO.sub Z Z Z Z ?_
     refine GO.ixP 3 Z Z Z c98 underlying164 sz4 Z Z ?_
     refine GO.stBox (j := 0) (vs := [.bool false]) ([.bool t22, .bool t23, .bool t24, .bool false]) HS Z Z Z Z Z (htN na4 Z) Z Z Z ?_; intro wd99 HS
     refine nL ?_
     refine rN 2 Z ?_
     refine rG ?_
     refine GO.ldBoxA (j := 0) ([.bool t22, .bool t23, .bool t24, .bool false]) HS Z Z Z Z ag164 Z ?_
     refine GO.buildV (.agg [.bool false, .bool false, .bool false, .bool false].toArray) Z Z (fun _ => by kernel_rfl) Z ?_
     refine GO.neqA Z Z Z ng164 (fun _ => eq164) Z ?_
     refine nL ?_
     rcases iE H with ⟨c100, H⟩ | ⟨c100, H⟩
     ·
      refine nB Z (nT c100) ?_
      refine rN 3 Z ?_
      refine rG ?_
      refine fL b1 1 fl48_1 Z ?_
      refine lB 1 HS Z na2 Z ?_
      refine nL ?_
      refine rN 3 Z ?_
      rcases iE H with ⟨c101, H⟩ | ⟨c101, H⟩
      ·
       refine yB Z (tT c101) ?_
       refine sQ ?_
       obtain ⟨t102, h103, H⟩ := bI H
       refine rG ?_
       refine fL b1 2 fl48_2 Z ?_
       refine GO.ldBoxA (j := 1) ([.slice A_a e1.length c_a]) HS Z Z Z Z ag37 Z ?_
       refine fN Z func138 fok138.1 fok138.2 Z Z (impl_isTriangulation.calls HS (rD 2 r_a) h103) (fun _ wd104 ⟨h105, HS⟩ => ⟨_, h105, ?_⟩)
       refine aS Z ?_
       refine nL ?_
       obtain rfl := sI H
       exact rT _ func103 Z Z ⟨Z, (HS.pk 2 [] Z)⟩
      refine nB Z (tF c101) ?_
      refine rN 2 Z ?_
      rcases iE H with ⟨c106, H⟩ | ⟨c106, H⟩
      ·
       refine yB Z (tT c106) ?_
       refine sQ ?_
       obtain ⟨t107, h108, H⟩ := bI H
       refine rG ?_
       refine fL b1 3 fl48_3 Z ?_
       refine GO.ldBoxA (j := 1) ([.slice A_b a1.length c_b, I k1]) HS Z Z Z Z ag40 Z ?_
       refine fN Z func139 fok139.1 fok139.2 Z Z (impl_isDiagram.calls HS (rD 2 r_b) h108) (fun _ wd109 ⟨h110, HS⟩ => ⟨_, h110, ?_⟩)
       refine aS Z ?_
       refine nL ?_
       obtain rfl := sI H
       exact rT _ func103 Z Z ⟨Z, (HS.pk 2 [] Z)⟩
      refine nB Z (tF c106) ?_
      refine rN 2 Z ?_
      rcases iE H with ⟨c111, H⟩ | ⟨c111, H⟩
      ·
       refine yB Z (tT c111) ?_
       refine sQ ?_
       obtain ⟨t112, h113, H⟩ := bI H
       refine rG ?_
       refine fL b1 5 fl48_4 Z ?_
       refine GO.ldBoxA (j := 1) ([I m1, .slice A_c g1.length c_c]) HS Z Z Z Z ag43 Z ?_
       refine fN Z func140 fok140.1 fok140.2 Z Z (impl_isBraid.calls HS (rD 2 r_c) h113) (fun _ wd114 ⟨h115, HS⟩ => ⟨_, h115, ?_⟩)
       refine aS Z ?_
       refine nL ?_
       obtain rfl := sI H
       exact rT _ func103 Z Z ⟨Z, (HS.pk 2 [] Z)⟩
      refine nB Z (tF c111) ?_
      refine rN 3 Z ?_
      obtain ⟨t116, h117, H⟩ := bI H
      refine rG ?_
      refine fL b1 7 fl48_5 Z ?_
      refine GO.ldBoxA (j := 1) ([I i1, I h1, .slice A_d f1.length c_d, .slice A_e d1.length c_e, .slice A_f c1.length c_f]) HS Z Z Z Z ag46 Z ?_
      refine fN Z func141 fok141.1 fok141.2 Z Z (impl_isPlain.calls HS (rD 2 r_d) (rD 2 r_e) (rD 2 r_f) h117) (fun _ wd118 ⟨h119, HS⟩ => ⟨_, h119, ?_⟩)
      refine aS Z ?_
      refine nL ?_
      obtain rfl := sI H
      exact rT _ func103 Z Z ⟨Z, (HS.pk 2 [] Z)⟩
     refine yB Z (nF c100) ?_
     refine rN 2 Z ?_
     obtain rfl := sI H
     exact rT _ func103 Z Z ⟨Z, (HS.pk 2 [] Z)⟩
    cases H
   refine yB Z (congrArg Bool.not (bnot_of c21)) ?_
   refine rN 2 Z ?_
   obtain rfl := sI H
   exact rT _ func103 Z Z ⟨Z, (HS.pk 1 [] Z)⟩
  refine rG ?_
  refine fL b1 0 fl48_0 Z ?_
  refine lB 0 HS Z na9 Z ?_
  refine fN Z func135 fok135.1 fok135.2 Z Z (impl_isItemName.calls HS  h13) (fun _ wd14 ⟨h15, HS⟩ => ⟨_, h15, ?_⟩)
  refine pS 2 Z ?_
  refine kN 8 Z (congrArg Bool.not (bnot_of c16)) ?_
  refine oF Z ?_
  refine oF Z ?_
  refine oF Z ?_
  refine oF Z ?_
  refine GO.pickT Z Z Z Z Z ?_
  refine nL ?_
  refine rN 3 Z ?_
  obtain rfl := sI H
  exact rT _ func103 Z Z ⟨Z, (HS.pk 1 [] Z)⟩
theorem impl_areItems.calls {items : List GItem} {A_a : Option Addr} {c_a : Nat} {y_a : Nat → T_GItem_47.Lay} {r1 : Bool} (HS : St w0 w (L)) (r_a : RdIn w0 L T_GItem_47 A_a c_a y_a items) (H : impl_areItems.f K items = some r1) :
    Calls prog 62 #[.slice A_a items.length c_a] w (impl_areItems.post w0 L r1) := by
  unfold impl_areItems.f at H
  refine cG func62 Z ?_
  refine rN 4 Z (rG (mV Z (lS Z Z underlying28 Z (mV Z (nL (rN 2 Z ?_))))))
  refine G.name (fun e1 f1 => ?_)
  have g1 : ∀ a1, a1 ≤ K → ∀ (x13 : Int) (w : World), impl_areItems.l1 K a1 items x13 = some r1 → St w0 w (L) → G prog 62 34 [(0, .slice A_a items.length c_a), (5, .slice A_a items.length c_a), (6, I (items.length : Int)), (7, I x13)] e1 w (impl_areItems.post w0 L r1) := by
   intro a1
   induction a1 using Nat.strongRecOn with
   | _ a1 b1 =>
    intro c1 x13 w H HS
    cases a1 with
    | zero => rw [impl_areItems.l1] at H; cases H
    | succ d1 =>
     rw [impl_areItems.l1] at H
     subst f1
     refine rN 3 Z ?_
     rcases iE H with ⟨c31, H⟩ | ⟨c31, H⟩
     ·
      refine yB Z (tT c31) (rN 4 Z ?_)
      obtain ⟨c32, H⟩ := iN H
      obtain ⟨e33, h34, H⟩ := bnd_elim H
      refine rG (mV Z (GO.ix Z Z Z underlying28 sz48 (r_a _ HS).2.2.1 c32.1 c32.2 Z (GO.ldRdA (T := T_GItem_47) (n := x13.toNat) HS r_a Z Z (getD_eq (ltN c32) h34) ag48 Z (GO.alloc HS Z zr48 Z Z fun b35 wd36 HS => aS Z (GO.stBox (j := 0) (vs := [.string e33.Name, I e33.Kind, .slice ((y_a x13.toNat).2.2.1.A) e33.Triangulation_Tets.length ((y_a x13.toNat).2.2.1.c), .slice ((y_a x13.toNat).2.2.2.1.A) e33.Diagram_Crossings.length ((y_a x13.toNat).2.2.2.1.c), I e33.Diagram_Circles, I e33.Braid_Strands, .slice ((y_a x13.toNat).2.2.2.2.2.2.1.A) e33.Braid_Word.length ((y_a x13.toNat).2.2.2.2.2.2.1.c), I e33.Certificate_Name, I e33.Certificate_Trait, .slice ((y_a x13.toNat).2.2.2.2.2.2.2.2.2.1.A) e33.Certificate_Moves.length ((y_a x13.toNat).2.2.2.2.2.2.2.2.2.1.c), .slice ((y_a x13.toNat).2.2.2.2.2.2.2.2.2.2.1.A) e33.Certificate_Tets.length ((y_a x13.toNat).2.2.2.2.2.2.2.2.2.2.1.c), .slice ((y_a x13.toNat).2.2.2.2.2.2.2.2.2.2.2.A) e33.Certificate_Perms.length ((y_a x13.toNat).2.2.2.2.2.2.2.2.2.2.2.c)]) ([.string e33.Name, I e33.Kind, .slice ((y_a x13.toNat).2.2.1.A) e33.Triangulation_Tets.length ((y_a x13.toNat).2.2.1.c), .slice ((y_a x13.toNat).2.2.2.1.A) e33.Diagram_Crossings.length ((y_a x13.toNat).2.2.2.1.c), I e33.Diagram_Circles, I e33.Braid_Strands, .slice ((y_a x13.toNat).2.2.2.2.2.2.1.A) e33.Braid_Word.length ((y_a x13.toNat).2.2.2.2.2.2.1.c), I e33.Certificate_Name, I e33.Certificate_Trait, .slice ((y_a x13.toNat).2.2.2.2.2.2.2.2.2.1.A) e33.Certificate_Moves.length ((y_a x13.toNat).2.2.2.2.2.2.2.2.2.1.c), .slice ((y_a x13.toNat).2.2.2.2.2.2.2.2.2.2.1.A) e33.Certificate_Tets.length ((y_a x13.toNat).2.2.2.2.2.2.2.2.2.2.1.c), .slice ((y_a x13.toNat).2.2.2.2.2.2.2.2.2.2.2.A) e33.Certificate_Perms.length ((y_a x13.toNat).2.2.2.2.2.2.2.2.2.2.2.c)]) HS Z Z Z Z Z (htA ag48) Z Z Z fun wd37 HS => nL (sQ ?_))))))
      obtain ⟨t38, h39, H⟩ := bI H
      rcases iE H with ⟨c42, H⟩ | ⟨c42, H⟩
      ·
       rcases iE H with ⟨c43, H⟩ | ⟨c43, H⟩
       ·
        obtain ⟨c44, H⟩ := iN H
        obtain ⟨e45, h46, H⟩ := bnd_elim H
        refine G.lex mixed [0, 1, 2, 3, 4, 5, 6, 7, 8, 9, 10, 11, 13, 12, 14, 15, 16, 17] (by kernel_rfl) ?_
        replace HS := HS.drew
        refine GX.l1 Z Z Z (fun _ g => GO.ldBoxA (j := 0) ([.string e33.Name, I e33.Kind, .slice ((y_a x13.toNat).2.2.1.A) e33.Triangulation_Tets.length ((y_a x13.toNat).2.2.1.c), .slice ((y_a x13.toNat).2.2.2.1.A) e33.Diagram_Crossings.length ((y_a x13.toNat).2.2.2.1.c), I e33.Diagram_Circles, I e33.Braid_Strands, .slice ((y_a x13.toNat).2.2.2.2.2.2.1.A) e33.Braid_Word.length ((y_a x13.toNat).2.2.2.2.2.2.1.c), I e33.Certificate_Name, I e33.Certificate_Trait, .slice ((y_a x13.toNat).2.2.2.2.2.2.2.2.2.1.A) e33.Certificate_Moves.length ((y_a x13.toNat).2.2.2.2.2.2.2.2.2.1.c), .slice ((y_a x13.toNat).2.2.2.2.2.2.2.2.2.2.1.A) e33.Certificate_Tets.length ((y_a x13.toNat).2.2.2.2.2.2.2.2.2.2.1.c), .slice ((y_a x13.toNat).2.2.2.2.2.2.2.2.2.2.2.A) e33.Certificate_Perms.length ((y_a x13.toNat).2.2.2.2.2.2.2.2.2.2.2.c)]) HS Z Z Z Z ag48 Z g) Z (GX.l2 Z (fN Z func103 fok103.1 fok103.2 Z Z (impl_isItem.calls HS (RdIn.fld (rD 1 r_a) (getD_eq (ltN c32) h34) (fun _ h => h.2.2.1)) (RdIn.fld (rD 1 r_a) (getD_eq (ltN c32) h34) (fun _ h => h.2.2.2.1)) (RdIn.fld (rD 1 r_a) (getD_eq (ltN c32) h34) (fun _ h => h.2.2.2.2.2.2.1)) (RdIn.fld (rD 1 r_a) (getD_eq (ltN c32) h34) (fun _ h => h.2.2.2.2.2.2.2.2.2.1)) (RdIn.fld (rD 1 r_a) (getD_eq (ltN c32) h34) (fun _ h => h.2.2.2.2.2.2.2.2.2.2.1)) (RdIn.fld (rD 1 r_a) (getD_eq (ltN c32) h34) (fun _ h => h.2.2.2.2.2.2.2.2.2.2.2)) h39) (fun _ wd40 ⟨h41, HS⟩ => ⟨_, h41, (GX.fin tv (GX.ps 1 Z (qL Z Z (fun _ _ g => mV Z (kN 15 Z (congrArg Bool.not c42) g)) Z (qL Z Z (fun _ _ g => oN Z (mV Z (bK g))) Z (qL Z Z (fun _ _ g => oN Z (GO.gtr Z Z Z Z (bK g))) Z (qL Z Z (fun _ _ g => oN Z (mV Z (bK (kN 18 Z (tT c43) g)))) Z (qL Z Z (fun _ _ g => oN Z (mV Z (bK g))) Z (qL Z Z (fun _ _ g => oN Z (mV Z (bK g))) Z (qL Z Z (fun _ _ g => oN Z (GO.sub Z Z Z Z (bK g))) Z (qL Z Z (fun _ _ g => oN Z (GO.ix Z Z Z underlying28 sz48 ((rD 1 r_a) _ HS).2.2.1 c44.1 c44.2 Z (bK g))) Z (qL Z Z (fun _ _ g => oN Z (GO.fld (ea A_a (((w64 (x13 - 1)).toNat) * 12)) Z Z fl48_0 Z Z (bK g))) Z (qL Z Z (fun _ _ g => oN Z (fL b35 0 fl48_0 Z (bK g))) Z ?_))))))))))))⟩)))
        refine GX.l1 Z Z Z (fun _ g => oN Z (GO.ldRd (T := T_GItem_47) (n := (w64 (x13 - 1)).toNat) (o := 0) HS (rD 1 r_a) Z Z (getD_eq (ltN c44) h46) Z Z na9 Z (bK g))) Z (GX.l1 Z Z Z (fun _ g => oN Z (lB 0 HS Z na9 Z (bK g))) Z (qL Z Z (fun _ _ g => oN Z (GO.geqS Z Z Z Z (bK g))) Z (qL Z Z (fun _ _ g => oN Z (GO.pickT Z Z Z Z Z (bK g))) Z (GX.ps 1 Z (GX.nil ?_)))))
        rcases iE H with ⟨c47, H⟩ | ⟨c47, H⟩
        ·
         refine nB Z (congrArg Bool.not c47) (rN 4 Z (G.weak ?_ (b1 d1 (Nat.lt_succ_of_le (lR _)) (Nat.le_of_succ_le c1) _ _ H (HS.pk 1 [] Z))))
         exact ⟨Z, Z, Z, Z, tv⟩
        refine yB Z (congrArg Bool.not (bnot_of c47)) (rN 2 Z ?_)
        obtain rfl := sI H
        exact rT _ func62 Z Z ⟨Z, (HS.pk 1 [] Z)⟩
       refine G.lex mixed [0, 1, 2, 3, 4, 5, 6, 7, 8, 9, 10, 11, 13, 12, 14, 15, 16, 17] (by kernel_rfl) ?_
       replace HS := HS.drew
       refine GX.l1 Z Z Z (fun _ g => GO.ldBoxA (j := 0) ([.string e33.Name, I e33.Kind, .slice ((y_a x13.toNat).2.2.1.A) e33.Triangulation_Tets.length ((y_a x13.toNat).2.2.1.c), .slice ((y_a x13.toNat).2.2.2.1.A) e33.Diagram_Crossings.length ((y_a x13.toNat).2.2.2.1.c), I e33.Diagram_Circles, I e33.Braid_Strands, .slice ((y_a x13.toNat).2.2.2.2.2.2.1.A) e33.Braid_Word.length ((y_a x13.toNat).2.2.2.2.2.2.1.c), I e33.Certificate_Name, I e33.Certificate_Trait, .slice ((y_a x13.toNat).2.2.2.2.2.2.2.2.2.1.A) e33.Certificate_Moves.length ((y_a x13.toNat).2.2.2.2.2.2.2.2.2.1.c), .slice ((y_a x13.toNat).2.2.2.2.2.2.2.2.2.2.1.A) e33.Certificate_Tets.length ((y_a x13.toNat).2.2.2.2.2.2.2.2.2.2.1.c), .slice ((y_a x13.toNat).2.2.2.2.2.2.2.2.2.2.2.A) e33.Certificate_Perms.length ((y_a x13.toNat).2.2.2.2.2.2.2.2.2.2.2.c)]) HS Z Z Z Z ag48 Z g) Z (GX.l2 Z (fN Z func103 fok103.1 fok103.2 Z Z (impl_isItem.calls HS (RdIn.fld (rD 1 r_a) (getD_eq (ltN c32) h34) (fun _ h => h.2.2.1)) (RdIn.fld (rD 1 r_a) (getD_eq (ltN c32) h34) (fun _ h => h.2.2.2.1)) (RdIn.fld (rD 1 r_a) (getD_eq (ltN c32) h34) (fun _ h => h.2.2.2.2.2.2.1)) (RdIn.fld (rD 1 r_a) (getD_eq (ltN c32) h34) (fun _ h => h.2.2.2.2.2.2.2.2.2.1)) (RdIn.fld (rD 1 r_a) (getD_eq (ltN c32) h34) (fun _ h => h.2.2.2.2.2.2.2.2.2.2.1)) (RdIn.fld (rD 1 r_a) (getD_eq (ltN c32) h34) (fun _ h => h.2.2.2.2.2.2.2.2.2.2.2)) h39) (fun _ wd40 ⟨h41, HS⟩ => ⟨_, h41, (GX.fin tv (GX.ps 1 Z (qL Z Z (fun _ _ g => mV Z (kN 15 Z (congrArg Bool.not c42) g)) Z (qL Z Z (fun _ _ g => oN Z (mV Z (bK g))) Z (qL Z Z (fun _ _ g => oN Z (GO.gtr Z Z Z Z (bK g))) Z (qL Z Z (fun _ _ g => oN Z (mV Z (bK (kN 18 Z (tF c43) g)))) Z (qL Z Z (fun _ _ g => oF Z g) Z (qL Z Z (fun _ _ g => oF Z g) Z (qL Z Z (fun _ _ g => oF Z g) Z (qL Z Z (fun _ _ g => oF Z g) Z (qL Z Z (fun _ _ g => oF Z g) Z (qL Z Z (fun _ _ g => oF Z g) Z ?_))))))))))))⟩)))
       refine GX.l1 Z Z Z (fun _ g => oF Z g) Z (GX.l1 Z Z Z (fun _ g => oF Z g) Z (qL Z Z (fun _ _ g => oF Z g) Z (qL Z Z (fun _ _ g => oN Z (GO.pickF Z Z Z Z Z (bK g))) Z (GX.ps 1 Z (GX.nil (rN 5 Z (G.weak ?_ (b1 d1 (Nat.lt_succ_of_le (lR _)) (Nat.le_of_succ_le c1) _ _ H (HS.pk 1 [] Z)))))))))
       exact ⟨Z, Z, Z, Z, tv⟩
      refine G.lex mixed [0, 1, 2, 3, 4, 5, 6, 7, 8, 9, 10, 11, 13, 12, 14, 15, 16, 17] (by kernel_rfl) ?_
      replace HS := HS.drew
      refine GX.l1 Z Z Z (fun _ g => GO.ldBoxA (j := 0) ([.string e33.Name, I e33.Kind, .slice ((y_a x13.toNat).2.2.1.A) e33.Triangulation_Tets.length ((y_a x13.toNat).2.2.1.c), .slice ((y_a x13.toNat).2.2.2.1.A) e33.Diagram_Crossings.length ((y_a x13.toNat).2.2.2.1.c), I e33.Diagram_Circles, I e33.Braid_Strands, .slice ((y_a x13.toNat).2.2.2.2.2.2.1.A) e33.Braid_Word.length ((y_a x13.toNat).2.2.2.2.2.2.1.c), I e33.Certificate_Name, I e33.Certificate_Trait, .slice ((y_a x13.toNat).2.2.2.2.2.2.2.2.2.1.A) e33.Certificate_Moves.length ((y_a x13.toNat).2.2.2.2.2.2.2.2.2.1.c), .slice ((y_a x13.toNat).2.2.2.2.2.2.2.2.2.2.1.A) e33.Certificate_Tets.length ((y_a x13.toNat).2.2.2.2.2.2.2.2.2.2.1.c), .slice ((y_a x13.toNat).2.2.2.2.2.2.2.2.2.2.2.A) e33.Certificate_Perms.length ((y_a x13.toNat).2.2.2.2.2.2.2.2.2.2.2.c)]) HS Z Z Z Z ag48 Z g) Z (GX.l2 Z (fN Z func103 fok103.1 fok103.2 Z Z (impl_isItem.calls HS (RdIn.fld (rD 1 r_a) (getD_eq (ltN c32) h34) (fun _ h => h.2.2.1)) (RdIn.fld (rD 1 r_a) (getD_eq (ltN c32) h34) (fun _ h => h.2.2.2.1)) (RdIn.fld (rD 1 r_a) (getD_eq (ltN c32) h34) (fun _ h => h.2.2.2.2.2.2.1)) (RdIn.fld (rD 1 r_a) (getD_eq (ltN c32) h34) (fun _ h => h.2.2.2.2.2.2.2.2.2.1)) (RdIn.fld (rD 1 r_a) (getD_eq (ltN c32) h34) (fun _ h => h.2.2.2.2.2.2.2.2.2.2.1)) (RdIn.fld (rD 1 r_a) (getD_eq (ltN c32) h34) (fun _ h => h.2.2.2.2.2.2.2.2.2.2.2)) h39) (fun _ wd40 ⟨h41, HS⟩ => ⟨_, h41, (GX.fin tv (GX.ps 1 Z (qL Z Z (fun _ _ g => mV Z (kN 15 Z (congrArg Bool.not (bnot_of c42)) g)) Z (qL Z Z (fun _ _ g => oF Z g) Z (qL Z Z (fun _ _ g => oF Z g) Z (qL Z Z (fun _ _ g => oF Z g) Z (qL Z Z (fun _ _ g => GO.offU Z Z Z Z Z Z g) Z (qL Z Z (fun _ _ g => GO.offU Z Z Z Z Z Z g) Z (qL Z Z (fun _ _ g => GO.offU Z Z Z Z Z Z g) Z (qL Z Z (fun _ _ g => GO.offU Z Z Z Z Z Z g) Z (qL Z Z (fun _ _ g => GO.offU Z Z Z Z Z Z g) Z (qL Z Z (fun _ _ g => GO.offU Z Z Z Z Z Z g) Z ?_))))))))))))⟩)))
      refine GX.l1 Z Z Z (fun _ g => GO.offU Z Z Z Z Z Z g) Z (GX.l1 Z Z Z (fun _ g => GO.offU Z Z Z Z Z Z g) Z (qL Z Z (fun _ _ g => GO.offU Z Z Z Z Z Z g) Z (qL Z Z (fun _ _ g => oF Z g) Z (GX.ps 1 Z (GX.nil (rN 3 Z ?_))))))
      obtain rfl := sI H
      exact rT _ func62 Z Z ⟨Z, (HS.pk 1 [] Z)⟩
     refine nB Z (tF c31) (rN 2 Z (rG (mV Z (lS Z Z underlying28 Z (pS 2 Z (nL ?_))))))
     obtain rfl := sI H
     exact rT _ func62 Z Z ⟨Z, HS⟩
  refine G.weak ?_ (g1 K (lR _) _ _ H HS)
  exact ⟨Z, Z, Z, Z, tv⟩
theorem impl_isBench_fn1.calls {items : List GItem} {A_a : Option Addr} {c_a : Nat} {y_a : Nat → T_GItem_47.Lay} {r1 : Bool} (HS : St w0 w (L)) (r_a : RdIn w0 L T_GItem_47 A_a c_a y_a items) (H : impl_isBench_fn1.f K items = some r1) :
    Calls prog 61 #[.slice A_a items.length c_a] w (impl_isBench_fn1.post w0 L r1) := by
  unfold impl_isBench_fn1.f at H
  refine cG func61 Z ?_
  refine rN 3 Z ?_
  obtain ⟨t1, h2, H⟩ := bI H
  refine rG (mV Z (fN Z func62 fok62.1 fok62.2 Z Z (impl_areItems.calls HS r_a h2) (fun _ wd3 ⟨h4, HS⟩ => ⟨_, h4, (pS 2 Z (nL ?_))⟩)))
  obtain rfl := sI H
  exact rT _ func61 Z Z ⟨Z, HS⟩
theorem slices_IndexFunc_impl_Item_impl_Item_isBench_fn1.calls {s : List (List GItem)} {A_a : Option Addr} {c_a : Nat} {y_a : Nat → (Ty.slice 48 T_GItem_47).Lay} {r1 : Int} (HS : St w0 w (L)) (r_a : RdIn w0 L (Ty.slice 48 T_GItem_47) A_a c_a y_a s) (H : slices_IndexFunc_impl_Item_impl_Item_isBench_fn1.f K s = some r1) :
    Calls prog 102 #[.slice A_a s.length c_a, .func (.func 61) #[] #[]] w (slices_IndexFunc_impl_Item_impl_Item_isBench_fn1.post w0 L r1) := by
  unfold slices_IndexFunc_impl_Item_impl_Item_isBench_fn1.f at H
  refine cG func102 Z ?_
  refine rN 4 Z (rG (mV Z (lS Z Z underlying29 Z (mV Z (nL (rN 2 Z ?_))))))
  refine G.name (fun c1 d1 => ?_)
  have e1 : ∀ a1, a1 ≤ K → ∀ (x8 : Int) (w : World), slices_IndexFunc_impl_Item_impl_Item_isBench_fn1.l1 K a1 s x8 = some r1 → St w0 w (L) → G prog 102 19 [(0, .slice A_a s.length c_a), (1, .func (.func 61) #[] #[]), (7, I (s.length : Int)), (8, I x8)] c1 w (slices_IndexFunc_impl_Item_impl_Item_isBench_fn1.post w0 L r1) := by
   intro a1
   induction a1 using Nat.strongRecOn with
   | _ a1 b1 =>
    intro f1 x8 w H HS
    cases a1 with
    | zero => rw [slices_IndexFunc_impl_Item_impl_Item_isBench_fn1.l1] at H; cases H
    | succ g1 =>
     rw [slices_IndexFunc_impl_Item_impl_Item_isBench_fn1.l1] at H
     subst d1
     refine rN 3 Z ?_
     rcases iE H with ⟨c16, H⟩ | ⟨c16, H⟩
     ·
      refine yB Z (tT c16) (rN 6 Z ?_)
      obtain ⟨c17, H⟩ := iN H
      obtain ⟨t18, h19, H⟩ := bI H
      refine rG (pS 3 Z (GO.ix Z Z Z underlying29 sz28 (r_a _ HS).2.2.1 c17.1 c17.2 Z (GO.ldRd (T := (Ty.slice 48 T_GItem_47)) (n := x8.toNat) (o := 0) HS r_a Z Z (getD_some (d := []) (ltN c17)) Z Z na28 Z (GO.clo Z Z func61 fok61.1 fok61.2 Z Z (impl_isBench_fn1.calls HS (RdIn.elem r_a c17.1 c17.2) h19) (fun _ wd20 ⟨h21, HS⟩ => ⟨_, h21, (nL ?_)⟩)))))
      rcases iE H with ⟨c22, H⟩ | ⟨c22, H⟩
      ·
       refine yB Z c22 (rN 2 Z ?_)
       obtain rfl := sI H
       exact rT _ func102 Z Z ⟨Z, HS⟩
      refine nB Z (bnot_of c22) (rN 4 Z (G.weak ?_ (b1 g1 (Nat.lt_succ_of_le (lR _)) (Nat.le_of_succ_le f1) _ _ H HS)))
      exact ⟨Z, Z, Z, Z, tv⟩
     refine nB Z (tF c16) (rN 3 Z ?_)
     obtain rfl := sI H
     exact rT _ func102 Z Z ⟨Z, HS⟩
  refine G.weak ?_ (e1 K (lR _) _ _ H HS)
  exact ⟨Z, Z, Z, Z, tv⟩
theorem slices_ContainsFunc_impl_Item_impl_Item_isBench_fn1.calls {s : List (List GItem)} {A_a : Option Addr} {c_a : Nat} {y_a : Nat → (Ty.slice 48 T_GItem_47).Lay} {r1 : Bool} (HS : St w0 w (L)) (r_a : RdIn w0 L (Ty.slice 48 T_GItem_47) A_a c_a y_a s) (H : slices_ContainsFunc_impl_Item_impl_Item_isBench_fn1.f K s = some r1) :
    Calls prog 60 #[.slice A_a s.length c_a, .func (.func 61) #[] #[]] w (slices_ContainsFunc_impl_Item_impl_Item_isBench_fn1.post w0 L r1) := by
  unfold slices_ContainsFunc_impl_Item_impl_Item_isBench_fn1.f at H
  refine cG func60 Z ?_
  refine rN 3 Z ?_
  obtain ⟨t1, h2, H⟩ := bI H
  refine rG (pS 2 Z (fN Z func102 fok102.1 fok102.2 Z Z (slices_IndexFunc_impl_Item_impl_Item_isBench_fn1.calls HS r_a h2) (fun _ wd3 ⟨h4, HS⟩ => ⟨_, h4, (pS 2 Z (nL ?_))⟩)))
  obtain rfl := sI H
  exact rT _ func60 Z Z ⟨Z, HS⟩
theorem impl_isBench.calls {a1 : List GItem} {c1 d1 : List (List GItem)} {A_a : Option Addr} {c_a : Nat} {y_a : Nat → T_GItem_47.Lay} {A_b : Option Addr} {c_b : Nat} {y_b : Nat → (Ty.slice 48 T_GItem_47).Lay} {A_c : Option Addr} {c_c : Nat} {y_c : Nat → (Ty.slice 48 T_GItem_47).Lay} {r1 : Bool} (HS : St w0 w (L)) (r_a : RdIn w0 L T_GItem_47 A_a c_a y_a a1) (r_b : RdIn w0 L (Ty.slice 48 T_GItem_47) A_b c_b y_b c1) (r_c : RdIn w0 L (Ty.slice 48 T_GItem_47) A_c c_c y_c d1) (H : impl_isBench.f K a1 c1 d1 = some r1) :
    Calls prog 29 #[.agg [.slice A_a a1.length c_a, .slice A_b c1.length c_b, .slice A_c d1.length c_c].toArray] w (impl_isBench.post w0 L r1) := by
  unfold impl_isBench.f at H
  refine cG func29 Z ?_
  refine sQ (rG (GO.box (cs := [.slice A_a a1.length c_a, .slice A_b c1.length c_b, .slice A_c d1.length c_c]) HS Z Z Z Z fun b1 wd2 HS => aS Z (nL (rN 2 Z (rG (fL b1 0 fl31_0 Z (lB 0 HS Z na28 Z (GO.buildS (el := 28) ([.slice A_a a1.length c_a]) HS Z Z (fun _ => by kernel_rfl) Z fun b3 wd4 HS => fL b1 1 fl31_1 Z (lB 1 HS Z na29 Z (fL b1 2 fl31_2 Z (lB 1 HS Z na29 Z (GO.lenC (t := 7) (m := ([a1] : List (List GItem)).length) (c' := 1) Z Z Z ?_))))))))))))
  refine GO.buildS (el := 29) ([.slice (some ⟨b3, 0, none⟩) ([a1] : List (List GItem)).length 1, .slice A_b c1.length c_b, .slice A_c d1.length c_c]) HS Z Z (fun _ => by kernel_rfl) Z fun b5 wd6 HS => lS Z Z underlying98 Z (mV Z (nL (rN 2 Z (G.lenC (t := 12) (m := ([([a1] : List (List GItem)), c1, d1] : List (List (List GItem))).length) (c' := 3) Z Z Z ?_))))
  refine G.name (fun g1 h1 => ?_)
  have i1 : ∀ e1, e1 ≤ K → ∀ (x14 : Int) (w : World), impl_isBench.l1 K e1 a1 c1 d1 x14 = some r1 → St w0 w (Box b5 29 [.slice (some ⟨b3, 0, none⟩) ([a1] : List (List GItem)).length 1, .slice A_b c1.length c_b, .slice A_c d1.length c_c] :: Box b3 28 [.slice A_a a1.length c_a] :: L) → G prog 29 26 [(12, .slice (some ⟨b5, 0, none⟩) ([([a1] : List (List GItem)), c1, d1] : List (List (List GItem))).length 3), (13, I 3), (14, I x14)] g1 w (impl_isBench.post w0 L r1) := by
   intro e1
   induction e1 using Nat.strongRecOn with
   | _ e1 f1 =>
    intro k1 x14 w H HS
    cases e1 with
    | zero => rw [impl_isBench.l1] at H; cases H
    | succ m1 =>
     rw [impl_isBench.l1] at H
     subst h1
     refine rN 3 Z ?_
     rcases iE H with ⟨c23, H⟩ | ⟨c23, H⟩
     ·
      refine yB Z (tT c23) (rN 4 Z ?_)
      obtain ⟨c24, H⟩ := iN H
      refine rG (GO.ix Z Z Z underlying98 sz29 (fun _ => ⟨_, _, Z⟩) c24.1 c24.2 Z (GO.ldRd (T := (Ty.slice 28 (Ty.slice 48 T_GItem_47))) (n := x14.toNat) (o := 0) HS (RdIn.box (T := (Ty.slice 28 (Ty.slice 48 T_GItem_47))) (j := 0) (fun k => match k with | 0 => ⟨(some ⟨b3, 0, none⟩), 1, (fun _ => ⟨A_a, c_a, y_a⟩)⟩ | 1 => ⟨A_b, c_b, y_b⟩ | _ => ⟨A_c, c_c, y_c⟩) ([([a1] : List (List GItem)), c1, d1] : List (List (List GItem))) Z Z Z Z (kCons (fun w hs => (RdIn.box (T := (Ty.slice 48 T_GItem_47)) (j := 1) (fun _ => ⟨A_a, c_a, y_a⟩) ([a1] : List (List GItem)) Z Z Z Z (kCons (fun w hs => (rD 2 r_a) w hs) kNil)) w hs) (kCons (fun w hs => (rD 2 r_b) w hs) (kCons (fun w hs => (rD 2 r_c) w hs) kNil)))) Z Z (getD_some (d := []) (ltN c24)) Z Z na29 Z (aS Z (nL (sQ ?_)))))
      rcases iE H with ⟨c25, H⟩ | ⟨c25, H⟩
      ·
       refine rG (mV Z (lS Z Z underlying29 Z (pS 2 Z (kN 21 Z (tT c25) (oF Z (oF Z (GO.pickT Z Z Z Z Z (nL (rN 3 Z ?_)))))))))
       obtain rfl := sI H
       exact rT _ func29 Z Z ⟨Z, (HS.pk 2 [] Z)⟩
      obtain ⟨t26, h27, H⟩ := bI H
      refine rG (mV Z (lS Z Z underlying29 Z (pS 2 Z (kN 21 Z (tF c25) (oN Z (mV Z (bK (oN Z (fN Z func60 fok60.1 fok60.2 Z Z (slices_ContainsFunc_impl_Item_impl_Item_isBench_fn1.calls HS (RdIn.elem (RdIn.box (T := (Ty.slice 28 (Ty.slice 48 T_GItem_47))) (j := 0) (fun k => match k with | 0 => ⟨(some ⟨b3, 0, none⟩), 1, (fun _ => ⟨A_a, c_a, y_a⟩)⟩ | 1 => ⟨A_b, c_b, y_b⟩ | _ => ⟨A_c, c_c, y_c⟩) ([([a1] : List (List GItem)), c1, d1] : List (List (List GItem))) Z Z Z Z (kCons (fun w hs => (RdIn.box (T := (Ty.slice 48 T_GItem_47)) (j := 1) (fun _ => ⟨A_a, c_a, y_a⟩) ([a1] : List (List GItem)) Z Z Z Z (kCons (fun w hs => (rD 2 r_a) w hs) kNil)) w hs) (kCons (fun w hs => (rD 2 r_b) w hs) (kCons (fun w hs => (rD 2 r_c) w hs) kNil)))) c24.1 c24.2) h27) (fun _ wd28 ⟨h29, HS⟩ => ⟨_, h29, (bK (GO.pickF Z Z Z Z Z (nL ?_)))⟩))))))))))
      rcases iE H with ⟨c30, H⟩ | ⟨c30, H⟩
      ·
       refine yB Z c30 (rN 2 Z ?_)
       obtain rfl := sI H
       exact rT _ func29 Z Z ⟨Z, (HS.pk 2 [] Z)⟩
      refine nB Z (bnot_of c30) (rN 4 Z (G.weak ?_ (f1 m1 (Nat.lt_succ_of_le (lR _)) (Nat.le_of_succ_le k1) _ _ H HS)))
      exact ⟨Z, Z, Z, tv⟩
     refine nB Z (tF c23) (rN 3 Z ?_)
     obtain rfl := sI H
     exact rT _ func29 Z Z ⟨Z, (HS.pk 2 [] Z)⟩
  refine G.weak ?_ (i1 K (lR _) _ _ H (HS.pk 3 [0, 1] Z))
  exact ⟨Z, Z, Z, tv⟩
theorem slices_Clone_impl_Face_impl_Face.calls {s : List GFace} {A_a : Option Addr} {c_a : Nat} {r1 : List GFace} (HS : St w0 w (L)) (r_a : RdIn w0 L T_GFace A_a c_a (fun _ => ()) s) (H : slices_Clone_impl_Face_impl_Face.f s = some r1) :
    Calls prog 105 #[.slice A_a s.length c_a] w (slices_Clone_impl_Face_impl_Face.post w0 L r1) := by
  unfold slices_Clone_impl_Face_impl_Face.f at H
  refine cG func105 Z ?_
  refine rN 4 Z (rG (mV Z (GO.eqNil Z Z Z underlying136 Z (nL ?_))))
  rcases Decidable.em (A_a.isNone = true) with c1 | c1
  ·
   obtain rfl := nil_of_none r_a HS c1
   refine yB Z c1 (rN 2 Z ?_)
   replace HS := HS.nilRow T_GFace 140 (fun _ => ())
   replace H : some ([] : List GFace) = some r1 := H
   obtain rfl := sI H
   exact rT _ func105 Z Z ⟨_, _, Z, HS⟩
  refine nB Z (bnot_of c1) (rN 2 Z ?_)
  obtain ⟨c7, H⟩ := iN H
  refine rG (GO.buildS (el := 140) ([]) HS Z Z (fun _ => by kernel_rfl) Z fun b2 wd3 HS => mV Z ?_)
  replace HS := HS.boxRow (T := T_GFace) (j := 0) Z flat_flat (fun _ => ()) ([] : List GFace) Z (bndL Z)
  refine GO.lenC (t := 5) (m := ([] : List GFace).length) (c' := ([] : List GFace).length) Z Z Z (GO.appS (T := T_GFace) (j := 0) HS Z (rD 1 r_a) flat_flat Z Z Z underlying136 inf140 Z Z Z c7 Z (fun _ => Z) fun A5 c6 wd4 HS => aS Z (nL ?_))
  obtain rfl := sI H
  exact rT _ func105 Z Z ⟨_, _, Z, HS⟩
theorem impl_copyTriangulation.calls {c1 : List (List GFace)} {A_a : Option Addr} {c_a : Nat} {y_a : Nat → (Ty.slice 140 T_GFace).Lay} {r1 : List (List GFace)} (HS : St w0 w (L)) (r_a : RdIn w0 L (Ty.slice 140 T_GFace) A_a c_a y_a c1) (H : impl_copyTriangulation.f K c1 = some r1) :
    Calls prog 68 #[.agg [.slice A_a c1.length c_a].toArray] w (impl_copyTriangulation.post w0 L r1) := by
  unfold impl_copyTriangulation.f at H
  refine cG func68 Z ?_
  refine sQ (rG (GO.box (cs := [.slice A_a c1.length c_a]) HS Z Z Z Z fun b1 wd2 HS => GO.alloc HS Z zr37 Z Z fun b3 wd4 HS => nL (sQ (rG (GO.alloc HS Z zr37 Z Z fun b5 wd6 HS => nL (rN 2 Z (rG (fL b1 0 fl37_0 Z (lB 2 HS Z na35 Z (lS Z Z underlying35 Z (mV Z ?_)))))))))))
  refine nL (rN 2 Z ?_)
  refine G.name (fun f1 g1 => ?_)
  have h1 : ∀ d1, d1 ≤ K → ∀ (A24 : Option Addr) (c25 : Nat) (a1 : List (List GFace)) (y27 : Nat → (Ty.slice 140 T_GFace).Lay) (x28 : Int) (w : World), impl_copyTriangulation.l1 K d1 c1 a1 x28 = some r1 → St w0 w (Box b3 37 [.slice none 0 0] :: Box b5 37 [.slice A24 a1.length c25] :: Own (Ty.slice 140 T_GFace) 136 A24 c25 y27 a1 :: L) → G prog 68 22 [(2, .pointer (some ⟨b3, 0, none⟩)), (3, .pointer (some ⟨b5, 0, none⟩)), (7, .slice A_a c1.length c_a), (8, I (c1.length : Int)), (9, I x28)] f1 w (impl_copyTriangulation.post w0 L r1) := by
   intro d1
   induction d1 using Nat.strongRecOn with
   | _ d1 e1 =>
    intro i1 A24 c25 a1 y27 x28 w H HS
    cases d1 with
    | zero => rw [impl_copyTriangulation.l1] at H; cases H
    | succ k1 =>
     rw [impl_copyTriangulation.l1] at H
     subst g1
     refine rN 3 Z ?_
     rcases iE H with ⟨c46, H⟩ | ⟨c46, H⟩
     ·
      refine yB Z (tT c46) (rN 4 Z ?_)
      obtain ⟨c47, H⟩ := iN H
      refine rG (GO.ix Z Z Z underlying35 sz136 ((rD 3 r_a) _ HS).2.2.1 c47.1 c47.2 Z (GO.ldRd (T := (Ty.slice 140 T_GFace)) (n := x28.toNat) (o := 0) HS (rD 3 r_a) Z Z (getD_some (d := []) (ltN c47)) Z Z na136 Z (aS Z (nL ?_))))
      obtain ⟨t48, h49, H⟩ := bI H
      obtain ⟨c59, H⟩ := iN H
      refine G.lexS mixed (fun w => St w0 w (Box b5 37 [.slice A24 a1.length c25] :: L)) [1] [0, 2, 1, 3, 4, 5, 6, 7] [7] (by kernel_rfl) (by kernel_rfl) (HS.drew.pk 3 [1] Z) ?_
      replace HS := HS.drew
      refine qL Z Z (fun _ _ g => fL b5 0 fl37_0 Z g) Z (GX.ps 1 Z (GX.ls Z Z Z (HS.pk 3 [1] Z) (fun _ HS _ g => lB 0 HS Z na35 Z g) Z (GX.l2 Z (fN Z func105 fok105.1 fok105.2 Z Z (slices_Clone_impl_Face_impl_Face.calls HS (RdIn.elem (rD 3 r_a) c47.1 c47.2) h49) (fun _ wd52 ⟨A50, c51, h53, HS⟩ => ⟨_, h53, (GX.fin (HS.pk 4 [2] Z) (GX.l2 Z (GO.buildS (el := 136) ([.slice A50 t48.length c51]) HS Z Z (fun _ => by kernel_rfl) Z fun b54 wd55 HS => GX.fin (HS.pk 5 [3] Z) (GX.l2 Z ?_))))⟩)))))
      replace HS := HS.pk 5 [4, 0, 1, 2, 3] Z
      refine GO.appR (S := T_GFace) (u := 140) HS Z Z Z underlying35 inf136 Z Z c59 Z fun A57 c58 y60 wd56 HS => GX.fin (HS.pk 4 [3] Z) (qL Z Z (fun _ _ g => fL b5 0 fl37_0 Z g) Z (GX.l2 Z (GO.stBox (j := 3) (vs := [.slice A57 (a1 ++ [t48]).length c58]) ([.slice A57 (a1 ++ [t48]).length c58]) HS Z Z Z Z Z (htN na35 Z) Z Z Z fun wd61 HS => GX.finZ Z (GX.nil (rN 3 Z (G.weak ?_ (e1 k1 (Nat.lt_succ_of_le (lR _)) (Nat.le_of_succ_le i1) _ _ _ _ _ _ H (HS.pk 4 [2, 3, 0] Z))))))))
      exact ⟨Z, Z, Z, Z, Z, tv⟩
     refine nB Z (tF c46) (rN 2 Z (rG (GO.ldBoxA (j := 1) ([.slice A24 a1.length c25]) HS Z Z Z Z ag37 Z (GO.stBox (j := 0) (vs := [.slice A24 a1.length c25]) ([.slice A24 a1.length c25]) HS Z Z Z Z Z (htA ag37) Z Z Z fun wd62 HS => nL ?_))))
     obtain rfl := sI H
     exact rT _ func68 Z (Res1.boxA (j := 0) (vs := [.slice A24 a1.length c25]) HS Z Z Z ag37) ⟨_, _, _, Z, (HS.pk 3 [2] Z)⟩
  replace HS := HS.nilRow (Ty.slice 140 T_GFace) 136 (fun _ => ⟨none, 0, (fun _ => ())⟩)
  refine G.weak ?_ (h1 K (lR _) _ _ _ _ _ _ H (HS.pk 4 [2, 1, 0] Z))
  exact ⟨Z, Z, Z, Z, Z, tv⟩
theorem slices_Clone_impl_Crossing_impl_Crossing.calls {s : List GCrossing} {A_a : Option Addr} {c_a : Nat} {r1 : List GCrossing} (HS : St w0 w (L)) (r_a : RdIn w0 L T_GCrossing A_a c_a (fun _ => ()) s) (H : slices_Clone_impl_Crossing_impl_Crossing.f s = some r1) :
    Calls prog 106 #[.slice A_a s.length c_a] w (slices_Clone_impl_Crossing_impl_Crossing.post w0 L r1) := by
  unfold slices_Clone_impl_Crossing_impl_Crossing.f at H
  refine cG func106 Z ?_
  refine rN 4 Z (rG (mV Z (GO.eqNil Z Z Z underlying38 Z (nL ?_))))
  rcases Decidable.em (A_a.isNone = true) with c1 | c1
  ·
   obtain rfl := nil_of_none r_a HS c1
   refine yB Z c1 (rN 2 Z ?_)
   replace HS := HS.nilRow T_GCrossing 143 (fun _ => ())
   replace H : some ([] : List GCrossing) = some r1 := H
   obtain rfl := sI H
   exact rT _ func106 Z Z ⟨_, _, Z, HS⟩
  refine nB Z (bnot_of c1) (rN 2 Z ?_)
  obtain ⟨c7, H⟩ := iN H
  refine rG (GO.buildS (el := 143) ([]) HS Z Z (fun _ => by kernel_rfl) Z fun b2 wd3 HS => mV Z ?_)
  replace HS := HS.boxRow (T := T_GCrossing) (j := 0) Z flat_flat (fun _ => ()) ([] : List GCrossing) Z (bndL Z)
  refine GO.lenC (t := 5) (m := ([] : List GCrossing).length) (c' := ([] : List GCrossing).length) Z Z Z (GO.appS (T := T_GCrossing) (j := 0) HS Z (rD 1 r_a) flat_flat Z Z Z underlying38 inf143 Z Z Z c7 Z (fun _ => Z) fun A5 c6 wd4 HS => aS Z (nL ?_))
  obtain rfl := sI H
  exact rT _ func106 Z Z ⟨_, _, Z, HS⟩
theorem impl_copyDiagram.calls {c1 : List GCrossing} {a1 : Int} {A_a : Option Addr} {c_a : Nat} {r1 : List GCrossing} {r2 : Int} (HS : St w0 w (L)) (r_a : RdIn w0 L T_GCrossing A_a c_a (fun _ => ()) c1) (H : impl_copyDiagram.f c1 a1 = some (r1, r2)) :
    Calls prog 69 #[.agg [.slice A_a c1.length c_a, I a1].toArray] w (impl_copyDiagram.post w0 L r1 r2) := by
  unfold impl_copyDiagram.f at H
  refine cG func69 Z ?_
  refine sQ (rG (GO.box (cs := [.slice A_a c1.length c_a, I a1]) HS Z Z Z Z fun b1 wd2 HS => GO.alloc HS Z zr40 Z Z fun b3 wd4 HS => nL (sQ ?_)))
  obtain ⟨t5, h6, H⟩ := bI H
  refine rG (fL b1 0 fl40_0 Z (lB 1 HS Z na38 Z (fN Z func106 fok106.1 fok106.2 Z Z (slices_Clone_impl_Crossing_impl_Crossing.calls HS (rD 2 r_a) h6) (fun _ wd9 ⟨A7, c8, h10, HS⟩ => ⟨_, h10, (fL b1 0 fl40_0 Z (GO.stBox (j := 2) (vs := [.slice A7 t5.length c8]) ([.slice A7 t5.length c8, I a1]) HS Z Z Z Z Z (htN na38 Z) Z Z Z fun wd11 HS => nL (sQ (rG (GO.ldBoxA (j := 2) ([.slice A7 t5.length c8, I a1]) HS Z Z Z Z ag40 Z (GO.stBox (j := 1) (vs := [.slice A7 t5.length c8, I a1]) ([.slice A7 t5.length c8, I a1]) HS Z Z Z Z Z (htA ag40) Z Z Z fun wd12 HS => nL ?_))))))⟩))))
  obtain ⟨rfl, rfl⟩ := some2 H
  exact rT _ func69 Z (Res1.boxA (j := 1) (vs := [.slice A7 t5.length c8, I a1]) HS Z Z Z ag40) ⟨_, _, Z, (HS.pk 3 [0] Z)⟩
theorem slices_Clone_int64_int64.calls {s : List Int} {A_a : Option Addr} {c_a : Nat} {r1 : List Int} (HS : St w0 w (L)) (r_a : RdIn w0 L (TInt .i64) A_a c_a (fun _ => ()) s) (H : slices_Clone_int64_int64.f s = some r1) :
    Calls prog 70 #[.slice A_a s.length c_a] w (slices_Clone_int64_int64.post w0 L r1) := by
  unfold slices_Clone_int64_int64.f at H
  refine cG func70 Z ?_
  refine rN 4 Z (rG (mV Z (GO.eqNil Z Z Z underlying41 Z (nL ?_))))
  rcases Decidable.em (A_a.isNone = true) with c1 | c1
  ·
   obtain rfl := nil_of_none r_a HS c1
   refine yB Z c1 (rN 2 Z ?_)
   replace HS := HS.nilRow (TInt .i64) 2 (fun _ => ())
   replace H : some ([] : List Int) = some r1 := H
   obtain rfl := sI H
   exact rT _ func70 Z Z ⟨_, _, Z, HS⟩
  refine nB Z (bnot_of c1) (rN 2 Z ?_)
  obtain ⟨c7, H⟩ := iN H
  refine rG (GO.buildS (el := 2) ([]) HS Z Z (fun _ => by kernel_rfl) Z fun b2 wd3 HS => mV Z ?_)
  replace HS := HS.boxRow (T := (TInt .i64)) (j := 0) Z flat_flat (fun _ => ()) ([] : List Int) Z (bndL Z)
  refine GO.lenC (t := 5) (m := ([] : List Int).length) (c' := ([] : List Int).length) Z Z Z (GO.appS (T := (TInt .i64)) (j := 0) HS Z (rD 1 r_a) flat_flat Z Z Z underlying41 inf2 Z Z Z c7 Z (fun _ => Z) fun A5 c6 wd4 HS => aS Z (nL ?_))
  obtain rfl := sI H
  exact rT _ func70 Z Z ⟨_, _, Z, HS⟩
theorem slices_Clone_impl_Move_impl_Move.calls {s : List GMove} {A_a : Option Addr} {c_a : Nat} {r1 : List GMove} (HS : St w0 w (L)) (r_a : RdIn w0 L T_GMove A_a c_a (fun _ => ()) s) (H : slices_Clone_impl_Move_impl_Move.f s = some r1) :
    Calls prog 71 #[.slice A_a s.length c_a] w (slices_Clone_impl_Move_impl_Move.post w0 L r1) := by
  unfold slices_Clone_impl_Move_impl_Move.f at H
  refine cG func71 Z ?_
  refine rN 4 Z (rG (mV Z (GO.eqNil Z Z Z underlying44 Z (nL ?_))))
  rcases Decidable.em (A_a.isNone = true) with c1 | c1
  ·
   obtain rfl := nil_of_none r_a HS c1
   refine yB Z c1 (rN 2 Z ?_)
   replace HS := HS.nilRow T_GMove 110 (fun _ => ())
   replace H : some ([] : List GMove) = some r1 := H
   obtain rfl := sI H
   exact rT _ func71 Z Z ⟨_, _, Z, HS⟩
  refine nB Z (bnot_of c1) (rN 2 Z ?_)
  obtain ⟨c7, H⟩ := iN H
  refine rG (GO.buildS (el := 110) ([]) HS Z Z (fun _ => by kernel_rfl) Z fun b2 wd3 HS => mV Z ?_)
  replace HS := HS.boxRow (T := T_GMove) (j := 0) Z flat_flat (fun _ => ()) ([] : List GMove) Z (bndL Z)
  refine GO.lenC (t := 5) (m := ([] : List GMove).length) (c' := ([] : List GMove).length) Z Z Z (GO.appS (T := T_GMove) (j := 0) HS Z (rD 1 r_a) flat_flat Z Z Z underlying44 inf110 Z Z Z c7 Z (fun _ => Z) fun A5 c6 wd4 HS => aS Z (nL ?_))
  obtain rfl := sI H
  exact rT _ func71 Z Z ⟨_, _, Z, HS⟩
theorem impl_copyItem.calls {e1 : ByteArray} {d1 : Int} {o1 : List (List GFace)} {k1 : List GCrossing} {n1 f1 : Int} {m1 : List Int} {c1 a1 : Int} {i1 : List GMove} {h1 g1 : List Int} {A_a : Option Addr} {c_a : Nat} {y_a : Nat → (Ty.slice 140 T_GFace).Lay} {A_b : Option Addr} {c_b : Nat} {A_c : Option Addr} {c_c : Nat} {A_d : Option Addr} {c_d : Nat} {A_e : Option Addr} {c_e : Nat} {A_f : Option Addr} {c_f : Nat} {r1 : ByteArray} {r2 : Int} {r3 : List (List GFace)} {r4 : List GCrossing} {r5 r6 : Int} {r7 : List Int} {r8 r9 : Int} {r10 : List GMove} {r11 r12 : List Int} (HS : St w0 w (L)) (r_a : RdIn w0 L (Ty.slice 140 T_GFace) A_a c_a y_a o1) (r_b : RdIn w0 L T_GCrossing A_b c_b (fun _ => ()) k1) (r_c : RdIn w0 L (TInt .i64) A_c c_c (fun _ => ()) m1) (r_d : RdIn w0 L T_GMove A_d c_d (fun _ => ()) i1) (r_e : RdIn w0 L (TInt .i64) A_e c_e (fun _ => ()) h1) (r_f : RdIn w0 L (TInt .i64) A_f c_f (fun _ => ()) g1) (H : impl_copyItem.f K e1 d1 o1 k1 n1 f1 m1 c1 a1 i1 h1 g1 = some (r1, r2, r3, r4, r5, r6, r7, r8, r9, r10, r11, r12)) :
    Calls prog 35 #[.agg [.string e1, I d1, .slice A_a o1.length c_a, .slice A_b k1.length c_b, I n1, I f1, .slice A_c m1.length c_c, I c1, I a1, .slice A_d i1.length c_d, .slice A_e h1.length c_e, .slice A_f g1.length c_f].toArray] w (impl_copyItem.post w0 L r1 r2 r3 r4 r5 r6 r7 r8 r9 r10 r11 r12) := by
  unfold impl_copyItem.f at H
  refine cG func35 Z ?_
  refine sQ (rG (GO.box (cs := [.string e1, I d1, .slice A_a o1.length c_a, .slice A_b k1.length c_b, I n1, I f1, .slice A_c m1.length c_c, I c1, I a1, .slice A_d i1.length c_d, .slice A_e h1.length c_e, .slice A_f g1.length c_f]) HS Z Z Z Z fun b1 wd2 HS => GO.alloc HS Z zr48 Z Z fun b3 wd4 HS => nL (sQ ?_)))
  obtain ⟨t5, h6, H⟩ := bI H
  refine rG (fL b1 2 fl48_2 Z (GO.ldBoxA (j := 1) ([.slice A_a o1.length c_a]) HS Z Z Z Z ag37 Z (fN Z func68 fok68.1 fok68.2 Z Z (impl_copyTriangulation.calls HS (rD 2 r_a) h6) (fun _ wd10 ⟨A7, c8, y9, h11, HS⟩ => ⟨_, h11, (fL b1 2 fl48_2 Z (GO.stBox (j := 2) (vs := [.slice A7 t5.length c8]) ([.string e1, I d1, .slice A7 t5.length c8, .slice A_b k1.length c_b, I n1, I f1, .slice A_c m1.length c_c, I c1, I a1, .slice A_d i1.length c_d, .slice A_e h1.length c_e, .slice A_f g1.length c_f]) HS Z Z Z Z Z (htA ag37) Z Z Z fun wd12 HS => nL (sQ ?_)))⟩))))
  obtain ⟨t13, t14, h15, H⟩ := bind2_elim H
  refine rG (fL b1 3 fl48_3 Z (GO.ldBoxA (j := 2) ([.slice A_b k1.length c_b, I n1]) HS Z Z Z Z ag40 Z (fN Z func69 fok69.1 fok69.2 Z Z (impl_copyDiagram.calls HS (rD 3 r_b) h15) (fun _ wd18 ⟨A16, c17, h19, HS⟩ => ⟨_, h19, (fL b1 3 fl48_3 Z (GO.stBox (j := 3) (vs := [.slice A16 t13.length c17, I t14]) ([.string e1, I d1, .slice A7 t5.length c8, .slice A16 t13.length c17, I t14, I f1, .slice A_c m1.length c_c, I c1, I a1, .slice A_d i1.length c_d, .slice A_e h1.length c_e, .slice A_f g1.length c_f]) HS Z Z Z Z Z (htA ag40) Z Z Z fun wd20 HS => nL (sQ ?_)))⟩))))
  obtain ⟨t21, h22, H⟩ := bI H
  refine rG (fL b1 5 fl48_4 Z (fL b1 6 fl43_1 Z (lB 3 HS Z na41 Z (fN Z func70 fok70.1 fok70.2 Z Z (slices_Clone_int64_int64.calls HS (rD 4 r_c) h22) (fun _ wd25 ⟨A23, c24, h26, HS⟩ => ⟨_, h26, (fL b1 5 fl48_4 Z (fL b1 6 fl43_1 Z (GO.stBox (j := 4) (vs := [.slice A23 t21.length c24]) ([.string e1, I d1, .slice A7 t5.length c8, .slice A16 t13.length c17, I t14, I f1, .slice A23 t21.length c24, I c1, I a1, .slice A_d i1.length c_d, .slice A_e h1.length c_e, .slice A_f g1.length c_f]) HS Z Z Z Z Z (htN na41 Z) Z Z Z fun wd27 HS => nL (sQ (rG (fL b1 7 fl48_5 Z (aS Z (nL (sQ ?_)))))))))⟩)))))
  obtain ⟨t28, h29, H⟩ := bI H
  obtain ⟨t34, h35, H⟩ := bI H
  obtain ⟨t40, h41, H⟩ := bI H
  refine G.lexS mixed (fun w => St w0 w (Box b1 48 [.string e1, I d1, .slice A7 t5.length c8, .slice A16 t13.length c17, I t14, I f1, .slice A23 t21.length c24, I c1, I a1, .slice A_d i1.length c_d, .slice A_e h1.length c_e, .slice A_f g1.length c_f] :: L)) [6, 11, 16] [0, 1, 2, 3, 4, 5, 8, 9, 10, 13, 14, 15, 6, 11, 16, 7, 12, 17, 18, 19, 20, 21, 22, 23, 24, 25, 26] [20, 23, 26] (by kernel_rfl) (by kernel_rfl) (HS.drew.pk 5 [4] Z) ?_
  replace HS := HS.drew
  refine GX.ps 4 Z (qL Z Z (fun _ _ g => GO.nilP Z Z Z g) Z (qL Z Z (fun _ _ g => fL b1 9 fl46_2 Z g) Z (GX.ps 1 Z (qL Z Z (fun _ _ g => GO.nilP Z Z Z g) Z (qL Z Z (fun _ _ g => fL b1 10 fl46_3 Z g) Z (GX.ps 1 Z (qL Z Z (fun _ _ g => GO.nilP Z Z Z g) Z (qL Z Z (fun _ _ g => fL b1 11 fl46_4 Z g) Z (GX.ls Z Z Z (HS.pk 5 [4] Z) (fun _ HS _ g => lB 0 HS Z na44 Z g) Z (GX.ls Z Z Z (HS.pk 5 [4] Z) (fun _ HS _ g => lB 0 HS Z na41 Z g) Z (GX.ls Z Z Z (HS.pk 5 [4] Z) (fun _ HS _ g => lB 0 HS Z na41 Z g) Z (GX.l2 Z (fN Z func71 fok71.1 fok71.2 Z Z (slices_Clone_impl_Move_impl_Move.calls HS (rD 5 r_d) h29) (fun _ wd32 ⟨A30, c31, h33, HS⟩ => ⟨_, h33, (GX.fin (HS.pk 6 [5] Z) ?_)⟩))))))))))))))
  refine GX.l2 Z (fN Z func70 fok70.1 fok70.2 Z Z (slices_Clone_int64_int64.calls HS (rD 6 r_e) h35) (fun _ wd38 ⟨A36, c37, h39, HS⟩ => ⟨_, h39, (GX.fin (HS.pk 7 [6] Z) (GX.l2 Z (fN Z func70 fok70.1 fok70.2 Z Z (slices_Clone_int64_int64.calls HS (rD 7 r_f) h41) (fun _ wd44 ⟨A42, c43, h45, HS⟩ => ⟨_, h45, (GX.fin (HS.pk 8 [7] Z) (qL Z Z (fun _ _ g => GO.nilP Z Z Z g) Z (qL Z Z (fun _ _ g => fL b1 9 fl46_2 Z g) Z (GX.l2 Z (GO.stBox (j := 7) (vs := [.slice A30 t28.length c31]) ([.string e1, I d1, .slice A7 t5.length c8, .slice A16 t13.length c17, I t14, I f1, .slice A23 t21.length c24, I c1, I a1, .slice A30 t28.length c31, .slice A_e h1.length c_e, .slice A_f g1.length c_f]) HS Z Z Z Z Z (htN na44 Z) Z Z Z fun wd46 HS => GX.finZ Z (qL Z Z (fun _ _ g => GO.nilP Z Z Z g) Z (qL Z Z (fun _ _ g => fL b1 10 fl46_3 Z g) Z (GX.l2 Z (GO.stBox (j := 7) (vs := [.slice A36 t34.length c37]) ([.string e1, I d1, .slice A7 t5.length c8, .slice A16 t13.length c17, I t14, I f1, .slice A23 t21.length c24, I c1, I a1, .slice A30 t28.length c31, .slice A36 t34.length c37, .slice A_f g1.length c_f]) HS Z Z Z Z Z (htN na41 Z) Z Z Z fun wd47 HS => ?_)))))))))⟩))))⟩))
  refine GX.finZ Z (qL Z Z (fun _ _ g => GO.nilP Z Z Z g) Z (qL Z Z (fun _ _ g => fL b1 11 fl46_4 Z g) Z (GX.l2 Z (GO.stBox (j := 7) (vs := [.slice A42 t40.length c43]) ([.string e1, I d1, .slice A7 t5.length c8, .slice A16 t13.length c17, I t14, I f1, .slice A23 t21.length c24, I c1, I a1, .slice A30 t28.length c31, .slice A36 t34.length c37, .slice A42 t40.length c43]) HS Z Z Z Z Z (htN na41 Z) Z Z Z fun wd48 HS => GX.finZ Z (GX.nil (sQ (rG (GO.ldBoxA (j := 7) ([.string e1, I d1, .slice A7 t5.length c8, .slice A16 t13.length c17, I t14, I f1, .slice A23 t21.length c24, I c1, I a1, .slice A30 t28.length c31, .slice A36 t34.length c37, .slice A42 t40.length c43]) HS Z Z Z Z ag48 Z (GO.stBox (j := 6) (vs := [.string e1, I d1, .slice A7 t5.length c8, .slice A16 t13.length c17, I t14, I f1, .slice A23 t21.length c24, I c1, I a1, .slice A30 t28.length c31, .slice A36 t34.length c37, .slice A42 t40.length c43]) ([.string e1, I d1, .slice A7 t5.length c8, .slice A16 t13.length c17, I t14, I f1, .slice A23 t21.length c24, I c1, I a1, .slice A30 t28.length c31, .slice A36 t34.length c37, .slice A42 t40.length c43]) HS Z Z Z Z Z (htA ag48) Z Z Z fun wd49 HS => nL ?_)))))))))
  obtain ⟨rfl, rfl, rfl, rfl, rfl, rfl, rfl, rfl, rfl, rfl, rfl, rfl⟩ := some12 H
  exact rT _ func35 Z (Res1.boxA (j := 6) (vs := [.string e1, I d1, .slice A7 t5.length c8, .slice A16 t13.length c17, I t14, I f1, .slice A23 t21.length c24, I c1, I a1, .slice A30 t28.length c31, .slice A36 t34.length c37, .slice A42 t40.length c43]) HS Z Z Z ag48) ⟨_, _, _, _, _, _, _, _, _, _, _, _, _, Z, (HS.pk 8 [5, 4, 3, 2, 1, 0] Z)⟩
theorem impl_copyItems.calls {items : List GItem} {A_a : Option Addr} {c_a : Nat} {y_a : Nat → T_GItem_47.Lay} {r1 : List GItem} (HS : St w0 w (L)) (r_a : RdIn w0 L T_GItem_47 A_a c_a y_a items) (H : impl_copyItems.f K items = some r1) :
    Calls prog 85 #[.slice A_a items.length c_a] w (impl_copyItems.post w0 L r1) := by
  unfold impl_copyItems.f at H
  refine cG func85 Z ?_
  refine rN 6 Z (rG (mV Z (lS Z Z underlying28 Z (mV Z (nL (rN 2 Z ?_))))))
  refine G.name (fun d1 e1 => ?_)
  have f1 : ∀ a1, a1 ≤ K → ∀ (A43 : Option Addr) (c44 : Nat) (b1 : List GItem) (y46 : Nat → T_GItem_47.Lay) (x47 : Int) (w : World), impl_copyItems.l1 K a1 items b1 x47 = some r1 → St w0 w (Own T_GItem_47 48 A43 c44 y46 b1 :: L) → G prog 85 19 [(3, .slice A43 b1.length c44), (6, .slice A_a items.length c_a), (7, I (items.length : Int)), (8, I x47)] d1 w (impl_copyItems.post w0 L r1) := by
   intro a1
   induction a1 using Nat.strongRecOn with
   | _ a1 c1 =>
    intro g1 A43 c44 b1 y46 x47 w H HS
    cases a1 with
    | zero => rw [impl_copyItems.l1] at H; cases H
    | succ h1 =>
     rw [impl_copyItems.l1] at H
     subst e1
     refine rN 3 Z ?_
     rcases iE H with ⟨c90, H⟩ | ⟨c90, H⟩
     ·
      refine yB Z (tT c90) (rN 4 Z ?_)
      obtain ⟨c91, H⟩ := iN H
      obtain ⟨e92, h93, H⟩ := bnd_elim H
      refine rG (GO.ix Z Z Z underlying28 sz48 ((rD 1 r_a) _ HS).2.2.1 c91.1 c91.2 Z (GO.ldRdA (T := T_GItem_47) (n := x47.toNat) HS (rD 1 r_a) Z Z (getD_eq (ltN c91) h93) ag48 Z (GO.alloc HS Z zr48 Z Z fun b94 wd95 HS => GO.stBox (j := 0) (vs := [.string e92.Name, I e92.Kind, .slice ((y_a x47.toNat).2.2.1.A) e92.Triangulation_Tets.length ((y_a x47.toNat).2.2.1.c), .slice ((y_a x47.toNat).2.2.2.1.A) e92.Diagram_Crossings.length ((y_a x47.toNat).2.2.2.1.c), I e92.Diagram_Circles, I e92.Braid_Strands, .slice ((y_a x47.toNat).2.2.2.2.2.2.1.A) e92.Braid_Word.length ((y_a x47.toNat).2.2.2.2.2.2.1.c), I e92.Certificate_Name, I e92.Certificate_Trait, .slice ((y_a x47.toNat).2.2.2.2.2.2.2.2.2.1.A) e92.Certificate_Moves.length ((y_a x47.toNat).2.2.2.2.2.2.2.2.2.1.c), .slice ((y_a x47.toNat).2.2.2.2.2.2.2.2.2.2.1.A) e92.Certificate_Tets.length ((y_a x47.toNat).2.2.2.2.2.2.2.2.2.2.1.c), .slice ((y_a x47.toNat).2.2.2.2.2.2.2.2.2.2.2.A) e92.Certificate_Perms.length ((y_a x47.toNat).2.2.2.2.2.2.2.2.2.2.2.c)]) ([.string e92.Name, I e92.Kind, .slice ((y_a x47.toNat).2.2.1.A) e92.Triangulation_Tets.length ((y_a x47.toNat).2.2.1.c), .slice ((y_a x47.toNat).2.2.2.1.A) e92.Diagram_Crossings.length ((y_a x47.toNat).2.2.2.1.c), I e92.Diagram_Circles, I e92.Braid_Strands, .slice ((y_a x47.toNat).2.2.2.2.2.2.1.A) e92.Braid_Word.length ((y_a x47.toNat).2.2.2.2.2.2.1.c), I e92.Certificate_Name, I e92.Certificate_Trait, .slice ((y_a x47.toNat).2.2.2.2.2.2.2.2.2.1.A) e92.Certificate_Moves.length ((y_a x47.toNat).2.2.2.2.2.2.2.2.2.1.c), .slice ((y_a x47.toNat).2.2.2.2.2.2.2.2.2.2.1.A) e92.Certificate_Tets.length ((y_a x47.toNat).2.2.2.2.2.2.2.2.2.2.1.c), .slice ((y_a x47.toNat).2.2.2.2.2.2.2.2.2.2.2.A) e92.Certificate_Perms.length ((y_a x47.toNat).2.2.2.2.2.2.2.2.2.2.2.c)]) HS Z Z Z Z Z (htA ag48) Z Z Z fun wd96 HS => nL ?_)))
      obtain ⟨t97, t98, t99, t100, t101, t102, t103, t104, t105, t106, t107, t108, h109, H⟩ := bind12_elim H
      obtain ⟨c130, H⟩ := iN H
      refine rG (mV Z (GO.ldBoxA (j := 0) ([.string e92.Name, I e92.Kind, .slice ((y_a x47.toNat).2.2.1.A) e92.Triangulation_Tets.length ((y_a x47.toNat).2.2.1.c), .slice ((y_a x47.toNat).2.2.2.1.A) e92.Diagram_Crossings.length ((y_a x47.toNat).2.2.2.1.c), I e92.Diagram_Circles, I e92.Braid_Strands, .slice ((y_a x47.toNat).2.2.2.2.2.2.1.A) e92.Braid_Word.length ((y_a x47.toNat).2.2.2.2.2.2.1.c), I e92.Certificate_Name, I e92.Certificate_Trait, .slice ((y_a x47.toNat).2.2.2.2.2.2.2.2.2.1.A) e92.Certificate_Moves.length ((y_a x47.toNat).2.2.2.2.2.2.2.2.2.1.c), .slice ((y_a x47.toNat).2.2.2.2.2.2.2.2.2.2.1.A) e92.Certificate_Tets.length ((y_a x47.toNat).2.2.2.2.2.2.2.2.2.2.1.c), .slice ((y_a x47.toNat).2.2.2.2.2.2.2.2.2.2.2.A) e92.Certificate_Perms.length ((y_a x47.toNat).2.2.2.2.2.2.2.2.2.2.2.c)]) HS Z Z Z Z ag48 Z (fN Z func35 fok35.1 fok35.2 Z Z (impl_copyItem.calls HS (RdIn.fld (rD 2 r_a) (getD_eq (ltN c91) h93) (fun _ h => h.2.2.1)) (RdIn.fld (rD 2 r_a) (getD_eq (ltN c91) h93) (fun _ h => h.2.2.2.1)) (RdIn.fld (rD 2 r_a) (getD_eq (ltN c91) h93) (fun _ h => h.2.2.2.2.2.2.1)) (RdIn.fld (rD 2 r_a) (getD_eq (ltN c91) h93) (fun _ h => h.2.2.2.2.2.2.2.2.2.1)) (RdIn.fld (rD 2 r_a) (getD_eq (ltN c91) h93) (fun _ h => h.2.2.2.2.2.2.2.2.2.2.1)) (RdIn.fld (rD 2 r_a) (getD_eq (ltN c91) h93) (fun _ h => h.2.2.2.2.2.2.2.2.2.2.2)) h109) (fun _ wd123 ⟨A110, c111, y112, A113, c114, A115, c116, A117, c118, A119, c120, A121, c122, h124, HS⟩ => ⟨_, h124, (GO.buildS (el := 48) ([.string t97, I t98, .slice A110 t99.length c111, .slice A113 t100.length c114, I t101, I t102, .slice A115 t103.length c116, I t104, I t105, .slice A117 t106.length c118, .slice A119 t107.length c120, .slice A121 t108.length c122]) HS Z Z (fun _ => by kernel_rfl) Z fun b125 wd126 HS => ?_)⟩))))
      replace HS := HS.pk 9 [6, 5, 4, 3, 2, 1, 8, 0, 7] Z
      replace HS := mk_GItem_47 (Name := t97) (Kind := t98) (Diagram_Circles := t101) (Braid_Strands := t102) (Certificate_Name := t104) (Certificate_Trait := t105) HS
      replace HS := HS.pk 4 [1, 2, 0, 3] Z
      refine GO.appE (T := T_GItem_47) ((), (), ⟨A110, c111, y112⟩, ⟨A113, c114, (fun _ => ())⟩, (), (), ⟨A115, c116, (fun _ => ())⟩, (), (), ⟨A117, c118, (fun _ => ())⟩, ⟨A119, c120, (fun _ => ())⟩, ⟨A121, c122, (fun _ => ())⟩) (⟨t97, t98, t99, t100, t101, t102, t103, t104, t105, t106, t107, t108⟩ : GItem) HS Z Z Z underlying28 inf48 Z Z Z c130 Z fun A128 c129 y131 wd127 HS => aS Z (nL (rN 3 Z (G.weak ?_ (c1 h1 (Nat.lt_succ_of_le (lR _)) (Nat.le_of_succ_le g1) _ _ _ _ _ _ H (HS.pk 3 [0] Z)))))
      exact ⟨Z, Z, Z, Z, tv⟩
     refine nB Z (tF c90) (rN 3 Z ?_)
     obtain rfl := sI H
     exact rT _ func85 Z Z ⟨_, _, _, Z, HS⟩
  replace HS := HS.nilRow T_GItem_47 48 (fun _ => ((), (), ⟨none, 0, (fun _ => ⟨none, 0, (fun _ => ())⟩)⟩, ⟨none, 0, (fun _ => ())⟩, (), (), ⟨none, 0, (fun _ => ())⟩, (), (), ⟨none, 0, (fun _ => ())⟩, ⟨none, 0, (fun _ => ())⟩, ⟨none, 0, (fun _ => ())⟩))
  refine G.weak ?_ (f1 K (lR _) _ _ _ _ _ _ H HS)
  exact ⟨Z, Z, Z, Z, tv⟩
theorem impl_copySteps.calls {lists : List (List GItem)} {A_a : Option Addr} {c_a : Nat} {y_a : Nat → (Ty.slice 48 T_GItem_47).Lay} {r1 : List (List GItem)} (HS : St w0 w (L)) (r_a : RdIn w0 L (Ty.slice 48 T_GItem_47) A_a c_a y_a lists) (H : impl_copySteps.f K lists = some r1) :
    Calls prog 86 #[.slice A_a lists.length c_a] w (impl_copySteps.post w0 L r1) := by
  unfold impl_copySteps.f at H
  refine cG func86 Z ?_
  refine rN 6 Z (rG (mV Z (lS Z Z underlying29 Z (mV Z (nL (rN 2 Z ?_))))))
  refine G.name (fun d1 e1 => ?_)
  have f1 : ∀ a1, a1 ≤ K → ∀ (A17 : Option Addr) (c18 : Nat) (b1 : List (List GItem)) (y20 : Nat → (Ty.slice 48 T_GItem_47).Lay) (x21 : Int) (w : World), impl_copySteps.l1 K a1 lists b1 x21 = some r1 → St w0 w (Own (Ty.slice 48 T_GItem_47) 28 A17 c18 y20 b1 :: L) → G prog 86 19 [(3, .slice A17 b1.length c18), (6, .slice A_a lists.length c_a), (7, I (lists.length : Int)), (8, I x21)] d1 w (impl_copySteps.post w0 L r1) := by
   intro a1
   induction a1 using Nat.strongRecOn with
   | _ a1 c1 =>
    intro g1 A17 c18 b1 y20 x21 w H HS
    cases a1 with
    | zero => rw [impl_copySteps.l1] at H; cases H
    | succ h1 =>
     rw [impl_copySteps.l1] at H
     subst e1
     refine rN 3 Z ?_
     rcases iE H with ⟨c38, H⟩ | ⟨c38, H⟩
     ·
      refine yB Z (tT c38) (rN 4 Z ?_)
      obtain ⟨c39, H⟩ := iN H
      refine rG (GO.ix Z Z Z underlying29 sz28 ((rD 1 r_a) _ HS).2.2.1 c39.1 c39.2 Z (GO.ldRd (T := (Ty.slice 48 T_GItem_47)) (n := x21.toNat) (o := 0) HS (rD 1 r_a) Z Z (getD_some (d := []) (ltN c39)) Z Z na28 Z (aS Z (nL ?_))))
      obtain ⟨t40, h41, H⟩ := bI H
      obtain ⟨c52, H⟩ := iN H
      refine rG (pS 2 Z (fN Z func85 fok85.1 fok85.2 Z Z (impl_copyItems.calls HS (RdIn.elem (rD 1 r_a) c39.1 c39.2) h41) (fun _ wd45 ⟨A42, c43, y44, h46, HS⟩ => ⟨_, h46, (GO.buildS (el := 28) ([.slice A42 t40.length c43]) HS Z Z (fun _ => by kernel_rfl) Z fun b47 wd48 HS => ?_)⟩)))
      replace HS := HS.pk 3 [2, 0, 1] Z
      refine GO.appR (S := T_GItem_47) (u := 48) HS Z Z Z underlying29 inf28 Z Z c52 Z fun A50 c51 y53 wd49 HS => aS Z (nL (rN 3 Z (G.weak ?_ (c1 h1 (Nat.lt_succ_of_le (lR _)) (Nat.le_of_succ_le g1) _ _ _ _ _ _ H (HS.pk 2 [0] Z)))))
      exact ⟨Z, Z, Z, Z, tv⟩
     refine nB Z (tF c38) (rN 3 Z ?_)
     obtain rfl := sI H
     exact rT _ func86 Z Z ⟨_, _, _, Z, HS⟩
  replace HS := HS.nilRow (Ty.slice 48 T_GItem_47) 28 (fun _ => ⟨none, 0, (fun _ => ((), (), ⟨none, 0, (fun _ => ⟨none, 0, (fun _ => ())⟩)⟩, ⟨none, 0, (fun _ => ())⟩, (), (), ⟨none, 0, (fun _ => ())⟩, (), (), ⟨none, 0, (fun _ => ())⟩, ⟨none, 0, (fun _ => ())⟩, ⟨none, 0, (fun _ => ())⟩))⟩)
  refine G.weak ?_ (f1 K (lR _) _ _ _ _ _ _ H HS)
  exact ⟨Z, Z, Z, Z, tv⟩
theorem impl_copyBench.calls {a1 : List GItem} {d1 c1 : List (List GItem)} {A_a : Option Addr} {c_a : Nat} {y_a : Nat → T_GItem_47.Lay} {A_b : Option Addr} {c_b : Nat} {y_b : Nat → (Ty.slice 48 T_GItem_47).Lay} {A_c : Option Addr} {c_c : Nat} {y_c : Nat → (Ty.slice 48 T_GItem_47).Lay} {r1 : List GItem} {r2 r3 : List (List GItem)} (HS : St w0 w (L)) (r_a : RdIn w0 L T_GItem_47 A_a c_a y_a a1) (r_b : RdIn w0 L (Ty.slice 48 T_GItem_47) A_b c_b y_b d1) (r_c : RdIn w0 L (Ty.slice 48 T_GItem_47) A_c c_c y_c c1) (H : impl_copyBench.f K a1 d1 c1 = some (r1, r2, r3)) :
    Calls prog 53 #[.agg [.slice A_a a1.length c_a, .slice A_b d1.length c_b, .slice A_c c1.length c_c].toArray] w (impl_copyBench.post w0 L r1 r2 r3) := by
  unfold impl_copyBench.f at H
  refine cG func53 Z ?_
  refine sQ (rG (GO.box (cs := [.slice A_a a1.length c_a, .slice A_b d1.length c_b, .slice A_c c1.length c_c]) HS Z Z Z Z fun b1 wd2 HS => GO.alloc HS Z zr31 Z Z fun b3 wd4 HS => nL (sQ ?_)))
  obtain ⟨t5, h6, H⟩ := bI H
  obtain ⟨t12, h13, H⟩ := bI H
  obtain ⟨t19, h20, H⟩ := bI H
  refine G.lexS mixed (fun w => St w0 w (Box b1 31 [.slice A_a a1.length c_a, .slice A_b d1.length c_b, .slice A_c c1.length c_c] :: L)) [1, 4, 7] [0, 3, 6, 1, 4, 7, 2, 5, 8, 9, 10] [] (by kernel_rfl) (by kernel_rfl) (HS.drew.pk 2 [1] Z) ?_
  replace HS := HS.drew
  refine qL Z Z (fun _ _ g => fL b1 0 fl31_0 Z g) Z (qL Z Z (fun _ _ g => fL b1 1 fl31_1 Z g) Z (qL Z Z (fun _ _ g => fL b1 2 fl31_2 Z g) Z (GX.ls Z Z Z (HS.pk 2 [1] Z) (fun _ HS _ g => lB 0 HS Z na28 Z g) Z (GX.ls Z Z Z (HS.pk 2 [1] Z) (fun _ HS _ g => lB 0 HS Z na29 Z g) Z (GX.ls Z Z Z (HS.pk 2 [1] Z) (fun _ HS _ g => lB 0 HS Z na29 Z g) Z (GX.l2 Z (fN Z func85 fok85.1 fok85.2 Z Z (impl_copyItems.calls HS (rD 2 r_a) h6) (fun _ wd10 ⟨A7, c8, y9, h11, HS⟩ => ⟨_, h11, (GX.fin (HS.pk 3 [2] Z) (GX.l2 Z (fN Z func86 fok86.1 fok86.2 Z Z (impl_copySteps.calls HS (rD 3 r_b) h13) (fun _ wd17 ⟨A14, c15, y16, h18, HS⟩ => ⟨_, h18, (GX.fin (HS.pk 4 [3] Z) (GX.l2 Z (fN Z func86 fok86.1 fok86.2 Z Z (impl_copySteps.calls HS (rD 4 r_c) h20) (fun _ wd24 ⟨A21, c22, y23, h25, HS⟩ => ⟨_, h25, (GX.fin (HS.pk 5 [4] Z) ?_)⟩))))⟩))))⟩))))))))
  refine qL Z Z (fun _ _ g => GO.buildV (.agg [.slice A7 t5.length c8, .slice A14 t12.length c15, .slice A21 t19.length c22].toArray) Z Z (fun _ => by kernel_rfl) Z g) Z (GX.l2 Z (GO.stBox (j := 3) (vs := [.slice A7 t5.length c8, .slice A14 t12.length c15, .slice A21 t19.length c22]) ([.slice A7 t5.length c8, .slice A14 t12.length c15, .slice A21 t19.length c22]) HS Z Z Z Z Z (htA ag31) Z Z Z fun wd26 HS => GX.fin (HS.pk 5 [4] Z) (GX.nil ?_)))
  obtain ⟨rfl, rfl, rfl⟩ := some3 H
  exact rT _ func53 Z (Res1.boxA (j := 3) (vs := [.slice A7 t5.length c8, .slice A14 t12.length c15, .slice A21 t19.length c22]) HS Z Z Z ag31) ⟨_, _, _, _, _, _, _, _, _, Z, (HS.pk 5 [2, 1, 0] Z)⟩
theorem impl_pushed.calls {lists : List (List GItem)} {items : List GItem} {A_a : Option Addr} {c_a : Nat} {y_a : Nat → (Ty.slice 48 T_GItem_47).Lay} {A_b : Option Addr} {c_b : Nat} {y_b : Nat → T_GItem_47.Lay} {r1 : List (List GItem)} (HS : St w0 w (Own (Ty.slice 48 T_GItem_47) 28 A_a c_a y_a lists :: Own T_GItem_47 48 A_b c_b y_b items :: L)) (H : impl_pushed.f lists items = some r1) :
    Calls prog 54 #[.slice A_a lists.length c_a, .slice A_b items.length c_b] w (impl_pushed.post w0 L r1) := by
  unfold impl_pushed.f at H
  refine cG func54 Z ?_
  refine rN 3 Z ?_
  obtain ⟨c6, H⟩ := iN H
  refine rG (pS 2 Z (GO.buildS (el := 28) ([.slice A_b items.length c_b]) HS Z Z (fun _ => by kernel_rfl) Z fun b1 wd2 HS => ?_))
  replace HS := HS.pk 3 [1, 0, 2] Z
  refine GO.appR (S := T_GItem_47) (u := 48) HS Z Z Z underlying29 inf28 Z Z c6 Z fun A4 c5 y7 wd3 HS => aS Z (nL (sQ ?_))
  obtain ⟨c8, H⟩ := iN H
  refine rG (pS 2 Z (lS Z Z underlying29 Z (GO.sub Z Z Z Z (GO.max2 Z Z Z Z (GO.slL (T := (Ty.slice 48 T_GItem_47)) HS (RdIn.own (j := 0) Z) Z Z Z underlying29 sz28 c8.1 c8.2 Z (aS Z (nL ?_)))))))
  replace HS := HS.cutOwn (A' := (cutA A4 ((if w64 (((lists ++ [items]).length : Int) - 6) > 0 then w64 (((lists ++ [items]).length : Int) - 6) else 0).toNat) c5 1)) (c' := (c5 - (if w64 (((lists ++ [items]).length : Int) - 6) > 0 then w64 (((lists ++ [items]).length : Int) - 6) else 0).toNat)) (j := 0) (l := (if w64 (((lists ++ [items]).length : Int) - 6) > 0 then w64 (((lists ++ [items]).length : Int) - 6) else 0).toNat) (h := (lists ++ [items]).length) (m := c5) Z (leN c8) (lR _) (Nat.le_trans (lR _) ((RdIn.own (j := 0) Z) _ HS).1) (lR _) Z Z
  obtain rfl := sI H
  exact rT _ func54 Z Z ⟨_, _, _, Z, (HS.pk 2 [0] Z)⟩
theorem impl_UndoBench.calls {a1 : List GItem} {d1 c1 : List (List GItem)} {A_a : Option Addr} {c_a : Nat} {y_a : Nat → T_GItem_47.Lay} {A_b : Option Addr} {c_b : Nat} {y_b : Nat → (Ty.slice 48 T_GItem_47).Lay} {A_c : Option Addr} {c_c : Nat} {y_c : Nat → (Ty.slice 48 T_GItem_47).Lay} {r1 : List GItem} {r2 r3 : List (List GItem)} {r4 : Int} (HS : St w0 w (L)) (r_a : RdIn w0 L T_GItem_47 A_a c_a y_a a1) (r_b : RdIn w0 L (Ty.slice 48 T_GItem_47) A_b c_b y_b d1) (r_c : RdIn w0 L (Ty.slice 48 T_GItem_47) A_c c_c y_c c1) (H : impl_UndoBench.f K a1 d1 c1 = some (r1, r2, r3, r4)) :
    Calls prog 19 #[.agg [.slice A_a a1.length c_a, .slice A_b d1.length c_b, .slice A_c c1.length c_c].toArray] w (impl_UndoBench.post w0 L r1 r2 r3 r4) := by
  unfold impl_UndoBench.f at H
  refine cG func19 Z ?_
  refine sQ (rG (GO.box (cs := [.slice A_a a1.length c_a, .slice A_b d1.length c_b, .slice A_c c1.length c_c]) HS Z Z Z Z fun b1 wd2 HS => GO.alloc HS Z zr31 Z Z fun b3 wd4 HS => aS Z (nL (rN 3 Z ?_))))
  obtain ⟨t5, h6, H⟩ := bI H
  refine rG (GO.ldBoxA (j := 1) ([.slice A_a a1.length c_a, .slice A_b d1.length c_b, .slice A_c c1.length c_c]) HS Z Z Z Z ag31 Z (fN Z func29 fok29.1 fok29.2 Z Z (impl_isBench.calls HS (rD 2 r_a) (rD 2 r_b) (rD 2 r_c) h6) (fun _ wd7 ⟨h8, HS⟩ => ⟨_, h8, (pS 2 Z (nL ?_))⟩)))
  rcases iE H with ⟨c9, H⟩ | ⟨c9, H⟩
  ·
   refine nB Z (congrArg Bool.not c9) (sQ (rG (fL b1 1 fl31_1 Z (lB 1 HS Z na29 Z (lS Z Z underlying29 Z (pS 2 Z (nL ?_)))))))
   rcases iE H with ⟨c10, H⟩ | ⟨c10, H⟩
   ·
    refine yB Z (tT c10) (sQ (rG (GO.buildV (.agg [.slice none 0 0, .slice none 0 0, .slice none 0 0].toArray) Z Z (fun _ => by kernel_rfl) Z (GO.stBox (j := 0) (vs := [.slice none 0 0, .slice none 0 0, .slice none 0 0]) ([.slice none 0 0, .slice none 0 0, .slice none 0 0]) HS Z Z Z Z Z (htA ag31) Z Z Z fun wd11 HS => aS Z (nL ?_)))))
    replace HS := HS.nilRow T_GItem_47 48 (fun _ => ((), (), ⟨none, 0, (fun _ => ⟨none, 0, (fun _ => ())⟩)⟩, ⟨none, 0, (fun _ => ())⟩, (), (), ⟨none, 0, (fun _ => ())⟩, (), (), ⟨none, 0, (fun _ => ())⟩, ⟨none, 0, (fun _ => ())⟩, ⟨none, 0, (fun _ => ())⟩))
    replace HS := HS.nilRow (Ty.slice 48 T_GItem_47) 28 (fun _ => ⟨none, 0, (fun _ => ((), (), ⟨none, 0, (fun _ => ⟨none, 0, (fun _ => ())⟩)⟩, ⟨none, 0, (fun _ => ())⟩, (), (), ⟨none, 0, (fun _ => ())⟩, (), (), ⟨none, 0, (fun _ => ())⟩, ⟨none, 0, (fun _ => ())⟩, ⟨none, 0, (fun _ => ())⟩))⟩)
    replace HS := HS.nilRow (Ty.slice 48 T_GItem_47) 28 (fun _ => ⟨none, 0, (fun _ => ((), (), ⟨none, 0, (fun _ => ⟨none, 0, (fun _ => ())⟩)⟩, ⟨none, 0, (fun _ => ())⟩, (), (), ⟨none, 0, (fun _ => ())⟩, (), (), ⟨none, 0, (fun _ => ())⟩, ⟨none, 0, (fun _ => ())⟩, ⟨none, 0, (fun _ => ())⟩))⟩)
    obtain ⟨rfl, rfl, rfl, rfl⟩ := some4 H
    exact G.ret2 _ _ func19 Z (Res1.boxA (j := 3) (vs := [.slice none 0 0, .slice none 0 0, .slice none 0 0]) HS Z Z Z ag31) Z ⟨_, _, _, _, _, _, _, _, _, Z, (HS.pk 5 [2, 1, 0] Z)⟩
   refine nB Z (tF c10) (rN 3 Z ?_)
   obtain ⟨t12, t13, t14, h15, H⟩ := bind3_elim H
   refine rG (GO.ldBoxA (j := 1) ([.slice A_a a1.length c_a, .slice A_b d1.length c_b, .slice A_c c1.length c_c]) HS Z Z Z Z ag31 Z (fN Z func53 fok53.1 fok53.2 Z Z (impl_copyBench.calls HS (rD 2 r_a) (rD 2 r_b) (rD 2 r_c) h15) (fun _ wd25 ⟨A16, c17, y18, A19, c20, y21, A22, c23, y24, h26, HS⟩ => ⟨_, h26, (GO.alloc HS Z zr31 Z Z fun b27 wd28 HS => GO.stBox (j := 0) (vs := [.slice A16 t12.length c17, .slice A19 t13.length c20, .slice A22 t14.length c23]) ([.slice A16 t12.length c17, .slice A19 t13.length c20, .slice A22 t14.length c23]) HS Z Z Z Z Z (htA ag31) Z Z Z fun wd29 HS => nL (sQ (rG (fL b27 1 fl31_1 Z (lB 0 HS Z na29 Z (lS Z Z underlying29 Z (pS 2 Z (nL (sQ ?_)))))))))⟩)))
   obtain ⟨c30, H⟩ := iN H
   have h31 := ((RdIn.own (j := 2) Z) _ HS).2.2.1
   obtain ⟨c32, H⟩ := iN H
   obtain ⟨t33, h34, H⟩ := bI H
   refine G.lexS mixed (fun w => St w0 w (Box b27 31 [.slice A16 t12.length c17, .slice A19 t13.length c20, .slice A22 t14.length c23] :: Own (Ty.slice 48 T_GItem_47) 28 A19 c20 y21 t13 :: L)) [1, 4, 6, 9, 11, 13] [0, 2, 5, 7, 8, 10, 12, 1, 3, 4, 6, 9, 11, 13, 14, 15, 16, 17] [] (by kernel_rfl) (by kernel_rfl) (HS.drew.pk 6 [0, 2] Z) ?_
   replace HS := HS.drew
   refine qL Z Z (fun _ _ g => fL b27 1 fl31_1 Z g) Z (GX.ps 1 Z (qL Z Z (fun _ _ g => fL b27 1 fl31_1 Z g) Z (GX.ps 2 Z (qL Z Z (fun _ _ g => fL b27 2 fl31_2 Z g) Z (qL Z Z (fun _ _ g => fL b27 0 fl31_0 Z g) Z (GX.ls Z Z Z (HS.pk 6 [0, 2] Z) (fun _ HS _ g => lB 0 HS Z na29 Z g) Z (qL Z Z (fun _ _ g => GO.ix Z Z Z underlying29 sz28 h31 c30.1 c30.2 Z g) Z (GX.ls Z Z Z (HS.pk 6 [0, 2] Z) (fun _ HS _ g => GO.ldRd (T := (Ty.slice 48 T_GItem_47)) (n := (w64 ((t13.length : Int) - 1)).toNat) (o := 0) HS (RdIn.own (j := 1) Z) Z Z (getD_some (d := []) (ltN c30)) Z Z na28 Z g) Z (GX.ls Z Z Z (HS.pk 6 [0, 2] Z) (fun _ HS _ g => lB 0 HS Z na29 Z g) Z (GX.ls Z Z Z (HS.pk 6 [0, 2] Z) (fun _ HS _ g => GO.slHM (xs := t13) ((RdIn.own (j := 1) Z) _ HS).1 Z Z Z Z underlying29 sz28 c32 (Int.le_refl _) c32.2 Z g) Z (GX.ls Z Z Z (HS.pk 6 [0, 2] Z) (fun _ HS _ g => lB 0 HS Z na29 Z g) Z (GX.ls Z Z Z (HS.pk 6 [0, 2] Z) (fun _ HS _ g => lB 0 HS Z na28 Z g) Z (GX.l2 Z ?_)))))))))))))
   replace HS := HS.pk 6 [3, 1, 0, 2, 4, 5] Z
   refine fN Z func54 fok54.1 fok54.2 Z Z (impl_pushed.calls HS  h34) (fun _ wd38 ⟨A35, c36, y37, h39, HS⟩ => ⟨_, h39, (GX.fin (HS.pk 5 [1, 2] Z) (qL Z Z (fun _ _ g => GO.buildV (.agg [.slice ((y21 ((w64 ((t13.length : Int) - 1)).toNat)).A) (t13.getD ((w64 ((t13.length : Int) - 1)).toNat) []).length ((y21 ((w64 ((t13.length : Int) - 1)).toNat)).c), .slice (cutA A19 0 ((w64 ((t13.length : Int) - 1)).toNat) 1) ((t13.take ((w64 ((t13.length : Int) - 1)).toNat)).drop 0).length ((w64 ((t13.length : Int) - 1)).toNat - 0), .slice A35 t33.length c36].toArray) Z Z (fun _ => by kernel_rfl) Z g) Z (GX.l2 Z (GO.stBox (j := 3) (vs := [.slice ((y21 ((w64 ((t13.length : Int) - 1)).toNat)).A) (t13.getD ((w64 ((t13.length : Int) - 1)).toNat) []).length ((y21 ((w64 ((t13.length : Int) - 1)).toNat)).c), .slice (cutA A19 0 ((w64 ((t13.length : Int) - 1)).toNat) 1) ((t13.take ((w64 ((t13.length : Int) - 1)).toNat)).drop 0).length ((w64 ((t13.length : Int) - 1)).toNat - 0), .slice A35 t33.length c36]) ([.slice ((y21 ((w64 ((t13.length : Int) - 1)).toNat)).A) (t13.getD ((w64 ((t13.length : Int) - 1)).toNat) []).length ((y21 ((w64 ((t13.length : Int) - 1)).toNat)).c), .slice (cutA A19 0 ((w64 ((t13.length : Int) - 1)).toNat) 1) ((t13.take ((w64 ((t13.length : Int) - 1)).toNat)).drop 0).length ((w64 ((t13.length : Int) - 1)).toNat - 0), .slice A35 t33.length c36]) HS Z Z Z Z Z (htA ag31) Z Z Z fun wd40 HS => GX.fin (HS.pk 5 [1, 2] Z) (GX.ps 1 Z (GX.nil ?_))))))⟩)
   replace HS := HS.pk 5 [2, 0, 1, 3, 4] Z
   replace HS := HS.rowCut (A' := (cutA A19 0 ((w64 ((t13.length : Int) - 1)).toNat) 1)) (c' := ((w64 ((t13.length : Int) - 1)).toNat - 0)) (n := (w64 ((t13.length : Int) - 1)).toNat) (m := (w64 ((t13.length : Int) - 1)).toNat) (ltN c30) (lR _) (Nat.le_trans (leN c32) ((RdIn.own (j := 0) Z) _ HS).1) Z Z
   obtain ⟨rfl, rfl, rfl, rfl⟩ := some4 H
   exact G.ret2 _ _ func19 Z (Res1.boxA (j := 4) (vs := [.slice ((y21 ((w64 ((t13.length : Int) - 1)).toNat)).A) (t13.getD ((w64 ((t13.length : Int) - 1)).toNat) []).length ((y21 ((w64 ((t13.length : Int) - 1)).toNat)).c), .slice (cutA A19 0 ((w64 ((t13.length : Int) - 1)).toNat) 1) ((t13.take ((w64 ((t13.length : Int) - 1)).toNat)).drop 0).length ((w64 ((t13.length : Int) - 1)).toNat - 0), .slice A35 t33.length c36]) HS Z Z Z ag31) Z ⟨_, _, _, _, _, _, _, _, _, Z, (HS.pk 6 [0, 1, 2] Z)⟩
  refine yB Z (congrArg Bool.not (bnot_of c9)) (sQ (rG (GO.buildV (.agg [.slice none 0 0, .slice none 0 0, .slice none 0 0].toArray) Z Z (fun _ => by kernel_rfl) Z (GO.stBox (j := 0) (vs := [.slice none 0 0, .slice none 0 0, .slice none 0 0]) ([.slice none 0 0, .slice none 0 0, .slice none 0 0]) HS Z Z Z Z Z (htA ag31) Z Z Z fun wd41 HS => aS Z (nL ?_)))))
  replace HS := HS.nilRow T_GItem_47 48 (fun _ => ((), (), ⟨none, 0, (fun _ => ⟨none, 0, (fun _ => ())⟩)⟩, ⟨none, 0, (fun _ => ())⟩, (), (), ⟨none, 0, (fun _ => ())⟩, (), (), ⟨none, 0, (fun _ => ())⟩, ⟨none, 0, (fun _ => ())⟩, ⟨none, 0, (fun _ => ())⟩))
  replace HS := HS.nilRow (Ty.slice 48 T_GItem_47) 28 (fun _ => ⟨none, 0, (fun _ => ((), (), ⟨none, 0, (fun _ => ⟨none, 0, (fun _ => ())⟩)⟩, ⟨none, 0, (fun _ => ())⟩, (), (), ⟨none, 0, (fun _ => ())⟩, (), (), ⟨none, 0, (fun _ => ())⟩, ⟨none, 0, (fun _ => ())⟩, ⟨none, 0, (fun _ => ())⟩))⟩)
  replace HS := HS.nilRow (Ty.slice 48 T_GItem_47) 28 (fun _ => ⟨none, 0, (fun _ => ((), (), ⟨none, 0, (fun _ => ⟨none, 0, (fun _ => ())⟩)⟩, ⟨none, 0, (fun _ => ())⟩, (), (), ⟨none, 0, (fun _ => ())⟩, (), (), ⟨none, 0, (fun _ => ())⟩, ⟨none, 0, (fun _ => ())⟩, ⟨none, 0, (fun _ => ())⟩))⟩)
  obtain ⟨rfl, rfl, rfl, rfl⟩ := some4 H
  exact G.ret2 _ _ func19 Z (Res1.boxA (j := 3) (vs := [.slice none 0 0, .slice none 0 0, .slice none 0 0]) HS Z Z Z ag31) Z ⟨_, _, _, _, _, _, _, _, _, Z, (HS.pk 5 [2, 1, 0] Z)⟩
theorem impl_RedoBench.calls {a1 : List GItem} {d1 c1 : List (List GItem)} {A_a : Option Addr} {c_a : Nat} {y_a : Nat → T_GItem_47.Lay} {A_b : Option Addr} {c_b : Nat} {y_b : Nat → (Ty.slice 48 T_GItem_47).Lay} {A_c : Option Addr} {c_c : Nat} {y_c : Nat → (Ty.slice 48 T_GItem_47).Lay} {r1 : List GItem} {r2 r3 : List (List GItem)} {r4 : Int} (HS : St w0 w (L)) (r_a : RdIn w0 L T_GItem_47 A_a c_a y_a a1) (r_b : RdIn w0 L (Ty.slice 48 T_GItem_47) A_b c_b y_b d1) (r_c : RdIn w0 L (Ty.slice 48 T_GItem_47) A_c c_c y_c c1) (H : impl_RedoBench.f K a1 d1 c1 = some (r1, r2, r3, r4)) :
    Calls prog 22 #[.agg [.slice A_a a1.length c_a, .slice A_b d1.length c_b, .slice A_c c1.length c_c].toArray] w (impl_RedoBench.post w0 L r1 r2 r3 r4) := by
  unfold impl_RedoBench.f at H
  refine cG func22 Z ?_
  refine sQ ?_
  refine rG ?_
  refine GO.box (cs := [.slice A_a a1.length c_a, .slice A_b d1.length c_b, .slice A_c c1.length c_c]) HS Z Z Z Z ?_; intro b1 wd2 HS
  refine GO.alloc HS Z zr31 Z Z ?_; intro b3 wd4 HS
  refine aS Z ?_
  refine nL ?_
  refine sQ ?_
  obtain ⟨t5, t6, t7, t8, h9, H⟩ := bind4_elim H
  refine rG ?_
  refine fL b1 0 fl31_0 Z ?_
  refine lB 1 HS Z na28 Z ?_
  refine fL b1 2 fl31_2 Z ?_
  refine lB 1 HS Z na29 Z ?_
  refine fL b1 1 fl31_1 Z ?_
  refine lB 1 HS Z na29 Z ?_
  refine GO.buildV (.agg [.slice A_a a1.length c_a, .slice A_c c1.length c_c, .slice A_b d1.length c_b].toArray) Z Z (fun _ => by kernel_rfl) Z ?_
  refine fN Z func19 fok19.1 fok19.2 Z Z (impl_UndoBench.calls HS (rD 2 r_a) (rD 2 r_c) (rD 2 r_b) h9) (fun _ wd19 ⟨A10, c11, y12, A13, c14, y15, A16, c17, y18, h20, HS⟩ => ⟨_, h20, ?_⟩)
  refine pS 3 Z ?_
  refine GO.alloc HS Z zr31 Z Z ?_; intro b21 wd22 HS
  refine GO.stBox (j := 0) (vs := [.slice A10 t5.length c11, .slice A13 t6.length c14, .slice A16 t7.length c17]) ([.slice A10 t5.length c11, .slice A13 t6.length c14, .slice A16 t7.length c17]) HS Z Z Z Z Z (htA ag31) Z Z Z ?_; intro wd23 HS
  refine aS Z ?_
  refine nL ?_
  refine sQ ?_
  refine rG ?_
  refine fL b21 0 fl31_0 Z ?_
  refine lB 0 HS Z na28 Z ?_
  refine fL b21 2 fl31_2 Z ?_
  refine lB 0 HS Z na29 Z ?_
  refine fL b21 1 fl31_1 Z ?_
  refine lB 0 HS Z na29 Z ?_
  refine GO.buildV (.agg [.slice A10 t5.length c11, .slice A16 t7.length c17, .slice A13 t6.length c14].toArray) Z Z (fun _ => by kernel_rfl) Z ?_
  refine mV Z ?_
  refine GO.stBox (j := 4) (vs := [.slice A10 t5.length c11, .slice A16 t7.length c17, .slice A13 t6.length c14]) ([.slice A10 t5.length c11, .slice A16 t7.length c17, .slice A13 t6.length c14]) HS Z Z Z Z Z (htA ag31) Z Z Z ?_; intro wd24 HS
  refine aS Z ?_
  refine nL ?_
  obtain ⟨rfl, rfl, rfl, rfl⟩ := some4 H
  exact G.ret2 _ _ func22 Z (Res1.boxA (j := 4) (vs := [.slice A10 t5.length c11, .slice A16 t7.length c17, .slice A13 t6.length c14]) HS Z Z Z ag31) Z ⟨_, _, _, _, _, _, _, _, _, Z, (HS.pk 6 [1, 3, 2] Z)⟩
theorem laws_eqFace.calls {e1 a1 : Int} {d1 c1 : Int} {r1 : Bool} (HS : St w0 w (L)) (H : laws_eqFace.f e1 a1 d1 c1 = some r1) :
    Calls prog 143 #[.agg [I e1, I a1].toArray, .agg [I d1, I c1].toArray] w (laws_eqFace.post w0 L r1) := by
  unfold laws_eqFace.f at H
  refine cG func143 Z ?_
  refine sQ (rG (GO.box (cs := [I e1, I a1]) HS Z Z Z Z fun b1 wd2 HS => GO.box (cs := [I d1, I c1]) HS Z Z Z Z fun b3 wd4 HS => aS Z (nL (rN 2 Z (rG (fL b1 0 fl140_0 Z (lB 1 HS Z na2 Z (fL b3 0 fl140_0 Z (lB 0 HS Z na2 Z (GO.neq Z Z Z Z (nL ?_)))))))))))
  rcases iE H with ⟨c5, H⟩ | ⟨c5, H⟩
  ·
   refine nB Z (nT c5) (rN 3 Z (rG (fL b1 1 fl140_1 Z (lB 1 HS Z na2 Z (fL b3 1 fl140_1 Z (lB 0 HS Z na2 Z (GO.neq Z Z Z Z (nL ?_))))))))
   rcases iE H with ⟨c6, H⟩ | ⟨c6, H⟩
   ·
    refine nB Z (nT c6) (rN 3 Z ?_)
    obtain rfl := sI H
    exact rT _ func143 Z Z ⟨Z, (HS.pk 2 [] Z)⟩
   refine yB Z (nF c6) (rN 2 Z ?_)
   obtain rfl := sI H
   exact rT _ func143 Z Z ⟨Z, (HS.pk 2 [] Z)⟩
  refine yB Z (nF c5) (rN 2 Z ?_)
  obtain rfl := sI H
  exact rT _ func143 Z Z ⟨Z, (HS.pk 2 [] Z)⟩
theorem laws_eqFaceS.calls {a_ b_ : List GFace} {A_a : Option Addr} {c_a : Nat} {A_b : Option Addr} {c_b : Nat} {r1 : Bool} (HS : St w0 w (L)) (r_a : RdIn w0 L T_GFace A_a c_a (fun _ => ()) a_) (r_b : RdIn w0 L T_GFace A_b c_b (fun _ => ()) b_) (H : laws_eqFaceS.f K a_ b_ = some r1) :
    Calls prog 107 #[.slice A_a a_.length c_a, .slice A_b b_.length c_b] w (laws_eqFaceS.post w0 L r1) := by
  unfold laws_eqFaceS.f at H
  refine cG func107 Z ?_
  refine rN 4 Z (rG (mV Z (lS Z Z underlying136 Z (mV Z (lS Z Z underlying136 Z (GO.neq Z Z Z Z (nL ?_)))))))
  rcases iE H with ⟨c1, H⟩ | ⟨c1, H⟩
  ·
   refine nB Z (nT c1) (rN 6 Z ?_)
   refine G.name (fun e1 f1 => ?_)
   have g1 : ∀ a1, a1 ≤ K → ∀ (b1 : Int) (w : World), laws_eqFaceS.l1 K a1 a_ b_ b1 = some r1 → St w0 w (L) → G prog 107 27 [(0, .slice A_a a_.length c_a), (1, .slice A_b b_.length c_b), (5, I b1)] e1 w (laws_eqFaceS.post w0 L r1) := by
    intro a1
    induction a1 using Nat.strongRecOn with
    | _ a1 d1 =>
     intro h1 b1 w H HS
     cases a1 with
     | zero => rw [laws_eqFaceS.l1] at H; cases H
     | succ i1 =>
      rw [laws_eqFaceS.l1] at H
      subst f1
      refine rN 2 Z (rG (pS 2 Z (lS Z Z underlying136 Z (GO.lss Z Z Z Z (nL ?_)))))
      rcases iE H with ⟨c27, H⟩ | ⟨c27, H⟩
      ·
       refine yB Z (tT c27) (rN 4 Z ?_)
       obtain ⟨c28, H⟩ := iN H
       obtain ⟨e29, h30, H⟩ := bnd_elim H
       obtain ⟨c31, H⟩ := iN H
       obtain ⟨e32, h33, H⟩ := bnd_elim H
       obtain ⟨t34, h35, H⟩ := bI H
       refine G.lex mixed [0, 1, 2, 4, 5, 6, 3, 7, 8, 9] (by kernel_rfl) ?_
       replace HS := HS.drew
       refine GX.ps 2 Z (qL Z Z (fun _ _ g => GO.ix Z Z Z underlying136 sz140 (r_a _ HS).2.2.1 c28.1 c28.2 Z g) Z (GX.ps 2 Z (qL Z Z (fun _ _ g => GO.ix Z Z Z underlying136 sz140 (r_b _ HS).2.2.1 c31.1 c31.2 Z g) Z (GX.l1 Z Z Z (fun _ g => GO.ldRdA (T := T_GFace) (n := b1.toNat) HS r_a Z Z (getD_eq (ltN c28) h30) ag140 Z g) Z (GX.l1 Z Z Z (fun _ g => GO.ldRdA (T := T_GFace) (n := b1.toNat) HS r_b Z Z (getD_eq (ltN c31) h33) ag140 Z g) Z (GX.l2 Z (fN Z func143 fok143.1 fok143.2 Z Z (laws_eqFace.calls HS  h35) (fun _ wd36 ⟨h37, HS⟩ => ⟨_, h37, (GX.fin tv (GX.ps 1 Z (GX.nil ?_)))⟩))))))))
       rcases iE H with ⟨c38, H⟩ | ⟨c38, H⟩
       ·
        refine nB Z (congrArg Bool.not c38) (rN 4 Z (G.weak ?_ (d1 i1 (Nat.lt_succ_of_le (lR _)) (Nat.le_of_succ_le h1) _ _ H HS)))
        exact ⟨Z, Z, Z, tv⟩
       refine yB Z (congrArg Bool.not (bnot_of c38)) (rN 2 Z ?_)
       obtain rfl := sI H
       exact rT _ func107 Z Z ⟨Z, HS⟩
      refine nB Z (tF c27) (rN 3 Z ?_)
      obtain rfl := sI H
      exact rT _ func107 Z Z ⟨Z, HS⟩
   refine G.weak ?_ (g1 K (lR _) _ _ H HS)
   exact ⟨Z, Z, Z, tv⟩
  refine yB Z (nF c1) (rN 2 Z ?_)
  obtain rfl := sI H
  exact rT _ func107 Z Z ⟨Z, HS⟩
theorem laws_eqFaceSS.calls {a_ b_ : List (List GFace)} {A_a : Option Addr} {c_a : Nat} {y_a : Nat → (Ty.slice 140 T_GFace).Lay} {A_b : Option Addr} {c_b : Nat} {y_b : Nat → (Ty.slice 140 T_GFace).Lay} {r1 : Bool} (HS : St w0 w (L)) (r_a : RdIn w0 L (Ty.slice 140 T_GFace) A_a c_a y_a a_) (r_b : RdIn w0 L (Ty.slice 140 T_GFace) A_b c_b y_b b_) (H : laws_eqFaceSS.f K a_ b_ = some r1) :
    Calls prog 72 #[.slice A_a a_.length c_a, .slice A_b b_.length c_b] w (laws_eqFaceSS.post w0 L r1) := by
  unfold laws_eqFaceSS.f at H
  refine cG func72 Z ?_
  refine rN 4 Z (rG (mV Z (lS Z Z underlying35 Z (mV Z (lS Z Z underlying35 Z (GO.neq Z Z Z Z (nL ?_)))))))
  rcases iE H with ⟨c1, H⟩ | ⟨c1, H⟩
  ·
   refine nB Z (nT c1) (rN 6 Z ?_)
   refine G.name (fun e1 f1 => ?_)
   have g1 : ∀ a1, a1 ≤ K → ∀ (b1 : Int) (w : World), laws_eqFaceSS.l1 K a1 a_ b_ b1 = some r1 → St w0 w (L) → G prog 72 27 [(0, .slice A_a a_.length c_a), (1, .slice A_b b_.length c_b), (5, I b1)] e1 w (laws_eqFaceSS.post w0 L r1) := by
    intro a1
    induction a1 using Nat.strongRecOn with
    | _ a1 d1 =>
     intro h1 b1 w H HS
     cases a1 with
     | zero => rw [laws_eqFaceSS.l1] at H; cases H
     | succ i1 =>
      rw [laws_eqFaceSS.l1] at H
      subst f1
      refine rN 2 Z (rG (pS 2 Z (lS Z Z underlying35 Z (GO.lss Z Z Z Z (nL ?_)))))
      rcases iE H with ⟨c19, H⟩ | ⟨c19, H⟩
      ·
       refine yB Z (tT c19) (rN 4 Z ?_)
       obtain ⟨c20, H⟩ := iN H
       obtain ⟨c21, H⟩ := iN H
       obtain ⟨t22, h23, H⟩ := bI H
       refine G.lex mixed [0, 1, 2, 4, 5, 6, 3, 7, 8, 9] (by kernel_rfl) ?_
       replace HS := HS.drew
       refine GX.ps 2 Z (qL Z Z (fun _ _ g => GO.ix Z Z Z underlying35 sz136 (r_a _ HS).2.2.1 c20.1 c20.2 Z g) Z (GX.ps 2 Z (qL Z Z (fun _ _ g => GO.ix Z Z Z underlying35 sz136 (r_b _ HS).2.2.1 c21.1 c21.2 Z g) Z (GX.l1 Z Z Z (fun _ g => GO.ldRd (T := (Ty.slice 140 T_GFace)) (n := b1.toNat) (o := 0) HS r_a Z Z (getD_some (d := []) (ltN c20)) Z Z na136 Z g) Z (GX.l1 Z Z Z (fun _ g => GO.ldRd (T := (Ty.slice 140 T_GFace)) (n := b1.toNat) (o := 0) HS r_b Z Z (getD_some (d := []) (ltN c21)) Z Z na136 Z g) Z (GX.l2 Z (fN Z func107 fok107.1 fok107.2 Z Z (laws_eqFaceS.calls HS (RdIn.elem r_a c20.1 c20.2) (RdIn.elem r_b c21.1 c21.2) h23) (fun _ wd24 ⟨h25, HS⟩ => ⟨_, h25, (GX.fin tv (GX.ps 1 Z (GX.nil ?_)))⟩))))))))
       rcases iE H with ⟨c26, H⟩ | ⟨c26, H⟩
       ·
        refine nB Z (congrArg Bool.not c26) (rN 4 Z (G.weak ?_ (d1 i1 (Nat.lt_succ_of_le (lR _)) (Nat.le_of_succ_le h1) _ _ H HS)))
        exact ⟨Z, Z, Z, tv⟩
       refine yB Z (congrArg Bool.not (bnot_of c26)) (rN 2 Z ?_)
       obtain rfl := sI H
       exact rT _ func72 Z Z ⟨Z, HS⟩
      refine nB Z (tF c19) (rN 3 Z ?_)
      obtain rfl := sI H
      exact rT _ func72 Z Z ⟨Z, HS⟩
   refine G.weak ?_ (g1 K (lR _) _ _ H HS)
   exact ⟨Z, Z, Z, tv⟩
  refine yB Z (nF c1) (rN 2 Z ?_)
  obtain rfl := sI H
  exact rT _ func72 Z Z ⟨Z, HS⟩
theorem laws_eqTriangulation.calls {c1 a1 : List (List GFace)} {A_a : Option Addr} {c_a : Nat} {y_a : Nat → (Ty.slice 140 T_GFace).Lay} {A_b : Option Addr} {c_b : Nat} {y_b : Nat → (Ty.slice 140 T_GFace).Lay} {r1 : Bool} (HS : St w0 w (L)) (r_a : RdIn w0 L (Ty.slice 140 T_GFace) A_a c_a y_a c1) (r_b : RdIn w0 L (Ty.slice 140 T_GFace) A_b c_b y_b a1) (H : laws_eqTriangulation.f K c1 a1 = some r1) :
    Calls prog 36 #[.agg [.slice A_a c1.length c_a].toArray, .agg [.slice A_b a1.length c_b].toArray] w (laws_eqTriangulation.post w0 L r1) := by
  unfold laws_eqTriangulation.f at H
  refine cG func36 Z ?_
  refine sQ (rG (GO.box (cs := [.slice A_a c1.length c_a]) HS Z Z Z Z fun b1 wd2 HS => GO.box (cs := [.slice A_b a1.length c_b]) HS Z Z Z Z fun b3 wd4 HS => aS Z (nL (rN 2 Z ?_))))
  obtain ⟨t5, h6, H⟩ := bI H
  refine rG (fL b1 0 fl37_0 Z (lB 1 HS Z na35 Z (fL b3 0 fl37_0 Z (lB 0 HS Z na35 Z (fN Z func72 fok72.1 fok72.2 Z Z (laws_eqFaceSS.calls HS (rD 2 r_a) (rD 2 r_b) h6) (fun _ wd7 ⟨h8, HS⟩ => ⟨_, h8, (GO.not Z Z Z (nL ?_))⟩))))))
  rcases iE H with ⟨c9, H⟩ | ⟨c9, H⟩
  ·
   refine nB Z (congrArg Bool.not c9) (rN 3 Z ?_)
   obtain rfl := sI H
   exact rT _ func36 Z Z ⟨Z, (HS.pk 2 [] Z)⟩
  refine yB Z (congrArg Bool.not (bnot_of c9)) (rN 2 Z ?_)
  obtain rfl := sI H
  exact rT _ func36 Z Z ⟨Z, (HS.pk 2 [] Z)⟩
theorem laws_eqCrossing.calls {a_A a_B : Int} {a_C a_D : Int} {c1 b_A : Int} {b_B b_C : Int} {b_D a1 : Int} {r1 : Bool} (HS : St w0 w (L)) (H : laws_eqCrossing.f a_A a_B a_C a_D c1 b_A b_B b_C b_D a1 = some r1) :
    Calls prog 108 #[.agg [I a_A, I a_B, I a_C, I a_D, I c1].toArray, .agg [I b_A, I b_B, I b_C, I b_D, I a1].toArray] w (laws_eqCrossing.post w0 L r1) := by
  unfold laws_eqCrossing.f at H
  refine cG func108 Z ?_
  refine sQ (rG (GO.box (cs := [I a_A, I a_B, I a_C, I a_D, I c1]) HS Z Z Z Z fun b1 wd2 HS => GO.box (cs := [I b_A, I b_B, I b_C, I b_D, I a1]) HS Z Z Z Z fun b3 wd4 HS => aS Z (nL (rN 2 Z (rG (fL b1 0 fl143_0 Z (lB 1 HS Z na2 Z (fL b3 0 fl143_0 Z (lB 0 HS Z na2 Z (GO.neq Z Z Z Z (nL ?_)))))))))))
  rcases iE H with ⟨c5, H⟩ | ⟨c5, H⟩
  ·
   refine nB Z (nT c5) (rN 3 Z (rG (fL b1 1 fl143_1 Z (lB 1 HS Z na2 Z (fL b3 1 fl143_1 Z (lB 0 HS Z na2 Z (GO.neq Z Z Z Z (nL ?_))))))))
   rcases iE H with ⟨c6, H⟩ | ⟨c6, H⟩
   ·
    refine nB Z (nT c6) (rN 3 Z (rG (fL b1 2 fl143_2 Z (lB 1 HS Z na2 Z (fL b3 2 fl143_2 Z (lB 0 HS Z na2 Z (GO.neq Z Z Z Z (nL ?_))))))))
    rcases iE H with ⟨c7, H⟩ | ⟨c7, H⟩
    ·
     refine nB Z (nT c7) (rN 3 Z (rG (fL b1 3 fl143_3 Z (lB 1 HS Z na2 Z (fL b3 3 fl143_3 Z (lB 0 HS Z na2 Z (GO.neq Z Z Z Z (nL ?_))))))))
     rcases iE H with ⟨c8, H⟩ | ⟨c8, H⟩
     ·
      refine nB Z (nT c8) (rN 3 Z (rG (fL b1 4 fl143_4 Z (lB 1 HS Z na2 Z (fL b3 4 fl143_4 Z (lB 0 HS Z na2 Z (GO.neq Z Z Z Z (nL ?_))))))))
      rcases iE H with ⟨c9, H⟩ | ⟨c9, H⟩
      ·
       refine nB Z (nT c9) (rN 3 Z ?_)
       obtain rfl := sI H
       exact rT _ func108 Z Z ⟨Z, (HS.pk 2 [] Z)⟩
      refine yB Z (nF c9) (rN 2 Z ?_)
      obtain rfl := sI H
      exact rT _ func108 Z Z ⟨Z, (HS.pk 2 [] Z)⟩
     refine yB Z (nF c8) (rN 2 Z ?_)
     obtain rfl := sI H
     exact rT _ func108 Z Z ⟨Z, (HS.pk 2 [] Z)⟩
    refine yB Z (nF c7) (rN 2 Z ?_)
    obtain rfl := sI H
    exact rT _ func108 Z Z ⟨Z, (HS.pk 2 [] Z)⟩
   refine yB Z (nF c6) (rN 2 Z ?_)
   obtain rfl := sI H
   exact rT _ func108 Z Z ⟨Z, (HS.pk 2 [] Z)⟩
  refine yB Z (nF c5) (rN 2 Z ?_)
  obtain rfl := sI H
  exact rT _ func108 Z Z ⟨Z, (HS.pk 2 [] Z)⟩
theorem laws_eqCrossingS.calls {a_ b_ : List GCrossing} {A_a : Option Addr} {c_a : Nat} {A_b : Option Addr} {c_b : Nat} {r1 : Bool} (HS : St w0 w (L)) (r_a : RdIn w0 L T_GCrossing A_a c_a (fun _ => ()) a_) (r_b : RdIn w0 L T_GCrossing A_b c_b (fun _ => ()) b_) (H : laws_eqCrossingS.f K a_ b_ = some r1) :
    Calls prog 73 #[.slice A_a a_.length c_a, .slice A_b b_.length c_b] w (laws_eqCrossingS.post w0 L r1) := by
  unfold laws_eqCrossingS.f at H
  refine cG func73 Z ?_
  refine rN 4 Z (rG (mV Z (lS Z Z underlying38 Z (mV Z (lS Z Z underlying38 Z (GO.neq Z Z Z Z (nL ?_)))))))
  rcases iE H with ⟨c1, H⟩ | ⟨c1, H⟩
  ·
   refine nB Z (nT c1) (rN 6 Z ?_)
   refine G.name (fun e1 f1 => ?_)
   have g1 : ∀ a1, a1 ≤ K → ∀ (b1 : Int) (w : World), laws_eqCrossingS.l1 K a1 a_ b_ b1 = some r1 → St w0 w (L) → G prog 73 27 [(0, .slice A_a a_.length c_a), (1, .slice A_b b_.length c_b), (5, I b1)] e1 w (laws_eqCrossingS.post w0 L r1) := by
    intro a1
    induction a1 using Nat.strongRecOn with
    | _ a1 d1 =>
     intro h1 b1 w H HS
     cases a1 with
     | zero => rw [laws_eqCrossingS.l1] at H; cases H
     | succ i1 =>
      rw [laws_eqCrossingS.l1] at H
      subst f1
      refine rN 2 Z (rG (pS 2 Z (lS Z Z underlying38 Z (GO.lss Z Z Z Z (nL ?_)))))
      rcases iE H with ⟨c27, H⟩ | ⟨c27, H⟩
      ·
       refine yB Z (tT c27) (rN 4 Z ?_)
       obtain ⟨c28, H⟩ := iN H
       obtain ⟨e29, h30, H⟩ := bnd_elim H
       obtain ⟨c31, H⟩ := iN H
       obtain ⟨e32, h33, H⟩ := bnd_elim H
       obtain ⟨t34, h35, H⟩ := bI H
       refine G.lex mixed [0, 1, 2, 4, 5, 6, 3, 7, 8, 9] (by kernel_rfl) ?_
       replace HS := HS.drew
       refine GX.ps 2 Z (qL Z Z (fun _ _ g => GO.ix Z Z Z underlying38 sz143 (r_a _ HS).2.2.1 c28.1 c28.2 Z g) Z (GX.ps 2 Z (qL Z Z (fun _ _ g => GO.ix Z Z Z underlying38 sz143 (r_b _ HS).2.2.1 c31.1 c31.2 Z g) Z (GX.l1 Z Z Z (fun _ g => GO.ldRdA (T := T_GCrossing) (n := b1.toNat) HS r_a Z Z (getD_eq (ltN c28) h30) ag143 Z g) Z (GX.l1 Z Z Z (fun _ g => GO.ldRdA (T := T_GCrossing) (n := b1.toNat) HS r_b Z Z (getD_eq (ltN c31) h33) ag143 Z g) Z (GX.l2 Z (fN Z func108 fok108.1 fok108.2 Z Z (laws_eqCrossing.calls HS  h35) (fun _ wd36 ⟨h37, HS⟩ => ⟨_, h37, (GX.fin tv (GX.ps 1 Z (GX.nil ?_)))⟩))))))))
       rcases iE H with ⟨c38, H⟩ | ⟨c38, H⟩
       ·
        refine nB Z (congrArg Bool.not c38) (rN 4 Z (G.weak ?_ (d1 i1 (Nat.lt_succ_of_le (lR _)) (Nat.le_of_succ_le h1) _ _ H HS)))
        exact ⟨Z, Z, Z, tv⟩
       refine yB Z (congrArg Bool.not (bnot_of c38)) (rN 2 Z ?_)
       obtain rfl := sI H
       exact rT _ func73 Z Z ⟨Z, HS⟩
      refine nB Z (tF c27) (rN 3 Z ?_)
      obtain rfl := sI H
      exact rT _ func73 Z Z ⟨Z, HS⟩
   refine G.weak ?_ (g1 K (lR _) _ _ H HS)
   exact ⟨Z, Z, Z, tv⟩
  refine yB Z (nF c1) (rN 2 Z ?_)
  obtain rfl := sI H
  exact rT _ func73 Z Z ⟨Z, HS⟩
theorem laws_eqDiagram.calls {c1 : List GCrossing} {d1 : Int} {a1 : List GCrossing} {e1 : Int} {A_a : Option Addr} {c_a : Nat} {A_b : Option Addr} {c_b : Nat} {r1 : Bool} (HS : St w0 w (L)) (r_a : RdIn w0 L T_GCrossing A_a c_a (fun _ => ()) c1) (r_b : RdIn w0 L T_GCrossing A_b c_b (fun _ => ()) a1) (H : laws_eqDiagram.f K c1 d1 a1 e1 = some r1) :
    Calls prog 37 #[.agg [.slice A_a c1.length c_a, I d1].toArray, .agg [.slice A_b a1.length c_b, I e1].toArray] w (laws_eqDiagram.post w0 L r1) := by
  unfold laws_eqDiagram.f at H
  refine cG func37 Z ?_
  refine sQ (rG (GO.box (cs := [.slice A_a c1.length c_a, I d1]) HS Z Z Z Z fun b1 wd2 HS => GO.box (cs := [.slice A_b a1.length c_b, I e1]) HS Z Z Z Z fun b3 wd4 HS => aS Z (nL (rN 2 Z ?_))))
  obtain ⟨t5, h6, H⟩ := bI H
  refine rG (fL b1 0 fl40_0 Z (lB 1 HS Z na38 Z (fL b3 0 fl40_0 Z (lB 0 HS Z na38 Z (fN Z func73 fok73.1 fok73.2 Z Z (laws_eqCrossingS.calls HS (rD 2 r_a) (rD 2 r_b) h6) (fun _ wd7 ⟨h8, HS⟩ => ⟨_, h8, (GO.not Z Z Z (nL ?_))⟩))))))
  rcases iE H with ⟨c9, H⟩ | ⟨c9, H⟩
  ·
   refine nB Z (congrArg Bool.not c9) (rN 3 Z (rG (fL b1 1 fl40_1 Z (lB 1 HS Z na2 Z (fL b3 1 fl40_1 Z (lB 0 HS Z na2 Z (GO.neq Z Z Z Z (nL ?_))))))))
   rcases iE H with ⟨c10, H⟩ | ⟨c10, H⟩
   ·
    refine nB Z (nT c10) (rN 3 Z ?_)
    obtain rfl := sI H
    exact rT _ func37 Z Z ⟨Z, (HS.pk 2 [] Z)⟩
   refine yB Z (nF c10) (rN 2 Z ?_)
   obtain rfl := sI H
   exact rT _ func37 Z Z ⟨Z, (HS.pk 2 [] Z)⟩
  refine yB Z (congrArg Bool.not (bnot_of c9)) (rN 2 Z ?_)
  obtain rfl := sI H
  exact rT _ func37 Z Z ⟨Z, (HS.pk 2 [] Z)⟩
end Go.Proofs.YthjomdggdaocgaaGreatDoor
