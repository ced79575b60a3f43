/-
  The walks through the functions: a call comes to what its list function says.
-/
import Derived.Test.YthjomdggdaocgaaGreatDoorAlF
import Derived.Test.YthjomdggdaocgaaGreatDoorAlW1
import Derived.Test.YthjomdggdaocgaaGreatDoorAlW2
import Derived.Test.YthjomdggdaocgaaGreatDoorAlW4
set_option linter.unusedVariables false
set_option linter.unusedSimpArgs false
namespace Go.Proofs.YthjomdggdaocgaaGreatDoor
open Go.RowKit
open Tryz
variable {w0 w : World} {L : List HObj} {K : Nat}
set_option maxRecDepth 20000
set_option maxHeartbeats 40000000
theorem laws_eqInt64S.calls {a_ b_ : List Int} {A_a : Option Addr} {c_a : Nat} {A_b : Option Addr} {c_b : Nat} {r1 : Bool} (HS : St w0 w (L)) (r_a : RdIn w0 L (TInt .i64) A_a c_a (fun _ => ()) a_) (r_b : RdIn w0 L (TInt .i64) A_b c_b (fun _ => ()) b_) (H : laws_eqInt64S.f K a_ b_ = some r1) :
    Calls prog 74 #[.slice A_a a_.length c_a, .slice A_b b_.length c_b] w (laws_eqInt64S.post w0 L r1) := by
  unfold laws_eqInt64S.f at H
  refine cG func74 Z ?_
  refine rN 4 Z (rG (mV Z (lS Z Z underlying41 Z (mV Z (lS Z Z underlying41 Z (GO.neq Z Z Z Z (nL ?_)))))))
  rcases iE H with ⟨c1, H⟩ | ⟨c1, H⟩
  ·
   refine nB Z (nT c1) (rN 6 Z ?_)
   refine G.name (fun d1 e1 => ?_)
   have f1 : ∀ a1, a1 ≤ K → ∀ (i_6 : Int) (w : World), laws_eqInt64S.l1 K a1 a_ b_ i_6 = some r1 → St w0 w (L) → G prog 74 26 [(0, .slice A_a a_.length c_a), (1, .slice A_b b_.length c_b), (5, I i_6)] d1 w (laws_eqInt64S.post w0 L r1) := by
    intro a1
    induction a1 using Nat.strongRecOn with
    | _ a1 b1 =>
     intro g1 i_6 w H HS
     cases a1 with
     | zero => rw [laws_eqInt64S.l1] at H; cases H
     | succ h1 =>
      rw [laws_eqInt64S.l1] at H
      subst e1
      refine rN 2 Z (rG (pS 2 Z (lS Z Z underlying41 Z (GO.lss Z Z Z Z (nL ?_)))))
      rcases iE H with ⟨c11, H⟩ | ⟨c11, H⟩
      ·
       refine yB Z (tT c11) (rN 4 Z ?_)
       obtain ⟨c12, H⟩ := iN H
       obtain ⟨c13, H⟩ := iN H
       refine G.lex mixed [0, 1, 2, 4, 5, 6, 3, 7, 8] (by kernel_rfl) ?_
       replace HS := HS.drew
       refine GX.ps 2 Z (qL Z Z (fun _ _ g => GO.ix Z Z Z underlying41 sz2 (r_a _ HS).2.2.1 c12.1 c12.2 Z g) Z (GX.ps 2 Z (qL Z Z (fun _ _ g => GO.ix Z Z Z underlying41 sz2 (r_b _ HS).2.2.1 c13.1 c13.2 Z g) Z (GX.l1 Z Z Z (fun _ g => GO.ldRd (T := (TInt .i64)) (n := i_6.toNat) (o := 0) HS r_a Z Z (getD_some (d := 0) (ltN c12)) Z Z na2 Z g) Z (GX.l1 Z Z Z (fun _ g => GO.ldRd (T := (TInt .i64)) (n := i_6.toNat) (o := 0) HS r_b Z Z (getD_some (d := 0) (ltN c13)) Z Z na2 Z g) Z (GX.ps 1 Z (GX.nil ?_)))))))
       rcases iE H with ⟨c14, H⟩ | ⟨c14, H⟩
       ·
        refine nB Z (nT c14) (rN 4 Z (G.weak ?_ (b1 h1 (Nat.lt_succ_of_le (lR _)) (Nat.le_of_succ_le g1) _ _ H HS)))
        exact ⟨Z, Z, Z, tv⟩
       refine yB Z (nF c14) (rN 2 Z ?_)
       obtain rfl := sI H
       exact rT _ func74 Z Z ⟨Z, HS⟩
      refine nB Z (tF c11) (rN 3 Z ?_)
      obtain rfl := sI H
      exact rT _ func74 Z Z ⟨Z, HS⟩
   refine G.weak ?_ (f1 K (lR _) _ _ H HS)
   exact ⟨Z, Z, Z, tv⟩
  refine yB Z (nF c1) (rN 2 Z ?_)
  obtain rfl := sI H
  exact rT _ func74 Z Z ⟨Z, HS⟩
theorem laws_eqBraid.calls {e1 : Int} {a1 : List Int} {d1 : Int} {c1 : List Int} {A_a : Option Addr} {c_a : Nat} {A_b : Option Addr} {c_b : Nat} {r1 : Bool} (HS : St w0 w (L)) (r_a : RdIn w0 L (TInt .i64) A_a c_a (fun _ => ()) a1) (r_b : RdIn w0 L (TInt .i64) A_b c_b (fun _ => ()) c1) (H : laws_eqBraid.f K e1 a1 d1 c1 = some r1) :
    Calls prog 38 #[.agg [I e1, .slice A_a a1.length c_a].toArray, .agg [I d1, .slice A_b c1.length c_b].toArray] w (laws_eqBraid.post w0 L r1) := by
  unfold laws_eqBraid.f at H
  refine cG func38 Z ?_
  refine sQ (rG (GO.box (cs := [I e1, .slice A_a a1.length c_a]) HS Z Z Z Z fun b1 wd2 HS => GO.box (cs := [I d1, .slice A_b c1.length c_b]) HS Z Z Z Z fun b3 wd4 HS => aS Z (nL (rN 2 Z (rG (fL b1 0 fl43_0 Z (lB 1 HS Z na2 Z (fL b3 0 fl43_0 Z (lB 0 HS Z na2 Z (GO.neq Z Z Z Z (nL ?_)))))))))))
  rcases iE H with ⟨c5, H⟩ | ⟨c5, H⟩
  ·
   refine nB Z (nT c5) (rN 3 Z ?_)
   obtain ⟨t6, h7, H⟩ := bI H
   refine rG (fL b1 1 fl43_1 Z (lB 1 HS Z na41 Z (fL b3 1 fl43_1 Z (lB 0 HS Z na41 Z (fN Z func74 fok74.1 fok74.2 Z Z (laws_eqInt64S.calls HS (rD 2 r_a) (rD 2 r_b) h7) (fun _ wd8 ⟨h9, HS⟩ => ⟨_, h9, (GO.not Z Z Z (nL ?_))⟩))))))
   rcases iE H with ⟨c10, H⟩ | ⟨c10, H⟩
   ·
    refine nB Z (congrArg Bool.not c10) (rN 3 Z ?_)
    obtain rfl := sI H
    exact rT _ func38 Z Z ⟨Z, (HS.pk 2 [] Z)⟩
   refine yB Z (congrArg Bool.not (bnot_of c10)) (rN 2 Z ?_)
   obtain rfl := sI H
   exact rT _ func38 Z Z ⟨Z, (HS.pk 2 [] Z)⟩
  refine yB Z (nF c5) (rN 2 Z ?_)
  obtain rfl := sI H
  exact rT _ func38 Z Z ⟨Z, (HS.pk 2 [] Z)⟩
theorem laws_eqMove.calls {f1 e1 : Int} {a1 c1 : Int} {d1 g1 : Int} {r1 : Bool} (HS : St w0 w (L)) (H : laws_eqMove.f f1 e1 a1 c1 d1 g1 = some r1) :
    Calls prog 109 #[.agg [I f1, I e1, I a1].toArray, .agg [I c1, I d1, I g1].toArray] w (laws_eqMove.post w0 L r1) := by
  unfold laws_eqMove.f at H
  refine cG func109 Z ?_
  refine sQ (rG (GO.box (cs := [I f1, I e1, I a1]) HS Z Z Z Z fun b1 wd2 HS => GO.box (cs := [I c1, I d1, I g1]) HS Z Z Z Z fun b3 wd4 HS => aS Z (nL (rN 2 Z (rG (fL b1 0 fl110_0 Z (lB 1 HS Z na2 Z (fL b3 0 fl110_0 Z (lB 0 HS Z na2 Z (GO.neq Z Z Z Z (nL ?_)))))))))))
  rcases iE H with ⟨c5, H⟩ | ⟨c5, H⟩
  ·
   refine nB Z (nT c5) (rN 3 Z (rG (fL b1 1 fl110_1 Z (lB 1 HS Z na2 Z (fL b3 1 fl110_1 Z (lB 0 HS Z na2 Z (GO.neq Z Z Z Z (nL ?_))))))))
   rcases iE H with ⟨c6, H⟩ | ⟨c6, H⟩
   ·
    refine nB Z (nT c6) (rN 3 Z (rG (fL b1 2 fl110_2 Z (lB 1 HS Z na2 Z (fL b3 2 fl110_2 Z (lB 0 HS Z na2 Z (GO.neq Z Z Z Z (nL ?_))))))))
    rcases iE H with ⟨c7, H⟩ | ⟨c7, H⟩
    ·
     refine nB Z (nT c7) (rN 3 Z ?_)
     obtain rfl := sI H
     exact rT _ func109 Z Z ⟨Z, (HS.pk 2 [] Z)⟩
    refine yB Z (nF c7) (rN 2 Z ?_)
    obtain rfl := sI H
    exact rT _ func109 Z Z ⟨Z, (HS.pk 2 [] Z)⟩
   refine yB Z (nF c6) (rN 2 Z ?_)
   obtain rfl := sI H
   exact rT _ func109 Z Z ⟨Z, (HS.pk 2 [] Z)⟩
  refine yB Z (nF c5) (rN 2 Z ?_)
  obtain rfl := sI H
  exact rT _ func109 Z Z ⟨Z, (HS.pk 2 [] Z)⟩
theorem laws_eqMoveS.calls {a_ b_ : List GMove} {A_a : Option Addr} {c_a : Nat} {A_b : Option Addr} {c_b : Nat} {r1 : Bool} (HS : St w0 w (L)) (r_a : RdIn w0 L T_GMove A_a c_a (fun _ => ()) a_) (r_b : RdIn w0 L T_GMove A_b c_b (fun _ => ()) b_) (H : laws_eqMoveS.f K a_ b_ = some r1) :
    Calls prog 75 #[.slice A_a a_.length c_a, .slice A_b b_.length c_b] w (laws_eqMoveS.post w0 L r1) := by
  unfold laws_eqMoveS.f at H
  refine cG func75 Z ?_
  refine rN 4 Z (rG (mV Z (lS Z Z underlying44 Z (mV Z (lS Z Z underlying44 Z (GO.neq Z Z Z Z (nL ?_)))))))
  rcases iE H with ⟨c1, H⟩ | ⟨c1, H⟩
  ·
   refine nB Z (nT c1) (rN 6 Z ?_)
   refine G.name (fun e1 f1 => ?_)
   have g1 : ∀ a1, a1 ≤ K → ∀ (b1 : Int) (w : World), laws_eqMoveS.l1 K a1 a_ b_ b1 = some r1 → St w0 w (L) → G prog 75 27 [(0, .slice A_a a_.length c_a), (1, .slice A_b b_.length c_b), (5, I b1)] e1 w (laws_eqMoveS.post w0 L r1) := by
    intro a1
    induction a1 using Nat.strongRecOn with
    | _ a1 d1 =>
     intro h1 b1 w H HS
     cases a1 with
     | zero => rw [laws_eqMoveS.l1] at H; cases H
     | succ i1 =>
      rw [laws_eqMoveS.l1] at H
      subst f1
      refine rN 2 Z (rG (pS 2 Z (lS Z Z underlying44 Z (GO.lss Z Z Z Z (nL ?_)))))
      rcases iE H with ⟨c27, H⟩ | ⟨c27, H⟩
      ·
       refine yB Z (tT c27) (rN 4 Z ?_)
       obtain ⟨c28, H⟩ := iN H
       obtain ⟨e29, h30, H⟩ := bnd_elim H
       obtain ⟨c31, H⟩ := iN H
       obtain ⟨e32, h33, H⟩ := bnd_elim H
       obtain ⟨t34, h35, H⟩ := bI H
       refine G.lex mixed [0, 1, 2, 4, 5, 6, 3, 7, 8, 9] (by kernel_rfl) ?_
       replace HS := HS.drew
       refine GX.ps 2 Z (qL Z Z (fun _ _ g => GO.ix Z Z Z underlying44 sz110 (r_a _ HS).2.2.1 c28.1 c28.2 Z g) Z (GX.ps 2 Z (qL Z Z (fun _ _ g => GO.ix Z Z Z underlying44 sz110 (r_b _ HS).2.2.1 c31.1 c31.2 Z g) Z (GX.l1 Z Z Z (fun _ g => GO.ldRdA (T := T_GMove) (n := b1.toNat) HS r_a Z Z (getD_eq (ltN c28) h30) ag110 Z g) Z (GX.l1 Z Z Z (fun _ g => GO.ldRdA (T := T_GMove) (n := b1.toNat) HS r_b Z Z (getD_eq (ltN c31) h33) ag110 Z g) Z (GX.l2 Z (fN Z func109 fok109.1 fok109.2 Z Z (laws_eqMove.calls HS  h35) (fun _ wd36 ⟨h37, HS⟩ => ⟨_, h37, (GX.fin tv (GX.ps 1 Z (GX.nil ?_)))⟩))))))))
       rcases iE H with ⟨c38, H⟩ | ⟨c38, H⟩
       ·
        refine nB Z (congrArg Bool.not c38) (rN 4 Z (G.weak ?_ (d1 i1 (Nat.lt_succ_of_le (lR _)) (Nat.le_of_succ_le h1) _ _ H HS)))
        exact ⟨Z, Z, Z, tv⟩
       refine yB Z (congrArg Bool.not (bnot_of c38)) (rN 2 Z ?_)
       obtain rfl := sI H
       exact rT _ func75 Z Z ⟨Z, HS⟩
      refine nB Z (tF c27) (rN 3 Z ?_)
      obtain rfl := sI H
      exact rT _ func75 Z Z ⟨Z, HS⟩
   refine G.weak ?_ (g1 K (lR _) _ _ H HS)
   exact ⟨Z, Z, Z, tv⟩
  refine yB Z (nF c1) (rN 2 Z ?_)
  obtain rfl := sI H
  exact rT _ func75 Z Z ⟨Z, HS⟩
theorem laws_eqCertificate.calls {i1 h1 : Int} {a1 : List GMove} {c1 g1 : List Int} {m1 k1 : Int} {e1 : List GMove} {d1 f1 : List Int} {A_a : Option Addr} {c_a : Nat} {A_b : Option Addr} {c_b : Nat} {A_c : Option Addr} {c_c : Nat} {A_d : Option Addr} {c_d : Nat} {A_e : Option Addr} {c_e : Nat} {A_f : Option Addr} {c_f : Nat} {r1 : Bool} (HS : St w0 w (L)) (r_a : RdIn w0 L T_GMove A_a c_a (fun _ => ()) a1) (r_b : RdIn w0 L (TInt .i64) A_b c_b (fun _ => ()) c1) (r_c : RdIn w0 L (TInt .i64) A_c c_c (fun _ => ()) g1) (r_d : RdIn w0 L T_GMove A_d c_d (fun _ => ()) e1) (r_e : RdIn w0 L (TInt .i64) A_e c_e (fun _ => ()) d1) (r_f : RdIn w0 L (TInt .i64) A_f c_f (fun _ => ()) f1) (H : laws_eqCertificate.f K i1 h1 a1 c1 g1 m1 k1 e1 d1 f1 = some r1) :
    Calls prog 39 #[.agg [I i1, I h1, .slice A_a a1.length c_a, .slice A_b c1.length c_b, .slice A_c g1.length c_c].toArray, .agg [I m1, I k1, .slice A_d e1.length c_d, .slice A_e d1.length c_e, .slice A_f f1.length c_f].toArray] w (laws_eqCertificate.post w0 L r1) := by
  unfold laws_eqCertificate.f at H
  refine cG func39 Z ?_
  refine sQ (rG (GO.box (cs := [I i1, I h1, .slice A_a a1.length c_a, .slice A_b c1.length c_b, .slice A_c g1.length c_c]) HS Z Z Z Z fun b1 wd2 HS => GO.box (cs := [I m1, I k1, .slice A_d e1.length c_d, .slice A_e d1.length c_e, .slice A_f f1.length c_f]) HS Z Z Z Z fun b3 wd4 HS => aS Z (nL (rN 2 Z (rG (fL b1 0 fl46_0 Z (lB 1 HS Z na2 Z (fL b3 0 fl46_0 Z (lB 0 HS Z na2 Z (GO.neq Z Z Z Z (nL ?_)))))))))))
  rcases iE H with ⟨c5, H⟩ | ⟨c5, H⟩
  ·
   refine nB Z (nT c5) (rN 3 Z (rG (fL b1 1 fl46_1 Z (lB 1 HS Z na2 Z (fL b3 1 fl46_1 Z (lB 0 HS Z na2 Z (GO.neq Z Z Z Z (nL ?_))))))))
   rcases iE H with ⟨c6, H⟩ | ⟨c6, H⟩
   ·
    refine nB Z (nT c6) (rN 3 Z ?_)
    obtain ⟨t7, h8, H⟩ := bI H
    refine rG (fL b1 2 fl46_2 Z (lB 1 HS Z na44 Z (fL b3 2 fl46_2 Z (lB 0 HS Z na44 Z (fN Z func75 fok75.1 fok75.2 Z Z (laws_eqMoveS.calls HS (rD 2 r_a) (rD 2 r_d) h8) (fun _ wd9 ⟨h10, HS⟩ => ⟨_, h10, (GO.not Z Z Z (nL ?_))⟩))))))
    rcases iE H with ⟨c11, H⟩ | ⟨c11, H⟩
    ·
     refine nB Z (congrArg Bool.not c11) (rN 3 Z ?_)
     obtain ⟨t12, h13, H⟩ := bI H
     refine rG (fL b1 3 fl46_3 Z (lB 1 HS Z na41 Z (fL b3 3 fl46_3 Z (lB 0 HS Z na41 Z (fN Z func74 fok74.1 fok74.2 Z Z (laws_eqInt64S.calls HS (rD 2 r_b) (rD 2 r_e) h13) (fun _ wd14 ⟨h15, HS⟩ => ⟨_, h15, (GO.not Z Z Z (nL ?_))⟩))))))
     rcases iE H with ⟨c16, H⟩ | ⟨c16, H⟩
     ·
      refine nB Z (congrArg Bool.not c16) (rN 3 Z ?_)
      obtain ⟨t17, h18, H⟩ := bI H
      refine rG (fL b1 4 fl46_4 Z (lB 1 HS Z na41 Z (fL b3 4 fl46_4 Z (lB 0 HS Z na41 Z (fN Z func74 fok74.1 fok74.2 Z Z (laws_eqInt64S.calls HS (rD 2 r_c) (rD 2 r_f) h18) (fun _ wd19 ⟨h20, HS⟩ => ⟨_, h20, (GO.not Z Z Z (nL ?_))⟩))))))
      rcases iE H with ⟨c21, H⟩ | ⟨c21, H⟩
      ·
       refine nB Z (congrArg Bool.not c21) (rN 3 Z ?_)
       obtain rfl := sI H
       exact rT _ func39 Z Z ⟨Z, (HS.pk 2 [] Z)⟩
      refine yB Z (congrArg Bool.not (bnot_of c21)) (rN 2 Z ?_)
      obtain rfl := sI H
      exact rT _ func39 Z Z ⟨Z, (HS.pk 2 [] Z)⟩
     refine yB Z (congrArg Bool.not (bnot_of c16)) (rN 2 Z ?_)
     obtain rfl := sI H
     exact rT _ func39 Z Z ⟨Z, (HS.pk 2 [] Z)⟩
    refine yB Z (congrArg Bool.not (bnot_of c11)) (rN 2 Z ?_)
    obtain rfl := sI H
    exact rT _ func39 Z Z ⟨Z, (HS.pk 2 [] Z)⟩
   refine yB Z (nF c6) (rN 2 Z ?_)
   obtain rfl := sI H
   exact rT _ func39 Z Z ⟨Z, (HS.pk 2 [] Z)⟩
  refine yB Z (nF c5) (rN 2 Z ?_)
  obtain rfl := sI H
  exact rT _ func39 Z Z ⟨Z, (HS.pk 2 [] Z)⟩
theorem laws_eqItem.calls {a2 : ByteArray} {b2 : Int} {o1 : List (List GFace)} {a1 : List GCrossing} {t1 x1 : Int} {c1 : List Int} {p1 s1 : Int} {n1 : List GMove} {m1 i1 : List Int} {c2 : ByteArray} {z1 : Int} {e1 : List (List GFace)} {g1 : List GCrossing} {u1 q1 : Int} {d1 : List Int} {y1 v1 : Int} {h1 : List GMove} {f1 k1 : List Int} {A_a : Option Addr} {c_a : Nat} {y_a : Nat → (Ty.slice 140 T_GFace).Lay} {A_b : Option Addr} {c_b : Nat} {A_c : Option Addr} {c_c : Nat} {A_d : Option Addr} {c_d : Nat} {A_e : Option Addr} {c_e : Nat} {A_f : Option Addr} {c_f : Nat} {A_g : Option Addr} {c_g : Nat} {y_g : Nat → (Ty.slice 140 T_GFace).Lay} {A_h : Option Addr} {c_h : Nat} {A_i : Option Addr} {c_i : Nat} {A_j : Option Addr} {c_j : Nat} {A_k : Option Addr} {c_k : Nat} {A_l : Option Addr} {c_l : Nat} {r1 : Bool} (HS : St w0 w (L)) (r_a : RdIn w0 L (Ty.slice 140 T_GFace) A_a c_a y_a o1) (r_b : RdIn w0 L T_GCrossing A_b c_b (fun _ => ()) a1) (r_c : RdIn w0 L (TInt .i64) A_c c_c (fun _ => ()) c1) (r_d : RdIn w0 L T_GMove A_d c_d (fun _ => ()) n1) (r_e : RdIn w0 L (TInt .i64) A_e c_e (fun _ => ()) m1) (r_f : RdIn w0 L (TInt .i64) A_f c_f (fun _ => ()) i1) (r_g : RdIn w0 L (Ty.slice 140 T_GFace) A_g c_g y_g e1) (r_h : RdIn w0 L T_GCrossing A_h c_h (fun _ => ()) g1) (r_i : RdIn w0 L (TInt .i64) A_i c_i (fun _ => ()) d1) (r_j : RdIn w0 L T_GMove A_j c_j (fun _ => ()) h1) (r_k : RdIn w0 L (TInt .i64) A_k c_k (fun _ => ()) f1) (r_l : RdIn w0 L (TInt .i64) A_l c_l (fun _ => ()) k1) (H : laws_eqItem.f K a2 b2 o1 a1 t1 x1 c1 p1 s1 n1 m1 i1 c2 z1 e1 g1 u1 q1 d1 y1 v1 h1 f1 k1 = some r1) :
    Calls prog 14 #[.agg [.string a2, I b2, .slice A_a o1.length c_a, .slice A_b a1.length c_b, I t1, I x1, .slice A_c c1.length c_c, I p1, I s1, .slice A_d n1.length c_d, .slice A_e m1.length c_e, .slice A_f i1.length c_f].toArray, .agg [.string c2, I z1, .slice A_g e1.length c_g, .slice A_h g1.length c_h, I u1, I q1, .slice A_i d1.length c_i, I y1, I v1, .slice A_j h1.length c_j, .slice A_k f1.length c_k, .slice A_l k1.length c_l].toArray] w (laws_eqItem.post w0 L r1) := by
  unfold laws_eqItem.f at H
  refine cG func14 Z ?_
  refine sQ (rG (GO.box (cs := [.string a2, I b2, .slice A_a o1.length c_a, .slice A_b a1.length c_b, I t1, I x1, .slice A_c c1.length c_c, I p1, I s1, .slice A_d n1.length c_d, .slice A_e m1.length c_e, .slice A_f i1.length c_f]) HS Z Z Z Z fun b1 wd2 HS => GO.box (cs := [.string c2, I z1, .slice A_g e1.length c_g, .slice A_h g1.length c_h, I u1, I q1, .slice A_i d1.length c_i, I y1, I v1, .slice A_j h1.length c_j, .slice A_k f1.length c_k, .slice A_l k1.length c_l]) HS Z Z Z Z fun b3 wd4 HS => aS Z (nL (rN 2 Z (rG (fL b1 0 fl48_0 Z (lB 1 HS Z na9 Z (fL b3 0 fl48_0 Z (lB 0 HS Z na9 Z (GO.neqS Z Z Z Z (nL ?_)))))))))))
  rcases iE H with ⟨c5, H⟩ | ⟨c5, H⟩
  ·
   refine nB Z (congrArg Bool.not c5) (rN 3 Z (rG (fL b1 1 fl48_1 Z (lB 1 HS Z na2 Z (fL b3 1 fl48_1 Z (lB 0 HS Z na2 Z (GO.neq Z Z Z Z (nL ?_))))))))
   rcases iE H with ⟨c6, H⟩ | ⟨c6, H⟩
   ·
    refine nB Z (nT c6) (rN 3 Z ?_)
    obtain ⟨t7, h8, H⟩ := bI H
    refine rG (fL b1 2 fl48_2 Z (GO.ldBoxA (j := 1) ([.slice A_a o1.length c_a]) HS Z Z Z Z ag37 Z (fL b3 2 fl48_2 Z (GO.ldBoxA (j := 0) ([.slice A_g e1.length c_g]) HS Z Z Z Z ag37 Z (fN Z func36 fok36.1 fok36.2 Z Z (laws_eqTriangulation.calls HS (rD 2 r_a) (rD 2 r_g) h8) (fun _ wd9 ⟨h10, HS⟩ => ⟨_, h10, (GO.not Z Z Z (nL ?_))⟩))))))
    rcases iE H with ⟨c11, H⟩ | ⟨c11, H⟩
    ·
     refine nB Z (congrArg Bool.not c11) (rN 3 Z ?_)
     obtain ⟨t12, h13, H⟩ := bI H
     refine rG (fL b1 3 fl48_3 Z (GO.ldBoxA (j := 1) ([.slice A_b a1.length c_b, I t1]) HS Z Z Z Z ag40 Z (fL b3 3 fl48_3 Z (GO.ldBoxA (j := 0) ([.slice A_h g1.length c_h, I u1]) HS Z Z Z Z ag40 Z (fN Z func37 fok37.1 fok37.2 Z Z (laws_eqDiagram.calls HS (rD 2 r_b) (rD 2 r_h) h13) (fun _ wd14 ⟨h15, HS⟩ => ⟨_, h15, (GO.not Z Z Z (nL ?_))⟩))))))
     rcases iE H with ⟨c16, H⟩ | ⟨c16, H⟩
     ·
      refine nB Z (congrArg Bool.not c16) (rN 3 Z ?_)
      obtain ⟨t17, h18, H⟩ := bI H
      refine rG (fL b1 5 fl48_4 Z (GO.ldBoxA (j := 1) ([I x1, .slice A_c c1.length c_c]) HS Z Z Z Z ag43 Z (fL b3 5 fl48_4 Z (GO.ldBoxA (j := 0) ([I q1, .slice A_i d1.length c_i]) HS Z Z Z Z ag43 Z (fN Z func38 fok38.1 fok38.2 Z Z (laws_eqBraid.calls HS (rD 2 r_c) (rD 2 r_i) h18) (fun _ wd19 ⟨h20, HS⟩ => ⟨_, h20, (GO.not Z Z Z (nL ?_))⟩))))))
      rcases iE H with ⟨c21, H⟩ | ⟨c21, H⟩
      ·
       refine nB Z (congrArg Bool.not c21) (rN 3 Z ?_)
       obtain ⟨t22, h23, H⟩ := bI H
       refine rG (fL b1 7 fl48_5 Z (GO.ldBoxA (j := 1) ([I p1, I s1, .slice A_d n1.length c_d, .slice A_e m1.length c_e, .slice A_f i1.length c_f]) HS Z Z Z Z ag46 Z (fL b3 7 fl48_5 Z (GO.ldBoxA (j := 0) ([I y1, I v1, .slice A_j h1.length c_j, .slice A_k f1.length c_k, .slice A_l k1.length c_l]) HS Z Z Z Z ag46 Z (fN Z func39 fok39.1 fok39.2 Z Z (laws_eqCertificate.calls HS (rD 2 r_d) (rD 2 r_e) (rD 2 r_f) (rD 2 r_j) (rD 2 r_k) (rD 2 r_l) h23) (fun _ wd24 ⟨h25, HS⟩ => ⟨_, h25, (GO.not Z Z Z (nL ?_))⟩))))))
       rcases iE H with ⟨c26, H⟩ | ⟨c26, H⟩
       ·
        refine nB Z (congrArg Bool.not c26) (rN 3 Z ?_)
        obtain rfl := sI H
        exact rT _ func14 Z Z ⟨Z, (HS.pk 2 [] Z)⟩
       refine yB Z (congrArg Bool.not (bnot_of c26)) (rN 2 Z ?_)
       obtain rfl := sI H
       exact rT _ func14 Z Z ⟨Z, (HS.pk 2 [] Z)⟩
      refine yB Z (congrArg Bool.not (bnot_of c21)) (rN 2 Z ?_)
      obtain rfl := sI H
      exact rT _ func14 Z Z ⟨Z, (HS.pk 2 [] Z)⟩
     refine yB Z (congrArg Bool.not (bnot_of c16)) (rN 2 Z ?_)
     obtain rfl := sI H
     exact rT _ func14 Z Z ⟨Z, (HS.pk 2 [] Z)⟩
    refine yB Z (congrArg Bool.not (bnot_of c11)) (rN 2 Z ?_)
    obtain rfl := sI H
    exact rT _ func14 Z Z ⟨Z, (HS.pk 2 [] Z)⟩
   refine yB Z (nF c6) (rN 2 Z ?_)
   obtain rfl := sI H
   exact rT _ func14 Z Z ⟨Z, (HS.pk 2 [] Z)⟩
  refine yB Z (congrArg Bool.not (bnot_of c5)) (rN 2 Z ?_)
  obtain rfl := sI H
  exact rT _ func14 Z Z ⟨Z, (HS.pk 2 [] Z)⟩
theorem laws_eqItemS.calls {a_ b_ : List GItem} {A_a : Option Addr} {c_a : Nat} {y_a : Nat → T_GItem_47.Lay} {A_b : Option Addr} {c_b : Nat} {y_b : Nat → T_GItem_47.Lay} {r1 : Bool} (HS : St w0 w (L)) (r_a : RdIn w0 L T_GItem_47 A_a c_a y_a a_) (r_b : RdIn w0 L T_GItem_47 A_b c_b y_b b_) (H : laws_eqItemS.f K a_ b_ = some r1) :
    Calls prog 30 #[.slice A_a a_.length c_a, .slice A_b b_.length c_b] w (laws_eqItemS.post w0 L r1) := by
  unfold laws_eqItemS.f at H
  refine cG func30 Z ?_
  refine rN 4 Z (rG (mV Z (lS Z Z underlying28 Z (mV Z (lS Z Z underlying28 Z (GO.neq Z Z Z Z (nL ?_)))))))
  rcases iE H with ⟨c1, H⟩ | ⟨c1, H⟩
  ·
   refine nB Z (nT c1) (rN 6 Z ?_)
   refine G.name (fun e1 f1 => ?_)
   have g1 : ∀ a1, a1 ≤ K → ∀ (b1 : Int) (w : World), laws_eqItemS.l1 K a1 a_ b_ b1 = some r1 → St w0 w (L) → G prog 30 27 [(0, .slice A_a a_.length c_a), (1, .slice A_b b_.length c_b), (5, I b1)] e1 w (laws_eqItemS.post w0 L r1) := by
    intro a1
    induction a1 using Nat.strongRecOn with
    | _ a1 d1 =>
     intro h1 b1 w H HS
     cases a1 with
     | zero => rw [laws_eqItemS.l1] at H; cases H
     | succ i1 =>
      rw [laws_eqItemS.l1] at H
      subst f1
      refine rN 2 Z (rG (pS 2 Z (lS Z Z underlying28 Z (GO.lss Z Z Z Z (nL ?_)))))
      rcases iE H with ⟨c27, H⟩ | ⟨c27, H⟩
      ·
       refine yB Z (tT c27) (rN 4 Z ?_)
       obtain ⟨c28, H⟩ := iN H
       obtain ⟨e29, h30, H⟩ := bnd_elim H
       obtain ⟨c31, H⟩ := iN H
       obtain ⟨e32, h33, H⟩ := bnd_elim H
       obtain ⟨t34, h35, H⟩ := bI H
       refine G.lex mixed [0, 1, 2, 4, 5, 6, 3, 7, 8, 9] (by kernel_rfl) ?_
       replace HS := HS.drew
       refine GX.ps 2 Z (qL Z Z (fun _ _ g => GO.ix Z Z Z underlying28 sz48 (r_a _ HS).2.2.1 c28.1 c28.2 Z g) Z (GX.ps 2 Z (qL Z Z (fun _ _ g => GO.ix Z Z Z underlying28 sz48 (r_b _ HS).2.2.1 c31.1 c31.2 Z g) Z (GX.l1 Z Z Z (fun _ g => GO.ldRdA (T := T_GItem_47) (n := b1.toNat) HS r_a Z Z (getD_eq (ltN c28) h30) ag48 Z g) Z (GX.l1 Z Z Z (fun _ g => GO.ldRdA (T := T_GItem_47) (n := b1.toNat) HS r_b Z Z (getD_eq (ltN c31) h33) ag48 Z g) Z (GX.l2 Z (fN Z func14 fok14.1 fok14.2 Z Z (laws_eqItem.calls HS (RdIn.fld r_a (getD_eq (ltN c28) h30) (fun _ h => h.2.2.1)) (RdIn.fld r_a (getD_eq (ltN c28) h30) (fun _ h => h.2.2.2.1)) (RdIn.fld r_a (getD_eq (ltN c28) h30) (fun _ h => h.2.2.2.2.2.2.1)) (RdIn.fld r_a (getD_eq (ltN c28) h30) (fun _ h => h.2.2.2.2.2.2.2.2.2.1)) (RdIn.fld r_a (getD_eq (ltN c28) h30) (fun _ h => h.2.2.2.2.2.2.2.2.2.2.1)) (RdIn.fld r_a (getD_eq (ltN c28) h30) (fun _ h => h.2.2.2.2.2.2.2.2.2.2.2)) (RdIn.fld r_b (getD_eq (ltN c31) h33) (fun _ h => h.2.2.1)) (RdIn.fld r_b (getD_eq (ltN c31) h33) (fun _ h => h.2.2.2.1)) (RdIn.fld r_b (getD_eq (ltN c31) h33) (fun _ h => h.2.2.2.2.2.2.1)) (RdIn.fld r_b (getD_eq (ltN c31) h33) (fun _ h => h.2.2.2.2.2.2.2.2.2.1)) (RdIn.fld r_b (getD_eq (ltN c31) h33) (fun _ h => h.2.2.2.2.2.2.2.2.2.2.1)) (RdIn.fld r_b (getD_eq (ltN c31) h33) (fun _ h => h.2.2.2.2.2.2.2.2.2.2.2)) h35) (fun _ wd36 ⟨h37, HS⟩ => ⟨_, h37, (GX.fin tv (GX.ps 1 Z (GX.nil ?_)))⟩))))))))
       rcases iE H with ⟨c38, H⟩ | ⟨c38, H⟩
       ·
        refine nB Z (congrArg Bool.not c38) (rN 4 Z (G.weak ?_ (d1 i1 (Nat.lt_succ_of_le (lR _)) (Nat.le_of_succ_le h1) _ _ H HS)))
        exact ⟨Z, Z, Z, tv⟩
       refine yB Z (congrArg Bool.not (bnot_of c38)) (rN 2 Z ?_)
       obtain rfl := sI H
       exact rT _ func30 Z Z ⟨Z, HS⟩
      refine nB Z (tF c27) (rN 3 Z ?_)
      obtain rfl := sI H
      exact rT _ func30 Z Z ⟨Z, HS⟩
   refine G.weak ?_ (g1 K (lR _) _ _ H HS)
   exact ⟨Z, Z, Z, tv⟩
  refine yB Z (nF c1) (rN 2 Z ?_)
  obtain rfl := sI H
  exact rT _ func30 Z Z ⟨Z, HS⟩
theorem laws_eqItemSS.calls {a_ b_ : List (List GItem)} {A_a : Option Addr} {c_a : Nat} {y_a : Nat → (Ty.slice 48 T_GItem_47).Lay} {A_b : Option Addr} {c_b : Nat} {y_b : Nat → (Ty.slice 48 T_GItem_47).Lay} {r1 : Bool} (HS : St w0 w (L)) (r_a : RdIn w0 L (Ty.slice 48 T_GItem_47) A_a c_a y_a a_) (r_b : RdIn w0 L (Ty.slice 48 T_GItem_47) A_b c_b y_b b_) (H : laws_eqItemSS.f K a_ b_ = some r1) :
    Calls prog 31 #[.slice A_a a_.length c_a, .slice A_b b_.length c_b] w (laws_eqItemSS.post w0 L r1) := by
  unfold laws_eqItemSS.f at H
  refine cG func31 Z ?_
  refine rN 4 Z (rG (mV Z (lS Z Z underlying29 Z (mV Z (lS Z Z underlying29 Z (GO.neq Z Z Z Z (nL ?_)))))))
  rcases iE H with ⟨c1, H⟩ | ⟨c1, H⟩
  ·
   refine nB Z (nT c1) (rN 6 Z ?_)
   refine G.name (fun e1 f1 => ?_)
   have g1 : ∀ a1, a1 ≤ K → ∀ (b1 : Int) (w : World), laws_eqItemSS.l1 K a1 a_ b_ b1 = some r1 → St w0 w (L) → G prog 31 27 [(0, .slice A_a a_.length c_a), (1, .slice A_b b_.length c_b), (5, I b1)] e1 w (laws_eqItemSS.post w0 L r1) := by
    intro a1
    induction a1 using Nat.strongRecOn with
    | _ a1 d1 =>
     intro h1 b1 w H HS
     cases a1 with
     | zero => rw [laws_eqItemSS.l1] at H; cases H
     | succ i1 =>
      rw [laws_eqItemSS.l1] at H
      subst f1
      refine rN 2 Z (rG (pS 2 Z (lS Z Z underlying29 Z (GO.lss Z Z Z Z (nL ?_)))))
      rcases iE H with ⟨c19, H⟩ | ⟨c19, H⟩
      ·
       refine yB Z (tT c19) (rN 4 Z ?_)
       obtain ⟨c20, H⟩ := iN H
       obtain ⟨c21, H⟩ := iN H
       obtain ⟨t22, h23, H⟩ := bI H
       refine G.lex mixed [0, 1, 2, 4, 5, 6, 3, 7, 8, 9] (by kernel_rfl) ?_
       replace HS := HS.drew
       refine GX.ps 2 Z (qL Z Z (fun _ _ g => GO.ix Z Z Z underlying29 sz28 (r_a _ HS).2.2.1 c20.1 c20.2 Z g) Z (GX.ps 2 Z (qL Z Z (fun _ _ g => GO.ix Z Z Z underlying29 sz28 (r_b _ HS).2.2.1 c21.1 c21.2 Z g) Z (GX.l1 Z Z Z (fun _ g => GO.ldRd (T := (Ty.slice 48 T_GItem_47)) (n := b1.toNat) (o := 0) HS r_a Z Z (getD_some (d := []) (ltN c20)) Z Z na28 Z g) Z (GX.l1 Z Z Z (fun _ g => GO.ldRd (T := (Ty.slice 48 T_GItem_47)) (n := b1.toNat) (o := 0) HS r_b Z Z (getD_some (d := []) (ltN c21)) Z Z na28 Z g) Z (GX.l2 Z (fN Z func30 fok30.1 fok30.2 Z Z (laws_eqItemS.calls HS (RdIn.elem r_a c20.1 c20.2) (RdIn.elem r_b c21.1 c21.2) h23) (fun _ wd24 ⟨h25, HS⟩ => ⟨_, h25, (GX.fin tv (GX.ps 1 Z (GX.nil ?_)))⟩))))))))
       rcases iE H with ⟨c26, H⟩ | ⟨c26, H⟩
       ·
        refine nB Z (congrArg Bool.not c26) (rN 4 Z (G.weak ?_ (d1 i1 (Nat.lt_succ_of_le (lR _)) (Nat.le_of_succ_le h1) _ _ H HS)))
        exact ⟨Z, Z, Z, tv⟩
       refine yB Z (congrArg Bool.not (bnot_of c26)) (rN 2 Z ?_)
       obtain rfl := sI H
       exact rT _ func31 Z Z ⟨Z, HS⟩
      refine nB Z (tF c19) (rN 3 Z ?_)
      obtain rfl := sI H
      exact rT _ func31 Z Z ⟨Z, HS⟩
   refine G.weak ?_ (g1 K (lR _) _ _ H HS)
   exact ⟨Z, Z, Z, tv⟩
  refine yB Z (nF c1) (rN 2 Z ?_)
  obtain rfl := sI H
  exact rT _ func31 Z Z ⟨Z, HS⟩
theorem laws_eqBench.calls {d1 : List GItem} {e1 g1 : List (List GItem)} {a1 : List GItem} {c1 f1 : List (List GItem)} {A_a : Option Addr} {c_a : Nat} {y_a : Nat → T_GItem_47.Lay} {A_b : Option Addr} {c_b : Nat} {y_b : Nat → (Ty.slice 48 T_GItem_47).Lay} {A_c : Option Addr} {c_c : Nat} {y_c : Nat → (Ty.slice 48 T_GItem_47).Lay} {A_d : Option Addr} {c_d : Nat} {y_d : Nat → T_GItem_47.Lay} {A_e : Option Addr} {c_e : Nat} {y_e : Nat → (Ty.slice 48 T_GItem_47).Lay} {A_f : Option Addr} {c_f : Nat} {y_f : Nat → (Ty.slice 48 T_GItem_47).Lay} {r1 : Bool} (HS : St w0 w (L)) (r_a : RdIn w0 L T_GItem_47 A_a c_a y_a d1) (r_b : RdIn w0 L (Ty.slice 48 T_GItem_47) A_b c_b y_b e1) (r_c : RdIn w0 L (Ty.slice 48 T_GItem_47) A_c c_c y_c g1) (r_d : RdIn w0 L T_GItem_47 A_d c_d y_d a1) (r_e : RdIn w0 L (Ty.slice 48 T_GItem_47) A_e c_e y_e c1) (r_f : RdIn w0 L (Ty.slice 48 T_GItem_47) A_f c_f y_f f1) (H : laws_eqBench.f K d1 e1 g1 a1 c1 f1 = some r1) :
    Calls prog 11 #[.agg [.slice A_a d1.length c_a, .slice A_b e1.length c_b, .slice A_c g1.length c_c].toArray, .agg [.slice A_d a1.length c_d, .slice A_e c1.length c_e, .slice A_f f1.length c_f].toArray] w (laws_eqBench.post w0 L r1) := by
  unfold laws_eqBench.f at H
  refine cG func11 Z ?_
  refine sQ (rG (GO.box (cs := [.slice A_a d1.length c_a, .slice A_b e1.length c_b, .slice A_c g1.length c_c]) HS Z Z Z Z fun b1 wd2 HS => GO.box (cs := [.slice A_d a1.length c_d, .slice A_e c1.length c_e, .slice A_f f1.length c_f]) HS Z Z Z Z fun b3 wd4 HS => aS Z (nL (rN 2 Z ?_))))
  obtain ⟨t5, h6, H⟩ := bI H
  refine rG (fL b1 0 fl31_0 Z (lB 1 HS Z na28 Z (fL b3 0 fl31_0 Z (lB 0 HS Z na28 Z (fN Z func30 fok30.1 fok30.2 Z Z (laws_eqItemS.calls HS (rD 2 r_a) (rD 2 r_d) h6) (fun _ wd7 ⟨h8, HS⟩ => ⟨_, h8, (GO.not Z Z Z (nL ?_))⟩))))))
  rcases iE H with ⟨c9, H⟩ | ⟨c9, H⟩
  ·
   refine nB Z (congrArg Bool.not c9) (rN 3 Z ?_)
   obtain ⟨t10, h11, H⟩ := bI H
   refine rG (fL b1 1 fl31_1 Z (lB 1 HS Z na29 Z (fL b3 1 fl31_1 Z (lB 0 HS Z na29 Z (fN Z func31 fok31.1 fok31.2 Z Z (laws_eqItemSS.calls HS (rD 2 r_b) (rD 2 r_e) h11) (fun _ wd12 ⟨h13, HS⟩ => ⟨_, h13, (GO.not Z Z Z (nL ?_))⟩))))))
   rcases iE H with ⟨c14, H⟩ | ⟨c14, H⟩
   ·
    refine nB Z (congrArg Bool.not c14) (rN 3 Z ?_)
    obtain ⟨t15, h16, H⟩ := bI H
    refine rG (fL b1 2 fl31_2 Z (lB 1 HS Z na29 Z (fL b3 2 fl31_2 Z (lB 0 HS Z na29 Z (fN Z func31 fok31.1 fok31.2 Z Z (laws_eqItemSS.calls HS (rD 2 r_c) (rD 2 r_f) h16) (fun _ wd17 ⟨h18, HS⟩ => ⟨_, h18, (GO.not Z Z Z (nL ?_))⟩))))))
    rcases iE H with ⟨c19, H⟩ | ⟨c19, H⟩
    ·
     refine nB Z (congrArg Bool.not c19) (rN 3 Z ?_)
     obtain rfl := sI H
     exact rT _ func11 Z Z ⟨Z, (HS.pk 2 [] Z)⟩
    refine yB Z (congrArg Bool.not (bnot_of c19)) (rN 2 Z ?_)
    obtain rfl := sI H
    exact rT _ func11 Z Z ⟨Z, (HS.pk 2 [] Z)⟩
   refine yB Z (congrArg Bool.not (bnot_of c14)) (rN 2 Z ?_)
   obtain rfl := sI H
   exact rT _ func11 Z Z ⟨Z, (HS.pk 2 [] Z)⟩
  refine yB Z (congrArg Bool.not (bnot_of c9)) (rN 2 Z ?_)
  obtain rfl := sI H
  exact rT _ func11 Z Z ⟨Z, (HS.pk 2 [] Z)⟩
theorem laws_markText.calls {k_ : Int} {r1 : ByteArray} (HS : St w0 w (L)) (H : laws_markText.f K k_ = some r1) :
    Calls prog 76 #[I k_] w (laws_markText.post w0 L r1) := by
  unfold laws_markText.f at H
  refine cG func76 Z ?_
  refine rN 5 Z ?_
  rcases iE H with ⟨c1, H⟩ | ⟨c1, H⟩
  ·
   refine yB Z (tT c1) (rN 2 Z ?_)
   obtain rfl := sI H
   exact rT _ func76 Z Z ⟨Z, HS⟩
  refine nB Z (tF c1) (rN 6 Z ?_)
  refine G.name (fun e1 f1 => ?_)
  have g1 : ∀ a1, a1 ≤ K → ∀ (k_7 : Int) (b1 : ByteArray) (w : World), laws_markText.l1 K a1 k_7 b1 = some r1 → St w0 w (L) → G prog 76 20 [(0, I k_7), (3, .string b1)] e1 w (laws_markText.post w0 L r1) := by
   intro a1
   induction a1 using Nat.strongRecOn with
   | _ a1 d1 =>
    intro h1 k_7 b1 w H HS
    cases a1 with
    | zero => rw [laws_markText.l1] at H; cases H
    | succ i1 =>
     rw [laws_markText.l1] at H
     subst f1
     refine rN 3 Z ?_
     rcases iE H with ⟨c14, H⟩ | ⟨c14, H⟩
     ·
      refine yB Z (tT c14) (rN 3 Z ?_)
      obtain ⟨c17, H⟩ := iN H
      refine rG (mV Z (GO.rem Z Z Z (by decide) Z (GO.add Z Z Z Z (GO.conv Z Z underlying3 underlying5 Z (GO.buildS (el := 5) ([.int .u8 (IntKind.wrap .u8 (w64 (48 + (k_7.tmod 10))))]) HS Z Z (fun _ => by kernel_rfl) Z fun b15 wd16 HS => ?_)))))
      replace HS := HS.boxRow (T := (TInt .u8)) (j := 0) Z flat_flat (fun _ => ()) ([IntKind.wrap .u8 (w64 (48 + (k_7.tmod 10)))] : List Int) Z (bndL Z)
      refine GO.lenC (t := 12) (m := ([IntKind.wrap .u8 (w64 (48 + (k_7.tmod 10)))] : List Int).length) (c' := ([IntKind.wrap .u8 (w64 (48 + (k_7.tmod 10)))] : List Int).length) Z Z Z (GO.bytesStr HS (RdIn.own (j := 0) Z) Z Z underlying147 underlying5 underlying9 Z (mV Z (GO.catS Z Z Z c17 Z (aS Z (nL (rG (mV Z (GO.quo Z Z Z (by decide) Z (aS Z (nL (rN 2 Z (G.weak ?_ (d1 i1 (Nat.lt_succ_of_le (lR _)) (Nat.le_of_succ_le h1) _ _ _ H (HS.pk 1 [] Z))))))))))))))
      exact ⟨Z, Z, tv⟩
     refine nB Z (tF c14) (rN 2 Z ?_)
     obtain ⟨c18, H⟩ := iN H
     refine rG (mV Z (GO.catS Z Z Z c18 Z (aS Z (nL ?_))))
     obtain rfl := sI H
     exact rT _ func76 Z Z ⟨Z, HS⟩
  refine G.weak ?_ (g1 K (lR _) _ _ _ H HS)
  exact ⟨Z, Z, tv⟩
theorem laws_markFaceS.calls {a_ : List GFace} {k_ : Int} {A_a : Option Addr} {c_a : Nat} {r1 : Int} {r2 : List GFace} (HS : St w0 w (Own T_GFace 140 A_a c_a (fun _ => ()) a_ :: L)) (H : laws_markFaceS.f K a_ k_ = some (r1, r2)) :
    Calls prog 110 #[.slice A_a a_.length c_a, I k_] w (laws_markFaceS.post w0 L A_a c_a r1 r2) := by
  unfold laws_markFaceS.f at H
  refine cG func110 Z ?_
  refine rN 7 Z ?_
  refine G.name (fun e1 f1 => ?_)
  have g1 : ∀ c1, c1 ≤ K → ∀ (x10 : List GFace) (a1 b1 : Int) (w : World), laws_markFaceS.l1 K c1 x10 a1 b1 = some (r1, r2) → St w0 w (Own T_GFace 140 A_a c_a (fun _ => ()) x10 :: L) → G prog 110 27 [(0, .slice A_a x10.length c_a), (1, I a1), (5, I b1)] e1 w (laws_markFaceS.post w0 L A_a c_a r1 r2) := by
   intro c1
   induction c1 using Nat.strongRecOn with
   | _ c1 d1 =>
    intro h1 x10 a1 b1 w H HS
    cases c1 with
    | zero => rw [laws_markFaceS.l1] at H; cases H
    | succ i1 =>
     rw [laws_markFaceS.l1] at H
     subst f1
     refine rN 2 Z (rG (pS 2 Z (lS Z Z underlying136 Z (GO.lss Z Z Z Z (nL ?_)))))
     rcases iE H with ⟨c22, H⟩ | ⟨c22, H⟩
     ·
      refine yB Z (tT c22) (rN 4 Z ?_)
      obtain ⟨c23, H⟩ := iN H
      obtain ⟨e25, h26, H⟩ := bnd_elim H
      refine rG (pS 3 Z (GO.ix Z Z Z underlying136 sz140 ((RdIn.own (j := 0) Z) _ HS).2.2.1 c23.1 c23.2 Z (GO.fld (ea A_a (b1.toNat * 2)) Z Z fl140_0 Z Z (GO.stRow (T := T_GFace) (j := 0) (n := b1.toNat) (o := 0) (vs := [I a1]) ({ e25 with Tet := a1 }) HS Z flat_flat Z Z Z Z (htN na2 Z) Z (getD_eq (ltN c23) h26) Z Z fun wd24 HS => nL (G.len (t := 0) (m := (x10.set b1.toNat ({ e25 with Tet := a1 })).length) Z (by simp only [List.length_set] <;> rfl) (rN 3 Z ?_))))))
      obtain ⟨c27, H⟩ := iN H
      obtain ⟨e29, h30, H⟩ := bnd_elim H
      refine rG (pS 3 Z (GO.ix Z Z Z underlying136 sz140 ((RdIn.own (j := 0) Z) _ HS).2.2.1 c27.1 c27.2 Z (GO.fld (ea A_a (b1.toNat * 2 + 1)) Z Z fl140_1 (ea_add _ _ _) Z (GO.stRow (T := T_GFace) (j := 0) (n := b1.toNat) (o := 1) (vs := [I (w64 (a1 + 1))]) ({ e29 with Perm := w64 (a1 + 1) }) HS Z flat_flat Z Z Z Z (htN na2 Z) Z (getD_eq (ltN c27) h30) Z Z fun wd28 HS => nL (G.len (t := 0) (m := ((x10.set b1.toNat ({ e25 with Tet := a1 })).set b1.toNat ({ e29 with Perm := w64 (a1 + 1) })).length) Z (by simp only [List.length_set] <;> rfl) (rN 4 Z (G.weak ?_ (d1 i1 (Nat.lt_succ_of_le (lR _)) (Nat.le_of_succ_le h1) _ _ _ _ H HS))))))))
      exact ⟨Z, Z, Z, tv⟩
     refine nB Z (tF c22) (rN 3 Z ?_)
     obtain ⟨rfl, rfl⟩ := some2 H
     exact rT _ func110 Z Z ⟨Z, HS⟩
  refine G.weak ?_ (g1 K (lR _) _ _ _ _ H HS)
  exact ⟨Z, Z, Z, tv⟩
theorem laws_markFaceSS.calls {a_ : List (List GFace)} {k_ : Int} {A_a : Option Addr} {c_a : Nat} {y_a : Nat → (Ty.slice 140 T_GFace).Lay} {r1 : Int} {r2 : List (List GFace)} (HS : St w0 w (Own (Ty.slice 140 T_GFace) 136 A_a c_a y_a a_ :: L)) (H : laws_markFaceSS.f K a_ k_ = some (r1, r2)) :
    Calls prog 77 #[.slice A_a a_.length c_a, I k_] w (laws_markFaceSS.post w0 L A_a c_a y_a r1 r2) := by
  unfold laws_markFaceSS.f at H
  refine cG func77 Z ?_
  refine rN 7 Z ?_
  refine G.name (fun e1 f1 => ?_)
  have g1 : ∀ b1, b1 ≤ K → ∀ (x9 : List (List GFace)) (c1 a1 : Int) (w : World), laws_markFaceSS.l1 K b1 x9 c1 a1 = some (r1, r2) → St w0 w (Own (Ty.slice 140 T_GFace) 136 A_a c_a y_a x9 :: L) → G prog 77 19 [(0, .slice A_a x9.length c_a), (1, I c1), (5, I a1)] e1 w (laws_markFaceSS.post w0 L A_a c_a y_a r1 r2) := by
   intro b1
   induction b1 using Nat.strongRecOn with
   | _ b1 d1 =>
    intro h1 x9 c1 a1 w H HS
    cases b1 with
    | zero => rw [laws_markFaceSS.l1] at H; cases H
    | succ i1 =>
     rw [laws_markFaceSS.l1] at H
     subst f1
     refine rN 2 Z (rG (pS 2 Z (lS Z Z underlying35 Z (GO.lss Z Z Z Z (nL ?_)))))
     rcases iE H with ⟨c20, H⟩ | ⟨c20, H⟩
     ·
      refine yB Z (tT c20) (rN 3 Z ?_)
      obtain ⟨c21, H⟩ := iN H
      obtain ⟨t22, t23, h24, H⟩ := bind2_elim H
      obtain ⟨c25, H⟩ := iN H
      refine rG (pS 2 Z (GO.ix Z Z Z underlying35 sz136 ((RdIn.own (j := 0) Z) _ HS).2.2.1 c21.1 c21.2 Z (GO.ldRd (T := (Ty.slice 140 T_GFace)) (n := a1.toNat) (o := 0) HS (RdIn.own (j := 0) Z) Z Z (getD_some (d := []) (ltN c21)) Z Z na136 Z (mV Z ?_))))
      replace HS := HS.focusO Fld.id (getD_some (d := []) (ltN c21))
      refine fN Z func110 fok110.1 fok110.2 Z Z (laws_markFaceS.calls HS  h24) (fun _ wd26 ⟨h27, HS⟩ => ⟨_, h27, ?_⟩)
      replace HS := St.unfocusO (y := t23) Fld.id (getD_some (d := []) (ltN c21)) (congrArg (fun m => ([.slice ((y_a a1.toNat).A) m ((y_a a1.toNat).c)] : List Value)) c25) HS
      refine aS Z (nL (G.len (t := 0) (m := (x9.set a1.toNat t23).length) Z (by simp only [List.length_set, List.length_set] <;> rfl) (rN 3 Z (G.weak ?_ (d1 i1 (Nat.lt_succ_of_le (lR _)) (Nat.le_of_succ_le h1) _ _ _ _ H HS)))))
      exact ⟨Z, Z, Z, tv⟩
     refine nB Z (tF c20) (rN 3 Z ?_)
     obtain ⟨rfl, rfl⟩ := some2 H
     exact rT _ func77 Z Z ⟨Z, HS⟩
  refine G.weak ?_ (g1 K (lR _) _ _ _ _ H HS)
  exact ⟨Z, Z, Z, tv⟩
theorem laws_markCrossingS.calls {a_ : List GCrossing} {k_ : Int} {A_a : Option Addr} {c_a : Nat} {r1 : Int} {r2 : List GCrossing} (HS : St w0 w (Own T_GCrossing 143 A_a c_a (fun _ => ()) a_ :: L)) (H : laws_markCrossingS.f K a_ k_ = some (r1, r2)) :
    Calls prog 78 #[.slice A_a a_.length c_a, I k_] w (laws_markCrossingS.post w0 L A_a c_a r1 r2) := by
  unfold laws_markCrossingS.f at H
  refine cG func78 Z ?_
  refine rN 7 Z ?_
  refine G.name (fun e1 f1 => ?_)
  have g1 : ∀ c1, c1 ≤ K → ∀ (x22 : List GCrossing) (a1 b1 : Int) (w : World), laws_markCrossingS.l1 K c1 x22 a1 b1 = some (r1, r2) → St w0 w (Own T_GCrossing 143 A_a c_a (fun _ => ()) x22 :: L) → G prog 78 48 [(0, .slice A_a x22.length c_a), (1, I a1), (5, I b1)] e1 w (laws_markCrossingS.post w0 L A_a c_a r1 r2) := by
   intro c1
   induction c1 using Nat.strongRecOn with
   | _ c1 d1 =>
    intro h1 x22 a1 b1 w H HS
    cases c1 with
    | zero => rw [laws_markCrossingS.l1] at H; cases H
    | succ i1 =>
     rw [laws_markCrossingS.l1] at H
     subst f1
     refine rN 2 Z (rG (pS 2 Z (lS Z Z underlying38 Z (GO.lss Z Z Z Z (nL ?_)))))
     rcases iE H with ⟨c46, H⟩ | ⟨c46, H⟩
     ·
      refine yB Z (tT c46) (rN 4 Z ?_)
      obtain ⟨c47, H⟩ := iN H
      obtain ⟨e49, h50, H⟩ := bnd_elim H
      refine rG (pS 3 Z (GO.ix Z Z Z underlying38 sz143 ((RdIn.own (j := 0) Z) _ HS).2.2.1 c47.1 c47.2 Z (GO.fld (ea A_a (b1.toNat * 5)) Z Z fl143_0 Z Z (GO.stRow (T := T_GCrossing) (j := 0) (n := b1.toNat) (o := 0) (vs := [I a1]) ({ e49 with A := a1 }) HS Z flat_flat Z Z Z Z (htN na2 Z) Z (getD_eq (ltN c47) h50) Z Z fun wd48 HS => nL (G.len (t := 0) (m := (x22.set b1.toNat ({ e49 with A := a1 })).length) Z (by simp only [List.length_set] <;> rfl) (rN 3 Z ?_))))))
      obtain ⟨c51, H⟩ := iN H
      obtain ⟨e53, h54, H⟩ := bnd_elim H
      refine rG (pS 3 Z (GO.ix Z Z Z underlying38 sz143 ((RdIn.own (j := 0) Z) _ HS).2.2.1 c51.1 c51.2 Z (GO.fld (ea A_a (b1.toNat * 5 + 1)) Z Z fl143_1 (ea_add _ _ _) Z (GO.stRow (T := T_GCrossing) (j := 0) (n := b1.toNat) (o := 1) (vs := [I (w64 (a1 + 1))]) ({ e53 with B := w64 (a1 + 1) }) HS Z flat_flat Z Z Z Z (htN na2 Z) Z (getD_eq (ltN c51) h54) Z Z fun wd52 HS => nL (G.len (t := 0) (m := ((x22.set b1.toNat ({ e49 with A := a1 })).set b1.toNat ({ e53 with B := w64 (a1 + 1) })).length) Z (by simp only [List.length_set] <;> rfl) (rN 3 Z ?_))))))
      obtain ⟨c55, H⟩ := iN H
      obtain ⟨e57, h58, H⟩ := bnd_elim H
      refine rG (pS 3 Z (GO.ix Z Z Z underlying38 sz143 ((RdIn.own (j := 0) Z) _ HS).2.2.1 c55.1 c55.2 Z (GO.fld (ea A_a (b1.toNat * 5 + 2)) Z Z fl143_2 (ea_add _ _ _) Z (GO.stRow (T := T_GCrossing) (j := 0) (n := b1.toNat) (o := 2) (vs := [I (w64 ((w64 (a1 + 1)) + 1))]) ({ e57 with C := w64 ((w64 (a1 + 1)) + 1) }) HS Z flat_flat Z Z Z Z (htN na2 Z) Z (getD_eq (ltN c55) h58) Z Z fun wd56 HS => nL (G.len (t := 0) (m := (((x22.set b1.toNat ({ e49 with A := a1 })).set b1.toNat ({ e53 with B := w64 (a1 + 1) })).set b1.toNat ({ e57 with C := w64 ((w64 (a1 + 1)) + 1) })).length) Z (by simp only [List.length_set] <;> rfl) (rN 3 Z ?_))))))
      obtain ⟨c59, H⟩ := iN H
      obtain ⟨e61, h62, H⟩ := bnd_elim H
      refine rG (pS 3 Z (GO.ix Z Z Z underlying38 sz143 ((RdIn.own (j := 0) Z) _ HS).2.2.1 c59.1 c59.2 Z (GO.fld (ea A_a (b1.toNat * 5 + 3)) Z Z fl143_3 (ea_add _ _ _) Z (GO.stRow (T := T_GCrossing) (j := 0) (n := b1.toNat) (o := 3) (vs := [I (w64 ((w64 ((w64 (a1 + 1)) + 1)) + 1))]) ({ e61 with D := w64 ((w64 ((w64 (a1 + 1)) + 1)) + 1) }) HS Z flat_flat Z Z Z Z (htN na2 Z) Z (getD_eq (ltN c59) h62) Z Z fun wd60 HS => nL (G.len (t := 0) (m := ((((x22.set b1.toNat ({ e49 with A := a1 })).set b1.toNat ({ e53 with B := w64 (a1 + 1) })).set b1.toNat ({ e57 with C := w64 ((w64 (a1 + 1)) + 1) })).set b1.toNat ({ e61 with D := w64 ((w64 ((w64 (a1 + 1)) + 1)) + 1) })).length) Z (by simp only [List.length_set] <;> rfl) (rN 3 Z ?_))))))
      obtain ⟨c63, H⟩ := iN H
      obtain ⟨e65, h66, H⟩ := bnd_elim H
      refine rG (pS 3 Z (GO.ix Z Z Z underlying38 sz143 ((RdIn.own (j := 0) Z) _ HS).2.2.1 c63.1 c63.2 Z (GO.fld (ea A_a (b1.toNat * 5 + 4)) Z Z fl143_4 (ea_add _ _ _) Z (GO.stRow (T := T_GCrossing) (j := 0) (n := b1.toNat) (o := 4) (vs := [I (w64 ((w64 ((w64 ((w64 (a1 + 1)) + 1)) + 1)) + 1))]) ({ e65 with Sign := w64 ((w64 ((w64 ((w64 (a1 + 1)) + 1)) + 1)) + 1) }) HS Z flat_flat Z Z Z Z (htN na2 Z) Z (getD_eq (ltN c63) h66) Z Z fun wd64 HS => nL (G.len (t := 0) (m := (((((x22.set b1.toNat ({ e49 with A := a1 })).set b1.toNat ({ e53 with B := w64 (a1 + 1) })).set b1.toNat ({ e57 with C := w64 ((w64 (a1 + 1)) + 1) })).set b1.toNat ({ e61 with D := w64 ((w64 ((w64 (a1 + 1)) + 1)) + 1) })).set b1.toNat ({ e65 with Sign := w64 ((w64 ((w64 ((w64 (a1 + 1)) + 1)) + 1)) + 1) })).length) Z (by simp only [List.length_set] <;> rfl) (rN 4 Z (G.weak ?_ (d1 i1 (Nat.lt_succ_of_le (lR _)) (Nat.le_of_succ_le h1) _ _ _ _ H HS))))))))
      exact ⟨Z, Z, Z, tv⟩
     refine nB Z (tF c46) (rN 3 Z ?_)
     obtain ⟨rfl, rfl⟩ := some2 H
     exact rT _ func78 Z Z ⟨Z, HS⟩
  refine G.weak ?_ (g1 K (lR _) _ _ _ _ H HS)
  exact ⟨Z, Z, Z, tv⟩
theorem laws_markInt64S.calls {a_ : List Int} {k_ : Int} {A_a : Option Addr} {c_a : Nat} {r1 : Int} {r2 : List Int} (HS : St w0 w (Own (TInt .i64) 2 A_a c_a (fun _ => ()) a_ :: L)) (H : laws_markInt64S.f K a_ k_ = some (r1, r2)) :
    Calls prog 79 #[.slice A_a a_.length c_a, I k_] w (laws_markInt64S.post w0 L A_a c_a r1 r2) := by
  unfold laws_markInt64S.f at H
  refine cG func79 Z ?_
  refine rN 7 Z ?_
  refine G.name (fun c1 d1 => ?_)
  have e1 : ∀ a1, a1 ≤ K → ∀ (x4 : List Int) (k_5 i_6 : Int) (w : World), laws_markInt64S.l1 K a1 x4 k_5 i_6 = some (r1, r2) → St w0 w (Own (TInt .i64) 2 A_a c_a (fun _ => ()) x4 :: L) → G prog 79 19 [(0, .slice A_a x4.length c_a), (1, I k_5), (5, I i_6)] c1 w (laws_markInt64S.post w0 L A_a c_a r1 r2) := by
   intro a1
   induction a1 using Nat.strongRecOn with
   | _ a1 b1 =>
    intro f1 x4 k_5 i_6 w H HS
    cases a1 with
    | zero => rw [laws_markInt64S.l1] at H; cases H
    | succ g1 =>
     rw [laws_markInt64S.l1] at H
     subst d1
     refine rN 2 Z (rG (pS 2 Z (lS Z Z underlying41 Z (GO.lss Z Z Z Z (nL ?_)))))
     rcases iE H with ⟨c10, H⟩ | ⟨c10, H⟩
     ·
      refine yB Z (tT c10) (rN 4 Z ?_)
      obtain ⟨c11, H⟩ := iN H
      refine rG (pS 3 Z (GO.ix Z Z Z underlying41 sz2 ((RdIn.own (j := 0) Z) _ HS).2.2.1 c11.1 c11.2 Z (GO.stRow (T := (TInt .i64)) (j := 0) (n := i_6.toNat) (o := 0) (vs := [I k_5]) k_5 HS Z flat_flat Z Z Z Z (htN na2 Z) Z (getD_some (d := 0) (ltN c11)) Z Z fun wd12 HS => nL (G.len (t := 0) (m := (x4.set i_6.toNat k_5).length) Z (by simp only [List.length_set] <;> rfl) (rN 4 Z (G.weak ?_ (b1 g1 (Nat.lt_succ_of_le (lR _)) (Nat.le_of_succ_le f1) _ _ _ _ H HS)))))))
      exact ⟨Z, Z, Z, tv⟩
     refine nB Z (tF c10) (rN 3 Z ?_)
     obtain ⟨rfl, rfl⟩ := some2 H
     exact rT _ func79 Z Z ⟨Z, HS⟩
  refine G.weak ?_ (e1 K (lR _) _ _ _ _ H HS)
  exact ⟨Z, Z, Z, tv⟩
theorem laws_markMoveS.calls {a_ : List GMove} {k_ : Int} {A_a : Option Addr} {c_a : Nat} {r1 : Int} {r2 : List GMove} (HS : St w0 w (Own T_GMove 110 A_a c_a (fun _ => ()) a_ :: L)) (H : laws_markMoveS.f K a_ k_ = some (r1, r2)) :
    Calls prog 80 #[.slice A_a a_.length c_a, I k_] w (laws_markMoveS.post w0 L A_a c_a r1 r2) := by
  unfold laws_markMoveS.f at H
  refine cG func80 Z ?_
  refine rN 7 Z ?_
  refine G.name (fun e1 f1 => ?_)
  have g1 : ∀ c1, c1 ≤ K → ∀ (x14 : List GMove) (b1 a1 : Int) (w : World), laws_markMoveS.l1 K c1 x14 b1 a1 = some (r1, r2) → St w0 w (Own T_GMove 110 A_a c_a (fun _ => ()) x14 :: L) → G prog 80 34 [(0, .slice A_a x14.length c_a), (1, I b1), (5, I a1)] e1 w (laws_markMoveS.post w0 L A_a c_a r1 r2) := by
   intro c1
   induction c1 using Nat.strongRecOn with
   | _ c1 d1 =>
    intro h1 x14 b1 a1 w H HS
    cases c1 with
    | zero => rw [laws_markMoveS.l1] at H; cases H
    | succ i1 =>
     rw [laws_markMoveS.l1] at H
     subst f1
     refine rN 2 Z (rG (pS 2 Z (lS Z Z underlying44 Z (GO.lss Z Z Z Z (nL ?_)))))
     rcases iE H with ⟨c30, H⟩ | ⟨c30, H⟩
     ·
      refine yB Z (tT c30) (rN 4 Z ?_)
      obtain ⟨c31, H⟩ := iN H
      obtain ⟨e33, h34, H⟩ := bnd_elim H
      refine rG (pS 3 Z (GO.ix Z Z Z underlying44 sz110 ((RdIn.own (j := 0) Z) _ HS).2.2.1 c31.1 c31.2 Z (GO.fld (ea A_a (a1.toNat * 3)) Z Z fl110_0 Z Z (GO.stRow (T := T_GMove) (j := 0) (n := a1.toNat) (o := 0) (vs := [I b1]) ({ e33 with Kind := b1 }) HS Z flat_flat Z Z Z Z (htN na2 Z) Z (getD_eq (ltN c31) h34) Z Z fun wd32 HS => nL (G.len (t := 0) (m := (x14.set a1.toNat ({ e33 with Kind := b1 })).length) Z (by simp only [List.length_set] <;> rfl) (rN 3 Z ?_))))))
      obtain ⟨c35, H⟩ := iN H
      obtain ⟨e37, h38, H⟩ := bnd_elim H
      refine rG (pS 3 Z (GO.ix Z Z Z underlying44 sz110 ((RdIn.own (j := 0) Z) _ HS).2.2.1 c35.1 c35.2 Z (GO.fld (ea A_a (a1.toNat * 3 + 1)) Z Z fl110_1 (ea_add _ _ _) Z (GO.stRow (T := T_GMove) (j := 0) (n := a1.toNat) (o := 1) (vs := [I (w64 (b1 + 1))]) ({ e37 with Tet := w64 (b1 + 1) }) HS Z flat_flat Z Z Z Z (htN na2 Z) Z (getD_eq (ltN c35) h38) Z Z fun wd36 HS => nL (G.len (t := 0) (m := ((x14.set a1.toNat ({ e33 with Kind := b1 })).set a1.toNat ({ e37 with Tet := w64 (b1 + 1) })).length) Z (by simp only [List.length_set] <;> rfl) (rN 3 Z ?_))))))
      obtain ⟨c39, H⟩ := iN H
      obtain ⟨e41, h42, H⟩ := bnd_elim H
      refine rG (pS 3 Z (GO.ix Z Z Z underlying44 sz110 ((RdIn.own (j := 0) Z) _ HS).2.2.1 c39.1 c39.2 Z (GO.fld (ea A_a (a1.toNat * 3 + 2)) Z Z fl110_2 (ea_add _ _ _) Z (GO.stRow (T := T_GMove) (j := 0) (n := a1.toNat) (o := 2) (vs := [I (w64 ((w64 (b1 + 1)) + 1))]) ({ e41 with Index := w64 ((w64 (b1 + 1)) + 1) }) HS Z flat_flat Z Z Z Z (htN na2 Z) Z (getD_eq (ltN c39) h42) Z Z fun wd40 HS => nL (G.len (t := 0) (m := (((x14.set a1.toNat ({ e33 with Kind := b1 })).set a1.toNat ({ e37 with Tet := w64 (b1 + 1) })).set a1.toNat ({ e41 with Index := w64 ((w64 (b1 + 1)) + 1) })).length) Z (by simp only [List.length_set] <;> rfl) (rN 4 Z (G.weak ?_ (d1 i1 (Nat.lt_succ_of_le (lR _)) (Nat.le_of_succ_le h1) _ _ _ _ H HS))))))))
      exact ⟨Z, Z, Z, tv⟩
     refine nB Z (tF c30) (rN 3 Z ?_)
     obtain ⟨rfl, rfl⟩ := some2 H
     exact rT _ func80 Z Z ⟨Z, HS⟩
  refine G.weak ?_ (g1 K (lR _) _ _ _ _ H HS)
  exact ⟨Z, Z, Z, tv⟩
theorem laws_markItemS.calls {a_ : List GItem} {k_ : Int} {A_a : Option Addr} {c_a : Nat} {y_a : Nat → T_GItem_47.Lay} {r1 : Int} {r2 : List GItem} (HS : St w0 w (Own T_GItem_47 48 A_a c_a y_a a_ :: L)) (H : laws_markItemS.f K a_ k_ = some (r1, r2)) :
    Calls prog 40 #[.slice A_a a_.length c_a, I k_] w (laws_markItemS.post w0 L A_a c_a y_a r1 r2) := by
  unfold laws_markItemS.f at H
  refine cG func40 Z ?_
  refine rN 7 Z ?_
  refine G.name (fun e1 f1 => ?_)
  have g1 : ∀ c1, c1 ≤ K → ∀ (x84 : List GItem) (b1 a1 : Int) (w : World), laws_markItemS.l1 K c1 x84 b1 a1 = some (r1, r2) → St w0 w (Own T_GItem_47 48 A_a c_a y_a x84 :: L) → G prog 40 108 [(0, .slice A_a x84.length c_a), (1, I b1), (5, I a1)] e1 w (laws_markItemS.post w0 L A_a c_a y_a r1 r2) := by
   intro c1
   induction c1 using Nat.strongRecOn with
   | _ c1 d1 =>
    intro h1 x84 b1 a1 w H HS
    cases c1 with
    | zero => rw [laws_markItemS.l1] at H; cases H
    | succ i1 =>
     rw [laws_markItemS.l1] at H
     subst f1
     refine rN 2 Z (rG (pS 2 Z (lS Z Z underlying28 Z (GO.lss Z Z Z Z (nL ?_)))))
     rcases iE H with ⟨c170, H⟩ | ⟨c170, H⟩
     ·
      refine yB Z (tT c170) (rN 4 Z ?_)
      obtain ⟨t171, h172, H⟩ := bI H
      obtain ⟨c175, H⟩ := iN H
      obtain ⟨e177, h178, H⟩ := bnd_elim H
      refine rG (pS 3 Z (fN Z func76 fok76.1 fok76.2 Z Z (laws_markText.calls HS  h172) (fun _ wd173 ⟨h174, HS⟩ => ⟨_, h174, (GO.ix Z Z Z underlying28 sz48 ((RdIn.own (j := 0) Z) _ HS).2.2.1 c175.1 c175.2 Z (GO.fld (ea A_a (a1.toNat * 12)) Z Z fl48_0 Z Z (GO.stK (T := T_GItem_47) (j := 0) (n := a1.toNat) (o := 0) (x0 := e177) (vs := [.string t171]) ({ e177 with Name := t171 }) HS Z (fun _ _ h => h) Z Z Z Z (htN na9 Z) Z (getD_eq (ltN c175) h178) Z Z fun wd176 HS => nL (G.len (t := 0) (m := (x84.set a1.toNat ({ e177 with Name := t171 })).length) Z (by simp only [List.length_set] <;> rfl) (rN 3 Z ?_)))))⟩)))
      obtain ⟨c179, H⟩ := iN H
      obtain ⟨e181, h182, H⟩ := bnd_elim H
      refine rG (pS 3 Z (GO.ix Z Z Z underlying28 sz48 ((RdIn.own (j := 0) Z) _ HS).2.2.1 c179.1 c179.2 Z (GO.fld (ea A_a (a1.toNat * 12 + 1)) Z Z fl48_1 (ea_add _ _ _) Z (GO.stK (T := T_GItem_47) (j := 0) (n := a1.toNat) (o := 1) (x0 := e181) (vs := [I (w64 (b1 + 1))]) ({ e181 with Kind := w64 (b1 + 1) }) HS Z (fun _ _ h => h) Z Z Z Z (htN na2 Z) Z (getD_eq (ltN c179) h182) Z Z fun wd180 HS => nL (G.len (t := 0) (m := ((x84.set a1.toNat ({ e177 with Name := t171 })).set a1.toNat ({ e181 with Kind := w64 (b1 + 1) })).length) Z (by simp only [List.length_set] <;> rfl) (rN 3 Z ?_))))))
      obtain ⟨c183, H⟩ := iN H
      obtain ⟨e184, h185, H⟩ := bnd_elim H
      obtain ⟨t186, t187, h188, H⟩ := bind2_elim H
      obtain ⟨c189, H⟩ := iN H
      refine rG (pS 2 Z (GO.ix Z Z Z underlying28 sz48 ((RdIn.own (j := 0) Z) _ HS).2.2.1 c183.1 c183.2 Z (GO.fld (ea A_a (a1.toNat * 12 + 2)) Z Z fl48_2 (ea_add _ _ _) Z (GO.fld (ea A_a (a1.toNat * 12 + 2)) Z Z fl37_0 Z Z (GO.ldRd (T := T_GItem_47) (n := a1.toNat) (o := 2) HS (RdIn.own (j := 0) Z) Z Z (getD_eq (ltN c183) h185) Z Z na35 Z (mV Z ?_))))))
      replace HS := HS.focusO F_GItem_47_Triangulation_Tets (getD_eq (ltN c183) h185)
      refine fN Z func77 fok77.1 fok77.2 Z Z (laws_markFaceSS.calls HS  h188) (fun _ wd190 ⟨h191, HS⟩ => ⟨_, h191, ?_⟩)
      replace HS := St.unfocusO (y := t187) F_GItem_47_Triangulation_Tets (getD_eq (ltN c183) h185) (congrArg (fun m => ([.string e184.Name, I e184.Kind, .slice (y_a a1.toNat).2.2.1.A m (y_a a1.toNat).2.2.1.c, .slice (y_a a1.toNat).2.2.2.1.A e184.Diagram_Crossings.length (y_a a1.toNat).2.2.2.1.c, I e184.Diagram_Circles, I e184.Braid_Strands, .slice (y_a a1.toNat).2.2.2.2.2.2.1.A e184.Braid_Word.length (y_a a1.toNat).2.2.2.2.2.2.1.c, I e184.Certificate_Name, I e184.Certificate_Trait, .slice (y_a a1.toNat).2.2.2.2.2.2.2.2.2.1.A e184.Certificate_Moves.length (y_a a1.toNat).2.2.2.2.2.2.2.2.2.1.c, .slice (y_a a1.toNat).2.2.2.2.2.2.2.2.2.2.1.A e184.Certificate_Tets.length (y_a a1.toNat).2.2.2.2.2.2.2.2.2.2.1.c, .slice (y_a a1.toNat).2.2.2.2.2.2.2.2.2.2.2.A e184.Certificate_Perms.length (y_a a1.toNat).2.2.2.2.2.2.2.2.2.2.2.c] : List Value)) c189) HS
      refine aS Z (nL (G.len (t := 0) (m := (((x84.set a1.toNat ({ e177 with Name := t171 })).set a1.toNat ({ e181 with Kind := w64 (b1 + 1) })).set a1.toNat { e184 with Triangulation_Tets := t187 }).length) Z (by simp only [List.length_set, List.length_set] <;> rfl) (sQ ?_)))
      obtain ⟨c192, H⟩ := iN H
      obtain ⟨e193, h194, H⟩ := bnd_elim H
      obtain ⟨t195, t196, h197, H⟩ := bind2_elim H
      obtain ⟨c198, H⟩ := iN H
      refine rG (pS 2 Z (GO.ix Z Z Z underlying28 sz48 ((RdIn.own (j := 0) Z) _ HS).2.2.1 c192.1 c192.2 Z (GO.fld (ea A_a (a1.toNat * 12 + 3)) Z Z fl48_3 (ea_add _ _ _) Z (GO.fld (ea A_a (a1.toNat * 12 + 3)) Z Z fl40_0 Z Z (GO.ldRd (T := T_GItem_47) (n := a1.toNat) (o := 3) HS (RdIn.own (j := 0) Z) Z Z (getD_eq (ltN c192) h194) Z Z na38 Z (mV Z ?_))))))
      replace HS := HS.focusO F_GItem_47_Diagram_Crossings (getD_eq (ltN c192) h194)
      refine fN Z func78 fok78.1 fok78.2 Z Z (laws_markCrossingS.calls HS  h197) (fun _ wd199 ⟨h200, HS⟩ => ⟨_, h200, ?_⟩)
      replace HS := St.unfocusO (y := t196) F_GItem_47_Diagram_Crossings (getD_eq (ltN c192) h194) (congrArg (fun m => ([.string e193.Name, I e193.Kind, .slice (y_a a1.toNat).2.2.1.A e193.Triangulation_Tets.length (y_a a1.toNat).2.2.1.c, .slice (y_a a1.toNat).2.2.2.1.A m (y_a a1.toNat).2.2.2.1.c, I e193.Diagram_Circles, I e193.Braid_Strands, .slice (y_a a1.toNat).2.2.2.2.2.2.1.A e193.Braid_Word.length (y_a a1.toNat).2.2.2.2.2.2.1.c, I e193.Certificate_Name, I e193.Certificate_Trait, .slice (y_a a1.toNat).2.2.2.2.2.2.2.2.2.1.A e193.Certificate_Moves.length (y_a a1.toNat).2.2.2.2.2.2.2.2.2.1.c, .slice (y_a a1.toNat).2.2.2.2.2.2.2.2.2.2.1.A e193.Certificate_Tets.length (y_a a1.toNat).2.2.2.2.2.2.2.2.2.2.1.c, .slice (y_a a1.toNat).2.2.2.2.2.2.2.2.2.2.2.A e193.Certificate_Perms.length (y_a a1.toNat).2.2.2.2.2.2.2.2.2.2.2.c] : List Value)) c198) HS
      refine aS Z (nL (G.len (t := 0) (m := ((((x84.set a1.toNat ({ e177 with Name := t171 })).set a1.toNat ({ e181 with Kind := w64 (b1 + 1) })).set a1.toNat { e184 with Triangulation_Tets := t187 }).set a1.toNat { e193 with Diagram_Crossings := t196 }).length) Z (by simp only [List.length_set, List.length_set] <;> rfl) (sQ ?_)))
      obtain ⟨c201, H⟩ := iN H
      obtain ⟨e203, h204, H⟩ := bnd_elim H
      refine rG (pS 3 Z (GO.ix Z Z Z underlying28 sz48 ((RdIn.own (j := 0) Z) _ HS).2.2.1 c201.1 c201.2 Z (GO.fld (ea A_a (a1.toNat * 12 + 3)) Z Z fl48_3 (ea_add _ _ _) Z (GO.fld (ea A_a (a1.toNat * 12 + 4)) Z Z fl40_1 (by rw [ea_add, Nat.add_assoc]) Z (GO.stK (T := T_GItem_47) (j := 0) (n := a1.toNat) (o := 4) (x0 := e203) (vs := [I t195]) ({ e203 with Diagram_Circles := t195 }) HS Z (fun _ _ h => h) Z Z Z Z (htN na2 Z) Z (getD_eq (ltN c201) h204) Z Z fun wd202 HS => nL (G.len (t := 0) (m := (((((x84.set a1.toNat ({ e177 with Name := t171 })).set a1.toNat ({ e181 with Kind := w64 (b1 + 1) })).set a1.toNat { e184 with Triangulation_Tets := t187 }).set a1.toNat { e193 with Diagram_Crossings := t196 }).set a1.toNat ({ e203 with Diagram_Circles := t195 })).length) Z (by simp only [List.length_set] <;> rfl) (rN 3 Z ?_)))))))
      obtain ⟨c205, H⟩ := iN H
      obtain ⟨e207, h208, H⟩ := bnd_elim H
      refine rG (pS 3 Z (GO.ix Z Z Z underlying28 sz48 ((RdIn.own (j := 0) Z) _ HS).2.2.1 c205.1 c205.2 Z (GO.fld (ea A_a (a1.toNat * 12 + 5)) Z Z fl48_4 (ea_add _ _ _) Z (GO.fld (ea A_a (a1.toNat * 12 + 5)) Z Z fl43_0 Z Z (GO.stK (T := T_GItem_47) (j := 0) (n := a1.toNat) (o := 5) (x0 := e207) (vs := [I (w64 (t195 + 1))]) ({ e207 with Braid_Strands := w64 (t195 + 1) }) HS Z (fun _ _ h => h) Z Z Z Z (htN na2 Z) Z (getD_eq (ltN c205) h208) Z Z fun wd206 HS => nL (G.len (t := 0) (m := ((((((x84.set a1.toNat ({ e177 with Name := t171 })).set a1.toNat ({ e181 with Kind := w64 (b1 + 1) })).set a1.toNat { e184 with Triangulation_Tets := t187 }).set a1.toNat { e193 with Diagram_Crossings := t196 }).set a1.toNat ({ e203 with Diagram_Circles := t195 })).set a1.toNat ({ e207 with Braid_Strands := w64 (t195 + 1) })).length) Z (by simp only [List.length_set] <;> rfl) (rN 3 Z ?_)))))))
      obtain ⟨c209, H⟩ := iN H
      obtain ⟨e210, h211, H⟩ := bnd_elim H
      obtain ⟨t212, t213, h214, H⟩ := bind2_elim H
      obtain ⟨c215, H⟩ := iN H
      refine rG (pS 2 Z (GO.ix Z Z Z underlying28 sz48 ((RdIn.own (j := 0) Z) _ HS).2.2.1 c209.1 c209.2 Z (GO.fld (ea A_a (a1.toNat * 12 + 5)) Z Z fl48_4 (ea_add _ _ _) Z (GO.fld (ea A_a (a1.toNat * 12 + 6)) Z Z fl43_1 (by rw [ea_add, Nat.add_assoc]) Z (GO.ldRd (T := T_GItem_47) (n := a1.toNat) (o := 6) HS (RdIn.own (j := 0) Z) Z Z (getD_eq (ltN c209) h211) Z Z na41 Z (mV Z ?_))))))
      replace HS := HS.focusO F_GItem_47_Braid_Word (getD_eq (ltN c209) h211)
      refine fN Z func79 fok79.1 fok79.2 Z Z (laws_markInt64S.calls HS  h214) (fun _ wd216 ⟨h217, HS⟩ => ⟨_, h217, ?_⟩)
      replace HS := St.unfocusO (y := t213) F_GItem_47_Braid_Word (getD_eq (ltN c209) h211) (congrArg (fun m => ([.string e210.Name, I e210.Kind, .slice (y_a a1.toNat).2.2.1.A e210.Triangulation_Tets.length (y_a a1.toNat).2.2.1.c, .slice (y_a a1.toNat).2.2.2.1.A e210.Diagram_Crossings.length (y_a a1.toNat).2.2.2.1.c, I e210.Diagram_Circles, I e210.Braid_Strands, .slice (y_a a1.toNat).2.2.2.2.2.2.1.A m (y_a a1.toNat).2.2.2.2.2.2.1.c, I e210.Certificate_Name, I e210.Certificate_Trait, .slice (y_a a1.toNat).2.2.2.2.2.2.2.2.2.1.A e210.Certificate_Moves.length (y_a a1.toNat).2.2.2.2.2.2.2.2.2.1.c, .slice (y_a a1.toNat).2.2.2.2.2.2.2.2.2.2.1.A e210.Certificate_Tets.length (y_a a1.toNat).2.2.2.2.2.2.2.2.2.2.1.c, .slice (y_a a1.toNat).2.2.2.2.2.2.2.2.2.2.2.A e210.Certificate_Perms.length (y_a a1.toNat).2.2.2.2.2.2.2.2.2.2.2.c] : List Value)) c215) HS
      refine aS Z (nL (G.len (t := 0) (m := (((((((x84.set a1.toNat ({ e177 with Name := t171 })).set a1.toNat ({ e181 with Kind := w64 (b1 + 1) })).set a1.toNat { e184 with Triangulation_Tets := t187 }).set a1.toNat { e193 with Diagram_Crossings := t196 }).set a1.toNat ({ e203 with Diagram_Circles := t195 })).set a1.toNat ({ e207 with Braid_Strands := w64 (t195 + 1) })).set a1.toNat { e210 with Braid_Word := t213 }).length) Z (by simp only [List.length_set, List.length_set] <;> rfl) (sQ ?_)))
      obtain ⟨c218, H⟩ := iN H
      obtain ⟨e220, h221, H⟩ := bnd_elim H
      refine rG (pS 3 Z (GO.ix Z Z Z underlying28 sz48 ((RdIn.own (j := 0) Z) _ HS).2.2.1 c218.1 c218.2 Z (GO.fld (ea A_a (a1.toNat * 12 + 7)) Z Z fl48_5 (ea_add _ _ _) Z (GO.fld (ea A_a (a1.toNat * 12 + 7)) Z Z fl46_0 Z Z (GO.stK (T := T_GItem_47) (j := 0) (n := a1.toNat) (o := 7) (x0 := e220) (vs := [I t212]) ({ e220 with Certificate_Name := t212 }) HS Z (fun _ _ h => h) Z Z Z Z (htN na2 Z) Z (getD_eq (ltN c218) h221) Z Z fun wd219 HS => nL (G.len (t := 0) (m := ((((((((x84.set a1.toNat ({ e177 with Name := t171 })).set a1.toNat ({ e181 with Kind := w64 (b1 + 1) })).set a1.toNat { e184 with Triangulation_Tets := t187 }).set a1.toNat { e193 with Diagram_Crossings := t196 }).set a1.toNat ({ e203 with Diagram_Circles := t195 })).set a1.toNat ({ e207 with Braid_Strands := w64 (t195 + 1) })).set a1.toNat { e210 with Braid_Word := t213 }).set a1.toNat ({ e220 with Certificate_Name := t212 })).length) Z (by simp only [List.length_set] <;> rfl) (rN 3 Z ?_)))))))
      obtain ⟨c222, H⟩ := iN H
      obtain ⟨e224, h225, H⟩ := bnd_elim H
      refine rG (pS 3 Z (GO.ix Z Z Z underlying28 sz48 ((RdIn.own (j := 0) Z) _ HS).2.2.1 c222.1 c222.2 Z (GO.fld (ea A_a (a1.toNat * 12 + 7)) Z Z fl48_5 (ea_add _ _ _) Z (GO.fld (ea A_a (a1.toNat * 12 + 8)) Z Z fl46_1 (by rw [ea_add, Nat.add_assoc]) Z (GO.stK (T := T_GItem_47) (j := 0) (n := a1.toNat) (o := 8) (x0 := e224) (vs := [I (w64 (t212 + 1))]) ({ e224 with Certificate_Trait := w64 (t212 + 1) }) HS Z (fun _ _ h => h) Z Z Z Z (htN na2 Z) Z (getD_eq (ltN c222) h225) Z Z fun wd223 HS => nL (G.len (t := 0) (m := (((((((((x84.set a1.toNat ({ e177 with Name := t171 })).set a1.toNat ({ e181 with Kind := w64 (b1 + 1) })).set a1.toNat { e184 with Triangulation_Tets := t187 }).set a1.toNat { e193 with Diagram_Crossings := t196 }).set a1.toNat ({ e203 with Diagram_Circles := t195 })).set a1.toNat ({ e207 with Braid_Strands := w64 (t195 + 1) })).set a1.toNat { e210 with Braid_Word := t213 }).set a1.toNat ({ e220 with Certificate_Name := t212 })).set a1.toNat ({ e224 with Certificate_Trait := w64 (t212 + 1) })).length) Z (by simp only [List.length_set] <;> rfl) (rN 3 Z ?_)))))))
      obtain ⟨c226, H⟩ := iN H
      obtain ⟨e227, h228, H⟩ := bnd_elim H
      obtain ⟨t229, t230, h231, H⟩ := bind2_elim H
      obtain ⟨c232, H⟩ := iN H
      refine rG (pS 2 Z (GO.ix Z Z Z underlying28 sz48 ((RdIn.own (j := 0) Z) _ HS).2.2.1 c226.1 c226.2 Z (GO.fld (ea A_a (a1.toNat * 12 + 7)) Z Z fl48_5 (ea_add _ _ _) Z (GO.fld (ea A_a (a1.toNat * 12 + 9)) Z Z fl46_2 (by rw [ea_add, Nat.add_assoc]) Z (GO.ldRd (T := T_GItem_47) (n := a1.toNat) (o := 9) HS (RdIn.own (j := 0) Z) Z Z (getD_eq (ltN c226) h228) Z Z na44 Z (mV Z ?_))))))
      replace HS := HS.focusO F_GItem_47_Certificate_Moves (getD_eq (ltN c226) h228)
      refine fN Z func80 fok80.1 fok80.2 Z Z (laws_markMoveS.calls HS  h231) (fun _ wd233 ⟨h234, HS⟩ => ⟨_, h234, ?_⟩)
      replace HS := St.unfocusO (y := t230) F_GItem_47_Certificate_Moves (getD_eq (ltN c226) h228) (congrArg (fun m => ([.string e227.Name, I e227.Kind, .slice (y_a a1.toNat).2.2.1.A e227.Triangulation_Tets.length (y_a a1.toNat).2.2.1.c, .slice (y_a a1.toNat).2.2.2.1.A e227.Diagram_Crossings.length (y_a a1.toNat).2.2.2.1.c, I e227.Diagram_Circles, I e227.Braid_Strands, .slice (y_a a1.toNat).2.2.2.2.2.2.1.A e227.Braid_Word.length (y_a a1.toNat).2.2.2.2.2.2.1.c, I e227.Certificate_Name, I e227.Certificate_Trait, .slice (y_a a1.toNat).2.2.2.2.2.2.2.2.2.1.A m (y_a a1.toNat).2.2.2.2.2.2.2.2.2.1.c, .slice (y_a a1.toNat).2.2.2.2.2.2.2.2.2.2.1.A e227.Certificate_Tets.length (y_a a1.toNat).2.2.2.2.2.2.2.2.2.2.1.c, .slice (y_a a1.toNat).2.2.2.2.2.2.2.2.2.2.2.A e227.Certificate_Perms.length (y_a a1.toNat).2.2.2.2.2.2.2.2.2.2.2.c] : List Value)) c232) HS
      refine aS Z (nL (G.len (t := 0) (m := ((((((((((x84.set a1.toNat ({ e177 with Name := t171 })).set a1.toNat ({ e181 with Kind := w64 (b1 + 1) })).set a1.toNat { e184 with Triangulation_Tets := t187 }).set a1.toNat { e193 with Diagram_Crossings := t196 }).set a1.toNat ({ e203 with Diagram_Circles := t195 })).set a1.toNat ({ e207 with Braid_Strands := w64 (t195 + 1) })).set a1.toNat { e210 with Braid_Word := t213 }).set a1.toNat ({ e220 with Certificate_Name := t212 })).set a1.toNat ({ e224 with Certificate_Trait := w64 (t212 + 1) })).set a1.toNat { e227 with Certificate_Moves := t230 }).length) Z (by simp only [List.length_set, List.length_set] <;> rfl) (sQ ?_)))
      obtain ⟨c235, H⟩ := iN H
      obtain ⟨e236, h237, H⟩ := bnd_elim H
      obtain ⟨t238, t239, h240, H⟩ := bind2_elim H
      obtain ⟨c241, H⟩ := iN H
      refine rG (pS 2 Z (GO.ix Z Z Z underlying28 sz48 ((RdIn.own (j := 0) Z) _ HS).2.2.1 c235.1 c235.2 Z (GO.fld (ea A_a (a1.toNat * 12 + 7)) Z Z fl48_5 (ea_add _ _ _) Z (GO.fld (ea A_a (a1.toNat * 12 + 10)) Z Z fl46_3 (by rw [ea_add, Nat.add_assoc]) Z (GO.ldRd (T := T_GItem_47) (n := a1.toNat) (o := 10) HS (RdIn.own (j := 0) Z) Z Z (getD_eq (ltN c235) h237) Z Z na41 Z (mV Z ?_))))))
      replace HS := HS.focusO F_GItem_47_Certificate_Tets (getD_eq (ltN c235) h237)
      refine fN Z func79 fok79.1 fok79.2 Z Z (laws_markInt64S.calls HS  h240) (fun _ wd242 ⟨h243, HS⟩ => ⟨_, h243, ?_⟩)
      replace HS := St.unfocusO (y := t239) F_GItem_47_Certificate_Tets (getD_eq (ltN c235) h237) (congrArg (fun m => ([.string e236.Name, I e236.Kind, .slice (y_a a1.toNat).2.2.1.A e236.Triangulation_Tets.length (y_a a1.toNat).2.2.1.c, .slice (y_a a1.toNat).2.2.2.1.A e236.Diagram_Crossings.length (y_a a1.toNat).2.2.2.1.c, I e236.Diagram_Circles, I e236.Braid_Strands, .slice (y_a a1.toNat).2.2.2.2.2.2.1.A e236.Braid_Word.length (y_a a1.toNat).2.2.2.2.2.2.1.c, I e236.Certificate_Name, I e236.Certificate_Trait, .slice (y_a a1.toNat).2.2.2.2.2.2.2.2.2.1.A e236.Certificate_Moves.length (y_a a1.toNat).2.2.2.2.2.2.2.2.2.1.c, .slice (y_a a1.toNat).2.2.2.2.2.2.2.2.2.2.1.A m (y_a a1.toNat).2.2.2.2.2.2.2.2.2.2.1.c, .slice (y_a a1.toNat).2.2.2.2.2.2.2.2.2.2.2.A e236.Certificate_Perms.length (y_a a1.toNat).2.2.2.2.2.2.2.2.2.2.2.c] : List Value)) c241) HS
      refine aS Z (nL (G.len (t := 0) (m := (((((((((((x84.set a1.toNat ({ e177 with Name := t171 })).set a1.toNat ({ e181 with Kind := w64 (b1 + 1) })).set a1.toNat { e184 with Triangulation_Tets := t187 }).set a1.toNat { e193 with Diagram_Crossings := t196 }).set a1.toNat ({ e203 with Diagram_Circles := t195 })).set a1.toNat ({ e207 with Braid_Strands := w64 (t195 + 1) })).set a1.toNat { e210 with Braid_Word := t213 }).set a1.toNat ({ e220 with Certificate_Name := t212 })).set a1.toNat ({ e224 with Certificate_Trait := w64 (t212 + 1) })).set a1.toNat { e227 with Certificate_Moves := t230 }).set a1.toNat { e236 with Certificate_Tets := t239 }).length) Z (by simp only [List.length_set, List.length_set] <;> rfl) ?_))
      obtain ⟨c244, H⟩ := iN H
      obtain ⟨e245, h246, H⟩ := bnd_elim H
      obtain ⟨t247, t248, h249, H⟩ := bind2_elim H
      obtain ⟨c250, H⟩ := iN H
      refine rG (pS 2 Z (GO.ix Z Z Z underlying28 sz48 ((RdIn.own (j := 0) Z) _ HS).2.2.1 c244.1 c244.2 Z (GO.fld (ea A_a (a1.toNat * 12 + 7)) Z Z fl48_5 (ea_add _ _ _) Z (GO.fld (ea A_a (a1.toNat * 12 + 11)) Z Z fl46_4 (by rw [ea_add, Nat.add_assoc]) Z (GO.ldRd (T := T_GItem_47) (n := a1.toNat) (o := 11) HS (RdIn.own (j := 0) Z) Z Z (getD_eq (ltN c244) h246) Z Z na41 Z (mV Z ?_))))))
      replace HS := HS.focusO F_GItem_47_Certificate_Perms (getD_eq (ltN c244) h246)
      refine fN Z func79 fok79.1 fok79.2 Z Z (laws_markInt64S.calls HS  h249) (fun _ wd251 ⟨h252, HS⟩ => ⟨_, h252, ?_⟩)
      replace HS := St.unfocusO (y := t248) F_GItem_47_Certificate_Perms (getD_eq (ltN c244) h246) (congrArg (fun m => ([.string e245.Name, I e245.Kind, .slice (y_a a1.toNat).2.2.1.A e245.Triangulation_Tets.length (y_a a1.toNat).2.2.1.c, .slice (y_a a1.toNat).2.2.2.1.A e245.Diagram_Crossings.length (y_a a1.toNat).2.2.2.1.c, I e245.Diagram_Circles, I e245.Braid_Strands, .slice (y_a a1.toNat).2.2.2.2.2.2.1.A e245.Braid_Word.length (y_a a1.toNat).2.2.2.2.2.2.1.c, I e245.Certificate_Name, I e245.Certificate_Trait, .slice (y_a a1.toNat).2.2.2.2.2.2.2.2.2.1.A e245.Certificate_Moves.length (y_a a1.toNat).2.2.2.2.2.2.2.2.2.1.c, .slice (y_a a1.toNat).2.2.2.2.2.2.2.2.2.2.1.A e245.Certificate_Tets.length (y_a a1.toNat).2.2.2.2.2.2.2.2.2.2.1.c, .slice (y_a a1.toNat).2.2.2.2.2.2.2.2.2.2.2.A m (y_a a1.toNat).2.2.2.2.2.2.2.2.2.2.2.c] : List Value)) c250) HS
      refine aS Z (nL (G.len (t := 0) (m := ((((((((((((x84.set a1.toNat ({ e177 with Name := t171 })).set a1.toNat ({ e181 with Kind := w64 (b1 + 1) })).set a1.toNat { e184 with Triangulation_Tets := t187 }).set a1.toNat { e193 with Diagram_Crossings := t196 }).set a1.toNat ({ e203 with Diagram_Circles := t195 })).set a1.toNat ({ e207 with Braid_Strands := w64 (t195 + 1) })).set a1.toNat { e210 with Braid_Word := t213 }).set a1.toNat ({ e220 with Certificate_Name := t212 })).set a1.toNat ({ e224 with Certificate_Trait := w64 (t212 + 1) })).set a1.toNat { e227 with Certificate_Moves := t230 }).set a1.toNat { e236 with Certificate_Tets := t239 }).set a1.toNat { e245 with Certificate_Perms := t248 }).length) Z (by simp only [List.length_set, List.length_set] <;> rfl) (rN 3 Z (G.weak ?_ (d1 i1 (Nat.lt_succ_of_le (lR _)) (Nat.le_of_succ_le h1) _ _ _ _ H HS)))))
      exact ⟨Z, Z, Z, tv⟩
     refine nB Z (tF c170) (rN 3 Z ?_)
     obtain ⟨rfl, rfl⟩ := some2 H
     exact rT _ func40 Z Z ⟨Z, HS⟩
  refine G.weak ?_ (g1 K (lR _) _ _ _ _ H HS)
  exact ⟨Z, Z, Z, tv⟩
theorem laws_markItemSS.calls {a_ : List (List GItem)} {k_ : Int} {A_a : Option Addr} {c_a : Nat} {y_a : Nat → (Ty.slice 48 T_GItem_47).Lay} {r1 : Int} {r2 : List (List GItem)} (HS : St w0 w (Own (Ty.slice 48 T_GItem_47) 28 A_a c_a y_a a_ :: L)) (H : laws_markItemSS.f K a_ k_ = some (r1, r2)) :
    Calls prog 41 #[.slice A_a a_.length c_a, I k_] w (laws_markItemSS.post w0 L A_a c_a y_a r1 r2) := by
  unfold laws_markItemSS.f at H
  refine cG func41 Z ?_
  refine rN 7 Z ?_
  refine G.name (fun e1 f1 => ?_)
  have g1 : ∀ b1, b1 ≤ K → ∀ (x9 : List (List GItem)) (c1 a1 : Int) (w : World), laws_markItemSS.l1 K b1 x9 c1 a1 = some (r1, r2) → St w0 w (Own (Ty.slice 48 T_GItem_47) 28 A_a c_a y_a x9 :: L) → G prog 41 19 [(0, .slice A_a x9.length c_a), (1, I c1), (5, I a1)] e1 w (laws_markItemSS.post w0 L A_a c_a y_a r1 r2) := by
   intro b1
   induction b1 using Nat.strongRecOn with
   | _ b1 d1 =>
    intro h1 x9 c1 a1 w H HS
    cases b1 with
    | zero => rw [laws_markItemSS.l1] at H; cases H
    | succ i1 =>
     rw [laws_markItemSS.l1] at H
     subst f1
     refine rN 2 Z (rG (pS 2 Z (lS Z Z underlying29 Z (GO.lss Z Z Z Z (nL ?_)))))
     rcases iE H with ⟨c20, H⟩ | ⟨c20, H⟩
     ·
      refine yB Z (tT c20) (rN 3 Z ?_)
      obtain ⟨c21, H⟩ := iN H
      obtain ⟨t22, t23, h24, H⟩ := bind2_elim H
      obtain ⟨c25, H⟩ := iN H
      refine rG (pS 2 Z (GO.ix Z Z Z underlying29 sz28 ((RdIn.own (j := 0) Z) _ HS).2.2.1 c21.1 c21.2 Z (GO.ldRd (T := (Ty.slice 48 T_GItem_47)) (n := a1.toNat) (o := 0) HS (RdIn.own (j := 0) Z) Z Z (getD_some (d := []) (ltN c21)) Z Z na28 Z (mV Z ?_))))
      replace HS := HS.focusO Fld.id (getD_some (d := []) (ltN c21))
      refine fN Z func40 fok40.1 fok40.2 Z Z (laws_markItemS.calls HS  h24) (fun _ wd26 ⟨h27, HS⟩ => ⟨_, h27, ?_⟩)
      replace HS := St.unfocusO (y := t23) Fld.id (getD_some (d := []) (ltN c21)) (congrArg (fun m => ([.slice ((y_a a1.toNat).A) m ((y_a a1.toNat).c)] : List Value)) c25) HS
      refine aS Z (nL (G.len (t := 0) (m := (x9.set a1.toNat t23).length) Z (by simp only [List.length_set, List.length_set] <;> rfl) (rN 3 Z (G.weak ?_ (d1 i1 (Nat.lt_succ_of_le (lR _)) (Nat.le_of_succ_le h1) _ _ _ _ H HS)))))
      exact ⟨Z, Z, Z, tv⟩
     refine nB Z (tF c20) (rN 3 Z ?_)
     obtain ⟨rfl, rfl⟩ := some2 H
     exact rT _ func41 Z Z ⟨Z, HS⟩
  refine G.weak ?_ (g1 K (lR _) _ _ _ _ H HS)
  exact ⟨Z, Z, Z, tv⟩
theorem laws_markBench.calls {d1 : List GItem} {c1 a1 : List (List GItem)} {k_ : Int} {A_a : Option Addr} {c_a : Nat} {y_a : Nat → T_GItem_47.Lay} {A_b : Option Addr} {c_b : Nat} {y_b : Nat → (Ty.slice 48 T_GItem_47).Lay} {A_c : Option Addr} {c_c : Nat} {y_c : Nat → (Ty.slice 48 T_GItem_47).Lay} {r1 : Int} {r2 : List GItem} {r3 r4 : List (List GItem)} (HS : St w0 w (Own T_GItem_47 48 A_a c_a y_a d1 :: Own (Ty.slice 48 T_GItem_47) 28 A_b c_b y_b c1 :: Own (Ty.slice 48 T_GItem_47) 28 A_c c_c y_c a1 :: L)) (H : laws_markBench.f K d1 c1 a1 k_ = some (r1, r2, r3, r4)) :
    Calls prog 15 #[.agg [.slice A_a d1.length c_a, .slice A_b c1.length c_b, .slice A_c a1.length c_c].toArray, I k_] w (laws_markBench.post w0 L A_a c_a y_a A_b c_b y_b A_c c_c y_c r1 r2 r3 r4) := by
  unfold laws_markBench.f at H
  refine cG func15 Z ?_
  refine sQ (rG (GO.box (cs := [.slice A_a d1.length c_a, .slice A_b c1.length c_b, .slice A_c a1.length c_c]) HS Z Z Z Z fun b1 wd2 HS => aS Z (nL (sQ ?_))))
  obtain ⟨t3, t4, h5, H⟩ := bind2_elim H
  obtain ⟨c6, H⟩ := iN H
  refine rG (fL b1 0 fl31_0 Z (lB 0 HS Z na28 Z (mV Z ?_)))
  replace HS := HS.pk 4 [1, 0, 2, 3] Z
  refine fN Z func40 fok40.1 fok40.2 Z Z (laws_markItemS.calls HS  h5) (fun _ wd7 ⟨h8, HS⟩ => ⟨_, h8, (aS Z (nL ?_))⟩)
  replace HS := HS.boxEq (j := 1) (cs' := [.slice A_a t4.length c_a, .slice A_b c1.length c_b, .slice A_c a1.length c_c]) Z (by simp only [List.length_set, c6] <;> rfl)
  refine sQ ?_
  obtain ⟨t9, t10, h11, H⟩ := bind2_elim H
  obtain ⟨c12, H⟩ := iN H
  refine rG (fL b1 1 fl31_1 Z (lB 1 HS Z na29 Z (mV Z ?_)))
  replace HS := HS.pk 4 [2, 0, 1, 3] Z
  refine fN Z func41 fok41.1 fok41.2 Z Z (laws_markItemSS.calls HS  h11) (fun _ wd13 ⟨h14, HS⟩ => ⟨_, h14, (aS Z (nL ?_))⟩)
  replace HS := HS.boxEq (j := 2) (cs' := [.slice A_a t4.length c_a, .slice A_b t10.length c_b, .slice A_c a1.length c_c]) Z (by simp only [List.length_set, c12] <;> rfl)
  refine sQ ?_
  obtain ⟨t15, t16, h17, H⟩ := bind2_elim H
  obtain ⟨c18, H⟩ := iN H
  refine rG (fL b1 2 fl31_2 Z (lB 2 HS Z na29 Z (mV Z ?_)))
  replace HS := HS.pk 4 [3, 0, 1, 2] Z
  refine fN Z func41 fok41.1 fok41.2 Z Z (laws_markItemSS.calls HS  h17) (fun _ wd19 ⟨h20, HS⟩ => ⟨_, h20, (aS Z (nL ?_))⟩)
  replace HS := HS.boxEq (j := 3) (cs' := [.slice A_a t4.length c_a, .slice A_b t10.length c_b, .slice A_c t16.length c_c]) Z (by simp only [List.length_set, c18] <;> rfl)
  refine rN 2 Z ?_
  obtain ⟨rfl, rfl, rfl, rfl⟩ := some4 H
  exact rT _ func15 Z Z ⟨Z, (HS.pk 4 [2, 1, 0] Z)⟩
theorem laws_heldFaceS.calls {a_ : List GFace} {k_ : Int} {A_a : Option Addr} {c_a : Nat} {r1 : Int} (HS : St w0 w (L)) (r_a : RdIn w0 L T_GFace A_a c_a (fun _ => ()) a_) (H : laws_heldFaceS.f K a_ k_ = some r1) :
    Calls prog 111 #[.slice A_a a_.length c_a, I k_] w (laws_heldFaceS.post w0 L r1) := by
  unfold laws_heldFaceS.f at H
  refine cG func111 Z ?_
  refine rN 7 Z ?_
  refine G.name (fun c1 d1 => ?_)
  have e1 : ∀ a1, a1 ≤ K → ∀ (k_7 i_8 : Int) (w : World), laws_heldFaceS.l1 K a1 a_ k_7 i_8 = some r1 → St w0 w (L) → G prog 111 31 [(0, .slice A_a a_.length c_a), (1, I k_7), (5, I i_8)] c1 w (laws_heldFaceS.post w0 L r1) := by
   intro a1
   induction a1 using Nat.strongRecOn with
   | _ a1 b1 =>
    intro f1 k_7 i_8 w H HS
    cases a1 with
    | zero => rw [laws_heldFaceS.l1] at H; cases H
    | succ g1 =>
     rw [laws_heldFaceS.l1] at H
     subst d1
     refine rN 2 Z (rG (pS 2 Z (lS Z Z underlying136 Z (GO.lss Z Z Z Z (nL ?_)))))
     rcases iE H with ⟨c15, H⟩ | ⟨c15, H⟩
     ·
      refine yB Z (tT c15) (rN 5 Z ?_)
      obtain ⟨c16, H⟩ := iN H
      obtain ⟨e17, h18, H⟩ := bnd_elim H
      refine rG (pS 2 Z (GO.ix Z Z Z underlying136 sz140 (r_a _ HS).2.2.1 c16.1 c16.2 Z (GO.fld (ea A_a (i_8.toNat * 2)) Z Z fl140_0 Z Z (GO.ldRd (T := T_GFace) (n := i_8.toNat) (o := 0) HS r_a Z Z (getD_eq (ltN c16) h18) Z Z na2 Z (pS 2 Z (nL ?_))))))
      rcases iE H with ⟨c19, H⟩ | ⟨c19, H⟩
      ·
       refine nB Z (nT c19) (rN 5 Z (rG (pS 2 Z (GO.ix Z Z Z underlying136 sz140 (r_a _ HS).2.2.1 c16.1 c16.2 Z (GO.fld (ea A_a (i_8.toNat * 2 + 1)) Z Z fl140_1 (ea_add _ _ _) Z (GO.ldRd (T := T_GFace) (n := i_8.toNat) (o := 1) HS r_a Z Z (getD_eq (ltN c16) h18) Z Z na2 Z (pS 2 Z (nL ?_))))))))
       rcases iE H with ⟨c20, H⟩ | ⟨c20, H⟩
       ·
        refine nB Z (nT c20) (rN 5 Z (G.weak ?_ (b1 g1 (Nat.lt_succ_of_le (lR _)) (Nat.le_of_succ_le f1) _ _ _ H HS)))
        exact ⟨Z, Z, Z, tv⟩
       refine yB Z (nF c20) (rN 2 Z ?_)
       obtain rfl := sI H
       exact rT _ func111 Z Z ⟨Z, HS⟩
      refine yB Z (nF c19) (rN 2 Z ?_)
      obtain rfl := sI H
      exact rT _ func111 Z Z ⟨Z, HS⟩
     refine nB Z (tF c15) (rN 3 Z ?_)
     obtain rfl := sI H
     exact rT _ func111 Z Z ⟨Z, HS⟩
  refine G.weak ?_ (e1 K (lR _) _ _ _ H HS)
  exact ⟨Z, Z, Z, tv⟩
theorem laws_heldFaceSS.calls {a_ : List (List GFace)} {k_ : Int} {A_a : Option Addr} {c_a : Nat} {y_a : Nat → (Ty.slice 140 T_GFace).Lay} {r1 : Int} (HS : St w0 w (L)) (r_a : RdIn w0 L (Ty.slice 140 T_GFace) A_a c_a y_a a_) (H : laws_heldFaceSS.f K a_ k_ = some r1) :
    Calls prog 81 #[.slice A_a a_.length c_a, I k_] w (laws_heldFaceSS.post w0 L r1) := by
  unfold laws_heldFaceSS.f at H
  refine cG func81 Z ?_
  refine rN 7 Z ?_
  refine G.name (fun c1 d1 => ?_)
  have e1 : ∀ a1, a1 ≤ K → ∀ (k_8 i_9 : Int) (w : World), laws_heldFaceSS.l1 K a1 a_ k_8 i_9 = some r1 → St w0 w (L) → G prog 81 21 [(0, .slice A_a a_.length c_a), (1, I k_8), (5, I i_9)] c1 w (laws_heldFaceSS.post w0 L r1) := by
   intro a1
   induction a1 using Nat.strongRecOn with
   | _ a1 b1 =>
    intro f1 k_8 i_9 w H HS
    cases a1 with
    | zero => rw [laws_heldFaceSS.l1] at H; cases H
    | succ g1 =>
     rw [laws_heldFaceSS.l1] at H
     subst d1
     refine rN 2 Z (rG (pS 2 Z (lS Z Z underlying35 Z (GO.lss Z Z Z Z (nL ?_)))))
     rcases iE H with ⟨c17, H⟩ | ⟨c17, H⟩
     ·
      refine yB Z (tT c17) (rN 4 Z ?_)
      obtain ⟨c18, H⟩ := iN H
      obtain ⟨t19, h20, H⟩ := bI H
      refine rG (pS 2 Z (GO.ix Z Z Z underlying35 sz136 (r_a _ HS).2.2.1 c18.1 c18.2 Z (GO.ldRd (T := (Ty.slice 140 T_GFace)) (n := i_9.toNat) (o := 0) HS r_a Z Z (getD_some (d := []) (ltN c18)) Z Z na136 Z (mV Z (fN Z func111 fok111.1 fok111.2 Z Z (laws_heldFaceS.calls HS (RdIn.elem r_a c18.1 c18.2) h20) (fun _ wd21 ⟨h22, HS⟩ => ⟨_, h22, (aS Z (nL (rN 2 Z ?_)))⟩))))))
      rcases iE H with ⟨c23, H⟩ | ⟨c23, H⟩
      ·
       refine yB Z (tT c23) (rN 2 Z ?_)
       obtain rfl := sI H
       exact rT _ func81 Z Z ⟨Z, HS⟩
      refine nB Z (tF c23) (rN 4 Z (G.weak ?_ (b1 g1 (Nat.lt_succ_of_le (lR _)) (Nat.le_of_succ_le f1) _ _ _ H HS)))
      exact ⟨Z, Z, Z, tv⟩
     refine nB Z (tF c17) (rN 3 Z ?_)
     obtain rfl := sI H
     exact rT _ func81 Z Z ⟨Z, HS⟩
  refine G.weak ?_ (e1 K (lR _) _ _ _ H HS)
  exact ⟨Z, Z, Z, tv⟩
theorem laws_heldCrossingS.calls {a_ : List GCrossing} {k_ : Int} {A_a : Option Addr} {c_a : Nat} {r1 : Int} (HS : St w0 w (L)) (r_a : RdIn w0 L T_GCrossing A_a c_a (fun _ => ()) a_) (H : laws_heldCrossingS.f K a_ k_ = some r1) :
    Calls prog 82 #[.slice A_a a_.length c_a, I k_] w (laws_heldCrossingS.post w0 L r1) := by
  unfold laws_heldCrossingS.f at H
  refine cG func82 Z ?_
  refine rN 7 Z ?_
  refine G.name (fun e1 f1 => ?_)
  have g1 : ∀ b1, b1 ≤ K → ∀ (c1 a1 : Int) (w : World), laws_heldCrossingS.l1 K b1 a_ c1 a1 = some r1 → St w0 w (L) → G prog 82 58 [(0, .slice A_a a_.length c_a), (1, I c1), (5, I a1)] e1 w (laws_heldCrossingS.post w0 L r1) := by
   intro b1
   induction b1 using Nat.strongRecOn with
   | _ b1 d1 =>
    intro h1 c1 a1 w H HS
    cases b1 with
    | zero => rw [laws_heldCrossingS.l1] at H; cases H
    | succ i1 =>
     rw [laws_heldCrossingS.l1] at H
     subst f1
     refine rN 2 Z (rG (pS 2 Z (lS Z Z underlying38 Z (GO.lss Z Z Z Z (nL ?_)))))
     rcases iE H with ⟨c21, H⟩ | ⟨c21, H⟩
     ·
      refine yB Z (tT c21) (rN 5 Z ?_)
      obtain ⟨c22, H⟩ := iN H
      obtain ⟨e23, h24, H⟩ := bnd_elim H
      refine rG (pS 2 Z (GO.ix Z Z Z underlying38 sz143 (r_a _ HS).2.2.1 c22.1 c22.2 Z (GO.fld (ea A_a (a1.toNat * 5)) Z Z fl143_0 Z Z (GO.ldRd (T := T_GCrossing) (n := a1.toNat) (o := 0) HS r_a Z Z (getD_eq (ltN c22) h24) Z Z na2 Z (pS 2 Z (nL ?_))))))
      rcases iE H with ⟨c25, H⟩ | ⟨c25, H⟩
      ·
       refine nB Z (nT c25) (rN 5 Z (rG (pS 2 Z (GO.ix Z Z Z underlying38 sz143 (r_a _ HS).2.2.1 c22.1 c22.2 Z (GO.fld (ea A_a (a1.toNat * 5 + 1)) Z Z fl143_1 (ea_add _ _ _) Z (GO.ldRd (T := T_GCrossing) (n := a1.toNat) (o := 1) HS r_a Z Z (getD_eq (ltN c22) h24) Z Z na2 Z (pS 2 Z (nL ?_))))))))
       rcases iE H with ⟨c26, H⟩ | ⟨c26, H⟩
       ·
        refine nB Z (nT c26) (rN 5 Z (rG (pS 2 Z (GO.ix Z Z Z underlying38 sz143 (r_a _ HS).2.2.1 c22.1 c22.2 Z (GO.fld (ea A_a (a1.toNat * 5 + 2)) Z Z fl143_2 (ea_add _ _ _) Z (GO.ldRd (T := T_GCrossing) (n := a1.toNat) (o := 2) HS r_a Z Z (getD_eq (ltN c22) h24) Z Z na2 Z (pS 2 Z (nL ?_))))))))
        rcases iE H with ⟨c27, H⟩ | ⟨c27, H⟩
        ·
         refine nB Z (nT c27) (rN 5 Z (rG (pS 2 Z (GO.ix Z Z Z underlying38 sz143 (r_a _ HS).2.2.1 c22.1 c22.2 Z (GO.fld (ea A_a (a1.toNat * 5 + 3)) Z Z fl143_3 (ea_add _ _ _) Z (GO.ldRd (T := T_GCrossing) (n := a1.toNat) (o := 3) HS r_a Z Z (getD_eq (ltN c22) h24) Z Z na2 Z (pS 2 Z (nL ?_))))))))
         rcases iE H with ⟨c28, H⟩ | ⟨c28, H⟩
         ·
          refine nB Z (nT c28) (rN 5 Z (rG (pS 2 Z (GO.ix Z Z Z underlying38 sz143 (r_a _ HS).2.2.1 c22.1 c22.2 Z (GO.fld (ea A_a (a1.toNat * 5 + 4)) Z Z fl143_4 (ea_add _ _ _) Z (GO.ldRd (T := T_GCrossing) (n := a1.toNat) (o := 4) HS r_a Z Z (getD_eq (ltN c22) h24) Z Z na2 Z (pS 2 Z (nL ?_))))))))
          rcases iE H with ⟨c29, H⟩ | ⟨c29, H⟩
          ·
           refine nB Z (nT c29) (rN 5 Z (G.weak ?_ (d1 i1 (Nat.lt_succ_of_le (lR _)) (Nat.le_of_succ_le h1) _ _ _ H HS)))
           exact ⟨Z, Z, Z, tv⟩
          refine yB Z (nF c29) (rN 2 Z ?_)
          obtain rfl := sI H
          exact rT _ func82 Z Z ⟨Z, HS⟩
         refine yB Z (nF c28) (rN 2 Z ?_)
         obtain rfl := sI H
         exact rT _ func82 Z Z ⟨Z, HS⟩
        refine yB Z (nF c27) (rN 2 Z ?_)
        obtain rfl := sI H
        exact rT _ func82 Z Z ⟨Z, HS⟩
       refine yB Z (nF c26) (rN 2 Z ?_)
       obtain rfl := sI H
       exact rT _ func82 Z Z ⟨Z, HS⟩
      refine yB Z (nF c25) (rN 2 Z ?_)
      obtain rfl := sI H
      exact rT _ func82 Z Z ⟨Z, HS⟩
     refine nB Z (tF c21) (rN 3 Z ?_)
     obtain rfl := sI H
     exact rT _ func82 Z Z ⟨Z, HS⟩
  refine G.weak ?_ (g1 K (lR _) _ _ _ H HS)
  exact ⟨Z, Z, Z, tv⟩
theorem laws_heldInt64S.calls {a_ : List Int} {k_ : Int} {A_a : Option Addr} {c_a : Nat} {r1 : Int} (HS : St w0 w (L)) (r_a : RdIn w0 L (TInt .i64) A_a c_a (fun _ => ()) a_) (H : laws_heldInt64S.f K a_ k_ = some r1) :
    Calls prog 83 #[.slice A_a a_.length c_a, I k_] w (laws_heldInt64S.post w0 L r1) := by
  unfold laws_heldInt64S.f at H
  refine cG func83 Z ?_
  refine rN 7 Z ?_
  refine G.name (fun c1 d1 => ?_)
  have e1 : ∀ a1, a1 ≤ K → ∀ (k_4 i_5 : Int) (w : World), laws_heldInt64S.l1 K a1 a_ k_4 i_5 = some r1 → St w0 w (L) → G prog 83 21 [(0, .slice A_a a_.length c_a), (1, I k_4), (5, I i_5)] c1 w (laws_heldInt64S.post w0 L r1) := by
   intro a1
   induction a1 using Nat.strongRecOn with
   | _ a1 b1 =>
    intro f1 k_4 i_5 w H HS
    cases a1 with
    | zero => rw [laws_heldInt64S.l1] at H; cases H
    | succ g1 =>
     rw [laws_heldInt64S.l1] at H
     subst d1
     refine rN 2 Z (rG (pS 2 Z (lS Z Z underlying41 Z (GO.lss Z Z Z Z (nL ?_)))))
     rcases iE H with ⟨c9, H⟩ | ⟨c9, H⟩
     ·
      refine yB Z (tT c9) (rN 5 Z ?_)
      obtain ⟨c10, H⟩ := iN H
      refine rG (pS 2 Z (GO.ix Z Z Z underlying41 sz2 (r_a _ HS).2.2.1 c10.1 c10.2 Z (GO.ldRd (T := (TInt .i64)) (n := i_5.toNat) (o := 0) HS r_a Z Z (getD_some (d := 0) (ltN c10)) Z Z na2 Z (pS 2 Z (nL ?_)))))
      rcases iE H with ⟨c11, H⟩ | ⟨c11, H⟩
      ·
       refine nB Z (nT c11) (rN 5 Z (G.weak ?_ (b1 g1 (Nat.lt_succ_of_le (lR _)) (Nat.le_of_succ_le f1) _ _ _ H HS)))
       exact ⟨Z, Z, Z, tv⟩
      refine yB Z (nF c11) (rN 2 Z ?_)
      obtain rfl := sI H
      exact rT _ func83 Z Z ⟨Z, HS⟩
     refine nB Z (tF c9) (rN 3 Z ?_)
     obtain rfl := sI H
     exact rT _ func83 Z Z ⟨Z, HS⟩
  refine G.weak ?_ (e1 K (lR _) _ _ _ H HS)
  exact ⟨Z, Z, Z, tv⟩
theorem laws_heldMoveS.calls {a_ : List GMove} {k_ : Int} {A_a : Option Addr} {c_a : Nat} {r1 : Int} (HS : St w0 w (L)) (r_a : RdIn w0 L T_GMove A_a c_a (fun _ => ()) a_) (H : laws_heldMoveS.f K a_ k_ = some r1) :
    Calls prog 84 #[.slice A_a a_.length c_a, I k_] w (laws_heldMoveS.post w0 L r1) := by
  unfold laws_heldMoveS.f at H
  refine cG func84 Z ?_
  refine rN 7 Z ?_
  refine G.name (fun c1 d1 => ?_)
  have e1 : ∀ a1, a1 ≤ K → ∀ (k_8 i_9 : Int) (w : World), laws_heldMoveS.l1 K a1 a_ k_8 i_9 = some r1 → St w0 w (L) → G prog 84 40 [(0, .slice A_a a_.length c_a), (1, I k_8), (5, I i_9)] c1 w (laws_heldMoveS.post w0 L r1) := by
   intro a1
   induction a1 using Nat.strongRecOn with
   | _ a1 b1 =>
    intro f1 k_8 i_9 w H HS
    cases a1 with
    | zero => rw [laws_heldMoveS.l1] at H; cases H
    | succ g1 =>
     rw [laws_heldMoveS.l1] at H
     subst d1
     refine rN 2 Z (rG (pS 2 Z (lS Z Z underlying44 Z (GO.lss Z Z Z Z (nL ?_)))))
     rcases iE H with ⟨c17, H⟩ | ⟨c17, H⟩
     ·
      refine yB Z (tT c17) (rN 5 Z ?_)
      obtain ⟨c18, H⟩ := iN H
      obtain ⟨e19, h20, H⟩ := bnd_elim H
      refine rG (pS 2 Z (GO.ix Z Z Z underlying44 sz110 (r_a _ HS).2.2.1 c18.1 c18.2 Z (GO.fld (ea A_a (i_9.toNat * 3)) Z Z fl110_0 Z Z (GO.ldRd (T := T_GMove) (n := i_9.toNat) (o := 0) HS r_a Z Z (getD_eq (ltN c18) h20) Z Z na2 Z (pS 2 Z (nL ?_))))))
      rcases iE H with ⟨c21, H⟩ | ⟨c21, H⟩
      ·
       refine nB Z (nT c21) (rN 5 Z (rG (pS 2 Z (GO.ix Z Z Z underlying44 sz110 (r_a _ HS).2.2.1 c18.1 c18.2 Z (GO.fld (ea A_a (i_9.toNat * 3 + 1)) Z Z fl110_1 (ea_add _ _ _) Z (GO.ldRd (T := T_GMove) (n := i_9.toNat) (o := 1) HS r_a Z Z (getD_eq (ltN c18) h20) Z Z na2 Z (pS 2 Z (nL ?_))))))))
       rcases iE H with ⟨c22, H⟩ | ⟨c22, H⟩
       ·
        refine nB Z (nT c22) (rN 5 Z (rG (pS 2 Z (GO.ix Z Z Z underlying44 sz110 (r_a _ HS).2.2.1 c18.1 c18.2 Z (GO.fld (ea A_a (i_9.toNat * 3 + 2)) Z Z fl110_2 (ea_add _ _ _) Z (GO.ldRd (T := T_GMove) (n := i_9.toNat) (o := 2) HS r_a Z Z (getD_eq (ltN c18) h20) Z Z na2 Z (pS 2 Z (nL ?_))))))))
        rcases iE H with ⟨c23, H⟩ | ⟨c23, H⟩
        ·
         refine nB Z (nT c23) (rN 5 Z (G.weak ?_ (b1 g1 (Nat.lt_succ_of_le (lR _)) (Nat.le_of_succ_le f1) _ _ _ H HS)))
         exact ⟨Z, Z, Z, tv⟩
        refine yB Z (nF c23) (rN 2 Z ?_)
        obtain rfl := sI H
        exact rT _ func84 Z Z ⟨Z, HS⟩
       refine yB Z (nF c22) (rN 2 Z ?_)
       obtain rfl := sI H
       exact rT _ func84 Z Z ⟨Z, HS⟩
      refine yB Z (nF c21) (rN 2 Z ?_)
      obtain rfl := sI H
      exact rT _ func84 Z Z ⟨Z, HS⟩
     refine nB Z (tF c17) (rN 3 Z ?_)
     obtain rfl := sI H
     exact rT _ func84 Z Z ⟨Z, HS⟩
  refine G.weak ?_ (e1 K (lR _) _ _ _ H HS)
  exact ⟨Z, Z, Z, tv⟩
theorem laws_heldItemS.calls {t : List GItem} {o : Int} {A_a : Option Addr} {c_a : Nat} {y_a : Nat → T_GItem_47.Lay} {r1 : Int} (HS : St w0 w (L)) (r_a : RdIn w0 L T_GItem_47 A_a c_a y_a t) (H : laws_heldItemS.f K t o = some r1) :
    Calls prog 55 #[.slice A_a t.length c_a, I o] w (laws_heldItemS.post w0 L r1) := by
  unfold laws_heldItemS.f at H
  refine cG func55 Z ?_
  refine rN 7 Z ?_
  refine G.name (fun e1 f1 => ?_)
  have g1 : ∀ b1, b1 ≤ K → ∀ (c1 a1 : Int) (w : World), laws_heldItemS.l1 K b1 t c1 a1 = some r1 → St w0 w (L) → G prog 55 132 [(0, .slice A_a t.length c_a), (1, I c1), (5, I a1)] e1 w (laws_heldItemS.post w0 L r1) := by
   intro b1
   induction b1 using Nat.strongRecOn with
   | _ b1 d1 =>
    intro h1 c1 a1 w H HS
    cases b1 with
    | zero => rw [laws_heldItemS.l1] at H; cases H
    | succ i1 =>
     rw [laws_heldItemS.l1] at H
     subst f1
     refine rN 2 Z (rG (pS 2 Z (lS Z Z underlying28 Z (GO.lss Z Z Z Z (nL ?_)))))
     rcases iE H with ⟨c91, H⟩ | ⟨c91, H⟩
     ·
      refine yB Z (tT c91) (rN 5 Z ?_)
      obtain ⟨c92, H⟩ := iN H
      obtain ⟨e93, h94, H⟩ := bnd_elim H
      obtain ⟨t95, h96, H⟩ := bI H
      refine G.lexS mixed (fun w => St w0 w (L)) [4] [0, 1, 2, 3, 5, 4, 6, 7] [] (by kernel_rfl) (by kernel_rfl) HS.drew ?_
      replace HS := HS.drew
      refine GX.ps 2 Z (qL Z Z (fun _ _ g => GO.ix Z Z Z underlying28 sz48 (r_a _ HS).2.2.1 c92.1 c92.2 Z g) Z (qL Z Z (fun _ _ g => GO.fld (ea A_a (a1.toNat * 12)) Z Z fl48_0 Z Z g) Z (GX.ps 1 Z (GX.ls Z Z Z HS (fun _ HS _ g => GO.ldRd (T := T_GItem_47) (n := a1.toNat) (o := 0) HS r_a Z Z (getD_eq (ltN c92) h94) Z Z na9 Z g) Z (GX.l2 Z (fN Z func76 fok76.1 fok76.2 Z Z (laws_markText.calls HS  h96) (fun _ wd97 ⟨h98, HS⟩ => ⟨_, h98, (GX.fin HS (qL Z Z (fun _ _ g => GO.neqS Z Z Z Z g) Z (GX.nil ?_)))⟩)))))))
      rcases iE H with ⟨c99, H⟩ | ⟨c99, H⟩
      ·
       refine nB Z (congrArg Bool.not c99) (rN 5 Z (rG (pS 2 Z (GO.ix Z Z Z underlying28 sz48 (r_a _ HS).2.2.1 c92.1 c92.2 Z (GO.fld (ea A_a (a1.toNat * 12 + 1)) Z Z fl48_1 (ea_add _ _ _) Z (GO.ldRd (T := T_GItem_47) (n := a1.toNat) (o := 1) HS r_a Z Z (getD_eq (ltN c92) h94) Z Z na2 Z (pS 2 Z (nL ?_))))))))
       rcases iE H with ⟨c100, H⟩ | ⟨c100, H⟩
       ·
        refine nB Z (nT c100) (rN 4 Z ?_)
        obtain ⟨t101, h102, H⟩ := bI H
        refine rG (pS 2 Z (GO.ix Z Z Z underlying28 sz48 (r_a _ HS).2.2.1 c92.1 c92.2 Z (GO.fld (ea A_a (a1.toNat * 12 + 2)) Z Z fl48_2 (ea_add _ _ _) Z (GO.fld (ea A_a (a1.toNat * 12 + 2)) Z Z fl37_0 Z Z (GO.ldRd (T := T_GItem_47) (n := a1.toNat) (o := 2) HS r_a Z Z (getD_eq (ltN c92) h94) Z Z na35 Z (mV Z (fN Z func81 fok81.1 fok81.2 Z Z (laws_heldFaceSS.calls HS (RdIn.fld r_a (getD_eq (ltN c92) h94) (fun _ h => h.2.2.1)) h102) (fun _ wd103 ⟨h104, HS⟩ => ⟨_, h104, (aS Z (nL (rN 3 Z ?_)))⟩))))))))
        rcases iE H with ⟨c105, H⟩ | ⟨c105, H⟩
        ·
         refine yB Z (tT c105) (rN 2 Z ?_)
         obtain rfl := sI H
         exact rT _ func55 Z Z ⟨Z, HS⟩
        refine nB Z (tF c105) (rN 2 Z ?_)
        obtain ⟨t106, h107, H⟩ := bI H
        refine rG (pS 2 Z (GO.ix Z Z Z underlying28 sz48 (r_a _ HS).2.2.1 c92.1 c92.2 Z (GO.fld (ea A_a (a1.toNat * 12 + 3)) Z Z fl48_3 (ea_add _ _ _) Z (GO.fld (ea A_a (a1.toNat * 12 + 3)) Z Z fl40_0 Z Z (GO.ldRd (T := T_GItem_47) (n := a1.toNat) (o := 3) HS r_a Z Z (getD_eq (ltN c92) h94) Z Z na38 Z (mV Z (fN Z func82 fok82.1 fok82.2 Z Z (laws_heldCrossingS.calls HS (RdIn.fld r_a (getD_eq (ltN c92) h94) (fun _ h => h.2.2.2.1)) h107) (fun _ wd108 ⟨h109, HS⟩ => ⟨_, h109, (aS Z (nL (rN 3 Z ?_)))⟩))))))))
        rcases iE H with ⟨c110, H⟩ | ⟨c110, H⟩
        ·
         refine yB Z (tT c110) (rN 2 Z ?_)
         obtain rfl := sI H
         exact rT _ func55 Z Z ⟨Z, HS⟩
        refine nB Z (tF c110) (rN 3 Z (rG (pS 2 Z (GO.ix Z Z Z underlying28 sz48 (r_a _ HS).2.2.1 c92.1 c92.2 Z (GO.fld (ea A_a (a1.toNat * 12 + 3)) Z Z fl48_3 (ea_add _ _ _) Z (GO.fld (ea A_a (a1.toNat * 12 + 4)) Z Z fl40_1 (by rw [ea_add, Nat.add_assoc]) Z (GO.ldRd (T := T_GItem_47) (n := a1.toNat) (o := 4) HS r_a Z Z (getD_eq (ltN c92) h94) Z Z na2 Z (pS 2 Z (nL ?_)))))))))
        rcases iE H with ⟨c111, H⟩ | ⟨c111, H⟩
        ·
         refine nB Z (nT c111) (rN 5 Z (rG (pS 2 Z (GO.ix Z Z Z underlying28 sz48 (r_a _ HS).2.2.1 c92.1 c92.2 Z (GO.fld (ea A_a (a1.toNat * 12 + 5)) Z Z fl48_4 (ea_add _ _ _) Z (GO.fld (ea A_a (a1.toNat * 12 + 5)) Z Z fl43_0 Z Z (GO.ldRd (T := T_GItem_47) (n := a1.toNat) (o := 5) HS r_a Z Z (getD_eq (ltN c92) h94) Z Z na2 Z (pS 2 Z (nL ?_)))))))))
         rcases iE H with ⟨c112, H⟩ | ⟨c112, H⟩
         ·
          refine nB Z (nT c112) (rN 4 Z ?_)
          obtain ⟨t113, h114, H⟩ := bI H
          refine rG (pS 2 Z (GO.ix Z Z Z underlying28 sz48 (r_a _ HS).2.2.1 c92.1 c92.2 Z (GO.fld (ea A_a (a1.toNat * 12 + 5)) Z Z fl48_4 (ea_add _ _ _) Z (GO.fld (ea A_a (a1.toNat * 12 + 6)) Z Z fl43_1 (by rw [ea_add, Nat.add_assoc]) Z (GO.ldRd (T := T_GItem_47) (n := a1.toNat) (o := 6) HS r_a Z Z (getD_eq (ltN c92) h94) Z Z na41 Z (mV Z (fN Z func83 fok83.1 fok83.2 Z Z (laws_heldInt64S.calls HS (RdIn.fld r_a (getD_eq (ltN c92) h94) (fun _ h => h.2.2.2.2.2.2.1)) h114) (fun _ wd115 ⟨h116, HS⟩ => ⟨_, h116, (aS Z (nL (rN 3 Z ?_)))⟩))))))))
          rcases iE H with ⟨c117, H⟩ | ⟨c117, H⟩
          ·
           refine yB Z (tT c117) (rN 2 Z ?_)
           obtain rfl := sI H
           exact rT _ func55 Z Z ⟨Z, HS⟩
          refine nB Z (tF c117) (rN 3 Z (rG (pS 2 Z (GO.ix Z Z Z underlying28 sz48 (r_a _ HS).2.2.1 c92.1 c92.2 Z (GO.fld (ea A_a (a1.toNat * 12 + 7)) Z Z fl48_5 (ea_add _ _ _) Z (GO.fld (ea A_a (a1.toNat * 12 + 7)) Z Z fl46_0 Z Z (GO.ldRd (T := T_GItem_47) (n := a1.toNat) (o := 7) HS r_a Z Z (getD_eq (ltN c92) h94) Z Z na2 Z (pS 2 Z (nL ?_)))))))))
          rcases iE H with ⟨c118, H⟩ | ⟨c118, H⟩
          ·
           refine nB Z (nT c118) (rN 5 Z (rG (pS 2 Z (GO.ix Z Z Z underlying28 sz48 (r_a _ HS).2.2.1 c92.1 c92.2 Z (GO.fld (ea A_a (a1.toNat * 12 + 7)) Z Z fl48_5 (ea_add _ _ _) Z (GO.fld (ea A_a (a1.toNat * 12 + 8)) Z Z fl46_1 (by rw [ea_add, Nat.add_assoc]) Z (GO.ldRd (T := T_GItem_47) (n := a1.toNat) (o := 8) HS r_a Z Z (getD_eq (ltN c92) h94) Z Z na2 Z (pS 2 Z (nL ?_)))))))))
           rcases iE H with ⟨c119, H⟩ | ⟨c119, H⟩
           ·
            refine nB Z (nT c119) (rN 4 Z ?_)
            obtain ⟨t120, h121, H⟩ := bI H
            refine rG (pS 2 Z (GO.ix Z Z Z underlying28 sz48 (r_a _ HS).2.2.1 c92.1 c92.2 Z (GO.fld (ea A_a (a1.toNat * 12 + 7)) Z Z fl48_5 (ea_add _ _ _) Z (GO.fld (ea A_a (a1.toNat * 12 + 9)) Z Z fl46_2 (by rw [ea_add, Nat.add_assoc]) Z (GO.ldRd (T := T_GItem_47) (n := a1.toNat) (o := 9) HS r_a Z Z (getD_eq (ltN c92) h94) Z Z na44 Z (mV Z (fN Z func84 fok84.1 fok84.2 Z Z (laws_heldMoveS.calls HS (RdIn.fld r_a (getD_eq (ltN c92) h94) (fun _ h => h.2.2.2.2.2.2.2.2.2.1)) h121) (fun _ wd122 ⟨h123, HS⟩ => ⟨_, h123, (aS Z (nL (rN 3 Z ?_)))⟩))))))))
            rcases iE H with ⟨c124, H⟩ | ⟨c124, H⟩
            ·
             refine yB Z (tT c124) (rN 2 Z ?_)
             obtain rfl := sI H
             exact rT _ func55 Z Z ⟨Z, HS⟩
            refine nB Z (tF c124) (rN 2 Z ?_)
            obtain ⟨t125, h126, H⟩ := bI H
            refine rG (pS 2 Z (GO.ix Z Z Z underlying28 sz48 (r_a _ HS).2.2.1 c92.1 c92.2 Z (GO.fld (ea A_a (a1.toNat * 12 + 7)) Z Z fl48_5 (ea_add _ _ _) Z (GO.fld (ea A_a (a1.toNat * 12 + 10)) Z Z fl46_3 (by rw [ea_add, Nat.add_assoc]) Z (GO.ldRd (T := T_GItem_47) (n := a1.toNat) (o := 10) HS r_a Z Z (getD_eq (ltN c92) h94) Z Z na41 Z (mV Z (fN Z func83 fok83.1 fok83.2 Z Z (laws_heldInt64S.calls HS (RdIn.fld r_a (getD_eq (ltN c92) h94) (fun _ h => h.2.2.2.2.2.2.2.2.2.2.1)) h126) (fun _ wd127 ⟨h128, HS⟩ => ⟨_, h128, (aS Z (nL (rN 3 Z ?_)))⟩))))))))
            rcases iE H with ⟨c129, H⟩ | ⟨c129, H⟩
            ·
             refine yB Z (tT c129) (rN 2 Z ?_)
             obtain rfl := sI H
             exact rT _ func55 Z Z ⟨Z, HS⟩
            refine nB Z (tF c129) (rN 2 Z ?_)
            obtain ⟨t130, h131, H⟩ := bI H
            refine rG (pS 2 Z (GO.ix Z Z Z underlying28 sz48 (r_a _ HS).2.2.1 c92.1 c92.2 Z (GO.fld (ea A_a (a1.toNat * 12 + 7)) Z Z fl48_5 (ea_add _ _ _) Z (GO.fld (ea A_a (a1.toNat * 12 + 11)) Z Z fl46_4 (by rw [ea_add, Nat.add_assoc]) Z (GO.ldRd (T := T_GItem_47) (n := a1.toNat) (o := 11) HS r_a Z Z (getD_eq (ltN c92) h94) Z Z na41 Z (mV Z (fN Z func83 fok83.1 fok83.2 Z Z (laws_heldInt64S.calls HS (RdIn.fld r_a (getD_eq (ltN c92) h94) (fun _ h => h.2.2.2.2.2.2.2.2.2.2.2)) h131) (fun _ wd132 ⟨h133, HS⟩ => ⟨_, h133, (aS Z (nL (rN 2 Z ?_)))⟩))))))))
            rcases iE H with ⟨c134, H⟩ | ⟨c134, H⟩
            ·
             refine yB Z (tT c134) (rN 2 Z ?_)
             obtain rfl := sI H
             exact rT _ func55 Z Z ⟨Z, HS⟩
            refine nB Z (tF c134) (rN 4 Z (G.weak ?_ (d1 i1 (Nat.lt_succ_of_le (lR _)) (Nat.le_of_succ_le h1) _ _ _ H HS)))
            exact ⟨Z, Z, Z, tv⟩
           refine yB Z (nF c119) (rN 2 Z ?_)
           obtain rfl := sI H
           exact rT _ func55 Z Z ⟨Z, HS⟩
          refine yB Z (nF c118) (rN 2 Z ?_)
          obtain rfl := sI H
          exact rT _ func55 Z Z ⟨Z, HS⟩
         refine yB Z (nF c112) (rN 2 Z ?_)
         obtain rfl := sI H
         exact rT _ func55 Z Z ⟨Z, HS⟩
        refine yB Z (nF c111) (rN 2 Z ?_)
        obtain rfl := sI H
        exact rT _ func55 Z Z ⟨Z, HS⟩
       refine yB Z (nF c100) (rN 2 Z ?_)
       obtain rfl := sI H
       exact rT _ func55 Z Z ⟨Z, HS⟩
      refine yB Z (congrArg Bool.not (bnot_of c99)) (rN 2 Z ?_)
      obtain rfl := sI H
      exact rT _ func55 Z Z ⟨Z, HS⟩
     refine nB Z (tF c91) (rN 3 Z ?_)
     obtain rfl := sI H
     exact rT _ func55 Z Z ⟨Z, HS⟩
  refine G.weak ?_ (g1 K (lR _) _ _ _ H HS)
  exact ⟨Z, Z, Z, tv⟩
theorem laws_heldItemSS.calls {a_ : List (List GItem)} {k_ : Int} {A_a : Option Addr} {c_a : Nat} {y_a : Nat → (Ty.slice 48 T_GItem_47).Lay} {r1 : Int} (HS : St w0 w (L)) (r_a : RdIn w0 L (Ty.slice 48 T_GItem_47) A_a c_a y_a a_) (H : laws_heldItemSS.f K a_ k_ = some r1) :
    Calls prog 56 #[.slice A_a a_.length c_a, I k_] w (laws_heldItemSS.post w0 L r1) := by
  unfold laws_heldItemSS.f at H
  refine cG func56 Z ?_
  refine rN 7 Z ?_
  refine G.name (fun c1 d1 => ?_)
  have e1 : ∀ a1, a1 ≤ K → ∀ (k_8 i_9 : Int) (w : World), laws_heldItemSS.l1 K a1 a_ k_8 i_9 = some r1 → St w0 w (L) → G prog 56 21 [(0, .slice A_a a_.length c_a), (1, I k_8), (5, I i_9)] c1 w (laws_heldItemSS.post w0 L r1) := by
   intro a1
   induction a1 using Nat.strongRecOn with
   | _ a1 b1 =>
    intro f1 k_8 i_9 w H HS
    cases a1 with
    | zero => rw [laws_heldItemSS.l1] at H; cases H
    | succ g1 =>
     rw [laws_heldItemSS.l1] at H
     subst d1
     refine rN 2 Z (rG (pS 2 Z (lS Z Z underlying29 Z (GO.lss Z Z Z Z (nL ?_)))))
     rcases iE H with ⟨c17, H⟩ | ⟨c17, H⟩
     ·
      refine yB Z (tT c17) (rN 4 Z ?_)
      obtain ⟨c18, H⟩ := iN H
      obtain ⟨t19, h20, H⟩ := bI H
      refine rG (pS 2 Z (GO.ix Z Z Z underlying29 sz28 (r_a _ HS).2.2.1 c18.1 c18.2 Z (GO.ldRd (T := (Ty.slice 48 T_GItem_47)) (n := i_9.toNat) (o := 0) HS r_a Z Z (getD_some (d := []) (ltN c18)) Z Z na28 Z (mV Z (fN Z func55 fok55.1 fok55.2 Z Z (laws_heldItemS.calls HS (RdIn.elem r_a c18.1 c18.2) h20) (fun _ wd21 ⟨h22, HS⟩ => ⟨_, h22, (aS Z (nL (rN 2 Z ?_)))⟩))))))
      rcases iE H with ⟨c23, H⟩ | ⟨c23, H⟩
      ·
       refine yB Z (tT c23) (rN 2 Z ?_)
       obtain rfl := sI H
       exact rT _ func56 Z Z ⟨Z, HS⟩
      refine nB Z (tF c23) (rN 4 Z (G.weak ?_ (b1 g1 (Nat.lt_succ_of_le (lR _)) (Nat.le_of_succ_le f1) _ _ _ H HS)))
      exact ⟨Z, Z, Z, tv⟩
     refine nB Z (tF c17) (rN 3 Z ?_)
     obtain rfl := sI H
     exact rT _ func56 Z Z ⟨Z, HS⟩
  refine G.weak ?_ (e1 K (lR _) _ _ _ H HS)
  exact ⟨Z, Z, Z, tv⟩
theorem laws_heldBench.calls {a1 : List GItem} {c1 d1 : List (List GItem)} {k_ : Int} {A_a : Option Addr} {c_a : Nat} {y_a : Nat → T_GItem_47.Lay} {A_b : Option Addr} {c_b : Nat} {y_b : Nat → (Ty.slice 48 T_GItem_47).Lay} {A_c : Option Addr} {c_c : Nat} {y_c : Nat → (Ty.slice 48 T_GItem_47).Lay} {r1 : Int} (HS : St w0 w (L)) (r_a : RdIn w0 L T_GItem_47 A_a c_a y_a a1) (r_b : RdIn w0 L (Ty.slice 48 T_GItem_47) A_b c_b y_b c1) (r_c : RdIn w0 L (Ty.slice 48 T_GItem_47) A_c c_c y_c d1) (H : laws_heldBench.f K a1 c1 d1 k_ = some r1) :
    Calls prog 20 #[.agg [.slice A_a a1.length c_a, .slice A_b c1.length c_b, .slice A_c d1.length c_c].toArray, I k_] w (laws_heldBench.post w0 L r1) := by
  unfold laws_heldBench.f at H
  refine cG func20 Z ?_
  refine sQ (rG (GO.box (cs := [.slice A_a a1.length c_a, .slice A_b c1.length c_b, .slice A_c d1.length c_c]) HS Z Z Z Z fun b1 wd2 HS => aS Z (nL (sQ ?_))))
  obtain ⟨t3, h4, H⟩ := bI H
  refine rG (fL b1 0 fl31_0 Z (lB 0 HS Z na28 Z (mV Z (fN Z func55 fok55.1 fok55.2 Z Z (laws_heldItemS.calls HS (rD 1 r_a) h4) (fun _ wd5 ⟨h6, HS⟩ => ⟨_, h6, (aS Z (nL (rN 3 Z ?_)))⟩)))))
  rcases iE H with ⟨c7, H⟩ | ⟨c7, H⟩
  ·
   refine yB Z (tT c7) (rN 2 Z ?_)
   obtain rfl := sI H
   exact rT _ func20 Z Z ⟨Z, (HS.pk 1 [] Z)⟩
  refine nB Z (tF c7) (rN 2 Z ?_)
  obtain ⟨t8, h9, H⟩ := bI H
  refine rG (fL b1 1 fl31_1 Z (lB 0 HS Z na29 Z (mV Z (fN Z func56 fok56.1 fok56.2 Z Z (laws_heldItemSS.calls HS (rD 1 r_b) h9) (fun _ wd10 ⟨h11, HS⟩ => ⟨_, h11, (aS Z (nL (rN 3 Z ?_)))⟩)))))
  rcases iE H with ⟨c12, H⟩ | ⟨c12, H⟩
  ·
   refine yB Z (tT c12) (rN 2 Z ?_)
   obtain rfl := sI H
   exact rT _ func20 Z Z ⟨Z, (HS.pk 1 [] Z)⟩
  refine nB Z (tF c12) (rN 2 Z ?_)
  obtain ⟨t13, h14, H⟩ := bI H
  refine rG (fL b1 2 fl31_2 Z (lB 0 HS Z na29 Z (mV Z (fN Z func56 fok56.1 fok56.2 Z Z (laws_heldItemSS.calls HS (rD 1 r_c) h14) (fun _ wd15 ⟨h16, HS⟩ => ⟨_, h16, (aS Z (nL (rN 3 Z ?_)))⟩)))))
  rcases iE H with ⟨c17, H⟩ | ⟨c17, H⟩
  ·
   refine yB Z (tT c17) (rN 2 Z ?_)
   obtain rfl := sI H
   exact rT _ func20 Z Z ⟨Z, (HS.pk 1 [] Z)⟩
  refine nB Z (tF c17) (rN 3 Z ?_)
  obtain rfl := sI H
  exact rT _ func20 Z Z ⟨Z, (HS.pk 1 [] Z)⟩
theorem laws_FnExactRedoBench.calls {a1 : List GItem} {c1 d1 : List (List GItem)} {A_a : Option Addr} {c_a : Nat} {y_a : Nat → T_GItem.Lay} {A_b : Option Addr} {c_b : Nat} {y_b : Nat → (Ty.slice 95 T_GItem).Lay} {A_c : Option Addr} {c_c : Nat} {y_c : Nat → (Ty.slice 95 T_GItem).Lay} {r1 : Bool} (HS : St w0 w (L)) (r_a : RdIn w0 L T_GItem A_a c_a y_a a1) (r_b : RdIn w0 L (Ty.slice 95 T_GItem) A_b c_b y_b c1) (r_c : RdIn w0 L (Ty.slice 95 T_GItem) A_c c_c y_c d1) (H : laws_FnExactRedoBench.f K a1 c1 d1 = some r1) :
    Calls prog 6 #[.agg [.slice A_a a1.length c_a, .slice A_b c1.length c_b, .slice A_c d1.length c_c].toArray] w (laws_FnExactRedoBench.post w0 L r1) := by
  unfold laws_FnExactRedoBench.f at H
  refine cG func6 Z ?_
  refine sQ (rG (GO.box (cs := [.slice A_a a1.length c_a, .slice A_b c1.length c_b, .slice A_c d1.length c_c]) HS Z Z Z Z fun b1 wd2 HS => aS Z (nL (rN 3 Z ?_))))
  obtain ⟨t3, h4, H⟩ := bI H
  refine rG (GO.ldBoxA (j := 0) ([.slice A_a a1.length c_a, .slice A_b c1.length c_b, .slice A_c d1.length c_c]) HS Z Z Z Z ag25 Z (mV Z (fN Z func7 fok7.1 fok7.2 Z Z (laws_szBench.calls HS (rD 1 r_a) (rD 1 r_b) (rD 1 r_c) h4) (fun _ wd5 ⟨h6, HS⟩ => ⟨_, h6, (aS Z (nL (rN 3 Z ?_)))⟩))))
  rcases iE H with ⟨c7, H⟩ | ⟨c7, H⟩
  ·
   refine yB Z (tT c7) (rN 2 Z ?_)
   obtain rfl := sI H
   exact rT _ func6 Z Z ⟨Z, (HS.pk 1 [] Z)⟩
  refine nB Z (tF c7) (rN 2 Z ?_)
  obtain ⟨t8, t9, t10, h11, H⟩ := bind3_elim H
  obtain ⟨t23, t24, t25, t26, h27, H⟩ := bind4_elim H
  refine rG (GO.ldBoxA (j := 0) ([.slice A_a a1.length c_a, .slice A_b c1.length c_b, .slice A_c d1.length c_c]) HS Z Z Z Z ag25 Z (fN Z func9 fok9.1 fok9.2 Z Z (laws_toBench.calls HS (rD 1 r_a) (rD 1 r_b) (rD 1 r_c) h11) (fun _ wd21 ⟨A12, c13, y14, A15, c16, y17, A18, c19, y20, h22, HS⟩ => ⟨_, h22, (fN Z func21 fok21.1 fok21.2 Z Z (spec_RedoBench.calls HS (RdIn.own (j := 0) Z) (RdIn.own (j := 1) Z) (RdIn.own (j := 2) Z) h27) (fun _ wd37 ⟨A28, c29, y30, A31, c32, y33, A34, c35, y36, h38, HS⟩ => ⟨_, h38, (pS 3 Z (GO.alloc HS Z zr31 Z Z fun b39 wd40 HS => GO.stBox (j := 0) (vs := [.slice A28 t23.length c29, .slice A31 t24.length c32, .slice A34 t25.length c35]) ([.slice A28 t23.length c29, .slice A31 t24.length c32, .slice A34 t25.length c35]) HS Z Z Z Z Z (htA ag31) Z Z Z fun wd41 HS => aS Z (nL (sQ ?_))))⟩))⟩)))
  obtain ⟨t42, t43, t44, h45, H⟩ := bind3_elim H
  refine rG (GO.ldBoxA (j := 7) ([.slice A_a a1.length c_a, .slice A_b c1.length c_b, .slice A_c d1.length c_c]) HS Z Z Z Z ag25 Z (fN Z func9 fok9.1 fok9.2 Z Z (laws_toBench.calls HS (rD 8 r_a) (rD 8 r_b) (rD 8 r_c) h45) (fun _ wd55 ⟨A46, c47, y48, A49, c50, y51, A52, c53, y54, h56, HS⟩ => ⟨_, h56, (GO.alloc HS Z zr31 Z Z fun b57 wd58 HS => GO.stBox (j := 0) (vs := [.slice A46 t42.length c47, .slice A49 t43.length c50, .slice A52 t44.length c53]) ([.slice A46 t42.length c47, .slice A49 t43.length c50, .slice A52 t44.length c53]) HS Z Z Z Z Z (htA ag31) Z Z Z fun wd59 HS => nL (sQ ?_))⟩)))
  obtain ⟨t60, t61, t62, t63, h64, H⟩ := bind4_elim H
  refine rG (GO.ldBoxA (j := 0) ([.slice A46 t42.length c47, .slice A49 t43.length c50, .slice A52 t44.length c53]) HS Z Z Z Z ag31 Z (fN Z func22 fok22.1 fok22.2 Z Z (impl_RedoBench.calls HS (RdIn.own (j := 1) Z) (RdIn.own (j := 2) Z) (RdIn.own (j := 3) Z) h64) (fun _ wd74 ⟨A65, c66, y67, A68, c69, y70, A71, c72, y73, h75, HS⟩ => ⟨_, h75, (pS 3 Z (GO.alloc HS Z zr31 Z Z fun b76 wd77 HS => GO.stBox (j := 0) (vs := [.slice A65 t60.length c66, .slice A68 t61.length c69, .slice A71 t62.length c72]) ([.slice A65 t60.length c66, .slice A68 t61.length c69, .slice A71 t62.length c72]) HS Z Z Z Z Z (htA ag31) Z Z Z fun wd78 HS => aS Z (nL (rN 2 Z ?_))))⟩)))
  obtain ⟨t84, h85, H⟩ := bI H
  rcases iE H with ⟨c88, H⟩ | ⟨c88, H⟩
  ·
   refine rG (GO.ldBoxA (j := 0) ([.slice A65 t60.length c66, .slice A68 t61.length c69, .slice A71 t62.length c72]) HS Z Z Z Z ag31 Z (GO.ldBoxA (j := 8) ([.slice A28 t23.length c29, .slice A31 t24.length c32, .slice A34 t25.length c35]) HS Z Z Z Z ag31 Z (fN Z func11 fok11.1 fok11.2 Z Z (laws_eqBench.calls HS (RdIn.own (j := 1) Z) (RdIn.own (j := 2) Z) (RdIn.own (j := 3) Z) (RdIn.own (j := 9) Z) (RdIn.own (j := 10) Z) (RdIn.own (j := 11) Z) h85) (fun _ wd86 ⟨h87, HS⟩ => ⟨_, h87, (pS 2 Z (kN 36 Z (congrArg Bool.not c88) (oN Z (mV Z (bK (oN Z (mV Z (bK (oN Z (GO.neq Z Z Z Z (bK ?_)))))))))))⟩))))
   refine GO.pickF Z Z Z Z Z (nL ?_)
   rcases iE H with ⟨c89, H⟩ | ⟨c89, H⟩
   ·
    refine nB Z (nT c89) (rN 3 Z ?_)
    obtain ⟨t90, t91, t92, h93, H⟩ := bind3_elim H
    obtain ⟨t105, h106, H⟩ := bI H
    refine G.lexS mixed (fun w => St w0 w (Box b57 31 [.slice A46 t42.length c47, .slice A49 t43.length c50, .slice A52 t44.length c53] :: Box b1 25 [.slice A_a a1.length c_a, .slice A_b c1.length c_b, .slice A_c d1.length c_c] :: L)) [0, 1] [0, 1, 2, 3, 4] [] (by kernel_rfl) (by kernel_rfl) (HS.drew.pk 16 [4, 15] Z) ?_
    replace HS := HS.drew
    refine GX.ls Z Z Z (HS.pk 16 [4, 15] Z) (fun _ HS _ g => GO.ldBoxA (j := 0) ([.slice A46 t42.length c47, .slice A49 t43.length c50, .slice A52 t44.length c53]) HS Z Z Z Z ag31 Z g) Z (GX.ls Z Z Z (HS.pk 16 [4, 15] Z) (fun _ HS _ g => GO.ldBoxA (j := 1) ([.slice A_a a1.length c_a, .slice A_b c1.length c_b, .slice A_c d1.length c_c]) HS Z Z Z Z ag25 Z g) Z (GX.l2 Z (fN Z func9 fok9.1 fok9.2 Z Z (laws_toBench.calls HS (rD 16 r_a) (rD 16 r_b) (rD 16 r_c) h93) (fun _ wd103 ⟨A94, c95, y96, A97, c98, y99, A100, c101, y102, h104, HS⟩ => ⟨_, h104, (GX.fin (HS.pk 19 [7, 18] Z) (GX.l2 Z (fN Z func11 fok11.1 fok11.2 Z Z (laws_eqBench.calls HS (RdIn.own (j := 8) Z) (RdIn.own (j := 9) Z) (RdIn.own (j := 10) Z) (RdIn.own (j := 0) Z) (RdIn.own (j := 1) Z) (RdIn.own (j := 2) Z) h106) (fun _ wd107 ⟨h108, HS⟩ => ⟨_, h108, (GX.fin (HS.pk 19 [7, 18] Z) (GX.ps 1 Z (GX.nil ?_)))⟩))))⟩))))
    rcases iE H with ⟨c109, H⟩ | ⟨c109, H⟩
    ·
     refine nB Z (congrArg Bool.not c109) (rN 4 Z ?_)
     obtain ⟨t110, t111, t112, t113, h114, H⟩ := bind4_elim H
     obtain ⟨c115, H⟩ := iN H
     obtain ⟨c116, H⟩ := iN H
     obtain ⟨c117, H⟩ := iN H
     refine rG (GO.ldBoxA (j := 7) ([.slice A46 t42.length c47, .slice A49 t43.length c50, .slice A52 t44.length c53]) HS Z Z Z Z ag31 Z (mV Z ?_))
     replace HS := HS.pk 19 [8, 9, 10, 0, 1, 2, 3, 4, 5, 6, 7, 11, 12, 13, 14, 15, 16, 17, 18] Z
     refine fN Z func15 fok15.1 fok15.2 Z Z (laws_markBench.calls HS  h114) (fun _ wd118 ⟨h119, HS⟩ => ⟨_, h119, (aS Z (nL ?_))⟩)
     replace HS := HS.boxEq (j := 10) (cs' := [.slice A46 t111.length c47, .slice A49 t43.length c50, .slice A52 t44.length c53]) Z (by simp only [List.length_set, c115, c116, c117] <;> rfl)
     replace HS := HS.boxEq (j := 10) (cs' := [.slice A46 t111.length c47, .slice A49 t112.length c50, .slice A52 t44.length c53]) Z (by simp only [List.length_set, c115, c116, c117] <;> rfl)
     replace HS := HS.boxEq (j := 10) (cs' := [.slice A46 t111.length c47, .slice A49 t112.length c50, .slice A52 t113.length c53]) Z (by simp only [List.length_set, c115, c116, c117] <;> rfl)
     refine rN 2 Z ?_
     rcases iE H with ⟨c126, H⟩ | ⟨c126, H⟩
     ·
      refine rG (pS 3 Z (kN 51 Z (tT c126) (oF Z (oF Z (oF Z (oF Z (pS 2 Z (oF Z (oF Z (oF Z (GO.pickT Z Z Z Z Z (nL (rN 3 Z ?_)))))))))))))
      obtain rfl := sI H
      exact rT _ func6 Z Z ⟨Z, (HS.pk 19 [] Z)⟩
     obtain ⟨t127, h128, H⟩ := bI H
     rcases iE H with ⟨c131, H⟩ | ⟨c131, H⟩
     ·
      refine rG (pS 3 Z (kN 51 Z (tF c126) (oN Z (GO.ldBoxA (j := 6) ([.slice A65 t60.length c66, .slice A68 t61.length c69, .slice A71 t62.length c72]) HS Z Z Z Z ag31 Z (bK (oN Z (GO.ldBoxA (j := 11) ([.slice A28 t23.length c29, .slice A31 t24.length c32, .slice A34 t25.length c35]) HS Z Z Z Z ag31 Z (bK (oN Z (fN Z func11 fok11.1 fok11.2 Z Z (laws_eqBench.calls HS (RdIn.own (j := 7) Z) (RdIn.own (j := 8) Z) (RdIn.own (j := 9) Z) (RdIn.own (j := 12) Z) (RdIn.own (j := 13) Z) (RdIn.own (j := 14) Z) h128) (fun _ wd129 ⟨h130, HS⟩ => ⟨_, h130, (bK (oN Z (GO.not Z Z Z (bK ?_))))⟩)))))))))))
      refine pS 2 Z (kN 57 Z (congrArg Bool.not c131) (oN Z (mV Z (bK (oN Z (mV Z (bK (oN Z (GO.neq Z Z Z Z (bK (GO.pickF Z Z Z Z Z (nL (nB Z (nT c89) (rN 4 Z ?_))))))))))))))
      obtain ⟨t132, t133, t134, t135, h136, H⟩ := bind4_elim H
      obtain ⟨c137, H⟩ := iN H
      obtain ⟨c138, H⟩ := iN H
      obtain ⟨c139, H⟩ := iN H
      refine rG (GO.ldBoxA (j := 6) ([.slice A65 t60.length c66, .slice A68 t61.length c69, .slice A71 t62.length c72]) HS Z Z Z Z ag31 Z (mV Z ?_))
      replace HS := HS.pk 19 [7, 8, 9, 0, 1, 2, 3, 4, 5, 6, 10, 11, 12, 13, 14, 15, 16, 17, 18] Z
      refine fN Z func15 fok15.1 fok15.2 Z Z (laws_markBench.calls HS  h136) (fun _ wd140 ⟨h141, HS⟩ => ⟨_, h141, (aS Z (nL ?_))⟩)
      replace HS := HS.boxEq (j := 9) (cs' := [.slice A65 t133.length c66, .slice A68 t61.length c69, .slice A71 t62.length c72]) Z (by simp only [List.length_set, c137, c138, c139] <;> rfl)
      replace HS := HS.boxEq (j := 9) (cs' := [.slice A65 t133.length c66, .slice A68 t134.length c69, .slice A71 t62.length c72]) Z (by simp only [List.length_set, c137, c138, c139] <;> rfl)
      replace HS := HS.boxEq (j := 9) (cs' := [.slice A65 t133.length c66, .slice A68 t134.length c69, .slice A71 t135.length c72]) Z (by simp only [List.length_set, c137, c138, c139] <;> rfl)
      refine rN 3 Z ?_
      obtain ⟨t142, h143, H⟩ := bI H
      refine rG (GO.ldBoxA (j := 9) ([.slice A65 t133.length c66, .slice A68 t134.length c69, .slice A71 t135.length c72]) HS Z Z Z Z ag31 Z (mV Z (fN Z func20 fok20.1 fok20.2 Z Z (laws_heldBench.calls HS (RdIn.own (j := 0) Z) (RdIn.own (j := 1) Z) (RdIn.own (j := 2) Z) h143) (fun _ wd144 ⟨h145, HS⟩ => ⟨_, h145, (aS Z (nL (rN 3 Z ?_)))⟩))))
      rcases iE H with ⟨c146, H⟩ | ⟨c146, H⟩
      ·
       refine yB Z (tT c146) (rN 2 Z ?_)
       obtain rfl := sI H
       exact rT _ func6 Z Z ⟨Z, (HS.pk 19 [] Z)⟩
      refine nB Z (tF c146) (rN 4 Z ?_)
      rcases iE H with ⟨c147, H⟩ | ⟨c147, H⟩
      ·
       refine nB Z (nT c147) (rN 2 Z ?_)
       obtain ⟨t148, t149, t150, h151, H⟩ := bind3_elim H
       obtain ⟨t163, t164, t165, t166, h167, H⟩ := bind4_elim H
       refine rG (GO.ldBoxA (j := 18) ([.slice A_a a1.length c_a, .slice A_b c1.length c_b, .slice A_c d1.length c_c]) HS Z Z Z Z ag25 Z (fN Z func9 fok9.1 fok9.2 Z Z (laws_toBench.calls HS (rD 19 r_a) (rD 19 r_b) (rD 19 r_c) h151) (fun _ wd161 ⟨A152, c153, y154, A155, c156, y157, A158, c159, y160, h162, HS⟩ => ⟨_, h162, (fN Z func22 fok22.1 fok22.2 Z Z (impl_RedoBench.calls HS (RdIn.own (j := 0) Z) (RdIn.own (j := 1) Z) (RdIn.own (j := 2) Z) h167) (fun _ wd177 ⟨A168, c169, y170, A171, c172, y173, A174, c175, y176, h178, HS⟩ => ⟨_, h178, (pS 3 Z (GO.alloc HS Z zr31 Z Z fun b179 wd180 HS => GO.stBox (j := 0) (vs := [.slice A168 t163.length c169, .slice A171 t164.length c172, .slice A174 t165.length c175]) ([.slice A168 t163.length c169, .slice A171 t164.length c172, .slice A174 t165.length c175]) HS Z Z Z Z Z (htA ag31) Z Z Z fun wd181 HS => aS Z (nL (rN 2 Z ?_))))⟩))⟩)))
       obtain ⟨t187, h188, H⟩ := bI H
       rcases iE H with ⟨c191, H⟩ | ⟨c191, H⟩
       ·
        refine rG (GO.ldBoxA (j := 0) ([.slice A168 t163.length c169, .slice A171 t164.length c172, .slice A174 t165.length c175]) HS Z Z Z Z ag31 Z (GO.ldBoxA (j := 18) ([.slice A28 t23.length c29, .slice A31 t24.length c32, .slice A34 t25.length c35]) HS Z Z Z Z ag31 Z (fN Z func11 fok11.1 fok11.2 Z Z (laws_eqBench.calls HS (RdIn.own (j := 1) Z) (RdIn.own (j := 2) Z) (RdIn.own (j := 3) Z) (RdIn.own (j := 19) Z) (RdIn.own (j := 20) Z) (RdIn.own (j := 21) Z) h188) (fun _ wd189 ⟨h190, HS⟩ => ⟨_, h190, (pS 2 Z (kN 83 Z (congrArg Bool.not c191) (oN Z (mV Z (bK (oN Z (mV Z (bK (oN Z (GO.neq Z Z Z Z (bK ?_)))))))))))⟩))))
        refine GO.pickF Z Z Z Z Z (nL ?_)
        rcases iE H with ⟨c192, H⟩ | ⟨c192, H⟩
        ·
         refine nB Z (nT c192) (rN 4 Z ?_)
         obtain ⟨t193, h194, H⟩ := bI H
         refine rG (GO.ldBoxA (j := 16) ([.slice A65 t133.length c66, .slice A68 t134.length c69, .slice A71 t135.length c72]) HS Z Z Z Z ag31 Z (mV Z (fN Z func20 fok20.1 fok20.2 Z Z (laws_heldBench.calls HS (RdIn.own (j := 7) Z) (RdIn.own (j := 8) Z) (RdIn.own (j := 9) Z) h194) (fun _ wd195 ⟨h196, HS⟩ => ⟨_, h196, (aS Z (nL (rN 3 Z ?_)))⟩))))
         rcases iE H with ⟨c197, H⟩ | ⟨c197, H⟩
         ·
          refine yB Z (tT c197) (rN 2 Z ?_)
          obtain rfl := sI H
          exact rT _ func6 Z Z ⟨Z, (HS.pk 26 [] Z)⟩
         refine nB Z (tF c197) (rN 4 Z ?_)
         rcases iE H with ⟨c198, H⟩ | ⟨c198, H⟩
         ·
          refine nB Z (nT c198) (rN 3 Z ?_)
          obtain rfl := sI H
          exact rT _ func6 Z Z ⟨Z, (HS.pk 26 [] Z)⟩
         refine yB Z (nF c198) (rN 2 Z ?_)
         obtain rfl := sI H
         exact rT _ func6 Z Z ⟨Z, (HS.pk 26 [] Z)⟩
        refine yB Z (nF c192) (rN 2 Z ?_)
        obtain rfl := sI H
        exact rT _ func6 Z Z ⟨Z, (HS.pk 26 [] Z)⟩
       refine rG (GO.ldBoxA (j := 0) ([.slice A168 t163.length c169, .slice A171 t164.length c172, .slice A174 t165.length c175]) HS Z Z Z Z ag31 Z (GO.ldBoxA (j := 18) ([.slice A28 t23.length c29, .slice A31 t24.length c32, .slice A34 t25.length c35]) HS Z Z Z Z ag31 Z (fN Z func11 fok11.1 fok11.2 Z Z (laws_eqBench.calls HS (RdIn.own (j := 1) Z) (RdIn.own (j := 2) Z) (RdIn.own (j := 3) Z) (RdIn.own (j := 19) Z) (RdIn.own (j := 20) Z) (RdIn.own (j := 21) Z) h188) (fun _ wd189 ⟨h190, HS⟩ => ⟨_, h190, (pS 2 Z (kN 83 Z (congrArg Bool.not (bnot_of c191)) (oF Z (oF Z (oF Z (GO.pickT Z Z Z Z Z (nL (rN 3 Z ?_))))))))⟩))))
       obtain rfl := sI H
       exact rT _ func6 Z Z ⟨Z, (HS.pk 26 [] Z)⟩
      refine yB Z (nF c147) (rN 2 Z ?_)
      obtain rfl := sI H
      exact rT _ func6 Z Z ⟨Z, (HS.pk 19 [] Z)⟩
     refine rG (pS 3 Z (kN 51 Z (tF c126) (oN Z (GO.ldBoxA (j := 6) ([.slice A65 t60.length c66, .slice A68 t61.length c69, .slice A71 t62.length c72]) HS Z Z Z Z ag31 Z (bK (oN Z (GO.ldBoxA (j := 11) ([.slice A28 t23.length c29, .slice A31 t24.length c32, .slice A34 t25.length c35]) HS Z Z Z Z ag31 Z (bK (oN Z (fN Z func11 fok11.1 fok11.2 Z Z (laws_eqBench.calls HS (RdIn.own (j := 7) Z) (RdIn.own (j := 8) Z) (RdIn.own (j := 9) Z) (RdIn.own (j := 12) Z) (RdIn.own (j := 13) Z) (RdIn.own (j := 14) Z) h128) (fun _ wd129 ⟨h130, HS⟩ => ⟨_, h130, (bK (oN Z (GO.not Z Z Z (bK ?_))))⟩)))))))))))
     refine pS 2 Z (kN 57 Z (congrArg Bool.not (bnot_of c131)) (oF Z (oF Z (oF Z (GO.pickT Z Z Z Z Z (nL (rN 3 Z ?_)))))))
     obtain rfl := sI H
     exact rT _ func6 Z Z ⟨Z, (HS.pk 19 [] Z)⟩
    refine yB Z (congrArg Bool.not (bnot_of c109)) (rN 2 Z ?_)
    obtain rfl := sI H
    exact rT _ func6 Z Z ⟨Z, (HS.pk 19 [] Z)⟩
   refine yB Z (nF c89) (rN 2 Z ?_)
   obtain rfl := sI H
   exact rT _ func6 Z Z ⟨Z, (HS.pk 16 [] Z)⟩
  refine rG (GO.ldBoxA (j := 0) ([.slice A65 t60.length c66, .slice A68 t61.length c69, .slice A71 t62.length c72]) HS Z Z Z Z ag31 Z (GO.ldBoxA (j := 8) ([.slice A28 t23.length c29, .slice A31 t24.length c32, .slice A34 t25.length c35]) HS Z Z Z Z ag31 Z (fN Z func11 fok11.1 fok11.2 Z Z (laws_eqBench.calls HS (RdIn.own (j := 1) Z) (RdIn.own (j := 2) Z) (RdIn.own (j := 3) Z) (RdIn.own (j := 9) Z) (RdIn.own (j := 10) Z) (RdIn.own (j := 11) Z) h85) (fun _ wd86 ⟨h87, HS⟩ => ⟨_, h87, (pS 2 Z (kN 36 Z (congrArg Bool.not (bnot_of c88)) (oF Z (oF Z (oF Z (GO.pickT Z Z Z Z Z (nL (rN 3 Z ?_))))))))⟩))))
  obtain rfl := sI H
  exact rT _ func6 Z Z ⟨Z, (HS.pk 16 [] Z)⟩
end Go.Proofs.YthjomdggdaocgaaGreatDoor
