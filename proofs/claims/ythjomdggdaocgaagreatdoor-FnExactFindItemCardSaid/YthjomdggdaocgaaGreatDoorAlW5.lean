/-
  The walks through the functions: a call comes to what its list function says.
-/
import Derived.Test.YthjomdggdaocgaaGreatDoorAlF
import Derived.Test.YthjomdggdaocgaaGreatDoorAlW1
import Derived.Test.YthjomdggdaocgaaGreatDoorAlW2
import Derived.Test.YthjomdggdaocgaaGreatDoorAlW4
set_option linter.unusedVariables false
set_option linter.unusedSimpArgs false
namespace Go.Proofs.YthjomdggdaocgaaGreatDoor
open Go.RowKit
open Tryz
variable {w0 w : World} {L : List HObj} {K : Nat}
set_option maxRecDepth 20000
set_option maxHeartbeats 40000000
theorem laws_markItem.calls {g1 : ByteArray} {i1 : Int} {o1 : List (List GFace)} {n1 : List GCrossing} {c1 d1 : Int} {m1 : List Int} {f1 e1 : Int} {k1 : List GMove} {h1 a1 : List Int} {k_ : Int} {A_a : Option Addr} {c_a : Nat} {y_a : Nat → (Ty.slice 140 T_GFace).Lay} {A_b : Option Addr} {c_b : Nat} {A_c : Option Addr} {c_c : Nat} {A_d : Option Addr} {c_d : Nat} {A_e : Option Addr} {c_e : Nat} {A_f : Option Addr} {c_f : Nat} {r1 : Int} {r2 : List (List GFace)} {r3 : List GCrossing} {r4 : List Int} {r5 : List GMove} {r6 r7 : List Int} (HS : St w0 w (Own (Ty.slice 140 T_GFace) 136 A_a c_a y_a o1 :: Own T_GCrossing 143 A_b c_b (fun _ => ()) n1 :: Own (TInt .i64) 2 A_c c_c (fun _ => ()) m1 :: Own T_GMove 110 A_d c_d (fun _ => ()) k1 :: Own (TInt .i64) 2 A_e c_e (fun _ => ()) h1 :: Own (TInt .i64) 2 A_f c_f (fun _ => ()) a1 :: L)) (H : laws_markItem.f K g1 i1 o1 n1 c1 d1 m1 f1 e1 k1 h1 a1 k_ = some (r1, r2, r3, r4, r5, r6, r7)) :
    Calls prog 16 #[.agg [.string g1, I i1, .slice A_a o1.length c_a, .slice A_b n1.length c_b, I c1, I d1, .slice A_c m1.length c_c, I f1, I e1, .slice A_d k1.length c_d, .slice A_e h1.length c_e, .slice A_f a1.length c_f].toArray, I k_] w (laws_markItem.post w0 L A_a c_a y_a A_b c_b A_c c_c A_d c_d A_e c_e A_f c_f r1 r2 r3 r4 r5 r6 r7) := by
  unfold laws_markItem.f at H
  refine cG func16 Z ?_
  refine sQ (rG (GO.box (cs := [.string g1, I i1, .slice A_a o1.length c_a, .slice A_b n1.length c_b, I c1, I d1, .slice A_c m1.length c_c, I f1, I e1, .slice A_d k1.length c_d, .slice A_e h1.length c_e, .slice A_f a1.length c_f]) HS Z Z Z Z fun b1 wd2 HS => aS Z (nL (sQ ?_))))
  obtain ⟨t3, t4, h5, H⟩ := bind2_elim H
  obtain ⟨c6, H⟩ := iN H
  refine rG (fL b1 2 fl48_2 Z (GO.ldBoxA (j := 0) ([.slice A_a o1.length c_a]) HS Z Z Z Z ag37 Z (mV Z ?_)))
  replace HS := HS.pk 7 [1, 0, 2, 3, 4, 5, 6] Z
  refine fN Z func42 fok42.1 fok42.2 Z Z (laws_markTriangulation.calls HS  h5) (fun _ wd7 ⟨h8, HS⟩ => ⟨_, h8, (aS Z (nL ?_))⟩)
  replace HS := HS.boxEq (j := 1) (cs' := [.string g1, I i1, .slice A_a t4.length c_a, .slice A_b n1.length c_b, I c1, I d1, .slice A_c m1.length c_c, I f1, I e1, .slice A_d k1.length c_d, .slice A_e h1.length c_e, .slice A_f a1.length c_f]) Z (by simp only [List.length_set, c6] <;> rfl)
  refine sQ ?_
  obtain ⟨t9, t10, h11, H⟩ := bind2_elim H
  obtain ⟨c12, H⟩ := iN H
  refine rG (fL b1 3 fl48_3 Z (GO.ldBoxA (j := 1) ([.slice A_b n1.length c_b, I c1]) HS Z Z Z Z ag40 Z (mV Z ?_)))
  replace HS := HS.pk 7 [2, 0, 1, 3, 4, 5, 6] Z
  refine fN Z func43 fok43.1 fok43.2 Z Z (laws_markDiagram.calls HS  h11) (fun _ wd13 ⟨h14, HS⟩ => ⟨_, h14, (aS Z (nL ?_))⟩)
  replace HS := HS.boxEq (j := 2) (cs' := [.string g1, I i1, .slice A_a t4.length c_a, .slice A_b t10.length c_b, I c1, I d1, .slice A_c m1.length c_c, I f1, I e1, .slice A_d k1.length c_d, .slice A_e h1.length c_e, .slice A_f a1.length c_f]) Z (by simp only [List.length_set, c12] <;> rfl)
  refine sQ ?_
  obtain ⟨t15, t16, h17, H⟩ := bind2_elim H
  obtain ⟨c18, H⟩ := iN H
  refine rG (fL b1 5 fl48_4 Z (GO.ldBoxA (j := 2) ([I d1, .slice A_c m1.length c_c]) HS Z Z Z Z ag43 Z (mV Z ?_)))
  replace HS := HS.pk 7 [3, 0, 1, 2, 4, 5, 6] Z
  refine fN Z func44 fok44.1 fok44.2 Z Z (laws_markBraid.calls HS  h17) (fun _ wd19 ⟨h20, HS⟩ => ⟨_, h20, (aS Z (nL ?_))⟩)
  replace HS := HS.boxEq (j := 3) (cs' := [.string g1, I i1, .slice A_a t4.length c_a, .slice A_b t10.length c_b, I c1, I d1, .slice A_c t16.length c_c, I f1, I e1, .slice A_d k1.length c_d, .slice A_e h1.length c_e, .slice A_f a1.length c_f]) Z (by simp only [List.length_set, c18] <;> rfl)
  refine sQ ?_
  obtain ⟨t21, t22, t23, t24, h25, H⟩ := bind4_elim H
  obtain ⟨c26, H⟩ := iN H
  obtain ⟨c27, H⟩ := iN H
  obtain ⟨c28, H⟩ := iN H
  refine rG (fL b1 7 fl48_5 Z (GO.ldBoxA (j := 3) ([I f1, I e1, .slice A_d k1.length c_d, .slice A_e h1.length c_e, .slice A_f a1.length c_f]) HS Z Z Z Z ag46 Z (mV Z ?_)))
  replace HS := HS.pk 7 [4, 5, 6, 0, 1, 2, 3] Z
  refine fN Z func45 fok45.1 fok45.2 Z Z (laws_markCertificate.calls HS  h25) (fun _ wd29 ⟨h30, HS⟩ => ⟨_, h30, (aS Z (nL ?_))⟩)
  replace HS := HS.boxEq (j := 6) (cs' := [.string g1, I i1, .slice A_a t4.length c_a, .slice A_b t10.length c_b, I c1, I d1, .slice A_c t16.length c_c, I f1, I e1, .slice A_d t22.length c_d, .slice A_e h1.length c_e, .slice A_f a1.length c_f]) Z (by simp only [List.length_set, c26, c27, c28] <;> rfl)
  replace HS := HS.boxEq (j := 6) (cs' := [.string g1, I i1, .slice A_a t4.length c_a, .slice A_b t10.length c_b, I c1, I d1, .slice A_c t16.length c_c, I f1, I e1, .slice A_d t22.length c_d, .slice A_e t23.length c_e, .slice A_f a1.length c_f]) Z (by simp only [List.length_set, c26, c27, c28] <;> rfl)
  replace HS := HS.boxEq (j := 6) (cs' := [.string g1, I i1, .slice A_a t4.length c_a, .slice A_b t10.length c_b, I c1, I d1, .slice A_c t16.length c_c, I f1, I e1, .slice A_d t22.length c_d, .slice A_e t23.length c_e, .slice A_f t24.length c_f]) Z (by simp only [List.length_set, c26, c27, c28] <;> rfl)
  refine rN 2 Z ?_
  obtain ⟨rfl, rfl, rfl, rfl, rfl, rfl, rfl⟩ := some7 H
  exact rT _ func16 Z Z ⟨Z, (HS.pk 7 [5, 4, 3, 0, 1, 2] Z)⟩
theorem laws_heldFaceS.calls {a_ : List GFace} {k_ : Int} {A_a : Option Addr} {c_a : Nat} {r1 : Int} (HS : St w0 w (L)) (r_a : RdIn w0 L T_GFace A_a c_a (fun _ => ()) a_) (H : laws_heldFaceS.f K a_ k_ = some r1) :
    Calls prog 111 #[.slice A_a a_.length c_a, I k_] w (laws_heldFaceS.post w0 L r1) := by
  unfold laws_heldFaceS.f at H
  refine cG func111 Z ?_
  refine rN 7 Z ?_
  refine G.name (fun g1 b1 => ?_)
  have c1 : ∀ a1, a1 ≤ K → ∀ (k_7 i_8 : Int) (w : World), laws_heldFaceS.l1 K a1 a_ k_7 i_8 = some r1 → St w0 w (L) → G prog 111 31 [(0, .slice A_a a_.length c_a), (1, I k_7), (5, I i_8)] g1 w (laws_heldFaceS.post w0 L r1) := by
   intro a1
   induction a1 using Nat.strongRecOn with
   | _ a1 d1 =>
    intro f1 k_7 i_8 w H HS
    cases a1 with
    | zero => rw [laws_heldFaceS.l1] at H; cases H
    | succ e1 =>
     rw [laws_heldFaceS.l1] at H
     subst b1
     refine rN 2 Z (rG (pS 2 Z (lS Z Z underlying136 Z (GO.lss Z Z Z Z (nL ?_)))))
     rcases iE H with ⟨c15, H⟩ | ⟨c15, H⟩
     ·
      refine yB Z (tT c15) (rN 5 Z ?_)
      obtain ⟨c16, H⟩ := iN H
      obtain ⟨e17, h18, H⟩ := bnd_elim H
      refine rG (pS 2 Z (GO.ix Z Z Z underlying136 sz140 (r_a _ HS).2.2.1 c16.1 c16.2 Z (GO.fld (ea A_a (i_8.toNat * 2)) Z Z fl140_0 Z Z (GO.ldRd (T := T_GFace) (n := i_8.toNat) (o := 0) HS r_a Z Z (getD_eq (ltN c16) h18) Z Z na2 Z (pS 2 Z (nL ?_))))))
      rcases iE H with ⟨c19, H⟩ | ⟨c19, H⟩
      ·
       refine nB Z (nT c19) (rN 5 Z (rG (pS 2 Z (GO.ix Z Z Z underlying136 sz140 (r_a _ HS).2.2.1 c16.1 c16.2 Z (GO.fld (ea A_a (i_8.toNat * 2 + 1)) Z Z fl140_1 (ea_add _ _ _) Z (GO.ldRd (T := T_GFace) (n := i_8.toNat) (o := 1) HS r_a Z Z (getD_eq (ltN c16) h18) Z Z na2 Z (pS 2 Z (nL ?_))))))))
       rcases iE H with ⟨c20, H⟩ | ⟨c20, H⟩
       ·
        refine nB Z (nT c20) (rN 5 Z (G.weak ?_ (d1 e1 (Nat.lt_succ_of_le (lR _)) (Nat.le_of_succ_le f1) _ _ _ H HS)))
        exact ⟨Z, Z, Z, tv⟩
       refine yB Z (nF c20) (rN 2 Z ?_)
       obtain rfl := sI H
       exact rT _ func111 Z Z ⟨Z, HS⟩
      refine yB Z (nF c19) (rN 2 Z ?_)
      obtain rfl := sI H
      exact rT _ func111 Z Z ⟨Z, HS⟩
     refine nB Z (tF c15) (rN 3 Z ?_)
     obtain rfl := sI H
     exact rT _ func111 Z Z ⟨Z, HS⟩
  refine G.weak ?_ (c1 K (lR _) _ _ _ H HS)
  exact ⟨Z, Z, Z, tv⟩
theorem laws_heldFaceSS.calls {a_ : List (List GFace)} {k_ : Int} {A_a : Option Addr} {c_a : Nat} {y_a : Nat → (Ty.slice 140 T_GFace).Lay} {r1 : Int} (HS : St w0 w (L)) (r_a : RdIn w0 L (Ty.slice 140 T_GFace) A_a c_a y_a a_) (H : laws_heldFaceSS.f K a_ k_ = some r1) :
    Calls prog 81 #[.slice A_a a_.length c_a, I k_] w (laws_heldFaceSS.post w0 L r1) := by
  unfold laws_heldFaceSS.f at H
  refine cG func81 Z ?_
  refine rN 7 Z ?_
  refine G.name (fun g1 b1 => ?_)
  have c1 : ∀ a1, a1 ≤ K → ∀ (k_8 i_9 : Int) (w : World), laws_heldFaceSS.l1 K a1 a_ k_8 i_9 = some r1 → St w0 w (L) → G prog 81 21 [(0, .slice A_a a_.length c_a), (1, I k_8), (5, I i_9)] g1 w (laws_heldFaceSS.post w0 L r1) := by
   intro a1
   induction a1 using Nat.strongRecOn with
   | _ a1 d1 =>
    intro f1 k_8 i_9 w H HS
    cases a1 with
    | zero => rw [laws_heldFaceSS.l1] at H; cases H
    | succ e1 =>
     rw [laws_heldFaceSS.l1] at H
     subst b1
     refine rN 2 Z (rG (pS 2 Z (lS Z Z underlying35 Z (GO.lss Z Z Z Z (nL ?_)))))
     rcases iE H with ⟨c17, H⟩ | ⟨c17, H⟩
     ·
      refine yB Z (tT c17) (rN 4 Z ?_)
      obtain ⟨c18, H⟩ := iN H
      obtain ⟨t19, h20, H⟩ := bI H
      refine rG (pS 2 Z (GO.ix Z Z Z underlying35 sz136 (r_a _ HS).2.2.1 c18.1 c18.2 Z (GO.ldRd (T := (Ty.slice 140 T_GFace)) (n := i_9.toNat) (o := 0) HS r_a Z Z (getD_some (d := []) (ltN c18)) Z Z na136 Z (mV Z (fN Z func111 fok111.1 fok111.2 Z Z (laws_heldFaceS.calls HS (RdIn.elem r_a c18.1 c18.2) h20) (fun _ wd21 ⟨h22, HS⟩ => ⟨_, h22, (aS Z (nL (rN 2 Z ?_)))⟩))))))
      rcases iE H with ⟨c23, H⟩ | ⟨c23, H⟩
      ·
       refine yB Z (tT c23) (rN 2 Z ?_)
       obtain rfl := sI H
       exact rT _ func81 Z Z ⟨Z, HS⟩
      refine nB Z (tF c23) (rN 4 Z (G.weak ?_ (d1 e1 (Nat.lt_succ_of_le (lR _)) (Nat.le_of_succ_le f1) _ _ _ H HS)))
      exact ⟨Z, Z, Z, tv⟩
     refine nB Z (tF c17) (rN 3 Z ?_)
     obtain rfl := sI H
     exact rT _ func81 Z Z ⟨Z, HS⟩
  refine G.weak ?_ (c1 K (lR _) _ _ _ H HS)
  exact ⟨Z, Z, Z, tv⟩
theorem laws_heldTriangulation.calls {a1 : List (List GFace)} {k_ : Int} {A_a : Option Addr} {c_a : Nat} {y_a : Nat → (Ty.slice 140 T_GFace).Lay} {r1 : Int} (HS : St w0 w (L)) (r_a : RdIn w0 L (Ty.slice 140 T_GFace) A_a c_a y_a a1) (H : laws_heldTriangulation.f K a1 k_ = some r1) :
    Calls prog 46 #[.agg [.slice A_a a1.length c_a].toArray, I k_] w (laws_heldTriangulation.post w0 L r1) := by
  unfold laws_heldTriangulation.f at H
  refine cG func46 Z ?_
  refine sQ (rG (GO.box (cs := [.slice A_a a1.length c_a]) HS Z Z Z Z fun b1 wd2 HS => aS Z (nL (sQ ?_))))
  obtain ⟨t3, h4, H⟩ := bI H
  refine rG (fL b1 0 fl37_0 Z (lB 0 HS Z na35 Z (mV Z (fN Z func81 fok81.1 fok81.2 Z Z (laws_heldFaceSS.calls HS (rD 1 r_a) h4) (fun _ wd5 ⟨h6, HS⟩ => ⟨_, h6, (aS Z (nL (rN 3 Z ?_)))⟩)))))
  rcases iE H with ⟨c7, H⟩ | ⟨c7, H⟩
  ·
   refine yB Z (tT c7) (rN 2 Z ?_)
   obtain rfl := sI H
   exact rT _ func46 Z Z ⟨Z, (HS.pk 1 [] Z)⟩
  refine nB Z (tF c7) (rN 3 Z ?_)
  obtain rfl := sI H
  exact rT _ func46 Z Z ⟨Z, (HS.pk 1 [] Z)⟩
theorem laws_heldCrossingS.calls {a_ : List GCrossing} {k_ : Int} {A_a : Option Addr} {c_a : Nat} {r1 : Int} (HS : St w0 w (L)) (r_a : RdIn w0 L T_GCrossing A_a c_a (fun _ => ()) a_) (H : laws_heldCrossingS.f K a_ k_ = some r1) :
    Calls prog 82 #[.slice A_a a_.length c_a, I k_] w (laws_heldCrossingS.post w0 L r1) := by
  unfold laws_heldCrossingS.f at H
  refine cG func82 Z ?_
  refine rN 7 Z ?_
  refine G.name (fun i1 d1 => ?_)
  have e1 : ∀ b1, b1 ≤ K → ∀ (c1 a1 : Int) (w : World), laws_heldCrossingS.l1 K b1 a_ c1 a1 = some r1 → St w0 w (L) → G prog 82 58 [(0, .slice A_a a_.length c_a), (1, I c1), (5, I a1)] i1 w (laws_heldCrossingS.post w0 L r1) := by
   intro b1
   induction b1 using Nat.strongRecOn with
   | _ b1 f1 =>
    intro h1 c1 a1 w H HS
    cases b1 with
    | zero => rw [laws_heldCrossingS.l1] at H; cases H
    | succ g1 =>
     rw [laws_heldCrossingS.l1] at H
     subst d1
     refine rN 2 Z (rG (pS 2 Z (lS Z Z underlying38 Z (GO.lss Z Z Z Z (nL ?_)))))
     rcases iE H with ⟨c21, H⟩ | ⟨c21, H⟩
     ·
      refine yB Z (tT c21) (rN 5 Z ?_)
      obtain ⟨c22, H⟩ := iN H
      obtain ⟨e23, h24, H⟩ := bnd_elim H
      refine rG (pS 2 Z (GO.ix Z Z Z underlying38 sz143 (r_a _ HS).2.2.1 c22.1 c22.2 Z (GO.fld (ea A_a (a1.toNat * 5)) Z Z fl143_0 Z Z (GO.ldRd (T := T_GCrossing) (n := a1.toNat) (o := 0) HS r_a Z Z (getD_eq (ltN c22) h24) Z Z na2 Z (pS 2 Z (nL ?_))))))
      rcases iE H with ⟨c25, H⟩ | ⟨c25, H⟩
      ·
       refine nB Z (nT c25) (rN 5 Z (rG (pS 2 Z (GO.ix Z Z Z underlying38 sz143 (r_a _ HS).2.2.1 c22.1 c22.2 Z (GO.fld (ea A_a (a1.toNat * 5 + 1)) Z Z fl143_1 (ea_add _ _ _) Z (GO.ldRd (T := T_GCrossing) (n := a1.toNat) (o := 1) HS r_a Z Z (getD_eq (ltN c22) h24) Z Z na2 Z (pS 2 Z (nL ?_))))))))
       rcases iE H with ⟨c26, H⟩ | ⟨c26, H⟩
       ·
        refine nB Z (nT c26) (rN 5 Z (rG (pS 2 Z (GO.ix Z Z Z underlying38 sz143 (r_a _ HS).2.2.1 c22.1 c22.2 Z (GO.fld (ea A_a (a1.toNat * 5 + 2)) Z Z fl143_2 (ea_add _ _ _) Z (GO.ldRd (T := T_GCrossing) (n := a1.toNat) (o := 2) HS r_a Z Z (getD_eq (ltN c22) h24) Z Z na2 Z (pS 2 Z (nL ?_))))))))
        rcases iE H with ⟨c27, H⟩ | ⟨c27, H⟩
        ·
         refine nB Z (nT c27) (rN 5 Z (rG (pS 2 Z (GO.ix Z Z Z underlying38 sz143 (r_a _ HS).2.2.1 c22.1 c22.2 Z (GO.fld (ea A_a (a1.toNat * 5 + 3)) Z Z fl143_3 (ea_add _ _ _) Z (GO.ldRd (T := T_GCrossing) (n := a1.toNat) (o := 3) HS r_a Z Z (getD_eq (ltN c22) h24) Z Z na2 Z (pS 2 Z (nL ?_))))))))
         rcases iE H with ⟨c28, H⟩ | ⟨c28, H⟩
         ·
          refine nB Z (nT c28) (rN 5 Z (rG (pS 2 Z (GO.ix Z Z Z underlying38 sz143 (r_a _ HS).2.2.1 c22.1 c22.2 Z (GO.fld (ea A_a (a1.toNat * 5 + 4)) Z Z fl143_4 (ea_add _ _ _) Z (GO.ldRd (T := T_GCrossing) (n := a1.toNat) (o := 4) HS r_a Z Z (getD_eq (ltN c22) h24) Z Z na2 Z (pS 2 Z (nL ?_))))))))
          rcases iE H with ⟨c29, H⟩ | ⟨c29, H⟩
          ·
           refine nB Z (nT c29) (rN 5 Z (G.weak ?_ (f1 g1 (Nat.lt_succ_of_le (lR _)) (Nat.le_of_succ_le h1) _ _ _ H HS)))
           exact ⟨Z, Z, Z, tv⟩
          refine yB Z (nF c29) (rN 2 Z ?_)
          obtain rfl := sI H
          exact rT _ func82 Z Z ⟨Z, HS⟩
         refine yB Z (nF c28) (rN 2 Z ?_)
         obtain rfl := sI H
         exact rT _ func82 Z Z ⟨Z, HS⟩
        refine yB Z (nF c27) (rN 2 Z ?_)
        obtain rfl := sI H
        exact rT _ func82 Z Z ⟨Z, HS⟩
       refine yB Z (nF c26) (rN 2 Z ?_)
       obtain rfl := sI H
       exact rT _ func82 Z Z ⟨Z, HS⟩
      refine yB Z (nF c25) (rN 2 Z ?_)
      obtain rfl := sI H
      exact rT _ func82 Z Z ⟨Z, HS⟩
     refine nB Z (tF c21) (rN 3 Z ?_)
     obtain rfl := sI H
     exact rT _ func82 Z Z ⟨Z, HS⟩
  refine G.weak ?_ (e1 K (lR _) _ _ _ H HS)
  exact ⟨Z, Z, Z, tv⟩
theorem laws_heldDiagram.calls {a1 : List GCrossing} {c1 k_ : Int} {A_a : Option Addr} {c_a : Nat} {r1 : Int} (HS : St w0 w (L)) (r_a : RdIn w0 L T_GCrossing A_a c_a (fun _ => ()) a1) (H : laws_heldDiagram.f K a1 c1 k_ = some r1) :
    Calls prog 47 #[.agg [.slice A_a a1.length c_a, I c1].toArray, I k_] w (laws_heldDiagram.post w0 L r1) := by
  unfold laws_heldDiagram.f at H
  refine cG func47 Z ?_
  refine sQ (rG (GO.box (cs := [.slice A_a a1.length c_a, I c1]) HS Z Z Z Z fun b1 wd2 HS => aS Z (nL (sQ ?_))))
  obtain ⟨t3, h4, H⟩ := bI H
  refine rG (fL b1 0 fl40_0 Z (lB 0 HS Z na38 Z (mV Z (fN Z func82 fok82.1 fok82.2 Z Z (laws_heldCrossingS.calls HS (rD 1 r_a) h4) (fun _ wd5 ⟨h6, HS⟩ => ⟨_, h6, (aS Z (nL (rN 3 Z ?_)))⟩)))))
  rcases iE H with ⟨c7, H⟩ | ⟨c7, H⟩
  ·
   refine yB Z (tT c7) (rN 2 Z ?_)
   obtain rfl := sI H
   exact rT _ func47 Z Z ⟨Z, (HS.pk 1 [] Z)⟩
  refine nB Z (tF c7) (rN 3 Z ?_)
  obtain rfl := sI H
  exact rT _ func47 Z Z ⟨Z, (HS.pk 1 [] Z)⟩
theorem laws_heldInt64S.calls {a_ : List Int} {k_ : Int} {A_a : Option Addr} {c_a : Nat} {r1 : Int} (HS : St w0 w (L)) (r_a : RdIn w0 L (TInt .i64) A_a c_a (fun _ => ()) a_) (H : laws_heldInt64S.f K a_ k_ = some r1) :
    Calls prog 83 #[.slice A_a a_.length c_a, I k_] w (laws_heldInt64S.post w0 L r1) := by
  unfold laws_heldInt64S.f at H
  refine cG func83 Z ?_
  refine rN 7 Z ?_
  refine G.name (fun g1 b1 => ?_)
  have c1 : ∀ a1, a1 ≤ K → ∀ (k_4 i_5 : Int) (w : World), laws_heldInt64S.l1 K a1 a_ k_4 i_5 = some r1 → St w0 w (L) → G prog 83 21 [(0, .slice A_a a_.length c_a), (1, I k_4), (5, I i_5)] g1 w (laws_heldInt64S.post w0 L r1) := by
   intro a1
   induction a1 using Nat.strongRecOn with
   | _ a1 d1 =>
    intro f1 k_4 i_5 w H HS
    cases a1 with
    | zero => rw [laws_heldInt64S.l1] at H; cases H
    | succ e1 =>
     rw [laws_heldInt64S.l1] at H
     subst b1
     refine rN 2 Z (rG (pS 2 Z (lS Z Z underlying41 Z (GO.lss Z Z Z Z (nL ?_)))))
     rcases iE H with ⟨c9, H⟩ | ⟨c9, H⟩
     ·
      refine yB Z (tT c9) (rN 5 Z ?_)
      obtain ⟨c10, H⟩ := iN H
      refine rG (pS 2 Z (GO.ix Z Z Z underlying41 sz2 (r_a _ HS).2.2.1 c10.1 c10.2 Z (GO.ldRd (T := (TInt .i64)) (n := i_5.toNat) (o := 0) HS r_a Z Z (getD_some (d := 0) (ltN c10)) Z Z na2 Z (pS 2 Z (nL ?_)))))
      rcases iE H with ⟨c11, H⟩ | ⟨c11, H⟩
      ·
       refine nB Z (nT c11) (rN 5 Z (G.weak ?_ (d1 e1 (Nat.lt_succ_of_le (lR _)) (Nat.le_of_succ_le f1) _ _ _ H HS)))
       exact ⟨Z, Z, Z, tv⟩
      refine yB Z (nF c11) (rN 2 Z ?_)
      obtain rfl := sI H
      exact rT _ func83 Z Z ⟨Z, HS⟩
     refine nB Z (tF c9) (rN 3 Z ?_)
     obtain rfl := sI H
     exact rT _ func83 Z Z ⟨Z, HS⟩
  refine G.weak ?_ (c1 K (lR _) _ _ _ H HS)
  exact ⟨Z, Z, Z, tv⟩
theorem laws_heldBraid.calls {c1 : Int} {a1 : List Int} {k_ : Int} {A_a : Option Addr} {c_a : Nat} {r1 : Int} (HS : St w0 w (L)) (r_a : RdIn w0 L (TInt .i64) A_a c_a (fun _ => ()) a1) (H : laws_heldBraid.f K c1 a1 k_ = some r1) :
    Calls prog 48 #[.agg [I c1, .slice A_a a1.length c_a].toArray, I k_] w (laws_heldBraid.post w0 L r1) := by
  unfold laws_heldBraid.f at H
  refine cG func48 Z ?_
  refine sQ (rG (GO.box (cs := [I c1, .slice A_a a1.length c_a]) HS Z Z Z Z fun b1 wd2 HS => aS Z (nL (sQ ?_))))
  obtain ⟨t3, h4, H⟩ := bI H
  refine rG (fL b1 1 fl43_1 Z (lB 0 HS Z na41 Z (mV Z (fN Z func83 fok83.1 fok83.2 Z Z (laws_heldInt64S.calls HS (rD 1 r_a) h4) (fun _ wd5 ⟨h6, HS⟩ => ⟨_, h6, (aS Z (nL (rN 3 Z ?_)))⟩)))))
  rcases iE H with ⟨c7, H⟩ | ⟨c7, H⟩
  ·
   refine yB Z (tT c7) (rN 2 Z ?_)
   obtain rfl := sI H
   exact rT _ func48 Z Z ⟨Z, (HS.pk 1 [] Z)⟩
  refine nB Z (tF c7) (rN 3 Z ?_)
  obtain rfl := sI H
  exact rT _ func48 Z Z ⟨Z, (HS.pk 1 [] Z)⟩
theorem laws_heldMoveS.calls {a_ : List GMove} {k_ : Int} {A_a : Option Addr} {c_a : Nat} {r1 : Int} (HS : St w0 w (L)) (r_a : RdIn w0 L T_GMove A_a c_a (fun _ => ()) a_) (H : laws_heldMoveS.f K a_ k_ = some r1) :
    Calls prog 84 #[.slice A_a a_.length c_a, I k_] w (laws_heldMoveS.post w0 L r1) := by
  unfold laws_heldMoveS.f at H
  refine cG func84 Z ?_
  refine rN 7 Z ?_
  refine G.name (fun g1 b1 => ?_)
  have c1 : ∀ a1, a1 ≤ K → ∀ (k_8 i_9 : Int) (w : World), laws_heldMoveS.l1 K a1 a_ k_8 i_9 = some r1 → St w0 w (L) → G prog 84 40 [(0, .slice A_a a_.length c_a), (1, I k_8), (5, I i_9)] g1 w (laws_heldMoveS.post w0 L r1) := by
   intro a1
   induction a1 using Nat.strongRecOn with
   | _ a1 d1 =>
    intro f1 k_8 i_9 w H HS
    cases a1 with
    | zero => rw [laws_heldMoveS.l1] at H; cases H
    | succ e1 =>
     rw [laws_heldMoveS.l1] at H
     subst b1
     refine rN 2 Z (rG (pS 2 Z (lS Z Z underlying44 Z (GO.lss Z Z Z Z (nL ?_)))))
     rcases iE H with ⟨c17, H⟩ | ⟨c17, H⟩
     ·
      refine yB Z (tT c17) (rN 5 Z ?_)
      obtain ⟨c18, H⟩ := iN H
      obtain ⟨e19, h20, H⟩ := bnd_elim H
      refine rG (pS 2 Z (GO.ix Z Z Z underlying44 sz110 (r_a _ HS).2.2.1 c18.1 c18.2 Z (GO.fld (ea A_a (i_9.toNat * 3)) Z Z fl110_0 Z Z (GO.ldRd (T := T_GMove) (n := i_9.toNat) (o := 0) HS r_a Z Z (getD_eq (ltN c18) h20) Z Z na2 Z (pS 2 Z (nL ?_))))))
      rcases iE H with ⟨c21, H⟩ | ⟨c21, H⟩
      ·
       refine nB Z (nT c21) (rN 5 Z (rG (pS 2 Z (GO.ix Z Z Z underlying44 sz110 (r_a _ HS).2.2.1 c18.1 c18.2 Z (GO.fld (ea A_a (i_9.toNat * 3 + 1)) Z Z fl110_1 (ea_add _ _ _) Z (GO.ldRd (T := T_GMove) (n := i_9.toNat) (o := 1) HS r_a Z Z (getD_eq (ltN c18) h20) Z Z na2 Z (pS 2 Z (nL ?_))))))))
       rcases iE H with ⟨c22, H⟩ | ⟨c22, H⟩
       ·
        refine nB Z (nT c22) (rN 5 Z (rG (pS 2 Z (GO.ix Z Z Z underlying44 sz110 (r_a _ HS).2.2.1 c18.1 c18.2 Z (GO.fld (ea A_a (i_9.toNat * 3 + 2)) Z Z fl110_2 (ea_add _ _ _) Z (GO.ldRd (T := T_GMove) (n := i_9.toNat) (o := 2) HS r_a Z Z (getD_eq (ltN c18) h20) Z Z na2 Z (pS 2 Z (nL ?_))))))))
        rcases iE H with ⟨c23, H⟩ | ⟨c23, H⟩
        ·
         refine nB Z (nT c23) (rN 5 Z (G.weak ?_ (d1 e1 (Nat.lt_succ_of_le (lR _)) (Nat.le_of_succ_le f1) _ _ _ H HS)))
         exact ⟨Z, Z, Z, tv⟩
        refine yB Z (nF c23) (rN 2 Z ?_)
        obtain rfl := sI H
        exact rT _ func84 Z Z ⟨Z, HS⟩
       refine yB Z (nF c22) (rN 2 Z ?_)
       obtain rfl := sI H
       exact rT _ func84 Z Z ⟨Z, HS⟩
      refine yB Z (nF c21) (rN 2 Z ?_)
      obtain rfl := sI H
      exact rT _ func84 Z Z ⟨Z, HS⟩
     refine nB Z (tF c17) (rN 3 Z ?_)
     obtain rfl := sI H
     exact rT _ func84 Z Z ⟨Z, HS⟩
  refine G.weak ?_ (c1 K (lR _) _ _ _ H HS)
  exact ⟨Z, Z, Z, tv⟩
theorem laws_heldCertificate.calls {e1 f1 : Int} {c1 : List GMove} {a1 d1 : List Int} {k_ : Int} {A_a : Option Addr} {c_a : Nat} {A_b : Option Addr} {c_b : Nat} {A_c : Option Addr} {c_c : Nat} {r1 : Int} (HS : St w0 w (L)) (r_a : RdIn w0 L T_GMove A_a c_a (fun _ => ()) c1) (r_b : RdIn w0 L (TInt .i64) A_b c_b (fun _ => ()) a1) (r_c : RdIn w0 L (TInt .i64) A_c c_c (fun _ => ()) d1) (H : laws_heldCertificate.f K e1 f1 c1 a1 d1 k_ = some r1) :
    Calls prog 49 #[.agg [I e1, I f1, .slice A_a c1.length c_a, .slice A_b a1.length c_b, .slice A_c d1.length c_c].toArray, I k_] w (laws_heldCertificate.post w0 L r1) := by
  unfold laws_heldCertificate.f at H
  refine cG func49 Z ?_
  refine sQ (rG (GO.box (cs := [I e1, I f1, .slice A_a c1.length c_a, .slice A_b a1.length c_b, .slice A_c d1.length c_c]) HS Z Z Z Z fun b1 wd2 HS => aS Z (nL (sQ ?_))))
  obtain ⟨t3, h4, H⟩ := bI H
  refine rG (fL b1 2 fl46_2 Z (lB 0 HS Z na44 Z (mV Z (fN Z func84 fok84.1 fok84.2 Z Z (laws_heldMoveS.calls HS (rD 1 r_a) h4) (fun _ wd5 ⟨h6, HS⟩ => ⟨_, h6, (aS Z (nL (rN 3 Z ?_)))⟩)))))
  rcases iE H with ⟨c7, H⟩ | ⟨c7, H⟩
  ·
   refine yB Z (tT c7) (rN 2 Z ?_)
   obtain rfl := sI H
   exact rT _ func49 Z Z ⟨Z, (HS.pk 1 [] Z)⟩
  refine nB Z (tF c7) (rN 2 Z ?_)
  obtain ⟨t8, h9, H⟩ := bI H
  refine rG (fL b1 3 fl46_3 Z (lB 0 HS Z na41 Z (mV Z (fN Z func83 fok83.1 fok83.2 Z Z (laws_heldInt64S.calls HS (rD 1 r_b) h9) (fun _ wd10 ⟨h11, HS⟩ => ⟨_, h11, (aS Z (nL (rN 3 Z ?_)))⟩)))))
  rcases iE H with ⟨c12, H⟩ | ⟨c12, H⟩
  ·
   refine yB Z (tT c12) (rN 2 Z ?_)
   obtain rfl := sI H
   exact rT _ func49 Z Z ⟨Z, (HS.pk 1 [] Z)⟩
  refine nB Z (tF c12) (rN 2 Z ?_)
  obtain ⟨t13, h14, H⟩ := bI H
  refine rG (fL b1 4 fl46_4 Z (lB 0 HS Z na41 Z (mV Z (fN Z func83 fok83.1 fok83.2 Z Z (laws_heldInt64S.calls HS (rD 1 r_c) h14) (fun _ wd15 ⟨h16, HS⟩ => ⟨_, h16, (aS Z (nL (rN 3 Z ?_)))⟩)))))
  rcases iE H with ⟨c17, H⟩ | ⟨c17, H⟩
  ·
   refine yB Z (tT c17) (rN 2 Z ?_)
   obtain rfl := sI H
   exact rT _ func49 Z Z ⟨Z, (HS.pk 1 [] Z)⟩
  refine nB Z (tF c17) (rN 3 Z ?_)
  obtain rfl := sI H
  exact rT _ func49 Z Z ⟨Z, (HS.pk 1 [] Z)⟩
theorem laws_heldItem.calls {n1 : ByteArray} {o1 : Int} {d1 : List (List GFace)} {g1 : List GCrossing} {h1 i1 : Int} {e1 : List Int} {m1 k1 : Int} {c1 : List GMove} {f1 a1 : List Int} {k_ : Int} {A_a : Option Addr} {c_a : Nat} {y_a : Nat → (Ty.slice 140 T_GFace).Lay} {A_b : Option Addr} {c_b : Nat} {A_c : Option Addr} {c_c : Nat} {A_d : Option Addr} {c_d : Nat} {A_e : Option Addr} {c_e : Nat} {A_f : Option Addr} {c_f : Nat} {r1 : Int} (HS : St w0 w (L)) (r_a : RdIn w0 L (Ty.slice 140 T_GFace) A_a c_a y_a d1) (r_b : RdIn w0 L T_GCrossing A_b c_b (fun _ => ()) g1) (r_c : RdIn w0 L (TInt .i64) A_c c_c (fun _ => ()) e1) (r_d : RdIn w0 L T_GMove A_d c_d (fun _ => ()) c1) (r_e : RdIn w0 L (TInt .i64) A_e c_e (fun _ => ()) f1) (r_f : RdIn w0 L (TInt .i64) A_f c_f (fun _ => ()) a1) (H : laws_heldItem.f K n1 o1 d1 g1 h1 i1 e1 m1 k1 c1 f1 a1 k_ = some r1) :
    Calls prog 17 #[.agg [.string n1, I o1, .slice A_a d1.length c_a, .slice A_b g1.length c_b, I h1, I i1, .slice A_c e1.length c_c, I m1, I k1, .slice A_d c1.length c_d, .slice A_e f1.length c_e, .slice A_f a1.length c_f].toArray, I k_] w (laws_heldItem.post w0 L r1) := by
  unfold laws_heldItem.f at H
  refine cG func17 Z ?_
  refine sQ (rG (GO.box (cs := [.string n1, I o1, .slice A_a d1.length c_a, .slice A_b g1.length c_b, I h1, I i1, .slice A_c e1.length c_c, I m1, I k1, .slice A_d c1.length c_d, .slice A_e f1.length c_e, .slice A_f a1.length c_f]) HS Z Z Z Z fun b1 wd2 HS => aS Z (nL (sQ ?_))))
  obtain ⟨t3, h4, H⟩ := bI H
  refine rG (fL b1 2 fl48_2 Z (GO.ldBoxA (j := 0) ([.slice A_a d1.length c_a]) HS Z Z Z Z ag37 Z (mV Z (fN Z func46 fok46.1 fok46.2 Z Z (laws_heldTriangulation.calls HS (rD 1 r_a) h4) (fun _ wd5 ⟨h6, HS⟩ => ⟨_, h6, (aS Z (nL (rN 3 Z ?_)))⟩)))))
  rcases iE H with ⟨c7, H⟩ | ⟨c7, H⟩
  ·
   refine yB Z (tT c7) (rN 2 Z ?_)
   obtain rfl := sI H
   exact rT _ func17 Z Z ⟨Z, (HS.pk 1 [] Z)⟩
  refine nB Z (tF c7) (rN 2 Z ?_)
  obtain ⟨t8, h9, H⟩ := bI H
  refine rG (fL b1 3 fl48_3 Z (GO.ldBoxA (j := 0) ([.slice A_b g1.length c_b, I h1]) HS Z Z Z Z ag40 Z (mV Z (fN Z func47 fok47.1 fok47.2 Z Z (laws_heldDiagram.calls HS (rD 1 r_b) h9) (fun _ wd10 ⟨h11, HS⟩ => ⟨_, h11, (aS Z (nL (rN 3 Z ?_)))⟩)))))
  rcases iE H with ⟨c12, H⟩ | ⟨c12, H⟩
  ·
   refine yB Z (tT c12) (rN 2 Z ?_)
   obtain rfl := sI H
   exact rT _ func17 Z Z ⟨Z, (HS.pk 1 [] Z)⟩
  refine nB Z (tF c12) (rN 2 Z ?_)
  obtain ⟨t13, h14, H⟩ := bI H
  refine rG (fL b1 5 fl48_4 Z (GO.ldBoxA (j := 0) ([I i1, .slice A_c e1.length c_c]) HS Z Z Z Z ag43 Z (mV Z (fN Z func48 fok48.1 fok48.2 Z Z (laws_heldBraid.calls HS (rD 1 r_c) h14) (fun _ wd15 ⟨h16, HS⟩ => ⟨_, h16, (aS Z (nL (rN 3 Z ?_)))⟩)))))
  rcases iE H with ⟨c17, H⟩ | ⟨c17, H⟩
  ·
   refine yB Z (tT c17) (rN 2 Z ?_)
   obtain rfl := sI H
   exact rT _ func17 Z Z ⟨Z, (HS.pk 1 [] Z)⟩
  refine nB Z (tF c17) (rN 2 Z ?_)
  obtain ⟨t18, h19, H⟩ := bI H
  refine rG (fL b1 7 fl48_5 Z (GO.ldBoxA (j := 0) ([I m1, I k1, .slice A_d c1.length c_d, .slice A_e f1.length c_e, .slice A_f a1.length c_f]) HS Z Z Z Z ag46 Z (mV Z (fN Z func49 fok49.1 fok49.2 Z Z (laws_heldCertificate.calls HS (rD 1 r_d) (rD 1 r_e) (rD 1 r_f) h19) (fun _ wd20 ⟨h21, HS⟩ => ⟨_, h21, (aS Z (nL (rN 3 Z ?_)))⟩)))))
  rcases iE H with ⟨c22, H⟩ | ⟨c22, H⟩
  ·
   refine yB Z (tT c22) (rN 2 Z ?_)
   obtain rfl := sI H
   exact rT _ func17 Z Z ⟨Z, (HS.pk 1 [] Z)⟩
  refine nB Z (tF c22) (rN 3 Z ?_)
  obtain rfl := sI H
  exact rT _ func17 Z Z ⟨Z, (HS.pk 1 [] Z)⟩
theorem laws_FnExactFindItem.calls {d1 : List GItem} {a1 c1 : List (List GItem)} {aName : ByteArray} {A_a : Option Addr} {c_a : Nat} {y_a : Nat → T_GItem.Lay} {A_b : Option Addr} {c_b : Nat} {y_b : Nat → (Ty.slice 95 T_GItem).Lay} {A_c : Option Addr} {c_c : Nat} {y_c : Nat → (Ty.slice 95 T_GItem).Lay} {r1 : Bool} (HS : St w0 w (L)) (r_a : RdIn w0 L T_GItem A_a c_a y_a d1) (r_b : RdIn w0 L (Ty.slice 95 T_GItem) A_b c_b y_b a1) (r_c : RdIn w0 L (Ty.slice 95 T_GItem) A_c c_c y_c c1) (H : laws_FnExactFindItem.f K d1 a1 c1 aName = some r1) :
    Calls prog 4 #[.agg [.slice A_a d1.length c_a, .slice A_b a1.length c_b, .slice A_c c1.length c_c].toArray, .string aName] w (laws_FnExactFindItem.post w0 L r1) := by
  unfold laws_FnExactFindItem.f at H
  refine cG func4 Z ?_
  refine sQ (rG (GO.box (cs := [.slice A_a d1.length c_a, .slice A_b a1.length c_b, .slice A_c c1.length c_c]) HS Z Z Z Z fun b1 wd2 HS => aS Z (nL (rN 2 Z (rG (mV Z (GO.lenStr Z Z underlying9 Z (GO.gtr Z Z Z Z (nL ?_)))))))))
  rcases iE H with ⟨c3, H⟩ | ⟨c3, H⟩
  ·
   refine yB Z (tT c3) (rN 2 Z ?_)
   obtain rfl := sI H
   exact rT _ func4 Z Z ⟨Z, (HS.pk 1 [] Z)⟩
  refine nB Z (tF c3) (rN 4 Z ?_)
  obtain ⟨t4, h5, H⟩ := bI H
  refine rG (GO.ldBoxA (j := 0) ([.slice A_a d1.length c_a, .slice A_b a1.length c_b, .slice A_c c1.length c_c]) HS Z Z Z Z ag25 Z (mV Z (fN Z func7 fok7.1 fok7.2 Z Z (laws_szBench.calls HS (rD 1 r_a) (rD 1 r_b) (rD 1 r_c) h5) (fun _ wd6 ⟨h7, HS⟩ => ⟨_, h7, (aS Z (nL (rN 3 Z ?_)))⟩))))
  rcases iE H with ⟨c8, H⟩ | ⟨c8, H⟩
  ·
   refine yB Z (tT c8) (rN 2 Z ?_)
   obtain rfl := sI H
   exact rT _ func4 Z Z ⟨Z, (HS.pk 1 [] Z)⟩
  refine nB Z (tF c8) (rN 2 Z ?_)
  obtain ⟨t9, t10, t11, h12, H⟩ := bind3_elim H
  obtain ⟨t24, t25, t26, t27, t28, t29, t30, t31, t32, t33, t34, t35, t36, h37, H⟩ := bind13_elim H
  refine rG (GO.ldBoxA (j := 0) ([.slice A_a d1.length c_a, .slice A_b a1.length c_b, .slice A_c c1.length c_c]) HS Z Z Z Z ag25 Z (fN Z func9 fok9.1 fok9.2 Z Z (laws_toBench.calls HS (rD 1 r_a) (rD 1 r_b) (rD 1 r_c) h12) (fun _ wd22 ⟨A13, c14, y15, A16, c17, y18, A19, c20, y21, h23, HS⟩ => ⟨_, h23, (mV Z (fN Z func12 fok12.1 fok12.2 Z Z (spec_FindItem.calls HS (RdIn.own (j := 0) Z) (RdIn.own (j := 1) Z) (RdIn.own (j := 2) Z) h37) (fun _ wd51 ⟨A38, c39, y40, A41, c42, A43, c44, A45, c46, A47, c48, A49, c50, h52, HS⟩ => ⟨_, h52, (pS 3 Z (GO.alloc HS Z zr48 Z Z fun b53 wd54 HS => GO.stBox (j := 0) (vs := [.string t24, I t25, .slice A38 t26.length c39, .slice A41 t27.length c42, I t28, I t29, .slice A43 t30.length c44, I t31, I t32, .slice A45 t33.length c46, .slice A47 t34.length c48, .slice A49 t35.length c50]) ([.string t24, I t25, .slice A38 t26.length c39, .slice A41 t27.length c42, I t28, I t29, .slice A43 t30.length c44, I t31, I t32, .slice A45 t33.length c46, .slice A47 t34.length c48, .slice A49 t35.length c50]) HS Z Z Z Z Z (htA ag48) Z Z Z fun wd55 HS => aS Z (nL (sQ ?_))))⟩)))⟩)))
  obtain ⟨t56, t57, t58, h59, H⟩ := bind3_elim H
  refine rG (GO.ldBoxA (j := 10) ([.slice A_a d1.length c_a, .slice A_b a1.length c_b, .slice A_c c1.length c_c]) HS Z Z Z Z ag25 Z (fN Z func9 fok9.1 fok9.2 Z Z (laws_toBench.calls HS (rD 11 r_a) (rD 11 r_b) (rD 11 r_c) h59) (fun _ wd69 ⟨A60, c61, y62, A63, c64, y65, A66, c67, y68, h70, HS⟩ => ⟨_, h70, (GO.alloc HS Z zr31 Z Z fun b71 wd72 HS => GO.stBox (j := 0) (vs := [.slice A60 t56.length c61, .slice A63 t57.length c64, .slice A66 t58.length c67]) ([.slice A60 t56.length c61, .slice A63 t57.length c64, .slice A66 t58.length c67]) HS Z Z Z Z Z (htA ag31) Z Z Z fun wd73 HS => nL (sQ ?_))⟩)))
  obtain ⟨t74, t75, t76, t77, t78, t79, t80, t81, t82, t83, t84, t85, t86, h87, H⟩ := bind13_elim H
  refine rG (GO.ldBoxA (j := 0) ([.slice A60 t56.length c61, .slice A63 t57.length c64, .slice A66 t58.length c67]) HS Z Z Z Z ag31 Z (mV Z (fN Z func13 fok13.1 fok13.2 Z Z (impl_FindItem.calls HS (RdIn.own (j := 1) Z) (RdIn.own (j := 2) Z) (RdIn.own (j := 3) Z) h87) (fun _ wd101 ⟨A88, c89, y90, A91, c92, A93, c94, A95, c96, A97, c98, A99, c100, h102, HS⟩ => ⟨_, h102, (pS 3 Z (GO.alloc HS Z zr48 Z Z fun b103 wd104 HS => GO.stBox (j := 0) (vs := [.string t74, I t75, .slice A88 t76.length c89, .slice A91 t77.length c92, I t78, I t79, .slice A93 t80.length c94, I t81, I t82, .slice A95 t83.length c96, .slice A97 t84.length c98, .slice A99 t85.length c100]) ([.string t74, I t75, .slice A88 t76.length c89, .slice A91 t77.length c92, I t78, I t79, .slice A93 t80.length c94, I t81, I t82, .slice A95 t83.length c96, .slice A97 t84.length c98, .slice A99 t85.length c100]) HS Z Z Z Z Z (htA ag48) Z Z Z fun wd105 HS => aS Z (nL (rN 2 Z ?_))))⟩))))
  obtain ⟨t111, h112, H⟩ := bI H
  rcases iE H with ⟨c115, H⟩ | ⟨c115, H⟩
  ·
   refine rG (GO.ldBoxA (j := 0) ([.string t74, I t75, .slice A88 t76.length c89, .slice A91 t77.length c92, I t78, I t79, .slice A93 t80.length c94, I t81, I t82, .slice A95 t83.length c96, .slice A97 t84.length c98, .slice A99 t85.length c100]) HS Z Z Z Z ag48 Z (GO.ldBoxA (j := 11) ([.string t24, I t25, .slice A38 t26.length c39, .slice A41 t27.length c42, I t28, I t29, .slice A43 t30.length c44, I t31, I t32, .slice A45 t33.length c46, .slice A47 t34.length c48, .slice A49 t35.length c50]) HS Z Z Z Z ag48 Z (fN Z func14 fok14.1 fok14.2 Z Z (laws_eqItem.calls HS (RdIn.own (j := 1) Z) (RdIn.own (j := 2) Z) (RdIn.own (j := 3) Z) (RdIn.own (j := 4) Z) (RdIn.own (j := 5) Z) (RdIn.own (j := 6) Z) (RdIn.own (j := 12) Z) (RdIn.own (j := 13) Z) (RdIn.own (j := 14) Z) (RdIn.own (j := 15) Z) (RdIn.own (j := 16) Z) (RdIn.own (j := 17) Z) h112) (fun _ wd113 ⟨h114, HS⟩ => ⟨_, h114, (pS 2 Z (kN 43 Z (congrArg Bool.not c115) (oN Z (mV Z (bK (oN Z (mV Z (bK (oN Z (GO.neqB Z Z Z underlying4 Z (bK ?_)))))))))))⟩))))
   refine GO.pickF Z Z Z Z Z (nL ?_)
   rcases iE H with ⟨c116, H⟩ | ⟨c116, H⟩
   ·
    refine nB Z (congrArg Bool.not c116) (rN 3 Z ?_)
    obtain ⟨t117, t118, t119, h120, H⟩ := bind3_elim H
    obtain ⟨t132, h133, H⟩ := bI H
    refine G.lexS mixed (fun w => St w0 w (Box b71 31 [.slice A60 t56.length c61, .slice A63 t57.length c64, .slice A66 t58.length c67] :: Box b1 25 [.slice A_a d1.length c_a, .slice A_b a1.length c_b, .slice A_c c1.length c_c] :: L)) [0, 1] [0, 1, 2, 3, 4] [] (by kernel_rfl) (by kernel_rfl) (HS.drew.pk 22 [7, 21] Z) ?_
    replace HS := HS.drew
    refine GX.ls Z Z Z (HS.pk 22 [7, 21] Z) (fun _ HS _ g => GO.ldBoxA (j := 0) ([.slice A60 t56.length c61, .slice A63 t57.length c64, .slice A66 t58.length c67]) HS Z Z Z Z ag31 Z g) Z (GX.ls Z Z Z (HS.pk 22 [7, 21] Z) (fun _ HS _ g => GO.ldBoxA (j := 1) ([.slice A_a d1.length c_a, .slice A_b a1.length c_b, .slice A_c c1.length c_c]) HS Z Z Z Z ag25 Z g) Z (GX.l2 Z (fN Z func9 fok9.1 fok9.2 Z Z (laws_toBench.calls HS (rD 22 r_a) (rD 22 r_b) (rD 22 r_c) h120) (fun _ wd130 ⟨A121, c122, y123, A124, c125, y126, A127, c128, y129, h131, HS⟩ => ⟨_, h131, (GX.fin (HS.pk 25 [10, 24] Z) (GX.l2 Z (fN Z func11 fok11.1 fok11.2 Z Z (laws_eqBench.calls HS (RdIn.own (j := 11) Z) (RdIn.own (j := 12) Z) (RdIn.own (j := 13) Z) (RdIn.own (j := 0) Z) (RdIn.own (j := 1) Z) (RdIn.own (j := 2) Z) h133) (fun _ wd134 ⟨h135, HS⟩ => ⟨_, h135, (GX.fin (HS.pk 25 [10, 24] Z) (GX.ps 1 Z (GX.nil ?_)))⟩))))⟩))))
    rcases iE H with ⟨c136, H⟩ | ⟨c136, H⟩
    ·
     refine nB Z (congrArg Bool.not c136) (rN 4 Z ?_)
     obtain ⟨t137, t138, t139, t140, h141, H⟩ := bind4_elim H
     obtain ⟨c142, H⟩ := iN H
     obtain ⟨c143, H⟩ := iN H
     obtain ⟨c144, H⟩ := iN H
     refine rG (GO.ldBoxA (j := 10) ([.slice A60 t56.length c61, .slice A63 t57.length c64, .slice A66 t58.length c67]) HS Z Z Z Z ag31 Z (mV Z ?_))
     replace HS := HS.pk 25 [11, 12, 13, 0, 1, 2, 3, 4, 5, 6, 7, 8, 9, 10, 14, 15, 16, 17, 18, 19, 20, 21, 22, 23, 24] Z
     refine fN Z func15 fok15.1 fok15.2 Z Z (laws_markBench.calls HS  h141) (fun _ wd145 ⟨h146, HS⟩ => ⟨_, h146, (aS Z (nL ?_))⟩)
     replace HS := HS.boxEq (j := 13) (cs' := [.slice A60 t138.length c61, .slice A63 t57.length c64, .slice A66 t58.length c67]) Z (by simp only [List.length_set, c142, c143, c144] <;> rfl)
     replace HS := HS.boxEq (j := 13) (cs' := [.slice A60 t138.length c61, .slice A63 t139.length c64, .slice A66 t58.length c67]) Z (by simp only [List.length_set, c142, c143, c144] <;> rfl)
     replace HS := HS.boxEq (j := 13) (cs' := [.slice A60 t138.length c61, .slice A63 t139.length c64, .slice A66 t140.length c67]) Z (by simp only [List.length_set, c142, c143, c144] <;> rfl)
     refine rN 2 Z ?_
     rcases iE H with ⟨c153, H⟩ | ⟨c153, H⟩
     ·
      refine rG (pS 3 Z (kN 58 Z (tT c153) (oF Z (oF Z (oF Z (oF Z (pS 2 Z (oF Z (oF Z (oF Z (GO.pickT Z Z Z Z Z (nL (rN 3 Z ?_)))))))))))))
      obtain rfl := sI H
      exact rT _ func4 Z Z ⟨Z, (HS.pk 25 [] Z)⟩
     obtain ⟨t154, h155, H⟩ := bI H
     rcases iE H with ⟨c158, H⟩ | ⟨c158, H⟩
     ·
      refine rG (pS 3 Z (kN 58 Z (tF c153) (oN Z (GO.ldBoxA (j := 6) ([.string t74, I t75, .slice A88 t76.length c89, .slice A91 t77.length c92, I t78, I t79, .slice A93 t80.length c94, I t81, I t82, .slice A95 t83.length c96, .slice A97 t84.length c98, .slice A99 t85.length c100]) HS Z Z Z Z ag48 Z (bK (oN Z (GO.ldBoxA (j := 14) ([.string t24, I t25, .slice A38 t26.length c39, .slice A41 t27.length c42, I t28, I t29, .slice A43 t30.length c44, I t31, I t32, .slice A45 t33.length c46, .slice A47 t34.length c48, .slice A49 t35.length c50]) HS Z Z Z Z ag48 Z (bK (oN Z (fN Z func14 fok14.1 fok14.2 Z Z (laws_eqItem.calls HS (RdIn.own (j := 7) Z) (RdIn.own (j := 8) Z) (RdIn.own (j := 9) Z) (RdIn.own (j := 10) Z) (RdIn.own (j := 11) Z) (RdIn.own (j := 12) Z) (RdIn.own (j := 15) Z) (RdIn.own (j := 16) Z) (RdIn.own (j := 17) Z) (RdIn.own (j := 18) Z) (RdIn.own (j := 19) Z) (RdIn.own (j := 20) Z) h155) (fun _ wd156 ⟨h157, HS⟩ => ⟨_, h157, (bK (oN Z (GO.not Z Z Z (bK ?_))))⟩)))))))))))
      refine pS 2 Z (kN 64 Z (congrArg Bool.not c158) (oN Z (mV Z (bK (oN Z (mV Z (bK (oN Z (GO.neqB Z Z Z underlying4 Z (bK (GO.pickF Z Z Z Z Z (nL (nB Z (congrArg Bool.not c116) (rN 4 Z ?_))))))))))))))
      obtain ⟨t159, t160, t161, t162, t163, t164, t165, h166, H⟩ := bind7_elim H
      obtain ⟨c167, H⟩ := iN H
      obtain ⟨c168, H⟩ := iN H
      obtain ⟨c169, H⟩ := iN H
      obtain ⟨c170, H⟩ := iN H
      obtain ⟨c171, H⟩ := iN H
      obtain ⟨c172, H⟩ := iN H
      refine rG (GO.ldBoxA (j := 6) ([.string t74, I t75, .slice A88 t76.length c89, .slice A91 t77.length c92, I t78, I t79, .slice A93 t80.length c94, I t81, I t82, .slice A95 t83.length c96, .slice A97 t84.length c98, .slice A99 t85.length c100]) HS Z Z Z Z ag48 Z (mV Z ?_))
      replace HS := HS.pk 25 [7, 8, 9, 10, 11, 12, 0, 1, 2, 3, 4, 5, 6, 13, 14, 15, 16, 17, 18, 19, 20, 21, 22, 23, 24] Z
      refine fN Z func16 fok16.1 fok16.2 Z Z (laws_markItem.calls HS  h166) (fun _ wd173 ⟨h174, HS⟩ => ⟨_, h174, (aS Z (nL ?_))⟩)
      replace HS := HS.boxEq (j := 12) (cs' := [.string t74, I t75, .slice A88 t160.length c89, .slice A91 t77.length c92, I t78, I t79, .slice A93 t80.length c94, I t81, I t82, .slice A95 t83.length c96, .slice A97 t84.length c98, .slice A99 t85.length c100]) Z (by simp only [List.length_set, c167, c168, c169, c170, c171, c172] <;> rfl)
      replace HS := HS.boxEq (j := 12) (cs' := [.string t74, I t75, .slice A88 t160.length c89, .slice A91 t161.length c92, I t78, I t79, .slice A93 t80.length c94, I t81, I t82, .slice A95 t83.length c96, .slice A97 t84.length c98, .slice A99 t85.length c100]) Z (by simp only [List.length_set, c167, c168, c169, c170, c171, c172] <;> rfl)
      replace HS := HS.boxEq (j := 12) (cs' := [.string t74, I t75, .slice A88 t160.length c89, .slice A91 t161.length c92, I t78, I t79, .slice A93 t162.length c94, I t81, I t82, .slice A95 t83.length c96, .slice A97 t84.length c98, .slice A99 t85.length c100]) Z (by simp only [List.length_set, c167, c168, c169, c170, c171, c172] <;> rfl)
      replace HS := HS.boxEq (j := 12) (cs' := [.string t74, I t75, .slice A88 t160.length c89, .slice A91 t161.length c92, I t78, I t79, .slice A93 t162.length c94, I t81, I t82, .slice A95 t163.length c96, .slice A97 t84.length c98, .slice A99 t85.length c100]) Z (by simp only [List.length_set, c167, c168, c169, c170, c171, c172] <;> rfl)
      replace HS := HS.boxEq (j := 12) (cs' := [.string t74, I t75, .slice A88 t160.length c89, .slice A91 t161.length c92, I t78, I t79, .slice A93 t162.length c94, I t81, I t82, .slice A95 t163.length c96, .slice A97 t164.length c98, .slice A99 t85.length c100]) Z (by simp only [List.length_set, c167, c168, c169, c170, c171, c172] <;> rfl)
      replace HS := HS.boxEq (j := 12) (cs' := [.string t74, I t75, .slice A88 t160.length c89, .slice A91 t161.length c92, I t78, I t79, .slice A93 t162.length c94, I t81, I t82, .slice A95 t163.length c96, .slice A97 t164.length c98, .slice A99 t165.length c100]) Z (by simp only [List.length_set, c167, c168, c169, c170, c171, c172] <;> rfl)
      refine rN 3 Z ?_
      obtain ⟨t175, h176, H⟩ := bI H
      refine rG (GO.ldBoxA (j := 12) ([.string t74, I t75, .slice A88 t160.length c89, .slice A91 t161.length c92, I t78, I t79, .slice A93 t162.length c94, I t81, I t82, .slice A95 t163.length c96, .slice A97 t164.length c98, .slice A99 t165.length c100]) HS Z Z Z Z ag48 Z (mV Z (fN Z func17 fok17.1 fok17.2 Z Z (laws_heldItem.calls HS (RdIn.own (j := 0) Z) (RdIn.own (j := 1) Z) (RdIn.own (j := 2) Z) (RdIn.own (j := 3) Z) (RdIn.own (j := 4) Z) (RdIn.own (j := 5) Z) h176) (fun _ wd177 ⟨h178, HS⟩ => ⟨_, h178, (aS Z (nL (rN 3 Z ?_)))⟩))))
      rcases iE H with ⟨c179, H⟩ | ⟨c179, H⟩
      ·
       refine yB Z (tT c179) (rN 2 Z ?_)
       obtain rfl := sI H
       exact rT _ func4 Z Z ⟨Z, (HS.pk 25 [] Z)⟩
      refine nB Z (tF c179) (rN 4 Z ?_)
      rcases iE H with ⟨c180, H⟩ | ⟨c180, H⟩
      ·
       refine nB Z (nT c180) (rN 2 Z ?_)
       obtain ⟨t181, t182, t183, h184, H⟩ := bind3_elim H
       obtain ⟨t196, t197, t198, t199, t200, t201, t202, t203, t204, t205, t206, t207, t208, h209, H⟩ := bind13_elim H
       refine rG (GO.ldBoxA (j := 24) ([.slice A_a d1.length c_a, .slice A_b a1.length c_b, .slice A_c c1.length c_c]) HS Z Z Z Z ag25 Z (fN Z func9 fok9.1 fok9.2 Z Z (laws_toBench.calls HS (rD 25 r_a) (rD 25 r_b) (rD 25 r_c) h184) (fun _ wd194 ⟨A185, c186, y187, A188, c189, y190, A191, c192, y193, h195, HS⟩ => ⟨_, h195, (mV Z (fN Z func13 fok13.1 fok13.2 Z Z (impl_FindItem.calls HS (RdIn.own (j := 0) Z) (RdIn.own (j := 1) Z) (RdIn.own (j := 2) Z) h209) (fun _ wd223 ⟨A210, c211, y212, A213, c214, A215, c216, A217, c218, A219, c220, A221, c222, h224, HS⟩ => ⟨_, h224, (pS 3 Z (GO.alloc HS Z zr48 Z Z fun b225 wd226 HS => GO.stBox (j := 0) (vs := [.string t196, I t197, .slice A210 t198.length c211, .slice A213 t199.length c214, I t200, I t201, .slice A215 t202.length c216, I t203, I t204, .slice A217 t205.length c218, .slice A219 t206.length c220, .slice A221 t207.length c222]) ([.string t196, I t197, .slice A210 t198.length c211, .slice A213 t199.length c214, I t200, I t201, .slice A215 t202.length c216, I t203, I t204, .slice A217 t205.length c218, .slice A219 t206.length c220, .slice A221 t207.length c222]) HS Z Z Z Z Z (htA ag48) Z Z Z fun wd227 HS => aS Z (nL (rN 2 Z ?_))))⟩)))⟩)))
       obtain ⟨t233, h234, H⟩ := bI H
       rcases iE H with ⟨c237, H⟩ | ⟨c237, H⟩
       ·
        refine rG (GO.ldBoxA (j := 0) ([.string t196, I t197, .slice A210 t198.length c211, .slice A213 t199.length c214, I t200, I t201, .slice A215 t202.length c216, I t203, I t204, .slice A217 t205.length c218, .slice A219 t206.length c220, .slice A221 t207.length c222]) HS Z Z Z Z ag48 Z (GO.ldBoxA (j := 24) ([.string t24, I t25, .slice A38 t26.length c39, .slice A41 t27.length c42, I t28, I t29, .slice A43 t30.length c44, I t31, I t32, .slice A45 t33.length c46, .slice A47 t34.length c48, .slice A49 t35.length c50]) HS Z Z Z Z ag48 Z (fN Z func14 fok14.1 fok14.2 Z Z (laws_eqItem.calls HS (RdIn.own (j := 1) Z) (RdIn.own (j := 2) Z) (RdIn.own (j := 3) Z) (RdIn.own (j := 4) Z) (RdIn.own (j := 5) Z) (RdIn.own (j := 6) Z) (RdIn.own (j := 25) Z) (RdIn.own (j := 26) Z) (RdIn.own (j := 27) Z) (RdIn.own (j := 28) Z) (RdIn.own (j := 29) Z) (RdIn.own (j := 30) Z) h234) (fun _ wd235 ⟨h236, HS⟩ => ⟨_, h236, (pS 2 Z (kN 91 Z (congrArg Bool.not c237) (oN Z (mV Z (bK (oN Z (mV Z (bK (oN Z (GO.neqB Z Z Z underlying4 Z (bK ?_)))))))))))⟩))))
        refine GO.pickF Z Z Z Z Z (nL ?_)
        rcases iE H with ⟨c238, H⟩ | ⟨c238, H⟩
        ·
         refine nB Z (congrArg Bool.not c238) (rN 4 Z ?_)
         obtain ⟨t239, h240, H⟩ := bI H
         refine rG (GO.ldBoxA (j := 22) ([.string t74, I t75, .slice A88 t160.length c89, .slice A91 t161.length c92, I t78, I t79, .slice A93 t162.length c94, I t81, I t82, .slice A95 t163.length c96, .slice A97 t164.length c98, .slice A99 t165.length c100]) HS Z Z Z Z ag48 Z (mV Z (fN Z func17 fok17.1 fok17.2 Z Z (laws_heldItem.calls HS (RdIn.own (j := 10) Z) (RdIn.own (j := 11) Z) (RdIn.own (j := 12) Z) (RdIn.own (j := 13) Z) (RdIn.own (j := 14) Z) (RdIn.own (j := 15) Z) h240) (fun _ wd241 ⟨h242, HS⟩ => ⟨_, h242, (aS Z (nL (rN 3 Z ?_)))⟩))))
         rcases iE H with ⟨c243, H⟩ | ⟨c243, H⟩
         ·
          refine yB Z (tT c243) (rN 2 Z ?_)
          obtain rfl := sI H
          exact rT _ func4 Z Z ⟨Z, (HS.pk 35 [] Z)⟩
         refine nB Z (tF c243) (rN 4 Z ?_)
         rcases iE H with ⟨c244, H⟩ | ⟨c244, H⟩
         ·
          refine nB Z (nT c244) (rN 3 Z ?_)
          obtain rfl := sI H
          exact rT _ func4 Z Z ⟨Z, (HS.pk 35 [] Z)⟩
         refine yB Z (nF c244) (rN 2 Z ?_)
         obtain rfl := sI H
         exact rT _ func4 Z Z ⟨Z, (HS.pk 35 [] Z)⟩
        refine yB Z (congrArg Bool.not (bnot_of c238)) (rN 2 Z ?_)
        obtain rfl := sI H
        exact rT _ func4 Z Z ⟨Z, (HS.pk 35 [] Z)⟩
       refine rG (GO.ldBoxA (j := 0) ([.string t196, I t197, .slice A210 t198.length c211, .slice A213 t199.length c214, I t200, I t201, .slice A215 t202.length c216, I t203, I t204, .slice A217 t205.length c218, .slice A219 t206.length c220, .slice A221 t207.length c222]) HS Z Z Z Z ag48 Z (GO.ldBoxA (j := 24) ([.string t24, I t25, .slice A38 t26.length c39, .slice A41 t27.length c42, I t28, I t29, .slice A43 t30.length c44, I t31, I t32, .slice A45 t33.length c46, .slice A47 t34.length c48, .slice A49 t35.length c50]) HS Z Z Z Z ag48 Z (fN Z func14 fok14.1 fok14.2 Z Z (laws_eqItem.calls HS (RdIn.own (j := 1) Z) (RdIn.own (j := 2) Z) (RdIn.own (j := 3) Z) (RdIn.own (j := 4) Z) (RdIn.own (j := 5) Z) (RdIn.own (j := 6) Z) (RdIn.own (j := 25) Z) (RdIn.own (j := 26) Z) (RdIn.own (j := 27) Z) (RdIn.own (j := 28) Z) (RdIn.own (j := 29) Z) (RdIn.own (j := 30) Z) h234) (fun _ wd235 ⟨h236, HS⟩ => ⟨_, h236, (pS 2 Z (kN 91 Z (congrArg Bool.not (bnot_of c237)) (oF Z (oF Z (oF Z (GO.pickT Z Z Z Z Z (nL (rN 3 Z ?_))))))))⟩))))
       obtain rfl := sI H
       exact rT _ func4 Z Z ⟨Z, (HS.pk 35 [] Z)⟩
      refine yB Z (nF c180) (rN 2 Z ?_)
      obtain rfl := sI H
      exact rT _ func4 Z Z ⟨Z, (HS.pk 25 [] Z)⟩
     refine rG (pS 3 Z (kN 58 Z (tF c153) (oN Z (GO.ldBoxA (j := 6) ([.string t74, I t75, .slice A88 t76.length c89, .slice A91 t77.length c92, I t78, I t79, .slice A93 t80.length c94, I t81, I t82, .slice A95 t83.length c96, .slice A97 t84.length c98, .slice A99 t85.length c100]) HS Z Z Z Z ag48 Z (bK (oN Z (GO.ldBoxA (j := 14) ([.string t24, I t25, .slice A38 t26.length c39, .slice A41 t27.length c42, I t28, I t29, .slice A43 t30.length c44, I t31, I t32, .slice A45 t33.length c46, .slice A47 t34.length c48, .slice A49 t35.length c50]) HS Z Z Z Z ag48 Z (bK (oN Z (fN Z func14 fok14.1 fok14.2 Z Z (laws_eqItem.calls HS (RdIn.own (j := 7) Z) (RdIn.own (j := 8) Z) (RdIn.own (j := 9) Z) (RdIn.own (j := 10) Z) (RdIn.own (j := 11) Z) (RdIn.own (j := 12) Z) (RdIn.own (j := 15) Z) (RdIn.own (j := 16) Z) (RdIn.own (j := 17) Z) (RdIn.own (j := 18) Z) (RdIn.own (j := 19) Z) (RdIn.own (j := 20) Z) h155) (fun _ wd156 ⟨h157, HS⟩ => ⟨_, h157, (bK (oN Z (GO.not Z Z Z (bK ?_))))⟩)))))))))))
     refine pS 2 Z (kN 64 Z (congrArg Bool.not (bnot_of c158)) (oF Z (oF Z (oF Z (GO.pickT Z Z Z Z Z (nL (rN 3 Z ?_)))))))
     obtain rfl := sI H
     exact rT _ func4 Z Z ⟨Z, (HS.pk 25 [] Z)⟩
    refine yB Z (congrArg Bool.not (bnot_of c136)) (rN 2 Z ?_)
    obtain rfl := sI H
    exact rT _ func4 Z Z ⟨Z, (HS.pk 25 [] Z)⟩
   refine yB Z (congrArg Bool.not (bnot_of c116)) (rN 2 Z ?_)
   obtain rfl := sI H
   exact rT _ func4 Z Z ⟨Z, (HS.pk 22 [] Z)⟩
  refine rG (GO.ldBoxA (j := 0) ([.string t74, I t75, .slice A88 t76.length c89, .slice A91 t77.length c92, I t78, I t79, .slice A93 t80.length c94, I t81, I t82, .slice A95 t83.length c96, .slice A97 t84.length c98, .slice A99 t85.length c100]) HS Z Z Z Z ag48 Z (GO.ldBoxA (j := 11) ([.string t24, I t25, .slice A38 t26.length c39, .slice A41 t27.length c42, I t28, I t29, .slice A43 t30.length c44, I t31, I t32, .slice A45 t33.length c46, .slice A47 t34.length c48, .slice A49 t35.length c50]) HS Z Z Z Z ag48 Z (fN Z func14 fok14.1 fok14.2 Z Z (laws_eqItem.calls HS (RdIn.own (j := 1) Z) (RdIn.own (j := 2) Z) (RdIn.own (j := 3) Z) (RdIn.own (j := 4) Z) (RdIn.own (j := 5) Z) (RdIn.own (j := 6) Z) (RdIn.own (j := 12) Z) (RdIn.own (j := 13) Z) (RdIn.own (j := 14) Z) (RdIn.own (j := 15) Z) (RdIn.own (j := 16) Z) (RdIn.own (j := 17) Z) h112) (fun _ wd113 ⟨h114, HS⟩ => ⟨_, h114, (pS 2 Z (kN 43 Z (congrArg Bool.not (bnot_of c115)) (oF Z (oF Z (oF Z (GO.pickT Z Z Z Z Z (nL (rN 3 Z ?_))))))))⟩))))
  obtain rfl := sI H
  exact rT _ func4 Z Z ⟨Z, (HS.pk 22 [] Z)⟩
end Go.Proofs.YthjomdggdaocgaaGreatDoor
