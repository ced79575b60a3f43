/-
  The walks through the functions: a call comes to what its list function says.
-/
import Derived.Test.YtbjfinndngafoaaGreatAlF
import Derived.Test.YtbjfinndngafoaaGreatAlW1
set_option linter.unusedVariables false
set_option linter.unusedSimpArgs false
namespace Go.Proofs.YtbjfinndngafoaaGreat
open Go.RowKit
open Tryz
variable {w0 w : World} {L : List HObj} {K : Nat} {A_a A_b A_c A_d A_e A_f A_g A_h A_i A_j A_k A_l A_m A_n A_o A_p A_q A_r A_s A_t A_u A_v A_w A_x A_y A_z : Option Addr} {c_a c_b c_c c_d c_e c_f c_g c_h c_i c_j c_k c_l c_m c_n c_o c_p c_q c_r c_s c_t c_u c_v c_w c_x c_y c_z : Nat}
set_option maxRecDepth 20000
set_option maxHeartbeats 40000000
theorem spec_BoundaryClasses.calls {s1 : List (List GFace)} {y_a : Nat → (Ty.slice 107 T_GFace).Lay} {r1 r2 r3 : List Int} (HS : St w0 w (L)) (r_a : RdIn w0 L (Ty.slice 107 T_GFace) A_a c_a y_a s1) (H : spec_BoundaryClasses.f K s1 = some (r1, r2, r3)) :
    Calls prog 132 #[.agg [.slice A_a s1.length c_a].toArray] w (spec_BoundaryClasses.post w0 L r1 r2 r3) := by
  unfold spec_BoundaryClasses.f at H
  refine cG func132 Z ?_
  refine sQ (rG (bA HS Z fun b1 wd2 HS => pS 3 Z (nL (rN 2 Z ?_))))
  obtain ⟨t3, h4, H⟩ := bI H
  refine rG (lW 0 HS Z ag31 (fJ fok45 Z (spec_IsTriangulation.calls HS (rD 1 r_a) h4) (fun _ wd5 ⟨h6, HS⟩ => ⟨_, h6, (GO.not Z Z Z (nL ?_))⟩)))
  rcases iS H with ⟨c7, H⟩ | ⟨c7, H⟩
  ·
   refine yB Z (congrArg Bool.not (bnot_of c7)) (rN 2 Z ?_)
   replace HS := HS.nilRow (TInt .i64) 2 (fun _ => ())
   replace HS := HS.nilRow (TInt .i64) 2 (fun _ => ())
   replace HS := HS.nilRow (TInt .i64) 2 (fun _ => ())
   obtain ⟨rfl, rfl, rfl⟩ := some3 H
   exact G.ret3 _ _ _ func132 Z Z Z Z ⟨_, _, _, _, _, _, Z, (HS.pk 4 [2, 1, 0] Z)⟩
  refine nB Z (congrArg Bool.not c7) (rN 2 Z ?_)
  obtain ⟨t8, t9, t10, t11, h12, H⟩ := bind4_elim H
  refine rG (lW 0 HS Z ag31 (fJ fok78 Z (spec_l08Count.calls HS (rD 1 r_a) h12) (fun _ wd24 ⟨A13, c14, y15, A16, c17, y18, A19, c20, y21, A22, c23, h25, HS⟩ => ⟨_, h25, (pS 3 Z (GO.alloc HS Z zr111 Z Z fun b26 wd27 HS => sW 0 HS Z ag111 Z fun wd28 HS => aS Z (nL (sQ ?_))))⟩)))
  obtain ⟨c29, H⟩ := iN H
  obtain ⟨c30, H⟩ := iN H
  obtain ⟨c31, H⟩ := iN H
  refine rG (mV Z (GO.ix Z Z Z U56 sz2 ((RdIn.own (j := 4) Z) _ HS).2.2.1 c29.1 c29.2 Z (GO.ldRd (T := (TInt .i64)) (n := 0) (o := 0) HS (RdIn.own (j := 4) Z) Z Z (getD_some (d := 0) (ltN c29)) Z Z na2 Z (GO.make (T := TBool) false () HS flat_flat Z Z Z U171 inf4 Z Z Z c30 c31 Z fun b32 wd33 HS => aS Z (nL (sQ ?_))))))
  obtain ⟨c34, H⟩ := iN H
  obtain ⟨c35, H⟩ := iN H
  obtain ⟨c36, H⟩ := iN H
  refine rG (mV Z (GO.ix Z Z Z U56 sz2 ((RdIn.own (j := 5) Z) _ HS).2.2.1 c34.1 c34.2 Z (GO.ldRd (T := (TInt .i64)) (n := 1) (o := 0) HS (RdIn.own (j := 5) Z) Z Z (getD_some (d := 0) (ltN c34)) Z Z na2 Z (GO.make (T := TBool) false () HS flat_flat Z Z Z U171 inf4 Z Z Z c35 c36 Z fun b37 wd38 HS => aS Z (nL (sQ ?_))))))
  obtain ⟨c39, H⟩ := iN H
  obtain ⟨c40, H⟩ := iN H
  obtain ⟨c41, H⟩ := iN H
  refine rG (mV Z (GO.ix Z Z Z U56 sz2 ((RdIn.own (j := 6) Z) _ HS).2.2.1 c39.1 c39.2 Z (GO.ldRd (T := (TInt .i64)) (n := 2) (o := 0) HS (RdIn.own (j := 6) Z) Z Z (getD_some (d := 0) (ltN c39)) Z Z na2 Z (GO.make (T := TBool) false () HS flat_flat Z Z Z U171 inf4 Z Z Z c40 c41 Z fun b42 wd43 HS => aS Z (nL (sQ ?_))))))
  obtain ⟨t44, h45, H⟩ := bI H
  refine rG (lW 8 HS Z ag31 (fJ fok154 Z (spec_l07Boundary.calls HS (rD 9 r_a) h45) (fun _ wd49 ⟨A46, c47, y48, h50, HS⟩ => ⟨_, h50, (aS Z (nL (rN 5 Z ?_)))⟩)))
  refine G.name (fun z1 e2 => ?_)
  have h2 : ∀ h1, h1 ≤ K → ∀ (o1 e1 c1 : List Bool) (a1 : Int) (w : World), spec_BoundaryClasses.l1 K h1 t8 t9 t10 t44 o1 e1 c1 a1 = some (r1, r2, r3) → St w0 w (Box b26 111 [.slice A13 t8.length c14, .slice A16 t9.length c17, .slice A19 t10.length c20] :: Own (Ty.slice 2 (TInt .i64)) 56 A13 c14 y15 t8 :: Own (Ty.slice 2 (TInt .i64)) 56 A16 c17 y18 t9 :: Own (Ty.slice 2 (TInt .i64)) 56 A19 c20 y21 t10 :: Own TBool 4 (some ⟨b32, 0, none⟩) ((t11.getD 0 0).toNat) (fun _ => ()) o1 :: Own TBool 4 (some ⟨b37, 0, none⟩) ((t11.getD 1 0).toNat) (fun _ => ()) e1 :: Own TBool 4 (some ⟨b42, 0, none⟩) ((t11.getD 2 0).toNat) (fun _ => ()) c1 :: Own (Ty.slice 2 (TInt .i64)) 56 A46 c47 y48 t44 :: L) → G prog 132 118 [(5, .pointer (some ⟨b26, 0, none⟩)), (7, .slice (some ⟨b32, 0, none⟩) o1.length ((t11.getD 0 0).toNat)), (8, .slice (some ⟨b37, 0, none⟩) e1.length ((t11.getD 1 0).toNat)), (9, .slice (some ⟨b42, 0, none⟩) c1.length ((t11.getD 2 0).toNat)), (10, .slice A46 t44.length c47), (11, I a1)] z1 w (spec_BoundaryClasses.post w0 L r1 r2 r3) := by
   intro h1
   induction h1 using Nat.strongRecOn with
   | _ h1 c2 =>
    intro i2 o1 e1 c1 a1 w H HS
    cases h1 with
    | zero => rw [spec_BoundaryClasses.l1] at H; cases H
    | succ v1 =>
     rw [spec_BoundaryClasses.l1] at H
     subst e2
     refine rN 2 Z (rG (pS 2 Z (lS Z Z U109 Z (GO.lss Z Z Z Z (nL ?_)))))
     rcases iS H with ⟨c305, H⟩ | ⟨c305, H⟩
     ·
      refine nB Z (tF c305) (rN 2 Z ?_)
      obtain ⟨t412, h413, H⟩ := bI H
      obtain ⟨t418, h419, H⟩ := bI H
      obtain ⟨t424, h425, H⟩ := bI H
      refine rG (mV Z (fJ fok155 Z (spec_l08Listed.calls HS (RdIn.own (j := 4) Z) h413) (fun _ wd416 ⟨A414, c415, h417, HS⟩ => ⟨_, h417, (mV Z (fJ fok155 Z (spec_l08Listed.calls HS (RdIn.own (j := 6) Z) h419) (fun _ wd422 ⟨A420, c421, h423, HS⟩ => ⟨_, h423, (mV Z (fJ fok155 Z (spec_l08Listed.calls HS (RdIn.own (j := 8) Z) h425) (fun _ wd428 ⟨A426, c427, h429, HS⟩ => ⟨_, h429, (pS 3 Z (nL ?_))⟩)))⟩)))⟩)))
      obtain ⟨rfl, rfl, rfl⟩ := some3 H
      exact G.ret3 _ _ _ func132 Z Z Z Z ⟨_, _, _, _, _, _, Z, (HS.pk 11 [2, 1, 0] Z)⟩
     refine yB Z (tT c305) (rN 4 Z ?_)
     obtain ⟨c306, H⟩ := iN H
     obtain ⟨c307, H⟩ := iN H
     refine rG (pS 2 Z (GO.ix Z Z Z U109 sz56 ((RdIn.own (j := 7) Z) _ HS).2.2.1 c306.1 c306.2 Z (GO.ldRd (T := (Ty.slice 2 (TInt .i64))) (n := a1.toNat) (o := 0) HS (RdIn.own (j := 7) Z) Z Z (getD_some (d := []) (ltN c306)) Z Z na56 Z (GO.ix Z Z Z U56 sz2 ((RdIn.elem (RdIn.own (j := 7) Z) c306.1 c306.2) _ HS).2.2.1 c307.1 c307.2 Z (GO.ldRd (T := (TInt .i64)) (n := 0) (o := 0) HS (RdIn.elem (RdIn.own (j := 7) Z) c306.1 c306.2) Z Z (getD_some (d := 0) (ltN c307)) Z Z na2 Z (aS Z (nL (sQ ?_))))))))
     obtain ⟨c308, H⟩ := iN H
     refine rG (pS 2 Z (GO.ix Z Z Z U109 sz56 ((RdIn.own (j := 7) Z) _ HS).2.2.1 c306.1 c306.2 Z (GO.ldRd (T := (Ty.slice 2 (TInt .i64))) (n := a1.toNat) (o := 0) HS (RdIn.own (j := 7) Z) Z Z (getD_some (d := []) (ltN c306)) Z Z na56 Z (GO.ix Z Z Z U56 sz2 ((RdIn.elem (RdIn.own (j := 7) Z) c306.1 c306.2) _ HS).2.2.1 c308.1 c308.2 Z (GO.ldRd (T := (TInt .i64)) (n := 1) (o := 0) HS (RdIn.elem (RdIn.own (j := 7) Z) c306.1 c306.2) Z Z (getD_some (d := 0) (ltN c308)) Z Z na2 Z (aS Z (nL (sQ ?_))))))))
     obtain ⟨c309, H⟩ := iN H
     obtain ⟨c310, H⟩ := iN H
     obtain ⟨c311, H⟩ := iN H
     refine rG (mV Z (fL b26 2 fl111_2 Z (lB 0 HS Z na109 Z (mV Z (GO.ix Z Z Z U109 sz56 ((RdIn.own (j := 3) Z) _ HS).2.2.1 c309.1 c309.2 Z (GO.ldRd (T := (Ty.slice 2 (TInt .i64))) (n := ((t44.getD a1.toNat []).getD 0 0).toNat) (o := 0) HS (RdIn.own (j := 3) Z) Z Z (getD_some (d := []) (ltN c309)) Z Z na56 Z (mV Z (GO.ix Z Z Z U56 sz2 ((RdIn.elem (RdIn.own (j := 3) Z) c309.1 c309.2) _ HS).2.2.1 c310.1 c310.2 Z (GO.ldRd (T := (TInt .i64)) (n := ((t44.getD a1.toNat []).getD 1 0).toNat) (o := 0) HS (RdIn.elem (RdIn.own (j := 3) Z) c309.1 c309.2) Z Z (getD_some (d := 0) (ltN c310)) Z Z na2 Z (GO.ix Z Z Z U171 sz4 (fun _ => ⟨_, _, Z⟩) c311.1 c311.2 Z (GO.stRow (T := TBool) (j := 6) (n := ((t10.getD (((t44.getD a1.toNat []).getD 0 0).toNat) []).getD (((t44.getD a1.toNat []).getD 1 0).toNat) 0).toNat) (o := 0) (vs := [.bool true]) true HS Z flat_flat Z Z Z Z (htN na4 Z) Z (getD_some (d := false) (ltN c311)) Z Z fun wd312 HS => nL (G.len (t := 9) (m := (c1.set (((t10.getD (((t44.getD a1.toNat []).getD 0 0).toNat) []).getD (((t44.getD a1.toNat []).getD 1 0).toNat) 0).toNat) true).length) Z (by simp only [List.length_set] <;> rfl) (rN 5 Z ?_)))))))))))))
     refine G.name (fun a2 y1 => ?_)
     have d2 : ∀ f1, f1 ≤ v1 → ∀ (d1 : List Bool) (i1 : Int) (w : World), spec_BoundaryClasses.l8 K f1 t8 t9 t10 t44 e1 c1 a1 d1 i1 = some (r1, r2, r3) → St w0 w (Box b26 111 [.slice A13 t8.length c14, .slice A16 t9.length c17, .slice A19 t10.length c20] :: Own (Ty.slice 2 (TInt .i64)) 56 A13 c14 y15 t8 :: Own (Ty.slice 2 (TInt .i64)) 56 A16 c17 y18 t9 :: Own (Ty.slice 2 (TInt .i64)) 56 A19 c20 y21 t10 :: Own TBool 4 (some ⟨b32, 0, none⟩) ((t11.getD 0 0).toNat) (fun _ => ()) d1 :: Own TBool 4 (some ⟨b37, 0, none⟩) ((t11.getD 1 0).toNat) (fun _ => ()) e1 :: Own TBool 4 (some ⟨b42, 0, none⟩) ((t11.getD 2 0).toNat) (fun _ => ()) (c1.set (((t10.getD (((t44.getD a1.toNat []).getD 0 0).toNat) []).getD (((t44.getD a1.toNat []).getD 1 0).toNat) 0).toNat) true) :: Own (Ty.slice 2 (TInt .i64)) 56 A46 c47 y48 t44 :: L) → G prog 132 118 [(5, .pointer (some ⟨b26, 0, none⟩)), (7, .slice (some ⟨b32, 0, none⟩) d1.length ((t11.getD 0 0).toNat)), (8, .slice (some ⟨b37, 0, none⟩) e1.length ((t11.getD 1 0).toNat)), (9, .slice (some ⟨b42, 0, none⟩) (c1.set (((t10.getD (((t44.getD a1.toNat []).getD 0 0).toNat) []).getD (((t44.getD a1.toNat []).getD 1 0).toNat) 0).toNat) true).length ((t11.getD 2 0).toNat)), (10, .slice A46 t44.length c47), (11, I a1), (12, I ((t44.getD a1.toNat []).getD 0 0)), (13, I ((t44.getD a1.toNat []).getD 1 0)), (14, I i1)] a2 w (spec_BoundaryClasses.post w0 L r1 r2 r3) := by
      intro f1
      induction f1 using Nat.strongRecOn with
      | _ f1 u1 =>
       intro x1 d1 i1 w H HS
       cases f1 with
       | zero => rw [spec_BoundaryClasses.l8] at H; cases H
       | succ p1 =>
        rw [spec_BoundaryClasses.l8] at H
        subst y1
        refine rN 3 Z ?_
        rcases iE H with ⟨c366, H⟩ | ⟨c366, H⟩
        ·
         refine yB Z (tT c366) (rN 5 Z ?_)
         rcases iE H with ⟨c367, H⟩ | ⟨c367, H⟩
         ·
          refine nB Z (nT c367) (rN 4 Z (G.weak ?_ (u1 p1 (Nat.lt_succ_of_le (lR _)) (Nat.le_of_succ_le x1) _ _ _ H HS)))
          exact ⟨Z, Z, Z, Z, Z, Z, Z, Z, Z, tv⟩
         refine yB Z (nF c367) ?_
         obtain ⟨c368, H⟩ := iN H
         obtain ⟨c369, H⟩ := iN H
         obtain ⟨c370, H⟩ := iN H
         refine rG (mV Z (fL b26 0 fl111_0 Z (lB 0 HS Z na109 Z (mV Z (GO.ix Z Z Z U109 sz56 ((RdIn.own (j := 1) Z) _ HS).2.2.1 c368.1 c368.2 Z (GO.ldRd (T := (Ty.slice 2 (TInt .i64))) (n := ((t44.getD a1.toNat []).getD 0 0).toNat) (o := 0) HS (RdIn.own (j := 1) Z) Z Z (getD_some (d := []) (ltN c368)) Z Z na56 Z (mV Z (GO.ix Z Z Z U56 sz2 ((RdIn.elem (RdIn.own (j := 1) Z) c368.1 c368.2) _ HS).2.2.1 c369.1 c369.2 Z (GO.ldRd (T := (TInt .i64)) (n := i1.toNat) (o := 0) HS (RdIn.elem (RdIn.own (j := 1) Z) c368.1 c368.2) Z Z (getD_some (d := 0) (ltN c369)) Z Z na2 Z (GO.ix Z Z Z U171 sz4 (fun _ => ⟨_, _, Z⟩) c370.1 c370.2 Z (GO.stRow (T := TBool) (j := 4) (n := ((t8.getD (((t44.getD a1.toNat []).getD 0 0).toNat) []).getD i1.toNat 0).toNat) (o := 0) (vs := [.bool true]) true HS Z flat_flat Z Z Z Z (htN na4 Z) Z (getD_some (d := false) (ltN c370)) Z Z fun wd371 HS => nL (G.len (t := 7) (m := (d1.set (((t8.getD (((t44.getD a1.toNat []).getD 0 0).toNat) []).getD i1.toNat 0).toNat) true).length) Z (by simp only [List.length_set] <;> rfl) (rN 3 Z ?_)))))))))))))
         refine G.weak ?_ (u1 p1 (Nat.lt_succ_of_le (lR _)) (Nat.le_of_succ_le x1) _ _ _ H HS)
         exact ⟨Z, Z, Z, Z, Z, Z, Z, Z, Z, tv⟩
        refine nB Z (tF c366) (rN 5 Z ?_)
        refine G.name (fun g2 b2 => ?_)
        have f2 : ∀ g1, g1 ≤ p1 → ∀ (m1 : List Bool) (k1 : Int) (w : World), spec_BoundaryClasses.l10 K g1 t8 t9 t10 t44 c1 a1 d1 m1 k1 = some (r1, r2, r3) → St w0 w (Box b26 111 [.slice A13 t8.length c14, .slice A16 t9.length c17, .slice A19 t10.length c20] :: Own (Ty.slice 2 (TInt .i64)) 56 A13 c14 y15 t8 :: Own (Ty.slice 2 (TInt .i64)) 56 A16 c17 y18 t9 :: Own (Ty.slice 2 (TInt .i64)) 56 A19 c20 y21 t10 :: Own TBool 4 (some ⟨b32, 0, none⟩) ((t11.getD 0 0).toNat) (fun _ => ()) d1 :: Own TBool 4 (some ⟨b37, 0, none⟩) ((t11.getD 1 0).toNat) (fun _ => ()) m1 :: Own TBool 4 (some ⟨b42, 0, none⟩) ((t11.getD 2 0).toNat) (fun _ => ()) (c1.set (((t10.getD (((t44.getD a1.toNat []).getD 0 0).toNat) []).getD (((t44.getD a1.toNat []).getD 1 0).toNat) 0).toNat) true) :: Own (Ty.slice 2 (TInt .i64)) 56 A46 c47 y48 t44 :: L) → G prog 132 118 [(5, .pointer (some ⟨b26, 0, none⟩)), (7, .slice (some ⟨b32, 0, none⟩) d1.length ((t11.getD 0 0).toNat)), (8, .slice (some ⟨b37, 0, none⟩) m1.length ((t11.getD 1 0).toNat)), (9, .slice (some ⟨b42, 0, none⟩) (c1.set (((t10.getD (((t44.getD a1.toNat []).getD 0 0).toNat) []).getD (((t44.getD a1.toNat []).getD 1 0).toNat) 0).toNat) true).length ((t11.getD 2 0).toNat)), (10, .slice A46 t44.length c47), (11, I a1), (12, I ((t44.getD a1.toNat []).getD 0 0)), (13, I ((t44.getD a1.toNat []).getD 1 0)), (15, I k1)] g2 w (spec_BoundaryClasses.post w0 L r1 r2 r3) := by
         intro g1
         induction g1 using Nat.strongRecOn with
         | _ g1 q1 =>
          intro t1 m1 k1 w H HS
          cases g1 with
          | zero => rw [spec_BoundaryClasses.l10] at H; cases H
          | succ n1 =>
           rw [spec_BoundaryClasses.l10] at H
           subst b2
           refine rN 3 Z ?_
           rcases iS H with ⟨c399, H⟩ | ⟨c399, H⟩
           ·
            refine nB Z (tF c399) (rN 4 Z (G.weak ?_ (c2 n1 (by omega) (by omega) _ _ _ _ _ H HS)))
            exact ⟨Z, Z, Z, Z, Z, Z, tv⟩
           refine yB Z (tT c399) (rN 4 Z ?_)
           obtain ⟨t400, t401, h402, H⟩ := bind2_elim H
           refine rG (mV Z (fJ fok120 Z (spec_l08Ends.calls HS  h402) (fun _ wd403 ⟨h404, HS⟩ => ⟨_, h404, (pS 5 Z (nL (sQ ?_)))⟩)))
           rcases iE H with ⟨c406, H⟩ | ⟨c406, H⟩
           ·
            refine rG (pS 4 Z (kN 97 Z (nT c406) (oF Z (oF Z (oF Z (GO.pickF Z Z Z Z Z (nL (rN 5 Z (G.weak ?_ (q1 n1 (Nat.lt_succ_of_le (lR _)) (Nat.le_of_succ_le t1) _ _ _ H HS))))))))))
            exact ⟨Z, Z, Z, Z, Z, Z, Z, Z, Z, tv⟩
           refine rG (pS 4 Z (kN 97 Z (nF c406) (oN Z (mV Z (bK (oN Z (mV Z (bK (oN Z (GO.neq Z Z Z Z (bK (GO.pickT Z Z Z Z Z (nL ?_)))))))))))))
           rcases iE H with ⟨c407, H⟩ | ⟨c407, H⟩
           ·
            refine nB Z (nT c407) (rN 4 Z (G.weak ?_ (q1 n1 (Nat.lt_succ_of_le (lR _)) (Nat.le_of_succ_le t1) _ _ _ H HS)))
            exact ⟨Z, Z, Z, Z, Z, Z, Z, Z, Z, tv⟩
           refine yB Z (nF c407) ?_
           obtain ⟨c408, H⟩ := iN H
           obtain ⟨c409, H⟩ := iN H
           obtain ⟨c410, H⟩ := iN H
           refine rG (mV Z (fL b26 1 fl111_1 Z (lB 0 HS Z na109 Z (mV Z (GO.ix Z Z Z U109 sz56 ((RdIn.own (j := 2) Z) _ HS).2.2.1 c408.1 c408.2 Z (GO.ldRd (T := (Ty.slice 2 (TInt .i64))) (n := ((t44.getD a1.toNat []).getD 0 0).toNat) (o := 0) HS (RdIn.own (j := 2) Z) Z Z (getD_some (d := []) (ltN c408)) Z Z na56 Z (mV Z (GO.ix Z Z Z U56 sz2 ((RdIn.elem (RdIn.own (j := 2) Z) c408.1 c408.2) _ HS).2.2.1 c409.1 c409.2 Z (GO.ldRd (T := (TInt .i64)) (n := k1.toNat) (o := 0) HS (RdIn.elem (RdIn.own (j := 2) Z) c408.1 c408.2) Z Z (getD_some (d := 0) (ltN c409)) Z Z na2 Z (GO.ix Z Z Z U171 sz4 (fun _ => ⟨_, _, Z⟩) c410.1 c410.2 Z (GO.stRow (T := TBool) (j := 5) (n := ((t9.getD (((t44.getD a1.toNat []).getD 0 0).toNat) []).getD k1.toNat 0).toNat) (o := 0) (vs := [.bool true]) true HS Z flat_flat Z Z Z Z (htN na4 Z) Z (getD_some (d := false) (ltN c410)) Z Z fun wd411 HS => nL (G.len (t := 8) (m := (m1.set (((t9.getD (((t44.getD a1.toNat []).getD 0 0).toNat) []).getD k1.toNat 0).toNat) true).length) Z (by simp only [List.length_set] <;> rfl) (rN 3 Z ?_)))))))))))))
           refine G.weak ?_ (q1 n1 (Nat.lt_succ_of_le (lR _)) (Nat.le_of_succ_le t1) _ _ _ H HS)
           exact ⟨Z, Z, Z, Z, Z, Z, Z, Z, Z, tv⟩
        refine G.weak ?_ (f2 p1 (lR _) _ _ _ H HS)
        exact ⟨Z, Z, Z, Z, Z, Z, Z, Z, Z, tv⟩
     refine G.weak ?_ (d2 v1 (lR _) _ _ _ H HS)
     exact ⟨Z, Z, Z, Z, Z, Z, Z, Z, Z, tv⟩
  refine G.weak ?_ (h2 K (lR _) _ _ _ _ _ H (HS.pk 10 [4, 5, 6, 7, 3, 2, 1, 0] Z))
  exact ⟨Z, Z, Z, Z, Z, Z, tv⟩
theorem spec_l08Signs.calls {d1 : List (List GFace)} {y_a : Nat → (Ty.slice 107 T_GFace).Lay} {r1 : List (List Int)} (HS : St w0 w (L)) (r_a : RdIn w0 L (Ty.slice 107 T_GFace) A_a c_a y_a d1) (H : spec_l08Signs.f K d1 = some r1) :
    Calls prog 133 #[.agg [.slice A_a d1.length c_a].toArray] w (spec_l08Signs.post w0 L r1) := by
  unfold spec_l08Signs.f at H
  refine cG func133 Z ?_
  refine sQ (rG (bA HS Z fun b1 wd2 HS => aS Z (nL (sQ ?_))))
  obtain ⟨t3, h4, H⟩ := bI H
  refine rG (lW 0 HS Z ag31 (fJ fok64 Z (spec_l07Tets.calls HS (rD 1 r_a) h4) (fun _ wd5 ⟨h6, HS⟩ => ⟨_, h6, (aS Z (nL (sQ ?_)))⟩)))
  obtain ⟨c7, H⟩ := iN H
  obtain ⟨c8, H⟩ := iN H
  refine rG (pS 2 Z (GO.make (T := (TInt .i64)) 0 () HS flat_flat Z Z Z U56 inf2 Z Z Z c7 c8 Z fun b9 wd10 HS => aS Z (nL (sQ ?_))))
  obtain ⟨c11, H⟩ := iN H
  refine rG (pS 2 Z (GO.make (T := TBool) false () HS flat_flat Z Z Z U171 inf4 Z Z Z c7 c11 Z fun b12 wd13 HS => aS Z (nL (rN 5 Z ?_))))
  refine G.name (fun p2 f3 => ?_)
  have m3 : ∀ o1, o1 ≤ K → ∀ (e1 : List Int) (a1 : List Bool) (c1 : Int) (w : World), spec_l08Signs.l1 K o1 d1 t3 e1 a1 c1 = some r1 → St w0 w (Box b1 31 [.slice A_a d1.length c_a] :: Own (TInt .i64) 2 (some ⟨b9, 0, none⟩) ((w64 (6 * t3)).toNat) (fun _ => ()) e1 :: Own TBool 4 (some ⟨b12, 0, none⟩) ((w64 (6 * t3)).toNat) (fun _ => ()) a1 :: L) → G prog 133 189 [(1, .pointer (some ⟨b1, 0, none⟩)), (3, I t3), (4, .slice (some ⟨b9, 0, none⟩) e1.length ((w64 (6 * t3)).toNat)), (5, .slice (some ⟨b12, 0, none⟩) a1.length ((w64 (6 * t3)).toNat)), (6, I c1)] p2 w (spec_l08Signs.post w0 L r1) := by
   intro o1
   induction o1 using Nat.strongRecOn with
   | _ o1 f2 =>
    intro d3 e1 a1 c1 w H HS
    cases o1 with
    | zero => rw [spec_l08Signs.l1] at H; cases H
    | succ s1 =>
     rw [spec_l08Signs.l1] at H
     subst f3
     refine rN 3 Z ?_
     rcases iS H with ⟨c1352, H⟩ | ⟨c1352, H⟩
     ·
      refine nB Z (tF c1352) (rN 2 Z (rG (GO.buildS (el := 56) ([]) HS Z Z (fun _ => by kernel_rfl) Z fun b1901 wd1902 HS => ?_)))
      replace HS := HS.boxNil (T := (Ty.slice 2 (TInt .i64))) (j := 0) Z (fun _ => ⟨none, 0, (fun _ => ())⟩)
      refine GO.lenC (t := 155) (m := ([] : List (List Int)).length) (c' := 0) Z Z Z (aS Z (nL (rN 5 Z ?_)))
      refine G.name (fun o2 a3 => ?_)
      have e3 : ∀ k1, k1 ≤ s1 → ∀ (A1979 : Option Addr) (c1980 : Nat) (x1981 : List (List Int)) (y1982 : Nat → (Ty.slice 2 (TInt .i64)).Lay) (x1983 : Int) (w : World), spec_l08Signs.l82 K k1 t3 e1 a1 x1981 x1983 = some r1 → St w0 w (Own (TInt .i64) 2 (some ⟨b9, 0, none⟩) ((w64 (6 * t3)).toNat) (fun _ => ()) e1 :: Own TBool 4 (some ⟨b12, 0, none⟩) ((w64 (6 * t3)).toNat) (fun _ => ()) a1 :: Own (Ty.slice 2 (TInt .i64)) 56 A1979 c1980 y1982 x1981 :: L) → G prog 133 189 [(3, I t3), (4, .slice (some ⟨b9, 0, none⟩) e1.length ((w64 (6 * t3)).toNat)), (5, .slice (some ⟨b12, 0, none⟩) a1.length ((w64 (6 * t3)).toNat)), (20, .slice A1979 x1981.length c1980), (21, I x1983)] o2 w (spec_l08Signs.post w0 L r1) := by
       intro k1
       induction k1 using Nat.strongRecOn with
       | _ k1 k2 =>
        intro p3 A1979 c1980 x1981 y1982 x1983 w H HS
        cases k1 with
        | zero => rw [spec_l08Signs.l82] at H; cases H
        | succ g2 =>
         rw [spec_l08Signs.l82] at H
         subst a3
         refine rN 3 Z ?_
         rcases iS H with ⟨c2060, H⟩ | ⟨c2060, H⟩
         ·
          refine nB Z (tF c2060) (rN 3 Z ?_)
          obtain rfl := sI H
          exact rT _ func133 Z Z ⟨_, _, _, Z, (HS.pk 3 [2] Z)⟩
         refine yB Z (tT c2060) (rN 4 Z (rG (GO.buildS (el := 2) ([]) HS Z Z (fun _ => by kernel_rfl) Z fun b2061 wd2062 HS => ?_)))
         replace HS := HS.boxRow (T := (TInt .i64)) (j := 0) Z flat_flat (fun _ => ()) ([] : List Int) Z (bndL Z)
         refine GO.lenC (t := 162) (m := ([] : List Int).length) (c' := ([] : List Int).length) Z Z Z (aS Z (nL (rN 5 Z ?_)))
         refine G.name (fun k3 v2 => ?_)
         have b3 : ∀ m1, m1 ≤ g2 → ∀ (A2086 : Option Addr) (c2087 : Nat) (x2088 : List Int) (x2089 : Int) (w : World), spec_l08Signs.l85 K m1 t3 e1 a1 x1981 x1983 x2088 x2089 = some r1 → St w0 w (Own (TInt .i64) 2 (some ⟨b9, 0, none⟩) ((w64 (6 * t3)).toNat) (fun _ => ()) e1 :: Own TBool 4 (some ⟨b12, 0, none⟩) ((w64 (6 * t3)).toNat) (fun _ => ()) a1 :: Own (Ty.slice 2 (TInt .i64)) 56 A1979 c1980 y1982 x1981 :: Own (TInt .i64) 2 A2086 c2087 (fun _ => ()) x2088 :: L) → G prog 133 189 [(3, I t3), (4, .slice (some ⟨b9, 0, none⟩) e1.length ((w64 (6 * t3)).toNat)), (5, .slice (some ⟨b12, 0, none⟩) a1.length ((w64 (6 * t3)).toNat)), (20, .slice A1979 x1981.length c1980), (21, I x1983), (22, .slice A2086 x2088.length c2087), (23, I x2089)] k3 w (spec_l08Signs.post w0 L r1) := by
          intro m1
          induction m1 using Nat.strongRecOn with
          | _ m1 j2 =>
           intro i2 A2086 c2087 x2088 x2089 w H HS
           cases m1 with
           | zero => rw [spec_l08Signs.l85] at H; cases H
           | succ z1 =>
            rw [spec_l08Signs.l85] at H
            subst v2
            refine rN 3 Z ?_
            rcases iS H with ⟨c2113, H⟩ | ⟨c2113, H⟩
            ·
             refine nB Z (tF c2113) (G.exit Z ?_)
             obtain ⟨c2134, H⟩ := iN H
             refine rG (pS 2 Z (GO.buildS (el := 56) ([.slice A2086 x2088.length c2087]) HS Z Z (fun _ => by kernel_rfl) Z fun b2129 wd2130 HS => ?_))
             replace HS := HS.pk 5 [3, 0, 4, 1, 2] Z
             refine GO.appR (S := (TInt .i64)) (u := 2) HS Z Z Z U109 inf56 Z Z c2134 Z fun A2132 c2133 y2135 wd2131 HS => aS Z (nL (rN 3 Z (G.weak ?_ (k2 z1 (by omega) (by omega) _ _ _ _ _ _ H (HS.pk 4 [2, 3, 0] Z)))))
             exact ⟨Z, Z, Z, Z, Z, tv⟩
            refine yB Z (tT c2113) (rN 4 Z ?_)
            obtain ⟨c2114, H⟩ := iN H
            refine rG (pS 2 Z (GO.ix Z Z Z U171 sz4 (fun _ => ⟨_, _, Z⟩) c2114.1 c2114.2 Z (GO.ldRd (T := TBool) (n := x2089.toNat) (o := 0) HS (RdIn.own (j := 1) Z) Z Z (getD_some (d := false) (ltN c2114)) Z Z na4 Z (nL ?_))))
            rcases iE H with ⟨c2115, H⟩ | ⟨c2115, H⟩
            ·
             refine yB Z c2115 ?_
             obtain ⟨c2121, H⟩ := iN H
             refine rG (mV Z (GO.buildS (el := 2) ([I 0]) HS Z Z (fun _ => by kernel_rfl) Z fun b2116 wd2117 HS => GO.app1 (T := (TInt .i64)) (j := 4) (jb := 0) 0 HS Z Z flat_flat Z Z Z U56 inf2 Z Z Z c2121 Z fun A2119 c2120 wd2118 HS => aS Z (nL (rN 3 Z (G.weak ?_ (j2 z1 (Nat.lt_succ_of_le (lR _)) (Nat.le_of_succ_le i2) _ _ _ _ _ H (HS.pk 5 [1, 2, 3, 4] Z)))))))
             exact ⟨Z, Z, Z, Z, Z, Z, Z, tv⟩
            refine nB Z (bnot_of c2115) ?_
            obtain ⟨c2122, H⟩ := iN H
            obtain ⟨c2128, H⟩ := iN H
            refine rG (pS 3 Z (GO.ix Z Z Z U56 sz2 (fun _ => ⟨_, _, Z⟩) c2122.1 c2122.2 Z (GO.ldRd (T := (TInt .i64)) (n := x2089.toNat) (o := 0) HS (RdIn.own (j := 0) Z) Z Z (getD_some (d := 0) (ltN c2122)) Z Z na2 Z (GO.buildS (el := 2) ([I (e1.getD x2089.toNat 0)]) HS Z Z (fun _ => by kernel_rfl) Z fun b2123 wd2124 HS => GO.app1 (T := (TInt .i64)) (j := 4) (jb := 0) (e1.getD x2089.toNat 0) HS Z Z flat_flat Z Z Z U56 inf2 Z Z Z c2128 Z fun A2126 c2127 wd2125 HS => aS Z (nL (rN 3 Z (G.weak ?_ (j2 z1 (Nat.lt_succ_of_le (lR _)) (Nat.le_of_succ_le i2) _ _ _ _ _ H (HS.pk 5 [1, 2, 3, 4] Z)))))))))
            exact ⟨Z, Z, Z, Z, Z, Z, Z, tv⟩
         refine G.weak ?_ (b3 g2 (lR _) _ _ _ _ _ H (HS.pk 4 [1, 2, 3, 0] Z))
         exact ⟨Z, Z, Z, Z, Z, Z, Z, tv⟩
      refine G.weak ?_ (e3 s1 (lR _) _ _ _ _ _ _ H (HS.pk 4 [2, 3, 0] Z))
      exact ⟨Z, Z, Z, Z, Z, tv⟩
     refine yB Z (tT c1352) (rN 5 Z ?_)
     obtain ⟨c1353, H⟩ := iN H
     refine rG (pS 2 Z (GO.ix Z Z Z U56 sz2 (fun _ => ⟨_, _, Z⟩) c1353.1 c1353.2 Z (GO.ldRd (T := (TInt .i64)) (n := c1.toNat) (o := 0) HS (RdIn.own (j := 1) Z) Z Z (getD_some (d := 0) (ltN c1353)) Z Z na2 Z (GO.neq Z Z Z Z (nL ?_)))))
     rcases iS H with ⟨c1354, H⟩ | ⟨c1354, H⟩
     ·
      refine yB Z (nF c1354) (rN 3 Z (G.weak ?_ (f2 s1 (Nat.lt_succ_of_le (lR _)) (Nat.le_of_succ_le d3) _ _ _ _ H HS)))
      exact ⟨Z, Z, Z, Z, Z, tv⟩
     refine nB Z (nT c1354) (rN 2 Z (rG (pS 2 Z (GO.ix Z Z Z U56 sz2 (fun _ => ⟨_, _, Z⟩) c1353.1 c1353.2 Z (GO.stRow (T := (TInt .i64)) (j := 1) (n := c1.toNat) (o := 0) (vs := [I 1]) 1 HS Z flat_flat Z Z Z Z (htN na2 Z) Z (getD_some (d := 0) (ltN c1353)) Z Z fun wd1355 HS => nL (G.len (t := 4) (m := (e1.set c1.toNat 1).length) Z (by simp only [List.length_set] <;> rfl) (sQ (rG (mV Z (GO.buildS (el := 2) ([I c1]) HS Z Z (fun _ => by kernel_rfl) Z fun b1356 wd1357 HS => ?_))))))))))
     replace HS := HS.boxRow (T := (TInt .i64)) (j := 0) Z flat_flat (fun _ => ()) ([c1] : List Int) Z (bndL Z)
     refine GO.lenC (t := 47) (m := ([c1] : List Int).length) (c' := ([c1] : List Int).length) Z Z Z (aS Z (nL (rN 7 Z ?_)))
     refine G.name (fun j3 x2 => ?_)
     have h3 : ∀ i1, i1 ≤ s1 → ∀ (h1 : List Int) (A1528 : Option Addr) (c1529 : Nat) (x1530 : List Int) (x1531 : Bool) (x1532 : Int) (w : World), spec_l08Signs.l57 K i1 d1 t3 a1 c1 h1 x1530 x1531 x1532 = some r1 → St w0 w (Box b1 31 [.slice A_a d1.length c_a] :: Own (TInt .i64) 2 (some ⟨b9, 0, none⟩) ((w64 (6 * t3)).toNat) (fun _ => ()) h1 :: Own TBool 4 (some ⟨b12, 0, none⟩) ((w64 (6 * t3)).toNat) (fun _ => ()) a1 :: Own (TInt .i64) 2 A1528 c1529 (fun _ => ()) x1530 :: L) → G prog 133 189 [(1, .pointer (some ⟨b1, 0, none⟩)), (3, I t3), (4, .slice (some ⟨b9, 0, none⟩) h1.length ((w64 (6 * t3)).toNat)), (5, .slice (some ⟨b12, 0, none⟩) a1.length ((w64 (6 * t3)).toNat)), (6, I c1), (7, .slice A1528 x1530.length c1529), (8, .bool x1531), (9, I x1532)] j3 w (spec_l08Signs.post w0 L r1) := by
      intro i1
      induction i1 using Nat.strongRecOn with
      | _ i1 q2 =>
       intro q3 h1 A1528 c1529 x1530 x1531 x1532 w H HS
       cases i1 with
       | zero => rw [spec_l08Signs.l57] at H; cases H
       | succ v1 =>
        rw [spec_l08Signs.l57] at H
        subst x2
        refine rN 2 Z (rG (pS 2 Z (lS Z Z U56 Z (GO.lss Z Z Z Z (nL ?_)))))
        rcases iS H with ⟨c1717, H⟩ | ⟨c1717, H⟩
        ·
         refine nB Z (tF c1717) (rN 5 Z ?_)
         refine G.name (fun n2 i3 => ?_)
         have r2 : ∀ n1, n1 ≤ v1 → ∀ (t1 : List Bool) (x1892 : Int) (w : World), spec_l08Signs.l81 K n1 d1 t3 c1 h1 x1530 x1531 t1 x1892 = some r1 → St w0 w (Box b1 31 [.slice A_a d1.length c_a] :: Own (TInt .i64) 2 (some ⟨b9, 0, none⟩) ((w64 (6 * t3)).toNat) (fun _ => ()) h1 :: Own TBool 4 (some ⟨b12, 0, none⟩) ((w64 (6 * t3)).toNat) (fun _ => ()) t1 :: Own (TInt .i64) 2 A1528 c1529 (fun _ => ()) x1530 :: L) → G prog 133 189 [(1, .pointer (some ⟨b1, 0, none⟩)), (3, I t3), (4, .slice (some ⟨b9, 0, none⟩) h1.length ((w64 (6 * t3)).toNat)), (5, .slice (some ⟨b12, 0, none⟩) t1.length ((w64 (6 * t3)).toNat)), (6, I c1), (7, .slice A1528 x1530.length c1529), (8, .bool x1531), (19, I x1892)] n2 w (spec_l08Signs.post w0 L r1) := by
          intro n1
          induction n1 using Nat.strongRecOn with
          | _ n1 n3 =>
           intro c3 t1 x1892 w H HS
           cases n1 with
           | zero => rw [spec_l08Signs.l81] at H; cases H
           | succ h2 =>
            rw [spec_l08Signs.l81] at H
            subst i3
            refine rN 2 Z (rG (pS 2 Z (lS Z Z U56 Z (GO.lss Z Z Z Z (nL ?_)))))
            rcases iS H with ⟨c1897, H⟩ | ⟨c1897, H⟩
            ·
             refine nB Z (tF c1897) (rN 4 Z (G.weak ?_ (f2 h2 (by omega) (by omega) _ _ _ _ H (HS.pk 4 [0, 1, 2] Z))))
             exact ⟨Z, Z, Z, Z, Z, tv⟩
            refine yB Z (tT c1897) (rN 3 Z ?_)
            obtain ⟨c1898, H⟩ := iN H
            obtain ⟨c1899, H⟩ := iN H
            refine rG (pS 3 Z (GO.ix Z Z Z U56 sz2 ((RdIn.own (j := 3) Z) _ HS).2.2.1 c1898.1 c1898.2 Z (GO.ldRd (T := (TInt .i64)) (n := x1892.toNat) (o := 0) HS (RdIn.own (j := 3) Z) Z Z (getD_some (d := 0) (ltN c1898)) Z Z na2 Z (mV Z (GO.ix Z Z Z U171 sz4 (fun _ => ⟨_, _, Z⟩) c1899.1 c1899.2 Z (GO.stRow (T := TBool) (j := 2) (n := (x1530.getD x1892.toNat 0).toNat) (o := 0) (vs := [.bool x1531]) x1531 HS Z flat_flat Z Z Z Z (htN na4 Z) Z (getD_some (d := false) (ltN c1899)) Z Z fun wd1900 HS => nL (G.len (t := 5) (m := (t1.set ((x1530.getD x1892.toNat 0).toNat) x1531).length) Z (by simp only [List.length_set] <;> rfl) (rN 3 Z (G.weak ?_ (n3 h2 (Nat.lt_succ_of_le (lR _)) (Nat.le_of_succ_le c3) _ _ _ H HS))))))))))
            exact ⟨Z, Z, Z, Z, Z, Z, Z, Z, tv⟩
         refine G.weak ?_ (r2 v1 (lR _) _ _ _ H HS)
         exact ⟨Z, Z, Z, Z, Z, Z, Z, Z, tv⟩
        refine yB Z (tT c1717) (rN 4 Z ?_)
        obtain ⟨c1718, H⟩ := iN H
        refine rG (pS 2 Z (GO.ix Z Z Z U56 sz2 ((RdIn.own (j := 3) Z) _ HS).2.2.1 c1718.1 c1718.2 Z (GO.ldRd (T := (TInt .i64)) (n := x1532.toNat) (o := 0) HS (RdIn.own (j := 3) Z) Z Z (getD_some (d := 0) (ltN c1718)) Z Z na2 Z (GO.quo Z Z Z (by decide) Z (aS Z (nL (sQ ?_)))))))
        obtain ⟨t1719, t1720, h1721, H⟩ := bind2_elim H
        refine rG (pS 2 Z (GO.ix Z Z Z U56 sz2 ((RdIn.own (j := 3) Z) _ HS).2.2.1 c1718.1 c1718.2 Z (GO.ldRd (T := (TInt .i64)) (n := x1532.toNat) (o := 0) HS (RdIn.own (j := 3) Z) Z Z (getD_some (d := 0) (ltN c1718)) Z Z na2 Z (GO.rem Z Z Z (by decide) Z (fJ fok120 Z (spec_l08Ends.calls HS  h1721) (fun _ wd1722 ⟨h1723, HS⟩ => ⟨_, h1723, (pS 5 Z (nL (rN 4 Z ?_)))⟩))))))
        refine G.name (fun u2 g3 => ?_)
        have y2 : ∀ p1, p1 ≤ v1 → ∀ (f1 : List Int) (A1776 : Option Addr) (c1777 : Nat) (x1778 : List Int) (x1779 : Bool) (x1780 : Int) (w : World), spec_l08Signs.l74 K p1 d1 t3 a1 c1 x1530 x1532 t1719 t1720 f1 x1778 x1779 x1780 = some r1 → St w0 w (Box b1 31 [.slice A_a d1.length c_a] :: Own (TInt .i64) 2 (some ⟨b9, 0, none⟩) ((w64 (6 * t3)).toNat) (fun _ => ()) f1 :: Own TBool 4 (some ⟨b12, 0, none⟩) ((w64 (6 * t3)).toNat) (fun _ => ()) a1 :: Own (TInt .i64) 2 A1776 c1777 (fun _ => ()) x1778 :: L) → G prog 133 189 [(1, .pointer (some ⟨b1, 0, none⟩)), (3, I t3), (4, .slice (some ⟨b9, 0, none⟩) f1.length ((w64 (6 * t3)).toNat)), (5, .slice (some ⟨b12, 0, none⟩) a1.length ((w64 (6 * t3)).toNat)), (6, I c1), (7, .slice A1776 x1778.length c1777), (8, .bool x1779), (9, I x1532), (10, I (w64 ((x1530.getD x1532.toNat 0).tdiv 6))), (11, I t1719), (12, I t1720), (13, I x1780)] u2 w (spec_l08Signs.post w0 L r1) := by
         intro p1
         induction p1 using Nat.strongRecOn with
         | _ p1 q1 =>
          intro b2 f1 A1776 c1777 x1778 x1779 x1780 w H HS
          cases p1 with
          | zero => rw [spec_l08Signs.l74] at H; cases H
          | succ g1 =>
           rw [spec_l08Signs.l74] at H
           subst g3
           refine rN 3 Z ?_
           rcases iS H with ⟨c1834, H⟩ | ⟨c1834, H⟩
           ·
            refine nB Z (tF c1834) (rN 4 Z (G.weak ?_ (q2 g1 (by omega) (by omega) _ _ _ _ _ _ _ H HS)))
            exact ⟨Z, Z, Z, Z, Z, Z, Z, Z, tv⟩
           refine yB Z (tT c1834) (rN 4 Z ?_)
           obtain ⟨c1835, H⟩ := iN H
           obtain ⟨c1836, H⟩ := iN H
           obtain ⟨e1837, h1838, H⟩ := bnd_elim H
           refine rG (fL b1 0 fl31_0 Z (lB 0 HS Z na29 Z (mV Z (GO.ix Z Z Z U29 sz77 ((rD 4 r_a) _ HS).2.2.1 c1835.1 c1835.2 Z (GO.ldRd (T := (Ty.slice 107 T_GFace)) (n := (w64 ((x1530.getD x1532.toNat 0).tdiv 6)).toNat) (o := 0) HS (rD 4 r_a) Z Z (getD_some (d := []) (ltN c1835)) Z Z na77 Z (mV Z (GO.ix Z Z Z U77 sz107 ((RdIn.elem (rD 4 r_a) c1835.1 c1835.2) _ HS).2.2.1 c1836.1 c1836.2 Z (GO.ldRdA (T := T_GFace) (n := x1780.toNat) HS (RdIn.elem (rD 4 r_a) c1835.1 c1835.2) Z Z (getD_eq (ltN c1836) h1838) ag107 Z (GO.alloc HS Z zr107 Z Z fun b1839 wd1840 HS => sW 0 HS Z ag107 Z fun wd1841 HS => nL (rN 2 Z ?_))))))))))
           rcases iE H with ⟨c1844, H⟩ | ⟨c1844, H⟩
           ·
            refine rG (fL b1839 0 fl107_0 Z (lB 0 HS Z na2 Z (pS 2 Z (kN 83 Z (tT c1844) (oF Z (oF Z (oF Z (pS 2 Z (oF Z (oF Z (oF Z (GO.pickT Z Z Z Z Z (nL (rN 4 Z ?_))))))))))))))
            refine G.weak ?_ (q1 g1 (Nat.lt_succ_of_le (lR _)) (Nat.le_of_succ_le b2) _ _ _ _ _ _ _ H (HS.pk 5 [1, 2, 3, 4] Z))
            exact ⟨Z, Z, Z, Z, Z, Z, Z, Z, Z, Z, Z, Z, tv⟩
           rcases iE H with ⟨c1845, H⟩ | ⟨c1845, H⟩
           ·
            refine rG (fL b1839 0 fl107_0 Z (lB 0 HS Z na2 Z (pS 2 Z (kN 83 Z (tF c1844) (oN Z (mV Z (bK (oN Z (mV Z (bK (oN Z (GO.eql Z Z Z Z (bK (pS 2 Z ?_))))))))))))))
            refine kN 88 Z (tT c1845) (oF Z (oF Z (oF Z (GO.pickT Z Z Z Z Z (nL (rN 4 Z (G.weak ?_ (q1 g1 (Nat.lt_succ_of_le (lR _)) (Nat.le_of_succ_le b2) _ _ _ _ _ _ _ H (HS.pk 5 [1, 2, 3, 4] Z)))))))))
            exact ⟨Z, Z, Z, Z, Z, Z, Z, Z, Z, Z, Z, Z, tv⟩
           refine rG (fL b1839 0 fl107_0 Z (lB 0 HS Z na2 Z (pS 2 Z (kN 83 Z (tF c1844) (oN Z (mV Z (bK (oN Z (mV Z (bK (oN Z (GO.eql Z Z Z Z (bK (pS 2 Z ?_))))))))))))))
           refine kN 88 Z (tF c1845) (oN Z (mV Z (bK (oN Z (mV Z (bK (oN Z (GO.eql Z Z Z Z (bK (GO.pickF Z Z Z Z Z (nL ?_)))))))))))
           rcases iE H with ⟨c1846, H⟩ | ⟨c1846, H⟩
           ·
            refine yB Z (tT c1846) (rN 3 Z (G.weak ?_ (q1 g1 (Nat.lt_succ_of_le (lR _)) (Nat.le_of_succ_le b2) _ _ _ _ _ _ _ H (HS.pk 5 [1, 2, 3, 4] Z))))
            exact ⟨Z, Z, Z, Z, Z, Z, Z, Z, Z, Z, Z, Z, tv⟩
           refine nB Z (tF c1846) (rN 2 Z ?_)
           obtain ⟨t1847, h1848, H⟩ := bI H
           obtain ⟨t1851, h1852, H⟩ := bI H
           refine G.lexS mixed (fun w => St w0 w (Box b1839 107 [I e1837.Tet, I e1837.Perm] :: L)) [1, 5] [0, 2, 4, 6, 1, 5, 3, 7, 8, 9] [] (by kernel_rfl) (by kernel_rfl) (HS.drew.pk 5 [0] Z) ?_
           replace HS := HS.drew
           refine qL Z Z (fun _ _ g => fL b1839 1 fl107_1 Z g) Z (GX.ps 1 Z (qL Z Z (fun _ _ g => fL b1839 1 fl107_1 Z g) Z (GX.ps 1 Z (GX.ls Z Z Z (HS.pk 5 [0] Z) (fun _ HS _ g => lB 0 HS Z na2 Z g) Z (GX.ls Z Z Z (HS.pk 5 [0] Z) (fun _ HS _ g => lB 0 HS Z na2 Z g) Z (GX.l2 Z (fJ fok76 Z (spec_l06At.calls HS  h1848) (fun _ wd1849 ⟨h1850, HS⟩ => ⟨_, h1850, (GX.fin (HS.pk 5 [0] Z) (GX.l2 Z (fJ fok76 Z (spec_l06At.calls HS  h1852) (fun _ wd1853 ⟨h1854, HS⟩ => ⟨_, h1854, (GX.fin (HS.pk 5 [0] Z) (GX.ps 2 Z (GX.nil (sQ ?_))))⟩))))⟩))))))))
           obtain ⟨t1855, h1856, H⟩ := bI H
           refine G.lexS mixed (fun w => St w0 w (Box b1839 107 [I e1837.Tet, I e1837.Perm] :: L)) [1] [0, 3, 4, 1, 2, 5, 6, 7] [] (by kernel_rfl) (by kernel_rfl) (HS.drew.pk 5 [0] Z) ?_
           replace HS := HS.drew
           refine qL Z Z (fun _ _ g => fL b1839 0 fl107_0 Z g) Z (GX.ps 2 Z (GX.ls Z Z Z (HS.pk 5 [0] Z) (fun _ HS _ g => lB 0 HS Z na2 Z g) Z (GX.ps 1 Z (GX.l2 Z (fJ fok121 Z (spec_l08Edge.calls HS  h1856) (fun _ wd1857 ⟨h1858, HS⟩ => ⟨_, h1858, (GX.fin (HS.pk 5 [0] Z) (GX.ps 2 Z (GX.nil (sQ ?_))))⟩))))))
           obtain ⟨c1859, H⟩ := iN H
           obtain ⟨c1860, H⟩ := iN H
           refine rG (pS 3 Z (GO.ix Z Z Z U56 sz2 ((RdIn.own (j := 4) Z) _ HS).2.2.1 c1859.1 c1859.2 Z (GO.ldRd (T := (TInt .i64)) (n := x1532.toNat) (o := 0) HS (RdIn.own (j := 4) Z) Z Z (getD_some (d := 0) (ltN c1859)) Z Z na2 Z (GO.ix Z Z Z U56 sz2 (fun _ => ⟨_, _, Z⟩) c1860.1 c1860.2 Z (GO.ldRd (T := (TInt .i64)) (n := (x1778.getD x1532.toNat 0).toNat) (o := 0) HS (RdIn.own (j := 2) Z) Z Z (getD_some (d := 0) (ltN c1860)) Z Z na2 Z (aS Z (nL (rN 3 Z ?_))))))))
           refine G.nameT (fun s2 z2 => ?_)
           have e2 : ∀ x1, x1 ≤ g1 → ∀ (x1862 : Int) (w : World), spec_l08Signs.j79 K x1 d1 t3 a1 c1 x1530 x1532 t1719 t1720 f1 x1778 x1779 x1780 e1837 t1855 x1862 = some r1 → St w0 w (Box b1 31 [.slice A_a d1.length c_a] :: Own (TInt .i64) 2 (some ⟨b9, 0, none⟩) ((w64 (6 * t3)).toNat) (fun _ => ()) f1 :: Own TBool 4 (some ⟨b12, 0, none⟩) ((w64 (6 * t3)).toNat) (fun _ => ()) a1 :: Own (TInt .i64) 2 A1776 c1777 (fun _ => ()) x1778 :: L) → G prog 133 189 [(1, .pointer (some ⟨b1, 0, none⟩)), (3, I t3), (4, .slice (some ⟨b9, 0, none⟩) f1.length ((w64 (6 * t3)).toNat)), (5, .slice (some ⟨b12, 0, none⟩) a1.length ((w64 (6 * t3)).toNat)), (6, I c1), (7, .slice A1776 x1778.length c1777), (8, .bool x1779), (9, I x1532), (10, I (w64 ((x1530.getD x1532.toNat 0).tdiv 6))), (11, I t1719), (12, I t1720), (13, I x1780), (17, I (w64 ((w64 (6 * e1837.Tet)) + t1855))), (18, I x1862), (84, I x1780), (85, I t1719), (86, .bool (decide (x1780 = t1719))), (89, I x1780), (90, I t1720), (91, .bool (decide (x1780 = t1720)))] s2 w (spec_l08Signs.post w0 L r1) := by
            intro x1 o3 x1862 w H HS
            cases x1 with
            | zero => rw [spec_l08Signs.j79] at H; cases H
            | succ a2 =>
             rw [spec_l08Signs.j79] at H
             subst z2
             refine rN 2 Z ?_
             obtain ⟨c1863, H⟩ := iN H
             refine rG (pS 2 Z (GO.ix Z Z Z U56 sz2 (fun _ => ⟨_, _, Z⟩) c1863.1 c1863.2 Z (GO.ldRd (T := (TInt .i64)) (n := (w64 ((w64 (6 * e1837.Tet)) + t1855)).toNat) (o := 0) HS (RdIn.own (j := 1) Z) Z Z (getD_some (d := 0) (ltN c1863)) Z Z na2 Z (GO.eql Z Z Z Z (nL ?_)))))
             refine G.nameT (fun m2 t2 => ?_)
             have c2 : ∀ u1, u1 ≤ a2 → ∀ (y1 : List Int) (A1873 : Option Addr) (c1874 : Nat) (x1875 : List Int) (w : World), spec_l08Signs.j80 K u1 d1 t3 a1 c1 x1530 x1532 t1719 t1720 x1779 x1780 e1837 t1855 x1862 y1 x1875 = some r1 → St w0 w (Box b1 31 [.slice A_a d1.length c_a] :: Own (TInt .i64) 2 (some ⟨b9, 0, none⟩) ((w64 (6 * t3)).toNat) (fun _ => ()) y1 :: Own TBool 4 (some ⟨b12, 0, none⟩) ((w64 (6 * t3)).toNat) (fun _ => ()) a1 :: Own (TInt .i64) 2 A1873 c1874 (fun _ => ()) x1875 :: L) → G prog 133 189 [(1, .pointer (some ⟨b1, 0, none⟩)), (3, I t3), (4, .slice (some ⟨b9, 0, none⟩) y1.length ((w64 (6 * t3)).toNat)), (5, .slice (some ⟨b12, 0, none⟩) a1.length ((w64 (6 * t3)).toNat)), (6, I c1), (7, .slice A1873 x1875.length c1874), (8, .bool x1779), (9, I x1532), (10, I (w64 ((x1530.getD x1532.toNat 0).tdiv 6))), (11, I t1719), (12, I t1720), (13, I x1780), (17, I (w64 ((w64 (6 * e1837.Tet)) + t1855))), (18, I x1862), (84, I x1780), (85, I t1719), (86, .bool (decide (x1780 = t1719))), (89, I x1780), (90, I t1720), (91, .bool (decide (x1780 = t1720)))] m2 w (spec_l08Signs.post w0 L r1) := by
              intro u1 r3 y1 A1873 c1874 x1875 w H HS
              cases u1 with
              | zero => rw [spec_l08Signs.j80] at H; cases H
              | succ d2 =>
               rw [spec_l08Signs.j80] at H
               subst t2
               rcases iE H with ⟨c1876, H⟩ | ⟨c1876, H⟩
               ·
                refine rG (pS 2 Z (kN 134 Z c1876 (oF Z (oF Z (oF Z (oF Z (oF Z (oF Z (pS 2 Z (nL (rN 3 Z (G.weak ?_ (q1 d2 (by omega) (by omega) _ _ _ _ _ _ _ H HS)))))))))))))
                exact ⟨Z, Z, Z, Z, Z, Z, Z, Z, Z, Z, Z, Z, tv⟩
               obtain ⟨c1877, H⟩ := iN H
               refine rG (pS 2 Z (kN 134 Z (bnot_of c1876) (oN Z (mV Z (bK (oN Z (mV Z (bK (oN Z (GO.ix Z Z Z U56 sz2 (fun _ => ⟨_, _, Z⟩) c1877.1 c1877.2 Z (bK (oN Z (GO.ldRd (T := (TInt .i64)) (n := (w64 ((w64 (6 * e1837.Tet)) + t1855)).toNat) (o := 0) HS (RdIn.own (j := 1) Z) Z Z (getD_some (d := 0) (ltN c1877)) Z Z na2 Z (bK ?_))))))))))))))
               refine oN Z (mV Z (bK (oN Z (GO.neq Z Z Z Z (bK (pS 2 Z (nL (rN 3 Z (G.weak ?_ (q1 d2 (by omega) (by omega) _ _ _ _ _ _ _ H HS))))))))))
               exact ⟨Z, Z, Z, Z, Z, Z, Z, Z, Z, Z, Z, Z, tv⟩
             rcases iS H with ⟨c1878, H⟩ | ⟨c1878, H⟩
             ·
              refine nB Z (tF c1878) (G.skip (G.weak ?_ (c2 a2 (lR _) _ _ _ _ _ H HS)))
              exact ⟨Z, Z, Z, Z, Z, Z, Z, Z, Z, Z, Z, Z, Z, Z, Z, Z, Z, Z, Z, Z, tv⟩
             refine yB Z (tT c1878) (sQ (rG (pS 3 Z (GO.ix Z Z Z U56 sz2 (fun _ => ⟨_, _, Z⟩) c1863.1 c1863.2 Z (GO.stRow (T := (TInt .i64)) (j := 1) (n := (w64 ((w64 (6 * e1837.Tet)) + t1855)).toNat) (o := 0) (vs := [I x1862]) x1862 HS Z flat_flat Z Z Z Z (htN na2 Z) Z (getD_some (d := 0) (ltN c1863)) Z Z fun wd1879 HS => nL (G.len (t := 4) (m := (f1.set ((w64 ((w64 (6 * e1837.Tet)) + t1855)).toNat) x1862).length) Z (by simp only [List.length_set] <;> rfl) ?_))))))
             obtain ⟨c1885, H⟩ := iN H
             refine rG (pS 2 Z (GO.buildS (el := 2) ([I (w64 ((w64 (6 * e1837.Tet)) + t1855))]) HS Z Z (fun _ => by kernel_rfl) Z fun b1880 wd1881 HS => GO.app1 (T := (TInt .i64)) (j := 4) (jb := 0) (w64 ((w64 (6 * e1837.Tet)) + t1855)) HS Z Z flat_flat Z Z Z U56 inf2 Z Z Z c1885 Z fun A1883 c1884 wd1882 HS => aS Z (nL (G.weak ?_ (c2 a2 (lR _) _ _ _ _ _ H (HS.pk 5 [1, 2, 3, 4] Z))))))
             exact ⟨Z, Z, Z, Z, Z, Z, Z, Z, Z, Z, Z, Z, Z, Z, Z, Z, Z, Z, Z, Z, tv⟩
           rcases iS H with ⟨c1886, H⟩ | ⟨c1886, H⟩
           ·
            refine nB Z (tF c1886) (G.skip (G.weak ?_ (e2 g1 (lR _) _ _ H (HS.pk 5 [1, 2, 3, 4] Z))))
            exact ⟨Z, Z, Z, Z, Z, Z, Z, Z, Z, Z, Z, Z, Z, Z, Z, Z, Z, Z, Z, Z, tv⟩
           refine yB Z (tT c1886) (rG (mV Z (GO.neg Z Z Z (aS Z (nL (G.weak ?_ (e2 g1 (lR _) _ _ H (HS.pk 5 [1, 2, 3, 4] Z))))))))
           exact ⟨Z, Z, Z, Z, Z, Z, Z, Z, Z, Z, Z, Z, Z, Z, Z, Z, Z, Z, Z, Z, tv⟩
        refine G.weak ?_ (y2 v1 (lR _) _ _ _ _ _ _ _ H HS)
        exact ⟨Z, Z, Z, Z, Z, Z, Z, Z, Z, Z, Z, Z, tv⟩
     refine G.weak ?_ (h3 s1 (lR _) _ _ _ _ _ _ _ H (HS.pk 4 [1, 2, 3, 0] Z))
     exact ⟨Z, Z, Z, Z, Z, Z, Z, Z, tv⟩
  refine G.weak ?_ (m3 K (lR _) _ _ _ _ H (HS.pk 3 [2, 1, 0] Z))
  exact ⟨Z, Z, Z, Z, Z, tv⟩
theorem spec_l11Has.calls {list : List Int} {n_ : Int} {r1 : Bool} (HS : St w0 w (L)) (r_a : RdIn w0 L (TInt .i64) A_a c_a (fun _ => ()) list) (H : spec_l11Has.f K list n_ = some r1) :
    Calls prog 80 #[.slice A_a list.length c_a, I n_] w (spec_l11Has.post w0 L r1) := by
  unfold spec_l11Has.f at H
  refine cG func80 Z ?_
  refine rN 7 Z ?_
  refine G.name (fun f1 g1 => ?_)
  have d1 : ∀ a1, a1 ≤ K → ∀ (i_4 : Int) (w : World), spec_l11Has.l1 K a1 list n_ i_4 = some r1 → St w0 w (L) → G prog 80 18 [(0, .slice A_a list.length c_a), (1, I n_), (5, I i_4)] f1 w (spec_l11Has.post w0 L r1) := by
   intro a1
   induction a1 using Nat.strongRecOn with
   | _ a1 b1 =>
    intro e1 i_4 w H HS
    cases a1 with
    | zero => rw [spec_l11Has.l1] at H; cases H
    | succ c1 =>
     rw [spec_l11Has.l1] at H
     subst g1
     refine rN 2 Z (rG (pS 2 Z (lS Z Z U56 Z (GO.lss Z Z Z Z (nL ?_)))))
     rcases iS H with ⟨c8, H⟩ | ⟨c8, H⟩
     ·
      refine nB Z (tF c8) (rN 3 Z ?_)
      obtain rfl := sI H
      exact rT _ func80 Z Z ⟨Z, HS⟩
     refine yB Z (tT c8) (rN 4 Z ?_)
     obtain ⟨c9, H⟩ := iN H
     refine rG (pS 2 Z (GO.ix Z Z Z U56 sz2 (r_a _ HS).2.2.1 c9.1 c9.2 Z (GO.ldRd (T := (TInt .i64)) (n := i_4.toNat) (o := 0) HS r_a Z Z (getD_some (d := 0) (ltN c9)) Z Z na2 Z (pS 2 Z (nL ?_)))))
     rcases iE H with ⟨c10, H⟩ | ⟨c10, H⟩
     ·
      refine yB Z (tT c10) (rN 2 Z ?_)
      obtain rfl := sI H
      exact rT _ func80 Z Z ⟨Z, HS⟩
     refine nB Z (tF c10) (rN 4 Z (G.weak ?_ (b1 c1 (Nat.lt_succ_of_le (lR _)) (Nat.le_of_succ_le e1) _ _ H HS)))
     exact ⟨Z, Z, Z, tv⟩
  refine G.weak ?_ (d1 K (lR _) _ _ H HS)
  exact ⟨Z, Z, Z, tv⟩
theorem spec_l08First.calls {g1 : List (List GFace)} {e1 : Int} {y_a : Nat → (Ty.slice 107 T_GFace).Lay} {r1 r2 : Int} (HS : St w0 w (L)) (r_a : RdIn w0 L (Ty.slice 107 T_GFace) A_a c_a y_a g1) (H : spec_l08First.f K g1 e1 = some (r1, r2)) :
    Calls prog 166 #[.agg [.slice A_a g1.length c_a].toArray, I e1] w (spec_l08First.post w0 L r1 r2) := by
  unfold spec_l08First.f at H
  refine cG func166 Z ?_
  refine sQ (rG (bA HS Z fun b1 wd2 HS => pS 2 Z (nL (sQ ?_))))
  obtain ⟨t3, t4, t5, t6, h7, H⟩ := bind4_elim H
  refine rG (lW 0 HS Z ag31 (fJ fok78 Z (spec_l08Count.calls HS (rD 1 r_a) h7) (fun _ wd19 ⟨A8, c9, y10, A11, c12, y13, A14, c15, y16, A17, c18, h20, HS⟩ => ⟨_, h20, (pS 3 Z (GO.alloc HS Z zr111 Z Z fun b21 wd22 HS => sW 0 HS Z ag111 Z fun wd23 HS => aS Z (nL (rN 5 Z ?_))))⟩)))
  refine G.name (fun t1 u1 => ?_)
  have s1 : ∀ d1, d1 ≤ K → ∀ (a1 : Int) (w : World), spec_l08First.l1 K d1 e1 t4 a1 = some (r1, r2) → St w0 w (Box b21 111 [.slice A8 t3.length c9, .slice A11 t4.length c12, .slice A14 t5.length c15] :: Own (Ty.slice 2 (TInt .i64)) 56 A8 c9 y10 t3 :: Own (Ty.slice 2 (TInt .i64)) 56 A11 c12 y13 t4 :: Own (Ty.slice 2 (TInt .i64)) 56 A14 c15 y16 t5 :: L) → G prog 166 38 [(1, I e1), (6, .pointer (some ⟨b21, 0, none⟩)), (8, I a1)] t1 w (spec_l08First.post w0 L r1 r2) := by
   intro d1
   induction d1 using Nat.strongRecOn with
   | _ d1 n1 =>
    intro v1 a1 w H HS
    cases d1 with
    | zero => rw [spec_l08First.l1] at H; cases H
    | succ h1 =>
     rw [spec_l08First.l1] at H
     subst u1
     refine rN 2 Z (rG (mV Z (fL b21 1 fl111_1 Z (lB 0 HS Z na109 Z (lS Z Z U109 Z (GO.lss Z Z Z Z (nL ?_)))))))
     rcases iS H with ⟨c51, H⟩ | ⟨c51, H⟩
     ·
      refine nB Z (tF c51) (rN 3 Z ?_)
      obtain ⟨rfl, rfl⟩ := some2 H
      exact G.ret2 _ _ func166 Z Z Z ⟨Z, (HS.pk 4 [] Z)⟩
     refine yB Z (tT c51) (rN 7 Z ?_)
     refine G.name (fun k1 m1 => ?_)
     have q1 : ∀ c1, c1 ≤ h1 → ∀ (f1 : Int) (w : World), spec_l08First.l4 K c1 e1 t4 a1 f1 = some (r1, r2) → St w0 w (Box b21 111 [.slice A8 t3.length c9, .slice A11 t4.length c12, .slice A14 t5.length c15] :: Own (Ty.slice 2 (TInt .i64)) 56 A8 c9 y10 t3 :: Own (Ty.slice 2 (TInt .i64)) 56 A11 c12 y13 t4 :: Own (Ty.slice 2 (TInt .i64)) 56 A14 c15 y16 t5 :: L) → G prog 166 38 [(1, I e1), (6, .pointer (some ⟨b21, 0, none⟩)), (8, I a1), (9, I f1)] k1 w (spec_l08First.post w0 L r1 r2) := by
      intro c1
      induction c1 using Nat.strongRecOn with
      | _ c1 o1 =>
       intro p1 f1 w H HS
       cases c1 with
       | zero => rw [spec_l08First.l4] at H; cases H
       | succ i1 =>
        rw [spec_l08First.l4] at H
        subst m1
        refine rN 3 Z ?_
        rcases iS H with ⟨c60, H⟩ | ⟨c60, H⟩
        ·
         refine nB Z (tF c60) (rN 4 Z (G.weak ?_ (n1 i1 (by omega) (by omega) _ _ H HS)))
         exact ⟨Z, Z, Z, tv⟩
        refine yB Z (tT c60) (rN 4 Z ?_)
        obtain ⟨c61, H⟩ := iN H
        obtain ⟨c62, H⟩ := iN H
        refine rG (fL b21 1 fl111_1 Z (lB 0 HS Z na109 Z (mV Z (GO.ix Z Z Z U109 sz56 ((RdIn.own (j := 2) Z) _ HS).2.2.1 c61.1 c61.2 Z (GO.ldRd (T := (Ty.slice 2 (TInt .i64))) (n := a1.toNat) (o := 0) HS (RdIn.own (j := 2) Z) Z Z (getD_some (d := []) (ltN c61)) Z Z na56 Z (mV Z (GO.ix Z Z Z U56 sz2 ((RdIn.elem (RdIn.own (j := 2) Z) c61.1 c61.2) _ HS).2.2.1 c62.1 c62.2 Z (GO.ldRd (T := (TInt .i64)) (n := f1.toNat) (o := 0) HS (RdIn.elem (RdIn.own (j := 2) Z) c61.1 c61.2) Z Z (getD_some (d := 0) (ltN c62)) Z Z na2 Z (pS 2 Z (nL ?_))))))))))
        rcases iE H with ⟨c63, H⟩ | ⟨c63, H⟩
        ·
         refine yB Z (tT c63) (rN 2 Z ?_)
         obtain ⟨rfl, rfl⟩ := some2 H
         exact G.ret2 _ _ func166 Z Z Z ⟨Z, (HS.pk 4 [] Z)⟩
        refine nB Z (tF c63) (rN 4 Z (G.weak ?_ (o1 i1 (Nat.lt_succ_of_le (lR _)) (Nat.le_of_succ_le p1) _ _ H HS)))
        exact ⟨Z, Z, Z, Z, tv⟩
     refine G.weak ?_ (q1 h1 (lR _) _ _ H HS)
     exact ⟨Z, Z, Z, Z, tv⟩
  refine G.weak ?_ (s1 K (lR _) _ _ H (HS.pk 6 [0, 1, 2, 3] Z))
  exact ⟨Z, Z, Z, tv⟩
theorem spec_ExtendPerm4.calls {b1 to : List Int} {r1 : Int} {r2 : Bool} (HS : St w0 w (L)) (r_a : RdIn w0 L (TInt .i64) A_a c_a (fun _ => ()) b1) (r_b : RdIn w0 L (TInt .i64) A_b c_b (fun _ => ()) to) (H : spec_ExtendPerm4.f K b1 to = some (r1, r2)) :
    Calls prog 167 #[.slice A_a b1.length c_a, .slice A_b to.length c_b] w (spec_ExtendPerm4.post w0 L r1 r2) := by
  unfold spec_ExtendPerm4.f at H
  refine cG func167 Z ?_
  refine rN 4 Z (rG (mV Z (lS Z Z U56 Z (mV Z (lS Z Z U56 Z (GO.neq Z Z Z Z (nL ?_)))))))
  rcases iS H with ⟨c1, H⟩ | ⟨c1, H⟩
  ·
   refine yB Z (nF c1) (rN 2 Z ?_)
   obtain ⟨rfl, rfl⟩ := some2 H
   exact G.ret2 _ _ func167 Z Z Z ⟨Z, HS⟩
  refine nB Z (nT c1) (rN 6 Z ?_)
  refine G.name (fun t1 b2 => ?_)
  have d2 : ∀ f1, f1 ≤ K → ∀ (a1 : Int) (w : World), spec_ExtendPerm4.l1 K f1 b1 to a1 = some (r1, r2) → St w0 w (L) → G prog 167 73 [(0, .slice A_a b1.length c_a), (1, .slice A_b to.length c_b), (6, I a1)] t1 w (spec_ExtendPerm4.post w0 L r1 r2) := by
   intro f1
   induction f1 using Nat.strongRecOn with
   | _ f1 x1 =>
    intro z1 a1 w H HS
    cases f1 with
    | zero => rw [spec_ExtendPerm4.l1] at H; cases H
    | succ k1 =>
     rw [spec_ExtendPerm4.l1] at H
     subst b2
     refine rN 2 Z (rG (pS 2 Z (lS Z Z U56 Z (GO.lss Z Z Z Z (nL ?_)))))
     rcases iS H with ⟨c111, H⟩ | ⟨c111, H⟩
     ·
      refine nB Z (tF c111) (rN 6 Z ?_)
      refine G.name (fun y1 s1 => ?_)
      have q1 : ∀ e1, e1 ≤ k1 → ∀ (h1 : Int) (w : World), spec_ExtendPerm4.l9 K e1 b1 to h1 = some (r1, r2) → St w0 w (L) → G prog 167 73 [(0, .slice A_a b1.length c_a), (1, .slice A_b to.length c_b), (7, I h1)] y1 w (spec_ExtendPerm4.post w0 L r1 r2) := by
       intro e1
       induction e1 using Nat.strongRecOn with
       | _ e1 u1 =>
        intro e2 h1 w H HS
        cases e1 with
        | zero => rw [spec_ExtendPerm4.l9] at H; cases H
        | succ o1 =>
         rw [spec_ExtendPerm4.l9] at H
         subst s1
         refine rN 3 Z ?_
         rcases iS H with ⟨c179, H⟩ | ⟨c179, H⟩
         ·
          refine nB Z (tF c179) (rN 3 Z ?_)
          obtain ⟨rfl, rfl⟩ := some2 H
          exact G.ret2 _ _ func167 Z Z Z ⟨Z, HS⟩
         refine yB Z (tT c179) (rN 10 Z ?_)
         refine G.name (fun v1 a2 => ?_)
         have c2 : ∀ d1, d1 ≤ o1 → ∀ (m1 : Bool) (g1 : Int) (w : World), spec_ExtendPerm4.l12 K d1 b1 to h1 m1 g1 = some (r1, r2) → St w0 w (L) → G prog 167 73 [(0, .slice A_a b1.length c_a), (1, .slice A_b to.length c_b), (7, I h1), (8, .bool m1), (9, I g1)] v1 w (spec_ExtendPerm4.post w0 L r1 r2) := by
          intro d1
          induction d1 using Nat.strongRecOn with
          | _ d1 n1 =>
           intro p1 m1 g1 w H HS
           cases d1 with
           | zero => rw [spec_ExtendPerm4.l12] at H; cases H
           | succ i1 =>
            rw [spec_ExtendPerm4.l12] at H
            subst a2
            refine rN 2 Z (rG (pS 2 Z (lS Z Z U56 Z (GO.lss Z Z Z Z (nL ?_)))))
            rcases iS H with ⟨c198, H⟩ | ⟨c198, H⟩
            ·
             refine nB Z (tF c198) (rN 3 Z ?_)
             rcases iE H with ⟨c206, H⟩ | ⟨c206, H⟩
             ·
              refine yB Z c206 (rN 2 Z ?_)
              obtain ⟨rfl, rfl⟩ := some2 H
              exact G.ret2 _ _ func167 Z Z Z ⟨Z, HS⟩
             refine nB Z (bnot_of c206) (rN 4 Z (G.weak ?_ (u1 i1 (by omega) (by omega) _ _ H HS)))
             exact ⟨Z, Z, Z, tv⟩
            refine yB Z (tT c198) (rN 3 Z ?_)
            rcases iS H with ⟨c199, H⟩ | ⟨c199, H⟩
            ·
             refine G.lexS mixed (fun w => St w0 w (L)) [6, 11] [0, 1, 2, 3, 4, 5, 8, 9, 10, 6, 11, 7, 12, 13, 14] [] (by kernel_rfl) (by kernel_rfl) HS.drew ?_
             replace HS := HS.drew
             refine GX.ps 1 Z (qL Z Z (fun _ _ g => mV Z (kN 58 Z (bnot_of c199) g)) Z (qL Z Z (fun _ _ g => oF Z g) Z (qL Z Z (fun _ _ g => oF Z g) Z (qL Z Z (fun _ _ g => oF Z g) Z (qL Z Z (fun _ _ g => oF Z g) Z (qL Z Z (fun _ _ g => oF Z g) Z (qL Z Z (fun _ _ g => oF Z g) Z (qL Z Z (fun _ _ g => oF Z g) Z (GX.ls Z Z Z HS (fun _ HS _ g => oF Z g) Z (GX.ls Z Z Z HS (fun _ HS _ g => oF Z g) Z (GX.l2 Z (oF Z (GX.fin HS (qL Z Z (fun _ _ g => oF Z g) Z ?_))))))))))))))
             refine GX.ps 2 Z (GX.nil (rN 3 Z (G.weak ?_ (n1 i1 (Nat.lt_succ_of_le (lR _)) (Nat.le_of_succ_le p1) _ _ _ H HS))))
             exact ⟨Z, Z, Z, Z, Z, tv⟩
            obtain ⟨c200, H⟩ := iN H
            obtain ⟨t201, h202, H⟩ := bI H
            obtain ⟨c205, H⟩ := iN H
            refine G.lexS mixed (fun w => St w0 w (L)) [6, 11] [0, 1, 2, 3, 4, 5, 8, 9, 10, 6, 11, 7, 12, 13, 14] [] (by kernel_rfl) (by kernel_rfl) HS.drew ?_
            replace HS := HS.drew
            refine GX.ps 1 Z (qL Z Z (fun _ _ g => mV Z (kN 58 Z c199 g)) Z (qL Z Z (fun _ _ g => oN Z (mV Z (bK g))) Z (qL Z Z (fun _ _ g => oN Z (mV Z (bK g))) Z (qL Z Z (fun _ _ g => oN Z (mV Z (bK g))) Z (qL Z Z (fun _ _ g => oN Z (GO.ix Z Z Z U56 sz2 (r_a _ HS).2.2.1 c200.1 c200.2 Z (bK g))) Z (qL Z Z (fun _ _ g => oN Z (mV Z (bK g))) Z (qL Z Z (fun _ _ g => oN Z (mV Z (bK g))) Z (qL Z Z (fun _ _ g => oN Z (GO.ix Z Z Z U56 sz2 (r_b _ HS).2.2.1 c205.1 c205.2 Z (bK g))) Z (GX.ls Z Z Z HS (fun _ HS _ g => oN Z (GO.ldRd (T := (TInt .i64)) (n := g1.toNat) (o := 0) HS r_a Z Z (getD_some (d := 0) (ltN c200)) Z Z na2 Z (bK g))) Z (GX.ls Z Z Z HS (fun _ HS _ g => oN Z (GO.ldRd (T := (TInt .i64)) (n := g1.toNat) (o := 0) HS r_b Z Z (getD_some (d := 0) (ltN c205)) Z Z na2 Z (bK g))) Z (GX.l2 Z (oN Z (fJ fok76 Z (spec_l06At.calls HS  h202) (fun _ wd203 ⟨h204, HS⟩ => ⟨_, h204, (bK ?_)⟩))))))))))))))
            refine GX.fin HS (qL Z Z (fun _ _ g => oN Z (GO.eql Z Z Z Z (bK g))) Z (GX.ps 2 Z (GX.nil (rN 3 Z (G.weak ?_ (n1 i1 (Nat.lt_succ_of_le (lR _)) (Nat.le_of_succ_le p1) _ _ _ H HS))))))
            exact ⟨Z, Z, Z, Z, Z, tv⟩
         refine G.weak ?_ (c2 o1 (lR _) _ _ _ H HS)
         exact ⟨Z, Z, Z, Z, Z, tv⟩
      refine G.weak ?_ (q1 k1 (lR _) _ _ H HS)
      exact ⟨Z, Z, Z, tv⟩
     refine yB Z (tT c111) (rN 4 Z ?_)
     obtain ⟨c117, H⟩ := iN H
     rcases iE H with ⟨c118, H⟩ | ⟨c118, H⟩
     ·
      refine rG (pS 2 Z (GO.ix Z Z Z U56 sz2 (r_a _ HS).2.2.1 c117.1 c117.2 Z (GO.ldRd (T := (TInt .i64)) (n := a1.toNat) (o := 0) HS r_a Z Z (getD_some (d := 0) (ltN c117)) Z Z na2 Z (pS 2 Z (kN 26 Z (tT c118) (oF Z (oF Z (oF Z (oF Z (oF Z (pS 2 Z (oF Z (oF Z (oF Z ?_))))))))))))))
      refine oF Z (oF Z (pS 2 Z (oF Z (oF Z (oF Z (oF Z (oF Z (GO.pickT Z Z Z Z Z (nL (rN 3 Z ?_))))))))))
      obtain ⟨rfl, rfl⟩ := some2 H
      exact G.ret2 _ _ func167 Z Z Z ⟨Z, HS⟩
     rcases iE H with ⟨c119, H⟩ | ⟨c119, H⟩
     ·
      refine rG (pS 2 Z (GO.ix Z Z Z U56 sz2 (r_a _ HS).2.2.1 c117.1 c117.2 Z (GO.ldRd (T := (TInt .i64)) (n := a1.toNat) (o := 0) HS r_a Z Z (getD_some (d := 0) (ltN c117)) Z Z na2 Z (pS 2 Z (kN 26 Z (tF c118) (oN Z (mV Z (bK (oN Z (mV Z (bK (oN Z (GO.ix Z Z Z U56 sz2 (r_a _ HS).2.2.1 c117.1 c117.2 Z (bK ?_))))))))))))))
      refine oN Z (GO.ldRd (T := (TInt .i64)) (n := a1.toNat) (o := 0) HS r_a Z Z (getD_some (d := 0) (ltN c117)) Z Z na2 Z (bK (oN Z (GO.gtr Z Z Z Z (bK (pS 2 Z (kN 33 Z (tT c119) (oF Z (oF Z (oF Z (oF Z (oF Z (pS 2 Z (oF Z ?_))))))))))))))
      refine oF Z (oF Z (oF Z (oF Z (GO.pickT Z Z Z Z Z (nL (rN 3 Z ?_))))))
      obtain ⟨rfl, rfl⟩ := some2 H
      exact G.ret2 _ _ func167 Z Z Z ⟨Z, HS⟩
     obtain ⟨c120, H⟩ := iN H
     rcases iE H with ⟨c121, H⟩ | ⟨c121, H⟩
     ·
      refine rG (pS 2 Z (GO.ix Z Z Z U56 sz2 (r_a _ HS).2.2.1 c117.1 c117.2 Z (GO.ldRd (T := (TInt .i64)) (n := a1.toNat) (o := 0) HS r_a Z Z (getD_some (d := 0) (ltN c117)) Z Z na2 Z (pS 2 Z (kN 26 Z (tF c118) (oN Z (mV Z (bK (oN Z (mV Z (bK (oN Z (GO.ix Z Z Z U56 sz2 (r_a _ HS).2.2.1 c117.1 c117.2 Z (bK ?_))))))))))))))
      refine oN Z (GO.ldRd (T := (TInt .i64)) (n := a1.toNat) (o := 0) HS r_a Z Z (getD_some (d := 0) (ltN c117)) Z Z na2 Z (bK (oN Z (GO.gtr Z Z Z Z (bK (pS 2 Z (kN 33 Z (tF c119) (oN Z (mV Z (bK (oN Z (mV Z (bK (oN Z ?_))))))))))))))
      refine GO.ix Z Z Z U56 sz2 (r_b _ HS).2.2.1 c120.1 c120.2 Z (bK (oN Z (GO.ldRd (T := (TInt .i64)) (n := a1.toNat) (o := 0) HS r_b Z Z (getD_some (d := 0) (ltN c120)) Z Z na2 Z (bK (oN Z (GO.lss Z Z Z Z (bK (pS 2 Z (kN 40 Z (tT c121) (oF Z (oF Z (oF Z (oF Z (oF Z ?_))))))))))))))
      refine GO.pickT Z Z Z Z Z (nL (rN 3 Z ?_))
      obtain ⟨rfl, rfl⟩ := some2 H
      exact G.ret2 _ _ func167 Z Z Z ⟨Z, HS⟩
     refine rG (pS 2 Z (GO.ix Z Z Z U56 sz2 (r_a _ HS).2.2.1 c117.1 c117.2 Z (GO.ldRd (T := (TInt .i64)) (n := a1.toNat) (o := 0) HS r_a Z Z (getD_some (d := 0) (ltN c117)) Z Z na2 Z (pS 2 Z (kN 26 Z (tF c118) (oN Z (mV Z (bK (oN Z (mV Z (bK (oN Z (GO.ix Z Z Z U56 sz2 (r_a _ HS).2.2.1 c117.1 c117.2 Z (bK ?_))))))))))))))
     refine oN Z (GO.ldRd (T := (TInt .i64)) (n := a1.toNat) (o := 0) HS r_a Z Z (getD_some (d := 0) (ltN c117)) Z Z na2 Z (bK (oN Z (GO.gtr Z Z Z Z (bK (pS 2 Z (kN 33 Z (tF c119) (oN Z (mV Z (bK (oN Z (mV Z (bK (oN Z ?_))))))))))))))
     refine GO.ix Z Z Z U56 sz2 (r_b _ HS).2.2.1 c120.1 c120.2 Z (bK (oN Z (GO.ldRd (T := (TInt .i64)) (n := a1.toNat) (o := 0) HS r_b Z Z (getD_some (d := 0) (ltN c120)) Z Z na2 Z (bK (oN Z (GO.lss Z Z Z Z (bK (pS 2 Z (kN 40 Z (tF c121) (oN Z (mV Z (bK (oN Z (mV Z ?_))))))))))))))
     refine bK (oN Z (GO.ix Z Z Z U56 sz2 (r_b _ HS).2.2.1 c120.1 c120.2 Z (bK (oN Z (GO.ldRd (T := (TInt .i64)) (n := a1.toNat) (o := 0) HS r_b Z Z (getD_some (d := 0) (ltN c120)) Z Z na2 Z (bK (oN Z (GO.gtr Z Z Z Z (bK (GO.pickF Z Z Z Z Z (nL ?_)))))))))))
     rcases iE H with ⟨c122, H⟩ | ⟨c122, H⟩
     ·
      refine yB Z (tT c122) (rN 2 Z ?_)
      obtain ⟨rfl, rfl⟩ := some2 H
      exact G.ret2 _ _ func167 Z Z Z ⟨Z, HS⟩
     refine nB Z (tF c122) (rN 4 Z (G.weak ?_ (x1 k1 (Nat.lt_succ_of_le (lR _)) (Nat.le_of_succ_le z1) _ _ H HS)))
     exact ⟨Z, Z, Z, tv⟩
  refine G.weak ?_ (d2 K (lR _) _ _ H HS)
  exact ⟨Z, Z, Z, tv⟩
theorem spec_l08Start.calls {c1 : List (List GFace)} {f1 : Int} {y_a : Nat → (Ty.slice 107 T_GFace).Lay} {r1 r2 : Int} (HS : St w0 w (L)) (r_a : RdIn w0 L (Ty.slice 107 T_GFace) A_a c_a y_a c1) (H : spec_l08Start.f K c1 f1 = some (r1, r2)) :
    Calls prog 156 #[.agg [.slice A_a c1.length c_a].toArray, I f1] w (spec_l08Start.post w0 L r1 r2) := by
  unfold spec_l08Start.f at H
  refine cG func156 Z ?_
  refine sQ (rG (bA HS Z fun b1 wd2 HS => GO.alloc HS Z zr167 Z Z fun b3 wd4 HS => nL (sQ ?_)))
  obtain ⟨t5, t6, t7, t8, h9, H⟩ := bind4_elim H
  refine rG (lW 1 HS Z ag31 (fJ fok78 Z (spec_l08Count.calls HS (rD 2 r_a) h9) (fun _ wd21 ⟨A10, c11, y12, A13, c14, y15, A16, c17, y18, A19, c20, h22, HS⟩ => ⟨_, h22, (pS 3 Z (GO.alloc HS Z zr111 Z Z fun b23 wd24 HS => sW 0 HS Z ag111 Z fun wd25 HS => aS Z (nL (rN 5 Z ?_))))⟩)))
  refine G.name (fun t1 u1 => ?_)
  have s1 : ∀ e1, e1 ≤ K → ∀ (a1 : Int) (w : World), spec_l08Start.l1 K e1 c1 f1 t6 a1 = some (r1, r2) → St w0 w (Box b1 31 [.slice A_a c1.length c_a] :: Box b3 167 [I 0, I 0] :: Box b23 111 [.slice A10 t5.length c11, .slice A13 t6.length c14, .slice A16 t7.length c17] :: Own (Ty.slice 2 (TInt .i64)) 56 A10 c11 y12 t5 :: Own (Ty.slice 2 (TInt .i64)) 56 A13 c14 y15 t6 :: Own (Ty.slice 2 (TInt .i64)) 56 A16 c17 y18 t7 :: L) → G prog 156 84 [(1, I f1), (2, .pointer (some ⟨b1, 0, none⟩)), (4, .pointer (some ⟨b3, 0, none⟩)), (5, .pointer (some ⟨b23, 0, none⟩)), (7, I a1)] t1 w (spec_l08Start.post w0 L r1 r2) := by
   intro e1
   induction e1 using Nat.strongRecOn with
   | _ e1 p1 =>
    intro v1 a1 w H HS
    cases e1 with
    | zero => rw [spec_l08Start.l1] at H; cases H
    | succ i1 =>
     rw [spec_l08Start.l1] at H
     subst u1
     refine rN 2 Z ?_
     obtain ⟨t305, h306, H⟩ := bI H
     refine rG (mV Z (lW 0 HS Z ag31 (fJ fok64 Z (spec_l07Tets.calls HS (rD 6 r_a) h306) (fun _ wd307 ⟨h308, HS⟩ => ⟨_, h308, (GO.lss Z Z Z Z (nL ?_))⟩))))
     rcases iS H with ⟨c309, H⟩ | ⟨c309, H⟩
     ·
      refine nB Z (tF c309) (rN 2 Z ?_)
      obtain ⟨t424, t425, h426, H⟩ := bind2_elim H
      refine rG (lW 0 HS Z ag31 (mV Z (fJ fok166 Z (spec_l08First.calls HS (rD 6 r_a) h426) (fun _ wd427 ⟨h428, HS⟩ => ⟨_, h428, (pS 5 Z (nL (sQ ?_)))⟩))))
      obtain ⟨t429, t430, h431, H⟩ := bind2_elim H
      refine rG (mV Z (fJ fok120 Z (spec_l08Ends.calls HS  h431) (fun _ wd432 ⟨h433, HS⟩ => ⟨_, h433, (pS 5 Z (nL (sQ ?_)))⟩)))
      obtain ⟨t438, t439, h440, H⟩ := bind2_elim H
      refine rG (GO.buildS (el := 2) ([I 0, I 1]) HS Z Z (fun _ => by kernel_rfl) Z fun b434 wd435 HS => pS 2 Z (GO.buildS (el := 2) ([I t429, I t430]) HS Z Z (fun _ => by kernel_rfl) Z fun b436 wd437 HS => ?_))
      replace HS := HS.boxRow (T := (TInt .i64)) (j := 1) Z flat_flat (fun _ => ()) ([0, 1] : List Int) Z (bndL Z)
      refine GO.lenC (t := 74) (m := ([0, 1] : List Int).length) (c' := ([0, 1] : List Int).length) Z Z Z ?_
      replace HS := HS.boxRow (T := (TInt .i64)) (j := 0) Z flat_flat (fun _ => ()) ([t429, t430] : List Int) Z (bndL Z)
      refine GO.lenC (t := 77) (m := ([t429, t430] : List Int).length) (c' := ([t429, t430] : List Int).length) Z Z Z (fJ fok167 Z (spec_ExtendPerm4.calls HS (RdIn.own (j := 1) Z) (RdIn.own (j := 0) Z) h440) (fun _ wd441 ⟨h442, HS⟩ => ⟨_, h442, (pS 5 Z (nL (sQ (rG (pS 2 Z (GO.buildV (.agg [I t424, I t438].toArray) Z Z (fun _ => by kernel_rfl) Z (sW 3 HS Z ag167 Z fun wd443 HS => nL ?_)))))))⟩))
      obtain ⟨rfl, rfl⟩ := some2 H
      exact rT _ func156 Z (Res1.boxA (j := 3) (vs := [I t424, I t438]) HS Z Z Z ag167) ⟨Z, (HS.pk 8 [] Z)⟩
     refine yB Z (tT c309) (rN 7 Z ?_)
     refine G.name (fun n1 o1 => ?_)
     have q1 : ∀ d1, d1 ≤ i1 → ∀ (g1 : Int) (w : World), spec_l08Start.l4 K d1 c1 f1 t6 a1 g1 = some (r1, r2) → St w0 w (Box b1 31 [.slice A_a c1.length c_a] :: Box b3 167 [I 0, I 0] :: Box b23 111 [.slice A10 t5.length c11, .slice A13 t6.length c14, .slice A16 t7.length c17] :: Own (Ty.slice 2 (TInt .i64)) 56 A10 c11 y12 t5 :: Own (Ty.slice 2 (TInt .i64)) 56 A13 c14 y15 t6 :: Own (Ty.slice 2 (TInt .i64)) 56 A16 c17 y18 t7 :: L) → G prog 156 84 [(1, I f1), (2, .pointer (some ⟨b1, 0, none⟩)), (4, .pointer (some ⟨b3, 0, none⟩)), (5, .pointer (some ⟨b23, 0, none⟩)), (7, I a1), (8, I g1)] n1 w (spec_l08Start.post w0 L r1 r2) := by
      intro d1
      induction d1 using Nat.strongRecOn with
      | _ d1 m1 =>
       intro k1 g1 w H HS
       cases d1 with
       | zero => rw [spec_l08Start.l4] at H; cases H
       | succ h1 =>
        rw [spec_l08Start.l4] at H
        subst o1
        refine rN 3 Z ?_
        rcases iS H with ⟨c386, H⟩ | ⟨c386, H⟩
        ·
         refine nB Z (tF c386) (rN 4 Z (G.weak ?_ (p1 h1 (by omega) (by omega) _ _ H HS)))
         exact ⟨Z, Z, Z, Z, Z, tv⟩
        refine yB Z (tT c386) (rN 4 Z ?_)
        obtain ⟨t387, h388, H⟩ := bI H
        obtain ⟨t391, h392, H⟩ := bI H
        obtain ⟨t395, h396, H⟩ := bI H
        refine rG (mV Z (fJ fok76 Z (spec_l06At.calls HS  h388) (fun _ wd389 ⟨h390, HS⟩ => ⟨_, h390, (mV Z (fJ fok76 Z (spec_l06At.calls HS  h392) (fun _ wd393 ⟨h394, HS⟩ => ⟨_, h394, (fJ fok121 Z (spec_l08Edge.calls HS  h396) (fun _ wd397 ⟨h398, HS⟩ => ⟨_, h398, (aS Z (nL (sQ ?_)))⟩))⟩)))⟩)))
        obtain ⟨c410, H⟩ := iN H
        have h411 := ((RdIn.own (j := 4) Z) _ HS).2.2.1
        obtain ⟨c412, H⟩ := iN H
        rcases iS H with ⟨c413, H⟩ | ⟨c413, H⟩
        ·
         refine G.lexS mixed (fun w => St w0 w (Box b23 111 [.slice A10 t5.length c11, .slice A13 t6.length c14, .slice A16 t7.length c17] :: Own (Ty.slice 2 (TInt .i64)) 56 A13 c14 y15 t6 :: L)) [1, 4, 7, 12, 15, 20] [0, 2, 5, 8, 1, 3, 4, 6, 7, 9, 10, 11, 13, 16, 12, 14, 15, 17, 18, 19, 20, 21, 22] [] (by kernel_rfl) (by kernel_rfl) (HS.drew.pk 6 [2, 4] Z) ?_
         replace HS := HS.drew
         refine qL Z Z (fun _ _ g => fL b23 1 fl111_1 Z g) Z (GX.ps 3 Z (GX.ls Z Z Z (HS.pk 6 [2, 4] Z) (fun _ HS _ g => lB 0 HS Z na109 Z g) Z (qL Z Z (fun _ _ g => GO.ix Z Z Z U109 sz56 h411 c410.1 c410.2 Z g) Z (GX.ls Z Z Z (HS.pk 6 [2, 4] Z) (fun _ HS _ g => GO.ldRd (T := (Ty.slice 2 (TInt .i64))) (n := a1.toNat) (o := 0) HS (RdIn.own (j := 1) Z) Z Z (getD_some (d := []) (ltN c410)) Z Z na56 Z g) Z (qL Z Z (fun _ _ g => GO.ix Z Z Z U56 sz2 ((RdIn.elem (RdIn.own (j := 4) Z) c410.1 c410.2) _ HS).2.2.1 c412.1 c412.2 Z g) Z (GX.ls Z Z Z (HS.pk 6 [2, 4] Z) (fun _ HS _ g => GO.ldRd (T := (TInt .i64)) (n := t395.toNat) (o := 0) HS (RdIn.elem (RdIn.own (j := 1) Z) c410.1 c410.2) Z Z (getD_some (d := 0) (ltN c412)) Z Z na2 Z g) Z (GX.ps 1 Z (qL Z Z (fun _ _ g => mV Z (kN 46 Z (tF c413) g)) Z (qL Z Z (fun _ _ g => oF Z g) Z (qL Z Z (fun _ _ g => oF Z g) Z (qL Z Z (fun _ _ g => oF Z g) Z (GX.ls Z Z Z (HS.pk 6 [2, 4] Z) (fun _ HS _ g => oF Z g) Z (qL Z Z (fun _ _ g => oF Z g) Z (GX.ls Z Z Z (HS.pk 6 [2, 4] Z) (fun _ HS _ g => oF Z g) Z ?_))))))))))))))
         refine GX.l2 Z (oF Z (GX.fin (HS.pk 6 [2, 4] Z) (qL Z Z (fun _ _ g => oF Z g) Z (qL Z Z (fun _ _ g => oF Z g) Z (GX.ls Z Z Z (HS.pk 6 [2, 4] Z) (fun _ HS _ g => oF Z g) Z (qL Z Z (fun _ _ g => oF Z g) Z (GX.ps 1 Z (GX.nil (rN 5 Z (G.weak ?_ (m1 h1 (Nat.lt_succ_of_le (lR _)) (Nat.le_of_succ_le k1) _ _ H HS)))))))))))
         exact ⟨Z, Z, Z, Z, Z, Z, tv⟩
        obtain ⟨c414, H⟩ := iN H
        obtain ⟨t415, h416, H⟩ := bI H
        obtain ⟨c419, H⟩ := iN H
        obtain ⟨e420, h421, H⟩ := bnd_elim H
        refine G.lexS mixed (fun w => St w0 w (Box b1 31 [.slice A_a c1.length c_a] :: Box b23 111 [.slice A10 t5.length c11, .slice A13 t6.length c14, .slice A16 t7.length c17] :: Own (Ty.slice 2 (TInt .i64)) 56 A13 c14 y15 t6 :: L)) [1, 4, 7, 12, 15, 20] [0, 2, 5, 8, 1, 3, 4, 6, 7, 9, 10, 11, 13, 16, 12, 14, 15, 17, 18, 19, 20, 21, 22] [] (by kernel_rfl) (by kernel_rfl) (HS.drew.pk 6 [0, 2, 4] Z) ?_
        replace HS := HS.drew
        refine qL Z Z (fun _ _ g => fL b23 1 fl111_1 Z g) Z (GX.ps 3 Z (GX.ls Z Z Z (HS.pk 6 [0, 2, 4] Z) (fun _ HS _ g => lB 1 HS Z na109 Z g) Z (qL Z Z (fun _ _ g => GO.ix Z Z Z U109 sz56 h411 c410.1 c410.2 Z g) Z (GX.ls Z Z Z (HS.pk 6 [0, 2, 4] Z) (fun _ HS _ g => GO.ldRd (T := (Ty.slice 2 (TInt .i64))) (n := a1.toNat) (o := 0) HS (RdIn.own (j := 2) Z) Z Z (getD_some (d := []) (ltN c410)) Z Z na56 Z g) Z (qL Z Z (fun _ _ g => GO.ix Z Z Z U56 sz2 ((RdIn.elem (RdIn.own (j := 4) Z) c410.1 c410.2) _ HS).2.2.1 c412.1 c412.2 Z g) Z (GX.ls Z Z Z (HS.pk 6 [0, 2, 4] Z) (fun _ HS _ g => GO.ldRd (T := (TInt .i64)) (n := t395.toNat) (o := 0) HS (RdIn.elem (RdIn.own (j := 2) Z) c410.1 c410.2) Z Z (getD_some (d := 0) (ltN c412)) Z Z na2 Z g) Z (GX.ps 1 Z (qL Z Z (fun _ _ g => mV Z (kN 46 Z (tT c413) g)) Z (qL Z Z (fun _ _ g => oN Z (fL b1 0 fl31_0 Z (bK g))) Z (qL Z Z (fun _ _ g => oN Z (mV Z (bK g))) Z (qL Z Z (fun _ _ g => oN Z (mV Z (bK g))) Z (GX.ls Z Z Z (HS.pk 6 [0, 2, 4] Z) (fun _ HS _ g => oN Z (lB 0 HS Z na29 Z (bK g))) Z (qL Z Z (fun _ _ g => oN Z (GO.ix Z Z Z U29 sz77 ((rD 6 r_a) _ HS).2.2.1 c414.1 c414.2 Z (bK g))) Z (GX.ls Z Z Z (HS.pk 6 [0, 2, 4] Z) (fun _ HS _ g => oN Z (GO.ldRd (T := (Ty.slice 107 T_GFace)) (n := a1.toNat) (o := 0) HS (rD 3 r_a) Z Z (getD_some (d := []) (ltN c414)) Z Z na77 Z (bK g))) Z ?_))))))))))))))
        refine GX.l2 Z (oN Z (fJ fok76 Z (spec_l06At.calls HS  h416) (fun _ wd417 ⟨h418, HS⟩ => ⟨_, h418, (bK (GX.fin (HS.pk 6 [0, 2, 4] Z) (qL Z Z (fun _ _ g => oN Z (GO.ix Z Z Z U77 sz107 ((RdIn.elem (rD 6 r_a) c414.1 c414.2) _ HS).2.2.1 c419.1 c419.2 Z (bK g))) Z (qL Z Z (fun _ _ g => oN Z (GO.fld (ea ((y_a a1.toNat).A) (t415.toNat * 2)) Z Z fl107_0 Z Z (bK g))) Z (GX.ls Z Z Z (HS.pk 6 [0, 2, 4] Z) (fun _ HS _ g => oN Z (GO.ldRd (T := T_GFace) (n := t415.toNat) (o := 0) HS (RdIn.elem (rD 3 r_a) c414.1 c414.2) Z Z (getD_eq (ltN c419) h421) Z Z na2 Z (bK g))) Z (qL Z Z (fun _ _ g => oN Z (GO.lss Z Z Z Z (bK g))) Z (GX.ps 1 Z (GX.nil ?_))))))))⟩)))
        rcases iS H with ⟨c422, H⟩ | ⟨c422, H⟩
        ·
         refine nB Z (tF c422) (rN 4 Z (G.weak ?_ (m1 h1 (Nat.lt_succ_of_le (lR _)) (Nat.le_of_succ_le k1) _ _ H HS)))
         exact ⟨Z, Z, Z, Z, Z, Z, tv⟩
        refine yB Z (tT c422) (sQ (rG (pS 2 Z (GO.buildV (.agg [I a1, I g1].toArray) Z Z (fun _ => by kernel_rfl) Z (sW 1 HS Z ag167 Z fun wd423 HS => nL ?_)))))
        obtain ⟨rfl, rfl⟩ := some2 H
        exact rT _ func156 Z (Res1.boxA (j := 1) (vs := [I a1, I g1]) HS Z Z Z ag167) ⟨Z, (HS.pk 6 [] Z)⟩
     refine G.weak ?_ (q1 i1 (lR _) _ _ H HS)
     exact ⟨Z, Z, Z, Z, Z, Z, tv⟩
  refine G.weak ?_ (s1 K (lR _) _ _ H (HS.pk 7 [6, 5, 0, 1, 2, 3] Z))
  exact ⟨Z, Z, Z, Z, Z, tv⟩
theorem spec_l08After.calls {e1 : List (List GFace)} {a1 g1 : Int} {y_a : Nat → (Ty.slice 107 T_GFace).Lay} {r1 r2 : Int} {r3 : Bool} (HS : St w0 w (L)) (r_a : RdIn w0 L (Ty.slice 107 T_GFace) A_a c_a y_a e1) (H : spec_l08After.f K e1 a1 g1 = some (r1, r2, r3)) :
    Calls prog 157 #[.agg [.slice A_a e1.length c_a].toArray, .agg [I a1, I g1].toArray] w (spec_l08After.post w0 L r1 r2 r3) := by
  unfold spec_l08After.f at H
  refine cG func157 Z ?_
  refine sQ (rG (bA HS Z fun b1 wd2 HS => bA HS Z fun b3 wd4 HS => GO.alloc HS Z zr167 Z Z fun b5 wd6 HS => aS Z (nL (sQ ?_))))
  obtain ⟨c7, H⟩ := iN H
  obtain ⟨t8, h9, H⟩ := bI H
  obtain ⟨c12, H⟩ := iN H
  obtain ⟨e13, h14, H⟩ := bnd_elim H
  refine G.regionAny mixed (by decide) (fun b a w => ∃ (m1 : Value) (k1 : Value) (v1 : Value) (o1 : Value) (n1 : Value) (i1 : Value) (h1 : Value) (x1 : Value) (u1 : Value) (s1 : Value) (p1 : Value) (q1 : Value) (b15 : Nat) (y1 : HObj), Sat 49 [(6, q1), (10, m1), (11, k1), (12, v1), (13, o1), (14, n1), (15, i1), (16, h1), (17, x1), (18, u1), (19, s1), (20, p1), (2, .pointer (some ⟨b1, 0, none⟩)), (3, .pointer (some ⟨b3, 0, none⟩)), (4, .pointer (some ⟨b5, 0, none⟩))] a ∧ St w0 w (Box b5 167 [I 0, I 0] :: Box b3 167 [I a1, I g1] :: Box b1 31 [.slice A_a e1.length c_a] :: y1 :: L) ∧ (b 11 = true → q1 = (.pointer (some ⟨b15, 0, none⟩))) ∧ (b 0 = true → m1 = (.pointer (some ⟨b1, 0, none⟩))) ∧ (b 1 = true → k1 = (.slice A_a e1.length c_a)) ∧ (b 2 = true → v1 = (.pointer (some ⟨b3, 0, none⟩))) ∧ (b 3 = true → o1 = (I a1)) ∧ (b 4 = true → n1 = (.pointer (some (ea A_a (a1.toNat * 1))))) ∧ (b 5 = true → i1 = (.slice ((y_a a1.toNat).A) (e1.getD a1.toNat []).length ((y_a a1.toNat).c))) ∧ (b 6 = true → h1 = (.pointer (some ⟨b3, 1, none⟩))) ∧ (b 7 = true → x1 = (I g1)) ∧ (b 8 = true → u1 = (I t8)) ∧ (b 9 = true → s1 = (.pointer (some (ea ((y_a a1.toNat).A) (t8.toNat * 2))))) ∧ (b 10 = true → p1 = (.agg [I e13.Tet, I e13.Perm].toArray)) ∧ (b 11 = true → b 12 = false → y1 = Box b15 107 [I 0, I 0]) ∧ (b 12 = true → y1 = Box b15 107 [I e13.Tet, I e13.Perm])) ?_ ?_ ?_
  ·
   intro a hs
   obtain ⟨q1, hs⟩ := hs.ext (d := 6) Z
   obtain ⟨m1, hs⟩ := hs.ext (d := 10) Z
   obtain ⟨k1, hs⟩ := hs.ext (d := 11) Z
   obtain ⟨v1, hs⟩ := hs.ext (d := 12) Z
   obtain ⟨o1, hs⟩ := hs.ext (d := 13) Z
   obtain ⟨n1, hs⟩ := hs.ext (d := 14) Z
   obtain ⟨i1, hs⟩ := hs.ext (d := 15) Z
   obtain ⟨h1, hs⟩ := hs.ext (d := 16) Z
   obtain ⟨x1, hs⟩ := hs.ext (d := 17) Z
   obtain ⟨u1, hs⟩ := hs.ext (d := 18) Z
   obtain ⟨s1, hs⟩ := hs.ext (d := 19) Z
   obtain ⟨p1, hs⟩ := hs.ext (d := 20) Z
   exact ⟨m1, k1, v1, o1, n1, i1, h1, x1, u1, s1, p1, q1, 0, Emp, hs.weak ⟨Z, Z, Z, Z, Z, Z, Z, Z, Z, Z, Z, Z, Z, Z, Z, tv⟩, (HS.drew.emp.pk 4 [1, 2, 3, 0] Z), fun h => Bool.noConfusion h, fun h => Bool.noConfusion h, fun h => Bool.noConfusion h, fun h => Bool.noConfusion h, fun h => Bool.noConfusion h, fun h => Bool.noConfusion h, fun h => Bool.noConfusion h, fun h => Bool.noConfusion h, fun h => Bool.noConfusion h, fun h => Bool.noConfusion h, fun h => Bool.noConfusion h, fun h => Bool.noConfusion h, fun h => Bool.noConfusion h, fun h => Bool.noConfusion h⟩
  ·
   intro j hj b a w
   refine exI fun m1 => exI fun k1 => exI fun v1 => exI fun o1 => exI fun n1 => exI fun i1 => exI fun h1 => exI fun x1 => exI fun u1 => exI fun s1 => exI fun p1 => exI fun q1 => exI fun b15 => exI fun y1 => anI fun hs => anI fun HS => anI fun f11 => anI fun f0 => anI fun f1 => anI fun f2 => anI fun f3 => anI fun f4 => anI fun f5 => anI fun f6 => anI fun f7 => anI fun f8 => anI fun f9 => anI fun f10 => anI fun d1 => fun c1 hb hd hcl => ?_
   match j, hj with
   | 0, _ =>
    refine GO.at hs (fL b1 0 fl31_0 Z (GO.fin (fun a hs => ⟨(.pointer (some ⟨b1, 0, none⟩)), _, _, _, _, _, _, _, _, _, _, _, b15, _, by exact hs.setAt 1 Z, HS, f11, fun _ => Z, f1, f2, f3, f4, f5, f6, f7, f8, f9, f10, d1, c1⟩)))
   | 1, _ =>
    have hb0 : b 0 = true := hd 0 (by decide)
    obtain rfl := f0 hb0
    refine GO.at hs (lB 2 HS Z na29 Z (GO.fin (fun a hs => ⟨_, (.slice A_a e1.length c_a), _, _, _, _, _, _, _, _, _, _, b15, _, by exact hs.setAt 2 Z, HS, f11, f0, fun _ => Z, f2, f3, f4, f5, f6, f7, f8, f9, f10, d1, c1⟩)))
   | 2, _ =>
    refine GO.at hs (fL b3 0 fl167_0 Z (GO.fin (fun a hs => ⟨_, _, (.pointer (some ⟨b3, 0, none⟩)), _, _, _, _, _, _, _, _, _, b15, _, by exact hs.setAt 3 Z, HS, f11, f0, f1, fun _ => Z, f3, f4, f5, f6, f7, f8, f9, f10, d1, c1⟩)))
   | 3, _ =>
    have hb2 : b 2 = true := hd 2 (by decide)
    obtain rfl := f2 hb2
    refine GO.at hs (lB 1 HS Z na2 Z (GO.fin (fun a hs => ⟨_, _, _, (I a1), _, _, _, _, _, _, _, _, b15, _, by exact hs.setAt 4 Z, HS, f11, f0, f1, f2, fun _ => Z, f4, f5, f6, f7, f8, f9, f10, d1, c1⟩)))
   | 4, _ =>
    have hb1 : b 1 = true := hd 1 (by decide)
    obtain rfl := f1 hb1
    have hb3 : b 3 = true := hd 3 (by decide)
    obtain rfl := f3 hb3
    refine GO.at hs (GO.ix Z Z Z U29 sz77 ((rD 4 r_a) _ HS).2.2.1 c7.1 c7.2 Z (GO.fin (fun a hs => ⟨_, _, _, _, (.pointer (some (ea A_a (a1.toNat * 1)))), _, _, _, _, _, _, _, b15, _, by exact hs.setAt 5 Z, HS, f11, f0, f1, f2, f3, fun _ => Z, f5, f6, f7, f8, f9, f10, d1, c1⟩)))
   | 5, _ =>
    have hb4 : b 4 = true := hd 4 (by decide)
    obtain rfl := f4 hb4
    refine GO.at hs (GO.ldRd (T := (Ty.slice 107 T_GFace)) (n := a1.toNat) (o := 0) HS (rD 4 r_a) Z Z (getD_some (d := []) (ltN c7)) Z Z na77 Z (GO.fin (fun a hs => ⟨_, _, _, _, _, (.slice ((y_a a1.toNat).A) (e1.getD a1.toNat []).length ((y_a a1.toNat).c)), _, _, _, _, _, _, b15, _, by exact hs.setAt 6 Z, HS, f11, f0, f1, f2, f3, f4, fun _ => Z, f6, f7, f8, f9, f10, d1, c1⟩)))
   | 6, _ =>
    refine GO.at hs (fL b3 1 fl167_1 Z (GO.fin (fun a hs => ⟨_, _, _, _, _, _, (.pointer (some ⟨b3, 1, none⟩)), _, _, _, _, _, b15, _, by exact hs.setAt 7 Z, HS, f11, f0, f1, f2, f3, f4, f5, fun _ => Z, f7, f8, f9, f10, d1, c1⟩)))
   | 7, _ =>
    have hb6 : b 6 = true := hd 6 (by decide)
    obtain rfl := f6 hb6
    refine GO.at hs (lB 1 HS Z na2 Z (GO.fin (fun a hs => ⟨_, _, _, _, _, _, _, (I g1), _, _, _, _, b15, _, by exact hs.setAt 8 Z, HS, f11, f0, f1, f2, f3, f4, f5, f6, fun _ => Z, f8, f9, f10, d1, c1⟩)))
   | 8, _ =>
    have hb7 : b 7 = true := hd 7 (by decide)
    obtain rfl := f7 hb7
    refine GO.at hs (fJ fok76 Z (spec_l06At.calls HS  h9) (fun _ wd10 ⟨h11, HS⟩ => ⟨_, h11, (GO.fin (fun a hs => ⟨_, _, _, _, _, _, _, _, (I t8), _, _, _, b15, _, by exact hs.setAt 9 Z, HS, f11, f0, f1, f2, f3, f4, f5, f6, f7, fun _ => Z, f9, f10, d1, c1⟩))⟩))
   | 9, _ =>
    have hb5 : b 5 = true := hd 5 (by decide)
    obtain rfl := f5 hb5
    have hb8 : b 8 = true := hd 8 (by decide)
    obtain rfl := f8 hb8
    refine GO.at hs (GO.ix Z Z Z U77 sz107 ((RdIn.elem (rD 4 r_a) c7.1 c7.2) _ HS).2.2.1 c12.1 c12.2 Z (GO.fin (fun a hs => ⟨_, _, _, _, _, _, _, _, _, (.pointer (some (ea ((y_a a1.toNat).A) (t8.toNat * 2)))), _, _, b15, _, by exact hs.setAt 10 Z, HS, f11, f0, f1, f2, f3, f4, f5, f6, f7, f8, fun _ => Z, f10, d1, c1⟩)))
   | 10, _ =>
    have hb9 : b 9 = true := hd 9 (by decide)
    obtain rfl := f9 hb9
    refine GO.at hs (GO.ldRdA (T := T_GFace) (n := t8.toNat) HS (RdIn.elem (rD 4 r_a) c7.1 c7.2) Z Z (getD_eq (ltN c12) h14) ag107 Z (GO.fin (fun a hs => ⟨_, _, _, _, _, _, _, _, _, _, (.agg [I e13.Tet, I e13.Perm].toArray), _, b15, _, by exact hs.setAt 11 Z, HS, f11, f0, f1, f2, f3, f4, f5, f6, f7, f8, f9, fun _ => Z, d1, c1⟩)))
   | 11, _ =>
    refine GO.at hs (GO.alloc HS Z zr107 Z Z fun b15 wd16 HS => GO.fin (fun a hs => ⟨_, _, _, _, _, _, _, _, _, _, _, (.pointer (some ⟨b15, 0, none⟩)), b15, Box b15 107 [I 0, I 0], by exact hs.setAt 0 Z, HS.pk 5 [1, 2, 3, 0] Z, fun _ => Z, f0, f1, f2, f3, f4, f5, f6, f7, f8, f9, f10, fun _ _ => Z, fun hh => (Bool.noConfusion ((hcl 12 (by decide) hh 11 (by decide)).symm.trans hb))⟩))
   | 12, _ =>
    have hb11 : b 11 = true := hd 11 (by decide)
    obtain rfl := f11 hb11
    have hb10 : b 10 = true := hd 10 (by decide)
    obtain rfl := f10 hb10
    obtain rfl := d1 hb11 hb
    refine GO.at hs (sW 3 HS Z ag107 Z fun wd17 HS => GO.fin (fun a hs => ⟨_, _, _, _, _, _, _, _, _, _, _, _, b15, Box b15 107 [I e13.Tet, I e13.Perm], hs, HS, f11, f0, f1, f2, f3, f4, f5, f6, f7, f8, f9, f10, fun _ h => Bool.noConfusion h, fun _ => Z⟩))
   | k + 13, hj => exact absurd hj (Nat.not_lt.2 (Nat.le_add_left 13 k))
  ·
   intro b a w hall
   refine exI fun m1 => exI fun k1 => exI fun v1 => exI fun o1 => exI fun n1 => exI fun i1 => exI fun h1 => exI fun x1 => exI fun u1 => exI fun s1 => exI fun p1 => exI fun q1 => exI fun b15 => exI fun y1 => anI fun hs => anI fun HS => anI fun f11 => anI fun f0 => anI fun f1 => anI fun f2 => anI fun f3 => anI fun f4 => anI fun f5 => anI fun f6 => anI fun f7 => anI fun f8 => anI fun f9 => anI fun f10 => anI fun d1 => fun c1 => ?_
   obtain rfl := f11 (hall 11 (by decide))
   obtain rfl := f0 (hall 0 (by decide))
   obtain rfl := f1 (hall 1 (by decide))
   obtain rfl := f2 (hall 2 (by decide))
   obtain rfl := f3 (hall 3 (by decide))
   obtain rfl := f4 (hall 4 (by decide))
   obtain rfl := f5 (hall 5 (by decide))
   obtain rfl := f6 (hall 6 (by decide))
   obtain rfl := f7 (hall 7 (by decide))
   obtain rfl := f8 (hall 8 (by decide))
   obtain rfl := f9 (hall 9 (by decide))
   obtain rfl := f10 (hall 10 (by decide))
   obtain rfl := c1 (hall 12 (by decide))
   refine G.at hs (rN 2 Z (rG (fL b15 0 fl107_0 Z (lB 3 HS Z na2 Z (GO.lss Z Z Z Z (nL ?_))))))
   rcases iE H with ⟨c18, H⟩ | ⟨c18, H⟩
   ·
    refine yB Z (tT c18) (sQ (rG (GO.buildV (.agg [I 0, I 0].toArray) Z Z (fun _ => by kernel_rfl) Z (sW 0 HS Z ag167 Z fun wd19 HS => aS Z (nL ?_)))))
    obtain ⟨rfl, rfl, rfl⟩ := some3 H
    exact G.ret2 _ _ func157 Z (Res1.boxA (j := 0) (vs := [I 0, I 0]) HS Z Z Z ag167) Z ⟨Z, (HS.pk 4 [] Z)⟩
   refine nB Z (tF c18) (rN 2 Z (rG (GO.buildS (el := 2) ([]) HS Z Z (fun _ => by kernel_rfl) Z fun b20 wd21 HS => ?_)))
   replace HS := HS.boxRow (T := (TInt .i64)) (j := 0) Z flat_flat (fun _ => ()) ([] : List Int) Z (bndL Z)
   refine GO.lenC (t := 25) (m := ([] : List Int).length) (c' := ([] : List Int).length) Z Z Z (aS Z (nL (sQ (rG (GO.buildS (el := 2) ([I 0, I 1, I 3, I 2]) HS Z Z (fun _ => by kernel_rfl) Z fun b22 wd23 HS => ?_)))))
   replace HS := HS.boxRow (T := (TInt .i64)) (j := 0) Z flat_flat (fun _ => ()) ([0, 1, 3, 2] : List Int) Z (bndL Z)
   refine GO.lenC (t := 26) (m := ([0, 1, 3, 2] : List Int).length) (c' := ([0, 1, 3, 2] : List Int).length) Z Z Z (aS Z (nL (rN 5 Z ?_)))
   refine G.name (fun b2 e2 => ?_)
   have h2 : ∀ t1, t1 ≤ K → ∀ (A40 : Option Addr) (c41 : Nat) (a2 : List Int) (z1 : Int) (w : World), spec_l08After.l1 K t1 g1 e13 a2 z1 = some (r1, r2, r3) → St w0 w (Box b3 167 [I a1, I g1] :: Box b5 167 [I 0, I 0] :: Box b15 107 [I e13.Tet, I e13.Perm] :: Own (TInt .i64) 2 A40 c41 (fun _ => ()) a2 :: Own (TInt .i64) 2 (some ⟨b22, 0, none⟩) (([0, 1, 3, 2] : List Int).length) (fun _ => ()) ([0, 1, 3, 2] : List Int) :: L) → G prog 157 49 [(3, .pointer (some ⟨b3, 0, none⟩)), (4, .pointer (some ⟨b5, 0, none⟩)), (6, .pointer (some ⟨b15, 0, none⟩)), (7, .slice A40 a2.length c41), (8, .slice (some ⟨b22, 0, none⟩) ([0, 1, 3, 2] : List Int).length (([0, 1, 3, 2] : List Int).length)), (9, I z1)] b2 w (spec_l08After.post w0 L r1 r2 r3) := by
    intro t1
    induction t1 using Nat.strongRecOn with
    | _ t1 c2 =>
     intro d2 A40 c41 a2 z1 w H HS
     cases t1 with
     | zero => rw [spec_l08After.l1] at H; cases H
     | succ g2 =>
      rw [spec_l08After.l1] at H
      subst e2
      refine rN 3 Z ?_
      rcases iS H with ⟨c66, H⟩ | ⟨c66, H⟩
      ·
       refine nB Z (tF c66) (rN 2 Z ?_)
       obtain ⟨t83, h84, H⟩ := bI H
       refine G.lexS mixed (fun w => St w0 w (Box b15 107 [I e13.Tet, I e13.Perm] :: L)) [1] [0, 2, 1, 3, 4, 5, 6] [] (by kernel_rfl) (by kernel_rfl) (HS.drew.pk 5 [2] Z) ?_
       replace HS := HS.drew
       refine qL Z Z (fun _ _ g => fL b15 0 fl107_0 Z g) Z (GX.ps 1 Z (GX.ls Z Z Z (HS.pk 5 [2] Z) (fun _ HS _ g => lB 0 HS Z na2 Z g) Z (GX.l2 Z (fJ fok117 Z (spec_l06Index.calls HS (RdIn.own (j := 3) Z) h84) (fun _ wd85 ⟨h86, HS⟩ => ⟨_, h86, (GX.fin (HS.pk 5 [2] Z) (qL Z Z (fun _ _ g => GO.buildV (.agg [I e13.Tet, I t83].toArray) Z Z (fun _ => by kernel_rfl) Z g) Z (GX.l2 Z (sW 1 HS Z ag167 Z fun wd87 HS => GX.fin (HS.pk 5 [2] Z) (GX.ps 1 Z (GX.nil ?_))))))⟩)))))
       obtain ⟨rfl, rfl, rfl⟩ := some3 H
       exact G.ret2 _ _ func157 Z (Res1.boxA (j := 1) (vs := [I e13.Tet, I t83]) HS Z Z Z ag167) Z ⟨Z, (HS.pk 5 [] Z)⟩
      refine yB Z (tT c66) (rN 3 Z ?_)
      obtain ⟨c67, H⟩ := iN H
      have h68 := ((RdIn.own (j := 4) Z) _ HS).2.2.1
      obtain ⟨t69, h70, H⟩ := bI H
      obtain ⟨t73, h74, H⟩ := bI H
      obtain ⟨c82, H⟩ := iN H
      refine G.lexS mixed (fun w => St w0 w (Box b3 167 [I a1, I g1] :: Box b15 107 [I e13.Tet, I e13.Perm] :: Own (TInt .i64) 2 (some ⟨b22, 0, none⟩) (([0, 1, 3, 2] : List Int).length) (fun _ => ()) ([0, 1, 3, 2] : List Int) :: L)) [2, 4, 8] [0, 1, 3, 5, 6, 7, 2, 4, 8, 9, 10, 11, 12, 13] [] (by kernel_rfl) (by kernel_rfl) (HS.drew.pk 5 [0, 2, 4] Z) ?_
      replace HS := HS.drew
      refine GX.ps 1 Z (qL Z Z (fun _ _ g => fL b15 1 fl107_1 Z g) Z (qL Z Z (fun _ _ g => fL b3 1 fl167_1 Z g) Z (GX.ps 2 Z (qL Z Z (fun _ _ g => GO.ix Z Z Z U56 sz2 h68 c67.1 c67.2 Z g) Z (GX.ls Z Z Z (HS.pk 5 [0, 2, 4] Z) (fun _ HS _ g => lB 1 HS Z na2 Z g) Z (GX.ls Z Z Z (HS.pk 5 [0, 2, 4] Z) (fun _ HS _ g => lB 0 HS Z na2 Z g) Z (GX.ls Z Z Z (HS.pk 5 [0, 2, 4] Z) (fun _ HS _ g => GO.ldRd (T := (TInt .i64)) (n := z1.toNat) (o := 0) HS (RdIn.own (j := 2) Z) Z Z (getD_some (d := 0) (ltN c67)) Z Z na2 Z g) Z (GX.l2 Z (fJ fok76 Z (spec_l06At.calls HS  h70) (fun _ wd71 ⟨h72, HS⟩ => ⟨_, h72, (GX.fin (HS.pk 5 [0, 2, 4] Z) (GX.l2 Z (fJ fok76 Z (spec_l06At.calls HS  h74) (fun _ wd75 ⟨h76, HS⟩ => ⟨_, h76, (GX.fin (HS.pk 5 [0, 2, 4] Z) (GX.l2 Z ?_))⟩))))⟩))))))))))
      refine GO.buildS (el := 2) ([I t73]) HS Z Z (fun _ => by kernel_rfl) Z fun b77 wd78 HS => GX.fin (HS.pk 6 [1, 3, 5] Z) (GX.l2 Z (GO.app1 (T := (TInt .i64)) (j := 4) (jb := 0) t73 HS Z Z flat_flat Z Z Z U56 inf2 Z Z Z c82 Z fun A80 c81 wd79 HS => GX.fin (HS.pk 6 [1, 3, 5] Z) (GX.ps 1 Z (GX.nil (rN 3 Z (G.weak ?_ (c2 g2 (Nat.lt_succ_of_le (lR _)) (Nat.le_of_succ_le d2) _ _ _ _ _ H (HS.pk 6 [1, 2, 3, 4, 5] Z))))))))
      exact ⟨Z, Z, Z, Z, Z, Z, tv⟩
   refine G.weak ?_ (h2 K (lR _) _ _ _ _ _ H (HS.pk 6 [3, 2, 5, 1, 0] Z))
   exact ⟨Z, Z, Z, Z, Z, Z, tv⟩
theorem spec_l08Ring.calls {e1 : List (List GFace)} {z1 : Int} {y_a : Nat → (Ty.slice 107 T_GFace).Lay} {r1 : List GFace} (HS : St w0 w (L)) (r_a : RdIn w0 L (Ty.slice 107 T_GFace) A_a c_a y_a e1) (H : spec_l08Ring.f K e1 z1 = some r1) :
    Calls prog 134 #[.agg [.slice A_a e1.length c_a].toArray, I z1] w (spec_l08Ring.post w0 L r1) := by
  unfold spec_l08Ring.f at H
  refine cG func134 Z ?_
  refine sQ (rG (bA HS Z fun b1 wd2 HS => aS Z (nL (sQ ?_))))
  obtain ⟨t3, t4, h5, H⟩ := bind2_elim H
  refine rG (lW 0 HS Z ag31 (mV Z (fJ fok156 Z (spec_l08Start.calls HS (rD 1 r_a) h5) (fun _ wd6 ⟨h7, HS⟩ => ⟨_, h7, (GO.alloc HS Z zr167 Z Z fun b8 wd9 HS => sW 0 HS Z ag167 Z fun wd10 HS => nL (sQ (rG (lW 0 HS Z ag167 (GO.buildS (el := 167) ([I t3, I t4]) HS Z Z (fun _ => by kernel_rfl) Z fun b11 wd12 HS => ?_)))))⟩))))
  replace HS := HS.boxRow (T := T_GFace) (j := 0) Z flat_flat (fun _ => ()) ([(⟨t3, t4⟩ : GFace)] : List GFace) Z (bndL Z)
  refine GO.lenC (t := 13) (m := ([(⟨t3, t4⟩ : GFace)] : List GFace).length) (c' := ([(⟨t3, t4⟩ : GFace)] : List GFace).length) Z Z Z (aS Z (nL (rN 2 Z ?_)))
  refine G.name (fun a2 d2 => ?_)
  have g2 : ∀ s1, s1 ≤ K → ∀ (A35 : Option Addr) (c36 : Nat) (a1 : List GFace) (w : World), spec_l08Ring.l1 K s1 e1 t3 t4 a1 = some r1 → St w0 w (Box b1 31 [.slice A_a e1.length c_a] :: Box b8 167 [I t3, I t4] :: Own T_GFace 167 A35 c36 (fun _ => ()) a1 :: L) → G prog 134 37 [(2, .pointer (some ⟨b1, 0, none⟩)), (5, .pointer (some ⟨b8, 0, none⟩)), (6, .slice A35 a1.length c36)] a2 w (spec_l08Ring.post w0 L r1) := by
   intro s1
   induction s1 using Nat.strongRecOn with
   | _ s1 b2 =>
    intro c2 A35 c36 a1 w H HS
    cases s1 with
    | zero => rw [spec_l08Ring.l1] at H; cases H
    | succ e2 =>
     rw [spec_l08Ring.l1] at H
     subst d2
     refine rN 2 Z ?_
     obtain ⟨c60, H⟩ := iN H
     have h61 := ((RdIn.own (j := 2) Z) _ HS).2.2.1
     obtain ⟨e62, h63, H⟩ := bnd_elim H
     obtain ⟨t64, t65, t66, h67, H⟩ := bind3_elim H
     refine G.regionAny mixed (by decide) (fun b a w => ∃ (k1 : Value) (i1 : Value) (v1 : Value) (n1 : Value) (m1 : Value) (h1 : Value) (g1 : Value) (x1 : Value) (u1 : Value) (q1 : Value) (o1 : Value) (p1 : Value) (t1 : Value) (b70 : Nat) (y1 : HObj), Sat 37 [(7, p1), (8, t1), (14, u1), (15, k1), (16, i1), (17, v1), (18, n1), (19, m1), (20, h1), (21, g1), (22, x1), (23, q1), (24, o1), (2, .pointer (some ⟨b1, 0, none⟩)), (5, .pointer (some ⟨b8, 0, none⟩)), (6, .slice A35 a1.length c36)] a ∧ St w0 w (Box b1 31 [.slice A_a e1.length c_a] :: Box b8 167 [I t3, I t4] :: Own T_GFace 167 A35 c36 (fun _ => ()) a1 :: y1 :: L) ∧ (b 11 = true → p1 = (.pointer (some ⟨b70, 0, none⟩))) ∧ (b 13 = true → t1 = (.bool t66)) ∧ (b 8 = true → u1 = (.tuple #[.agg [I t64, I t65].toArray, .bool t66])) ∧ (b 0 = true → k1 = (.agg [.slice A_a e1.length c_a].toArray)) ∧ (b 1 = true → i1 = (.slice A35 a1.length c36)) ∧ (b 2 = true → v1 = (.slice A35 a1.length c36)) ∧ (b 3 = true → n1 = (I (a1.length : Int))) ∧ (b 4 = true → m1 = (I (w64 ((a1.length : Int) - 1)))) ∧ (b 5 = true → h1 = (.pointer (some (ea A35 (((w64 ((a1.length : Int) - 1)).toNat) * 2))))) ∧ (b 6 = true → g1 = (.agg [I e62.Tet, I e62.Perm].toArray)) ∧ (b 7 = true → x1 = (.tuple #[.agg [I t64, I t65].toArray, .bool t66])) ∧ (b 9 = true → q1 = (.agg [I t64, I t65].toArray)) ∧ (b 10 = true → o1 = (.bool t66)) ∧ (b 11 = true → b 12 = false → y1 = Box b70 167 [I 0, I 0]) ∧ (b 12 = true → y1 = Box b70 167 [I t64, I t65])) ?_ ?_ ?_
     ·
      intro a hs
      obtain ⟨p1, hs⟩ := hs.ext (d := 7) Z
      obtain ⟨t1, hs⟩ := hs.ext (d := 8) Z
      obtain ⟨u1, hs⟩ := hs.ext (d := 14) Z
      obtain ⟨k1, hs⟩ := hs.ext (d := 15) Z
      obtain ⟨i1, hs⟩ := hs.ext (d := 16) Z
      obtain ⟨v1, hs⟩ := hs.ext (d := 17) Z
      obtain ⟨n1, hs⟩ := hs.ext (d := 18) Z
      obtain ⟨m1, hs⟩ := hs.ext (d := 19) Z
      obtain ⟨h1, hs⟩ := hs.ext (d := 20) Z
      obtain ⟨g1, hs⟩ := hs.ext (d := 21) Z
      obtain ⟨x1, hs⟩ := hs.ext (d := 22) Z
      obtain ⟨q1, hs⟩ := hs.ext (d := 23) Z
      obtain ⟨o1, hs⟩ := hs.ext (d := 24) Z
      exact ⟨k1, i1, v1, n1, m1, h1, g1, x1, u1, q1, o1, p1, t1, 0, Emp, hs.weak ⟨Z, Z, Z, Z, Z, Z, Z, Z, Z, Z, Z, Z, Z, Z, Z, Z, tv⟩, (HS.drew.emp.pk 4 [1, 2, 3, 0] Z), fun h => Bool.noConfusion h, fun h => Bool.noConfusion h, fun h => Bool.noConfusion h, fun h => Bool.noConfusion h, fun h => Bool.noConfusion h, fun h => Bool.noConfusion h, fun h => Bool.noConfusion h, fun h => Bool.noConfusion h, fun h => Bool.noConfusion h, fun h => Bool.noConfusion h, fun h => Bool.noConfusion h, fun h => Bool.noConfusion h, fun h => Bool.noConfusion h, fun h => Bool.noConfusion h, fun h => Bool.noConfusion h⟩
     ·
      intro j hj b a w
      refine exI fun k1 => exI fun i1 => exI fun v1 => exI fun n1 => exI fun m1 => exI fun h1 => exI fun g1 => exI fun x1 => exI fun u1 => exI fun q1 => exI fun o1 => exI fun p1 => exI fun t1 => exI fun b70 => exI fun y1 => anI fun hs => anI fun HS => anI fun f11 => anI fun f13 => anI fun f8 => anI fun f0 => anI fun f1 => anI fun f2 => anI fun f3 => anI fun f4 => anI fun f5 => anI fun f6 => anI fun f7 => anI fun f9 => anI fun f10 => anI fun d1 => fun c1 hb hd hcl => ?_
      match j, hj with
      | 0, _ =>
       refine GO.at hs (lW 0 HS Z ag31 (GO.fin (fun a hs => ⟨(.agg [.slice A_a e1.length c_a].toArray), _, _, _, _, _, _, _, _, _, _, _, _, b70, _, by exact hs.setAt 3 Z, HS, f11, f13, f8, fun _ => Z, f1, f2, f3, f4, f5, f6, f7, f9, f10, d1, c1⟩)))
      | 1, _ =>
       refine GO.at hs (mV Z (GO.fin (fun a hs => ⟨_, (.slice A35 a1.length c36), _, _, _, _, _, _, _, _, _, _, _, b70, _, by exact hs.setAt 4 Z, HS, f11, f13, f8, f0, fun _ => Z, f2, f3, f4, f5, f6, f7, f9, f10, d1, c1⟩)))
      | 2, _ =>
       refine GO.at hs (mV Z (GO.fin (fun a hs => ⟨_, _, (.slice A35 a1.length c36), _, _, _, _, _, _, _, _, _, _, b70, _, by exact hs.setAt 5 Z, HS, f11, f13, f8, f0, f1, fun _ => Z, f3, f4, f5, f6, f7, f9, f10, d1, c1⟩)))
      | 3, _ =>
       have hb2 : b 2 = true := hd 2 (by decide)
       obtain rfl := f2 hb2
       refine GO.at hs (lS Z Z U165 Z (GO.fin (fun a hs => ⟨_, _, _, (I (a1.length : Int)), _, _, _, _, _, _, _, _, _, b70, _, by exact hs.setAt 6 Z, HS, f11, f13, f8, f0, f1, f2, fun _ => Z, f4, f5, f6, f7, f9, f10, d1, c1⟩)))
      | 4, _ =>
       have hb3 : b 3 = true := hd 3 (by decide)
       obtain rfl := f3 hb3
       refine GO.at hs (GO.sub Z Z Z Z (GO.fin (fun a hs => ⟨_, _, _, _, (I (w64 ((a1.length : Int) - 1))), _, _, _, _, _, _, _, _, b70, _, by exact hs.setAt 7 Z, HS, f11, f13, f8, f0, f1, f2, f3, fun _ => Z, f5, f6, f7, f9, f10, d1, c1⟩)))
      | 5, _ =>
       have hb1 : b 1 = true := hd 1 (by decide)
       obtain rfl := f1 hb1
       have hb4 : b 4 = true := hd 4 (by decide)
       obtain rfl := f4 hb4
       refine GO.at hs (GO.ix Z Z Z U165 sz167 h61 c60.1 c60.2 Z (GO.fin (fun a hs => ⟨_, _, _, _, _, (.pointer (some (ea A35 (((w64 ((a1.length : Int) - 1)).toNat) * 2)))), _, _, _, _, _, _, _, b70, _, by exact hs.setAt 8 Z, HS, f11, f13, f8, f0, f1, f2, f3, f4, fun _ => Z, f6, f7, f9, f10, d1, c1⟩)))
      | 6, _ =>
       have hb5 : b 5 = true := hd 5 (by decide)
       obtain rfl := f5 hb5
       refine GO.at hs (GO.ldRdA (T := T_GFace) (n := (w64 ((a1.length : Int) - 1)).toNat) HS (RdIn.own (j := 2) Z) Z Z (getD_eq (ltN c60) h63) ag167 Z (GO.fin (fun a hs => ⟨_, _, _, _, _, _, (.agg [I e62.Tet, I e62.Perm].toArray), _, _, _, _, _, _, b70, _, by exact hs.setAt 9 Z, HS, f11, f13, f8, f0, f1, f2, f3, f4, f5, fun _ => Z, f7, f9, f10, d1, c1⟩)))
      | 7, _ =>
       have hb0 : b 0 = true := hd 0 (by decide)
       obtain rfl := f0 hb0
       have hb6 : b 6 = true := hd 6 (by decide)
       obtain rfl := f6 hb6
       refine GO.at hs (fJ fok157 Z (spec_l08After.calls HS (rD 4 r_a) h67) (fun _ wd68 ⟨h69, HS⟩ => ⟨_, h69, (GO.fin (fun a hs => ⟨_, _, _, _, _, _, _, (.tuple #[.agg [I t64, I t65].toArray, .bool t66]), _, _, _, _, _, b70, _, by exact hs.setAt 10 Z, HS, f11, f13, f8, f0, f1, f2, f3, f4, f5, f6, fun _ => Z, f9, f10, d1, c1⟩))⟩))
      | 8, _ =>
       have hb7 : b 7 = true := hd 7 (by decide)
       obtain rfl := f7 hb7
       refine GO.at hs (mV Z (GO.fin (fun a hs => ⟨_, _, _, _, _, _, _, _, (.tuple #[.agg [I t64, I t65].toArray, .bool t66]), _, _, _, _, b70, _, by exact hs.setAt 2 Z, HS, f11, f13, fun _ => Z, f0, f1, f2, f3, f4, f5, f6, f7, f9, f10, d1, c1⟩)))
      | 9, _ =>
       have hb8 : b 8 = true := hd 8 (by decide)
       obtain rfl := f8 hb8
       refine GO.at hs (GO.extract Z Z Z Z (GO.fin (fun a hs => ⟨_, _, _, _, _, _, _, _, _, (.agg [I t64, I t65].toArray), _, _, _, b70, _, by exact hs.setAt 11 Z, HS, f11, f13, f8, f0, f1, f2, f3, f4, f5, f6, f7, fun _ => Z, f10, d1, c1⟩)))
      | 10, _ =>
       have hb8 : b 8 = true := hd 8 (by decide)
       obtain rfl := f8 hb8
       refine GO.at hs (GO.extract Z Z Z Z (GO.fin (fun a hs => ⟨_, _, _, _, _, _, _, _, _, _, (.bool t66), _, _, b70, _, by exact hs.setAt 12 Z, HS, f11, f13, f8, f0, f1, f2, f3, f4, f5, f6, f7, f9, fun _ => Z, d1, c1⟩)))
      | 11, _ =>
       refine GO.at hs (GO.alloc HS Z zr167 Z Z fun b70 wd71 HS => GO.fin (fun a hs => ⟨_, _, _, _, _, _, _, _, _, _, _, (.pointer (some ⟨b70, 0, none⟩)), _, b70, Box b70 167 [I 0, I 0], by exact hs.setAt 0 Z, HS.pk 5 [1, 2, 3, 0] Z, fun _ => Z, f13, f8, f0, f1, f2, f3, f4, f5, f6, f7, f9, f10, fun _ _ => Z, fun hh => (Bool.noConfusion ((hcl 12 (by decide) hh 11 (by decide)).symm.trans hb))⟩))
      | 12, _ =>
       have hb11 : b 11 = true := hd 11 (by decide)
       obtain rfl := f11 hb11
       have hb9 : b 9 = true := hd 9 (by decide)
       obtain rfl := f9 hb9
       obtain rfl := d1 hb11 hb
       refine GO.at hs (sW 3 HS Z ag167 Z fun wd72 HS => GO.fin (fun a hs => ⟨_, _, _, _, _, _, _, _, _, _, _, _, _, b70, Box b70 167 [I t64, I t65], hs, HS, f11, f13, f8, f0, f1, f2, f3, f4, f5, f6, f7, f9, f10, fun _ h => Bool.noConfusion h, fun _ => Z⟩))
      | 13, _ =>
       have hb10 : b 10 = true := hd 10 (by decide)
       obtain rfl := f10 hb10
       refine GO.at hs (aS Z (GO.fin (fun a hs => ⟨_, _, _, _, _, _, _, _, _, _, _, _, (.bool t66), b70, _, by exact hs.setAt 1 Z, HS, f11, fun _ => Z, f8, f0, f1, f2, f3, f4, f5, f6, f7, f9, f10, d1, c1⟩)))
      | k + 14, hj => exact absurd hj (Nat.not_lt.2 (Nat.le_add_left 14 k))
     ·
      intro b a w hall
      refine exI fun k1 => exI fun i1 => exI fun v1 => exI fun n1 => exI fun m1 => exI fun h1 => exI fun g1 => exI fun x1 => exI fun u1 => exI fun q1 => exI fun o1 => exI fun p1 => exI fun t1 => exI fun b70 => exI fun y1 => anI fun hs => anI fun HS => anI fun f11 => anI fun f13 => anI fun f8 => anI fun f0 => anI fun f1 => anI fun f2 => anI fun f3 => anI fun f4 => anI fun f5 => anI fun f6 => anI fun f7 => anI fun f9 => anI fun f10 => anI fun d1 => fun c1 => ?_
      obtain rfl := f11 (hall 11 (by decide))
      obtain rfl := f13 (hall 13 (by decide))
      obtain rfl := f8 (hall 8 (by decide))
      obtain rfl := f0 (hall 0 (by decide))
      obtain rfl := f1 (hall 1 (by decide))
      obtain rfl := f2 (hall 2 (by decide))
      obtain rfl := f3 (hall 3 (by decide))
      obtain rfl := f4 (hall 4 (by decide))
      obtain rfl := f5 (hall 5 (by decide))
      obtain rfl := f6 (hall 6 (by decide))
      obtain rfl := f7 (hall 7 (by decide))
      obtain rfl := f9 (hall 9 (by decide))
      obtain rfl := f10 (hall 10 (by decide))
      obtain rfl := c1 (hall 12 (by decide))
      refine G.at hs (rN 2 Z ?_)
      rcases iS H with ⟨c74, H⟩ | ⟨c74, H⟩
      ·
       refine rG (pS 3 Z (kN 27 Z (congrArg Bool.not (bnot_of c74)) (oF Z (oF Z (oF Z (GO.pickT Z Z Z Z Z (nL (rN 3 Z ?_))))))))
       obtain rfl := sI H
       exact rT _ func134 Z Z ⟨_, _, Z, (HS.pk 4 [2] Z)⟩
      refine rG (pS 3 Z (kN 27 Z (congrArg Bool.not c74) (oN Z (lW 3 HS Z ag167 (bK (oN Z (lW 1 HS Z ag167 (bK (oN Z (GO.eqlA Z Z Z ng167 (fun _ => eq167) Z (bK (GO.pickF Z Z Z Z Z (nL ?_)))))))))))))
      rcases iE H with ⟨c75, H⟩ | ⟨c75, H⟩
      ·
       refine yB Z (tT c75) (rN 2 Z ?_)
       obtain rfl := sI H
       exact rT _ func134 Z Z ⟨_, _, Z, (HS.pk 4 [2] Z)⟩
      refine nB Z (tF c75) (G.skip ?_)
      obtain ⟨c81, H⟩ := iN H
      refine rG (mV Z (lW 3 HS Z ag167 (GO.buildS (el := 167) ([I t64, I t65]) HS Z Z (fun _ => by kernel_rfl) Z fun b76 wd77 HS => GO.app1 (T := T_GFace) (j := 3) (jb := 0) (⟨t64, t65⟩ : GFace) HS Z Z flat_flat Z Z Z U165 inf167 Z Z Z c81 Z fun A79 c80 wd78 HS => aS Z (nL (rN 2 Z (G.weak ?_ (b2 e2 (Nat.lt_succ_of_le (lR _)) (Nat.le_of_succ_le c2) _ _ _ _ H (HS.pk 5 [1, 2, 3] Z))))))))
      exact ⟨Z, Z, Z, tv⟩
  refine G.weak ?_ (g2 K (lR _) _ _ _ _ H (HS.pk 3 [2, 1, 0] Z))
  exact ⟨Z, Z, Z, tv⟩
theorem spec_l12Plan32.calls {a1 : List (List GFace)} {o A : Int} {y_a : Nat → (Ty.slice 107 T_GFace).Lay} {r1 : List Int} {r2 : List (List GFace)} {r3 : List GL12Outer} {r4 : Bool} (HS : St w0 w (L)) (r_a : RdIn w0 L (Ty.slice 107 T_GFace) A_a c_a y_a a1) (H : spec_l12Plan32.f K a1 o A = some (r1, r2, r3, r4)) :
    Calls prog 104 #[.agg [.slice A_a a1.length c_a].toArray, I o, I A] w (spec_l12Plan32.post w0 L r1 r2 r3 r4) := by
  unfold spec_l12Plan32.f at H
  refine cG func104 Z ?_
  refine sQ (rG (bA HS Z fun b1 wd2 HS => GO.alloc HS Z zr65 Z Z fun b3 wd4 HS => aS Z (nL (sQ ?_))))
  obtain ⟨t5, t6, t7, t8, h9, H⟩ := bind4_elim H
  refine rG (lW 1 HS Z ag31 (fJ fok78 Z (spec_l08Count.calls HS (rD 2 r_a) h9) (fun _ wd21 ⟨A10, c11, y12, A13, c14, y15, A16, c17, y18, A19, c20, h22, HS⟩ => ⟨_, h22, (pS 3 Z (GO.alloc HS Z zr111 Z Z fun b23 wd24 HS => sW 0 HS Z ag111 Z fun wd25 HS => aS Z (nL (sQ ?_))))⟩)))
  obtain ⟨c26, H⟩ := iN H
  obtain ⟨c27, H⟩ := iN H
  refine rG (fL b23 1 fl111_1 Z (lB 0 HS Z na109 Z (mV Z (GO.ix Z Z Z U109 sz56 ((RdIn.own (j := 2) Z) _ HS).2.2.1 c26.1 c26.2 Z (GO.ldRd (T := (Ty.slice 2 (TInt .i64))) (n := o.toNat) (o := 0) HS (RdIn.own (j := 2) Z) Z Z (getD_some (d := []) (ltN c26)) Z Z na56 Z (mV Z (GO.ix Z Z Z U56 sz2 ((RdIn.elem (RdIn.own (j := 2) Z) c26.1 c26.2) _ HS).2.2.1 c27.1 c27.2 Z (GO.ldRd (T := (TInt .i64)) (n := A.toNat) (o := 0) HS (RdIn.elem (RdIn.own (j := 2) Z) c26.1 c26.2) Z Z (getD_some (d := 0) (ltN c27)) Z Z na2 Z (aS Z (nL (rN 7 Z ?_)))))))))))
  refine G.name (fun o1 v1 => ?_)
  have z1 : ∀ e1, e1 ≤ K → ∀ (x43 x44 : Int) (w : World), spec_l12Plan32.l1 K e1 a1 o A t6 x43 x44 = some (r1, r2, r3, r4) → St w0 w (Box b1 31 [.slice A_a a1.length c_a] :: Box b3 65 [.slice none 0 0, .slice none 0 0, .slice none 0 0] :: Box b23 111 [.slice A10 t5.length c11, .slice A13 t6.length c14, .slice A16 t7.length c17] :: Own (Ty.slice 2 (TInt .i64)) 56 A10 c11 y12 t5 :: Own (Ty.slice 2 (TInt .i64)) 56 A13 c14 y15 t6 :: Own (Ty.slice 2 (TInt .i64)) 56 A16 c17 y18 t7 :: L) → G prog 104 213 [(1, I o), (2, I A), (3, .pointer (some ⟨b1, 0, none⟩)), (6, .pointer (some ⟨b3, 0, none⟩)), (8, .pointer (some ⟨b23, 0, none⟩)), (10, I ((t6.getD o.toNat []).getD A.toNat 0)), (11, I x43), (12, I x44)] o1 w (spec_l12Plan32.post w0 L r1 r2 r3 r4) := by
   intro e1
   induction e1 using Nat.strongRecOn with
   | _ e1 u1 =>
    intro a2 x43 x44 w H HS
    cases e1 with
    | zero => rw [spec_l12Plan32.l1] at H; cases H
    | succ f1 =>
     rw [spec_l12Plan32.l1] at H
     subst v1
     refine rN 2 Z (rG (mV Z (fL b23 1 fl111_1 Z (lB 2 HS Z na109 Z (lS Z Z U109 Z (GO.lss Z Z Z Z (nL ?_)))))))
     rcases iE H with ⟨c344, H⟩ | ⟨c344, H⟩
     ·
      refine yB Z (tT c344) (rN 7 Z ?_)
      refine G.name (fun m1 p1 => ?_)
      have q1 : ∀ c1, c1 ≤ f1 → ∀ (x348 x349 : Int) (w : World), spec_l12Plan32.l5 K c1 a1 o A t6 x44 x348 x349 = some (r1, r2, r3, r4) → St w0 w (Box b1 31 [.slice A_a a1.length c_a] :: Box b3 65 [.slice none 0 0, .slice none 0 0, .slice none 0 0] :: Box b23 111 [.slice A10 t5.length c11, .slice A13 t6.length c14, .slice A16 t7.length c17] :: Own (Ty.slice 2 (TInt .i64)) 56 A10 c11 y12 t5 :: Own (Ty.slice 2 (TInt .i64)) 56 A13 c14 y15 t6 :: Own (Ty.slice 2 (TInt .i64)) 56 A16 c17 y18 t7 :: L) → G prog 104 213 [(1, I o), (2, I A), (3, .pointer (some ⟨b1, 0, none⟩)), (6, .pointer (some ⟨b3, 0, none⟩)), (8, .pointer (some ⟨b23, 0, none⟩)), (10, I ((t6.getD o.toNat []).getD A.toNat 0)), (11, I x348), (12, I x44), (13, I x349)] m1 w (spec_l12Plan32.post w0 L r1 r2 r3 r4) := by
       intro c1
       induction c1 using Nat.strongRecOn with
       | _ c1 i1 =>
        intro h1 x348 x349 w H HS
        cases c1 with
        | zero => rw [spec_l12Plan32.l5] at H; cases H
        | succ g1 =>
         rw [spec_l12Plan32.l5] at H
         subst p1
         refine rN 3 Z ?_
         rcases iS H with ⟨c354, H⟩ | ⟨c354, H⟩
         ·
          refine nB Z (tF c354) (rN 4 Z (G.weak ?_ (u1 g1 (by omega) (by omega) _ _ _ H HS)))
          exact ⟨Z, Z, Z, Z, Z, Z, Z, Z, tv⟩
         refine yB Z (tT c354) (rN 4 Z ?_)
         obtain ⟨c355, H⟩ := iN H
         obtain ⟨c356, H⟩ := iN H
         refine rG (fL b23 1 fl111_1 Z (lB 2 HS Z na109 Z (mV Z (GO.ix Z Z Z U109 sz56 ((RdIn.own (j := 4) Z) _ HS).2.2.1 c355.1 c355.2 Z (GO.ldRd (T := (Ty.slice 2 (TInt .i64))) (n := x44.toNat) (o := 0) HS (RdIn.own (j := 4) Z) Z Z (getD_some (d := []) (ltN c355)) Z Z na56 Z (mV Z (GO.ix Z Z Z U56 sz2 ((RdIn.elem (RdIn.own (j := 4) Z) c355.1 c355.2) _ HS).2.2.1 c356.1 c356.2 Z (GO.ldRd (T := (TInt .i64)) (n := x349.toNat) (o := 0) HS (RdIn.elem (RdIn.own (j := 4) Z) c355.1 c355.2) Z Z (getD_some (d := 0) (ltN c356)) Z Z na2 Z (pS 2 Z (nL ?_))))))))))
         rcases iS H with ⟨c357, H⟩ | ⟨c357, H⟩
         ·
          refine nB Z (tF c357) (rN 4 Z (G.weak ?_ (i1 g1 (Nat.lt_succ_of_le (lR _)) (Nat.le_of_succ_le h1) _ _ _ H HS)))
          exact ⟨Z, Z, Z, Z, Z, Z, Z, Z, Z, tv⟩
         refine yB Z (tT c357) (rN 4 Z (G.weak ?_ (i1 g1 (Nat.lt_succ_of_le (lR _)) (Nat.le_of_succ_le h1) _ _ _ H HS)))
         exact ⟨Z, Z, Z, Z, Z, Z, Z, Z, Z, tv⟩
      refine G.weak ?_ (q1 f1 (lR _) _ _ _ H HS)
      exact ⟨Z, Z, Z, Z, Z, Z, Z, Z, Z, tv⟩
     refine nB Z (tF c344) (rN 4 Z ?_)
     rcases iS H with ⟨c358, H⟩ | ⟨c358, H⟩
     ·
      refine yB Z (nF c358) (sQ (rG (GO.buildV (.agg [.slice none 0 0, .slice none 0 0, .slice none 0 0].toArray) Z Z (fun _ => by kernel_rfl) Z (sW 1 HS Z ag65 Z fun wd642 HS => aS Z (nL ?_)))))
      replace HS := HS.nilRow (TInt .i64) 2 (fun _ => ())
      replace HS := HS.nilRow (Ty.slice 107 T_GFace) 77 (fun _ => ⟨none, 0, (fun _ => ())⟩)
      replace HS := HS.nilRow T_GL12Outer 122 (fun _ => ())
      obtain ⟨rfl, rfl, rfl, rfl⟩ := some4 H
      exact G.ret2 _ _ func104 Z (Res1.boxA (j := 4) (vs := [.slice none 0 0, .slice none 0 0, .slice none 0 0]) HS Z Z Z ag65) Z ⟨_, _, _, _, _, _, _, Z, (HS.pk 9 [2, 1, 0] Z)⟩
     refine nB Z (nT c358) (rN 2 Z ?_)
     obtain ⟨t359, t360, t361, h362, H⟩ := bind3_elim H
     refine rG (lW 0 HS Z ag31 (fJ fok132 Z (spec_BoundaryClasses.calls HS (rD 6 r_a) h362) (fun _ wd369 ⟨A363, c364, A365, c366, A367, c368, h370, HS⟩ => ⟨_, h370, (pS 7 Z (nL (rN 2 Z ?_)))⟩)))
     obtain ⟨t385, h386, H⟩ := bI H
     obtain ⟨c392, H⟩ := iN H
     obtain ⟨c393, H⟩ := iN H
     rcases iE H with ⟨c394, H⟩ | ⟨c394, H⟩
     ·
      refine rG (lW 3 HS Z ag31 (fJ fok133 Z (spec_l08Signs.calls HS (rD 9 r_a) h386) (fun _ wd390 ⟨A387, c388, y389, h391, HS⟩ => ⟨_, h391, (mV Z (GO.ix Z Z Z U109 sz56 ((RdIn.own (j := 0) Z) _ HS).2.2.1 c392.1 c392.2 Z (GO.ldRd (T := (Ty.slice 2 (TInt .i64))) (n := o.toNat) (o := 0) HS (RdIn.own (j := 0) Z) Z Z (getD_some (d := []) (ltN c392)) Z Z na56 Z (mV Z (GO.ix Z Z Z U56 sz2 ((RdIn.elem (RdIn.own (j := 0) Z) c392.1 c392.2) _ HS).2.2.1 c393.1 c393.2 Z (GO.ldRd (T := (TInt .i64)) (n := A.toNat) (o := 0) HS (RdIn.elem (RdIn.own (j := 0) Z) c392.1 c392.2) Z Z (getD_some (d := 0) (ltN c393)) Z Z na2 Z (pS 2 Z (kN 80 Z (tT c394) (oF Z (oF Z (oF Z (GO.pickT Z Z Z Z Z ?_))))))))))))⟩)))
      refine nL (rN 2 Z (rG (GO.buildV (.agg [.slice none 0 0, .slice none 0 0, .slice none 0 0].toArray) Z Z (fun _ => by kernel_rfl) Z (sW 5 HS Z ag65 Z fun wd395 HS => aS Z (nL ?_)))))
      replace HS := HS.nilRow (TInt .i64) 2 (fun _ => ())
      replace HS := HS.nilRow (Ty.slice 107 T_GFace) 77 (fun _ => ⟨none, 0, (fun _ => ())⟩)
      replace HS := HS.nilRow T_GL12Outer 122 (fun _ => ())
      obtain ⟨rfl, rfl, rfl, rfl⟩ := some4 H
      exact G.ret2 _ _ func104 Z (Res1.boxA (j := 8) (vs := [.slice none 0 0, .slice none 0 0, .slice none 0 0]) HS Z Z Z ag65) Z ⟨_, _, _, _, _, _, _, Z, (HS.pk 13 [2, 1, 0] Z)⟩
     obtain ⟨t396, h397, H⟩ := bI H
     refine rG (lW 3 HS Z ag31 (fJ fok133 Z (spec_l08Signs.calls HS (rD 9 r_a) h386) (fun _ wd390 ⟨A387, c388, y389, h391, HS⟩ => ⟨_, h391, (mV Z (GO.ix Z Z Z U109 sz56 ((RdIn.own (j := 0) Z) _ HS).2.2.1 c392.1 c392.2 Z (GO.ldRd (T := (Ty.slice 2 (TInt .i64))) (n := o.toNat) (o := 0) HS (RdIn.own (j := 0) Z) Z Z (getD_some (d := []) (ltN c392)) Z Z na56 Z (mV Z (GO.ix Z Z Z U56 sz2 ((RdIn.elem (RdIn.own (j := 0) Z) c392.1 c392.2) _ HS).2.2.1 c393.1 c393.2 Z (GO.ldRd (T := (TInt .i64)) (n := A.toNat) (o := 0) HS (RdIn.elem (RdIn.own (j := 0) Z) c392.1 c392.2) Z Z (getD_some (d := 0) (ltN c393)) Z Z na2 Z (pS 2 Z (kN 80 Z (tF c394) (oN Z (mV Z (bK (oN Z ?_))))))))))))⟩)))
     refine mV Z (bK (oN Z (fJ fok80 Z (spec_l11Has.calls HS (RdIn.own (j := 2) Z) h397) (fun _ wd398 ⟨h399, HS⟩ => ⟨_, h399, (bK (GO.pickF Z Z Z Z Z (nL ?_)))⟩))))
     rcases iE H with ⟨c400, H⟩ | ⟨c400, H⟩
     ·
      refine yB Z c400 (sQ (rG (GO.buildV (.agg [.slice none 0 0, .slice none 0 0, .slice none 0 0].toArray) Z Z (fun _ => by kernel_rfl) Z (sW 5 HS Z ag65 Z fun wd401 HS => aS Z (nL ?_)))))
      replace HS := HS.nilRow (TInt .i64) 2 (fun _ => ())
      replace HS := HS.nilRow (Ty.slice 107 T_GFace) 77 (fun _ => ⟨none, 0, (fun _ => ())⟩)
      replace HS := HS.nilRow T_GL12Outer 122 (fun _ => ())
      obtain ⟨rfl, rfl, rfl, rfl⟩ := some4 H
      exact G.ret2 _ _ func104 Z (Res1.boxA (j := 8) (vs := [.slice none 0 0, .slice none 0 0, .slice none 0 0]) HS Z Z Z ag65) Z ⟨_, _, _, _, _, _, _, Z, (HS.pk 13 [2, 1, 0] Z)⟩
     refine nB Z (bnot_of c400) (rN 2 Z ?_)
     obtain ⟨t402, h403, H⟩ := bI H
     refine rG (lW 4 HS Z ag31 (mV Z (fJ fok134 Z (spec_l08Ring.calls HS (rD 10 r_a) h403) (fun _ wd406 ⟨A404, c405, h407, HS⟩ => ⟨_, h407, (aS Z (nL (rN 2 Z ?_)))⟩))))
     rcases iS H with ⟨c420, H⟩ | ⟨c420, H⟩
     ·
      refine G.lex mixed [0, 1, 2, 3, 4, 5, 6, 8, 9, 10, 7, 11, 12, 13, 14, 15, 16, 17, 19, 20, 21, 18, 22, 23, 24, 25, 26, 27, 28, 30, 31, 32, 29, 33, 34, 35] (by kernel_rfl) ?_
      replace HS := HS.drew
      refine GX.ps 1 Z (GX.l1 Z Z Z (fun _ g => lS Z Z U165 Z g) Z (GX.ps 1 Z (qL Z Z (fun _ _ g => mV Z (kN 92 Z (nF c420) g)) Z (qL Z Z (fun _ _ g => oF Z g) Z (qL Z Z (fun _ _ g => oF Z g) Z (qL Z Z (fun _ _ g => oF Z g) Z (qL Z Z (fun _ _ g => oF Z g) Z (qL Z Z (fun _ _ g => oF Z g) Z (qL Z Z (fun _ _ g => oF Z g) Z (GX.l1 Z Z Z (fun _ g => oF Z g) Z (GX.l1 Z Z Z (fun _ g => oF Z g) Z (qL Z Z (fun _ _ g => oF Z g) Z (GX.ps 2 Z (qL Z Z (fun _ _ g => oF Z g) Z ?_))))))))))))))
      refine qL Z Z (fun _ _ g => oF Z g) Z (qL Z Z (fun _ _ g => oF Z g) Z (qL Z Z (fun _ _ g => oF Z g) Z (qL Z Z (fun _ _ g => oF Z g) Z (qL Z Z (fun _ _ g => oF Z g) Z (GX.l1 Z Z Z (fun _ g => oF Z g) Z (GX.l1 Z Z Z (fun _ g => oF Z g) Z (qL Z Z (fun _ _ g => oF Z g) Z (GX.ps 2 Z (qL Z Z (fun _ _ g => oF Z g) Z (qL Z Z (fun _ _ g => oF Z g) Z (qL Z Z (fun _ _ g => oF Z g) Z (qL Z Z (fun _ _ g => oF Z g) Z (qL Z Z (fun _ _ g => oF Z g) Z (qL Z Z (fun _ _ g => oF Z g) Z ?_))))))))))))))
      refine GX.l1 Z Z Z (fun _ g => oF Z g) Z (GX.l1 Z Z Z (fun _ g => oF Z g) Z (qL Z Z (fun _ _ g => oF Z g) Z (GX.ps 1 Z (GX.nil (rN 2 Z (rG (GO.buildV (.agg [.slice none 0 0, .slice none 0 0, .slice none 0 0].toArray) Z Z (fun _ => by kernel_rfl) Z (sW 6 HS Z ag65 Z fun wd641 HS => aS Z (nL ?_)))))))))
      replace HS := HS.nilRow (TInt .i64) 2 (fun _ => ())
      replace HS := HS.nilRow (Ty.slice 107 T_GFace) 77 (fun _ => ⟨none, 0, (fun _ => ())⟩)
      replace HS := HS.nilRow T_GL12Outer 122 (fun _ => ())
      obtain ⟨rfl, rfl, rfl, rfl⟩ := some4 H
      exact G.ret2 _ _ func104 Z (Res1.boxA (j := 9) (vs := [.slice none 0 0, .slice none 0 0, .slice none 0 0]) HS Z Z Z ag65) Z ⟨_, _, _, _, _, _, _, Z, (HS.pk 14 [2, 1, 0] Z)⟩
     obtain ⟨c421, H⟩ := iN H
     have h422 := ((RdIn.own (j := 0) Z) _ HS).2.2.1
     obtain ⟨e423, h424, H⟩ := bnd_elim H
     obtain ⟨c425, H⟩ := iN H
     have h426 := ((RdIn.own (j := 0) Z) _ HS).2.2.1
     obtain ⟨e427, h428, H⟩ := bnd_elim H
     rcases iE H with ⟨c429, H⟩ | ⟨c429, H⟩
     ·
      refine G.lex mixed [0, 1, 2, 3, 4, 5, 6, 8, 9, 10, 7, 11, 12, 13, 14, 15, 16, 17, 19, 20, 21, 18, 22, 23, 24, 25, 26, 27, 28, 30, 31, 32, 29, 33, 34, 35] (by kernel_rfl) ?_
      replace HS := HS.drew
      refine GX.ps 1 Z (GX.l1 Z Z Z (fun _ g => lS Z Z U165 Z g) Z (GX.ps 1 Z (qL Z Z (fun _ _ g => mV Z (kN 92 Z (nT c420) g)) Z (qL Z Z (fun _ _ g => oN Z (mV Z (bK g))) Z (qL Z Z (fun _ _ g => oN Z (GO.ix Z Z Z U165 sz167 h422 c421.1 c421.2 Z (bK g))) Z (qL Z Z (fun _ _ g => oN Z (GO.fld (ea A404 (0 * 2)) Z Z fl167_0 Z Z (bK g))) Z (qL Z Z (fun _ _ g => oN Z (mV Z (bK g))) Z (qL Z Z (fun _ _ g => oN Z (GO.ix Z Z Z U165 sz167 h426 c425.1 c425.2 Z (bK g))) Z (qL Z Z (fun _ _ g => oN Z (GO.fld (ea A404 (1 * 2)) Z Z fl167_0 Z Z (bK g))) Z (GX.l1 Z Z Z (fun _ g => oN Z (GO.ldRd (T := T_GFace) (n := 0) (o := 0) HS (RdIn.own (j := 0) Z) Z Z (getD_eq (ltN c421) h424) Z Z na2 Z (bK g))) Z (GX.l1 Z Z Z (fun _ g => oN Z (GO.ldRd (T := T_GFace) (n := 1) (o := 0) HS (RdIn.own (j := 0) Z) Z Z (getD_eq (ltN c425) h428) Z Z na2 Z (bK g))) Z (qL Z Z (fun _ _ g => oN Z (GO.eql Z Z Z Z (bK g))) Z (GX.ps 1 Z (qL Z Z (fun _ _ g => mV Z (kN 103 Z (tT c429) g)) Z ?_))))))))))))))
      refine qL Z Z (fun _ _ g => oF Z g) Z (qL Z Z (fun _ _ g => oF Z g) Z (qL Z Z (fun _ _ g => oF Z g) Z (qL Z Z (fun _ _ g => oF Z g) Z (qL Z Z (fun _ _ g => oF Z g) Z (qL Z Z (fun _ _ g => oF Z g) Z (GX.l1 Z Z Z (fun _ g => oF Z g) Z (GX.l1 Z Z Z (fun _ g => oF Z g) Z (qL Z Z (fun _ _ g => oF Z g) Z (GX.ps 2 Z (qL Z Z (fun _ _ g => oF Z g) Z (qL Z Z (fun _ _ g => oF Z g) Z (qL Z Z (fun _ _ g => oF Z g) Z (qL Z Z (fun _ _ g => oF Z g) Z (qL Z Z (fun _ _ g => oF Z g) Z ?_))))))))))))))
      refine qL Z Z (fun _ _ g => oF Z g) Z (GX.l1 Z Z Z (fun _ g => oF Z g) Z (GX.l1 Z Z Z (fun _ g => oF Z g) Z (qL Z Z (fun _ _ g => oF Z g) Z (GX.ps 1 Z (GX.nil (rN 2 Z (rG (GO.buildV (.agg [.slice none 0 0, .slice none 0 0, .slice none 0 0].toArray) Z Z (fun _ => by kernel_rfl) Z (sW 6 HS Z ag65 Z fun wd430 HS => aS Z (nL ?_))))))))))
      replace HS := HS.nilRow (TInt .i64) 2 (fun _ => ())
      replace HS := HS.nilRow (Ty.slice 107 T_GFace) 77 (fun _ => ⟨none, 0, (fun _ => ())⟩)
      replace HS := HS.nilRow T_GL12Outer 122 (fun _ => ())
      obtain ⟨rfl, rfl, rfl, rfl⟩ := some4 H
      exact G.ret2 _ _ func104 Z (Res1.boxA (j := 9) (vs := [.slice none 0 0, .slice none 0 0, .slice none 0 0]) HS Z Z Z ag65) Z ⟨_, _, _, _, _, _, _, Z, (HS.pk 14 [2, 1, 0] Z)⟩
     obtain ⟨c431, H⟩ := iN H
     obtain ⟨e432, h433, H⟩ := bnd_elim H
     rcases iE H with ⟨c434, H⟩ | ⟨c434, H⟩
     ·
      refine G.lex mixed [0, 1, 2, 3, 4, 5, 6, 8, 9, 10, 7, 11, 12, 13, 14, 15, 16, 17, 19, 20, 21, 18, 22, 23, 24, 25, 26, 27, 28, 30, 31, 32, 29, 33, 34, 35] (by kernel_rfl) ?_
      replace HS := HS.drew
      refine GX.ps 1 Z (GX.l1 Z Z Z (fun _ g => lS Z Z U165 Z g) Z (GX.ps 1 Z (qL Z Z (fun _ _ g => mV Z (kN 92 Z (nT c420) g)) Z (qL Z Z (fun _ _ g => oN Z (mV Z (bK g))) Z (qL Z Z (fun _ _ g => oN Z (GO.ix Z Z Z U165 sz167 h422 c421.1 c421.2 Z (bK g))) Z (qL Z Z (fun _ _ g => oN Z (GO.fld (ea A404 (0 * 2)) Z Z fl167_0 Z Z (bK g))) Z (qL Z Z (fun _ _ g => oN Z (mV Z (bK g))) Z (qL Z Z (fun _ _ g => oN Z (GO.ix Z Z Z U165 sz167 h426 c425.1 c425.2 Z (bK g))) Z (qL Z Z (fun _ _ g => oN Z (GO.fld (ea A404 (1 * 2)) Z Z fl167_0 Z Z (bK g))) Z (GX.l1 Z Z Z (fun _ g => oN Z (GO.ldRd (T := T_GFace) (n := 0) (o := 0) HS (RdIn.own (j := 0) Z) Z Z (getD_eq (ltN c421) h424) Z Z na2 Z (bK g))) Z (GX.l1 Z Z Z (fun _ g => oN Z (GO.ldRd (T := T_GFace) (n := 1) (o := 0) HS (RdIn.own (j := 0) Z) Z Z (getD_eq (ltN c425) h428) Z Z na2 Z (bK g))) Z (qL Z Z (fun _ _ g => oN Z (GO.eql Z Z Z Z (bK g))) Z (GX.ps 1 Z (qL Z Z (fun _ _ g => mV Z (kN 103 Z (tF c429) g)) Z ?_))))))))))))))
      refine qL Z Z (fun _ _ g => oN Z (mV Z (bK g))) Z (qL Z Z (fun _ _ g => oN Z (GO.ix Z Z Z U165 sz167 ((RdIn.own (j := 0) Z) _ HS).2.2.1 c425.1 c425.2 Z (bK g))) Z (qL Z Z (fun _ _ g => oN Z (GO.fld (ea A404 (1 * 2)) Z Z fl167_0 Z Z (bK g))) Z (qL Z Z (fun _ _ g => oN Z (mV Z (bK g))) Z (qL Z Z (fun _ _ g => oN Z (GO.ix Z Z Z U165 sz167 ((RdIn.own (j := 0) Z) _ HS).2.2.1 c431.1 c431.2 Z (bK g))) Z (qL Z Z (fun _ _ g => oN Z (GO.fld (ea A404 (2 * 2)) Z Z fl167_0 Z Z (bK g))) Z (GX.l1 Z Z Z (fun _ g => oN Z (GO.ldRd (T := T_GFace) (n := 1) (o := 0) HS (RdIn.own (j := 0) Z) Z Z (getD_eq (ltN c425) h428) Z Z na2 Z (bK g))) Z (GX.l1 Z Z Z (fun _ g => oN Z (GO.ldRd (T := T_GFace) (n := 2) (o := 0) HS (RdIn.own (j := 0) Z) Z Z (getD_eq (ltN c431) h433) Z Z na2 Z (bK g))) Z (qL Z Z (fun _ _ g => oN Z (GO.eql Z Z Z Z (bK g))) Z (GX.ps 1 Z (qL Z Z (fun _ _ g => mV Z (kN 114 Z (tT c434) g)) Z (qL Z Z (fun _ _ g => oF Z g) Z (qL Z Z (fun _ _ g => oF Z g) Z (qL Z Z (fun _ _ g => oF Z g) Z (qL Z Z (fun _ _ g => oF Z g) Z ?_))))))))))))))
      refine qL Z Z (fun _ _ g => oF Z g) Z (qL Z Z (fun _ _ g => oF Z g) Z (GX.l1 Z Z Z (fun _ g => oF Z g) Z (GX.l1 Z Z Z (fun _ g => oF Z g) Z (qL Z Z (fun _ _ g => oF Z g) Z (GX.ps 1 Z (GX.nil (rN 2 Z (rG (GO.buildV (.agg [.slice none 0 0, .slice none 0 0, .slice none 0 0].toArray) Z Z (fun _ => by kernel_rfl) Z (sW 6 HS Z ag65 Z fun wd435 HS => aS Z (nL ?_)))))))))))
      replace HS := HS.nilRow (TInt .i64) 2 (fun _ => ())
      replace HS := HS.nilRow (Ty.slice 107 T_GFace) 77 (fun _ => ⟨none, 0, (fun _ => ())⟩)
      replace HS := HS.nilRow T_GL12Outer 122 (fun _ => ())
      obtain ⟨rfl, rfl, rfl, rfl⟩ := some4 H
      exact G.ret2 _ _ func104 Z (Res1.boxA (j := 9) (vs := [.slice none 0 0, .slice none 0 0, .slice none 0 0]) HS Z Z Z ag65) Z ⟨_, _, _, _, _, _, _, Z, (HS.pk 14 [2, 1, 0] Z)⟩
     refine G.lex mixed [0, 1, 2, 3, 4, 5, 6, 8, 9, 10, 7, 11, 12, 13, 14, 15, 16, 17, 19, 20, 21, 18, 22, 23, 24, 25, 26, 27, 28, 30, 31, 32, 29, 33, 34, 35] (by kernel_rfl) ?_
     replace HS := HS.drew
     refine GX.ps 1 Z (GX.l1 Z Z Z (fun _ g => lS Z Z U165 Z g) Z (GX.ps 1 Z (qL Z Z (fun _ _ g => mV Z (kN 92 Z (nT c420) g)) Z (qL Z Z (fun _ _ g => oN Z (mV Z (bK g))) Z (qL Z Z (fun _ _ g => oN Z (GO.ix Z Z Z U165 sz167 h422 c421.1 c421.2 Z (bK g))) Z (qL Z Z (fun _ _ g => oN Z (GO.fld (ea A404 (0 * 2)) Z Z fl167_0 Z Z (bK g))) Z (qL Z Z (fun _ _ g => oN Z (mV Z (bK g))) Z (qL Z Z (fun _ _ g => oN Z (GO.ix Z Z Z U165 sz167 h426 c425.1 c425.2 Z (bK g))) Z (qL Z Z (fun _ _ g => oN Z (GO.fld (ea A404 (1 * 2)) Z Z fl167_0 Z Z (bK g))) Z (GX.l1 Z Z Z (fun _ g => oN Z (GO.ldRd (T := T_GFace) (n := 0) (o := 0) HS (RdIn.own (j := 0) Z) Z Z (getD_eq (ltN c421) h424) Z Z na2 Z (bK g))) Z (GX.l1 Z Z Z (fun _ g => oN Z (GO.ldRd (T := T_GFace) (n := 1) (o := 0) HS (RdIn.own (j := 0) Z) Z Z (getD_eq (ltN c425) h428) Z Z na2 Z (bK g))) Z (qL Z Z (fun _ _ g => oN Z (GO.eql Z Z Z Z (bK g))) Z (GX.ps 1 Z (qL Z Z (fun _ _ g => mV Z (kN 103 Z (tF c429) g)) Z ?_))))))))))))))
     refine qL Z Z (fun _ _ g => oN Z (mV Z (bK g))) Z (qL Z Z (fun _ _ g => oN Z (GO.ix Z Z Z U165 sz167 ((RdIn.own (j := 0) Z) _ HS).2.2.1 c425.1 c425.2 Z (bK g))) Z (qL Z Z (fun _ _ g => oN Z (GO.fld (ea A404 (1 * 2)) Z Z fl167_0 Z Z (bK g))) Z (qL Z Z (fun _ _ g => oN Z (mV Z (bK g))) Z (qL Z Z (fun _ _ g => oN Z (GO.ix Z Z Z U165 sz167 ((RdIn.own (j := 0) Z) _ HS).2.2.1 c431.1 c431.2 Z (bK g))) Z (qL Z Z (fun _ _ g => oN Z (GO.fld (ea A404 (2 * 2)) Z Z fl167_0 Z Z (bK g))) Z (GX.l1 Z Z Z (fun _ g => oN Z (GO.ldRd (T := T_GFace) (n := 1) (o := 0) HS (RdIn.own (j := 0) Z) Z Z (getD_eq (ltN c425) h428) Z Z na2 Z (bK g))) Z (GX.l1 Z Z Z (fun _ g => oN Z (GO.ldRd (T := T_GFace) (n := 2) (o := 0) HS (RdIn.own (j := 0) Z) Z Z (getD_eq (ltN c431) h433) Z Z na2 Z (bK g))) Z (qL Z Z (fun _ _ g => oN Z (GO.eql Z Z Z Z (bK g))) Z (GX.ps 1 Z (qL Z Z (fun _ _ g => mV Z (kN 114 Z (tF c434) g)) Z (qL Z Z (fun _ _ g => oN Z (mV Z (bK g))) Z (qL Z Z (fun _ _ g => oN Z (GO.ix Z Z Z U165 sz167 ((RdIn.own (j := 0) Z) _ HS).2.2.1 c421.1 c421.2 Z (bK g))) Z (qL Z Z (fun _ _ g => oN Z (GO.fld (ea A404 (0 * 2)) Z Z fl167_0 Z Z (bK g))) Z (qL Z Z (fun _ _ g => oN Z (mV Z (bK g))) Z ?_))))))))))))))
     refine qL Z Z (fun _ _ g => oN Z (GO.ix Z Z Z U165 sz167 ((RdIn.own (j := 0) Z) _ HS).2.2.1 c431.1 c431.2 Z (bK g))) Z (qL Z Z (fun _ _ g => oN Z (GO.fld (ea A404 (2 * 2)) Z Z fl167_0 Z Z (bK g))) Z (GX.l1 Z Z Z (fun _ g => oN Z (GO.ldRd (T := T_GFace) (n := 0) (o := 0) HS (RdIn.own (j := 0) Z) Z Z (getD_eq (ltN c421) h424) Z Z na2 Z (bK g))) Z (GX.l1 Z Z Z (fun _ g => oN Z (GO.ldRd (T := T_GFace) (n := 2) (o := 0) HS (RdIn.own (j := 0) Z) Z Z (getD_eq (ltN c431) h433) Z Z na2 Z (bK g))) Z (qL Z Z (fun _ _ g => oN Z (GO.eql Z Z Z Z (bK g))) Z (GX.ps 1 Z (GX.nil ?_))))))
     rcases iE H with ⟨c436, H⟩ | ⟨c436, H⟩
     ·
      refine yB Z (tT c436) (sQ (rG (GO.buildV (.agg [.slice none 0 0, .slice none 0 0, .slice none 0 0].toArray) Z Z (fun _ => by kernel_rfl) Z (sW 6 HS Z ag65 Z fun wd437 HS => aS Z (nL ?_)))))
      replace HS := HS.nilRow (TInt .i64) 2 (fun _ => ())
      replace HS := HS.nilRow (Ty.slice 107 T_GFace) 77 (fun _ => ⟨none, 0, (fun _ => ())⟩)
      replace HS := HS.nilRow T_GL12Outer 122 (fun _ => ())
      obtain ⟨rfl, rfl, rfl, rfl⟩ := some4 H
      exact G.ret2 _ _ func104 Z (Res1.boxA (j := 9) (vs := [.slice none 0 0, .slice none 0 0, .slice none 0 0]) HS Z Z Z ag65) Z ⟨_, _, _, _, _, _, _, Z, (HS.pk 14 [2, 1, 0] Z)⟩
     refine nB Z (tF c436) (rN 2 Z ?_)
     obtain ⟨t438, h439, H⟩ := bI H
     obtain ⟨t444, h445, H⟩ := bI H
     refine rG (fJ fok83 Z (spec_l07Free.calls HS  h439) (fun _ wd442 ⟨A440, c441, h443, HS⟩ => ⟨_, h443, (fJ fok83 Z (spec_l07Free.calls HS  h445) (fun _ wd448 ⟨A446, c447, h449, HS⟩ => ⟨_, h449, (GO.buildS (el := 77) ([.slice A440 t438.length c441, .slice A446 t444.length c447]) HS Z Z (fun _ => by kernel_rfl) Z fun b450 wd451 HS => ?_)⟩))⟩))
     obtain ⟨y452, HS⟩ := exLay (St.partB (St.partC (St.partC (St.part0 (T := (Ty.slice 107 T_GFace)) 2 (fun k => match k with | 0 => ⟨A440, c441, (fun _ => ())⟩ | _ => ⟨A446, c447, (fun _ => ())⟩) (HS.pk 14 [1, 2, 0, 3, 4, 5, 6, 7, 8, 9, 10, 11, 12, 13] Z)))) Z (bndL Z))
     refine GO.lenC (t := 128) (m := ([t438, t444] : List (List GFace)).length) (c' := ([t438, t444] : List (List GFace)).length) Z Z Z (GO.buildV (.agg [.slice none 0 0, .slice (some ⟨b450, 0, none⟩) ([t438, t444] : List (List GFace)).length (([t438, t444] : List (List GFace)).length), .slice none 0 0].toArray) Z Z (fun _ => by kernel_rfl) Z (GO.alloc HS Z zr65 Z Z fun b453 wd454 HS => sW 0 HS Z ag65 Z fun wd455 HS => nL (sQ ?_)))
     obtain ⟨c456, H⟩ := iN H
     obtain ⟨c457, H⟩ := iN H
     refine rG (fL b453 1 fl65_1 Z (lB 0 HS Z na29 Z (GO.ix Z Z Z U29 sz77 (fun _ => ⟨_, _, Z⟩) c456.1 c456.2 Z (GO.ldRd (T := (Ty.slice 107 T_GFace)) (n := 0) (o := 0) HS (RdIn.own (j := 1) Z) Z Z (getD_some (d := []) (ltN c456)) Z Z na77 Z (GO.buildV (.agg [I 1, I 0].toArray) Z Z (fun _ => by kernel_rfl) Z (GO.ix Z Z Z U77 sz107 ((RdIn.elem (RdIn.own (j := 1) Z) c456.1 c456.2) _ HS).2.2.1 c457.1 c457.2 Z ?_))))))
     replace HS := HS.pk 13 [1, 0, 2, 3, 4, 5, 6, 7, 8, 9, 10, 11, 12] Z
     refine GO.stSub (S := T_GFace) (k := 0) (n := 0) (o := 0) (vs := [I 1, I 0]) (⟨1, 0⟩ : GFace) HS flat_flat Z Z Z Z (htA ag107) Z (ltN c456) (getD_some (d := z_GFace) (ltN c457)) Z Z fun wd458 HS => nL ?_
     replace HS := HS.boxEq (j := 1) (cs' := [.slice none 0 0, .slice (some ⟨b450, 0, none⟩) (([t438, t444] : List (List GFace)).set 0 ((([t438, t444] : List (List GFace)).getD 0 []).set 0 (⟨1, 0⟩ : GFace))).length (([t438, t444] : List (List GFace)).length), .slice none 0 0]) Z (by simp only [List.length_set] <;> rfl)
     refine sQ ?_
     obtain ⟨c459, H⟩ := iN H
     obtain ⟨c460, H⟩ := iN H
     refine rG (fL b453 1 fl65_1 Z (lB 1 HS Z na29 Z (GO.ix Z Z Z U29 sz77 (fun _ => ⟨_, _, Z⟩) c459.1 c459.2 Z (GO.ldRd (T := (Ty.slice 107 T_GFace)) (n := 1) (o := 0) HS (RdIn.own (j := 0) Z) Z Z (getD_some (d := []) (ltN c459)) Z Z na77 Z (GO.buildV (.agg [I 0, I 0].toArray) Z Z (fun _ => by kernel_rfl) Z (GO.ix Z Z Z U77 sz107 ((RdIn.elem (RdIn.own (j := 0) Z) c459.1 c459.2) _ HS).2.2.1 c460.1 c460.2 Z (GO.stSub (S := T_GFace) (k := 1) (n := 0) (o := 0) (vs := [I 0, I 0]) (⟨0, 0⟩ : GFace) HS flat_flat Z Z Z Z (htA ag107) Z (ltN c459) (getD_some (d := z_GFace) (ltN c460)) Z Z fun wd461 HS => nL ?_)))))))
     replace HS := HS.boxEq (j := 1) (cs' := [.slice none 0 0, .slice (some ⟨b450, 0, none⟩) ((([t438, t444] : List (List GFace)).set 0 ((([t438, t444] : List (List GFace)).getD 0 []).set 0 (⟨1, 0⟩ : GFace))).set 1 (((([t438, t444] : List (List GFace)).set 0 ((([t438, t444] : List (List GFace)).getD 0 []).set 0 (⟨1, 0⟩ : GFace))).getD 1 []).set 0 (⟨0, 0⟩ : GFace))).length (([t438, t444] : List (List GFace)).length), .slice none 0 0]) Z (by simp only [List.length_set] <;> rfl)
     refine rN 5 Z ?_
     refine G.name (fun n1 y1 => ?_)
     have k1 : ∀ d1, d1 ≤ f1 → ∀ (A516 : Option Addr) (c517 : Nat) (x518 : List Int) (A519 : Option Addr) (c520 : Nat) (x521 : List GL12Outer) (x522 : Int) (w : World), spec_l12Plan32.l6 K d1 t402 t438 t444 x518 x521 x522 = some (r1, r2, r3, r4) → St w0 w (Box b3 65 [.slice none 0 0, .slice none 0 0, .slice none 0 0] :: Own T_GFace 167 A404 c405 (fun _ => ()) t402 :: Box b453 65 [.slice A516 x518.length c517, .slice (some ⟨b450, 0, none⟩) ((([t438, t444] : List (List GFace)).set 0 ((([t438, t444] : List (List GFace)).getD 0 []).set 0 (⟨1, 0⟩ : GFace))).set 1 (((([t438, t444] : List (List GFace)).set 0 ((([t438, t444] : List (List GFace)).getD 0 []).set 0 (⟨1, 0⟩ : GFace))).getD 1 []).set 0 (⟨0, 0⟩ : GFace))).length (([t438, t444] : List (List GFace)).length), .slice A519 x521.length c520] :: Own (TInt .i64) 2 A516 c517 (fun _ => ()) x518 :: Own (Ty.slice 107 T_GFace) 77 (some ⟨b450, 0, none⟩) (([t438, t444] : List (List GFace)).length) y452 ((([t438, t444] : List (List GFace)).set 0 ((([t438, t444] : List (List GFace)).getD 0 []).set 0 (⟨1, 0⟩ : GFace))).set 1 (((([t438, t444] : List (List GFace)).set 0 ((([t438, t444] : List (List GFace)).getD 0 []).set 0 (⟨1, 0⟩ : GFace))).getD 1 []).set 0 (⟨0, 0⟩ : GFace))) :: Own T_GL12Outer 122 A519 c520 (fun _ => ()) x521 :: L) → G prog 104 213 [(6, .pointer (some ⟨b3, 0, none⟩)), (17, .slice A404 t402.length c405), (18, .pointer (some ⟨b453, 0, none⟩)), (19, I x522)] n1 w (spec_l12Plan32.post w0 L r1 r2 r3 r4) := by
      intro d1
      induction d1 using Nat.strongRecOn with
      | _ d1 s1 =>
       intro t1 A516 c517 x518 A519 c520 x521 x522 w H HS
       cases d1 with
       | zero => rw [spec_l12Plan32.l6] at H; cases H
       | succ x1 =>
        rw [spec_l12Plan32.l6] at H
        subst y1
        refine rN 3 Z ?_
        rcases iS H with ⟨c582, H⟩ | ⟨c582, H⟩
        ·
         refine nB Z (tF c582) (rN 2 Z (rG (lW 2 HS Z ag65 (sW 0 HS Z ag65 Z fun wd640 HS => aS Z (nL ?_)))))
         obtain ⟨rfl, rfl, rfl, rfl⟩ := some4 H
         exact G.ret2 _ _ func104 Z (Res1.boxA (j := 0) (vs := [.slice A516 x518.length c517, .slice (some ⟨b450, 0, none⟩) ((([t438, t444] : List (List GFace)).set 0 ((([t438, t444] : List (List GFace)).getD 0 []).set 0 (⟨1, 0⟩ : GFace))).set 1 (((([t438, t444] : List (List GFace)).set 0 ((([t438, t444] : List (List GFace)).getD 0 []).set 0 (⟨1, 0⟩ : GFace))).getD 1 []).set 0 (⟨0, 0⟩ : GFace))).length (([t438, t444] : List (List GFace)).length), .slice A519 x521.length c520]) HS Z Z Z ag65) Z ⟨_, _, _, _, _, _, _, Z, (HS.pk 6 [3, 4, 5] Z)⟩
        refine yB Z (tT c582) (rN 4 Z ?_)
        obtain ⟨c583, H⟩ := iN H
        obtain ⟨e584, h585, H⟩ := bnd_elim H
        refine rG (pS 2 Z (GO.ix Z Z Z U165 sz167 ((RdIn.own (j := 1) Z) _ HS).2.2.1 c583.1 c583.2 Z (GO.ldRdA (T := T_GFace) (n := x522.toNat) HS (RdIn.own (j := 1) Z) Z Z (getD_eq (ltN c583) h585) ag167 Z (GO.alloc HS Z zr167 Z Z fun b586 wd587 HS => sW 0 HS Z ag167 Z fun wd588 HS => nL (sQ ?_)))))
        obtain ⟨c594, H⟩ := iN H
        refine rG (fL b453 0 fl65_0 Z (lB 3 HS Z na56 Z (fL b586 0 fl167_0 Z (lB 0 HS Z na2 Z (GO.buildS (el := 2) ([I e584.Tet]) HS Z Z (fun _ => by kernel_rfl) Z fun b589 wd590 HS => GO.app1 (T := (TInt .i64)) (j := 5) (jb := 0) e584.Tet HS Z Z flat_flat Z Z Z U56 inf2 Z Z Z c594 Z fun A592 c593 wd591 HS => fL b453 0 fl65_0 Z (GO.stBox (j := 4) (vs := [.slice A592 (x518 ++ [e584.Tet]).length c593]) ([.slice A592 (x518 ++ [e584.Tet]).length c593, .slice (some ⟨b450, 0, none⟩) ((([t438, t444] : List (List GFace)).set 0 ((([t438, t444] : List (List GFace)).getD 0 []).set 0 (⟨1, 0⟩ : GFace))).set 1 (((([t438, t444] : List (List GFace)).set 0 ((([t438, t444] : List (List GFace)).getD 0 []).set 0 (⟨1, 0⟩ : GFace))).getD 1 []).set 0 (⟨0, 0⟩ : GFace))).length (([t438, t444] : List (List GFace)).length), .slice A519 x521.length c520]) HS Z Z Z Z Z (htN na56 Z) Z Z Z fun wd595 HS => nL (sQ ?_)))))))
        obtain ⟨t596, h597, H⟩ := bI H
        obtain ⟨t600, h601, H⟩ := bI H
        obtain ⟨t604, h605, H⟩ := bI H
        obtain ⟨t608, h609, H⟩ := bI H
        refine G.lexS mixed (fun w => St w0 w (Box b586 167 [I e584.Tet, I e584.Perm] :: L)) [1, 4, 7, 10] [0, 3, 6, 9, 1, 4, 7, 10, 2, 5, 8, 11, 12, 13, 14, 15] [] (by kernel_rfl) (by kernel_rfl) (HS.drew.pk 8 [1] Z) ?_
        replace HS := HS.drew
        refine qL Z Z (fun _ _ g => fL b586 1 fl167_1 Z g) Z (qL Z Z (fun _ _ g => fL b586 1 fl167_1 Z g) Z (qL Z Z (fun _ _ g => fL b586 1 fl167_1 Z g) Z (qL Z Z (fun _ _ g => fL b586 1 fl167_1 Z g) Z (GX.ls Z Z Z (HS.pk 8 [1] Z) (fun _ HS _ g => lB 0 HS Z na2 Z g) Z (GX.ls Z Z Z (HS.pk 8 [1] Z) (fun _ HS _ g => lB 0 HS Z na2 Z g) Z (GX.ls Z Z Z (HS.pk 8 [1] Z) (fun _ HS _ g => lB 0 HS Z na2 Z g) Z (GX.ls Z Z Z (HS.pk 8 [1] Z) (fun _ HS _ g => lB 0 HS Z na2 Z g) Z (GX.l2 Z (fJ fok76 Z (spec_l06At.calls HS  h597) (fun _ wd598 ⟨h599, HS⟩ => ⟨_, h599, (GX.fin (HS.pk 8 [1] Z) (GX.l2 Z (fJ fok76 Z (spec_l06At.calls HS  h601) (fun _ wd602 ⟨h603, HS⟩ => ⟨_, h603, (GX.fin (HS.pk 8 [1] Z) (GX.l2 Z ?_))⟩))))⟩))))))))))
        refine fJ fok76 Z (spec_l06At.calls HS  h605) (fun _ wd606 ⟨h607, HS⟩ => ⟨_, h607, (GX.fin (HS.pk 8 [1] Z) (GX.l2 Z (fJ fok76 Z (spec_l06At.calls HS  h609) (fun _ wd610 ⟨h611, HS⟩ => ⟨_, h611, (GX.fin (HS.pk 8 [1] Z) (GX.ps 4 Z (GX.nil (sQ (rG (pS 4 Z (GO.rem Z Z Z (by decide) Z (pS 3 Z (GO.rem Z Z Z (by decide) Z (GO.add Z Z Z Z (GO.buildS (el := 2) ([I 0, I (w64 (1 + x522)), I (w64 (1 + ((w64 (x522 + 1)).tmod 3))), I (w64 (1 + ((w64 (x522 + 2)).tmod 3)))]) HS Z Z (fun _ => by kernel_rfl) Z fun b612 wd613 HS => ?_)))))))))))⟩))))⟩)
        replace HS := HS.boxRow (T := (TInt .i64)) (j := 0) Z flat_flat (fun _ => ()) ([0, w64 (1 + x522), w64 (1 + ((w64 (x522 + 1)).tmod 3)), w64 (1 + ((w64 (x522 + 2)).tmod 3))] : List Int) Z (bndL Z)
        refine GO.lenC (t := 179) (m := ([0, w64 (1 + x522), w64 (1 + ((w64 (x522 + 1)).tmod 3)), w64 (1 + ((w64 (x522 + 2)).tmod 3))] : List Int).length) (c' := ([0, w64 (1 + x522), w64 (1 + ((w64 (x522 + 1)).tmod 3)), w64 (1 + ((w64 (x522 + 2)).tmod 3))] : List Int).length) Z Z Z (aS Z (nL (sQ ?_)))
        obtain ⟨t616, h617, H⟩ := bI H
        obtain ⟨c625, H⟩ := iN H
        refine G.lexS mixed (fun w => St w0 w (Box b586 167 [I e584.Tet, I e584.Perm] :: Box b453 65 [.slice A592 (x518 ++ [e584.Tet]).length c593, .slice (some ⟨b450, 0, none⟩) ((([t438, t444] : List (List GFace)).set 0 ((([t438, t444] : List (List GFace)).getD 0 []).set 0 (⟨1, 0⟩ : GFace))).set 1 (((([t438, t444] : List (List GFace)).set 0 ((([t438, t444] : List (List GFace)).getD 0 []).set 0 (⟨1, 0⟩ : GFace))).getD 1 []).set 0 (⟨0, 0⟩ : GFace))).length (([t438, t444] : List (List GFace)).length), .slice A519 x521.length c520] :: L)) [1, 3] [0, 2, 4, 5, 6, 7, 8, 10, 1, 3, 9, 11, 12, 13, 14, 15, 16] [16] (by kernel_rfl) (by kernel_rfl) (HS.drew.pk 9 [2, 5] Z) ?_
        replace HS := HS.drew
        refine qL Z Z (fun _ _ g => fL b453 2 fl65_2 Z g) Z (qL Z Z (fun _ _ g => fL b586 0 fl167_0 Z g) Z (GX.ps 6 Z (GX.ls Z Z Z (HS.pk 9 [2, 5] Z) (fun _ HS _ g => lB 1 HS Z na63 Z g) Z (GX.ls Z Z Z (HS.pk 9 [2, 5] Z) (fun _ HS _ g => lB 0 HS Z na2 Z g) Z (GX.l2 Z (GO.buildS (el := 2) ([I t596, I t604, I t608, I t600]) HS Z Z (fun _ => by kernel_rfl) Z fun b614 wd615 HS => GX.fin (HS.pk 10 [3, 6] Z) (GX.l2 Z ?_)))))))
        replace HS := HS.boxRow (T := (TInt .i64)) (j := 0) Z flat_flat (fun _ => ()) ([t596, t604, t608, t600] : List Int) Z (bndL Z)
        refine GO.lenC (t := 189) (m := ([t596, t604, t608, t600] : List Int).length) (c' := ([t596, t604, t608, t600] : List Int).length) Z Z Z (fJ fok131 Z (spec_l12Map.calls HS (RdIn.own (j := 0) Z) (RdIn.own (j := 1) Z) h617) (fun _ wd618 ⟨h619, HS⟩ => ⟨_, h619, (GX.fin (HS.pk 10 [3, 6] Z) (qL Z Z (fun _ _ g => GO.buildV (.agg [I e584.Tet, I t600, I 0, I t616].toArray) Z Z (fun _ => by kernel_rfl) Z g) Z (GX.l2 Z (GO.buildS (el := 122) ([I e584.Tet, I t600, I 0, I t616]) HS Z Z (fun _ => by kernel_rfl) Z fun b620 wd621 HS => GX.fin (HS.pk 11 [4, 7] Z) (GX.l2 Z (GO.app1 (T := T_GL12Outer) (j := 10) (jb := 0) (⟨e584.Tet, t600, 0, t616⟩ : GL12Outer) HS Z Z flat_flat Z Z Z U63 inf122 Z Z Z c625 Z fun A623 c624 wd622 HS => GX.fin (HS.pk 11 [4, 7] Z) (qL Z Z (fun _ _ g => fL b453 2 fl65_2 Z g) Z (GX.l2 Z (GO.stBox (j := 7) (vs := [.slice A623 (x521 ++ [(⟨e584.Tet, t600, 0, t616⟩ : GL12Outer)]).length c624]) ([.slice A592 (x518 ++ [e584.Tet]).length c593, .slice (some ⟨b450, 0, none⟩) ((([t438, t444] : List (List GFace)).set 0 ((([t438, t444] : List (List GFace)).getD 0 []).set 0 (⟨1, 0⟩ : GFace))).set 1 (((([t438, t444] : List (List GFace)).set 0 ((([t438, t444] : List (List GFace)).getD 0 []).set 0 (⟨1, 0⟩ : GFace))).getD 1 []).set 0 (⟨0, 0⟩ : GFace))).length (([t438, t444] : List (List GFace)).length), .slice A623 (x521 ++ [(⟨e584.Tet, t600, 0, t616⟩ : GL12Outer)]).length c624]) HS Z Z Z Z Z (htN na63 Z) Z Z Z fun wd626 HS => GX.finZ Z (GX.nil ?_))))))))))⟩))
        obtain ⟨t629, h630, H⟩ := bI H
        obtain ⟨c638, H⟩ := iN H
        refine G.lexS mixed (fun w => St w0 w (Box b586 167 [I e584.Tet, I e584.Perm] :: Box b453 65 [.slice A592 (x518 ++ [e584.Tet]).length c593, .slice (some ⟨b450, 0, none⟩) ((([t438, t444] : List (List GFace)).set 0 ((([t438, t444] : List (List GFace)).getD 0 []).set 0 (⟨1, 0⟩ : GFace))).set 1 (((([t438, t444] : List (List GFace)).set 0 ((([t438, t444] : List (List GFace)).getD 0 []).set 0 (⟨1, 0⟩ : GFace))).getD 1 []).set 0 (⟨0, 0⟩ : GFace))).length (([t438, t444] : List (List GFace)).length), .slice A623 (x521 ++ [(⟨e584.Tet, t600, 0, t616⟩ : GL12Outer)]).length c624] :: L)) [1, 3] [0, 2, 4, 5, 6, 7, 8, 10, 1, 3, 9, 11, 12, 13, 14, 15, 16] [16] (by kernel_rfl) (by kernel_rfl) (HS.drew.pk 11 [4, 7] Z) ?_
        replace HS := HS.drew
        refine qL Z Z (fun _ _ g => fL b453 2 fl65_2 Z g) Z (qL Z Z (fun _ _ g => fL b586 0 fl167_0 Z g) Z (GX.ps 6 Z (GX.ls Z Z Z (HS.pk 11 [4, 7] Z) (fun _ HS _ g => lB 1 HS Z na63 Z g) Z (GX.ls Z Z Z (HS.pk 11 [4, 7] Z) (fun _ HS _ g => lB 0 HS Z na2 Z g) Z (GX.l2 Z (GO.buildS (el := 2) ([I t600, I t604, I t608, I t596]) HS Z Z (fun _ => by kernel_rfl) Z fun b627 wd628 HS => GX.fin (HS.pk 12 [5, 8] Z) (GX.l2 Z ?_)))))))
        replace HS := HS.boxRow (T := (TInt .i64)) (j := 0) Z flat_flat (fun _ => ()) ([t600, t604, t608, t596] : List Int) Z (bndL Z)
        refine GO.lenC (t := 205) (m := ([t600, t604, t608, t596] : List Int).length) (c' := ([t600, t604, t608, t596] : List Int).length) Z Z Z (fJ fok131 Z (spec_l12Map.calls HS (RdIn.own (j := 0) Z) (RdIn.own (j := 3) Z) h630) (fun _ wd631 ⟨h632, HS⟩ => ⟨_, h632, (GX.fin (HS.pk 12 [5, 8] Z) (qL Z Z (fun _ _ g => GO.buildV (.agg [I e584.Tet, I t596, I 1, I t629].toArray) Z Z (fun _ => by kernel_rfl) Z g) Z (GX.l2 Z (GO.buildS (el := 122) ([I e584.Tet, I t596, I 1, I t629]) HS Z Z (fun _ => by kernel_rfl) Z fun b633 wd634 HS => GX.fin (HS.pk 13 [6, 9] Z) (GX.l2 Z (GO.app1 (T := T_GL12Outer) (j := 12) (jb := 0) (⟨e584.Tet, t596, 1, t629⟩ : GL12Outer) HS Z Z flat_flat Z Z Z U63 inf122 Z Z Z c638 Z fun A636 c637 wd635 HS => GX.fin (HS.pk 13 [6, 9] Z) (qL Z Z (fun _ _ g => fL b453 2 fl65_2 Z g) Z (GX.l2 Z (GO.stBox (j := 9) (vs := [.slice A636 ((x521 ++ [(⟨e584.Tet, t600, 0, t616⟩ : GL12Outer)]) ++ [(⟨e584.Tet, t596, 1, t629⟩ : GL12Outer)]).length c637]) ([.slice A592 (x518 ++ [e584.Tet]).length c593, .slice (some ⟨b450, 0, none⟩) ((([t438, t444] : List (List GFace)).set 0 ((([t438, t444] : List (List GFace)).getD 0 []).set 0 (⟨1, 0⟩ : GFace))).set 1 (((([t438, t444] : List (List GFace)).set 0 ((([t438, t444] : List (List GFace)).getD 0 []).set 0 (⟨1, 0⟩ : GFace))).getD 1 []).set 0 (⟨0, 0⟩ : GFace))).length (([t438, t444] : List (List GFace)).length), .slice A636 ((x521 ++ [(⟨e584.Tet, t600, 0, t616⟩ : GL12Outer)]) ++ [(⟨e584.Tet, t596, 1, t629⟩ : GL12Outer)]).length c637]) HS Z Z Z Z Z (htN na63 Z) Z Z Z fun wd639 HS => GX.finZ Z (GX.nil ?_))))))))))⟩))
        refine rN 3 Z (G.weak ?_ (s1 x1 (Nat.lt_succ_of_le (lR _)) (Nat.le_of_succ_le t1) _ _ _ _ _ _ _ _ H (HS.pk 13 [7, 8, 9, 10, 11, 12] Z)))
        exact ⟨Z, Z, Z, Z, tv⟩
     replace HS := HS.nilRow (TInt .i64) 2 (fun _ => ())
     replace HS := HS.nilRow T_GL12Outer 122 (fun _ => ())
     refine G.weak ?_ (k1 f1 (lR _) _ _ _ _ _ _ _ _ H (HS.pk 15 [10, 4, 3, 1, 2, 0] Z))
     exact ⟨Z, Z, Z, Z, tv⟩
  refine G.weak ?_ (z1 K (lR _) _ _ _ H (HS.pk 7 [6, 5, 0, 1, 2, 3] Z))
  exact ⟨Z, Z, Z, Z, Z, Z, Z, Z, tv⟩
theorem spec_l12Exchange.calls {i j_ r1 : Int} (HS : St w0 w (L)) (H : spec_l12Exchange.f K i j_ = some r1) :
    Calls prog 135 #[I i, I j_] w (spec_l12Exchange.post w0 L r1) := by
  unfold spec_l12Exchange.f at H
  refine cG func135 Z ?_
  refine rN 3 Z (rG (GO.buildS (el := 2) ([I 0, I 1, I 2, I 3]) HS Z Z (fun _ => by kernel_rfl) Z fun b1 wd2 HS => ?_))
  replace HS := HS.boxRow (T := (TInt .i64)) (j := 0) Z flat_flat (fun _ => ()) ([0, 1, 2, 3] : List Int) Z (bndL Z)
  refine GO.lenC (t := 6) (m := ([0, 1, 2, 3] : List Int).length) (c' := ([0, 1, 2, 3] : List Int).length) Z Z Z (aS Z (nL (sQ ?_)))
  obtain ⟨c3, H⟩ := iN H
  refine rG (pS 3 Z (GO.ix Z Z Z U56 sz2 (fun _ => ⟨_, _, Z⟩) c3.1 c3.2 Z (GO.stRow (T := (TInt .i64)) (j := 0) (n := i.toNat) (o := 0) (vs := [I j_]) j_ HS Z flat_flat Z Z Z Z (htN na2 Z) Z (getD_some (d := 0) (ltN c3)) Z Z fun wd4 HS => nL (G.len (t := 5) (m := (([0, 1, 2, 3] : List Int).set i.toNat j_).length) Z (by simp only [List.length_set] <;> rfl) (sQ ?_)))))
  obtain ⟨c5, H⟩ := iN H
  refine rG (pS 3 Z (GO.ix Z Z Z U56 sz2 (fun _ => ⟨_, _, Z⟩) c5.1 c5.2 Z (GO.stRow (T := (TInt .i64)) (j := 0) (n := j_.toNat) (o := 0) (vs := [I i]) i HS Z flat_flat Z Z Z Z (htN na2 Z) Z (getD_some (d := 0) (ltN c5)) Z Z fun wd6 HS => nL (G.len (t := 5) (m := ((([0, 1, 2, 3] : List Int).set i.toNat j_).set j_.toNat i).length) Z (by simp only [List.length_set] <;> rfl) (sQ ?_)))))
  obtain ⟨t7, h8, H⟩ := bI H
  refine rG (mV Z (fJ fok117 Z (spec_l06Index.calls HS (RdIn.own (j := 0) Z) h8) (fun _ wd9 ⟨h10, HS⟩ => ⟨_, h10, (aS Z (nL ?_))⟩)))
  obtain rfl := sI H
  exact rT _ func135 Z Z ⟨Z, (HS.pk 1 [] Z)⟩
theorem spec_l12Plan14.calls {a_ : Int} {r1 : List Int} {r2 : List (List GFace)} {r3 : List GL12Outer} (HS : St w0 w (L)) (H : spec_l12Plan14.f K a_ = some (r1, r2, r3)) :
    Calls prog 105 #[I a_] w (spec_l12Plan14.post w0 L r1 r2 r3) := by
  unfold spec_l12Plan14.f at H
  refine cG func105 Z ?_
  refine sQ (rG (GO.alloc HS Z zr65 Z Z fun b1 wd2 HS => nL (sQ (rG (mV Z (GO.buildS (el := 2) ([I a_]) HS Z Z (fun _ => by kernel_rfl) Z fun b3 wd4 HS => ?_))))))
  replace HS := HS.boxRow (T := (TInt .i64)) (j := 0) Z flat_flat (fun _ => ()) ([a_] : List Int) Z (bndL Z)
  refine GO.lenC (t := 8) (m := ([a_] : List Int).length) (c' := ([a_] : List Int).length) Z Z Z (GO.buildV (.agg [.slice (some ⟨b3, 0, none⟩) ([a_] : List Int).length (([a_] : List Int).length), .slice none 0 0, .slice none 0 0].toArray) Z Z (fun _ => by kernel_rfl) Z (GO.alloc HS Z zr65 Z Z fun b5 wd6 HS => sW 0 HS Z ag65 Z fun wd7 HS => nL (rN 5 Z ?_)))
  refine G.name (fun p1 t1 => ?_)
  have v1 : ∀ h1, h1 ≤ K → ∀ (A85 : Option Addr) (c86 : Nat) (d1 : List (List GFace)) (y88 : Nat → (Ty.slice 107 T_GFace).Lay) (A89 : Option Addr) (c90 : Nat) (c1 : List GL12Outer) (a1 : Int) (w : World), spec_l12Plan14.l1 K h1 a_ d1 c1 a1 = some (r1, r2, r3) → St w0 w (Box b1 65 [.slice none 0 0, .slice none 0 0, .slice none 0 0] :: Box b5 65 [.slice (some ⟨b3, 0, none⟩) ([a_] : List Int).length (([a_] : List Int).length), .slice A85 d1.length c86, .slice A89 c1.length c90] :: Own (TInt .i64) 2 (some ⟨b3, 0, none⟩) (([a_] : List Int).length) (fun _ => ()) ([a_] : List Int) :: Own (Ty.slice 107 T_GFace) 77 A85 c86 y88 d1 :: Own T_GL12Outer 122 A89 c90 (fun _ => ()) c1 :: L) → G prog 105 46 [(0, I a_), (2, .pointer (some ⟨b1, 0, none⟩)), (3, .pointer (some ⟨b5, 0, none⟩)), (4, I a1)] p1 w (spec_l12Plan14.post w0 L r1 r2 r3) := by
   intro h1
   induction h1 using Nat.strongRecOn with
   | _ h1 s1 =>
    intro x1 A85 c86 d1 y88 A89 c90 c1 a1 w H HS
    cases h1 with
    | zero => rw [spec_l12Plan14.l1] at H; cases H
    | succ n1 =>
     rw [spec_l12Plan14.l1] at H
     subst t1
     refine rN 3 Z ?_
     rcases iS H with ⟨c156, H⟩ | ⟨c156, H⟩
     ·
      refine nB Z (tF c156) (rN 2 Z (rG (lW 1 HS Z ag65 (sW 0 HS Z ag65 Z fun wd218 HS => nL ?_))))
      obtain ⟨rfl, rfl, rfl⟩ := some3 H
      exact rT _ func105 Z (Res1.boxA (j := 0) (vs := [.slice (some ⟨b3, 0, none⟩) ([a_] : List Int).length (([a_] : List Int).length), .slice A85 d1.length c86, .slice A89 c1.length c90]) HS Z Z Z ag65) ⟨_, _, _, _, _, _, _, Z, (HS.pk 5 [2, 3, 4] Z)⟩
     refine yB Z (tT c156) (rN 4 Z ?_)
     obtain ⟨t157, h158, H⟩ := bI H
     refine rG (fJ fok83 Z (spec_l07Free.calls HS  h158) (fun _ wd161 ⟨A159, c160, h162, HS⟩ => ⟨_, h162, (aS Z (nL (rN 5 Z ?_)))⟩))
     refine G.name (fun q1 o1 => ?_)
     have u1 : ∀ g1, g1 ≤ n1 → ∀ (f1 : List GFace) (e1 : Int) (w : World), spec_l12Plan14.l4 K g1 a_ d1 c1 a1 f1 e1 = some (r1, r2, r3) → St w0 w (Box b1 65 [.slice none 0 0, .slice none 0 0, .slice none 0 0] :: Box b5 65 [.slice (some ⟨b3, 0, none⟩) ([a_] : List Int).length (([a_] : List Int).length), .slice A85 d1.length c86, .slice A89 c1.length c90] :: Own (TInt .i64) 2 (some ⟨b3, 0, none⟩) (([a_] : List Int).length) (fun _ => ()) ([a_] : List Int) :: Own (Ty.slice 107 T_GFace) 77 A85 c86 y88 d1 :: Own T_GL12Outer 122 A89 c90 (fun _ => ()) c1 :: Own T_GFace 107 A159 c160 (fun _ => ()) f1 :: L) → G prog 105 46 [(0, I a_), (2, .pointer (some ⟨b1, 0, none⟩)), (3, .pointer (some ⟨b5, 0, none⟩)), (4, I a1), (5, .slice A159 f1.length c160), (6, I e1)] q1 w (spec_l12Plan14.post w0 L r1 r2 r3) := by
      intro g1
      induction g1 using Nat.strongRecOn with
      | _ g1 k1 =>
       intro m1 f1 e1 w H HS
       cases g1 with
       | zero => rw [spec_l12Plan14.l4] at H; cases H
       | succ i1 =>
        rw [spec_l12Plan14.l4] at H
        subst o1
        refine rN 3 Z ?_
        rcases iE H with ⟨c195, H⟩ | ⟨c195, H⟩
        ·
         refine yB Z (tT c195) (rN 5 Z ?_)
         rcases iE H with ⟨c196, H⟩ | ⟨c196, H⟩
         ·
          refine nB Z (nT c196) (rN 4 Z (G.weak ?_ (k1 i1 (Nat.lt_succ_of_le (lR _)) (Nat.le_of_succ_le m1) _ _ _ H HS)))
          exact ⟨Z, Z, Z, Z, Z, Z, tv⟩
         refine yB Z (nF c196) ?_
         obtain ⟨t197, h198, H⟩ := bI H
         obtain ⟨c201, H⟩ := iN H
         refine rG (pS 5 Z (fJ fok135 Z (spec_l12Exchange.calls HS  h198) (fun _ wd199 ⟨h200, HS⟩ => ⟨_, h200, (GO.buildV (.agg [I e1, I t197].toArray) Z Z (fun _ => by kernel_rfl) Z (GO.ix Z Z Z U77 sz107 ((RdIn.own (j := 5) Z) _ HS).2.2.1 c201.1 c201.2 Z (GO.stRow (T := T_GFace) (j := 5) (n := e1.toNat) (o := 0) (vs := [I e1, I t197]) (⟨e1, t197⟩ : GFace) HS Z flat_flat Z Z Z Z (htA ag107) Z (getD_some (d := z_GFace) (ltN c201)) Z Z fun wd202 HS => nL (G.len (t := 5) (m := (f1.set e1.toNat (⟨e1, t197⟩ : GFace)).length) Z (by simp only [List.length_set] <;> rfl) (rN 3 Z (G.weak ?_ (k1 i1 (Nat.lt_succ_of_le (lR _)) (Nat.le_of_succ_le m1) _ _ _ H HS)))))))⟩)))
         exact ⟨Z, Z, Z, Z, Z, Z, tv⟩
        refine nB Z (tF c195) (rN 2 Z ?_)
        obtain ⟨c208, H⟩ := iN H
        refine rG (fL b5 1 fl65_1 Z (lB 1 HS Z na29 Z (mV Z (GO.buildS (el := 77) ([.slice A159 f1.length c160]) HS Z Z (fun _ => by kernel_rfl) Z fun b203 wd204 HS => ?_))))
        replace HS := HS.pk 7 [4, 0, 6, 1, 2, 3, 5] Z
        refine GO.appR (S := T_GFace) (u := 107) HS Z Z Z U29 inf77 Z Z c208 Z fun A206 c207 y209 wd205 HS => fL b5 1 fl65_1 Z (GO.stBox (j := 3) (vs := [.slice A206 (d1 ++ [f1]).length c207]) ([.slice (some ⟨b3, 0, none⟩) ([a_] : List Int).length (([a_] : List Int).length), .slice A206 (d1 ++ [f1]).length c207, .slice A89 c1.length c90]) HS Z Z Z Z Z (htN na29 Z) Z Z Z fun wd210 HS => nL ?_)
        obtain ⟨c216, H⟩ := iN H
        refine rG (fL b5 2 fl65_2 Z (lB 3 HS Z na63 Z (pS 3 Z (GO.buildV (.agg [I a_, I a1, I a1, I 0].toArray) Z Z (fun _ => by kernel_rfl) Z (GO.buildS (el := 122) ([I a_, I a1, I a1, I 0]) HS Z Z (fun _ => by kernel_rfl) Z fun b211 wd212 HS => GO.app1 (T := T_GL12Outer) (j := 6) (jb := 0) (⟨a_, a1, a1, 0⟩ : GL12Outer) HS Z Z flat_flat Z Z Z U63 inf122 Z Z Z c216 Z fun A214 c215 wd213 HS => fL b5 2 fl65_2 Z (GO.stBox (j := 4) (vs := [.slice A214 (c1 ++ [(⟨a_, a1, a1, 0⟩ : GL12Outer)]).length c215]) ([.slice (some ⟨b3, 0, none⟩) ([a_] : List Int).length (([a_] : List Int).length), .slice A206 (d1 ++ [f1]).length c207, .slice A214 (c1 ++ [(⟨a_, a1, a1, 0⟩ : GL12Outer)]).length c215]) HS Z Z Z Z Z (htN na63 Z) Z Z Z fun wd217 HS => nL (rN 3 Z (G.weak ?_ (s1 i1 (by omega) (by omega) _ _ _ _ _ _ _ _ _ H (HS.pk 7 [3, 4, 5, 1, 6] Z))))))))))
        exact ⟨Z, Z, Z, Z, tv⟩
     refine G.weak ?_ (u1 n1 (lR _) _ _ _ H (HS.pk 6 [1, 2, 3, 4, 5, 0] Z))
     exact ⟨Z, Z, Z, Z, Z, Z, tv⟩
  replace HS := HS.nilRow (Ty.slice 107 T_GFace) 77 (fun _ => ⟨none, 0, (fun _ => ())⟩)
  replace HS := HS.nilRow T_GL12Outer 122 (fun _ => ())
  refine G.weak ?_ (v1 K (lR _) _ _ _ _ _ _ _ _ _ H (HS.pk 5 [4, 2, 3, 1, 0] Z))
  exact ⟨Z, Z, Z, Z, tv⟩
theorem spec_l06Then.calls {p q r1 : Int} (HS : St w0 w (L)) (H : spec_l06Then.f K p q = some r1) :
    Calls prog 84 #[I p, I q] w (spec_l06Then.post w0 L r1) := by
  unfold spec_l06Then.f at H
  refine cG func84 Z ?_
  refine rN 3 Z ?_
  obtain ⟨t1, h2, H⟩ := bI H
  refine rG (mV Z (fJ fok116 Z (spec_l06Images.calls HS  h2) (fun _ wd5 ⟨A3, c4, h6, HS⟩ => ⟨_, h6, (aS Z (nL (sQ ?_)))⟩)))
  obtain ⟨t7, h8, H⟩ := bI H
  refine rG (mV Z (fJ fok116 Z (spec_l06Images.calls HS  h8) (fun _ wd11 ⟨A9, c10, h12, HS⟩ => ⟨_, h12, (aS Z (nL (sQ ?_)))⟩)))
  obtain ⟨c13, H⟩ := iN H
  have h14 := ((RdIn.own (j := 1) Z) _ HS).2.2.1
  obtain ⟨c15, H⟩ := iN H
  have h16 := ((RdIn.own (j := 0) Z) _ HS).2.2.1
  obtain ⟨c17, H⟩ := iN H
  have h18 := ((RdIn.own (j := 1) Z) _ HS).2.2.1
  obtain ⟨c19, H⟩ := iN H
  have h20 := ((RdIn.own (j := 0) Z) _ HS).2.2.1
  obtain ⟨c21, H⟩ := iN H
  have h22 := ((RdIn.own (j := 1) Z) _ HS).2.2.1
  obtain ⟨c23, H⟩ := iN H
  have h24 := ((RdIn.own (j := 0) Z) _ HS).2.2.1
  obtain ⟨c25, H⟩ := iN H
  have h26 := ((RdIn.own (j := 1) Z) _ HS).2.2.1
  obtain ⟨c27, H⟩ := iN H
  have h28 := ((RdIn.own (j := 0) Z) _ HS).2.2.1
  obtain ⟨t31, h32, H⟩ := bI H
  refine G.lex mixed [0, 1, 2, 6, 7, 8, 12, 13, 14, 18, 19, 20, 3, 4, 5, 9, 10, 11, 15, 16, 17, 21, 22, 23, 24, 25, 26] (by kernel_rfl) ?_
  replace HS := HS.drew
  refine GX.ps 2 Z (qL Z Z (fun _ _ g => GO.ix Z Z Z U56 sz2 h14 c13.1 c13.2 Z g) Z (GX.ps 2 Z (qL Z Z (fun _ _ g => GO.ix Z Z Z U56 sz2 h18 c17.1 c17.2 Z g) Z (GX.ps 2 Z (qL Z Z (fun _ _ g => GO.ix Z Z Z U56 sz2 h22 c21.1 c21.2 Z g) Z (GX.ps 2 Z (qL Z Z (fun _ _ g => GO.ix Z Z Z U56 sz2 h26 c25.1 c25.2 Z g) Z (GX.l1 Z Z Z (fun _ g => GO.ldRd (T := (TInt .i64)) (n := 0) (o := 0) HS (RdIn.own (j := 1) Z) Z Z (getD_some (d := 0) (ltN c13)) Z Z na2 Z g) Z (qL Z Z (fun _ _ g => GO.ix Z Z Z U56 sz2 h16 c15.1 c15.2 Z g) Z (GX.l1 Z Z Z (fun _ g => GO.ldRd (T := (TInt .i64)) (n := (t1.getD 0 0).toNat) (o := 0) HS (RdIn.own (j := 0) Z) Z Z (getD_some (d := 0) (ltN c15)) Z Z na2 Z g) Z (GX.l1 Z Z Z (fun _ g => GO.ldRd (T := (TInt .i64)) (n := 1) (o := 0) HS (RdIn.own (j := 1) Z) Z Z (getD_some (d := 0) (ltN c17)) Z Z na2 Z g) Z (qL Z Z (fun _ _ g => GO.ix Z Z Z U56 sz2 h20 c19.1 c19.2 Z g) Z (GX.l1 Z Z Z (fun _ g => GO.ldRd (T := (TInt .i64)) (n := (t1.getD 1 0).toNat) (o := 0) HS (RdIn.own (j := 0) Z) Z Z (getD_some (d := 0) (ltN c19)) Z Z na2 Z g) Z (GX.l1 Z Z Z (fun _ g => GO.ldRd (T := (TInt .i64)) (n := 2) (o := 0) HS (RdIn.own (j := 1) Z) Z Z (getD_some (d := 0) (ltN c21)) Z Z na2 Z g) Z ?_))))))))))))))
  refine qL Z Z (fun _ _ g => GO.ix Z Z Z U56 sz2 h24 c23.1 c23.2 Z g) Z (GX.l1 Z Z Z (fun _ g => GO.ldRd (T := (TInt .i64)) (n := (t1.getD 2 0).toNat) (o := 0) HS (RdIn.own (j := 0) Z) Z Z (getD_some (d := 0) (ltN c23)) Z Z na2 Z g) Z (GX.l1 Z Z Z (fun _ g => GO.ldRd (T := (TInt .i64)) (n := 3) (o := 0) HS (RdIn.own (j := 1) Z) Z Z (getD_some (d := 0) (ltN c25)) Z Z na2 Z g) Z (qL Z Z (fun _ _ g => GO.ix Z Z Z U56 sz2 h28 c27.1 c27.2 Z g) Z (GX.l1 Z Z Z (fun _ g => GO.ldRd (T := (TInt .i64)) (n := (t1.getD 3 0).toNat) (o := 0) HS (RdIn.own (j := 0) Z) Z Z (getD_some (d := 0) (ltN c27)) Z Z na2 Z g) Z (GX.l2 Z (GO.buildS (el := 2) ([I (t7.getD ((t1.getD 0 0).toNat) 0), I (t7.getD ((t1.getD 1 0).toNat) 0), I (t7.getD ((t1.getD 2 0).toNat) 0), I (t7.getD ((t1.getD 3 0).toNat) 0)]) HS Z Z (fun _ => by kernel_rfl) Z fun b29 wd30 HS => GX.fin tv (GX.l2 Z ?_)))))))
  replace HS := HS.boxRow (T := (TInt .i64)) (j := 0) Z flat_flat (fun _ => ()) ([t7.getD ((t1.getD 0 0).toNat) 0, t7.getD ((t1.getD 1 0).toNat) 0, t7.getD ((t1.getD 2 0).toNat) 0, t7.getD ((t1.getD 3 0).toNat) 0] : List Int) Z (bndL Z)
  refine GO.lenC (t := 35) (m := ([t7.getD ((t1.getD 0 0).toNat) 0, t7.getD ((t1.getD 1 0).toNat) 0, t7.getD ((t1.getD 2 0).toNat) 0, t7.getD ((t1.getD 3 0).toNat) 0] : List Int).length) (c' := ([t7.getD ((t1.getD 0 0).toNat) 0, t7.getD ((t1.getD 1 0).toNat) 0, t7.getD ((t1.getD 2 0).toNat) 0, t7.getD ((t1.getD 3 0).toNat) 0] : List Int).length) Z Z Z (fJ fok117 Z (spec_l06Index.calls HS (RdIn.own (j := 0) Z) h32) (fun _ wd33 ⟨h34, HS⟩ => ⟨_, h34, (GX.fin tv (GX.ps 1 Z (GX.nil ?_)))⟩))
  obtain rfl := sI H
  exact rT _ func84 Z Z ⟨Z, (HS.pk 3 [] Z)⟩
end Go.Proofs.YtbjfinndngafoaaGreat
