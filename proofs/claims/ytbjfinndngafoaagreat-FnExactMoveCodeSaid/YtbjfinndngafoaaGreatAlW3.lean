/-
  The walks through the functions: a call comes to what its list function says.
-/
import Derived.Test.YtbjfinndngafoaaGreatAlF
import Derived.Test.YtbjfinndngafoaaGreatAlW1
import Derived.Test.YtbjfinndngafoaaGreatAlW2
set_option linter.unusedVariables false
set_option linter.unusedSimpArgs false
namespace Go.Proofs.YtbjfinndngafoaaGreat
open Go.RowKit
open Tryz
variable {w0 w : World} {L : List HObj} {K : Nat} {A_a A_b A_c A_d A_e A_f A_g A_h A_i A_j A_k A_l A_m A_n A_o A_p A_q A_r A_s A_t A_u A_v A_w A_x A_y A_z : Option Addr} {c_a c_b c_c c_d c_e c_f c_g c_h c_i c_j c_k c_l c_m c_n c_o c_p c_q c_r c_s c_t c_u c_v c_w c_x c_y c_z : Nat}
set_option maxRecDepth 20000
set_option maxHeartbeats 40000000
theorem spec_l12Plan41.calls {d1 : List (List GFace)} {o A : Int} {y_a : Nat → (Ty.slice 107 T_GFace).Lay} {r1 : List Int} {r2 : List (List GFace)} {r3 : List GL12Outer} {r4 : Bool} (HS : St w0 w (L)) (r_a : RdIn w0 L (Ty.slice 107 T_GFace) A_a c_a y_a d1) (H : spec_l12Plan41.f K d1 o A = some (r1, r2, r3, r4)) :
    Calls prog 106 #[.agg [.slice A_a d1.length c_a].toArray, I o, I A] w (spec_l12Plan41.post w0 L r1 r2 r3 r4) := by
  unfold spec_l12Plan41.f at H
  refine cG func106 Z ?_
  refine sQ (rG (bA HS Z fun b1 wd2 HS => GO.alloc HS Z zr65 Z Z fun b3 wd4 HS => aS Z (nL (sQ (rG (GO.buildS (el := 2) ([I 0, I 0, I 0, I 0]) HS Z Z (fun _ => by kernel_rfl) Z fun b5 wd6 HS => ?_))))))
  replace HS := HS.boxRow (T := (TInt .i64)) (j := 0) Z flat_flat (fun _ => ()) ([0, 0, 0, 0] : List Int) Z (bndL Z)
  refine GO.lenC (t := 17) (m := ([0, 0, 0, 0] : List Int).length) (c' := ([0, 0, 0, 0] : List Int).length) Z Z Z (aS Z (nL (sQ (rG (GO.buildS (el := 2) ([I 0, I 0, I 0, I 0]) HS Z Z (fun _ => by kernel_rfl) Z fun b7 wd8 HS => ?_)))))
  replace HS := HS.boxRow (T := (TInt .i64)) (j := 0) Z flat_flat (fun _ => ()) ([0, 0, 0, 0] : List Int) Z (bndL Z)
  refine GO.lenC (t := 18) (m := ([0, 0, 0, 0] : List Int).length) (c' := ([0, 0, 0, 0] : List Int).length) Z Z Z (aS Z (nL (sQ ?_)))
  obtain ⟨c9, H⟩ := iN H
  refine rG (pS 3 Z (GO.ix Z Z Z U56 sz2 (fun _ => ⟨_, _, Z⟩) c9.1 c9.2 Z (GO.stRow (T := (TInt .i64)) (j := 1) (n := A.toNat) (o := 0) (vs := [I o]) o HS Z flat_flat Z Z Z Z (htN na2 Z) Z (getD_some (d := 0) (ltN c9)) Z Z fun wd10 HS => nL (G.len (t := 8) (m := (([0, 0, 0, 0] : List Int).set A.toNat o).length) Z (by simp only [List.length_set] <;> rfl) (rN 5 Z ?_)))))
  refine G.name (fun t2 d3 => ?_)
  have i3 : ∀ a2, a2 ≤ K → ∀ (x37 x38 : List Int) (x39 : Int) (w : World), spec_l12Plan41.l1 K a2 d1 o A x37 x38 x39 = some (r1, r2, r3, r4) → St w0 w (Box b1 31 [.slice A_a d1.length c_a] :: Box b3 65 [.slice none 0 0, .slice none 0 0, .slice none 0 0] :: Own (TInt .i64) 2 (some ⟨b5, 0, none⟩) (([0, 0, 0, 0] : List Int).length) (fun _ => ()) x37 :: Own (TInt .i64) 2 (some ⟨b7, 0, none⟩) (([0, 0, 0, 0] : List Int).length) (fun _ => ()) x38 :: L) → G prog 106 153 [(1, I o), (2, I A), (3, .pointer (some ⟨b1, 0, none⟩)), (6, .pointer (some ⟨b3, 0, none⟩)), (8, .slice (some ⟨b5, 0, none⟩) x37.length (([0, 0, 0, 0] : List Int).length)), (9, .slice (some ⟨b7, 0, none⟩) x38.length (([0, 0, 0, 0] : List Int).length)), (10, I x39)] t2 w (spec_l12Plan41.post w0 L r1 r2 r3 r4) := by
   intro a2
   induction a2 using Nat.strongRecOn with
   | _ a2 m2 =>
    intro n2 x37 x38 x39 w H HS
    cases a2 with
    | zero => rw [spec_l12Plan41.l1] at H; cases H
    | succ h2 =>
     rw [spec_l12Plan41.l1] at H
     subst d3
     refine rN 3 Z ?_
     rcases iE H with ⟨c807, H⟩ | ⟨c807, H⟩
     ·
      refine yB Z (tT c807) (rN 6 Z ?_)
      rcases iE H with ⟨c808, H⟩ | ⟨c808, H⟩
      ·
       refine yB Z (tT c808) (rN 3 Z (G.weak ?_ (m2 h2 (Nat.lt_succ_of_le (lR _)) (Nat.le_of_succ_le n2) _ _ _ _ H HS)))
       exact ⟨Z, Z, Z, Z, Z, Z, Z, tv⟩
      refine nB Z (tF c808) (rN 2 Z ?_)
      obtain ⟨c809, H⟩ := iN H
      obtain ⟨c810, H⟩ := iN H
      obtain ⟨e811, h812, H⟩ := bnd_elim H
      refine rG (fL b1 0 fl31_0 Z (lB 0 HS Z na29 Z (mV Z (GO.ix Z Z Z U29 sz77 ((rD 4 r_a) _ HS).2.2.1 c809.1 c809.2 Z (GO.ldRd (T := (Ty.slice 107 T_GFace)) (n := o.toNat) (o := 0) HS (rD 4 r_a) Z Z (getD_some (d := []) (ltN c809)) Z Z na77 Z (mV Z (GO.ix Z Z Z U77 sz107 ((RdIn.elem (rD 4 r_a) c809.1 c809.2) _ HS).2.2.1 c810.1 c810.2 Z (GO.ldRdA (T := T_GFace) (n := x39.toNat) HS (RdIn.elem (rD 4 r_a) c809.1 c809.2) Z Z (getD_eq (ltN c810) h812) ag107 Z (GO.alloc HS Z zr107 Z Z fun b813 wd814 HS => sW 0 HS Z ag107 Z fun wd815 HS => nL (rN 2 Z (rG (fL b813 0 fl107_0 Z ?_))))))))))))
      refine lB 0 HS Z na2 Z (GO.lss Z Z Z Z (nL ?_))
      rcases iE H with ⟨c816, H⟩ | ⟨c816, H⟩
      ·
       refine yB Z (tT c816) (sQ (rG (GO.buildV (.agg [.slice none 0 0, .slice none 0 0, .slice none 0 0].toArray) Z Z (fun _ => by kernel_rfl) Z (sW 2 HS Z ag65 Z fun wd817 HS => aS Z (nL ?_)))))
       replace HS := HS.nilRow (TInt .i64) 2 (fun _ => ())
       replace HS := HS.nilRow (Ty.slice 107 T_GFace) 77 (fun _ => ⟨none, 0, (fun _ => ())⟩)
       replace HS := HS.nilRow T_GL12Outer 122 (fun _ => ())
       obtain ⟨rfl, rfl, rfl, rfl⟩ := some4 H
       exact G.ret2 _ _ func106 Z (Res1.boxA (j := 5) (vs := [.slice none 0 0, .slice none 0 0, .slice none 0 0]) HS Z Z Z ag65) Z ⟨_, _, _, _, _, _, _, Z, (HS.pk 8 [2, 1, 0] Z)⟩
      refine nB Z (tF c816) (rN 2 Z ?_)
      obtain ⟨c818, H⟩ := iN H
      refine rG (pS 2 Z (fL b813 0 fl107_0 Z (lB 0 HS Z na2 Z (GO.ix Z Z Z U56 sz2 (fun _ => ⟨_, _, Z⟩) c818.1 c818.2 Z (GO.stRow (T := (TInt .i64)) (j := 3) (n := x39.toNat) (o := 0) (vs := [I e811.Tet]) e811.Tet HS Z flat_flat Z Z Z Z (htN na2 Z) Z (getD_some (d := 0) (ltN c818)) Z Z fun wd819 HS => nL (G.len (t := 8) (m := (x37.set x39.toNat e811.Tet).length) Z (by simp only [List.length_set] <;> rfl) ?_))))))
      obtain ⟨t820, h821, H⟩ := bI H
      obtain ⟨t824, h825, H⟩ := bI H
      obtain ⟨t828, h829, H⟩ := bI H
      obtain ⟨c832, H⟩ := iN H
      refine rG (pS 2 Z (fL b813 1 fl107_1 Z (lB 0 HS Z na2 Z (fJ fok77 Z (spec_l06Back.calls HS  h821) (fun _ wd822 ⟨h823, HS⟩ => ⟨_, h823, (pS 2 Z (fJ fok135 Z (spec_l12Exchange.calls HS  h825) (fun _ wd826 ⟨h827, HS⟩ => ⟨_, h827, (fJ fok84 Z (spec_l06Then.calls HS  h829) (fun _ wd830 ⟨h831, HS⟩ => ⟨_, h831, (GO.ix Z Z Z U56 sz2 (fun _ => ⟨_, _, Z⟩) c832.1 c832.2 Z (GO.stRow (T := (TInt .i64)) (j := 4) (n := x39.toNat) (o := 0) (vs := [I t828]) t828 HS Z flat_flat Z Z Z Z (htN na2 Z) Z (getD_some (d := 0) (ltN c832)) Z Z fun wd833 HS => nL (G.len (t := 9) (m := (x38.set x39.toNat t828).length) Z (by simp only [List.length_set] <;> rfl) (rN 3 Z (G.weak ?_ (m2 h2 (Nat.lt_succ_of_le (lR _)) (Nat.le_of_succ_le n2) _ _ _ _ H (HS.pk 5 [1, 2, 3, 4] Z)))))))⟩))⟩)))⟩)))))
      exact ⟨Z, Z, Z, Z, Z, Z, Z, tv⟩
     refine nB Z (tF c807) (rN 6 Z ?_)
     refine G.name (fun v2 q2 => ?_)
     have c3 : ∀ v1, v1 ≤ h2 → ∀ (x979 : Int) (w : World), spec_l12Plan41.l8 K v1 d1 x37 x38 x979 = some (r1, r2, r3, r4) → St w0 w (Box b1 31 [.slice A_a d1.length c_a] :: Box b3 65 [.slice none 0 0, .slice none 0 0, .slice none 0 0] :: Own (TInt .i64) 2 (some ⟨b5, 0, none⟩) (([0, 0, 0, 0] : List Int).length) (fun _ => ()) x37 :: Own (TInt .i64) 2 (some ⟨b7, 0, none⟩) (([0, 0, 0, 0] : List Int).length) (fun _ => ()) x38 :: L) → G prog 106 153 [(3, .pointer (some ⟨b1, 0, none⟩)), (6, .pointer (some ⟨b3, 0, none⟩)), (8, .slice (some ⟨b5, 0, none⟩) x37.length (([0, 0, 0, 0] : List Int).length)), (9, .slice (some ⟨b7, 0, none⟩) x38.length (([0, 0, 0, 0] : List Int).length)), (12, I x979)] v2 w (spec_l12Plan41.post w0 L r1 r2 r3 r4) := by
      intro v1
      induction v1 using Nat.strongRecOn with
      | _ v1 y2 =>
       intro j3 x979 w H HS
       cases v1 with
       | zero => rw [spec_l12Plan41.l8] at H; cases H
       | succ i2 =>
        rw [spec_l12Plan41.l8] at H
        subst q2
        refine rN 3 Z ?_
        rcases iS H with ⟨c1277, H⟩ | ⟨c1277, H⟩
        ·
         refine nB Z (tF c1277) (rN 2 Z ?_)
         obtain ⟨t1494, h1495, H⟩ := bI H
         refine rG (mV Z (fJ fok83 Z (spec_l07Free.calls HS  h1495) (fun _ wd1498 ⟨A1496, c1497, h1499, HS⟩ => ⟨_, h1499, (GO.buildS (el := 77) ([.slice A1496 t1494.length c1497]) HS Z Z (fun _ => by kernel_rfl) Z fun b1500 wd1501 HS => ?_)⟩)))
         obtain ⟨y1502, HS⟩ := exLay (St.partB (St.partC (St.part0 (T := (Ty.slice 107 T_GFace)) 1 (fun _ => ⟨A1496, c1497, (fun _ => ())⟩) (HS.pk 6 [1, 0, 2, 3, 4, 5] Z))) Z (bndL Z))
         refine GO.lenC (t := 125) (m := ([t1494] : List (List GFace)).length) (c' := ([t1494] : List (List GFace)).length) Z Z Z (GO.buildV (.agg [.slice (some ⟨b5, 0, none⟩) x37.length (([0, 0, 0, 0] : List Int).length), .slice (some ⟨b1500, 0, none⟩) ([t1494] : List (List GFace)).length (([t1494] : List (List GFace)).length), .slice none 0 0].toArray) Z Z (fun _ => by kernel_rfl) Z (GO.alloc HS Z zr65 Z Z fun b1503 wd1504 HS => sW 0 HS Z ag65 Z fun wd1505 HS => nL (rN 5 Z ?_)))
         refine G.name (fun h3 a3 => ?_)
         have x2 : ∀ e2, e2 ≤ i2 → ∀ (A1526 : Option Addr) (c1527 : Nat) (x1528 : List GL12Outer) (x1529 : Int) (w : World), spec_l12Plan41.l13 K e2 x37 x38 t1494 x1528 x1529 = some (r1, r2, r3, r4) → St w0 w (Box b3 65 [.slice none 0 0, .slice none 0 0, .slice none 0 0] :: Own (TInt .i64) 2 (some ⟨b5, 0, none⟩) (([0, 0, 0, 0] : List Int).length) (fun _ => ()) x37 :: Own (TInt .i64) 2 (some ⟨b7, 0, none⟩) (([0, 0, 0, 0] : List Int).length) (fun _ => ()) x38 :: Box b1503 65 [.slice (some ⟨b5, 0, none⟩) x37.length (([0, 0, 0, 0] : List Int).length), .slice (some ⟨b1500, 0, none⟩) ([t1494] : List (List GFace)).length (([t1494] : List (List GFace)).length), .slice A1526 x1528.length c1527] :: Own (Ty.slice 107 T_GFace) 77 (some ⟨b1500, 0, none⟩) (([t1494] : List (List GFace)).length) y1502 ([t1494] : List (List GFace)) :: Own T_GL12Outer 122 A1526 c1527 (fun _ => ()) x1528 :: L) → G prog 106 153 [(6, .pointer (some ⟨b3, 0, none⟩)), (8, .slice (some ⟨b5, 0, none⟩) x37.length (([0, 0, 0, 0] : List Int).length)), (9, .slice (some ⟨b7, 0, none⟩) x38.length (([0, 0, 0, 0] : List Int).length)), (15, .pointer (some ⟨b1503, 0, none⟩)), (16, I x1529)] h3 w (spec_l12Plan41.post w0 L r1 r2 r3 r4) := by
          intro e2
          induction e2 using Nat.strongRecOn with
          | _ e2 p2 =>
           intro s2 A1526 c1527 x1528 x1529 w H HS
           cases e2 with
           | zero => rw [spec_l12Plan41.l13] at H; cases H
           | succ z2 =>
            rw [spec_l12Plan41.l13] at H
            subst a3
            refine rN 3 Z ?_
            rcases iS H with ⟨c1552, H⟩ | ⟨c1552, H⟩
            ·
             refine nB Z (tF c1552) (rN 2 Z (rG (lW 3 HS Z ag65 (sW 0 HS Z ag65 Z fun wd1573 HS => aS Z (nL ?_)))))
             obtain ⟨rfl, rfl, rfl, rfl⟩ := some4 H
             exact G.ret2 _ _ func106 Z (Res1.boxA (j := 0) (vs := [.slice (some ⟨b5, 0, none⟩) x37.length (([0, 0, 0, 0] : List Int).length), .slice (some ⟨b1500, 0, none⟩) ([t1494] : List (List GFace)).length (([t1494] : List (List GFace)).length), .slice A1526 x1528.length c1527]) HS Z Z Z ag65) Z ⟨_, _, _, _, _, _, _, Z, (HS.pk 6 [1, 4, 5] Z)⟩
            refine yB Z (tT c1552) (rN 3 Z ?_)
            obtain ⟨c1553, H⟩ := iN H
            have h1554 := ((RdIn.own (j := 1) Z) _ HS).2.2.1
            obtain ⟨c1555, H⟩ := iN H
            have h1556 := ((RdIn.own (j := 2) Z) _ HS).2.2.1
            obtain ⟨t1557, h1558, H⟩ := bI H
            obtain ⟨t1561, h1562, H⟩ := bI H
            have h1565 := ((RdIn.own (j := 2) Z) _ HS).2.2.1
            obtain ⟨c1571, H⟩ := iN H
            refine G.lexS mixed (fun w => St w0 w (Own (TInt .i64) 2 (some ⟨b5, 0, none⟩) (([0, 0, 0, 0] : List Int).length) (fun _ => ()) x37 :: Own (TInt .i64) 2 (some ⟨b7, 0, none⟩) (([0, 0, 0, 0] : List Int).length) (fun _ => ()) x38 :: Box b1503 65 [.slice (some ⟨b5, 0, none⟩) x37.length (([0, 0, 0, 0] : List Int).length), .slice (some ⟨b1500, 0, none⟩) ([t1494] : List (List GFace)).length (([t1494] : List (List GFace)).length), .slice A1526 x1528.length c1527] :: L)) [1, 5, 9, 16] [0, 2, 3, 4, 6, 7, 8, 11, 13, 14, 15, 1, 5, 9, 16, 10, 12, 17, 18, 19, 20, 21] [21] (by kernel_rfl) (by kernel_rfl) (HS.drew.pk 6 [1, 2, 3] Z) ?_
            replace HS := HS.drew
            refine qL Z Z (fun _ _ g => fL b1503 2 fl65_2 Z g) Z (GX.ps 2 Z (qL Z Z (fun _ _ g => GO.ix Z Z Z U56 sz2 h1554 c1553.1 c1553.2 Z g) Z (GX.ps 2 Z (qL Z Z (fun _ _ g => GO.ix Z Z Z U56 sz2 h1556 c1555.1 c1555.2 Z g) Z (GX.ps 3 Z (qL Z Z (fun _ _ g => GO.ix Z Z Z U56 sz2 h1565 c1555.1 c1555.2 Z g) Z (GX.ls Z Z Z (HS.pk 6 [1, 2, 3] Z) (fun _ HS _ g => lB 2 HS Z na63 Z g) Z (GX.ls Z Z Z (HS.pk 6 [1, 2, 3] Z) (fun _ HS _ g => GO.ldRd (T := (TInt .i64)) (n := x1529.toNat) (o := 0) HS (RdIn.own (j := 0) Z) Z Z (getD_some (d := 0) (ltN c1553)) Z Z na2 Z g) Z (GX.ls Z Z Z (HS.pk 6 [1, 2, 3] Z) (fun _ HS _ g => GO.ldRd (T := (TInt .i64)) (n := x1529.toNat) (o := 0) HS (RdIn.own (j := 1) Z) Z Z (getD_some (d := 0) (ltN c1555)) Z Z na2 Z g) Z (GX.ls Z Z Z (HS.pk 6 [1, 2, 3] Z) (fun _ HS _ g => GO.ldRd (T := (TInt .i64)) (n := x1529.toNat) (o := 0) HS (RdIn.own (j := 1) Z) Z Z (getD_some (d := 0) (ltN c1555)) Z Z na2 Z g) Z (GX.l2 Z (fJ fok77 Z (spec_l06Back.calls HS  h1558) (fun _ wd1559 ⟨h1560, HS⟩ => ⟨_, h1560, (GX.fin (HS.pk 6 [1, 2, 3] Z) (GX.l2 Z ?_))⟩)))))))))))))
            refine fJ fok76 Z (spec_l06At.calls HS  h1562) (fun _ wd1563 ⟨h1564, HS⟩ => ⟨_, h1564, (GX.fin (HS.pk 6 [1, 2, 3] Z) (qL Z Z (fun _ _ g => GO.buildV (.agg [I (x37.getD x1529.toNat 0), I t1561, I 0, I (x38.getD x1529.toNat 0)].toArray) Z Z (fun _ => by kernel_rfl) Z g) Z (GX.l2 Z (GO.buildS (el := 122) ([I (x37.getD x1529.toNat 0), I t1561, I 0, I (x38.getD x1529.toNat 0)]) HS Z Z (fun _ => by kernel_rfl) Z fun b1566 wd1567 HS => GX.fin (HS.pk 7 [2, 3, 4] Z) (GX.l2 Z (GO.app1 (T := T_GL12Outer) (j := 6) (jb := 0) (⟨x37.getD x1529.toNat 0, t1561, 0, x38.getD x1529.toNat 0⟩ : GL12Outer) HS Z Z flat_flat Z Z Z U63 inf122 Z Z Z c1571 Z fun A1569 c1570 wd1568 HS => GX.fin (HS.pk 7 [2, 3, 4] Z) (qL Z Z (fun _ _ g => fL b1503 2 fl65_2 Z g) Z (GX.l2 Z (GO.stBox (j := 4) (vs := [.slice A1569 (x1528 ++ [(⟨x37.getD x1529.toNat 0, t1561, 0, x38.getD x1529.toNat 0⟩ : GL12Outer)]).length c1570]) ([.slice (some ⟨b5, 0, none⟩) x37.length (([0, 0, 0, 0] : List Int).length), .slice (some ⟨b1500, 0, none⟩) ([t1494] : List (List GFace)).length (([t1494] : List (List GFace)).length), .slice A1569 (x1528 ++ [(⟨x37.getD x1529.toNat 0, t1561, 0, x38.getD x1529.toNat 0⟩ : GL12Outer)]).length c1570]) HS Z Z Z Z Z (htN na63 Z) Z Z Z fun wd1572 HS => GX.finZ Z (GX.nil (rN 3 Z ?_)))))))))))⟩)
            refine G.weak ?_ (p2 z2 (Nat.lt_succ_of_le (lR _)) (Nat.le_of_succ_le s2) _ _ _ _ _ H (HS.pk 7 [1, 2, 3, 4, 5, 6] Z))
            exact ⟨Z, Z, Z, Z, Z, tv⟩
         replace HS := HS.nilRow T_GL12Outer 122 (fun _ => ())
         refine G.weak ?_ (x2 i2 (lR _) _ _ _ _ _ H (HS.pk 7 [4, 5, 6, 1, 2, 0] Z))
         exact ⟨Z, Z, Z, Z, Z, tv⟩
        refine yB Z (tT c1277) (rN 7 Z ?_)
        refine G.name (fun u2 e3 => ?_)
        have g3 : ∀ q1, q1 ≤ i2 → ∀ (x1349 : Int) (w : World), spec_l12Plan41.l12 K q1 d1 x37 x38 x979 x1349 = some (r1, r2, r3, r4) → St w0 w (Box b1 31 [.slice A_a d1.length c_a] :: Box b3 65 [.slice none 0 0, .slice none 0 0, .slice none 0 0] :: Own (TInt .i64) 2 (some ⟨b5, 0, none⟩) (([0, 0, 0, 0] : List Int).length) (fun _ => ()) x37 :: Own (TInt .i64) 2 (some ⟨b7, 0, none⟩) (([0, 0, 0, 0] : List Int).length) (fun _ => ()) x38 :: L) → G prog 106 153 [(3, .pointer (some ⟨b1, 0, none⟩)), (6, .pointer (some ⟨b3, 0, none⟩)), (8, .slice (some ⟨b5, 0, none⟩) x37.length (([0, 0, 0, 0] : List Int).length)), (9, .slice (some ⟨b7, 0, none⟩) x38.length (([0, 0, 0, 0] : List Int).length)), (12, I x979), (13, I x1349)] u2 w (spec_l12Plan41.post w0 L r1 r2 r3 r4) := by
         intro q1
         induction q1 using Nat.strongRecOn with
         | _ q1 k2 =>
          intro o2 x1349 w H HS
          cases q1 with
          | zero => rw [spec_l12Plan41.l12] at H; cases H
          | succ j2 =>
           rw [spec_l12Plan41.l12] at H
           subst e3
           refine rN 3 Z ?_
           rcases iS H with ⟨c1422, H⟩ | ⟨c1422, H⟩
           ·
            refine nB Z (tF c1422) (rN 4 Z (G.weak ?_ (y2 j2 (by omega) (by omega) _ _ H HS)))
            exact ⟨Z, Z, Z, Z, Z, tv⟩
           refine yB Z (tT c1422) (rN 6 Z ?_)
           rcases iE H with ⟨c1423, H⟩ | ⟨c1423, H⟩
           ·
            refine yB Z (tT c1423) (rN 3 Z (G.weak ?_ (k2 j2 (Nat.lt_succ_of_le (lR _)) (Nat.le_of_succ_le o2) _ _ H HS)))
            exact ⟨Z, Z, Z, Z, Z, Z, tv⟩
           refine nB Z (tF c1423) (rN 2 Z ?_)
           obtain ⟨c1424, H⟩ := iN H
           have h1425 := ((RdIn.own (j := 2) Z) _ HS).2.2.1
           obtain ⟨c1426, H⟩ := iN H
           obtain ⟨c1427, H⟩ := iN H
           have h1428 := ((RdIn.own (j := 3) Z) _ HS).2.2.1
           obtain ⟨t1429, h1430, H⟩ := bI H
           obtain ⟨t1433, h1434, H⟩ := bI H
           obtain ⟨c1437, H⟩ := iN H
           obtain ⟨e1438, h1439, H⟩ := bnd_elim H
           refine G.regionAny mixed (by decide) (fun b a w => ∃ (k1 : Value) (m1 : Value) (c2 : Value) (t1 : Value) (o1 : Value) (g1 : Value) (e1 : Value) (d2 : Value) (b2 : Value) (y1 : Value) (u1 : Value) (x1 : Value) (p1 : Value) (z1 : Value) (h1 : Value) (n1 : Value) (i1 : Value) (s1 : Value) (b1440 : Nat) (g2 : HObj), Sat 153 [(14, s1), (68, k1), (69, m1), (70, c2), (71, t1), (72, o1), (73, g1), (74, e1), (75, d2), (76, b2), (77, y1), (78, u1), (79, x1), (80, p1), (81, z1), (82, h1), (83, n1), (84, i1), (3, .pointer (some ⟨b1, 0, none⟩)), (6, .pointer (some ⟨b3, 0, none⟩)), (8, .slice (some ⟨b5, 0, none⟩) x37.length (([0, 0, 0, 0] : List Int).length)), (9, .slice (some ⟨b7, 0, none⟩) x38.length (([0, 0, 0, 0] : List Int).length)), (12, I x979), (13, I x1349)] a ∧ St w0 w (Box b1 31 [.slice A_a d1.length c_a] :: Box b3 65 [.slice none 0 0, .slice none 0 0, .slice none 0 0] :: Own (TInt .i64) 2 (some ⟨b5, 0, none⟩) (([0, 0, 0, 0] : List Int).length) (fun _ => ()) x37 :: Own (TInt .i64) 2 (some ⟨b7, 0, none⟩) (([0, 0, 0, 0] : List Int).length) (fun _ => ()) x38 :: g2 :: L) ∧ (b 17 = true → s1 = (.pointer (some ⟨b1440, 0, none⟩))) ∧ (b 0 = true → k1 = (.pointer (some ⟨b1, 0, none⟩))) ∧ (b 1 = true → m1 = (.slice A_a d1.length c_a)) ∧ (b 2 = true → c2 = (.slice (some ⟨b5, 0, none⟩) x37.length (([0, 0, 0, 0] : List Int).length))) ∧ (b 3 = true → t1 = (I x979)) ∧ (b 4 = true → o1 = (.pointer (some (ea (some ⟨b5, 0, none⟩) (x979.toNat * 1))))) ∧ (b 5 = true → g1 = (I (x37.getD x979.toNat 0))) ∧ (b 6 = true → e1 = (.pointer (some (ea A_a (((x37.getD x979.toNat 0).toNat) * 1))))) ∧ (b 7 = true → d2 = (.slice ((y_a ((x37.getD x979.toNat 0).toNat)).A) (d1.getD ((x37.getD x979.toNat 0).toNat) []).length ((y_a ((x37.getD x979.toNat 0).toNat)).c))) ∧ (b 8 = true → b2 = (.slice (some ⟨b7, 0, none⟩) x38.length (([0, 0, 0, 0] : List Int).length))) ∧ (b 9 = true → y1 = (I x979)) ∧ (b 10 = true → u1 = (.pointer (some (ea (some ⟨b7, 0, none⟩) (x979.toNat * 1))))) ∧ (b 11 = true → x1 = (I (x38.getD x979.toNat 0))) ∧ (b 12 = true → p1 = (I t1429)) ∧ (b 13 = true → z1 = (I x1349)) ∧ (b 14 = true → h1 = (I t1433)) ∧ (b 15 = true → n1 = (.pointer (some (ea ((y_a ((x37.getD x979.toNat 0).toNat)).A) (t1433.toNat * 2))))) ∧ (b 16 = true → i1 = (.agg [I e1438.Tet, I e1438.Perm].toArray)) ∧ (b 17 = true → b 18 = false → g2 = Box b1440 107 [I 0, I 0]) ∧ (b 18 = true → g2 = Box b1440 107 [I e1438.Tet, I e1438.Perm])) ?_ ?_ ?_
           ·
            intro a hs
            obtain ⟨s1, hs⟩ := hs.ext (d := 14) Z
            obtain ⟨k1, hs⟩ := hs.ext (d := 68) Z
            obtain ⟨m1, hs⟩ := hs.ext (d := 69) Z
            obtain ⟨c2, hs⟩ := hs.ext (d := 70) Z
            obtain ⟨t1, hs⟩ := hs.ext (d := 71) Z
            obtain ⟨o1, hs⟩ := hs.ext (d := 72) Z
            obtain ⟨g1, hs⟩ := hs.ext (d := 73) Z
            obtain ⟨e1, hs⟩ := hs.ext (d := 74) Z
            obtain ⟨d2, hs⟩ := hs.ext (d := 75) Z
            obtain ⟨b2, hs⟩ := hs.ext (d := 76) Z
            obtain ⟨y1, hs⟩ := hs.ext (d := 77) Z
            obtain ⟨u1, hs⟩ := hs.ext (d := 78) Z
            obtain ⟨x1, hs⟩ := hs.ext (d := 79) Z
            obtain ⟨p1, hs⟩ := hs.ext (d := 80) Z
            obtain ⟨z1, hs⟩ := hs.ext (d := 81) Z
            obtain ⟨h1, hs⟩ := hs.ext (d := 82) Z
            obtain ⟨n1, hs⟩ := hs.ext (d := 83) Z
            obtain ⟨i1, hs⟩ := hs.ext (d := 84) Z
            exact ⟨k1, m1, c2, t1, o1, g1, e1, d2, b2, y1, u1, x1, p1, z1, h1, n1, i1, s1, 0, Emp, hs.weak ⟨Z, Z, Z, Z, Z, Z, Z, Z, Z, Z, Z, Z, Z, Z, Z, Z, Z, Z, Z, Z, Z, Z, Z, Z, tv⟩, (HS.drew.emp.pk 5 [1, 2, 3, 4, 0] Z), fun h => Bool.noConfusion h, fun h => Bool.noConfusion h, fun h => Bool.noConfusion h, fun h => Bool.noConfusion h, fun h => Bool.noConfusion h, fun h => Bool.noConfusion h, fun h => Bool.noConfusion h, fun h => Bool.noConfusion h, fun h => Bool.noConfusion h, fun h => Bool.noConfusion h, fun h => Bool.noConfusion h, fun h => Bool.noConfusion h, fun h => Bool.noConfusion h, fun h => Bool.noConfusion h, fun h => Bool.noConfusion h, fun h => Bool.noConfusion h, fun h => Bool.noConfusion h, fun h => Bool.noConfusion h, fun h => Bool.noConfusion h, fun h => Bool.noConfusion h⟩
           ·
            intro j hj b a w
            refine exI fun k1 => exI fun m1 => exI fun c2 => exI fun t1 => exI fun o1 => exI fun g1 => exI fun e1 => exI fun d2 => exI fun b2 => exI fun y1 => exI fun u1 => exI fun x1 => exI fun p1 => exI fun z1 => exI fun h1 => exI fun n1 => exI fun i1 => exI fun s1 => exI fun b1440 => exI fun g2 => anI fun hs => anI fun HS => anI fun f17 => anI fun f0 => anI fun f1 => anI fun f2 => anI fun f3 => anI fun f4 => anI fun f5 => anI fun f6 => anI fun f7 => anI fun f8 => anI fun f9 => anI fun f10 => anI fun f11 => anI fun f12 => anI fun f13 => anI fun f14 => anI fun f15 => anI fun f16 => anI fun a1 => fun c1 hb hd hcl => ?_
            match j, hj with
            | 0, _ =>
             refine GO.at hs (fL b1 0 fl31_0 Z (GO.fin (fun a hs => ⟨(.pointer (some ⟨b1, 0, none⟩)), _, _, _, _, _, _, _, _, _, _, _, _, _, _, _, _, _, b1440, _, by exact hs.setAt 1 Z, HS, f17, fun _ => Z, f1, f2, f3, f4, f5, f6, f7, f8, f9, f10, f11, f12, f13, f14, f15, f16, a1, c1⟩)))
            | 1, _ =>
             have hb0 : b 0 = true := hd 0 (by decide)
             obtain rfl := f0 hb0
             refine GO.at hs (lB 0 HS Z na29 Z (GO.fin (fun a hs => ⟨_, (.slice A_a d1.length c_a), _, _, _, _, _, _, _, _, _, _, _, _, _, _, _, _, b1440, _, by exact hs.setAt 2 Z, HS, f17, f0, fun _ => Z, f2, f3, f4, f5, f6, f7, f8, f9, f10, f11, f12, f13, f14, f15, f16, a1, c1⟩)))
            | 2, _ =>
             refine GO.at hs (mV Z (GO.fin (fun a hs => ⟨_, _, (.slice (some ⟨b5, 0, none⟩) x37.length (([0, 0, 0, 0] : List Int).length)), _, _, _, _, _, _, _, _, _, _, _, _, _, _, _, b1440, _, by exact hs.setAt 3 Z, HS, f17, f0, f1, fun _ => Z, f3, f4, f5, f6, f7, f8, f9, f10, f11, f12, f13, f14, f15, f16, a1, c1⟩)))
            | 3, _ =>
             refine GO.at hs (mV Z (GO.fin (fun a hs => ⟨_, _, _, (I x979), _, _, _, _, _, _, _, _, _, _, _, _, _, _, b1440, _, by exact hs.setAt 4 Z, HS, f17, f0, f1, f2, fun _ => Z, f4, f5, f6, f7, f8, f9, f10, f11, f12, f13, f14, f15, f16, a1, c1⟩)))
            | 4, _ =>
             have hb2 : b 2 = true := hd 2 (by decide)
             obtain rfl := f2 hb2
             have hb3 : b 3 = true := hd 3 (by decide)
             obtain rfl := f3 hb3
             refine GO.at hs (GO.ix Z Z Z U56 sz2 h1425 c1424.1 c1424.2 Z (GO.fin (fun a hs => ⟨_, _, _, _, (.pointer (some (ea (some ⟨b5, 0, none⟩) (x979.toNat * 1)))), _, _, _, _, _, _, _, _, _, _, _, _, _, b1440, _, by exact hs.setAt 5 Z, HS, f17, f0, f1, f2, f3, fun _ => Z, f5, f6, f7, f8, f9, f10, f11, f12, f13, f14, f15, f16, a1, c1⟩)))
            | 5, _ =>
             have hb4 : b 4 = true := hd 4 (by decide)
             obtain rfl := f4 hb4
             refine GO.at hs (GO.ldRd (T := (TInt .i64)) (n := x979.toNat) (o := 0) HS (RdIn.own (j := 2) Z) Z Z (getD_some (d := 0) (ltN c1424)) Z Z na2 Z (GO.fin (fun a hs => ⟨_, _, _, _, _, (I (x37.getD x979.toNat 0)), _, _, _, _, _, _, _, _, _, _, _, _, b1440, _, by exact hs.setAt 6 Z, HS, f17, f0, f1, f2, f3, f4, fun _ => Z, f6, f7, f8, f9, f10, f11, f12, f13, f14, f15, f16, a1, c1⟩)))
            | 6, _ =>
             have hb1 : b 1 = true := hd 1 (by decide)
             obtain rfl := f1 hb1
             have hb5 : b 5 = true := hd 5 (by decide)
             obtain rfl := f5 hb5
             refine GO.at hs (GO.ix Z Z Z U29 sz77 ((rD 5 r_a) _ HS).2.2.1 c1426.1 c1426.2 Z (GO.fin (fun a hs => ⟨_, _, _, _, _, _, (.pointer (some (ea A_a (((x37.getD x979.toNat 0).toNat) * 1)))), _, _, _, _, _, _, _, _, _, _, _, b1440, _, by exact hs.setAt 7 Z, HS, f17, f0, f1, f2, f3, f4, f5, fun _ => Z, f7, f8, f9, f10, f11, f12, f13, f14, f15, f16, a1, c1⟩)))
            | 7, _ =>
             have hb6 : b 6 = true := hd 6 (by decide)
             obtain rfl := f6 hb6
             refine GO.at hs (GO.ldRd (T := (Ty.slice 107 T_GFace)) (n := (x37.getD x979.toNat 0).toNat) (o := 0) HS (rD 5 r_a) Z Z (getD_some (d := []) (ltN c1426)) Z Z na77 Z (GO.fin (fun a hs => ⟨_, _, _, _, _, _, _, (.slice ((y_a ((x37.getD x979.toNat 0).toNat)).A) (d1.getD ((x37.getD x979.toNat 0).toNat) []).length ((y_a ((x37.getD x979.toNat 0).toNat)).c)), _, _, _, _, _, _, _, _, _, _, b1440, _, by exact hs.setAt 8 Z, HS, f17, f0, f1, f2, f3, f4, f5, f6, fun _ => Z, f8, f9, f10, f11, f12, f13, f14, f15, f16, a1, c1⟩)))
            | 8, _ =>
             refine GO.at hs (mV Z (GO.fin (fun a hs => ⟨_, _, _, _, _, _, _, _, (.slice (some ⟨b7, 0, none⟩) x38.length (([0, 0, 0, 0] : List Int).length)), _, _, _, _, _, _, _, _, _, b1440, _, by exact hs.setAt 9 Z, HS, f17, f0, f1, f2, f3, f4, f5, f6, f7, fun _ => Z, f9, f10, f11, f12, f13, f14, f15, f16, a1, c1⟩)))
            | 9, _ =>
             refine GO.at hs (mV Z (GO.fin (fun a hs => ⟨_, _, _, _, _, _, _, _, _, (I x979), _, _, _, _, _, _, _, _, b1440, _, by exact hs.setAt 10 Z, HS, f17, f0, f1, f2, f3, f4, f5, f6, f7, f8, fun _ => Z, f10, f11, f12, f13, f14, f15, f16, a1, c1⟩)))
            | 10, _ =>
             have hb8 : b 8 = true := hd 8 (by decide)
             obtain rfl := f8 hb8
             have hb9 : b 9 = true := hd 9 (by decide)
             obtain rfl := f9 hb9
             refine GO.at hs (GO.ix Z Z Z U56 sz2 h1428 c1427.1 c1427.2 Z (GO.fin (fun a hs => ⟨_, _, _, _, _, _, _, _, _, _, (.pointer (some (ea (some ⟨b7, 0, none⟩) (x979.toNat * 1)))), _, _, _, _, _, _, _, b1440, _, by exact hs.setAt 11 Z, HS, f17, f0, f1, f2, f3, f4, f5, f6, f7, f8, f9, fun _ => Z, f11, f12, f13, f14, f15, f16, a1, c1⟩)))
            | 11, _ =>
             have hb10 : b 10 = true := hd 10 (by decide)
             obtain rfl := f10 hb10
             refine GO.at hs (GO.ldRd (T := (TInt .i64)) (n := x979.toNat) (o := 0) HS (RdIn.own (j := 3) Z) Z Z (getD_some (d := 0) (ltN c1427)) Z Z na2 Z (GO.fin (fun a hs => ⟨_, _, _, _, _, _, _, _, _, _, _, (I (x38.getD x979.toNat 0)), _, _, _, _, _, _, b1440, _, by exact hs.setAt 12 Z, HS, f17, f0, f1, f2, f3, f4, f5, f6, f7, f8, f9, f10, fun _ => Z, f12, f13, f14, f15, f16, a1, c1⟩)))
            | 12, _ =>
             have hb11 : b 11 = true := hd 11 (by decide)
             obtain rfl := f11 hb11
             refine GO.at hs (fJ fok77 Z (spec_l06Back.calls HS  h1430) (fun _ wd1431 ⟨h1432, HS⟩ => ⟨_, h1432, (GO.fin (fun a hs => ⟨_, _, _, _, _, _, _, _, _, _, _, _, (I t1429), _, _, _, _, _, b1440, _, by exact hs.setAt 13 Z, HS, f17, f0, f1, f2, f3, f4, f5, f6, f7, f8, f9, f10, f11, fun _ => Z, f13, f14, f15, f16, a1, c1⟩))⟩))
            | 13, _ =>
             refine GO.at hs (mV Z (GO.fin (fun a hs => ⟨_, _, _, _, _, _, _, _, _, _, _, _, _, (I x1349), _, _, _, _, b1440, _, by exact hs.setAt 14 Z, HS, f17, f0, f1, f2, f3, f4, f5, f6, f7, f8, f9, f10, f11, f12, fun _ => Z, f14, f15, f16, a1, c1⟩)))
            | 14, _ =>
             have hb12 : b 12 = true := hd 12 (by decide)
             obtain rfl := f12 hb12
             have hb13 : b 13 = true := hd 13 (by decide)
             obtain rfl := f13 hb13
             refine GO.at hs (fJ fok76 Z (spec_l06At.calls HS  h1434) (fun _ wd1435 ⟨h1436, HS⟩ => ⟨_, h1436, (GO.fin (fun a hs => ⟨_, _, _, _, _, _, _, _, _, _, _, _, _, _, (I t1433), _, _, _, b1440, _, by exact hs.setAt 15 Z, HS, f17, f0, f1, f2, f3, f4, f5, f6, f7, f8, f9, f10, f11, f12, f13, fun _ => Z, f15, f16, a1, c1⟩))⟩))
            | 15, _ =>
             have hb7 : b 7 = true := hd 7 (by decide)
             obtain rfl := f7 hb7
             have hb14 : b 14 = true := hd 14 (by decide)
             obtain rfl := f14 hb14
             refine GO.at hs (GO.ix Z Z Z U77 sz107 ((RdIn.elem (rD 5 r_a) c1426.1 c1426.2) _ HS).2.2.1 c1437.1 c1437.2 Z (GO.fin (fun a hs => ⟨_, _, _, _, _, _, _, _, _, _, _, _, _, _, _, (.pointer (some (ea ((y_a ((x37.getD x979.toNat 0).toNat)).A) (t1433.toNat * 2)))), _, _, b1440, _, by exact hs.setAt 16 Z, HS, f17, f0, f1, f2, f3, f4, f5, f6, f7, f8, f9, f10, f11, f12, f13, f14, fun _ => Z, f16, a1, c1⟩)))
            | 16, _ =>
             have hb15 : b 15 = true := hd 15 (by decide)
             obtain rfl := f15 hb15
             refine GO.at hs (GO.ldRdA (T := T_GFace) (n := t1433.toNat) HS (RdIn.elem (rD 5 r_a) c1426.1 c1426.2) Z Z (getD_eq (ltN c1437) h1439) ag107 Z (GO.fin (fun a hs => ⟨_, _, _, _, _, _, _, _, _, _, _, _, _, _, _, _, (.agg [I e1438.Tet, I e1438.Perm].toArray), _, b1440, _, by exact hs.setAt 17 Z, HS, f17, f0, f1, f2, f3, f4, f5, f6, f7, f8, f9, f10, f11, f12, f13, f14, f15, fun _ => Z, a1, c1⟩)))
            | 17, _ =>
             refine GO.at hs (GO.alloc HS Z zr107 Z Z fun b1440 wd1441 HS => GO.fin (fun a hs => ⟨_, _, _, _, _, _, _, _, _, _, _, _, _, _, _, _, _, (.pointer (some ⟨b1440, 0, none⟩)), b1440, Box b1440 107 [I 0, I 0], by exact hs.setAt 0 Z, HS.pk 6 [1, 2, 3, 4, 0] Z, fun _ => Z, f0, f1, f2, f3, f4, f5, f6, f7, f8, f9, f10, f11, f12, f13, f14, f15, f16, fun _ _ => Z, fun hh => (Bool.noConfusion ((hcl 18 (by decide) hh 17 (by decide)).symm.trans hb))⟩))
            | 18, _ =>
             have hb17 : b 17 = true := hd 17 (by decide)
             obtain rfl := f17 hb17
             have hb16 : b 16 = true := hd 16 (by decide)
             obtain rfl := f16 hb16
             obtain rfl := a1 hb17 hb
             refine GO.at hs (sW 4 HS Z ag107 Z fun wd1442 HS => GO.fin (fun a hs => ⟨_, _, _, _, _, _, _, _, _, _, _, _, _, _, _, _, _, _, b1440, Box b1440 107 [I e1438.Tet, I e1438.Perm], hs, HS, f17, f0, f1, f2, f3, f4, f5, f6, f7, f8, f9, f10, f11, f12, f13, f14, f15, f16, fun _ h => Bool.noConfusion h, fun _ => Z⟩))
            | k + 19, hj => exact absurd hj (Nat.not_lt.2 (Nat.le_add_left 19 k))
           ·
            intro b a w hall
            refine exI fun k1 => exI fun m1 => exI fun c2 => exI fun t1 => exI fun o1 => exI fun g1 => exI fun e1 => exI fun d2 => exI fun b2 => exI fun y1 => exI fun u1 => exI fun x1 => exI fun p1 => exI fun z1 => exI fun h1 => exI fun n1 => exI fun i1 => exI fun s1 => exI fun b1440 => exI fun g2 => anI fun hs => anI fun HS => anI fun f17 => anI fun f0 => anI fun f1 => anI fun f2 => anI fun f3 => anI fun f4 => anI fun f5 => anI fun f6 => anI fun f7 => anI fun f8 => anI fun f9 => anI fun f10 => anI fun f11 => anI fun f12 => anI fun f13 => anI fun f14 => anI fun f15 => anI fun f16 => anI fun a1 => fun c1 => ?_
            obtain rfl := f17 (hall 17 (by decide))
            obtain rfl := f0 (hall 0 (by decide))
            obtain rfl := f1 (hall 1 (by decide))
            obtain rfl := f2 (hall 2 (by decide))
            obtain rfl := f3 (hall 3 (by decide))
            obtain rfl := f4 (hall 4 (by decide))
            obtain rfl := f5 (hall 5 (by decide))
            obtain rfl := f6 (hall 6 (by decide))
            obtain rfl := f7 (hall 7 (by decide))
            obtain rfl := f8 (hall 8 (by decide))
            obtain rfl := f9 (hall 9 (by decide))
            obtain rfl := f10 (hall 10 (by decide))
            obtain rfl := f11 (hall 11 (by decide))
            obtain rfl := f12 (hall 12 (by decide))
            obtain rfl := f13 (hall 13 (by decide))
            obtain rfl := f14 (hall 14 (by decide))
            obtain rfl := f15 (hall 15 (by decide))
            obtain rfl := f16 (hall 16 (by decide))
            obtain rfl := c1 (hall 18 (by decide))
            refine G.at hs (sQ ?_)
            have h1468 := ((RdIn.own (j := 2) Z) _ HS).2.2.1
            obtain ⟨c1469, H⟩ := iN H
            have h1470 := ((RdIn.own (j := 2) Z) _ HS).2.2.1
            rcases iE H with ⟨c1471, H⟩ | ⟨c1471, H⟩
            ·
             refine G.lexS mixed (fun w => St w0 w (Own (TInt .i64) 2 (some ⟨b5, 0, none⟩) (([0, 0, 0, 0] : List Int).length) (fun _ => ()) x37 :: L)) [3, 7, 11, 15, 22, 25, 30] [0, 1, 2, 4, 5, 6, 3, 7, 8, 9, 10, 12, 13, 14, 11, 15, 16, 17, 18, 19, 20, 21, 24, 27, 28, 29, 32, 33, 22, 25, 30, 23, 26, 31, 34, 35, 36] [] (by kernel_rfl) (by kernel_rfl) (HS.drew.pk 5 [2] Z) ?_
             replace HS := HS.drew
             refine GX.ps 2 Z (qL Z Z (fun _ _ g => GO.ix Z Z Z U56 sz2 h1468 c1424.1 c1424.2 Z g) Z (GX.ps 2 Z (qL Z Z (fun _ _ g => GO.ix Z Z Z U56 sz2 h1470 c1469.1 c1469.2 Z g) Z (GX.ls Z Z Z (HS.pk 5 [2] Z) (fun _ HS _ g => GO.ldRd (T := (TInt .i64)) (n := x979.toNat) (o := 0) HS (RdIn.own (j := 0) Z) Z Z (getD_some (d := 0) (ltN c1424)) Z Z na2 Z g) Z (GX.ls Z Z Z (HS.pk 5 [2] Z) (fun _ HS _ g => GO.ldRd (T := (TInt .i64)) (n := x1349.toNat) (o := 0) HS (RdIn.own (j := 0) Z) Z Z (getD_some (d := 0) (ltN c1469)) Z Z na2 Z g) Z (GX.ps 1 Z (qL Z Z (fun _ _ g => mV Z (kN 94 Z (tT c1471) g)) Z (qL Z Z (fun _ _ g => oF Z g) Z (qL Z Z (fun _ _ g => oF Z g) Z (qL Z Z (fun _ _ g => oF Z g) Z (qL Z Z (fun _ _ g => oF Z g) Z (GX.ls Z Z Z (HS.pk 5 [2] Z) (fun _ HS _ g => oF Z g) Z (GX.ls Z Z Z (HS.pk 5 [2] Z) (fun _ HS _ g => oF Z g) Z (qL Z Z (fun _ _ g => oF Z g) Z ?_))))))))))))))
             refine GX.ps 2 Z (qL Z Z (fun _ _ g => oF Z g) Z (qL Z Z (fun _ _ g => oF Z g) Z (qL Z Z (fun _ _ g => oF Z g) Z (qL Z Z (fun _ _ g => oF Z g) Z (qL Z Z (fun _ _ g => oF Z g) Z (qL Z Z (fun _ _ g => oF Z g) Z (qL Z Z (fun _ _ g => oF Z g) Z (qL Z Z (fun _ _ g => oF Z g) Z (qL Z Z (fun _ _ g => oF Z g) Z (GX.ls Z Z Z (HS.pk 5 [2] Z) (fun _ HS _ g => oF Z g) Z (GX.ls Z Z Z (HS.pk 5 [2] Z) (fun _ HS _ g => oF Z g) Z (GX.ls Z Z Z (HS.pk 5 [2] Z) (fun _ HS _ g => oF Z g) Z (GX.l2 Z (oF Z ?_))))))))))))))
             refine GX.fin (HS.pk 5 [2] Z) (GX.l2 Z (oF Z (GX.fin (HS.pk 5 [2] Z) (GX.l2 Z (oF Z (GX.fin (HS.pk 5 [2] Z) (GX.l2 Z (oF Z (GX.fin (HS.pk 5 [2] Z) (qL Z Z (fun _ _ g => oF Z g) Z (GX.ps 1 Z (GX.nil (rN 2 Z (rG ?_))))))))))))))
             refine GO.buildV (.agg [.slice none 0 0, .slice none 0 0, .slice none 0 0].toArray) Z Z (fun _ => by kernel_rfl) Z (sW 1 HS Z ag65 Z fun wd1472 HS => aS Z (nL ?_))
             replace HS := HS.nilRow (TInt .i64) 2 (fun _ => ())
             replace HS := HS.nilRow (Ty.slice 107 T_GFace) 77 (fun _ => ⟨none, 0, (fun _ => ())⟩)
             replace HS := HS.nilRow T_GL12Outer 122 (fun _ => ())
             obtain ⟨rfl, rfl, rfl, rfl⟩ := some4 H
             exact G.ret2 _ _ func106 Z (Res1.boxA (j := 4) (vs := [.slice none 0 0, .slice none 0 0, .slice none 0 0]) HS Z Z Z ag65) Z ⟨_, _, _, _, _, _, _, Z, (HS.pk 8 [2, 1, 0] Z)⟩
            rcases iS H with ⟨c1473, H⟩ | ⟨c1473, H⟩
            ·
             refine G.lexS mixed (fun w => St w0 w (Own (TInt .i64) 2 (some ⟨b5, 0, none⟩) (([0, 0, 0, 0] : List Int).length) (fun _ => ()) x37 :: Box b1440 107 [I e1438.Tet, I e1438.Perm] :: L)) [3, 7, 11, 15, 22, 25, 30] [0, 1, 2, 4, 5, 6, 3, 7, 8, 9, 10, 12, 13, 14, 11, 15, 16, 17, 18, 19, 20, 21, 24, 27, 28, 29, 32, 33, 22, 25, 30, 23, 26, 31, 34, 35, 36] [] (by kernel_rfl) (by kernel_rfl) (HS.drew.pk 5 [2, 4] Z) ?_
             replace HS := HS.drew
             refine GX.ps 2 Z (qL Z Z (fun _ _ g => GO.ix Z Z Z U56 sz2 h1468 c1424.1 c1424.2 Z g) Z (GX.ps 2 Z (qL Z Z (fun _ _ g => GO.ix Z Z Z U56 sz2 h1470 c1469.1 c1469.2 Z g) Z (GX.ls Z Z Z (HS.pk 5 [2, 4] Z) (fun _ HS _ g => GO.ldRd (T := (TInt .i64)) (n := x979.toNat) (o := 0) HS (RdIn.own (j := 0) Z) Z Z (getD_some (d := 0) (ltN c1424)) Z Z na2 Z g) Z (GX.ls Z Z Z (HS.pk 5 [2, 4] Z) (fun _ HS _ g => GO.ldRd (T := (TInt .i64)) (n := x1349.toNat) (o := 0) HS (RdIn.own (j := 0) Z) Z Z (getD_some (d := 0) (ltN c1469)) Z Z na2 Z g) Z (GX.ps 1 Z (qL Z Z (fun _ _ g => mV Z (kN 94 Z (tF c1471) g)) Z (qL Z Z (fun _ _ g => oN Z (fL b1440 0 fl107_0 Z (bK g))) Z (qL Z Z (fun _ _ g => oN Z (mV Z (bK g))) Z (qL Z Z (fun _ _ g => oN Z (mV Z (bK g))) Z (qL Z Z (fun _ _ g => oN Z (GO.ix Z Z Z U56 sz2 (fun _ => ⟨_, _, Z⟩) c1469.1 c1469.2 Z (bK g))) Z (GX.ls Z Z Z (HS.pk 5 [2, 4] Z) (fun _ HS _ g => oN Z (lB 1 HS Z na2 Z (bK g))) Z (GX.ls Z Z Z (HS.pk 5 [2, 4] Z) (fun _ HS _ g => oN Z (GO.ldRd (T := (TInt .i64)) (n := x1349.toNat) (o := 0) HS (RdIn.own (j := 0) Z) Z Z (getD_some (d := 0) (ltN c1469)) Z Z na2 Z (bK g))) Z (qL Z Z (fun _ _ g => oN Z (GO.neq Z Z Z Z (bK g))) Z ?_))))))))))))))
             refine GX.ps 1 Z (qL Z Z (fun _ _ g => mV Z (kN 103 Z (nF c1473) g)) Z (qL Z Z (fun _ _ g => oF Z g) Z (qL Z Z (fun _ _ g => oF Z g) Z (qL Z Z (fun _ _ g => oF Z g) Z (qL Z Z (fun _ _ g => oF Z g) Z (qL Z Z (fun _ _ g => oF Z g) Z (qL Z Z (fun _ _ g => oF Z g) Z (qL Z Z (fun _ _ g => oF Z g) Z (qL Z Z (fun _ _ g => oF Z g) Z (qL Z Z (fun _ _ g => oF Z g) Z (GX.ls Z Z Z (HS.pk 5 [2, 4] Z) (fun _ HS _ g => oF Z g) Z (GX.ls Z Z Z (HS.pk 5 [2, 4] Z) (fun _ HS _ g => oF Z g) Z (GX.ls Z Z Z (HS.pk 5 [2, 4] Z) (fun _ HS _ g => oF Z g) Z (GX.l2 Z ?_))))))))))))))
             refine oF Z (GX.fin (HS.pk 5 [2, 4] Z) (GX.l2 Z (oF Z (GX.fin (HS.pk 5 [2, 4] Z) (GX.l2 Z (oF Z (GX.fin (HS.pk 5 [2, 4] Z) (GX.l2 Z (oF Z (GX.fin (HS.pk 5 [2, 4] Z) (qL Z Z (fun _ _ g => oF Z g) Z (GX.ps 1 Z (GX.nil (rN 2 Z ?_))))))))))))))
             refine rG (GO.buildV (.agg [.slice none 0 0, .slice none 0 0, .slice none 0 0].toArray) Z Z (fun _ => by kernel_rfl) Z (sW 1 HS Z ag65 Z fun wd1493 HS => aS Z (nL ?_)))
             replace HS := HS.nilRow (TInt .i64) 2 (fun _ => ())
             replace HS := HS.nilRow (Ty.slice 107 T_GFace) 77 (fun _ => ⟨none, 0, (fun _ => ())⟩)
             replace HS := HS.nilRow T_GL12Outer 122 (fun _ => ())
             obtain ⟨rfl, rfl, rfl, rfl⟩ := some4 H
             exact G.ret2 _ _ func106 Z (Res1.boxA (j := 4) (vs := [.slice none 0 0, .slice none 0 0, .slice none 0 0]) HS Z Z Z ag65) Z ⟨_, _, _, _, _, _, _, Z, (HS.pk 8 [2, 1, 0] Z)⟩
            obtain ⟨t1474, h1475, H⟩ := bI H
            obtain ⟨t1478, h1479, H⟩ := bI H
            obtain ⟨c1482, H⟩ := iN H
            obtain ⟨t1483, h1484, H⟩ := bI H
            obtain ⟨t1487, h1488, H⟩ := bI H
            refine G.lexS mixed (fun w => St w0 w (Own (TInt .i64) 2 (some ⟨b5, 0, none⟩) (([0, 0, 0, 0] : List Int).length) (fun _ => ()) x37 :: Own (TInt .i64) 2 (some ⟨b7, 0, none⟩) (([0, 0, 0, 0] : List Int).length) (fun _ => ()) x38 :: Box b1440 107 [I e1438.Tet, I e1438.Perm] :: L)) [3, 7, 11, 15, 22, 25, 30] [0, 1, 2, 4, 5, 6, 3, 7, 8, 9, 10, 12, 13, 14, 11, 15, 16, 17, 18, 19, 20, 21, 24, 27, 28, 29, 32, 33, 22, 25, 30, 23, 26, 31, 34, 35, 36] [] (by kernel_rfl) (by kernel_rfl) (HS.drew.pk 5 [2, 3, 4] Z) ?_
            replace HS := HS.drew
            refine GX.ps 2 Z (qL Z Z (fun _ _ g => GO.ix Z Z Z U56 sz2 h1468 c1424.1 c1424.2 Z g) Z (GX.ps 2 Z (qL Z Z (fun _ _ g => GO.ix Z Z Z U56 sz2 h1470 c1469.1 c1469.2 Z g) Z (GX.ls Z Z Z (HS.pk 5 [2, 3, 4] Z) (fun _ HS _ g => GO.ldRd (T := (TInt .i64)) (n := x979.toNat) (o := 0) HS (RdIn.own (j := 0) Z) Z Z (getD_some (d := 0) (ltN c1424)) Z Z na2 Z g) Z (GX.ls Z Z Z (HS.pk 5 [2, 3, 4] Z) (fun _ HS _ g => GO.ldRd (T := (TInt .i64)) (n := x1349.toNat) (o := 0) HS (RdIn.own (j := 0) Z) Z Z (getD_some (d := 0) (ltN c1469)) Z Z na2 Z g) Z (GX.ps 1 Z (qL Z Z (fun _ _ g => mV Z (kN 94 Z (tF c1471) g)) Z (qL Z Z (fun _ _ g => oN Z (fL b1440 0 fl107_0 Z (bK g))) Z (qL Z Z (fun _ _ g => oN Z (mV Z (bK g))) Z (qL Z Z (fun _ _ g => oN Z (mV Z (bK g))) Z (qL Z Z (fun _ _ g => oN Z (GO.ix Z Z Z U56 sz2 (fun _ => ⟨_, _, Z⟩) c1469.1 c1469.2 Z (bK g))) Z (GX.ls Z Z Z (HS.pk 5 [2, 3, 4] Z) (fun _ HS _ g => oN Z (lB 2 HS Z na2 Z (bK g))) Z (GX.ls Z Z Z (HS.pk 5 [2, 3, 4] Z) (fun _ HS _ g => oN Z (GO.ldRd (T := (TInt .i64)) (n := x1349.toNat) (o := 0) HS (RdIn.own (j := 0) Z) Z Z (getD_some (d := 0) (ltN c1469)) Z Z na2 Z (bK g))) Z (qL Z Z (fun _ _ g => oN Z (GO.neq Z Z Z Z (bK g))) Z ?_))))))))))))))
            refine GX.ps 1 Z (qL Z Z (fun _ _ g => mV Z (kN 103 Z (nT c1473) g)) Z (qL Z Z (fun _ _ g => oN Z (mV Z (bK g))) Z (qL Z Z (fun _ _ g => oN Z (mV Z (bK g))) Z (qL Z Z (fun _ _ g => oN Z (GO.ix Z Z Z U56 sz2 (fun _ => ⟨_, _, Z⟩) c1427.1 c1427.2 Z (bK g))) Z (qL Z Z (fun _ _ g => oN Z (fL b1440 1 fl107_1 Z (bK g))) Z (qL Z Z (fun _ _ g => oN Z (mV Z (bK g))) Z (qL Z Z (fun _ _ g => oN Z (mV Z (bK g))) Z (qL Z Z (fun _ _ g => oN Z (GO.ix Z Z Z U56 sz2 (fun _ => ⟨_, _, Z⟩) c1482.1 c1482.2 Z (bK g))) Z (qL Z Z (fun _ _ g => oN Z (mV Z (bK g))) Z (qL Z Z (fun _ _ g => oN Z (mV Z (bK g))) Z (GX.ls Z Z Z (HS.pk 5 [2, 3, 4] Z) (fun _ HS _ g => oN Z (GO.ldRd (T := (TInt .i64)) (n := x979.toNat) (o := 0) HS (RdIn.own (j := 1) Z) Z Z (getD_some (d := 0) (ltN c1427)) Z Z na2 Z (bK g))) Z (GX.ls Z Z Z (HS.pk 5 [2, 3, 4] Z) (fun _ HS _ g => oN Z (lB 2 HS Z na2 Z (bK g))) Z (GX.ls Z Z Z (HS.pk 5 [2, 3, 4] Z) (fun _ HS _ g => oN Z (GO.ldRd (T := (TInt .i64)) (n := x1349.toNat) (o := 0) HS (RdIn.own (j := 1) Z) Z Z (getD_some (d := 0) (ltN c1482)) Z Z na2 Z (bK g))) Z (GX.l2 Z ?_))))))))))))))
            refine oN Z (fJ fok77 Z (spec_l06Back.calls HS  h1475) (fun _ wd1476 ⟨h1477, HS⟩ => ⟨_, h1477, (bK (GX.fin (HS.pk 5 [2, 3, 4] Z) (GX.l2 Z (oN Z (fJ fok84 Z (spec_l06Then.calls HS  h1479) (fun _ wd1480 ⟨h1481, HS⟩ => ⟨_, h1481, (bK (GX.fin (HS.pk 5 [2, 3, 4] Z) (GX.l2 Z (oN Z (fJ fok84 Z (spec_l06Then.calls HS  h1484) (fun _ wd1485 ⟨h1486, HS⟩ => ⟨_, h1486, (bK (GX.fin (HS.pk 5 [2, 3, 4] Z) (GX.l2 Z ?_)))⟩))))))⟩))))))⟩))
            refine oN Z (fJ fok135 Z (spec_l12Exchange.calls HS  h1488) (fun _ wd1489 ⟨h1490, HS⟩ => ⟨_, h1490, (bK (GX.fin (HS.pk 5 [2, 3, 4] Z) (qL Z Z (fun _ _ g => oN Z (GO.neq Z Z Z Z (bK g))) Z (GX.ps 1 Z (GX.nil ?_)))))⟩))
            rcases iE H with ⟨c1491, H⟩ | ⟨c1491, H⟩
            ·
             refine nB Z (nT c1491) (rN 4 Z (G.weak ?_ (k2 j2 (Nat.lt_succ_of_le (lR _)) (Nat.le_of_succ_le o2) _ _ H (HS.pk 5 [0, 1, 2, 3] Z))))
             exact ⟨Z, Z, Z, Z, Z, Z, tv⟩
            refine yB Z (nF c1491) (sQ (rG (GO.buildV (.agg [.slice none 0 0, .slice none 0 0, .slice none 0 0].toArray) Z Z (fun _ => by kernel_rfl) Z (sW 1 HS Z ag65 Z fun wd1492 HS => aS Z (nL ?_)))))
            replace HS := HS.nilRow (TInt .i64) 2 (fun _ => ())
            replace HS := HS.nilRow (Ty.slice 107 T_GFace) 77 (fun _ => ⟨none, 0, (fun _ => ())⟩)
            replace HS := HS.nilRow T_GL12Outer 122 (fun _ => ())
            obtain ⟨rfl, rfl, rfl, rfl⟩ := some4 H
            exact G.ret2 _ _ func106 Z (Res1.boxA (j := 4) (vs := [.slice none 0 0, .slice none 0 0, .slice none 0 0]) HS Z Z Z ag65) Z ⟨_, _, _, _, _, _, _, Z, (HS.pk 8 [2, 1, 0] Z)⟩
        refine G.weak ?_ (g3 i2 (lR _) _ _ H HS)
        exact ⟨Z, Z, Z, Z, Z, Z, tv⟩
     refine G.weak ?_ (c3 h2 (lR _) _ _ H HS)
     exact ⟨Z, Z, Z, Z, Z, tv⟩
  refine G.weak ?_ (i3 K (lR _) _ _ _ _ H (HS.pk 4 [3, 2, 1, 0] Z))
  exact ⟨Z, Z, Z, Z, Z, Z, Z, tv⟩
theorem spec_l12Make.calls {a1 : List (List GFace)} {e1 d1 c1 : Int} {y_a : Nat → (Ty.slice 107 T_GFace).Lay} {r1 : List Int} {r2 : List (List GFace)} {r3 : List GL12Outer} {r4 : Bool} (HS : St w0 w (L)) (r_a : RdIn w0 L (Ty.slice 107 T_GFace) A_a c_a y_a a1) (H : spec_l12Make.f K a1 e1 d1 c1 = some (r1, r2, r3, r4)) :
    Calls prog 65 #[.agg [.slice A_a a1.length c_a].toArray, .agg [I e1, I d1, I c1].toArray] w (spec_l12Make.post w0 L r1 r2 r3 r4) := by
  unfold spec_l12Make.f at H
  refine cG func65 Z ?_
  refine sQ (rG (bA HS Z fun b1 wd2 HS => bA HS Z fun b3 wd4 HS => GO.alloc HS Z zr65 Z Z fun b5 wd6 HS => aS Z (nL (rN 2 Z (rG (fL b3 0 fl33_0 Z (lB 1 HS Z na2 Z (nL (rN 3 Z ?_)))))))))
  rcases iE H with ⟨c7, H⟩ | ⟨c7, H⟩
  ·
   refine yB Z (tT c7) (sQ ?_)
   obtain ⟨t8, t9, t10, t11, h12, H⟩ := bind4_elim H
   refine rG (lW 2 HS Z ag31 (fL b3 1 fl33_1 Z (lB 1 HS Z na2 Z (fL b3 2 fl33_2 Z (lB 1 HS Z na2 Z (fJ fok103 Z (spec_l12Plan23.calls HS (rD 3 r_a) h12) (fun _ wd20 ⟨A13, c14, A15, c16, y17, A18, c19, h21, HS⟩ => ⟨_, h21, (pS 2 Z (sW 3 HS Z ag65 Z fun wd22 HS => aS Z (nL ?_)))⟩)))))))
   obtain ⟨rfl, rfl, rfl, rfl⟩ := some4 H
   exact G.ret2 _ _ func65 Z (Res1.boxA (j := 3) (vs := [.slice A13 t8.length c14, .slice A15 t9.length c16, .slice A18 t10.length c19]) HS Z Z Z ag65) Z ⟨_, _, _, _, _, _, _, Z, (HS.pk 6 [0, 1, 2] Z)⟩
  refine nB Z (tF c7) (rN 2 Z ?_)
  rcases iE H with ⟨c23, H⟩ | ⟨c23, H⟩
  ·
   refine yB Z (tT c23) (sQ ?_)
   obtain ⟨t24, t25, t26, t27, h28, H⟩ := bind4_elim H
   refine rG (lW 2 HS Z ag31 (fL b3 1 fl33_1 Z (lB 1 HS Z na2 Z (fL b3 2 fl33_2 Z (lB 1 HS Z na2 Z (fJ fok104 Z (spec_l12Plan32.calls HS (rD 3 r_a) h28) (fun _ wd36 ⟨A29, c30, A31, c32, y33, A34, c35, h37, HS⟩ => ⟨_, h37, (pS 2 Z (sW 3 HS Z ag65 Z fun wd38 HS => aS Z (nL ?_)))⟩)))))))
   obtain ⟨rfl, rfl, rfl, rfl⟩ := some4 H
   exact G.ret2 _ _ func65 Z (Res1.boxA (j := 3) (vs := [.slice A29 t24.length c30, .slice A31 t25.length c32, .slice A34 t26.length c35]) HS Z Z Z ag65) Z ⟨_, _, _, _, _, _, _, Z, (HS.pk 6 [0, 1, 2] Z)⟩
  refine nB Z (tF c23) (rN 2 Z ?_)
  rcases iE H with ⟨c39, H⟩ | ⟨c39, H⟩
  ·
   refine yB Z (tT c39) (sQ ?_)
   obtain ⟨t40, t41, t42, h43, H⟩ := bind3_elim H
   refine rG (fL b3 1 fl33_1 Z (lB 1 HS Z na2 Z (fJ fok105 Z (spec_l12Plan14.calls HS  h43) (fun _ wd51 ⟨A44, c45, A46, c47, y48, A49, c50, h52, HS⟩ => ⟨_, h52, (sW 3 HS Z ag65 Z fun wd53 HS => aS Z (nL ?_))⟩))))
   obtain ⟨rfl, rfl, rfl, rfl⟩ := some4 H
   exact G.ret2 _ _ func65 Z (Res1.boxA (j := 3) (vs := [.slice A44 t40.length c45, .slice A46 t41.length c47, .slice A49 t42.length c50]) HS Z Z Z ag65) Z ⟨_, _, _, _, _, _, _, Z, (HS.pk 6 [0, 1, 2] Z)⟩
  refine nB Z (tF c39) (rN 3 Z ?_)
  obtain ⟨t54, t55, t56, t57, h58, H⟩ := bind4_elim H
  refine rG (lW 2 HS Z ag31 (fL b3 1 fl33_1 Z (lB 1 HS Z na2 Z (fL b3 2 fl33_2 Z (lB 1 HS Z na2 Z (fJ fok106 Z (spec_l12Plan41.calls HS (rD 3 r_a) h58) (fun _ wd66 ⟨A59, c60, A61, c62, y63, A64, c65, h67, HS⟩ => ⟨_, h67, (pS 2 Z (sW 3 HS Z ag65 Z fun wd68 HS => aS Z (nL ?_)))⟩)))))))
  obtain ⟨rfl, rfl, rfl, rfl⟩ := some4 H
  exact G.ret2 _ _ func65 Z (Res1.boxA (j := 3) (vs := [.slice A59 t54.length c60, .slice A61 t55.length c62, .slice A64 t56.length c65]) HS Z Z Z ag65) Z ⟨_, _, _, _, _, _, _, Z, (HS.pk 6 [0, 1, 2] Z)⟩
theorem spec_l12Check.calls {c1 : List (List GFace)} {e1 d1 a1 : Int} {y_a : Nat → (Ty.slice 107 T_GFace).Lay} {r1 : List Int} {r2 : List (List GFace)} {r3 : List GL12Outer} {r4 : Int} (HS : St w0 w (L)) (r_a : RdIn w0 L (Ty.slice 107 T_GFace) A_a c_a y_a c1) (H : spec_l12Check.f K c1 e1 d1 a1 = some (r1, r2, r3, r4)) :
    Calls prog 40 #[.agg [.slice A_a c1.length c_a].toArray, .agg [I e1, I d1, I a1].toArray] w (spec_l12Check.post w0 L r1 r2 r3 r4) := by
  unfold spec_l12Check.f at H
  refine cG func40 Z ?_
  refine sQ (rG (bA HS Z fun b1 wd2 HS => bA HS Z fun b3 wd4 HS => GO.alloc HS Z zr65 Z Z fun b5 wd6 HS => aS Z (nL (rN 2 Z ?_))))
  obtain ⟨t7, h8, H⟩ := bI H
  refine rG (lW 2 HS Z ag31 (fJ fok45 Z (spec_IsTriangulation.calls HS (rD 3 r_a) h8) (fun _ wd9 ⟨h10, HS⟩ => ⟨_, h10, (GO.not Z Z Z (nL ?_))⟩)))
  rcases iS H with ⟨c11, H⟩ | ⟨c11, H⟩
  ·
   refine yB Z (congrArg Bool.not (bnot_of c11)) (sQ (rG (GO.buildV (.agg [.slice none 0 0, .slice none 0 0, .slice none 0 0].toArray) Z Z (fun _ => by kernel_rfl) Z (sW 0 HS Z ag65 Z fun wd82 HS => aS Z (nL ?_)))))
   replace HS := HS.nilRow (TInt .i64) 2 (fun _ => ())
   replace HS := HS.nilRow (Ty.slice 107 T_GFace) 77 (fun _ => ⟨none, 0, (fun _ => ())⟩)
   replace HS := HS.nilRow T_GL12Outer 122 (fun _ => ())
   obtain ⟨rfl, rfl, rfl, rfl⟩ := some4 H
   exact G.ret2 _ _ func40 Z (Res1.boxA (j := 3) (vs := [.slice none 0 0, .slice none 0 0, .slice none 0 0]) HS Z Z Z ag65) Z ⟨_, _, _, _, _, _, _, Z, (HS.pk 6 [2, 1, 0] Z)⟩
  refine nB Z (congrArg Bool.not c11) (rN 3 Z ?_)
  obtain ⟨t34, h35, H⟩ := bI H
  rcases iE H with ⟨c38, H⟩ | ⟨c38, H⟩
  ·
   refine G.lexS mixed (fun w => St w0 w (Box b3 33 [I e1, I d1, I a1] :: L)) [1, 6, 7, 15, 17] [0, 1, 2, 3, 4, 5, 6, 7, 8, 9, 10, 11, 12, 13, 14, 16, 15, 17, 18, 19, 20, 21] [] (by kernel_rfl) (by kernel_rfl) (HS.drew.pk 3 [1] Z) ?_
   replace HS := HS.drew
   refine qL Z Z (fun _ _ g => fL b3 0 fl33_0 Z g) Z (GX.ls Z Z Z (HS.pk 3 [1] Z) (fun _ HS _ g => lB 0 HS Z na2 Z g) Z (GX.l2 Z (fJ fok62 Z (spec_l12Most.calls HS  h35) (fun _ wd36 ⟨h37, HS⟩ => ⟨_, h37, (GX.fin (HS.pk 3 [1] Z) (GX.ps 1 Z (qL Z Z (fun _ _ g => mV Z (kN 16 Z (tT c38) g)) Z (qL Z Z (fun _ _ g => oF Z g) Z (GX.ls Z Z Z (HS.pk 3 [1] Z) (fun _ HS _ g => oF Z g) Z (GX.ls Z Z Z (HS.pk 3 [1] Z) (fun _ HS _ g => oF Z g) Z (GX.l2 Z (oF Z (GX.fin (HS.pk 3 [1] Z) (qL Z Z (fun _ _ g => oF Z g) Z (GX.l2 Z ?_)))))))))))⟩))))
   refine oF Z (GX.fin (HS.pk 3 [1] Z) (qL Z Z (fun _ _ g => oF Z g) Z (GX.ps 2 Z (qL Z Z (fun _ _ g => oF Z g) Z (qL Z Z (fun _ _ g => oF Z g) Z (GX.ls Z Z Z (HS.pk 3 [1] Z) (fun _ HS _ g => oF Z g) Z (GX.ls Z Z Z (HS.pk 3 [1] Z) (fun _ HS _ g => oF Z g) Z (GX.l2 Z (oF Z (GX.fin (HS.pk 3 [1] Z) (GX.l2 Z (oF Z (GX.fin (HS.pk 3 [1] Z) (qL Z Z (fun _ _ g => oF Z g) Z ?_))))))))))))))
   refine GX.ps 1 Z (GX.nil (rN 2 Z (rG (GO.buildV (.agg [.slice none 0 0, .slice none 0 0, .slice none 0 0].toArray) Z Z (fun _ => by kernel_rfl) Z (sW 0 HS Z ag65 Z fun wd39 HS => aS Z (nL ?_))))))
   replace HS := HS.nilRow (TInt .i64) 2 (fun _ => ())
   replace HS := HS.nilRow (Ty.slice 107 T_GFace) 77 (fun _ => ⟨none, 0, (fun _ => ())⟩)
   replace HS := HS.nilRow T_GL12Outer 122 (fun _ => ())
   obtain ⟨rfl, rfl, rfl, rfl⟩ := some4 H
   exact G.ret2 _ _ func40 Z (Res1.boxA (j := 3) (vs := [.slice none 0 0, .slice none 0 0, .slice none 0 0]) HS Z Z Z ag65) Z ⟨_, _, _, _, _, _, _, Z, (HS.pk 6 [2, 1, 0] Z)⟩
  obtain ⟨t40, h41, H⟩ := bI H
  obtain ⟨t44, h45, H⟩ := bI H
  rcases iS H with ⟨c48, H⟩ | ⟨c48, H⟩
  ·
   refine G.lexS mixed (fun w => St w0 w (Box b3 33 [I e1, I d1, I a1] :: Box b1 31 [.slice A_a c1.length c_a] :: L)) [1, 6, 7, 15, 17] [0, 1, 2, 3, 4, 5, 6, 7, 8, 9, 10, 11, 12, 13, 14, 16, 15, 17, 18, 19, 20, 21] [] (by kernel_rfl) (by kernel_rfl) (HS.drew.pk 3 [1, 2] Z) ?_
   replace HS := HS.drew
   refine qL Z Z (fun _ _ g => fL b3 0 fl33_0 Z g) Z (GX.ls Z Z Z (HS.pk 3 [1, 2] Z) (fun _ HS _ g => lB 0 HS Z na2 Z g) Z (GX.l2 Z (fJ fok62 Z (spec_l12Most.calls HS  h35) (fun _ wd36 ⟨h37, HS⟩ => ⟨_, h37, (GX.fin (HS.pk 3 [1, 2] Z) (GX.ps 1 Z (qL Z Z (fun _ _ g => mV Z (kN 16 Z (tF c38) g)) Z (qL Z Z (fun _ _ g => oN Z (fL b3 1 fl33_1 Z (bK g))) Z (GX.ls Z Z Z (HS.pk 3 [1, 2] Z) (fun _ HS _ g => oN Z (lB 0 HS Z na2 Z (bK g))) Z (GX.ls Z Z Z (HS.pk 3 [1, 2] Z) (fun _ HS _ g => oN Z (lW 1 HS Z ag31 (bK g))) Z (GX.l2 Z (oN Z (fJ fok64 Z (spec_l07Tets.calls HS (rD 3 r_a) h41) (fun _ wd42 ⟨h43, HS⟩ => ⟨_, h43, (bK (GX.fin (HS.pk 3 [1, 2] Z) ?_))⟩))))))))))⟩))))
   refine qL Z Z (fun _ _ g => oN Z (GO.sub Z Z Z Z (bK g))) Z (GX.l2 Z (oN Z (fJ fok63 Z (spec_l07In.calls HS  h45) (fun _ wd46 ⟨h47, HS⟩ => ⟨_, h47, (bK (GX.fin (HS.pk 3 [1, 2] Z) (qL Z Z (fun _ _ g => oN Z (GO.not Z Z Z (bK g))) Z (GX.ps 1 Z (qL Z Z (fun _ _ g => mV Z (kN 25 Z (congrArg Bool.not (bnot_of c48)) g)) Z (qL Z Z (fun _ _ g => oF Z g) Z (qL Z Z (fun _ _ g => oF Z g) Z (GX.ls Z Z Z (HS.pk 3 [1, 2] Z) (fun _ HS _ g => oF Z g) Z (GX.ls Z Z Z (HS.pk 3 [1, 2] Z) (fun _ HS _ g => oF Z g) Z (GX.l2 Z (oF Z ?_)))))))))))⟩))))
   refine GX.fin (HS.pk 3 [1, 2] Z) (GX.l2 Z (oF Z (GX.fin (HS.pk 3 [1, 2] Z) (qL Z Z (fun _ _ g => oF Z g) Z (GX.ps 1 Z (GX.nil (rN 2 Z (rG (GO.buildV (.agg [.slice none 0 0, .slice none 0 0, .slice none 0 0].toArray) Z Z (fun _ => by kernel_rfl) Z (sW 0 HS Z ag65 Z fun wd81 HS => aS Z (nL ?_)))))))))))
   replace HS := HS.nilRow (TInt .i64) 2 (fun _ => ())
   replace HS := HS.nilRow (Ty.slice 107 T_GFace) 77 (fun _ => ⟨none, 0, (fun _ => ())⟩)
   replace HS := HS.nilRow T_GL12Outer 122 (fun _ => ())
   obtain ⟨rfl, rfl, rfl, rfl⟩ := some4 H
   exact G.ret2 _ _ func40 Z (Res1.boxA (j := 3) (vs := [.slice none 0 0, .slice none 0 0, .slice none 0 0]) HS Z Z Z ag65) Z ⟨_, _, _, _, _, _, _, Z, (HS.pk 6 [2, 1, 0] Z)⟩
  obtain ⟨t49, h50, H⟩ := bI H
  obtain ⟨t53, h54, H⟩ := bI H
  refine G.lexS mixed (fun w => St w0 w (Box b3 33 [I e1, I d1, I a1] :: Box b1 31 [.slice A_a c1.length c_a] :: L)) [1, 6, 7, 15, 17] [0, 1, 2, 3, 4, 5, 6, 7, 8, 9, 10, 11, 12, 13, 14, 16, 15, 17, 18, 19, 20, 21] [] (by kernel_rfl) (by kernel_rfl) (HS.drew.pk 3 [1, 2] Z) ?_
  replace HS := HS.drew
  refine qL Z Z (fun _ _ g => fL b3 0 fl33_0 Z g) Z (GX.ls Z Z Z (HS.pk 3 [1, 2] Z) (fun _ HS _ g => lB 0 HS Z na2 Z g) Z (GX.l2 Z (fJ fok62 Z (spec_l12Most.calls HS  h35) (fun _ wd36 ⟨h37, HS⟩ => ⟨_, h37, (GX.fin (HS.pk 3 [1, 2] Z) (GX.ps 1 Z (qL Z Z (fun _ _ g => mV Z (kN 16 Z (tF c38) g)) Z (qL Z Z (fun _ _ g => oN Z (fL b3 1 fl33_1 Z (bK g))) Z (GX.ls Z Z Z (HS.pk 3 [1, 2] Z) (fun _ HS _ g => oN Z (lB 0 HS Z na2 Z (bK g))) Z (GX.ls Z Z Z (HS.pk 3 [1, 2] Z) (fun _ HS _ g => oN Z (lW 1 HS Z ag31 (bK g))) Z (GX.l2 Z (oN Z (fJ fok64 Z (spec_l07Tets.calls HS (rD 3 r_a) h41) (fun _ wd42 ⟨h43, HS⟩ => ⟨_, h43, (bK (GX.fin (HS.pk 3 [1, 2] Z) ?_))⟩))))))))))⟩))))
  refine qL Z Z (fun _ _ g => oN Z (GO.sub Z Z Z Z (bK g))) Z (GX.l2 Z (oN Z (fJ fok63 Z (spec_l07In.calls HS  h45) (fun _ wd46 ⟨h47, HS⟩ => ⟨_, h47, (bK (GX.fin (HS.pk 3 [1, 2] Z) (qL Z Z (fun _ _ g => oN Z (GO.not Z Z Z (bK g))) Z (GX.ps 1 Z (qL Z Z (fun _ _ g => mV Z (kN 25 Z (congrArg Bool.not c48) g)) Z (qL Z Z (fun _ _ g => oN Z (fL b3 2 fl33_2 Z (bK g))) Z (qL Z Z (fun _ _ g => oN Z (fL b3 0 fl33_0 Z (bK g))) Z (GX.ls Z Z Z (HS.pk 3 [1, 2] Z) (fun _ HS _ g => oN Z (lB 0 HS Z na2 Z (bK g))) Z (GX.ls Z Z Z (HS.pk 3 [1, 2] Z) (fun _ HS _ g => oN Z (lB 0 HS Z na2 Z (bK g))) Z (GX.l2 Z (oN Z ?_)))))))))))⟩))))
  refine fJ fok62 Z (spec_l12Most.calls HS  h50) (fun _ wd51 ⟨h52, HS⟩ => ⟨_, h52, (bK (GX.fin (HS.pk 3 [1, 2] Z) (GX.l2 Z (oN Z (fJ fok63 Z (spec_l07In.calls HS  h54) (fun _ wd55 ⟨h56, HS⟩ => ⟨_, h56, (bK (GX.fin (HS.pk 3 [1, 2] Z) (qL Z Z (fun _ _ g => oN Z (GO.not Z Z Z (bK g))) Z (GX.ps 1 Z (GX.nil ?_)))))⟩))))))⟩)
  rcases iS H with ⟨c57, H⟩ | ⟨c57, H⟩
  ·
   refine yB Z (congrArg Bool.not (bnot_of c57)) (sQ (rG (GO.buildV (.agg [.slice none 0 0, .slice none 0 0, .slice none 0 0].toArray) Z Z (fun _ => by kernel_rfl) Z (sW 0 HS Z ag65 Z fun wd80 HS => aS Z (nL ?_)))))
   replace HS := HS.nilRow (TInt .i64) 2 (fun _ => ())
   replace HS := HS.nilRow (Ty.slice 107 T_GFace) 77 (fun _ => ⟨none, 0, (fun _ => ())⟩)
   replace HS := HS.nilRow T_GL12Outer 122 (fun _ => ())
   obtain ⟨rfl, rfl, rfl, rfl⟩ := some4 H
   exact G.ret2 _ _ func40 Z (Res1.boxA (j := 3) (vs := [.slice none 0 0, .slice none 0 0, .slice none 0 0]) HS Z Z Z ag65) Z ⟨_, _, _, _, _, _, _, Z, (HS.pk 6 [2, 1, 0] Z)⟩
  refine nB Z (congrArg Bool.not c57) (rN 2 Z ?_)
  obtain ⟨t58, t59, t60, t61, h62, H⟩ := bind4_elim H
  refine rG (lW 2 HS Z ag31 (lW 1 HS Z ag33 (fJ fok65 Z (spec_l12Make.calls HS (rD 3 r_a) h62) (fun _ wd70 ⟨A63, c64, A65, c66, y67, A68, c69, h71, HS⟩ => ⟨_, h71, (pS 3 Z (GO.alloc HS Z zr65 Z Z fun b72 wd73 HS => sW 0 HS Z ag65 Z fun wd74 HS => aS Z (nL (rN 3 Z ?_))))⟩))))
  rcases iS H with ⟨c75, H⟩ | ⟨c75, H⟩
  ·
   refine yB Z (congrArg Bool.not (bnot_of c75)) (sQ (rG (GO.buildV (.agg [.slice none 0 0, .slice none 0 0, .slice none 0 0].toArray) Z Z (fun _ => by kernel_rfl) Z (sW 4 HS Z ag65 Z fun wd79 HS => aS Z (nL ?_)))))
   replace HS := HS.nilRow (TInt .i64) 2 (fun _ => ())
   replace HS := HS.nilRow (Ty.slice 107 T_GFace) 77 (fun _ => ⟨none, 0, (fun _ => ())⟩)
   replace HS := HS.nilRow T_GL12Outer 122 (fun _ => ())
   obtain ⟨rfl, rfl, rfl, rfl⟩ := some4 H
   exact G.ret2 _ _ func40 Z (Res1.boxA (j := 7) (vs := [.slice none 0 0, .slice none 0 0, .slice none 0 0]) HS Z Z Z ag65) Z ⟨_, _, _, _, _, _, _, Z, (HS.pk 10 [2, 1, 0] Z)⟩
  refine nB Z (congrArg Bool.not c75) (rN 3 Z (rG (fL b1 0 fl31_0 Z (lB 6 HS Z na29 Z (lS Z Z U29 Z (fL b72 0 fl65_0 Z (lB 0 HS Z na56 Z (lS Z Z U56 Z (GO.sub Z Z Z Z (fL b72 1 fl65_1 Z (lB 0 HS Z na29 Z (lS Z Z U29 Z (pS 2 Z (nL ?_))))))))))))))
  rcases iS H with ⟨c76, H⟩ | ⟨c76, H⟩
  ·
   refine nB Z (tF c76) (rN 2 Z (rG (lW 0 HS Z ag65 (sW 4 HS Z ag65 Z fun wd78 HS => aS Z (nL ?_)))))
   obtain ⟨rfl, rfl, rfl, rfl⟩ := some4 H
   exact G.ret2 _ _ func40 Z (Res1.boxA (j := 4) (vs := [.slice A63 t58.length c64, .slice A65 t59.length c66, .slice A68 t60.length c69]) HS Z Z Z ag65) Z ⟨_, _, _, _, _, _, _, Z, (HS.pk 7 [1, 2, 3] Z)⟩
  refine yB Z (tT c76) (sQ (rG (GO.buildV (.agg [.slice none 0 0, .slice none 0 0, .slice none 0 0].toArray) Z Z (fun _ => by kernel_rfl) Z (sW 4 HS Z ag65 Z fun wd77 HS => aS Z (nL ?_)))))
  replace HS := HS.nilRow (TInt .i64) 2 (fun _ => ())
  replace HS := HS.nilRow (Ty.slice 107 T_GFace) 77 (fun _ => ⟨none, 0, (fun _ => ())⟩)
  replace HS := HS.nilRow T_GL12Outer 122 (fun _ => ())
  obtain ⟨rfl, rfl, rfl, rfl⟩ := some4 H
  exact G.ret2 _ _ func40 Z (Res1.boxA (j := 7) (vs := [.slice none 0 0, .slice none 0 0, .slice none 0 0]) HS Z Z Z ag65) Z ⟨_, _, _, _, _, _, _, Z, (HS.pk 10 [2, 1, 0] Z)⟩
theorem spec_MoveCode.calls {a1 : List (List GFace)} {e1 d1 c1 : Int} {y_a : Nat → (Ty.slice 107 T_GFace).Lay} {r1 : Int} (HS : St w0 w (L)) (r_a : RdIn w0 L (Ty.slice 107 T_GFace) A_a c_a y_a a1) (H : spec_MoveCode.f K a1 e1 d1 c1 = some r1) :
    Calls prog 11 #[.agg [.slice A_a a1.length c_a].toArray, .agg [I e1, I d1, I c1].toArray] w (spec_MoveCode.post w0 L r1) := by
  unfold spec_MoveCode.f at H
  refine cG func11 Z ?_
  refine sQ (rG (bA HS Z fun b1 wd2 HS => bA HS Z fun b3 wd4 HS => aS Z (nL (sQ ?_))))
  obtain ⟨t5, t6, t7, t8, h9, H⟩ := bind4_elim H
  refine rG (lW 1 HS Z ag31 (lW 0 HS Z ag33 (fJ fok40 Z (spec_l12Check.calls HS (rD 2 r_a) h9) (fun _ wd17 ⟨A10, c11, A12, c13, y14, A15, c16, h18, HS⟩ => ⟨_, h18, (pS 3 Z (GO.alloc HS Z zr65 Z Z fun b19 wd20 HS => sW 0 HS Z ag65 Z fun wd21 HS => aS Z (nL (rN 2 Z ?_))))⟩))))
  obtain rfl := sI H
  exact rT _ func11 Z Z ⟨Z, (HS.pk 6 [] Z)⟩
theorem impl_isTriangulation_fn1.calls {faces : List GFace} {r1 : Bool} (HS : St w0 w (L)) (r_a : RdIn w0 L T_GFace A_a c_a (fun _ => ()) faces) (H : impl_isTriangulation_fn1.f faces = some r1) :
    Calls prog 68 #[.slice A_a faces.length c_a] w (impl_isTriangulation_fn1.post w0 L r1) := by
  unfold impl_isTriangulation_fn1.f at H
  refine cG func68 Z ?_
  refine rN 3 Z (rG (mV Z (lS Z Z U77 Z (pS 2 Z (nL ?_)))))
  obtain rfl := sI H
  exact rT _ func68 Z Z ⟨Z, HS⟩
theorem slices_IndexFunc_impl_Face_impl_Face_isTriangulation_fn1.calls {s : List (List GFace)} {y_a : Nat → (Ty.slice 107 T_GFace).Lay} {r1 : Int} (HS : St w0 w (L)) (r_a : RdIn w0 L (Ty.slice 107 T_GFace) A_a c_a y_a s) (H : slices_IndexFunc_impl_Face_impl_Face_isTriangulation_fn1.f K s = some r1) :
    Calls prog 108 #[.slice A_a s.length c_a, .func (.func 68) #[] #[]] w (slices_IndexFunc_impl_Face_impl_Face_isTriangulation_fn1.post w0 L r1) := by
  unfold slices_IndexFunc_impl_Face_impl_Face_isTriangulation_fn1.f at H
  refine cG func108 Z ?_
  refine rN 4 Z (rG (mV Z (lS Z Z U29 Z (mV Z (nL (rN 2 Z ?_))))))
  refine G.name (fun f1 g1 => ?_)
  have d1 : ∀ a1, a1 ≤ K → ∀ (x8 : Int) (w : World), slices_IndexFunc_impl_Face_impl_Face_isTriangulation_fn1.l1 K a1 s x8 = some r1 → St w0 w (L) → G prog 108 19 [(0, .slice A_a s.length c_a), (1, .func (.func 68) #[] #[]), (7, I (s.length : Int)), (8, I x8)] f1 w (slices_IndexFunc_impl_Face_impl_Face_isTriangulation_fn1.post w0 L r1) := by
   intro a1
   induction a1 using Nat.strongRecOn with
   | _ a1 b1 =>
    intro e1 x8 w H HS
    cases a1 with
    | zero => rw [slices_IndexFunc_impl_Face_impl_Face_isTriangulation_fn1.l1] at H; cases H
    | succ c1 =>
     rw [slices_IndexFunc_impl_Face_impl_Face_isTriangulation_fn1.l1] at H
     subst g1
     refine rN 3 Z ?_
     rcases iS H with ⟨c16, H⟩ | ⟨c16, H⟩
     ·
      refine nB Z (tF c16) (rN 3 Z ?_)
      obtain rfl := sI H
      exact rT _ func108 Z Z ⟨Z, HS⟩
     refine yB Z (tT c16) (rN 6 Z ?_)
     obtain ⟨c17, H⟩ := iN H
     obtain ⟨t18, h19, H⟩ := bI H
     refine rG (pS 3 Z (GO.ix Z Z Z U29 sz77 (r_a _ HS).2.2.1 c17.1 c17.2 Z (GO.ldRd (T := (Ty.slice 107 T_GFace)) (n := x8.toNat) (o := 0) HS r_a Z Z (getD_some (d := []) (ltN c17)) Z Z na77 Z (GO.clo Z Z func68 fok68.2.1 fok68.2.2 Z Z (impl_isTriangulation_fn1.calls HS (RdIn.elem r_a c17.1 c17.2) h19) (fun _ wd20 ⟨h21, HS⟩ => ⟨_, h21, (nL ?_)⟩)))))
     rcases iE H with ⟨c22, H⟩ | ⟨c22, H⟩
     ·
      refine yB Z c22 (rN 2 Z ?_)
      obtain rfl := sI H
      exact rT _ func108 Z Z ⟨Z, HS⟩
     refine nB Z (bnot_of c22) (rN 4 Z (G.weak ?_ (b1 c1 (Nat.lt_succ_of_le (lR _)) (Nat.le_of_succ_le e1) _ _ H HS)))
     exact ⟨Z, Z, Z, Z, tv⟩
  refine G.weak ?_ (d1 K (lR _) _ _ H HS)
  exact ⟨Z, Z, Z, Z, tv⟩
theorem slices_ContainsFunc_impl_Face_impl_Face_isTriangulation_fn1.calls {s : List (List GFace)} {y_a : Nat → (Ty.slice 107 T_GFace).Lay} {r1 : Bool} (HS : St w0 w (L)) (r_a : RdIn w0 L (Ty.slice 107 T_GFace) A_a c_a y_a s) (H : slices_ContainsFunc_impl_Face_impl_Face_isTriangulation_fn1.f K s = some r1) :
    Calls prog 67 #[.slice A_a s.length c_a, .func (.func 68) #[] #[]] w (slices_ContainsFunc_impl_Face_impl_Face_isTriangulation_fn1.post w0 L r1) := by
  unfold slices_ContainsFunc_impl_Face_impl_Face_isTriangulation_fn1.f at H
  refine cG func67 Z ?_
  refine rN 3 Z ?_
  obtain ⟨t1, h2, H⟩ := bI H
  refine rG (pS 2 Z (fJ fok108 Z (slices_IndexFunc_impl_Face_impl_Face_isTriangulation_fn1.calls HS r_a h2) (fun _ wd3 ⟨h4, HS⟩ => ⟨_, h4, (pS 2 Z (nL ?_))⟩)))
  obtain rfl := sI H
  exact rT _ func67 Z Z ⟨Z, HS⟩
theorem impl_size_impl_Face.calls {list : List (List GFace)} {y_a : Nat → (Ty.slice 107 T_GFace).Lay} {r1 : Int} (HS : St w0 w (L)) (r_a : RdIn w0 L (Ty.slice 107 T_GFace) A_a c_a y_a list) (H : impl_size_impl_Face.f list = some r1) :
    Calls prog 49 #[.slice A_a list.length c_a] w (impl_size_impl_Face.post w0 L r1) := by
  unfold impl_size_impl_Face.f at H
  refine cG func49 Z ?_
  refine rN 3 Z (rG (mV Z (lS Z Z U29 Z (aS Z (nL ?_)))))
  obtain rfl := sI H
  exact rT _ func49 Z Z ⟨Z, HS⟩
theorem impl_inRange.calls {x low high : Int} {r1 : Bool} (HS : St w0 w (L)) (H : impl_inRange.f x low high = some r1) :
    Calls prog 71 #[I x, I low, I high] w (impl_inRange.post w0 L r1) := by
  unfold impl_inRange.f at H
  refine cG func71 Z ?_
  refine rN 3 Z ?_
  rcases iS H with ⟨c1, H⟩ | ⟨c1, H⟩
  ·
   refine rG (pS 4 Z (kN 10 Z (tF c1) (oF Z (oF Z (oF Z (pS 2 Z (nL ?_)))))))
   obtain rfl := sI H
   exact rT _ func71 Z Z ⟨Z, HS⟩
  refine rG (pS 4 Z (kN 10 Z (tT c1) (oN Z (mV Z (bK (oN Z (mV Z (bK (oN Z (GO.leq Z Z Z Z (bK (pS 2 Z (nL ?_)))))))))))))
  obtain rfl := sI H
  exact rT _ func71 Z Z ⟨Z, HS⟩
theorem impl_hasIndex_impl_Face.calls {list : List (List GFace)} {i : Int} {y_a : Nat → (Ty.slice 107 T_GFace).Lay} {r1 : Bool} (HS : St w0 w (L)) (r_a : RdIn w0 L (Ty.slice 107 T_GFace) A_a c_a y_a list) (H : impl_hasIndex_impl_Face.f list i = some r1) :
    Calls prog 70 #[.slice A_a list.length c_a, I i] w (impl_hasIndex_impl_Face.post w0 L r1) := by
  unfold impl_hasIndex_impl_Face.f at H
  refine cG func70 Z ?_
  refine rN 3 Z ?_
  obtain ⟨t1, h2, H⟩ := bI H
  obtain ⟨t5, h6, H⟩ := bI H
  refine rG (pS 2 Z (fJ fok49 Z (impl_size_impl_Face.calls HS r_a h2) (fun _ wd3 ⟨h4, HS⟩ => ⟨_, h4, (GO.sub Z Z Z Z (fJ fok71 Z (impl_inRange.calls HS  h6) (fun _ wd7 ⟨h8, HS⟩ => ⟨_, h8, (aS Z (nL ?_))⟩)))⟩)))
  obtain rfl := sI H
  exact rT _ func70 Z Z ⟨Z, HS⟩
theorem impl_isPerm.calls {p : Int} {r1 : Bool} (HS : St w0 w (L)) (H : impl_isPerm.f p = some r1) :
    Calls prog 109 #[I p] w (impl_isPerm.post w0 L r1) := by
  unfold impl_isPerm.f at H
  refine cG func109 Z ?_
  refine rN 3 Z ?_
  obtain ⟨t1, h2, H⟩ := bI H
  refine rG (mV Z (fJ fok71 Z (impl_inRange.calls HS  h2) (fun _ wd3 ⟨h4, HS⟩ => ⟨_, h4, (aS Z (nL ?_))⟩)))
  obtain rfl := sI H
  exact rT _ func109 Z Z ⟨Z, HS⟩
theorem slices_Delete_int64_int64.calls {s : List Int} {i j_ : Int} {r1 : List Int} (HS : St w0 w (Own (TInt .i64) 2 A_a c_a (fun _ => ()) s :: L)) (H : slices_Delete_int64_int64.f s i j_ = some r1) :
    Calls prog 129 #[.slice A_a s.length c_a, I i, I j_] w (slices_Delete_int64_int64.post w0 L r1) := by
  unfold slices_Delete_int64_int64.f at H
  refine cG func129 Z ?_
  refine rN 3 Z ?_
  obtain ⟨c1, H⟩ := iN H
  obtain ⟨c2, H⟩ := iN H
  refine rG (pS 4 Z (lS Z Z U56 Z (GO.slM Z Z Z Z Z U56 sz2 c1 c2 (Int.ofNat_le.2 ((RdIn.own (j := 0) Z) _ HS).1) Z (nL (rN 3 Z ?_)))))
  rcases iE H with ⟨c3, H⟩ | ⟨c3, H⟩
  ·
   refine yB Z (tT c3) (rN 2 Z ?_)
   obtain rfl := sI H
   exact rT _ func129 Z Z ⟨_, _, Z, HS⟩
  refine nB Z (tF c3) (rN 2 Z (rG (mV Z (lS Z Z U56 Z (aS Z (nL (sQ ?_)))))))
  obtain ⟨c4, H⟩ := iN H
  obtain ⟨c5, H⟩ := iN H
  obtain ⟨c7, H⟩ := iN H
  have h8 := over_lenD c7 (leN c5)
  refine G.lex mixed [0, 1, 3, 4, 2, 5, 6, 7] (by kernel_rfl) ?_
  replace HS := HS.drew
  refine GX.ps 4 Z (GX.l1 Z Z Z (fun _ g => GO.slH (T := (TInt .i64)) HS (RdIn.own (j := 0) Z) Z Z Z U56 sz2 c4.1 c4.2 Z g) Z (GX.l1 Z Z Z (fun _ g => GO.slL (T := (TInt .i64)) HS (RdIn.own (j := 0) Z) Z Z Z U56 sz2 c5.1 c5.2 Z g) Z (GX.l2 Z (GO.appCut (T := (TInt .i64)) (j := 0) (i1 := i.toNat) (l1 := j_.toNat) HS Z flat_flat (fun _ _ => Z) Z Z Z (by rw [List.drop_zero, List.length_take]; exact Nat.min_eq_left (leN c4)) (by rw [List.length_drop, List.take_length]) U56 inf2 c7 (leN c5) Z fun wd6 HS => GX.fin tv (GX.ps 1 Z (GX.nil (sQ ?_)))))))
  obtain ⟨c9, H⟩ := iN H
  obtain ⟨c10, H⟩ := iN H
  have h12 := over_lenR (xs := (over s i.toNat (s.drop j_.toNat))) (z := 0) (cutN (leNN c9) (leN c10))
  refine rG (pS 2 Z (lS Z Z U56 Z (mV Z (GO.slCut (T := (TInt .i64)) (xs := (over s i.toNat (s.drop j_.toNat))) ((RdIn.own (j := 0) Z) _ HS).1 Z Z Z Z U56 sz2 c9 c10 Z (GO.clearC (T := (TInt .i64)) (j := 0) (l := ((((over s i.toNat (s.drop j_.toNat)).take (i.toNat + (s.length - j_.toNat))).drop 0).length : Int).toNat) 0 () HS Z flat_flat Z Z U56 zr2 Z Z (cutC (leN c10) ((RdIn.own (j := 0) Z) _ HS).1) (cutN (leNN c9) (leN c10)) (fun _ => Z) fun wd11 HS => nL ?_)))))
  obtain ⟨c13, H⟩ := iN H
  refine G.len (t := 0) (m := (((over (over s i.toNat (s.drop j_.toNat)) (((((over s i.toNat (s.drop j_.toNat)).take (i.toNat + (s.length - j_.toNat))).drop 0).length : Int).toNat) (List.replicate (((over s i.toNat (s.drop j_.toNat)).take ((s.length : Int).toNat)).drop (((((over s i.toNat (s.drop j_.toNat)).take (i.toNat + (s.length - j_.toNat))).drop 0).length : Int).toNat)).length 0)).take (i.toNat + (s.length - j_.toNat))).drop 0).length) Z (lenCut h12) (rN 2 Z ?_)
  replace HS := HS.cutOwn (A' := (cutA A_a 0 c_a 1)) (c' := (c_a - 0)) (j := 0) (l := 0) (h := (i.toNat + (s.length - j_.toNat))) (m := c_a) Z (Nat.zero_le _) c13 (Nat.le_trans c13 ((RdIn.own (j := 0) Z) _ HS).1) (lR _) Z Z
  obtain rfl := sI H
  exact rT _ func129 Z Z ⟨_, _, Z, HS⟩
theorem impl_perm.calls {p r1 : Int} {r2 r3 r4 : Int} (HS : St w0 w (L)) (H : impl_perm.f K p = some (r1, r2, r3, r4)) :
    Calls prog 93 #[I p] w (impl_perm.post w0 L r1 r2 r3 r4) := by
  unfold impl_perm.f at H
  refine cG func93 Z ?_
  refine sQ (rG (GO.alloc HS Z zr131 Z Z fun b1 wd2 HS => nL (sQ (rG (GO.alloc HS Z zr131 Z Z fun b3 wd4 HS => nL (sQ (rG (GO.buildS (el := 2) ([I 0, I 1, I 2, I 3]) HS Z Z (fun _ => by kernel_rfl) Z fun b5 wd6 HS => ?_))))))))
  replace HS := HS.boxRow (T := (TInt .i64)) (j := 0) Z flat_flat (fun _ => ()) ([0, 1, 2, 3] : List Int) Z (bndL Z)
  refine GO.lenC (t := 8) (m := ([0, 1, 2, 3] : List Int).length) (c' := ([0, 1, 2, 3] : List Int).length) Z Z Z (aS Z (nL (rN 2 Z (rG (GO.buildS (el := 2) ([I 6, I 2, I 1, I 1]) HS Z Z (fun _ => by kernel_rfl) Z fun b7 wd8 HS => lS Z Z U56 Z (mV Z (nL (rN 2 Z ?_))))))))
  replace HS := HS.boxRow (T := (TInt .i64)) (j := 0) Z flat_flat (fun _ => ()) ([6, 2, 1, 1] : List Int) Z (bndL Z)
  refine G.lenC (t := 9) (m := ([6, 2, 1, 1] : List Int).length) (c' := ([6, 2, 1, 1] : List Int).length) Z Z Z ?_
  refine G.name (fun o1 p1 => ?_)
  have m1 : ∀ d1, d1 ≤ K → ∀ (c1 g1 : Int) (A21 : Option Addr) (c22 : Nat) (a1 : List Int) (x24 e1 : Int) (f1 h1 : Int) (w : World), impl_perm.l1 K d1 c1 g1 a1 x24 e1 f1 h1 = some (r1, r2, r3, r4) → St w0 w (Box b1 131 [I 0, I 0, I 0, I 0] :: Box b3 131 [I g1, I e1, I f1, I h1] :: Own (TInt .i64) 2 A21 c22 (fun _ => ()) a1 :: Own (TInt .i64) 2 (some ⟨b7, 0, none⟩) (([6, 2, 1, 1] : List Int).length) (fun _ => ()) ([6, 2, 1, 1] : List Int) :: L) → G prog 93 35 [(0, I c1), (2, .pointer (some ⟨b1, 0, none⟩)), (3, .pointer (some ⟨b3, 0, none⟩)), (4, .slice A21 a1.length c22), (9, .slice (some ⟨b7, 0, none⟩) ([6, 2, 1, 1] : List Int).length (([6, 2, 1, 1] : List Int).length)), (10, I 4), (11, I x24)] o1 w (impl_perm.post w0 L r1 r2 r3 r4) := by
   intro d1
   induction d1 using Nat.strongRecOn with
   | _ d1 i1 =>
    intro n1 c1 g1 A21 c22 a1 x24 e1 f1 h1 w H HS
    cases d1 with
    | zero => rw [impl_perm.l1] at H; cases H
    | succ k1 =>
     rw [impl_perm.l1] at H
     subst p1
     refine rN 3 Z ?_
     rcases iS H with ⟨c54, H⟩ | ⟨c54, H⟩
     ·
      refine nB Z (tF c54) (rN 2 Z (rG (lW 1 HS Z ag131 (sW 0 HS Z ag131 Z fun wd66 HS => nL ?_))))
      obtain ⟨rfl, rfl, rfl, rfl⟩ := some4 H
      exact rT _ func93 Z (Res1.boxA (j := 0) (vs := [I g1, I e1, I f1, I h1]) HS Z Z Z ag131) ⟨Z, (HS.pk 4 [] Z)⟩
     refine yB Z (tT c54) (rN 4 Z ?_)
     obtain ⟨c55, H⟩ := iN H
     refine rG (mV Z (GO.ix Z Z Z U56 sz2 (fun _ => ⟨_, _, Z⟩) c55.1 c55.2 Z (GO.ldRd (T := (TInt .i64)) (n := x24.toNat) (o := 0) HS (RdIn.own (j := 3) Z) Z Z (getD_some (d := 0) (ltN c55)) Z Z na2 Z (pS 2 Z (nL (sQ ?_))))))
     obtain ⟨c56, H⟩ := ite_some H
     refine rG (pS 2 Z (GO.quo Z Z Z c56 Z (aS Z (nL (sQ (rG (pS 2 Z (GO.rem Z Z Z c56 Z (aS Z (nL (sQ ?_)))))))))))
     obtain ⟨c57, H⟩ := iN H
     obtain ⟨c58, H⟩ := iN H
     refine rG (pS 3 Z (GO.ix Z Z Z U56 sz2 ((RdIn.own (j := 2) Z) _ HS).2.2.1 c57.1 c57.2 Z (GO.ldRd (T := (TInt .i64)) (n := (w64 (c1.tdiv (([6, 2, 1, 1] : List Int).getD x24.toNat 0))).toNat) (o := 0) HS (RdIn.own (j := 2) Z) Z Z (getD_some (d := 0) (ltN c57)) Z Z na2 Z (GO.ixW Z Z Z U131 sz2 c58 Z (GO.stW (j := 1) (o := 0) (sz := 1) (vs := [I (a1.getD ((w64 (c1.tdiv (([6, 2, 1, 1] : List Int).getD x24.toNat 0))).toNat) 0)]) (fun u_ => [I (se 0 u_ (a1.getD ((w64 (c1.tdiv (([6, 2, 1, 1] : List Int).getD x24.toNat 0))).toNat) 0) g1), I (se 1 u_ (a1.getD ((w64 (c1.tdiv (([6, 2, 1, 1] : List Int).getD x24.toNat 0))).toNat) 0) e1), I (se 2 u_ (a1.getD ((w64 (c1.tdiv (([6, 2, 1, 1] : List Int).getD x24.toNat 0))).toNat) 0) f1), I (se 3 u_ (a1.getD ((w64 (c1.tdiv (([6, 2, 1, 1] : List Int).getD x24.toNat 0))).toNat) 0) h1)]) HS Z Z Z Z Z c58 (htN na2 Z) Z Z (four Z Z Z Z) fun wd59 HS => nL ?_)))))
     obtain ⟨t60, h61, H⟩ := bI H
     refine rG (pS 4 Z ?_)
     replace HS := HS.pk 4 [2, 0, 1, 3] Z
     refine fJ fok129 Z (slices_Delete_int64_int64.calls HS  h61) (fun _ wd64 ⟨A62, c63, h65, HS⟩ => ⟨_, h65, (aS Z (nL (rN 3 Z (G.weak ?_ (i1 k1 (Nat.lt_succ_of_le (lR _)) (Nat.le_of_succ_le n1) _ _ _ _ _ _ _ _ _ _ H (HS.pk 4 [1, 2, 0, 3] Z))))))⟩)
     exact ⟨Z, Z, Z, Z, Z, Z, Z, tv⟩
  refine G.weak ?_ (m1 K (lR _) _ _ _ _ _ _ _ _ _ _ H (HS.pk 4 [3, 2, 1, 0] Z))
  exact ⟨Z, Z, Z, Z, Z, Z, Z, tv⟩
theorem impl_Face_target.calls {c1 a1 : Int} {face r1 : Int} (HS : St w0 w (L)) (H : impl_Face_target.f K c1 a1 face = some r1) :
    Calls prog 92 #[.agg [I c1, I a1].toArray, I face] w (impl_Face_target.post w0 L r1) := by
  unfold impl_Face_target.f at H
  refine cG func92 Z ?_
  refine sQ (rG (bA HS Z fun b1 wd2 HS => aS Z (nL (sQ ?_))))
  obtain ⟨t3, t4, t5, t6, h7, H⟩ := bind4_elim H
  obtain ⟨c10, H⟩ := iN H
  refine rG (fL b1 1 fl107_1 Z (lB 0 HS Z na2 Z (fJ fok93 Z (impl_perm.calls HS  h7) (fun _ wd8 ⟨h9, HS⟩ => ⟨_, h9, (mV Z (GO.ixArr ([t3, t4, t5, t6] : List Int) Z Z Z U131 U2 sz2 Z c10.1 c10.2 Z (aS Z (nL ?_))))⟩))))
  obtain rfl := sI H
  exact rT _ func92 Z Z ⟨Z, (HS.pk 1 [] Z)⟩
theorem impl_indexOf.calls {c1 e1 : Int} {d1 a1 r1 : Int} (HS : St w0 w (L)) (H : impl_indexOf.f K c1 e1 d1 a1 = some r1) :
    Calls prog 130 #[.agg [I c1, I e1, I d1, I a1].toArray] w (impl_indexOf.post w0 L r1) := by
  unfold impl_indexOf.f at H
  refine cG func130 Z ?_
  refine sQ (rG (bA HS Z fun b1 wd2 HS => aS Z (nL (rN 4 Z (rG (GO.buildS (el := 2) ([I 6, I 2, I 1, I 1]) HS Z Z (fun _ => by kernel_rfl) Z fun b3 wd4 HS => lS Z Z U56 Z (mV Z (nL (rN 2 Z ?_)))))))))
  replace HS := HS.boxRow (T := (TInt .i64)) (j := 0) Z flat_flat (fun _ => ()) ([6, 2, 1, 1] : List Int) Z (bndL Z)
  refine G.lenC (t := 9) (m := ([6, 2, 1, 1] : List Int).length) (c' := ([6, 2, 1, 1] : List Int).length) Z Z Z ?_
  refine G.name (fun q1 u1 => ?_)
  have x1 : ∀ g1, g1 ≤ K → ∀ (h1 x19 : Int) (w : World), impl_indexOf.l1 K g1 c1 e1 d1 a1 h1 x19 = some r1 → St w0 w (Box b1 131 [I c1, I e1, I d1, I a1] :: Own (TInt .i64) 2 (some ⟨b3, 0, none⟩) (([6, 2, 1, 1] : List Int).length) (fun _ => ()) ([6, 2, 1, 1] : List Int) :: L) → G prog 130 41 [(1, .pointer (some ⟨b1, 0, none⟩)), (3, I h1), (9, .slice (some ⟨b3, 0, none⟩) ([6, 2, 1, 1] : List Int).length (([6, 2, 1, 1] : List Int).length)), (10, I 4), (11, I x19)] q1 w (impl_indexOf.post w0 L r1) := by
   intro g1
   induction g1 using Nat.strongRecOn with
   | _ g1 t1 =>
    intro y1 h1 x19 w H HS
    cases g1 with
    | zero => rw [impl_indexOf.l1] at H; cases H
    | succ o1 =>
     rw [impl_indexOf.l1] at H
     subst u1
     refine rN 3 Z ?_
     rcases iS H with ⟨c35, H⟩ | ⟨c35, H⟩
     ·
      refine nB Z (tF c35) (rN 3 Z ?_)
      obtain rfl := sI H
      exact rT _ func130 Z Z ⟨Z, (HS.pk 2 [] Z)⟩
     refine yB Z (tT c35) (rN 4 Z ?_)
     obtain ⟨c36, H⟩ := iN H
     refine rG (mV Z (GO.ix Z Z Z U56 sz2 (fun _ => ⟨_, _, Z⟩) c36.1 c36.2 Z (GO.ldRd (T := (TInt .i64)) (n := x19.toNat) (o := 0) HS (RdIn.own (j := 1) Z) Z Z (getD_some (d := 0) (ltN c36)) Z Z na2 Z (pS 2 Z (nL (sQ ?_))))))
     obtain ⟨c37, H⟩ := iN H
     refine rG (mV Z (GO.ixW Z Z Z U131 sz2 c37 Z (GO.ldW (j := 0) ([c1, e1, d1, a1] : List Int) HS Z Z Z c37 Z Z na2 Z (aS Z (nL (rN 2 Z ?_))))))
     obtain ⟨c38, H⟩ := iN H
     refine rG (mV Z (GO.slArrH (m := (([c1, e1, d1, a1] : List Int).take x19.toNat).length) Z Z Z U131 sz2 c38 (lenTake (leN c38)) Z (lS Z Z U56 Z (mV Z (nL (rN 2 Z ?_))))))
     refine G.name (fun s1 p1 => ?_)
     have v1 : ∀ f1, f1 ≤ o1 → ∀ (k1 x43 : Int) (w : World), impl_indexOf.l4 K f1 c1 e1 d1 a1 h1 x19 k1 x43 = some r1 → St w0 w (Box b1 131 [I c1, I e1, I d1, I a1] :: Own (TInt .i64) 2 (some ⟨b3, 0, none⟩) (([6, 2, 1, 1] : List Int).length) (fun _ => ()) ([6, 2, 1, 1] : List Int) :: L) → G prog 130 41 [(1, .pointer (some ⟨b1, 0, none⟩)), (3, I h1), (4, I x19), (5, I (([6, 2, 1, 1] : List Int).getD x19.toNat 0)), (6, I k1), (9, .slice (some ⟨b3, 0, none⟩) ([6, 2, 1, 1] : List Int).length (([6, 2, 1, 1] : List Int).length)), (10, I 4), (11, I x19), (20, .slice (some ⟨b1, 0, none⟩) (([c1, e1, d1, a1] : List Int).take x19.toNat).length 4), (21, I ((([c1, e1, d1, a1] : List Int).take x19.toNat).length : Int)), (22, I x43)] s1 w (impl_indexOf.post w0 L r1) := by
      intro f1
      induction f1 using Nat.strongRecOn with
      | _ f1 m1 =>
       intro n1 k1 x43 w H HS
       cases f1 with
       | zero => rw [impl_indexOf.l4] at H; cases H
       | succ i1 =>
        rw [impl_indexOf.l4] at H
        subst p1
        refine rN 3 Z ?_
        rcases iS H with ⟨c47, H⟩ | ⟨c47, H⟩
        ·
         refine nB Z (tF c47) (rN 5 Z (G.weak ?_ (t1 i1 (by omega) (by omega) _ _ _ H HS)))
         exact ⟨Z, Z, Z, Z, Z, tv⟩
        refine yB Z (tT c47) (rN 4 Z ?_)
        obtain ⟨c48, H⟩ := iN H
        refine rG (GO.ix Z Z Z U56 sz2 (fun _ => ⟨_, _, Z⟩) c48.1 c48.2 Z (GO.ldRd (T := (TInt .i64)) (n := x43.toNat) (o := 0) HS (RdIn.take (RdIn.box (j := 0) (fun _ => ()) ([c1, e1, d1, a1] : List Int) Z Z Z Z (fun _ _ _ _ _ => tv)) (leN c38)) Z Z (getD_some (d := 0) (ltN c48)) Z Z na2 Z (aS Z (nL (sQ (rG (pS 2 Z (GO.ixW Z Z Z U131 sz2 c37 Z (GO.ldW (j := 0) ([c1, e1, d1, a1] : List Int) HS Z Z Z c37 Z Z na2 Z (GO.lss Z Z Z Z (nL ?_)))))))))))
        rcases iS H with ⟨c49, H⟩ | ⟨c49, H⟩
        ·
         refine nB Z (tF c49) (rN 4 Z (G.weak ?_ (m1 i1 (Nat.lt_succ_of_le (lR _)) (Nat.le_of_succ_le n1) _ _ _ H HS)))
         exact ⟨Z, Z, Z, Z, Z, Z, Z, Z, Z, Z, Z, tv⟩
        refine yB Z (tT c49) (rN 4 Z (G.weak ?_ (m1 i1 (Nat.lt_succ_of_le (lR _)) (Nat.le_of_succ_le n1) _ _ _ H HS)))
        exact ⟨Z, Z, Z, Z, Z, Z, Z, Z, Z, Z, Z, tv⟩
     refine G.weak ?_ (v1 o1 (lR _) _ _ _ H HS)
     exact ⟨Z, Z, Z, Z, Z, Z, Z, Z, Z, Z, Z, tv⟩
  refine G.weak ?_ (x1 K (lR _) _ _ _ H (HS.pk 2 [1, 0] Z))
  exact ⟨Z, Z, Z, Z, Z, tv⟩
theorem impl_invert.calls {p r1 : Int} (HS : St w0 w (L)) (H : impl_invert.f K p = some r1) :
    Calls prog 95 #[I p] w (impl_invert.post w0 L r1) := by
  unfold impl_invert.f at H
  refine cG func95 Z ?_
  refine rN 3 Z (rG (GO.alloc HS Z zr131 Z Z fun b1 wd2 HS => nL (rN 2 Z ?_)))
  obtain ⟨t3, t4, t5, t6, h7, H⟩ := bind4_elim H
  refine rG (mV Z (fJ fok93 Z (impl_perm.calls HS  h7) (fun _ wd8 ⟨h9, HS⟩ => ⟨_, h9, (mV Z (nL (rN 2 Z ?_)))⟩)))
  refine G.name (fun m1 n1 => ?_)
  have i1 : ∀ a1, a1 ≤ K → ∀ (d1 e1 : Int) (f1 c1 x16 : Int) (w : World), impl_invert.l1 K a1 t3 t4 t5 t6 d1 e1 f1 c1 x16 = some r1 → St w0 w (Box b1 131 [I d1, I e1, I f1, I c1] :: L) → G prog 95 18 [(3, .pointer (some ⟨b1, 0, none⟩)), (7, .agg [I t3, I t4, I t5, I t6].toArray), (8, I x16)] m1 w (impl_invert.post w0 L r1) := by
   intro a1
   induction a1 using Nat.strongRecOn with
   | _ a1 g1 =>
    intro k1 d1 e1 f1 c1 x16 w H HS
    cases a1 with
    | zero => rw [impl_invert.l1] at H; cases H
    | succ h1 =>
     rw [impl_invert.l1] at H
     subst n1
     refine rN 3 Z ?_
     rcases iS H with ⟨c25, H⟩ | ⟨c25, H⟩
     ·
      refine nB Z (tF c25) (rN 2 Z ?_)
      obtain ⟨t29, h30, H⟩ := bI H
      refine rG (lW 0 HS Z ag131 (fJ fok130 Z (impl_indexOf.calls HS  h30) (fun _ wd31 ⟨h32, HS⟩ => ⟨_, h32, (aS Z (nL ?_))⟩)))
      obtain rfl := sI H
      exact rT _ func95 Z Z ⟨Z, (HS.pk 1 [] Z)⟩
     refine yB Z (tT c25) (rN 4 Z ?_)
     obtain ⟨c26, H⟩ := iN H
     refine rG (mV Z (GO.ixArr ([t3, t4, t5, t6] : List Int) Z Z Z U131 U2 sz2 Z c26.1 c26.2 Z (pS 2 Z (nL ?_))))
     obtain ⟨c27, H⟩ := iN H
     refine rG (pS 2 Z (GO.ixW Z Z Z U131 sz2 c27 Z (GO.stW (j := 0) (o := 0) (sz := 1) (vs := [I x16]) (fun u_ => [I (se 0 u_ x16 d1), I (se 1 u_ x16 e1), I (se 2 u_ x16 f1), I (se 3 u_ x16 c1)]) HS Z Z Z Z Z c27 (htN na2 Z) Z Z (four Z Z Z Z) fun wd28 HS => nL (rN 3 Z (G.weak ?_ (g1 h1 (Nat.lt_succ_of_le (lR _)) (Nat.le_of_succ_le k1) _ _ _ _ _ _ H HS))))))
     exact ⟨Z, Z, Z, tv⟩
  refine G.weak ?_ (i1 K (lR _) _ _ _ _ _ _ H HS)
  exact ⟨Z, Z, Z, tv⟩
theorem impl_Face_partner.calls {c1 a1 : Int} {tet r1 r2 : Int} (HS : St w0 w (L)) (H : impl_Face_partner.f K c1 a1 tet = some (r1, r2)) :
    Calls prog 110 #[.agg [I c1, I a1].toArray, I tet] w (impl_Face_partner.post w0 L r1 r2) := by
  unfold impl_Face_partner.f at H
  refine cG func110 Z ?_
  refine sQ (rG (bA HS Z fun b1 wd2 HS => GO.alloc HS Z zr107 Z Z fun b3 wd4 HS => nL (sQ ?_)))
  obtain ⟨t5, h6, H⟩ := bI H
  refine rG (mV Z (fL b1 1 fl107_1 Z (lB 1 HS Z na2 Z (fJ fok95 Z (impl_invert.calls HS  h6) (fun _ wd7 ⟨h8, HS⟩ => ⟨_, h8, (GO.buildV (.agg [I tet, I t5].toArray) Z Z (fun _ => by kernel_rfl) Z (sW 0 HS Z ag107 Z fun wd9 HS => nL ?_))⟩)))))
  obtain ⟨rfl, rfl⟩ := some2 H
  exact rT _ func110 Z (Res1.boxA (j := 0) (vs := [I tet, I t5]) HS Z Z Z ag107) ⟨Z, (HS.pk 2 [] Z)⟩
theorem impl_Triangulation_isGood.calls {a1 : List (List GFace)} {tet f : Int} {y_a : Nat → (Ty.slice 107 T_GFace).Lay} {r1 : Bool} (HS : St w0 w (L)) (r_a : RdIn w0 L (Ty.slice 107 T_GFace) A_a c_a y_a a1) (H : impl_Triangulation_isGood.f K a1 tet f = some r1) :
    Calls prog 69 #[.agg [.slice A_a a1.length c_a].toArray, I tet, I f] w (impl_Triangulation_isGood.post w0 L r1) := by
  unfold impl_Triangulation_isGood.f at H
  refine cG func69 Z ?_
  refine sQ (rG (bA HS Z fun b1 wd2 HS => aS Z (nL (sQ ?_))))
  obtain ⟨c3, H⟩ := iN H
  obtain ⟨c4, H⟩ := iN H
  obtain ⟨e5, h6, H⟩ := bnd_elim H
  refine rG (fL b1 0 fl31_0 Z (lB 0 HS Z na29 Z (mV Z (GO.ix Z Z Z U29 sz77 ((rD 1 r_a) _ HS).2.2.1 c3.1 c3.2 Z (GO.ldRd (T := (Ty.slice 107 T_GFace)) (n := tet.toNat) (o := 0) HS (rD 1 r_a) Z Z (getD_some (d := []) (ltN c3)) Z Z na77 Z (mV Z (GO.ix Z Z Z U77 sz107 ((RdIn.elem (rD 1 r_a) c3.1 c3.2) _ HS).2.2.1 c4.1 c4.2 Z (GO.ldRdA (T := T_GFace) (n := f.toNat) HS (RdIn.elem (rD 1 r_a) c3.1 c3.2) Z Z (getD_eq (ltN c4) h6) ag107 Z (GO.alloc HS Z zr107 Z Z fun b7 wd8 HS => sW 0 HS Z ag107 Z fun wd9 HS => nL (rN 2 Z (rG (fL b7 0 fl107_0 Z ?_))))))))))))
  refine lB 0 HS Z na2 Z (GO.eql Z Z Z Z (nL ?_))
  rcases iE H with ⟨c10, H⟩ | ⟨c10, H⟩
  ·
   refine yB Z (tT c10) (sQ (rG (fL b7 1 fl107_1 Z (lB 0 HS Z na2 Z (pS 2 Z (nL ?_))))))
   obtain rfl := sI H
   exact rT _ func69 Z Z ⟨Z, (HS.pk 2 [] Z)⟩
  refine nB Z (tF c10) (rN 3 Z ?_)
  obtain ⟨t20, h21, H⟩ := bI H
  rcases iS H with ⟨c24, H⟩ | ⟨c24, H⟩
  ·
   refine rG (fL b1 0 fl31_0 Z (lB 1 HS Z na29 Z (fL b7 0 fl107_0 Z (lB 0 HS Z na2 Z (fJ fok70 Z (impl_hasIndex_impl_Face.calls HS (rD 2 r_a) h21) (fun _ wd22 ⟨h23, HS⟩ => ⟨_, h23, (pS 2 Z (kN 29 Z (congrArg Bool.not (bnot_of c24)) (oF Z (oF Z (oF Z (oF Z (GO.pickT Z Z Z Z Z (nL (rN 3 Z ?_)))))))))⟩))))))
   obtain rfl := sI H
   exact rT _ func69 Z Z ⟨Z, (HS.pk 2 [] Z)⟩
  obtain ⟨t25, h26, H⟩ := bI H
  refine rG (fL b1 0 fl31_0 Z (lB 1 HS Z na29 Z (fL b7 0 fl107_0 Z (lB 0 HS Z na2 Z (fJ fok70 Z (impl_hasIndex_impl_Face.calls HS (rD 2 r_a) h21) (fun _ wd22 ⟨h23, HS⟩ => ⟨_, h23, (pS 2 Z (kN 29 Z (congrArg Bool.not c24) (oN Z (fL b7 1 fl107_1 Z (bK (oN Z (lB 0 HS Z na2 Z (bK (oN Z ?_)))))))))⟩))))))
  refine fJ fok109 Z (impl_isPerm.calls HS  h26) (fun _ wd27 ⟨h28, HS⟩ => ⟨_, h28, (bK (oN Z (GO.not Z Z Z (bK (GO.pickF Z Z Z Z Z (nL ?_))))))⟩)
  rcases iS H with ⟨c29, H⟩ | ⟨c29, H⟩
  ·
   refine yB Z (congrArg Bool.not (bnot_of c29)) (rN 2 Z ?_)
   obtain rfl := sI H
   exact rT _ func69 Z Z ⟨Z, (HS.pk 2 [] Z)⟩
  refine nB Z (congrArg Bool.not c29) (rN 2 Z ?_)
  obtain ⟨t30, h31, H⟩ := bI H
  refine rG (lW 0 HS Z ag107 (mV Z (fJ fok92 Z (impl_Face_target.calls HS  h31) (fun _ wd32 ⟨h33, HS⟩ => ⟨_, h33, (aS Z (nL (sQ ?_)))⟩))))
  obtain ⟨c34, H⟩ := iN H
  obtain ⟨c35, H⟩ := iN H
  obtain ⟨e36, h37, H⟩ := bnd_elim H
  obtain ⟨t38, t39, h40, H⟩ := bind2_elim H
  rcases iS H with ⟨c43, H⟩ | ⟨c43, H⟩
  ·
   refine G.lexS mixed (fun w => St w0 w (Box b7 107 [I e5.Tet, I e5.Perm] :: Box b1 31 [.slice A_a a1.length c_a] :: L)) [1, 3, 5, 8, 9, 15] [0, 2, 6, 10, 1, 3, 4, 5, 7, 8, 9, 11, 12, 13, 14, 16, 15, 17, 18, 19, 20, 21, 22, 23, 24] [] (by kernel_rfl) (by kernel_rfl) HS.drew ?_
   replace HS := HS.drew
   refine qL Z Z (fun _ _ g => fL b1 0 fl31_0 Z g) Z (qL Z Z (fun _ _ g => fL b7 0 fl107_0 Z g) Z (GX.ps 2 Z (GX.ls Z Z Z HS (fun _ HS _ g => lB 1 HS Z na29 Z g) Z (GX.ls Z Z Z HS (fun _ HS _ g => lB 0 HS Z na2 Z g) Z (qL Z Z (fun _ _ g => GO.ix Z Z Z U29 sz77 ((rD 2 r_a) _ HS).2.2.1 c34.1 c34.2 Z g) Z (GX.ls Z Z Z HS (fun _ HS _ g => GO.ldRd (T := (Ty.slice 107 T_GFace)) (n := e5.Tet.toNat) (o := 0) HS (rD 2 r_a) Z Z (getD_some (d := []) (ltN c34)) Z Z na77 Z g) Z (qL Z Z (fun _ _ g => GO.ix Z Z Z U77 sz107 ((RdIn.elem (rD 2 r_a) c34.1 c34.2) _ HS).2.2.1 c35.1 c35.2 Z g) Z (GX.ls Z Z Z HS (fun _ HS _ g => GO.ldRdA (T := T_GFace) (n := t30.toNat) HS (RdIn.elem (rD 2 r_a) c34.1 c34.2) Z Z (getD_eq (ltN c35) h37) ag107 Z g) Z (GX.ls Z Z Z HS (fun _ HS _ g => lW 0 HS Z ag107 g) Z (GX.l2 Z (fJ fok110 Z (impl_Face_partner.calls HS  h40) (fun _ wd41 ⟨h42, HS⟩ => ⟨_, h42, (GX.fin HS (qL Z Z (fun _ _ g => GO.eqlA Z Z Z ng107 (fun _ => eq107) Z g) Z (qL Z Z (fun _ _ g => mV Z (kN 51 Z (tF c43) g)) Z ?_)))⟩))))))))))))
   refine qL Z Z (fun _ _ g => oF Z g) Z (qL Z Z (fun _ _ g => oF Z g) Z (GX.ls Z Z Z HS (fun _ HS _ g => oF Z g) Z (qL Z Z (fun _ _ g => oF Z g) Z (qL Z Z (fun _ _ g => oF Z g) Z (qL Z Z (fun _ _ g => GO.offU Z Z Z Z Z Z g) Z (qL Z Z (fun _ _ g => GO.offU Z Z Z Z Z Z g) Z (qL Z Z (fun _ _ g => GO.offU Z Z Z Z Z Z g) Z (qL Z Z (fun _ _ g => oF Z g) Z (GX.ps 2 Z (GX.nil ?_))))))))))
   obtain rfl := sI H
   exact rT _ func69 Z Z ⟨Z, (HS.pk 2 [] Z)⟩
  rcases iS H with ⟨c44, H⟩ | ⟨c44, H⟩
  ·
   refine G.lexS mixed (fun w => St w0 w (Box b7 107 [I e5.Tet, I e5.Perm] :: Box b1 31 [.slice A_a a1.length c_a] :: L)) [1, 3, 5, 8, 9, 15] [0, 2, 6, 10, 1, 3, 4, 5, 7, 8, 9, 11, 12, 13, 14, 16, 15, 17, 18, 19, 20, 21, 22, 23, 24] [] (by kernel_rfl) (by kernel_rfl) HS.drew ?_
   replace HS := HS.drew
   refine qL Z Z (fun _ _ g => fL b1 0 fl31_0 Z g) Z (qL Z Z (fun _ _ g => fL b7 0 fl107_0 Z g) Z (GX.ps 2 Z (GX.ls Z Z Z HS (fun _ HS _ g => lB 1 HS Z na29 Z g) Z (GX.ls Z Z Z HS (fun _ HS _ g => lB 0 HS Z na2 Z g) Z (qL Z Z (fun _ _ g => GO.ix Z Z Z U29 sz77 ((rD 2 r_a) _ HS).2.2.1 c34.1 c34.2 Z g) Z (GX.ls Z Z Z HS (fun _ HS _ g => GO.ldRd (T := (Ty.slice 107 T_GFace)) (n := e5.Tet.toNat) (o := 0) HS (rD 2 r_a) Z Z (getD_some (d := []) (ltN c34)) Z Z na77 Z g) Z (qL Z Z (fun _ _ g => GO.ix Z Z Z U77 sz107 ((RdIn.elem (rD 2 r_a) c34.1 c34.2) _ HS).2.2.1 c35.1 c35.2 Z g) Z (GX.ls Z Z Z HS (fun _ HS _ g => GO.ldRdA (T := T_GFace) (n := t30.toNat) HS (RdIn.elem (rD 2 r_a) c34.1 c34.2) Z Z (getD_eq (ltN c35) h37) ag107 Z g) Z (GX.ls Z Z Z HS (fun _ HS _ g => lW 0 HS Z ag107 g) Z (GX.l2 Z (fJ fok110 Z (impl_Face_partner.calls HS  h40) (fun _ wd41 ⟨h42, HS⟩ => ⟨_, h42, (GX.fin HS (qL Z Z (fun _ _ g => GO.eqlA Z Z Z ng107 (fun _ => eq107) Z g) Z (qL Z Z (fun _ _ g => mV Z (kN 51 Z (tT c43) g)) Z ?_)))⟩))))))))))))
   refine qL Z Z (fun _ _ g => oN Z (fL b7 0 fl107_0 Z (bK g))) Z (qL Z Z (fun _ _ g => oN Z (mV Z (bK g))) Z (GX.ls Z Z Z HS (fun _ HS _ g => oN Z (lB 0 HS Z na2 Z (bK g))) Z (qL Z Z (fun _ _ g => oN Z (GO.neq Z Z Z Z (bK g))) Z (qL Z Z (fun _ _ g => oN Z (mV Z (bK (kN 56 Z (nF c44) g)))) Z (qL Z Z (fun _ _ g => oF Z g) Z (qL Z Z (fun _ _ g => oF Z g) Z (qL Z Z (fun _ _ g => oF Z g) Z (qL Z Z (fun _ _ g => oN Z (GO.pickT Z Z Z Z Z (bK g))) Z (GX.ps 2 Z (GX.nil ?_))))))))))
   obtain rfl := sI H
   exact rT _ func69 Z Z ⟨Z, (HS.pk 2 [] Z)⟩
  refine G.lexS mixed (fun w => St w0 w (Box b7 107 [I e5.Tet, I e5.Perm] :: Box b1 31 [.slice A_a a1.length c_a] :: L)) [1, 3, 5, 8, 9, 15] [0, 2, 6, 10, 1, 3, 4, 5, 7, 8, 9, 11, 12, 13, 14, 16, 15, 17, 18, 19, 20, 21, 22, 23, 24] [] (by kernel_rfl) (by kernel_rfl) HS.drew ?_
  replace HS := HS.drew
  refine qL Z Z (fun _ _ g => fL b1 0 fl31_0 Z g) Z (qL Z Z (fun _ _ g => fL b7 0 fl107_0 Z g) Z (GX.ps 2 Z (GX.ls Z Z Z HS (fun _ HS _ g => lB 1 HS Z na29 Z g) Z (GX.ls Z Z Z HS (fun _ HS _ g => lB 0 HS Z na2 Z g) Z (qL Z Z (fun _ _ g => GO.ix Z Z Z U29 sz77 ((rD 2 r_a) _ HS).2.2.1 c34.1 c34.2 Z g) Z (GX.ls Z Z Z HS (fun _ HS _ g => GO.ldRd (T := (Ty.slice 107 T_GFace)) (n := e5.Tet.toNat) (o := 0) HS (rD 2 r_a) Z Z (getD_some (d := []) (ltN c34)) Z Z na77 Z g) Z (qL Z Z (fun _ _ g => GO.ix Z Z Z U77 sz107 ((RdIn.elem (rD 2 r_a) c34.1 c34.2) _ HS).2.2.1 c35.1 c35.2 Z g) Z (GX.ls Z Z Z HS (fun _ HS _ g => GO.ldRdA (T := T_GFace) (n := t30.toNat) HS (RdIn.elem (rD 2 r_a) c34.1 c34.2) Z Z (getD_eq (ltN c35) h37) ag107 Z g) Z (GX.ls Z Z Z HS (fun _ HS _ g => lW 0 HS Z ag107 g) Z (GX.l2 Z (fJ fok110 Z (impl_Face_partner.calls HS  h40) (fun _ wd41 ⟨h42, HS⟩ => ⟨_, h42, (GX.fin HS (qL Z Z (fun _ _ g => GO.eqlA Z Z Z ng107 (fun _ => eq107) Z g) Z (qL Z Z (fun _ _ g => mV Z (kN 51 Z (tT c43) g)) Z ?_)))⟩))))))))))))
  refine qL Z Z (fun _ _ g => oN Z (fL b7 0 fl107_0 Z (bK g))) Z (qL Z Z (fun _ _ g => oN Z (mV Z (bK g))) Z (GX.ls Z Z Z HS (fun _ HS _ g => oN Z (lB 0 HS Z na2 Z (bK g))) Z (qL Z Z (fun _ _ g => oN Z (GO.neq Z Z Z Z (bK g))) Z (qL Z Z (fun _ _ g => oN Z (mV Z (bK (kN 56 Z (nT c44) g)))) Z (qL Z Z (fun _ _ g => oN Z (mV Z (bK g))) Z (qL Z Z (fun _ _ g => oN Z (mV Z (bK g))) Z (qL Z Z (fun _ _ g => oN Z (GO.neq Z Z Z Z (bK g))) Z (qL Z Z (fun _ _ g => oN Z (GO.pickF Z Z Z Z Z (bK g))) Z (GX.ps 2 Z (GX.nil ?_))))))))))
  obtain rfl := sI H
  exact rT _ func69 Z Z ⟨Z, (HS.pk 2 [] Z)⟩
theorem impl_isTriangulation.calls {a1 : List (List GFace)} {y_a : Nat → (Ty.slice 107 T_GFace).Lay} {r1 : Bool} (HS : St w0 w (L)) (r_a : RdIn w0 L (Ty.slice 107 T_GFace) A_a c_a y_a a1) (H : impl_isTriangulation.f K a1 = some r1) :
    Calls prog 42 #[.agg [.slice A_a a1.length c_a].toArray] w (impl_isTriangulation.post w0 L r1) := by
  unfold impl_isTriangulation.f at H
  refine cG func42 Z ?_
  refine sQ (rG (bA HS Z fun b1 wd2 HS => aS Z (nL (rN 2 Z ?_))))
  rcases iE H with ⟨c8, H⟩ | ⟨c8, H⟩
  ·
   refine rG (fL b1 0 fl31_0 Z (lB 0 HS Z na29 Z (lS Z Z U29 Z (pS 2 Z (kN 9 Z (tT c8) (oF Z (oF Z (oF Z (GO.pickT Z Z Z Z Z (nL (rN 3 Z ?_)))))))))))
   obtain rfl := sI H
   exact rT _ func42 Z Z ⟨Z, (HS.pk 1 [] Z)⟩
  obtain ⟨t9, h10, H⟩ := bI H
  refine rG (fL b1 0 fl31_0 Z (lB 0 HS Z na29 Z (lS Z Z U29 Z (pS 2 Z (kN 9 Z (tF c8) (oN Z (fL b1 0 fl31_0 Z (bK (oN Z (lB 0 HS Z na29 Z (bK (oN Z (fJ fok67 Z (slices_ContainsFunc_impl_Face_impl_Face_isTriangulation_fn1.calls HS (rD 1 r_a) h10) (fun _ wd11 ⟨h12, HS⟩ => ⟨_, h12, (bK ?_)⟩))))))))))))))
  refine GO.pickF Z Z Z Z Z (nL ?_)
  rcases iE H with ⟨c13, H⟩ | ⟨c13, H⟩
  ·
   refine yB Z c13 (rN 2 Z ?_)
   obtain rfl := sI H
   exact rT _ func42 Z Z ⟨Z, (HS.pk 1 [] Z)⟩
  refine nB Z (bnot_of c13) (rN 3 Z ?_)
  obtain ⟨t14, h15, H⟩ := bI H
  refine rG (fL b1 0 fl31_0 Z (lB 0 HS Z na29 Z (fJ fok49 Z (impl_size_impl_Face.calls HS (rD 1 r_a) h15) (fun _ wd16 ⟨h17, HS⟩ => ⟨_, h17, (mV Z (nL (rN 2 Z ?_)))⟩))))
  refine G.name (fun p1 q1 => ?_)
  have o1 : ∀ d1, d1 ≤ K → ∀ (x37 : Int) (w : World), impl_isTriangulation.l1 K d1 a1 t14 x37 = some r1 → St w0 w (Box b1 31 [.slice A_a a1.length c_a] :: L) → G prog 42 30 [(1, .pointer (some ⟨b1, 0, none⟩)), (16, I t14), (17, I x37)] p1 w (impl_isTriangulation.post w0 L r1) := by
   intro d1
   induction d1 using Nat.strongRecOn with
   | _ d1 i1 =>
    intro s1 x37 w H HS
    cases d1 with
    | zero => rw [impl_isTriangulation.l1] at H; cases H
    | succ e1 =>
     rw [impl_isTriangulation.l1] at H
     subst q1
     refine rN 3 Z ?_
     rcases iS H with ⟨c57, H⟩ | ⟨c57, H⟩
     ·
      refine nB Z (tF c57) (rN 3 Z ?_)
      obtain rfl := sI H
      exact rT _ func42 Z Z ⟨Z, (HS.pk 1 [] Z)⟩
     refine yB Z (tT c57) (rN 9 Z ?_)
     refine G.name (fun g1 h1 => ?_)
     have n1 : ∀ c1, c1 ≤ e1 → ∀ (x63 : Int) (w : World), impl_isTriangulation.l4 K c1 a1 t14 x37 x63 = some r1 → St w0 w (Box b1 31 [.slice A_a a1.length c_a] :: L) → G prog 42 30 [(1, .pointer (some ⟨b1, 0, none⟩)), (3, I x37), (16, I t14), (17, I x37), (20, I x63)] g1 w (impl_isTriangulation.post w0 L r1) := by
      intro c1
      induction c1 using Nat.strongRecOn with
      | _ c1 m1 =>
       intro k1 x63 w H HS
       cases c1 with
       | zero => rw [impl_isTriangulation.l4] at H; cases H
       | succ f1 =>
        rw [impl_isTriangulation.l4] at H
        subst h1
        refine rN 3 Z ?_
        rcases iS H with ⟨c70, H⟩ | ⟨c70, H⟩
        ·
         refine nB Z (tF c70) (rN 4 Z (G.weak ?_ (i1 f1 (by omega) (by omega) _ _ H HS)))
         exact ⟨Z, Z, Z, tv⟩
        refine yB Z (tT c70) (rN 6 Z ?_)
        obtain ⟨t71, h72, H⟩ := bI H
        refine rG (lW 0 HS Z ag31 (pS 2 Z (fJ fok69 Z (impl_Triangulation_isGood.calls HS (rD 1 r_a) h72) (fun _ wd73 ⟨h74, HS⟩ => ⟨_, h74, (GO.not Z Z Z (nL ?_))⟩))))
        rcases iS H with ⟨c75, H⟩ | ⟨c75, H⟩
        ·
         refine yB Z (congrArg Bool.not (bnot_of c75)) (rN 2 Z ?_)
         obtain rfl := sI H
         exact rT _ func42 Z Z ⟨Z, (HS.pk 1 [] Z)⟩
        refine nB Z (congrArg Bool.not c75) (rN 4 Z (G.weak ?_ (m1 f1 (Nat.lt_succ_of_le (lR _)) (Nat.le_of_succ_le k1) _ _ H HS)))
        exact ⟨Z, Z, Z, Z, Z, tv⟩
     refine G.weak ?_ (n1 e1 (lR _) _ _ H HS)
     exact ⟨Z, Z, Z, Z, Z, tv⟩
  refine G.weak ?_ (o1 K (lR _) _ _ H HS)
  exact ⟨Z, Z, Z, tv⟩
theorem impl_indices.calls {kind r1 : Int} (HS : St w0 w (L)) (H : impl_indices.f K kind = some r1) :
    Calls prog 72 #[I kind] w (impl_indices.post w0 L r1) := by
  unfold impl_indices.f at H
  refine cG func72 Z ?_
  refine rN 9 Z ?_
  refine G.nameT (fun d1 c1 => ?_)
  have b1 : ∀ a1, a1 ≤ K → ∀ (x2 : Bool) (w : World), impl_indices.j1 K a1 kind x2 = some r1 → St w0 w (L) → G prog 72 11 [(3, I kind), (4, .bool x2)] d1 w (impl_indices.post w0 L r1) := by
   intro a1 e1 x2 w H HS
   cases a1 with
   | zero => rw [impl_indices.j1] at H; cases H
   | succ f1 =>
    rw [impl_indices.j1] at H
    subst c1
    rcases iE H with ⟨c3, H⟩ | ⟨c3, H⟩
    ·
     refine yB Z c3 (rN 2 Z ?_)
     obtain rfl := sI H
     exact rT _ func72 Z Z ⟨Z, HS⟩
    refine nB Z (bnot_of c3) (rN 2 Z ?_)
    rcases iE H with ⟨c4, H⟩ | ⟨c4, H⟩
    ·
     refine yB Z (tT c4) (rN 2 Z ?_)
     obtain rfl := sI H
     exact rT _ func72 Z Z ⟨Z, HS⟩
    refine nB Z (tF c4) (rN 2 Z ?_)
    rcases iE H with ⟨c5, H⟩ | ⟨c5, H⟩
    ·
     refine yB Z (tT c5) (rN 2 Z ?_)
     obtain rfl := sI H
     exact rT _ func72 Z Z ⟨Z, HS⟩
    refine nB Z (tF c5) (rN 4 Z ?_)
    obtain rfl := sI H
    exact rT _ func72 Z Z ⟨Z, HS⟩
  rcases iE H with ⟨c6, H⟩ | ⟨c6, H⟩
  ·
   refine yB Z (tT c6) (G.skip (G.weak ?_ (b1 K (lR _) _ _ H HS)))
   exact ⟨Z, Z, tv⟩
  refine nB Z (tF c6) (rN 1 Z (G.weak ?_ (b1 K (lR _) _ _ H HS)))
  exact ⟨Z, Z, tv⟩
theorem impl_Face_isBoundary.calls {c1 a1 : Int} {r1 : Bool} (HS : St w0 w (L)) (H : impl_Face_isBoundary.f c1 a1 = some r1) :
    Calls prog 91 #[.agg [I c1, I a1].toArray] w (impl_Face_isBoundary.post w0 L r1) := by
  unfold impl_Face_isBoundary.f at H
  refine cG func91 Z ?_
  refine sQ (rG (bA HS Z fun b1 wd2 HS => aS Z (nL (sQ (rG (fL b1 0 fl107_0 Z (lB 0 HS Z na2 Z (pS 2 Z (nL ?_)))))))))
  obtain rfl := sI H
  exact rT _ func91 Z Z ⟨Z, (HS.pk 1 [] Z)⟩
theorem impl_newChange.calls {news : Int} {old : List Int} {r1 : List Int} {r2 : List (Arr2 × GPlace)} {r3 : Int} {r4 : List Arr4} (HS : St w0 w (Own (TInt .i64) 2 A_a c_a (fun _ => ()) old :: L)) (H : impl_newChange.f news old = some (r1, r2, r3, r4)) :
    Calls prog 136 #[I news, .slice A_a old.length c_a] w (impl_newChange.post w0 L r1 r2 r3 r4) := by
  unfold impl_newChange.f at H
  refine cG func136 Z ?_
  refine rN 3 Z (rG (mV Z (GO.newMapG ke_Arr2 ke_GPlace HS Z Z fun b1 wd2 HS => mV Z (GO.buildV (.agg [.slice A_a old.length c_a, .map (some b1), I news, .slice none 0 0].toArray) Z Z (fun _ => by kernel_rfl) Z (bA HS Z fun b3 wd4 HS => aS Z (nL ?_))))))
  replace HS := HS.nilRow T_Arr4 131 (fun _ => ())
  obtain ⟨rfl, rfl, rfl, rfl⟩ := some4 H
  exact rT _ func136 Z Z ⟨_, _, _, _, _, _, Z, (HS.pk 4 [1, 3, 2, 0] Z)⟩
theorem impl_counting.calls {n_ : Int} {r1 : List Int} (HS : St w0 w (L)) (H : impl_counting.f K n_ = some r1) :
    Calls prog 144 #[I n_] w (impl_counting.post w0 L r1) := by
  unfold impl_counting.f at H
  refine cG func144 Z ?_
  refine rN 9 Z ?_
  refine G.name (fun g1 h1 => ?_)
  have e1 : ∀ a1, a1 ≤ K → ∀ (A8 : Option Addr) (c9 : Nat) (b1 : List Int) (x11 : Int) (w : World), impl_counting.l1 K a1 n_ b1 x11 = some r1 → St w0 w (Own (TInt .i64) 2 A8 c9 (fun _ => ()) b1 :: L) → G prog 144 15 [(3, .slice A8 b1.length c9), (5, I n_), (6, I x11)] g1 w (impl_counting.post w0 L r1) := by
   intro a1
   induction a1 using Nat.strongRecOn with
   | _ a1 c1 =>
    intro f1 A8 c9 b1 x11 w H HS
    cases a1 with
    | zero => rw [impl_counting.l1] at H; cases H
    | succ d1 =>
     rw [impl_counting.l1] at H
     subst h1
     refine rN 3 Z ?_
     rcases iS H with ⟨c19, H⟩ | ⟨c19, H⟩
     ·
      refine nB Z (tF c19) (rN 3 Z ?_)
      obtain rfl := sI H
      exact rT _ func144 Z Z ⟨_, _, Z, HS⟩
     refine yB Z (tT c19) (rN 5 Z ?_)
     obtain ⟨c25, H⟩ := iN H
     refine rG (pS 2 Z (GO.buildS (el := 2) ([I x11]) HS Z Z (fun _ => by kernel_rfl) Z fun b20 wd21 HS => GO.app1 (T := (TInt .i64)) (j := 1) (jb := 0) x11 HS Z Z flat_flat Z Z Z U56 inf2 Z Z Z c25 Z fun A23 c24 wd22 HS => aS Z (nL (rN 3 Z (G.weak ?_ (c1 d1 (Nat.lt_succ_of_le (lR _)) (Nat.le_of_succ_le f1) _ _ _ _ _ H (HS.pk 2 [1] Z)))))))
     exact ⟨Z, Z, Z, tv⟩
  replace HS := HS.nilRow (TInt .i64) 2 (fun _ => ())
  refine G.weak ?_ (e1 K (lR _) _ _ _ _ _ H HS)
  exact ⟨Z, Z, Z, tv⟩
theorem slices_Index_int64_int64.calls {s : List Int} {v : Int} {r1 : Int} (HS : St w0 w (L)) (r_a : RdIn w0 L (TInt .i64) A_a c_a (fun _ => ()) s) (H : slices_Index_int64_int64.f K s v = some r1) :
    Calls prog 126 #[.slice A_a s.length c_a, I v] w (slices_Index_int64_int64.post w0 L r1) := by
  unfold slices_Index_int64_int64.f at H
  refine cG func126 Z ?_
  refine rN 4 Z (rG (mV Z (lS Z Z U56 Z (mV Z (nL (rN 2 Z ?_))))))
  refine G.name (fun f1 g1 => ?_)
  have d1 : ∀ a1, a1 ≤ K → ∀ (x4 : Int) (w : World), slices_Index_int64_int64.l1 K a1 s v x4 = some r1 → St w0 w (L) → G prog 126 19 [(0, .slice A_a s.length c_a), (1, I v), (7, I (s.length : Int)), (8, I x4)] f1 w (slices_Index_int64_int64.post w0 L r1) := by
   intro a1
   induction a1 using Nat.strongRecOn with
   | _ a1 b1 =>
    intro e1 x4 w H HS
    cases a1 with
    | zero => rw [slices_Index_int64_int64.l1] at H; cases H
    | succ c1 =>
     rw [slices_Index_int64_int64.l1] at H
     subst g1
     refine rN 3 Z ?_
     rcases iS H with ⟨c8, H⟩ | ⟨c8, H⟩
     ·
      refine nB Z (tF c8) (rN 3 Z ?_)
      obtain rfl := sI H
      exact rT _ func126 Z Z ⟨Z, HS⟩
     refine yB Z (tT c8) (rN 6 Z ?_)
     obtain ⟨c9, H⟩ := iN H
     refine rG (pS 3 Z (GO.ix Z Z Z U56 sz2 (r_a _ HS).2.2.1 c9.1 c9.2 Z (GO.ldRd (T := (TInt .i64)) (n := x4.toNat) (o := 0) HS r_a Z Z (getD_some (d := 0) (ltN c9)) Z Z na2 Z (GO.eql Z Z Z Z (nL ?_)))))
     rcases iE H with ⟨c10, H⟩ | ⟨c10, H⟩
     ·
      refine yB Z (tT c10) (rN 2 Z ?_)
      obtain rfl := sI H
      exact rT _ func126 Z Z ⟨Z, HS⟩
     refine nB Z (tF c10) (rN 4 Z (G.weak ?_ (b1 c1 (Nat.lt_succ_of_le (lR _)) (Nat.le_of_succ_le e1) _ _ H HS)))
     exact ⟨Z, Z, Z, Z, tv⟩
  refine G.weak ?_ (d1 K (lR _) _ _ H HS)
  exact ⟨Z, Z, Z, Z, tv⟩
theorem slices_Contains_int64_int64.calls {s : List Int} {v : Int} {r1 : Bool} (HS : St w0 w (L)) (r_a : RdIn w0 L (TInt .i64) A_a c_a (fun _ => ()) s) (H : slices_Contains_int64_int64.f K s v = some r1) :
    Calls prog 87 #[.slice A_a s.length c_a, I v] w (slices_Contains_int64_int64.post w0 L r1) := by
  unfold slices_Contains_int64_int64.f at H
  refine cG func87 Z ?_
  refine rN 3 Z ?_
  obtain ⟨t1, h2, H⟩ := bI H
  refine rG (pS 2 Z (fJ fok126 Z (slices_Index_int64_int64.calls HS r_a h2) (fun _ wd3 ⟨h4, HS⟩ => ⟨_, h4, (pS 2 Z (nL ?_))⟩)))
  obtain rfl := sI H
  exact rT _ func87 Z Z ⟨Z, HS⟩
theorem impl_others_fn1_free.calls {v : Int} {a1 : List Int} {b1 : Nat} {r1 : Bool} (HS : St w0 w (Box b1 56 [.slice A_a a1.length c_a] :: L)) (r_a : RdIn w0 L (TInt .i64) A_a c_a (fun _ => ()) a1) (H : impl_others_fn1_free.f K v a1 = some r1) :
    Calls prog 159 #[I v, .pointer (some ⟨b1, 0, none⟩)] w (impl_others_fn1_free.post w0 L a1 b1 A_a c_a r1) := by
  unfold impl_others_fn1_free.f at H
  refine cG func159 Z ?_
  refine rN 3 Z ?_
  obtain ⟨t1, h2, H⟩ := bI H
  refine rG (lB 0 HS Z na56 Z (mV Z (fJ fok87 Z (slices_Contains_int64_int64.calls HS (rD 1 r_a) h2) (fun _ wd3 ⟨h4, HS⟩ => ⟨_, h4, (aS Z (nL ?_))⟩))))
  obtain rfl := sI H
  exact rT _ func159 Z Z ⟨Z, HS⟩
theorem slices_IndexFunc_int64_int64_others_fn1.calls {s a1 : List Int} {A_a : Option Addr} {c_a b1 : Nat} {r1 : Int} (HS : St w0 w (Box b1 56 [.slice A_b a1.length c_b] :: L)) (r_a : RdIn w0 L (TInt .i64) A_a c_a (fun _ => ()) s) (r_b : RdIn w0 L (TInt .i64) A_b c_b (fun _ => ()) a1) (H : slices_IndexFunc_int64_int64_others_fn1.f K s a1 = some r1) :
    Calls prog 102 #[.slice A_a s.length c_a, .func (.func 159) #[] #[.pointer (some ⟨b1, 0, none⟩)]] w (slices_IndexFunc_int64_int64_others_fn1.post w0 L a1 b1 A_b c_b r1) := by
  unfold slices_IndexFunc_int64_int64_others_fn1.f at H
  refine cG func102 Z ?_
  refine rN 4 Z (rG (mV Z (lS Z Z U56 Z (mV Z (nL (rN 2 Z ?_))))))
  refine G.name (fun h1 i1 => ?_)
  have f1 : ∀ c1, c1 ≤ K → ∀ (x8 : Int) (w : World), slices_IndexFunc_int64_int64_others_fn1.l1 K c1 s a1 x8 = some r1 → St w0 w (Box b1 56 [.slice A_b a1.length c_b] :: L) → G prog 102 19 [(0, .slice A_a s.length c_a), (1, .func (.func 159) #[] #[.pointer (some ⟨b1, 0, none⟩)]), (7, I (s.length : Int)), (8, I x8)] h1 w (slices_IndexFunc_int64_int64_others_fn1.post w0 L a1 b1 A_b c_b r1) := by
   intro c1
   induction c1 using Nat.strongRecOn with
   | _ c1 d1 =>
    intro g1 x8 w H HS
    cases c1 with
    | zero => rw [slices_IndexFunc_int64_int64_others_fn1.l1] at H; cases H
    | succ e1 =>
     rw [slices_IndexFunc_int64_int64_others_fn1.l1] at H
     subst i1
     refine rN 3 Z ?_
     rcases iS H with ⟨c16, H⟩ | ⟨c16, H⟩
     ·
      refine nB Z (tF c16) (rN 3 Z ?_)
      obtain rfl := sI H
      exact rT _ func102 Z Z ⟨Z, HS⟩
     refine yB Z (tT c16) (rN 6 Z ?_)
     obtain ⟨c17, H⟩ := iN H
     obtain ⟨t18, h19, H⟩ := bI H
     refine rG (pS 3 Z (GO.ix Z Z Z U56 sz2 ((rD 1 r_a) _ HS).2.2.1 c17.1 c17.2 Z (GO.ldRd (T := (TInt .i64)) (n := x8.toNat) (o := 0) HS (rD 1 r_a) Z Z (getD_some (d := 0) (ltN c17)) Z Z na2 Z ?_)))
     replace HS := HS.pk 1 [0] Z
     refine GO.clo Z Z func159 fok159.2.1 fok159.2.2 Z Z (impl_others_fn1_free.calls HS r_b h19) (fun _ wd20 ⟨h21, HS⟩ => ⟨_, h21, (nL ?_)⟩)
     rcases iE H with ⟨c22, H⟩ | ⟨c22, H⟩
     ·
      refine yB Z c22 (rN 2 Z ?_)
      obtain rfl := sI H
      exact rT _ func102 Z Z ⟨Z, HS⟩
     refine nB Z (bnot_of c22) (rN 4 Z (G.weak ?_ (d1 e1 (Nat.lt_succ_of_le (lR _)) (Nat.le_of_succ_le g1) _ _ H HS)))
     exact ⟨Z, Z, Z, Z, tv⟩
  refine G.weak ?_ (f1 K (lR _) _ _ H HS)
  exact ⟨Z, Z, Z, Z, tv⟩
theorem slices_DeleteFunc_int64_int64_others_fn1.calls {s b1 : List Int} {A_a : Option Addr} {c_a d1 : Nat} {r1 : List Int} (HS : St w0 w (Own (TInt .i64) 2 A_a c_a (fun _ => ()) s :: Box d1 56 [.slice A_b b1.length c_b] :: L)) (r_b : RdIn w0 L (TInt .i64) A_b c_b (fun _ => ()) b1) (H : slices_DeleteFunc_int64_int64_others_fn1.f K s b1 = some r1) :
    Calls prog 158 #[.slice A_a s.length c_a, .func (.func 159) #[] #[.pointer (some ⟨d1, 0, none⟩)]] w (slices_DeleteFunc_int64_int64_others_fn1.post w0 L b1 d1 A_b c_b r1) := by
  unfold slices_DeleteFunc_int64_int64_others_fn1.f at H
  refine cG func158 Z ?_
  refine rN 3 Z ?_
  obtain ⟨t1, h2, H⟩ := bI H
  refine rG (pS 2 Z ?_)
  replace HS := HS.pk 2 [1, 0] Z
  refine fJ fok102 Z (slices_IndexFunc_int64_int64_others_fn1.calls HS (RdIn.own (j := 0) Z) (rD 1 r_b) h2) (fun _ wd3 ⟨h4, HS⟩ => ⟨_, h4, (aS Z (nL (rN 3 Z ?_)))⟩)
  rcases iE H with ⟨c5, H⟩ | ⟨c5, H⟩
  ·
   refine yB Z (tT c5) (rN 2 Z ?_)
   obtain rfl := sI H
   exact rT _ func158 Z Z ⟨_, _, Z, (HS.pk 2 [1, 0] Z)⟩
  refine nB Z (tF c5) (rN 6 Z ?_)
  refine G.name (fun k1 m1 => ?_)
  have i1 : ∀ e1, e1 ≤ K → ∀ (x19 : List Int) (a1 c1 : Int) (w : World), slices_DeleteFunc_int64_int64_others_fn1.l1 K e1 b1 x19 a1 c1 = some r1 → St w0 w (Own (TInt .i64) 2 A_a c_a (fun _ => ()) x19 :: Box d1 56 [.slice A_b b1.length c_b] :: L) → G prog 158 42 [(0, .slice A_a x19.length c_a), (1, .func (.func 159) #[] #[.pointer (some ⟨d1, 0, none⟩)]), (5, I a1), (6, I c1)] k1 w (slices_DeleteFunc_int64_int64_others_fn1.post w0 L b1 d1 A_b c_b r1) := by
   intro e1
   induction e1 using Nat.strongRecOn with
   | _ e1 f1 =>
    intro h1 x19 a1 c1 w H HS
    cases e1 with
    | zero => rw [slices_DeleteFunc_int64_int64_others_fn1.l1] at H; cases H
    | succ g1 =>
     rw [slices_DeleteFunc_int64_int64_others_fn1.l1] at H
     subst m1
     refine rN 2 Z (rG (pS 2 Z (lS Z Z U56 Z (GO.lss Z Z Z Z (nL ?_)))))
     rcases iS H with ⟨c35, H⟩ | ⟨c35, H⟩
     ·
      refine nB Z (tF c35) (rN 2 Z ?_)
      obtain ⟨c44, H⟩ := iN H
      have h46 := over_lenR (xs := x19) (z := 0) (cutN (leN c44) (lR _))
      refine rG (pS 2 Z (GO.slL (T := (TInt .i64)) HS (RdIn.own (j := 0) Z) Z Z Z U56 sz2 c44.1 c44.2 Z (GO.clearC (T := (TInt .i64)) (j := 0) (l := a1.toNat) 0 () HS Z flat_flat Z Z U56 zr2 Z Z (cutC (lR _) ((RdIn.own (j := 0) Z) _ HS).1) (cutN (leN c44) (lR _)) (fun _ => Z) fun wd45 HS => nL (G.len (t := 0) (m := (over x19 a1.toNat (List.replicate ((x19.take x19.length).drop a1.toNat).length 0)).length) Z (by simp only [List.length_set, h46] <;> rfl) (sQ ?_)))))
      obtain ⟨c47, H⟩ := iN H
      refine rG (pS 2 Z (GO.slH (T := (TInt .i64)) HS (RdIn.own (j := 0) Z) Z Z Z U56 sz2 c47.1 c47.2 Z (aS Z (nL ?_))))
      replace HS := HS.cutOwn (A' := (cutA A_a 0 c_a 1)) (c' := (c_a - 0)) (j := 0) (l := 0) (h := a1.toNat) (m := c_a) Z (Nat.zero_le _) (leN c47) (Nat.le_trans (leN c47) ((RdIn.own (j := 0) Z) _ HS).1) (lR _) Z Z
      obtain rfl := sI H
      exact rT _ func158 Z Z ⟨_, _, Z, HS⟩
     refine yB Z (tT c35) (rN 4 Z ?_)
     obtain ⟨c36, H⟩ := iN H
     refine rG (pS 2 Z (GO.ix Z Z Z U56 sz2 ((RdIn.own (j := 0) Z) _ HS).2.2.1 c36.1 c36.2 Z (GO.ldRd (T := (TInt .i64)) (n := c1.toNat) (o := 0) HS (RdIn.own (j := 0) Z) Z Z (getD_some (d := 0) (ltN c36)) Z Z na2 Z (aS Z (nL (sQ ?_))))))
     obtain ⟨t37, h38, H⟩ := bI H
     refine rG (pS 2 Z ?_)
     replace HS := HS.pk 2 [1, 0] Z
     refine GO.clo Z Z func159 fok159.2.1 fok159.2.2 Z Z (impl_others_fn1_free.calls HS (rD 1 r_b) h38) (fun _ wd39 ⟨h40, HS⟩ => ⟨_, h40, (GO.not Z Z Z (nL ?_))⟩)
     rcases iE H with ⟨c41, H⟩ | ⟨c41, H⟩
     ·
      refine nB Z (congrArg Bool.not c41) (rN 4 Z (G.weak ?_ (f1 g1 (Nat.lt_succ_of_le (lR _)) (Nat.le_of_succ_le h1) _ _ _ _ H (HS.pk 2 [1, 0] Z))))
      exact ⟨Z, Z, Z, Z, tv⟩
     refine yB Z (congrArg Bool.not (bnot_of c41)) (sQ ?_)
     obtain ⟨c42, H⟩ := iN H
     refine rG (pS 3 Z (GO.ix Z Z Z U56 sz2 ((RdIn.own (j := 1) Z) _ HS).2.2.1 c42.1 c42.2 Z (GO.stRow (T := (TInt .i64)) (j := 1) (n := a1.toNat) (o := 0) (vs := [I (x19.getD c1.toNat 0)]) (x19.getD c1.toNat 0) HS Z flat_flat Z Z Z Z (htN na2 Z) Z (getD_some (d := 0) (ltN c42)) Z Z fun wd43 HS => nL (G.len (t := 0) (m := (x19.set a1.toNat (x19.getD c1.toNat 0)).length) Z (by simp only [List.length_set] <;> rfl) (rN 4 Z (G.weak ?_ (f1 g1 (Nat.lt_succ_of_le (lR _)) (Nat.le_of_succ_le h1) _ _ _ _ H (HS.pk 2 [1, 0] Z))))))))
     exact ⟨Z, Z, Z, Z, tv⟩
  refine G.weak ?_ (i1 K (lR _) _ _ _ _ H (HS.pk 2 [1, 0] Z))
  exact ⟨Z, Z, Z, Z, tv⟩
theorem impl_others.calls {not : List Int} {r1 : List Int} (HS : St w0 w (L)) (r_a : RdIn w0 L (TInt .i64) A_a c_a (fun _ => ()) not) (H : impl_others.f K not = some r1) :
    Calls prog 137 #[.slice A_a not.length c_a] w (impl_others.post w0 L r1) := by
  unfold impl_others.f at H
  refine cG func137 Z ?_
  refine sQ (rG (GO.box (cs := [.slice A_a not.length c_a]) HS Z Z Z Z fun b1 wd2 HS => aS Z (nL (sQ ?_))))
  obtain ⟨t3, h4, H⟩ := bI H
  obtain ⟨t9, h10, H⟩ := bI H
  refine rG (fJ fok144 Z (impl_counting.calls HS  h4) (fun _ wd7 ⟨A5, c6, h8, HS⟩ => ⟨_, h8, (GO.mkFunc Z Z Z Z ?_)⟩))
  replace HS := HS.pk 2 [0, 1] Z
  refine fJ fok158 Z (slices_DeleteFunc_int64_int64_others_fn1.calls HS r_a h10) (fun _ wd13 ⟨A11, c12, h14, HS⟩ => ⟨_, h14, (aS Z (nL ?_))⟩)
  obtain rfl := sI H
  exact rT _ func137 Z Z ⟨_, _, Z, (HS.pk 2 [0] Z)⟩
theorem impl_change_put.calls {a1 : List Int} {k1 : List (Arr2 × GPlace)} {d1 : Int} {c1 : List Arr4} {tet face : Int} {to h1 : Int} {g1 i1 f1 : Int} {b_c : Nat} {A_a : Option Addr} {c_a e1 : Nat} {r1 : List (Arr2 × GPlace)} (HS : St w0 w (Box b_c 104 [.slice A_a a1.length c_a, .map (some e1), I d1, .slice A_b c1.length c_b] :: MapG e1 ke_Arr2 ke_GPlace k1 :: L)) (r_a : RdIn w0 L (TInt .i64) A_a c_a (fun _ => ()) a1) (r_b : RdIn w0 L T_Arr4 A_b c_b (fun _ => ()) c1) (H : impl_change_put.f K a1 k1 d1 c1 tet face to h1 g1 i1 f1 = some r1) :
    Calls prog 138 #[.pointer (some ⟨b_c, 0, none⟩), I tet, I face, I to, .agg [I h1, I g1, I i1, I f1].toArray] w (impl_change_put.post w0 L a1 d1 c1 b_c A_a c_a e1 A_b c_b r1) := by
  unfold impl_change_put.f at H
  refine cG func138 Z ?_
  refine sQ (rG (bA HS Z fun b1 wd2 HS => nL ?_))
  obtain ⟨t3, h4, H⟩ := bI H
  refine G.lexS mixed (fun w => St w0 w (Box b1 131 [I h1, I g1, I i1, I f1] :: Box b_c 104 [.slice A_a a1.length c_a, .map (some e1), I d1, .slice A_b c1.length c_b] :: L)) [3, 8] [0, 1, 2, 4, 5, 6, 7, 3, 8, 9, 10, 11] [] (by kernel_rfl) (by kernel_rfl) (HS.drew.pk 3 [0, 1] Z) ?_
  replace HS := HS.drew
  refine GX.ps 1 Z (qL Z Z (fun _ _ g => GO.nilP Z Z Z g) Z (qL Z Z (fun _ _ g => fL b_c 1 fl104_1 Z g) Z (GX.ps 2 Z (qL Z Z (fun _ _ g => GO.buildV (.agg [I tet, I face].toArray) Z Z (fun _ => by kernel_rfl) Z g) Z (GX.ps 1 Z (GX.ls Z Z Z (HS.pk 3 [0, 1] Z) (fun _ HS _ g => lB 1 HS Z na101 Z g) Z (GX.ls Z Z Z (HS.pk 3 [0, 1] Z) (fun _ HS _ g => lW 0 HS Z ag131 g) Z (GX.l2 Z (fJ fok130 Z (impl_indexOf.calls HS  h4) (fun _ wd5 ⟨h6, HS⟩ => ⟨_, h6, (GX.fin (HS.pk 3 [0, 1] Z) (qL Z Z (fun _ _ g => GO.buildV (.agg [I to, I t3].toArray) Z Z (fun _ => by kernel_rfl) Z g) Z (GX.l2 Z (GO.putMG (⟨tet, face⟩ : Arr2) (⟨to, t3⟩ : GPlace) kok118 HS (j := 2) Z Z Z Z Z U101 fun wd7 HS => GX.fin (HS.pk 3 [0, 1] Z) ?_))))⟩))))))))))
  refine GX.nil ?_
  obtain rfl := sI H
  exact G.end0 func138 Z ⟨Z, (HS.pk 3 [1, 2] Z)⟩
theorem impl_exchange.calls {i j_ r1 : Int} (HS : St w0 w (L)) (H : impl_exchange.f K i j_ = some r1) :
    Calls prog 139 #[I i, I j_] w (impl_exchange.post w0 L r1) := by
  unfold impl_exchange.f at H
  refine cG func139 Z ?_
  refine rN 3 Z (rG (GO.buildV (.agg [I 0, I 1, I 2, I 3].toArray) Z Z (fun _ => by kernel_rfl) Z (GO.alloc HS Z zr131 Z Z fun b1 wd2 HS => sW 0 HS Z ag131 Z fun wd3 HS => nL (sQ ?_))))
  obtain ⟨c4, H⟩ := iN H
  obtain ⟨c6, H⟩ := iN H
  refine rG (pS 4 Z (GO.ixW Z Z Z U131 sz2 c4 Z (GO.stW (j := 0) (o := 0) (sz := 1) (vs := [I j_]) (fun u_ => [I (se 0 u_ j_ 0), I (se 1 u_ j_ 1), I (se 2 u_ j_ 2), I (se 3 u_ j_ 3)]) HS Z Z Z Z Z c4 (htN na2 Z) Z Z (four Z Z Z Z) fun wd5 HS => GO.ixW Z Z Z U131 sz2 c6 Z (GO.stW (j := 0) (o := 0) (sz := 1) (vs := [I i]) (fun u_ => [I (se 0 u_ i (se 0 i j_ 0)), I (se 1 u_ i (se 1 i j_ 1)), I (se 2 u_ i (se 2 i j_ 2)), I (se 3 u_ i (se 3 i j_ 3))]) HS Z Z Z Z Z c6 (htN na2 Z) Z Z (four Z Z Z Z) fun wd7 HS => nL (sQ ?_)))))
  obtain ⟨t8, h9, H⟩ := bI H
  refine rG (lW 0 HS Z ag131 (fJ fok130 Z (impl_indexOf.calls HS  h9) (fun _ wd10 ⟨h11, HS⟩ => ⟨_, h11, (aS Z (nL ?_))⟩)))
  obtain rfl := sI H
  exact rT _ func139 Z Z ⟨Z, (HS.pk 1 [] Z)⟩
theorem impl_Triangulation_change23.calls {e1 : List (List GFace)} {a_ f : Int} {y_a : Nat → (Ty.slice 107 T_GFace).Lay} {r1 : Option (List Int × List (Arr2 × GPlace) × Int × List Arr4)} (HS : St w0 w (L)) (r_a : RdIn w0 L (Ty.slice 107 T_GFace) A_a c_a y_a e1) (H : impl_Triangulation_change23.f K e1 a_ f = some r1) :
    Calls prog 111 #[.agg [.slice A_a e1.length c_a].toArray, I a_, I f] w (impl_Triangulation_change23.post w0 L r1) := by
  unfold impl_Triangulation_change23.f at H
  refine cG func111 Z ?_
  refine sQ (rG (bA HS Z fun b1 wd2 HS => aS Z (nL (sQ ?_))))
  obtain ⟨c3, H⟩ := iN H
  obtain ⟨c4, H⟩ := iN H
  obtain ⟨e5, h6, H⟩ := bnd_elim H
  refine rG (fL b1 0 fl31_0 Z (lB 0 HS Z na29 Z (mV Z (GO.ix Z Z Z U29 sz77 ((rD 1 r_a) _ HS).2.2.1 c3.1 c3.2 Z (GO.ldRd (T := (Ty.slice 107 T_GFace)) (n := a_.toNat) (o := 0) HS (rD 1 r_a) Z Z (getD_some (d := []) (ltN c3)) Z Z na77 Z (mV Z (GO.ix Z Z Z U77 sz107 ((RdIn.elem (rD 1 r_a) c3.1 c3.2) _ HS).2.2.1 c4.1 c4.2 Z (GO.ldRdA (T := T_GFace) (n := f.toNat) HS (RdIn.elem (rD 1 r_a) c3.1 c3.2) Z Z (getD_eq (ltN c4) h6) ag107 Z (GO.alloc HS Z zr107 Z Z fun b7 wd8 HS => sW 0 HS Z ag107 Z fun wd9 HS => nL (rN 2 Z ?_))))))))))
  obtain ⟨t15, h16, H⟩ := bI H
  rcases iE H with ⟨c19, H⟩ | ⟨c19, H⟩
  ·
   refine rG (lW 0 HS Z ag107 (fJ fok91 Z (impl_Face_isBoundary.calls HS  h16) (fun _ wd17 ⟨h18, HS⟩ => ⟨_, h18, (mV Z (kN 27 Z c19 (oF Z (oF Z (oF Z (oF Z (GO.pickT Z Z Z Z Z (nL (rN 3 Z ?_)))))))))⟩)))
   replace HS := HS.emp
   obtain rfl := sI H
   exact rT _ func111 Z Z ⟨0, none, 0, 0, none, 0, Z, (HS.pk 3 [0] Z)⟩
  refine rG (lW 0 HS Z ag107 (fJ fok91 Z (impl_Face_isBoundary.calls HS  h16) (fun _ wd17 ⟨h18, HS⟩ => ⟨_, h18, (mV Z (kN 27 Z (bnot_of c19) (oN Z (fL b7 0 fl107_0 Z (bK (oN Z (lB 0 HS Z na2 Z (bK (oN Z (mV Z (bK (oN Z ?_))))))))))))⟩)))
  refine GO.eql Z Z Z Z (bK (GO.pickF Z Z Z Z Z (nL ?_)))
  rcases iE H with ⟨c20, H⟩ | ⟨c20, H⟩
  ·
   refine yB Z (tT c20) (rN 2 Z ?_)
   replace HS := HS.emp
   obtain rfl := sI H
   exact rT _ func111 Z Z ⟨0, none, 0, 0, none, 0, Z, (HS.pk 3 [0] Z)⟩
  refine nB Z (tF c20) (rN 2 Z ?_)
  obtain ⟨t23, t24, t25, t26, h27, H⟩ := bind4_elim H
  refine rG (mV Z (fL b7 0 fl107_0 Z (lB 0 HS Z na2 Z (GO.buildS (el := 2) ([I a_, I e5.Tet]) HS Z Z (fun _ => by kernel_rfl) Z fun b21 wd22 HS => ?_))))
  replace HS := HS.boxRow (T := (TInt .i64)) (j := 0) Z flat_flat (fun _ => ()) ([a_, e5.Tet] : List Int) Z (bndL Z)
  refine GO.lenC (t := 36) (m := ([a_, e5.Tet] : List Int).length) (c' := ([a_, e5.Tet] : List Int).length) Z Z Z ?_
  replace HS := HS.pk 3 [0, 1, 2] Z
  refine fJ fok136 Z (impl_newChange.calls HS  h27) (fun _ wd34 ⟨b28, A29, c30, b31, A32, c33, h35, HS⟩ => ⟨_, h35, (aS Z (nL (sQ ?_)))⟩)
  obtain ⟨t36, t37, t38, t39, h40, H⟩ := bind4_elim H
  obtain ⟨t45, h46, H⟩ := bI H
  refine rG (fL b7 1 fl107_1 Z (lB 4 HS Z na2 Z (fJ fok93 Z (impl_perm.calls HS  h40) (fun _ wd41 ⟨h42, HS⟩ => ⟨_, h42, (mV Z (GO.buildS (el := 2) ([I f]) HS Z Z (fun _ => by kernel_rfl) Z fun b43 wd44 HS => ?_))⟩))))
  replace HS := HS.boxRow (T := (TInt .i64)) (j := 0) Z flat_flat (fun _ => ()) ([f] : List Int) Z (bndL Z)
  refine GO.lenC (t := 42) (m := ([f] : List Int).length) (c' := ([f] : List Int).length) Z Z Z (fJ fok137 Z (impl_others.calls HS (RdIn.own (j := 0) Z) h46) (fun _ wd49 ⟨A47, c48, h50, HS⟩ => ⟨_, h50, (GO.alloc HS Z zr131 Z Z fun b51 wd52 HS => sW 0 HS Z ag131 Z fun wd53 HS => aS Z (nL (rN 5 Z ?_)))⟩))
  refine G.name (fun k1 m1 => ?_)
  have h1 : ∀ c1, c1 ≤ K → ∀ (d1 : List (Arr2 × GPlace)) (A100 : Option Addr) (c101 : Nat) (a1 : List Arr4) (x103 : Int) (w : World), impl_Triangulation_change23.l1 K c1 a_ f e5 t23 t25 t36 t37 t38 t39 t45 d1 a1 x103 = some r1 → St w0 w (Box b7 107 [I e5.Tet, I e5.Perm] :: Box b28 104 [.slice A29 t23.length c30, .map (some b31), I t25, .slice A100 a1.length c101] :: Own (TInt .i64) 2 A29 c30 (fun _ => ()) t23 :: MapG b31 ke_Arr2 ke_GPlace d1 :: Own T_Arr4 131 A100 c101 (fun _ => ()) a1 :: Box b51 131 [I t36, I t37, I t38, I t39] :: Own (TInt .i64) 2 A47 c48 (fun _ => ()) t45 :: L) → G prog 111 119 [(1, I a_), (2, I f), (7, .pointer (some ⟨b7, 0, none⟩)), (8, .pointer (some ⟨b28, 0, none⟩)), (9, .pointer (some ⟨b51, 0, none⟩)), (10, .slice A47 t45.length c48), (44, I x103)] k1 w (impl_Triangulation_change23.post w0 L r1) := by
   intro c1
   induction c1 using Nat.strongRecOn with
   | _ c1 f1 =>
    intro i1 d1 A100 c101 a1 x103 w H HS
    cases c1 with
    | zero => rw [impl_Triangulation_change23.l1] at H; cases H
    | succ g1 =>
     rw [impl_Triangulation_change23.l1] at H
     subst m1
     refine rN 3 Z ?_
     rcases iS H with ⟨c150, H⟩ | ⟨c150, H⟩
     ·
      refine nB Z (tF c150) (rN 3 Z ?_)
      replace HS := HS.pk 7 [1, 2, 3, 4, 0, 5, 6] Z
      replace HS := St.opt (F := (fun x => [Box b28 104 [.slice A29 x.1.length c30, .map (some b31), I x.2.2.1, .slice A100 x.2.2.2.length c101], Own (TInt .i64) 2 A29 c30 (fun _ => ()) x.1, MapG b31 ke_Arr2 ke_GPlace x.2.1, Own T_Arr4 131 A100 c101 (fun _ => ()) x.2.2.2])) (t23, d1, t25, a1) HS Z
      obtain rfl := sI H
      exact rT _ func111 Z Z ⟨_, _, _, _, _, _, Z, (HS.pk 4 [0] Z)⟩
     refine yB Z (tT c150) (rN 6 Z ?_)
     obtain ⟨c151, H⟩ := iN H
     have h152 := ((RdIn.own (j := 6) Z) _ HS).2.2.1
     obtain ⟨c153, H⟩ := iN H
     have h154 := ((RdIn.own (j := 6) Z) _ HS).2.2.1
     obtain ⟨c155, H⟩ := iN H
     have h156 := ((RdIn.own (j := 6) Z) _ HS).2.2.1
     refine G.lex mixed [0, 1, 2, 4, 5, 6, 7, 8, 10, 11, 12, 13, 14, 3, 16, 9, 17, 15, 18] (by kernel_rfl) ?_
     replace HS := HS.drew
     refine GX.ps 2 Z (qL Z Z (fun _ _ g => GO.ix Z Z Z U56 sz2 h152 c151.1 c151.2 Z g) Z (GX.ps 3 Z (qL Z Z (fun _ _ g => GO.rem Z Z Z (by decide) Z g) Z (qL Z Z (fun _ _ g => GO.ix Z Z Z U56 sz2 h154 c153.1 c153.2 Z g) Z (GX.ps 3 Z (qL Z Z (fun _ _ g => GO.rem Z Z Z (by decide) Z g) Z (qL Z Z (fun _ _ g => GO.ix Z Z Z U56 sz2 h156 c155.1 c155.2 Z g) Z (GX.l1 Z Z Z (fun _ g => GO.ldRd (T := (TInt .i64)) (n := x103.toNat) (o := 0) HS (RdIn.own (j := 6) Z) Z Z (getD_some (d := 0) (ltN c151)) Z Z na2 Z g) Z (GX.ps 1 Z (GX.l1 Z Z Z (fun _ g => GO.ldRd (T := (TInt .i64)) (n := ((w64 (x103 + 1)).tmod 3).toNat) (o := 0) HS (RdIn.own (j := 6) Z) Z Z (getD_some (d := 0) (ltN c153)) Z Z na2 Z g) Z (GX.ps 1 Z (GX.l1 Z Z Z (fun _ g => GO.ldRd (T := (TInt .i64)) (n := ((w64 (x103 + 2)).tmod 3).toNat) (o := 0) HS (RdIn.own (j := 6) Z) Z Z (getD_some (d := 0) (ltN c155)) Z Z na2 Z g) Z (GX.ps 1 Z (GX.nil ?_))))))))))))))
     refine sQ (rG (GO.alloc HS Z zr131 Z Z fun b157 wd158 HS => GO.alloc HS Z zr131 Z Z fun b159 wd160 HS => nL (sQ ?_)))
     obtain ⟨c161, H⟩ := iN H
     obtain ⟨c163, H⟩ := iN H
     obtain ⟨c165, H⟩ := iN H
     obtain ⟨c167, H⟩ := iN H
     refine rG (pS 4 Z (GO.ixW Z Z Z U131 sz2 c161 Z (GO.stW (j := 1) (o := 0) (sz := 1) (vs := [I 0]) (fun u_ => [I (se 0 u_ 0 0), I (se 1 u_ 0 0), I (se 2 u_ 0 0), I (se 3 u_ 0 0)]) HS Z Z Z Z Z c161 (htN na2 Z) Z Z (four Z Z Z Z) fun wd162 HS => GO.ixW Z Z Z U131 sz2 c163 Z (GO.stW (j := 1) (o := 0) (sz := 1) (vs := [I 1]) (fun u_ => [I (se 0 u_ 1 (se 0 f 0 0)), I (se 1 u_ 1 (se 1 f 0 0)), I (se 2 u_ 1 (se 2 f 0 0)), I (se 3 u_ 1 (se 3 f 0 0))]) HS Z Z Z Z Z c163 (htN na2 Z) Z Z (four Z Z Z Z) fun wd164 HS => GO.ixW Z Z Z U131 sz2 c165 Z (GO.stW (j := 1) (o := 0) (sz := 1) (vs := [I 2]) (fun u_ => [I (se 0 u_ 2 (se 0 (t45.getD x103.toNat 0) 1 (se 0 f 0 0))), I (se 1 u_ 2 (se 1 (t45.getD x103.toNat 0) 1 (se 1 f 0 0))), I (se 2 u_ 2 (se 2 (t45.getD x103.toNat 0) 1 (se 2 f 0 0))), I (se 3 u_ 2 (se 3 (t45.getD x103.toNat 0) 1 (se 3 f 0 0)))]) HS Z Z Z Z Z c165 (htN na2 Z) Z Z (four Z Z Z Z) fun wd166 HS => GO.ixW Z Z Z U131 sz2 c167 Z (GO.stW (j := 1) (o := 0) (sz := 1) (vs := [I 3]) (fun u_ => [I (se 0 u_ 3 (se 0 (t45.getD (((w64 (x103 + 1)).tmod 3).toNat) 0) 2 (se 0 (t45.getD x103.toNat 0) 1 (se 0 f 0 0)))), I (se 1 u_ 3 (se 1 (t45.getD (((w64 (x103 + 1)).tmod 3).toNat) 0) 2 (se 1 (t45.getD x103.toNat 0) 1 (se 1 f 0 0)))), I (se 2 u_ 3 (se 2 (t45.getD (((w64 (x103 + 1)).tmod 3).toNat) 0) 2 (se 2 (t45.getD x103.toNat 0) 1 (se 2 f 0 0)))), I (se 3 u_ 3 (se 3 (t45.getD (((w64 (x103 + 1)).tmod 3).toNat) 0) 2 (se 3 (t45.getD x103.toNat 0) 1 (se 3 f 0 0))))]) HS Z Z Z Z Z c167 (htN na2 Z) Z Z (four Z Z Z Z) fun wd168 HS => nL (sQ ?_)))))))
     obtain ⟨c169, H⟩ := iN H
     obtain ⟨c171, H⟩ := iN H
     obtain ⟨c173, H⟩ := iN H
     obtain ⟨c175, H⟩ := iN H
     refine G.lexS mixed (fun w => St w0 w (Box b51 131 [I t36, I t37, I t38, I t39] :: L)) [2, 5, 8, 11] [0, 1, 3, 4, 6, 7, 9, 10, 2, 12, 5, 8, 11, 13, 14, 15, 16, 17, 18, 19] [] (by kernel_rfl) (by kernel_rfl) (HS.drew.pk 9 [7] Z) ?_
     replace HS := HS.drew
     refine GX.ps 1 Z (qL Z Z (fun _ _ g => GO.ixW Z Z Z U131 sz2 c161 Z g) Z (GX.ps 1 Z (qL Z Z (fun _ _ g => GO.ixW Z Z Z U131 sz2 c163 Z g) Z (GX.ps 1 Z (qL Z Z (fun _ _ g => GO.ixW Z Z Z U131 sz2 c165 Z g) Z (GX.ps 1 Z (qL Z Z (fun _ _ g => GO.ixW Z Z Z U131 sz2 c167 Z g) Z (GX.ls Z Z Z (HS.pk 9 [7] Z) (fun _ HS _ g => GO.ldW (j := 0) ([t36, t37, t38, t39] : List Int) HS Z Z Z c161 Z Z na2 Z g) Z (qL Z Z (fun _ _ g => GO.ixW Z Z Z U131 sz2 c169 Z g) Z (GX.ls Z Z Z (HS.pk 9 [7] Z) (fun _ HS _ g => GO.ldW (j := 0) ([t36, t37, t38, t39] : List Int) HS Z Z Z c163 Z Z na2 Z g) Z (GX.ls Z Z Z (HS.pk 9 [7] Z) (fun _ HS _ g => GO.ldW (j := 0) ([t36, t37, t38, t39] : List Int) HS Z Z Z c165 Z Z na2 Z g) Z (GX.ls Z Z Z (HS.pk 9 [7] Z) (fun _ HS _ g => GO.ldW (j := 0) ([t36, t37, t38, t39] : List Int) HS Z Z Z c167 Z Z na2 Z g) Z (GX.l2 Z (GO.stW (j := 0) (o := 0) (sz := 1) (vs := [I 1]) (fun u_ => [I (se 0 u_ 1 0), I (se 1 u_ 1 0), I (se 2 u_ 1 0), I (se 3 u_ 1 0)]) HS Z Z Z Z Z c169 (htN na2 Z) Z Z (four Z Z Z Z) fun wd170 HS => ?_))))))))))))))
     refine GX.fin (HS.pk 9 [7] Z) (qL Z Z (fun _ _ g => GO.ixW Z Z Z U131 sz2 c171 Z g) Z (GX.l2 Z (GO.stW (j := 0) (o := 0) (sz := 1) (vs := [I 0]) (fun u_ => [I (se 0 u_ 0 (se 0 (([t36, t37, t38, t39] : List Int).getD f.toNat 0) 1 0)), I (se 1 u_ 0 (se 1 (([t36, t37, t38, t39] : List Int).getD f.toNat 0) 1 0)), I (se 2 u_ 0 (se 2 (([t36, t37, t38, t39] : List Int).getD f.toNat 0) 1 0)), I (se 3 u_ 0 (se 3 (([t36, t37, t38, t39] : List Int).getD f.toNat 0) 1 0))]) HS Z Z Z Z Z c171 (htN na2 Z) Z Z (four Z Z Z Z) fun wd172 HS => GX.fin (HS.pk 9 [7] Z) (qL Z Z (fun _ _ g => GO.ixW Z Z Z U131 sz2 c173 Z g) Z (GX.l2 Z (GO.stW (j := 0) (o := 0) (sz := 1) (vs := [I 2]) (fun u_ => [I (se 0 u_ 2 (se 0 (([t36, t37, t38, t39] : List Int).getD (t45.getD x103.toNat 0).toNat 0) 0 (se 0 (([t36, t37, t38, t39] : List Int).getD f.toNat 0) 1 0))), I (se 1 u_ 2 (se 1 (([t36, t37, t38, t39] : List Int).getD (t45.getD x103.toNat 0).toNat 0) 0 (se 1 (([t36, t37, t38, t39] : List Int).getD f.toNat 0) 1 0))), I (se 2 u_ 2 (se 2 (([t36, t37, t38, t39] : List Int).getD (t45.getD x103.toNat 0).toNat 0) 0 (se 2 (([t36, t37, t38, t39] : List Int).getD f.toNat 0) 1 0))), I (se 3 u_ 2 (se 3 (([t36, t37, t38, t39] : List Int).getD (t45.getD x103.toNat 0).toNat 0) 0 (se 3 (([t36, t37, t38, t39] : List Int).getD f.toNat 0) 1 0)))]) HS Z Z Z Z Z c173 (htN na2 Z) Z Z (four Z Z Z Z) fun wd174 HS => GX.fin (HS.pk 9 [7] Z) (qL Z Z (fun _ _ g => GO.ixW Z Z Z U131 sz2 c175 Z g) Z (GX.l2 Z (GO.stW (j := 0) (o := 0) (sz := 1) (vs := [I 3]) (fun u_ => [I (se 0 u_ 3 (se 0 (([t36, t37, t38, t39] : List Int).getD (t45.getD (((w64 (x103 + 1)).tmod 3).toNat) 0).toNat 0) 2 (se 0 (([t36, t37, t38, t39] : List Int).getD (t45.getD x103.toNat 0).toNat 0) 0 (se 0 (([t36, t37, t38, t39] : List Int).getD f.toNat 0) 1 0)))), I (se 1 u_ 3 (se 1 (([t36, t37, t38, t39] : List Int).getD (t45.getD (((w64 (x103 + 1)).tmod 3).toNat) 0).toNat 0) 2 (se 1 (([t36, t37, t38, t39] : List Int).getD (t45.getD x103.toNat 0).toNat 0) 0 (se 1 (([t36, t37, t38, t39] : List Int).getD f.toNat 0) 1 0)))), I (se 2 u_ 3 (se 2 (([t36, t37, t38, t39] : List Int).getD (t45.getD (((w64 (x103 + 1)).tmod 3).toNat) 0).toNat 0) 2 (se 2 (([t36, t37, t38, t39] : List Int).getD (t45.getD x103.toNat 0).toNat 0) 0 (se 2 (([t36, t37, t38, t39] : List Int).getD f.toNat 0) 1 0)))), I (se 3 u_ 3 (se 3 (([t36, t37, t38, t39] : List Int).getD (t45.getD (((w64 (x103 + 1)).tmod 3).toNat) 0).toNat 0) 2 (se 3 (([t36, t37, t38, t39] : List Int).getD (t45.getD x103.toNat 0).toNat 0) 0 (se 3 (([t36, t37, t38, t39] : List Int).getD f.toNat 0) 1 0))))]) HS Z Z Z Z Z c175 (htN na2 Z) Z Z (four Z Z Z Z) fun wd176 HS => GX.fin (HS.pk 9 [7] Z) (GX.nil (sQ ?_)))))))))))
     obtain ⟨t177, h178, H⟩ := bI H
     refine rG (pS 4 Z (lW 1 HS Z ag131 ?_))
     replace HS := HS.pk 9 [3, 5, 0, 1, 2, 4, 6, 7, 8] Z
     refine fJ fok138 Z (impl_change_put.calls HS (RdIn.own (j := 3) Z) (RdIn.own (j := 4) Z) h178) (fun _ wd179 ⟨h180, HS⟩ => ⟨_, h180, (nL (sQ ?_))⟩)
     obtain ⟨t181, h182, H⟩ := bI H
     refine G.lex mixed [0, 1, 3, 4, 6, 2, 5, 7, 8] (by kernel_rfl) ?_
     replace HS := HS.drew
     refine GX.ps 1 Z (qL Z Z (fun _ _ g => fL b7 0 fl107_0 Z g) Z (GX.ps 1 Z (qL Z Z (fun _ _ g => GO.ixW Z Z Z U131 sz2 c163 Z g) Z (GX.ps 1 Z (GX.l1 Z Z Z (fun _ g => lB 4 HS Z na2 Z g) Z (GX.l1 Z Z Z (fun _ g => GO.ldW (j := 7) ([t36, t37, t38, t39] : List Int) HS Z Z Z c163 Z Z na2 Z g) Z (GX.l1 Z Z Z (fun _ g => lW 2 HS Z ag131 g) Z (GX.l2 Z ?_))))))))
     replace HS := HS.pk 9 [0, 1, 2, 3, 4, 5, 6, 7, 8] Z
     refine fJ fok138 Z (impl_change_put.calls HS (RdIn.own (j := 3) Z) (RdIn.own (j := 4) Z) h182) (fun _ wd183 ⟨h184, HS⟩ => ⟨_, h184, (GX.fin tv (GX.nil ?_))⟩)
     obtain ⟨t185, h186, H⟩ := bI H
     obtain ⟨c194, H⟩ := iN H
     refine G.lexS mixed (fun w => St w0 w (Box b28 104 [.slice A29 t23.length c30, .map (some b31), I t25, .slice A100 a1.length c101] :: L)) [4] [0, 1, 2, 3, 5, 6, 7, 8, 4, 9, 10, 11, 12, 13, 14, 15] [15] (by kernel_rfl) (by kernel_rfl) (HS.drew.pk 9 [0] Z) ?_
     replace HS := HS.drew
     refine GX.ps 2 Z (qL Z Z (fun _ _ g => GO.nilP Z Z Z g) Z (qL Z Z (fun _ _ g => fL b28 3 fl104_3 Z g) Z (GX.ps 3 Z (qL Z Z (fun _ _ g => GO.rem Z Z Z (by decide) Z g) Z (GX.ls Z Z Z (HS.pk 9 [0] Z) (fun _ HS _ g => lB 0 HS Z na102 Z g) Z (GX.l2 Z (fJ fok139 Z (impl_exchange.calls HS  h186) (fun _ wd187 ⟨h188, HS⟩ => ⟨_, h188, (GX.fin (HS.pk 9 [0] Z) (qL Z Z (fun _ _ g => GO.buildV (.agg [I x103, I 2, I ((w64 (x103 + 1)).tmod 3), I t185].toArray) Z Z (fun _ => by kernel_rfl) Z g) Z (GX.l2 Z (GO.buildS (el := 131) ([I x103, I 2, I ((w64 (x103 + 1)).tmod 3), I t185]) HS Z Z (fun _ => by kernel_rfl) Z fun b189 wd190 HS => GX.fin (HS.pk 10 [1] Z) (GX.l2 Z (GO.app1 (T := T_Arr4) (j := 7) (jb := 0) (⟨x103, 2, (w64 (x103 + 1)).tmod 3, t185⟩ : Arr4) HS Z Z flat_flat Z Z Z U102 inf131 Z Z Z c194 Z fun A192 c193 wd191 HS => ?_))))))⟩))))))))
     refine GX.fin (HS.pk 10 [1] Z) (qL Z Z (fun _ _ g => GO.nilP Z Z Z g) Z (qL Z Z (fun _ _ g => fL b28 3 fl104_3 Z g) Z (GX.l2 Z (GO.stBox (j := 1) (vs := [.slice A192 (a1 ++ [(⟨x103, 2, (w64 (x103 + 1)).tmod 3, t185⟩ : Arr4)]).length c193]) ([.slice A29 t23.length c30, .map (some b31), I t25, .slice A192 (a1 ++ [(⟨x103, 2, (w64 (x103 + 1)).tmod 3, t185⟩ : Arr4)]).length c193]) HS Z Z Z Z Z (htN na102 Z) Z Z Z fun wd195 HS => GX.finZ Z (GX.nil (rN 3 Z (G.weak ?_ (f1 g1 (Nat.lt_succ_of_le (lR _)) (Nat.le_of_succ_le i1) _ _ _ _ _ _ H (HS.pk 10 [5, 1, 6, 2, 7, 8, 9] Z)))))))))
     exact ⟨Z, Z, Z, Z, Z, Z, Z, tv⟩
  refine G.weak ?_ (h1 K (lR _) _ _ _ _ _ _ H (HS.pk 9 [7, 3, 4, 5, 6, 0, 1] Z))
  exact ⟨Z, Z, Z, Z, Z, Z, Z, tv⟩
theorem impl_ends.calls {e_ r1 r2 : Int} (HS : St w0 w (L)) (H : impl_ends.f K e_ = some (r1, r2)) :
    Calls prog 150 #[I e_] w (impl_ends.post w0 L r1 r2) := by
  unfold impl_ends.f at H
  refine cG func150 Z ?_
  refine rN 7 Z ?_
  refine G.name (fun f1 g1 => ?_)
  have d1 : ∀ a1, a1 ≤ K → ∀ (e_2 x3 : Int) (w : World), impl_ends.l1 K a1 e_2 x3 = some (r1, r2) → St w0 w (L) → G prog 150 23 [(0, I e_2), (6, I x3)] f1 w (impl_ends.post w0 L r1 r2) := by
   intro a1
   induction a1 using Nat.strongRecOn with
   | _ a1 b1 =>
    intro e1 e_2 x3 w H HS
    cases a1 with
    | zero => rw [impl_ends.l1] at H; cases H
    | succ c1 =>
     rw [impl_ends.l1] at H
     subst g1
     refine rN 3 Z ?_
     rcases iS H with ⟨c6, H⟩ | ⟨c6, H⟩
     ·
      refine nB Z (tF c6) (rN 3 Z ?_)
      obtain ⟨rfl, rfl⟩ := some2 H
      exact G.ret2 _ _ func150 Z Z Z ⟨Z, HS⟩
     refine yB Z (tT c6) (rN 9 Z ?_)
     rcases iE H with ⟨c7, H⟩ | ⟨c7, H⟩
     ·
      refine yB Z (tT c7) (rN 2 Z ?_)
      obtain ⟨rfl, rfl⟩ := some2 H
      exact G.ret2 _ _ func150 Z Z Z ⟨Z, HS⟩
     refine nB Z (tF c7) (rN 4 Z (G.weak ?_ (b1 c1 (Nat.lt_succ_of_le (lR _)) (Nat.le_of_succ_le e1) _ _ _ H HS)))
     exact ⟨Z, Z, tv⟩
  refine G.weak ?_ (d1 K (lR _) _ _ _ H HS)
  exact ⟨Z, Z, tv⟩
theorem impl_edge.calls {a_ b_ r1 : Int} (HS : St w0 w (L)) (H : impl_edge.f K a_ b_ = some r1) :
    Calls prog 151 #[I a_, I b_] w (impl_edge.post w0 L r1) := by
  unfold impl_edge.f at H
  refine cG func151 Z ?_
  refine rN 5 Z ?_
  refine G.nameT (fun d1 c1 => ?_)
  have b1 : ∀ a1, a1 ≤ K → ∀ (a_2 b_3 : Int) (w : World), impl_edge.j1 K a1 a_2 b_3 = some r1 → St w0 w (L) → G prog 151 20 [(0, I a_2), (1, I b_3)] d1 w (impl_edge.post w0 L r1) := by
   intro a1 e1 a_2 b_3 w H HS
   cases a1 with
   | zero => rw [impl_edge.j1] at H; cases H
   | succ f1 =>
    rw [impl_edge.j1] at H
    subst c1
    refine sQ (rG (pS 4 Z (GO.quo Z Z Z (by decide) Z (pS 6 Z (nL ?_)))))
    obtain rfl := sI H
    exact rT _ func151 Z Z ⟨Z, HS⟩
  rcases iS H with ⟨c4, H⟩ | ⟨c4, H⟩
  ·
   refine nB Z (tF c4) (G.skip (G.weak ?_ (b1 K (lR _) _ _ _ H HS)))
   exact ⟨Z, Z, tv⟩
  refine yB Z (tT c4) (rN 1 Z (G.weak ?_ (b1 K (lR _) _ _ _ H HS)))
  exact ⟨Z, Z, tv⟩
theorem impl_union.calls {sets : List Int} {i k_ : Int} {r1 : List Int} (HS : St w0 w (Own (TInt .i64) 2 A_a c_a (fun _ => ()) sets :: L)) (H : impl_union.f K sets i k_ = some r1) :
    Calls prog 147 #[.slice A_a sets.length c_a, I i, I k_] w (impl_union.post w0 L A_a c_a r1) := by
  unfold impl_union.f at H
  refine cG func147 Z ?_
  refine sQ ?_
  obtain ⟨c1, H⟩ := iN H
  have h2 := ((RdIn.own (j := 0) Z) _ HS).2.2.1
  obtain ⟨c3, H⟩ := iN H
  have h4 := ((RdIn.own (j := 0) Z) _ HS).2.2.1
  refine G.lex mixed [0, 1, 2, 4, 5, 6, 3, 8, 7, 9] (by kernel_rfl) ?_
  replace HS := HS.drew
  refine GX.ps 2 Z (qL Z Z (fun _ _ g => GO.ix Z Z Z U56 sz2 h2 c1.1 c1.2 Z g) Z (GX.ps 2 Z (qL Z Z (fun _ _ g => GO.ix Z Z Z U56 sz2 h4 c3.1 c3.2 Z g) Z (GX.l1 Z Z Z (fun _ g => GO.ldRd (T := (TInt .i64)) (n := k_.toNat) (o := 0) HS (RdIn.own (j := 0) Z) Z Z (getD_some (d := 0) (ltN c1)) Z Z na2 Z g) Z (GX.ps 1 Z (GX.l1 Z Z Z (fun _ g => GO.ldRd (T := (TInt .i64)) (n := i.toNat) (o := 0) HS (RdIn.own (j := 0) Z) Z Z (getD_some (d := 0) (ltN c3)) Z Z na2 Z g) Z (GX.ps 1 Z (GX.nil (sQ (rG (mV Z (lS Z Z U56 Z (mV Z (nL ?_))))))))))))))
  refine rN 2 Z ?_
  refine G.name (fun g1 h1 => ?_)
  have f1 : ∀ a1, a1 ≤ K → ∀ (x9 : List Int) (x10 : Int) (w : World), impl_union.l1 K a1 sets i k_ x9 x10 = some r1 → St w0 w (Own (TInt .i64) 2 A_a c_a (fun _ => ()) x9 :: L) → G prog 147 33 [(0, .slice A_a x9.length c_a), (6, I (sets.getD k_.toNat 0)), (7, I (sets.getD i.toNat 0)), (18, .slice A_a x9.length c_a), (19, I (sets.length : Int)), (20, I x10)] g1 w (impl_union.post w0 L A_a c_a r1) := by
   intro a1
   induction a1 using Nat.strongRecOn with
   | _ a1 b1 =>
    intro e1 x9 x10 w H HS
    cases a1 with
    | zero => rw [impl_union.l1] at H; cases H
    | succ d1 =>
     rw [impl_union.l1] at H
     subst h1
     refine rN 3 Z ?_
     rcases iS H with ⟨c15, H⟩ | ⟨c15, H⟩
     ·
      refine nB Z (tF c15) (G.exit Z ?_)
      obtain rfl := sI H
      exact G.end0 func147 Z ⟨Z, HS⟩
     refine yB Z (tT c15) (rN 4 Z ?_)
     obtain ⟨c16, H⟩ := iN H
     refine rG (mV Z (GO.ix Z Z Z U56 sz2 ((RdIn.own (j := 0) Z) _ HS).2.2.1 c16.1 c16.2 Z (GO.ldRd (T := (TInt .i64)) (n := x10.toNat) (o := 0) HS (RdIn.own (j := 0) Z) Z Z (getD_some (d := 0) (ltN c16)) Z Z na2 Z (pS 2 Z (nL (rN 2 Z ?_))))))
     rcases iS H with ⟨c17, H⟩ | ⟨c17, H⟩
     ·
      refine nB Z (tF c17) (rN 4 Z (G.weak ?_ (b1 d1 (Nat.lt_succ_of_le (lR _)) (Nat.le_of_succ_le e1) _ _ _ H HS)))
      exact ⟨Z, Z, Z, Z, Z, Z, tv⟩
     refine yB Z (tT c17) (rG (pS 3 Z (GO.ix Z Z Z U56 sz2 ((RdIn.own (j := 0) Z) _ HS).2.2.1 c16.1 c16.2 Z (GO.stRow (T := (TInt .i64)) (j := 0) (n := x10.toNat) (o := 0) (vs := [I (sets.getD i.toNat 0)]) (sets.getD i.toNat 0) HS Z flat_flat Z Z Z Z (htN na2 Z) Z (getD_some (d := 0) (ltN c16)) Z Z fun wd18 HS => nL (G.len (t := 0) (m := (x9.set x10.toNat (sets.getD i.toNat 0)).length) Z (by simp only [List.length_set] <;> rfl) (G.len (t := 18) (m := (x9.set x10.toNat (sets.getD i.toNat 0)).length) Z (by simp only [List.length_set] <;> rfl) (rN 3 Z (G.weak ?_ (b1 d1 (Nat.lt_succ_of_le (lR _)) (Nat.le_of_succ_le e1) _ _ _ H HS)))))))))
     exact ⟨Z, Z, Z, Z, Z, Z, tv⟩
  refine G.weak ?_ (f1 K (lR _) _ _ _ H HS)
  exact ⟨Z, Z, Z, Z, Z, Z, tv⟩
theorem impl_Triangulation_edgeClasses_fn1_free.calls {tet f : Int} {h1 i1 : Int} {e1 c1 : Int} {f1 a1 : Int} {k1 : List Int} {d1 : Nat} {r1 : List Int} (HS : St w0 w (Box d1 56 [.slice A_a k1.length c_a] :: Own (TInt .i64) 2 A_a c_a (fun _ => ()) k1 :: L)) (H : impl_Triangulation_edgeClasses_fn1_free.f K tet f h1 i1 e1 c1 f1 a1 k1 = some r1) :
    Calls prog 149 #[I tet, I f, .agg [I h1, I i1].toArray, .agg [I e1, I c1, I f1, I a1].toArray, .pointer (some ⟨d1, 0, none⟩)] w (impl_Triangulation_edgeClasses_fn1_free.post w0 L d1 A_a c_a r1) := by
  unfold impl_Triangulation_edgeClasses_fn1_free.f at H
  refine cG func149 Z ?_
  refine sQ (rG (bA HS Z fun b1 wd2 HS => bA HS Z fun b3 wd4 HS => nL (rN 4 Z ?_)))
  refine G.name (fun q1 s1 => ?_)
  have p1 : ∀ g1, g1 ≤ K → ∀ (x24 : List Int) (x25 : Int) (w : World), impl_Triangulation_edgeClasses_fn1_free.l1 K g1 tet f h1 e1 c1 f1 a1 x24 x25 = some r1 → St w0 w (Box d1 56 [.slice A_a x24.length c_a] :: Own (TInt .i64) 2 A_a c_a (fun _ => ()) x24 :: Box b1 107 [I h1, I i1] :: Box b3 131 [I e1, I c1, I f1, I a1] :: L) → G prog 149 46 [(0, I tet), (1, I f), (4, .pointer (some ⟨d1, 0, none⟩)), (7, .pointer (some ⟨b1, 0, none⟩)), (8, .pointer (some ⟨b3, 0, none⟩)), (12, I x25)] q1 w (impl_Triangulation_edgeClasses_fn1_free.post w0 L d1 A_a c_a r1) := by
   intro g1
   induction g1 using Nat.strongRecOn with
   | _ g1 m1 =>
    intro o1 x24 x25 w H HS
    cases g1 with
    | zero => rw [impl_Triangulation_edgeClasses_fn1_free.l1] at H; cases H
    | succ n1 =>
     rw [impl_Triangulation_edgeClasses_fn1_free.l1] at H
     subst s1
     refine rN 3 Z ?_
     rcases iS H with ⟨c46, H⟩ | ⟨c46, H⟩
     ·
      refine nB Z (tF c46) (G.exit Z ?_)
      obtain rfl := sI H
      exact G.end0 func149 Z ⟨Z, (HS.pk 4 [0, 1] Z)⟩
     refine yB Z (tT c46) (rN 6 Z ?_)
     obtain ⟨t47, t48, h49, H⟩ := bind2_elim H
     refine rG (mV Z (fJ fok150 Z (impl_ends.calls HS  h49) (fun _ wd50 ⟨h51, HS⟩ => ⟨_, h51, (pS 5 Z (nL (sQ ?_)))⟩)))
     rcases iE H with ⟨c53, H⟩ | ⟨c53, H⟩
     ·
      refine rG (pS 4 Z (kN 23 Z (nT c53) (oF Z (oF Z (oF Z (GO.pickF Z Z Z Z Z (nL (rN 5 Z (G.weak ?_ (m1 n1 (Nat.lt_succ_of_le (lR _)) (Nat.le_of_succ_le o1) _ _ _ H HS))))))))))
      exact ⟨Z, Z, Z, Z, Z, Z, tv⟩
     refine rG (pS 4 Z (kN 23 Z (nF c53) (oN Z (mV Z (bK (oN Z (mV Z (bK (oN Z (GO.neq Z Z Z Z (bK (GO.pickT Z Z Z Z Z (nL ?_)))))))))))))
     rcases iE H with ⟨c54, H⟩ | ⟨c54, H⟩
     ·
      refine nB Z (nT c54) (rN 4 Z (G.weak ?_ (m1 n1 (Nat.lt_succ_of_le (lR _)) (Nat.le_of_succ_le o1) _ _ _ H HS)))
      exact ⟨Z, Z, Z, Z, Z, Z, tv⟩
     refine yB Z (nF c54) ?_
     obtain ⟨c55, H⟩ := iN H
     obtain ⟨c56, H⟩ := iN H
     obtain ⟨t57, h58, H⟩ := bI H
     obtain ⟨t61, h62, H⟩ := bI H
     obtain ⟨c63, H⟩ := iN H
     refine G.lexS mixed (fun w => St w0 w (Box d1 56 [.slice A_a x24.length c_a] :: Box b1 107 [I h1, I i1] :: Box b3 131 [I e1, I c1, I f1, I a1] :: L)) [0, 6, 10, 13] [1, 2, 3, 4, 5, 8, 9, 11, 12, 0, 6, 7, 10, 13, 14, 15, 16] [] (by kernel_rfl) (by kernel_rfl) (HS.drew.pk 4 [0, 2, 3] Z) ?_
     replace HS := HS.drew
     refine GX.ps 4 Z (qL Z Z (fun _ _ g => fL b1 0 fl107_0 Z g) Z (GX.ps 1 Z (qL Z Z (fun _ _ g => GO.ixW Z Z Z U131 sz2 c55 Z g) Z (GX.ps 1 Z (qL Z Z (fun _ _ g => GO.ixW Z Z Z U131 sz2 c56 Z g) Z (GX.ls Z Z Z (HS.pk 4 [0, 2, 3] Z) (fun _ HS _ g => lB 0 HS Z na56 Z g) Z (GX.ls Z Z Z (HS.pk 4 [0, 2, 3] Z) (fun _ HS _ g => lB 1 HS Z na2 Z g) Z (GX.ps 1 Z (GX.ls Z Z Z (HS.pk 4 [0, 2, 3] Z) (fun _ HS _ g => GO.ldW (j := 2) ([e1, c1, f1, a1] : List Int) HS Z Z Z c55 Z Z na2 Z g) Z (GX.ls Z Z Z (HS.pk 4 [0, 2, 3] Z) (fun _ HS _ g => GO.ldW (j := 2) ([e1, c1, f1, a1] : List Int) HS Z Z Z c56 Z Z na2 Z g) Z (GX.l2 Z (fJ fok151 Z (impl_edge.calls HS  h58) (fun _ wd59 ⟨h60, HS⟩ => ⟨_, h60, (GX.fin (HS.pk 4 [0, 2, 3] Z) (GX.ps 1 Z ?_))⟩)))))))))))))
     refine GX.l2 Z ?_
     replace HS := HS.pk 4 [1, 0, 2, 3] Z
     refine fJ fok147 Z (impl_union.calls HS  h62) (fun _ wd64 ⟨h65, HS⟩ => ⟨_, h65, (GX.fin (HS.pk 4 [1, 2, 3] Z) (GX.nil ?_))⟩)
     replace HS := HS.boxEq (j := 1) (cs' := [.slice A_a t61.length c_a]) Z (by simp only [List.length_set, c63] <;> rfl)
     refine rN 3 Z (G.weak ?_ (m1 n1 (Nat.lt_succ_of_le (lR _)) (Nat.le_of_succ_le o1) _ _ _ H (HS.pk 4 [1, 0, 2, 3] Z)))
     exact ⟨Z, Z, Z, Z, Z, Z, tv⟩
  refine G.weak ?_ (p1 K (lR _) _ _ _ H (HS.pk 4 [2, 3, 1, 0] Z))
  exact ⟨Z, Z, Z, Z, Z, Z, tv⟩
theorem impl_Triangulation_glued_Triangulation_edgeClasses_fn1.calls {a1 : List (List GFace)} {f1 : List Int} {y_a : Nat → (Ty.slice 107 T_GFace).Lay} {c1 : Nat} {r1 : List Int} (HS : St w0 w (Box c1 56 [.slice A_b f1.length c_b] :: Own (TInt .i64) 2 A_b c_b (fun _ => ()) f1 :: L)) (r_a : RdIn w0 L (Ty.slice 107 T_GFace) A_a c_a y_a a1) (H : impl_Triangulation_glued_Triangulation_edgeClasses_fn1.f K a1 f1 = some r1) :
    Calls prog 145 #[.agg [.slice A_a a1.length c_a].toArray, .func (.func 149) #[] #[.pointer (some ⟨c1, 0, none⟩)]] w (impl_Triangulation_glued_Triangulation_edgeClasses_fn1.post w0 L c1 A_b c_b r1) := by
  unfold impl_Triangulation_glued_Triangulation_edgeClasses_fn1.f at H
  refine cG func145 Z ?_
  refine sQ (rG (bA HS Z fun b1 wd2 HS => nL (sQ (rG (fL b1 0 fl31_0 Z (lB 0 HS Z na29 Z (lS Z Z U29 Z (mV Z (nL (rN 2 Z ?_))))))))))
  refine G.name (fun s1 t1 => ?_)
  have q1 : ∀ e1, e1 ≤ K → ∀ (x79 : List Int) (x80 : Int) (w : World), impl_Triangulation_glued_Triangulation_edgeClasses_fn1.l1 K e1 a1 x79 x80 = some r1 → St w0 w (Box c1 56 [.slice A_b x79.length c_b] :: Own (TInt .i64) 2 A_b c_b (fun _ => ()) x79 :: L) → G prog 145 36 [(1, .func (.func 149) #[] #[.pointer (some ⟨c1, 0, none⟩)]), (9, .slice A_a a1.length c_a), (10, I (a1.length : Int)), (11, I x80)] s1 w (impl_Triangulation_glued_Triangulation_edgeClasses_fn1.post w0 L c1 A_b c_b r1) := by
   intro e1
   induction e1 using Nat.strongRecOn with
   | _ e1 o1 =>
    intro u1 x79 x80 w H HS
    cases e1 with
    | zero => rw [impl_Triangulation_glued_Triangulation_edgeClasses_fn1.l1] at H; cases H
    | succ h1 =>
     rw [impl_Triangulation_glued_Triangulation_edgeClasses_fn1.l1] at H
     subst t1
     refine rN 3 Z ?_
     rcases iS H with ⟨c157, H⟩ | ⟨c157, H⟩
     ·
      refine nB Z (tF c157) (G.exit Z ?_)
      obtain rfl := sI H
      exact G.end0 func145 Z ⟨Z, HS⟩
     refine yB Z (tT c157) (rN 4 Z ?_)
     obtain ⟨c158, H⟩ := iN H
     refine rG (mV Z (GO.ix Z Z Z U29 sz77 ((rD 2 r_a) _ HS).2.2.1 c158.1 c158.2 Z (GO.ldRd (T := (Ty.slice 107 T_GFace)) (n := x80.toNat) (o := 0) HS (rD 2 r_a) Z Z (getD_some (d := []) (ltN c158)) Z Z na77 Z (pS 2 Z (nL (sQ (rG (mV Z (lS Z Z U77 Z (mV Z (nL (rN 2 Z ?_))))))))))))
     refine G.name (fun m1 n1 => ?_)
     have p1 : ∀ d1, d1 ≤ h1 → ∀ (x183 : List Int) (x184 : Int) (w : World), impl_Triangulation_glued_Triangulation_edgeClasses_fn1.l4 K d1 a1 x80 x183 x184 = some r1 → St w0 w (Box c1 56 [.slice A_b x183.length c_b] :: Own (TInt .i64) 2 A_b c_b (fun _ => ()) x183 :: L) → G prog 145 36 [(1, .func (.func 149) #[] #[.pointer (some ⟨c1, 0, none⟩)]), (4, I x80), (9, .slice A_a a1.length c_a), (10, I (a1.length : Int)), (11, I x80), (16, .slice ((y_a x80.toNat).A) (a1.getD x80.toNat []).length ((y_a x80.toNat).c)), (17, I ((a1.getD x80.toNat []).length : Int)), (18, I x184)] m1 w (impl_Triangulation_glued_Triangulation_edgeClasses_fn1.post w0 L c1 A_b c_b r1) := by
      intro d1
      induction d1 using Nat.strongRecOn with
      | _ d1 k1 =>
       intro i1 x183 x184 w H HS
       cases d1 with
       | zero => rw [impl_Triangulation_glued_Triangulation_edgeClasses_fn1.l4] at H; cases H
       | succ g1 =>
        rw [impl_Triangulation_glued_Triangulation_edgeClasses_fn1.l4] at H
        subst n1
        refine rN 3 Z ?_
        rcases iS H with ⟨c209, H⟩ | ⟨c209, H⟩
        ·
         refine nB Z (tF c209) (rN 4 Z (G.weak ?_ (o1 g1 (by omega) (by omega) _ _ _ H HS)))
         exact ⟨Z, Z, Z, Z, tv⟩
        refine yB Z (tT c209) (rN 4 Z ?_)
        obtain ⟨c210, H⟩ := iN H
        obtain ⟨e211, h212, H⟩ := bnd_elim H
        refine rG (mV Z (GO.ix Z Z Z U77 sz107 ((RdIn.elem (rD 2 r_a) c158.1 c158.2) _ HS).2.2.1 c210.1 c210.2 Z (GO.ldRdA (T := T_GFace) (n := x184.toNat) HS (RdIn.elem (rD 2 r_a) c158.1 c158.2) Z Z (getD_eq (ltN c210) h212) ag107 Z (GO.alloc HS Z zr107 Z Z fun b213 wd214 HS => aS Z (sW 0 HS Z ag107 Z fun wd215 HS => nL (sQ ?_))))))
        obtain ⟨t216, h217, H⟩ := bI H
        refine rG (lW 0 HS Z ag107 (fJ fok91 Z (impl_Face_isBoundary.calls HS  h217) (fun _ wd218 ⟨h219, HS⟩ => ⟨_, h219, (GO.not Z Z Z (nL ?_))⟩)))
        rcases iE H with ⟨c220, H⟩ | ⟨c220, H⟩
        ·
         refine nB Z (congrArg Bool.not c220) (rN 4 Z (G.weak ?_ (k1 g1 (Nat.lt_succ_of_le (lR _)) (Nat.le_of_succ_le i1) _ _ _ H (HS.pk 3 [1, 2] Z))))
         exact ⟨Z, Z, Z, Z, Z, Z, Z, Z, tv⟩
        refine yB Z (congrArg Bool.not (bnot_of c220)) ?_
        obtain ⟨t221, t222, t223, t224, h225, H⟩ := bind4_elim H
        obtain ⟨t228, h229, H⟩ := bI H
        obtain ⟨c230, H⟩ := iN H
        refine G.lexS mixed (fun w => St w0 w (Box b213 107 [I e211.Tet, I e211.Perm] :: L)) [3, 5] [0, 1, 2, 4, 3, 5, 6, 7] [] (by kernel_rfl) (by kernel_rfl) (HS.drew.pk 3 [0] Z) ?_
        replace HS := HS.drew
        refine GX.ps 3 Z (qL Z Z (fun _ _ g => fL b213 1 fl107_1 Z g) Z (GX.ls Z Z Z (HS.pk 3 [0] Z) (fun _ HS _ g => lW 0 HS Z ag107 g) Z (GX.ls Z Z Z (HS.pk 3 [0] Z) (fun _ HS _ g => lB 0 HS Z na2 Z g) Z (GX.l2 Z (fJ fok93 Z (impl_perm.calls HS  h225) (fun _ wd226 ⟨h227, HS⟩ => ⟨_, h227, (GX.fin (HS.pk 3 [0] Z) (GX.l2 Z ?_))⟩))))))
        replace HS := HS.pk 3 [1, 2, 0] Z
        refine GO.clo Z Z func149 fok149.2.1 fok149.2.2 Z Z (impl_Triangulation_edgeClasses_fn1_free.calls HS  h229) (fun _ wd231 ⟨h232, HS⟩ => ⟨_, h232, (GX.fin (HS.pk 3 [2] Z) (GX.nil (rN 3 Z (G.weak ?_ (k1 g1 (Nat.lt_succ_of_le (lR _)) (Nat.le_of_succ_le i1) _ _ _ H (HS.pk 3 [0, 1] Z))))))⟩)
        exact ⟨Z, Z, Z, Z, Z, Z, Z, Z, tv⟩
     refine G.weak ?_ (p1 h1 (lR _) _ _ _ H HS)
     exact ⟨Z, Z, Z, Z, Z, Z, Z, Z, tv⟩
  refine G.weak ?_ (q1 K (lR _) _ _ _ H (HS.pk 3 [1, 2] Z))
  exact ⟨Z, Z, Z, Z, tv⟩
theorem impl_numbered.calls {roots : List Int} {r1 : List Int} (HS : St w0 w (L)) (r_a : RdIn w0 L (TInt .i64) A_a c_a (fun _ => ()) roots) (H : impl_numbered.f K roots = some r1) :
    Calls prog 148 #[.slice A_a roots.length c_a] w (impl_numbered.post w0 L r1) := by
  unfold impl_numbered.f at H
  refine cG func148 Z ?_
  refine rN 3 Z (rG (GO.newMapJ .i64 .i64 HS Z Z fun b1 wd2 HS => aS Z (nL (rN 4 Z (rG (mV Z (lS Z Z U56 Z (mV Z (nL (rN 2 Z ?_))))))))))
  refine G.name (fun p1 q1 => ?_)
  have m1 : ∀ c1, c1 ≤ K → ∀ (f1 : List (Int × Int)) (A17 : Option Addr) (c18 : Nat) (a1 : List Int) (x20 : Int) (w : World), impl_numbered.l1 K c1 roots f1 a1 x20 = some r1 → St w0 w (MapJ b1 .i64 .i64 f1 :: Own (TInt .i64) 2 A17 c18 (fun _ => ()) a1 :: L) → G prog 148 36 [(3, .map (some b1)), (4, .slice A17 a1.length c18), (10, .slice A_a roots.length c_a), (11, I (roots.length : Int)), (12, I x20)] p1 w (impl_numbered.post w0 L r1) := by
   intro c1
   induction c1 using Nat.strongRecOn with
   | _ c1 i1 =>
    intro t1 f1 A17 c18 a1 x20 w H HS
    cases c1 with
    | zero => rw [impl_numbered.l1] at H; cases H
    | succ g1 =>
     rw [impl_numbered.l1] at H
     subst q1
     refine rN 3 Z ?_
     rcases iS H with ⟨c34, H⟩ | ⟨c34, H⟩
     ·
      refine nB Z (tF c34) (rN 3 Z ?_)
      obtain rfl := sI H
      exact rT _ func148 Z Z ⟨_, _, Z, (HS.pk 2 [1] Z)⟩
     refine yB Z (tT c34) (rN 4 Z ?_)
     obtain ⟨c35, H⟩ := iN H
     refine rG (GO.ix Z Z Z U56 sz2 ((rD 2 r_a) _ HS).2.2.1 c35.1 c35.2 Z (GO.ldRd (T := (TInt .i64)) (n := x20.toNat) (o := 0) HS (rD 2 r_a) Z Z (getD_some (d := 0) (ltN c35)) Z Z na2 Z (aS Z (nL (rN 2 Z (rG (pS 2 Z (GO.lookOkJ (j := 0) HS Z Z Z Z U189 U2 zr2 Z (pS 5 Z (nL (rN 2 Z ?_)))))))))))
     refine G.nameT (fun o1 n1 => ?_)
     have h1 : ∀ e1, e1 ≤ g1 → ∀ (d1 : List (Int × Int)) (w : World), impl_numbered.j4 K e1 roots a1 x20 d1 = some r1 → St w0 w (MapJ b1 .i64 .i64 d1 :: Own (TInt .i64) 2 A17 c18 (fun _ => ()) a1 :: L) → G prog 148 36 [(3, .map (some b1)), (4, .slice A17 a1.length c18), (6, I (roots.getD x20.toNat 0)), (10, .slice A_a roots.length c_a), (11, I (roots.length : Int)), (12, I x20)] o1 w (impl_numbered.post w0 L r1) := by
      intro e1 s1 d1 w H HS
      cases e1 with
      | zero => rw [impl_numbered.j4] at H; cases H
      | succ k1 =>
       rw [impl_numbered.j4] at H
       subst n1
       obtain ⟨c44, H⟩ := iN H
       refine rG (pS 3 Z (GO.lookJ (j := 0) HS Z Z Z Z U189 U2 zr2 Z (GO.buildS (el := 2) ([I ((mget d1 (roots.getD x20.toNat 0)).getD 0)]) HS Z Z (fun _ => by kernel_rfl) Z fun b39 wd40 HS => GO.app1 (T := (TInt .i64)) (j := 2) (jb := 0) ((mget d1 (roots.getD x20.toNat 0)).getD 0) HS Z Z flat_flat Z Z Z U56 inf2 Z Z Z c44 Z fun A42 c43 wd41 HS => aS Z (nL (rN 3 Z (G.weak ?_ (i1 k1 (by omega) (by omega) _ _ _ _ _ _ H (HS.pk 3 [1, 2] Z))))))))
       exact ⟨Z, Z, Z, Z, Z, tv⟩
     rcases iE H with ⟨c45, H⟩ | ⟨c45, H⟩
     ·
      refine nB Z (congrArg Bool.not c45) (G.skip (G.weak ?_ (h1 g1 (lR _) _ _ H HS)))
      exact ⟨Z, Z, Z, Z, Z, Z, tv⟩
     refine yB Z (congrArg Bool.not (bnot_of c45)) (rG (pS 3 Z (GO.lenMJ (j := 0) HS Z Z Z U189 Z (GO.putMJ (j := 0) HS Z Z Z Z Z U189 U2 fun wd46 HS => nL (G.weak ?_ (h1 g1 (lR _) _ _ H HS))))))
     exact ⟨Z, Z, Z, Z, Z, Z, tv⟩
  replace HS := HS.nilRow (TInt .i64) 2 (fun _ => ())
  refine G.weak ?_ (m1 K (lR _) _ _ _ _ _ _ H (HS.pk 2 [1, 0] Z))
  exact ⟨Z, Z, Z, Z, Z, tv⟩
theorem impl_Triangulation_edgeClasses.calls {a1 : List (List GFace)} {y_a : Nat → (Ty.slice 107 T_GFace).Lay} {r1 : List Int} (HS : St w0 w (L)) (r_a : RdIn w0 L (Ty.slice 107 T_GFace) A_a c_a y_a a1) (H : impl_Triangulation_edgeClasses.f K a1 = some r1) :
    Calls prog 124 #[.agg [.slice A_a a1.length c_a].toArray] w (impl_Triangulation_edgeClasses.post w0 L r1) := by
  unfold impl_Triangulation_edgeClasses.f at H
  refine cG func124 Z ?_
  refine sQ (rG (bA HS Z fun b1 wd2 HS => aS Z (nL (sQ ?_))))
  obtain ⟨t3, h4, H⟩ := bI H
  obtain ⟨t7, h8, H⟩ := bI H
  refine rG (fL b1 0 fl31_0 Z (lB 0 HS Z na29 Z (fJ fok49 Z (impl_size_impl_Face.calls HS (rD 1 r_a) h4) (fun _ wd5 ⟨h6, HS⟩ => ⟨_, h6, (GO.mul Z Z Z Z (fJ fok144 Z (impl_counting.calls HS  h8) (fun _ wd11 ⟨A9, c10, h12, HS⟩ => ⟨_, h12, (GO.alloc HS Z zr56 Z Z fun b13 wd14 HS => GO.stBox (j := 0) (vs := [.slice A9 t7.length c10]) ([.slice A9 t7.length c10]) HS Z Z Z Z Z (htN na56 Z) Z Z Z fun wd15 HS => nL (sQ ?_))⟩)))⟩))))
  obtain ⟨t16, h17, H⟩ := bI H
  obtain ⟨c18, H⟩ := iN H
  refine rG (lW 2 HS Z ag31 (GO.mkFunc Z Z Z Z ?_))
  replace HS := HS.pk 3 [0, 1, 2] Z
  refine fJ fok145 Z (impl_Triangulation_glued_Triangulation_edgeClasses_fn1.calls HS (rD 1 r_a) h17) (fun _ wd19 ⟨h20, HS⟩ => ⟨_, h20, (nL (sQ ?_))⟩)
  obtain ⟨t21, h22, H⟩ := bI H
  refine rG (lB 0 HS Z na56 Z (fJ fok148 Z (impl_numbered.calls HS (RdIn.own (j := 1) Z) h22) (fun _ wd25 ⟨A23, c24, h26, HS⟩ => ⟨_, h26, (aS Z (nL ?_))⟩)))
  obtain rfl := sI H
  exact rT _ func124 Z Z ⟨_, _, Z, (HS.pk 4 [0] Z)⟩
theorem slices_Max_int64_int64.calls {x : List Int} {r1 : Int} (HS : St w0 w (L)) (r_a : RdIn w0 L (TInt .i64) A_a c_a (fun _ => ()) x) (H : slices_Max_int64_int64.f K x = some r1) :
    Calls prog 168 #[.slice A_a x.length c_a] w (slices_Max_int64_int64.post w0 L r1) := by
  unfold slices_Max_int64_int64.f at H
  refine cG func168 Z ?_
  refine rN 4 Z (rG (mV Z (lS Z Z U56 Z (GO.lss Z Z Z Z (nL ?_)))))
  rcases iE H with ⟨c2, H⟩ | ⟨c2, H⟩
  ·
   refine yB Z (tT c2) ?_
   cases H
  refine nB Z (tF c2) (rN 2 Z ?_)
  obtain ⟨c3, H⟩ := iN H
  refine rG (mV Z (GO.ix Z Z Z U56 sz2 (r_a _ HS).2.2.1 c3.1 c3.2 Z (GO.ldRd (T := (TInt .i64)) (n := 0) (o := 0) HS r_a Z Z (getD_some (d := 0) (ltN c3)) Z Z na2 Z (aS Z (nL (rN 5 Z ?_))))))
  refine G.name (fun c1 b1 => ?_)
  have d1 : ∀ a1, a1 ≤ K → ∀ (m_6 i_7 : Int) (w : World), slices_Max_int64_int64.l2 K a1 x m_6 i_7 = some r1 → St w0 w (L) → G prog 168 25 [(0, .slice A_a x.length c_a), (3, I m_6), (4, I i_7)] c1 w (slices_Max_int64_int64.post w0 L r1) := by
   intro a1
   induction a1 using Nat.strongRecOn with
   | _ a1 e1 =>
    intro g1 m_6 i_7 w H HS
    cases a1 with
    | zero => rw [slices_Max_int64_int64.l2] at H; cases H
    | succ f1 =>
     rw [slices_Max_int64_int64.l2] at H
     subst b1
     refine rN 2 Z (rG (pS 2 Z (lS Z Z U56 Z (GO.lss Z Z Z Z (nL ?_)))))
     rcases iS H with ⟨c10, H⟩ | ⟨c10, H⟩
     ·
      refine nB Z (tF c10) (rN 3 Z ?_)
      obtain rfl := sI H
      exact rT _ func168 Z Z ⟨Z, HS⟩
     refine yB Z (tT c10) (rN 3 Z ?_)
     obtain ⟨c11, H⟩ := iN H
     refine rG (pS 3 Z (GO.ix Z Z Z U56 sz2 (r_a _ HS).2.2.1 c11.1 c11.2 Z (GO.ldRd (T := (TInt .i64)) (n := i_7.toNat) (o := 0) HS r_a Z Z (getD_some (d := 0) (ltN c11)) Z Z na2 Z (GO.max2 Z Z Z Z (aS Z (nL (rN 3 Z (G.weak ?_ (e1 f1 (Nat.lt_succ_of_le (lR _)) (Nat.le_of_succ_le g1) _ _ _ H HS)))))))))
     exact ⟨Z, Z, Z, tv⟩
  refine G.weak ?_ (d1 K (lR _) _ _ _ H HS)
  exact ⟨Z, Z, Z, tv⟩
theorem impl_classCount.calls {classes : List Int} {r1 : Int} (HS : St w0 w (L)) (r_a : RdIn w0 L (TInt .i64) A_a c_a (fun _ => ()) classes) (H : impl_classCount.f K classes = some r1) :
    Calls prog 160 #[.slice A_a classes.length c_a] w (impl_classCount.post w0 L r1) := by
  unfold impl_classCount.f at H
  refine cG func160 Z ?_
  refine rN 4 Z (rG (mV Z (lS Z Z U56 Z (GO.eql Z Z Z Z (nL ?_)))))
  rcases iE H with ⟨c1, H⟩ | ⟨c1, H⟩
  ·
   refine yB Z (tT c1) (rN 2 Z ?_)
   obtain rfl := sI H
   exact rT _ func160 Z Z ⟨Z, HS⟩
  refine nB Z (tF c1) (rN 2 Z ?_)
  obtain ⟨t2, h3, H⟩ := bI H
  refine rG (mV Z (fJ fok168 Z (slices_Max_int64_int64.calls HS r_a h3) (fun _ wd4 ⟨h5, HS⟩ => ⟨_, h5, (pS 2 Z (nL ?_))⟩)))
  obtain rfl := sI H
  exact rT _ func160 Z Z ⟨Z, HS⟩
theorem impl_sign.calls {x r1 : Int} (HS : St w0 w (L)) (H : impl_sign.f x = some r1) :
    Calls prog 171 #[I x] w (impl_sign.post w0 L r1) := by
  unfold impl_sign.f at H
  refine cG func171 Z ?_
  refine rN 5 Z ?_
  rcases iE H with ⟨c1, H⟩ | ⟨c1, H⟩
  ·
   refine yB Z (tT c1) (rN 2 Z ?_)
   obtain rfl := sI H
   exact rT _ func171 Z Z ⟨Z, HS⟩
  refine nB Z (tF c1) (rN 3 Z ?_)
  obtain rfl := sI H
  exact rT _ func171 Z Z ⟨Z, HS⟩
theorem impl_Triangulation_edgeSigns_fn1_free.calls {next same : Int} {d1 a1 : List Int} {b1 : Int} {n1 : List (Int × Bool)} {e1 : List Int} {i1 : Nat} {A_a : Option Addr} {c_a h1 : Nat} {A_b : Option Addr} {c_b f1 : Nat} {m1 k1 g1 : Nat} {r1 r2 : List Int} {r3 : List (Int × Bool)} (HS : St w0 w (Box i1 56 [.slice A_a d1.length c_a] :: Own (TInt .i64) 2 A_a c_a (fun _ => ()) d1 :: Box h1 56 [.slice A_b a1.length c_b] :: Own (TInt .i64) 2 A_b c_b (fun _ => ()) a1 :: Box f1 3 [I b1] :: Box m1 199 [.map (some k1)] :: MapG k1 (Value.int .i64) Value.bool n1 :: Box g1 56 [.slice A_c e1.length c_c] :: L)) (r_c : RdIn w0 L (TInt .i64) A_c c_c (fun _ => ()) e1) (H : impl_Triangulation_edgeSigns_fn1_free.f next same d1 a1 b1 n1 e1 = some (r1, r2, r3)) :
    Calls prog 170 #[I next, I same, .pointer (some ⟨i1, 0, none⟩), .pointer (some ⟨h1, 0, none⟩), .pointer (some ⟨f1, 0, none⟩), .pointer (some ⟨m1, 0, none⟩), .pointer (some ⟨g1, 0, none⟩)] w (impl_Triangulation_edgeSigns_fn1_free.post w0 L b1 e1 i1 A_a c_a h1 f1 m1 k1 g1 A_c c_c r1 r2 r3) := by
  unfold impl_Triangulation_edgeSigns_fn1_free.f at H
  refine cG func170 Z ?_
  refine sQ ?_
  obtain ⟨c1, H⟩ := iN H
  have h2 := ((RdIn.own (j := 3) Z) _ HS).2.2.1
  obtain ⟨c3, H⟩ := iN H
  have h4 := ((RdIn.own (j := 1) Z) _ HS).2.2.1
  refine G.lex mixed [7, 0, 1, 2, 3, 4, 5, 6, 8, 9] (by kernel_rfl) ?_
  replace HS := HS.drew
  refine GX.ps 1 Z (GX.l1 Z Z Z (fun _ g => lB 0 HS Z na56 Z g) Z (GX.l1 Z Z Z (fun _ g => lB 2 HS Z na56 Z g) Z (GX.l1 Z Z Z (fun _ g => lB 4 HS Z na3 Z g) Z (qL Z Z (fun _ _ g => GO.ix Z Z Z U56 sz2 h2 c1.1 c1.2 Z g) Z (GX.l1 Z Z Z (fun _ g => GO.ldRd (T := (TInt .i64)) (n := b1.toNat) (o := 0) HS (RdIn.own (j := 3) Z) Z Z (getD_some (d := 0) (ltN c1)) Z Z na2 Z g) Z (qL Z Z (fun _ _ g => GO.ix Z Z Z U56 sz2 h4 c3.1 c3.2 Z g) Z (GX.l1 Z Z Z (fun _ g => GO.ldRd (T := (TInt .i64)) (n := (a1.getD b1.toNat 0).toNat) (o := 0) HS (RdIn.own (j := 1) Z) Z Z (getD_some (d := 0) (ltN c3)) Z Z na2 Z g) Z (GX.ps 2 Z (GX.nil (sQ ?_))))))))))
  obtain ⟨c5, H⟩ := iN H
  refine rG (lB 0 HS Z na56 Z (mV Z (GO.ix Z Z Z U56 sz2 ((RdIn.own (j := 1) Z) _ HS).2.2.1 c5.1 c5.2 Z (GO.ldRd (T := (TInt .i64)) (n := next.toNat) (o := 0) HS (RdIn.own (j := 1) Z) Z Z (getD_some (d := 0) (ltN c5)) Z Z na2 Z (nL (rN 3 Z ?_))))))
  rcases iS H with ⟨c6, H⟩ | ⟨c6, H⟩
  ·
   refine nB Z (tF c6) (sQ (rG (mV Z (GO.neg Z Z Z (pS 2 Z (nL ?_))))))
   rcases iS H with ⟨c15, H⟩ | ⟨c15, H⟩
   ·
    refine nB Z (tF c15) (rN 2 Z ?_)
    obtain ⟨rfl, rfl, rfl⟩ := some3 H
    exact G.end0 func170 Z ⟨_, _, Z, HS⟩
   refine yB Z (tT c15) ?_
   obtain ⟨c16, H⟩ := iN H
   refine G.lex mixed [2, 0, 1, 3, 4, 5] (by kernel_rfl) ?_
   replace HS := HS.drew
   refine GX.ps 1 Z (GX.l1 Z Z Z (fun _ g => lB 5 HS Z na199 Z g) Z (GX.l1 Z Z Z (fun _ g => lB 7 HS Z na56 Z g) Z (qL Z Z (fun _ _ g => GO.ix Z Z Z U56 sz2 ((rD 8 r_c) _ HS).2.2.1 c16.1 c16.2 Z g) Z (GX.l1 Z Z Z (fun _ g => GO.ldRd (T := (TInt .i64)) (n := next.toNat) (o := 0) HS (rD 8 r_c) Z Z (getD_some (d := 0) (ltN c16)) Z Z na2 Z g) Z (GX.l2 Z (GO.putMG (e1.getD next.toNat 0) true kok2 HS (j := 6) Z Z Z Z Z U199 fun wd17 HS => GX.fin tv (GX.nil (G.blockEnd ?_))))))))
   obtain ⟨rfl, rfl, rfl⟩ := some3 H
   exact G.end0 func170 Z ⟨_, _, Z, HS⟩
  refine yB Z (tT c6) (sQ (rG (lB 0 HS Z na56 Z (pS 2 Z (GO.ix Z Z Z U56 sz2 ((RdIn.own (j := 1) Z) _ HS).2.2.1 c5.1 c5.2 Z (GO.stRow (T := (TInt .i64)) (j := 1) (n := next.toNat) (o := 0) (vs := [I (w64 ((d1.getD ((a1.getD b1.toNat 0).toNat) 0) * same))]) (w64 ((d1.getD ((a1.getD b1.toNat 0).toNat) 0) * same)) HS Z flat_flat Z Z Z Z (htN na2 Z) Z (getD_some (d := 0) (ltN c5)) Z Z fun wd7 HS => nL ?_))))))
  replace HS := HS.boxEq (j := 0) (cs' := [.slice A_a (d1.set next.toNat (w64 ((d1.getD ((a1.getD b1.toNat 0).toNat) 0) * same))).length c_a]) Z (by simp only [List.length_set] <;> rfl)
  obtain ⟨c13, H⟩ := iN H
  refine rG (lB 2 HS Z na56 Z (mV Z (GO.buildS (el := 2) ([I next]) HS Z Z (fun _ => by kernel_rfl) Z fun b8 wd9 HS => GO.app1 (T := (TInt .i64)) (j := 4) (jb := 0) next HS Z Z flat_flat Z Z Z U56 inf2 Z Z Z c13 Z fun A11 c12 wd10 HS => GO.stBox (j := 3) (vs := [.slice A11 (a1 ++ [next]).length c12]) ([.slice A11 (a1 ++ [next]).length c12]) HS Z Z Z Z Z (htN na56 Z) Z Z Z fun wd14 HS => nL (G.blockEnd ?_))))
  obtain ⟨rfl, rfl, rfl⟩ := some3 H
  exact G.end0 func170 Z ⟨_, _, Z, (HS.pk 9 [1, 2, 3, 4, 5, 6, 7, 8] Z)⟩
end Go.Proofs.YtbjfinndngafoaaGreat
