/-
  The walks through the functions: a call comes to what its list function says.
-/
import Derived.Test.YthjomdggdaocgaaGreatDoorAlF
import Derived.Test.YthjomdggdaocgaaGreatDoorAlW1
set_option linter.unusedVariables false
set_option linter.unusedSimpArgs false
namespace Go.Proofs.YthjomdggdaocgaaGreatDoor
open Go.RowKit
open Tryz
variable {w0 w : World} {L : List HObj} {K : Nat}
set_option maxRecDepth 20000
set_option maxHeartbeats 40000000
theorem spec_l25Parts.calls {c1 : List GCrossing} {d1 : Int} {A_a : Option Addr} {c_a : Nat} {r1 : List Int} (HS : St w0 w (L)) (r_a : RdIn w0 L T_GCrossing A_a c_a (fun _ => ()) c1) (H : spec_l25Parts.f K c1 d1 = some r1) :
    Calls prog 150 #[.agg [.slice A_a c1.length c_a, I d1].toArray] w (spec_l25Parts.post w0 L r1) := by
  unfold spec_l25Parts.f at H
  refine cG func150 Z ?_
  refine sQ (rG (GO.box (cs := [.slice A_a c1.length c_a, I d1]) HS Z Z Z Z fun b1 wd2 HS => aS Z (nL (sQ (rG (GO.buildS (el := 2) ([]) HS Z Z (fun _ => by kernel_rfl) Z fun b3 wd4 HS => ?_))))))
  replace HS := HS.boxRow (T := (TInt .i64)) (j := 0) Z flat_flat (fun _ => ()) ([] : List Int) Z (bndL Z)
  refine GO.lenC (t := 13) (m := ([] : List Int).length) (c' := ([] : List Int).length) Z Z Z (aS Z (nL (rN 5 Z ?_)))
  refine G.name (fun g2 b2 => ?_)
  have c2 : ∀ f1, f1 ≤ K → ∀ (A101 : Option Addr) (c102 : Nat) (n1 : List Int) (m1 : Int) (w : World), spec_l25Parts.l1 K f1 c1 d1 n1 m1 = some r1 → St w0 w (Box b1 40 [.slice A_a c1.length c_a, I d1] :: Own (TInt .i64) 2 A101 c102 (fun _ => ()) n1 :: L) → G prog 150 74 [(1, .pointer (some ⟨b1, 0, none⟩)), (3, .slice A101 n1.length c102), (4, I m1)] g2 w (spec_l25Parts.post w0 L r1) := by
   intro f1
   induction f1 using Nat.strongRecOn with
   | _ f1 z1 =>
    intro a2 A101 c102 n1 m1 w H HS
    cases f1 with
    | zero => rw [spec_l25Parts.l1] at H; cases H
    | succ o1 =>
     rw [spec_l25Parts.l1] at H
     subst b2
     refine rN 2 Z (rG (mV Z (fL b1 0 fl40_0 Z (lB 0 HS Z na38 Z (lS Z Z underlying38 Z (GO.lss Z Z Z Z (nL ?_)))))))
     rcases iE H with ⟨c201, H⟩ | ⟨c201, H⟩
     ·
      refine yB Z (tT c201) (rN 3 Z ?_)
      obtain ⟨c207, H⟩ := iN H
      refine rG (pS 2 Z (GO.buildS (el := 2) ([I m1]) HS Z Z (fun _ => by kernel_rfl) Z fun b202 wd203 HS => GO.app1 (T := (TInt .i64)) (j := 2) (jb := 0) m1 HS Z Z flat_flat Z Z Z underlying41 inf2 Z Z Z c207 Z fun A205 c206 wd204 HS => aS Z (nL (rN 3 Z (G.weak ?_ (z1 o1 (Nat.lt_succ_of_le (lR _)) (Nat.le_of_succ_le a2) _ _ _ _ _ H (HS.pk 3 [1, 2] Z)))))))
      exact ⟨Z, Z, Z, tv⟩
     refine nB Z (tF c201) (rN 6 Z ?_)
     refine G.name (fun y1 v1 => ?_)
     have f2 : ∀ e1, e1 ≤ o1 → ∀ (a1 : List Int) (k1 : Int) (w : World), spec_l25Parts.l10 K e1 c1 d1 a1 k1 = some r1 → St w0 w (Box b1 40 [.slice A_a c1.length c_a, I d1] :: Own (TInt .i64) 2 A101 c102 (fun _ => ()) a1 :: L) → G prog 150 74 [(1, .pointer (some ⟨b1, 0, none⟩)), (3, .slice A101 a1.length c102), (5, I k1)] y1 w (spec_l25Parts.post w0 L r1) := by
      intro e1
      induction e1 using Nat.strongRecOn with
      | _ e1 d2 =>
       intro h2 a1 k1 w H HS
       cases e1 with
       | zero => rw [spec_l25Parts.l10] at H; cases H
       | succ s1 =>
        rw [spec_l25Parts.l10] at H
        subst v1
        refine rN 2 Z (rG (mV Z (fL b1 0 fl40_0 Z (lB 0 HS Z na38 Z (lS Z Z underlying38 Z (pS 2 Z (nL ?_)))))))
        rcases iE H with ⟨c268, H⟩ | ⟨c268, H⟩
        ·
         refine yB Z (tT c268) (rN 4 Z ?_)
         obtain ⟨t269, t270, h271, H⟩ := bind2_elim H
         refine rG (GO.ldBoxA (j := 0) ([.slice A_a c1.length c_a, I d1]) HS Z Z Z Z ag40 Z (mV Z (fN Z func174 fok174.1 fok174.2 Z Z (spec_l25Place.calls HS (rD 2 r_a) h271) (fun _ wd272 ⟨h273, HS⟩ => ⟨_, h273, (pS 5 Z (nL (sQ ?_)))⟩))))
         obtain ⟨t274, t275, h276, H⟩ := bind2_elim H
         refine rG (GO.ldBoxA (j := 0) ([.slice A_a c1.length c_a, I d1]) HS Z Z Z Z ag40 Z (mV Z (fN Z func174 fok174.1 fok174.2 Z Z (spec_l25Place.calls HS (rD 2 r_a) h276) (fun _ wd277 ⟨h278, HS⟩ => ⟨_, h278, (pS 5 Z (nL (sQ ?_)))⟩))))
         obtain ⟨c279, H⟩ := iN H
         have h280 := ((RdIn.own (j := 1) Z) _ HS).2.2.1
         obtain ⟨c281, H⟩ := iN H
         have h282 := ((RdIn.own (j := 1) Z) _ HS).2.2.1
         refine G.lex mixed [0, 1, 2, 4, 5, 6, 3, 8, 7, 9] (by kernel_rfl) ?_
         replace HS := HS.drew
         refine GX.ps 2 Z (qL Z Z (fun _ _ g => GO.ix Z Z Z underlying41 sz2 h280 c279.1 c279.2 Z g) Z (GX.ps 2 Z (qL Z Z (fun _ _ g => GO.ix Z Z Z underlying41 sz2 h282 c281.1 c281.2 Z g) Z (GX.l1 Z Z Z (fun _ g => GO.ldRd (T := (TInt .i64)) (n := t269.toNat) (o := 0) HS (RdIn.own (j := 1) Z) Z Z (getD_some (d := 0) (ltN c279)) Z Z na2 Z g) Z (GX.ps 1 Z (GX.l1 Z Z Z (fun _ g => GO.ldRd (T := (TInt .i64)) (n := t274.toNat) (o := 0) HS (RdIn.own (j := 1) Z) Z Z (getD_some (d := 0) (ltN c281)) Z Z na2 Z g) Z (GX.ps 1 Z (GX.nil (rN 4 Z ?_)))))))))
         refine G.name (fun x1 e2 => ?_)
         have u1 : ∀ g1, g1 ≤ s1 → ∀ (i1 : List Int) (h1 : Int) (w : World), spec_l25Parts.l13 K g1 c1 d1 a1 k1 t269 t274 i1 h1 = some r1 → St w0 w (Box b1 40 [.slice A_a c1.length c_a, I d1] :: Own (TInt .i64) 2 A101 c102 (fun _ => ()) i1 :: L) → G prog 150 74 [(1, .pointer (some ⟨b1, 0, none⟩)), (3, .slice A101 i1.length c102), (5, I k1), (10, I (a1.getD t269.toNat 0)), (11, I (a1.getD t274.toNat 0)), (12, I h1)] x1 w (spec_l25Parts.post w0 L r1) := by
          intro g1
          induction g1 using Nat.strongRecOn with
          | _ g1 t1 =>
           intro q1 i1 h1 w H HS
           cases g1 with
           | zero => rw [spec_l25Parts.l13] at H; cases H
           | succ p1 =>
            rw [spec_l25Parts.l13] at H
            subst e2
            refine rN 2 Z (rG (pS 2 Z (lS Z Z underlying41 Z (GO.lss Z Z Z Z (nL ?_)))))
            rcases iE H with ⟨c293, H⟩ | ⟨c293, H⟩
            ·
             refine yB Z (tT c293) (rN 4 Z ?_)
             obtain ⟨c294, H⟩ := iN H
             refine rG (pS 2 Z (GO.ix Z Z Z underlying41 sz2 ((RdIn.own (j := 1) Z) _ HS).2.2.1 c294.1 c294.2 Z (GO.ldRd (T := (TInt .i64)) (n := h1.toNat) (o := 0) HS (RdIn.own (j := 1) Z) Z Z (getD_some (d := 0) (ltN c294)) Z Z na2 Z (pS 2 Z (GO.max2 Z Z Z Z (GO.eql Z Z Z Z (nL ?_)))))))
             rcases iE H with ⟨c295, H⟩ | ⟨c295, H⟩
             ·
              refine yB Z (tT c295) (rG (pS 4 Z (GO.min2 Z Z Z Z (GO.ix Z Z Z underlying41 sz2 ((RdIn.own (j := 1) Z) _ HS).2.2.1 c294.1 c294.2 Z (GO.stRow (T := (TInt .i64)) (j := 1) (n := h1.toNat) (o := 0) (vs := [I (if a1.getD t274.toNat 0 < a1.getD t269.toNat 0 then a1.getD t274.toNat 0 else a1.getD t269.toNat 0)]) (if a1.getD t274.toNat 0 < a1.getD t269.toNat 0 then a1.getD t274.toNat 0 else a1.getD t269.toNat 0) HS Z flat_flat Z Z Z Z (htN na2 Z) Z (getD_some (d := 0) (ltN c294)) Z Z fun wd296 HS => nL (G.len (t := 3) (m := (i1.set h1.toNat (if a1.getD t274.toNat 0 < a1.getD t269.toNat 0 then a1.getD t274.toNat 0 else a1.getD t269.toNat 0)).length) Z (by simp only [List.length_set] <;> rfl) (rN 3 Z (G.weak ?_ (t1 p1 (Nat.lt_succ_of_le (lR _)) (Nat.le_of_succ_le q1) _ _ _ H HS)))))))))
              exact ⟨Z, Z, Z, Z, Z, Z, tv⟩
             refine nB Z (tF c295) (rN 4 Z (G.weak ?_ (t1 p1 (Nat.lt_succ_of_le (lR _)) (Nat.le_of_succ_le q1) _ _ _ H HS)))
             exact ⟨Z, Z, Z, Z, Z, Z, tv⟩
            refine nB Z (tF c293) (rN 4 Z (G.weak ?_ (d2 p1 (by omega) (by omega) _ _ _ H HS)))
            exact ⟨Z, Z, Z, tv⟩
         refine G.weak ?_ (u1 s1 (lR _) _ _ _ H HS)
         exact ⟨Z, Z, Z, Z, Z, Z, tv⟩
        refine nB Z (tF c268) (rN 3 Z ?_)
        obtain rfl := sI H
        exact rT _ func150 Z Z ⟨_, _, Z, (HS.pk 2 [1] Z)⟩
     refine G.weak ?_ (f2 o1 (lR _) _ _ _ H HS)
     exact ⟨Z, Z, Z, tv⟩
  refine G.weak ?_ (c2 K (lR _) _ _ _ _ _ H (HS.pk 2 [1, 0] Z))
  exact ⟨Z, Z, Z, tv⟩
theorem spec_l25PartCount.calls {c1 : List GCrossing} {d1 : Int} {A_a : Option Addr} {c_a : Nat} {r1 : Int} (HS : St w0 w (L)) (r_a : RdIn w0 L T_GCrossing A_a c_a (fun _ => ()) c1) (H : spec_l25PartCount.f K c1 d1 = some r1) :
    Calls prog 127 #[.agg [.slice A_a c1.length c_a, I d1].toArray] w (spec_l25PartCount.post w0 L r1) := by
  unfold spec_l25PartCount.f at H
  refine cG func127 Z ?_
  refine sQ (rG (GO.box (cs := [.slice A_a c1.length c_a, I d1]) HS Z Z Z Z fun b1 wd2 HS => aS Z (nL (rN 3 Z ?_))))
  obtain ⟨t3, h4, H⟩ := bI H
  refine rG (GO.ldBoxA (j := 0) ([.slice A_a c1.length c_a, I d1]) HS Z Z Z Z ag40 Z (fN Z func150 fok150.1 fok150.2 Z Z (spec_l25Parts.calls HS (rD 1 r_a) h4) (fun _ wd7 ⟨A5, c6, h8, HS⟩ => ⟨_, h8, (aS Z (nL (rN 5 Z ?_)))⟩)))
  refine G.name (fun n1 k1 => ?_)
  have m1 : ∀ a1, a1 ≤ K → ∀ (f1 e1 : Int) (w : World), spec_l25PartCount.l1 K a1 t3 f1 e1 = some r1 → St w0 w (Own (TInt .i64) 2 A5 c6 (fun _ => ()) t3 :: L) → G prog 127 23 [(3, I f1), (4, .slice A5 t3.length c6), (5, I e1)] n1 w (spec_l25PartCount.post w0 L r1) := by
   intro a1
   induction a1 using Nat.strongRecOn with
   | _ a1 g1 =>
    intro i1 f1 e1 w H HS
    cases a1 with
    | zero => rw [spec_l25PartCount.l1] at H; cases H
    | succ h1 =>
     rw [spec_l25PartCount.l1] at H
     subst k1
     refine rN 2 Z (rG (pS 2 Z (lS Z Z underlying41 Z (GO.lss Z Z Z Z (nL ?_)))))
     rcases iE H with ⟨c17, H⟩ | ⟨c17, H⟩
     ·
      refine yB Z (tT c17) (rN 4 Z ?_)
      obtain ⟨c18, H⟩ := iN H
      refine rG (pS 2 Z (GO.ix Z Z Z underlying41 sz2 ((RdIn.own (j := 0) Z) _ HS).2.2.1 c18.1 c18.2 Z (GO.ldRd (T := (TInt .i64)) (n := e1.toNat) (o := 0) HS (RdIn.own (j := 0) Z) Z Z (getD_some (d := 0) (ltN c18)) Z Z na2 Z (pS 2 Z (nL ?_)))))
      rcases iE H with ⟨c19, H⟩ | ⟨c19, H⟩
      ·
       refine yB Z (tT c19) (rN 4 Z (G.weak ?_ (g1 h1 (Nat.lt_succ_of_le (lR _)) (Nat.le_of_succ_le i1) _ _ _ H HS)))
       exact ⟨Z, Z, Z, tv⟩
      refine nB Z (tF c19) (rN 4 Z (G.weak ?_ (g1 h1 (Nat.lt_succ_of_le (lR _)) (Nat.le_of_succ_le i1) _ _ _ H HS)))
      exact ⟨Z, Z, Z, tv⟩
     refine nB Z (tF c17) (rN 3 Z ?_)
     obtain rfl := sI H
     exact rT _ func127 Z Z ⟨Z, (HS.pk 1 [] Z)⟩
  refine G.weak ?_ (m1 K (lR _) _ _ _ H (HS.pk 2 [0] Z))
  exact ⟨Z, Z, Z, tv⟩
theorem spec_IsDiagram.calls {a1 : List GCrossing} {c1 : Int} {A_a : Option Addr} {c_a : Nat} {r1 : Bool} (HS : St w0 w (L)) (r_a : RdIn w0 L T_GCrossing A_a c_a (fun _ => ()) a1) (H : spec_IsDiagram.f K a1 c1 = some r1) :
    Calls prog 95 #[.agg [.slice A_a a1.length c_a, I c1].toArray] w (spec_IsDiagram.post w0 L r1) := by
  unfold spec_IsDiagram.f at H
  refine cG func95 Z ?_
  refine sQ (rG (GO.box (cs := [.slice A_a a1.length c_a, I c1]) HS Z Z Z Z fun b1 wd2 HS => aS Z (nL (rN 2 Z ?_))))
  rcases iE H with ⟨c13, H⟩ | ⟨c13, H⟩
  ·
   refine rG (fL b1 0 fl40_0 Z (lB 0 HS Z na38 Z (lS Z Z underlying38 Z (pS 2 Z (kN 7 Z (tT c13) (oF Z (oF Z (oF Z (oF Z (pS 2 Z (oF Z (oF Z (oF Z (GO.pickT Z Z Z Z Z ?_))))))))))))))
   refine nL (rN 3 Z ?_)
   obtain rfl := sI H
   exact rT _ func95 Z Z ⟨Z, (HS.pk 1 [] Z)⟩
  obtain ⟨t14, h15, H⟩ := bI H
  rcases iE H with ⟨c18, H⟩ | ⟨c18, H⟩
  ·
   obtain ⟨t19, h20, H⟩ := bI H
   refine rG (fL b1 0 fl40_0 Z (lB 0 HS Z na38 Z (lS Z Z underlying38 Z (pS 2 Z (kN 7 Z (tF c13) (oN Z (fL b1 1 fl40_1 Z (bK (oN Z (lB 0 HS Z na2 Z (bK (oN Z (fN Z func92 fok92.1 fok92.2 Z Z (spec_l01In.calls HS  h15) (fun _ wd16 ⟨h17, HS⟩ => ⟨_, h17, (bK ?_)⟩))))))))))))))
   refine oN Z (GO.not Z Z Z (bK (pS 2 Z (kN 13 Z (congrArg Bool.not c18) (oN Z (GO.ldBoxA (j := 0) ([.slice A_a a1.length c_a, I c1]) HS Z Z Z Z ag40 Z (bK (oN Z (fN Z func125 fok125.1 fok125.2 Z Z (spec_l25Counts.calls HS (rD 1 r_a) h20) (fun _ wd21 ⟨h22, HS⟩ => ⟨_, h22, (bK (oN Z (GO.not Z Z Z (bK (GO.pickF Z Z Z Z Z ?_)))))⟩))))))))))
   refine nL ?_
   rcases iE H with ⟨c23, H⟩ | ⟨c23, H⟩
   ·
    refine nB Z (congrArg Bool.not c23) (rN 2 Z ?_)
    obtain ⟨t24, h25, H⟩ := bI H
    obtain ⟨t31, h32, H⟩ := bI H
    refine G.lexS mixed (fun w => St w0 w (Box b1 40 [.slice A_a a1.length c_a, I c1] :: L)) [0, 2, 4, 5, 6] [3, 0, 4, 5, 6, 1, 2, 7, 8, 9, 10, 11] [] (by kernel_rfl) (by kernel_rfl) HS.drew ?_
    replace HS := HS.drew
    refine qL Z Z (fun _ _ g => fL b1 0 fl40_0 Z g) Z (GX.ls Z Z Z HS (fun _ HS _ g => GO.ldBoxA (j := 0) ([.slice A_a a1.length c_a, I c1]) HS Z Z Z Z ag40 Z g) Z (GX.ls Z Z Z HS (fun _ HS _ g => lB 0 HS Z na38 Z g) Z (GX.ls Z Z Z HS (fun _ HS _ g => lS Z Z underlying38 Z g) Z (GX.ls Z Z Z HS (fun _ HS _ g => GO.ldBoxA (j := 0) ([.slice A_a a1.length c_a, I c1]) HS Z Z Z Z ag40 Z g) Z (GX.l2 Z (fN Z func126 fok126.1 fok126.2 Z Z (spec_l25Regions.calls HS (rD 1 r_a) h25) (fun _ wd29 ⟨A26, c27, y28, h30, HS⟩ => ⟨_, h30, (GX.fin (HS.pk 2 [1] Z) (GX.ls Z Z Z (HS.pk 2 [1] Z) (fun _ HS _ g => lS Z Z underlying156 Z g) Z (GX.l2 Z (fN Z func127 fok127.1 fok127.2 Z Z (spec_l25PartCount.calls HS (rD 2 r_a) h32) (fun _ wd33 ⟨h34, HS⟩ => ⟨_, h34, (GX.fin (HS.pk 2 [1] Z) (GX.ps 4 Z (GX.nil ?_)))⟩)))))⟩)))))))
    obtain rfl := sI H
    exact rT _ func95 Z Z ⟨Z, (HS.pk 2 [] Z)⟩
   refine yB Z (congrArg Bool.not (bnot_of c23)) (rN 2 Z ?_)
   obtain rfl := sI H
   exact rT _ func95 Z Z ⟨Z, (HS.pk 1 [] Z)⟩
  refine rG (fL b1 0 fl40_0 Z (lB 0 HS Z na38 Z (lS Z Z underlying38 Z (pS 2 Z (kN 7 Z (tF c13) (oN Z (fL b1 1 fl40_1 Z (bK (oN Z (lB 0 HS Z na2 Z (bK (oN Z (fN Z func92 fok92.1 fok92.2 Z Z (spec_l01In.calls HS  h15) (fun _ wd16 ⟨h17, HS⟩ => ⟨_, h17, (bK ?_)⟩))))))))))))))
  refine oN Z (GO.not Z Z Z (bK (pS 2 Z (kN 13 Z (congrArg Bool.not (bnot_of c18)) (oF Z (oF Z (oF Z (GO.pickT Z Z Z Z Z (nL (rN 3 Z ?_))))))))))
  obtain rfl := sI H
  exact rT _ func95 Z Z ⟨Z, (HS.pk 1 [] Z)⟩
theorem spec_l32Letter.calls {n_ strands : Int} {r1 : Bool} (HS : St w0 w (L)) (H : spec_l32Letter.f n_ strands = some r1) :
    Calls prog 128 #[I n_, I strands] w (spec_l32Letter.post w0 L r1) := by
  unfold spec_l32Letter.f at H
  refine cG func128 Z ?_
  refine rN 3 Z ?_
  rcases iE H with ⟨c1, H⟩ | ⟨c1, H⟩
  ·
   refine rG (pS 3 Z (kN 7 Z (nT c1) (oF Z (oF Z (oF Z (oF Z (oF Z (oF Z (pS 2 Z (nL ?_))))))))))
   obtain rfl := sI H
   exact rT _ func128 Z Z ⟨Z, HS⟩
  obtain ⟨t2, h3, H⟩ := bI H
  refine rG (pS 3 Z (kN 7 Z (nF c1) (oN Z (mV Z (bK (oN Z (mV Z (bK (oN Z (GO.sub Z Z Z Z (bK (oN Z (mV Z (bK ?_))))))))))))))
  refine oN Z (GO.sub Z Z Z Z (bK (oN Z (fN Z func92 fok92.1 fok92.2 Z Z (spec_l01In.calls HS  h3) (fun _ wd4 ⟨h5, HS⟩ => ⟨_, h5, (bK (pS 2 Z (nL ?_)))⟩)))))
  obtain rfl := sI H
  exact rT _ func128 Z Z ⟨Z, HS⟩
theorem spec_ValidBraid.calls {d1 : Int} {a1 : List Int} {A_a : Option Addr} {c_a : Nat} {r1 : Bool} (HS : St w0 w (L)) (r_a : RdIn w0 L (TInt .i64) A_a c_a (fun _ => ()) a1) (H : spec_ValidBraid.f K d1 a1 = some r1) :
    Calls prog 96 #[.agg [I d1, .slice A_a a1.length c_a].toArray] w (spec_ValidBraid.post w0 L r1) := by
  unfold spec_ValidBraid.f at H
  refine cG func96 Z ?_
  refine sQ (rG (GO.box (cs := [I d1, .slice A_a a1.length c_a]) HS Z Z Z Z fun b1 wd2 HS => aS Z (nL (rN 2 Z ?_))))
  obtain ⟨t8, h9, H⟩ := bI H
  rcases iE H with ⟨c12, H⟩ | ⟨c12, H⟩
  ·
   refine rG (fL b1 0 fl43_0 Z (lB 0 HS Z na2 Z (fN Z func92 fok92.1 fok92.2 Z Z (spec_l01In.calls HS  h9) (fun _ wd10 ⟨h11, HS⟩ => ⟨_, h11, (pS 2 Z (kN 8 Z (congrArg Bool.not c12) (oN Z (fL b1 1 fl43_1 Z (bK (oN Z (lB 0 HS Z na41 Z (bK (oN Z (lS Z Z underlying41 Z (bK ?_)))))))))))⟩))))
   refine oN Z (GO.gtr Z Z Z Z (bK (GO.pickF Z Z Z Z Z (nL ?_))))
   rcases iE H with ⟨c13, H⟩ | ⟨c13, H⟩
   ·
    refine yB Z (tT c13) (rN 2 Z ?_)
    obtain rfl := sI H
    exact rT _ func96 Z Z ⟨Z, (HS.pk 1 [] Z)⟩
   refine nB Z (tF c13) (rN 6 Z ?_)
   refine G.name (fun m1 f1 => ?_)
   have g1 : ∀ c1, c1 ≤ K → ∀ (e1 : Int) (w : World), spec_ValidBraid.l1 K c1 d1 a1 e1 = some r1 → St w0 w (Box b1 43 [I d1, .slice A_a a1.length c_a] :: L) → G prog 96 30 [(1, .pointer (some ⟨b1, 0, none⟩)), (3, I e1)] m1 w (spec_ValidBraid.post w0 L r1) := by
    intro c1
    induction c1 using Nat.strongRecOn with
    | _ c1 i1 =>
     intro h1 e1 w H HS
     cases c1 with
     | zero => rw [spec_ValidBraid.l1] at H; cases H
     | succ k1 =>
      rw [spec_ValidBraid.l1] at H
      subst f1
      refine rN 2 Z (rG (mV Z (fL b1 1 fl43_1 Z (lB 0 HS Z na41 Z (lS Z Z underlying41 Z (GO.lss Z Z Z Z (nL ?_)))))))
      rcases iE H with ⟨c29, H⟩ | ⟨c29, H⟩
      ·
       refine yB Z (tT c29) (rN 4 Z ?_)
       obtain ⟨c30, H⟩ := iN H
       obtain ⟨t31, h32, H⟩ := bI H
       refine G.lex mixed [0, 2, 5, 1, 3, 4, 6, 7, 8] (by kernel_rfl) ?_
       replace HS := HS.drew
       refine qL Z Z (fun _ _ g => fL b1 1 fl43_1 Z g) Z (GX.ps 1 Z (qL Z Z (fun _ _ g => fL b1 0 fl43_0 Z g) Z (GX.l1 Z Z Z (fun _ g => lB 0 HS Z na41 Z g) Z (qL Z Z (fun _ _ g => GO.ix Z Z Z underlying41 sz2 ((rD 1 r_a) _ HS).2.2.1 c30.1 c30.2 Z g) Z (GX.l1 Z Z Z (fun _ g => GO.ldRd (T := (TInt .i64)) (n := e1.toNat) (o := 0) HS (rD 1 r_a) Z Z (getD_some (d := 0) (ltN c30)) Z Z na2 Z g) Z (GX.l1 Z Z Z (fun _ g => lB 0 HS Z na2 Z g) Z (GX.l2 Z (fN Z func128 fok128.1 fok128.2 Z Z (spec_l32Letter.calls HS  h32) (fun _ wd33 ⟨h34, HS⟩ => ⟨_, h34, (GX.fin tv (GX.ps 1 Z (GX.nil ?_)))⟩)))))))))
       rcases iE H with ⟨c35, H⟩ | ⟨c35, H⟩
       ·
        refine nB Z (congrArg Bool.not c35) (rN 4 Z (G.weak ?_ (i1 k1 (Nat.lt_succ_of_le (lR _)) (Nat.le_of_succ_le h1) _ _ H HS)))
        exact ⟨Z, Z, tv⟩
       refine yB Z (congrArg Bool.not (bnot_of c35)) (rN 2 Z ?_)
       obtain rfl := sI H
       exact rT _ func96 Z Z ⟨Z, (HS.pk 1 [] Z)⟩
      refine nB Z (tF c29) (rN 3 Z ?_)
      obtain rfl := sI H
      exact rT _ func96 Z Z ⟨Z, (HS.pk 1 [] Z)⟩
   refine G.weak ?_ (g1 K (lR _) _ _ H HS)
   exact ⟨Z, Z, tv⟩
  refine rG (fL b1 0 fl43_0 Z (lB 0 HS Z na2 Z (fN Z func92 fok92.1 fok92.2 Z Z (spec_l01In.calls HS  h9) (fun _ wd10 ⟨h11, HS⟩ => ⟨_, h11, (pS 2 Z (kN 8 Z (congrArg Bool.not (bnot_of c12)) (oF Z (oF Z (oF Z (oF Z (GO.pickT Z Z Z Z Z (nL (rN 3 Z ?_)))))))))⟩))))
  obtain rfl := sI H
  exact rT _ func96 Z Z ⟨Z, (HS.pk 1 [] Z)⟩
theorem spec_l23Is.calls {name : Int} {r1 : Bool} (HS : St w0 w (L)) (H : spec_l23Is.f name = some r1) :
    Calls prog 129 #[I name] w (spec_l23Is.post w0 L r1) := by
  unfold spec_l23Is.f at H
  refine cG func129 Z ?_
  refine rN 3 Z ?_
  obtain ⟨t1, h2, H⟩ := bI H
  refine rG (mV Z (fN Z func92 fok92.1 fok92.2 Z Z (spec_l01In.calls HS  h2) (fun _ wd3 ⟨h4, HS⟩ => ⟨_, h4, (aS Z (nL ?_))⟩)))
  obtain rfl := sI H
  exact rT _ func129 Z Z ⟨Z, HS⟩
theorem spec_l12Most.calls {kind r1 : Int} (HS : St w0 w (L)) (H : spec_l12Most.f K kind = some r1) :
    Calls prog 151 #[I kind] w (spec_l12Most.post w0 L r1) := by
  unfold spec_l12Most.f at H
  refine cG func151 Z ?_
  refine rN 9 Z ?_
  refine G.nameT (fun d1 c1 => ?_)
  have b1 : ∀ a1, a1 ≤ K → ∀ (x2 : Bool) (w : World), spec_l12Most.j1 K a1 kind x2 = some r1 → St w0 w (L) → G prog 151 11 [(3, I kind), (4, .bool x2)] d1 w (spec_l12Most.post w0 L r1) := by
   intro a1 e1 x2 w H HS
   cases a1 with
   | zero => rw [spec_l12Most.j1] at H; cases H
   | succ f1 =>
    rw [spec_l12Most.j1] at H
    subst c1
    rcases iE H with ⟨c3, H⟩ | ⟨c3, H⟩
    ·
     refine yB Z c3 (rN 2 Z ?_)
     obtain rfl := sI H
     exact rT _ func151 Z Z ⟨Z, HS⟩
    refine nB Z (bnot_of c3) (rN 2 Z ?_)
    rcases iE H with ⟨c4, H⟩ | ⟨c4, H⟩
    ·
     refine yB Z (tT c4) (rN 2 Z ?_)
     obtain rfl := sI H
     exact rT _ func151 Z Z ⟨Z, HS⟩
    refine nB Z (tF c4) (rN 2 Z ?_)
    rcases iE H with ⟨c5, H⟩ | ⟨c5, H⟩
    ·
     refine yB Z (tT c5) (rN 2 Z ?_)
     obtain rfl := sI H
     exact rT _ func151 Z Z ⟨Z, HS⟩
    refine nB Z (tF c5) (rN 4 Z ?_)
    obtain rfl := sI H
    exact rT _ func151 Z Z ⟨Z, HS⟩
  rcases iE H with ⟨c6, H⟩ | ⟨c6, H⟩
  ·
   refine yB Z (tT c6) (G.skip (G.weak ?_ (b1 K (lR _) _ _ H HS)))
   exact ⟨Z, Z, tv⟩
  refine nB Z (tF c6) (rN 1 Z (G.weak ?_ (b1 K (lR _) _ _ H HS)))
  exact ⟨Z, Z, tv⟩
theorem spec_l12Names.calls {r1 : List ByteArray} (HS : St w0 w (L)) (H : spec_l12Names.f = some r1) :
    Calls prog 152 #[] w (spec_l12Names.post w0 L r1) := by
  unfold spec_l12Names.f at H
  refine cG func152 Z ?_
  refine rN 3 Z (rG (GO.buildS (el := 9) ([.string (⟨#[50, 51]⟩ : ByteArray), .string (⟨#[51, 50]⟩ : ByteArray), .string (⟨#[49, 52]⟩ : ByteArray), .string (⟨#[52, 49]⟩ : ByteArray)]) HS Z Z (fun _ => by kernel_rfl) Z fun b1 wd2 HS => ?_))
  replace HS := HS.boxRow (T := TStr) (j := 0) Z flat_flat (fun _ => ()) ([(⟨#[50, 51]⟩ : ByteArray), (⟨#[51, 50]⟩ : ByteArray), (⟨#[49, 52]⟩ : ByteArray), (⟨#[52, 49]⟩ : ByteArray)] : List ByteArray) Z (bndL Z)
  refine GO.lenC (t := 1) (m := ([(⟨#[50, 51]⟩ : ByteArray), (⟨#[51, 50]⟩ : ByteArray), (⟨#[49, 52]⟩ : ByteArray), (⟨#[52, 49]⟩ : ByteArray)] : List ByteArray).length) (c' := ([(⟨#[50, 51]⟩ : ByteArray), (⟨#[51, 50]⟩ : ByteArray), (⟨#[49, 52]⟩ : ByteArray), (⟨#[52, 49]⟩ : ByteArray)] : List ByteArray).length) Z Z Z (aS Z (nL ?_))
  obtain rfl := sI H
  exact rT _ func152 Z Z ⟨_, _, Z, HS⟩
theorem spec_l07Digit.calls {n_ : Int} {r1 : ByteArray} (HS : St w0 w (L)) (H : spec_l07Digit.f n_ = some r1) :
    Calls prog 153 #[I n_] w (spec_l07Digit.post w0 L r1) := by
  unfold spec_l07Digit.f at H
  refine cG func153 Z ?_
  refine rN 3 Z (rG (pS 2 Z (GO.conv Z Z underlying2 underlying5 Z (GO.buildS (el := 5) ([.int .u8 (IntKind.wrap .u8 (w64 (48 + n_)))]) HS Z Z (fun _ => by kernel_rfl) Z fun b1 wd2 HS => ?_))))
  replace HS := HS.boxRow (T := (TInt .u8)) (j := 0) Z flat_flat (fun _ => ()) ([IntKind.wrap .u8 (w64 (48 + n_))] : List Int) Z (bndL Z)
  refine GO.lenC (t := 6) (m := ([IntKind.wrap .u8 (w64 (48 + n_))] : List Int).length) (c' := ([IntKind.wrap .u8 (w64 (48 + n_))] : List Int).length) Z Z Z (GO.bytesStr HS (RdIn.own (j := 0) Z) Z Z underlying147 underlying5 underlying9 Z (aS Z (nL ?_)))
  obtain rfl := sI H
  exact rT _ func153 Z Z ⟨Z, (HS.pk 1 [] Z)⟩
theorem spec_MoveText.calls {a1 d1 e1 : Int} {r1 : ByteArray} (HS : St w0 w (L)) (H : spec_MoveText.f K a1 d1 e1 = some r1) :
    Calls prog 130 #[.agg [I a1, I d1, I e1].toArray] w (spec_MoveText.post w0 L r1) := by
  unfold spec_MoveText.f at H
  refine cG func130 Z ?_
  refine sQ (rG (GO.box (cs := [I a1, I d1, I e1]) HS Z Z Z Z fun b1 wd2 HS => aS Z (nL (rN 2 Z ?_))))
  obtain ⟨t21, h22, H⟩ := bI H
  rcases iE H with ⟨c25, H⟩ | ⟨c25, H⟩
  ·
   refine G.lexS mixed (fun w => St w0 w (Box b1 110 [I a1, I d1, I e1] :: L)) [1, 6, 12, 14] [0, 1, 2, 3, 4, 5, 6, 7, 8, 9, 10, 11, 13, 12, 14, 15, 16, 17, 18] [] (by kernel_rfl) (by kernel_rfl) HS.drew ?_
   replace HS := HS.drew
   refine qL Z Z (fun _ _ g => fL b1 0 fl110_0 Z g) Z (GX.ls Z Z Z HS (fun _ HS _ g => lB 0 HS Z na2 Z g) Z (GX.l2 Z (fN Z func151 fok151.1 fok151.2 Z Z (spec_l12Most.calls HS  h22) (fun _ wd23 ⟨h24, HS⟩ => ⟨_, h24, (GX.fin HS (GX.ps 1 Z (qL Z Z (fun _ _ g => mV Z (kN 7 Z (tT c25) g)) Z (qL Z Z (fun _ _ g => oF Z g) Z (GX.ls Z Z Z HS (fun _ HS _ g => oF Z g) Z (GX.l2 Z (oF Z (GX.fin HS (qL Z Z (fun _ _ g => oF Z g) Z (GX.ps 2 Z (qL Z Z (fun _ _ g => oF Z g) Z ?_)))))))))))⟩))))
   refine qL Z Z (fun _ _ g => oF Z g) Z (GX.ls Z Z Z HS (fun _ HS _ g => oF Z g) Z (GX.ls Z Z Z HS (fun _ HS _ g => oF Z g) Z (GX.l2 Z (oF Z (GX.fin HS (GX.l2 Z (oF Z (GX.fin HS (qL Z Z (fun _ _ g => oF Z g) Z (GX.ps 1 Z (GX.nil (rN 3 Z ?_))))))))))))
   obtain rfl := sI H
   exact rT _ func130 Z Z ⟨Z, (HS.pk 1 [] Z)⟩
  obtain ⟨t26, h27, H⟩ := bI H
  rcases iE H with ⟨c30, H⟩ | ⟨c30, H⟩
  ·
   obtain ⟨t31, h32, H⟩ := bI H
   obtain ⟨t35, h36, H⟩ := bI H
   refine G.lexS mixed (fun w => St w0 w (Box b1 110 [I a1, I d1, I e1] :: L)) [1, 6, 12, 14] [0, 1, 2, 3, 4, 5, 6, 7, 8, 9, 10, 11, 13, 12, 14, 15, 16, 17, 18] [] (by kernel_rfl) (by kernel_rfl) HS.drew ?_
   replace HS := HS.drew
   refine qL Z Z (fun _ _ g => fL b1 0 fl110_0 Z g) Z (GX.ls Z Z Z HS (fun _ HS _ g => lB 0 HS Z na2 Z g) Z (GX.l2 Z (fN Z func151 fok151.1 fok151.2 Z Z (spec_l12Most.calls HS  h22) (fun _ wd23 ⟨h24, HS⟩ => ⟨_, h24, (GX.fin HS (GX.ps 1 Z (qL Z Z (fun _ _ g => mV Z (kN 7 Z (tF c25) g)) Z (qL Z Z (fun _ _ g => oN Z (fL b1 1 fl110_1 Z (bK g))) Z (GX.ls Z Z Z HS (fun _ HS _ g => oN Z (lB 0 HS Z na2 Z (bK g))) Z (GX.l2 Z (oN Z (fN Z func121 fok121.1 fok121.2 Z Z (spec_l07In.calls HS  h27) (fun _ wd28 ⟨h29, HS⟩ => ⟨_, h29, (bK (GX.fin HS (qL Z Z (fun _ _ g => oN Z (GO.not Z Z Z (bK g))) Z ?_)))⟩)))))))))⟩))))
   refine GX.ps 1 Z (qL Z Z (fun _ _ g => mV Z (kN 13 Z (congrArg Bool.not c30) g)) Z (qL Z Z (fun _ _ g => oN Z (fL b1 2 fl110_2 Z (bK g))) Z (qL Z Z (fun _ _ g => oN Z (fL b1 0 fl110_0 Z (bK g))) Z (GX.ls Z Z Z HS (fun _ HS _ g => oN Z (lB 0 HS Z na2 Z (bK g))) Z (GX.ls Z Z Z HS (fun _ HS _ g => oN Z (lB 0 HS Z na2 Z (bK g))) Z (GX.l2 Z (oN Z (fN Z func151 fok151.1 fok151.2 Z Z (spec_l12Most.calls HS  h32) (fun _ wd33 ⟨h34, HS⟩ => ⟨_, h34, (bK (GX.fin HS (GX.l2 Z (oN Z (fN Z func121 fok121.1 fok121.2 Z Z (spec_l07In.calls HS  h36) (fun _ wd37 ⟨h38, HS⟩ => ⟨_, h38, (bK ?_)⟩))))))⟩)))))))))
   refine GX.fin HS (qL Z Z (fun _ _ g => oN Z (GO.not Z Z Z (bK g))) Z (GX.ps 1 Z (GX.nil ?_)))
   rcases iE H with ⟨c39, H⟩ | ⟨c39, H⟩
   ·
    refine nB Z (congrArg Bool.not c39) (rN 2 Z ?_)
    obtain ⟨t40, h41, H⟩ := bI H
    obtain ⟨c46, H⟩ := iN H
    obtain ⟨c47, H⟩ := iN H
    obtain ⟨t48, h49, H⟩ := bI H
    obtain ⟨c52, H⟩ := iN H
    obtain ⟨c53, H⟩ := iN H
    obtain ⟨t54, h55, H⟩ := bI H
    obtain ⟨c58, H⟩ := iN H
    refine G.regionAny mixed (by decide) (fun b a w => ∃ (o1 : Value) (z1 : Value) (x1 : Value) (k1 : Value) (s1 : Value) (n1 : Value) (i1 : Value) (u1 : Value) (g1 : Value) (y1 : Value) (t1 : Value) (v1 : Value) (p1 : Value) (m1 : Value) (q1 : Value) (a2 : Value) (h1 : Value) (A42 : Option Addr) (c43 : Nat) (b2 : HObj), Sat 38 [(2, h1), (22, o1), (23, z1), (24, x1), (25, k1), (26, s1), (27, n1), (28, i1), (29, u1), (30, g1), (31, y1), (32, t1), (33, v1), (34, p1), (35, m1), (36, q1), (37, a2), (1, .pointer (some ⟨b1, 0, none⟩))] a ∧ St w0 w (Box b1 110 [I a1, I d1, I e1] :: b2 :: L) ∧ (b 16 = true → h1 = (.string ((((t40.getD ((w64 (a1 - 1)).toNat) ByteArray.empty ++ (⟨#[32]⟩ : ByteArray)) ++ t48) ++ (⟨#[32]⟩ : ByteArray)) ++ t54))) ∧ (b 0 = true → o1 = (.slice A42 t40.length c43)) ∧ (b 1 = true → z1 = (.pointer (some ⟨b1, 0, none⟩))) ∧ (b 2 = true → x1 = (I a1)) ∧ (b 3 = true → k1 = (I (w64 (a1 - 1)))) ∧ (b 4 = true → s1 = (.pointer (some (ea A42 (((w64 (a1 - 1)).toNat) * 1))))) ∧ (b 5 = true → n1 = (.string (t40.getD ((w64 (a1 - 1)).toNat) ByteArray.empty))) ∧ (b 6 = true → i1 = (.string (t40.getD ((w64 (a1 - 1)).toNat) ByteArray.empty ++ (⟨#[32]⟩ : ByteArray)))) ∧ (b 7 = true → u1 = (.pointer (some ⟨b1, 1, none⟩))) ∧ (b 8 = true → g1 = (I d1)) ∧ (b 9 = true → y1 = (.string t48)) ∧ (b 10 = true → t1 = (.string ((t40.getD ((w64 (a1 - 1)).toNat) ByteArray.empty ++ (⟨#[32]⟩ : ByteArray)) ++ t48))) ∧ (b 11 = true → v1 = (.string (((t40.getD ((w64 (a1 - 1)).toNat) ByteArray.empty ++ (⟨#[32]⟩ : ByteArray)) ++ t48) ++ (⟨#[32]⟩ : ByteArray)))) ∧ (b 12 = true → p1 = (.pointer (some ⟨b1, 2, none⟩))) ∧ (b 13 = true → m1 = (I e1)) ∧ (b 14 = true → q1 = (.string t54)) ∧ (b 15 = true → a2 = (.string ((((t40.getD ((w64 (a1 - 1)).toNat) ByteArray.empty ++ (⟨#[32]⟩ : ByteArray)) ++ t48) ++ (⟨#[32]⟩ : ByteArray)) ++ t54))) ∧ (b 0 = true → b2 = Own TStr 9 A42 c43 (fun _ => ()) t40)) ?_ ?_ ?_
    ·
     intro a hs
     obtain ⟨h1, hs⟩ := hs.ext (d := 2) Z
     obtain ⟨o1, hs⟩ := hs.ext (d := 22) Z
     obtain ⟨z1, hs⟩ := hs.ext (d := 23) Z
     obtain ⟨x1, hs⟩ := hs.ext (d := 24) Z
     obtain ⟨k1, hs⟩ := hs.ext (d := 25) Z
     obtain ⟨s1, hs⟩ := hs.ext (d := 26) Z
     obtain ⟨n1, hs⟩ := hs.ext (d := 27) Z
     obtain ⟨i1, hs⟩ := hs.ext (d := 28) Z
     obtain ⟨u1, hs⟩ := hs.ext (d := 29) Z
     obtain ⟨g1, hs⟩ := hs.ext (d := 30) Z
     obtain ⟨y1, hs⟩ := hs.ext (d := 31) Z
     obtain ⟨t1, hs⟩ := hs.ext (d := 32) Z
     obtain ⟨v1, hs⟩ := hs.ext (d := 33) Z
     obtain ⟨p1, hs⟩ := hs.ext (d := 34) Z
     obtain ⟨m1, hs⟩ := hs.ext (d := 35) Z
     obtain ⟨q1, hs⟩ := hs.ext (d := 36) Z
     obtain ⟨a2, hs⟩ := hs.ext (d := 37) Z
     exact ⟨o1, z1, x1, k1, s1, n1, i1, u1, g1, y1, t1, v1, p1, m1, q1, a2, h1, none, 0, Emp, hs.weak ⟨Z, Z, Z, Z, Z, Z, Z, Z, Z, Z, Z, Z, Z, Z, Z, Z, Z, Z, tv⟩, (HS.drew.emp.pk 2 [1, 0] Z), fun h => Bool.noConfusion h, fun h => Bool.noConfusion h, fun h => Bool.noConfusion h, fun h => Bool.noConfusion h, fun h => Bool.noConfusion h, fun h => Bool.noConfusion h, fun h => Bool.noConfusion h, fun h => Bool.noConfusion h, fun h => Bool.noConfusion h, fun h => Bool.noConfusion h, fun h => Bool.noConfusion h, fun h => Bool.noConfusion h, fun h => Bool.noConfusion h, fun h => Bool.noConfusion h, fun h => Bool.noConfusion h, fun h => Bool.noConfusion h, fun h => Bool.noConfusion h, fun h => Bool.noConfusion h⟩
    ·
     intro j hj b a w
     refine exI fun o1 => exI fun z1 => exI fun x1 => exI fun k1 => exI fun s1 => exI fun n1 => exI fun i1 => exI fun u1 => exI fun g1 => exI fun y1 => exI fun t1 => exI fun v1 => exI fun p1 => exI fun m1 => exI fun q1 => exI fun a2 => exI fun h1 => exI fun A42 => exI fun c43 => exI fun b2 => anI fun hs => anI fun HS => anI fun f16 => anI fun f0 => anI fun f1 => anI fun f2 => anI fun f3 => anI fun f4 => anI fun f5 => anI fun f6 => anI fun f7 => anI fun f8 => anI fun f9 => anI fun f10 => anI fun f11 => anI fun f12 => anI fun f13 => anI fun f14 => anI fun f15 => fun c1 hb hd hcl => ?_
     match j, hj with
     | 0, _ =>
      refine GO.at hs (fN Z func152 fok152.1 fok152.2 Z Z (spec_l12Names.calls HS  h41) (fun _ wd44 ⟨A42, c43, h45, HS⟩ => ⟨_, h45, (GO.fin (fun a hs => ⟨(.slice A42 t40.length c43), _, _, _, _, _, _, _, _, _, _, _, _, _, _, _, _, A42, c43, Own TStr 9 A42 c43 (fun _ => ()) t40, by exact hs.setAt 1 Z, HS.pk 3 [1, 0] Z, f16, fun _ => Z, f1, f2, f3, fun hh => (Bool.noConfusion ((hcl 4 (by decide) hh 0 (by decide)).symm.trans hb)), f5, f6, f7, f8, f9, f10, f11, f12, f13, f14, f15, fun _ => Z⟩))⟩))
     | 1, _ =>
      refine GO.at hs (fL b1 0 fl110_0 Z (GO.fin (fun a hs => ⟨_, (.pointer (some ⟨b1, 0, none⟩)), _, _, _, _, _, _, _, _, _, _, _, _, _, _, _, A42, c43, _, by exact hs.setAt 2 Z, HS, f16, f0, fun _ => Z, f2, f3, f4, f5, f6, f7, f8, f9, f10, f11, f12, f13, f14, f15, c1⟩)))
     | 2, _ =>
      have hb1 : b 1 = true := hd 1 (by decide)
      obtain rfl := f1 hb1
      refine GO.at hs (lB 0 HS Z na2 Z (GO.fin (fun a hs => ⟨_, _, (I a1), _, _, _, _, _, _, _, _, _, _, _, _, _, _, A42, c43, _, by exact hs.setAt 3 Z, HS, f16, f0, f1, fun _ => Z, f3, f4, f5, f6, f7, f8, f9, f10, f11, f12, f13, f14, f15, c1⟩)))
     | 3, _ =>
      have hb2 : b 2 = true := hd 2 (by decide)
      obtain rfl := f2 hb2
      refine GO.at hs (GO.sub Z Z Z Z (GO.fin (fun a hs => ⟨_, _, _, (I (w64 (a1 - 1))), _, _, _, _, _, _, _, _, _, _, _, _, _, A42, c43, _, by exact hs.setAt 4 Z, HS, f16, f0, f1, f2, fun _ => Z, f4, f5, f6, f7, f8, f9, f10, f11, f12, f13, f14, f15, c1⟩)))
     | 4, _ =>
      have hb0 : b 0 = true := hd 0 (by decide)
      obtain rfl := f0 hb0
      have hb3 : b 3 = true := hd 3 (by decide)
      obtain rfl := f3 hb3
      obtain rfl := c1 hb0
      refine GO.at hs (GO.ix Z Z Z underlying176 sz9 ((RdIn.own (j := 1) Z) _ HS).2.2.1 c46.1 c46.2 Z (GO.fin (fun a hs => ⟨_, _, _, _, (.pointer (some (ea A42 (((w64 (a1 - 1)).toNat) * 1)))), _, _, _, _, _, _, _, _, _, _, _, _, A42, c43, _, by exact hs.setAt 5 Z, HS, f16, f0, f1, f2, f3, fun _ => Z, f5, f6, f7, f8, f9, f10, f11, f12, f13, f14, f15, c1⟩)))
     | 5, _ =>
      have hb4 : b 4 = true := hd 4 (by decide)
      obtain rfl := f4 hb4
      have hb0 : b 0 = true := hcl 4 (by decide) (hd 4 (by decide)) 0 (by decide)
      obtain rfl := c1 hb0
      refine GO.at hs (GO.ldRd (T := TStr) (n := (w64 (a1 - 1)).toNat) (o := 0) HS (RdIn.own (j := 1) Z) Z Z (getD_some (d := ByteArray.empty) (ltN c46)) Z Z na9 Z (GO.fin (fun a hs => ⟨_, _, _, _, _, (.string (t40.getD ((w64 (a1 - 1)).toNat) ByteArray.empty)), _, _, _, _, _, _, _, _, _, _, _, A42, c43, _, by exact hs.setAt 6 Z, HS, f16, f0, f1, f2, f3, f4, fun _ => Z, f6, f7, f8, f9, f10, f11, f12, f13, f14, f15, c1⟩)))
     | 6, _ =>
      have hb5 : b 5 = true := hd 5 (by decide)
      obtain rfl := f5 hb5
      refine GO.at hs (GO.catS Z Z Z c47 Z (GO.fin (fun a hs => ⟨_, _, _, _, _, _, (.string (t40.getD ((w64 (a1 - 1)).toNat) ByteArray.empty ++ (⟨#[32]⟩ : ByteArray))), _, _, _, _, _, _, _, _, _, _, A42, c43, _, by exact hs.setAt 7 Z, HS, f16, f0, f1, f2, f3, f4, f5, fun _ => Z, f7, f8, f9, f10, f11, f12, f13, f14, f15, c1⟩)))
     | 7, _ =>
      refine GO.at hs (fL b1 1 fl110_1 Z (GO.fin (fun a hs => ⟨_, _, _, _, _, _, _, (.pointer (some ⟨b1, 1, none⟩)), _, _, _, _, _, _, _, _, _, A42, c43, _, by exact hs.setAt 8 Z, HS, f16, f0, f1, f2, f3, f4, f5, f6, fun _ => Z, f8, f9, f10, f11, f12, f13, f14, f15, c1⟩)))
     | 8, _ =>
      have hb7 : b 7 = true := hd 7 (by decide)
      obtain rfl := f7 hb7
      refine GO.at hs (lB 0 HS Z na2 Z (GO.fin (fun a hs => ⟨_, _, _, _, _, _, _, _, (I d1), _, _, _, _, _, _, _, _, A42, c43, _, by exact hs.setAt 9 Z, HS, f16, f0, f1, f2, f3, f4, f5, f6, f7, fun _ => Z, f9, f10, f11, f12, f13, f14, f15, c1⟩)))
     | 9, _ =>
      have hb8 : b 8 = true := hd 8 (by decide)
      obtain rfl := f8 hb8
      refine GO.at hs (fN Z func153 fok153.1 fok153.2 Z Z (spec_l07Digit.calls HS  h49) (fun _ wd50 ⟨h51, HS⟩ => ⟨_, h51, (GO.fin (fun a hs => ⟨_, _, _, _, _, _, _, _, _, (.string t48), _, _, _, _, _, _, _, A42, c43, _, by exact hs.setAt 10 Z, HS, f16, f0, f1, f2, f3, f4, f5, f6, f7, f8, fun _ => Z, f10, f11, f12, f13, f14, f15, c1⟩))⟩))
     | 10, _ =>
      have hb6 : b 6 = true := hd 6 (by decide)
      obtain rfl := f6 hb6
      have hb9 : b 9 = true := hd 9 (by decide)
      obtain rfl := f9 hb9
      refine GO.at hs (GO.catS Z Z Z c52 Z (GO.fin (fun a hs => ⟨_, _, _, _, _, _, _, _, _, _, (.string ((t40.getD ((w64 (a1 - 1)).toNat) ByteArray.empty ++ (⟨#[32]⟩ : ByteArray)) ++ t48)), _, _, _, _, _, _, A42, c43, _, by exact hs.setAt 11 Z, HS, f16, f0, f1, f2, f3, f4, f5, f6, f7, f8, f9, fun _ => Z, f11, f12, f13, f14, f15, c1⟩)))
     | 11, _ =>
      have hb10 : b 10 = true := hd 10 (by decide)
      obtain rfl := f10 hb10
      refine GO.at hs (GO.catS Z Z Z c53 Z (GO.fin (fun a hs => ⟨_, _, _, _, _, _, _, _, _, _, _, (.string (((t40.getD ((w64 (a1 - 1)).toNat) ByteArray.empty ++ (⟨#[32]⟩ : ByteArray)) ++ t48) ++ (⟨#[32]⟩ : ByteArray))), _, _, _, _, _, A42, c43, _, by exact hs.setAt 12 Z, HS, f16, f0, f1, f2, f3, f4, f5, f6, f7, f8, f9, f10, fun _ => Z, f12, f13, f14, f15, c1⟩)))
     | 12, _ =>
      refine GO.at hs (fL b1 2 fl110_2 Z (GO.fin (fun a hs => ⟨_, _, _, _, _, _, _, _, _, _, _, _, (.pointer (some ⟨b1, 2, none⟩)), _, _, _, _, A42, c43, _, by exact hs.setAt 13 Z, HS, f16, f0, f1, f2, f3, f4, f5, f6, f7, f8, f9, f10, f11, fun _ => Z, f13, f14, f15, c1⟩)))
     | 13, _ =>
      have hb12 : b 12 = true := hd 12 (by decide)
      obtain rfl := f12 hb12
      refine GO.at hs (lB 0 HS Z na2 Z (GO.fin (fun a hs => ⟨_, _, _, _, _, _, _, _, _, _, _, _, _, (I e1), _, _, _, A42, c43, _, by exact hs.setAt 14 Z, HS, f16, f0, f1, f2, f3, f4, f5, f6, f7, f8, f9, f10, f11, f12, fun _ => Z, f14, f15, c1⟩)))
     | 14, _ =>
      have hb13 : b 13 = true := hd 13 (by decide)
      obtain rfl := f13 hb13
      refine GO.at hs (fN Z func153 fok153.1 fok153.2 Z Z (spec_l07Digit.calls HS  h55) (fun _ wd56 ⟨h57, HS⟩ => ⟨_, h57, (GO.fin (fun a hs => ⟨_, _, _, _, _, _, _, _, _, _, _, _, _, _, (.string t54), _, _, A42, c43, _, by exact hs.setAt 15 Z, HS, f16, f0, f1, f2, f3, f4, f5, f6, f7, f8, f9, f10, f11, f12, f13, fun _ => Z, f15, c1⟩))⟩))
     | 15, _ =>
      have hb11 : b 11 = true := hd 11 (by decide)
      obtain rfl := f11 hb11
      have hb14 : b 14 = true := hd 14 (by decide)
      obtain rfl := f14 hb14
      refine GO.at hs (GO.catS Z Z Z c58 Z (GO.fin (fun a hs => ⟨_, _, _, _, _, _, _, _, _, _, _, _, _, _, _, (.string ((((t40.getD ((w64 (a1 - 1)).toNat) ByteArray.empty ++ (⟨#[32]⟩ : ByteArray)) ++ t48) ++ (⟨#[32]⟩ : ByteArray)) ++ t54)), _, A42, c43, _, by exact hs.setAt 16 Z, HS, f16, f0, f1, f2, f3, f4, f5, f6, f7, f8, f9, f10, f11, f12, f13, f14, fun _ => Z, c1⟩)))
     | 16, _ =>
      have hb15 : b 15 = true := hd 15 (by decide)
      obtain rfl := f15 hb15
      refine GO.at hs (aS Z (GO.fin (fun a hs => ⟨_, _, _, _, _, _, _, _, _, _, _, _, _, _, _, _, (.string ((((t40.getD ((w64 (a1 - 1)).toNat) ByteArray.empty ++ (⟨#[32]⟩ : ByteArray)) ++ t48) ++ (⟨#[32]⟩ : ByteArray)) ++ t54)), A42, c43, _, by exact hs.setAt 0 Z, HS, fun _ => Z, f0, f1, f2, f3, f4, f5, f6, f7, f8, f9, f10, f11, f12, f13, f14, f15, c1⟩)))
     | k + 17, hj => exact absurd hj (Nat.not_lt.2 (Nat.le_add_left 17 k))
    ·
     intro b a w hall
     refine exI fun o1 => exI fun z1 => exI fun x1 => exI fun k1 => exI fun s1 => exI fun n1 => exI fun i1 => exI fun u1 => exI fun g1 => exI fun y1 => exI fun t1 => exI fun v1 => exI fun p1 => exI fun m1 => exI fun q1 => exI fun a2 => exI fun h1 => exI fun A42 => exI fun c43 => exI fun b2 => anI fun hs => anI fun HS => anI fun f16 => anI fun f0 => anI fun f1 => anI fun f2 => anI fun f3 => anI fun f4 => anI fun f5 => anI fun f6 => anI fun f7 => anI fun f8 => anI fun f9 => anI fun f10 => anI fun f11 => anI fun f12 => anI fun f13 => anI fun f14 => anI fun f15 => fun c1 => ?_
     obtain rfl := f16 (hall 16 (by decide))
     obtain rfl := f0 (hall 0 (by decide))
     obtain rfl := f1 (hall 1 (by decide))
     obtain rfl := f2 (hall 2 (by decide))
     obtain rfl := f3 (hall 3 (by decide))
     obtain rfl := f4 (hall 4 (by decide))
     obtain rfl := f5 (hall 5 (by decide))
     obtain rfl := f6 (hall 6 (by decide))
     obtain rfl := f7 (hall 7 (by decide))
     obtain rfl := f8 (hall 8 (by decide))
     obtain rfl := f9 (hall 9 (by decide))
     obtain rfl := f10 (hall 10 (by decide))
     obtain rfl := f11 (hall 11 (by decide))
     obtain rfl := f12 (hall 12 (by decide))
     obtain rfl := f13 (hall 13 (by decide))
     obtain rfl := f14 (hall 14 (by decide))
     obtain rfl := f15 (hall 15 (by decide))
     obtain rfl := c1 (hall 0 (by decide))
     refine G.at hs ?_
     obtain rfl := sI H
     exact rT _ func130 Z Z ⟨Z, (HS.pk 2 [] Z)⟩
   refine yB Z (congrArg Bool.not (bnot_of c39)) (rN 2 Z ?_)
   obtain rfl := sI H
   exact rT _ func130 Z Z ⟨Z, (HS.pk 1 [] Z)⟩
  refine G.lexS mixed (fun w => St w0 w (Box b1 110 [I a1, I d1, I e1] :: L)) [1, 6, 12, 14] [0, 1, 2, 3, 4, 5, 6, 7, 8, 9, 10, 11, 13, 12, 14, 15, 16, 17, 18] [] (by kernel_rfl) (by kernel_rfl) HS.drew ?_
  replace HS := HS.drew
  refine qL Z Z (fun _ _ g => fL b1 0 fl110_0 Z g) Z (GX.ls Z Z Z HS (fun _ HS _ g => lB 0 HS Z na2 Z g) Z (GX.l2 Z (fN Z func151 fok151.1 fok151.2 Z Z (spec_l12Most.calls HS  h22) (fun _ wd23 ⟨h24, HS⟩ => ⟨_, h24, (GX.fin HS (GX.ps 1 Z (qL Z Z (fun _ _ g => mV Z (kN 7 Z (tF c25) g)) Z (qL Z Z (fun _ _ g => oN Z (fL b1 1 fl110_1 Z (bK g))) Z (GX.ls Z Z Z HS (fun _ HS _ g => oN Z (lB 0 HS Z na2 Z (bK g))) Z (GX.l2 Z (oN Z (fN Z func121 fok121.1 fok121.2 Z Z (spec_l07In.calls HS  h27) (fun _ wd28 ⟨h29, HS⟩ => ⟨_, h29, (bK (GX.fin HS (qL Z Z (fun _ _ g => oN Z (GO.not Z Z Z (bK g))) Z ?_)))⟩)))))))))⟩))))
  refine GX.ps 1 Z (qL Z Z (fun _ _ g => mV Z (kN 13 Z (congrArg Bool.not (bnot_of c30)) g)) Z (qL Z Z (fun _ _ g => oF Z g) Z (qL Z Z (fun _ _ g => oF Z g) Z (GX.ls Z Z Z HS (fun _ HS _ g => oF Z g) Z (GX.ls Z Z Z HS (fun _ HS _ g => oF Z g) Z (GX.l2 Z (oF Z (GX.fin HS (GX.l2 Z (oF Z (GX.fin HS (qL Z Z (fun _ _ g => oF Z g) Z (GX.ps 1 Z (GX.nil ?_))))))))))))))
  refine rN 3 Z ?_
  obtain rfl := sI H
  exact rT _ func130 Z Z ⟨Z, (HS.pk 1 [] Z)⟩
theorem spec_IsPlainCertificate.calls {i1 e1 : Int} {c1 : List GMove} {a1 d1 : List Int} {A_a : Option Addr} {c_a : Nat} {A_b : Option Addr} {c_b : Nat} {A_c : Option Addr} {c_c : Nat} {r1 : Bool} (HS : St w0 w (L)) (r_a : RdIn w0 L T_GMove A_a c_a (fun _ => ()) c1) (r_b : RdIn w0 L (TInt .i64) A_b c_b (fun _ => ()) a1) (r_c : RdIn w0 L (TInt .i64) A_c c_c (fun _ => ()) d1) (H : spec_IsPlainCertificate.f K i1 e1 c1 a1 d1 = some r1) :
    Calls prog 97 #[.agg [I i1, I e1, .slice A_a c1.length c_a, .slice A_b a1.length c_b, .slice A_c d1.length c_c].toArray] w (spec_IsPlainCertificate.post w0 L r1) := by
  unfold spec_IsPlainCertificate.f at H
  refine cG func97 Z ?_
  refine sQ (rG (GO.box (cs := [I i1, I e1, .slice A_a c1.length c_a, .slice A_b a1.length c_b, .slice A_c d1.length c_c]) HS Z Z Z Z fun b1 wd2 HS => aS Z (nL (rN 2 Z ?_))))
  obtain ⟨t15, h16, H⟩ := bI H
  rcases iE H with ⟨c19, H⟩ | ⟨c19, H⟩
  ·
   obtain ⟨t20, h21, H⟩ := bI H
   rcases iE H with ⟨c24, H⟩ | ⟨c24, H⟩
   ·
    rcases iE H with ⟨c25, H⟩ | ⟨c25, H⟩
    ·
     refine rG (fL b1 0 fl46_0 Z (lB 0 HS Z na2 Z (fN Z func129 fok129.1 fok129.2 Z Z (spec_l23Is.calls HS  h16) (fun _ wd17 ⟨h18, HS⟩ => ⟨_, h18, (pS 2 Z (kN 9 Z (congrArg Bool.not c19) (oN Z (fL b1 1 fl46_1 Z (bK (oN Z (lB 0 HS Z na2 Z (bK (oN Z (fN Z func92 fok92.1 fok92.2 Z Z (spec_l01In.calls HS  h21) (fun _ wd22 ⟨h23, HS⟩ => ⟨_, h23, (bK ?_)⟩)))))))))))⟩))))
     refine oN Z (GO.not Z Z Z (bK (pS 2 Z (kN 15 Z (congrArg Bool.not c24) (oN Z (fL b1 2 fl46_2 Z (bK (oN Z (lB 0 HS Z na44 Z (bK (oN Z (lS Z Z underlying44 Z (bK (oN Z ?_))))))))))))))
     refine GO.gtr Z Z Z Z (bK (pS 2 Z (kN 21 Z (tT c25) (oF Z (oF Z (oF Z (oF Z (oF Z (oF Z (oF Z (pS 2 Z (oF Z (oF Z (oF Z ?_))))))))))))))
     refine oF Z (GO.pickT Z Z Z Z Z (nL (rN 3 Z ?_)))
     obtain rfl := sI H
     exact rT _ func97 Z Z ⟨Z, (HS.pk 1 [] Z)⟩
    rcases iE H with ⟨c26, H⟩ | ⟨c26, H⟩
    ·
     refine rG (fL b1 0 fl46_0 Z (lB 0 HS Z na2 Z (fN Z func129 fok129.1 fok129.2 Z Z (spec_l23Is.calls HS  h16) (fun _ wd17 ⟨h18, HS⟩ => ⟨_, h18, (pS 2 Z (kN 9 Z (congrArg Bool.not c19) (oN Z (fL b1 1 fl46_1 Z (bK (oN Z (lB 0 HS Z na2 Z (bK (oN Z (fN Z func92 fok92.1 fok92.2 Z Z (spec_l01In.calls HS  h21) (fun _ wd22 ⟨h23, HS⟩ => ⟨_, h23, (bK ?_)⟩)))))))))))⟩))))
     refine oN Z (GO.not Z Z Z (bK (pS 2 Z (kN 15 Z (congrArg Bool.not c24) (oN Z (fL b1 2 fl46_2 Z (bK (oN Z (lB 0 HS Z na44 Z (bK (oN Z (lS Z Z underlying44 Z (bK (oN Z ?_))))))))))))))
     refine GO.gtr Z Z Z Z (bK (pS 2 Z (kN 21 Z (tF c25) (oN Z (fL b1 3 fl46_3 Z (bK (oN Z (lB 0 HS Z na41 Z (bK (oN Z (lS Z Z underlying41 Z (bK (oN Z (fL b1 4 fl46_4 Z ?_))))))))))))))
     refine bK (oN Z (lB 0 HS Z na41 Z (bK (oN Z (lS Z Z underlying41 Z (bK (oN Z (GO.neq Z Z Z Z (bK (pS 2 Z (kN 30 Z (nT c26) (oN Z (fL b1 3 fl46_3 Z (bK ?_))))))))))))))
     refine oN Z (lB 0 HS Z na41 Z (bK (oN Z (lS Z Z underlying41 Z (bK (oN Z (GO.gtr Z Z Z Z (bK (GO.pickF Z Z Z Z Z (nL ?_))))))))))
     rcases iE H with ⟨c27, H⟩ | ⟨c27, H⟩
     ·
      refine yB Z (tT c27) (rN 2 Z ?_)
      obtain rfl := sI H
      exact rT _ func97 Z Z ⟨Z, (HS.pk 1 [] Z)⟩
     refine nB Z (tF c27) (rN 6 Z ?_)
     refine G.name (fun z1 s1 => ?_)
     have t1 : ∀ g1, g1 ≤ K → ∀ (k1 : Int) (w : World), spec_IsPlainCertificate.l1 K g1 e1 c1 a1 d1 k1 = some r1 → St w0 w (Box b1 46 [I i1, I e1, .slice A_a c1.length c_a, .slice A_b a1.length c_b, .slice A_c d1.length c_c] :: L) → G prog 97 86 [(1, .pointer (some ⟨b1, 0, none⟩)), (3, I k1)] z1 w (spec_IsPlainCertificate.post w0 L r1) := by
      intro g1
      induction g1 using Nat.strongRecOn with
      | _ g1 o1 =>
       intro q1 k1 w H HS
       cases g1 with
       | zero => rw [spec_IsPlainCertificate.l1] at H; cases H
       | succ m1 =>
        rw [spec_IsPlainCertificate.l1] at H
        subst s1
        refine rN 2 Z (rG (mV Z (fL b1 2 fl46_2 Z (lB 0 HS Z na44 Z (lS Z Z underlying44 Z (GO.lss Z Z Z Z (nL ?_)))))))
        rcases iE H with ⟨c133, H⟩ | ⟨c133, H⟩
        ·
         refine yB Z (tT c133) (rN 4 Z ?_)
         obtain ⟨c134, H⟩ := iN H
         obtain ⟨e135, h136, H⟩ := bnd_elim H
         obtain ⟨t137, h138, H⟩ := bI H
         refine rG (fL b1 2 fl46_2 Z (lB 0 HS Z na44 Z (mV Z (GO.ix Z Z Z underlying44 sz110 ((rD 1 r_a) _ HS).2.2.1 c134.1 c134.2 Z (GO.ldRdA (T := T_GMove) (n := k1.toNat) HS (rD 1 r_a) Z Z (getD_eq (ltN c134) h136) ag110 Z (fN Z func130 fok130.1 fok130.2 Z Z (spec_MoveText.calls HS  h138) (fun _ wd139 ⟨h140, HS⟩ => ⟨_, h140, (GO.eqlS Z Z Z Z (nL ?_))⟩)))))))
         rcases iE H with ⟨c141, H⟩ | ⟨c141, H⟩
         ·
          refine yB Z c141 (rN 2 Z ?_)
          obtain rfl := sI H
          exact rT _ func97 Z Z ⟨Z, (HS.pk 1 [] Z)⟩
         refine nB Z (bnot_of c141) (rN 4 Z (G.weak ?_ (o1 m1 (Nat.lt_succ_of_le (lR _)) (Nat.le_of_succ_le q1) _ _ H HS)))
         exact ⟨Z, Z, tv⟩
        refine nB Z (tF c133) (rN 6 Z ?_)
        refine G.name (fun y1 v1 => ?_)
        have p1 : ∀ h1, h1 ≤ m1 → ∀ (f1 : Int) (w : World), spec_IsPlainCertificate.l4 K h1 e1 c1 a1 d1 f1 = some r1 → St w0 w (Box b1 46 [I i1, I e1, .slice A_a c1.length c_a, .slice A_b a1.length c_b, .slice A_c d1.length c_c] :: L) → G prog 97 86 [(1, .pointer (some ⟨b1, 0, none⟩)), (4, I f1)] y1 w (spec_IsPlainCertificate.post w0 L r1) := by
         intro h1
         induction h1 using Nat.strongRecOn with
         | _ h1 u1 =>
          intro x1 f1 w H HS
          cases h1 with
          | zero => rw [spec_IsPlainCertificate.l4] at H; cases H
          | succ n1 =>
           rw [spec_IsPlainCertificate.l4] at H
           subst v1
           refine rN 2 Z (rG (mV Z (fL b1 3 fl46_3 Z (lB 0 HS Z na41 Z (lS Z Z underlying41 Z (GO.lss Z Z Z Z (nL ?_)))))))
           rcases iE H with ⟨c171, H⟩ | ⟨c171, H⟩
           ·
            refine yB Z (tT c171) (rN 4 Z ?_)
            obtain ⟨c172, H⟩ := iN H
            obtain ⟨t173, h174, H⟩ := bI H
            rcases iE H with ⟨c177, H⟩ | ⟨c177, H⟩
            ·
             obtain ⟨c178, H⟩ := iN H
             obtain ⟨t179, h180, H⟩ := bI H
             refine rG (fL b1 3 fl46_3 Z (lB 0 HS Z na41 Z (mV Z (GO.ix Z Z Z underlying41 sz2 ((rD 1 r_b) _ HS).2.2.1 c172.1 c172.2 Z (GO.ldRd (T := (TInt .i64)) (n := f1.toNat) (o := 0) HS (rD 1 r_b) Z Z (getD_some (d := 0) (ltN c172)) Z Z na2 Z (fN Z func92 fok92.1 fok92.2 Z Z (spec_l01In.calls HS  h174) (fun _ wd175 ⟨h176, HS⟩ => ⟨_, h176, (pS 2 Z (kN 64 Z (congrArg Bool.not c177) (oN Z (fL b1 4 fl46_4 Z (bK (oN Z (lB 0 HS Z na41 Z (bK ?_))))))))⟩)))))))
             refine oN Z (mV Z (bK (oN Z (GO.ix Z Z Z underlying41 sz2 ((rD 1 r_c) _ HS).2.2.1 c178.1 c178.2 Z (bK (oN Z (GO.ldRd (T := (TInt .i64)) (n := f1.toNat) (o := 0) HS (rD 1 r_c) Z Z (getD_some (d := 0) (ltN c178)) Z Z na2 Z (bK (oN Z (fN Z func122 fok122.1 fok122.2 Z Z (spec_l06Valid.calls HS  h180) (fun _ wd181 ⟨h182, HS⟩ => ⟨_, h182, (bK (oN Z (GO.not Z Z Z (bK ?_))))⟩)))))))))))
             refine GO.pickF Z Z Z Z Z (nL ?_)
             rcases iE H with ⟨c183, H⟩ | ⟨c183, H⟩
             ·
              refine nB Z (congrArg Bool.not c183) (rN 4 Z (G.weak ?_ (u1 n1 (Nat.lt_succ_of_le (lR _)) (Nat.le_of_succ_le x1) _ _ H HS)))
              exact ⟨Z, Z, tv⟩
             refine yB Z (congrArg Bool.not (bnot_of c183)) (rN 2 Z ?_)
             obtain rfl := sI H
             exact rT _ func97 Z Z ⟨Z, (HS.pk 1 [] Z)⟩
            refine rG (fL b1 3 fl46_3 Z (lB 0 HS Z na41 Z (mV Z (GO.ix Z Z Z underlying41 sz2 ((rD 1 r_b) _ HS).2.2.1 c172.1 c172.2 Z (GO.ldRd (T := (TInt .i64)) (n := f1.toNat) (o := 0) HS (rD 1 r_b) Z Z (getD_some (d := 0) (ltN c172)) Z Z na2 Z (fN Z func92 fok92.1 fok92.2 Z Z (spec_l01In.calls HS  h174) (fun _ wd175 ⟨h176, HS⟩ => ⟨_, h176, (pS 2 Z (kN 64 Z (congrArg Bool.not (bnot_of c177)) (oF Z (oF Z (oF Z (oF Z (oF Z (oF Z ?_))))))))⟩)))))))
            refine oF Z (GO.pickT Z Z Z Z Z (nL (rN 3 Z ?_)))
            obtain rfl := sI H
            exact rT _ func97 Z Z ⟨Z, (HS.pk 1 [] Z)⟩
           refine nB Z (tF c171) (rN 2 Z ?_)
           rcases iE H with ⟨c184, H⟩ | ⟨c184, H⟩
           ·
            refine rG (fL b1 1 fl46_1 Z (lB 0 HS Z na2 Z (pS 2 Z (kN 76 Z (tT c184) (oF Z (oF Z (oF Z (oF Z (oF Z (oF Z (oF Z (oF Z (pS 2 Z (nL ?_))))))))))))))
            obtain rfl := sI H
            exact rT _ func97 Z Z ⟨Z, (HS.pk 1 [] Z)⟩
           refine rG (fL b1 1 fl46_1 Z (lB 0 HS Z na2 Z (pS 2 Z (kN 76 Z (tF c184) (oN Z (fL b1 2 fl46_2 Z (bK (oN Z (lB 0 HS Z na44 Z (bK (oN Z (lS Z Z underlying44 Z (bK (oN Z ?_))))))))))))))
           refine fL b1 3 fl46_3 Z (bK (oN Z (lB 0 HS Z na41 Z (bK (oN Z (lS Z Z underlying41 Z (bK (oN Z (GO.add Z Z Z Z (bK (oN Z (GO.eql Z Z Z Z (bK (pS 2 Z ?_))))))))))))))
           refine nL ?_
           obtain rfl := sI H
           exact rT _ func97 Z Z ⟨Z, (HS.pk 1 [] Z)⟩
        refine G.weak ?_ (p1 m1 (lR _) _ _ H HS)
        exact ⟨Z, Z, tv⟩
     refine G.weak ?_ (t1 K (lR _) _ _ H HS)
     exact ⟨Z, Z, tv⟩
    refine rG (fL b1 0 fl46_0 Z (lB 0 HS Z na2 Z (fN Z func129 fok129.1 fok129.2 Z Z (spec_l23Is.calls HS  h16) (fun _ wd17 ⟨h18, HS⟩ => ⟨_, h18, (pS 2 Z (kN 9 Z (congrArg Bool.not c19) (oN Z (fL b1 1 fl46_1 Z (bK (oN Z (lB 0 HS Z na2 Z (bK (oN Z (fN Z func92 fok92.1 fok92.2 Z Z (spec_l01In.calls HS  h21) (fun _ wd22 ⟨h23, HS⟩ => ⟨_, h23, (bK ?_)⟩)))))))))))⟩))))
    refine oN Z (GO.not Z Z Z (bK (pS 2 Z (kN 15 Z (congrArg Bool.not c24) (oN Z (fL b1 2 fl46_2 Z (bK (oN Z (lB 0 HS Z na44 Z (bK (oN Z (lS Z Z underlying44 Z (bK (oN Z ?_))))))))))))))
    refine GO.gtr Z Z Z Z (bK (pS 2 Z (kN 21 Z (tF c25) (oN Z (fL b1 3 fl46_3 Z (bK (oN Z (lB 0 HS Z na41 Z (bK (oN Z (lS Z Z underlying41 Z (bK (oN Z (fL b1 4 fl46_4 Z ?_))))))))))))))
    refine bK (oN Z (lB 0 HS Z na41 Z (bK (oN Z (lS Z Z underlying41 Z (bK (oN Z (GO.neq Z Z Z Z (bK (pS 2 Z (kN 30 Z (nF c26) (oF Z (oF Z (oF Z ?_))))))))))))))
    refine oF Z (GO.pickT Z Z Z Z Z (nL (rN 3 Z ?_)))
    obtain rfl := sI H
    exact rT _ func97 Z Z ⟨Z, (HS.pk 1 [] Z)⟩
   refine rG (fL b1 0 fl46_0 Z (lB 0 HS Z na2 Z (fN Z func129 fok129.1 fok129.2 Z Z (spec_l23Is.calls HS  h16) (fun _ wd17 ⟨h18, HS⟩ => ⟨_, h18, (pS 2 Z (kN 9 Z (congrArg Bool.not c19) (oN Z (fL b1 1 fl46_1 Z (bK (oN Z (lB 0 HS Z na2 Z (bK (oN Z (fN Z func92 fok92.1 fok92.2 Z Z (spec_l01In.calls HS  h21) (fun _ wd22 ⟨h23, HS⟩ => ⟨_, h23, (bK ?_)⟩)))))))))))⟩))))
   refine oN Z (GO.not Z Z Z (bK (pS 2 Z (kN 15 Z (congrArg Bool.not (bnot_of c24)) (oF Z (oF Z (oF Z (oF Z (pS 2 Z (oF Z (oF Z (oF Z (oF Z (oF Z ?_))))))))))))))
   refine oF Z (oF Z (pS 2 Z (oF Z (oF Z (oF Z (oF Z (GO.pickT Z Z Z Z Z (nL (rN 3 Z ?_)))))))))
   obtain rfl := sI H
   exact rT _ func97 Z Z ⟨Z, (HS.pk 1 [] Z)⟩
  refine rG (fL b1 0 fl46_0 Z (lB 0 HS Z na2 Z (fN Z func129 fok129.1 fok129.2 Z Z (spec_l23Is.calls HS  h16) (fun _ wd17 ⟨h18, HS⟩ => ⟨_, h18, (pS 2 Z (kN 9 Z (congrArg Bool.not (bnot_of c19)) (oF Z (oF Z (oF Z (oF Z (pS 2 Z (oF Z (oF Z (oF Z (oF Z ?_)))))))))))⟩))))
  refine pS 2 Z (oF Z (oF Z (oF Z (oF Z (oF Z (oF Z (oF Z (pS 2 Z (oF Z (oF Z (oF Z (oF Z (GO.pickT Z Z Z Z Z (nL ?_))))))))))))))
  refine rN 3 Z ?_
  obtain rfl := sI H
  exact rT _ func97 Z Z ⟨Z, (HS.pk 1 [] Z)⟩
theorem spec_ValidItem.calls {n1 : ByteArray} {o1 : Int} {g1 : List (List GFace)} {a1 : List GCrossing} {h1 i1 : Int} {e1 : List Int} {m1 k1 : Int} {d1 : List GMove} {f1 c1 : List Int} {A_a : Option Addr} {c_a : Nat} {y_a : Nat → (Ty.slice 140 T_GFace).Lay} {A_b : Option Addr} {c_b : Nat} {A_c : Option Addr} {c_c : Nat} {A_d : Option Addr} {c_d : Nat} {A_e : Option Addr} {c_e : Nat} {A_f : Option Addr} {c_f : Nat} {r1 : Bool} (HS : St w0 w (L)) (r_a : RdIn w0 L (Ty.slice 140 T_GFace) A_a c_a y_a g1) (r_b : RdIn w0 L T_GCrossing A_b c_b (fun _ => ()) a1) (r_c : RdIn w0 L (TInt .i64) A_c c_c (fun _ => ()) e1) (r_d : RdIn w0 L T_GMove A_d c_d (fun _ => ()) d1) (r_e : RdIn w0 L (TInt .i64) A_e c_e (fun _ => ()) f1) (r_f : RdIn w0 L (TInt .i64) A_f c_f (fun _ => ()) c1) (H : spec_ValidItem.f K n1 o1 g1 a1 h1 i1 e1 m1 k1 d1 f1 c1 = some r1) :
    Calls prog 58 #[.agg [.string n1, I o1, .slice A_a g1.length c_a, .slice A_b a1.length c_b, I h1, I i1, .slice A_c e1.length c_c, I m1, I k1, .slice A_d d1.length c_d, .slice A_e f1.length c_e, .slice A_f c1.length c_f].toArray] w (spec_ValidItem.post w0 L r1) := by
  unfold spec_ValidItem.f at H
  refine cG func58 Z ?_
  refine sQ (rG (GO.box (cs := [.string n1, I o1, .slice A_a g1.length c_a, .slice A_b a1.length c_b, I h1, I i1, .slice A_c e1.length c_c, I m1, I k1, .slice A_d d1.length c_d, .slice A_e f1.length c_e, .slice A_f c1.length c_f]) HS Z Z Z Z fun b1 wd2 HS => aS Z (nL (rN 2 Z ?_))))
  obtain ⟨t12, h13, H⟩ := bI H
  rcases iE H with ⟨c16, H⟩ | ⟨c16, H⟩
  ·
   obtain ⟨t17, h18, H⟩ := bI H
   refine rG (fL b1 0 fl48_0 Z (lB 0 HS Z na9 Z (fN Z func91 fok91.1 fok91.2 Z Z (spec_l33Name.calls HS  h13) (fun _ wd14 ⟨h15, HS⟩ => ⟨_, h15, (pS 2 Z (kN 8 Z (congrArg Bool.not c16) (oN Z (fL b1 1 fl48_1 Z (bK (oN Z (lB 0 HS Z na2 Z (bK (oN Z (fN Z func92 fok92.1 fok92.2 Z Z (spec_l01In.calls HS  h18) (fun _ wd19 ⟨h20, HS⟩ => ⟨_, h20, (bK ?_)⟩)))))))))))⟩))))
   refine oN Z (GO.not Z Z Z (bK (GO.pickF Z Z Z Z Z (nL ?_))))
   rcases iE H with ⟨c21, H⟩ | ⟨c21, H⟩
   ·
    refine nB Z (congrArg Bool.not c21) (rN 6 Z ?_)
    refine G.name (fun y1 v1 => ?_)
    have x1 : ∀ p1, p1 ≤ K → ∀ (q1 : Int) (w : World), spec_ValidItem.l1 K p1 n1 o1 g1 a1 h1 i1 e1 m1 k1 d1 f1 c1 q1 = some r1 → St w0 w (Box b1 48 [.string n1, I o1, .slice A_a g1.length c_a, .slice A_b a1.length c_b, I h1, I i1, .slice A_c e1.length c_c, I m1, I k1, .slice A_d d1.length c_d, .slice A_e f1.length c_e, .slice A_f c1.length c_f] :: L) → G prog 58 48 [(1, .pointer (some ⟨b1, 0, none⟩)), (3, I q1)] y1 w (spec_ValidItem.post w0 L r1) := by
     intro p1
     induction p1 using Nat.strongRecOn with
     | _ p1 s1 =>
      intro t1 q1 w H HS
      cases p1 with
      | zero => rw [spec_ValidItem.l1] at H; cases H
      | succ u1 =>
       rw [spec_ValidItem.l1] at H
       subst v1
       refine rN 3 Z ?_
       rcases iE H with ⟨c55, H⟩ | ⟨c55, H⟩
       ·
        refine yB Z (tT c55) (rN 4 Z ?_)
        rcases iE H with ⟨c56, H⟩ | ⟨c56, H⟩
        ·
         refine rG (mV Z (fL b1 1 fl48_1 Z (lB 0 HS Z na2 Z (pS 2 Z (kN 22 Z (nT c56) (oF Z (oF Z (oF Z (oF Z (GO.pickF Z Z Z Z Z (nL (rN 5 Z (G.weak ?_ (s1 u1 (Nat.lt_succ_of_le (lR _)) (Nat.le_of_succ_le t1) _ _ H HS))))))))))))))
         exact ⟨Z, Z, tv⟩
        obtain ⟨t57, h58, H⟩ := bI H
        refine rG (mV Z (fL b1 1 fl48_1 Z (lB 0 HS Z na2 Z (pS 2 Z (kN 22 Z (nF c56) (oN Z (GO.ldBoxA (j := 0) ([.string n1, I o1, .slice A_a g1.length c_a, .slice A_b a1.length c_b, I h1, I i1, .slice A_c e1.length c_c, I m1, I k1, .slice A_d d1.length c_d, .slice A_e f1.length c_e, .slice A_f c1.length c_f]) HS Z Z Z Z ag48 Z (bK (oN Z (mV Z (bK (oN Z (fN Z func93 fok93.1 fok93.2 Z Z (spec_l33Zero.calls HS (rD 1 r_a) (rD 1 r_b) (rD 1 r_c) (rD 1 r_d) (rD 1 r_e) (rD 1 r_f) h58) (fun _ wd59 ⟨h60, HS⟩ => ⟨_, h60, (bK ?_)⟩))))))))))))))
        refine oN Z (GO.not Z Z Z (bK (GO.pickT Z Z Z Z Z (nL ?_))))
        rcases iE H with ⟨c61, H⟩ | ⟨c61, H⟩
        ·
         refine nB Z (congrArg Bool.not c61) (rN 4 Z (G.weak ?_ (s1 u1 (Nat.lt_succ_of_le (lR _)) (Nat.le_of_succ_le t1) _ _ H HS)))
         exact ⟨Z, Z, tv⟩
        refine yB Z (congrArg Bool.not (bnot_of c61)) (rN 2 Z ?_)
        obtain rfl := sI H
        exact rT _ func58 Z Z ⟨Z, (HS.pk 1 [] Z)⟩
       refine nB Z (tF c55) (rN 3 Z (rG (fL b1 1 fl48_1 Z (lB 0 HS Z na2 Z (nL (rN 3 Z ?_))))))
       rcases iE H with ⟨c62, H⟩ | ⟨c62, H⟩
       ·
        refine yB Z (tT c62) (sQ ?_)
        obtain ⟨t63, h64, H⟩ := bI H
        refine rG (fL b1 2 fl48_2 Z (GO.ldBoxA (j := 0) ([.slice A_a g1.length c_a]) HS Z Z Z Z ag37 Z (fN Z func94 fok94.1 fok94.2 Z Z (spec_IsTriangulation.calls HS (rD 1 r_a) h64) (fun _ wd65 ⟨h66, HS⟩ => ⟨_, h66, (aS Z (nL ?_))⟩))))
        obtain rfl := sI H
        exact rT _ func58 Z Z ⟨Z, (HS.pk 1 [] Z)⟩
       refine nB Z (tF c62) (rN 2 Z ?_)
       rcases iE H with ⟨c67, H⟩ | ⟨c67, H⟩
       ·
        refine yB Z (tT c67) (sQ ?_)
        obtain ⟨t68, h69, H⟩ := bI H
        refine rG (fL b1 3 fl48_3 Z (GO.ldBoxA (j := 0) ([.slice A_b a1.length c_b, I h1]) HS Z Z Z Z ag40 Z (fN Z func95 fok95.1 fok95.2 Z Z (spec_IsDiagram.calls HS (rD 1 r_b) h69) (fun _ wd70 ⟨h71, HS⟩ => ⟨_, h71, (aS Z (nL ?_))⟩))))
        obtain rfl := sI H
        exact rT _ func58 Z Z ⟨Z, (HS.pk 1 [] Z)⟩
       refine nB Z (tF c67) (rN 2 Z ?_)
       rcases iE H with ⟨c72, H⟩ | ⟨c72, H⟩
       ·
        refine yB Z (tT c72) (sQ ?_)
        obtain ⟨t73, h74, H⟩ := bI H
        refine rG (fL b1 5 fl48_4 Z (GO.ldBoxA (j := 0) ([I i1, .slice A_c e1.length c_c]) HS Z Z Z Z ag43 Z (fN Z func96 fok96.1 fok96.2 Z Z (spec_ValidBraid.calls HS (rD 1 r_c) h74) (fun _ wd75 ⟨h76, HS⟩ => ⟨_, h76, (aS Z (nL ?_))⟩))))
        obtain rfl := sI H
        exact rT _ func58 Z Z ⟨Z, (HS.pk 1 [] Z)⟩
       refine nB Z (tF c72) (rN 3 Z ?_)
       obtain ⟨t77, h78, H⟩ := bI H
       refine rG (fL b1 7 fl48_5 Z (GO.ldBoxA (j := 0) ([I m1, I k1, .slice A_d d1.length c_d, .slice A_e f1.length c_e, .slice A_f c1.length c_f]) HS Z Z Z Z ag46 Z (fN Z func97 fok97.1 fok97.2 Z Z (spec_IsPlainCertificate.calls HS (rD 1 r_d) (rD 1 r_e) (rD 1 r_f) h78) (fun _ wd79 ⟨h80, HS⟩ => ⟨_, h80, (aS Z (nL ?_))⟩))))
       obtain rfl := sI H
       exact rT _ func58 Z Z ⟨Z, (HS.pk 1 [] Z)⟩
    refine G.weak ?_ (x1 K (lR _) _ _ H HS)
    exact ⟨Z, Z, tv⟩
   refine yB Z (congrArg Bool.not (bnot_of c21)) (rN 2 Z ?_)
   obtain rfl := sI H
   exact rT _ func58 Z Z ⟨Z, (HS.pk 1 [] Z)⟩
  refine rG (fL b1 0 fl48_0 Z (lB 0 HS Z na9 Z (fN Z func91 fok91.1 fok91.2 Z Z (spec_l33Name.calls HS  h13) (fun _ wd14 ⟨h15, HS⟩ => ⟨_, h15, (pS 2 Z (kN 8 Z (congrArg Bool.not (bnot_of c16)) (oF Z (oF Z (oF Z (oF Z (GO.pickT Z Z Z Z Z (nL (rN 3 Z ?_)))))))))⟩))))
  obtain rfl := sI H
  exact rT _ func58 Z Z ⟨Z, (HS.pk 1 [] Z)⟩
theorem spec_l33List.calls {list : List GItem} {A_a : Option Addr} {c_a : Nat} {y_a : Nat → T_GItem_47.Lay} {r1 : Bool} (HS : St w0 w (L)) (r_a : RdIn w0 L T_GItem_47 A_a c_a y_a list) (H : spec_l33List.f K list = some r1) :
    Calls prog 25 #[.slice A_a list.length c_a] w (spec_l33List.post w0 L r1) := by
  unfold spec_l33List.f at H
  refine cG func25 Z ?_
  refine rN 7 Z ?_
  refine G.name (fun h1 f1 => ?_)
  have g1 : ∀ b1, b1 ≤ K → ∀ (a1 : Int) (w : World), spec_l33List.l1 K b1 list a1 = some r1 → St w0 w (L) → G prog 25 37 [(0, .slice A_a list.length c_a), (3, I a1)] h1 w (spec_l33List.post w0 L r1) := by
   intro b1
   induction b1 using Nat.strongRecOn with
   | _ b1 c1 =>
    intro e1 a1 w H HS
    cases b1 with
    | zero => rw [spec_l33List.l1] at H; cases H
    | succ d1 =>
     rw [spec_l33List.l1] at H
     subst f1
     refine rN 2 Z (rG (pS 2 Z (lS Z Z underlying28 Z (GO.lss Z Z Z Z (nL ?_)))))
     rcases iE H with ⟨c25, H⟩ | ⟨c25, H⟩
     ·
      refine yB Z (tT c25) (rN 4 Z ?_)
      obtain ⟨c26, H⟩ := iN H
      obtain ⟨e27, h28, H⟩ := bnd_elim H
      obtain ⟨t29, h30, H⟩ := bI H
      rcases iE H with ⟨c33, H⟩ | ⟨c33, H⟩
      ·
       rcases iE H with ⟨c34, H⟩ | ⟨c34, H⟩
       ·
        obtain ⟨c35, H⟩ := iN H
        obtain ⟨e36, h37, H⟩ := bnd_elim H
        refine G.lex mixed [0, 1, 2, 3, 4, 5, 6, 7, 8, 9, 10, 11, 12, 13, 14, 16, 17, 18, 19, 15, 20, 21, 22, 23] (by kernel_rfl) ?_
        replace HS := HS.drew
        refine GX.ps 2 Z (qL Z Z (fun _ _ g => GO.ix Z Z Z underlying28 sz48 (r_a _ HS).2.2.1 c26.1 c26.2 Z g) Z (GX.l1 Z Z Z (fun _ g => GO.ldRdA (T := T_GItem_47) (n := a1.toNat) HS r_a Z Z (getD_eq (ltN c26) h28) ag48 Z g) Z (GX.l2 Z (fN Z func58 fok58.1 fok58.2 Z Z (spec_ValidItem.calls HS (RdIn.fld r_a (getD_eq (ltN c26) h28) (fun _ h => h.2.2.1)) (RdIn.fld r_a (getD_eq (ltN c26) h28) (fun _ h => h.2.2.2.1)) (RdIn.fld r_a (getD_eq (ltN c26) h28) (fun _ h => h.2.2.2.2.2.2.1)) (RdIn.fld r_a (getD_eq (ltN c26) h28) (fun _ h => h.2.2.2.2.2.2.2.2.2.1)) (RdIn.fld r_a (getD_eq (ltN c26) h28) (fun _ h => h.2.2.2.2.2.2.2.2.2.2.1)) (RdIn.fld r_a (getD_eq (ltN c26) h28) (fun _ h => h.2.2.2.2.2.2.2.2.2.2.2)) h30) (fun _ wd31 ⟨h32, HS⟩ => ⟨_, h32, (GX.fin tv (GX.ps 1 Z (qL Z Z (fun _ _ g => mV Z (kN 16 Z (congrArg Bool.not c33) g)) Z (qL Z Z (fun _ _ g => oN Z (mV Z (bK g))) Z (qL Z Z (fun _ _ g => oN Z (GO.gtr Z Z Z Z (bK g))) Z (qL Z Z (fun _ _ g => oN Z (mV Z (bK (kN 19 Z (tT c34) g)))) Z (qL Z Z (fun _ _ g => oN Z (mV Z (bK g))) Z (qL Z Z (fun _ _ g => oN Z (mV Z (bK g))) Z (qL Z Z (fun _ _ g => oN Z (GO.sub Z Z Z Z (bK g))) Z (qL Z Z (fun _ _ g => oN Z (GO.ix Z Z Z underlying28 sz48 (r_a _ HS).2.2.1 c35.1 c35.2 Z (bK g))) Z ?_))))))))))⟩)))))
        refine qL Z Z (fun _ _ g => oN Z (GO.fld (ea A_a (((w64 (a1 - 1)).toNat) * 12)) Z Z fl48_0 Z Z (bK g))) Z (qL Z Z (fun _ _ g => oN Z (mV Z (bK g))) Z (qL Z Z (fun _ _ g => oN Z (mV Z (bK g))) Z (qL Z Z (fun _ _ g => oN Z (GO.ix Z Z Z underlying28 sz48 (r_a _ HS).2.2.1 c26.1 c26.2 Z (bK g))) Z (qL Z Z (fun _ _ g => oN Z (GO.fld (ea A_a (a1.toNat * 12)) Z Z fl48_0 Z Z (bK g))) Z (GX.l1 Z Z Z (fun _ g => oN Z (GO.ldRd (T := T_GItem_47) (n := (w64 (a1 - 1)).toNat) (o := 0) HS r_a Z Z (getD_eq (ltN c35) h37) Z Z na9 Z (bK g))) Z (GX.l1 Z Z Z (fun _ g => oN Z (GO.ldRd (T := T_GItem_47) (n := a1.toNat) (o := 0) HS r_a Z Z (getD_eq (ltN c26) h28) Z Z na9 Z (bK g))) Z (qL Z Z (fun _ _ g => oN Z (GO.geqS Z Z Z Z (bK g))) Z (qL Z Z (fun _ _ g => oN Z (GO.pickT Z Z Z Z Z (bK g))) Z (GX.ps 1 Z (GX.nil ?_))))))))))
        rcases iE H with ⟨c38, H⟩ | ⟨c38, H⟩
        ·
         refine nB Z (congrArg Bool.not c38) (rN 4 Z (G.weak ?_ (c1 d1 (Nat.lt_succ_of_le (lR _)) (Nat.le_of_succ_le e1) _ _ H HS)))
         exact ⟨Z, Z, tv⟩
        refine yB Z (congrArg Bool.not (bnot_of c38)) (rN 2 Z ?_)
        obtain rfl := sI H
        exact rT _ func25 Z Z ⟨Z, HS⟩
       refine G.lex mixed [0, 1, 2, 3, 4, 5, 6, 7, 8, 9, 10, 11, 12, 13, 14, 16, 17, 18, 19, 15, 20, 21, 22, 23] (by kernel_rfl) ?_
       replace HS := HS.drew
       refine GX.ps 2 Z (qL Z Z (fun _ _ g => GO.ix Z Z Z underlying28 sz48 (r_a _ HS).2.2.1 c26.1 c26.2 Z g) Z (GX.l1 Z Z Z (fun _ g => GO.ldRdA (T := T_GItem_47) (n := a1.toNat) HS r_a Z Z (getD_eq (ltN c26) h28) ag48 Z g) Z (GX.l2 Z (fN Z func58 fok58.1 fok58.2 Z Z (spec_ValidItem.calls HS (RdIn.fld r_a (getD_eq (ltN c26) h28) (fun _ h => h.2.2.1)) (RdIn.fld r_a (getD_eq (ltN c26) h28) (fun _ h => h.2.2.2.1)) (RdIn.fld r_a (getD_eq (ltN c26) h28) (fun _ h => h.2.2.2.2.2.2.1)) (RdIn.fld r_a (getD_eq (ltN c26) h28) (fun _ h => h.2.2.2.2.2.2.2.2.2.1)) (RdIn.fld r_a (getD_eq (ltN c26) h28) (fun _ h => h.2.2.2.2.2.2.2.2.2.2.1)) (RdIn.fld r_a (getD_eq (ltN c26) h28) (fun _ h => h.2.2.2.2.2.2.2.2.2.2.2)) h30) (fun _ wd31 ⟨h32, HS⟩ => ⟨_, h32, (GX.fin tv (GX.ps 1 Z (qL Z Z (fun _ _ g => mV Z (kN 16 Z (congrArg Bool.not c33) g)) Z (qL Z Z (fun _ _ g => oN Z (mV Z (bK g))) Z (qL Z Z (fun _ _ g => oN Z (GO.gtr Z Z Z Z (bK g))) Z (qL Z Z (fun _ _ g => oN Z (mV Z (bK (kN 19 Z (tF c34) g)))) Z (qL Z Z (fun _ _ g => oF Z g) Z (qL Z Z (fun _ _ g => oF Z g) Z (qL Z Z (fun _ _ g => oF Z g) Z (qL Z Z (fun _ _ g => oF Z g) Z ?_))))))))))⟩)))))
       refine qL Z Z (fun _ _ g => oF Z g) Z (qL Z Z (fun _ _ g => oF Z g) Z (qL Z Z (fun _ _ g => oF Z g) Z (qL Z Z (fun _ _ g => oF Z g) Z (qL Z Z (fun _ _ g => oF Z g) Z (GX.l1 Z Z Z (fun _ g => oF Z g) Z (GX.l1 Z Z Z (fun _ g => oF Z g) Z (qL Z Z (fun _ _ g => oF Z g) Z (qL Z Z (fun _ _ g => oN Z (GO.pickF Z Z Z Z Z (bK g))) Z (GX.ps 1 Z (GX.nil (rN 5 Z (G.weak ?_ (c1 d1 (Nat.lt_succ_of_le (lR _)) (Nat.le_of_succ_le e1) _ _ H HS)))))))))))))
       exact ⟨Z, Z, tv⟩
      refine G.lex mixed [0, 1, 2, 3, 4, 5, 6, 7, 8, 9, 10, 11, 12, 13, 14, 16, 17, 18, 19, 15, 20, 21, 22, 23] (by kernel_rfl) ?_
      replace HS := HS.drew
      refine GX.ps 2 Z (qL Z Z (fun _ _ g => GO.ix Z Z Z underlying28 sz48 (r_a _ HS).2.2.1 c26.1 c26.2 Z g) Z (GX.l1 Z Z Z (fun _ g => GO.ldRdA (T := T_GItem_47) (n := a1.toNat) HS r_a Z Z (getD_eq (ltN c26) h28) ag48 Z g) Z (GX.l2 Z (fN Z func58 fok58.1 fok58.2 Z Z (spec_ValidItem.calls HS (RdIn.fld r_a (getD_eq (ltN c26) h28) (fun _ h => h.2.2.1)) (RdIn.fld r_a (getD_eq (ltN c26) h28) (fun _ h => h.2.2.2.1)) (RdIn.fld r_a (getD_eq (ltN c26) h28) (fun _ h => h.2.2.2.2.2.2.1)) (RdIn.fld r_a (getD_eq (ltN c26) h28) (fun _ h => h.2.2.2.2.2.2.2.2.2.1)) (RdIn.fld r_a (getD_eq (ltN c26) h28) (fun _ h => h.2.2.2.2.2.2.2.2.2.2.1)) (RdIn.fld r_a (getD_eq (ltN c26) h28) (fun _ h => h.2.2.2.2.2.2.2.2.2.2.2)) h30) (fun _ wd31 ⟨h32, HS⟩ => ⟨_, h32, (GX.fin tv (GX.ps 1 Z (qL Z Z (fun _ _ g => mV Z (kN 16 Z (congrArg Bool.not (bnot_of c33)) g)) Z (qL Z Z (fun _ _ g => oF Z g) Z (qL Z Z (fun _ _ g => oF Z g) Z (qL Z Z (fun _ _ g => oF Z g) Z (qL Z Z (fun _ _ g => GO.offU Z Z Z Z Z Z g) Z (qL Z Z (fun _ _ g => GO.offU Z Z Z Z Z Z g) Z (qL Z Z (fun _ _ g => GO.offU Z Z Z Z Z Z g) Z (qL Z Z (fun _ _ g => GO.offU Z Z Z Z Z Z g) Z ?_))))))))))⟩)))))
      refine qL Z Z (fun _ _ g => GO.offU Z Z Z Z Z Z g) Z (qL Z Z (fun _ _ g => GO.offU Z Z Z Z Z Z g) Z (qL Z Z (fun _ _ g => GO.offU Z Z Z Z Z Z g) Z (qL Z Z (fun _ _ g => GO.offU Z Z Z Z Z Z g) Z (qL Z Z (fun _ _ g => GO.offU Z Z Z Z Z Z g) Z (GX.l1 Z Z Z (fun _ g => GO.offU Z Z Z Z Z Z g) Z (GX.l1 Z Z Z (fun _ g => GO.offU Z Z Z Z Z Z g) Z (qL Z Z (fun _ _ g => GO.offU Z Z Z Z Z Z g) Z (qL Z Z (fun _ _ g => oF Z g) Z (GX.ps 1 Z (GX.nil (rN 3 Z ?_)))))))))))
      obtain rfl := sI H
      exact rT _ func25 Z Z ⟨Z, HS⟩
     refine nB Z (tF c25) (rN 2 Z (rG (mV Z (lS Z Z underlying28 Z (pS 2 Z (nL ?_))))))
     obtain rfl := sI H
     exact rT _ func25 Z Z ⟨Z, HS⟩
  refine G.weak ?_ (g1 K (lR _) _ _ H HS)
  exact ⟨Z, Z, tv⟩
theorem spec_l33Stack.calls {list : List (List GItem)} {A_a : Option Addr} {c_a : Nat} {y_a : Nat → (Ty.slice 48 T_GItem_47).Lay} {r1 : Bool} (HS : St w0 w (L)) (r_a : RdIn w0 L (Ty.slice 48 T_GItem_47) A_a c_a y_a list) (H : spec_l33Stack.f K list = some r1) :
    Calls prog 26 #[.slice A_a list.length c_a] w (spec_l33Stack.post w0 L r1) := by
  unfold spec_l33Stack.f at H
  refine cG func26 Z ?_
  refine rN 7 Z ?_
  refine G.name (fun g1 b1 => ?_)
  have c1 : ∀ a1, a1 ≤ K → ∀ (i_8 : Int) (w : World), spec_l33Stack.l1 K a1 list i_8 = some r1 → St w0 w (L) → G prog 26 19 [(0, .slice A_a list.length c_a), (3, I i_8)] g1 w (spec_l33Stack.post w0 L r1) := by
   intro a1
   induction a1 using Nat.strongRecOn with
   | _ a1 d1 =>
    intro f1 i_8 w H HS
    cases a1 with
    | zero => rw [spec_l33Stack.l1] at H; cases H
    | succ e1 =>
     rw [spec_l33Stack.l1] at H
     subst b1
     refine rN 2 Z (rG (pS 2 Z (lS Z Z underlying29 Z (GO.lss Z Z Z Z (nL ?_)))))
     rcases iE H with ⟨c16, H⟩ | ⟨c16, H⟩
     ·
      refine yB Z (tT c16) (rN 4 Z ?_)
      obtain ⟨c17, H⟩ := iN H
      obtain ⟨t18, h19, H⟩ := bI H
      refine rG (pS 2 Z (GO.ix Z Z Z underlying29 sz28 (r_a _ HS).2.2.1 c17.1 c17.2 Z (GO.ldRd (T := (Ty.slice 48 T_GItem_47)) (n := i_8.toNat) (o := 0) HS r_a Z Z (getD_some (d := []) (ltN c17)) Z Z na28 Z (fN Z func25 fok25.1 fok25.2 Z Z (spec_l33List.calls HS (RdIn.elem r_a c17.1 c17.2) h19) (fun _ wd20 ⟨h21, HS⟩ => ⟨_, h21, (GO.not Z Z Z (nL ?_))⟩)))))
      rcases iE H with ⟨c22, H⟩ | ⟨c22, H⟩
      ·
       refine nB Z (congrArg Bool.not c22) (rN 4 Z (G.weak ?_ (d1 e1 (Nat.lt_succ_of_le (lR _)) (Nat.le_of_succ_le f1) _ _ H HS)))
       exact ⟨Z, Z, tv⟩
      refine yB Z (congrArg Bool.not (bnot_of c22)) (rN 2 Z ?_)
      obtain rfl := sI H
      exact rT _ func26 Z Z ⟨Z, HS⟩
     refine nB Z (tF c16) (rN 2 Z (rG (mV Z (lS Z Z underlying29 Z (pS 2 Z (nL ?_))))))
     obtain rfl := sI H
     exact rT _ func26 Z Z ⟨Z, HS⟩
  refine G.weak ?_ (c1 K (lR _) _ _ H HS)
  exact ⟨Z, Z, tv⟩
theorem spec_ValidBench.calls {c1 : List GItem} {a1 d1 : List (List GItem)} {A_a : Option Addr} {c_a : Nat} {y_a : Nat → T_GItem_47.Lay} {A_b : Option Addr} {c_b : Nat} {y_b : Nat → (Ty.slice 48 T_GItem_47).Lay} {A_c : Option Addr} {c_c : Nat} {y_c : Nat → (Ty.slice 48 T_GItem_47).Lay} {r1 : Bool} (HS : St w0 w (L)) (r_a : RdIn w0 L T_GItem_47 A_a c_a y_a c1) (r_b : RdIn w0 L (Ty.slice 48 T_GItem_47) A_b c_b y_b a1) (r_c : RdIn w0 L (Ty.slice 48 T_GItem_47) A_c c_c y_c d1) (H : spec_ValidBench.f K c1 a1 d1 = some r1) :
    Calls prog 8 #[.agg [.slice A_a c1.length c_a, .slice A_b a1.length c_b, .slice A_c d1.length c_c].toArray] w (spec_ValidBench.post w0 L r1) := by
  unfold spec_ValidBench.f at H
  refine cG func8 Z ?_
  refine sQ (rG (GO.box (cs := [.slice A_a c1.length c_a, .slice A_b a1.length c_b, .slice A_c d1.length c_c]) HS Z Z Z Z fun b1 wd2 HS => aS Z (nL (sQ ?_))))
  obtain ⟨t3, h4, H⟩ := bI H
  rcases iE H with ⟨c7, H⟩ | ⟨c7, H⟩
  ·
   obtain ⟨t8, h9, H⟩ := bI H
   rcases iE H with ⟨c12, H⟩ | ⟨c12, H⟩
   ·
    obtain ⟨t13, h14, H⟩ := bI H
    refine rG (fL b1 0 fl31_0 Z (lB 0 HS Z na28 Z (fN Z func25 fok25.1 fok25.2 Z Z (spec_l33List.calls HS (rD 1 r_a) h4) (fun _ wd5 ⟨h6, HS⟩ => ⟨_, h6, (mV Z (kN 6 Z c7 (oN Z (fL b1 1 fl31_1 Z (bK (oN Z (lB 0 HS Z na29 Z (bK (oN Z (fN Z func26 fok26.1 fok26.2 Z Z (spec_l33Stack.calls HS (rD 1 r_b) h9) (fun _ wd10 ⟨h11, HS⟩ => ⟨_, h11, (bK ?_)⟩)))))))))))⟩))))
    refine pS 2 Z (kN 11 Z c12 (oN Z (fL b1 2 fl31_2 Z (bK (oN Z (lB 0 HS Z na29 Z (bK (oN Z (fN Z func26 fok26.1 fok26.2 Z Z (spec_l33Stack.calls HS (rD 1 r_c) h14) (fun _ wd15 ⟨h16, HS⟩ => ⟨_, h16, (bK (pS 2 Z (nL ?_)))⟩))))))))))
    obtain rfl := sI H
    exact rT _ func8 Z Z ⟨Z, (HS.pk 1 [] Z)⟩
   refine rG (fL b1 0 fl31_0 Z (lB 0 HS Z na28 Z (fN Z func25 fok25.1 fok25.2 Z Z (spec_l33List.calls HS (rD 1 r_a) h4) (fun _ wd5 ⟨h6, HS⟩ => ⟨_, h6, (mV Z (kN 6 Z c7 (oN Z (fL b1 1 fl31_1 Z (bK (oN Z (lB 0 HS Z na29 Z (bK (oN Z (fN Z func26 fok26.1 fok26.2 Z Z (spec_l33Stack.calls HS (rD 1 r_b) h9) (fun _ wd10 ⟨h11, HS⟩ => ⟨_, h11, (bK ?_)⟩)))))))))))⟩))))
   refine pS 2 Z (kN 11 Z (bnot_of c12) (oF Z (oF Z (oF Z (pS 2 Z (nL ?_))))))
   obtain rfl := sI H
   exact rT _ func8 Z Z ⟨Z, (HS.pk 1 [] Z)⟩
  refine rG (fL b1 0 fl31_0 Z (lB 0 HS Z na28 Z (fN Z func25 fok25.1 fok25.2 Z Z (spec_l33List.calls HS (rD 1 r_a) h4) (fun _ wd5 ⟨h6, HS⟩ => ⟨_, h6, (mV Z (kN 6 Z (bnot_of c7) (oF Z (oF Z (oF Z (pS 2 Z (oF Z (oF Z (oF Z (pS 2 Z (nL ?_)))))))))))⟩))))
  obtain rfl := sI H
  exact rT _ func8 Z Z ⟨Z, (HS.pk 1 [] Z)⟩
theorem spec_l07Own.calls {c1 : List (List GFace)} {A_a : Option Addr} {c_a : Nat} {y_a : Nat → (Ty.slice 140 T_GFace).Lay} {r1 : List (List GFace)} (HS : St w0 w (L)) (r_a : RdIn w0 L (Ty.slice 140 T_GFace) A_a c_a y_a c1) (H : spec_l07Own.f K c1 = some r1) :
    Calls prog 63 #[.agg [.slice A_a c1.length c_a].toArray] w (spec_l07Own.post w0 L r1) := by
  unfold spec_l07Own.f at H
  refine cG func63 Z ?_
  refine sQ (rG (GO.box (cs := [.slice A_a c1.length c_a]) HS Z Z Z Z fun b1 wd2 HS => GO.alloc HS Z zr37 Z Z fun b3 wd4 HS => nL (sQ (rG (GO.buildV (.agg [.slice none 0 0].toArray) Z Z (fun _ => by kernel_rfl) Z (GO.alloc HS Z zr37 Z Z fun b5 wd6 HS => GO.stBox (j := 0) (vs := [.slice none 0 0]) ([.slice none 0 0]) HS Z Z Z Z Z (htA ag37) Z Z Z fun wd7 HS => nL (rN 5 Z ?_)))))))
  refine G.name (fun m1 f1 => ?_)
  have g1 : ∀ e1, e1 ≤ K → ∀ (A25 : Option Addr) (c26 : Nat) (a1 : List (List GFace)) (y28 : Nat → (Ty.slice 140 T_GFace).Lay) (d1 : Int) (w : World), spec_l07Own.l1 K e1 c1 a1 d1 = some r1 → St w0 w (Box b1 37 [.slice A_a c1.length c_a] :: Box b3 37 [.slice none 0 0] :: Box b5 37 [.slice A25 a1.length c26] :: Own (Ty.slice 140 T_GFace) 136 A25 c26 y28 a1 :: L) → G prog 63 26 [(1, .pointer (some ⟨b1, 0, none⟩)), (2, .pointer (some ⟨b3, 0, none⟩)), (3, .pointer (some ⟨b5, 0, none⟩)), (4, I d1)] m1 w (spec_l07Own.post w0 L r1) := by
   intro e1
   induction e1 using Nat.strongRecOn with
   | _ e1 h1 =>
    intro k1 A25 c26 a1 y28 d1 w H HS
    cases e1 with
    | zero => rw [spec_l07Own.l1] at H; cases H
    | succ i1 =>
     rw [spec_l07Own.l1] at H
     subst f1
     refine rN 2 Z (rG (mV Z (fL b1 0 fl37_0 Z (lB 0 HS Z na35 Z (lS Z Z underlying35 Z (GO.lss Z Z Z Z (nL ?_)))))))
     rcases iE H with ⟨c47, H⟩ | ⟨c47, H⟩
     ·
      refine yB Z (tT c47) (rN 3 Z ?_)
      obtain ⟨c50, H⟩ := iN H
      obtain ⟨c54, H⟩ := iN H
      obtain ⟨c60, H⟩ := iN H
      refine G.lexS mixed (fun w => St w0 w (Box b1 37 [.slice A_a c1.length c_a] :: Box b5 37 [.slice A25 a1.length c26] :: L)) [1, 4, 7] [0, 3, 5, 1, 4, 6, 7, 2, 8, 9, 10, 11, 12] [12] (by kernel_rfl) (by kernel_rfl) (HS.drew.pk 4 [0, 2] Z) ?_
      replace HS := HS.drew
      refine qL Z Z (fun _ _ g => fL b5 0 fl37_0 Z g) Z (qL Z Z (fun _ _ g => fL b1 0 fl37_0 Z g) Z (GX.ps 1 Z (GX.ls Z Z Z (HS.pk 4 [0, 2] Z) (fun _ HS _ g => lB 1 HS Z na35 Z g) Z (GX.ls Z Z Z (HS.pk 4 [0, 2] Z) (fun _ HS _ g => lB 0 HS Z na35 Z g) Z (qL Z Z (fun _ _ g => GO.ix Z Z Z underlying35 sz136 ((rD 4 r_a) _ HS).2.2.1 c50.1 c50.2 Z g) Z (GX.ls Z Z Z (HS.pk 4 [0, 2] Z) (fun _ HS _ g => GO.ldRd (T := (Ty.slice 140 T_GFace)) (n := d1.toNat) (o := 0) HS (rD 2 r_a) Z Z (getD_some (d := []) (ltN c50)) Z Z na136 Z g) Z (GX.l2 Z (GO.buildS (el := 140) ([]) HS Z Z (fun _ => by kernel_rfl) Z fun b48 wd49 HS => GX.fin (HS.pk 5 [1, 3] Z) (GX.l2 Z ?_)))))))))
      replace HS := HS.boxRow (T := T_GFace) (j := 0) Z flat_flat (fun _ => ()) ([] : List GFace) Z (bndL Z)
      refine GO.lenC (t := 15) (m := ([] : List GFace).length) (c' := ([] : List GFace).length) Z Z Z (GO.appS (T := T_GFace) (j := 0) HS Z (RdIn.elem (rD 5 r_a) c50.1 c50.2) flat_flat Z Z Z underlying136 inf140 Z Z Z c54 Z (fun _ => Z) fun A52 c53 wd51 HS => GX.fin (HS.pk 5 [1, 3] Z) (GX.l2 Z (GO.buildS (el := 136) ([.slice A52 (([] : List GFace) ++ (c1.getD d1.toNat [])).length c53]) HS Z Z (fun _ => by kernel_rfl) Z fun b55 wd56 HS => GX.fin (HS.pk 6 [2, 4] Z) (GX.l2 Z ?_))))
      replace HS := HS.pk 6 [5, 0, 1, 2, 3, 4] Z
      refine GO.appR (S := T_GFace) (u := 140) HS Z Z Z underlying35 inf136 Z Z c60 Z fun A58 c59 y61 wd57 HS => GX.fin (HS.pk 5 [2, 4] Z) (qL Z Z (fun _ _ g => fL b5 0 fl37_0 Z g) Z (GX.l2 Z (GO.stBox (j := 4) (vs := [.slice A58 (a1 ++ [(([] : List GFace) ++ (c1.getD d1.toNat []))]).length c59]) ([.slice A58 (a1 ++ [(([] : List GFace) ++ (c1.getD d1.toNat []))]).length c59]) HS Z Z Z Z Z (htN na35 Z) Z Z Z fun wd62 HS => GX.finZ Z (GX.nil (rN 3 Z (G.weak ?_ (h1 i1 (Nat.lt_succ_of_le (lR _)) (Nat.le_of_succ_le k1) _ _ _ _ _ _ H (HS.pk 5 [2, 3, 4, 0] Z))))))))
      exact ⟨Z, Z, Z, Z, tv⟩
     refine nB Z (tF c47) (rN 2 Z (rG (GO.ldBoxA (j := 2) ([.slice A25 a1.length c26]) HS Z Z Z Z ag37 Z (GO.stBox (j := 1) (vs := [.slice A25 a1.length c26]) ([.slice A25 a1.length c26]) HS Z Z Z Z Z (htA ag37) Z Z Z fun wd63 HS => nL ?_))))
     obtain rfl := sI H
     exact rT _ func63 Z (Res1.boxA (j := 1) (vs := [.slice A25 a1.length c26]) HS Z Z Z ag37) ⟨_, _, _, Z, (HS.pk 4 [3] Z)⟩
  replace HS := HS.nilRow (Ty.slice 140 T_GFace) 136 (fun _ => ⟨none, 0, (fun _ => ())⟩)
  refine G.weak ?_ (g1 K (lR _) _ _ _ _ _ _ H (HS.pk 4 [3, 2, 1, 0] Z))
  exact ⟨Z, Z, Z, Z, tv⟩
theorem spec_l32Own.calls {c1 : Int} {a1 : List Int} {A_a : Option Addr} {c_a : Nat} {r1 : Int} {r2 : List Int} (HS : St w0 w (L)) (r_a : RdIn w0 L (TInt .i64) A_a c_a (fun _ => ()) a1) (H : spec_l32Own.f c1 a1 = some (r1, r2)) :
    Calls prog 64 #[.agg [I c1, .slice A_a a1.length c_a].toArray] w (spec_l32Own.post w0 L r1 r2) := by
  unfold spec_l32Own.f at H
  refine cG func64 Z ?_
  refine sQ (rG (GO.box (cs := [I c1, .slice A_a a1.length c_a]) HS Z Z Z Z fun b1 wd2 HS => GO.alloc HS Z zr43 Z Z fun b3 wd4 HS => nL (sQ ?_)))
  obtain ⟨c10, H⟩ := iN H
  refine G.lexS mixed (fun w => St w0 w (Box b1 43 [I c1, .slice A_a a1.length c_a] :: L)) [1, 4] [0, 3, 1, 4, 2, 5, 6, 7] [] (by kernel_rfl) (by kernel_rfl) (HS.drew.pk 2 [1] Z) ?_
  replace HS := HS.drew
  refine qL Z Z (fun _ _ g => fL b1 0 fl43_0 Z g) Z (qL Z Z (fun _ _ g => fL b1 1 fl43_1 Z g) Z (GX.ls Z Z Z (HS.pk 2 [1] Z) (fun _ HS _ g => lB 0 HS Z na2 Z g) Z (GX.ls Z Z Z (HS.pk 2 [1] Z) (fun _ HS _ g => lB 0 HS Z na41 Z g) Z (GX.l2 Z (GO.buildS (el := 2) ([]) HS Z Z (fun _ => by kernel_rfl) Z fun b5 wd6 HS => GX.fin (HS.pk 3 [2] Z) (GX.l2 Z ?_))))))
  replace HS := HS.boxRow (T := (TInt .i64)) (j := 0) Z flat_flat (fun _ => ()) ([] : List Int) Z (bndL Z)
  refine GO.lenC (t := 5) (m := ([] : List Int).length) (c' := ([] : List Int).length) Z Z Z (GO.appS (T := (TInt .i64)) (j := 0) HS Z (rD 3 r_a) flat_flat Z Z Z underlying41 inf2 Z Z Z c10 Z (fun _ => Z) fun A8 c9 wd7 HS => GX.fin (HS.pk 3 [2] Z) (qL Z Z (fun _ _ g => GO.buildV (.agg [I c1, .slice A8 (([] : List Int) ++ a1).length c9].toArray) Z Z (fun _ => by kernel_rfl) Z g) Z (GX.l2 Z (GO.stBox (j := 1) (vs := [I c1, .slice A8 (([] : List Int) ++ a1).length c9]) ([I c1, .slice A8 (([] : List Int) ++ a1).length c9]) HS Z Z Z Z Z (htA ag43) Z Z Z fun wd11 HS => GX.fin (HS.pk 3 [2] Z) (GX.nil ?_)))))
  obtain ⟨rfl, rfl⟩ := some2 H
  exact rT _ func64 Z (Res1.boxA (j := 1) (vs := [I c1, .slice A8 (([] : List Int) ++ a1).length c9]) HS Z Z Z ag43) ⟨_, _, Z, (HS.pk 3 [0] Z)⟩
theorem spec_l33OwnItem.calls {p1 : ByteArray} {q1 : Int} {t1 : List (List GFace)} {a1 : List GCrossing} {g1 y1 : Int} {s1 : List Int} {i1 h1 : Int} {d1 : List GMove} {e1 c1 : List Int} {A_a : Option Addr} {c_a : Nat} {y_a : Nat → (Ty.slice 140 T_GFace).Lay} {A_b : Option Addr} {c_b : Nat} {A_c : Option Addr} {c_c : Nat} {A_d : Option Addr} {c_d : Nat} {A_e : Option Addr} {c_e : Nat} {A_f : Option Addr} {c_f : Nat} {r1 : ByteArray} {r2 : Int} {r3 : List (List GFace)} {r4 : List GCrossing} {r5 r6 : Int} {r7 : List Int} {r8 r9 : Int} {r10 : List GMove} {r11 r12 : List Int} (HS : St w0 w (L)) (r_a : RdIn w0 L (Ty.slice 140 T_GFace) A_a c_a y_a t1) (r_b : RdIn w0 L T_GCrossing A_b c_b (fun _ => ()) a1) (r_c : RdIn w0 L (TInt .i64) A_c c_c (fun _ => ()) s1) (r_d : RdIn w0 L T_GMove A_d c_d (fun _ => ()) d1) (r_e : RdIn w0 L (TInt .i64) A_e c_e (fun _ => ()) e1) (r_f : RdIn w0 L (TInt .i64) A_f c_f (fun _ => ()) c1) (H : spec_l33OwnItem.f K p1 q1 t1 a1 g1 y1 s1 i1 h1 d1 e1 c1 = some (r1, r2, r3, r4, r5, r6, r7, r8, r9, r10, r11, r12)) :
    Calls prog 33 #[.agg [.string p1, I q1, .slice A_a t1.length c_a, .slice A_b a1.length c_b, I g1, I y1, .slice A_c s1.length c_c, I i1, I h1, .slice A_d d1.length c_d, .slice A_e e1.length c_e, .slice A_f c1.length c_f].toArray] w (spec_l33OwnItem.post w0 L r1 r2 r3 r4 r5 r6 r7 r8 r9 r10 r11 r12) := by
  unfold spec_l33OwnItem.f at H
  refine cG func33 Z ?_
  refine sQ (rG (GO.box (cs := [.string p1, I q1, .slice A_a t1.length c_a, .slice A_b a1.length c_b, I g1, I y1, .slice A_c s1.length c_c, I i1, I h1, .slice A_d d1.length c_d, .slice A_e e1.length c_e, .slice A_f c1.length c_f]) HS Z Z Z Z fun b1 wd2 HS => GO.alloc HS Z zr48 Z Z fun b3 wd4 HS => nL (sQ (rG (fL b1 7 fl48_5 Z (GO.ldBoxA (j := 1) ([I i1, I h1, .slice A_d d1.length c_d, .slice A_e e1.length c_e, .slice A_f c1.length c_f]) HS Z Z Z Z ag46 Z (GO.alloc HS Z zr46 Z Z fun b5 wd6 HS => GO.stBox (j := 0) (vs := [I i1, I h1, .slice A_d d1.length c_d, .slice A_e e1.length c_e, .slice A_f c1.length c_f]) ([I i1, I h1, .slice A_d d1.length c_d, .slice A_e e1.length c_e, .slice A_f c1.length c_f]) HS Z Z Z Z Z (htA ag46) Z Z Z fun wd7 HS => nL (sQ ?_))))))))
  obtain ⟨c13, H⟩ := iN H
  refine rG (GO.buildS (el := 110) ([]) HS Z Z (fun _ => by kernel_rfl) Z fun b8 wd9 HS => fL b5 2 fl46_2 Z (lB 1 HS Z na44 Z ?_))
  replace HS := HS.boxRow (T := T_GMove) (j := 0) Z flat_flat (fun _ => ()) ([] : List GMove) Z (bndL Z)
  refine GO.lenC (t := 7) (m := ([] : List GMove).length) (c' := ([] : List GMove).length) Z Z Z (GO.appS (T := T_GMove) (j := 0) HS Z (rD 4 r_d) flat_flat Z Z Z underlying44 inf110 Z Z Z c13 Z (fun _ => Z) fun A11 c12 wd10 HS => fL b5 2 fl46_2 Z (GO.stBox (j := 1) (vs := [.slice A11 (([] : List GMove) ++ d1).length c12]) ([I i1, I h1, .slice A11 (([] : List GMove) ++ d1).length c12, .slice A_e e1.length c_e, .slice A_f c1.length c_f]) HS Z Z Z Z Z (htN na44 Z) Z Z Z fun wd14 HS => nL (sQ ?_)))
  obtain ⟨c20, H⟩ := iN H
  refine rG (GO.buildS (el := 2) ([]) HS Z Z (fun _ => by kernel_rfl) Z fun b15 wd16 HS => fL b5 3 fl46_3 Z (lB 2 HS Z na41 Z ?_))
  replace HS := HS.boxRow (T := (TInt .i64)) (j := 0) Z flat_flat (fun _ => ()) ([] : List Int) Z (bndL Z)
  refine GO.lenC (t := 12) (m := ([] : List Int).length) (c' := ([] : List Int).length) Z Z Z (GO.appS (T := (TInt .i64)) (j := 0) HS Z (rD 5 r_e) flat_flat Z Z Z underlying41 inf2 Z Z Z c20 Z (fun _ => Z) fun A18 c19 wd17 HS => fL b5 3 fl46_3 Z (GO.stBox (j := 2) (vs := [.slice A18 (([] : List Int) ++ e1).length c19]) ([I i1, I h1, .slice A11 (([] : List GMove) ++ d1).length c12, .slice A18 (([] : List Int) ++ e1).length c19, .slice A_f c1.length c_f]) HS Z Z Z Z Z (htN na41 Z) Z Z Z fun wd21 HS => nL (sQ ?_)))
  obtain ⟨c27, H⟩ := iN H
  refine rG (GO.buildS (el := 2) ([]) HS Z Z (fun _ => by kernel_rfl) Z fun b22 wd23 HS => fL b5 4 fl46_4 Z (lB 3 HS Z na41 Z ?_))
  replace HS := HS.boxRow (T := (TInt .i64)) (j := 0) Z flat_flat (fun _ => ()) ([] : List Int) Z (bndL Z)
  refine GO.lenC (t := 17) (m := ([] : List Int).length) (c' := ([] : List Int).length) Z Z Z (GO.appS (T := (TInt .i64)) (j := 0) HS Z (rD 6 r_f) flat_flat Z Z Z underlying41 inf2 Z Z Z c27 Z (fun _ => Z) fun A25 c26 wd24 HS => fL b5 4 fl46_4 Z (GO.stBox (j := 3) (vs := [.slice A25 (([] : List Int) ++ c1).length c26]) ([I i1, I h1, .slice A11 (([] : List GMove) ++ d1).length c12, .slice A18 (([] : List Int) ++ e1).length c19, .slice A25 (([] : List Int) ++ c1).length c26]) HS Z Z Z Z Z (htN na41 Z) Z Z Z fun wd28 HS => nL (sQ ?_)))
  obtain ⟨c34, H⟩ := iN H
  refine G.regionAny mixed (by decide) (fun b a w => ∃ (a2 : Value) (g2 : Value) (d2 : Value) (x1 : Value) (b2 : Value) (z1 : Value) (v1 : Value) (c2 : Value) (u1 : Value) (e2 : Value) (b29 : Nat) (A32 : Option Addr) (c33 : Nat) (b35 : Nat) (i2 : HObj) (h2 : HObj), Sat 44 [(4, e2), (22, a2), (23, g2), (24, d2), (25, x1), (26, b2), (27, z1), (28, v1), (29, c2), (30, u1), (1, .pointer (some ⟨b1, 0, none⟩)), (2, .pointer (some ⟨b3, 0, none⟩)), (3, .pointer (some ⟨b5, 0, none⟩))] a ∧ St w0 w (Own (TInt .i64) 2 A25 c26 (fun _ => ()) (([] : List Int) ++ c1) :: Own (TInt .i64) 2 A18 c19 (fun _ => ()) (([] : List Int) ++ e1) :: Own T_GMove 110 A11 c12 (fun _ => ()) (([] : List GMove) ++ d1) :: Box b5 46 [I i1, I h1, .slice A11 (([] : List GMove) ++ d1).length c12, .slice A18 (([] : List Int) ++ e1).length c19, .slice A25 (([] : List Int) ++ c1).length c26] :: Box b3 48 [.string ByteArray.empty, I 0, .slice none 0 0, .slice none 0 0, I 0, I 0, .slice none 0 0, I 0, I 0, .slice none 0 0, .slice none 0 0, .slice none 0 0] :: Box b1 48 [.string p1, I q1, .slice A_a t1.length c_a, .slice A_b a1.length c_b, I g1, I y1, .slice A_c s1.length c_c, I i1, I h1, .slice A_d d1.length c_d, .slice A_e e1.length c_e, .slice A_f c1.length c_f] :: i2 :: h2 :: L) ∧ (b 9 = true → e2 = (.pointer (some ⟨b35, 0, none⟩))) ∧ (b 0 = true → a2 = (.slice (some ⟨b29, 0, none⟩) 0 0)) ∧ (b 1 = true → g2 = (.pointer (some ⟨b1, 3, none⟩))) ∧ (b 2 = true → d2 = (.pointer (some ⟨b1, 3, none⟩))) ∧ (b 3 = true → x1 = (.slice A_b a1.length c_b)) ∧ (b 4 = true → b2 = (.slice A32 (([] : List GCrossing) ++ a1).length c33)) ∧ (b 5 = true → z1 = (.pointer (some ⟨b1, 3, none⟩))) ∧ (b 6 = true → v1 = (.pointer (some ⟨b1, 4, none⟩))) ∧ (b 7 = true → c2 = (I g1)) ∧ (b 8 = true → u1 = (.agg [.slice A32 (([] : List GCrossing) ++ a1).length c33, I g1].toArray)) ∧ (b 0 = true → b 4 = false → i2 = Box b29 143 []) ∧ (b 4 = true → i2 = Own T_GCrossing 143 A32 c33 (fun _ => ()) (([] : List GCrossing) ++ a1)) ∧ (b 9 = true → b 10 = false → h2 = Box b35 40 [.slice none 0 0, I 0]) ∧ (b 10 = true → h2 = Box b35 40 [.slice A32 (([] : List GCrossing) ++ a1).length c33, I g1])) ?_ ?_ ?_
  ·
   intro a hs
   obtain ⟨e2, hs⟩ := hs.ext (d := 4) Z
   obtain ⟨a2, hs⟩ := hs.ext (d := 22) Z
   obtain ⟨g2, hs⟩ := hs.ext (d := 23) Z
   obtain ⟨d2, hs⟩ := hs.ext (d := 24) Z
   obtain ⟨x1, hs⟩ := hs.ext (d := 25) Z
   obtain ⟨b2, hs⟩ := hs.ext (d := 26) Z
   obtain ⟨z1, hs⟩ := hs.ext (d := 27) Z
   obtain ⟨v1, hs⟩ := hs.ext (d := 28) Z
   obtain ⟨c2, hs⟩ := hs.ext (d := 29) Z
   obtain ⟨u1, hs⟩ := hs.ext (d := 30) Z
   exact ⟨a2, g2, d2, x1, b2, z1, v1, c2, u1, e2, 0, none, 0, 0, Emp, Emp, hs.weak ⟨Z, Z, Z, Z, Z, Z, Z, Z, Z, Z, Z, Z, Z, tv⟩, (HS.drew.emp.emp.pk 8 [2, 3, 4, 5, 6, 7, 1, 0] Z), fun h => Bool.noConfusion h, fun h => Bool.noConfusion h, fun h => Bool.noConfusion h, fun h => Bool.noConfusion h, fun h => Bool.noConfusion h, fun h => Bool.noConfusion h, fun h => Bool.noConfusion h, fun h => Bool.noConfusion h, fun h => Bool.noConfusion h, fun h => Bool.noConfusion h, fun h => Bool.noConfusion h, fun h => Bool.noConfusion h, fun h => Bool.noConfusion h, fun h => Bool.noConfusion h⟩
  ·
   intro j hj b a w
   refine exI fun a2 => exI fun g2 => exI fun d2 => exI fun x1 => exI fun b2 => exI fun z1 => exI fun v1 => exI fun c2 => exI fun u1 => exI fun e2 => exI fun b29 => exI fun A32 => exI fun c33 => exI fun b35 => exI fun i2 => exI fun h2 => anI fun hs => anI fun HS => anI fun f9 => anI fun f0 => anI fun f1 => anI fun f2 => anI fun f3 => anI fun f4 => anI fun f5 => anI fun f6 => anI fun f7 => anI fun f8 => anI fun m1 => anI fun k1 => anI fun n1 => fun o1 hb hd hcl => ?_
   match j, hj with
   | 0, _ =>
    refine GO.at hs (GO.buildS (el := 143) ([]) HS Z Z (fun _ => by kernel_rfl) Z fun b29 wd30 HS => GO.fin (fun a hs => ⟨(.slice (some ⟨b29, 0, none⟩) 0 0), _, _, _, _, _, _, _, _, _, b29, A32, c33, b35, Box b29 143 [], _, by exact hs.setAt 1 Z, HS.pk 9 [1, 2, 3, 4, 5, 6, 0, 8] Z, f9, fun _ => Z, f1, f2, f3, f4, f5, f6, f7, f8, fun _ _ => Z, fun hh => (Bool.noConfusion ((hcl 4 (by decide) hh 0 (by decide)).symm.trans hb)), n1, o1⟩))
   | 1, _ =>
    refine GO.at hs (fL b1 3 fl48_3 Z (GO.fin (fun a hs => ⟨_, (.pointer (some ⟨b1, 3, none⟩)), _, _, _, _, _, _, _, _, b29, A32, c33, b35, _, _, by exact hs.setAt 2 Z, HS, f9, f0, fun _ => Z, f2, f3, f4, f5, f6, f7, f8, m1, k1, n1, o1⟩)))
   | 2, _ =>
    have hb1 : b 1 = true := hd 1 (by decide)
    obtain rfl := f1 hb1
    refine GO.at hs (fL b1 3 fl40_0 Z (GO.fin (fun a hs => ⟨_, _, (.pointer (some ⟨b1, 3, none⟩)), _, _, _, _, _, _, _, b29, A32, c33, b35, _, _, by exact hs.setAt 3 Z, HS, f9, f0, f1, fun _ => Z, f3, f4, f5, f6, f7, f8, m1, k1, n1, o1⟩)))
   | 3, _ =>
    have hb2 : b 2 = true := hd 2 (by decide)
    obtain rfl := f2 hb2
    refine GO.at hs (lB 5 HS Z na38 Z (GO.fin (fun a hs => ⟨_, _, _, (.slice A_b a1.length c_b), _, _, _, _, _, _, b29, A32, c33, b35, _, _, by exact hs.setAt 4 Z, HS, f9, f0, f1, f2, fun _ => Z, f4, f5, f6, f7, f8, m1, k1, n1, o1⟩)))
   | 4, _ =>
    have hb0 : b 0 = true := hd 0 (by decide)
    obtain rfl := f0 hb0
    have hb3 : b 3 = true := hd 3 (by decide)
    obtain rfl := f3 hb3
    obtain rfl := m1 hb0 hb
    refine GO.at hs ?_
    replace HS := HS.boxRow (T := T_GCrossing) (j := 6) Z flat_flat (fun _ => ()) ([] : List GCrossing) Z (bndL Z)
    refine GO.lenC (t := 22) (m := ([] : List GCrossing).length) (c' := ([] : List GCrossing).length) Z Z Z (GO.appS (T := T_GCrossing) (j := 6) HS Z (rD 8 r_b) flat_flat Z Z Z underlying38 inf143 Z Z Z c34 Z (fun _ => Z) fun A32 c33 wd31 HS => GO.fin (fun a hs => ⟨_, _, _, _, (.slice A32 (([] : List GCrossing) ++ a1).length c33), _, _, _, _, _, b29, A32, c33, b35, Own T_GCrossing 143 A32 c33 (fun _ => ()) (([] : List GCrossing) ++ a1), _, hs.weak ⟨Z, Z, Z, Z, Z, Z, Z, Z, Z, Z, Z, Z, Z, tv⟩, HS, f9, f0, f1, f2, f3, fun _ => Z, f5, f6, f7, fun hh => (Bool.noConfusion ((hcl 8 (by decide) hh 4 (by decide)).symm.trans hb)), fun _ h => Bool.noConfusion h, fun _ => Z, n1, fun hh => (Bool.noConfusion ((hcl 10 (by decide) hh 4 (by decide)).symm.trans hb))⟩))
   | 5, _ =>
    refine GO.at hs (fL b1 3 fl48_3 Z (GO.fin (fun a hs => ⟨_, _, _, _, _, (.pointer (some ⟨b1, 3, none⟩)), _, _, _, _, b29, A32, c33, b35, _, _, by exact hs.setAt 6 Z, HS, f9, f0, f1, f2, f3, f4, fun _ => Z, f6, f7, f8, m1, k1, n1, o1⟩)))
   | 6, _ =>
    have hb5 : b 5 = true := hd 5 (by decide)
    obtain rfl := f5 hb5
    refine GO.at hs (fL b1 4 fl40_1 Z (GO.fin (fun a hs => ⟨_, _, _, _, _, _, (.pointer (some ⟨b1, 4, none⟩)), _, _, _, b29, A32, c33, b35, _, _, by exact hs.setAt 7 Z, HS, f9, f0, f1, f2, f3, f4, f5, fun _ => Z, f7, f8, m1, k1, n1, o1⟩)))
   | 7, _ =>
    have hb6 : b 6 = true := hd 6 (by decide)
    obtain rfl := f6 hb6
    refine GO.at hs (lB 5 HS Z na2 Z (GO.fin (fun a hs => ⟨_, _, _, _, _, _, _, (I g1), _, _, b29, A32, c33, b35, _, _, by exact hs.setAt 8 Z, HS, f9, f0, f1, f2, f3, f4, f5, f6, fun _ => Z, f8, m1, k1, n1, o1⟩)))
   | 8, _ =>
    have hb4 : b 4 = true := hd 4 (by decide)
    obtain rfl := f4 hb4
    have hb7 : b 7 = true := hd 7 (by decide)
    obtain rfl := f7 hb7
    refine GO.at hs (GO.buildV (.agg [.slice A32 (([] : List GCrossing) ++ a1).length c33, I g1].toArray) Z Z (fun _ => by kernel_rfl) Z (GO.fin (fun a hs => ⟨_, _, _, _, _, _, _, _, (.agg [.slice A32 (([] : List GCrossing) ++ a1).length c33, I g1].toArray), _, b29, A32, c33, b35, _, _, by exact hs.setAt 9 Z, HS, f9, f0, f1, f2, f3, f4, f5, f6, f7, fun _ => Z, m1, k1, n1, o1⟩)))
   | 9, _ =>
    refine GO.at hs (GO.alloc HS Z zr40 Z Z fun b35 wd36 HS => GO.fin (fun a hs => ⟨_, _, _, _, _, _, _, _, _, (.pointer (some ⟨b35, 0, none⟩)), b29, A32, c33, b35, _, Box b35 40 [.slice none 0 0, I 0], by exact hs.setAt 0 Z, HS.pk 9 [1, 2, 3, 4, 5, 6, 7, 0] Z, fun _ => Z, f0, f1, f2, f3, f4, f5, f6, f7, f8, m1, k1, fun _ _ => Z, fun hh => (Bool.noConfusion ((hcl 10 (by decide) hh 9 (by decide)).symm.trans hb))⟩))
   | 10, _ =>
    have hb9 : b 9 = true := hd 9 (by decide)
    obtain rfl := f9 hb9
    have hb8 : b 8 = true := hd 8 (by decide)
    obtain rfl := f8 hb8
    obtain rfl := n1 hb9 hb
    refine GO.at hs (GO.stBox (j := 7) (vs := [.slice A32 (([] : List GCrossing) ++ a1).length c33, I g1]) ([.slice A32 (([] : List GCrossing) ++ a1).length c33, I g1]) HS Z Z Z Z Z (htA ag40) Z Z Z fun wd37 HS => GO.fin (fun a hs => ⟨_, _, _, _, _, _, _, _, _, _, b29, A32, c33, b35, _, Box b35 40 [.slice A32 (([] : List GCrossing) ++ a1).length c33, I g1], hs, HS, f9, f0, f1, f2, f3, f4, f5, f6, f7, f8, m1, k1, fun _ h => Bool.noConfusion h, fun _ => Z⟩))
   | k + 11, hj => exact absurd hj (Nat.not_lt.2 (Nat.le_add_left 11 k))
  ·
   intro b a w hall
   refine exI fun a2 => exI fun g2 => exI fun d2 => exI fun x1 => exI fun b2 => exI fun z1 => exI fun v1 => exI fun c2 => exI fun u1 => exI fun e2 => exI fun b29 => exI fun A32 => exI fun c33 => exI fun b35 => exI fun i2 => exI fun h2 => anI fun hs => anI fun HS => anI fun f9 => anI fun f0 => anI fun f1 => anI fun f2 => anI fun f3 => anI fun f4 => anI fun f5 => anI fun f6 => anI fun f7 => anI fun f8 => anI fun m1 => anI fun k1 => anI fun n1 => fun o1 => ?_
   obtain rfl := f9 (hall 9 (by decide))
   obtain rfl := f0 (hall 0 (by decide))
   obtain rfl := f1 (hall 1 (by decide))
   obtain rfl := f2 (hall 2 (by decide))
   obtain rfl := f3 (hall 3 (by decide))
   obtain rfl := f4 (hall 4 (by decide))
   obtain rfl := f5 (hall 5 (by decide))
   obtain rfl := f6 (hall 6 (by decide))
   obtain rfl := f7 (hall 7 (by decide))
   obtain rfl := f8 (hall 8 (by decide))
   obtain rfl := k1 (hall 4 (by decide))
   obtain rfl := o1 (hall 10 (by decide))
   refine G.at hs (sQ ?_)
   obtain ⟨t38, h39, H⟩ := bI H
   obtain ⟨t45, t46, h47, H⟩ := bind2_elim H
   refine G.lexS mixed (fun w => St w0 w (Box b5 46 [I i1, I h1, .slice A11 (([] : List GMove) ++ d1).length c12, .slice A18 (([] : List Int) ++ e1).length c19, .slice A25 (([] : List Int) ++ c1).length c26] :: Box b1 48 [.string p1, I q1, .slice A_a t1.length c_a, .slice A_b a1.length c_b, I g1, I y1, .slice A_c s1.length c_c, I i1, I h1, .slice A_d d1.length c_d, .slice A_e e1.length c_e, .slice A_f c1.length c_f] :: Box b35 40 [.slice A32 (([] : List GCrossing) ++ a1).length c33, I g1] :: L)) [1, 3, 5, 7, 9, 11] [0, 2, 4, 8, 1, 3, 5, 7, 9, 11, 6, 10, 12, 13] [] (by kernel_rfl) (by kernel_rfl) (HS.drew.pk 8 [3, 5, 7] Z) ?_
   replace HS := HS.drew
   refine qL Z Z (fun _ _ g => fL b1 0 fl48_0 Z g) Z (qL Z Z (fun _ _ g => fL b1 1 fl48_1 Z g) Z (qL Z Z (fun _ _ g => fL b1 2 fl48_2 Z g) Z (qL Z Z (fun _ _ g => fL b1 5 fl48_4 Z g) Z (GX.ls Z Z Z (HS.pk 8 [3, 5, 7] Z) (fun _ HS _ g => lB 1 HS Z na9 Z g) Z (GX.ls Z Z Z (HS.pk 8 [3, 5, 7] Z) (fun _ HS _ g => lB 1 HS Z na2 Z g) Z (GX.ls Z Z Z (HS.pk 8 [3, 5, 7] Z) (fun _ HS _ g => GO.ldBoxA (j := 1) ([.slice A_a t1.length c_a]) HS Z Z Z Z ag37 Z g) Z (GX.ls Z Z Z (HS.pk 8 [3, 5, 7] Z) (fun _ HS _ g => GO.ldBoxA (j := 2) ([.slice A32 (([] : List GCrossing) ++ a1).length c33, I g1]) HS Z Z Z Z ag40 Z g) Z (GX.ls Z Z Z (HS.pk 8 [3, 5, 7] Z) (fun _ HS _ g => GO.ldBoxA (j := 1) ([I y1, .slice A_c s1.length c_c]) HS Z Z Z Z ag43 Z g) Z (GX.ls Z Z Z (HS.pk 8 [3, 5, 7] Z) (fun _ HS _ g => GO.ldBoxA (j := 0) ([I i1, I h1, .slice A11 (([] : List GMove) ++ d1).length c12, .slice A18 (([] : List Int) ++ e1).length c19, .slice A25 (([] : List Int) ++ c1).length c26]) HS Z Z Z Z ag46 Z g) Z (GX.l2 Z (fN Z func63 fok63.1 fok63.2 Z Z (spec_l07Own.calls HS (rD 8 r_a) h39) (fun _ wd43 ⟨A40, c41, y42, h44, HS⟩ => ⟨_, h44, (GX.fin (HS.pk 9 [4, 6, 8] Z) (GX.l2 Z (fN Z func64 fok64.1 fok64.2 Z Z (spec_l32Own.calls HS (rD 9 r_c) h47) (fun _ wd50 ⟨A48, c49, h51, HS⟩ => ⟨_, h51, ?_⟩))))⟩))))))))))))
   refine GX.fin (HS.pk 10 [5, 7, 9] Z) (qL Z Z (fun _ _ g => GO.buildV (.agg [.string p1, I q1, .slice A40 t38.length c41, .slice A32 (([] : List GCrossing) ++ a1).length c33, I g1, I t45, .slice A48 t46.length c49, I i1, I h1, .slice A11 (([] : List GMove) ++ d1).length c12, .slice A18 (([] : List Int) ++ e1).length c19, .slice A25 (([] : List Int) ++ c1).length c26].toArray) Z Z (fun _ => by kernel_rfl) Z g) Z (GX.l2 Z (GO.stBox (j := 6) (vs := [.string p1, I q1, .slice A40 t38.length c41, .slice A32 (([] : List GCrossing) ++ a1).length c33, I g1, I t45, .slice A48 t46.length c49, I i1, I h1, .slice A11 (([] : List GMove) ++ d1).length c12, .slice A18 (([] : List Int) ++ e1).length c19, .slice A25 (([] : List Int) ++ c1).length c26]) ([.string p1, I q1, .slice A40 t38.length c41, .slice A32 (([] : List GCrossing) ++ a1).length c33, I g1, I t45, .slice A48 t46.length c49, I i1, I h1, .slice A11 (([] : List GMove) ++ d1).length c12, .slice A18 (([] : List Int) ++ e1).length c19, .slice A25 (([] : List Int) ++ c1).length c26]) HS Z Z Z Z Z (htA ag48) Z Z Z fun wd52 HS => GX.fin (HS.pk 10 [5, 7, 9] Z) (GX.nil ?_))))
   obtain ⟨rfl, rfl, rfl, rfl, rfl, rfl, rfl, rfl, rfl, rfl, rfl, rfl⟩ := some12 H
   exact rT _ func33 Z (Res1.boxA (j := 6) (vs := [.string p1, I q1, .slice A40 t38.length c41, .slice A32 (([] : List GCrossing) ++ a1).length c33, I g1, I t45, .slice A48 t46.length c49, I i1, I h1, .slice A11 (([] : List GMove) ++ d1).length c12, .slice A18 (([] : List Int) ++ e1).length c19, .slice A25 (([] : List Int) ++ c1).length c26]) HS Z Z Z ag48) ⟨_, _, _, _, _, _, _, _, _, _, _, _, _, Z, (HS.pk 10 [1, 8, 0, 4, 3, 2] Z)⟩
theorem spec_FindItem.calls {c1 : List GItem} {a1 d1 : List (List GItem)} {name : ByteArray} {A_a : Option Addr} {c_a : Nat} {y_a : Nat → T_GItem_47.Lay} {A_b : Option Addr} {c_b : Nat} {y_b : Nat → (Ty.slice 48 T_GItem_47).Lay} {A_c : Option Addr} {c_c : Nat} {y_c : Nat → (Ty.slice 48 T_GItem_47).Lay} {r1 : ByteArray} {r2 : Int} {r3 : List (List GFace)} {r4 : List GCrossing} {r5 r6 : Int} {r7 : List Int} {r8 r9 : Int} {r10 : List GMove} {r11 r12 : List Int} {r13 : Bool} (HS : St w0 w (L)) (r_a : RdIn w0 L T_GItem_47 A_a c_a y_a c1) (r_b : RdIn w0 L (Ty.slice 48 T_GItem_47) A_b c_b y_b a1) (r_c : RdIn w0 L (Ty.slice 48 T_GItem_47) A_c c_c y_c d1) (H : spec_FindItem.f K c1 a1 d1 name = some (r1, r2, r3, r4, r5, r6, r7, r8, r9, r10, r11, r12, r13)) :
    Calls prog 12 #[.agg [.slice A_a c1.length c_a, .slice A_b a1.length c_b, .slice A_c d1.length c_c].toArray, .string name] w (spec_FindItem.post w0 L r1 r2 r3 r4 r5 r6 r7 r8 r9 r10 r11 r12 r13) := by
  unfold spec_FindItem.f at H
  refine cG func12 Z ?_
  refine sQ (rG (GO.box (cs := [.slice A_a c1.length c_a, .slice A_b a1.length c_b, .slice A_c d1.length c_c]) HS Z Z Z Z fun b1 wd2 HS => GO.alloc HS Z zr48 Z Z fun b3 wd4 HS => aS Z (nL (sQ ?_))))
  obtain ⟨t5, h6, H⟩ := bI H
  refine rG (fL b1 0 fl31_0 Z (lB 1 HS Z na28 Z (mV Z (fN Z func32 fok32.1 fok32.2 Z Z (spec_l33Find.calls HS (rD 2 r_a) h6) (fun _ wd7 ⟨h8, HS⟩ => ⟨_, h8, (aS Z (nL (rN 2 Z ?_)))⟩)))))
  obtain ⟨t14, h15, H⟩ := bI H
  rcases iE H with ⟨c18, H⟩ | ⟨c18, H⟩
  ·
   refine rG (GO.ldBoxA (j := 1) ([.slice A_a c1.length c_a, .slice A_b a1.length c_b, .slice A_c d1.length c_c]) HS Z Z Z Z ag31 Z (fN Z func8 fok8.1 fok8.2 Z Z (spec_ValidBench.calls HS (rD 2 r_a) (rD 2 r_b) (rD 2 r_c) h15) (fun _ wd16 ⟨h17, HS⟩ => ⟨_, h17, (pS 2 Z (kN 14 Z (congrArg Bool.not c18) (oN Z (mV Z (bK (oN Z (GO.lss Z Z Z Z (bK (GO.pickF Z Z Z Z Z (nL ?_))))))))))⟩)))
   rcases iE H with ⟨c19, H⟩ | ⟨c19, H⟩
   ·
    refine yB Z (tT c19) (sQ (rG (GO.buildV (.agg [.string ByteArray.empty, I 0, .slice none 0 0, .slice none 0 0, I 0, I 0, .slice none 0 0, I 0, I 0, .slice none 0 0, .slice none 0 0, .slice none 0 0].toArray) Z Z (fun _ => by kernel_rfl) Z (GO.stBox (j := 0) (vs := [.string ByteArray.empty, I 0, .slice none 0 0, .slice none 0 0, I 0, I 0, .slice none 0 0, I 0, I 0, .slice none 0 0, .slice none 0 0, .slice none 0 0]) ([.string ByteArray.empty, I 0, .slice none 0 0, .slice none 0 0, I 0, I 0, .slice none 0 0, I 0, I 0, .slice none 0 0, .slice none 0 0, .slice none 0 0]) HS Z Z Z Z Z (htA ag48) Z Z Z fun wd20 HS => aS Z (nL ?_)))))
    replace HS := HS.nilRow (Ty.slice 140 T_GFace) 136 (fun _ => ⟨none, 0, (fun _ => ())⟩)
    replace HS := HS.nilRow T_GCrossing 143 (fun _ => ())
    replace HS := HS.nilRow (TInt .i64) 2 (fun _ => ())
    replace HS := HS.nilRow T_GMove 110 (fun _ => ())
    replace HS := HS.nilRow (TInt .i64) 2 (fun _ => ())
    replace HS := HS.nilRow (TInt .i64) 2 (fun _ => ())
    obtain ⟨rfl, rfl, rfl, rfl, rfl, rfl, rfl, rfl, rfl, rfl, rfl, rfl, rfl⟩ := some13 H
    exact G.ret2 _ _ func12 Z (Res1.boxA (j := 6) (vs := [.string ByteArray.empty, I 0, .slice none 0 0, .slice none 0 0, I 0, I 0, .slice none 0 0, I 0, I 0, .slice none 0 0, .slice none 0 0, .slice none 0 0]) HS Z Z Z ag48) Z ⟨_, _, _, _, _, _, _, _, _, _, _, _, _, Z, (HS.pk 8 [5, 4, 3, 2, 1, 0] Z)⟩
   refine nB Z (tF c19) (rN 2 Z ?_)
   obtain ⟨c21, H⟩ := iN H
   obtain ⟨e22, h23, H⟩ := bnd_elim H
   obtain ⟨t24, t25, t26, t27, t28, t29, t30, t31, t32, t33, t34, t35, h36, H⟩ := bind12_elim H
   refine rG (fL b1 0 fl31_0 Z (lB 1 HS Z na28 Z (mV Z (GO.ix Z Z Z underlying28 sz48 ((rD 2 r_a) _ HS).2.2.1 c21.1 c21.2 Z (GO.ldRdA (T := T_GItem_47) (n := t5.toNat) HS (rD 2 r_a) Z Z (getD_eq (ltN c21) h23) ag48 Z (fN Z func33 fok33.1 fok33.2 Z Z (spec_l33OwnItem.calls HS (RdIn.fld (rD 2 r_a) (getD_eq (ltN c21) h23) (fun _ h => h.2.2.1)) (RdIn.fld (rD 2 r_a) (getD_eq (ltN c21) h23) (fun _ h => h.2.2.2.1)) (RdIn.fld (rD 2 r_a) (getD_eq (ltN c21) h23) (fun _ h => h.2.2.2.2.2.2.1)) (RdIn.fld (rD 2 r_a) (getD_eq (ltN c21) h23) (fun _ h => h.2.2.2.2.2.2.2.2.2.1)) (RdIn.fld (rD 2 r_a) (getD_eq (ltN c21) h23) (fun _ h => h.2.2.2.2.2.2.2.2.2.2.1)) (RdIn.fld (rD 2 r_a) (getD_eq (ltN c21) h23) (fun _ h => h.2.2.2.2.2.2.2.2.2.2.2)) h36) (fun _ wd50 ⟨A37, c38, y39, A40, c41, A42, c43, A44, c45, A46, c47, A48, c49, h51, HS⟩ => ⟨_, h51, (GO.stBox (j := 6) (vs := [.string t24, I t25, .slice A37 t26.length c38, .slice A40 t27.length c41, I t28, I t29, .slice A42 t30.length c43, I t31, I t32, .slice A44 t33.length c45, .slice A46 t34.length c47, .slice A48 t35.length c49]) ([.string t24, I t25, .slice A37 t26.length c38, .slice A40 t27.length c41, I t28, I t29, .slice A42 t30.length c43, I t31, I t32, .slice A44 t33.length c45, .slice A46 t34.length c47, .slice A48 t35.length c49]) HS Z Z Z Z Z (htA ag48) Z Z Z fun wd52 HS => aS Z (nL ?_))⟩)))))))
   obtain ⟨rfl, rfl, rfl, rfl, rfl, rfl, rfl, rfl, rfl, rfl, rfl, rfl, rfl⟩ := some13 H
   exact G.ret2 _ _ func12 Z (Res1.boxA (j := 6) (vs := [.string t24, I t25, .slice A37 t26.length c38, .slice A40 t27.length c41, I t28, I t29, .slice A42 t30.length c43, I t31, I t32, .slice A44 t33.length c45, .slice A46 t34.length c47, .slice A48 t35.length c49]) HS Z Z Z ag48) Z ⟨_, _, _, _, _, _, _, _, _, _, _, _, _, Z, (HS.pk 8 [0, 1, 2, 3, 4, 5] Z)⟩
  refine rG (GO.ldBoxA (j := 1) ([.slice A_a c1.length c_a, .slice A_b a1.length c_b, .slice A_c d1.length c_c]) HS Z Z Z Z ag31 Z (fN Z func8 fok8.1 fok8.2 Z Z (spec_ValidBench.calls HS (rD 2 r_a) (rD 2 r_b) (rD 2 r_c) h15) (fun _ wd16 ⟨h17, HS⟩ => ⟨_, h17, (pS 2 Z (kN 14 Z (congrArg Bool.not (bnot_of c18)) (oF Z (oF Z (GO.pickT Z Z Z Z Z (nL (rN 2 Z (rG (GO.buildV (.agg [.string ByteArray.empty, I 0, .slice none 0 0, .slice none 0 0, I 0, I 0, .slice none 0 0, I 0, I 0, .slice none 0 0, .slice none 0 0, .slice none 0 0].toArray) Z Z (fun _ => by kernel_rfl) Z (GO.stBox (j := 0) (vs := [.string ByteArray.empty, I 0, .slice none 0 0, .slice none 0 0, I 0, I 0, .slice none 0 0, I 0, I 0, .slice none 0 0, .slice none 0 0, .slice none 0 0]) ([.string ByteArray.empty, I 0, .slice none 0 0, .slice none 0 0, I 0, I 0, .slice none 0 0, I 0, I 0, .slice none 0 0, .slice none 0 0, .slice none 0 0]) HS Z Z Z Z Z (htA ag48) Z Z Z fun wd53 HS => aS Z (nL ?_)))))))))))⟩)))
  replace HS := HS.nilRow (Ty.slice 140 T_GFace) 136 (fun _ => ⟨none, 0, (fun _ => ())⟩)
  replace HS := HS.nilRow T_GCrossing 143 (fun _ => ())
  replace HS := HS.nilRow (TInt .i64) 2 (fun _ => ())
  replace HS := HS.nilRow T_GMove 110 (fun _ => ())
  replace HS := HS.nilRow (TInt .i64) 2 (fun _ => ())
  replace HS := HS.nilRow (TInt .i64) 2 (fun _ => ())
  obtain ⟨rfl, rfl, rfl, rfl, rfl, rfl, rfl, rfl, rfl, rfl, rfl, rfl, rfl⟩ := some13 H
  exact G.ret2 _ _ func12 Z (Res1.boxA (j := 6) (vs := [.string ByteArray.empty, I 0, .slice none 0 0, .slice none 0 0, I 0, I 0, .slice none 0 0, I 0, I 0, .slice none 0 0, .slice none 0 0, .slice none 0 0]) HS Z Z Z ag48) Z ⟨_, _, _, _, _, _, _, _, _, _, _, _, _, Z, (HS.pk 8 [5, 4, 3, 2, 1, 0] Z)⟩
theorem internal_bytealg_CompareString.calls {a_ b_ : ByteArray} {r1 : Int} (HS : St w0 w (L)) (H : internal_bytealg_CompareString.f a_ b_ = some r1) :
    Calls prog 104 #[.string a_, .string b_] w (internal_bytealg_CompareString.post w0 L r1) := by
  unfold internal_bytealg_CompareString.f at H
  refine cG func104 Z ?_
  refine rN 3 Z (rG (pS 2 Z (GO.cmpS Z func142 (by kernel_rfl) (by kernel_rfl) (by kernel_rfl) (by kernel_rfl) Z Z Z (aS Z (nL ?_)))))
  obtain rfl := sI H
  exact rT _ func104 Z Z ⟨Z, HS⟩
theorem strings_Compare.calls {a_ b_ : ByteArray} {r1 : Int} (HS : St w0 w (L)) (H : strings_Compare.f a_ b_ = some r1) :
    Calls prog 67 #[.string a_, .string b_] w (strings_Compare.post w0 L r1) := by
  unfold strings_Compare.f at H
  refine cG func67 Z ?_
  refine rN 3 Z ?_
  obtain ⟨t1, h2, H⟩ := bI H
  refine rG (pS 2 Z (fN Z func104 fok104.1 fok104.2 Z Z (internal_bytealg_CompareString.calls HS  h2) (fun _ wd3 ⟨h4, HS⟩ => ⟨_, h4, (aS Z (nL ?_))⟩)))
  obtain rfl := sI H
  exact rT _ func67 Z Z ⟨Z, HS⟩
theorem impl_itemAt_fn1.calls {o1 : ByteArray} {i1 : Int} {g1 : List (List GFace)} {a1 : List GCrossing} {h1 n1 : Int} {e1 : List Int} {m1 k1 : Int} {c1 : List GMove} {f1 d1 : List Int} {name : ByteArray} {A_a : Option Addr} {c_a : Nat} {y_a : Nat → (Ty.slice 140 T_GFace).Lay} {A_b : Option Addr} {c_b : Nat} {A_c : Option Addr} {c_c : Nat} {A_d : Option Addr} {c_d : Nat} {A_e : Option Addr} {c_e : Nat} {A_f : Option Addr} {c_f : Nat} {r1 : Int} (HS : St w0 w (L)) (r_a : RdIn w0 L (Ty.slice 140 T_GFace) A_a c_a y_a g1) (r_b : RdIn w0 L T_GCrossing A_b c_b (fun _ => ()) a1) (r_c : RdIn w0 L (TInt .i64) A_c c_c (fun _ => ()) e1) (r_d : RdIn w0 L T_GMove A_d c_d (fun _ => ()) c1) (r_e : RdIn w0 L (TInt .i64) A_e c_e (fun _ => ()) f1) (r_f : RdIn w0 L (TInt .i64) A_f c_f (fun _ => ()) d1) (H : impl_itemAt_fn1.f o1 i1 g1 a1 h1 n1 e1 m1 k1 c1 f1 d1 name = some r1) :
    Calls prog 66 #[.agg [.string o1, I i1, .slice A_a g1.length c_a, .slice A_b a1.length c_b, I h1, I n1, .slice A_c e1.length c_c, I m1, I k1, .slice A_d c1.length c_d, .slice A_e f1.length c_e, .slice A_f d1.length c_f].toArray, .string name] w (impl_itemAt_fn1.post w0 L r1) := by
  unfold impl_itemAt_fn1.f at H
  refine cG func66 Z ?_
  refine sQ (rG (GO.box (cs := [.string o1, I i1, .slice A_a g1.length c_a, .slice A_b a1.length c_b, I h1, I n1, .slice A_c e1.length c_c, I m1, I k1, .slice A_d c1.length c_d, .slice A_e f1.length c_e, .slice A_f d1.length c_f]) HS Z Z Z Z fun b1 wd2 HS => aS Z (nL (sQ ?_))))
  obtain ⟨t3, h4, H⟩ := bI H
  refine rG (fL b1 0 fl48_0 Z (lB 0 HS Z na9 Z (mV Z (fN Z func67 fok67.1 fok67.2 Z Z (strings_Compare.calls HS  h4) (fun _ wd5 ⟨h6, HS⟩ => ⟨_, h6, (aS Z (nL ?_))⟩)))))
  obtain rfl := sI H
  exact rT _ func66 Z Z ⟨Z, (HS.pk 1 [] Z)⟩
theorem slices_BinarySearchFunc_impl_Item_impl_Item_string_itemAt_fn1.calls {x : List GItem} {target : ByteArray} {A_a : Option Addr} {c_a : Nat} {y_a : Nat → T_GItem_47.Lay} {r1 : Int} {r2 : Bool} (HS : St w0 w (L)) (r_a : RdIn w0 L T_GItem_47 A_a c_a y_a x) (H : slices_BinarySearchFunc_impl_Item_impl_Item_string_itemAt_fn1.f K x target = some (r1, r2)) :
    Calls prog 65 #[.slice A_a x.length c_a, .string target, .func (.func 66) #[] #[]] w (slices_BinarySearchFunc_impl_Item_impl_Item_string_itemAt_fn1.post w0 L r1 r2) := by
  unfold slices_BinarySearchFunc_impl_Item_impl_Item_string_itemAt_fn1.f at H
  refine cG func65 Z ?_
  refine rN 3 Z (rG (mV Z (lS Z Z underlying28 Z (aS Z (nL (rN 5 Z ?_))))))
  refine G.name (fun i1 g1 => ?_)
  have h1 : ∀ a1, a1 ≤ K → ∀ (b1 c1 : Int) (w : World), slices_BinarySearchFunc_impl_Item_impl_Item_string_itemAt_fn1.l1 K a1 x target b1 c1 = some (r1, r2) → St w0 w (L) → G prog 65 49 [(0, .slice A_a x.length c_a), (1, .string target), (2, .func (.func 66) #[] #[]), (8, I (x.length : Int)), (9, I b1), (10, I c1)] i1 w (slices_BinarySearchFunc_impl_Item_impl_Item_string_itemAt_fn1.post w0 L r1 r2) := by
   intro a1
   induction a1 using Nat.strongRecOn with
   | _ a1 d1 =>
    intro f1 b1 c1 w H HS
    cases a1 with
    | zero => rw [slices_BinarySearchFunc_impl_Item_impl_Item_string_itemAt_fn1.l1] at H; cases H
    | succ e1 =>
     rw [slices_BinarySearchFunc_impl_Item_impl_Item_string_itemAt_fn1.l1] at H
     subst g1
     refine rN 3 Z ?_
     rcases iE H with ⟨c29, H⟩ | ⟨c29, H⟩
     ·
      refine yB Z (tT c29) (rN 3 Z (rG (pS 3 Z (GO.conv Z Z underlying3 underlying137 Z (GO.shr Z Z Z (by decide) (by decide) Z (GO.conv Z Z underlying137 underlying3 Z (aS Z (nL (sQ ?_)))))))))
      obtain ⟨c30, H⟩ := iN H
      obtain ⟨e31, h32, H⟩ := bnd_elim H
      obtain ⟨t33, h34, H⟩ := bI H
      refine rG (pS 3 Z (GO.ix Z Z Z underlying28 sz48 (r_a _ HS).2.2.1 c30.1 c30.2 Z (GO.ldRdA (T := T_GItem_47) (n := (w64 ((IntKind.wrap .u64 (w64 (b1 + c1))) / 2 ^ 1)).toNat) HS r_a Z Z (getD_eq (ltN c30) h32) ag48 Z (mV Z (GO.clo Z Z func66 fok66.1 fok66.2 Z Z (impl_itemAt_fn1.calls HS (RdIn.fld r_a (getD_eq (ltN c30) h32) (fun _ h => h.2.2.1)) (RdIn.fld r_a (getD_eq (ltN c30) h32) (fun _ h => h.2.2.2.1)) (RdIn.fld r_a (getD_eq (ltN c30) h32) (fun _ h => h.2.2.2.2.2.2.1)) (RdIn.fld r_a (getD_eq (ltN c30) h32) (fun _ h => h.2.2.2.2.2.2.2.2.2.1)) (RdIn.fld r_a (getD_eq (ltN c30) h32) (fun _ h => h.2.2.2.2.2.2.2.2.2.2.1)) (RdIn.fld r_a (getD_eq (ltN c30) h32) (fun _ h => h.2.2.2.2.2.2.2.2.2.2.2)) h34) (fun _ wd35 ⟨h36, HS⟩ => ⟨_, h36, (GO.lss Z Z Z Z (nL ?_))⟩))))))
      rcases iE H with ⟨c37, H⟩ | ⟨c37, H⟩
      ·
       refine yB Z (tT c37) (rN 3 Z (G.weak ?_ (d1 e1 (Nat.lt_succ_of_le (lR _)) (Nat.le_of_succ_le f1) _ _ _ H HS)))
       exact ⟨Z, Z, Z, Z, Z, Z, tv⟩
      refine nB Z (tF c37) (rN 3 Z (G.weak ?_ (d1 e1 (Nat.lt_succ_of_le (lR _)) (Nat.le_of_succ_le f1) _ _ _ H HS)))
      exact ⟨Z, Z, Z, Z, Z, Z, tv⟩
     refine nB Z (tF c29) (rN 2 Z ?_)
     rcases iE H with ⟨c38, H⟩ | ⟨c38, H⟩
     ·
      obtain ⟨c39, H⟩ := iN H
      obtain ⟨e40, h41, H⟩ := bnd_elim H
      obtain ⟨t42, h43, H⟩ := bI H
      refine rG (pS 5 Z (kN 39 Z (tT c38) (oN Z (mV Z (bK (oN Z (mV Z (bK (oN Z (mV Z (bK (oN Z (GO.ix Z Z Z underlying28 sz48 (r_a _ HS).2.2.1 c39.1 c39.2 Z (bK ?_))))))))))))))
      refine oN Z (GO.ldRdA (T := T_GItem_47) (n := b1.toNat) HS r_a Z Z (getD_eq (ltN c39) h41) ag48 Z (bK (oN Z (mV Z (bK (oN Z (GO.clo Z Z func66 fok66.1 fok66.2 Z Z (impl_itemAt_fn1.calls HS (RdIn.fld r_a (getD_eq (ltN c39) h41) (fun _ h => h.2.2.1)) (RdIn.fld r_a (getD_eq (ltN c39) h41) (fun _ h => h.2.2.2.1)) (RdIn.fld r_a (getD_eq (ltN c39) h41) (fun _ h => h.2.2.2.2.2.2.1)) (RdIn.fld r_a (getD_eq (ltN c39) h41) (fun _ h => h.2.2.2.2.2.2.2.2.2.1)) (RdIn.fld r_a (getD_eq (ltN c39) h41) (fun _ h => h.2.2.2.2.2.2.2.2.2.2.1)) (RdIn.fld r_a (getD_eq (ltN c39) h41) (fun _ h => h.2.2.2.2.2.2.2.2.2.2.2)) h43) (fun _ wd44 ⟨h45, HS⟩ => ⟨_, h45, (bK (oN Z (GO.eql Z Z Z Z (bK (pS 3 Z (nL ?_))))))⟩))))))))
      obtain ⟨rfl, rfl⟩ := some2 H
      exact G.ret2 _ _ func65 Z Z Z ⟨Z, HS⟩
     refine rG (pS 5 Z (kN 39 Z (tF c38) (oF Z (oF Z (oF Z (oF Z (oF Z (oF Z (oF Z (oF Z (pS 3 Z (nL ?_))))))))))))
     obtain ⟨rfl, rfl⟩ := some2 H
     exact G.ret2 _ _ func65 Z Z Z ⟨Z, HS⟩
  refine G.weak ?_ (h1 K (lR _) _ _ _ H HS)
  exact ⟨Z, Z, Z, Z, Z, Z, tv⟩
theorem impl_itemAt.calls {items : List GItem} {name : ByteArray} {A_a : Option Addr} {c_a : Nat} {y_a : Nat → T_GItem_47.Lay} {r1 : Int} {r2 : Bool} (HS : St w0 w (L)) (r_a : RdIn w0 L T_GItem_47 A_a c_a y_a items) (H : impl_itemAt.f K items name = some (r1, r2)) :
    Calls prog 34 #[.slice A_a items.length c_a, .string name] w (impl_itemAt.post w0 L r1 r2) := by
  unfold impl_itemAt.f at H
  refine cG func34 Z ?_
  refine rN 3 Z ?_
  obtain ⟨t1, t2, h3, H⟩ := bind2_elim H
  refine rG (pS 2 Z (fN Z func65 fok65.1 fok65.2 Z Z (slices_BinarySearchFunc_impl_Item_impl_Item_string_itemAt_fn1.calls HS r_a h3) (fun _ wd4 ⟨h5, HS⟩ => ⟨_, h5, (pS 4 Z (nL ?_))⟩)))
  obtain ⟨rfl, rfl⟩ := some2 H
  exact G.ret2 _ _ func34 Z Z Z ⟨Z, HS⟩
theorem impl_isItemName_fn1.calls {c : Int} {r1 : Bool} (HS : St w0 w (L)) (H : impl_isItemName_fn1.f c = some r1) :
    Calls prog 158 #[.int .i32 c] w (impl_isItemName_fn1.post w0 L r1) := by
  unfold impl_isItemName_fn1.f at H
  refine cG func158 Z ?_
  refine rN 3 Z ?_
  rcases iE H with ⟨c1, H⟩ | ⟨c1, H⟩
  ·
   refine rG (pS 3 Z (kN 5 Z (tT c1) (oF Z (oF Z (pS 2 Z (nL ?_))))))
   obtain rfl := sI H
   exact rT _ func158 Z Z ⟨Z, HS⟩
  refine rG (pS 3 Z (kN 5 Z (tF c1) (oN Z (mV Z (bK (oN Z (GO.gtr Z Z Z Z (bK (pS 2 Z (nL ?_))))))))))
  obtain rfl := sI H
  exact rT _ func158 Z Z ⟨Z, HS⟩
theorem strings_indexFunc_isItemName_fn1.calls {s : ByteArray} {truth : Bool} {r1 : Int} (HS : St w0 w (L)) (H : strings_indexFunc_isItemName_fn1.f K s truth = some r1) :
    Calls prog 193 #[.string s, .func (.func 158) #[] #[], .bool truth] w (strings_indexFunc_isItemName_fn1.post w0 L r1) := by
  unfold strings_indexFunc_isItemName_fn1.f at H
  refine cG func193 Z ?_
  refine rN 4 Z (rG (mV Z (GO.rangeS HS Z Z underlying9 Z fun b1 wd2 HS => nL (rN 2 Z ?_))))
  refine G.name (fun h1 c1 => ?_)
  have d1 : ∀ a1, a1 ≤ K → ∀ (at12 : Ix) (w : World), strings_indexFunc_isItemName_fn1.l1 K a1 s truth at12 = some r1 → St w0 w (Iter b1 s at12 :: L) → G prog 193 21 [(1, .func (.func 158) #[] #[]), (2, .bool truth), (10, .pointer (some ⟨b1, 0, none⟩))] h1 w (strings_indexFunc_isItemName_fn1.post w0 L r1) := by
   intro a1
   induction a1 using Nat.strongRecOn with
   | _ a1 e1 =>
    intro g1 at12 w H HS
    cases a1 with
    | zero => rw [strings_indexFunc_isItemName_fn1.l1] at H; cases H
    | succ f1 =>
     rw [strings_indexFunc_isItemName_fn1.l1] at H
     subst c1
     refine sQ ?_
     rcases iE H with ⟨c23, H⟩ | ⟨c23, H⟩
     ·
      refine rG (GO.nextS (j := 0) HS Z Z Z c23 Z fun wd24 HS => GO.extract Z Z Z Z (nL (rN 7 Z ?_)))
      obtain ⟨t25, h26, H⟩ := bI H
      refine rG (pS 2 Z (GO.clo Z Z func158 fok158.1 fok158.2 Z Z (impl_isItemName_fn1.calls HS  h26) (fun _ wd27 ⟨h28, HS⟩ => ⟨_, h28, (mV Z (GO.eqlB Z Z Z underlying4 Z (nL ?_)))⟩)))
      rcases iE H with ⟨c29, H⟩ | ⟨c29, H⟩
      ·
       refine yB Z c29 (rN 2 Z ?_)
       obtain rfl := sI H
       exact rT _ func193 Z Z ⟨Z, (HS.pk 1 [] Z)⟩
      refine nB Z (bnot_of c29) (rN 3 Z (G.weak ?_ (e1 f1 (Nat.lt_succ_of_le (lR _)) (Nat.le_of_succ_le g1) _ _ H HS)))
      exact ⟨Z, Z, Z, tv⟩
     refine rG (GO.nextE (j := 0) HS Z Z Z c23 Z (GO.extract Z Z Z Z (nL (rN 5 Z ?_))))
     obtain rfl := sI H
     exact rT _ func193 Z Z ⟨Z, (HS.pk 1 [] Z)⟩
  refine G.weak ?_ (d1 K (lR _) _ _ H HS)
  exact ⟨Z, Z, Z, tv⟩
theorem strings_IndexFunc_isItemName_fn1.calls {s : ByteArray} {r1 : Int} (HS : St w0 w (L)) (H : strings_IndexFunc_isItemName_fn1.f K s = some r1) :
    Calls prog 176 #[.string s, .func (.func 158) #[] #[]] w (strings_IndexFunc_isItemName_fn1.post w0 L r1) := by
  unfold strings_IndexFunc_isItemName_fn1.f at H
  refine cG func176 Z ?_
  refine rN 3 Z ?_
  obtain ⟨t1, h2, H⟩ := bI H
  refine rG (pS 2 Z (fN Z func193 fok193.1 fok193.2 Z Z (strings_indexFunc_isItemName_fn1.calls HS  h2) (fun _ wd3 ⟨h4, HS⟩ => ⟨_, h4, (aS Z (nL ?_))⟩)))
  obtain rfl := sI H
  exact rT _ func176 Z Z ⟨Z, HS⟩
theorem strings_ContainsFunc_isItemName_fn1.calls {s : ByteArray} {r1 : Bool} (HS : St w0 w (L)) (H : strings_ContainsFunc_isItemName_fn1.f K s = some r1) :
    Calls prog 157 #[.string s, .func (.func 158) #[] #[]] w (strings_ContainsFunc_isItemName_fn1.post w0 L r1) := by
  unfold strings_ContainsFunc_isItemName_fn1.f at H
  refine cG func157 Z ?_
  refine rN 3 Z ?_
  obtain ⟨t1, h2, H⟩ := bI H
  refine rG (pS 2 Z (fN Z func176 fok176.1 fok176.2 Z Z (strings_IndexFunc_isItemName_fn1.calls HS  h2) (fun _ wd3 ⟨h4, HS⟩ => ⟨_, h4, (pS 2 Z (nL ?_))⟩)))
  obtain rfl := sI H
  exact rT _ func157 Z Z ⟨Z, HS⟩
theorem impl_isItemName.calls {s : ByteArray} {r1 : Bool} (HS : St w0 w (L)) (H : impl_isItemName.f K s = some r1) :
    Calls prog 135 #[.string s] w (impl_isItemName.post w0 L r1) := by
  unfold impl_isItemName.f at H
  refine cG func135 Z ?_
  refine rN 3 Z ?_
  rcases iE H with ⟨c1, H⟩ | ⟨c1, H⟩
  ·
   rcases iE H with ⟨c2, H⟩ | ⟨c2, H⟩
   ·
    obtain ⟨t3, h4, H⟩ := bI H
    refine rG (mV Z (GO.lenStr Z Z underlying9 Z (pS 2 Z (kN 6 Z (tT c1) (oN Z (mV Z (bK (oN Z (GO.lenStr Z Z underlying9 Z (bK (oN Z (GO.leq Z Z Z Z (bK (pS 2 Z ?_))))))))))))))
    refine kN 11 Z (tT c2) (oN Z (mV Z (bK (oN Z (fN Z func157 fok157.1 fok157.2 Z Z (strings_ContainsFunc_isItemName_fn1.calls HS  h4) (fun _ wd5 ⟨h6, HS⟩ => ⟨_, h6, (bK (oN Z (GO.not Z Z Z (bK (pS 2 Z (nL ?_))))))⟩))))))
    obtain rfl := sI H
    exact rT _ func135 Z Z ⟨Z, HS⟩
   refine rG (mV Z (GO.lenStr Z Z underlying9 Z (pS 2 Z (kN 6 Z (tT c1) (oN Z (mV Z (bK (oN Z (GO.lenStr Z Z underlying9 Z (bK (oN Z (GO.leq Z Z Z Z (bK (pS 2 Z ?_))))))))))))))
   refine kN 11 Z (tF c2) (oF Z (oF Z (oF Z (pS 2 Z (nL ?_)))))
   obtain rfl := sI H
   exact rT _ func135 Z Z ⟨Z, HS⟩
  refine rG (mV Z (GO.lenStr Z Z underlying9 Z (pS 2 Z (kN 6 Z (tF c1) (oF Z (oF Z (oF Z (pS 2 Z (oF Z (oF Z (oF Z (pS 2 Z (nL ?_)))))))))))))
  obtain rfl := sI H
  exact rT _ func135 Z Z ⟨Z, HS⟩
theorem impl_inRange.calls {x low high : Int} {r1 : Bool} (HS : St w0 w (L)) (H : impl_inRange.f x low high = some r1) :
    Calls prog 136 #[I x, I low, I high] w (impl_inRange.post w0 L r1) := by
  unfold impl_inRange.f at H
  refine cG func136 Z ?_
  refine rN 3 Z ?_
  rcases iE H with ⟨c1, H⟩ | ⟨c1, H⟩
  ·
   refine rG (pS 4 Z (kN 10 Z (tT c1) (oN Z (mV Z (bK (oN Z (mV Z (bK (oN Z (GO.leq Z Z Z Z (bK (pS 2 Z (nL ?_)))))))))))))
   obtain rfl := sI H
   exact rT _ func136 Z Z ⟨Z, HS⟩
  refine rG (pS 4 Z (kN 10 Z (tF c1) (oF Z (oF Z (oF Z (pS 2 Z (nL ?_)))))))
  obtain rfl := sI H
  exact rT _ func136 Z Z ⟨Z, HS⟩
theorem impl_fields.calls {o1 : ByteArray} {n1 : Int} {m1 : List (List GFace)} {g1 : List GCrossing} {k1 i1 : Int} {h1 : List Int} {a1 c1 : Int} {d1 : List GMove} {e1 f1 : List Int} {A_a : Option Addr} {c_a : Nat} {y_a : Nat → (Ty.slice 140 T_GFace).Lay} {A_b : Option Addr} {c_b : Nat} {A_c : Option Addr} {c_c : Nat} {A_d : Option Addr} {c_d : Nat} {A_e : Option Addr} {c_e : Nat} {A_f : Option Addr} {c_f : Nat} {r1 r2 : Bool} {r3 r4 : Bool} (HS : St w0 w (L)) (r_a : RdIn w0 L (Ty.slice 140 T_GFace) A_a c_a y_a m1) (r_b : RdIn w0 L T_GCrossing A_b c_b (fun _ => ()) g1) (r_c : RdIn w0 L (TInt .i64) A_c c_c (fun _ => ()) h1) (r_d : RdIn w0 L T_GMove A_d c_d (fun _ => ()) d1) (r_e : RdIn w0 L (TInt .i64) A_e c_e (fun _ => ()) e1) (r_f : RdIn w0 L (TInt .i64) A_f c_f (fun _ => ()) f1) (H : impl_fields.f o1 n1 m1 g1 k1 i1 h1 a1 c1 d1 e1 f1 = some (r1, r2, r3, r4)) :
    Calls prog 137 #[.agg [.string o1, I n1, .slice A_a m1.length c_a, .slice A_b g1.length c_b, I k1, I i1, .slice A_c h1.length c_c, I a1, I c1, .slice A_d d1.length c_d, .slice A_e e1.length c_e, .slice A_f f1.length c_f].toArray] w (impl_fields.post w0 L r1 r2 r3 r4) := by
  unfold impl_fields.f at H
  refine cG func137 Z ?_
  refine sQ (rG (GO.box (cs := [.string o1, I n1, .slice A_a m1.length c_a, .slice A_b g1.length c_b, I k1, I i1, .slice A_c h1.length c_c, I a1, I c1, .slice A_d d1.length c_d, .slice A_e e1.length c_e, .slice A_f f1.length c_f]) HS Z Z Z Z fun b1 wd2 HS => GO.alloc HS Z zr164 Z Z fun b3 wd4 HS => nL (sQ (rG (fL b1 7 fl48_5 Z (GO.ldBoxA (j := 1) ([I a1, I c1, .slice A_d d1.length c_d, .slice A_e e1.length c_e, .slice A_f f1.length c_f]) HS Z Z Z Z ag46 Z (GO.alloc HS Z zr46 Z Z fun b5 wd6 HS => GO.stBox (j := 0) (vs := [I a1, I c1, .slice A_d d1.length c_d, .slice A_e e1.length c_e, .slice A_f f1.length c_f]) ([I a1, I c1, .slice A_d d1.length c_d, .slice A_e e1.length c_e, .slice A_f f1.length c_f]) HS Z Z Z Z Z (htA ag46) Z Z Z fun wd7 HS => nL (sQ (rG (fL b1 2 fl48_2 Z ?_))))))))))
  refine fL b1 2 fl37_0 Z (lB 2 HS Z na35 Z (lS Z Z underlying35 Z (GO.gtr Z Z Z Z (fL b1 3 fl48_3 Z (fL b1 3 fl40_0 Z (lB 2 HS Z na38 Z (lS Z Z underlying38 Z (pS 2 Z (GO.join 5 21 (.bool ((decide (0 < (g1.length : Int))) || (!(decide (k1 = 0))))) (fun Q g => ?_) ?_)))))))))
  ·
   rcases Decidable.em (0 < (g1.length : Int)) with c8 | c9
   ·
    refine kN 16 Z (tT c8) (oF Z (oF Z (oF Z (oF Z (GO.pickT Z Z Z Z Z (kN 21 Z (orT (tT c8)) (kN 16 Z (tT c8).symm (GO.weak (by repeat (first | exact tv | refine ⟨Z, ?_⟩)) g))))))))
   refine kN 16 Z (tF c9) (oN Z (fL b1 3 fl48_3 Z (bK (oN Z (fL b1 4 fl40_1 Z (bK (oN Z (lB 2 HS Z na2 Z (bK (oN Z (GO.neq Z Z Z Z (bK (GO.pickF Z Z Z Z Z (kN 21 Z (orF (tF c9)) ?_))))))))))))))
   refine kN 16 Z (tF c9).symm (GO.weak (by repeat (first | exact tv | refine ⟨Z, ?_⟩)) g)
  refine fL b1 5 fl48_4 Z (fL b1 5 fl43_0 Z (lB 2 HS Z na2 Z (pS 2 Z (GO.join 6 32 (.bool ((!(decide (i1 = 0))) || (decide (0 < (h1.length : Int))))) (fun Q g => ?_) ?_))))
  ·
   rcases Decidable.em (i1 = 0) with c10 | c11
   ·
    refine kN 26 Z (nT c10) (oN Z (fL b1 5 fl48_4 Z (bK (oN Z (fL b1 6 fl43_1 Z (bK (oN Z (lB 2 HS Z na41 Z (bK (oN Z (lS Z Z underlying41 Z (bK (oN Z (GO.gtr Z Z Z Z ?_))))))))))))))
    refine bK (GO.pickF Z Z Z Z Z (kN 32 Z (orF (nT c10)) (kN 26 Z (nT c10).symm (GO.weak (by repeat (first | exact tv | refine ⟨Z, ?_⟩)) g))))
   refine kN 26 Z (nF c11) (oF Z (oF Z (oF Z (oF Z (oF Z (GO.pickT Z Z Z Z Z (kN 32 Z (orT (nF c11)) (kN 26 Z (nF c11).symm (GO.weak (by repeat (first | exact tv | refine ⟨Z, ?_⟩)) g)))))))))
  refine fL b5 0 fl46_0 Z (lB 0 HS Z na2 Z (pS 2 Z (GO.join 4 40 (.bool ((!(decide (a1 = 0))) || (!(decide (c1 = 0))))) (fun Q g => ?_) ?_)))
  ·
   rcases Decidable.em (a1 = 0) with c12 | c13
   ·
    refine kN 36 Z (nT c12) (oN Z (fL b5 1 fl46_1 Z (bK (oN Z (lB 0 HS Z na2 Z (bK (oN Z (GO.neq Z Z Z Z (bK (GO.pickF Z Z Z Z Z (kN 40 Z (orF (nT c12)) (kN 36 Z (nT c12).symm (GO.weak (by repeat (first | exact tv | refine ⟨Z, ?_⟩)) g)))))))))))))
   refine kN 36 Z (nF c13) (oF Z (oF Z (oF Z (GO.pickT Z Z Z Z Z (kN 40 Z (orT (nF c13)) (kN 36 Z (nF c13).symm (GO.weak (by repeat (first | exact tv | refine ⟨Z, ?_⟩)) g)))))))
  refine mV Z (GO.join 5 46 (.bool (((!(decide (a1 = 0))) || (!(decide (c1 = 0)))) || (decide (0 < (d1.length : Int))))) (fun Q g => ?_) ?_)
  ·
   rcases Decidable.em (((!(decide (a1 = 0))) || (!(decide (c1 = 0)))) = true) with c14 | c15
   ·
    refine kN 41 Z c14 (oF Z (oF Z (oF Z (oF Z (GO.pickT Z Z Z Z Z (kN 46 Z (orT c14) (kN 41 Z c14.symm (GO.weak (by repeat (first | exact tv | refine ⟨Z, ?_⟩)) g))))))))
   refine kN 41 Z (bnot_of c15) (oN Z (fL b5 2 fl46_2 Z (bK (oN Z (lB 0 HS Z na44 Z (bK (oN Z (lS Z Z underlying44 Z (bK (oN Z (GO.gtr Z Z Z Z (bK (GO.pickF Z Z Z Z Z (kN 46 Z (orF (bnot_of c15)) ?_))))))))))))))
   refine kN 41 Z (bnot_of c15).symm (GO.weak (by repeat (first | exact tv | refine ⟨Z, ?_⟩)) g)
  refine mV Z (GO.join 5 52 (.bool ((((!(decide (a1 = 0))) || (!(decide (c1 = 0)))) || (decide (0 < (d1.length : Int)))) || (decide (0 < (e1.length : Int))))) (fun Q g => ?_) ?_)
  ·
   rcases Decidable.em ((((!(decide (a1 = 0))) || (!(decide (c1 = 0)))) || (decide (0 < (d1.length : Int)))) = true) with c16 | c17
   ·
    refine kN 47 Z c16 (oF Z (oF Z (oF Z (oF Z (GO.pickT Z Z Z Z Z (kN 52 Z (orT c16) (kN 47 Z c16.symm (GO.weak (by repeat (first | exact tv | refine ⟨Z, ?_⟩)) g))))))))
   refine kN 47 Z (bnot_of c17) (oN Z (fL b5 3 fl46_3 Z (bK (oN Z (lB 0 HS Z na41 Z (bK (oN Z (lS Z Z underlying41 Z (bK (oN Z (GO.gtr Z Z Z Z (bK (GO.pickF Z Z Z Z Z (kN 52 Z (orF (bnot_of c17)) ?_))))))))))))))
   refine kN 47 Z (bnot_of c17).symm (GO.weak (by repeat (first | exact tv | refine ⟨Z, ?_⟩)) g)
  refine mV Z (GO.join 5 58 (.bool (((((!(decide (a1 = 0))) || (!(decide (c1 = 0)))) || (decide (0 < (d1.length : Int)))) || (decide (0 < (e1.length : Int)))) || (decide (0 < (f1.length : Int))))) (fun Q g => ?_) ?_)
  ·
   rcases Decidable.em (((((!(decide (a1 = 0))) || (!(decide (c1 = 0)))) || (decide (0 < (d1.length : Int)))) || (decide (0 < (e1.length : Int)))) = true) with c18 | c19
   ·
    refine kN 53 Z c18 (oF Z (oF Z (oF Z (oF Z (GO.pickT Z Z Z Z Z (kN 58 Z (orT c18) (kN 53 Z c18.symm (GO.weak (by repeat (first | exact tv | refine ⟨Z, ?_⟩)) g))))))))
   refine kN 53 Z (bnot_of c19) (oN Z (fL b5 4 fl46_4 Z (bK (oN Z (lB 0 HS Z na41 Z (bK (oN Z (lS Z Z underlying41 Z (bK (oN Z (GO.gtr Z Z Z Z (bK (GO.pickF Z Z Z Z Z (kN 58 Z (orF (bnot_of c19)) ?_))))))))))))))
   refine kN 53 Z (bnot_of c19).symm (GO.weak (by repeat (first | exact tv | refine ⟨Z, ?_⟩)) g)
  refine GO.buildV (.agg [.bool (decide (0 < (m1.length : Int))), .bool ((decide (0 < (g1.length : Int))) || (!(decide (k1 = 0)))), .bool ((!(decide (i1 = 0))) || (decide (0 < (h1.length : Int)))), .bool (((((!(decide (a1 = 0))) || (!(decide (c1 = 0)))) || (decide (0 < (d1.length : Int)))) || (decide (0 < (e1.length : Int)))) || (decide (0 < (f1.length : Int))))].toArray) Z Z (fun _ => by kernel_rfl) Z (GO.stBox (j := 1) (vs := [.bool (decide (0 < (m1.length : Int))), .bool ((decide (0 < (g1.length : Int))) || (!(decide (k1 = 0)))), .bool ((!(decide (i1 = 0))) || (decide (0 < (h1.length : Int)))), .bool (((((!(decide (a1 = 0))) || (!(decide (c1 = 0)))) || (decide (0 < (d1.length : Int)))) || (decide (0 < (e1.length : Int)))) || (decide (0 < (f1.length : Int))))]) ([.bool (decide (0 < (m1.length : Int))), .bool ((decide (0 < (g1.length : Int))) || (!(decide (k1 = 0)))), .bool ((!(decide (i1 = 0))) || (decide (0 < (h1.length : Int)))), .bool (((((!(decide (a1 = 0))) || (!(decide (c1 = 0)))) || (decide (0 < (d1.length : Int)))) || (decide (0 < (e1.length : Int)))) || (decide (0 < (f1.length : Int))))]) HS Z Z Z Z Z (htA ag164) Z Z Z fun wd20 HS => nL ?_)
  obtain ⟨rfl, rfl, rfl, rfl⟩ := some4 H
  exact rT _ func137 Z (Res1.boxA (j := 1) (vs := [.bool (decide (0 < (m1.length : Int))), .bool ((decide (0 < (g1.length : Int))) || (!(decide (k1 = 0)))), .bool ((!(decide (i1 = 0))) || (decide (0 < (h1.length : Int)))), .bool (((((!(decide (a1 = 0))) || (!(decide (c1 = 0)))) || (decide (0 < (d1.length : Int)))) || (decide (0 < (e1.length : Int)))) || (decide (0 < (f1.length : Int))))]) HS Z Z Z ag164) ⟨Z, (HS.pk 3 [] Z)⟩
theorem impl_isTriangulation_fn1.calls {faces : List GFace} {A_a : Option Addr} {c_a : Nat} {r1 : Bool} (HS : St w0 w (L)) (r_a : RdIn w0 L T_GFace A_a c_a (fun _ => ()) faces) (H : impl_isTriangulation_fn1.f faces = some r1) :
    Calls prog 160 #[.slice A_a faces.length c_a] w (impl_isTriangulation_fn1.post w0 L r1) := by
  unfold impl_isTriangulation_fn1.f at H
  refine cG func160 Z ?_
  refine rN 3 Z (rG (mV Z (lS Z Z underlying136 Z (pS 2 Z (nL ?_)))))
  obtain rfl := sI H
  exact rT _ func160 Z Z ⟨Z, HS⟩
theorem slices_IndexFunc_impl_Face_impl_Face_isTriangulation_fn1.calls {s : List (List GFace)} {A_a : Option Addr} {c_a : Nat} {y_a : Nat → (Ty.slice 140 T_GFace).Lay} {r1 : Int} (HS : St w0 w (L)) (r_a : RdIn w0 L (Ty.slice 140 T_GFace) A_a c_a y_a s) (H : slices_IndexFunc_impl_Face_impl_Face_isTriangulation_fn1.f K s = some r1) :
    Calls prog 177 #[.slice A_a s.length c_a, .func (.func 160) #[] #[]] w (slices_IndexFunc_impl_Face_impl_Face_isTriangulation_fn1.post w0 L r1) := by
  unfold slices_IndexFunc_impl_Face_impl_Face_isTriangulation_fn1.f at H
  refine cG func177 Z ?_
  refine rN 4 Z (rG (mV Z (lS Z Z underlying35 Z (mV Z (nL (rN 2 Z ?_))))))
  refine G.name (fun g1 b1 => ?_)
  have c1 : ∀ a1, a1 ≤ K → ∀ (x8 : Int) (w : World), slices_IndexFunc_impl_Face_impl_Face_isTriangulation_fn1.l1 K a1 s x8 = some r1 → St w0 w (L) → G prog 177 19 [(0, .slice A_a s.length c_a), (1, .func (.func 160) #[] #[]), (7, I (s.length : Int)), (8, I x8)] g1 w (slices_IndexFunc_impl_Face_impl_Face_isTriangulation_fn1.post w0 L r1) := by
   intro a1
   induction a1 using Nat.strongRecOn with
   | _ a1 d1 =>
    intro f1 x8 w H HS
    cases a1 with
    | zero => rw [slices_IndexFunc_impl_Face_impl_Face_isTriangulation_fn1.l1] at H; cases H
    | succ e1 =>
     rw [slices_IndexFunc_impl_Face_impl_Face_isTriangulation_fn1.l1] at H
     subst b1
     refine rN 3 Z ?_
     rcases iE H with ⟨c16, H⟩ | ⟨c16, H⟩
     ·
      refine yB Z (tT c16) (rN 6 Z ?_)
      obtain ⟨c17, H⟩ := iN H
      obtain ⟨t18, h19, H⟩ := bI H
      refine rG (pS 3 Z (GO.ix Z Z Z underlying35 sz136 (r_a _ HS).2.2.1 c17.1 c17.2 Z (GO.ldRd (T := (Ty.slice 140 T_GFace)) (n := x8.toNat) (o := 0) HS r_a Z Z (getD_some (d := []) (ltN c17)) Z Z na136 Z (GO.clo Z Z func160 fok160.1 fok160.2 Z Z (impl_isTriangulation_fn1.calls HS (RdIn.elem r_a c17.1 c17.2) h19) (fun _ wd20 ⟨h21, HS⟩ => ⟨_, h21, (nL ?_)⟩)))))
      rcases iE H with ⟨c22, H⟩ | ⟨c22, H⟩
      ·
       refine yB Z c22 (rN 2 Z ?_)
       obtain rfl := sI H
       exact rT _ func177 Z Z ⟨Z, HS⟩
      refine nB Z (bnot_of c22) (rN 4 Z (G.weak ?_ (d1 e1 (Nat.lt_succ_of_le (lR _)) (Nat.le_of_succ_le f1) _ _ H HS)))
      exact ⟨Z, Z, Z, Z, tv⟩
     refine nB Z (tF c16) (rN 3 Z ?_)
     obtain rfl := sI H
     exact rT _ func177 Z Z ⟨Z, HS⟩
  refine G.weak ?_ (c1 K (lR _) _ _ H HS)
  exact ⟨Z, Z, Z, Z, tv⟩
theorem slices_ContainsFunc_impl_Face_impl_Face_isTriangulation_fn1.calls {s : List (List GFace)} {A_a : Option Addr} {c_a : Nat} {y_a : Nat → (Ty.slice 140 T_GFace).Lay} {r1 : Bool} (HS : St w0 w (L)) (r_a : RdIn w0 L (Ty.slice 140 T_GFace) A_a c_a y_a s) (H : slices_ContainsFunc_impl_Face_impl_Face_isTriangulation_fn1.f K s = some r1) :
    Calls prog 159 #[.slice A_a s.length c_a, .func (.func 160) #[] #[]] w (slices_ContainsFunc_impl_Face_impl_Face_isTriangulation_fn1.post w0 L r1) := by
  unfold slices_ContainsFunc_impl_Face_impl_Face_isTriangulation_fn1.f at H
  refine cG func159 Z ?_
  refine rN 3 Z ?_
  obtain ⟨t1, h2, H⟩ := bI H
  refine rG (pS 2 Z (fN Z func177 fok177.1 fok177.2 Z Z (slices_IndexFunc_impl_Face_impl_Face_isTriangulation_fn1.calls HS r_a h2) (fun _ wd3 ⟨h4, HS⟩ => ⟨_, h4, (pS 2 Z (nL ?_))⟩)))
  obtain rfl := sI H
  exact rT _ func159 Z Z ⟨Z, HS⟩
theorem impl_size_impl_Face.calls {list : List (List GFace)} {A_a : Option Addr} {c_a : Nat} {y_a : Nat → (Ty.slice 140 T_GFace).Lay} {r1 : Int} (HS : St w0 w (L)) (r_a : RdIn w0 L (Ty.slice 140 T_GFace) A_a c_a y_a list) (H : impl_size_impl_Face.f list = some r1) :
    Calls prog 161 #[.slice A_a list.length c_a] w (impl_size_impl_Face.post w0 L r1) := by
  unfold impl_size_impl_Face.f at H
  refine cG func161 Z ?_
  refine rN 3 Z (rG (mV Z (lS Z Z underlying35 Z (aS Z (nL ?_)))))
  obtain rfl := sI H
  exact rT _ func161 Z Z ⟨Z, HS⟩
theorem impl_hasIndex_impl_Face.calls {list : List (List GFace)} {i : Int} {A_a : Option Addr} {c_a : Nat} {y_a : Nat → (Ty.slice 140 T_GFace).Lay} {r1 : Bool} (HS : St w0 w (L)) (r_a : RdIn w0 L (Ty.slice 140 T_GFace) A_a c_a y_a list) (H : impl_hasIndex_impl_Face.f list i = some r1) :
    Calls prog 178 #[.slice A_a list.length c_a, I i] w (impl_hasIndex_impl_Face.post w0 L r1) := by
  unfold impl_hasIndex_impl_Face.f at H
  refine cG func178 Z ?_
  refine rN 3 Z ?_
  obtain ⟨t1, h2, H⟩ := bI H
  obtain ⟨t5, h6, H⟩ := bI H
  refine rG (pS 2 Z (fN Z func161 fok161.1 fok161.2 Z Z (impl_size_impl_Face.calls HS r_a h2) (fun _ wd3 ⟨h4, HS⟩ => ⟨_, h4, (GO.sub Z Z Z Z (fN Z func136 fok136.1 fok136.2 Z Z (impl_inRange.calls HS  h6) (fun _ wd7 ⟨h8, HS⟩ => ⟨_, h8, (aS Z (nL ?_))⟩)))⟩)))
  obtain rfl := sI H
  exact rT _ func178 Z Z ⟨Z, HS⟩
theorem impl_isPerm.calls {p : Int} {r1 : Bool} (HS : St w0 w (L)) (H : impl_isPerm.f p = some r1) :
    Calls prog 173 #[I p] w (impl_isPerm.post w0 L r1) := by
  unfold impl_isPerm.f at H
  refine cG func173 Z ?_
  refine rN 3 Z ?_
  obtain ⟨t1, h2, H⟩ := bI H
  refine rG (mV Z (fN Z func136 fok136.1 fok136.2 Z Z (impl_inRange.calls HS  h2) (fun _ wd3 ⟨h4, HS⟩ => ⟨_, h4, (aS Z (nL ?_))⟩)))
  obtain rfl := sI H
  exact rT _ func173 Z Z ⟨Z, HS⟩
theorem slices_Delete_int64_int64.calls {s : List Int} {i j_ : Int} {A_a : Option Addr} {c_a : Nat} {r1 : List Int} (HS : St w0 w (Own (TInt .i64) 2 A_a c_a (fun _ => ()) s :: L)) (H : slices_Delete_int64_int64.f s i j_ = some r1) :
    Calls prog 207 #[.slice A_a s.length c_a, I i, I j_] w (slices_Delete_int64_int64.post w0 L r1) := by
  unfold slices_Delete_int64_int64.f at H
  refine cG func207 Z ?_
  refine rN 3 Z ?_
  obtain ⟨c1, H⟩ := iN H
  obtain ⟨c2, H⟩ := iN H
  refine rG (pS 4 Z (lS Z Z underlying41 Z (GO.slM Z Z Z Z Z underlying41 sz2 c1 c2 (Int.ofNat_le.2 ((RdIn.own (j := 0) Z) _ HS).1) Z (nL (rN 3 Z ?_)))))
  rcases iE H with ⟨c3, H⟩ | ⟨c3, H⟩
  ·
   refine yB Z (tT c3) (rN 2 Z ?_)
   obtain rfl := sI H
   exact rT _ func207 Z Z ⟨_, _, Z, HS⟩
  refine nB Z (tF c3) (rN 2 Z (rG (mV Z (lS Z Z underlying41 Z (aS Z (nL (sQ ?_)))))))
  obtain ⟨c4, H⟩ := iN H
  obtain ⟨c5, H⟩ := iN H
  obtain ⟨c7, H⟩ := iN H
  have h8 := over_lenD c7 (leN c5)
  refine G.lex mixed [0, 1, 3, 4, 2, 5, 6, 7] (by kernel_rfl) ?_
  replace HS := HS.drew
  refine GX.ps 4 Z (GX.l1 Z Z Z (fun _ g => GO.slH (T := (TInt .i64)) HS (RdIn.own (j := 0) Z) Z Z Z underlying41 sz2 c4.1 c4.2 Z g) Z (GX.l1 Z Z Z (fun _ g => GO.slL (T := (TInt .i64)) HS (RdIn.own (j := 0) Z) Z Z Z underlying41 sz2 c5.1 c5.2 Z g) Z (GX.l2 Z (GO.appCut (T := (TInt .i64)) (j := 0) (i1 := i.toNat) (l1 := j_.toNat) HS Z flat_flat (fun _ _ => Z) Z Z Z (by rw [List.drop_zero, List.length_take]; exact Nat.min_eq_left (leN c4)) (by rw [List.length_drop, List.take_length]) underlying41 inf2 c7 (leN c5) Z fun wd6 HS => GX.fin tv (GX.ps 1 Z (GX.nil (sQ ?_)))))))
  obtain ⟨c9, H⟩ := iN H
  obtain ⟨c10, H⟩ := iN H
  have h12 := over_lenR (xs := (over s i.toNat (s.drop j_.toNat))) (z := 0) (cutN (leNN c9) (leN c10))
  refine rG (pS 2 Z (lS Z Z underlying41 Z (mV Z (GO.slCut (T := (TInt .i64)) (xs := (over s i.toNat (s.drop j_.toNat))) ((RdIn.own (j := 0) Z) _ HS).1 Z Z Z Z underlying41 sz2 c9 c10 Z (GO.clearC (T := (TInt .i64)) (j := 0) (l := ((((over s i.toNat (s.drop j_.toNat)).take (i.toNat + (s.length - j_.toNat))).drop 0).length : Int).toNat) 0 () HS Z flat_flat Z Z underlying41 zr2 Z Z (cutC (leN c10) ((RdIn.own (j := 0) Z) _ HS).1) (cutN (leNN c9) (leN c10)) (fun _ => Z) fun wd11 HS => nL ?_)))))
  obtain ⟨c13, H⟩ := iN H
  refine G.len (t := 0) (m := (((over (over s i.toNat (s.drop j_.toNat)) (((((over s i.toNat (s.drop j_.toNat)).take (i.toNat + (s.length - j_.toNat))).drop 0).length : Int).toNat) (List.replicate (((over s i.toNat (s.drop j_.toNat)).take ((s.length : Int).toNat)).drop (((((over s i.toNat (s.drop j_.toNat)).take (i.toNat + (s.length - j_.toNat))).drop 0).length : Int).toNat)).length 0)).take (i.toNat + (s.length - j_.toNat))).drop 0).length) Z (lenCut h12) (rN 2 Z ?_)
  replace HS := HS.cutOwn (A' := (cutA A_a 0 c_a 1)) (c' := (c_a - 0)) (j := 0) (l := 0) (h := (i.toNat + (s.length - j_.toNat))) (m := c_a) Z (Nat.zero_le _) c13 (Nat.le_trans c13 ((RdIn.own (j := 0) Z) _ HS).1) (lR _) Z Z
  obtain rfl := sI H
  exact rT _ func207 Z Z ⟨_, _, Z, HS⟩
theorem impl_perm.calls {p r1 : Int} {r2 r3 r4 : Int} (HS : St w0 w (L)) (H : impl_perm.f K p = some (r1, r2, r3, r4)) :
    Calls prog 194 #[I p] w (impl_perm.post w0 L r1 r2 r3 r4) := by
  unfold impl_perm.f at H
  refine cG func194 Z ?_
  refine sQ (rG (GO.alloc HS Z zr214 Z Z fun b1 wd2 HS => nL (sQ (rG (GO.alloc HS Z zr214 Z Z fun b3 wd4 HS => nL (sQ (rG (GO.buildS (el := 2) ([I 0, I 1, I 2, I 3]) HS Z Z (fun _ => by kernel_rfl) Z fun b5 wd6 HS => ?_))))))))
  replace HS := HS.boxRow (T := (TInt .i64)) (j := 0) Z flat_flat (fun _ => ()) ([0, 1, 2, 3] : List Int) Z (bndL Z)
  refine GO.lenC (t := 8) (m := ([0, 1, 2, 3] : List Int).length) (c' := ([0, 1, 2, 3] : List Int).length) Z Z Z (aS Z (nL (rN 2 Z (rG (GO.buildS (el := 2) ([I 6, I 2, I 1, I 1]) HS Z Z (fun _ => by kernel_rfl) Z fun b7 wd8 HS => lS Z Z underlying41 Z (mV Z (nL (rN 2 Z ?_))))))))
  replace HS := HS.boxRow (T := (TInt .i64)) (j := 0) Z flat_flat (fun _ => ()) ([6, 2, 1, 1] : List Int) Z (bndL Z)
  refine G.lenC (t := 9) (m := ([6, 2, 1, 1] : List Int).length) (c' := ([6, 2, 1, 1] : List Int).length) Z Z Z ?_
  refine G.name (fun p1 n1 => ?_)
  have o1 : ∀ h1, h1 ≤ K → ∀ (a1 g1 : Int) (A21 : Option Addr) (c22 : Nat) (c1 : List Int) (x24 e1 : Int) (f1 d1 : Int) (w : World), impl_perm.l1 K h1 a1 g1 c1 x24 e1 f1 d1 = some (r1, r2, r3, r4) → St w0 w (Box b1 214 [I 0, I 0, I 0, I 0] :: Box b3 214 [I g1, I e1, I f1, I d1] :: Own (TInt .i64) 2 A21 c22 (fun _ => ()) c1 :: Own (TInt .i64) 2 (some ⟨b7, 0, none⟩) (([6, 2, 1, 1] : List Int).length) (fun _ => ()) ([6, 2, 1, 1] : List Int) :: L) → G prog 194 35 [(0, I a1), (2, .pointer (some ⟨b1, 0, none⟩)), (3, .pointer (some ⟨b3, 0, none⟩)), (4, .slice A21 c1.length c22), (9, .slice (some ⟨b7, 0, none⟩) ([6, 2, 1, 1] : List Int).length (([6, 2, 1, 1] : List Int).length)), (10, I 4), (11, I x24)] p1 w (impl_perm.post w0 L r1 r2 r3 r4) := by
   intro h1
   induction h1 using Nat.strongRecOn with
   | _ h1 k1 =>
    intro i1 a1 g1 A21 c22 c1 x24 e1 f1 d1 w H HS
    cases h1 with
    | zero => rw [impl_perm.l1] at H; cases H
    | succ m1 =>
     rw [impl_perm.l1] at H
     subst n1
     refine rN 3 Z ?_
     rcases iE H with ⟨c102, H⟩ | ⟨c102, H⟩
     ·
      refine yB Z (tT c102) (rN 4 Z ?_)
      obtain ⟨c103, H⟩ := iN H
      refine rG (mV Z (GO.ix Z Z Z underlying41 sz2 (fun _ => ⟨_, _, Z⟩) c103.1 c103.2 Z (GO.ldRd (T := (TInt .i64)) (n := x24.toNat) (o := 0) HS (RdIn.own (j := 3) Z) Z Z (getD_some (d := 0) (ltN c103)) Z Z na2 Z (pS 2 Z (nL (sQ ?_))))))
      obtain ⟨c104, H⟩ := ite_some H
      refine rG (pS 2 Z (GO.quo Z Z Z c104 Z (aS Z (nL (sQ (rG (pS 2 Z (GO.rem Z Z Z c104 Z (aS Z (nL (sQ ?_)))))))))))
      obtain ⟨c105, H⟩ := iN H
      rcases iE H with ⟨c106, H⟩ | ⟨c106, H⟩
      ·
       refine rG (pS 3 Z (GO.ix Z Z Z underlying41 sz2 ((RdIn.own (j := 2) Z) _ HS).2.2.1 c105.1 c105.2 Z (GO.ldRd (T := (TInt .i64)) (n := (w64 (a1.tdiv (([6, 2, 1, 1] : List Int).getD x24.toNat 0))).toNat) (o := 0) HS (RdIn.own (j := 2) Z) Z Z (getD_some (d := 0) (ltN c105)) Z Z na2 Z (GO.ixP 0 Z Z Z c106 underlying214 sz2 Z Z (GO.stBox (j := 1) (vs := [I (c1.getD ((w64 (a1.tdiv (([6, 2, 1, 1] : List Int).getD x24.toNat 0))).toNat) 0)]) ([I (c1.getD ((w64 (a1.tdiv (([6, 2, 1, 1] : List Int).getD x24.toNat 0))).toNat) 0), I e1, I f1, I d1]) HS Z Z Z Z Z (htN na2 Z) Z Z Z fun wd107 HS => nL ?_)))))
       obtain ⟨t108, h109, H⟩ := bI H
       refine rG (pS 4 Z ?_)
       replace HS := HS.pk 4 [2, 0, 1, 3] Z
       refine fN Z func207 fok207.1 fok207.2 Z Z (slices_Delete_int64_int64.calls HS  h109) (fun _ wd112 ⟨A110, c111, h113, HS⟩ => ⟨_, h113, (aS Z (nL (rN 3 Z (G.weak ?_ (k1 m1 (Nat.lt_succ_of_le (lR _)) (Nat.le_of_succ_le i1) _ _ _ _ _ _ _ _ _ _ H (HS.pk 4 [1, 2, 0, 3] Z))))))⟩)
       exact ⟨Z, Z, Z, Z, Z, Z, Z, tv⟩
      rcases iE H with ⟨c114, H⟩ | ⟨c114, H⟩
      ·
       refine rG (pS 3 Z (GO.ix Z Z Z underlying41 sz2 ((RdIn.own (j := 2) Z) _ HS).2.2.1 c105.1 c105.2 Z (GO.ldRd (T := (TInt .i64)) (n := (w64 (a1.tdiv (([6, 2, 1, 1] : List Int).getD x24.toNat 0))).toNat) (o := 0) HS (RdIn.own (j := 2) Z) Z Z (getD_some (d := 0) (ltN c105)) Z Z na2 Z (GO.ixP 1 Z Z Z c114 underlying214 sz2 Z Z (GO.stBox (j := 1) (vs := [I (c1.getD ((w64 (a1.tdiv (([6, 2, 1, 1] : List Int).getD x24.toNat 0))).toNat) 0)]) ([I g1, I (c1.getD ((w64 (a1.tdiv (([6, 2, 1, 1] : List Int).getD x24.toNat 0))).toNat) 0), I f1, I d1]) HS Z Z Z Z Z (htN na2 Z) Z Z Z fun wd115 HS => nL ?_)))))
       obtain ⟨t116, h117, H⟩ := bI H
       refine rG (pS 4 Z ?_)
       replace HS := HS.pk 4 [2, 0, 1, 3] Z
       refine fN Z func207 fok207.1 fok207.2 Z Z (slices_Delete_int64_int64.calls HS  h117) (fun _ wd120 ⟨A118, c119, h121, HS⟩ => ⟨_, h121, (aS Z (nL (rN 3 Z (G.weak ?_ (k1 m1 (Nat.lt_succ_of_le (lR _)) (Nat.le_of_succ_le i1) _ _ _ _ _ _ _ _ _ _ H (HS.pk 4 [1, 2, 0, 3] Z))))))⟩)
       exact ⟨Z, Z, Z, Z, Z, Z, Z, tv⟩
      rcases iE H with ⟨c122, H⟩ | ⟨c122, H⟩
      ·
       refine rG (pS 3 Z (GO.ix Z Z Z underlying41 sz2 ((RdIn.own (j := 2) Z) _ HS).2.2.1 c105.1 c105.2 Z (GO.ldRd (T := (TInt .i64)) (n := (w64 (a1.tdiv (([6, 2, 1, 1] : List Int).getD x24.toNat 0))).toNat) (o := 0) HS (RdIn.own (j := 2) Z) Z Z (getD_some (d := 0) (ltN c105)) Z Z na2 Z (GO.ixP 2 Z Z Z c122 underlying214 sz2 Z Z (GO.stBox (j := 1) (vs := [I (c1.getD ((w64 (a1.tdiv (([6, 2, 1, 1] : List Int).getD x24.toNat 0))).toNat) 0)]) ([I g1, I e1, I (c1.getD ((w64 (a1.tdiv (([6, 2, 1, 1] : List Int).getD x24.toNat 0))).toNat) 0), I d1]) HS Z Z Z Z Z (htN na2 Z) Z Z Z fun wd123 HS => nL ?_)))))
       obtain ⟨t124, h125, H⟩ := bI H
       refine rG (pS 4 Z ?_)
       replace HS := HS.pk 4 [2, 0, 1, 3] Z
       refine fN Z func207 fok207.1 fok207.2 Z Z (slices_Delete_int64_int64.calls HS  h125) (fun _ wd128 ⟨A126, c127, h129, HS⟩ => ⟨_, h129, (aS Z (nL (rN 3 Z (G.weak ?_ (k1 m1 (Nat.lt_succ_of_le (lR _)) (Nat.le_of_succ_le i1) _ _ _ _ _ _ _ _ _ _ H (HS.pk 4 [1, 2, 0, 3] Z))))))⟩)
       exact ⟨Z, Z, Z, Z, Z, Z, Z, tv⟩
      rcases iE H with ⟨c130, H⟩ | ⟨c130, H⟩
      ·
       refine rG (pS 3 Z (GO.ix Z Z Z underlying41 sz2 ((RdIn.own (j := 2) Z) _ HS).2.2.1 c105.1 c105.2 Z (GO.ldRd (T := (TInt .i64)) (n := (w64 (a1.tdiv (([6, 2, 1, 1] : List Int).getD x24.toNat 0))).toNat) (o := 0) HS (RdIn.own (j := 2) Z) Z Z (getD_some (d := 0) (ltN c105)) Z Z na2 Z (GO.ixP 3 Z Z Z c130 underlying214 sz2 Z Z (GO.stBox (j := 1) (vs := [I (c1.getD ((w64 (a1.tdiv (([6, 2, 1, 1] : List Int).getD x24.toNat 0))).toNat) 0)]) ([I g1, I e1, I f1, I (c1.getD ((w64 (a1.tdiv (([6, 2, 1, 1] : List Int).getD x24.toNat 0))).toNat) 0)]) HS Z Z Z Z Z (htN na2 Z) Z Z Z fun wd131 HS => nL ?_)))))
       obtain ⟨t132, h133, H⟩ := bI H
       refine rG (pS 4 Z ?_)
       replace HS := HS.pk 4 [2, 0, 1, 3] Z
       refine fN Z func207 fok207.1 fok207.2 Z Z (slices_Delete_int64_int64.calls HS  h133) (fun _ wd136 ⟨A134, c135, h137, HS⟩ => ⟨_, h137, (aS Z (nL (rN 3 Z (G.weak ?_ (k1 m1 (Nat.lt_succ_of_le (lR _)) (Nat.le_of_succ_le i1) _ _ _ _ _ _ _ _ _ _ H (HS.pk 4 [1, 2, 0, 3] Z))))))⟩)
       exact ⟨Z, Z, Z, Z, Z, Z, Z, tv⟩
      cases H
     refine nB Z (tF c102) (rN 2 Z (rG (GO.ldBoxA (j := 1) ([I g1, I e1, I f1, I d1]) HS Z Z Z Z ag214 Z (GO.stBox (j := 0) (vs := [I g1, I e1, I f1, I d1]) ([I g1, I e1, I f1, I d1]) HS Z Z Z Z Z (htA ag214) Z Z Z fun wd138 HS => nL ?_))))
     obtain ⟨rfl, rfl, rfl, rfl⟩ := some4 H
     exact rT _ func194 Z (Res1.boxA (j := 0) (vs := [I g1, I e1, I f1, I d1]) HS Z Z Z ag214) ⟨Z, (HS.pk 4 [] Z)⟩
  refine G.weak ?_ (o1 K (lR _) _ _ _ _ _ _ _ _ _ _ H (HS.pk 4 [3, 2, 1, 0] Z))
  exact ⟨Z, Z, Z, Z, Z, Z, Z, tv⟩
theorem impl_Face_target.calls {c1 a1 : Int} {face r1 : Int} (HS : St w0 w (L)) (H : impl_Face_target.f K c1 a1 face = some r1) :
    Calls prog 179 #[.agg [I c1, I a1].toArray, I face] w (impl_Face_target.post w0 L r1) := by
  unfold impl_Face_target.f at H
  refine cG func179 Z ?_
  refine sQ (rG (GO.box (cs := [I c1, I a1]) HS Z Z Z Z fun b1 wd2 HS => aS Z (nL (sQ ?_))))
  obtain ⟨t3, t4, t5, t6, h7, H⟩ := bind4_elim H
  obtain ⟨c10, H⟩ := iN H
  refine rG (fL b1 1 fl140_1 Z (lB 0 HS Z na2 Z (fN Z func194 fok194.1 fok194.2 Z Z (impl_perm.calls HS  h7) (fun _ wd8 ⟨h9, HS⟩ => ⟨_, h9, (mV Z (GO.ixArr ([t3, t4, t5, t6] : List Int) Z Z Z underlying214 underlying2 sz2 Z c10.1 c10.2 Z (aS Z (nL ?_))))⟩))))
  obtain rfl := sI H
  exact rT _ func179 Z Z ⟨Z, (HS.pk 1 [] Z)⟩
end Go.Proofs.YthjomdggdaocgaaGreatDoor
