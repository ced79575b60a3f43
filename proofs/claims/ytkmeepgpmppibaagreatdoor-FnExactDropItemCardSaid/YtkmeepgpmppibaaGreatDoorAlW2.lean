/-
  The walks through the functions: a call comes to what its list function says.
-/
import Derived.Test.YtkmeepgpmppibaaGreatDoorAlF
import Derived.Test.YtkmeepgpmppibaaGreatDoorAlW1
set_option linter.unusedVariables false
set_option linter.unusedSimpArgs false
namespace Go.Proofs.YtkmeepgpmppibaaGreatDoor
open Go.RowKit
open Tryz
variable {w0 w : World} {L : List HObj} {K : Nat}
set_option maxRecDepth 20000
set_option maxHeartbeats 40000000
theorem spec_l25Parts.calls {c1 : List GCrossing} {d1 : Int} {A_a : Option Addr} {c_a : Nat} {r1 : List Int} (HS : St w0 w (L)) (r_a : RdIn w0 L T_GCrossing A_a c_a (fun _ => ()) c1) (H : spec_l25Parts.f K c1 d1 = some r1) :
    Calls prog 165 #[.agg [.slice A_a c1.length c_a, I d1].toArray] w (spec_l25Parts.post w0 L r1) := by
  unfold spec_l25Parts.f at H
  refine cG func165 Z ?_
  refine sQ (rG (GO.box (cs := [.slice A_a c1.length c_a, I d1]) HS Z Z Z Z fun b1 wd2 HS => aS Z (nL (sQ (rG (GO.buildS (el := 2) ([]) HS Z Z (fun _ => by kernel_rfl) Z fun b3 wd4 HS => ?_))))))
  replace HS := HS.boxRow (T := (TInt .i64)) (j := 0) Z flat_flat (fun _ => ()) ([] : List Int) Z (bndL Z)
  refine GO.lenC (t := 13) (m := ([] : List Int).length) (c' := ([] : List Int).length) Z Z Z (aS Z (nL (rN 5 Z ?_)))
  refine G.name (fun f2 x1 => ?_)
  have y1 : ∀ h1, h1 ≤ K → ∀ (A101 : Option Addr) (c102 : Nat) (n1 : List Int) (k1 : Int) (w : World), spec_l25Parts.l1 K h1 c1 d1 n1 k1 = some r1 → St w0 w (Box b1 58 [.slice A_a c1.length c_a, I d1] :: Own (TInt .i64) 2 A101 c102 (fun _ => ()) n1 :: L) → G prog 165 74 [(1, .pointer (some ⟨b1, 0, none⟩)), (3, .slice A101 n1.length c102), (4, I k1)] f2 w (spec_l25Parts.post w0 L r1) := by
   intro h1
   induction h1 using Nat.strongRecOn with
   | _ h1 e2 =>
    intro c2 A101 c102 n1 k1 w H HS
    cases h1 with
    | zero => rw [spec_l25Parts.l1] at H; cases H
    | succ o1 =>
     rw [spec_l25Parts.l1] at H
     subst x1
     refine rN 2 Z (rG (mV Z (fL b1 0 fl58_0 Z (lB 0 HS Z na56 Z (lS Z Z underlying56 Z (GO.lss Z Z Z Z (nL ?_)))))))
     rcases iE H with ⟨c201, H⟩ | ⟨c201, H⟩
     ·
      refine yB Z (tT c201) (rN 3 Z ?_)
      obtain ⟨c207, H⟩ := iN H
      refine rG (pS 2 Z (GO.buildS (el := 2) ([I k1]) HS Z Z (fun _ => by kernel_rfl) Z fun b202 wd203 HS => GO.app1 (T := (TInt .i64)) (j := 2) (jb := 0) k1 HS Z Z flat_flat Z Z Z underlying43 inf2 Z Z Z c207 Z fun A205 c206 wd204 HS => aS Z (nL (rN 3 Z (G.weak ?_ (e2 o1 (Nat.lt_succ_of_le (lR _)) (Nat.le_of_succ_le c2) _ _ _ _ _ H (HS.pk 3 [1, 2] Z)))))))
      exact ⟨Z, Z, Z, tv⟩
     refine nB Z (tF c201) (rN 6 Z ?_)
     refine G.name (fun a2 u1 => ?_)
     have z1 : ∀ f1, f1 ≤ o1 → ∀ (a1 : List Int) (i1 : Int) (w : World), spec_l25Parts.l10 K f1 c1 d1 a1 i1 = some r1 → St w0 w (Box b1 58 [.slice A_a c1.length c_a, I d1] :: Own (TInt .i64) 2 A101 c102 (fun _ => ()) a1 :: L) → G prog 165 74 [(1, .pointer (some ⟨b1, 0, none⟩)), (3, .slice A101 a1.length c102), (5, I i1)] a2 w (spec_l25Parts.post w0 L r1) := by
      intro f1
      induction f1 using Nat.strongRecOn with
      | _ f1 v1 =>
       intro h2 a1 i1 w H HS
       cases f1 with
       | zero => rw [spec_l25Parts.l10] at H; cases H
       | succ q1 =>
        rw [spec_l25Parts.l10] at H
        subst u1
        refine rN 2 Z (rG (mV Z (fL b1 0 fl58_0 Z (lB 0 HS Z na56 Z (lS Z Z underlying56 Z (pS 2 Z (nL ?_)))))))
        rcases iE H with ⟨c268, H⟩ | ⟨c268, H⟩
        ·
         refine yB Z (tT c268) (rN 4 Z ?_)
         obtain ⟨t269, t270, h271, H⟩ := bind2_elim H
         refine rG (GO.ldBoxA (j := 0) ([.slice A_a c1.length c_a, I d1]) HS Z Z Z Z ag58 Z (mV Z (fN Z func189 fok189.1 fok189.2 Z Z (spec_l25Place.calls HS (rD 2 r_a) h271) (fun _ wd272 ⟨h273, HS⟩ => ⟨_, h273, (pS 5 Z (nL (sQ ?_)))⟩))))
         obtain ⟨t274, t275, h276, H⟩ := bind2_elim H
         refine rG (GO.ldBoxA (j := 0) ([.slice A_a c1.length c_a, I d1]) HS Z Z Z Z ag58 Z (mV Z (fN Z func189 fok189.1 fok189.2 Z Z (spec_l25Place.calls HS (rD 2 r_a) h276) (fun _ wd277 ⟨h278, HS⟩ => ⟨_, h278, (pS 5 Z (nL (sQ ?_)))⟩))))
         obtain ⟨c279, H⟩ := iN H
         have h280 := ((RdIn.own (j := 1) Z) _ HS).2.2.1
         obtain ⟨c281, H⟩ := iN H
         have h282 := ((RdIn.own (j := 1) Z) _ HS).2.2.1
         refine G.lex mixed [0, 1, 2, 4, 5, 6, 3, 8, 7, 9] (by kernel_rfl) ?_
         replace HS := HS.drew
         refine GX.ps 2 Z (qL Z Z (fun _ _ g => GO.ix Z Z Z underlying43 sz2 h280 c279.1 c279.2 Z g) Z (GX.ps 2 Z (qL Z Z (fun _ _ g => GO.ix Z Z Z underlying43 sz2 h282 c281.1 c281.2 Z g) Z (GX.l1 Z Z Z (fun _ g => GO.ldRd (T := (TInt .i64)) (n := t269.toNat) (o := 0) HS (RdIn.own (j := 1) Z) Z Z (getD_some (d := 0) (ltN c279)) Z Z na2 Z g) Z (GX.ps 1 Z (GX.l1 Z Z Z (fun _ g => GO.ldRd (T := (TInt .i64)) (n := t274.toNat) (o := 0) HS (RdIn.own (j := 1) Z) Z Z (getD_some (d := 0) (ltN c281)) Z Z na2 Z g) Z (GX.ps 1 Z (GX.nil (rN 4 Z ?_)))))))))
         refine G.name (fun g2 b2 => ?_)
         have d2 : ∀ g1, g1 ≤ q1 → ∀ (m1 : List Int) (e1 : Int) (w : World), spec_l25Parts.l13 K g1 c1 d1 a1 i1 t269 t274 m1 e1 = some r1 → St w0 w (Box b1 58 [.slice A_a c1.length c_a, I d1] :: Own (TInt .i64) 2 A101 c102 (fun _ => ()) m1 :: L) → G prog 165 74 [(1, .pointer (some ⟨b1, 0, none⟩)), (3, .slice A101 m1.length c102), (5, I i1), (10, I (a1.getD t269.toNat 0)), (11, I (a1.getD t274.toNat 0)), (12, I e1)] g2 w (spec_l25Parts.post w0 L r1) := by
          intro g1
          induction g1 using Nat.strongRecOn with
          | _ g1 t1 =>
           intro s1 m1 e1 w H HS
           cases g1 with
           | zero => rw [spec_l25Parts.l13] at H; cases H
           | succ p1 =>
            rw [spec_l25Parts.l13] at H
            subst b2
            refine rN 2 Z (rG (pS 2 Z (lS Z Z underlying43 Z (GO.lss Z Z Z Z (nL ?_)))))
            rcases iE H with ⟨c293, H⟩ | ⟨c293, H⟩
            ·
             refine yB Z (tT c293) (rN 4 Z ?_)
             obtain ⟨c294, H⟩ := iN H
             refine rG (pS 2 Z (GO.ix Z Z Z underlying43 sz2 ((RdIn.own (j := 1) Z) _ HS).2.2.1 c294.1 c294.2 Z (GO.ldRd (T := (TInt .i64)) (n := e1.toNat) (o := 0) HS (RdIn.own (j := 1) Z) Z Z (getD_some (d := 0) (ltN c294)) Z Z na2 Z (pS 2 Z (GO.max2 Z Z Z Z (GO.eql Z Z Z Z (nL ?_)))))))
             rcases iE H with ⟨c295, H⟩ | ⟨c295, H⟩
             ·
              refine yB Z (tT c295) (rG (pS 4 Z (GO.min2 Z Z Z Z (GO.ix Z Z Z underlying43 sz2 ((RdIn.own (j := 1) Z) _ HS).2.2.1 c294.1 c294.2 Z (GO.stRow (T := (TInt .i64)) (j := 1) (n := e1.toNat) (o := 0) (vs := [I (if a1.getD t274.toNat 0 < a1.getD t269.toNat 0 then a1.getD t274.toNat 0 else a1.getD t269.toNat 0)]) (if a1.getD t274.toNat 0 < a1.getD t269.toNat 0 then a1.getD t274.toNat 0 else a1.getD t269.toNat 0) HS Z flat_flat Z Z Z Z (htN na2 Z) Z (getD_some (d := 0) (ltN c294)) Z Z fun wd296 HS => nL (G.len (t := 3) (m := (m1.set e1.toNat (if a1.getD t274.toNat 0 < a1.getD t269.toNat 0 then a1.getD t274.toNat 0 else a1.getD t269.toNat 0)).length) Z (by simp only [List.length_set] <;> rfl) (rN 3 Z (G.weak ?_ (t1 p1 (Nat.lt_succ_of_le (lR _)) (Nat.le_of_succ_le s1) _ _ _ H HS)))))))))
              exact ⟨Z, Z, Z, Z, Z, Z, tv⟩
             refine nB Z (tF c295) (rN 4 Z (G.weak ?_ (t1 p1 (Nat.lt_succ_of_le (lR _)) (Nat.le_of_succ_le s1) _ _ _ H HS)))
             exact ⟨Z, Z, Z, Z, Z, Z, tv⟩
            refine nB Z (tF c293) (rN 4 Z (G.weak ?_ (v1 p1 (by omega) (by omega) _ _ _ H HS)))
            exact ⟨Z, Z, Z, tv⟩
         refine G.weak ?_ (d2 q1 (lR _) _ _ _ H HS)
         exact ⟨Z, Z, Z, Z, Z, Z, tv⟩
        refine nB Z (tF c268) (rN 3 Z ?_)
        obtain rfl := sI H
        exact rT _ func165 Z Z ⟨_, _, Z, (HS.pk 2 [1] Z)⟩
     refine G.weak ?_ (z1 o1 (lR _) _ _ _ H HS)
     exact ⟨Z, Z, Z, tv⟩
  refine G.weak ?_ (y1 K (lR _) _ _ _ _ _ H (HS.pk 2 [1, 0] Z))
  exact ⟨Z, Z, Z, tv⟩
theorem spec_l25PartCount.calls {c1 : List GCrossing} {e1 : Int} {A_a : Option Addr} {c_a : Nat} {r1 : Int} (HS : St w0 w (L)) (r_a : RdIn w0 L T_GCrossing A_a c_a (fun _ => ()) c1) (H : spec_l25PartCount.f K c1 e1 = some r1) :
    Calls prog 129 #[.agg [.slice A_a c1.length c_a, I e1].toArray] w (spec_l25PartCount.post w0 L r1) := by
  unfold spec_l25PartCount.f at H
  refine cG func129 Z ?_
  refine sQ (rG (GO.box (cs := [.slice A_a c1.length c_a, I e1]) HS Z Z Z Z fun b1 wd2 HS => aS Z (nL (rN 3 Z ?_))))
  obtain ⟨t3, h4, H⟩ := bI H
  refine rG (GO.ldBoxA (j := 0) ([.slice A_a c1.length c_a, I e1]) HS Z Z Z Z ag58 Z (fN Z func165 fok165.1 fok165.2 Z Z (spec_l25Parts.calls HS (rD 1 r_a) h4) (fun _ wd7 ⟨A5, c6, h8, HS⟩ => ⟨_, h8, (aS Z (nL (rN 5 Z ?_)))⟩)))
  refine G.name (fun m1 k1 => ?_)
  have n1 : ∀ a1, a1 ≤ K → ∀ (f1 d1 : Int) (w : World), spec_l25PartCount.l1 K a1 t3 f1 d1 = some r1 → St w0 w (Own (TInt .i64) 2 A5 c6 (fun _ => ()) t3 :: L) → G prog 129 23 [(3, I f1), (4, .slice A5 t3.length c6), (5, I d1)] m1 w (spec_l25PartCount.post w0 L r1) := by
   intro a1
   induction a1 using Nat.strongRecOn with
   | _ a1 i1 =>
    intro h1 f1 d1 w H HS
    cases a1 with
    | zero => rw [spec_l25PartCount.l1] at H; cases H
    | succ g1 =>
     rw [spec_l25PartCount.l1] at H
     subst k1
     refine rN 2 Z (rG (pS 2 Z (lS Z Z underlying43 Z (GO.lss Z Z Z Z (nL ?_)))))
     rcases iE H with ⟨c17, H⟩ | ⟨c17, H⟩
     ·
      refine yB Z (tT c17) (rN 4 Z ?_)
      obtain ⟨c18, H⟩ := iN H
      refine rG (pS 2 Z (GO.ix Z Z Z underlying43 sz2 ((RdIn.own (j := 0) Z) _ HS).2.2.1 c18.1 c18.2 Z (GO.ldRd (T := (TInt .i64)) (n := d1.toNat) (o := 0) HS (RdIn.own (j := 0) Z) Z Z (getD_some (d := 0) (ltN c18)) Z Z na2 Z (pS 2 Z (nL ?_)))))
      rcases iE H with ⟨c19, H⟩ | ⟨c19, H⟩
      ·
       refine yB Z (tT c19) (rN 4 Z (G.weak ?_ (i1 g1 (Nat.lt_succ_of_le (lR _)) (Nat.le_of_succ_le h1) _ _ _ H HS)))
       exact ⟨Z, Z, Z, tv⟩
      refine nB Z (tF c19) (rN 4 Z (G.weak ?_ (i1 g1 (Nat.lt_succ_of_le (lR _)) (Nat.le_of_succ_le h1) _ _ _ H HS)))
      exact ⟨Z, Z, Z, tv⟩
     refine nB Z (tF c17) (rN 3 Z ?_)
     obtain rfl := sI H
     exact rT _ func129 Z Z ⟨Z, (HS.pk 1 [] Z)⟩
  refine G.weak ?_ (n1 K (lR _) _ _ _ H (HS.pk 2 [0] Z))
  exact ⟨Z, Z, Z, tv⟩
theorem spec_IsDiagram.calls {a1 : List GCrossing} {c1 : Int} {A_a : Option Addr} {c_a : Nat} {r1 : Bool} (HS : St w0 w (L)) (r_a : RdIn w0 L T_GCrossing A_a c_a (fun _ => ()) a1) (H : spec_IsDiagram.f K a1 c1 = some r1) :
    Calls prog 87 #[.agg [.slice A_a a1.length c_a, I c1].toArray] w (spec_IsDiagram.post w0 L r1) := by
  unfold spec_IsDiagram.f at H
  refine cG func87 Z ?_
  refine sQ (rG (GO.box (cs := [.slice A_a a1.length c_a, I c1]) HS Z Z Z Z fun b1 wd2 HS => aS Z (nL (rN 2 Z ?_))))
  rcases iE H with ⟨c13, H⟩ | ⟨c13, H⟩
  ·
   refine rG (fL b1 0 fl58_0 Z (lB 0 HS Z na56 Z (lS Z Z underlying56 Z (pS 2 Z (kN 7 Z (tT c13) (oF Z (oF Z (oF Z (oF Z (pS 2 Z (oF Z (oF Z (oF Z (GO.pickT Z Z Z Z Z ?_))))))))))))))
   refine nL (rN 3 Z ?_)
   obtain rfl := sI H
   exact rT _ func87 Z Z ⟨Z, (HS.pk 1 [] Z)⟩
  obtain ⟨t14, h15, H⟩ := bI H
  rcases iE H with ⟨c18, H⟩ | ⟨c18, H⟩
  ·
   obtain ⟨t19, h20, H⟩ := bI H
   refine rG (fL b1 0 fl58_0 Z (lB 0 HS Z na56 Z (lS Z Z underlying56 Z (pS 2 Z (kN 7 Z (tF c13) (oN Z (fL b1 1 fl58_1 Z (bK (oN Z (lB 0 HS Z na2 Z (bK (oN Z (fN Z func84 fok84.1 fok84.2 Z Z (spec_l01In.calls HS  h15) (fun _ wd16 ⟨h17, HS⟩ => ⟨_, h17, (bK ?_)⟩))))))))))))))
   refine oN Z (GO.not Z Z Z (bK (pS 2 Z (kN 13 Z (congrArg Bool.not c18) (oN Z (GO.ldBoxA (j := 0) ([.slice A_a a1.length c_a, I c1]) HS Z Z Z Z ag58 Z (bK (oN Z (fN Z func127 fok127.1 fok127.2 Z Z (spec_l25Counts.calls HS (rD 1 r_a) h20) (fun _ wd21 ⟨h22, HS⟩ => ⟨_, h22, (bK (oN Z (GO.not Z Z Z (bK (GO.pickF Z Z Z Z Z ?_)))))⟩))))))))))
   refine nL ?_
   rcases iE H with ⟨c23, H⟩ | ⟨c23, H⟩
   ·
    refine nB Z (congrArg Bool.not c23) (rN 2 Z ?_)
    obtain ⟨t24, h25, H⟩ := bI H
    obtain ⟨t31, h32, H⟩ := bI H
    refine G.lexS mixed (fun w => St w0 w (Box b1 58 [.slice A_a a1.length c_a, I c1] :: L)) [0, 2, 4, 5, 6] [3, 0, 4, 5, 6, 1, 2, 7, 8, 9, 10, 11] [] (by kernel_rfl) (by kernel_rfl) HS.drew ?_
    replace HS := HS.drew
    refine qL Z Z (fun _ _ g => fL b1 0 fl58_0 Z g) Z (GX.ls Z Z Z HS (fun _ HS _ g => GO.ldBoxA (j := 0) ([.slice A_a a1.length c_a, I c1]) HS Z Z Z Z ag58 Z g) Z (GX.ls Z Z Z HS (fun _ HS _ g => lB 0 HS Z na56 Z g) Z (GX.ls Z Z Z HS (fun _ HS _ g => lS Z Z underlying56 Z g) Z (GX.ls Z Z Z HS (fun _ HS _ g => GO.ldBoxA (j := 0) ([.slice A_a a1.length c_a, I c1]) HS Z Z Z Z ag58 Z g) Z (GX.l2 Z (fN Z func128 fok128.1 fok128.2 Z Z (spec_l25Regions.calls HS (rD 1 r_a) h25) (fun _ wd29 ⟨A26, c27, y28, h30, HS⟩ => ⟨_, h30, (GX.fin (HS.pk 2 [1] Z) (GX.ls Z Z Z (HS.pk 2 [1] Z) (fun _ HS _ g => lS Z Z underlying161 Z g) Z (GX.l2 Z (fN Z func129 fok129.1 fok129.2 Z Z (spec_l25PartCount.calls HS (rD 2 r_a) h32) (fun _ wd33 ⟨h34, HS⟩ => ⟨_, h34, (GX.fin (HS.pk 2 [1] Z) (GX.ps 4 Z (GX.nil ?_)))⟩)))))⟩)))))))
    obtain rfl := sI H
    exact rT _ func87 Z Z ⟨Z, (HS.pk 2 [] Z)⟩
   refine yB Z (congrArg Bool.not (bnot_of c23)) (rN 2 Z ?_)
   obtain rfl := sI H
   exact rT _ func87 Z Z ⟨Z, (HS.pk 1 [] Z)⟩
  refine rG (fL b1 0 fl58_0 Z (lB 0 HS Z na56 Z (lS Z Z underlying56 Z (pS 2 Z (kN 7 Z (tF c13) (oN Z (fL b1 1 fl58_1 Z (bK (oN Z (lB 0 HS Z na2 Z (bK (oN Z (fN Z func84 fok84.1 fok84.2 Z Z (spec_l01In.calls HS  h15) (fun _ wd16 ⟨h17, HS⟩ => ⟨_, h17, (bK ?_)⟩))))))))))))))
  refine oN Z (GO.not Z Z Z (bK (pS 2 Z (kN 13 Z (congrArg Bool.not (bnot_of c18)) (oF Z (oF Z (oF Z (GO.pickT Z Z Z Z Z (nL (rN 3 Z ?_))))))))))
  obtain rfl := sI H
  exact rT _ func87 Z Z ⟨Z, (HS.pk 1 [] Z)⟩
theorem spec_l32Letter.calls {n_ strands : Int} {r1 : Bool} (HS : St w0 w (L)) (H : spec_l32Letter.f n_ strands = some r1) :
    Calls prog 130 #[I n_, I strands] w (spec_l32Letter.post w0 L r1) := by
  unfold spec_l32Letter.f at H
  refine cG func130 Z ?_
  refine rN 3 Z ?_
  rcases iE H with ⟨c1, H⟩ | ⟨c1, H⟩
  ·
   refine rG (pS 3 Z (kN 7 Z (nT c1) (oF Z (oF Z (oF Z (oF Z (oF Z (oF Z (pS 2 Z (nL ?_))))))))))
   obtain rfl := sI H
   exact rT _ func130 Z Z ⟨Z, HS⟩
  obtain ⟨t2, h3, H⟩ := bI H
  refine rG (pS 3 Z (kN 7 Z (nF c1) (oN Z (mV Z (bK (oN Z (mV Z (bK (oN Z (GO.sub Z Z Z Z (bK (oN Z (mV Z (bK ?_))))))))))))))
  refine oN Z (GO.sub Z Z Z Z (bK (oN Z (fN Z func84 fok84.1 fok84.2 Z Z (spec_l01In.calls HS  h3) (fun _ wd4 ⟨h5, HS⟩ => ⟨_, h5, (bK (pS 2 Z (nL ?_)))⟩)))))
  obtain rfl := sI H
  exact rT _ func130 Z Z ⟨Z, HS⟩
theorem spec_ValidBraid.calls {d1 : Int} {a1 : List Int} {A_a : Option Addr} {c_a : Nat} {r1 : Bool} (HS : St w0 w (L)) (r_a : RdIn w0 L (TInt .i64) A_a c_a (fun _ => ()) a1) (H : spec_ValidBraid.f K d1 a1 = some r1) :
    Calls prog 88 #[.agg [I d1, .slice A_a a1.length c_a].toArray] w (spec_ValidBraid.post w0 L r1) := by
  unfold spec_ValidBraid.f at H
  refine cG func88 Z ?_
  refine sQ (rG (GO.box (cs := [I d1, .slice A_a a1.length c_a]) HS Z Z Z Z fun b1 wd2 HS => aS Z (nL (rN 2 Z ?_))))
  obtain ⟨t8, h9, H⟩ := bI H
  rcases iE H with ⟨c12, H⟩ | ⟨c12, H⟩
  ·
   refine rG (fL b1 0 fl59_0 Z (lB 0 HS Z na2 Z (fN Z func84 fok84.1 fok84.2 Z Z (spec_l01In.calls HS  h9) (fun _ wd10 ⟨h11, HS⟩ => ⟨_, h11, (pS 2 Z (kN 8 Z (congrArg Bool.not c12) (oN Z (fL b1 1 fl59_1 Z (bK (oN Z (lB 0 HS Z na43 Z (bK (oN Z (lS Z Z underlying43 Z (bK ?_)))))))))))⟩))))
   refine oN Z (GO.gtr Z Z Z Z (bK (GO.pickF Z Z Z Z Z (nL ?_))))
   rcases iE H with ⟨c13, H⟩ | ⟨c13, H⟩
   ·
    refine yB Z (tT c13) (rN 2 Z ?_)
    obtain rfl := sI H
    exact rT _ func88 Z Z ⟨Z, (HS.pk 1 [] Z)⟩
   refine nB Z (tF c13) (rN 6 Z ?_)
   refine G.name (fun k1 g1 => ?_)
   have m1 : ∀ c1, c1 ≤ K → ∀ (e1 : Int) (w : World), spec_ValidBraid.l1 K c1 d1 a1 e1 = some r1 → St w0 w (Box b1 59 [I d1, .slice A_a a1.length c_a] :: L) → G prog 88 30 [(1, .pointer (some ⟨b1, 0, none⟩)), (3, I e1)] k1 w (spec_ValidBraid.post w0 L r1) := by
    intro c1
    induction c1 using Nat.strongRecOn with
    | _ c1 i1 =>
     intro h1 e1 w H HS
     cases c1 with
     | zero => rw [spec_ValidBraid.l1] at H; cases H
     | succ f1 =>
      rw [spec_ValidBraid.l1] at H
      subst g1
      refine rN 2 Z (rG (mV Z (fL b1 1 fl59_1 Z (lB 0 HS Z na43 Z (lS Z Z underlying43 Z (GO.lss Z Z Z Z (nL ?_)))))))
      rcases iE H with ⟨c29, H⟩ | ⟨c29, H⟩
      ·
       refine yB Z (tT c29) (rN 4 Z ?_)
       obtain ⟨c30, H⟩ := iN H
       obtain ⟨t31, h32, H⟩ := bI H
       refine G.lex mixed [0, 2, 5, 1, 3, 4, 6, 7, 8] (by kernel_rfl) ?_
       replace HS := HS.drew
       refine qL Z Z (fun _ _ g => fL b1 1 fl59_1 Z g) Z (GX.ps 1 Z (qL Z Z (fun _ _ g => fL b1 0 fl59_0 Z g) Z (GX.l1 Z Z Z (fun _ g => lB 0 HS Z na43 Z g) Z (qL Z Z (fun _ _ g => GO.ix Z Z Z underlying43 sz2 ((rD 1 r_a) _ HS).2.2.1 c30.1 c30.2 Z g) Z (GX.l1 Z Z Z (fun _ g => GO.ldRd (T := (TInt .i64)) (n := e1.toNat) (o := 0) HS (rD 1 r_a) Z Z (getD_some (d := 0) (ltN c30)) Z Z na2 Z g) Z (GX.l1 Z Z Z (fun _ g => lB 0 HS Z na2 Z g) Z (GX.l2 Z (fN Z func130 fok130.1 fok130.2 Z Z (spec_l32Letter.calls HS  h32) (fun _ wd33 ⟨h34, HS⟩ => ⟨_, h34, (GX.fin tv (GX.ps 1 Z (GX.nil ?_)))⟩)))))))))
       rcases iE H with ⟨c35, H⟩ | ⟨c35, H⟩
       ·
        refine nB Z (congrArg Bool.not c35) (rN 4 Z (G.weak ?_ (i1 f1 (Nat.lt_succ_of_le (lR _)) (Nat.le_of_succ_le h1) _ _ H HS)))
        exact ⟨Z, Z, tv⟩
       refine yB Z (congrArg Bool.not (bnot_of c35)) (rN 2 Z ?_)
       obtain rfl := sI H
       exact rT _ func88 Z Z ⟨Z, (HS.pk 1 [] Z)⟩
      refine nB Z (tF c29) (rN 3 Z ?_)
      obtain rfl := sI H
      exact rT _ func88 Z Z ⟨Z, (HS.pk 1 [] Z)⟩
   refine G.weak ?_ (m1 K (lR _) _ _ H HS)
   exact ⟨Z, Z, tv⟩
  refine rG (fL b1 0 fl59_0 Z (lB 0 HS Z na2 Z (fN Z func84 fok84.1 fok84.2 Z Z (spec_l01In.calls HS  h9) (fun _ wd10 ⟨h11, HS⟩ => ⟨_, h11, (pS 2 Z (kN 8 Z (congrArg Bool.not (bnot_of c12)) (oF Z (oF Z (oF Z (oF Z (GO.pickT Z Z Z Z Z (nL (rN 3 Z ?_)))))))))⟩))))
  obtain rfl := sI H
  exact rT _ func88 Z Z ⟨Z, (HS.pk 1 [] Z)⟩
theorem spec_l23Is.calls {name : Int} {r1 : Bool} (HS : St w0 w (L)) (H : spec_l23Is.f name = some r1) :
    Calls prog 131 #[I name] w (spec_l23Is.post w0 L r1) := by
  unfold spec_l23Is.f at H
  refine cG func131 Z ?_
  refine rN 3 Z ?_
  obtain ⟨t1, h2, H⟩ := bI H
  refine rG (mV Z (fN Z func84 fok84.1 fok84.2 Z Z (spec_l01In.calls HS  h2) (fun _ wd3 ⟨h4, HS⟩ => ⟨_, h4, (aS Z (nL ?_))⟩)))
  obtain rfl := sI H
  exact rT _ func131 Z Z ⟨Z, HS⟩
theorem spec_l12Most.calls {kind r1 : Int} (HS : St w0 w (L)) (H : spec_l12Most.f K kind = some r1) :
    Calls prog 166 #[I kind] w (spec_l12Most.post w0 L r1) := by
  unfold spec_l12Most.f at H
  refine cG func166 Z ?_
  refine rN 9 Z ?_
  refine G.nameT (fun c1 d1 => ?_)
  have b1 : ∀ a1, a1 ≤ K → ∀ (x2 : Bool) (w : World), spec_l12Most.j1 K a1 kind x2 = some r1 → St w0 w (L) → G prog 166 11 [(3, I kind), (4, .bool x2)] c1 w (spec_l12Most.post w0 L r1) := by
   intro a1 e1 x2 w H HS
   cases a1 with
   | zero => rw [spec_l12Most.j1] at H; cases H
   | succ f1 =>
    rw [spec_l12Most.j1] at H
    subst d1
    rcases iE H with ⟨c3, H⟩ | ⟨c3, H⟩
    ·
     refine yB Z c3 (rN 2 Z ?_)
     obtain rfl := sI H
     exact rT _ func166 Z Z ⟨Z, HS⟩
    refine nB Z (bnot_of c3) (rN 2 Z ?_)
    rcases iE H with ⟨c4, H⟩ | ⟨c4, H⟩
    ·
     refine yB Z (tT c4) (rN 2 Z ?_)
     obtain rfl := sI H
     exact rT _ func166 Z Z ⟨Z, HS⟩
    refine nB Z (tF c4) (rN 2 Z ?_)
    rcases iE H with ⟨c5, H⟩ | ⟨c5, H⟩
    ·
     refine yB Z (tT c5) (rN 2 Z ?_)
     obtain rfl := sI H
     exact rT _ func166 Z Z ⟨Z, HS⟩
    refine nB Z (tF c5) (rN 4 Z ?_)
    obtain rfl := sI H
    exact rT _ func166 Z Z ⟨Z, HS⟩
  rcases iE H with ⟨c6, H⟩ | ⟨c6, H⟩
  ·
   refine yB Z (tT c6) (G.skip (G.weak ?_ (b1 K (lR _) _ _ H HS)))
   exact ⟨Z, Z, tv⟩
  refine nB Z (tF c6) (rN 1 Z (G.weak ?_ (b1 K (lR _) _ _ H HS)))
  exact ⟨Z, Z, tv⟩
theorem spec_l12Names.calls {r1 : List ByteArray} (HS : St w0 w (L)) (H : spec_l12Names.f = some r1) :
    Calls prog 167 #[] w (spec_l12Names.post w0 L r1) := by
  unfold spec_l12Names.f at H
  refine cG func167 Z ?_
  refine rN 3 Z (rG (GO.buildS (el := 9) ([.string (⟨#[50, 51]⟩ : ByteArray), .string (⟨#[51, 50]⟩ : ByteArray), .string (⟨#[49, 52]⟩ : ByteArray), .string (⟨#[52, 49]⟩ : ByteArray)]) HS Z Z (fun _ => by kernel_rfl) Z fun b1 wd2 HS => ?_))
  replace HS := HS.boxRow (T := TStr) (j := 0) Z flat_flat (fun _ => ()) ([(⟨#[50, 51]⟩ : ByteArray), (⟨#[51, 50]⟩ : ByteArray), (⟨#[49, 52]⟩ : ByteArray), (⟨#[52, 49]⟩ : ByteArray)] : List ByteArray) Z (bndL Z)
  refine GO.lenC (t := 1) (m := ([(⟨#[50, 51]⟩ : ByteArray), (⟨#[51, 50]⟩ : ByteArray), (⟨#[49, 52]⟩ : ByteArray), (⟨#[52, 49]⟩ : ByteArray)] : List ByteArray).length) (c' := ([(⟨#[50, 51]⟩ : ByteArray), (⟨#[51, 50]⟩ : ByteArray), (⟨#[49, 52]⟩ : ByteArray), (⟨#[52, 49]⟩ : ByteArray)] : List ByteArray).length) Z Z Z (aS Z (nL ?_))
  obtain rfl := sI H
  exact rT _ func167 Z Z ⟨_, _, Z, HS⟩
theorem spec_l07Digit.calls {n_ : Int} {r1 : ByteArray} (HS : St w0 w (L)) (H : spec_l07Digit.f n_ = some r1) :
    Calls prog 168 #[I n_] w (spec_l07Digit.post w0 L r1) := by
  unfold spec_l07Digit.f at H
  refine cG func168 Z ?_
  refine rN 3 Z (rG (pS 2 Z (GO.conv Z Z underlying2 underlying5 Z (GO.buildS (el := 5) ([.int .u8 (IntKind.wrap .u8 (w64 (48 + n_)))]) HS Z Z (fun _ => by kernel_rfl) Z fun b1 wd2 HS => ?_))))
  replace HS := HS.boxRow (T := (TInt .u8)) (j := 0) Z flat_flat (fun _ => ()) ([IntKind.wrap .u8 (w64 (48 + n_))] : List Int) Z (bndL Z)
  refine GO.lenC (t := 6) (m := ([IntKind.wrap .u8 (w64 (48 + n_))] : List Int).length) (c' := ([IntKind.wrap .u8 (w64 (48 + n_))] : List Int).length) Z Z Z (GO.bytesStr HS (RdIn.own (j := 0) Z) Z Z underlying148 underlying5 underlying9 Z (aS Z (nL ?_)))
  obtain rfl := sI H
  exact rT _ func168 Z Z ⟨Z, (HS.pk 1 [] Z)⟩
theorem spec_MoveText.calls {a1 d1 e1 : Int} {r1 : ByteArray} (HS : St w0 w (L)) (H : spec_MoveText.f K a1 d1 e1 = some r1) :
    Calls prog 132 #[.agg [I a1, I d1, I e1].toArray] w (spec_MoveText.post w0 L r1) := by
  unfold spec_MoveText.f at H
  refine cG func132 Z ?_
  refine sQ (rG (GO.box (cs := [I a1, I d1, I e1]) HS Z Z Z Z fun b1 wd2 HS => aS Z (nL (rN 2 Z ?_))))
  obtain ⟨t21, h22, H⟩ := bI H
  rcases iE H with ⟨c25, H⟩ | ⟨c25, H⟩
  ·
   refine G.lexS mixed (fun w => St w0 w (Box b1 140 [I a1, I d1, I e1] :: L)) [1, 6, 12, 14] [0, 1, 2, 3, 4, 5, 6, 7, 8, 9, 10, 11, 13, 12, 14, 15, 16, 17, 18] [] (by kernel_rfl) (by kernel_rfl) HS.drew ?_
   replace HS := HS.drew
   refine qL Z Z (fun _ _ g => fL b1 0 fl140_0 Z g) Z (GX.ls Z Z Z HS (fun _ HS _ g => lB 0 HS Z na2 Z g) Z (GX.l2 Z (fN Z func166 fok166.1 fok166.2 Z Z (spec_l12Most.calls HS  h22) (fun _ wd23 ⟨h24, HS⟩ => ⟨_, h24, (GX.fin HS (GX.ps 1 Z (qL Z Z (fun _ _ g => mV Z (kN 7 Z (tT c25) g)) Z (qL Z Z (fun _ _ g => oF Z g) Z (GX.ls Z Z Z HS (fun _ HS _ g => oF Z g) Z (GX.l2 Z (oF Z (GX.fin HS (qL Z Z (fun _ _ g => oF Z g) Z (GX.ps 2 Z (qL Z Z (fun _ _ g => oF Z g) Z ?_)))))))))))⟩))))
   refine qL Z Z (fun _ _ g => oF Z g) Z (GX.ls Z Z Z HS (fun _ HS _ g => oF Z g) Z (GX.ls Z Z Z HS (fun _ HS _ g => oF Z g) Z (GX.l2 Z (oF Z (GX.fin HS (GX.l2 Z (oF Z (GX.fin HS (qL Z Z (fun _ _ g => oF Z g) Z (GX.ps 1 Z (GX.nil (rN 3 Z ?_))))))))))))
   obtain rfl := sI H
   exact rT _ func132 Z Z ⟨Z, (HS.pk 1 [] Z)⟩
  obtain ⟨t26, h27, H⟩ := bI H
  rcases iE H with ⟨c30, H⟩ | ⟨c30, H⟩
  ·
   obtain ⟨t31, h32, H⟩ := bI H
   obtain ⟨t35, h36, H⟩ := bI H
   refine G.lexS mixed (fun w => St w0 w (Box b1 140 [I a1, I d1, I e1] :: L)) [1, 6, 12, 14] [0, 1, 2, 3, 4, 5, 6, 7, 8, 9, 10, 11, 13, 12, 14, 15, 16, 17, 18] [] (by kernel_rfl) (by kernel_rfl) HS.drew ?_
   replace HS := HS.drew
   refine qL Z Z (fun _ _ g => fL b1 0 fl140_0 Z g) Z (GX.ls Z Z Z HS (fun _ HS _ g => lB 0 HS Z na2 Z g) Z (GX.l2 Z (fN Z func166 fok166.1 fok166.2 Z Z (spec_l12Most.calls HS  h22) (fun _ wd23 ⟨h24, HS⟩ => ⟨_, h24, (GX.fin HS (GX.ps 1 Z (qL Z Z (fun _ _ g => mV Z (kN 7 Z (tF c25) g)) Z (qL Z Z (fun _ _ g => oN Z (fL b1 1 fl140_1 Z (bK g))) Z (GX.ls Z Z Z HS (fun _ HS _ g => oN Z (lB 0 HS Z na2 Z (bK g))) Z (GX.l2 Z (oN Z (fN Z func123 fok123.1 fok123.2 Z Z (spec_l07In.calls HS  h27) (fun _ wd28 ⟨h29, HS⟩ => ⟨_, h29, (bK (GX.fin HS (qL Z Z (fun _ _ g => oN Z (GO.not Z Z Z (bK g))) Z ?_)))⟩)))))))))⟩))))
   refine GX.ps 1 Z (qL Z Z (fun _ _ g => mV Z (kN 13 Z (congrArg Bool.not c30) g)) Z (qL Z Z (fun _ _ g => oN Z (fL b1 2 fl140_2 Z (bK g))) Z (qL Z Z (fun _ _ g => oN Z (fL b1 0 fl140_0 Z (bK g))) Z (GX.ls Z Z Z HS (fun _ HS _ g => oN Z (lB 0 HS Z na2 Z (bK g))) Z (GX.ls Z Z Z HS (fun _ HS _ g => oN Z (lB 0 HS Z na2 Z (bK g))) Z (GX.l2 Z (oN Z (fN Z func166 fok166.1 fok166.2 Z Z (spec_l12Most.calls HS  h32) (fun _ wd33 ⟨h34, HS⟩ => ⟨_, h34, (bK (GX.fin HS (GX.l2 Z (oN Z (fN Z func123 fok123.1 fok123.2 Z Z (spec_l07In.calls HS  h36) (fun _ wd37 ⟨h38, HS⟩ => ⟨_, h38, (bK ?_)⟩))))))⟩)))))))))
   refine GX.fin HS (qL Z Z (fun _ _ g => oN Z (GO.not Z Z Z (bK g))) Z (GX.ps 1 Z (GX.nil ?_)))
   rcases iE H with ⟨c39, H⟩ | ⟨c39, H⟩
   ·
    refine nB Z (congrArg Bool.not c39) (rN 2 Z ?_)
    obtain ⟨t40, h41, H⟩ := bI H
    obtain ⟨c46, H⟩ := iN H
    obtain ⟨c47, H⟩ := iN H
    obtain ⟨t48, h49, H⟩ := bI H
    obtain ⟨c52, H⟩ := iN H
    obtain ⟨c53, H⟩ := iN H
    obtain ⟨t54, h55, H⟩ := bI H
    obtain ⟨c58, H⟩ := iN H
    refine G.regionAny mixed (by decide) (fun b a w => ∃ (k1 : Value) (z1 : Value) (o1 : Value) (y1 : Value) (x1 : Value) (v1 : Value) (a2 : Value) (p1 : Value) (s1 : Value) (i1 : Value) (n1 : Value) (t1 : Value) (u1 : Value) (m1 : Value) (h1 : Value) (q1 : Value) (g1 : Value) (A42 : Option Addr) (c43 : Nat) (b2 : HObj), Sat 38 [(2, g1), (22, k1), (23, z1), (24, o1), (25, y1), (26, x1), (27, v1), (28, a2), (29, p1), (30, s1), (31, i1), (32, n1), (33, t1), (34, u1), (35, m1), (36, h1), (37, q1), (1, .pointer (some ⟨b1, 0, none⟩))] a ∧ St w0 w (Box b1 140 [I a1, I d1, I e1] :: b2 :: L) ∧ (b 16 = true → g1 = (.string ((((t40.getD ((w64 (a1 - 1)).toNat) ByteArray.empty ++ (⟨#[32]⟩ : ByteArray)) ++ t48) ++ (⟨#[32]⟩ : ByteArray)) ++ t54))) ∧ (b 0 = true → k1 = (.slice A42 t40.length c43)) ∧ (b 1 = true → z1 = (.pointer (some ⟨b1, 0, none⟩))) ∧ (b 2 = true → o1 = (I a1)) ∧ (b 3 = true → y1 = (I (w64 (a1 - 1)))) ∧ (b 4 = true → x1 = (.pointer (some (ea A42 (((w64 (a1 - 1)).toNat) * 1))))) ∧ (b 5 = true → v1 = (.string (t40.getD ((w64 (a1 - 1)).toNat) ByteArray.empty))) ∧ (b 6 = true → a2 = (.string (t40.getD ((w64 (a1 - 1)).toNat) ByteArray.empty ++ (⟨#[32]⟩ : ByteArray)))) ∧ (b 7 = true → p1 = (.pointer (some ⟨b1, 1, none⟩))) ∧ (b 8 = true → s1 = (I d1)) ∧ (b 9 = true → i1 = (.string t48)) ∧ (b 10 = true → n1 = (.string ((t40.getD ((w64 (a1 - 1)).toNat) ByteArray.empty ++ (⟨#[32]⟩ : ByteArray)) ++ t48))) ∧ (b 11 = true → t1 = (.string (((t40.getD ((w64 (a1 - 1)).toNat) ByteArray.empty ++ (⟨#[32]⟩ : ByteArray)) ++ t48) ++ (⟨#[32]⟩ : ByteArray)))) ∧ (b 12 = true → u1 = (.pointer (some ⟨b1, 2, none⟩))) ∧ (b 13 = true → m1 = (I e1)) ∧ (b 14 = true → h1 = (.string t54)) ∧ (b 15 = true → q1 = (.string ((((t40.getD ((w64 (a1 - 1)).toNat) ByteArray.empty ++ (⟨#[32]⟩ : ByteArray)) ++ t48) ++ (⟨#[32]⟩ : ByteArray)) ++ t54))) ∧ (b 0 = true → b2 = Own TStr 9 A42 c43 (fun _ => ()) t40)) ?_ ?_ ?_
    ·
     intro a hs
     obtain ⟨g1, hs⟩ := hs.ext (d := 2) Z
     obtain ⟨k1, hs⟩ := hs.ext (d := 22) Z
     obtain ⟨z1, hs⟩ := hs.ext (d := 23) Z
     obtain ⟨o1, hs⟩ := hs.ext (d := 24) Z
     obtain ⟨y1, hs⟩ := hs.ext (d := 25) Z
     obtain ⟨x1, hs⟩ := hs.ext (d := 26) Z
     obtain ⟨v1, hs⟩ := hs.ext (d := 27) Z
     obtain ⟨a2, hs⟩ := hs.ext (d := 28) Z
     obtain ⟨p1, hs⟩ := hs.ext (d := 29) Z
     obtain ⟨s1, hs⟩ := hs.ext (d := 30) Z
     obtain ⟨i1, hs⟩ := hs.ext (d := 31) Z
     obtain ⟨n1, hs⟩ := hs.ext (d := 32) Z
     obtain ⟨t1, hs⟩ := hs.ext (d := 33) Z
     obtain ⟨u1, hs⟩ := hs.ext (d := 34) Z
     obtain ⟨m1, hs⟩ := hs.ext (d := 35) Z
     obtain ⟨h1, hs⟩ := hs.ext (d := 36) Z
     obtain ⟨q1, hs⟩ := hs.ext (d := 37) Z
     exact ⟨k1, z1, o1, y1, x1, v1, a2, p1, s1, i1, n1, t1, u1, m1, h1, q1, g1, none, 0, Emp, hs.weak ⟨Z, Z, Z, Z, Z, Z, Z, Z, Z, Z, Z, Z, Z, Z, Z, Z, Z, Z, tv⟩, (HS.drew.emp.pk 2 [1, 0] Z), fun h => Bool.noConfusion h, fun h => Bool.noConfusion h, fun h => Bool.noConfusion h, fun h => Bool.noConfusion h, fun h => Bool.noConfusion h, fun h => Bool.noConfusion h, fun h => Bool.noConfusion h, fun h => Bool.noConfusion h, fun h => Bool.noConfusion h, fun h => Bool.noConfusion h, fun h => Bool.noConfusion h, fun h => Bool.noConfusion h, fun h => Bool.noConfusion h, fun h => Bool.noConfusion h, fun h => Bool.noConfusion h, fun h => Bool.noConfusion h, fun h => Bool.noConfusion h, fun h => Bool.noConfusion h⟩
    ·
     intro j hj b a w
     refine exI fun k1 => exI fun z1 => exI fun o1 => exI fun y1 => exI fun x1 => exI fun v1 => exI fun a2 => exI fun p1 => exI fun s1 => exI fun i1 => exI fun n1 => exI fun t1 => exI fun u1 => exI fun m1 => exI fun h1 => exI fun q1 => exI fun g1 => exI fun A42 => exI fun c43 => exI fun b2 => anI fun hs => anI fun HS => anI fun f16 => anI fun f0 => anI fun f1 => anI fun f2 => anI fun f3 => anI fun f4 => anI fun f5 => anI fun f6 => anI fun f7 => anI fun f8 => anI fun f9 => anI fun f10 => anI fun f11 => anI fun f12 => anI fun f13 => anI fun f14 => anI fun f15 => fun c1 hb hd hcl => ?_
     match j, hj with
     | 0, _ =>
      refine GO.at hs (fN Z func167 fok167.1 fok167.2 Z Z (spec_l12Names.calls HS  h41) (fun _ wd44 ⟨A42, c43, h45, HS⟩ => ⟨_, h45, (GO.fin (fun a hs => ⟨(.slice A42 t40.length c43), _, _, _, _, _, _, _, _, _, _, _, _, _, _, _, _, A42, c43, Own TStr 9 A42 c43 (fun _ => ()) t40, by exact hs.setAt 1 Z, HS.pk 3 [1, 0] Z, f16, fun _ => Z, f1, f2, f3, fun hh => (Bool.noConfusion ((hcl 4 (by decide) hh 0 (by decide)).symm.trans hb)), f5, f6, f7, f8, f9, f10, f11, f12, f13, f14, f15, fun _ => Z⟩))⟩))
     | 1, _ =>
      refine GO.at hs (fL b1 0 fl140_0 Z (GO.fin (fun a hs => ⟨_, (.pointer (some ⟨b1, 0, none⟩)), _, _, _, _, _, _, _, _, _, _, _, _, _, _, _, A42, c43, _, by exact hs.setAt 2 Z, HS, f16, f0, fun _ => Z, f2, f3, f4, f5, f6, f7, f8, f9, f10, f11, f12, f13, f14, f15, c1⟩)))
     | 2, _ =>
      have hb1 : b 1 = true := hd 1 (by decide)
      obtain rfl := f1 hb1
      refine GO.at hs (lB 0 HS Z na2 Z (GO.fin (fun a hs => ⟨_, _, (I a1), _, _, _, _, _, _, _, _, _, _, _, _, _, _, A42, c43, _, by exact hs.setAt 3 Z, HS, f16, f0, f1, fun _ => Z, f3, f4, f5, f6, f7, f8, f9, f10, f11, f12, f13, f14, f15, c1⟩)))
     | 3, _ =>
      have hb2 : b 2 = true := hd 2 (by decide)
      obtain rfl := f2 hb2
      refine GO.at hs (GO.sub Z Z Z Z (GO.fin (fun a hs => ⟨_, _, _, (I (w64 (a1 - 1))), _, _, _, _, _, _, _, _, _, _, _, _, _, A42, c43, _, by exact hs.setAt 4 Z, HS, f16, f0, f1, f2, fun _ => Z, f4, f5, f6, f7, f8, f9, f10, f11, f12, f13, f14, f15, c1⟩)))
     | 4, _ =>
      have hb0 : b 0 = true := hd 0 (by decide)
      obtain rfl := f0 hb0
      have hb3 : b 3 = true := hd 3 (by decide)
      obtain rfl := f3 hb3
      obtain rfl := c1 hb0
      refine GO.at hs (GO.ix Z Z Z underlying196 sz9 ((RdIn.own (j := 1) Z) _ HS).2.2.1 c46.1 c46.2 Z (GO.fin (fun a hs => ⟨_, _, _, _, (.pointer (some (ea A42 (((w64 (a1 - 1)).toNat) * 1)))), _, _, _, _, _, _, _, _, _, _, _, _, A42, c43, _, by exact hs.setAt 5 Z, HS, f16, f0, f1, f2, f3, fun _ => Z, f5, f6, f7, f8, f9, f10, f11, f12, f13, f14, f15, c1⟩)))
     | 5, _ =>
      have hb4 : b 4 = true := hd 4 (by decide)
      obtain rfl := f4 hb4
      have hb0 : b 0 = true := hcl 4 (by decide) (hd 4 (by decide)) 0 (by decide)
      obtain rfl := c1 hb0
      refine GO.at hs (GO.ldRd (T := TStr) (n := (w64 (a1 - 1)).toNat) (o := 0) HS (RdIn.own (j := 1) Z) Z Z (getD_some (d := ByteArray.empty) (ltN c46)) Z Z na9 Z (GO.fin (fun a hs => ⟨_, _, _, _, _, (.string (t40.getD ((w64 (a1 - 1)).toNat) ByteArray.empty)), _, _, _, _, _, _, _, _, _, _, _, A42, c43, _, by exact hs.setAt 6 Z, HS, f16, f0, f1, f2, f3, f4, fun _ => Z, f6, f7, f8, f9, f10, f11, f12, f13, f14, f15, c1⟩)))
     | 6, _ =>
      have hb5 : b 5 = true := hd 5 (by decide)
      obtain rfl := f5 hb5
      refine GO.at hs (GO.catS Z Z Z c47 Z (GO.fin (fun a hs => ⟨_, _, _, _, _, _, (.string (t40.getD ((w64 (a1 - 1)).toNat) ByteArray.empty ++ (⟨#[32]⟩ : ByteArray))), _, _, _, _, _, _, _, _, _, _, A42, c43, _, by exact hs.setAt 7 Z, HS, f16, f0, f1, f2, f3, f4, f5, fun _ => Z, f7, f8, f9, f10, f11, f12, f13, f14, f15, c1⟩)))
     | 7, _ =>
      refine GO.at hs (fL b1 1 fl140_1 Z (GO.fin (fun a hs => ⟨_, _, _, _, _, _, _, (.pointer (some ⟨b1, 1, none⟩)), _, _, _, _, _, _, _, _, _, A42, c43, _, by exact hs.setAt 8 Z, HS, f16, f0, f1, f2, f3, f4, f5, f6, fun _ => Z, f8, f9, f10, f11, f12, f13, f14, f15, c1⟩)))
     | 8, _ =>
      have hb7 : b 7 = true := hd 7 (by decide)
      obtain rfl := f7 hb7
      refine GO.at hs (lB 0 HS Z na2 Z (GO.fin (fun a hs => ⟨_, _, _, _, _, _, _, _, (I d1), _, _, _, _, _, _, _, _, A42, c43, _, by exact hs.setAt 9 Z, HS, f16, f0, f1, f2, f3, f4, f5, f6, f7, fun _ => Z, f9, f10, f11, f12, f13, f14, f15, c1⟩)))
     | 9, _ =>
      have hb8 : b 8 = true := hd 8 (by decide)
      obtain rfl := f8 hb8
      refine GO.at hs (fN Z func168 fok168.1 fok168.2 Z Z (spec_l07Digit.calls HS  h49) (fun _ wd50 ⟨h51, HS⟩ => ⟨_, h51, (GO.fin (fun a hs => ⟨_, _, _, _, _, _, _, _, _, (.string t48), _, _, _, _, _, _, _, A42, c43, _, by exact hs.setAt 10 Z, HS, f16, f0, f1, f2, f3, f4, f5, f6, f7, f8, fun _ => Z, f10, f11, f12, f13, f14, f15, c1⟩))⟩))
     | 10, _ =>
      have hb6 : b 6 = true := hd 6 (by decide)
      obtain rfl := f6 hb6
      have hb9 : b 9 = true := hd 9 (by decide)
      obtain rfl := f9 hb9
      refine GO.at hs (GO.catS Z Z Z c52 Z (GO.fin (fun a hs => ⟨_, _, _, _, _, _, _, _, _, _, (.string ((t40.getD ((w64 (a1 - 1)).toNat) ByteArray.empty ++ (⟨#[32]⟩ : ByteArray)) ++ t48)), _, _, _, _, _, _, A42, c43, _, by exact hs.setAt 11 Z, HS, f16, f0, f1, f2, f3, f4, f5, f6, f7, f8, f9, fun _ => Z, f11, f12, f13, f14, f15, c1⟩)))
     | 11, _ =>
      have hb10 : b 10 = true := hd 10 (by decide)
      obtain rfl := f10 hb10
      refine GO.at hs (GO.catS Z Z Z c53 Z (GO.fin (fun a hs => ⟨_, _, _, _, _, _, _, _, _, _, _, (.string (((t40.getD ((w64 (a1 - 1)).toNat) ByteArray.empty ++ (⟨#[32]⟩ : ByteArray)) ++ t48) ++ (⟨#[32]⟩ : ByteArray))), _, _, _, _, _, A42, c43, _, by exact hs.setAt 12 Z, HS, f16, f0, f1, f2, f3, f4, f5, f6, f7, f8, f9, f10, fun _ => Z, f12, f13, f14, f15, c1⟩)))
     | 12, _ =>
      refine GO.at hs (fL b1 2 fl140_2 Z (GO.fin (fun a hs => ⟨_, _, _, _, _, _, _, _, _, _, _, _, (.pointer (some ⟨b1, 2, none⟩)), _, _, _, _, A42, c43, _, by exact hs.setAt 13 Z, HS, f16, f0, f1, f2, f3, f4, f5, f6, f7, f8, f9, f10, f11, fun _ => Z, f13, f14, f15, c1⟩)))
     | 13, _ =>
      have hb12 : b 12 = true := hd 12 (by decide)
      obtain rfl := f12 hb12
      refine GO.at hs (lB 0 HS Z na2 Z (GO.fin (fun a hs => ⟨_, _, _, _, _, _, _, _, _, _, _, _, _, (I e1), _, _, _, A42, c43, _, by exact hs.setAt 14 Z, HS, f16, f0, f1, f2, f3, f4, f5, f6, f7, f8, f9, f10, f11, f12, fun _ => Z, f14, f15, c1⟩)))
     | 14, _ =>
      have hb13 : b 13 = true := hd 13 (by decide)
      obtain rfl := f13 hb13
      refine GO.at hs (fN Z func168 fok168.1 fok168.2 Z Z (spec_l07Digit.calls HS  h55) (fun _ wd56 ⟨h57, HS⟩ => ⟨_, h57, (GO.fin (fun a hs => ⟨_, _, _, _, _, _, _, _, _, _, _, _, _, _, (.string t54), _, _, A42, c43, _, by exact hs.setAt 15 Z, HS, f16, f0, f1, f2, f3, f4, f5, f6, f7, f8, f9, f10, f11, f12, f13, fun _ => Z, f15, c1⟩))⟩))
     | 15, _ =>
      have hb11 : b 11 = true := hd 11 (by decide)
      obtain rfl := f11 hb11
      have hb14 : b 14 = true := hd 14 (by decide)
      obtain rfl := f14 hb14
      refine GO.at hs (GO.catS Z Z Z c58 Z (GO.fin (fun a hs => ⟨_, _, _, _, _, _, _, _, _, _, _, _, _, _, _, (.string ((((t40.getD ((w64 (a1 - 1)).toNat) ByteArray.empty ++ (⟨#[32]⟩ : ByteArray)) ++ t48) ++ (⟨#[32]⟩ : ByteArray)) ++ t54)), _, A42, c43, _, by exact hs.setAt 16 Z, HS, f16, f0, f1, f2, f3, f4, f5, f6, f7, f8, f9, f10, f11, f12, f13, f14, fun _ => Z, c1⟩)))
     | 16, _ =>
      have hb15 : b 15 = true := hd 15 (by decide)
      obtain rfl := f15 hb15
      refine GO.at hs (aS Z (GO.fin (fun a hs => ⟨_, _, _, _, _, _, _, _, _, _, _, _, _, _, _, _, (.string ((((t40.getD ((w64 (a1 - 1)).toNat) ByteArray.empty ++ (⟨#[32]⟩ : ByteArray)) ++ t48) ++ (⟨#[32]⟩ : ByteArray)) ++ t54)), A42, c43, _, by exact hs.setAt 0 Z, HS, fun _ => Z, f0, f1, f2, f3, f4, f5, f6, f7, f8, f9, f10, f11, f12, f13, f14, f15, c1⟩)))
     | k + 17, hj => exact absurd hj (Nat.not_lt.2 (Nat.le_add_left 17 k))
    ·
     intro b a w hall
     refine exI fun k1 => exI fun z1 => exI fun o1 => exI fun y1 => exI fun x1 => exI fun v1 => exI fun a2 => exI fun p1 => exI fun s1 => exI fun i1 => exI fun n1 => exI fun t1 => exI fun u1 => exI fun m1 => exI fun h1 => exI fun q1 => exI fun g1 => exI fun A42 => exI fun c43 => exI fun b2 => anI fun hs => anI fun HS => anI fun f16 => anI fun f0 => anI fun f1 => anI fun f2 => anI fun f3 => anI fun f4 => anI fun f5 => anI fun f6 => anI fun f7 => anI fun f8 => anI fun f9 => anI fun f10 => anI fun f11 => anI fun f12 => anI fun f13 => anI fun f14 => anI fun f15 => fun c1 => ?_
     obtain rfl := f16 (hall 16 (by decide))
     obtain rfl := f0 (hall 0 (by decide))
     obtain rfl := f1 (hall 1 (by decide))
     obtain rfl := f2 (hall 2 (by decide))
     obtain rfl := f3 (hall 3 (by decide))
     obtain rfl := f4 (hall 4 (by decide))
     obtain rfl := f5 (hall 5 (by decide))
     obtain rfl := f6 (hall 6 (by decide))
     obtain rfl := f7 (hall 7 (by decide))
     obtain rfl := f8 (hall 8 (by decide))
     obtain rfl := f9 (hall 9 (by decide))
     obtain rfl := f10 (hall 10 (by decide))
     obtain rfl := f11 (hall 11 (by decide))
     obtain rfl := f12 (hall 12 (by decide))
     obtain rfl := f13 (hall 13 (by decide))
     obtain rfl := f14 (hall 14 (by decide))
     obtain rfl := f15 (hall 15 (by decide))
     obtain rfl := c1 (hall 0 (by decide))
     refine G.at hs ?_
     obtain rfl := sI H
     exact rT _ func132 Z Z ⟨Z, (HS.pk 2 [] Z)⟩
   refine yB Z (congrArg Bool.not (bnot_of c39)) (rN 2 Z ?_)
   obtain rfl := sI H
   exact rT _ func132 Z Z ⟨Z, (HS.pk 1 [] Z)⟩
  refine G.lexS mixed (fun w => St w0 w (Box b1 140 [I a1, I d1, I e1] :: L)) [1, 6, 12, 14] [0, 1, 2, 3, 4, 5, 6, 7, 8, 9, 10, 11, 13, 12, 14, 15, 16, 17, 18] [] (by kernel_rfl) (by kernel_rfl) HS.drew ?_
  replace HS := HS.drew
  refine qL Z Z (fun _ _ g => fL b1 0 fl140_0 Z g) Z (GX.ls Z Z Z HS (fun _ HS _ g => lB 0 HS Z na2 Z g) Z (GX.l2 Z (fN Z func166 fok166.1 fok166.2 Z Z (spec_l12Most.calls HS  h22) (fun _ wd23 ⟨h24, HS⟩ => ⟨_, h24, (GX.fin HS (GX.ps 1 Z (qL Z Z (fun _ _ g => mV Z (kN 7 Z (tF c25) g)) Z (qL Z Z (fun _ _ g => oN Z (fL b1 1 fl140_1 Z (bK g))) Z (GX.ls Z Z Z HS (fun _ HS _ g => oN Z (lB 0 HS Z na2 Z (bK g))) Z (GX.l2 Z (oN Z (fN Z func123 fok123.1 fok123.2 Z Z (spec_l07In.calls HS  h27) (fun _ wd28 ⟨h29, HS⟩ => ⟨_, h29, (bK (GX.fin HS (qL Z Z (fun _ _ g => oN Z (GO.not Z Z Z (bK g))) Z ?_)))⟩)))))))))⟩))))
  refine GX.ps 1 Z (qL Z Z (fun _ _ g => mV Z (kN 13 Z (congrArg Bool.not (bnot_of c30)) g)) Z (qL Z Z (fun _ _ g => oF Z g) Z (qL Z Z (fun _ _ g => oF Z g) Z (GX.ls Z Z Z HS (fun _ HS _ g => oF Z g) Z (GX.ls Z Z Z HS (fun _ HS _ g => oF Z g) Z (GX.l2 Z (oF Z (GX.fin HS (GX.l2 Z (oF Z (GX.fin HS (qL Z Z (fun _ _ g => oF Z g) Z (GX.ps 1 Z (GX.nil ?_))))))))))))))
  refine rN 3 Z ?_
  obtain rfl := sI H
  exact rT _ func132 Z Z ⟨Z, (HS.pk 1 [] Z)⟩
theorem spec_IsPlainCertificate.calls {i1 e1 : Int} {d1 : List GMove} {a1 c1 : List Int} {A_a : Option Addr} {c_a : Nat} {A_b : Option Addr} {c_b : Nat} {A_c : Option Addr} {c_c : Nat} {r1 : Bool} (HS : St w0 w (L)) (r_a : RdIn w0 L T_GMove A_a c_a (fun _ => ()) d1) (r_b : RdIn w0 L (TInt .i64) A_b c_b (fun _ => ()) a1) (r_c : RdIn w0 L (TInt .i64) A_c c_c (fun _ => ()) c1) (H : spec_IsPlainCertificate.f K i1 e1 d1 a1 c1 = some r1) :
    Calls prog 89 #[.agg [I i1, I e1, .slice A_a d1.length c_a, .slice A_b a1.length c_b, .slice A_c c1.length c_c].toArray] w (spec_IsPlainCertificate.post w0 L r1) := by
  unfold spec_IsPlainCertificate.f at H
  refine cG func89 Z ?_
  refine sQ (rG (GO.box (cs := [I i1, I e1, .slice A_a d1.length c_a, .slice A_b a1.length c_b, .slice A_c c1.length c_c]) HS Z Z Z Z fun b1 wd2 HS => aS Z (nL (rN 2 Z ?_))))
  obtain ⟨t15, h16, H⟩ := bI H
  rcases iE H with ⟨c19, H⟩ | ⟨c19, H⟩
  ·
   obtain ⟨t20, h21, H⟩ := bI H
   rcases iE H with ⟨c24, H⟩ | ⟨c24, H⟩
   ·
    rcases iE H with ⟨c25, H⟩ | ⟨c25, H⟩
    ·
     refine rG (fL b1 0 fl62_0 Z (lB 0 HS Z na2 Z (fN Z func131 fok131.1 fok131.2 Z Z (spec_l23Is.calls HS  h16) (fun _ wd17 ⟨h18, HS⟩ => ⟨_, h18, (pS 2 Z (kN 9 Z (congrArg Bool.not c19) (oN Z (fL b1 1 fl62_1 Z (bK (oN Z (lB 0 HS Z na2 Z (bK (oN Z (fN Z func84 fok84.1 fok84.2 Z Z (spec_l01In.calls HS  h21) (fun _ wd22 ⟨h23, HS⟩ => ⟨_, h23, (bK ?_)⟩)))))))))))⟩))))
     refine oN Z (GO.not Z Z Z (bK (pS 2 Z (kN 15 Z (congrArg Bool.not c24) (oN Z (fL b1 2 fl62_2 Z (bK (oN Z (lB 0 HS Z na60 Z (bK (oN Z (lS Z Z underlying60 Z (bK (oN Z ?_))))))))))))))
     refine GO.gtr Z Z Z Z (bK (pS 2 Z (kN 21 Z (tT c25) (oF Z (oF Z (oF Z (oF Z (oF Z (oF Z (oF Z (pS 2 Z (oF Z (oF Z (oF Z ?_))))))))))))))
     refine oF Z (GO.pickT Z Z Z Z Z (nL (rN 3 Z ?_)))
     obtain rfl := sI H
     exact rT _ func89 Z Z ⟨Z, (HS.pk 1 [] Z)⟩
    rcases iE H with ⟨c26, H⟩ | ⟨c26, H⟩
    ·
     refine rG (fL b1 0 fl62_0 Z (lB 0 HS Z na2 Z (fN Z func131 fok131.1 fok131.2 Z Z (spec_l23Is.calls HS  h16) (fun _ wd17 ⟨h18, HS⟩ => ⟨_, h18, (pS 2 Z (kN 9 Z (congrArg Bool.not c19) (oN Z (fL b1 1 fl62_1 Z (bK (oN Z (lB 0 HS Z na2 Z (bK (oN Z (fN Z func84 fok84.1 fok84.2 Z Z (spec_l01In.calls HS  h21) (fun _ wd22 ⟨h23, HS⟩ => ⟨_, h23, (bK ?_)⟩)))))))))))⟩))))
     refine oN Z (GO.not Z Z Z (bK (pS 2 Z (kN 15 Z (congrArg Bool.not c24) (oN Z (fL b1 2 fl62_2 Z (bK (oN Z (lB 0 HS Z na60 Z (bK (oN Z (lS Z Z underlying60 Z (bK (oN Z ?_))))))))))))))
     refine GO.gtr Z Z Z Z (bK (pS 2 Z (kN 21 Z (tF c25) (oN Z (fL b1 3 fl62_3 Z (bK (oN Z (lB 0 HS Z na43 Z (bK (oN Z (lS Z Z underlying43 Z (bK (oN Z (fL b1 4 fl62_4 Z ?_))))))))))))))
     refine bK (oN Z (lB 0 HS Z na43 Z (bK (oN Z (lS Z Z underlying43 Z (bK (oN Z (GO.neq Z Z Z Z (bK (pS 2 Z (kN 30 Z (nT c26) (oN Z (fL b1 3 fl62_3 Z (bK ?_))))))))))))))
     refine oN Z (lB 0 HS Z na43 Z (bK (oN Z (lS Z Z underlying43 Z (bK (oN Z (GO.gtr Z Z Z Z (bK (GO.pickF Z Z Z Z Z (nL ?_))))))))))
     rcases iE H with ⟨c27, H⟩ | ⟨c27, H⟩
     ·
      refine yB Z (tT c27) (rN 2 Z ?_)
      obtain rfl := sI H
      exact rT _ func89 Z Z ⟨Z, (HS.pk 1 [] Z)⟩
     refine nB Z (tF c27) (rN 6 Z ?_)
     refine G.name (fun z1 n1 => ?_)
     have o1 : ∀ g1, g1 ≤ K → ∀ (k1 : Int) (w : World), spec_IsPlainCertificate.l1 K g1 e1 d1 a1 c1 k1 = some r1 → St w0 w (Box b1 62 [I i1, I e1, .slice A_a d1.length c_a, .slice A_b a1.length c_b, .slice A_c c1.length c_c] :: L) → G prog 89 86 [(1, .pointer (some ⟨b1, 0, none⟩)), (3, I k1)] z1 w (spec_IsPlainCertificate.post w0 L r1) := by
      intro g1
      induction g1 using Nat.strongRecOn with
      | _ g1 y1 =>
       intro v1 k1 w H HS
       cases g1 with
       | zero => rw [spec_IsPlainCertificate.l1] at H; cases H
       | succ m1 =>
        rw [spec_IsPlainCertificate.l1] at H
        subst n1
        refine rN 2 Z (rG (mV Z (fL b1 2 fl62_2 Z (lB 0 HS Z na60 Z (lS Z Z underlying60 Z (GO.lss Z Z Z Z (nL ?_)))))))
        rcases iE H with ⟨c133, H⟩ | ⟨c133, H⟩
        ·
         refine yB Z (tT c133) (rN 4 Z ?_)
         obtain ⟨c134, H⟩ := iN H
         obtain ⟨e135, h136, H⟩ := bnd_elim H
         obtain ⟨t137, h138, H⟩ := bI H
         refine rG (fL b1 2 fl62_2 Z (lB 0 HS Z na60 Z (mV Z (GO.ix Z Z Z underlying60 sz140 ((rD 1 r_a) _ HS).2.2.1 c134.1 c134.2 Z (GO.ldRdA (T := T_GMove) (n := k1.toNat) HS (rD 1 r_a) Z Z (getD_eq (ltN c134) h136) ag140 Z (fN Z func132 fok132.1 fok132.2 Z Z (spec_MoveText.calls HS  h138) (fun _ wd139 ⟨h140, HS⟩ => ⟨_, h140, (GO.eqlS Z Z Z Z (nL ?_))⟩)))))))
         rcases iE H with ⟨c141, H⟩ | ⟨c141, H⟩
         ·
          refine yB Z c141 (rN 2 Z ?_)
          obtain rfl := sI H
          exact rT _ func89 Z Z ⟨Z, (HS.pk 1 [] Z)⟩
         refine nB Z (bnot_of c141) (rN 4 Z (G.weak ?_ (y1 m1 (Nat.lt_succ_of_le (lR _)) (Nat.le_of_succ_le v1) _ _ H HS)))
         exact ⟨Z, Z, tv⟩
        refine nB Z (tF c133) (rN 6 Z ?_)
        refine G.name (fun t1 q1 => ?_)
        have x1 : ∀ h1, h1 ≤ m1 → ∀ (f1 : Int) (w : World), spec_IsPlainCertificate.l4 K h1 e1 d1 a1 c1 f1 = some r1 → St w0 w (Box b1 62 [I i1, I e1, .slice A_a d1.length c_a, .slice A_b a1.length c_b, .slice A_c c1.length c_c] :: L) → G prog 89 86 [(1, .pointer (some ⟨b1, 0, none⟩)), (4, I f1)] t1 w (spec_IsPlainCertificate.post w0 L r1) := by
         intro h1
         induction h1 using Nat.strongRecOn with
         | _ h1 p1 =>
          intro u1 f1 w H HS
          cases h1 with
          | zero => rw [spec_IsPlainCertificate.l4] at H; cases H
          | succ s1 =>
           rw [spec_IsPlainCertificate.l4] at H
           subst q1
           refine rN 2 Z (rG (mV Z (fL b1 3 fl62_3 Z (lB 0 HS Z na43 Z (lS Z Z underlying43 Z (GO.lss Z Z Z Z (nL ?_)))))))
           rcases iE H with ⟨c171, H⟩ | ⟨c171, H⟩
           ·
            refine yB Z (tT c171) (rN 4 Z ?_)
            obtain ⟨c172, H⟩ := iN H
            obtain ⟨t173, h174, H⟩ := bI H
            rcases iE H with ⟨c177, H⟩ | ⟨c177, H⟩
            ·
             obtain ⟨c178, H⟩ := iN H
             obtain ⟨t179, h180, H⟩ := bI H
             refine rG (fL b1 3 fl62_3 Z (lB 0 HS Z na43 Z (mV Z (GO.ix Z Z Z underlying43 sz2 ((rD 1 r_b) _ HS).2.2.1 c172.1 c172.2 Z (GO.ldRd (T := (TInt .i64)) (n := f1.toNat) (o := 0) HS (rD 1 r_b) Z Z (getD_some (d := 0) (ltN c172)) Z Z na2 Z (fN Z func84 fok84.1 fok84.2 Z Z (spec_l01In.calls HS  h174) (fun _ wd175 ⟨h176, HS⟩ => ⟨_, h176, (pS 2 Z (kN 64 Z (congrArg Bool.not c177) (oN Z (fL b1 4 fl62_4 Z (bK (oN Z (lB 0 HS Z na43 Z (bK ?_))))))))⟩)))))))
             refine oN Z (mV Z (bK (oN Z (GO.ix Z Z Z underlying43 sz2 ((rD 1 r_c) _ HS).2.2.1 c178.1 c178.2 Z (bK (oN Z (GO.ldRd (T := (TInt .i64)) (n := f1.toNat) (o := 0) HS (rD 1 r_c) Z Z (getD_some (d := 0) (ltN c178)) Z Z na2 Z (bK (oN Z (fN Z func124 fok124.1 fok124.2 Z Z (spec_l06Valid.calls HS  h180) (fun _ wd181 ⟨h182, HS⟩ => ⟨_, h182, (bK (oN Z (GO.not Z Z Z (bK ?_))))⟩)))))))))))
             refine GO.pickF Z Z Z Z Z (nL ?_)
             rcases iE H with ⟨c183, H⟩ | ⟨c183, H⟩
             ·
              refine nB Z (congrArg Bool.not c183) (rN 4 Z (G.weak ?_ (p1 s1 (Nat.lt_succ_of_le (lR _)) (Nat.le_of_succ_le u1) _ _ H HS)))
              exact ⟨Z, Z, tv⟩
             refine yB Z (congrArg Bool.not (bnot_of c183)) (rN 2 Z ?_)
             obtain rfl := sI H
             exact rT _ func89 Z Z ⟨Z, (HS.pk 1 [] Z)⟩
            refine rG (fL b1 3 fl62_3 Z (lB 0 HS Z na43 Z (mV Z (GO.ix Z Z Z underlying43 sz2 ((rD 1 r_b) _ HS).2.2.1 c172.1 c172.2 Z (GO.ldRd (T := (TInt .i64)) (n := f1.toNat) (o := 0) HS (rD 1 r_b) Z Z (getD_some (d := 0) (ltN c172)) Z Z na2 Z (fN Z func84 fok84.1 fok84.2 Z Z (spec_l01In.calls HS  h174) (fun _ wd175 ⟨h176, HS⟩ => ⟨_, h176, (pS 2 Z (kN 64 Z (congrArg Bool.not (bnot_of c177)) (oF Z (oF Z (oF Z (oF Z (oF Z (oF Z ?_))))))))⟩)))))))
            refine oF Z (GO.pickT Z Z Z Z Z (nL (rN 3 Z ?_)))
            obtain rfl := sI H
            exact rT _ func89 Z Z ⟨Z, (HS.pk 1 [] Z)⟩
           refine nB Z (tF c171) (rN 2 Z ?_)
           rcases iE H with ⟨c184, H⟩ | ⟨c184, H⟩
           ·
            refine rG (fL b1 1 fl62_1 Z (lB 0 HS Z na2 Z (pS 2 Z (kN 76 Z (tT c184) (oF Z (oF Z (oF Z (oF Z (oF Z (oF Z (oF Z (oF Z (pS 2 Z (nL ?_))))))))))))))
            obtain rfl := sI H
            exact rT _ func89 Z Z ⟨Z, (HS.pk 1 [] Z)⟩
           refine rG (fL b1 1 fl62_1 Z (lB 0 HS Z na2 Z (pS 2 Z (kN 76 Z (tF c184) (oN Z (fL b1 2 fl62_2 Z (bK (oN Z (lB 0 HS Z na60 Z (bK (oN Z (lS Z Z underlying60 Z (bK (oN Z ?_))))))))))))))
           refine fL b1 3 fl62_3 Z (bK (oN Z (lB 0 HS Z na43 Z (bK (oN Z (lS Z Z underlying43 Z (bK (oN Z (GO.add Z Z Z Z (bK (oN Z (GO.eql Z Z Z Z (bK (pS 2 Z ?_))))))))))))))
           refine nL ?_
           obtain rfl := sI H
           exact rT _ func89 Z Z ⟨Z, (HS.pk 1 [] Z)⟩
        refine G.weak ?_ (x1 m1 (lR _) _ _ H HS)
        exact ⟨Z, Z, tv⟩
     refine G.weak ?_ (o1 K (lR _) _ _ H HS)
     exact ⟨Z, Z, tv⟩
    refine rG (fL b1 0 fl62_0 Z (lB 0 HS Z na2 Z (fN Z func131 fok131.1 fok131.2 Z Z (spec_l23Is.calls HS  h16) (fun _ wd17 ⟨h18, HS⟩ => ⟨_, h18, (pS 2 Z (kN 9 Z (congrArg Bool.not c19) (oN Z (fL b1 1 fl62_1 Z (bK (oN Z (lB 0 HS Z na2 Z (bK (oN Z (fN Z func84 fok84.1 fok84.2 Z Z (spec_l01In.calls HS  h21) (fun _ wd22 ⟨h23, HS⟩ => ⟨_, h23, (bK ?_)⟩)))))))))))⟩))))
    refine oN Z (GO.not Z Z Z (bK (pS 2 Z (kN 15 Z (congrArg Bool.not c24) (oN Z (fL b1 2 fl62_2 Z (bK (oN Z (lB 0 HS Z na60 Z (bK (oN Z (lS Z Z underlying60 Z (bK (oN Z ?_))))))))))))))
    refine GO.gtr Z Z Z Z (bK (pS 2 Z (kN 21 Z (tF c25) (oN Z (fL b1 3 fl62_3 Z (bK (oN Z (lB 0 HS Z na43 Z (bK (oN Z (lS Z Z underlying43 Z (bK (oN Z (fL b1 4 fl62_4 Z ?_))))))))))))))
    refine bK (oN Z (lB 0 HS Z na43 Z (bK (oN Z (lS Z Z underlying43 Z (bK (oN Z (GO.neq Z Z Z Z (bK (pS 2 Z (kN 30 Z (nF c26) (oF Z (oF Z (oF Z ?_))))))))))))))
    refine oF Z (GO.pickT Z Z Z Z Z (nL (rN 3 Z ?_)))
    obtain rfl := sI H
    exact rT _ func89 Z Z ⟨Z, (HS.pk 1 [] Z)⟩
   refine rG (fL b1 0 fl62_0 Z (lB 0 HS Z na2 Z (fN Z func131 fok131.1 fok131.2 Z Z (spec_l23Is.calls HS  h16) (fun _ wd17 ⟨h18, HS⟩ => ⟨_, h18, (pS 2 Z (kN 9 Z (congrArg Bool.not c19) (oN Z (fL b1 1 fl62_1 Z (bK (oN Z (lB 0 HS Z na2 Z (bK (oN Z (fN Z func84 fok84.1 fok84.2 Z Z (spec_l01In.calls HS  h21) (fun _ wd22 ⟨h23, HS⟩ => ⟨_, h23, (bK ?_)⟩)))))))))))⟩))))
   refine oN Z (GO.not Z Z Z (bK (pS 2 Z (kN 15 Z (congrArg Bool.not (bnot_of c24)) (oF Z (oF Z (oF Z (oF Z (pS 2 Z (oF Z (oF Z (oF Z (oF Z (oF Z ?_))))))))))))))
   refine oF Z (oF Z (pS 2 Z (oF Z (oF Z (oF Z (oF Z (GO.pickT Z Z Z Z Z (nL (rN 3 Z ?_)))))))))
   obtain rfl := sI H
   exact rT _ func89 Z Z ⟨Z, (HS.pk 1 [] Z)⟩
  refine rG (fL b1 0 fl62_0 Z (lB 0 HS Z na2 Z (fN Z func131 fok131.1 fok131.2 Z Z (spec_l23Is.calls HS  h16) (fun _ wd17 ⟨h18, HS⟩ => ⟨_, h18, (pS 2 Z (kN 9 Z (congrArg Bool.not (bnot_of c19)) (oF Z (oF Z (oF Z (oF Z (pS 2 Z (oF Z (oF Z (oF Z (oF Z ?_)))))))))))⟩))))
  refine pS 2 Z (oF Z (oF Z (oF Z (oF Z (oF Z (oF Z (oF Z (pS 2 Z (oF Z (oF Z (oF Z (oF Z (GO.pickT Z Z Z Z Z (nL ?_))))))))))))))
  refine rN 3 Z ?_
  obtain rfl := sI H
  exact rT _ func89 Z Z ⟨Z, (HS.pk 1 [] Z)⟩
theorem spec_ValidItem.calls {n1 : ByteArray} {p1 : Int} {e1 : List (List GFace)} {d1 : List GCrossing} {h1 m1 : Int} {f1 : List Int} {i1 k1 : Int} {c1 : List GMove} {g1 a1 : List Int} {A_a : Option Addr} {c_a : Nat} {y_a : Nat → (Ty.slice 157 T_GFace).Lay} {A_b : Option Addr} {c_b : Nat} {A_c : Option Addr} {c_c : Nat} {A_d : Option Addr} {c_d : Nat} {A_e : Option Addr} {c_e : Nat} {A_f : Option Addr} {c_f : Nat} {r1 : Bool} (HS : St w0 w (L)) (r_a : RdIn w0 L (Ty.slice 157 T_GFace) A_a c_a y_a e1) (r_b : RdIn w0 L T_GCrossing A_b c_b (fun _ => ()) d1) (r_c : RdIn w0 L (TInt .i64) A_c c_c (fun _ => ()) f1) (r_d : RdIn w0 L T_GMove A_d c_d (fun _ => ()) c1) (r_e : RdIn w0 L (TInt .i64) A_e c_e (fun _ => ()) g1) (r_f : RdIn w0 L (TInt .i64) A_f c_f (fun _ => ()) a1) (H : spec_ValidItem.f K n1 p1 e1 d1 h1 m1 f1 i1 k1 c1 g1 a1 = some r1) :
    Calls prog 42 #[.agg [.string n1, I p1, .slice A_a e1.length c_a, .slice A_b d1.length c_b, I h1, I m1, .slice A_c f1.length c_c, I i1, I k1, .slice A_d c1.length c_d, .slice A_e g1.length c_e, .slice A_f a1.length c_f].toArray] w (spec_ValidItem.post w0 L r1) := by
  unfold spec_ValidItem.f at H
  refine cG func42 Z ?_
  refine sQ (rG (GO.box (cs := [.string n1, I p1, .slice A_a e1.length c_a, .slice A_b d1.length c_b, I h1, I m1, .slice A_c f1.length c_c, I i1, I k1, .slice A_d c1.length c_d, .slice A_e g1.length c_e, .slice A_f a1.length c_f]) HS Z Z Z Z fun b1 wd2 HS => aS Z (nL (rN 2 Z ?_))))
  obtain ⟨t12, h13, H⟩ := bI H
  rcases iE H with ⟨c16, H⟩ | ⟨c16, H⟩
  ·
   obtain ⟨t17, h18, H⟩ := bI H
   refine rG (fL b1 0 fl64_0 Z (lB 0 HS Z na9 Z (fN Z func83 fok83.1 fok83.2 Z Z (spec_l33Name.calls HS  h13) (fun _ wd14 ⟨h15, HS⟩ => ⟨_, h15, (pS 2 Z (kN 8 Z (congrArg Bool.not c16) (oN Z (fL b1 1 fl64_1 Z (bK (oN Z (lB 0 HS Z na2 Z (bK (oN Z (fN Z func84 fok84.1 fok84.2 Z Z (spec_l01In.calls HS  h18) (fun _ wd19 ⟨h20, HS⟩ => ⟨_, h20, (bK ?_)⟩)))))))))))⟩))))
   refine oN Z (GO.not Z Z Z (bK (GO.pickF Z Z Z Z Z (nL ?_))))
   rcases iE H with ⟨c21, H⟩ | ⟨c21, H⟩
   ·
    refine nB Z (congrArg Bool.not c21) (rN 6 Z ?_)
    refine G.name (fun y1 v1 => ?_)
    have x1 : ∀ o1, o1 ≤ K → ∀ (q1 : Int) (w : World), spec_ValidItem.l1 K o1 n1 p1 e1 d1 h1 m1 f1 i1 k1 c1 g1 a1 q1 = some r1 → St w0 w (Box b1 64 [.string n1, I p1, .slice A_a e1.length c_a, .slice A_b d1.length c_b, I h1, I m1, .slice A_c f1.length c_c, I i1, I k1, .slice A_d c1.length c_d, .slice A_e g1.length c_e, .slice A_f a1.length c_f] :: L) → G prog 42 48 [(1, .pointer (some ⟨b1, 0, none⟩)), (3, I q1)] y1 w (spec_ValidItem.post w0 L r1) := by
     intro o1
     induction o1 using Nat.strongRecOn with
     | _ o1 t1 =>
      intro s1 q1 w H HS
      cases o1 with
      | zero => rw [spec_ValidItem.l1] at H; cases H
      | succ u1 =>
       rw [spec_ValidItem.l1] at H
       subst v1
       refine rN 3 Z ?_
       rcases iE H with ⟨c55, H⟩ | ⟨c55, H⟩
       ·
        refine yB Z (tT c55) (rN 4 Z ?_)
        rcases iE H with ⟨c56, H⟩ | ⟨c56, H⟩
        ·
         refine rG (mV Z (fL b1 1 fl64_1 Z (lB 0 HS Z na2 Z (pS 2 Z (kN 22 Z (nT c56) (oF Z (oF Z (oF Z (oF Z (GO.pickF Z Z Z Z Z (nL (rN 5 Z (G.weak ?_ (t1 u1 (Nat.lt_succ_of_le (lR _)) (Nat.le_of_succ_le s1) _ _ H HS))))))))))))))
         exact ⟨Z, Z, tv⟩
        obtain ⟨t57, h58, H⟩ := bI H
        refine rG (mV Z (fL b1 1 fl64_1 Z (lB 0 HS Z na2 Z (pS 2 Z (kN 22 Z (nF c56) (oN Z (GO.ldBoxA (j := 0) ([.string n1, I p1, .slice A_a e1.length c_a, .slice A_b d1.length c_b, I h1, I m1, .slice A_c f1.length c_c, I i1, I k1, .slice A_d c1.length c_d, .slice A_e g1.length c_e, .slice A_f a1.length c_f]) HS Z Z Z Z ag64 Z (bK (oN Z (mV Z (bK (oN Z (fN Z func85 fok85.1 fok85.2 Z Z (spec_l33Zero.calls HS (rD 1 r_a) (rD 1 r_b) (rD 1 r_c) (rD 1 r_d) (rD 1 r_e) (rD 1 r_f) h58) (fun _ wd59 ⟨h60, HS⟩ => ⟨_, h60, (bK ?_)⟩))))))))))))))
        refine oN Z (GO.not Z Z Z (bK (GO.pickT Z Z Z Z Z (nL ?_))))
        rcases iE H with ⟨c61, H⟩ | ⟨c61, H⟩
        ·
         refine nB Z (congrArg Bool.not c61) (rN 4 Z (G.weak ?_ (t1 u1 (Nat.lt_succ_of_le (lR _)) (Nat.le_of_succ_le s1) _ _ H HS)))
         exact ⟨Z, Z, tv⟩
        refine yB Z (congrArg Bool.not (bnot_of c61)) (rN 2 Z ?_)
        obtain rfl := sI H
        exact rT _ func42 Z Z ⟨Z, (HS.pk 1 [] Z)⟩
       refine nB Z (tF c55) (rN 3 Z (rG (fL b1 1 fl64_1 Z (lB 0 HS Z na2 Z (nL (rN 3 Z ?_))))))
       rcases iE H with ⟨c62, H⟩ | ⟨c62, H⟩
       ·
        refine yB Z (tT c62) (sQ ?_)
        obtain ⟨t63, h64, H⟩ := bI H
        refine rG (fL b1 2 fl64_2 Z (GO.ldBoxA (j := 0) ([.slice A_a e1.length c_a]) HS Z Z Z Z ag55 Z (fN Z func86 fok86.1 fok86.2 Z Z (spec_IsTriangulation.calls HS (rD 1 r_a) h64) (fun _ wd65 ⟨h66, HS⟩ => ⟨_, h66, (aS Z (nL ?_))⟩))))
        obtain rfl := sI H
        exact rT _ func42 Z Z ⟨Z, (HS.pk 1 [] Z)⟩
       refine nB Z (tF c62) (rN 2 Z ?_)
       rcases iE H with ⟨c67, H⟩ | ⟨c67, H⟩
       ·
        refine yB Z (tT c67) (sQ ?_)
        obtain ⟨t68, h69, H⟩ := bI H
        refine rG (fL b1 3 fl64_3 Z (GO.ldBoxA (j := 0) ([.slice A_b d1.length c_b, I h1]) HS Z Z Z Z ag58 Z (fN Z func87 fok87.1 fok87.2 Z Z (spec_IsDiagram.calls HS (rD 1 r_b) h69) (fun _ wd70 ⟨h71, HS⟩ => ⟨_, h71, (aS Z (nL ?_))⟩))))
        obtain rfl := sI H
        exact rT _ func42 Z Z ⟨Z, (HS.pk 1 [] Z)⟩
       refine nB Z (tF c67) (rN 2 Z ?_)
       rcases iE H with ⟨c72, H⟩ | ⟨c72, H⟩
       ·
        refine yB Z (tT c72) (sQ ?_)
        obtain ⟨t73, h74, H⟩ := bI H
        refine rG (fL b1 5 fl64_4 Z (GO.ldBoxA (j := 0) ([I m1, .slice A_c f1.length c_c]) HS Z Z Z Z ag59 Z (fN Z func88 fok88.1 fok88.2 Z Z (spec_ValidBraid.calls HS (rD 1 r_c) h74) (fun _ wd75 ⟨h76, HS⟩ => ⟨_, h76, (aS Z (nL ?_))⟩))))
        obtain rfl := sI H
        exact rT _ func42 Z Z ⟨Z, (HS.pk 1 [] Z)⟩
       refine nB Z (tF c72) (rN 3 Z ?_)
       obtain ⟨t77, h78, H⟩ := bI H
       refine rG (fL b1 7 fl64_5 Z (GO.ldBoxA (j := 0) ([I i1, I k1, .slice A_d c1.length c_d, .slice A_e g1.length c_e, .slice A_f a1.length c_f]) HS Z Z Z Z ag62 Z (fN Z func89 fok89.1 fok89.2 Z Z (spec_IsPlainCertificate.calls HS (rD 1 r_d) (rD 1 r_e) (rD 1 r_f) h78) (fun _ wd79 ⟨h80, HS⟩ => ⟨_, h80, (aS Z (nL ?_))⟩))))
       obtain rfl := sI H
       exact rT _ func42 Z Z ⟨Z, (HS.pk 1 [] Z)⟩
    refine G.weak ?_ (x1 K (lR _) _ _ H HS)
    exact ⟨Z, Z, tv⟩
   refine yB Z (congrArg Bool.not (bnot_of c21)) (rN 2 Z ?_)
   obtain rfl := sI H
   exact rT _ func42 Z Z ⟨Z, (HS.pk 1 [] Z)⟩
  refine rG (fL b1 0 fl64_0 Z (lB 0 HS Z na9 Z (fN Z func83 fok83.1 fok83.2 Z Z (spec_l33Name.calls HS  h13) (fun _ wd14 ⟨h15, HS⟩ => ⟨_, h15, (pS 2 Z (kN 8 Z (congrArg Bool.not (bnot_of c16)) (oF Z (oF Z (oF Z (oF Z (GO.pickT Z Z Z Z Z (nL (rN 3 Z ?_)))))))))⟩))))
  obtain rfl := sI H
  exact rT _ func42 Z Z ⟨Z, (HS.pk 1 [] Z)⟩
theorem spec_l33List.calls {list : List GItem} {A_a : Option Addr} {c_a : Nat} {y_a : Nat → T_GItem_63.Lay} {r1 : Bool} (HS : St w0 w (L)) (r_a : RdIn w0 L T_GItem_63 A_a c_a y_a list) (H : spec_l33List.f K list = some r1) :
    Calls prog 59 #[.slice A_a list.length c_a] w (spec_l33List.post w0 L r1) := by
  unfold spec_l33List.f at H
  refine cG func59 Z ?_
  refine rN 7 Z ?_
  refine G.name (fun g1 f1 => ?_)
  have h1 : ∀ b1, b1 ≤ K → ∀ (a1 : Int) (w : World), spec_l33List.l1 K b1 list a1 = some r1 → St w0 w (L) → G prog 59 37 [(0, .slice A_a list.length c_a), (3, I a1)] g1 w (spec_l33List.post w0 L r1) := by
   intro b1
   induction b1 using Nat.strongRecOn with
   | _ b1 e1 =>
    intro d1 a1 w H HS
    cases b1 with
    | zero => rw [spec_l33List.l1] at H; cases H
    | succ c1 =>
     rw [spec_l33List.l1] at H
     subst f1
     refine rN 2 Z (rG (pS 2 Z (lS Z Z underlying27 Z (GO.lss Z Z Z Z (nL ?_)))))
     rcases iE H with ⟨c25, H⟩ | ⟨c25, H⟩
     ·
      refine yB Z (tT c25) (rN 4 Z ?_)
      obtain ⟨c26, H⟩ := iN H
      obtain ⟨e27, h28, H⟩ := bnd_elim H
      obtain ⟨t29, h30, H⟩ := bI H
      rcases iE H with ⟨c33, H⟩ | ⟨c33, H⟩
      ·
       rcases iE H with ⟨c34, H⟩ | ⟨c34, H⟩
       ·
        obtain ⟨c35, H⟩ := iN H
        obtain ⟨e36, h37, H⟩ := bnd_elim H
        refine G.lex mixed [0, 1, 2, 3, 4, 5, 6, 7, 8, 9, 10, 11, 12, 13, 14, 16, 17, 18, 19, 15, 20, 21, 22, 23] (by kernel_rfl) ?_
        replace HS := HS.drew
        refine GX.ps 2 Z (qL Z Z (fun _ _ g => GO.ix Z Z Z underlying27 sz64 (r_a _ HS).2.2.1 c26.1 c26.2 Z g) Z (GX.l1 Z Z Z (fun _ g => GO.ldRdA (T := T_GItem_63) (n := a1.toNat) HS r_a Z Z (getD_eq (ltN c26) h28) ag64 Z g) Z (GX.l2 Z (fN Z func42 fok42.1 fok42.2 Z Z (spec_ValidItem.calls HS (RdIn.fld r_a (getD_eq (ltN c26) h28) (fun _ h => h.2.2.1)) (RdIn.fld r_a (getD_eq (ltN c26) h28) (fun _ h => h.2.2.2.1)) (RdIn.fld r_a (getD_eq (ltN c26) h28) (fun _ h => h.2.2.2.2.2.2.1)) (RdIn.fld r_a (getD_eq (ltN c26) h28) (fun _ h => h.2.2.2.2.2.2.2.2.2.1)) (RdIn.fld r_a (getD_eq (ltN c26) h28) (fun _ h => h.2.2.2.2.2.2.2.2.2.2.1)) (RdIn.fld r_a (getD_eq (ltN c26) h28) (fun _ h => h.2.2.2.2.2.2.2.2.2.2.2)) h30) (fun _ wd31 ⟨h32, HS⟩ => ⟨_, h32, (GX.fin tv (GX.ps 1 Z (qL Z Z (fun _ _ g => mV Z (kN 16 Z (congrArg Bool.not c33) g)) Z (qL Z Z (fun _ _ g => oN Z (mV Z (bK g))) Z (qL Z Z (fun _ _ g => oN Z (GO.gtr Z Z Z Z (bK g))) Z (qL Z Z (fun _ _ g => oN Z (mV Z (bK (kN 19 Z (tT c34) g)))) Z (qL Z Z (fun _ _ g => oN Z (mV Z (bK g))) Z (qL Z Z (fun _ _ g => oN Z (mV Z (bK g))) Z (qL Z Z (fun _ _ g => oN Z (GO.sub Z Z Z Z (bK g))) Z (qL Z Z (fun _ _ g => oN Z (GO.ix Z Z Z underlying27 sz64 (r_a _ HS).2.2.1 c35.1 c35.2 Z (bK g))) Z ?_))))))))))⟩)))))
        refine qL Z Z (fun _ _ g => oN Z (GO.fld (ea A_a (((w64 (a1 - 1)).toNat) * 12)) Z Z fl64_0 Z Z (bK g))) Z (qL Z Z (fun _ _ g => oN Z (mV Z (bK g))) Z (qL Z Z (fun _ _ g => oN Z (mV Z (bK g))) Z (qL Z Z (fun _ _ g => oN Z (GO.ix Z Z Z underlying27 sz64 (r_a _ HS).2.2.1 c26.1 c26.2 Z (bK g))) Z (qL Z Z (fun _ _ g => oN Z (GO.fld (ea A_a (a1.toNat * 12)) Z Z fl64_0 Z Z (bK g))) Z (GX.l1 Z Z Z (fun _ g => oN Z (GO.ldRd (T := T_GItem_63) (n := (w64 (a1 - 1)).toNat) (o := 0) HS r_a Z Z (getD_eq (ltN c35) h37) Z Z na9 Z (bK g))) Z (GX.l1 Z Z Z (fun _ g => oN Z (GO.ldRd (T := T_GItem_63) (n := a1.toNat) (o := 0) HS r_a Z Z (getD_eq (ltN c26) h28) Z Z na9 Z (bK g))) Z (qL Z Z (fun _ _ g => oN Z (GO.geqS Z Z Z Z (bK g))) Z (qL Z Z (fun _ _ g => oN Z (GO.pickT Z Z Z Z Z (bK g))) Z (GX.ps 1 Z (GX.nil ?_))))))))))
        rcases iE H with ⟨c38, H⟩ | ⟨c38, H⟩
        ·
         refine nB Z (congrArg Bool.not c38) (rN 4 Z (G.weak ?_ (e1 c1 (Nat.lt_succ_of_le (lR _)) (Nat.le_of_succ_le d1) _ _ H HS)))
         exact ⟨Z, Z, tv⟩
        refine yB Z (congrArg Bool.not (bnot_of c38)) (rN 2 Z ?_)
        obtain rfl := sI H
        exact rT _ func59 Z Z ⟨Z, HS⟩
       refine G.lex mixed [0, 1, 2, 3, 4, 5, 6, 7, 8, 9, 10, 11, 12, 13, 14, 16, 17, 18, 19, 15, 20, 21, 22, 23] (by kernel_rfl) ?_
       replace HS := HS.drew
       refine GX.ps 2 Z (qL Z Z (fun _ _ g => GO.ix Z Z Z underlying27 sz64 (r_a _ HS).2.2.1 c26.1 c26.2 Z g) Z (GX.l1 Z Z Z (fun _ g => GO.ldRdA (T := T_GItem_63) (n := a1.toNat) HS r_a Z Z (getD_eq (ltN c26) h28) ag64 Z g) Z (GX.l2 Z (fN Z func42 fok42.1 fok42.2 Z Z (spec_ValidItem.calls HS (RdIn.fld r_a (getD_eq (ltN c26) h28) (fun _ h => h.2.2.1)) (RdIn.fld r_a (getD_eq (ltN c26) h28) (fun _ h => h.2.2.2.1)) (RdIn.fld r_a (getD_eq (ltN c26) h28) (fun _ h => h.2.2.2.2.2.2.1)) (RdIn.fld r_a (getD_eq (ltN c26) h28) (fun _ h => h.2.2.2.2.2.2.2.2.2.1)) (RdIn.fld r_a (getD_eq (ltN c26) h28) (fun _ h => h.2.2.2.2.2.2.2.2.2.2.1)) (RdIn.fld r_a (getD_eq (ltN c26) h28) (fun _ h => h.2.2.2.2.2.2.2.2.2.2.2)) h30) (fun _ wd31 ⟨h32, HS⟩ => ⟨_, h32, (GX.fin tv (GX.ps 1 Z (qL Z Z (fun _ _ g => mV Z (kN 16 Z (congrArg Bool.not c33) g)) Z (qL Z Z (fun _ _ g => oN Z (mV Z (bK g))) Z (qL Z Z (fun _ _ g => oN Z (GO.gtr Z Z Z Z (bK g))) Z (qL Z Z (fun _ _ g => oN Z (mV Z (bK (kN 19 Z (tF c34) g)))) Z (qL Z Z (fun _ _ g => oF Z g) Z (qL Z Z (fun _ _ g => oF Z g) Z (qL Z Z (fun _ _ g => oF Z g) Z (qL Z Z (fun _ _ g => oF Z g) Z ?_))))))))))⟩)))))
       refine qL Z Z (fun _ _ g => oF Z g) Z (qL Z Z (fun _ _ g => oF Z g) Z (qL Z Z (fun _ _ g => oF Z g) Z (qL Z Z (fun _ _ g => oF Z g) Z (qL Z Z (fun _ _ g => oF Z g) Z (GX.l1 Z Z Z (fun _ g => oF Z g) Z (GX.l1 Z Z Z (fun _ g => oF Z g) Z (qL Z Z (fun _ _ g => oF Z g) Z (qL Z Z (fun _ _ g => oN Z (GO.pickF Z Z Z Z Z (bK g))) Z (GX.ps 1 Z (GX.nil (rN 5 Z (G.weak ?_ (e1 c1 (Nat.lt_succ_of_le (lR _)) (Nat.le_of_succ_le d1) _ _ H HS)))))))))))))
       exact ⟨Z, Z, tv⟩
      refine G.lex mixed [0, 1, 2, 3, 4, 5, 6, 7, 8, 9, 10, 11, 12, 13, 14, 16, 17, 18, 19, 15, 20, 21, 22, 23] (by kernel_rfl) ?_
      replace HS := HS.drew
      refine GX.ps 2 Z (qL Z Z (fun _ _ g => GO.ix Z Z Z underlying27 sz64 (r_a _ HS).2.2.1 c26.1 c26.2 Z g) Z (GX.l1 Z Z Z (fun _ g => GO.ldRdA (T := T_GItem_63) (n := a1.toNat) HS r_a Z Z (getD_eq (ltN c26) h28) ag64 Z g) Z (GX.l2 Z (fN Z func42 fok42.1 fok42.2 Z Z (spec_ValidItem.calls HS (RdIn.fld r_a (getD_eq (ltN c26) h28) (fun _ h => h.2.2.1)) (RdIn.fld r_a (getD_eq (ltN c26) h28) (fun _ h => h.2.2.2.1)) (RdIn.fld r_a (getD_eq (ltN c26) h28) (fun _ h => h.2.2.2.2.2.2.1)) (RdIn.fld r_a (getD_eq (ltN c26) h28) (fun _ h => h.2.2.2.2.2.2.2.2.2.1)) (RdIn.fld r_a (getD_eq (ltN c26) h28) (fun _ h => h.2.2.2.2.2.2.2.2.2.2.1)) (RdIn.fld r_a (getD_eq (ltN c26) h28) (fun _ h => h.2.2.2.2.2.2.2.2.2.2.2)) h30) (fun _ wd31 ⟨h32, HS⟩ => ⟨_, h32, (GX.fin tv (GX.ps 1 Z (qL Z Z (fun _ _ g => mV Z (kN 16 Z (congrArg Bool.not (bnot_of c33)) g)) Z (qL Z Z (fun _ _ g => oF Z g) Z (qL Z Z (fun _ _ g => oF Z g) Z (qL Z Z (fun _ _ g => oF Z g) Z (qL Z Z (fun _ _ g => GO.offU Z Z Z Z Z Z g) Z (qL Z Z (fun _ _ g => GO.offU Z Z Z Z Z Z g) Z (qL Z Z (fun _ _ g => GO.offU Z Z Z Z Z Z g) Z (qL Z Z (fun _ _ g => GO.offU Z Z Z Z Z Z g) Z ?_))))))))))⟩)))))
      refine qL Z Z (fun _ _ g => GO.offU Z Z Z Z Z Z g) Z (qL Z Z (fun _ _ g => GO.offU Z Z Z Z Z Z g) Z (qL Z Z (fun _ _ g => GO.offU Z Z Z Z Z Z g) Z (qL Z Z (fun _ _ g => GO.offU Z Z Z Z Z Z g) Z (qL Z Z (fun _ _ g => GO.offU Z Z Z Z Z Z g) Z (GX.l1 Z Z Z (fun _ g => GO.offU Z Z Z Z Z Z g) Z (GX.l1 Z Z Z (fun _ g => GO.offU Z Z Z Z Z Z g) Z (qL Z Z (fun _ _ g => GO.offU Z Z Z Z Z Z g) Z (qL Z Z (fun _ _ g => oF Z g) Z (GX.ps 1 Z (GX.nil (rN 3 Z ?_)))))))))))
      obtain rfl := sI H
      exact rT _ func59 Z Z ⟨Z, HS⟩
     refine nB Z (tF c25) (rN 2 Z (rG (mV Z (lS Z Z underlying27 Z (pS 2 Z (nL ?_))))))
     obtain rfl := sI H
     exact rT _ func59 Z Z ⟨Z, HS⟩
  refine G.weak ?_ (h1 K (lR _) _ _ H HS)
  exact ⟨Z, Z, tv⟩
theorem spec_l33Stack.calls {list : List (List GItem)} {A_a : Option Addr} {c_a : Nat} {y_a : Nat → (Ty.slice 64 T_GItem_63).Lay} {r1 : Bool} (HS : St w0 w (L)) (r_a : RdIn w0 L (Ty.slice 64 T_GItem_63) A_a c_a y_a list) (H : spec_l33Stack.f K list = some r1) :
    Calls prog 60 #[.slice A_a list.length c_a] w (spec_l33Stack.post w0 L r1) := by
  unfold spec_l33Stack.f at H
  refine cG func60 Z ?_
  refine rN 7 Z ?_
  refine G.name (fun f1 c1 => ?_)
  have g1 : ∀ a1, a1 ≤ K → ∀ (i_8 : Int) (w : World), spec_l33Stack.l1 K a1 list i_8 = some r1 → St w0 w (L) → G prog 60 19 [(0, .slice A_a list.length c_a), (3, I i_8)] f1 w (spec_l33Stack.post w0 L r1) := by
   intro a1
   induction a1 using Nat.strongRecOn with
   | _ a1 e1 =>
    intro d1 i_8 w H HS
    cases a1 with
    | zero => rw [spec_l33Stack.l1] at H; cases H
    | succ b1 =>
     rw [spec_l33Stack.l1] at H
     subst c1
     refine rN 2 Z (rG (pS 2 Z (lS Z Z underlying28 Z (GO.lss Z Z Z Z (nL ?_)))))
     rcases iE H with ⟨c16, H⟩ | ⟨c16, H⟩
     ·
      refine yB Z (tT c16) (rN 4 Z ?_)
      obtain ⟨c17, H⟩ := iN H
      obtain ⟨t18, h19, H⟩ := bI H
      refine rG (pS 2 Z (GO.ix Z Z Z underlying28 sz27 (r_a _ HS).2.2.1 c17.1 c17.2 Z (GO.ldRd (T := (Ty.slice 64 T_GItem_63)) (n := i_8.toNat) (o := 0) HS r_a Z Z (getD_some (d := []) (ltN c17)) Z Z na27 Z (fN Z func59 fok59.1 fok59.2 Z Z (spec_l33List.calls HS (RdIn.elem r_a c17.1 c17.2) h19) (fun _ wd20 ⟨h21, HS⟩ => ⟨_, h21, (GO.not Z Z Z (nL ?_))⟩)))))
      rcases iE H with ⟨c22, H⟩ | ⟨c22, H⟩
      ·
       refine nB Z (congrArg Bool.not c22) (rN 4 Z (G.weak ?_ (e1 b1 (Nat.lt_succ_of_le (lR _)) (Nat.le_of_succ_le d1) _ _ H HS)))
       exact ⟨Z, Z, tv⟩
      refine yB Z (congrArg Bool.not (bnot_of c22)) (rN 2 Z ?_)
      obtain rfl := sI H
      exact rT _ func60 Z Z ⟨Z, HS⟩
     refine nB Z (tF c16) (rN 2 Z (rG (mV Z (lS Z Z underlying28 Z (pS 2 Z (nL ?_))))))
     obtain rfl := sI H
     exact rT _ func60 Z Z ⟨Z, HS⟩
  refine G.weak ?_ (g1 K (lR _) _ _ H HS)
  exact ⟨Z, Z, tv⟩
theorem spec_ValidBench.calls {a1 : List GItem} {c1 d1 : List (List GItem)} {A_a : Option Addr} {c_a : Nat} {y_a : Nat → T_GItem_63.Lay} {A_b : Option Addr} {c_b : Nat} {y_b : Nat → (Ty.slice 64 T_GItem_63).Lay} {A_c : Option Addr} {c_c : Nat} {y_c : Nat → (Ty.slice 64 T_GItem_63).Lay} {r1 : Bool} (HS : St w0 w (L)) (r_a : RdIn w0 L T_GItem_63 A_a c_a y_a a1) (r_b : RdIn w0 L (Ty.slice 64 T_GItem_63) A_b c_b y_b c1) (r_c : RdIn w0 L (Ty.slice 64 T_GItem_63) A_c c_c y_c d1) (H : spec_ValidBench.f K a1 c1 d1 = some r1) :
    Calls prog 20 #[.agg [.slice A_a a1.length c_a, .slice A_b c1.length c_b, .slice A_c d1.length c_c].toArray] w (spec_ValidBench.post w0 L r1) := by
  unfold spec_ValidBench.f at H
  refine cG func20 Z ?_
  refine sQ (rG (GO.box (cs := [.slice A_a a1.length c_a, .slice A_b c1.length c_b, .slice A_c d1.length c_c]) HS Z Z Z Z fun b1 wd2 HS => aS Z (nL (sQ ?_))))
  obtain ⟨t3, h4, H⟩ := bI H
  rcases iE H with ⟨c7, H⟩ | ⟨c7, H⟩
  ·
   obtain ⟨t8, h9, H⟩ := bI H
   rcases iE H with ⟨c12, H⟩ | ⟨c12, H⟩
   ·
    obtain ⟨t13, h14, H⟩ := bI H
    refine rG (fL b1 0 fl30_0 Z (lB 0 HS Z na27 Z (fN Z func59 fok59.1 fok59.2 Z Z (spec_l33List.calls HS (rD 1 r_a) h4) (fun _ wd5 ⟨h6, HS⟩ => ⟨_, h6, (mV Z (kN 6 Z c7 (oN Z (fL b1 1 fl30_1 Z (bK (oN Z (lB 0 HS Z na28 Z (bK (oN Z (fN Z func60 fok60.1 fok60.2 Z Z (spec_l33Stack.calls HS (rD 1 r_b) h9) (fun _ wd10 ⟨h11, HS⟩ => ⟨_, h11, (bK ?_)⟩)))))))))))⟩))))
    refine pS 2 Z (kN 11 Z c12 (oN Z (fL b1 2 fl30_2 Z (bK (oN Z (lB 0 HS Z na28 Z (bK (oN Z (fN Z func60 fok60.1 fok60.2 Z Z (spec_l33Stack.calls HS (rD 1 r_c) h14) (fun _ wd15 ⟨h16, HS⟩ => ⟨_, h16, (bK (pS 2 Z (nL ?_)))⟩))))))))))
    obtain rfl := sI H
    exact rT _ func20 Z Z ⟨Z, (HS.pk 1 [] Z)⟩
   refine rG (fL b1 0 fl30_0 Z (lB 0 HS Z na27 Z (fN Z func59 fok59.1 fok59.2 Z Z (spec_l33List.calls HS (rD 1 r_a) h4) (fun _ wd5 ⟨h6, HS⟩ => ⟨_, h6, (mV Z (kN 6 Z c7 (oN Z (fL b1 1 fl30_1 Z (bK (oN Z (lB 0 HS Z na28 Z (bK (oN Z (fN Z func60 fok60.1 fok60.2 Z Z (spec_l33Stack.calls HS (rD 1 r_b) h9) (fun _ wd10 ⟨h11, HS⟩ => ⟨_, h11, (bK ?_)⟩)))))))))))⟩))))
   refine pS 2 Z (kN 11 Z (bnot_of c12) (oF Z (oF Z (oF Z (pS 2 Z (nL ?_))))))
   obtain rfl := sI H
   exact rT _ func20 Z Z ⟨Z, (HS.pk 1 [] Z)⟩
  refine rG (fL b1 0 fl30_0 Z (lB 0 HS Z na27 Z (fN Z func59 fok59.1 fok59.2 Z Z (spec_l33List.calls HS (rD 1 r_a) h4) (fun _ wd5 ⟨h6, HS⟩ => ⟨_, h6, (mV Z (kN 6 Z (bnot_of c7) (oF Z (oF Z (oF Z (pS 2 Z (oF Z (oF Z (oF Z (pS 2 Z (nL ?_)))))))))))⟩))))
  obtain rfl := sI H
  exact rT _ func20 Z Z ⟨Z, (HS.pk 1 [] Z)⟩
theorem spec_l33Find.calls {list : List GItem} {name : ByteArray} {A_a : Option Addr} {c_a : Nat} {y_a : Nat → T_GItem_63.Lay} {r1 : Int} (HS : St w0 w (L)) (r_a : RdIn w0 L T_GItem_63 A_a c_a y_a list) (H : spec_l33Find.f K list name = some r1) :
    Calls prog 21 #[.slice A_a list.length c_a, .string name] w (spec_l33Find.post w0 L r1) := by
  unfold spec_l33Find.f at H
  refine cG func21 Z ?_
  refine rN 7 Z ?_
  refine G.name (fun f1 c1 => ?_)
  have g1 : ∀ a1, a1 ≤ K → ∀ (i_6 : Int) (w : World), spec_l33Find.l1 K a1 list name i_6 = some r1 → St w0 w (L) → G prog 21 20 [(0, .slice A_a list.length c_a), (1, .string name), (5, I i_6)] f1 w (spec_l33Find.post w0 L r1) := by
   intro a1
   induction a1 using Nat.strongRecOn with
   | _ a1 e1 =>
    intro d1 i_6 w H HS
    cases a1 with
    | zero => rw [spec_l33Find.l1] at H; cases H
    | succ b1 =>
     rw [spec_l33Find.l1] at H
     subst c1
     refine rN 2 Z (rG (pS 2 Z (lS Z Z underlying27 Z (GO.lss Z Z Z Z (nL ?_)))))
     rcases iE H with ⟨c12, H⟩ | ⟨c12, H⟩
     ·
      refine yB Z (tT c12) (rN 4 Z ?_)
      obtain ⟨c13, H⟩ := iN H
      obtain ⟨e14, h15, H⟩ := bnd_elim H
      refine rG (pS 2 Z (GO.ix Z Z Z underlying27 sz64 (r_a _ HS).2.2.1 c13.1 c13.2 Z (GO.fld (ea A_a (i_6.toNat * 12)) Z Z fl64_0 Z Z (GO.ldRd (T := T_GItem_63) (n := i_6.toNat) (o := 0) HS r_a Z Z (getD_eq (ltN c13) h15) Z Z na9 Z (mV Z (GO.eqlS Z Z Z Z (nL ?_)))))))
      rcases iE H with ⟨c16, H⟩ | ⟨c16, H⟩
      ·
       refine yB Z c16 (rN 2 Z ?_)
       obtain rfl := sI H
       exact rT _ func21 Z Z ⟨Z, HS⟩
      refine nB Z (bnot_of c16) (rN 4 Z (G.weak ?_ (e1 b1 (Nat.lt_succ_of_le (lR _)) (Nat.le_of_succ_le d1) _ _ H HS)))
      exact ⟨Z, Z, Z, tv⟩
     refine nB Z (tF c12) (rN 3 Z ?_)
     obtain rfl := sI H
     exact rT _ func21 Z Z ⟨Z, HS⟩
  refine G.weak ?_ (g1 K (lR _) _ _ H HS)
  exact ⟨Z, Z, Z, tv⟩
theorem spec_l07Own.calls {c1 : List (List GFace)} {A_a : Option Addr} {c_a : Nat} {y_a : Nat → (Ty.slice 157 T_GFace).Lay} {r1 : List (List GFace)} (HS : St w0 w (L)) (r_a : RdIn w0 L (Ty.slice 157 T_GFace) A_a c_a y_a c1) (H : spec_l07Own.f K c1 = some r1) :
    Calls prog 90 #[.agg [.slice A_a c1.length c_a].toArray] w (spec_l07Own.post w0 L r1) := by
  unfold spec_l07Own.f at H
  refine cG func90 Z ?_
  refine sQ (rG (GO.box (cs := [.slice A_a c1.length c_a]) HS Z Z Z Z fun b1 wd2 HS => GO.alloc HS Z zr55 Z Z fun b3 wd4 HS => nL (sQ (rG (GO.buildV (.agg [.slice none 0 0].toArray) Z Z (fun _ => by kernel_rfl) Z (GO.alloc HS Z zr55 Z Z fun b5 wd6 HS => GO.stBox (j := 0) (vs := [.slice none 0 0]) ([.slice none 0 0]) HS Z Z Z Z Z (htA ag55) Z Z Z fun wd7 HS => nL (rN 5 Z ?_)))))))
  refine G.name (fun k1 g1 => ?_)
  have m1 : ∀ e1, e1 ≤ K → ∀ (A25 : Option Addr) (c26 : Nat) (a1 : List (List GFace)) (y28 : Nat → (Ty.slice 157 T_GFace).Lay) (d1 : Int) (w : World), spec_l07Own.l1 K e1 c1 a1 d1 = some r1 → St w0 w (Box b1 55 [.slice A_a c1.length c_a] :: Box b3 55 [.slice none 0 0] :: Box b5 55 [.slice A25 a1.length c26] :: Own (Ty.slice 157 T_GFace) 150 A25 c26 y28 a1 :: L) → G prog 90 26 [(1, .pointer (some ⟨b1, 0, none⟩)), (2, .pointer (some ⟨b3, 0, none⟩)), (3, .pointer (some ⟨b5, 0, none⟩)), (4, I d1)] k1 w (spec_l07Own.post w0 L r1) := by
   intro e1
   induction e1 using Nat.strongRecOn with
   | _ e1 i1 =>
    intro h1 A25 c26 a1 y28 d1 w H HS
    cases e1 with
    | zero => rw [spec_l07Own.l1] at H; cases H
    | succ f1 =>
     rw [spec_l07Own.l1] at H
     subst g1
     refine rN 2 Z (rG (mV Z (fL b1 0 fl55_0 Z (lB 0 HS Z na53 Z (lS Z Z underlying53 Z (GO.lss Z Z Z Z (nL ?_)))))))
     rcases iE H with ⟨c47, H⟩ | ⟨c47, H⟩
     ·
      refine yB Z (tT c47) (rN 3 Z ?_)
      obtain ⟨c50, H⟩ := iN H
      obtain ⟨c54, H⟩ := iN H
      obtain ⟨c60, H⟩ := iN H
      refine G.lexS mixed (fun w => St w0 w (Box b1 55 [.slice A_a c1.length c_a] :: Box b5 55 [.slice A25 a1.length c26] :: L)) [1, 4, 7] [0, 3, 5, 1, 4, 6, 7, 2, 8, 9, 10, 11, 12] [12] (by kernel_rfl) (by kernel_rfl) (HS.drew.pk 4 [0, 2] Z) ?_
      replace HS := HS.drew
      refine qL Z Z (fun _ _ g => fL b5 0 fl55_0 Z g) Z (qL Z Z (fun _ _ g => fL b1 0 fl55_0 Z g) Z (GX.ps 1 Z (GX.ls Z Z Z (HS.pk 4 [0, 2] Z) (fun _ HS _ g => lB 1 HS Z na53 Z g) Z (GX.ls Z Z Z (HS.pk 4 [0, 2] Z) (fun _ HS _ g => lB 0 HS Z na53 Z g) Z (qL Z Z (fun _ _ g => GO.ix Z Z Z underlying53 sz150 ((rD 4 r_a) _ HS).2.2.1 c50.1 c50.2 Z g) Z (GX.ls Z Z Z (HS.pk 4 [0, 2] Z) (fun _ HS _ g => GO.ldRd (T := (Ty.slice 157 T_GFace)) (n := d1.toNat) (o := 0) HS (rD 2 r_a) Z Z (getD_some (d := []) (ltN c50)) Z Z na150 Z g) Z (GX.l2 Z (GO.buildS (el := 157) ([]) HS Z Z (fun _ => by kernel_rfl) Z fun b48 wd49 HS => GX.fin (HS.pk 5 [1, 3] Z) (GX.l2 Z ?_)))))))))
      replace HS := HS.boxRow (T := T_GFace) (j := 0) Z flat_flat (fun _ => ()) ([] : List GFace) Z (bndL Z)
      refine GO.lenC (t := 15) (m := ([] : List GFace).length) (c' := ([] : List GFace).length) Z Z Z (GO.appS (T := T_GFace) (j := 0) HS Z (RdIn.elem (rD 5 r_a) c50.1 c50.2) flat_flat Z Z Z underlying150 inf157 Z Z Z c54 Z (fun _ => Z) fun A52 c53 wd51 HS => GX.fin (HS.pk 5 [1, 3] Z) (GX.l2 Z (GO.buildS (el := 150) ([.slice A52 (([] : List GFace) ++ (c1.getD d1.toNat [])).length c53]) HS Z Z (fun _ => by kernel_rfl) Z fun b55 wd56 HS => GX.fin (HS.pk 6 [2, 4] Z) (GX.l2 Z ?_))))
      replace HS := HS.pk 6 [5, 0, 1, 2, 3, 4] Z
      refine GO.appR (S := T_GFace) (u := 157) HS Z Z Z underlying53 inf150 Z Z c60 Z fun A58 c59 y61 wd57 HS => GX.fin (HS.pk 5 [2, 4] Z) (qL Z Z (fun _ _ g => fL b5 0 fl55_0 Z g) Z (GX.l2 Z (GO.stBox (j := 4) (vs := [.slice A58 (a1 ++ [(([] : List GFace) ++ (c1.getD d1.toNat []))]).length c59]) ([.slice A58 (a1 ++ [(([] : List GFace) ++ (c1.getD d1.toNat []))]).length c59]) HS Z Z Z Z Z (htN na53 Z) Z Z Z fun wd62 HS => GX.finZ Z (GX.nil (rN 3 Z (G.weak ?_ (i1 f1 (Nat.lt_succ_of_le (lR _)) (Nat.le_of_succ_le h1) _ _ _ _ _ _ H (HS.pk 5 [2, 3, 4, 0] Z))))))))
      exact ⟨Z, Z, Z, Z, tv⟩
     refine nB Z (tF c47) (rN 2 Z (rG (GO.ldBoxA (j := 2) ([.slice A25 a1.length c26]) HS Z Z Z Z ag55 Z (GO.stBox (j := 1) (vs := [.slice A25 a1.length c26]) ([.slice A25 a1.length c26]) HS Z Z Z Z Z (htA ag55) Z Z Z fun wd63 HS => nL ?_))))
     obtain rfl := sI H
     exact rT _ func90 Z (Res1.boxA (j := 1) (vs := [.slice A25 a1.length c26]) HS Z Z Z ag55) ⟨_, _, _, Z, (HS.pk 4 [3] Z)⟩
  replace HS := HS.nilRow (Ty.slice 157 T_GFace) 150 (fun _ => ⟨none, 0, (fun _ => ())⟩)
  refine G.weak ?_ (m1 K (lR _) _ _ _ _ _ _ H (HS.pk 4 [3, 2, 1, 0] Z))
  exact ⟨Z, Z, Z, Z, tv⟩
theorem spec_l32Own.calls {c1 : Int} {a1 : List Int} {A_a : Option Addr} {c_a : Nat} {r1 : Int} {r2 : List Int} (HS : St w0 w (L)) (r_a : RdIn w0 L (TInt .i64) A_a c_a (fun _ => ()) a1) (H : spec_l32Own.f c1 a1 = some (r1, r2)) :
    Calls prog 91 #[.agg [I c1, .slice A_a a1.length c_a].toArray] w (spec_l32Own.post w0 L r1 r2) := by
  unfold spec_l32Own.f at H
  refine cG func91 Z ?_
  refine sQ (rG (GO.box (cs := [I c1, .slice A_a a1.length c_a]) HS Z Z Z Z fun b1 wd2 HS => GO.alloc HS Z zr59 Z Z fun b3 wd4 HS => nL (sQ ?_)))
  obtain ⟨c10, H⟩ := iN H
  refine G.lexS mixed (fun w => St w0 w (Box b1 59 [I c1, .slice A_a a1.length c_a] :: L)) [1, 4] [0, 3, 1, 4, 2, 5, 6, 7] [] (by kernel_rfl) (by kernel_rfl) (HS.drew.pk 2 [1] Z) ?_
  replace HS := HS.drew
  refine qL Z Z (fun _ _ g => fL b1 0 fl59_0 Z g) Z (qL Z Z (fun _ _ g => fL b1 1 fl59_1 Z g) Z (GX.ls Z Z Z (HS.pk 2 [1] Z) (fun _ HS _ g => lB 0 HS Z na2 Z g) Z (GX.ls Z Z Z (HS.pk 2 [1] Z) (fun _ HS _ g => lB 0 HS Z na43 Z g) Z (GX.l2 Z (GO.buildS (el := 2) ([]) HS Z Z (fun _ => by kernel_rfl) Z fun b5 wd6 HS => GX.fin (HS.pk 3 [2] Z) (GX.l2 Z ?_))))))
  replace HS := HS.boxRow (T := (TInt .i64)) (j := 0) Z flat_flat (fun _ => ()) ([] : List Int) Z (bndL Z)
  refine GO.lenC (t := 5) (m := ([] : List Int).length) (c' := ([] : List Int).length) Z Z Z (GO.appS (T := (TInt .i64)) (j := 0) HS Z (rD 3 r_a) flat_flat Z Z Z underlying43 inf2 Z Z Z c10 Z (fun _ => Z) fun A8 c9 wd7 HS => GX.fin (HS.pk 3 [2] Z) (qL Z Z (fun _ _ g => GO.buildV (.agg [I c1, .slice A8 (([] : List Int) ++ a1).length c9].toArray) Z Z (fun _ => by kernel_rfl) Z g) Z (GX.l2 Z (GO.stBox (j := 1) (vs := [I c1, .slice A8 (([] : List Int) ++ a1).length c9]) ([I c1, .slice A8 (([] : List Int) ++ a1).length c9]) HS Z Z Z Z Z (htA ag59) Z Z Z fun wd11 HS => GX.fin (HS.pk 3 [2] Z) (GX.nil ?_)))))
  obtain ⟨rfl, rfl⟩ := some2 H
  exact rT _ func91 Z (Res1.boxA (j := 1) (vs := [I c1, .slice A8 (([] : List Int) ++ a1).length c9]) HS Z Z Z ag59) ⟨_, _, Z, (HS.pk 3 [0] Z)⟩
theorem spec_l33OwnItem.calls {p1 : ByteArray} {q1 : Int} {s1 : List (List GFace)} {a1 : List GCrossing} {g1 a2 : Int} {t1 : List Int} {h1 i1 : Int} {d1 : List GMove} {e1 c1 : List Int} {A_a : Option Addr} {c_a : Nat} {y_a : Nat → (Ty.slice 157 T_GFace).Lay} {A_b : Option Addr} {c_b : Nat} {A_c : Option Addr} {c_c : Nat} {A_d : Option Addr} {c_d : Nat} {A_e : Option Addr} {c_e : Nat} {A_f : Option Addr} {c_f : Nat} {r1 : ByteArray} {r2 : Int} {r3 : List (List GFace)} {r4 : List GCrossing} {r5 r6 : Int} {r7 : List Int} {r8 r9 : Int} {r10 : List GMove} {r11 r12 : List Int} (HS : St w0 w (L)) (r_a : RdIn w0 L (Ty.slice 157 T_GFace) A_a c_a y_a s1) (r_b : RdIn w0 L T_GCrossing A_b c_b (fun _ => ()) a1) (r_c : RdIn w0 L (TInt .i64) A_c c_c (fun _ => ()) t1) (r_d : RdIn w0 L T_GMove A_d c_d (fun _ => ()) d1) (r_e : RdIn w0 L (TInt .i64) A_e c_e (fun _ => ()) e1) (r_f : RdIn w0 L (TInt .i64) A_f c_f (fun _ => ()) c1) (H : spec_l33OwnItem.f K p1 q1 s1 a1 g1 a2 t1 h1 i1 d1 e1 c1 = some (r1, r2, r3, r4, r5, r6, r7, r8, r9, r10, r11, r12)) :
    Calls prog 43 #[.agg [.string p1, I q1, .slice A_a s1.length c_a, .slice A_b a1.length c_b, I g1, I a2, .slice A_c t1.length c_c, I h1, I i1, .slice A_d d1.length c_d, .slice A_e e1.length c_e, .slice A_f c1.length c_f].toArray] w (spec_l33OwnItem.post w0 L r1 r2 r3 r4 r5 r6 r7 r8 r9 r10 r11 r12) := by
  unfold spec_l33OwnItem.f at H
  refine cG func43 Z ?_
  refine sQ (rG (GO.box (cs := [.string p1, I q1, .slice A_a s1.length c_a, .slice A_b a1.length c_b, I g1, I a2, .slice A_c t1.length c_c, I h1, I i1, .slice A_d d1.length c_d, .slice A_e e1.length c_e, .slice A_f c1.length c_f]) HS Z Z Z Z fun b1 wd2 HS => GO.alloc HS Z zr64 Z Z fun b3 wd4 HS => nL (sQ (rG (fL b1 7 fl64_5 Z (GO.ldBoxA (j := 1) ([I h1, I i1, .slice A_d d1.length c_d, .slice A_e e1.length c_e, .slice A_f c1.length c_f]) HS Z Z Z Z ag62 Z (GO.alloc HS Z zr62 Z Z fun b5 wd6 HS => GO.stBox (j := 0) (vs := [I h1, I i1, .slice A_d d1.length c_d, .slice A_e e1.length c_e, .slice A_f c1.length c_f]) ([I h1, I i1, .slice A_d d1.length c_d, .slice A_e e1.length c_e, .slice A_f c1.length c_f]) HS Z Z Z Z Z (htA ag62) Z Z Z fun wd7 HS => nL (sQ ?_))))))))
  obtain ⟨c13, H⟩ := iN H
  refine rG (GO.buildS (el := 140) ([]) HS Z Z (fun _ => by kernel_rfl) Z fun b8 wd9 HS => fL b5 2 fl62_2 Z (lB 1 HS Z na60 Z ?_))
  replace HS := HS.boxRow (T := T_GMove) (j := 0) Z flat_flat (fun _ => ()) ([] : List GMove) Z (bndL Z)
  refine GO.lenC (t := 7) (m := ([] : List GMove).length) (c' := ([] : List GMove).length) Z Z Z (GO.appS (T := T_GMove) (j := 0) HS Z (rD 4 r_d) flat_flat Z Z Z underlying60 inf140 Z Z Z c13 Z (fun _ => Z) fun A11 c12 wd10 HS => fL b5 2 fl62_2 Z (GO.stBox (j := 1) (vs := [.slice A11 (([] : List GMove) ++ d1).length c12]) ([I h1, I i1, .slice A11 (([] : List GMove) ++ d1).length c12, .slice A_e e1.length c_e, .slice A_f c1.length c_f]) HS Z Z Z Z Z (htN na60 Z) Z Z Z fun wd14 HS => nL (sQ ?_)))
  obtain ⟨c20, H⟩ := iN H
  refine rG (GO.buildS (el := 2) ([]) HS Z Z (fun _ => by kernel_rfl) Z fun b15 wd16 HS => fL b5 3 fl62_3 Z (lB 2 HS Z na43 Z ?_))
  replace HS := HS.boxRow (T := (TInt .i64)) (j := 0) Z flat_flat (fun _ => ()) ([] : List Int) Z (bndL Z)
  refine GO.lenC (t := 12) (m := ([] : List Int).length) (c' := ([] : List Int).length) Z Z Z (GO.appS (T := (TInt .i64)) (j := 0) HS Z (rD 5 r_e) flat_flat Z Z Z underlying43 inf2 Z Z Z c20 Z (fun _ => Z) fun A18 c19 wd17 HS => fL b5 3 fl62_3 Z (GO.stBox (j := 2) (vs := [.slice A18 (([] : List Int) ++ e1).length c19]) ([I h1, I i1, .slice A11 (([] : List GMove) ++ d1).length c12, .slice A18 (([] : List Int) ++ e1).length c19, .slice A_f c1.length c_f]) HS Z Z Z Z Z (htN na43 Z) Z Z Z fun wd21 HS => nL (sQ ?_)))
  obtain ⟨c27, H⟩ := iN H
  refine rG (GO.buildS (el := 2) ([]) HS Z Z (fun _ => by kernel_rfl) Z fun b22 wd23 HS => fL b5 4 fl62_4 Z (lB 3 HS Z na43 Z ?_))
  replace HS := HS.boxRow (T := (TInt .i64)) (j := 0) Z flat_flat (fun _ => ()) ([] : List Int) Z (bndL Z)
  refine GO.lenC (t := 17) (m := ([] : List Int).length) (c' := ([] : List Int).length) Z Z Z (GO.appS (T := (TInt .i64)) (j := 0) HS Z (rD 6 r_f) flat_flat Z Z Z underlying43 inf2 Z Z Z c27 Z (fun _ => Z) fun A25 c26 wd24 HS => fL b5 4 fl62_4 Z (GO.stBox (j := 3) (vs := [.slice A25 (([] : List Int) ++ c1).length c26]) ([I h1, I i1, .slice A11 (([] : List GMove) ++ d1).length c12, .slice A18 (([] : List Int) ++ e1).length c19, .slice A25 (([] : List Int) ++ c1).length c26]) HS Z Z Z Z Z (htN na43 Z) Z Z Z fun wd28 HS => nL (sQ ?_)))
  obtain ⟨c34, H⟩ := iN H
  refine G.regionAny mixed (by decide) (fun b a w => ∃ (v1 : Value) (e2 : Value) (x1 : Value) (d2 : Value) (c2 : Value) (b2 : Value) (g2 : Value) (y1 : Value) (z1 : Value) (u1 : Value) (b29 : Nat) (A32 : Option Addr) (c33 : Nat) (b35 : Nat) (h2 : HObj) (i2 : HObj), Sat 44 [(4, u1), (22, v1), (23, e2), (24, x1), (25, d2), (26, c2), (27, b2), (28, g2), (29, y1), (30, z1), (1, .pointer (some ⟨b1, 0, none⟩)), (2, .pointer (some ⟨b3, 0, none⟩)), (3, .pointer (some ⟨b5, 0, none⟩))] a ∧ St w0 w (Own (TInt .i64) 2 A25 c26 (fun _ => ()) (([] : List Int) ++ c1) :: Own (TInt .i64) 2 A18 c19 (fun _ => ()) (([] : List Int) ++ e1) :: Own T_GMove 140 A11 c12 (fun _ => ()) (([] : List GMove) ++ d1) :: Box b5 62 [I h1, I i1, .slice A11 (([] : List GMove) ++ d1).length c12, .slice A18 (([] : List Int) ++ e1).length c19, .slice A25 (([] : List Int) ++ c1).length c26] :: Box b3 64 [.string ByteArray.empty, I 0, .slice none 0 0, .slice none 0 0, I 0, I 0, .slice none 0 0, I 0, I 0, .slice none 0 0, .slice none 0 0, .slice none 0 0] :: Box b1 64 [.string p1, I q1, .slice A_a s1.length c_a, .slice A_b a1.length c_b, I g1, I a2, .slice A_c t1.length c_c, I h1, I i1, .slice A_d d1.length c_d, .slice A_e e1.length c_e, .slice A_f c1.length c_f] :: h2 :: i2 :: L) ∧ (b 9 = true → u1 = (.pointer (some ⟨b35, 0, none⟩))) ∧ (b 0 = true → v1 = (.slice (some ⟨b29, 0, none⟩) 0 0)) ∧ (b 1 = true → e2 = (.pointer (some ⟨b1, 3, none⟩))) ∧ (b 2 = true → x1 = (.pointer (some ⟨b1, 3, none⟩))) ∧ (b 3 = true → d2 = (.slice A_b a1.length c_b)) ∧ (b 4 = true → c2 = (.slice A32 (([] : List GCrossing) ++ a1).length c33)) ∧ (b 5 = true → b2 = (.pointer (some ⟨b1, 3, none⟩))) ∧ (b 6 = true → g2 = (.pointer (some ⟨b1, 4, none⟩))) ∧ (b 7 = true → y1 = (I g1)) ∧ (b 8 = true → z1 = (.agg [.slice A32 (([] : List GCrossing) ++ a1).length c33, I g1].toArray)) ∧ (b 0 = true → b 4 = false → h2 = Box b29 152 []) ∧ (b 4 = true → h2 = Own T_GCrossing 152 A32 c33 (fun _ => ()) (([] : List GCrossing) ++ a1)) ∧ (b 9 = true → b 10 = false → i2 = Box b35 58 [.slice none 0 0, I 0]) ∧ (b 10 = true → i2 = Box b35 58 [.slice A32 (([] : List GCrossing) ++ a1).length c33, I g1])) ?_ ?_ ?_
  ·
   intro a hs
   obtain ⟨u1, hs⟩ := hs.ext (d := 4) Z
   obtain ⟨v1, hs⟩ := hs.ext (d := 22) Z
   obtain ⟨e2, hs⟩ := hs.ext (d := 23) Z
   obtain ⟨x1, hs⟩ := hs.ext (d := 24) Z
   obtain ⟨d2, hs⟩ := hs.ext (d := 25) Z
   obtain ⟨c2, hs⟩ := hs.ext (d := 26) Z
   obtain ⟨b2, hs⟩ := hs.ext (d := 27) Z
   obtain ⟨g2, hs⟩ := hs.ext (d := 28) Z
   obtain ⟨y1, hs⟩ := hs.ext (d := 29) Z
   obtain ⟨z1, hs⟩ := hs.ext (d := 30) Z
   exact ⟨v1, e2, x1, d2, c2, b2, g2, y1, z1, u1, 0, none, 0, 0, Emp, Emp, hs.weak ⟨Z, Z, Z, Z, Z, Z, Z, Z, Z, Z, Z, Z, Z, tv⟩, (HS.drew.emp.emp.pk 8 [2, 3, 4, 5, 6, 7, 1, 0] Z), fun h => Bool.noConfusion h, fun h => Bool.noConfusion h, fun h => Bool.noConfusion h, fun h => Bool.noConfusion h, fun h => Bool.noConfusion h, fun h => Bool.noConfusion h, fun h => Bool.noConfusion h, fun h => Bool.noConfusion h, fun h => Bool.noConfusion h, fun h => Bool.noConfusion h, fun h => Bool.noConfusion h, fun h => Bool.noConfusion h, fun h => Bool.noConfusion h, fun h => Bool.noConfusion h⟩
  ·
   intro j hj b a w
   refine exI fun v1 => exI fun e2 => exI fun x1 => exI fun d2 => exI fun c2 => exI fun b2 => exI fun g2 => exI fun y1 => exI fun z1 => exI fun u1 => exI fun b29 => exI fun A32 => exI fun c33 => exI fun b35 => exI fun h2 => exI fun i2 => anI fun hs => anI fun HS => anI fun f9 => anI fun f0 => anI fun f1 => anI fun f2 => anI fun f3 => anI fun f4 => anI fun f5 => anI fun f6 => anI fun f7 => anI fun f8 => anI fun n1 => anI fun m1 => anI fun k1 => fun o1 hb hd hcl => ?_
   match j, hj with
   | 0, _ =>
    refine GO.at hs (GO.buildS (el := 152) ([]) HS Z Z (fun _ => by kernel_rfl) Z fun b29 wd30 HS => GO.fin (fun a hs => ⟨(.slice (some ⟨b29, 0, none⟩) 0 0), _, _, _, _, _, _, _, _, _, b29, A32, c33, b35, Box b29 152 [], _, by exact hs.setAt 1 Z, HS.pk 9 [1, 2, 3, 4, 5, 6, 0, 8] Z, f9, fun _ => Z, f1, f2, f3, f4, f5, f6, f7, f8, fun _ _ => Z, fun hh => (Bool.noConfusion ((hcl 4 (by decide) hh 0 (by decide)).symm.trans hb)), k1, o1⟩))
   | 1, _ =>
    refine GO.at hs (fL b1 3 fl64_3 Z (GO.fin (fun a hs => ⟨_, (.pointer (some ⟨b1, 3, none⟩)), _, _, _, _, _, _, _, _, b29, A32, c33, b35, _, _, by exact hs.setAt 2 Z, HS, f9, f0, fun _ => Z, f2, f3, f4, f5, f6, f7, f8, n1, m1, k1, o1⟩)))
   | 2, _ =>
    have hb1 : b 1 = true := hd 1 (by decide)
    obtain rfl := f1 hb1
    refine GO.at hs (fL b1 3 fl58_0 Z (GO.fin (fun a hs => ⟨_, _, (.pointer (some ⟨b1, 3, none⟩)), _, _, _, _, _, _, _, b29, A32, c33, b35, _, _, by exact hs.setAt 3 Z, HS, f9, f0, f1, fun _ => Z, f3, f4, f5, f6, f7, f8, n1, m1, k1, o1⟩)))
   | 3, _ =>
    have hb2 : b 2 = true := hd 2 (by decide)
    obtain rfl := f2 hb2
    refine GO.at hs (lB 5 HS Z na56 Z (GO.fin (fun a hs => ⟨_, _, _, (.slice A_b a1.length c_b), _, _, _, _, _, _, b29, A32, c33, b35, _, _, by exact hs.setAt 4 Z, HS, f9, f0, f1, f2, fun _ => Z, f4, f5, f6, f7, f8, n1, m1, k1, o1⟩)))
   | 4, _ =>
    have hb0 : b 0 = true := hd 0 (by decide)
    obtain rfl := f0 hb0
    have hb3 : b 3 = true := hd 3 (by decide)
    obtain rfl := f3 hb3
    obtain rfl := n1 hb0 hb
    refine GO.at hs ?_
    replace HS := HS.boxRow (T := T_GCrossing) (j := 6) Z flat_flat (fun _ => ()) ([] : List GCrossing) Z (bndL Z)
    refine GO.lenC (t := 22) (m := ([] : List GCrossing).length) (c' := ([] : List GCrossing).length) Z Z Z (GO.appS (T := T_GCrossing) (j := 6) HS Z (rD 8 r_b) flat_flat Z Z Z underlying56 inf152 Z Z Z c34 Z (fun _ => Z) fun A32 c33 wd31 HS => GO.fin (fun a hs => ⟨_, _, _, _, (.slice A32 (([] : List GCrossing) ++ a1).length c33), _, _, _, _, _, b29, A32, c33, b35, Own T_GCrossing 152 A32 c33 (fun _ => ()) (([] : List GCrossing) ++ a1), _, hs.weak ⟨Z, Z, Z, Z, Z, Z, Z, Z, Z, Z, Z, Z, Z, tv⟩, HS, f9, f0, f1, f2, f3, fun _ => Z, f5, f6, f7, fun hh => (Bool.noConfusion ((hcl 8 (by decide) hh 4 (by decide)).symm.trans hb)), fun _ h => Bool.noConfusion h, fun _ => Z, k1, fun hh => (Bool.noConfusion ((hcl 10 (by decide) hh 4 (by decide)).symm.trans hb))⟩))
   | 5, _ =>
    refine GO.at hs (fL b1 3 fl64_3 Z (GO.fin (fun a hs => ⟨_, _, _, _, _, (.pointer (some ⟨b1, 3, none⟩)), _, _, _, _, b29, A32, c33, b35, _, _, by exact hs.setAt 6 Z, HS, f9, f0, f1, f2, f3, f4, fun _ => Z, f6, f7, f8, n1, m1, k1, o1⟩)))
   | 6, _ =>
    have hb5 : b 5 = true := hd 5 (by decide)
    obtain rfl := f5 hb5
    refine GO.at hs (fL b1 4 fl58_1 Z (GO.fin (fun a hs => ⟨_, _, _, _, _, _, (.pointer (some ⟨b1, 4, none⟩)), _, _, _, b29, A32, c33, b35, _, _, by exact hs.setAt 7 Z, HS, f9, f0, f1, f2, f3, f4, f5, fun _ => Z, f7, f8, n1, m1, k1, o1⟩)))
   | 7, _ =>
    have hb6 : b 6 = true := hd 6 (by decide)
    obtain rfl := f6 hb6
    refine GO.at hs (lB 5 HS Z na2 Z (GO.fin (fun a hs => ⟨_, _, _, _, _, _, _, (I g1), _, _, b29, A32, c33, b35, _, _, by exact hs.setAt 8 Z, HS, f9, f0, f1, f2, f3, f4, f5, f6, fun _ => Z, f8, n1, m1, k1, o1⟩)))
   | 8, _ =>
    have hb4 : b 4 = true := hd 4 (by decide)
    obtain rfl := f4 hb4
    have hb7 : b 7 = true := hd 7 (by decide)
    obtain rfl := f7 hb7
    refine GO.at hs (GO.buildV (.agg [.slice A32 (([] : List GCrossing) ++ a1).length c33, I g1].toArray) Z Z (fun _ => by kernel_rfl) Z (GO.fin (fun a hs => ⟨_, _, _, _, _, _, _, _, (.agg [.slice A32 (([] : List GCrossing) ++ a1).length c33, I g1].toArray), _, b29, A32, c33, b35, _, _, by exact hs.setAt 9 Z, HS, f9, f0, f1, f2, f3, f4, f5, f6, f7, fun _ => Z, n1, m1, k1, o1⟩)))
   | 9, _ =>
    refine GO.at hs (GO.alloc HS Z zr58 Z Z fun b35 wd36 HS => GO.fin (fun a hs => ⟨_, _, _, _, _, _, _, _, _, (.pointer (some ⟨b35, 0, none⟩)), b29, A32, c33, b35, _, Box b35 58 [.slice none 0 0, I 0], by exact hs.setAt 0 Z, HS.pk 9 [1, 2, 3, 4, 5, 6, 7, 0] Z, fun _ => Z, f0, f1, f2, f3, f4, f5, f6, f7, f8, n1, m1, fun _ _ => Z, fun hh => (Bool.noConfusion ((hcl 10 (by decide) hh 9 (by decide)).symm.trans hb))⟩))
   | 10, _ =>
    have hb9 : b 9 = true := hd 9 (by decide)
    obtain rfl := f9 hb9
    have hb8 : b 8 = true := hd 8 (by decide)
    obtain rfl := f8 hb8
    obtain rfl := k1 hb9 hb
    refine GO.at hs (GO.stBox (j := 7) (vs := [.slice A32 (([] : List GCrossing) ++ a1).length c33, I g1]) ([.slice A32 (([] : List GCrossing) ++ a1).length c33, I g1]) HS Z Z Z Z Z (htA ag58) Z Z Z fun wd37 HS => GO.fin (fun a hs => ⟨_, _, _, _, _, _, _, _, _, _, b29, A32, c33, b35, _, Box b35 58 [.slice A32 (([] : List GCrossing) ++ a1).length c33, I g1], hs, HS, f9, f0, f1, f2, f3, f4, f5, f6, f7, f8, n1, m1, fun _ h => Bool.noConfusion h, fun _ => Z⟩))
   | k + 11, hj => exact absurd hj (Nat.not_lt.2 (Nat.le_add_left 11 k))
  ·
   intro b a w hall
   refine exI fun v1 => exI fun e2 => exI fun x1 => exI fun d2 => exI fun c2 => exI fun b2 => exI fun g2 => exI fun y1 => exI fun z1 => exI fun u1 => exI fun b29 => exI fun A32 => exI fun c33 => exI fun b35 => exI fun h2 => exI fun i2 => anI fun hs => anI fun HS => anI fun f9 => anI fun f0 => anI fun f1 => anI fun f2 => anI fun f3 => anI fun f4 => anI fun f5 => anI fun f6 => anI fun f7 => anI fun f8 => anI fun n1 => anI fun m1 => anI fun k1 => fun o1 => ?_
   obtain rfl := f9 (hall 9 (by decide))
   obtain rfl := f0 (hall 0 (by decide))
   obtain rfl := f1 (hall 1 (by decide))
   obtain rfl := f2 (hall 2 (by decide))
   obtain rfl := f3 (hall 3 (by decide))
   obtain rfl := f4 (hall 4 (by decide))
   obtain rfl := f5 (hall 5 (by decide))
   obtain rfl := f6 (hall 6 (by decide))
   obtain rfl := f7 (hall 7 (by decide))
   obtain rfl := f8 (hall 8 (by decide))
   obtain rfl := m1 (hall 4 (by decide))
   obtain rfl := o1 (hall 10 (by decide))
   refine G.at hs (sQ ?_)
   obtain ⟨t38, h39, H⟩ := bI H
   obtain ⟨t45, t46, h47, H⟩ := bind2_elim H
   refine G.lexS mixed (fun w => St w0 w (Box b5 62 [I h1, I i1, .slice A11 (([] : List GMove) ++ d1).length c12, .slice A18 (([] : List Int) ++ e1).length c19, .slice A25 (([] : List Int) ++ c1).length c26] :: Box b1 64 [.string p1, I q1, .slice A_a s1.length c_a, .slice A_b a1.length c_b, I g1, I a2, .slice A_c t1.length c_c, I h1, I i1, .slice A_d d1.length c_d, .slice A_e e1.length c_e, .slice A_f c1.length c_f] :: Box b35 58 [.slice A32 (([] : List GCrossing) ++ a1).length c33, I g1] :: L)) [1, 3, 5, 7, 9, 11] [0, 2, 4, 8, 1, 3, 5, 7, 9, 11, 6, 10, 12, 13] [] (by kernel_rfl) (by kernel_rfl) (HS.drew.pk 8 [3, 5, 7] Z) ?_
   replace HS := HS.drew
   refine qL Z Z (fun _ _ g => fL b1 0 fl64_0 Z g) Z (qL Z Z (fun _ _ g => fL b1 1 fl64_1 Z g) Z (qL Z Z (fun _ _ g => fL b1 2 fl64_2 Z g) Z (qL Z Z (fun _ _ g => fL b1 5 fl64_4 Z g) Z (GX.ls Z Z Z (HS.pk 8 [3, 5, 7] Z) (fun _ HS _ g => lB 1 HS Z na9 Z g) Z (GX.ls Z Z Z (HS.pk 8 [3, 5, 7] Z) (fun _ HS _ g => lB 1 HS Z na2 Z g) Z (GX.ls Z Z Z (HS.pk 8 [3, 5, 7] Z) (fun _ HS _ g => GO.ldBoxA (j := 1) ([.slice A_a s1.length c_a]) HS Z Z Z Z ag55 Z g) Z (GX.ls Z Z Z (HS.pk 8 [3, 5, 7] Z) (fun _ HS _ g => GO.ldBoxA (j := 2) ([.slice A32 (([] : List GCrossing) ++ a1).length c33, I g1]) HS Z Z Z Z ag58 Z g) Z (GX.ls Z Z Z (HS.pk 8 [3, 5, 7] Z) (fun _ HS _ g => GO.ldBoxA (j := 1) ([I a2, .slice A_c t1.length c_c]) HS Z Z Z Z ag59 Z g) Z (GX.ls Z Z Z (HS.pk 8 [3, 5, 7] Z) (fun _ HS _ g => GO.ldBoxA (j := 0) ([I h1, I i1, .slice A11 (([] : List GMove) ++ d1).length c12, .slice A18 (([] : List Int) ++ e1).length c19, .slice A25 (([] : List Int) ++ c1).length c26]) HS Z Z Z Z ag62 Z g) Z (GX.l2 Z (fN Z func90 fok90.1 fok90.2 Z Z (spec_l07Own.calls HS (rD 8 r_a) h39) (fun _ wd43 ⟨A40, c41, y42, h44, HS⟩ => ⟨_, h44, (GX.fin (HS.pk 9 [4, 6, 8] Z) (GX.l2 Z (fN Z func91 fok91.1 fok91.2 Z Z (spec_l32Own.calls HS (rD 9 r_c) h47) (fun _ wd50 ⟨A48, c49, h51, HS⟩ => ⟨_, h51, ?_⟩))))⟩))))))))))))
   refine GX.fin (HS.pk 10 [5, 7, 9] Z) (qL Z Z (fun _ _ g => GO.buildV (.agg [.string p1, I q1, .slice A40 t38.length c41, .slice A32 (([] : List GCrossing) ++ a1).length c33, I g1, I t45, .slice A48 t46.length c49, I h1, I i1, .slice A11 (([] : List GMove) ++ d1).length c12, .slice A18 (([] : List Int) ++ e1).length c19, .slice A25 (([] : List Int) ++ c1).length c26].toArray) Z Z (fun _ => by kernel_rfl) Z g) Z (GX.l2 Z (GO.stBox (j := 6) (vs := [.string p1, I q1, .slice A40 t38.length c41, .slice A32 (([] : List GCrossing) ++ a1).length c33, I g1, I t45, .slice A48 t46.length c49, I h1, I i1, .slice A11 (([] : List GMove) ++ d1).length c12, .slice A18 (([] : List Int) ++ e1).length c19, .slice A25 (([] : List Int) ++ c1).length c26]) ([.string p1, I q1, .slice A40 t38.length c41, .slice A32 (([] : List GCrossing) ++ a1).length c33, I g1, I t45, .slice A48 t46.length c49, I h1, I i1, .slice A11 (([] : List GMove) ++ d1).length c12, .slice A18 (([] : List Int) ++ e1).length c19, .slice A25 (([] : List Int) ++ c1).length c26]) HS Z Z Z Z Z (htA ag64) Z Z Z fun wd52 HS => GX.fin (HS.pk 10 [5, 7, 9] Z) (GX.nil ?_))))
   obtain ⟨rfl, rfl, rfl, rfl, rfl, rfl, rfl, rfl, rfl, rfl, rfl, rfl⟩ := some12 H
   exact rT _ func43 Z (Res1.boxA (j := 6) (vs := [.string p1, I q1, .slice A40 t38.length c41, .slice A32 (([] : List GCrossing) ++ a1).length c33, I g1, I t45, .slice A48 t46.length c49, I h1, I i1, .slice A11 (([] : List GMove) ++ d1).length c12, .slice A18 (([] : List Int) ++ e1).length c19, .slice A25 (([] : List Int) ++ c1).length c26]) HS Z Z Z ag64) ⟨_, _, _, _, _, _, _, _, _, _, _, _, _, Z, (HS.pk 10 [1, 8, 0, 4, 3, 2] Z)⟩
theorem spec_l33Own.calls {list : List GItem} {A_a : Option Addr} {c_a : Nat} {y_a : Nat → T_GItem_63.Lay} {r1 : List GItem} (HS : St w0 w (L)) (r_a : RdIn w0 L T_GItem_63 A_a c_a y_a list) (H : spec_l33Own.f K list = some r1) :
    Calls prog 22 #[.slice A_a list.length c_a] w (spec_l33Own.post w0 L r1) := by
  unfold spec_l33Own.f at H
  refine cG func22 Z ?_
  refine rN 3 Z (rG (GO.buildS (el := 64) ([]) HS Z Z (fun _ => by kernel_rfl) Z fun b1 wd2 HS => ?_))
  replace HS := HS.boxNil (T := T_GItem_63) (j := 0) Z (fun _ => ((), (), ⟨none, 0, (fun _ => ⟨none, 0, (fun _ => ())⟩)⟩, ⟨none, 0, (fun _ => ())⟩, (), (), ⟨none, 0, (fun _ => ())⟩, (), (), ⟨none, 0, (fun _ => ())⟩, ⟨none, 0, (fun _ => ())⟩, ⟨none, 0, (fun _ => ())⟩))
  refine GO.lenC (t := 5) (m := ([] : List GItem).length) (c' := 0) Z Z Z (aS Z (nL (rN 5 Z ?_)))
  refine G.name (fun i1 f1 => ?_)
  have k1 : ∀ a1, a1 ≤ K → ∀ (A42 : Option Addr) (c43 : Nat) (c1 : List GItem) (y45 : Nat → T_GItem_63.Lay) (d1 : Int) (w : World), spec_l33Own.l1 K a1 list c1 d1 = some r1 → St w0 w (Own T_GItem_63 64 A42 c43 y45 c1 :: L) → G prog 22 21 [(0, .slice A_a list.length c_a), (3, .slice A42 c1.length c43), (4, I d1)] i1 w (spec_l33Own.post w0 L r1) := by
   intro a1
   induction a1 using Nat.strongRecOn with
   | _ a1 h1 =>
    intro g1 A42 c43 c1 y45 d1 w H HS
    cases a1 with
    | zero => rw [spec_l33Own.l1] at H; cases H
    | succ e1 =>
     rw [spec_l33Own.l1] at H
     subst f1
     refine rN 2 Z (rG (pS 2 Z (lS Z Z underlying27 Z (GO.lss Z Z Z Z (nL ?_)))))
     rcases iE H with ⟨c86, H⟩ | ⟨c86, H⟩
     ·
      refine yB Z (tT c86) (rN 3 Z ?_)
      obtain ⟨c87, H⟩ := iN H
      obtain ⟨e88, h89, H⟩ := bnd_elim H
      obtain ⟨t90, t91, t92, t93, t94, t95, t96, t97, t98, t99, t100, t101, h102, H⟩ := bind12_elim H
      obtain ⟨c123, H⟩ := iN H
      refine rG (pS 3 Z (GO.ix Z Z Z underlying27 sz64 ((rD 1 r_a) _ HS).2.2.1 c87.1 c87.2 Z (GO.ldRdA (T := T_GItem_63) (n := d1.toNat) HS (rD 1 r_a) Z Z (getD_eq (ltN c87) h89) ag64 Z (fN Z func43 fok43.1 fok43.2 Z Z (spec_l33OwnItem.calls HS (RdIn.fld (rD 1 r_a) (getD_eq (ltN c87) h89) (fun _ h => h.2.2.1)) (RdIn.fld (rD 1 r_a) (getD_eq (ltN c87) h89) (fun _ h => h.2.2.2.1)) (RdIn.fld (rD 1 r_a) (getD_eq (ltN c87) h89) (fun _ h => h.2.2.2.2.2.2.1)) (RdIn.fld (rD 1 r_a) (getD_eq (ltN c87) h89) (fun _ h => h.2.2.2.2.2.2.2.2.2.1)) (RdIn.fld (rD 1 r_a) (getD_eq (ltN c87) h89) (fun _ h => h.2.2.2.2.2.2.2.2.2.2.1)) (RdIn.fld (rD 1 r_a) (getD_eq (ltN c87) h89) (fun _ h => h.2.2.2.2.2.2.2.2.2.2.2)) h102) (fun _ wd116 ⟨A103, c104, y105, A106, c107, A108, c109, A110, c111, A112, c113, A114, c115, h117, HS⟩ => ⟨_, h117, (GO.buildS (el := 64) ([.string t90, I t91, .slice A103 t92.length c104, .slice A106 t93.length c107, I t94, I t95, .slice A108 t96.length c109, I t97, I t98, .slice A110 t99.length c111, .slice A112 t100.length c113, .slice A114 t101.length c115]) HS Z Z (fun _ => by kernel_rfl) Z fun b118 wd119 HS => ?_)⟩)))))
      replace HS := HS.pk 8 [6, 5, 4, 3, 2, 1, 7, 0] Z
      replace HS := mk_GItem_63 (Name := t90) (Kind := t91) (Diagram_Circles := t94) (Braid_Strands := t95) (Certificate_Name := t97) (Certificate_Trait := t98) HS
      replace HS := HS.pk 3 [1, 2, 0] Z
      refine GO.appE (T := T_GItem_63) ((), (), ⟨A103, c104, y105⟩, ⟨A106, c107, (fun _ => ())⟩, (), (), ⟨A108, c109, (fun _ => ())⟩, (), (), ⟨A110, c111, (fun _ => ())⟩, ⟨A112, c113, (fun _ => ())⟩, ⟨A114, c115, (fun _ => ())⟩) (⟨t90, t91, t92, t93, t94, t95, t96, t97, t98, t99, t100, t101⟩ : GItem) HS Z Z Z underlying27 inf64 Z Z Z c123 Z fun A121 c122 y124 wd120 HS => aS Z (nL (rN 3 Z (G.weak ?_ (h1 e1 (Nat.lt_succ_of_le (lR _)) (Nat.le_of_succ_le g1) _ _ _ _ _ _ H (HS.pk 2 [0] Z)))))
      exact ⟨Z, Z, Z, tv⟩
     refine nB Z (tF c86) (rN 3 Z ?_)
     obtain rfl := sI H
     exact rT _ func22 Z Z ⟨_, _, _, Z, HS⟩
  refine G.weak ?_ (k1 K (lR _) _ _ _ _ _ _ H HS)
  exact ⟨Z, Z, Z, tv⟩
theorem spec_l33OwnStack.calls {list : List (List GItem)} {A_a : Option Addr} {c_a : Nat} {y_a : Nat → (Ty.slice 64 T_GItem_63).Lay} {r1 : List (List GItem)} (HS : St w0 w (L)) (r_a : RdIn w0 L (Ty.slice 64 T_GItem_63) A_a c_a y_a list) (H : spec_l33OwnStack.f K list = some r1) :
    Calls prog 61 #[.slice A_a list.length c_a] w (spec_l33OwnStack.post w0 L r1) := by
  unfold spec_l33OwnStack.f at H
  refine cG func61 Z ?_
  refine rN 3 Z (rG (GO.buildS (el := 27) ([]) HS Z Z (fun _ => by kernel_rfl) Z fun b1 wd2 HS => ?_))
  replace HS := HS.boxNil (T := (Ty.slice 64 T_GItem_63)) (j := 0) Z (fun _ => ⟨none, 0, (fun _ => ((), (), ⟨none, 0, (fun _ => ⟨none, 0, (fun _ => ())⟩)⟩, ⟨none, 0, (fun _ => ())⟩, (), (), ⟨none, 0, (fun _ => ())⟩, (), (), ⟨none, 0, (fun _ => ())⟩, ⟨none, 0, (fun _ => ())⟩, ⟨none, 0, (fun _ => ())⟩))⟩)
  refine GO.lenC (t := 5) (m := ([] : List (List GItem)).length) (c' := 0) Z Z Z (aS Z (nL (rN 5 Z ?_)))
  refine G.name (fun i1 f1 => ?_)
  have k1 : ∀ a1, a1 ≤ K → ∀ (A19 : Option Addr) (c20 : Nat) (c1 : List (List GItem)) (y22 : Nat → (Ty.slice 64 T_GItem_63).Lay) (d1 : Int) (w : World), spec_l33OwnStack.l1 K a1 list c1 d1 = some r1 → St w0 w (Own (Ty.slice 64 T_GItem_63) 27 A19 c20 y22 c1 :: L) → G prog 61 21 [(0, .slice A_a list.length c_a), (3, .slice A19 c1.length c20), (4, I d1)] i1 w (spec_l33OwnStack.post w0 L r1) := by
   intro a1
   induction a1 using Nat.strongRecOn with
   | _ a1 h1 =>
    intro g1 A19 c20 c1 y22 d1 w H HS
    cases a1 with
    | zero => rw [spec_l33OwnStack.l1] at H; cases H
    | succ e1 =>
     rw [spec_l33OwnStack.l1] at H
     subst f1
     refine rN 2 Z (rG (pS 2 Z (lS Z Z underlying28 Z (GO.lss Z Z Z Z (nL ?_)))))
     rcases iE H with ⟨c40, H⟩ | ⟨c40, H⟩
     ·
      refine yB Z (tT c40) (rN 3 Z ?_)
      obtain ⟨c41, H⟩ := iN H
      obtain ⟨t42, h43, H⟩ := bI H
      obtain ⟨c54, H⟩ := iN H
      refine rG (pS 3 Z (GO.ix Z Z Z underlying28 sz27 ((rD 1 r_a) _ HS).2.2.1 c41.1 c41.2 Z (GO.ldRd (T := (Ty.slice 64 T_GItem_63)) (n := d1.toNat) (o := 0) HS (rD 1 r_a) Z Z (getD_some (d := []) (ltN c41)) Z Z na27 Z (fN Z func22 fok22.1 fok22.2 Z Z (spec_l33Own.calls HS (RdIn.elem (rD 1 r_a) c41.1 c41.2) h43) (fun _ wd47 ⟨A44, c45, y46, h48, HS⟩ => ⟨_, h48, (GO.buildS (el := 27) ([.slice A44 t42.length c45]) HS Z Z (fun _ => by kernel_rfl) Z fun b49 wd50 HS => ?_)⟩)))))
      replace HS := HS.pk 3 [2, 0, 1] Z
      refine GO.appR (S := T_GItem_63) (u := 64) HS Z Z Z underlying28 inf27 Z Z c54 Z fun A52 c53 y55 wd51 HS => aS Z (nL (rN 3 Z (G.weak ?_ (h1 e1 (Nat.lt_succ_of_le (lR _)) (Nat.le_of_succ_le g1) _ _ _ _ _ _ H (HS.pk 2 [0] Z)))))
      exact ⟨Z, Z, Z, tv⟩
     refine nB Z (tF c40) (rN 3 Z ?_)
     obtain rfl := sI H
     exact rT _ func61 Z Z ⟨_, _, _, Z, HS⟩
  refine G.weak ?_ (k1 K (lR _) _ _ _ _ _ _ H HS)
  exact ⟨Z, Z, Z, tv⟩
theorem spec_l33Push.calls {stack : List (List GItem)} {list : List GItem} {A_a : Option Addr} {c_a : Nat} {y_a : Nat → (Ty.slice 64 T_GItem_63).Lay} {A_b : Option Addr} {c_b : Nat} {y_b : Nat → T_GItem_63.Lay} {r1 : List (List GItem)} (HS : St w0 w (L)) (r_a : RdIn w0 L (Ty.slice 64 T_GItem_63) A_a c_a y_a stack) (r_b : RdIn w0 L T_GItem_63 A_b c_b y_b list) (H : spec_l33Push.f K stack list = some r1) :
    Calls prog 23 #[.slice A_a stack.length c_a, .slice A_b list.length c_b] w (spec_l33Push.post w0 L r1) := by
  unfold spec_l33Push.f at H
  refine cG func23 Z ?_
  refine rN 3 Z ?_
  obtain ⟨t1, h2, H⟩ := bI H
  obtain ⟨t8, h9, H⟩ := bI H
  obtain ⟨c20, H⟩ := iN H
  refine rG (mV Z (fN Z func61 fok61.1 fok61.2 Z Z (spec_l33OwnStack.calls HS r_a h2) (fun _ wd6 ⟨A3, c4, y5, h7, HS⟩ => ⟨_, h7, (mV Z (fN Z func22 fok22.1 fok22.2 Z Z (spec_l33Own.calls HS (rD 1 r_b) h9) (fun _ wd13 ⟨A10, c11, y12, h14, HS⟩ => ⟨_, h14, (GO.buildS (el := 27) ([.slice A10 t8.length c11]) HS Z Z (fun _ => by kernel_rfl) Z fun b15 wd16 HS => ?_)⟩)))⟩)))
  replace HS := HS.pk 3 [2, 0, 1] Z
  refine GO.appR (S := T_GItem_63) (u := 64) HS Z Z Z underlying28 inf27 Z Z c20 Z fun A18 c19 y21 wd17 HS => aS Z (nL (rN 2 Z (rG (mV Z (lS Z Z underlying28 Z (GO.gtr Z Z Z Z (nL ?_)))))))
  rcases iE H with ⟨c22, H⟩ | ⟨c22, H⟩
  ·
   refine yB Z (tT c22) ?_
   obtain ⟨c23, H⟩ := iN H
   refine rG (mV Z (GO.slL (T := (Ty.slice 64 T_GItem_63)) HS (RdIn.own (j := 0) Z) Z Z Z underlying28 sz27 c23.1 c23.2 Z (aS Z (nL (rN 2 Z ?_)))))
   replace HS := HS.cutOwn (A' := (cutA A18 1 c19 1)) (c' := (c19 - 1)) (j := 0) (l := 1) (h := (t1 ++ [t8]).length) (m := c19) Z (leN c23) (lR _) (Nat.le_trans (lR _) ((RdIn.own (j := 0) Z) _ HS).1) (lR _) Z Z
   obtain rfl := sI H
   exact rT _ func23 Z Z ⟨_, _, _, Z, (HS.pk 2 [0] Z)⟩
  refine nB Z (tF c22) (rN 3 Z ?_)
  obtain rfl := sI H
  exact rT _ func23 Z Z ⟨_, _, _, Z, (HS.pk 2 [0] Z)⟩
theorem spec_DropItem.calls {m1 : List GItem} {k1 b2 : List (List GItem)} {name : ByteArray} {A_a : Option Addr} {c_a : Nat} {y_a : Nat → T_GItem_63.Lay} {A_b : Option Addr} {c_b : Nat} {y_b : Nat → (Ty.slice 64 T_GItem_63).Lay} {A_c : Option Addr} {c_c : Nat} {y_c : Nat → (Ty.slice 64 T_GItem_63).Lay} {r1 : List GItem} {r2 r3 : List (List GItem)} {r4 : Int} (HS : St w0 w (L)) (r_a : RdIn w0 L T_GItem_63 A_a c_a y_a m1) (r_b : RdIn w0 L (Ty.slice 64 T_GItem_63) A_b c_b y_b k1) (r_c : RdIn w0 L (Ty.slice 64 T_GItem_63) A_c c_c y_c b2) (H : spec_DropItem.f K m1 k1 b2 name = some (r1, r2, r3, r4)) :
    Calls prog 6 #[.agg [.slice A_a m1.length c_a, .slice A_b k1.length c_b, .slice A_c b2.length c_c].toArray, .string name] w (spec_DropItem.post w0 L r1 r2 r3 r4) := by
  unfold spec_DropItem.f at H
  refine cG func6 Z ?_
  refine sQ (rG (GO.box (cs := [.slice A_a m1.length c_a, .slice A_b k1.length c_b, .slice A_c b2.length c_c]) HS Z Z Z Z fun b1 wd2 HS => GO.alloc HS Z zr30 Z Z fun b3 wd4 HS => aS Z (nL (rN 2 Z ?_))))
  obtain ⟨t5, h6, H⟩ := bI H
  refine rG (GO.ldBoxA (j := 1) ([.slice A_a m1.length c_a, .slice A_b k1.length c_b, .slice A_c b2.length c_c]) HS Z Z Z Z ag30 Z (fN Z func20 fok20.1 fok20.2 Z Z (spec_ValidBench.calls HS (rD 2 r_a) (rD 2 r_b) (rD 2 r_c) h6) (fun _ wd7 ⟨h8, HS⟩ => ⟨_, h8, (GO.not Z Z Z (nL ?_))⟩)))
  rcases iE H with ⟨c9, H⟩ | ⟨c9, H⟩
  ·
   refine nB Z (congrArg Bool.not c9) (rN 2 Z ?_)
   obtain ⟨t10, h11, H⟩ := bI H
   refine rG (fL b1 0 fl30_0 Z (lB 1 HS Z na27 Z (mV Z (fN Z func21 fok21.1 fok21.2 Z Z (spec_l33Find.calls HS (rD 2 r_a) h11) (fun _ wd12 ⟨h13, HS⟩ => ⟨_, h13, (aS Z (nL (rN 3 Z ?_)))⟩)))))
   rcases iE H with ⟨c14, H⟩ | ⟨c14, H⟩
   ·
    refine yB Z (tT c14) (sQ (rG (GO.buildV (.agg [.slice none 0 0, .slice none 0 0, .slice none 0 0].toArray) Z Z (fun _ => by kernel_rfl) Z (GO.stBox (j := 0) (vs := [.slice none 0 0, .slice none 0 0, .slice none 0 0]) ([.slice none 0 0, .slice none 0 0, .slice none 0 0]) HS Z Z Z Z Z (htA ag30) Z Z Z fun wd15 HS => aS Z (nL ?_)))))
    replace HS := HS.nilRow T_GItem_63 64 (fun _ => ((), (), ⟨none, 0, (fun _ => ⟨none, 0, (fun _ => ())⟩)⟩, ⟨none, 0, (fun _ => ())⟩, (), (), ⟨none, 0, (fun _ => ())⟩, (), (), ⟨none, 0, (fun _ => ())⟩, ⟨none, 0, (fun _ => ())⟩, ⟨none, 0, (fun _ => ())⟩))
    replace HS := HS.nilRow (Ty.slice 64 T_GItem_63) 27 (fun _ => ⟨none, 0, (fun _ => ((), (), ⟨none, 0, (fun _ => ⟨none, 0, (fun _ => ())⟩)⟩, ⟨none, 0, (fun _ => ())⟩, (), (), ⟨none, 0, (fun _ => ())⟩, (), (), ⟨none, 0, (fun _ => ())⟩, ⟨none, 0, (fun _ => ())⟩, ⟨none, 0, (fun _ => ())⟩))⟩)
    replace HS := HS.nilRow (Ty.slice 64 T_GItem_63) 27 (fun _ => ⟨none, 0, (fun _ => ((), (), ⟨none, 0, (fun _ => ⟨none, 0, (fun _ => ())⟩)⟩, ⟨none, 0, (fun _ => ())⟩, (), (), ⟨none, 0, (fun _ => ())⟩, (), (), ⟨none, 0, (fun _ => ())⟩, ⟨none, 0, (fun _ => ())⟩, ⟨none, 0, (fun _ => ())⟩))⟩)
    obtain ⟨rfl, rfl, rfl, rfl⟩ := some4 H
    exact G.ret2 _ _ func6 Z (Res1.boxA (j := 3) (vs := [.slice none 0 0, .slice none 0 0, .slice none 0 0]) HS Z Z Z ag30) Z ⟨_, _, _, _, _, _, _, _, _, Z, (HS.pk 5 [2, 1, 0] Z)⟩
   refine nB Z (tF c14) (rN 2 Z ?_)
   obtain ⟨t16, h17, H⟩ := bI H
   refine rG (fL b1 0 fl30_0 Z (lB 1 HS Z na27 Z (fN Z func22 fok22.1 fok22.2 Z Z (spec_l33Own.calls HS (rD 2 r_a) h17) (fun _ wd21 ⟨A18, c19, y20, h22, HS⟩ => ⟨_, h22, (aS Z (nL (sQ ?_)))⟩))))
   obtain ⟨c23, H⟩ := iN H
   obtain ⟨c24, H⟩ := iN H
   obtain ⟨c26, H⟩ := iN H
   have h27 := over_lenD (xs := allRows t16.length) c26 (Nat.le_trans (leN c24) (Nat.le_of_eq (allRows_length _).symm))
   obtain ⟨t28, h29, H⟩ := bI H
   refine G.regionAny mixed (by decide) (fun b a w => ∃ (o1 : Value) (d2 : Value) (s1 : Value) (a2 : Value) (z1 : Value) (y1 : Value) (e2 : Value) (t1 : Value) (u1 : Value) (n1 : Value) (q1 : Value) (v1 : Value) (x1 : Value) (p1 : Value) (c2 : Value) (A30 : Option Addr) (c31 : Nat) (y32 : Nat → (Ty.slice 64 T_GItem_63).Lay) (h2 : HObj) (g2 : HObj) (k2 : HObj) (i2 : HObj), Sat 36 [(5, c2), (22, o1), (23, d2), (24, s1), (25, a2), (26, z1), (27, y1), (28, e2), (29, t1), (30, u1), (31, n1), (32, q1), (33, v1), (34, x1), (35, p1), (2, .pointer (some ⟨b1, 0, none⟩)), (4, .pointer (some ⟨b3, 0, none⟩)), (6, I t10), (7, .slice A18 t16.length c19)] a ∧ St w0 w (h2 :: g2 :: Box b1 30 [.slice A_a m1.length c_a, .slice A_b k1.length c_b, .slice A_c b2.length c_c] :: k2 :: i2 :: L) ∧ (b 15 = true → c2 = (I 0)) ∧ (b 0 = true → o1 = (.slice A18 t16.length c19)) ∧ (b 1 = true → d2 = (I t10)) ∧ (b 2 = true → s1 = (.slice (cutA A18 0 c19 12) ((t16.take t10.toNat).drop 0).length (c19 - 0))) ∧ (b 3 = true → a2 = (.slice A18 t16.length c19)) ∧ (b 4 = true → z1 = (I t10)) ∧ (b 5 = true → y1 = (I (w64 (t10 + 1)))) ∧ (b 6 = true → e2 = (.slice (cutA A18 ((w64 (t10 + 1)).toNat) c19 12) ((t16.take t16.length).drop ((w64 (t10 + 1)).toNat)).length (c19 - (w64 (t10 + 1)).toNat))) ∧ (b 7 = true → t1 = (.slice (cutA A18 0 c19 12) (((over (allRows t16.length) t10.toNat ((allRows t16.length).drop ((w64 (t10 + 1)).toNat))).take (t10.toNat + ((allRows t16.length).length - (w64 (t10 + 1)).toNat))).drop 0).length (c19 - 0))) ∧ (b 8 = true → u1 = (.pointer (some ⟨b1, 1, none⟩))) ∧ (b 9 = true → n1 = (.slice A_b k1.length c_b)) ∧ (b 10 = true → q1 = (.pointer (some ⟨b1, 0, none⟩))) ∧ (b 11 = true → v1 = (.slice A_a m1.length c_a)) ∧ (b 12 = true → x1 = (.slice A30 t28.length c31)) ∧ (b 13 = true → p1 = (.agg [.slice (cutA A18 0 c19 12) (((over (allRows t16.length) t10.toNat ((allRows t16.length).drop ((w64 (t10 + 1)).toNat))).take (t10.toNat + ((allRows t16.length).length - (w64 (t10 + 1)).toNat))).drop 0).length (c19 - 0), .slice A30 t28.length c31, .slice none 0 0].toArray)) ∧ (b 7 = false → h2 = Own T_GItem_63 64 A18 c19 y20 t16) ∧ (b 7 = true → h2 = Own (TIx T_GItem_63 y20 t16 z_GItem ((), (), ⟨none, 0, (fun _ => ⟨none, 0, (fun _ => ())⟩)⟩, ⟨none, 0, (fun _ => ())⟩, (), (), ⟨none, 0, (fun _ => ())⟩, (), (), ⟨none, 0, (fun _ => ())⟩, ⟨none, 0, (fun _ => ())⟩, ⟨none, 0, (fun _ => ())⟩)) 64 A18 c19 (fun _ => ()) (over (allRows t16.length) t10.toNat ((allRows t16.length).drop ((w64 (t10 + 1)).toNat)))) ∧ (b 14 = false → g2 = Box b3 30 [.slice none 0 0, .slice none 0 0, .slice none 0 0]) ∧ (b 14 = true → g2 = Box b3 30 [.slice (cutA A18 0 c19 12) (((over (allRows t16.length) t10.toNat ((allRows t16.length).drop ((w64 (t10 + 1)).toNat))).take (t10.toNat + ((allRows t16.length).length - (w64 (t10 + 1)).toNat))).drop 0).length (c19 - 0), .slice A30 t28.length c31, .slice none 0 0]) ∧ (b 7 = true → k2 = RowsT T_GItem_63 y20 t16) ∧ (b 12 = true → i2 = Own (Ty.slice 64 T_GItem_63) 27 A30 c31 y32 t28)) ?_ ?_ ?_
   ·
    intro a hs
    obtain ⟨c2, hs⟩ := hs.ext (d := 5) Z
    obtain ⟨o1, hs⟩ := hs.ext (d := 22) Z
    obtain ⟨d2, hs⟩ := hs.ext (d := 23) Z
    obtain ⟨s1, hs⟩ := hs.ext (d := 24) Z
    obtain ⟨a2, hs⟩ := hs.ext (d := 25) Z
    obtain ⟨z1, hs⟩ := hs.ext (d := 26) Z
    obtain ⟨y1, hs⟩ := hs.ext (d := 27) Z
    obtain ⟨e2, hs⟩ := hs.ext (d := 28) Z
    obtain ⟨t1, hs⟩ := hs.ext (d := 29) Z
    obtain ⟨u1, hs⟩ := hs.ext (d := 30) Z
    obtain ⟨n1, hs⟩ := hs.ext (d := 31) Z
    obtain ⟨q1, hs⟩ := hs.ext (d := 32) Z
    obtain ⟨v1, hs⟩ := hs.ext (d := 33) Z
    obtain ⟨x1, hs⟩ := hs.ext (d := 34) Z
    obtain ⟨p1, hs⟩ := hs.ext (d := 35) Z
    exact ⟨o1, d2, s1, a2, z1, y1, e2, t1, u1, n1, q1, v1, x1, p1, c2, none, 0, (fun _ => ⟨none, 0, (fun _ => ((), (), ⟨none, 0, (fun _ => ⟨none, 0, (fun _ => ())⟩)⟩, ⟨none, 0, (fun _ => ())⟩, (), (), ⟨none, 0, (fun _ => ())⟩, (), (), ⟨none, 0, (fun _ => ())⟩, ⟨none, 0, (fun _ => ())⟩, ⟨none, 0, (fun _ => ())⟩))⟩), Own T_GItem_63 64 A18 c19 y20 t16, Box b3 30 [.slice none 0 0, .slice none 0 0, .slice none 0 0], Emp, Emp, hs.weak ⟨Z, Z, Z, Z, Z, Z, Z, Z, Z, Z, Z, Z, Z, Z, Z, Z, Z, Z, Z, tv⟩, (HS.drew.emp.emp.pk 5 [2, 3, 4, 1, 0] Z), fun h => Bool.noConfusion h, fun h => Bool.noConfusion h, fun h => Bool.noConfusion h, fun h => Bool.noConfusion h, fun h => Bool.noConfusion h, fun h => Bool.noConfusion h, fun h => Bool.noConfusion h, fun h => Bool.noConfusion h, fun h => Bool.noConfusion h, fun h => Bool.noConfusion h, fun h => Bool.noConfusion h, fun h => Bool.noConfusion h, fun h => Bool.noConfusion h, fun h => Bool.noConfusion h, fun h => Bool.noConfusion h, fun _ => Z, fun h => Bool.noConfusion h, fun _ => Z, fun h => Bool.noConfusion h, fun h => Bool.noConfusion h, fun h => Bool.noConfusion h⟩
   ·
    intro j hj b a w
    refine exI fun o1 => exI fun d2 => exI fun s1 => exI fun a2 => exI fun z1 => exI fun y1 => exI fun e2 => exI fun t1 => exI fun u1 => exI fun n1 => exI fun q1 => exI fun v1 => exI fun x1 => exI fun p1 => exI fun c2 => exI fun A30 => exI fun c31 => exI fun y32 => exI fun h2 => exI fun g2 => exI fun k2 => exI fun i2 => anI fun hs => anI fun HS => anI fun f15 => anI fun f0 => anI fun f1 => anI fun f2 => anI fun f3 => anI fun f4 => anI fun f5 => anI fun f6 => anI fun f7 => anI fun f8 => anI fun f9 => anI fun f10 => anI fun f11 => anI fun f12 => anI fun f13 => anI fun a1 => anI fun e1 => anI fun d1 => anI fun h1 => anI fun g1 => fun c1 hb hd hcl => ?_
    match j, hj with
    | 0, _ =>
     refine GO.at hs (mV Z (GO.fin (fun a hs => ⟨(.slice A18 t16.length c19), _, _, _, _, _, _, _, _, _, _, _, _, _, _, A30, c31, y32, _, _, _, _, by exact hs.setAt 1 Z, HS, f15, fun _ => Z, f1, f2, f3, f4, f5, f6, f7, f8, f9, f10, f11, f12, f13, a1, e1, d1, h1, g1, c1⟩)))
    | 1, _ =>
     refine GO.at hs (mV Z (GO.fin (fun a hs => ⟨_, (I t10), _, _, _, _, _, _, _, _, _, _, _, _, _, A30, c31, y32, _, _, _, _, by exact hs.setAt 2 Z, HS, f15, f0, fun _ => Z, f2, f3, f4, f5, f6, f7, f8, f9, f10, f11, f12, f13, a1, e1, d1, h1, g1, c1⟩)))
    | 2, _ =>
     have hb0 : b 0 = true := hd 0 (by decide)
     obtain rfl := f0 hb0
     have hb1 : b 1 = true := hd 1 (by decide)
     obtain rfl := f1 hb1
     have d7 : b 7 = false := bfalse (fun hh => hcl 7 (by decide) (hh) 2 (by decide)) hb
     obtain rfl := a1 d7
     refine GO.at hs (GO.slH (T := T_GItem_63) HS (RdIn.own (j := 0) Z) Z Z Z underlying27 sz64 c23.1 c23.2 Z (GO.fin (fun a hs => ⟨_, _, (.slice (cutA A18 0 c19 12) ((t16.take t10.toNat).drop 0).length (c19 - 0)), _, _, _, _, _, _, _, _, _, _, _, _, A30, c31, y32, _, _, _, _, by exact hs.setAt 3 Z, HS, f15, f0, f1, fun _ => Z, f3, f4, f5, f6, f7, f8, f9, f10, f11, f12, f13, a1, e1, d1, h1, g1, c1⟩)))
    | 3, _ =>
     refine GO.at hs (mV Z (GO.fin (fun a hs => ⟨_, _, _, (.slice A18 t16.length c19), _, _, _, _, _, _, _, _, _, _, _, A30, c31, y32, _, _, _, _, by exact hs.setAt 4 Z, HS, f15, f0, f1, f2, fun _ => Z, f4, f5, f6, f7, f8, f9, f10, f11, f12, f13, a1, e1, d1, h1, g1, c1⟩)))
    | 4, _ =>
     refine GO.at hs (mV Z (GO.fin (fun a hs => ⟨_, _, _, _, (I t10), _, _, _, _, _, _, _, _, _, _, A30, c31, y32, _, _, _, _, by exact hs.setAt 5 Z, HS, f15, f0, f1, f2, f3, fun _ => Z, f5, f6, f7, f8, f9, f10, f11, f12, f13, a1, e1, d1, h1, g1, c1⟩)))
    | 5, _ =>
     have hb4 : b 4 = true := hd 4 (by decide)
     obtain rfl := f4 hb4
     refine GO.at hs (GO.add Z Z Z Z (GO.fin (fun a hs => ⟨_, _, _, _, _, (I (w64 (t10 + 1))), _, _, _, _, _, _, _, _, _, A30, c31, y32, _, _, _, _, by exact hs.setAt 6 Z, HS, f15, f0, f1, f2, f3, f4, fun _ => Z, f6, f7, f8, f9, f10, f11, f12, f13, a1, e1, d1, h1, g1, c1⟩)))
    | 6, _ =>
     have hb3 : b 3 = true := hd 3 (by decide)
     obtain rfl := f3 hb3
     have hb5 : b 5 = true := hd 5 (by decide)
     obtain rfl := f5 hb5
     have d7 : b 7 = false := bfalse (fun hh => hcl 7 (by decide) (hh) 6 (by decide)) hb
     obtain rfl := a1 d7
     refine GO.at hs (GO.slL (T := T_GItem_63) HS (RdIn.own (j := 0) Z) Z Z Z underlying27 sz64 c24.1 c24.2 Z (GO.fin (fun a hs => ⟨_, _, _, _, _, _, (.slice (cutA A18 ((w64 (t10 + 1)).toNat) c19 12) ((t16.take t16.length).drop ((w64 (t10 + 1)).toNat)).length (c19 - (w64 (t10 + 1)).toNat)), _, _, _, _, _, _, _, _, A30, c31, y32, _, _, _, _, by exact hs.setAt 7 Z, HS, f15, f0, f1, f2, f3, f4, f5, fun _ => Z, f7, f8, f9, f10, f11, f12, f13, a1, e1, d1, h1, g1, c1⟩)))
    | 7, _ =>
     have hb2 : b 2 = true := hd 2 (by decide)
     obtain rfl := f2 hb2
     have hb6 : b 6 = true := hd 6 (by decide)
     obtain rfl := f6 hb6
     obtain rfl := a1 hb
     refine GO.at hs ?_
     replace HS := HS.splitT z_GItem ((), (), ⟨none, 0, (fun _ => ⟨none, 0, (fun _ => ())⟩)⟩, ⟨none, 0, (fun _ => ())⟩, (), (), ⟨none, 0, (fun _ => ())⟩, (), (), ⟨none, 0, (fun _ => ())⟩, ⟨none, 0, (fun _ => ())⟩, ⟨none, 0, (fun _ => ())⟩)
     refine GO.appCut (T := (TIx T_GItem_63 y20 t16 z_GItem ((), (), ⟨none, 0, (fun _ => ⟨none, 0, (fun _ => ())⟩)⟩, ⟨none, 0, (fun _ => ())⟩, (), (), ⟨none, 0, (fun _ => ())⟩, (), (), ⟨none, 0, (fun _ => ())⟩, ⟨none, 0, (fun _ => ())⟩, ⟨none, 0, (fun _ => ())⟩))) (j := 0) (i1 := t10.toNat) (l1 := (w64 (t10 + 1)).toNat) HS Z flat_flat (fun _ _ => Z) Z Z Z (by rw [List.drop_zero, List.length_take]; exact Nat.min_eq_left (leN c23)) (by rw [List.length_drop, List.take_length, allRows_length]) underlying27 inf64 c26 (Nat.le_trans (leN c24) (Nat.le_of_eq (allRows_length _).symm)) Z fun wd25 HS => GO.fin (fun a hs => ⟨_, _, _, _, _, _, _, (.slice (cutA A18 0 c19 12) (((over (allRows t16.length) t10.toNat ((allRows t16.length).drop ((w64 (t10 + 1)).toNat))).take (t10.toNat + ((allRows t16.length).length - (w64 (t10 + 1)).toNat))).drop 0).length (c19 - 0)), _, _, _, _, _, _, _, A30, c31, y32, Own (TIx T_GItem_63 y20 t16 z_GItem ((), (), ⟨none, 0, (fun _ => ⟨none, 0, (fun _ => ())⟩)⟩, ⟨none, 0, (fun _ => ())⟩, (), (), ⟨none, 0, (fun _ => ())⟩, (), (), ⟨none, 0, (fun _ => ())⟩, ⟨none, 0, (fun _ => ())⟩, ⟨none, 0, (fun _ => ())⟩)) 64 A18 c19 (fun _ => ()) (over (allRows t16.length) t10.toNat ((allRows t16.length).drop ((w64 (t10 + 1)).toNat))), _, RowsT T_GItem_63 y20 t16, _, hs.weak ⟨Z, Z, Z, Z, Z, Z, Z, Z, Z, Z, Z, Z, Z, Z, Z, Z, Z, Z, Z, tv⟩, HS.pk 6 [0, 2, 3, 1, 5] Z, f15, f0, f1, f2, f3, f4, f5, f6, fun _ => Z, f8, f9, f10, f11, f12, f13, fun h => Bool.noConfusion h, fun _ => Z, d1, h1, fun _ => Z, c1⟩)
    | 8, _ =>
     refine GO.at hs (fL b1 1 fl30_1 Z (GO.fin (fun a hs => ⟨_, _, _, _, _, _, _, _, (.pointer (some ⟨b1, 1, none⟩)), _, _, _, _, _, _, A30, c31, y32, _, _, _, _, by exact hs.setAt 9 Z, HS, f15, f0, f1, f2, f3, f4, f5, f6, f7, fun _ => Z, f9, f10, f11, f12, f13, a1, e1, d1, h1, g1, c1⟩)))
    | 9, _ =>
     have hb8 : b 8 = true := hd 8 (by decide)
     obtain rfl := f8 hb8
     refine GO.at hs (lB 2 HS Z na28 Z (GO.fin (fun a hs => ⟨_, _, _, _, _, _, _, _, _, (.slice A_b k1.length c_b), _, _, _, _, _, A30, c31, y32, _, _, _, _, by exact hs.setAt 10 Z, HS, f15, f0, f1, f2, f3, f4, f5, f6, f7, f8, fun _ => Z, f10, f11, f12, f13, a1, e1, d1, h1, g1, c1⟩)))
    | 10, _ =>
     refine GO.at hs (fL b1 0 fl30_0 Z (GO.fin (fun a hs => ⟨_, _, _, _, _, _, _, _, _, _, (.pointer (some ⟨b1, 0, none⟩)), _, _, _, _, A30, c31, y32, _, _, _, _, by exact hs.setAt 11 Z, HS, f15, f0, f1, f2, f3, f4, f5, f6, f7, f8, f9, fun _ => Z, f11, f12, f13, a1, e1, d1, h1, g1, c1⟩)))
    | 11, _ =>
     have hb10 : b 10 = true := hd 10 (by decide)
     obtain rfl := f10 hb10
     refine GO.at hs (lB 2 HS Z na27 Z (GO.fin (fun a hs => ⟨_, _, _, _, _, _, _, _, _, _, _, (.slice A_a m1.length c_a), _, _, _, A30, c31, y32, _, _, _, _, by exact hs.setAt 12 Z, HS, f15, f0, f1, f2, f3, f4, f5, f6, f7, f8, f9, f10, fun _ => Z, f12, f13, a1, e1, d1, h1, g1, c1⟩)))
    | 12, _ =>
     have hb9 : b 9 = true := hd 9 (by decide)
     obtain rfl := f9 hb9
     have hb11 : b 11 = true := hd 11 (by decide)
     obtain rfl := f11 hb11
     refine GO.at hs (fN Z func23 fok23.1 fok23.2 Z Z (spec_l33Push.calls HS (rD 5 r_b) (rD 5 r_a) h29) (fun _ wd33 ⟨A30, c31, y32, h34, HS⟩ => ⟨_, h34, (GO.fin (fun a hs => ⟨_, _, _, _, _, _, _, _, _, _, _, _, (.slice A30 t28.length c31), _, _, A30, c31, y32, _, _, _, Own (Ty.slice 64 T_GItem_63) 27 A30 c31 y32 t28, by exact hs.setAt 13 Z, HS.pk 6 [1, 2, 3, 4, 0] Z, f15, f0, f1, f2, f3, f4, f5, f6, f7, f8, f9, f10, f11, fun _ => Z, fun hh => (Bool.noConfusion ((hcl 13 (by decide) hh 12 (by decide)).symm.trans hb)), a1, e1, d1, fun hh => (Bool.noConfusion ((hcl 14 (by decide) hh 12 (by decide)).symm.trans hb)), g1, fun _ => Z⟩))⟩))
    | 13, _ =>
     have hb7 : b 7 = true := hd 7 (by decide)
     obtain rfl := f7 hb7
     have hb12 : b 12 = true := hd 12 (by decide)
     obtain rfl := f12 hb12
     refine GO.at hs (GO.buildV (.agg [.slice (cutA A18 0 c19 12) (((over (allRows t16.length) t10.toNat ((allRows t16.length).drop ((w64 (t10 + 1)).toNat))).take (t10.toNat + ((allRows t16.length).length - (w64 (t10 + 1)).toNat))).drop 0).length (c19 - 0), .slice A30 t28.length c31, .slice none 0 0].toArray) Z Z (fun _ => by kernel_rfl) Z (GO.fin (fun a hs => ⟨_, _, _, _, _, _, _, _, _, _, _, _, _, (.agg [.slice (cutA A18 0 c19 12) (((over (allRows t16.length) t10.toNat ((allRows t16.length).drop ((w64 (t10 + 1)).toNat))).take (t10.toNat + ((allRows t16.length).length - (w64 (t10 + 1)).toNat))).drop 0).length (c19 - 0), .slice A30 t28.length c31, .slice none 0 0].toArray), _, A30, c31, y32, _, _, _, _, by exact hs.setAt 14 Z, HS, f15, f0, f1, f2, f3, f4, f5, f6, f7, f8, f9, f10, f11, f12, fun _ => Z, a1, e1, d1, h1, g1, c1⟩)))
    | 14, _ =>
     have hb13 : b 13 = true := hd 13 (by decide)
     obtain rfl := f13 hb13
     obtain rfl := d1 hb
     refine GO.at hs (GO.stBox (j := 1) (vs := [.slice (cutA A18 0 c19 12) (((over (allRows t16.length) t10.toNat ((allRows t16.length).drop ((w64 (t10 + 1)).toNat))).take (t10.toNat + ((allRows t16.length).length - (w64 (t10 + 1)).toNat))).drop 0).length (c19 - 0), .slice A30 t28.length c31, .slice none 0 0]) ([.slice (cutA A18 0 c19 12) (((over (allRows t16.length) t10.toNat ((allRows t16.length).drop ((w64 (t10 + 1)).toNat))).take (t10.toNat + ((allRows t16.length).length - (w64 (t10 + 1)).toNat))).drop 0).length (c19 - 0), .slice A30 t28.length c31, .slice none 0 0]) HS Z Z Z Z Z (htA ag30) Z Z Z fun wd35 HS => GO.fin (fun a hs => ⟨_, _, _, _, _, _, _, _, _, _, _, _, _, _, _, A30, c31, y32, _, Box b3 30 [.slice (cutA A18 0 c19 12) (((over (allRows t16.length) t10.toNat ((allRows t16.length).drop ((w64 (t10 + 1)).toNat))).take (t10.toNat + ((allRows t16.length).length - (w64 (t10 + 1)).toNat))).drop 0).length (c19 - 0), .slice A30 t28.length c31, .slice none 0 0], _, _, hs, HS, f15, f0, f1, f2, f3, f4, f5, f6, f7, f8, f9, f10, f11, f12, f13, a1, e1, fun h => Bool.noConfusion h, fun _ => Z, g1, c1⟩))
    | 15, _ =>
     refine GO.at hs (aS Z (GO.fin (fun a hs => ⟨_, _, _, _, _, _, _, _, _, _, _, _, _, _, (I 0), A30, c31, y32, _, _, _, _, by exact hs.setAt 0 Z, HS, fun _ => Z, f0, f1, f2, f3, f4, f5, f6, f7, f8, f9, f10, f11, f12, f13, a1, e1, d1, h1, g1, c1⟩)))
    | k + 16, hj => exact absurd hj (Nat.not_lt.2 (Nat.le_add_left 16 k))
   ·
    intro b a w hall
    refine exI fun o1 => exI fun d2 => exI fun s1 => exI fun a2 => exI fun z1 => exI fun y1 => exI fun e2 => exI fun t1 => exI fun u1 => exI fun n1 => exI fun q1 => exI fun v1 => exI fun x1 => exI fun p1 => exI fun c2 => exI fun A30 => exI fun c31 => exI fun y32 => exI fun h2 => exI fun g2 => exI fun k2 => exI fun i2 => anI fun hs => anI fun HS => anI fun f15 => anI fun f0 => anI fun f1 => anI fun f2 => anI fun f3 => anI fun f4 => anI fun f5 => anI fun f6 => anI fun f7 => anI fun f8 => anI fun f9 => anI fun f10 => anI fun f11 => anI fun f12 => anI fun f13 => anI fun a1 => anI fun e1 => anI fun d1 => anI fun h1 => anI fun g1 => fun c1 => ?_
    obtain rfl := f15 (hall 15 (by decide))
    obtain rfl := f0 (hall 0 (by decide))
    obtain rfl := f1 (hall 1 (by decide))
    obtain rfl := f2 (hall 2 (by decide))
    obtain rfl := f3 (hall 3 (by decide))
    obtain rfl := f4 (hall 4 (by decide))
    obtain rfl := f5 (hall 5 (by decide))
    obtain rfl := f6 (hall 6 (by decide))
    obtain rfl := f7 (hall 7 (by decide))
    obtain rfl := f8 (hall 8 (by decide))
    obtain rfl := f9 (hall 9 (by decide))
    obtain rfl := f10 (hall 10 (by decide))
    obtain rfl := f11 (hall 11 (by decide))
    obtain rfl := f12 (hall 12 (by decide))
    obtain rfl := f13 (hall 13 (by decide))
    obtain rfl := e1 (hall 7 (by decide))
    obtain rfl := h1 (hall 14 (by decide))
    obtain rfl := g1 (hall 7 (by decide))
    obtain rfl := c1 (hall 12 (by decide))
    refine G.at hs ?_
    replace HS := HS.pk 5 [0, 3, 1, 2, 4] Z
    obtain ⟨r36, h37, H⟩ := bI H
    obtain ⟨y38, h39, HS⟩ := St.unsplitT (A' := (cutA A18 0 c19 12)) (c' := (c19 - 0)) HS (leOver c26 (Nat.le_trans (leN c24) (Nat.le_of_eq (allRows_length _).symm))) h37 (cutA_zero _ _ _) Z
    have h40 : r36.length = ((((over (allRows t16.length) t10.toNat ((allRows t16.length).drop ((w64 (t10 + 1)).toNat))).take (t10.toNat + ((allRows t16.length).length - (w64 (t10 + 1)).toNat))).drop 0)).length := by rw [h39, List.drop_zero, List.length_take]; exact (Nat.min_eq_left (leOver c26 (Nat.le_trans (leN c24) (Nat.le_of_eq (allRows_length _).symm)))).symm
    replace HS := HS.nilRow (Ty.slice 64 T_GItem_63) 27 (fun _ => ⟨none, 0, (fun _ => ((), (), ⟨none, 0, (fun _ => ⟨none, 0, (fun _ => ())⟩)⟩, ⟨none, 0, (fun _ => ())⟩, (), (), ⟨none, 0, (fun _ => ())⟩, (), (), ⟨none, 0, (fun _ => ())⟩, ⟨none, 0, (fun _ => ())⟩, ⟨none, 0, (fun _ => ())⟩))⟩)
    obtain ⟨rfl, rfl, rfl, rfl⟩ := some4 H
    exact G.ret2 _ _ func6 Z (Res1.boxA (j := 2) (vs := [.slice (cutA A18 0 c19 12) (((over (allRows t16.length) t10.toNat ((allRows t16.length).drop ((w64 (t10 + 1)).toNat))).take (t10.toNat + ((allRows t16.length).length - (w64 (t10 + 1)).toNat))).drop 0).length (c19 - 0), .slice A30 t28.length c31, .slice none 0 0]) HS Z Z Z ag30) Z ⟨_, _, _, _, _, _, _, _, _, (by rw [h40]; try exact Z), (HS.pk 5 [1, 4, 0] Z)⟩
  refine yB Z (congrArg Bool.not (bnot_of c9)) (sQ (rG (GO.buildV (.agg [.slice none 0 0, .slice none 0 0, .slice none 0 0].toArray) Z Z (fun _ => by kernel_rfl) Z (GO.stBox (j := 0) (vs := [.slice none 0 0, .slice none 0 0, .slice none 0 0]) ([.slice none 0 0, .slice none 0 0, .slice none 0 0]) HS Z Z Z Z Z (htA ag30) Z Z Z fun wd41 HS => aS Z (nL ?_)))))
  replace HS := HS.nilRow T_GItem_63 64 (fun _ => ((), (), ⟨none, 0, (fun _ => ⟨none, 0, (fun _ => ())⟩)⟩, ⟨none, 0, (fun _ => ())⟩, (), (), ⟨none, 0, (fun _ => ())⟩, (), (), ⟨none, 0, (fun _ => ())⟩, ⟨none, 0, (fun _ => ())⟩, ⟨none, 0, (fun _ => ())⟩))
  replace HS := HS.nilRow (Ty.slice 64 T_GItem_63) 27 (fun _ => ⟨none, 0, (fun _ => ((), (), ⟨none, 0, (fun _ => ⟨none, 0, (fun _ => ())⟩)⟩, ⟨none, 0, (fun _ => ())⟩, (), (), ⟨none, 0, (fun _ => ())⟩, (), (), ⟨none, 0, (fun _ => ())⟩, ⟨none, 0, (fun _ => ())⟩, ⟨none, 0, (fun _ => ())⟩))⟩)
  replace HS := HS.nilRow (Ty.slice 64 T_GItem_63) 27 (fun _ => ⟨none, 0, (fun _ => ((), (), ⟨none, 0, (fun _ => ⟨none, 0, (fun _ => ())⟩)⟩, ⟨none, 0, (fun _ => ())⟩, (), (), ⟨none, 0, (fun _ => ())⟩, (), (), ⟨none, 0, (fun _ => ())⟩, ⟨none, 0, (fun _ => ())⟩, ⟨none, 0, (fun _ => ())⟩))⟩)
  obtain ⟨rfl, rfl, rfl, rfl⟩ := some4 H
  exact G.ret2 _ _ func6 Z (Res1.boxA (j := 3) (vs := [.slice none 0 0, .slice none 0 0, .slice none 0 0]) HS Z Z Z ag30) Z ⟨_, _, _, _, _, _, _, _, _, Z, (HS.pk 5 [2, 1, 0] Z)⟩
theorem internal_bytealg_CompareString.calls {a_ b_ : ByteArray} {r1 : Int} (HS : St w0 w (L)) (H : internal_bytealg_CompareString.f a_ b_ = some r1) :
    Calls prog 113 #[.string a_, .string b_] w (internal_bytealg_CompareString.post w0 L r1) := by
  unfold internal_bytealg_CompareString.f at H
  refine cG func113 Z ?_
  refine rN 3 Z (rG (pS 2 Z (GO.cmpS Z func159 (by kernel_rfl) (by kernel_rfl) (by kernel_rfl) (by kernel_rfl) Z Z Z (aS Z (nL ?_)))))
  obtain rfl := sI H
  exact rT _ func113 Z Z ⟨Z, HS⟩
theorem strings_Compare.calls {a_ b_ : ByteArray} {r1 : Int} (HS : St w0 w (L)) (H : strings_Compare.f a_ b_ = some r1) :
    Calls prog 64 #[.string a_, .string b_] w (strings_Compare.post w0 L r1) := by
  unfold strings_Compare.f at H
  refine cG func64 Z ?_
  refine rN 3 Z ?_
  obtain ⟨t1, h2, H⟩ := bI H
  refine rG (pS 2 Z (fN Z func113 fok113.1 fok113.2 Z Z (internal_bytealg_CompareString.calls HS  h2) (fun _ wd3 ⟨h4, HS⟩ => ⟨_, h4, (aS Z (nL ?_))⟩)))
  obtain rfl := sI H
  exact rT _ func64 Z Z ⟨Z, HS⟩
theorem impl_itemAt_fn1.calls {n1 : ByteArray} {o1 : Int} {c1 : List (List GFace)} {e1 : List GCrossing} {h1 m1 : Int} {a1 : List Int} {i1 k1 : Int} {g1 : List GMove} {f1 d1 : List Int} {name : ByteArray} {A_a : Option Addr} {c_a : Nat} {y_a : Nat → (Ty.slice 157 T_GFace).Lay} {A_b : Option Addr} {c_b : Nat} {A_c : Option Addr} {c_c : Nat} {A_d : Option Addr} {c_d : Nat} {A_e : Option Addr} {c_e : Nat} {A_f : Option Addr} {c_f : Nat} {r1 : Int} (HS : St w0 w (L)) (r_a : RdIn w0 L (Ty.slice 157 T_GFace) A_a c_a y_a c1) (r_b : RdIn w0 L T_GCrossing A_b c_b (fun _ => ()) e1) (r_c : RdIn w0 L (TInt .i64) A_c c_c (fun _ => ()) a1) (r_d : RdIn w0 L T_GMove A_d c_d (fun _ => ()) g1) (r_e : RdIn w0 L (TInt .i64) A_e c_e (fun _ => ()) f1) (r_f : RdIn w0 L (TInt .i64) A_f c_f (fun _ => ()) d1) (H : impl_itemAt_fn1.f n1 o1 c1 e1 h1 m1 a1 i1 k1 g1 f1 d1 name = some r1) :
    Calls prog 63 #[.agg [.string n1, I o1, .slice A_a c1.length c_a, .slice A_b e1.length c_b, I h1, I m1, .slice A_c a1.length c_c, I i1, I k1, .slice A_d g1.length c_d, .slice A_e f1.length c_e, .slice A_f d1.length c_f].toArray, .string name] w (impl_itemAt_fn1.post w0 L r1) := by
  unfold impl_itemAt_fn1.f at H
  refine cG func63 Z ?_
  refine sQ (rG (GO.box (cs := [.string n1, I o1, .slice A_a c1.length c_a, .slice A_b e1.length c_b, I h1, I m1, .slice A_c a1.length c_c, I i1, I k1, .slice A_d g1.length c_d, .slice A_e f1.length c_e, .slice A_f d1.length c_f]) HS Z Z Z Z fun b1 wd2 HS => aS Z (nL (sQ ?_))))
  obtain ⟨t3, h4, H⟩ := bI H
  refine rG (fL b1 0 fl64_0 Z (lB 0 HS Z na9 Z (mV Z (fN Z func64 fok64.1 fok64.2 Z Z (strings_Compare.calls HS  h4) (fun _ wd5 ⟨h6, HS⟩ => ⟨_, h6, (aS Z (nL ?_))⟩)))))
  obtain rfl := sI H
  exact rT _ func63 Z Z ⟨Z, (HS.pk 1 [] Z)⟩
theorem slices_BinarySearchFunc_impl_Item_impl_Item_string_itemAt_fn1.calls {x : List GItem} {target : ByteArray} {A_a : Option Addr} {c_a : Nat} {y_a : Nat → T_GItem_63.Lay} {r1 : Int} {r2 : Bool} (HS : St w0 w (L)) (r_a : RdIn w0 L T_GItem_63 A_a c_a y_a x) (H : slices_BinarySearchFunc_impl_Item_impl_Item_string_itemAt_fn1.f K x target = some (r1, r2)) :
    Calls prog 62 #[.slice A_a x.length c_a, .string target, .func (.func 63) #[] #[]] w (slices_BinarySearchFunc_impl_Item_impl_Item_string_itemAt_fn1.post w0 L r1 r2) := by
  unfold slices_BinarySearchFunc_impl_Item_impl_Item_string_itemAt_fn1.f at H
  refine cG func62 Z ?_
  refine rN 3 Z (rG (mV Z (lS Z Z underlying27 Z (aS Z (nL (rN 5 Z ?_))))))
  refine G.name (fun h1 g1 => ?_)
  have i1 : ∀ a1, a1 ≤ K → ∀ (b1 c1 : Int) (w : World), slices_BinarySearchFunc_impl_Item_impl_Item_string_itemAt_fn1.l1 K a1 x target b1 c1 = some (r1, r2) → St w0 w (L) → G prog 62 49 [(0, .slice A_a x.length c_a), (1, .string target), (2, .func (.func 63) #[] #[]), (8, I (x.length : Int)), (9, I b1), (10, I c1)] h1 w (slices_BinarySearchFunc_impl_Item_impl_Item_string_itemAt_fn1.post w0 L r1 r2) := by
   intro a1
   induction a1 using Nat.strongRecOn with
   | _ a1 f1 =>
    intro e1 b1 c1 w H HS
    cases a1 with
    | zero => rw [slices_BinarySearchFunc_impl_Item_impl_Item_string_itemAt_fn1.l1] at H; cases H
    | succ d1 =>
     rw [slices_BinarySearchFunc_impl_Item_impl_Item_string_itemAt_fn1.l1] at H
     subst g1
     refine rN 3 Z ?_
     rcases iE H with ⟨c29, H⟩ | ⟨c29, H⟩
     ·
      refine yB Z (tT c29) (rN 3 Z (rG (pS 3 Z (GO.conv Z Z underlying3 underlying146 Z (GO.shr Z Z Z (by decide) (by decide) Z (GO.conv Z Z underlying146 underlying3 Z (aS Z (nL (sQ ?_)))))))))
      obtain ⟨c30, H⟩ := iN H
      obtain ⟨e31, h32, H⟩ := bnd_elim H
      obtain ⟨t33, h34, H⟩ := bI H
      refine rG (pS 3 Z (GO.ix Z Z Z underlying27 sz64 (r_a _ HS).2.2.1 c30.1 c30.2 Z (GO.ldRdA (T := T_GItem_63) (n := (w64 ((IntKind.wrap .u64 (w64 (b1 + c1))) / 2 ^ 1)).toNat) HS r_a Z Z (getD_eq (ltN c30) h32) ag64 Z (mV Z (GO.clo Z Z func63 fok63.1 fok63.2 Z Z (impl_itemAt_fn1.calls HS (RdIn.fld r_a (getD_eq (ltN c30) h32) (fun _ h => h.2.2.1)) (RdIn.fld r_a (getD_eq (ltN c30) h32) (fun _ h => h.2.2.2.1)) (RdIn.fld r_a (getD_eq (ltN c30) h32) (fun _ h => h.2.2.2.2.2.2.1)) (RdIn.fld r_a (getD_eq (ltN c30) h32) (fun _ h => h.2.2.2.2.2.2.2.2.2.1)) (RdIn.fld r_a (getD_eq (ltN c30) h32) (fun _ h => h.2.2.2.2.2.2.2.2.2.2.1)) (RdIn.fld r_a (getD_eq (ltN c30) h32) (fun _ h => h.2.2.2.2.2.2.2.2.2.2.2)) h34) (fun _ wd35 ⟨h36, HS⟩ => ⟨_, h36, (GO.lss Z Z Z Z (nL ?_))⟩))))))
      rcases iE H with ⟨c37, H⟩ | ⟨c37, H⟩
      ·
       refine yB Z (tT c37) (rN 3 Z (G.weak ?_ (f1 d1 (Nat.lt_succ_of_le (lR _)) (Nat.le_of_succ_le e1) _ _ _ H HS)))
       exact ⟨Z, Z, Z, Z, Z, Z, tv⟩
      refine nB Z (tF c37) (rN 3 Z (G.weak ?_ (f1 d1 (Nat.lt_succ_of_le (lR _)) (Nat.le_of_succ_le e1) _ _ _ H HS)))
      exact ⟨Z, Z, Z, Z, Z, Z, tv⟩
     refine nB Z (tF c29) (rN 2 Z ?_)
     rcases iE H with ⟨c38, H⟩ | ⟨c38, H⟩
     ·
      obtain ⟨c39, H⟩ := iN H
      obtain ⟨e40, h41, H⟩ := bnd_elim H
      obtain ⟨t42, h43, H⟩ := bI H
      refine rG (pS 5 Z (kN 39 Z (tT c38) (oN Z (mV Z (bK (oN Z (mV Z (bK (oN Z (mV Z (bK (oN Z (GO.ix Z Z Z underlying27 sz64 (r_a _ HS).2.2.1 c39.1 c39.2 Z (bK ?_))))))))))))))
      refine oN Z (GO.ldRdA (T := T_GItem_63) (n := b1.toNat) HS r_a Z Z (getD_eq (ltN c39) h41) ag64 Z (bK (oN Z (mV Z (bK (oN Z (GO.clo Z Z func63 fok63.1 fok63.2 Z Z (impl_itemAt_fn1.calls HS (RdIn.fld r_a (getD_eq (ltN c39) h41) (fun _ h => h.2.2.1)) (RdIn.fld r_a (getD_eq (ltN c39) h41) (fun _ h => h.2.2.2.1)) (RdIn.fld r_a (getD_eq (ltN c39) h41) (fun _ h => h.2.2.2.2.2.2.1)) (RdIn.fld r_a (getD_eq (ltN c39) h41) (fun _ h => h.2.2.2.2.2.2.2.2.2.1)) (RdIn.fld r_a (getD_eq (ltN c39) h41) (fun _ h => h.2.2.2.2.2.2.2.2.2.2.1)) (RdIn.fld r_a (getD_eq (ltN c39) h41) (fun _ h => h.2.2.2.2.2.2.2.2.2.2.2)) h43) (fun _ wd44 ⟨h45, HS⟩ => ⟨_, h45, (bK (oN Z (GO.eql Z Z Z Z (bK (pS 3 Z (nL ?_))))))⟩))))))))
      obtain ⟨rfl, rfl⟩ := some2 H
      exact G.ret2 _ _ func62 Z Z Z ⟨Z, HS⟩
     refine rG (pS 5 Z (kN 39 Z (tF c38) (oF Z (oF Z (oF Z (oF Z (oF Z (oF Z (oF Z (oF Z (pS 3 Z (nL ?_))))))))))))
     obtain ⟨rfl, rfl⟩ := some2 H
     exact G.ret2 _ _ func62 Z Z Z ⟨Z, HS⟩
  refine G.weak ?_ (i1 K (lR _) _ _ _ H HS)
  exact ⟨Z, Z, Z, Z, Z, Z, tv⟩
theorem impl_itemAt.calls {items : List GItem} {name : ByteArray} {A_a : Option Addr} {c_a : Nat} {y_a : Nat → T_GItem_63.Lay} {r1 : Int} {r2 : Bool} (HS : St w0 w (L)) (r_a : RdIn w0 L T_GItem_63 A_a c_a y_a items) (H : impl_itemAt.f K items name = some (r1, r2)) :
    Calls prog 26 #[.slice A_a items.length c_a, .string name] w (impl_itemAt.post w0 L r1 r2) := by
  unfold impl_itemAt.f at H
  refine cG func26 Z ?_
  refine rN 3 Z ?_
  obtain ⟨t1, t2, h3, H⟩ := bind2_elim H
  refine rG (pS 2 Z (fN Z func62 fok62.1 fok62.2 Z Z (slices_BinarySearchFunc_impl_Item_impl_Item_string_itemAt_fn1.calls HS r_a h3) (fun _ wd4 ⟨h5, HS⟩ => ⟨_, h5, (pS 4 Z (nL ?_))⟩)))
  obtain ⟨rfl, rfl⟩ := some2 H
  exact G.ret2 _ _ func26 Z Z Z ⟨Z, HS⟩
theorem impl_isItemName_fn1.calls {c : Int} {r1 : Bool} (HS : St w0 w (L)) (H : impl_isItemName_fn1.f c = some r1) :
    Calls prog 137 #[.int .i32 c] w (impl_isItemName_fn1.post w0 L r1) := by
  unfold impl_isItemName_fn1.f at H
  refine cG func137 Z ?_
  refine rN 3 Z ?_
  rcases iE H with ⟨c1, H⟩ | ⟨c1, H⟩
  ·
   refine rG (pS 3 Z (kN 5 Z (tT c1) (oF Z (oF Z (pS 2 Z (nL ?_))))))
   obtain rfl := sI H
   exact rT _ func137 Z Z ⟨Z, HS⟩
  refine rG (pS 3 Z (kN 5 Z (tF c1) (oN Z (mV Z (bK (oN Z (GO.gtr Z Z Z Z (bK (pS 2 Z (nL ?_))))))))))
  obtain rfl := sI H
  exact rT _ func137 Z Z ⟨Z, HS⟩
theorem strings_indexFunc_isItemName_fn1.calls {s : ByteArray} {truth : Bool} {r1 : Int} (HS : St w0 w (L)) (H : strings_indexFunc_isItemName_fn1.f K s truth = some r1) :
    Calls prog 190 #[.string s, .func (.func 137) #[] #[], .bool truth] w (strings_indexFunc_isItemName_fn1.post w0 L r1) := by
  unfold strings_indexFunc_isItemName_fn1.f at H
  refine cG func190 Z ?_
  refine rN 4 Z (rG (mV Z (GO.rangeS HS Z Z underlying9 Z fun b1 wd2 HS => nL (rN 2 Z ?_))))
  refine G.name (fun g1 d1 => ?_)
  have h1 : ∀ a1, a1 ≤ K → ∀ (at12 : Ix) (w : World), strings_indexFunc_isItemName_fn1.l1 K a1 s truth at12 = some r1 → St w0 w (Iter b1 s at12 :: L) → G prog 190 21 [(1, .func (.func 137) #[] #[]), (2, .bool truth), (10, .pointer (some ⟨b1, 0, none⟩))] g1 w (strings_indexFunc_isItemName_fn1.post w0 L r1) := by
   intro a1
   induction a1 using Nat.strongRecOn with
   | _ a1 f1 =>
    intro e1 at12 w H HS
    cases a1 with
    | zero => rw [strings_indexFunc_isItemName_fn1.l1] at H; cases H
    | succ c1 =>
     rw [strings_indexFunc_isItemName_fn1.l1] at H
     subst d1
     refine sQ ?_
     rcases iE H with ⟨c23, H⟩ | ⟨c23, H⟩
     ·
      refine rG (GO.nextS (j := 0) HS Z Z Z c23 Z fun wd24 HS => GO.extract Z Z Z Z (nL (rN 7 Z ?_)))
      obtain ⟨t25, h26, H⟩ := bI H
      refine rG (pS 2 Z (GO.clo Z Z func137 fok137.1 fok137.2 Z Z (impl_isItemName_fn1.calls HS  h26) (fun _ wd27 ⟨h28, HS⟩ => ⟨_, h28, (mV Z (GO.eqlB Z Z Z underlying4 Z (nL ?_)))⟩)))
      rcases iE H with ⟨c29, H⟩ | ⟨c29, H⟩
      ·
       refine yB Z c29 (rN 2 Z ?_)
       obtain rfl := sI H
       exact rT _ func190 Z Z ⟨Z, (HS.pk 1 [] Z)⟩
      refine nB Z (bnot_of c29) (rN 3 Z (G.weak ?_ (f1 c1 (Nat.lt_succ_of_le (lR _)) (Nat.le_of_succ_le e1) _ _ H HS)))
      exact ⟨Z, Z, Z, tv⟩
     refine rG (GO.nextE (j := 0) HS Z Z Z c23 Z (GO.extract Z Z Z Z (nL (rN 5 Z ?_))))
     obtain rfl := sI H
     exact rT _ func190 Z Z ⟨Z, (HS.pk 1 [] Z)⟩
  refine G.weak ?_ (h1 K (lR _) _ _ H HS)
  exact ⟨Z, Z, Z, tv⟩
theorem strings_IndexFunc_isItemName_fn1.calls {s : ByteArray} {r1 : Int} (HS : St w0 w (L)) (H : strings_IndexFunc_isItemName_fn1.f K s = some r1) :
    Calls prog 170 #[.string s, .func (.func 137) #[] #[]] w (strings_IndexFunc_isItemName_fn1.post w0 L r1) := by
  unfold strings_IndexFunc_isItemName_fn1.f at H
  refine cG func170 Z ?_
  refine rN 3 Z ?_
  obtain ⟨t1, h2, H⟩ := bI H
  refine rG (pS 2 Z (fN Z func190 fok190.1 fok190.2 Z Z (strings_indexFunc_isItemName_fn1.calls HS  h2) (fun _ wd3 ⟨h4, HS⟩ => ⟨_, h4, (aS Z (nL ?_))⟩)))
  obtain rfl := sI H
  exact rT _ func170 Z Z ⟨Z, HS⟩
theorem strings_ContainsFunc_isItemName_fn1.calls {s : ByteArray} {r1 : Bool} (HS : St w0 w (L)) (H : strings_ContainsFunc_isItemName_fn1.f K s = some r1) :
    Calls prog 136 #[.string s, .func (.func 137) #[] #[]] w (strings_ContainsFunc_isItemName_fn1.post w0 L r1) := by
  unfold strings_ContainsFunc_isItemName_fn1.f at H
  refine cG func136 Z ?_
  refine rN 3 Z ?_
  obtain ⟨t1, h2, H⟩ := bI H
  refine rG (pS 2 Z (fN Z func170 fok170.1 fok170.2 Z Z (strings_IndexFunc_isItemName_fn1.calls HS  h2) (fun _ wd3 ⟨h4, HS⟩ => ⟨_, h4, (pS 2 Z (nL ?_))⟩)))
  obtain rfl := sI H
  exact rT _ func136 Z Z ⟨Z, HS⟩
theorem impl_isItemName.calls {s : ByteArray} {r1 : Bool} (HS : St w0 w (L)) (H : impl_isItemName.f K s = some r1) :
    Calls prog 96 #[.string s] w (impl_isItemName.post w0 L r1) := by
  unfold impl_isItemName.f at H
  refine cG func96 Z ?_
  refine rN 3 Z ?_
  rcases iE H with ⟨c1, H⟩ | ⟨c1, H⟩
  ·
   rcases iE H with ⟨c2, H⟩ | ⟨c2, H⟩
   ·
    obtain ⟨t3, h4, H⟩ := bI H
    refine rG (mV Z (GO.lenStr Z Z underlying9 Z (pS 2 Z (kN 6 Z (tT c1) (oN Z (mV Z (bK (oN Z (GO.lenStr Z Z underlying9 Z (bK (oN Z (GO.leq Z Z Z Z (bK (pS 2 Z ?_))))))))))))))
    refine kN 11 Z (tT c2) (oN Z (mV Z (bK (oN Z (fN Z func136 fok136.1 fok136.2 Z Z (strings_ContainsFunc_isItemName_fn1.calls HS  h4) (fun _ wd5 ⟨h6, HS⟩ => ⟨_, h6, (bK (oN Z (GO.not Z Z Z (bK (pS 2 Z (nL ?_))))))⟩))))))
    obtain rfl := sI H
    exact rT _ func96 Z Z ⟨Z, HS⟩
   refine rG (mV Z (GO.lenStr Z Z underlying9 Z (pS 2 Z (kN 6 Z (tT c1) (oN Z (mV Z (bK (oN Z (GO.lenStr Z Z underlying9 Z (bK (oN Z (GO.leq Z Z Z Z (bK (pS 2 Z ?_))))))))))))))
   refine kN 11 Z (tF c2) (oF Z (oF Z (oF Z (pS 2 Z (nL ?_)))))
   obtain rfl := sI H
   exact rT _ func96 Z Z ⟨Z, HS⟩
  refine rG (mV Z (GO.lenStr Z Z underlying9 Z (pS 2 Z (kN 6 Z (tF c1) (oF Z (oF Z (oF Z (pS 2 Z (oF Z (oF Z (oF Z (pS 2 Z (nL ?_)))))))))))))
  obtain rfl := sI H
  exact rT _ func96 Z Z ⟨Z, HS⟩
theorem impl_inRange.calls {x low high : Int} {r1 : Bool} (HS : St w0 w (L)) (H : impl_inRange.f x low high = some r1) :
    Calls prog 97 #[I x, I low, I high] w (impl_inRange.post w0 L r1) := by
  unfold impl_inRange.f at H
  refine cG func97 Z ?_
  refine rN 3 Z ?_
  rcases iE H with ⟨c1, H⟩ | ⟨c1, H⟩
  ·
   refine rG (pS 4 Z (kN 10 Z (tT c1) (oN Z (mV Z (bK (oN Z (mV Z (bK (oN Z (GO.leq Z Z Z Z (bK (pS 2 Z (nL ?_)))))))))))))
   obtain rfl := sI H
   exact rT _ func97 Z Z ⟨Z, HS⟩
  refine rG (pS 4 Z (kN 10 Z (tF c1) (oF Z (oF Z (oF Z (pS 2 Z (nL ?_)))))))
  obtain rfl := sI H
  exact rT _ func97 Z Z ⟨Z, HS⟩
end Go.Proofs.YtkmeepgpmppibaaGreatDoor
