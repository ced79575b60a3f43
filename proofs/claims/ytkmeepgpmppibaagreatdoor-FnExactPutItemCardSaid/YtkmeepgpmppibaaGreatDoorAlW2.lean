/-
  The walks through the functions: a call comes to what its list function says.
-/
import Derived.Test.YtkmeepgpmppibaaGreatDoorAlF
import Derived.Test.YtkmeepgpmppibaaGreatDoorAlW1
set_option linter.unusedVariables false
set_option linter.unusedSimpArgs false
namespace Go.Proofs.YtkmeepgpmppibaaGreatDoor
open Go.RowKit
open Tryz
variable {w0 w : World} {L : List Cu} {K : Nat}
set_option maxRecDepth 20000
set_option maxHeartbeats 40000000
theorem Ch.calls {c1 : List Al} {d1 : Int} {A_a : Option Addr} {c_a : Nat} {r1 : List Int} (HS : St w0 w (L)) (r_a : Aq w0 L Bb A_a c_a (fun _ => ()) c1) (H : Ch.f K c1 d1 = some r1) :
    Calls prog 165 #[.agg [.slice A_a c1.length c_a, I d1].toArray] w (Ch.post w0 L r1) := by
  unfold Ch.f at H
  refine cG func165 Z ?_
  refine sQ (rG (GO.box (cs := [.slice A_a c1.length c_a, I d1]) HS Z Z Z Z fun b1 wd2 HS => aS Z (nL (sQ (rG (GO.F3 (el := 2) ([]) HS Z Z (fun _ => by kernel_rfl) Z fun b3 wd4 HS => ?_))))))
  replace HS := HS.J6 (T := (Bq .i64)) (j := 0) Z Bv (fun _ => ()) ([] : List Int) Z (O3 Z)
  refine GO.Nb (t := 13) (m := ([] : List Int).length) (c' := ([] : List Int).length) Z Z Z (aS Z (nL (rN 5 Z ?_)))
  refine G.name (fun z1 x1 => ?_)
  have y1 : ∀ h1, h1 ≤ K → ∀ (A101 : Option Addr) (c102 : Nat) (n1 : List Int) (k1 : Int) (w : World), Ch.l1 K h1 c1 d1 n1 k1 = some r1 → St w0 w (Box b1 58 [.slice A_a c1.length c_a, I d1] :: Own (Bq .i64) 2 A101 c102 (fun _ => ()) n1 :: L) → G prog 165 74 [(1, .pointer (some ⟨b1, 0, none⟩)), (3, .slice A101 n1.length c102), (4, I k1)] z1 w (Ch.post w0 L r1) := by
   intro h1
   induction h1 using Nat.strongRecOn with
   | _ h1 f2 =>
    intro a2 A101 c102 n1 k1 w H HS
    cases h1 with
    | zero => rw [Ch.l1] at H; cases H
    | succ o1 =>
     rw [Ch.l1] at H
     subst x1
     refine rN 2 Z (rG (mV Z (fL b1 0 Iu Z (lB 0 HS Z Ni Z (lS Z Z underlying56 Z (GO.lss Z Z Z Z (nL ?_)))))))
     rcases iE H with ⟨c201, H⟩ | ⟨c201, H⟩
     ·
      refine yB Z (tT c201) (rN 3 Z ?_)
      obtain ⟨c207, H⟩ := iN H
      refine rG (pS 2 Z (GO.F3 (el := 2) ([I k1]) HS Z Z (fun _ => by kernel_rfl) Z fun b202 wd203 HS => GO.app1 (T := (Bq .i64)) (j := 2) (jb := 0) k1 HS Z Z Bv Z Z Z underlying43 S9 Z Z Z c207 Z fun A205 c206 wd204 HS => aS Z (nL (rN 3 Z (G.weak ?_ (f2 o1 (Nat.lt_succ_of_le (lR _)) (Nat.le_of_succ_le a2) _ _ _ _ _ H (HS.pk 3 [1, 2] Z)))))))
      exact ⟨Z, Z, Z, tv⟩
     refine nB Z (tF c201) (rN 6 Z ?_)
     refine G.name (fun c2 v1 => ?_)
     have e2 : ∀ e1, e1 ≤ o1 → ∀ (a1 : List Int) (i1 : Int) (w : World), Ch.l10 K e1 c1 d1 a1 i1 = some r1 → St w0 w (Box b1 58 [.slice A_a c1.length c_a, I d1] :: Own (Bq .i64) 2 A101 c102 (fun _ => ()) a1 :: L) → G prog 165 74 [(1, .pointer (some ⟨b1, 0, none⟩)), (3, .slice A101 a1.length c102), (5, I i1)] c2 w (Ch.post w0 L r1) := by
      intro e1
      induction e1 using Nat.strongRecOn with
      | _ e1 g2 =>
       intro h2 a1 i1 w H HS
       cases e1 with
       | zero => rw [Ch.l10] at H; cases H
       | succ s1 =>
        rw [Ch.l10] at H
        subst v1
        refine rN 2 Z (rG (mV Z (fL b1 0 Iu Z (lB 0 HS Z Ni Z (lS Z Z underlying56 Z (pS 2 Z (nL ?_)))))))
        rcases iE H with ⟨c268, H⟩ | ⟨c268, H⟩
        ·
         refine yB Z (tT c268) (rN 4 Z ?_)
         obtain ⟨t269, t270, h271, H⟩ := Dk H
         refine rG (GO.Bu (j := 0) ([.slice A_a c1.length c_a, I d1]) HS Z Z Z Z Np Z (mV Z (fN Z func189 Uc.1 Uc.2 Z Z (Ck.calls HS (rD 2 r_a) h271) (fun _ wd272 ⟨h273, HS⟩ => ⟨_, h273, (pS 5 Z (nL (sQ ?_)))⟩))))
         obtain ⟨t274, t275, h276, H⟩ := Dk H
         refine rG (GO.Bu (j := 0) ([.slice A_a c1.length c_a, I d1]) HS Z Z Z Z Np Z (mV Z (fN Z func189 Uc.1 Uc.2 Z Z (Ck.calls HS (rD 2 r_a) h276) (fun _ wd277 ⟨h278, HS⟩ => ⟨_, h278, (pS 5 Z (nL (sQ ?_)))⟩))))
         obtain ⟨c279, H⟩ := iN H
         have h280 := ((Aq.own (j := 1) Z) _ HS).2.2.1
         obtain ⟨c281, H⟩ := iN H
         have h282 := ((Aq.own (j := 1) Z) _ HS).2.2.1
         refine G.lex mixed [0, 1, 2, 4, 5, 6, 3, 8, 7, 9] (by kernel_rfl) ?_
         replace HS := HS.drew
         refine GX.ps 2 Z (qL Z Z (fun _ _ g => GO.ix Z Z Z underlying43 sz2 h280 c279.1 c279.2 Z g) Z (GX.ps 2 Z (qL Z Z (fun _ _ g => GO.ix Z Z Z underlying43 sz2 h282 c281.1 c281.2 Z g) Z (GX.l1 Z Z Z (fun _ g => GO.Fq (T := (Bq .i64)) (n := t269.toNat) (o := 0) HS (Aq.own (j := 1) Z) Z Z (getD_some (d := 0) (ltN c279)) Z Z na2 Z g) Z (GX.ps 1 Z (GX.l1 Z Z Z (fun _ g => GO.Fq (T := (Bq .i64)) (n := t274.toNat) (o := 0) HS (Aq.own (j := 1) Z) Z Z (getD_some (d := 0) (ltN c281)) Z Z na2 Z g) Z (GX.ps 1 Z (GX.nil (rN 4 Z ?_)))))))))
         refine G.name (fun d2 b2 => ?_)
         have u1 : ∀ f1, f1 ≤ s1 → ∀ (m1 : List Int) (g1 : Int) (w : World), Ch.l13 K f1 c1 d1 a1 i1 t269 t274 m1 g1 = some r1 → St w0 w (Box b1 58 [.slice A_a c1.length c_a, I d1] :: Own (Bq .i64) 2 A101 c102 (fun _ => ()) m1 :: L) → G prog 165 74 [(1, .pointer (some ⟨b1, 0, none⟩)), (3, .slice A101 m1.length c102), (5, I i1), (10, I (a1.getD t269.toNat 0)), (11, I (a1.getD t274.toNat 0)), (12, I g1)] d2 w (Ch.post w0 L r1) := by
          intro f1
          induction f1 using Nat.strongRecOn with
          | _ f1 q1 =>
           intro t1 m1 g1 w H HS
           cases f1 with
           | zero => rw [Ch.l13] at H; cases H
           | succ p1 =>
            rw [Ch.l13] at H
            subst b2
            refine rN 2 Z (rG (pS 2 Z (lS Z Z underlying43 Z (GO.lss Z Z Z Z (nL ?_)))))
            rcases iE H with ⟨c293, H⟩ | ⟨c293, H⟩
            ·
             refine yB Z (tT c293) (rN 4 Z ?_)
             obtain ⟨c294, H⟩ := iN H
             refine rG (pS 2 Z (GO.ix Z Z Z underlying43 sz2 ((Aq.own (j := 1) Z) _ HS).2.2.1 c294.1 c294.2 Z (GO.Fq (T := (Bq .i64)) (n := g1.toNat) (o := 0) HS (Aq.own (j := 1) Z) Z Z (getD_some (d := 0) (ltN c294)) Z Z na2 Z (pS 2 Z (GO.max2 Z Z Z Z (GO.eql Z Z Z Z (nL ?_)))))))
             rcases iE H with ⟨c295, H⟩ | ⟨c295, H⟩
             ·
              refine yB Z (tT c295) (rG (pS 4 Z (GO.min2 Z Z Z Z (GO.ix Z Z Z underlying43 sz2 ((Aq.own (j := 1) Z) _ HS).2.2.1 c294.1 c294.2 Z (GO.M5 (T := (Bq .i64)) (j := 1) (n := g1.toNat) (o := 0) (vs := [I (if a1.getD t274.toNat 0 < a1.getD t269.toNat 0 then a1.getD t274.toNat 0 else a1.getD t269.toNat 0)]) (if a1.getD t274.toNat 0 < a1.getD t269.toNat 0 then a1.getD t274.toNat 0 else a1.getD t269.toNat 0) HS Z Bv Z Z Z Z (htN na2 Z) Z (getD_some (d := 0) (ltN c294)) Z Z fun wd296 HS => nL (G.len (t := 3) (m := (m1.set g1.toNat (if a1.getD t274.toNat 0 < a1.getD t269.toNat 0 then a1.getD t274.toNat 0 else a1.getD t269.toNat 0)).length) Z (by simp only [List.length_set] <;> rfl) (rN 3 Z (G.weak ?_ (q1 p1 (Nat.lt_succ_of_le (lR _)) (Nat.le_of_succ_le t1) _ _ _ H HS)))))))))
              exact ⟨Z, Z, Z, Z, Z, Z, tv⟩
             refine nB Z (tF c295) (rN 4 Z (G.weak ?_ (q1 p1 (Nat.lt_succ_of_le (lR _)) (Nat.le_of_succ_le t1) _ _ _ H HS)))
             exact ⟨Z, Z, Z, Z, Z, Z, tv⟩
            refine nB Z (tF c293) (rN 4 Z (G.weak ?_ (g2 p1 (by omega) (by omega) _ _ _ H HS)))
            exact ⟨Z, Z, Z, tv⟩
         refine G.weak ?_ (u1 s1 (lR _) _ _ _ H HS)
         exact ⟨Z, Z, Z, Z, Z, Z, tv⟩
        refine nB Z (tF c268) (rN 3 Z ?_)
        obtain rfl := sI H
        exact rT _ func165 Z Z ⟨_, _, Z, (HS.pk 2 [1] Z)⟩
     refine G.weak ?_ (e2 o1 (lR _) _ _ _ H HS)
     exact ⟨Z, Z, Z, tv⟩
  refine G.weak ?_ (y1 K (lR _) _ _ _ _ _ H (HS.pk 2 [1, 0] Z))
  exact ⟨Z, Z, Z, tv⟩
theorem Dc.calls {c1 : List Al} {d1 : Int} {A_a : Option Addr} {c_a : Nat} {r1 : Int} (HS : St w0 w (L)) (r_a : Aq w0 L Bb A_a c_a (fun _ => ()) c1) (H : Dc.f K c1 d1 = some r1) :
    Calls prog 129 #[.agg [.slice A_a c1.length c_a, I d1].toArray] w (Dc.post w0 L r1) := by
  unfold Dc.f at H
  refine cG func129 Z ?_
  refine sQ (rG (GO.box (cs := [.slice A_a c1.length c_a, I d1]) HS Z Z Z Z fun b1 wd2 HS => aS Z (nL (rN 3 Z ?_))))
  obtain ⟨t3, h4, H⟩ := bI H
  refine rG (GO.Bu (j := 0) ([.slice A_a c1.length c_a, I d1]) HS Z Z Z Z Np Z (fN Z func165 oZ.1 oZ.2 Z Z (Ch.calls HS (rD 1 r_a) h4) (fun _ wd7 ⟨A5, c6, h8, HS⟩ => ⟨_, h8, (aS Z (nL (rN 5 Z ?_)))⟩)))
  refine G.name (fun k1 m1 => ?_)
  have n1 : ∀ a1, a1 ≤ K → ∀ (f1 e1 : Int) (w : World), Dc.l1 K a1 t3 f1 e1 = some r1 → St w0 w (Own (Bq .i64) 2 A5 c6 (fun _ => ()) t3 :: L) → G prog 129 23 [(3, I f1), (4, .slice A5 t3.length c6), (5, I e1)] k1 w (Dc.post w0 L r1) := by
   intro a1
   induction a1 using Nat.strongRecOn with
   | _ a1 h1 =>
    intro i1 f1 e1 w H HS
    cases a1 with
    | zero => rw [Dc.l1] at H; cases H
    | succ g1 =>
     rw [Dc.l1] at H
     subst m1
     refine rN 2 Z (rG (pS 2 Z (lS Z Z underlying43 Z (GO.lss Z Z Z Z (nL ?_)))))
     rcases iE H with ⟨c17, H⟩ | ⟨c17, H⟩
     ·
      refine yB Z (tT c17) (rN 4 Z ?_)
      obtain ⟨c18, H⟩ := iN H
      refine rG (pS 2 Z (GO.ix Z Z Z underlying43 sz2 ((Aq.own (j := 0) Z) _ HS).2.2.1 c18.1 c18.2 Z (GO.Fq (T := (Bq .i64)) (n := e1.toNat) (o := 0) HS (Aq.own (j := 0) Z) Z Z (getD_some (d := 0) (ltN c18)) Z Z na2 Z (pS 2 Z (nL ?_)))))
      rcases iE H with ⟨c19, H⟩ | ⟨c19, H⟩
      ·
       refine yB Z (tT c19) (rN 4 Z (G.weak ?_ (h1 g1 (Nat.lt_succ_of_le (lR _)) (Nat.le_of_succ_le i1) _ _ _ H HS)))
       exact ⟨Z, Z, Z, tv⟩
      refine nB Z (tF c19) (rN 4 Z (G.weak ?_ (h1 g1 (Nat.lt_succ_of_le (lR _)) (Nat.le_of_succ_le i1) _ _ _ H HS)))
      exact ⟨Z, Z, Z, tv⟩
     refine nB Z (tF c17) (rN 3 Z ?_)
     obtain rfl := sI H
     exact rT _ func129 Z Z ⟨Z, (HS.pk 1 [] Z)⟩
  refine G.weak ?_ (n1 K (lR _) _ _ _ H (HS.pk 2 [0] Z))
  exact ⟨Z, Z, Z, tv⟩
theorem Ic.calls {a1 : List Al} {c1 : Int} {A_a : Option Addr} {c_a : Nat} {r1 : Bool} (HS : St w0 w (L)) (r_a : Aq w0 L Bb A_a c_a (fun _ => ()) a1) (H : Ic.f K a1 c1 = some r1) :
    Calls prog 87 #[.agg [.slice A_a a1.length c_a, I c1].toArray] w (Ic.post w0 L r1) := by
  unfold Ic.f at H
  refine cG func87 Z ?_
  refine sQ (rG (GO.box (cs := [.slice A_a a1.length c_a, I c1]) HS Z Z Z Z fun b1 wd2 HS => aS Z (nL (rN 2 Z ?_))))
  rcases iE H with ⟨c13, H⟩ | ⟨c13, H⟩
  ·
   refine rG (fL b1 0 Iu Z (lB 0 HS Z Ni Z (lS Z Z underlying56 Z (pS 2 Z (kN 7 Z (tT c13) (oF Z (oF Z (oF Z (oF Z (pS 2 Z (oF Z (oF Z (oF Z (GO.Ip Z Z Z Z Z ?_))))))))))))))
   refine nL (rN 3 Z ?_)
   obtain rfl := sI H
   exact rT _ func87 Z Z ⟨Z, (HS.pk 1 [] Z)⟩
  obtain ⟨t14, h15, H⟩ := bI H
  rcases iE H with ⟨c18, H⟩ | ⟨c18, H⟩
  ·
   obtain ⟨t19, h20, H⟩ := bI H
   refine rG (fL b1 0 Iu Z (lB 0 HS Z Ni Z (lS Z Z underlying56 Z (pS 2 Z (kN 7 Z (tF c13) (oN Z (fL b1 1 O1 Z (bK (oN Z (lB 0 HS Z na2 Z (bK (oN Z (fN Z func84 Lp.1 Lp.2 Z Z (Dx.calls HS  h15) (fun _ wd16 ⟨h17, HS⟩ => ⟨_, h17, (bK ?_)⟩))))))))))))))
   refine oN Z (GO.not Z Z Z (bK (pS 2 Z (kN 13 Z (congrArg Bool.not c18) (oN Z (GO.Bu (j := 0) ([.slice A_a a1.length c_a, I c1]) HS Z Z Z Z Np Z (bK (oN Z (fN Z func127 mO.1 mO.2 Z Z (Bf.calls HS (rD 1 r_a) h20) (fun _ wd21 ⟨h22, HS⟩ => ⟨_, h22, (bK (oN Z (GO.not Z Z Z (bK (GO.Js Z Z Z Z Z ?_)))))⟩))))))))))
   refine nL ?_
   rcases iE H with ⟨c23, H⟩ | ⟨c23, H⟩
   ·
    refine nB Z (congrArg Bool.not c23) (rN 2 Z ?_)
    obtain ⟨t24, h25, H⟩ := bI H
    obtain ⟨t31, h32, H⟩ := bI H
    refine G.Oi mixed (fun w => St w0 w (Box b1 58 [.slice A_a a1.length c_a, I c1] :: L)) [0, 2, 4, 5, 6] [3, 0, 4, 5, 6, 1, 2, 7, 8, 9, 10, 11] [] (by kernel_rfl) (by kernel_rfl) HS.drew ?_
    replace HS := HS.drew
    refine qL Z Z (fun _ _ g => fL b1 0 Iu Z g) Z (GX.ls Z Z Z HS (fun _ HS _ g => GO.Bu (j := 0) ([.slice A_a a1.length c_a, I c1]) HS Z Z Z Z Np Z g) Z (GX.ls Z Z Z HS (fun _ HS _ g => lB 0 HS Z Ni Z g) Z (GX.ls Z Z Z HS (fun _ HS _ g => lS Z Z underlying56 Z g) Z (GX.ls Z Z Z HS (fun _ HS _ g => GO.Bu (j := 0) ([.slice A_a a1.length c_a, I c1]) HS Z Z Z Z Np Z g) Z (GX.l2 Z (fN Z func128 kG.1 kG.2 Z Z (Cj.calls HS (rD 1 r_a) h25) (fun _ wd29 ⟨A26, c27, y28, h30, HS⟩ => ⟨_, h30, (GX.fin (HS.pk 2 [1] Z) (GX.ls Z Z Z (HS.pk 2 [1] Z) (fun _ HS _ g => lS Z Z underlying161 Z g) Z (GX.l2 Z (fN Z func129 nK.1 nK.2 Z Z (Dc.calls HS (rD 2 r_a) h32) (fun _ wd33 ⟨h34, HS⟩ => ⟨_, h34, (GX.fin (HS.pk 2 [1] Z) (GX.ps 4 Z (GX.nil ?_)))⟩)))))⟩)))))))
    obtain rfl := sI H
    exact rT _ func87 Z Z ⟨Z, (HS.pk 2 [] Z)⟩
   refine yB Z (congrArg Bool.not (Ca c23)) (rN 2 Z ?_)
   obtain rfl := sI H
   exact rT _ func87 Z Z ⟨Z, (HS.pk 1 [] Z)⟩
  refine rG (fL b1 0 Iu Z (lB 0 HS Z Ni Z (lS Z Z underlying56 Z (pS 2 Z (kN 7 Z (tF c13) (oN Z (fL b1 1 O1 Z (bK (oN Z (lB 0 HS Z na2 Z (bK (oN Z (fN Z func84 Lp.1 Lp.2 Z Z (Dx.calls HS  h15) (fun _ wd16 ⟨h17, HS⟩ => ⟨_, h17, (bK ?_)⟩))))))))))))))
  refine oN Z (GO.not Z Z Z (bK (pS 2 Z (kN 13 Z (congrArg Bool.not (Ca c18)) (oF Z (oF Z (oF Z (GO.Ip Z Z Z Z Z (nL (rN 3 Z ?_))))))))))
  obtain rfl := sI H
  exact rT _ func87 Z Z ⟨Z, (HS.pk 1 [] Z)⟩
theorem Jo.calls {n_ strands : Int} {r1 : Bool} (HS : St w0 w (L)) (H : Jo.f n_ strands = some r1) :
    Calls prog 130 #[I n_, I strands] w (Jo.post w0 L r1) := by
  unfold Jo.f at H
  refine cG func130 Z ?_
  refine rN 3 Z ?_
  rcases iE H with ⟨c1, H⟩ | ⟨c1, H⟩
  ·
   refine rG (pS 3 Z (kN 7 Z (nT c1) (oF Z (oF Z (oF Z (oF Z (oF Z (oF Z (pS 2 Z (nL ?_))))))))))
   obtain rfl := sI H
   exact rT _ func130 Z Z ⟨Z, HS⟩
  obtain ⟨t2, h3, H⟩ := bI H
  refine rG (pS 3 Z (kN 7 Z (nF c1) (oN Z (mV Z (bK (oN Z (mV Z (bK (oN Z (GO.sub Z Z Z Z (bK (oN Z (mV Z (bK ?_))))))))))))))
  refine oN Z (GO.sub Z Z Z Z (bK (oN Z (fN Z func84 Lp.1 Lp.2 Z Z (Dx.calls HS  h3) (fun _ wd4 ⟨h5, HS⟩ => ⟨_, h5, (bK (pS 2 Z (nL ?_)))⟩)))))
  obtain rfl := sI H
  exact rT _ func130 Z Z ⟨Z, HS⟩
theorem Dq.calls {d1 : Int} {a1 : List Int} {A_a : Option Addr} {c_a : Nat} {r1 : Bool} (HS : St w0 w (L)) (r_a : Aq w0 L (Bq .i64) A_a c_a (fun _ => ()) a1) (H : Dq.f K d1 a1 = some r1) :
    Calls prog 88 #[.agg [I d1, .slice A_a a1.length c_a].toArray] w (Dq.post w0 L r1) := by
  unfold Dq.f at H
  refine cG func88 Z ?_
  refine sQ (rG (GO.box (cs := [I d1, .slice A_a a1.length c_a]) HS Z Z Z Z fun b1 wd2 HS => aS Z (nL (rN 2 Z ?_))))
  obtain ⟨t8, h9, H⟩ := bI H
  rcases iE H with ⟨c12, H⟩ | ⟨c12, H⟩
  ·
   refine rG (fL b1 0 Nl Z (lB 0 HS Z na2 Z (fN Z func84 Lp.1 Lp.2 Z Z (Dx.calls HS  h9) (fun _ wd10 ⟨h11, HS⟩ => ⟨_, h11, (pS 2 Z (kN 8 Z (congrArg Bool.not c12) (oN Z (fL b1 1 Nc Z (bK (oN Z (lB 0 HS Z H7 Z (bK (oN Z (lS Z Z underlying43 Z (bK ?_)))))))))))⟩))))
   refine oN Z (GO.gtr Z Z Z Z (bK (GO.Js Z Z Z Z Z (nL ?_))))
   rcases iE H with ⟨c13, H⟩ | ⟨c13, H⟩
   ·
    refine yB Z (tT c13) (rN 2 Z ?_)
    obtain rfl := sI H
    exact rT _ func88 Z Z ⟨Z, (HS.pk 1 [] Z)⟩
   refine nB Z (tF c13) (rN 6 Z ?_)
   refine G.name (fun f1 i1 => ?_)
   have k1 : ∀ c1, c1 ≤ K → ∀ (e1 : Int) (w : World), Dq.l1 K c1 d1 a1 e1 = some r1 → St w0 w (Box b1 59 [I d1, .slice A_a a1.length c_a] :: L) → G prog 88 30 [(1, .pointer (some ⟨b1, 0, none⟩)), (3, I e1)] f1 w (Dq.post w0 L r1) := by
    intro c1
    induction c1 using Nat.strongRecOn with
    | _ c1 g1 =>
     intro m1 e1 w H HS
     cases c1 with
     | zero => rw [Dq.l1] at H; cases H
     | succ h1 =>
      rw [Dq.l1] at H
      subst i1
      refine rN 2 Z (rG (mV Z (fL b1 1 Nc Z (lB 0 HS Z H7 Z (lS Z Z underlying43 Z (GO.lss Z Z Z Z (nL ?_)))))))
      rcases iE H with ⟨c29, H⟩ | ⟨c29, H⟩
      ·
       refine yB Z (tT c29) (rN 4 Z ?_)
       obtain ⟨c30, H⟩ := iN H
       obtain ⟨t31, h32, H⟩ := bI H
       refine G.lex mixed [0, 2, 5, 1, 3, 4, 6, 7, 8] (by kernel_rfl) ?_
       replace HS := HS.drew
       refine qL Z Z (fun _ _ g => fL b1 1 Nc Z g) Z (GX.ps 1 Z (qL Z Z (fun _ _ g => fL b1 0 Nl Z g) Z (GX.l1 Z Z Z (fun _ g => lB 0 HS Z H7 Z g) Z (qL Z Z (fun _ _ g => GO.ix Z Z Z underlying43 sz2 ((rD 1 r_a) _ HS).2.2.1 c30.1 c30.2 Z g) Z (GX.l1 Z Z Z (fun _ g => GO.Fq (T := (Bq .i64)) (n := e1.toNat) (o := 0) HS (rD 1 r_a) Z Z (getD_some (d := 0) (ltN c30)) Z Z na2 Z g) Z (GX.l1 Z Z Z (fun _ g => lB 0 HS Z na2 Z g) Z (GX.l2 Z (fN Z func130 lV.1 lV.2 Z Z (Jo.calls HS  h32) (fun _ wd33 ⟨h34, HS⟩ => ⟨_, h34, (GX.fin tv (GX.ps 1 Z (GX.nil ?_)))⟩)))))))))
       rcases iE H with ⟨c35, H⟩ | ⟨c35, H⟩
       ·
        refine nB Z (congrArg Bool.not c35) (rN 4 Z (G.weak ?_ (g1 h1 (Nat.lt_succ_of_le (lR _)) (Nat.le_of_succ_le m1) _ _ H HS)))
        exact ⟨Z, Z, tv⟩
       refine yB Z (congrArg Bool.not (Ca c35)) (rN 2 Z ?_)
       obtain rfl := sI H
       exact rT _ func88 Z Z ⟨Z, (HS.pk 1 [] Z)⟩
      refine nB Z (tF c29) (rN 3 Z ?_)
      obtain rfl := sI H
      exact rT _ func88 Z Z ⟨Z, (HS.pk 1 [] Z)⟩
   refine G.weak ?_ (k1 K (lR _) _ _ H HS)
   exact ⟨Z, Z, tv⟩
  refine rG (fL b1 0 Nl Z (lB 0 HS Z na2 Z (fN Z func84 Lp.1 Lp.2 Z Z (Dx.calls HS  h9) (fun _ wd10 ⟨h11, HS⟩ => ⟨_, h11, (pS 2 Z (kN 8 Z (congrArg Bool.not (Ca c12)) (oF Z (oF Z (oF Z (oF Z (GO.Ip Z Z Z Z Z (nL (rN 3 Z ?_)))))))))⟩))))
  obtain rfl := sI H
  exact rT _ func88 Z Z ⟨Z, (HS.pk 1 [] Z)⟩
theorem Kh.calls {name : Int} {r1 : Bool} (HS : St w0 w (L)) (H : Kh.f name = some r1) :
    Calls prog 131 #[I name] w (Kh.post w0 L r1) := by
  unfold Kh.f at H
  refine cG func131 Z ?_
  refine rN 3 Z ?_
  obtain ⟨t1, h2, H⟩ := bI H
  refine rG (mV Z (fN Z func84 Lp.1 Lp.2 Z Z (Dx.calls HS  h2) (fun _ wd3 ⟨h4, HS⟩ => ⟨_, h4, (aS Z (nL ?_))⟩)))
  obtain rfl := sI H
  exact rT _ func131 Z Z ⟨Z, HS⟩
theorem Eo.calls {kind r1 : Int} (HS : St w0 w (L)) (H : Eo.f K kind = some r1) :
    Calls prog 166 #[I kind] w (Eo.post w0 L r1) := by
  unfold Eo.f at H
  refine cG func166 Z ?_
  refine rN 9 Z ?_
  refine G.Ps (fun c1 d1 => ?_)
  have b1 : ∀ a1, a1 ≤ K → ∀ (x2 : Bool) (w : World), Eo.j1 K a1 kind x2 = some r1 → St w0 w (L) → G prog 166 11 [(3, I kind), (4, .bool x2)] c1 w (Eo.post w0 L r1) := by
   intro a1 f1 x2 w H HS
   cases a1 with
   | zero => rw [Eo.j1] at H; cases H
   | succ e1 =>
    rw [Eo.j1] at H
    subst d1
    rcases iE H with ⟨c3, H⟩ | ⟨c3, H⟩
    ·
     refine yB Z c3 (rN 2 Z ?_)
     obtain rfl := sI H
     exact rT _ func166 Z Z ⟨Z, HS⟩
    refine nB Z (Ca c3) (rN 2 Z ?_)
    rcases iE H with ⟨c4, H⟩ | ⟨c4, H⟩
    ·
     refine yB Z (tT c4) (rN 2 Z ?_)
     obtain rfl := sI H
     exact rT _ func166 Z Z ⟨Z, HS⟩
    refine nB Z (tF c4) (rN 2 Z ?_)
    rcases iE H with ⟨c5, H⟩ | ⟨c5, H⟩
    ·
     refine yB Z (tT c5) (rN 2 Z ?_)
     obtain rfl := sI H
     exact rT _ func166 Z Z ⟨Z, HS⟩
    refine nB Z (tF c5) (rN 4 Z ?_)
    obtain rfl := sI H
    exact rT _ func166 Z Z ⟨Z, HS⟩
  rcases iE H with ⟨c6, H⟩ | ⟨c6, H⟩
  ·
   refine yB Z (tT c6) (G.skip (G.weak ?_ (b1 K (lR _) _ _ H HS)))
   exact ⟨Z, Z, tv⟩
  refine nB Z (tF c6) (rN 1 Z (G.weak ?_ (b1 K (lR _) _ _ H HS)))
  exact ⟨Z, Z, tv⟩
theorem Kz.calls {r1 : List ByteArray} (HS : St w0 w (L)) (H : Kz.f = some r1) :
    Calls prog 167 #[] w (Kz.post w0 L r1) := by
  unfold Kz.f at H
  refine cG func167 Z ?_
  refine rN 3 Z (rG (GO.F3 (el := 9) ([.string (⟨#[50, 51]⟩ : ByteArray), .string (⟨#[51, 50]⟩ : ByteArray), .string (⟨#[49, 52]⟩ : ByteArray), .string (⟨#[52, 49]⟩ : ByteArray)]) HS Z Z (fun _ => by kernel_rfl) Z fun b1 wd2 HS => ?_))
  replace HS := HS.J6 (T := Wy) (j := 0) Z Bv (fun _ => ()) ([(⟨#[50, 51]⟩ : ByteArray), (⟨#[51, 50]⟩ : ByteArray), (⟨#[49, 52]⟩ : ByteArray), (⟨#[52, 49]⟩ : ByteArray)] : List ByteArray) Z (O3 Z)
  refine GO.Nb (t := 1) (m := ([(⟨#[50, 51]⟩ : ByteArray), (⟨#[51, 50]⟩ : ByteArray), (⟨#[49, 52]⟩ : ByteArray), (⟨#[52, 49]⟩ : ByteArray)] : List ByteArray).length) (c' := ([(⟨#[50, 51]⟩ : ByteArray), (⟨#[51, 50]⟩ : ByteArray), (⟨#[49, 52]⟩ : ByteArray), (⟨#[52, 49]⟩ : ByteArray)] : List ByteArray).length) Z Z Z (aS Z (nL ?_))
  obtain rfl := sI H
  exact rT _ func167 Z Z ⟨_, _, Z, HS⟩
theorem Jl.calls {n_ : Int} {r1 : ByteArray} (HS : St w0 w (L)) (H : Jl.f n_ = some r1) :
    Calls prog 168 #[I n_] w (Jl.post w0 L r1) := by
  unfold Jl.f at H
  refine cG func168 Z ?_
  refine rN 3 Z (rG (pS 2 Z (GO.conv Z Z underlying2 underlying5 Z (GO.F3 (el := 5) ([.int .u8 (IntKind.wrap .u8 (w64 (48 + n_)))]) HS Z Z (fun _ => by kernel_rfl) Z fun b1 wd2 HS => ?_))))
  replace HS := HS.J6 (T := (Bq .u8)) (j := 0) Z Bv (fun _ => ()) ([IntKind.wrap .u8 (w64 (48 + n_))] : List Int) Z (O3 Z)
  refine GO.Nb (t := 6) (m := ([IntKind.wrap .u8 (w64 (48 + n_))] : List Int).length) (c' := ([IntKind.wrap .u8 (w64 (48 + n_))] : List Int).length) Z Z Z (GO.aZ HS (Aq.own (j := 0) Z) Z Z underlying148 underlying5 underlying9 Z (aS Z (nL ?_)))
  obtain rfl := sI H
  exact rT _ func168 Z Z ⟨Z, (HS.pk 1 [] Z)⟩
theorem Jk.calls {a1 d1 e1 : Int} {r1 : ByteArray} (HS : St w0 w (L)) (H : Jk.f K a1 d1 e1 = some r1) :
    Calls prog 132 #[.agg [I a1, I d1, I e1].toArray] w (Jk.post w0 L r1) := by
  unfold Jk.f at H
  refine cG func132 Z ?_
  refine sQ (rG (GO.box (cs := [I a1, I d1, I e1]) HS Z Z Z Z fun b1 wd2 HS => aS Z (nL (rN 2 Z ?_))))
  obtain ⟨t21, h22, H⟩ := bI H
  rcases iE H with ⟨c25, H⟩ | ⟨c25, H⟩
  ·
   refine G.Oi mixed (fun w => St w0 w (Box b1 140 [I a1, I d1, I e1] :: L)) [1, 6, 12, 14] [0, 1, 2, 3, 4, 5, 6, 7, 8, 9, 10, 11, 13, 12, 14, 15, 16, 17, 18] [] (by kernel_rfl) (by kernel_rfl) HS.drew ?_
   replace HS := HS.drew
   refine qL Z Z (fun _ _ g => fL b1 0 Nj Z g) Z (GX.ls Z Z Z HS (fun _ HS _ g => lB 0 HS Z na2 Z g) Z (GX.l2 Z (fN Z func166 Q8.1 Q8.2 Z Z (Eo.calls HS  h22) (fun _ wd23 ⟨h24, HS⟩ => ⟨_, h24, (GX.fin HS (GX.ps 1 Z (qL Z Z (fun _ _ g => mV Z (kN 7 Z (tT c25) g)) Z (qL Z Z (fun _ _ g => oF Z g) Z (GX.ls Z Z Z HS (fun _ HS _ g => oF Z g) Z (GX.l2 Z (oF Z (GX.fin HS (qL Z Z (fun _ _ g => oF Z g) Z (GX.ps 2 Z (qL Z Z (fun _ _ g => oF Z g) Z ?_)))))))))))⟩))))
   refine qL Z Z (fun _ _ g => oF Z g) Z (GX.ls Z Z Z HS (fun _ HS _ g => oF Z g) Z (GX.ls Z Z Z HS (fun _ HS _ g => oF Z g) Z (GX.l2 Z (oF Z (GX.fin HS (GX.l2 Z (oF Z (GX.fin HS (qL Z Z (fun _ _ g => oF Z g) Z (GX.ps 1 Z (GX.nil (rN 3 Z ?_))))))))))))
   obtain rfl := sI H
   exact rT _ func132 Z Z ⟨Z, (HS.pk 1 [] Z)⟩
  obtain ⟨t26, h27, H⟩ := bI H
  rcases iE H with ⟨c30, H⟩ | ⟨c30, H⟩
  ·
   obtain ⟨t31, h32, H⟩ := bI H
   obtain ⟨t35, h36, H⟩ := bI H
   refine G.Oi mixed (fun w => St w0 w (Box b1 140 [I a1, I d1, I e1] :: L)) [1, 6, 12, 14] [0, 1, 2, 3, 4, 5, 6, 7, 8, 9, 10, 11, 13, 12, 14, 15, 16, 17, 18] [] (by kernel_rfl) (by kernel_rfl) HS.drew ?_
   replace HS := HS.drew
   refine qL Z Z (fun _ _ g => fL b1 0 Nj Z g) Z (GX.ls Z Z Z HS (fun _ HS _ g => lB 0 HS Z na2 Z g) Z (GX.l2 Z (fN Z func166 Q8.1 Q8.2 Z Z (Eo.calls HS  h22) (fun _ wd23 ⟨h24, HS⟩ => ⟨_, h24, (GX.fin HS (GX.ps 1 Z (qL Z Z (fun _ _ g => mV Z (kN 7 Z (tF c25) g)) Z (qL Z Z (fun _ _ g => oN Z (fL b1 1 Nz Z (bK g))) Z (GX.ls Z Z Z HS (fun _ HS _ g => oN Z (lB 0 HS Z na2 Z (bK g))) Z (GX.l2 Z (oN Z (fN Z func123 Py.1 Py.2 Z Z (Jd.calls HS  h27) (fun _ wd28 ⟨h29, HS⟩ => ⟨_, h29, (bK (GX.fin HS (qL Z Z (fun _ _ g => oN Z (GO.not Z Z Z (bK g))) Z ?_)))⟩)))))))))⟩))))
   refine GX.ps 1 Z (qL Z Z (fun _ _ g => mV Z (kN 13 Z (congrArg Bool.not c30) g)) Z (qL Z Z (fun _ _ g => oN Z (fL b1 2 O7 Z (bK g))) Z (qL Z Z (fun _ _ g => oN Z (fL b1 0 Nj Z (bK g))) Z (GX.ls Z Z Z HS (fun _ HS _ g => oN Z (lB 0 HS Z na2 Z (bK g))) Z (GX.ls Z Z Z HS (fun _ HS _ g => oN Z (lB 0 HS Z na2 Z (bK g))) Z (GX.l2 Z (oN Z (fN Z func166 Q8.1 Q8.2 Z Z (Eo.calls HS  h32) (fun _ wd33 ⟨h34, HS⟩ => ⟨_, h34, (bK (GX.fin HS (GX.l2 Z (oN Z (fN Z func123 Py.1 Py.2 Z Z (Jd.calls HS  h36) (fun _ wd37 ⟨h38, HS⟩ => ⟨_, h38, (bK ?_)⟩))))))⟩)))))))))
   refine GX.fin HS (qL Z Z (fun _ _ g => oN Z (GO.not Z Z Z (bK g))) Z (GX.ps 1 Z (GX.nil ?_)))
   rcases iE H with ⟨c39, H⟩ | ⟨c39, H⟩
   ·
    refine nB Z (congrArg Bool.not c39) (rN 2 Z ?_)
    obtain ⟨t40, h41, H⟩ := bI H
    obtain ⟨c46, H⟩ := iN H
    obtain ⟨c47, H⟩ := iN H
    obtain ⟨t48, h49, H⟩ := bI H
    obtain ⟨c52, H⟩ := iN H
    obtain ⟨c53, H⟩ := iN H
    obtain ⟨t54, h55, H⟩ := bI H
    obtain ⟨c58, H⟩ := iN H
    refine G.Pb mixed (by decide) (fun b a w => ∃ (q1 : Value) (m1 : Value) (g1 : Value) (y1 : Value) (p1 : Value) (n1 : Value) (t1 : Value) (x1 : Value) (a2 : Value) (h1 : Value) (u1 : Value) (i1 : Value) (k1 : Value) (v1 : Value) (z1 : Value) (o1 : Value) (s1 : Value) (A42 : Option Addr) (c43 : Nat) (b2 : Cu), Sat 38 [(2, s1), (22, q1), (23, m1), (24, g1), (25, y1), (26, p1), (27, n1), (28, t1), (29, x1), (30, a2), (31, h1), (32, u1), (33, i1), (34, k1), (35, v1), (36, z1), (37, o1), (1, .pointer (some ⟨b1, 0, none⟩))] a ∧ St w0 w (Box b1 140 [I a1, I d1, I e1] :: b2 :: L) ∧ (b 16 = true → s1 = (.string ((((t40.getD ((w64 (a1 - 1)).toNat) ByteArray.empty ++ (⟨#[32]⟩ : ByteArray)) ++ t48) ++ (⟨#[32]⟩ : ByteArray)) ++ t54))) ∧ (b 0 = true → q1 = (.slice A42 t40.length c43)) ∧ (b 1 = true → m1 = (.pointer (some ⟨b1, 0, none⟩))) ∧ (b 2 = true → g1 = (I a1)) ∧ (b 3 = true → y1 = (I (w64 (a1 - 1)))) ∧ (b 4 = true → p1 = (.pointer (some (ea A42 (((w64 (a1 - 1)).toNat) * 1))))) ∧ (b 5 = true → n1 = (.string (t40.getD ((w64 (a1 - 1)).toNat) ByteArray.empty))) ∧ (b 6 = true → t1 = (.string (t40.getD ((w64 (a1 - 1)).toNat) ByteArray.empty ++ (⟨#[32]⟩ : ByteArray)))) ∧ (b 7 = true → x1 = (.pointer (some ⟨b1, 1, none⟩))) ∧ (b 8 = true → a2 = (I d1)) ∧ (b 9 = true → h1 = (.string t48)) ∧ (b 10 = true → u1 = (.string ((t40.getD ((w64 (a1 - 1)).toNat) ByteArray.empty ++ (⟨#[32]⟩ : ByteArray)) ++ t48))) ∧ (b 11 = true → i1 = (.string (((t40.getD ((w64 (a1 - 1)).toNat) ByteArray.empty ++ (⟨#[32]⟩ : ByteArray)) ++ t48) ++ (⟨#[32]⟩ : ByteArray)))) ∧ (b 12 = true → k1 = (.pointer (some ⟨b1, 2, none⟩))) ∧ (b 13 = true → v1 = (I e1)) ∧ (b 14 = true → z1 = (.string t54)) ∧ (b 15 = true → o1 = (.string ((((t40.getD ((w64 (a1 - 1)).toNat) ByteArray.empty ++ (⟨#[32]⟩ : ByteArray)) ++ t48) ++ (⟨#[32]⟩ : ByteArray)) ++ t54))) ∧ (b 0 = true → b2 = Own Wy 9 A42 c43 (fun _ => ()) t40)) ?_ ?_ ?_
    ·
     intro a hs
     obtain ⟨s1, hs⟩ := hs.ext (d := 2) Z
     obtain ⟨q1, hs⟩ := hs.ext (d := 22) Z
     obtain ⟨m1, hs⟩ := hs.ext (d := 23) Z
     obtain ⟨g1, hs⟩ := hs.ext (d := 24) Z
     obtain ⟨y1, hs⟩ := hs.ext (d := 25) Z
     obtain ⟨p1, hs⟩ := hs.ext (d := 26) Z
     obtain ⟨n1, hs⟩ := hs.ext (d := 27) Z
     obtain ⟨t1, hs⟩ := hs.ext (d := 28) Z
     obtain ⟨x1, hs⟩ := hs.ext (d := 29) Z
     obtain ⟨a2, hs⟩ := hs.ext (d := 30) Z
     obtain ⟨h1, hs⟩ := hs.ext (d := 31) Z
     obtain ⟨u1, hs⟩ := hs.ext (d := 32) Z
     obtain ⟨i1, hs⟩ := hs.ext (d := 33) Z
     obtain ⟨k1, hs⟩ := hs.ext (d := 34) Z
     obtain ⟨v1, hs⟩ := hs.ext (d := 35) Z
     obtain ⟨z1, hs⟩ := hs.ext (d := 36) Z
     obtain ⟨o1, hs⟩ := hs.ext (d := 37) Z
     exact ⟨q1, m1, g1, y1, p1, n1, t1, x1, a2, h1, u1, i1, k1, v1, z1, o1, s1, none, 0, Emp, hs.weak ⟨Z, Z, Z, Z, Z, Z, Z, Z, Z, Z, Z, Z, Z, Z, Z, Z, Z, Z, tv⟩, (HS.drew.emp.pk 2 [1, 0] Z), fun h => Bool.noConfusion h, fun h => Bool.noConfusion h, fun h => Bool.noConfusion h, fun h => Bool.noConfusion h, fun h => Bool.noConfusion h, fun h => Bool.noConfusion h, fun h => Bool.noConfusion h, fun h => Bool.noConfusion h, fun h => Bool.noConfusion h, fun h => Bool.noConfusion h, fun h => Bool.noConfusion h, fun h => Bool.noConfusion h, fun h => Bool.noConfusion h, fun h => Bool.noConfusion h, fun h => Bool.noConfusion h, fun h => Bool.noConfusion h, fun h => Bool.noConfusion h, fun h => Bool.noConfusion h⟩
    ·
     intro j hj b a w
     refine exI fun q1 => exI fun m1 => exI fun g1 => exI fun y1 => exI fun p1 => exI fun n1 => exI fun t1 => exI fun x1 => exI fun a2 => exI fun h1 => exI fun u1 => exI fun i1 => exI fun k1 => exI fun v1 => exI fun z1 => exI fun o1 => exI fun s1 => exI fun A42 => exI fun c43 => exI fun b2 => anI fun hs => anI fun HS => anI fun f16 => anI fun f0 => anI fun f1 => anI fun f2 => anI fun f3 => anI fun f4 => anI fun f5 => anI fun f6 => anI fun f7 => anI fun f8 => anI fun f9 => anI fun f10 => anI fun f11 => anI fun f12 => anI fun f13 => anI fun f14 => anI fun f15 => fun c1 hb hd hcl => ?_
     match j, hj with
     | 0, _ =>
      refine GO.at hs (fN Z func167 lH.1 lH.2 Z Z (Kz.calls HS  h41) (fun _ wd44 ⟨A42, c43, h45, HS⟩ => ⟨_, h45, (GO.fin (fun a hs => ⟨(.slice A42 t40.length c43), _, _, _, _, _, _, _, _, _, _, _, _, _, _, _, _, A42, c43, Own Wy 9 A42 c43 (fun _ => ()) t40, by exact hs.setAt 1 Z, HS.pk 3 [1, 0] Z, f16, fun _ => Z, f1, f2, f3, fun hh => (Bool.noConfusion ((hcl 4 (by decide) hh 0 (by decide)).symm.trans hb)), f5, f6, f7, f8, f9, f10, f11, f12, f13, f14, f15, fun _ => Z⟩))⟩))
     | 1, _ =>
      refine GO.at hs (fL b1 0 Nj Z (GO.fin (fun a hs => ⟨_, (.pointer (some ⟨b1, 0, none⟩)), _, _, _, _, _, _, _, _, _, _, _, _, _, _, _, A42, c43, _, by exact hs.setAt 2 Z, HS, f16, f0, fun _ => Z, f2, f3, f4, f5, f6, f7, f8, f9, f10, f11, f12, f13, f14, f15, c1⟩)))
     | 2, _ =>
      have hb1 : b 1 = true := hd 1 (by decide)
      obtain rfl := f1 hb1
      refine GO.at hs (lB 0 HS Z na2 Z (GO.fin (fun a hs => ⟨_, _, (I a1), _, _, _, _, _, _, _, _, _, _, _, _, _, _, A42, c43, _, by exact hs.setAt 3 Z, HS, f16, f0, f1, fun _ => Z, f3, f4, f5, f6, f7, f8, f9, f10, f11, f12, f13, f14, f15, c1⟩)))
     | 3, _ =>
      have hb2 : b 2 = true := hd 2 (by decide)
      obtain rfl := f2 hb2
      refine GO.at hs (GO.sub Z Z Z Z (GO.fin (fun a hs => ⟨_, _, _, (I (w64 (a1 - 1))), _, _, _, _, _, _, _, _, _, _, _, _, _, A42, c43, _, by exact hs.setAt 4 Z, HS, f16, f0, f1, f2, fun _ => Z, f4, f5, f6, f7, f8, f9, f10, f11, f12, f13, f14, f15, c1⟩)))
     | 4, _ =>
      have hb0 : b 0 = true := hd 0 (by decide)
      obtain rfl := f0 hb0
      have hb3 : b 3 = true := hd 3 (by decide)
      obtain rfl := f3 hb3
      obtain rfl := c1 hb0
      refine GO.at hs (GO.ix Z Z Z underlying196 sz9 ((Aq.own (j := 1) Z) _ HS).2.2.1 c46.1 c46.2 Z (GO.fin (fun a hs => ⟨_, _, _, _, (.pointer (some (ea A42 (((w64 (a1 - 1)).toNat) * 1)))), _, _, _, _, _, _, _, _, _, _, _, _, A42, c43, _, by exact hs.setAt 5 Z, HS, f16, f0, f1, f2, f3, fun _ => Z, f5, f6, f7, f8, f9, f10, f11, f12, f13, f14, f15, c1⟩)))
     | 5, _ =>
      have hb4 : b 4 = true := hd 4 (by decide)
      obtain rfl := f4 hb4
      have hb0 : b 0 = true := hcl 4 (by decide) (hd 4 (by decide)) 0 (by decide)
      obtain rfl := c1 hb0
      refine GO.at hs (GO.Fq (T := Wy) (n := (w64 (a1 - 1)).toNat) (o := 0) HS (Aq.own (j := 1) Z) Z Z (getD_some (d := ByteArray.empty) (ltN c46)) Z Z na9 Z (GO.fin (fun a hs => ⟨_, _, _, _, _, (.string (t40.getD ((w64 (a1 - 1)).toNat) ByteArray.empty)), _, _, _, _, _, _, _, _, _, _, _, A42, c43, _, by exact hs.setAt 6 Z, HS, f16, f0, f1, f2, f3, f4, fun _ => Z, f6, f7, f8, f9, f10, f11, f12, f13, f14, f15, c1⟩)))
     | 6, _ =>
      have hb5 : b 5 = true := hd 5 (by decide)
      obtain rfl := f5 hb5
      refine GO.at hs (GO.Xm Z Z Z c47 Z (GO.fin (fun a hs => ⟨_, _, _, _, _, _, (.string (t40.getD ((w64 (a1 - 1)).toNat) ByteArray.empty ++ (⟨#[32]⟩ : ByteArray))), _, _, _, _, _, _, _, _, _, _, A42, c43, _, by exact hs.setAt 7 Z, HS, f16, f0, f1, f2, f3, f4, f5, fun _ => Z, f7, f8, f9, f10, f11, f12, f13, f14, f15, c1⟩)))
     | 7, _ =>
      refine GO.at hs (fL b1 1 Nz Z (GO.fin (fun a hs => ⟨_, _, _, _, _, _, _, (.pointer (some ⟨b1, 1, none⟩)), _, _, _, _, _, _, _, _, _, A42, c43, _, by exact hs.setAt 8 Z, HS, f16, f0, f1, f2, f3, f4, f5, f6, fun _ => Z, f8, f9, f10, f11, f12, f13, f14, f15, c1⟩)))
     | 8, _ =>
      have hb7 : b 7 = true := hd 7 (by decide)
      obtain rfl := f7 hb7
      refine GO.at hs (lB 0 HS Z na2 Z (GO.fin (fun a hs => ⟨_, _, _, _, _, _, _, _, (I d1), _, _, _, _, _, _, _, _, A42, c43, _, by exact hs.setAt 9 Z, HS, f16, f0, f1, f2, f3, f4, f5, f6, f7, fun _ => Z, f9, f10, f11, f12, f13, f14, f15, c1⟩)))
     | 9, _ =>
      have hb8 : b 8 = true := hd 8 (by decide)
      obtain rfl := f8 hb8
      refine GO.at hs (fN Z func168 Zn.1 Zn.2 Z Z (Jl.calls HS  h49) (fun _ wd50 ⟨h51, HS⟩ => ⟨_, h51, (GO.fin (fun a hs => ⟨_, _, _, _, _, _, _, _, _, (.string t48), _, _, _, _, _, _, _, A42, c43, _, by exact hs.setAt 10 Z, HS, f16, f0, f1, f2, f3, f4, f5, f6, f7, f8, fun _ => Z, f10, f11, f12, f13, f14, f15, c1⟩))⟩))
     | 10, _ =>
      have hb6 : b 6 = true := hd 6 (by decide)
      obtain rfl := f6 hb6
      have hb9 : b 9 = true := hd 9 (by decide)
      obtain rfl := f9 hb9
      refine GO.at hs (GO.Xm Z Z Z c52 Z (GO.fin (fun a hs => ⟨_, _, _, _, _, _, _, _, _, _, (.string ((t40.getD ((w64 (a1 - 1)).toNat) ByteArray.empty ++ (⟨#[32]⟩ : ByteArray)) ++ t48)), _, _, _, _, _, _, A42, c43, _, by exact hs.setAt 11 Z, HS, f16, f0, f1, f2, f3, f4, f5, f6, f7, f8, f9, fun _ => Z, f11, f12, f13, f14, f15, c1⟩)))
     | 11, _ =>
      have hb10 : b 10 = true := hd 10 (by decide)
      obtain rfl := f10 hb10
      refine GO.at hs (GO.Xm Z Z Z c53 Z (GO.fin (fun a hs => ⟨_, _, _, _, _, _, _, _, _, _, _, (.string (((t40.getD ((w64 (a1 - 1)).toNat) ByteArray.empty ++ (⟨#[32]⟩ : ByteArray)) ++ t48) ++ (⟨#[32]⟩ : ByteArray))), _, _, _, _, _, A42, c43, _, by exact hs.setAt 12 Z, HS, f16, f0, f1, f2, f3, f4, f5, f6, f7, f8, f9, f10, fun _ => Z, f12, f13, f14, f15, c1⟩)))
     | 12, _ =>
      refine GO.at hs (fL b1 2 O7 Z (GO.fin (fun a hs => ⟨_, _, _, _, _, _, _, _, _, _, _, _, (.pointer (some ⟨b1, 2, none⟩)), _, _, _, _, A42, c43, _, by exact hs.setAt 13 Z, HS, f16, f0, f1, f2, f3, f4, f5, f6, f7, f8, f9, f10, f11, fun _ => Z, f13, f14, f15, c1⟩)))
     | 13, _ =>
      have hb12 : b 12 = true := hd 12 (by decide)
      obtain rfl := f12 hb12
      refine GO.at hs (lB 0 HS Z na2 Z (GO.fin (fun a hs => ⟨_, _, _, _, _, _, _, _, _, _, _, _, _, (I e1), _, _, _, A42, c43, _, by exact hs.setAt 14 Z, HS, f16, f0, f1, f2, f3, f4, f5, f6, f7, f8, f9, f10, f11, f12, fun _ => Z, f14, f15, c1⟩)))
     | 14, _ =>
      have hb13 : b 13 = true := hd 13 (by decide)
      obtain rfl := f13 hb13
      refine GO.at hs (fN Z func168 Zn.1 Zn.2 Z Z (Jl.calls HS  h55) (fun _ wd56 ⟨h57, HS⟩ => ⟨_, h57, (GO.fin (fun a hs => ⟨_, _, _, _, _, _, _, _, _, _, _, _, _, _, (.string t54), _, _, A42, c43, _, by exact hs.setAt 15 Z, HS, f16, f0, f1, f2, f3, f4, f5, f6, f7, f8, f9, f10, f11, f12, f13, fun _ => Z, f15, c1⟩))⟩))
     | 15, _ =>
      have hb11 : b 11 = true := hd 11 (by decide)
      obtain rfl := f11 hb11
      have hb14 : b 14 = true := hd 14 (by decide)
      obtain rfl := f14 hb14
      refine GO.at hs (GO.Xm Z Z Z c58 Z (GO.fin (fun a hs => ⟨_, _, _, _, _, _, _, _, _, _, _, _, _, _, _, (.string ((((t40.getD ((w64 (a1 - 1)).toNat) ByteArray.empty ++ (⟨#[32]⟩ : ByteArray)) ++ t48) ++ (⟨#[32]⟩ : ByteArray)) ++ t54)), _, A42, c43, _, by exact hs.setAt 16 Z, HS, f16, f0, f1, f2, f3, f4, f5, f6, f7, f8, f9, f10, f11, f12, f13, f14, fun _ => Z, c1⟩)))
     | 16, _ =>
      have hb15 : b 15 = true := hd 15 (by decide)
      obtain rfl := f15 hb15
      refine GO.at hs (aS Z (GO.fin (fun a hs => ⟨_, _, _, _, _, _, _, _, _, _, _, _, _, _, _, _, (.string ((((t40.getD ((w64 (a1 - 1)).toNat) ByteArray.empty ++ (⟨#[32]⟩ : ByteArray)) ++ t48) ++ (⟨#[32]⟩ : ByteArray)) ++ t54)), A42, c43, _, by exact hs.setAt 0 Z, HS, fun _ => Z, f0, f1, f2, f3, f4, f5, f6, f7, f8, f9, f10, f11, f12, f13, f14, f15, c1⟩)))
     | k + 17, hj => exact absurd hj (Nat.not_lt.2 (Nat.le_add_left 17 k))
    ·
     intro b a w hall
     refine exI fun q1 => exI fun m1 => exI fun g1 => exI fun y1 => exI fun p1 => exI fun n1 => exI fun t1 => exI fun x1 => exI fun a2 => exI fun h1 => exI fun u1 => exI fun i1 => exI fun k1 => exI fun v1 => exI fun z1 => exI fun o1 => exI fun s1 => exI fun A42 => exI fun c43 => exI fun b2 => anI fun hs => anI fun HS => anI fun f16 => anI fun f0 => anI fun f1 => anI fun f2 => anI fun f3 => anI fun f4 => anI fun f5 => anI fun f6 => anI fun f7 => anI fun f8 => anI fun f9 => anI fun f10 => anI fun f11 => anI fun f12 => anI fun f13 => anI fun f14 => anI fun f15 => fun c1 => ?_
     obtain rfl := f16 (hall 16 (by decide))
     obtain rfl := f0 (hall 0 (by decide))
     obtain rfl := f1 (hall 1 (by decide))
     obtain rfl := f2 (hall 2 (by decide))
     obtain rfl := f3 (hall 3 (by decide))
     obtain rfl := f4 (hall 4 (by decide))
     obtain rfl := f5 (hall 5 (by decide))
     obtain rfl := f6 (hall 6 (by decide))
     obtain rfl := f7 (hall 7 (by decide))
     obtain rfl := f8 (hall 8 (by decide))
     obtain rfl := f9 (hall 9 (by decide))
     obtain rfl := f10 (hall 10 (by decide))
     obtain rfl := f11 (hall 11 (by decide))
     obtain rfl := f12 (hall 12 (by decide))
     obtain rfl := f13 (hall 13 (by decide))
     obtain rfl := f14 (hall 14 (by decide))
     obtain rfl := f15 (hall 15 (by decide))
     obtain rfl := c1 (hall 0 (by decide))
     refine G.at hs ?_
     obtain rfl := sI H
     exact rT _ func132 Z Z ⟨Z, (HS.pk 2 [] Z)⟩
   refine yB Z (congrArg Bool.not (Ca c39)) (rN 2 Z ?_)
   obtain rfl := sI H
   exact rT _ func132 Z Z ⟨Z, (HS.pk 1 [] Z)⟩
  refine G.Oi mixed (fun w => St w0 w (Box b1 140 [I a1, I d1, I e1] :: L)) [1, 6, 12, 14] [0, 1, 2, 3, 4, 5, 6, 7, 8, 9, 10, 11, 13, 12, 14, 15, 16, 17, 18] [] (by kernel_rfl) (by kernel_rfl) HS.drew ?_
  replace HS := HS.drew
  refine qL Z Z (fun _ _ g => fL b1 0 Nj Z g) Z (GX.ls Z Z Z HS (fun _ HS _ g => lB 0 HS Z na2 Z g) Z (GX.l2 Z (fN Z func166 Q8.1 Q8.2 Z Z (Eo.calls HS  h22) (fun _ wd23 ⟨h24, HS⟩ => ⟨_, h24, (GX.fin HS (GX.ps 1 Z (qL Z Z (fun _ _ g => mV Z (kN 7 Z (tF c25) g)) Z (qL Z Z (fun _ _ g => oN Z (fL b1 1 Nz Z (bK g))) Z (GX.ls Z Z Z HS (fun _ HS _ g => oN Z (lB 0 HS Z na2 Z (bK g))) Z (GX.l2 Z (oN Z (fN Z func123 Py.1 Py.2 Z Z (Jd.calls HS  h27) (fun _ wd28 ⟨h29, HS⟩ => ⟨_, h29, (bK (GX.fin HS (qL Z Z (fun _ _ g => oN Z (GO.not Z Z Z (bK g))) Z ?_)))⟩)))))))))⟩))))
  refine GX.ps 1 Z (qL Z Z (fun _ _ g => mV Z (kN 13 Z (congrArg Bool.not (Ca c30)) g)) Z (qL Z Z (fun _ _ g => oF Z g) Z (qL Z Z (fun _ _ g => oF Z g) Z (GX.ls Z Z Z HS (fun _ HS _ g => oF Z g) Z (GX.ls Z Z Z HS (fun _ HS _ g => oF Z g) Z (GX.l2 Z (oF Z (GX.fin HS (GX.l2 Z (oF Z (GX.fin HS (qL Z Z (fun _ _ g => oF Z g) Z (GX.ps 1 Z (GX.nil ?_))))))))))))))
  refine rN 3 Z ?_
  obtain rfl := sI H
  exact rT _ func132 Z Z ⟨Z, (HS.pk 1 [] Z)⟩
theorem Bn.calls {i1 e1 : Int} {a1 : List Ci} {d1 c1 : List Int} {A_a : Option Addr} {c_a : Nat} {A_b : Option Addr} {c_b : Nat} {A_c : Option Addr} {c_c : Nat} {r1 : Bool} (HS : St w0 w (L)) (r_a : Aq w0 L Cq A_a c_a (fun _ => ()) a1) (r_b : Aq w0 L (Bq .i64) A_b c_b (fun _ => ()) d1) (r_c : Aq w0 L (Bq .i64) A_c c_c (fun _ => ()) c1) (H : Bn.f K i1 e1 a1 d1 c1 = some r1) :
    Calls prog 89 #[.agg [I i1, I e1, .slice A_a a1.length c_a, .slice A_b d1.length c_b, .slice A_c c1.length c_c].toArray] w (Bn.post w0 L r1) := by
  unfold Bn.f at H
  refine cG func89 Z ?_
  refine sQ (rG (GO.box (cs := [I i1, I e1, .slice A_a a1.length c_a, .slice A_b d1.length c_b, .slice A_c c1.length c_c]) HS Z Z Z Z fun b1 wd2 HS => aS Z (nL (rN 2 Z ?_))))
  obtain ⟨t15, h16, H⟩ := bI H
  rcases iE H with ⟨c19, H⟩ | ⟨c19, H⟩
  ·
   obtain ⟨t20, h21, H⟩ := bI H
   rcases iE H with ⟨c24, H⟩ | ⟨c24, H⟩
   ·
    rcases iE H with ⟨c25, H⟩ | ⟨c25, H⟩
    ·
     refine rG (fL b1 0 Mw Z (lB 0 HS Z na2 Z (fN Z func131 Pz.1 Pz.2 Z Z (Kh.calls HS  h16) (fun _ wd17 ⟨h18, HS⟩ => ⟨_, h18, (pS 2 Z (kN 9 Z (congrArg Bool.not c19) (oN Z (fL b1 1 M0 Z (bK (oN Z (lB 0 HS Z na2 Z (bK (oN Z (fN Z func84 Lp.1 Lp.2 Z Z (Dx.calls HS  h21) (fun _ wd22 ⟨h23, HS⟩ => ⟨_, h23, (bK ?_)⟩)))))))))))⟩))))
     refine oN Z (GO.not Z Z Z (bK (pS 2 Z (kN 15 Z (congrArg Bool.not c24) (oN Z (fL b1 2 Ir Z (bK (oN Z (lB 0 HS Z Nh Z (bK (oN Z (lS Z Z underlying60 Z (bK (oN Z ?_))))))))))))))
     refine GO.gtr Z Z Z Z (bK (pS 2 Z (kN 21 Z (tT c25) (oF Z (oF Z (oF Z (oF Z (oF Z (oF Z (oF Z (pS 2 Z (oF Z (oF Z (oF Z ?_))))))))))))))
     refine oF Z (GO.Ip Z Z Z Z Z (nL (rN 3 Z ?_)))
     obtain rfl := sI H
     exact rT _ func89 Z Z ⟨Z, (HS.pk 1 [] Z)⟩
    rcases iE H with ⟨c26, H⟩ | ⟨c26, H⟩
    ·
     refine rG (fL b1 0 Mw Z (lB 0 HS Z na2 Z (fN Z func131 Pz.1 Pz.2 Z Z (Kh.calls HS  h16) (fun _ wd17 ⟨h18, HS⟩ => ⟨_, h18, (pS 2 Z (kN 9 Z (congrArg Bool.not c19) (oN Z (fL b1 1 M0 Z (bK (oN Z (lB 0 HS Z na2 Z (bK (oN Z (fN Z func84 Lp.1 Lp.2 Z Z (Dx.calls HS  h21) (fun _ wd22 ⟨h23, HS⟩ => ⟨_, h23, (bK ?_)⟩)))))))))))⟩))))
     refine oN Z (GO.not Z Z Z (bK (pS 2 Z (kN 15 Z (congrArg Bool.not c24) (oN Z (fL b1 2 Ir Z (bK (oN Z (lB 0 HS Z Nh Z (bK (oN Z (lS Z Z underlying60 Z (bK (oN Z ?_))))))))))))))
     refine GO.gtr Z Z Z Z (bK (pS 2 Z (kN 21 Z (tF c25) (oN Z (fL b1 3 Je Z (bK (oN Z (lB 0 HS Z H7 Z (bK (oN Z (lS Z Z underlying43 Z (bK (oN Z (fL b1 4 Lm Z ?_))))))))))))))
     refine bK (oN Z (lB 0 HS Z H7 Z (bK (oN Z (lS Z Z underlying43 Z (bK (oN Z (GO.neq Z Z Z Z (bK (pS 2 Z (kN 30 Z (nT c26) (oN Z (fL b1 3 Je Z (bK ?_))))))))))))))
     refine oN Z (lB 0 HS Z H7 Z (bK (oN Z (lS Z Z underlying43 Z (bK (oN Z (GO.gtr Z Z Z Z (bK (GO.Js Z Z Z Z Z (nL ?_))))))))))
     rcases iE H with ⟨c27, H⟩ | ⟨c27, H⟩
     ·
      refine yB Z (tT c27) (rN 2 Z ?_)
      obtain rfl := sI H
      exact rT _ func89 Z Z ⟨Z, (HS.pk 1 [] Z)⟩
     refine nB Z (tF c27) (rN 6 Z ?_)
     refine G.name (fun s1 o1 => ?_)
     have p1 : ∀ h1, h1 ≤ K → ∀ (k1 : Int) (w : World), Bn.l1 K h1 e1 a1 d1 c1 k1 = some r1 → St w0 w (Box b1 62 [I i1, I e1, .slice A_a a1.length c_a, .slice A_b d1.length c_b, .slice A_c c1.length c_c] :: L) → G prog 89 86 [(1, .pointer (some ⟨b1, 0, none⟩)), (3, I k1)] s1 w (Bn.post w0 L r1) := by
      intro h1
      induction h1 using Nat.strongRecOn with
      | _ h1 z1 =>
       intro u1 k1 w H HS
       cases h1 with
       | zero => rw [Bn.l1] at H; cases H
       | succ m1 =>
        rw [Bn.l1] at H
        subst o1
        refine rN 2 Z (rG (mV Z (fL b1 2 Ir Z (lB 0 HS Z Nh Z (lS Z Z underlying60 Z (GO.lss Z Z Z Z (nL ?_)))))))
        rcases iE H with ⟨c133, H⟩ | ⟨c133, H⟩
        ·
         refine yB Z (tT c133) (rN 4 Z ?_)
         obtain ⟨c134, H⟩ := iN H
         obtain ⟨e135, h136, H⟩ := Cn H
         obtain ⟨t137, h138, H⟩ := bI H
         refine rG (fL b1 2 Ir Z (lB 0 HS Z Nh Z (mV Z (GO.ix Z Z Z underlying60 Q0 ((rD 1 r_a) _ HS).2.2.1 c134.1 c134.2 Z (GO.Ja (T := Cq) (n := k1.toNat) HS (rD 1 r_a) Z Z (getD_eq (ltN c134) h136) Ta Z (fN Z func132 jK.1 jK.2 Z Z (Jk.calls HS  h138) (fun _ wd139 ⟨h140, HS⟩ => ⟨_, h140, (GO.vP Z Z Z Z (nL ?_))⟩)))))))
         rcases iE H with ⟨c141, H⟩ | ⟨c141, H⟩
         ·
          refine yB Z c141 (rN 2 Z ?_)
          obtain rfl := sI H
          exact rT _ func89 Z Z ⟨Z, (HS.pk 1 [] Z)⟩
         refine nB Z (Ca c141) (rN 4 Z (G.weak ?_ (z1 m1 (Nat.lt_succ_of_le (lR _)) (Nat.le_of_succ_le u1) _ _ H HS)))
         exact ⟨Z, Z, tv⟩
        refine nB Z (tF c133) (rN 6 Z ?_)
        refine G.name (fun t1 q1 => ?_)
        have v1 : ∀ g1, g1 ≤ m1 → ∀ (f1 : Int) (w : World), Bn.l4 K g1 e1 a1 d1 c1 f1 = some r1 → St w0 w (Box b1 62 [I i1, I e1, .slice A_a a1.length c_a, .slice A_b d1.length c_b, .slice A_c c1.length c_c] :: L) → G prog 89 86 [(1, .pointer (some ⟨b1, 0, none⟩)), (4, I f1)] t1 w (Bn.post w0 L r1) := by
         intro g1
         induction g1 using Nat.strongRecOn with
         | _ g1 n1 =>
          intro x1 f1 w H HS
          cases g1 with
          | zero => rw [Bn.l4] at H; cases H
          | succ y1 =>
           rw [Bn.l4] at H
           subst q1
           refine rN 2 Z (rG (mV Z (fL b1 3 Je Z (lB 0 HS Z H7 Z (lS Z Z underlying43 Z (GO.lss Z Z Z Z (nL ?_)))))))
           rcases iE H with ⟨c171, H⟩ | ⟨c171, H⟩
           ·
            refine yB Z (tT c171) (rN 4 Z ?_)
            obtain ⟨c172, H⟩ := iN H
            obtain ⟨t173, h174, H⟩ := bI H
            rcases iE H with ⟨c177, H⟩ | ⟨c177, H⟩
            ·
             obtain ⟨c178, H⟩ := iN H
             obtain ⟨t179, h180, H⟩ := bI H
             refine rG (fL b1 3 Je Z (lB 0 HS Z H7 Z (mV Z (GO.ix Z Z Z underlying43 sz2 ((rD 1 r_b) _ HS).2.2.1 c172.1 c172.2 Z (GO.Fq (T := (Bq .i64)) (n := f1.toNat) (o := 0) HS (rD 1 r_b) Z Z (getD_some (d := 0) (ltN c172)) Z Z na2 Z (fN Z func84 Lp.1 Lp.2 Z Z (Dx.calls HS  h174) (fun _ wd175 ⟨h176, HS⟩ => ⟨_, h176, (pS 2 Z (kN 64 Z (congrArg Bool.not c177) (oN Z (fL b1 4 Lm Z (bK (oN Z (lB 0 HS Z H7 Z (bK ?_))))))))⟩)))))))
             refine oN Z (mV Z (bK (oN Z (GO.ix Z Z Z underlying43 sz2 ((rD 1 r_c) _ HS).2.2.1 c178.1 c178.2 Z (bK (oN Z (GO.Fq (T := (Bq .i64)) (n := f1.toNat) (o := 0) HS (rD 1 r_c) Z Z (getD_some (d := 0) (ltN c178)) Z Z na2 Z (bK (oN Z (fN Z func124 Z7.1 Z7.2 Z Z (Hw.calls HS  h180) (fun _ wd181 ⟨h182, HS⟩ => ⟨_, h182, (bK (oN Z (GO.not Z Z Z (bK ?_))))⟩)))))))))))
             refine GO.Js Z Z Z Z Z (nL ?_)
             rcases iE H with ⟨c183, H⟩ | ⟨c183, H⟩
             ·
              refine nB Z (congrArg Bool.not c183) (rN 4 Z (G.weak ?_ (n1 y1 (Nat.lt_succ_of_le (lR _)) (Nat.le_of_succ_le x1) _ _ H HS)))
              exact ⟨Z, Z, tv⟩
             refine yB Z (congrArg Bool.not (Ca c183)) (rN 2 Z ?_)
             obtain rfl := sI H
             exact rT _ func89 Z Z ⟨Z, (HS.pk 1 [] Z)⟩
            refine rG (fL b1 3 Je Z (lB 0 HS Z H7 Z (mV Z (GO.ix Z Z Z underlying43 sz2 ((rD 1 r_b) _ HS).2.2.1 c172.1 c172.2 Z (GO.Fq (T := (Bq .i64)) (n := f1.toNat) (o := 0) HS (rD 1 r_b) Z Z (getD_some (d := 0) (ltN c172)) Z Z na2 Z (fN Z func84 Lp.1 Lp.2 Z Z (Dx.calls HS  h174) (fun _ wd175 ⟨h176, HS⟩ => ⟨_, h176, (pS 2 Z (kN 64 Z (congrArg Bool.not (Ca c177)) (oF Z (oF Z (oF Z (oF Z (oF Z (oF Z ?_))))))))⟩)))))))
            refine oF Z (GO.Ip Z Z Z Z Z (nL (rN 3 Z ?_)))
            obtain rfl := sI H
            exact rT _ func89 Z Z ⟨Z, (HS.pk 1 [] Z)⟩
           refine nB Z (tF c171) (rN 2 Z ?_)
           rcases iE H with ⟨c184, H⟩ | ⟨c184, H⟩
           ·
            refine rG (fL b1 1 M0 Z (lB 0 HS Z na2 Z (pS 2 Z (kN 76 Z (tT c184) (oF Z (oF Z (oF Z (oF Z (oF Z (oF Z (oF Z (oF Z (pS 2 Z (nL ?_))))))))))))))
            obtain rfl := sI H
            exact rT _ func89 Z Z ⟨Z, (HS.pk 1 [] Z)⟩
           refine rG (fL b1 1 M0 Z (lB 0 HS Z na2 Z (pS 2 Z (kN 76 Z (tF c184) (oN Z (fL b1 2 Ir Z (bK (oN Z (lB 0 HS Z Nh Z (bK (oN Z (lS Z Z underlying60 Z (bK (oN Z ?_))))))))))))))
           refine fL b1 3 Je Z (bK (oN Z (lB 0 HS Z H7 Z (bK (oN Z (lS Z Z underlying43 Z (bK (oN Z (GO.add Z Z Z Z (bK (oN Z (GO.eql Z Z Z Z (bK (pS 2 Z ?_))))))))))))))
           refine nL ?_
           obtain rfl := sI H
           exact rT _ func89 Z Z ⟨Z, (HS.pk 1 [] Z)⟩
        refine G.weak ?_ (v1 m1 (lR _) _ _ H HS)
        exact ⟨Z, Z, tv⟩
     refine G.weak ?_ (p1 K (lR _) _ _ H HS)
     exact ⟨Z, Z, tv⟩
    refine rG (fL b1 0 Mw Z (lB 0 HS Z na2 Z (fN Z func131 Pz.1 Pz.2 Z Z (Kh.calls HS  h16) (fun _ wd17 ⟨h18, HS⟩ => ⟨_, h18, (pS 2 Z (kN 9 Z (congrArg Bool.not c19) (oN Z (fL b1 1 M0 Z (bK (oN Z (lB 0 HS Z na2 Z (bK (oN Z (fN Z func84 Lp.1 Lp.2 Z Z (Dx.calls HS  h21) (fun _ wd22 ⟨h23, HS⟩ => ⟨_, h23, (bK ?_)⟩)))))))))))⟩))))
    refine oN Z (GO.not Z Z Z (bK (pS 2 Z (kN 15 Z (congrArg Bool.not c24) (oN Z (fL b1 2 Ir Z (bK (oN Z (lB 0 HS Z Nh Z (bK (oN Z (lS Z Z underlying60 Z (bK (oN Z ?_))))))))))))))
    refine GO.gtr Z Z Z Z (bK (pS 2 Z (kN 21 Z (tF c25) (oN Z (fL b1 3 Je Z (bK (oN Z (lB 0 HS Z H7 Z (bK (oN Z (lS Z Z underlying43 Z (bK (oN Z (fL b1 4 Lm Z ?_))))))))))))))
    refine bK (oN Z (lB 0 HS Z H7 Z (bK (oN Z (lS Z Z underlying43 Z (bK (oN Z (GO.neq Z Z Z Z (bK (pS 2 Z (kN 30 Z (nF c26) (oF Z (oF Z (oF Z ?_))))))))))))))
    refine oF Z (GO.Ip Z Z Z Z Z (nL (rN 3 Z ?_)))
    obtain rfl := sI H
    exact rT _ func89 Z Z ⟨Z, (HS.pk 1 [] Z)⟩
   refine rG (fL b1 0 Mw Z (lB 0 HS Z na2 Z (fN Z func131 Pz.1 Pz.2 Z Z (Kh.calls HS  h16) (fun _ wd17 ⟨h18, HS⟩ => ⟨_, h18, (pS 2 Z (kN 9 Z (congrArg Bool.not c19) (oN Z (fL b1 1 M0 Z (bK (oN Z (lB 0 HS Z na2 Z (bK (oN Z (fN Z func84 Lp.1 Lp.2 Z Z (Dx.calls HS  h21) (fun _ wd22 ⟨h23, HS⟩ => ⟨_, h23, (bK ?_)⟩)))))))))))⟩))))
   refine oN Z (GO.not Z Z Z (bK (pS 2 Z (kN 15 Z (congrArg Bool.not (Ca c24)) (oF Z (oF Z (oF Z (oF Z (pS 2 Z (oF Z (oF Z (oF Z (oF Z (oF Z ?_))))))))))))))
   refine oF Z (oF Z (pS 2 Z (oF Z (oF Z (oF Z (oF Z (GO.Ip Z Z Z Z Z (nL (rN 3 Z ?_)))))))))
   obtain rfl := sI H
   exact rT _ func89 Z Z ⟨Z, (HS.pk 1 [] Z)⟩
  refine rG (fL b1 0 Mw Z (lB 0 HS Z na2 Z (fN Z func131 Pz.1 Pz.2 Z Z (Kh.calls HS  h16) (fun _ wd17 ⟨h18, HS⟩ => ⟨_, h18, (pS 2 Z (kN 9 Z (congrArg Bool.not (Ca c19)) (oF Z (oF Z (oF Z (oF Z (pS 2 Z (oF Z (oF Z (oF Z (oF Z ?_)))))))))))⟩))))
  refine pS 2 Z (oF Z (oF Z (oF Z (oF Z (oF Z (oF Z (oF Z (pS 2 Z (oF Z (oF Z (oF Z (oF Z (GO.Ip Z Z Z Z Z (nL ?_))))))))))))))
  refine rN 3 Z ?_
  obtain rfl := sI H
  exact rT _ func89 Z Z ⟨Z, (HS.pk 1 [] Z)⟩
theorem Cr.calls {p1 : ByteArray} {n1 : Int} {f1 : List (List Bt)} {a1 : List Al} {h1 i1 : Int} {c1 : List Int} {m1 k1 : Int} {g1 : List Ci} {d1 e1 : List Int} {A_a : Option Addr} {c_a : Nat} {y_a : Nat → (Ty.slice 157 Bc).Lay} {A_b : Option Addr} {c_b : Nat} {A_c : Option Addr} {c_c : Nat} {A_d : Option Addr} {c_d : Nat} {A_e : Option Addr} {c_e : Nat} {A_f : Option Addr} {c_f : Nat} {r1 : Bool} (HS : St w0 w (L)) (r_a : Aq w0 L (Ty.slice 157 Bc) A_a c_a y_a f1) (r_b : Aq w0 L Bb A_b c_b (fun _ => ()) a1) (r_c : Aq w0 L (Bq .i64) A_c c_c (fun _ => ()) c1) (r_d : Aq w0 L Cq A_d c_d (fun _ => ()) g1) (r_e : Aq w0 L (Bq .i64) A_e c_e (fun _ => ()) d1) (r_f : Aq w0 L (Bq .i64) A_f c_f (fun _ => ()) e1) (H : Cr.f K p1 n1 f1 a1 h1 i1 c1 m1 k1 g1 d1 e1 = some r1) :
    Calls prog 42 #[.agg [.string p1, I n1, .slice A_a f1.length c_a, .slice A_b a1.length c_b, I h1, I i1, .slice A_c c1.length c_c, I m1, I k1, .slice A_d g1.length c_d, .slice A_e d1.length c_e, .slice A_f e1.length c_f].toArray] w (Cr.post w0 L r1) := by
  unfold Cr.f at H
  refine cG func42 Z ?_
  refine sQ (rG (GO.box (cs := [.string p1, I n1, .slice A_a f1.length c_a, .slice A_b a1.length c_b, I h1, I i1, .slice A_c c1.length c_c, I m1, I k1, .slice A_d g1.length c_d, .slice A_e d1.length c_e, .slice A_f e1.length c_f]) HS Z Z Z Z fun b1 wd2 HS => aS Z (nL (rN 2 Z ?_))))
  obtain ⟨t12, h13, H⟩ := bI H
  rcases iE H with ⟨c16, H⟩ | ⟨c16, H⟩
  ·
   obtain ⟨t17, h18, H⟩ := bI H
   refine rG (fL b1 0 K7 Z (lB 0 HS Z na9 Z (fN Z func83 fE.1 fE.2 Z Z (Fx.calls HS  h13) (fun _ wd14 ⟨h15, HS⟩ => ⟨_, h15, (pS 2 Z (kN 8 Z (congrArg Bool.not c16) (oN Z (fL b1 1 Mk Z (bK (oN Z (lB 0 HS Z na2 Z (bK (oN Z (fN Z func84 Lp.1 Lp.2 Z Z (Dx.calls HS  h18) (fun _ wd19 ⟨h20, HS⟩ => ⟨_, h20, (bK ?_)⟩)))))))))))⟩))))
   refine oN Z (GO.not Z Z Z (bK (GO.Js Z Z Z Z Z (nL ?_))))
   rcases iE H with ⟨c21, H⟩ | ⟨c21, H⟩
   ·
    refine nB Z (congrArg Bool.not c21) (rN 6 Z ?_)
    refine G.name (fun y1 v1 => ?_)
    have x1 : ∀ o1, o1 ≤ K → ∀ (q1 : Int) (w : World), Cr.l1 K o1 p1 n1 f1 a1 h1 i1 c1 m1 k1 g1 d1 e1 q1 = some r1 → St w0 w (Box b1 64 [.string p1, I n1, .slice A_a f1.length c_a, .slice A_b a1.length c_b, I h1, I i1, .slice A_c c1.length c_c, I m1, I k1, .slice A_d g1.length c_d, .slice A_e d1.length c_e, .slice A_f e1.length c_f] :: L) → G prog 42 48 [(1, .pointer (some ⟨b1, 0, none⟩)), (3, I q1)] y1 w (Cr.post w0 L r1) := by
     intro o1
     induction o1 using Nat.strongRecOn with
     | _ o1 u1 =>
      intro t1 q1 w H HS
      cases o1 with
      | zero => rw [Cr.l1] at H; cases H
      | succ s1 =>
       rw [Cr.l1] at H
       subst v1
       refine rN 3 Z ?_
       rcases iE H with ⟨c55, H⟩ | ⟨c55, H⟩
       ·
        refine yB Z (tT c55) (rN 4 Z ?_)
        rcases iE H with ⟨c56, H⟩ | ⟨c56, H⟩
        ·
         refine rG (mV Z (fL b1 1 Mk Z (lB 0 HS Z na2 Z (pS 2 Z (kN 22 Z (nT c56) (oF Z (oF Z (oF Z (oF Z (GO.Js Z Z Z Z Z (nL (rN 5 Z (G.weak ?_ (u1 s1 (Nat.lt_succ_of_le (lR _)) (Nat.le_of_succ_le t1) _ _ H HS))))))))))))))
         exact ⟨Z, Z, tv⟩
        obtain ⟨t57, h58, H⟩ := bI H
        refine rG (mV Z (fL b1 1 Mk Z (lB 0 HS Z na2 Z (pS 2 Z (kN 22 Z (nF c56) (oN Z (GO.Bu (j := 0) ([.string p1, I n1, .slice A_a f1.length c_a, .slice A_b a1.length c_b, I h1, I i1, .slice A_c c1.length c_c, I m1, I k1, .slice A_d g1.length c_d, .slice A_e d1.length c_e, .slice A_f e1.length c_f]) HS Z Z Z Z Mq Z (bK (oN Z (mV Z (bK (oN Z (fN Z func85 sN.1 sN.2 Z Z (Kr.calls HS (rD 1 r_a) (rD 1 r_b) (rD 1 r_c) (rD 1 r_d) (rD 1 r_e) (rD 1 r_f) h58) (fun _ wd59 ⟨h60, HS⟩ => ⟨_, h60, (bK ?_)⟩))))))))))))))
        refine oN Z (GO.not Z Z Z (bK (GO.Ip Z Z Z Z Z (nL ?_))))
        rcases iE H with ⟨c61, H⟩ | ⟨c61, H⟩
        ·
         refine nB Z (congrArg Bool.not c61) (rN 4 Z (G.weak ?_ (u1 s1 (Nat.lt_succ_of_le (lR _)) (Nat.le_of_succ_le t1) _ _ H HS)))
         exact ⟨Z, Z, tv⟩
        refine yB Z (congrArg Bool.not (Ca c61)) (rN 2 Z ?_)
        obtain rfl := sI H
        exact rT _ func42 Z Z ⟨Z, (HS.pk 1 [] Z)⟩
       refine nB Z (tF c55) (rN 3 Z (rG (fL b1 1 Mk Z (lB 0 HS Z na2 Z (nL (rN 3 Z ?_))))))
       rcases iE H with ⟨c62, H⟩ | ⟨c62, H⟩
       ·
        refine yB Z (tT c62) (sQ ?_)
        obtain ⟨t63, h64, H⟩ := bI H
        refine rG (fL b1 2 Nk Z (GO.Bu (j := 0) ([.slice A_a f1.length c_a]) HS Z Z Z Z Oc Z (fN Z func86 tN.1 tN.2 Z Z (Ar.calls HS (rD 1 r_a) h64) (fun _ wd65 ⟨h66, HS⟩ => ⟨_, h66, (aS Z (nL ?_))⟩))))
        obtain rfl := sI H
        exact rT _ func42 Z Z ⟨Z, (HS.pk 1 [] Z)⟩
       refine nB Z (tF c62) (rN 2 Z ?_)
       rcases iE H with ⟨c67, H⟩ | ⟨c67, H⟩
       ·
        refine yB Z (tT c67) (sQ ?_)
        obtain ⟨t68, h69, H⟩ := bI H
        refine rG (fL b1 3 L8 Z (GO.Bu (j := 0) ([.slice A_b a1.length c_b, I h1]) HS Z Z Z Z Np Z (fN Z func87 tK.1 tK.2 Z Z (Ic.calls HS (rD 1 r_b) h69) (fun _ wd70 ⟨h71, HS⟩ => ⟨_, h71, (aS Z (nL ?_))⟩))))
        obtain rfl := sI H
        exact rT _ func42 Z Z ⟨Z, (HS.pk 1 [] Z)⟩
       refine nB Z (tF c67) (rN 2 Z ?_)
       rcases iE H with ⟨c72, H⟩ | ⟨c72, H⟩
       ·
        refine yB Z (tT c72) (sQ ?_)
        obtain ⟨t73, h74, H⟩ := bI H
        refine rG (fL b1 5 Ml Z (GO.Bu (j := 0) ([I i1, .slice A_c c1.length c_c]) HS Z Z Z Z Rz Z (fN Z func88 vF.1 vF.2 Z Z (Dq.calls HS (rD 1 r_c) h74) (fun _ wd75 ⟨h76, HS⟩ => ⟨_, h76, (aS Z (nL ?_))⟩))))
        obtain rfl := sI H
        exact rT _ func42 Z Z ⟨Z, (HS.pk 1 [] Z)⟩
       refine nB Z (tF c72) (rN 3 Z ?_)
       obtain ⟨t77, h78, H⟩ := bI H
       refine rG (fL b1 7 K4 Z (GO.Bu (j := 0) ([I m1, I k1, .slice A_d g1.length c_d, .slice A_e d1.length c_e, .slice A_f e1.length c_f]) HS Z Z Z Z Qn Z (fN Z func89 tV.1 tV.2 Z Z (Bn.calls HS (rD 1 r_d) (rD 1 r_e) (rD 1 r_f) h78) (fun _ wd79 ⟨h80, HS⟩ => ⟨_, h80, (aS Z (nL ?_))⟩))))
       obtain rfl := sI H
       exact rT _ func42 Z Z ⟨Z, (HS.pk 1 [] Z)⟩
    refine G.weak ?_ (x1 K (lR _) _ _ H HS)
    exact ⟨Z, Z, tv⟩
   refine yB Z (congrArg Bool.not (Ca c21)) (rN 2 Z ?_)
   obtain rfl := sI H
   exact rT _ func42 Z Z ⟨Z, (HS.pk 1 [] Z)⟩
  refine rG (fL b1 0 K7 Z (lB 0 HS Z na9 Z (fN Z func83 fE.1 fE.2 Z Z (Fx.calls HS  h13) (fun _ wd14 ⟨h15, HS⟩ => ⟨_, h15, (pS 2 Z (kN 8 Z (congrArg Bool.not (Ca c16)) (oF Z (oF Z (oF Z (oF Z (GO.Ip Z Z Z Z Z (nL (rN 3 Z ?_)))))))))⟩))))
  obtain rfl := sI H
  exact rT _ func42 Z Z ⟨Z, (HS.pk 1 [] Z)⟩
theorem Ec.calls {list : List Am} {A_a : Option Addr} {c_a : Nat} {y_a : Nat → Aa.Lay} {r1 : Bool} (HS : St w0 w (L)) (r_a : Aq w0 L Aa A_a c_a y_a list) (H : Ec.f K list = some r1) :
    Calls prog 59 #[.slice A_a list.length c_a] w (Ec.post w0 L r1) := by
  unfold Ec.f at H
  refine cG func59 Z ?_
  refine rN 7 Z ?_
  refine G.name (fun f1 g1 => ?_)
  have h1 : ∀ b1, b1 ≤ K → ∀ (a1 : Int) (w : World), Ec.l1 K b1 list a1 = some r1 → St w0 w (L) → G prog 59 37 [(0, .slice A_a list.length c_a), (3, I a1)] f1 w (Ec.post w0 L r1) := by
   intro b1
   induction b1 using Nat.strongRecOn with
   | _ b1 d1 =>
    intro e1 a1 w H HS
    cases b1 with
    | zero => rw [Ec.l1] at H; cases H
    | succ c1 =>
     rw [Ec.l1] at H
     subst g1
     refine rN 2 Z (rG (pS 2 Z (lS Z Z underlying27 Z (GO.lss Z Z Z Z (nL ?_)))))
     rcases iE H with ⟨c25, H⟩ | ⟨c25, H⟩
     ·
      refine yB Z (tT c25) (rN 4 Z ?_)
      obtain ⟨c26, H⟩ := iN H
      obtain ⟨e27, h28, H⟩ := Cn H
      obtain ⟨t29, h30, H⟩ := bI H
      rcases iE H with ⟨c33, H⟩ | ⟨c33, H⟩
      ·
       rcases iE H with ⟨c34, H⟩ | ⟨c34, H⟩
       ·
        obtain ⟨c35, H⟩ := iN H
        obtain ⟨e36, h37, H⟩ := Cn H
        refine G.lex mixed [0, 1, 2, 3, 4, 5, 6, 7, 8, 9, 10, 11, 12, 13, 14, 16, 17, 18, 19, 15, 20, 21, 22, 23] (by kernel_rfl) ?_
        replace HS := HS.drew
        refine GX.ps 2 Z (qL Z Z (fun _ _ g => GO.ix Z Z Z underlying27 Jt (r_a _ HS).2.2.1 c26.1 c26.2 Z g) Z (GX.l1 Z Z Z (fun _ g => GO.Ja (T := Aa) (n := a1.toNat) HS r_a Z Z (getD_eq (ltN c26) h28) Mq Z g) Z (GX.l2 Z (fN Z func42 Uo.1 Uo.2 Z Z (Cr.calls HS (Aq.fld r_a (getD_eq (ltN c26) h28) (fun _ h => h.2.2.1)) (Aq.fld r_a (getD_eq (ltN c26) h28) (fun _ h => h.2.2.2.1)) (Aq.fld r_a (getD_eq (ltN c26) h28) (fun _ h => h.2.2.2.2.2.2.1)) (Aq.fld r_a (getD_eq (ltN c26) h28) (fun _ h => h.2.2.2.2.2.2.2.2.2.1)) (Aq.fld r_a (getD_eq (ltN c26) h28) (fun _ h => h.2.2.2.2.2.2.2.2.2.2.1)) (Aq.fld r_a (getD_eq (ltN c26) h28) (fun _ h => h.2.2.2.2.2.2.2.2.2.2.2)) h30) (fun _ wd31 ⟨h32, HS⟩ => ⟨_, h32, (GX.fin tv (GX.ps 1 Z (qL Z Z (fun _ _ g => mV Z (kN 16 Z (congrArg Bool.not c33) g)) Z (qL Z Z (fun _ _ g => oN Z (mV Z (bK g))) Z (qL Z Z (fun _ _ g => oN Z (GO.gtr Z Z Z Z (bK g))) Z (qL Z Z (fun _ _ g => oN Z (mV Z (bK (kN 19 Z (tT c34) g)))) Z (qL Z Z (fun _ _ g => oN Z (mV Z (bK g))) Z (qL Z Z (fun _ _ g => oN Z (mV Z (bK g))) Z (qL Z Z (fun _ _ g => oN Z (GO.sub Z Z Z Z (bK g))) Z (qL Z Z (fun _ _ g => oN Z (GO.ix Z Z Z underlying27 Jt (r_a _ HS).2.2.1 c35.1 c35.2 Z (bK g))) Z ?_))))))))))⟩)))))
        refine qL Z Z (fun _ _ g => oN Z (GO.fld (ea A_a (((w64 (a1 - 1)).toNat) * 12)) Z Z K7 Z Z (bK g))) Z (qL Z Z (fun _ _ g => oN Z (mV Z (bK g))) Z (qL Z Z (fun _ _ g => oN Z (mV Z (bK g))) Z (qL Z Z (fun _ _ g => oN Z (GO.ix Z Z Z underlying27 Jt (r_a _ HS).2.2.1 c26.1 c26.2 Z (bK g))) Z (qL Z Z (fun _ _ g => oN Z (GO.fld (ea A_a (a1.toNat * 12)) Z Z K7 Z Z (bK g))) Z (GX.l1 Z Z Z (fun _ g => oN Z (GO.Fq (T := Aa) (n := (w64 (a1 - 1)).toNat) (o := 0) HS r_a Z Z (getD_eq (ltN c35) h37) Z Z na9 Z (bK g))) Z (GX.l1 Z Z Z (fun _ g => oN Z (GO.Fq (T := Aa) (n := a1.toNat) (o := 0) HS r_a Z Z (getD_eq (ltN c26) h28) Z Z na9 Z (bK g))) Z (qL Z Z (fun _ _ g => oN Z (GO.wC Z Z Z Z (bK g))) Z (qL Z Z (fun _ _ g => oN Z (GO.Ip Z Z Z Z Z (bK g))) Z (GX.ps 1 Z (GX.nil ?_))))))))))
        rcases iE H with ⟨c38, H⟩ | ⟨c38, H⟩
        ·
         refine nB Z (congrArg Bool.not c38) (rN 4 Z (G.weak ?_ (d1 c1 (Nat.lt_succ_of_le (lR _)) (Nat.le_of_succ_le e1) _ _ H HS)))
         exact ⟨Z, Z, tv⟩
        refine yB Z (congrArg Bool.not (Ca c38)) (rN 2 Z ?_)
        obtain rfl := sI H
        exact rT _ func59 Z Z ⟨Z, HS⟩
       refine G.lex mixed [0, 1, 2, 3, 4, 5, 6, 7, 8, 9, 10, 11, 12, 13, 14, 16, 17, 18, 19, 15, 20, 21, 22, 23] (by kernel_rfl) ?_
       replace HS := HS.drew
       refine GX.ps 2 Z (qL Z Z (fun _ _ g => GO.ix Z Z Z underlying27 Jt (r_a _ HS).2.2.1 c26.1 c26.2 Z g) Z (GX.l1 Z Z Z (fun _ g => GO.Ja (T := Aa) (n := a1.toNat) HS r_a Z Z (getD_eq (ltN c26) h28) Mq Z g) Z (GX.l2 Z (fN Z func42 Uo.1 Uo.2 Z Z (Cr.calls HS (Aq.fld r_a (getD_eq (ltN c26) h28) (fun _ h => h.2.2.1)) (Aq.fld r_a (getD_eq (ltN c26) h28) (fun _ h => h.2.2.2.1)) (Aq.fld r_a (getD_eq (ltN c26) h28) (fun _ h => h.2.2.2.2.2.2.1)) (Aq.fld r_a (getD_eq (ltN c26) h28) (fun _ h => h.2.2.2.2.2.2.2.2.2.1)) (Aq.fld r_a (getD_eq (ltN c26) h28) (fun _ h => h.2.2.2.2.2.2.2.2.2.2.1)) (Aq.fld r_a (getD_eq (ltN c26) h28) (fun _ h => h.2.2.2.2.2.2.2.2.2.2.2)) h30) (fun _ wd31 ⟨h32, HS⟩ => ⟨_, h32, (GX.fin tv (GX.ps 1 Z (qL Z Z (fun _ _ g => mV Z (kN 16 Z (congrArg Bool.not c33) g)) Z (qL Z Z (fun _ _ g => oN Z (mV Z (bK g))) Z (qL Z Z (fun _ _ g => oN Z (GO.gtr Z Z Z Z (bK g))) Z (qL Z Z (fun _ _ g => oN Z (mV Z (bK (kN 19 Z (tF c34) g)))) Z (qL Z Z (fun _ _ g => oF Z g) Z (qL Z Z (fun _ _ g => oF Z g) Z (qL Z Z (fun _ _ g => oF Z g) Z (qL Z Z (fun _ _ g => oF Z g) Z ?_))))))))))⟩)))))
       refine qL Z Z (fun _ _ g => oF Z g) Z (qL Z Z (fun _ _ g => oF Z g) Z (qL Z Z (fun _ _ g => oF Z g) Z (qL Z Z (fun _ _ g => oF Z g) Z (qL Z Z (fun _ _ g => oF Z g) Z (GX.l1 Z Z Z (fun _ g => oF Z g) Z (GX.l1 Z Z Z (fun _ g => oF Z g) Z (qL Z Z (fun _ _ g => oF Z g) Z (qL Z Z (fun _ _ g => oN Z (GO.Js Z Z Z Z Z (bK g))) Z (GX.ps 1 Z (GX.nil (rN 5 Z (G.weak ?_ (d1 c1 (Nat.lt_succ_of_le (lR _)) (Nat.le_of_succ_le e1) _ _ H HS)))))))))))))
       exact ⟨Z, Z, tv⟩
      refine G.lex mixed [0, 1, 2, 3, 4, 5, 6, 7, 8, 9, 10, 11, 12, 13, 14, 16, 17, 18, 19, 15, 20, 21, 22, 23] (by kernel_rfl) ?_
      replace HS := HS.drew
      refine GX.ps 2 Z (qL Z Z (fun _ _ g => GO.ix Z Z Z underlying27 Jt (r_a _ HS).2.2.1 c26.1 c26.2 Z g) Z (GX.l1 Z Z Z (fun _ g => GO.Ja (T := Aa) (n := a1.toNat) HS r_a Z Z (getD_eq (ltN c26) h28) Mq Z g) Z (GX.l2 Z (fN Z func42 Uo.1 Uo.2 Z Z (Cr.calls HS (Aq.fld r_a (getD_eq (ltN c26) h28) (fun _ h => h.2.2.1)) (Aq.fld r_a (getD_eq (ltN c26) h28) (fun _ h => h.2.2.2.1)) (Aq.fld r_a (getD_eq (ltN c26) h28) (fun _ h => h.2.2.2.2.2.2.1)) (Aq.fld r_a (getD_eq (ltN c26) h28) (fun _ h => h.2.2.2.2.2.2.2.2.2.1)) (Aq.fld r_a (getD_eq (ltN c26) h28) (fun _ h => h.2.2.2.2.2.2.2.2.2.2.1)) (Aq.fld r_a (getD_eq (ltN c26) h28) (fun _ h => h.2.2.2.2.2.2.2.2.2.2.2)) h30) (fun _ wd31 ⟨h32, HS⟩ => ⟨_, h32, (GX.fin tv (GX.ps 1 Z (qL Z Z (fun _ _ g => mV Z (kN 16 Z (congrArg Bool.not (Ca c33)) g)) Z (qL Z Z (fun _ _ g => oF Z g) Z (qL Z Z (fun _ _ g => oF Z g) Z (qL Z Z (fun _ _ g => oF Z g) Z (qL Z Z (fun _ _ g => GO.M7 Z Z Z Z Z Z g) Z (qL Z Z (fun _ _ g => GO.M7 Z Z Z Z Z Z g) Z (qL Z Z (fun _ _ g => GO.M7 Z Z Z Z Z Z g) Z (qL Z Z (fun _ _ g => GO.M7 Z Z Z Z Z Z g) Z ?_))))))))))⟩)))))
      refine qL Z Z (fun _ _ g => GO.M7 Z Z Z Z Z Z g) Z (qL Z Z (fun _ _ g => GO.M7 Z Z Z Z Z Z g) Z (qL Z Z (fun _ _ g => GO.M7 Z Z Z Z Z Z g) Z (qL Z Z (fun _ _ g => GO.M7 Z Z Z Z Z Z g) Z (qL Z Z (fun _ _ g => GO.M7 Z Z Z Z Z Z g) Z (GX.l1 Z Z Z (fun _ g => GO.M7 Z Z Z Z Z Z g) Z (GX.l1 Z Z Z (fun _ g => GO.M7 Z Z Z Z Z Z g) Z (qL Z Z (fun _ _ g => GO.M7 Z Z Z Z Z Z g) Z (qL Z Z (fun _ _ g => oF Z g) Z (GX.ps 1 Z (GX.nil (rN 3 Z ?_)))))))))))
      obtain rfl := sI H
      exact rT _ func59 Z Z ⟨Z, HS⟩
     refine nB Z (tF c25) (rN 2 Z (rG (mV Z (lS Z Z underlying27 Z (pS 2 Z (nL ?_))))))
     obtain rfl := sI H
     exact rT _ func59 Z Z ⟨Z, HS⟩
  refine G.weak ?_ (h1 K (lR _) _ _ H HS)
  exact ⟨Z, Z, tv⟩
theorem Dp.calls {list : List (List Am)} {A_a : Option Addr} {c_a : Nat} {y_a : Nat → (Ty.slice 64 Aa).Lay} {r1 : Bool} (HS : St w0 w (L)) (r_a : Aq w0 L (Ty.slice 64 Aa) A_a c_a y_a list) (H : Dp.f K list = some r1) :
    Calls prog 60 #[.slice A_a list.length c_a] w (Dp.post w0 L r1) := by
  unfold Dp.f at H
  refine cG func60 Z ?_
  refine rN 7 Z ?_
  refine G.name (fun b1 e1 => ?_)
  have f1 : ∀ a1, a1 ≤ K → ∀ (i_8 : Int) (w : World), Dp.l1 K a1 list i_8 = some r1 → St w0 w (L) → G prog 60 19 [(0, .slice A_a list.length c_a), (3, I i_8)] b1 w (Dp.post w0 L r1) := by
   intro a1
   induction a1 using Nat.strongRecOn with
   | _ a1 d1 =>
    intro g1 i_8 w H HS
    cases a1 with
    | zero => rw [Dp.l1] at H; cases H
    | succ c1 =>
     rw [Dp.l1] at H
     subst e1
     refine rN 2 Z (rG (pS 2 Z (lS Z Z underlying28 Z (GO.lss Z Z Z Z (nL ?_)))))
     rcases iE H with ⟨c16, H⟩ | ⟨c16, H⟩
     ·
      refine yB Z (tT c16) (rN 4 Z ?_)
      obtain ⟨c17, H⟩ := iN H
      obtain ⟨t18, h19, H⟩ := bI H
      refine rG (pS 2 Z (GO.ix Z Z Z underlying28 V5 (r_a _ HS).2.2.1 c17.1 c17.2 Z (GO.Fq (T := (Ty.slice 64 Aa)) (n := i_8.toNat) (o := 0) HS r_a Z Z (getD_some (d := []) (ltN c17)) Z Z Nq Z (fN Z func59 U8.1 U8.2 Z Z (Ec.calls HS (Aq.elem r_a c17.1 c17.2) h19) (fun _ wd20 ⟨h21, HS⟩ => ⟨_, h21, (GO.not Z Z Z (nL ?_))⟩)))))
      rcases iE H with ⟨c22, H⟩ | ⟨c22, H⟩
      ·
       refine nB Z (congrArg Bool.not c22) (rN 4 Z (G.weak ?_ (d1 c1 (Nat.lt_succ_of_le (lR _)) (Nat.le_of_succ_le g1) _ _ H HS)))
       exact ⟨Z, Z, tv⟩
      refine yB Z (congrArg Bool.not (Ca c22)) (rN 2 Z ?_)
      obtain rfl := sI H
      exact rT _ func60 Z Z ⟨Z, HS⟩
     refine nB Z (tF c16) (rN 2 Z (rG (mV Z (lS Z Z underlying28 Z (pS 2 Z (nL ?_))))))
     obtain rfl := sI H
     exact rT _ func60 Z Z ⟨Z, HS⟩
  refine G.weak ?_ (f1 K (lR _) _ _ H HS)
  exact ⟨Z, Z, tv⟩
theorem Il.calls {a1 : List Am} {c1 d1 : List (List Am)} {A_a : Option Addr} {c_a : Nat} {y_a : Nat → Aa.Lay} {A_b : Option Addr} {c_b : Nat} {y_b : Nat → (Ty.slice 64 Aa).Lay} {A_c : Option Addr} {c_c : Nat} {y_c : Nat → (Ty.slice 64 Aa).Lay} {r1 : Bool} (HS : St w0 w (L)) (r_a : Aq w0 L Aa A_a c_a y_a a1) (r_b : Aq w0 L (Ty.slice 64 Aa) A_b c_b y_b c1) (r_c : Aq w0 L (Ty.slice 64 Aa) A_c c_c y_c d1) (H : Il.f K a1 c1 d1 = some r1) :
    Calls prog 20 #[.agg [.slice A_a a1.length c_a, .slice A_b c1.length c_b, .slice A_c d1.length c_c].toArray] w (Il.post w0 L r1) := by
  unfold Il.f at H
  refine cG func20 Z ?_
  refine sQ (rG (GO.box (cs := [.slice A_a a1.length c_a, .slice A_b c1.length c_b, .slice A_c d1.length c_c]) HS Z Z Z Z fun b1 wd2 HS => aS Z (nL (sQ ?_))))
  obtain ⟨t3, h4, H⟩ := bI H
  rcases iE H with ⟨c7, H⟩ | ⟨c7, H⟩
  ·
   obtain ⟨t8, h9, H⟩ := bI H
   rcases iE H with ⟨c12, H⟩ | ⟨c12, H⟩
   ·
    obtain ⟨t13, h14, H⟩ := bI H
    refine rG (fL b1 0 K5 Z (lB 0 HS Z Nq Z (fN Z func59 U8.1 U8.2 Z Z (Ec.calls HS (rD 1 r_a) h4) (fun _ wd5 ⟨h6, HS⟩ => ⟨_, h6, (mV Z (kN 6 Z c7 (oN Z (fL b1 1 Po Z (bK (oN Z (lB 0 HS Z Qa Z (bK (oN Z (fN Z func60 X6.1 X6.2 Z Z (Dp.calls HS (rD 1 r_b) h9) (fun _ wd10 ⟨h11, HS⟩ => ⟨_, h11, (bK ?_)⟩)))))))))))⟩))))
    refine pS 2 Z (kN 11 Z c12 (oN Z (fL b1 2 Rc Z (bK (oN Z (lB 0 HS Z Qa Z (bK (oN Z (fN Z func60 X6.1 X6.2 Z Z (Dp.calls HS (rD 1 r_c) h14) (fun _ wd15 ⟨h16, HS⟩ => ⟨_, h16, (bK (pS 2 Z (nL ?_)))⟩))))))))))
    obtain rfl := sI H
    exact rT _ func20 Z Z ⟨Z, (HS.pk 1 [] Z)⟩
   refine rG (fL b1 0 K5 Z (lB 0 HS Z Nq Z (fN Z func59 U8.1 U8.2 Z Z (Ec.calls HS (rD 1 r_a) h4) (fun _ wd5 ⟨h6, HS⟩ => ⟨_, h6, (mV Z (kN 6 Z c7 (oN Z (fL b1 1 Po Z (bK (oN Z (lB 0 HS Z Qa Z (bK (oN Z (fN Z func60 X6.1 X6.2 Z Z (Dp.calls HS (rD 1 r_b) h9) (fun _ wd10 ⟨h11, HS⟩ => ⟨_, h11, (bK ?_)⟩)))))))))))⟩))))
   refine pS 2 Z (kN 11 Z (Ca c12) (oF Z (oF Z (oF Z (pS 2 Z (nL ?_))))))
   obtain rfl := sI H
   exact rT _ func20 Z Z ⟨Z, (HS.pk 1 [] Z)⟩
  refine rG (fL b1 0 K5 Z (lB 0 HS Z Nq Z (fN Z func59 U8.1 U8.2 Z Z (Ec.calls HS (rD 1 r_a) h4) (fun _ wd5 ⟨h6, HS⟩ => ⟨_, h6, (mV Z (kN 6 Z (Ca c7) (oF Z (oF Z (oF Z (pS 2 Z (oF Z (oF Z (oF Z (pS 2 Z (nL ?_)))))))))))⟩))))
  obtain rfl := sI H
  exact rT _ func20 Z Z ⟨Z, (HS.pk 1 [] Z)⟩
theorem Ew.calls {list : List Am} {name : ByteArray} {A_a : Option Addr} {c_a : Nat} {y_a : Nat → Aa.Lay} {r1 : Int} (HS : St w0 w (L)) (r_a : Aq w0 L Aa A_a c_a y_a list) (H : Ew.f K list name = some r1) :
    Calls prog 21 #[.slice A_a list.length c_a, .string name] w (Ew.post w0 L r1) := by
  unfold Ew.f at H
  refine cG func21 Z ?_
  refine rN 7 Z ?_
  refine G.name (fun b1 e1 => ?_)
  have f1 : ∀ a1, a1 ≤ K → ∀ (i_6 : Int) (w : World), Ew.l1 K a1 list name i_6 = some r1 → St w0 w (L) → G prog 21 20 [(0, .slice A_a list.length c_a), (1, .string name), (5, I i_6)] b1 w (Ew.post w0 L r1) := by
   intro a1
   induction a1 using Nat.strongRecOn with
   | _ a1 d1 =>
    intro g1 i_6 w H HS
    cases a1 with
    | zero => rw [Ew.l1] at H; cases H
    | succ c1 =>
     rw [Ew.l1] at H
     subst e1
     refine rN 2 Z (rG (pS 2 Z (lS Z Z underlying27 Z (GO.lss Z Z Z Z (nL ?_)))))
     rcases iE H with ⟨c12, H⟩ | ⟨c12, H⟩
     ·
      refine yB Z (tT c12) (rN 4 Z ?_)
      obtain ⟨c13, H⟩ := iN H
      obtain ⟨e14, h15, H⟩ := Cn H
      refine rG (pS 2 Z (GO.ix Z Z Z underlying27 Jt (r_a _ HS).2.2.1 c13.1 c13.2 Z (GO.fld (ea A_a (i_6.toNat * 12)) Z Z K7 Z Z (GO.Fq (T := Aa) (n := i_6.toNat) (o := 0) HS r_a Z Z (getD_eq (ltN c13) h15) Z Z na9 Z (mV Z (GO.vP Z Z Z Z (nL ?_)))))))
      rcases iE H with ⟨c16, H⟩ | ⟨c16, H⟩
      ·
       refine yB Z c16 (rN 2 Z ?_)
       obtain rfl := sI H
       exact rT _ func21 Z Z ⟨Z, HS⟩
      refine nB Z (Ca c16) (rN 4 Z (G.weak ?_ (d1 c1 (Nat.lt_succ_of_le (lR _)) (Nat.le_of_succ_le g1) _ _ H HS)))
      exact ⟨Z, Z, Z, tv⟩
     refine nB Z (tF c12) (rN 3 Z ?_)
     obtain rfl := sI H
     exact rT _ func21 Z Z ⟨Z, HS⟩
  refine G.weak ?_ (f1 K (lR _) _ _ H HS)
  exact ⟨Z, Z, Z, tv⟩
theorem Gw.calls {c1 : List (List Bt)} {A_a : Option Addr} {c_a : Nat} {y_a : Nat → (Ty.slice 157 Bc).Lay} {r1 : List (List Bt)} (HS : St w0 w (L)) (r_a : Aq w0 L (Ty.slice 157 Bc) A_a c_a y_a c1) (H : Gw.f K c1 = some r1) :
    Calls prog 90 #[.agg [.slice A_a c1.length c_a].toArray] w (Gw.post w0 L r1) := by
  unfold Gw.f at H
  refine cG func90 Z ?_
  refine sQ (rG (GO.box (cs := [.slice A_a c1.length c_a]) HS Z Z Z Z fun b1 wd2 HS => GO.alloc HS Z gP Z Z fun b3 wd4 HS => nL (sQ (rG (GO.I9 (.agg [.slice none 0 0].toArray) Z Z (fun _ => by kernel_rfl) Z (GO.alloc HS Z gP Z Z fun b5 wd6 HS => GO.C8 (j := 0) (vs := [.slice none 0 0]) ([.slice none 0 0]) HS Z Z Z Z Z (htA Oc) Z Z Z fun wd7 HS => nL (rN 5 Z ?_)))))))
  refine G.name (fun f1 i1 => ?_)
  have k1 : ∀ e1, e1 ≤ K → ∀ (A25 : Option Addr) (c26 : Nat) (a1 : List (List Bt)) (y28 : Nat → (Ty.slice 157 Bc).Lay) (d1 : Int) (w : World), Gw.l1 K e1 c1 a1 d1 = some r1 → St w0 w (Box b1 55 [.slice A_a c1.length c_a] :: Box b3 55 [.slice none 0 0] :: Box b5 55 [.slice A25 a1.length c26] :: Own (Ty.slice 157 Bc) 150 A25 c26 y28 a1 :: L) → G prog 90 26 [(1, .pointer (some ⟨b1, 0, none⟩)), (2, .pointer (some ⟨b3, 0, none⟩)), (3, .pointer (some ⟨b5, 0, none⟩)), (4, I d1)] f1 w (Gw.post w0 L r1) := by
   intro e1
   induction e1 using Nat.strongRecOn with
   | _ e1 h1 =>
    intro m1 A25 c26 a1 y28 d1 w H HS
    cases e1 with
    | zero => rw [Gw.l1] at H; cases H
    | succ g1 =>
     rw [Gw.l1] at H
     subst i1
     refine rN 2 Z (rG (mV Z (fL b1 0 I8 Z (lB 0 HS Z Nt Z (lS Z Z underlying53 Z (GO.lss Z Z Z Z (nL ?_)))))))
     rcases iE H with ⟨c47, H⟩ | ⟨c47, H⟩
     ·
      refine yB Z (tT c47) (rN 3 Z ?_)
      obtain ⟨c50, H⟩ := iN H
      obtain ⟨c54, H⟩ := iN H
      obtain ⟨c60, H⟩ := iN H
      refine G.Oi mixed (fun w => St w0 w (Box b1 55 [.slice A_a c1.length c_a] :: Box b5 55 [.slice A25 a1.length c26] :: L)) [1, 4, 7] [0, 3, 5, 1, 4, 6, 7, 2, 8, 9, 10, 11, 12] [12] (by kernel_rfl) (by kernel_rfl) (HS.drew.pk 4 [0, 2] Z) ?_
      replace HS := HS.drew
      refine qL Z Z (fun _ _ g => fL b5 0 I8 Z g) Z (qL Z Z (fun _ _ g => fL b1 0 I8 Z g) Z (GX.ps 1 Z (GX.ls Z Z Z (HS.pk 4 [0, 2] Z) (fun _ HS _ g => lB 1 HS Z Nt Z g) Z (GX.ls Z Z Z (HS.pk 4 [0, 2] Z) (fun _ HS _ g => lB 0 HS Z Nt Z g) Z (qL Z Z (fun _ _ g => GO.ix Z Z Z underlying53 Ou ((rD 4 r_a) _ HS).2.2.1 c50.1 c50.2 Z g) Z (GX.ls Z Z Z (HS.pk 4 [0, 2] Z) (fun _ HS _ g => GO.Fq (T := (Ty.slice 157 Bc)) (n := d1.toNat) (o := 0) HS (rD 2 r_a) Z Z (getD_some (d := []) (ltN c50)) Z Z Ox Z g) Z (GX.l2 Z (GO.F3 (el := 157) ([]) HS Z Z (fun _ => by kernel_rfl) Z fun b48 wd49 HS => GX.fin (HS.pk 5 [1, 3] Z) (GX.l2 Z ?_)))))))))
      replace HS := HS.J6 (T := Bc) (j := 0) Z Bv (fun _ => ()) ([] : List Bt) Z (O3 Z)
      refine GO.Nb (t := 15) (m := ([] : List Bt).length) (c' := ([] : List Bt).length) Z Z Z (GO.Vb (T := Bc) (j := 0) HS Z (Aq.elem (rD 5 r_a) c50.1 c50.2) Bv Z Z Z underlying150 bY Z Z Z c54 Z (fun _ => Z) fun A52 c53 wd51 HS => GX.fin (HS.pk 5 [1, 3] Z) (GX.l2 Z (GO.F3 (el := 150) ([.slice A52 (([] : List Bt) ++ (c1.getD d1.toNat [])).length c53]) HS Z Z (fun _ => by kernel_rfl) Z fun b55 wd56 HS => GX.fin (HS.pk 6 [2, 4] Z) (GX.l2 Z ?_))))
      replace HS := HS.pk 6 [5, 0, 1, 2, 3, 4] Z
      refine GO.aT (S := Bc) (u := 157) HS Z Z Z underlying53 cZ Z Z c60 Z fun A58 c59 y61 wd57 HS => GX.fin (HS.pk 5 [2, 4] Z) (qL Z Z (fun _ _ g => fL b5 0 I8 Z g) Z (GX.l2 Z (GO.C8 (j := 4) (vs := [.slice A58 (a1 ++ [(([] : List Bt) ++ (c1.getD d1.toNat []))]).length c59]) ([.slice A58 (a1 ++ [(([] : List Bt) ++ (c1.getD d1.toNat []))]).length c59]) HS Z Z Z Z Z (htN Nt Z) Z Z Z fun wd62 HS => GX.kU Z (GX.nil (rN 3 Z (G.weak ?_ (h1 g1 (Nat.lt_succ_of_le (lR _)) (Nat.le_of_succ_le m1) _ _ _ _ _ _ H (HS.pk 5 [2, 3, 4, 0] Z))))))))
      exact ⟨Z, Z, Z, Z, tv⟩
     refine nB Z (tF c47) (rN 2 Z (rG (GO.Bu (j := 2) ([.slice A25 a1.length c26]) HS Z Z Z Z Oc Z (GO.C8 (j := 1) (vs := [.slice A25 a1.length c26]) ([.slice A25 a1.length c26]) HS Z Z Z Z Z (htA Oc) Z Z Z fun wd63 HS => nL ?_))))
     obtain rfl := sI H
     exact rT _ func90 Z (Ki.Lr (j := 1) (vs := [.slice A25 a1.length c26]) HS Z Z Z Oc) ⟨_, _, _, Z, (HS.pk 4 [3] Z)⟩
  replace HS := HS.Gr (Ty.slice 157 Bc) 150 (fun _ => ⟨none, 0, (fun _ => ())⟩)
  refine G.weak ?_ (k1 K (lR _) _ _ _ _ _ _ H (HS.pk 4 [3, 2, 1, 0] Z))
  exact ⟨Z, Z, Z, Z, tv⟩
theorem Mc.calls {c1 : Int} {a1 : List Int} {A_a : Option Addr} {c_a : Nat} {r1 : Int} {r2 : List Int} (HS : St w0 w (L)) (r_a : Aq w0 L (Bq .i64) A_a c_a (fun _ => ()) a1) (H : Mc.f c1 a1 = some (r1, r2)) :
    Calls prog 91 #[.agg [I c1, .slice A_a a1.length c_a].toArray] w (Mc.post w0 L r1 r2) := by
  unfold Mc.f at H
  refine cG func91 Z ?_
  refine sQ (rG (GO.box (cs := [I c1, .slice A_a a1.length c_a]) HS Z Z Z Z fun b1 wd2 HS => GO.alloc HS Z vO Z Z fun b3 wd4 HS => nL (sQ ?_)))
  obtain ⟨c10, H⟩ := iN H
  refine G.Oi mixed (fun w => St w0 w (Box b1 59 [I c1, .slice A_a a1.length c_a] :: L)) [1, 4] [0, 3, 1, 4, 2, 5, 6, 7] [] (by kernel_rfl) (by kernel_rfl) (HS.drew.pk 2 [1] Z) ?_
  replace HS := HS.drew
  refine qL Z Z (fun _ _ g => fL b1 0 Nl Z g) Z (qL Z Z (fun _ _ g => fL b1 1 Nc Z g) Z (GX.ls Z Z Z (HS.pk 2 [1] Z) (fun _ HS _ g => lB 0 HS Z na2 Z g) Z (GX.ls Z Z Z (HS.pk 2 [1] Z) (fun _ HS _ g => lB 0 HS Z H7 Z g) Z (GX.l2 Z (GO.F3 (el := 2) ([]) HS Z Z (fun _ => by kernel_rfl) Z fun b5 wd6 HS => GX.fin (HS.pk 3 [2] Z) (GX.l2 Z ?_))))))
  replace HS := HS.J6 (T := (Bq .i64)) (j := 0) Z Bv (fun _ => ()) ([] : List Int) Z (O3 Z)
  refine GO.Nb (t := 5) (m := ([] : List Int).length) (c' := ([] : List Int).length) Z Z Z (GO.Vb (T := (Bq .i64)) (j := 0) HS Z (rD 3 r_a) Bv Z Z Z underlying43 S9 Z Z Z c10 Z (fun _ => Z) fun A8 c9 wd7 HS => GX.fin (HS.pk 3 [2] Z) (qL Z Z (fun _ _ g => GO.I9 (.agg [I c1, .slice A8 (([] : List Int) ++ a1).length c9].toArray) Z Z (fun _ => by kernel_rfl) Z g) Z (GX.l2 Z (GO.C8 (j := 1) (vs := [I c1, .slice A8 (([] : List Int) ++ a1).length c9]) ([I c1, .slice A8 (([] : List Int) ++ a1).length c9]) HS Z Z Z Z Z (htA Rz) Z Z Z fun wd11 HS => GX.fin (HS.pk 3 [2] Z) (GX.nil ?_)))))
  obtain ⟨rfl, rfl⟩ := Mf H
  exact rT _ func91 Z (Ki.Lr (j := 1) (vs := [I c1, .slice A8 (([] : List Int) ++ a1).length c9]) HS Z Z Z Rz) ⟨_, _, Z, (HS.pk 3 [0] Z)⟩
theorem Dw.calls {q1 : ByteArray} {p1 : Int} {t1 : List (List Bt)} {a1 : List Al} {g1 b2 : Int} {s1 : List Int} {i1 h1 : Int} {e1 : List Ci} {c1 d1 : List Int} {A_a : Option Addr} {c_a : Nat} {y_a : Nat → (Ty.slice 157 Bc).Lay} {A_b : Option Addr} {c_b : Nat} {A_c : Option Addr} {c_c : Nat} {A_d : Option Addr} {c_d : Nat} {A_e : Option Addr} {c_e : Nat} {A_f : Option Addr} {c_f : Nat} {r1 : ByteArray} {r2 : Int} {r3 : List (List Bt)} {r4 : List Al} {r5 r6 : Int} {r7 : List Int} {r8 r9 : Int} {r10 : List Ci} {r11 r12 : List Int} (HS : St w0 w (L)) (r_a : Aq w0 L (Ty.slice 157 Bc) A_a c_a y_a t1) (r_b : Aq w0 L Bb A_b c_b (fun _ => ()) a1) (r_c : Aq w0 L (Bq .i64) A_c c_c (fun _ => ()) s1) (r_d : Aq w0 L Cq A_d c_d (fun _ => ()) e1) (r_e : Aq w0 L (Bq .i64) A_e c_e (fun _ => ()) c1) (r_f : Aq w0 L (Bq .i64) A_f c_f (fun _ => ()) d1) (H : Dw.f K q1 p1 t1 a1 g1 b2 s1 i1 h1 e1 c1 d1 = some (r1, r2, r3, r4, r5, r6, r7, r8, r9, r10, r11, r12)) :
    Calls prog 43 #[.agg [.string q1, I p1, .slice A_a t1.length c_a, .slice A_b a1.length c_b, I g1, I b2, .slice A_c s1.length c_c, I i1, I h1, .slice A_d e1.length c_d, .slice A_e c1.length c_e, .slice A_f d1.length c_f].toArray] w (Dw.post w0 L r1 r2 r3 r4 r5 r6 r7 r8 r9 r10 r11 r12) := by
  unfold Dw.f at H
  refine cG func43 Z ?_
  refine sQ (rG (GO.box (cs := [.string q1, I p1, .slice A_a t1.length c_a, .slice A_b a1.length c_b, I g1, I b2, .slice A_c s1.length c_c, I i1, I h1, .slice A_d e1.length c_d, .slice A_e c1.length c_e, .slice A_f d1.length c_f]) HS Z Z Z Z fun b1 wd2 HS => GO.alloc HS Z dJ Z Z fun b3 wd4 HS => nL (sQ (rG (fL b1 7 K4 Z (GO.Bu (j := 1) ([I i1, I h1, .slice A_d e1.length c_d, .slice A_e c1.length c_e, .slice A_f d1.length c_f]) HS Z Z Z Z Qn Z (GO.alloc HS Z qV Z Z fun b5 wd6 HS => GO.C8 (j := 0) (vs := [I i1, I h1, .slice A_d e1.length c_d, .slice A_e c1.length c_e, .slice A_f d1.length c_f]) ([I i1, I h1, .slice A_d e1.length c_d, .slice A_e c1.length c_e, .slice A_f d1.length c_f]) HS Z Z Z Z Z (htA Qn) Z Z Z fun wd7 HS => nL (sQ ?_))))))))
  obtain ⟨c13, H⟩ := iN H
  refine rG (GO.F3 (el := 140) ([]) HS Z Z (fun _ => by kernel_rfl) Z fun b8 wd9 HS => fL b5 2 Ir Z (lB 1 HS Z Nh Z ?_))
  replace HS := HS.J6 (T := Cq) (j := 0) Z Bv (fun _ => ()) ([] : List Ci) Z (O3 Z)
  refine GO.Nb (t := 7) (m := ([] : List Ci).length) (c' := ([] : List Ci).length) Z Z Z (GO.Vb (T := Cq) (j := 0) HS Z (rD 4 r_d) Bv Z Z Z underlying60 bV Z Z Z c13 Z (fun _ => Z) fun A11 c12 wd10 HS => fL b5 2 Ir Z (GO.C8 (j := 1) (vs := [.slice A11 (([] : List Ci) ++ e1).length c12]) ([I i1, I h1, .slice A11 (([] : List Ci) ++ e1).length c12, .slice A_e c1.length c_e, .slice A_f d1.length c_f]) HS Z Z Z Z Z (htN Nh Z) Z Z Z fun wd14 HS => nL (sQ ?_)))
  obtain ⟨c20, H⟩ := iN H
  refine rG (GO.F3 (el := 2) ([]) HS Z Z (fun _ => by kernel_rfl) Z fun b15 wd16 HS => fL b5 3 Je Z (lB 2 HS Z H7 Z ?_))
  replace HS := HS.J6 (T := (Bq .i64)) (j := 0) Z Bv (fun _ => ()) ([] : List Int) Z (O3 Z)
  refine GO.Nb (t := 12) (m := ([] : List Int).length) (c' := ([] : List Int).length) Z Z Z (GO.Vb (T := (Bq .i64)) (j := 0) HS Z (rD 5 r_e) Bv Z Z Z underlying43 S9 Z Z Z c20 Z (fun _ => Z) fun A18 c19 wd17 HS => fL b5 3 Je Z (GO.C8 (j := 2) (vs := [.slice A18 (([] : List Int) ++ c1).length c19]) ([I i1, I h1, .slice A11 (([] : List Ci) ++ e1).length c12, .slice A18 (([] : List Int) ++ c1).length c19, .slice A_f d1.length c_f]) HS Z Z Z Z Z (htN H7 Z) Z Z Z fun wd21 HS => nL (sQ ?_)))
  obtain ⟨c27, H⟩ := iN H
  refine rG (GO.F3 (el := 2) ([]) HS Z Z (fun _ => by kernel_rfl) Z fun b22 wd23 HS => fL b5 4 Lm Z (lB 3 HS Z H7 Z ?_))
  replace HS := HS.J6 (T := (Bq .i64)) (j := 0) Z Bv (fun _ => ()) ([] : List Int) Z (O3 Z)
  refine GO.Nb (t := 17) (m := ([] : List Int).length) (c' := ([] : List Int).length) Z Z Z (GO.Vb (T := (Bq .i64)) (j := 0) HS Z (rD 6 r_f) Bv Z Z Z underlying43 S9 Z Z Z c27 Z (fun _ => Z) fun A25 c26 wd24 HS => fL b5 4 Lm Z (GO.C8 (j := 3) (vs := [.slice A25 (([] : List Int) ++ d1).length c26]) ([I i1, I h1, .slice A11 (([] : List Ci) ++ e1).length c12, .slice A18 (([] : List Int) ++ c1).length c19, .slice A25 (([] : List Int) ++ d1).length c26]) HS Z Z Z Z Z (htN H7 Z) Z Z Z fun wd28 HS => nL (sQ ?_)))
  obtain ⟨c34, H⟩ := iN H
  refine G.Pb mixed (by decide) (fun b a w => ∃ (a2 : Value) (x1 : Value) (u1 : Value) (e2 : Value) (z1 : Value) (y1 : Value) (c2 : Value) (d2 : Value) (g2 : Value) (v1 : Value) (b29 : Nat) (A32 : Option Addr) (c33 : Nat) (b35 : Nat) (h2 : Cu) (i2 : Cu), Sat 44 [(4, v1), (22, a2), (23, x1), (24, u1), (25, e2), (26, z1), (27, y1), (28, c2), (29, d2), (30, g2), (1, .pointer (some ⟨b1, 0, none⟩)), (2, .pointer (some ⟨b3, 0, none⟩)), (3, .pointer (some ⟨b5, 0, none⟩))] a ∧ St w0 w (Own (Bq .i64) 2 A25 c26 (fun _ => ()) (([] : List Int) ++ d1) :: Own (Bq .i64) 2 A18 c19 (fun _ => ()) (([] : List Int) ++ c1) :: Own Cq 140 A11 c12 (fun _ => ()) (([] : List Ci) ++ e1) :: Box b5 62 [I i1, I h1, .slice A11 (([] : List Ci) ++ e1).length c12, .slice A18 (([] : List Int) ++ c1).length c19, .slice A25 (([] : List Int) ++ d1).length c26] :: Box b3 64 [.string ByteArray.empty, I 0, .slice none 0 0, .slice none 0 0, I 0, I 0, .slice none 0 0, I 0, I 0, .slice none 0 0, .slice none 0 0, .slice none 0 0] :: Box b1 64 [.string q1, I p1, .slice A_a t1.length c_a, .slice A_b a1.length c_b, I g1, I b2, .slice A_c s1.length c_c, I i1, I h1, .slice A_d e1.length c_d, .slice A_e c1.length c_e, .slice A_f d1.length c_f] :: h2 :: i2 :: L) ∧ (b 9 = true → v1 = (.pointer (some ⟨b35, 0, none⟩))) ∧ (b 0 = true → a2 = (.slice (some ⟨b29, 0, none⟩) 0 0)) ∧ (b 1 = true → x1 = (.pointer (some ⟨b1, 3, none⟩))) ∧ (b 2 = true → u1 = (.pointer (some ⟨b1, 3, none⟩))) ∧ (b 3 = true → e2 = (.slice A_b a1.length c_b)) ∧ (b 4 = true → z1 = (.slice A32 (([] : List Al) ++ a1).length c33)) ∧ (b 5 = true → y1 = (.pointer (some ⟨b1, 3, none⟩))) ∧ (b 6 = true → c2 = (.pointer (some ⟨b1, 4, none⟩))) ∧ (b 7 = true → d2 = (I g1)) ∧ (b 8 = true → g2 = (.agg [.slice A32 (([] : List Al) ++ a1).length c33, I g1].toArray)) ∧ (b 0 = true → b 4 = false → h2 = Box b29 152 []) ∧ (b 4 = true → h2 = Own Bb 152 A32 c33 (fun _ => ()) (([] : List Al) ++ a1)) ∧ (b 9 = true → b 10 = false → i2 = Box b35 58 [.slice none 0 0, I 0]) ∧ (b 10 = true → i2 = Box b35 58 [.slice A32 (([] : List Al) ++ a1).length c33, I g1])) ?_ ?_ ?_
  ·
   intro a hs
   obtain ⟨v1, hs⟩ := hs.ext (d := 4) Z
   obtain ⟨a2, hs⟩ := hs.ext (d := 22) Z
   obtain ⟨x1, hs⟩ := hs.ext (d := 23) Z
   obtain ⟨u1, hs⟩ := hs.ext (d := 24) Z
   obtain ⟨e2, hs⟩ := hs.ext (d := 25) Z
   obtain ⟨z1, hs⟩ := hs.ext (d := 26) Z
   obtain ⟨y1, hs⟩ := hs.ext (d := 27) Z
   obtain ⟨c2, hs⟩ := hs.ext (d := 28) Z
   obtain ⟨d2, hs⟩ := hs.ext (d := 29) Z
   obtain ⟨g2, hs⟩ := hs.ext (d := 30) Z
   exact ⟨a2, x1, u1, e2, z1, y1, c2, d2, g2, v1, 0, none, 0, 0, Emp, Emp, hs.weak ⟨Z, Z, Z, Z, Z, Z, Z, Z, Z, Z, Z, Z, Z, tv⟩, (HS.drew.emp.emp.pk 8 [2, 3, 4, 5, 6, 7, 1, 0] Z), fun h => Bool.noConfusion h, fun h => Bool.noConfusion h, fun h => Bool.noConfusion h, fun h => Bool.noConfusion h, fun h => Bool.noConfusion h, fun h => Bool.noConfusion h, fun h => Bool.noConfusion h, fun h => Bool.noConfusion h, fun h => Bool.noConfusion h, fun h => Bool.noConfusion h, fun h => Bool.noConfusion h, fun h => Bool.noConfusion h, fun h => Bool.noConfusion h, fun h => Bool.noConfusion h⟩
  ·
   intro j hj b a w
   refine exI fun a2 => exI fun x1 => exI fun u1 => exI fun e2 => exI fun z1 => exI fun y1 => exI fun c2 => exI fun d2 => exI fun g2 => exI fun v1 => exI fun b29 => exI fun A32 => exI fun c33 => exI fun b35 => exI fun h2 => exI fun i2 => anI fun hs => anI fun HS => anI fun f9 => anI fun f0 => anI fun f1 => anI fun f2 => anI fun f3 => anI fun f4 => anI fun f5 => anI fun f6 => anI fun f7 => anI fun f8 => anI fun k1 => anI fun m1 => anI fun n1 => fun o1 hb hd hcl => ?_
   match j, hj with
   | 0, _ =>
    refine GO.at hs (GO.F3 (el := 152) ([]) HS Z Z (fun _ => by kernel_rfl) Z fun b29 wd30 HS => GO.fin (fun a hs => ⟨(.slice (some ⟨b29, 0, none⟩) 0 0), _, _, _, _, _, _, _, _, _, b29, A32, c33, b35, Box b29 152 [], _, by exact hs.setAt 1 Z, HS.pk 9 [1, 2, 3, 4, 5, 6, 0, 8] Z, f9, fun _ => Z, f1, f2, f3, f4, f5, f6, f7, f8, fun _ _ => Z, fun hh => (Bool.noConfusion ((hcl 4 (by decide) hh 0 (by decide)).symm.trans hb)), n1, o1⟩))
   | 1, _ =>
    refine GO.at hs (fL b1 3 L8 Z (GO.fin (fun a hs => ⟨_, (.pointer (some ⟨b1, 3, none⟩)), _, _, _, _, _, _, _, _, b29, A32, c33, b35, _, _, by exact hs.setAt 2 Z, HS, f9, f0, fun _ => Z, f2, f3, f4, f5, f6, f7, f8, k1, m1, n1, o1⟩)))
   | 2, _ =>
    have hb1 : b 1 = true := hd 1 (by decide)
    obtain rfl := f1 hb1
    refine GO.at hs (fL b1 3 Iu Z (GO.fin (fun a hs => ⟨_, _, (.pointer (some ⟨b1, 3, none⟩)), _, _, _, _, _, _, _, b29, A32, c33, b35, _, _, by exact hs.setAt 3 Z, HS, f9, f0, f1, fun _ => Z, f3, f4, f5, f6, f7, f8, k1, m1, n1, o1⟩)))
   | 3, _ =>
    have hb2 : b 2 = true := hd 2 (by decide)
    obtain rfl := f2 hb2
    refine GO.at hs (lB 5 HS Z Ni Z (GO.fin (fun a hs => ⟨_, _, _, (.slice A_b a1.length c_b), _, _, _, _, _, _, b29, A32, c33, b35, _, _, by exact hs.setAt 4 Z, HS, f9, f0, f1, f2, fun _ => Z, f4, f5, f6, f7, f8, k1, m1, n1, o1⟩)))
   | 4, _ =>
    have hb0 : b 0 = true := hd 0 (by decide)
    obtain rfl := f0 hb0
    have hb3 : b 3 = true := hd 3 (by decide)
    obtain rfl := f3 hb3
    obtain rfl := k1 hb0 hb
    refine GO.at hs ?_
    replace HS := HS.J6 (T := Bb) (j := 6) Z Bv (fun _ => ()) ([] : List Al) Z (O3 Z)
    refine GO.Nb (t := 22) (m := ([] : List Al).length) (c' := ([] : List Al).length) Z Z Z (GO.Vb (T := Bb) (j := 6) HS Z (rD 8 r_b) Bv Z Z Z underlying56 dI Z Z Z c34 Z (fun _ => Z) fun A32 c33 wd31 HS => GO.fin (fun a hs => ⟨_, _, _, _, (.slice A32 (([] : List Al) ++ a1).length c33), _, _, _, _, _, b29, A32, c33, b35, Own Bb 152 A32 c33 (fun _ => ()) (([] : List Al) ++ a1), _, hs.weak ⟨Z, Z, Z, Z, Z, Z, Z, Z, Z, Z, Z, Z, Z, tv⟩, HS, f9, f0, f1, f2, f3, fun _ => Z, f5, f6, f7, fun hh => (Bool.noConfusion ((hcl 8 (by decide) hh 4 (by decide)).symm.trans hb)), fun _ h => Bool.noConfusion h, fun _ => Z, n1, fun hh => (Bool.noConfusion ((hcl 10 (by decide) hh 4 (by decide)).symm.trans hb))⟩))
   | 5, _ =>
    refine GO.at hs (fL b1 3 L8 Z (GO.fin (fun a hs => ⟨_, _, _, _, _, (.pointer (some ⟨b1, 3, none⟩)), _, _, _, _, b29, A32, c33, b35, _, _, by exact hs.setAt 6 Z, HS, f9, f0, f1, f2, f3, f4, fun _ => Z, f6, f7, f8, k1, m1, n1, o1⟩)))
   | 6, _ =>
    have hb5 : b 5 = true := hd 5 (by decide)
    obtain rfl := f5 hb5
    refine GO.at hs (fL b1 4 O1 Z (GO.fin (fun a hs => ⟨_, _, _, _, _, _, (.pointer (some ⟨b1, 4, none⟩)), _, _, _, b29, A32, c33, b35, _, _, by exact hs.setAt 7 Z, HS, f9, f0, f1, f2, f3, f4, f5, fun _ => Z, f7, f8, k1, m1, n1, o1⟩)))
   | 7, _ =>
    have hb6 : b 6 = true := hd 6 (by decide)
    obtain rfl := f6 hb6
    refine GO.at hs (lB 5 HS Z na2 Z (GO.fin (fun a hs => ⟨_, _, _, _, _, _, _, (I g1), _, _, b29, A32, c33, b35, _, _, by exact hs.setAt 8 Z, HS, f9, f0, f1, f2, f3, f4, f5, f6, fun _ => Z, f8, k1, m1, n1, o1⟩)))
   | 8, _ =>
    have hb4 : b 4 = true := hd 4 (by decide)
    obtain rfl := f4 hb4
    have hb7 : b 7 = true := hd 7 (by decide)
    obtain rfl := f7 hb7
    refine GO.at hs (GO.I9 (.agg [.slice A32 (([] : List Al) ++ a1).length c33, I g1].toArray) Z Z (fun _ => by kernel_rfl) Z (GO.fin (fun a hs => ⟨_, _, _, _, _, _, _, _, (.agg [.slice A32 (([] : List Al) ++ a1).length c33, I g1].toArray), _, b29, A32, c33, b35, _, _, by exact hs.setAt 9 Z, HS, f9, f0, f1, f2, f3, f4, f5, f6, f7, fun _ => Z, k1, m1, n1, o1⟩)))
   | 9, _ =>
    refine GO.at hs (GO.alloc HS Z qX Z Z fun b35 wd36 HS => GO.fin (fun a hs => ⟨_, _, _, _, _, _, _, _, _, (.pointer (some ⟨b35, 0, none⟩)), b29, A32, c33, b35, _, Box b35 58 [.slice none 0 0, I 0], by exact hs.setAt 0 Z, HS.pk 9 [1, 2, 3, 4, 5, 6, 7, 0] Z, fun _ => Z, f0, f1, f2, f3, f4, f5, f6, f7, f8, k1, m1, fun _ _ => Z, fun hh => (Bool.noConfusion ((hcl 10 (by decide) hh 9 (by decide)).symm.trans hb))⟩))
   | 10, _ =>
    have hb9 : b 9 = true := hd 9 (by decide)
    obtain rfl := f9 hb9
    have hb8 : b 8 = true := hd 8 (by decide)
    obtain rfl := f8 hb8
    obtain rfl := n1 hb9 hb
    refine GO.at hs (GO.C8 (j := 7) (vs := [.slice A32 (([] : List Al) ++ a1).length c33, I g1]) ([.slice A32 (([] : List Al) ++ a1).length c33, I g1]) HS Z Z Z Z Z (htA Np) Z Z Z fun wd37 HS => GO.fin (fun a hs => ⟨_, _, _, _, _, _, _, _, _, _, b29, A32, c33, b35, _, Box b35 58 [.slice A32 (([] : List Al) ++ a1).length c33, I g1], hs, HS, f9, f0, f1, f2, f3, f4, f5, f6, f7, f8, k1, m1, fun _ h => Bool.noConfusion h, fun _ => Z⟩))
   | k + 11, hj => exact absurd hj (Nat.not_lt.2 (Nat.le_add_left 11 k))
  ·
   intro b a w hall
   refine exI fun a2 => exI fun x1 => exI fun u1 => exI fun e2 => exI fun z1 => exI fun y1 => exI fun c2 => exI fun d2 => exI fun g2 => exI fun v1 => exI fun b29 => exI fun A32 => exI fun c33 => exI fun b35 => exI fun h2 => exI fun i2 => anI fun hs => anI fun HS => anI fun f9 => anI fun f0 => anI fun f1 => anI fun f2 => anI fun f3 => anI fun f4 => anI fun f5 => anI fun f6 => anI fun f7 => anI fun f8 => anI fun k1 => anI fun m1 => anI fun n1 => fun o1 => ?_
   obtain rfl := f9 (hall 9 (by decide))
   obtain rfl := f0 (hall 0 (by decide))
   obtain rfl := f1 (hall 1 (by decide))
   obtain rfl := f2 (hall 2 (by decide))
   obtain rfl := f3 (hall 3 (by decide))
   obtain rfl := f4 (hall 4 (by decide))
   obtain rfl := f5 (hall 5 (by decide))
   obtain rfl := f6 (hall 6 (by decide))
   obtain rfl := f7 (hall 7 (by decide))
   obtain rfl := f8 (hall 8 (by decide))
   obtain rfl := m1 (hall 4 (by decide))
   obtain rfl := o1 (hall 10 (by decide))
   refine G.at hs (sQ ?_)
   obtain ⟨t38, h39, H⟩ := bI H
   obtain ⟨t45, t46, h47, H⟩ := Dk H
   refine G.Oi mixed (fun w => St w0 w (Box b5 62 [I i1, I h1, .slice A11 (([] : List Ci) ++ e1).length c12, .slice A18 (([] : List Int) ++ c1).length c19, .slice A25 (([] : List Int) ++ d1).length c26] :: Box b1 64 [.string q1, I p1, .slice A_a t1.length c_a, .slice A_b a1.length c_b, I g1, I b2, .slice A_c s1.length c_c, I i1, I h1, .slice A_d e1.length c_d, .slice A_e c1.length c_e, .slice A_f d1.length c_f] :: Box b35 58 [.slice A32 (([] : List Al) ++ a1).length c33, I g1] :: L)) [1, 3, 5, 7, 9, 11] [0, 2, 4, 8, 1, 3, 5, 7, 9, 11, 6, 10, 12, 13] [] (by kernel_rfl) (by kernel_rfl) (HS.drew.pk 8 [3, 5, 7] Z) ?_
   replace HS := HS.drew
   refine qL Z Z (fun _ _ g => fL b1 0 K7 Z g) Z (qL Z Z (fun _ _ g => fL b1 1 Mk Z g) Z (qL Z Z (fun _ _ g => fL b1 2 Nk Z g) Z (qL Z Z (fun _ _ g => fL b1 5 Ml Z g) Z (GX.ls Z Z Z (HS.pk 8 [3, 5, 7] Z) (fun _ HS _ g => lB 1 HS Z na9 Z g) Z (GX.ls Z Z Z (HS.pk 8 [3, 5, 7] Z) (fun _ HS _ g => lB 1 HS Z na2 Z g) Z (GX.ls Z Z Z (HS.pk 8 [3, 5, 7] Z) (fun _ HS _ g => GO.Bu (j := 1) ([.slice A_a t1.length c_a]) HS Z Z Z Z Oc Z g) Z (GX.ls Z Z Z (HS.pk 8 [3, 5, 7] Z) (fun _ HS _ g => GO.Bu (j := 2) ([.slice A32 (([] : List Al) ++ a1).length c33, I g1]) HS Z Z Z Z Np Z g) Z (GX.ls Z Z Z (HS.pk 8 [3, 5, 7] Z) (fun _ HS _ g => GO.Bu (j := 1) ([I b2, .slice A_c s1.length c_c]) HS Z Z Z Z Rz Z g) Z (GX.ls Z Z Z (HS.pk 8 [3, 5, 7] Z) (fun _ HS _ g => GO.Bu (j := 0) ([I i1, I h1, .slice A11 (([] : List Ci) ++ e1).length c12, .slice A18 (([] : List Int) ++ c1).length c19, .slice A25 (([] : List Int) ++ d1).length c26]) HS Z Z Z Z Qn Z g) Z (GX.l2 Z (fN Z func90 uN.1 uN.2 Z Z (Gw.calls HS (rD 8 r_a) h39) (fun _ wd43 ⟨A40, c41, y42, h44, HS⟩ => ⟨_, h44, (GX.fin (HS.pk 9 [4, 6, 8] Z) (GX.l2 Z (fN Z func91 uY.1 uY.2 Z Z (Mc.calls HS (rD 9 r_c) h47) (fun _ wd50 ⟨A48, c49, h51, HS⟩ => ⟨_, h51, ?_⟩))))⟩))))))))))))
   refine GX.fin (HS.pk 10 [5, 7, 9] Z) (qL Z Z (fun _ _ g => GO.I9 (.agg [.string q1, I p1, .slice A40 t38.length c41, .slice A32 (([] : List Al) ++ a1).length c33, I g1, I t45, .slice A48 t46.length c49, I i1, I h1, .slice A11 (([] : List Ci) ++ e1).length c12, .slice A18 (([] : List Int) ++ c1).length c19, .slice A25 (([] : List Int) ++ d1).length c26].toArray) Z Z (fun _ => by kernel_rfl) Z g) Z (GX.l2 Z (GO.C8 (j := 6) (vs := [.string q1, I p1, .slice A40 t38.length c41, .slice A32 (([] : List Al) ++ a1).length c33, I g1, I t45, .slice A48 t46.length c49, I i1, I h1, .slice A11 (([] : List Ci) ++ e1).length c12, .slice A18 (([] : List Int) ++ c1).length c19, .slice A25 (([] : List Int) ++ d1).length c26]) ([.string q1, I p1, .slice A40 t38.length c41, .slice A32 (([] : List Al) ++ a1).length c33, I g1, I t45, .slice A48 t46.length c49, I i1, I h1, .slice A11 (([] : List Ci) ++ e1).length c12, .slice A18 (([] : List Int) ++ c1).length c19, .slice A25 (([] : List Int) ++ d1).length c26]) HS Z Z Z Z Z (htA Mq) Z Z Z fun wd52 HS => GX.fin (HS.pk 10 [5, 7, 9] Z) (GX.nil ?_))))
   obtain ⟨rfl, rfl, rfl, rfl, rfl, rfl, rfl, rfl, rfl, rfl, rfl, rfl⟩ := cK H
   exact rT _ func43 Z (Ki.Lr (j := 6) (vs := [.string q1, I p1, .slice A40 t38.length c41, .slice A32 (([] : List Al) ++ a1).length c33, I g1, I t45, .slice A48 t46.length c49, I i1, I h1, .slice A11 (([] : List Ci) ++ e1).length c12, .slice A18 (([] : List Int) ++ c1).length c19, .slice A25 (([] : List Int) ++ d1).length c26]) HS Z Z Z Mq) ⟨_, _, _, _, _, _, _, _, _, _, _, _, _, Z, (HS.pk 10 [1, 8, 0, 4, 3, 2] Z)⟩
theorem Gc.calls {list : List Am} {A_a : Option Addr} {c_a : Nat} {y_a : Nat → Aa.Lay} {r1 : List Am} (HS : St w0 w (L)) (r_a : Aq w0 L Aa A_a c_a y_a list) (H : Gc.f K list = some r1) :
    Calls prog 22 #[.slice A_a list.length c_a] w (Gc.post w0 L r1) := by
  unfold Gc.f at H
  refine cG func22 Z ?_
  refine rN 3 Z (rG (GO.F3 (el := 64) ([]) HS Z Z (fun _ => by kernel_rfl) Z fun b1 wd2 HS => ?_))
  replace HS := HS.Zf (T := Aa) (j := 0) Z (fun _ => ((), (), ⟨none, 0, (fun _ => ⟨none, 0, (fun _ => ())⟩)⟩, ⟨none, 0, (fun _ => ())⟩, (), (), ⟨none, 0, (fun _ => ())⟩, (), (), ⟨none, 0, (fun _ => ())⟩, ⟨none, 0, (fun _ => ())⟩, ⟨none, 0, (fun _ => ())⟩))
  refine GO.Nb (t := 5) (m := ([] : List Am).length) (c' := 0) Z Z Z (aS Z (nL (rN 5 Z ?_)))
  refine G.name (fun e1 h1 => ?_)
  have i1 : ∀ a1, a1 ≤ K → ∀ (A42 : Option Addr) (c43 : Nat) (c1 : List Am) (y45 : Nat → Aa.Lay) (d1 : Int) (w : World), Gc.l1 K a1 list c1 d1 = some r1 → St w0 w (Own Aa 64 A42 c43 y45 c1 :: L) → G prog 22 21 [(0, .slice A_a list.length c_a), (3, .slice A42 c1.length c43), (4, I d1)] e1 w (Gc.post w0 L r1) := by
   intro a1
   induction a1 using Nat.strongRecOn with
   | _ a1 f1 =>
    intro k1 A42 c43 c1 y45 d1 w H HS
    cases a1 with
    | zero => rw [Gc.l1] at H; cases H
    | succ g1 =>
     rw [Gc.l1] at H
     subst h1
     refine rN 2 Z (rG (pS 2 Z (lS Z Z underlying27 Z (GO.lss Z Z Z Z (nL ?_)))))
     rcases iE H with ⟨c86, H⟩ | ⟨c86, H⟩
     ·
      refine yB Z (tT c86) (rN 3 Z ?_)
      obtain ⟨c87, H⟩ := iN H
      obtain ⟨e88, h89, H⟩ := Cn H
      obtain ⟨t90, t91, t92, t93, t94, t95, t96, t97, t98, t99, t100, t101, h102, H⟩ := Jw H
      obtain ⟨c123, H⟩ := iN H
      refine rG (pS 3 Z (GO.ix Z Z Z underlying27 Jt ((rD 1 r_a) _ HS).2.2.1 c87.1 c87.2 Z (GO.Ja (T := Aa) (n := d1.toNat) HS (rD 1 r_a) Z Z (getD_eq (ltN c87) h89) Mq Z (fN Z func43 U0.1 U0.2 Z Z (Dw.calls HS (Aq.fld (rD 1 r_a) (getD_eq (ltN c87) h89) (fun _ h => h.2.2.1)) (Aq.fld (rD 1 r_a) (getD_eq (ltN c87) h89) (fun _ h => h.2.2.2.1)) (Aq.fld (rD 1 r_a) (getD_eq (ltN c87) h89) (fun _ h => h.2.2.2.2.2.2.1)) (Aq.fld (rD 1 r_a) (getD_eq (ltN c87) h89) (fun _ h => h.2.2.2.2.2.2.2.2.2.1)) (Aq.fld (rD 1 r_a) (getD_eq (ltN c87) h89) (fun _ h => h.2.2.2.2.2.2.2.2.2.2.1)) (Aq.fld (rD 1 r_a) (getD_eq (ltN c87) h89) (fun _ h => h.2.2.2.2.2.2.2.2.2.2.2)) h102) (fun _ wd116 ⟨A103, c104, y105, A106, c107, A108, c109, A110, c111, A112, c113, A114, c115, h117, HS⟩ => ⟨_, h117, (GO.F3 (el := 64) ([.string t90, I t91, .slice A103 t92.length c104, .slice A106 t93.length c107, I t94, I t95, .slice A108 t96.length c109, I t97, I t98, .slice A110 t99.length c111, .slice A112 t100.length c113, .slice A114 t101.length c115]) HS Z Z (fun _ => by kernel_rfl) Z fun b118 wd119 HS => ?_)⟩)))))
      replace HS := HS.pk 8 [6, 5, 4, 3, 2, 1, 7, 0] Z
      replace HS := Mh (Name := t90) (Kind := t91) (Aj := t94) (Ao := t95) (Ak := t97) (Ah := t98) HS
      replace HS := HS.pk 3 [1, 2, 0] Z
      refine GO.iG (T := Aa) ((), (), ⟨A103, c104, y105⟩, ⟨A106, c107, (fun _ => ())⟩, (), (), ⟨A108, c109, (fun _ => ())⟩, (), (), ⟨A110, c111, (fun _ => ())⟩, ⟨A112, c113, (fun _ => ())⟩, ⟨A114, c115, (fun _ => ())⟩) (⟨t90, t91, t92, t93, t94, t95, t96, t97, t98, t99, t100, t101⟩ : Am) HS Z Z Z underlying27 Uu Z Z Z c123 Z fun A121 c122 y124 wd120 HS => aS Z (nL (rN 3 Z (G.weak ?_ (f1 g1 (Nat.lt_succ_of_le (lR _)) (Nat.le_of_succ_le k1) _ _ _ _ _ _ H (HS.pk 2 [0] Z)))))
      exact ⟨Z, Z, Z, tv⟩
     refine nB Z (tF c86) (rN 3 Z ?_)
     obtain rfl := sI H
     exact rT _ func22 Z Z ⟨_, _, _, Z, HS⟩
  refine G.weak ?_ (i1 K (lR _) _ _ _ _ _ _ H HS)
  exact ⟨Z, Z, Z, tv⟩
theorem D6.calls {list : List (List Am)} {A_a : Option Addr} {c_a : Nat} {y_a : Nat → (Ty.slice 64 Aa).Lay} {r1 : List (List Am)} (HS : St w0 w (L)) (r_a : Aq w0 L (Ty.slice 64 Aa) A_a c_a y_a list) (H : D6.f K list = some r1) :
    Calls prog 61 #[.slice A_a list.length c_a] w (D6.post w0 L r1) := by
  unfold D6.f at H
  refine cG func61 Z ?_
  refine rN 3 Z (rG (GO.F3 (el := 27) ([]) HS Z Z (fun _ => by kernel_rfl) Z fun b1 wd2 HS => ?_))
  replace HS := HS.Zf (T := (Ty.slice 64 Aa)) (j := 0) Z (fun _ => ⟨none, 0, (fun _ => ((), (), ⟨none, 0, (fun _ => ⟨none, 0, (fun _ => ())⟩)⟩, ⟨none, 0, (fun _ => ())⟩, (), (), ⟨none, 0, (fun _ => ())⟩, (), (), ⟨none, 0, (fun _ => ())⟩, ⟨none, 0, (fun _ => ())⟩, ⟨none, 0, (fun _ => ())⟩))⟩)
  refine GO.Nb (t := 5) (m := ([] : List (List Am)).length) (c' := 0) Z Z Z (aS Z (nL (rN 5 Z ?_)))
  refine G.name (fun e1 h1 => ?_)
  have i1 : ∀ a1, a1 ≤ K → ∀ (A19 : Option Addr) (c20 : Nat) (d1 : List (List Am)) (y22 : Nat → (Ty.slice 64 Aa).Lay) (c1 : Int) (w : World), D6.l1 K a1 list d1 c1 = some r1 → St w0 w (Own (Ty.slice 64 Aa) 27 A19 c20 y22 d1 :: L) → G prog 61 21 [(0, .slice A_a list.length c_a), (3, .slice A19 d1.length c20), (4, I c1)] e1 w (D6.post w0 L r1) := by
   intro a1
   induction a1 using Nat.strongRecOn with
   | _ a1 f1 =>
    intro k1 A19 c20 d1 y22 c1 w H HS
    cases a1 with
    | zero => rw [D6.l1] at H; cases H
    | succ g1 =>
     rw [D6.l1] at H
     subst h1
     refine rN 2 Z (rG (pS 2 Z (lS Z Z underlying28 Z (GO.lss Z Z Z Z (nL ?_)))))
     rcases iE H with ⟨c40, H⟩ | ⟨c40, H⟩
     ·
      refine yB Z (tT c40) (rN 3 Z ?_)
      obtain ⟨c41, H⟩ := iN H
      obtain ⟨t42, h43, H⟩ := bI H
      obtain ⟨c54, H⟩ := iN H
      refine rG (pS 3 Z (GO.ix Z Z Z underlying28 V5 ((rD 1 r_a) _ HS).2.2.1 c41.1 c41.2 Z (GO.Fq (T := (Ty.slice 64 Aa)) (n := c1.toNat) (o := 0) HS (rD 1 r_a) Z Z (getD_some (d := []) (ltN c41)) Z Z Nq Z (fN Z func22 gJ.1 gJ.2 Z Z (Gc.calls HS (Aq.elem (rD 1 r_a) c41.1 c41.2) h43) (fun _ wd47 ⟨A44, c45, y46, h48, HS⟩ => ⟨_, h48, (GO.F3 (el := 27) ([.slice A44 t42.length c45]) HS Z Z (fun _ => by kernel_rfl) Z fun b49 wd50 HS => ?_)⟩)))))
      replace HS := HS.pk 3 [2, 0, 1] Z
      refine GO.aT (S := Aa) (u := 64) HS Z Z Z underlying28 aI Z Z c54 Z fun A52 c53 y55 wd51 HS => aS Z (nL (rN 3 Z (G.weak ?_ (f1 g1 (Nat.lt_succ_of_le (lR _)) (Nat.le_of_succ_le k1) _ _ _ _ _ _ H (HS.pk 2 [0] Z)))))
      exact ⟨Z, Z, Z, tv⟩
     refine nB Z (tF c40) (rN 3 Z ?_)
     obtain rfl := sI H
     exact rT _ func61 Z Z ⟨_, _, _, Z, HS⟩
  refine G.weak ?_ (i1 K (lR _) _ _ _ _ _ _ H HS)
  exact ⟨Z, Z, Z, tv⟩
theorem Kt.calls {stack : List (List Am)} {list : List Am} {A_a : Option Addr} {c_a : Nat} {y_a : Nat → (Ty.slice 64 Aa).Lay} {A_b : Option Addr} {c_b : Nat} {y_b : Nat → Aa.Lay} {r1 : List (List Am)} (HS : St w0 w (L)) (r_a : Aq w0 L (Ty.slice 64 Aa) A_a c_a y_a stack) (r_b : Aq w0 L Aa A_b c_b y_b list) (H : Kt.f K stack list = some r1) :
    Calls prog 23 #[.slice A_a stack.length c_a, .slice A_b list.length c_b] w (Kt.post w0 L r1) := by
  unfold Kt.f at H
  refine cG func23 Z ?_
  refine rN 3 Z ?_
  obtain ⟨t1, h2, H⟩ := bI H
  obtain ⟨t8, h9, H⟩ := bI H
  obtain ⟨c20, H⟩ := iN H
  refine rG (mV Z (fN Z func61 tX.1 tX.2 Z Z (D6.calls HS r_a h2) (fun _ wd6 ⟨A3, c4, y5, h7, HS⟩ => ⟨_, h7, (mV Z (fN Z func22 gJ.1 gJ.2 Z Z (Gc.calls HS (rD 1 r_b) h9) (fun _ wd13 ⟨A10, c11, y12, h14, HS⟩ => ⟨_, h14, (GO.F3 (el := 27) ([.slice A10 t8.length c11]) HS Z Z (fun _ => by kernel_rfl) Z fun b15 wd16 HS => ?_)⟩)))⟩)))
  replace HS := HS.pk 3 [2, 0, 1] Z
  refine GO.aT (S := Aa) (u := 64) HS Z Z Z underlying28 aI Z Z c20 Z fun A18 c19 y21 wd17 HS => aS Z (nL (rN 2 Z (rG (mV Z (lS Z Z underlying28 Z (GO.gtr Z Z Z Z (nL ?_)))))))
  rcases iE H with ⟨c22, H⟩ | ⟨c22, H⟩
  ·
   refine yB Z (tT c22) ?_
   obtain ⟨c23, H⟩ := iN H
   refine rG (mV Z (GO.slL (T := (Ty.slice 64 Aa)) HS (Aq.own (j := 0) Z) Z Z Z underlying28 V5 c23.1 c23.2 Z (aS Z (nL (rN 2 Z ?_)))))
   replace HS := HS.dD (A' := (Jz A18 1 c19 1)) (c' := (c19 - 1)) (j := 0) (l := 1) (h := (t1 ++ [t8]).length) (m := c19) Z (leN c23) (lR _) (Nat.le_trans (lR _) ((Aq.own (j := 0) Z) _ HS).1) (lR _) Z Z
   obtain rfl := sI H
   exact rT _ func23 Z Z ⟨_, _, _, Z, (HS.pk 2 [0] Z)⟩
  refine nB Z (tF c22) (rN 3 Z ?_)
  obtain rfl := sI H
  exact rT _ func23 Z Z ⟨_, _, _, Z, (HS.pk 2 [0] Z)⟩
theorem Be.calls {c1 : List Am} {a1 t1 : List (List Am)} {q1 : ByteArray} {o1 : Int} {h1 : List (List Bt)} {d1 : List Al} {k1 m1 : Int} {e1 : List Int} {p1 n1 : Int} {i1 : List Ci} {f1 g1 : List Int} {A_a : Option Addr} {c_a : Nat} {y_a : Nat → Aa.Lay} {A_b : Option Addr} {c_b : Nat} {y_b : Nat → (Ty.slice 64 Aa).Lay} {A_c : Option Addr} {c_c : Nat} {y_c : Nat → (Ty.slice 64 Aa).Lay} {A_d : Option Addr} {c_d : Nat} {y_d : Nat → (Ty.slice 157 Bc).Lay} {A_e : Option Addr} {c_e : Nat} {A_f : Option Addr} {c_f : Nat} {A_g : Option Addr} {c_g : Nat} {A_h : Option Addr} {c_h : Nat} {A_i : Option Addr} {c_i : Nat} {r1 : List Am} {r2 r3 : List (List Am)} {r4 : Int} (HS : St w0 w (L)) (r_a : Aq w0 L Aa A_a c_a y_a c1) (r_b : Aq w0 L (Ty.slice 64 Aa) A_b c_b y_b a1) (r_c : Aq w0 L (Ty.slice 64 Aa) A_c c_c y_c t1) (r_d : Aq w0 L (Ty.slice 157 Bc) A_d c_d y_d h1) (r_e : Aq w0 L Bb A_e c_e (fun _ => ()) d1) (r_f : Aq w0 L (Bq .i64) A_f c_f (fun _ => ()) e1) (r_g : Aq w0 L Cq A_g c_g (fun _ => ()) i1) (r_h : Aq w0 L (Bq .i64) A_h c_h (fun _ => ()) f1) (r_i : Aq w0 L (Bq .i64) A_i c_i (fun _ => ()) g1) (H : Be.f K c1 a1 t1 q1 o1 h1 d1 k1 m1 e1 p1 n1 i1 f1 g1 = some (r1, r2, r3, r4)) :
    Calls prog 13 #[.agg [.slice A_a c1.length c_a, .slice A_b a1.length c_b, .slice A_c t1.length c_c].toArray, .agg [.string q1, I o1, .slice A_d h1.length c_d, .slice A_e d1.length c_e, I k1, I m1, .slice A_f e1.length c_f, I p1, I n1, .slice A_g i1.length c_g, .slice A_h f1.length c_h, .slice A_i g1.length c_i].toArray] w (Be.post w0 L r1 r2 r3 r4) := by
  unfold Be.f at H
  refine cG func13 Z ?_
  refine sQ (rG (GO.box (cs := [.slice A_a c1.length c_a, .slice A_b a1.length c_b, .slice A_c t1.length c_c]) HS Z Z Z Z fun b1 wd2 HS => GO.box (cs := [.string q1, I o1, .slice A_d h1.length c_d, .slice A_e d1.length c_e, I k1, I m1, .slice A_f e1.length c_f, I p1, I n1, .slice A_g i1.length c_g, .slice A_h f1.length c_h, .slice A_i g1.length c_i]) HS Z Z Z Z fun b3 wd4 HS => GO.alloc HS Z Xn Z Z fun b5 wd6 HS => aS Z (nL (rN 2 Z ?_))))
  obtain ⟨t16, h17, H⟩ := bI H
  rcases iE H with ⟨c20, H⟩ | ⟨c20, H⟩
  ·
   obtain ⟨t21, h22, H⟩ := bI H
   refine rG (GO.Bu (j := 2) ([.slice A_a c1.length c_a, .slice A_b a1.length c_b, .slice A_c t1.length c_c]) HS Z Z Z Z Km Z (fN Z func20 fI.1 fI.2 Z Z (Il.calls HS (rD 3 r_a) (rD 3 r_b) (rD 3 r_c) h17) (fun _ wd18 ⟨h19, HS⟩ => ⟨_, h19, (pS 2 Z (kN 12 Z (congrArg Bool.not c20) (oN Z (GO.Bu (j := 1) ([.string q1, I o1, .slice A_d h1.length c_d, .slice A_e d1.length c_e, I k1, I m1, .slice A_f e1.length c_f, I p1, I n1, .slice A_g i1.length c_g, .slice A_h f1.length c_h, .slice A_i g1.length c_i]) HS Z Z Z Z Mq Z (bK (oN Z (fN Z func42 Uo.1 Uo.2 Z Z (Cr.calls HS (rD 3 r_d) (rD 3 r_e) (rD 3 r_f) (rD 3 r_g) (rD 3 r_h) (rD 3 r_i) h22) (fun _ wd23 ⟨h24, HS⟩ => ⟨_, h24, (bK (oN Z (GO.not Z Z Z (bK (GO.Js Z Z Z Z Z ?_)))))⟩))))))))⟩)))
   refine nL ?_
   rcases iE H with ⟨c25, H⟩ | ⟨c25, H⟩
   ·
    refine nB Z (congrArg Bool.not c25) (rN 3 Z ?_)
    refine G.Ps (fun t2 y2 => ?_)
    have o2 : ∀ a2, a2 ≤ K → ∀ (x36 : Bool) (w : World), Be.j1 K a2 c1 a1 q1 o1 h1 d1 k1 m1 e1 p1 n1 i1 f1 g1 x36 = some (r1, r2, r3, r4) → St w0 w (Box b1 30 [.slice A_a c1.length c_a, .slice A_b a1.length c_b, .slice A_c t1.length c_c] :: Box b3 64 [.string q1, I o1, .slice A_d h1.length c_d, .slice A_e d1.length c_e, I k1, I m1, .slice A_f e1.length c_f, I p1, I n1, .slice A_g i1.length c_g, .slice A_h f1.length c_h, .slice A_i g1.length c_i] :: Box b5 30 [.slice none 0 0, .slice none 0 0, .slice none 0 0] :: L) → G prog 13 89 [(2, .pointer (some ⟨b1, 0, none⟩)), (3, .pointer (some ⟨b3, 0, none⟩)), (4, .pointer (some ⟨b5, 0, none⟩)), (29, .bool x36)] t2 w (Be.post w0 L r1 r2 r3 r4) := by
     intro a2 i3 x36 w H HS
     cases a2 with
     | zero => rw [Be.j1] at H; cases H
     | succ k2 =>
      rw [Be.j1] at H
      subst y2
      rcases iE H with ⟨c37, H⟩ | ⟨c37, H⟩
      ·
       refine yB Z c37 (sQ (rG (GO.I9 (.agg [.slice none 0 0, .slice none 0 0, .slice none 0 0].toArray) Z Z (fun _ => by kernel_rfl) Z (GO.C8 (j := 2) (vs := [.slice none 0 0, .slice none 0 0, .slice none 0 0]) ([.slice none 0 0, .slice none 0 0, .slice none 0 0]) HS Z Z Z Z Z (htA Km) Z Z Z fun wd38 HS => aS Z (nL ?_)))))
       replace HS := HS.Gr Aa 64 (fun _ => ((), (), ⟨none, 0, (fun _ => ⟨none, 0, (fun _ => ())⟩)⟩, ⟨none, 0, (fun _ => ())⟩, (), (), ⟨none, 0, (fun _ => ())⟩, (), (), ⟨none, 0, (fun _ => ())⟩, ⟨none, 0, (fun _ => ())⟩, ⟨none, 0, (fun _ => ())⟩))
       replace HS := HS.Gr (Ty.slice 64 Aa) 27 (fun _ => ⟨none, 0, (fun _ => ((), (), ⟨none, 0, (fun _ => ⟨none, 0, (fun _ => ())⟩)⟩, ⟨none, 0, (fun _ => ())⟩, (), (), ⟨none, 0, (fun _ => ())⟩, (), (), ⟨none, 0, (fun _ => ())⟩, ⟨none, 0, (fun _ => ())⟩, ⟨none, 0, (fun _ => ())⟩))⟩)
       replace HS := HS.Gr (Ty.slice 64 Aa) 27 (fun _ => ⟨none, 0, (fun _ => ((), (), ⟨none, 0, (fun _ => ⟨none, 0, (fun _ => ())⟩)⟩, ⟨none, 0, (fun _ => ())⟩, (), (), ⟨none, 0, (fun _ => ())⟩, (), (), ⟨none, 0, (fun _ => ())⟩, ⟨none, 0, (fun _ => ())⟩, ⟨none, 0, (fun _ => ())⟩))⟩)
       obtain ⟨rfl, rfl, rfl, rfl⟩ := Qb H
       exact G.Oy _ _ func13 Z (Ki.Lr (j := 5) (vs := [.slice none 0 0, .slice none 0 0, .slice none 0 0]) HS Z Z Z Km) Z ⟨_, _, _, _, _, _, _, _, _, Z, (HS.pk 6 [2, 1, 0] Z)⟩
      refine nB Z (Ca c37) (rN 2 Z (rG (GO.F3 (el := 64) ([]) HS Z Z (fun _ => by kernel_rfl) Z fun b39 wd40 HS => ?_)))
      replace HS := HS.Zf (T := Aa) (j := 0) Z (fun _ => ((), (), ⟨none, 0, (fun _ => ⟨none, 0, (fun _ => ())⟩)⟩, ⟨none, 0, (fun _ => ())⟩, (), (), ⟨none, 0, (fun _ => ())⟩, (), (), ⟨none, 0, (fun _ => ())⟩, ⟨none, 0, (fun _ => ())⟩, ⟨none, 0, (fun _ => ())⟩))
      refine GO.Nb (t := 31) (m := ([] : List Am).length) (c' := 0) Z Z Z (aS Z (nL (rN 7 Z ?_)))
      refine G.name (fun c3 u2 => ?_)
      have q2 : ∀ x1, x1 ≤ k2 → ∀ (A204 : Option Addr) (c205 : Nat) (v1 : List Am) (y207 : Nat → Aa.Lay) (z1 : Bool) (s1 : Int) (w : World), Be.l2 K x1 c1 a1 q1 o1 h1 d1 k1 m1 e1 p1 n1 i1 f1 g1 v1 z1 s1 = some (r1, r2, r3, r4) → St w0 w (Box b1 30 [.slice A_a c1.length c_a, .slice A_b a1.length c_b, .slice A_c t1.length c_c] :: Box b3 64 [.string q1, I o1, .slice A_d h1.length c_d, .slice A_e d1.length c_e, I k1, I m1, .slice A_f e1.length c_f, I p1, I n1, .slice A_g i1.length c_g, .slice A_h f1.length c_h, .slice A_i g1.length c_i] :: Box b5 30 [.slice none 0 0, .slice none 0 0, .slice none 0 0] :: Own Aa 64 A204 c205 y207 v1 :: L) → G prog 13 89 [(2, .pointer (some ⟨b1, 0, none⟩)), (3, .pointer (some ⟨b3, 0, none⟩)), (4, .pointer (some ⟨b5, 0, none⟩)), (6, .slice A204 v1.length c205), (7, .bool z1), (8, I s1)] c3 w (Be.post w0 L r1 r2 r3 r4) := by
       intro x1
       induction x1 using Nat.strongRecOn with
       | _ x1 m2 =>
        intro h3 A204 c205 v1 y207 z1 s1 w H HS
        cases x1 with
        | zero => rw [Be.l2] at H; cases H
        | succ y1 =>
         rw [Be.l2] at H
         subst u2
         refine rN 2 Z (rG (mV Z (fL b1 0 K5 Z (lB 0 HS Z Nq Z (lS Z Z underlying27 Z (GO.lss Z Z Z Z (nL ?_)))))))
         rcases iE H with ⟨c424, H⟩ | ⟨c424, H⟩
         ·
          refine yB Z (tT c424) (rN 5 Z ?_)
          refine G.Ps (fun v2 x2 => ?_)
          have h2 : ∀ d2, d2 ≤ y1 → ∀ (x433 : Bool) (w : World), Be.j7 K d2 c1 a1 q1 o1 h1 d1 k1 m1 e1 p1 n1 i1 f1 g1 v1 z1 s1 x433 = some (r1, r2, r3, r4) → St w0 w (Box b1 30 [.slice A_a c1.length c_a, .slice A_b a1.length c_b, .slice A_c t1.length c_c] :: Box b3 64 [.string q1, I o1, .slice A_d h1.length c_d, .slice A_e d1.length c_e, I k1, I m1, .slice A_f e1.length c_f, I p1, I n1, .slice A_g i1.length c_g, .slice A_h f1.length c_h, .slice A_i g1.length c_i] :: Box b5 30 [.slice none 0 0, .slice none 0 0, .slice none 0 0] :: Own Aa 64 A204 c205 y207 v1 :: L) → G prog 13 89 [(2, .pointer (some ⟨b1, 0, none⟩)), (3, .pointer (some ⟨b3, 0, none⟩)), (4, .pointer (some ⟨b5, 0, none⟩)), (6, .slice A204 v1.length c205), (7, .bool z1), (8, I s1), (51, .bool x433)] v2 w (Be.post w0 L r1 r2 r3 r4) := by
           intro d2 e3 x433 w H HS
           cases d2 with
           | zero => rw [Be.j7] at H; cases H
           | succ f2 =>
            rw [Be.j7] at H
            subst x2
            refine G.Ps (fun z2 a3 => ?_)
            have i2 : ∀ c2, c2 ≤ f2 → ∀ (A470 : Option Addr) (c471 : Nat) (b2 : List Am) (y473 : Nat → Aa.Lay) (g2 : Bool) (w : World), Be.j8 K c2 c1 a1 q1 o1 h1 d1 k1 m1 e1 p1 n1 i1 f1 g1 s1 b2 g2 = some (r1, r2, r3, r4) → St w0 w (Box b1 30 [.slice A_a c1.length c_a, .slice A_b a1.length c_b, .slice A_c t1.length c_c] :: Box b3 64 [.string q1, I o1, .slice A_d h1.length c_d, .slice A_e d1.length c_e, I k1, I m1, .slice A_f e1.length c_f, I p1, I n1, .slice A_g i1.length c_g, .slice A_h f1.length c_h, .slice A_i g1.length c_i] :: Box b5 30 [.slice none 0 0, .slice none 0 0, .slice none 0 0] :: Own Aa 64 A470 c471 y473 b2 :: L) → G prog 13 89 [(2, .pointer (some ⟨b1, 0, none⟩)), (3, .pointer (some ⟨b3, 0, none⟩)), (4, .pointer (some ⟨b5, 0, none⟩)), (6, .slice A470 b2.length c471), (7, .bool g2), (8, I s1)] z2 w (Be.post w0 L r1 r2 r3 r4) := by
             intro c2 g3 A470 c471 b2 y473 g2 w H HS
             cases c2 with
             | zero => rw [Be.j8] at H; cases H
             | succ n2 =>
              rw [Be.j8] at H
              subst a3
              refine sQ ?_
              obtain ⟨c475, H⟩ := iN H
              obtain ⟨e476, h477, H⟩ := Cn H
              refine G.lex mixed [0, 2, 6, 1, 3, 4, 5, 7, 8] (by kernel_rfl) ?_
              replace HS := HS.drew
              refine qL Z Z (fun _ _ g => fL b1 0 K5 Z g) Z (GX.ps 1 Z (qL Z Z (fun _ _ g => fL b3 0 K7 Z g) Z (GX.l1 Z Z Z (fun _ g => lB 0 HS Z Nq Z g) Z (qL Z Z (fun _ _ g => GO.ix Z Z Z underlying27 Jt ((rD 4 r_a) _ HS).2.2.1 c475.1 c475.2 Z g) Z (qL Z Z (fun _ _ g => GO.fld (ea A_a (s1.toNat * 12)) Z Z K7 Z Z g) Z (GX.l1 Z Z Z (fun _ g => GO.Fq (T := Aa) (n := s1.toNat) (o := 0) HS (rD 4 r_a) Z Z (getD_eq (ltN c475) h477) Z Z na9 Z g) Z (GX.l1 Z Z Z (fun _ g => lB 1 HS Z na9 Z g) Z (qL Z Z (fun _ _ g => GO.wF Z Z Z Z g) Z (GX.nil ?_)))))))))
              rcases iE H with ⟨c478, H⟩ | ⟨c478, H⟩
              ·
               refine nB Z (congrArg Bool.not c478) (rN 4 Z (G.weak ?_ (m2 n2 (by omega) (by omega) _ _ _ _ _ _ _ H HS)))
               exact ⟨Z, Z, Z, Z, Z, Z, tv⟩
              refine yB Z (congrArg Bool.not (Ca c478)) ?_
              obtain ⟨t479, t480, t481, t482, t483, t484, t485, t486, t487, t488, t489, t490, h491, H⟩ := Jw H
              obtain ⟨c512, H⟩ := iN H
              refine rG (mV Z (fL b1 0 K5 Z (lB 0 HS Z Nq Z (mV Z (GO.ix Z Z Z underlying27 Jt ((rD 4 r_a) _ HS).2.2.1 c475.1 c475.2 Z (GO.Ja (T := Aa) (n := s1.toNat) HS (rD 4 r_a) Z Z (getD_eq (ltN c475) h477) Mq Z (fN Z func43 U0.1 U0.2 Z Z (Dw.calls HS (Aq.fld (rD 4 r_a) (getD_eq (ltN c475) h477) (fun _ h => h.2.2.1)) (Aq.fld (rD 4 r_a) (getD_eq (ltN c475) h477) (fun _ h => h.2.2.2.1)) (Aq.fld (rD 4 r_a) (getD_eq (ltN c475) h477) (fun _ h => h.2.2.2.2.2.2.1)) (Aq.fld (rD 4 r_a) (getD_eq (ltN c475) h477) (fun _ h => h.2.2.2.2.2.2.2.2.2.1)) (Aq.fld (rD 4 r_a) (getD_eq (ltN c475) h477) (fun _ h => h.2.2.2.2.2.2.2.2.2.2.1)) (Aq.fld (rD 4 r_a) (getD_eq (ltN c475) h477) (fun _ h => h.2.2.2.2.2.2.2.2.2.2.2)) h491) (fun _ wd505 ⟨A492, c493, y494, A495, c496, A497, c498, A499, c500, A501, c502, A503, c504, h506, HS⟩ => ⟨_, h506, (GO.F3 (el := 64) ([.string t479, I t480, .slice A492 t481.length c493, .slice A495 t482.length c496, I t483, I t484, .slice A497 t485.length c498, I t486, I t487, .slice A499 t488.length c500, .slice A501 t489.length c502, .slice A503 t490.length c504]) HS Z Z (fun _ => by kernel_rfl) Z fun b507 wd508 HS => ?_)⟩))))))))
              replace HS := HS.pk 11 [6, 5, 4, 3, 2, 1, 10, 0, 7, 8, 9] Z
              replace HS := Mh (Name := t479) (Kind := t480) (Aj := t483) (Ao := t484) (Ak := t486) (Ah := t487) HS
              replace HS := HS.pk 6 [1, 2, 0, 3, 4, 5] Z
              refine GO.iG (T := Aa) ((), (), ⟨A492, c493, y494⟩, ⟨A495, c496, (fun _ => ())⟩, (), (), ⟨A497, c498, (fun _ => ())⟩, (), (), ⟨A499, c500, (fun _ => ())⟩, ⟨A501, c502, (fun _ => ())⟩, ⟨A503, c504, (fun _ => ())⟩) (⟨t479, t480, t481, t482, t483, t484, t485, t486, t487, t488, t489, t490⟩ : Am) HS Z Z Z underlying27 Uu Z Z Z c512 Z fun A510 c511 y513 wd509 HS => aS Z (nL (rN 3 Z (G.weak ?_ (m2 n2 (by omega) (by omega) _ _ _ _ _ _ _ H (HS.pk 5 [2, 3, 4, 0] Z)))))
              exact ⟨Z, Z, Z, Z, Z, Z, tv⟩
            rcases iE H with ⟨c514, H⟩ | ⟨c514, H⟩
            ·
             refine yB Z c514 (sQ ?_)
             obtain ⟨t515, t516, t517, t518, t519, t520, t521, t522, t523, t524, t525, t526, h527, H⟩ := Jw H
             obtain ⟨c548, H⟩ := iN H
             refine rG (mV Z (GO.Bu (j := 1) ([.string q1, I o1, .slice A_d h1.length c_d, .slice A_e d1.length c_e, I k1, I m1, .slice A_f e1.length c_f, I p1, I n1, .slice A_g i1.length c_g, .slice A_h f1.length c_h, .slice A_i g1.length c_i]) HS Z Z Z Z Mq Z (fN Z func43 U0.1 U0.2 Z Z (Dw.calls HS (rD 4 r_d) (rD 4 r_e) (rD 4 r_f) (rD 4 r_g) (rD 4 r_h) (rD 4 r_i) h527) (fun _ wd541 ⟨A528, c529, y530, A531, c532, A533, c534, A535, c536, A537, c538, A539, c540, h542, HS⟩ => ⟨_, h542, (GO.F3 (el := 64) ([.string t515, I t516, .slice A528 t517.length c529, .slice A531 t518.length c532, I t519, I t520, .slice A533 t521.length c534, I t522, I t523, .slice A535 t524.length c536, .slice A537 t525.length c538, .slice A539 t526.length c540]) HS Z Z (fun _ => by kernel_rfl) Z fun b543 wd544 HS => ?_)⟩))))
             replace HS := HS.pk 11 [6, 5, 4, 3, 2, 1, 10, 0, 7, 8, 9] Z
             replace HS := Mh (Name := t515) (Kind := t516) (Aj := t519) (Ao := t520) (Ak := t522) (Ah := t523) HS
             replace HS := HS.pk 6 [1, 2, 0, 3, 4, 5] Z
             refine GO.iG (T := Aa) ((), (), ⟨A528, c529, y530⟩, ⟨A531, c532, (fun _ => ())⟩, (), (), ⟨A533, c534, (fun _ => ())⟩, (), (), ⟨A535, c536, (fun _ => ())⟩, ⟨A537, c538, (fun _ => ())⟩, ⟨A539, c540, (fun _ => ())⟩) (⟨t515, t516, t517, t518, t519, t520, t521, t522, t523, t524, t525, t526⟩ : Am) HS Z Z Z underlying27 Uu Z Z Z c548 Z fun A546 c547 y549 wd545 HS => aS Z (nL (rN 1 Z (G.weak ?_ (i2 f2 (lR _) _ _ _ _ _ _ H (HS.pk 5 [2, 3, 4, 0] Z)))))
             exact ⟨Z, Z, Z, Z, Z, Z, tv⟩
            refine nB Z (Ca c514) (G.skip (G.weak ?_ (i2 f2 (lR _) _ _ _ _ _ _ H HS)))
            exact ⟨Z, Z, Z, Z, Z, Z, tv⟩
          rcases iE H with ⟨c550, H⟩ | ⟨c550, H⟩
          ·
           refine G.lex mixed [0, 1, 2, 3, 5, 9, 4, 6, 7, 8, 10, 11, 12] (by kernel_rfl) ?_
           replace HS := HS.drew
           refine GX.ps 2 Z (qL Z Z (fun _ _ g => mV Z (kN 41 Z (congrArg Bool.not c550) g)) Z (qL Z Z (fun _ _ g => oF Z g) Z (qL Z Z (fun _ _ g => oF Z g) Z (qL Z Z (fun _ _ g => oF Z g) Z (GX.l1 Z Z Z (fun _ g => oF Z g) Z (qL Z Z (fun _ _ g => oF Z g) Z (qL Z Z (fun _ _ g => oF Z g) Z (GX.l1 Z Z Z (fun _ g => oF Z g) Z (GX.l1 Z Z Z (fun _ g => oF Z g) Z (qL Z Z (fun _ _ g => oF Z g) Z (GX.ps 1 Z (GX.nil (G.weak ?_ (h2 y1 (lR _) _ _ H HS))))))))))))))
           exact ⟨Z, Z, Z, Z, Z, Z, Z, tv⟩
          obtain ⟨c551, H⟩ := iN H
          obtain ⟨e552, h553, H⟩ := Cn H
          refine G.lex mixed [0, 1, 2, 3, 5, 9, 4, 6, 7, 8, 10, 11, 12] (by kernel_rfl) ?_
          replace HS := HS.drew
          refine GX.ps 2 Z (qL Z Z (fun _ _ g => mV Z (kN 41 Z (congrArg Bool.not (Ca c550)) g)) Z (qL Z Z (fun _ _ g => oN Z (fL b1 0 K5 Z (bK g))) Z (qL Z Z (fun _ _ g => oN Z (mV Z (bK g))) Z (qL Z Z (fun _ _ g => oN Z (fL b3 0 K7 Z (bK g))) Z (GX.l1 Z Z Z (fun _ g => oN Z (lB 0 HS Z Nq Z (bK g))) Z (qL Z Z (fun _ _ g => oN Z (GO.ix Z Z Z underlying27 Jt ((rD 4 r_a) _ HS).2.2.1 c551.1 c551.2 Z (bK g))) Z (qL Z Z (fun _ _ g => oN Z (GO.fld (ea A_a (s1.toNat * 12)) Z Z K7 Z Z (bK g))) Z (GX.l1 Z Z Z (fun _ g => oN Z (GO.Fq (T := Aa) (n := s1.toNat) (o := 0) HS (rD 4 r_a) Z Z (getD_eq (ltN c551) h553) Z Z na9 Z (bK g))) Z (GX.l1 Z Z Z (fun _ g => oN Z (lB 1 HS Z na9 Z (bK g))) Z (qL Z Z (fun _ _ g => oN Z (GO.wC Z Z Z Z (bK g))) Z (GX.ps 1 Z (GX.nil (G.weak ?_ (h2 y1 (lR _) _ _ H HS))))))))))))))
          exact ⟨Z, Z, Z, Z, Z, Z, Z, tv⟩
         refine nB Z (tF c424) (rN 4 Z ?_)
         refine G.Ps (fun s2 d3 => ?_)
         have p2 : ∀ e2, e2 ≤ y1 → ∀ (A590 : Option Addr) (c591 : Nat) (u1 : List Am) (y593 : Nat → Aa.Lay) (w : World), Be.j9 K e2 c1 a1 u1 = some (r1, r2, r3, r4) → St w0 w (Box b1 30 [.slice A_a c1.length c_a, .slice A_b a1.length c_b, .slice A_c t1.length c_c] :: Box b5 30 [.slice none 0 0, .slice none 0 0, .slice none 0 0] :: Own Aa 64 A590 c591 y593 u1 :: L) → G prog 13 89 [(2, .pointer (some ⟨b1, 0, none⟩)), (4, .pointer (some ⟨b5, 0, none⟩)), (6, .slice A590 u1.length c591)] s2 w (Be.post w0 L r1 r2 r3 r4) := by
          intro e2 j3 A590 c591 u1 y593 w H HS
          cases e2 with
          | zero => rw [Be.j9] at H; cases H
          | succ f3 =>
           rw [Be.j9] at H
           subst d3
           refine sQ ?_
           obtain ⟨t594, h595, H⟩ := bI H
           refine rG (mV Z (fL b1 1 Po Z (lB 0 HS Z Qa Z (fL b1 0 K5 Z (lB 0 HS Z Nq Z (fN Z func23 rZ.1 rZ.2 Z Z (Kt.calls HS (rD 3 r_b) (rD 3 r_a) h595) (fun _ wd599 ⟨A596, c597, y598, h600, HS⟩ => ⟨_, h600, (GO.I9 (.agg [.slice A590 u1.length c591, .slice A596 t594.length c597, .slice none 0 0].toArray) Z Z (fun _ => by kernel_rfl) Z (GO.C8 (j := 2) (vs := [.slice A590 u1.length c591, .slice A596 t594.length c597, .slice none 0 0]) ([.slice A590 u1.length c591, .slice A596 t594.length c597, .slice none 0 0]) HS Z Z Z Z Z (htA Km) Z Z Z fun wd601 HS => aS Z (nL ?_)))⟩)))))))
           replace HS := HS.Gr (Ty.slice 64 Aa) 27 (fun _ => ⟨none, 0, (fun _ => ((), (), ⟨none, 0, (fun _ => ⟨none, 0, (fun _ => ())⟩)⟩, ⟨none, 0, (fun _ => ())⟩, (), (), ⟨none, 0, (fun _ => ())⟩, (), (), ⟨none, 0, (fun _ => ())⟩, ⟨none, 0, (fun _ => ())⟩, ⟨none, 0, (fun _ => ())⟩))⟩)
           obtain ⟨rfl, rfl, rfl, rfl⟩ := Qb H
           exact G.Oy _ _ func13 Z (Ki.Lr (j := 3) (vs := [.slice A590 u1.length c591, .slice A596 t594.length c597, .slice none 0 0]) HS Z Z Z Km) Z ⟨_, _, _, _, _, _, _, _, _, Z, (HS.pk 5 [4, 1, 0] Z)⟩
         rcases iE H with ⟨c602, H⟩ | ⟨c602, H⟩
         ·
          refine nB Z (congrArg Bool.not c602) (G.skip (G.weak ?_ (p2 y1 (lR _) _ _ _ _ _ H (HS.pk 4 [0, 2, 3] Z))))
          exact ⟨Z, Z, Z, tv⟩
         refine yB Z (congrArg Bool.not (Ca c602)) ?_
         obtain ⟨t603, t604, t605, t606, t607, t608, t609, t610, t611, t612, t613, t614, h615, H⟩ := Jw H
         obtain ⟨c636, H⟩ := iN H
         refine rG (mV Z (GO.Bu (j := 1) ([.string q1, I o1, .slice A_d h1.length c_d, .slice A_e d1.length c_e, I k1, I m1, .slice A_f e1.length c_f, I p1, I n1, .slice A_g i1.length c_g, .slice A_h f1.length c_h, .slice A_i g1.length c_i]) HS Z Z Z Z Mq Z (fN Z func43 U0.1 U0.2 Z Z (Dw.calls HS (rD 4 r_d) (rD 4 r_e) (rD 4 r_f) (rD 4 r_g) (rD 4 r_h) (rD 4 r_i) h615) (fun _ wd629 ⟨A616, c617, y618, A619, c620, A621, c622, A623, c624, A625, c626, A627, c628, h630, HS⟩ => ⟨_, h630, (GO.F3 (el := 64) ([.string t603, I t604, .slice A616 t605.length c617, .slice A619 t606.length c620, I t607, I t608, .slice A621 t609.length c622, I t610, I t611, .slice A623 t612.length c624, .slice A625 t613.length c626, .slice A627 t614.length c628]) HS Z Z (fun _ => by kernel_rfl) Z fun b631 wd632 HS => ?_)⟩))))
         replace HS := HS.pk 11 [6, 5, 4, 3, 2, 1, 10, 0, 7, 8, 9] Z
         replace HS := Mh (Name := t603) (Kind := t604) (Aj := t607) (Ao := t608) (Ak := t610) (Ah := t611) HS
         replace HS := HS.pk 6 [1, 2, 0, 3, 4, 5] Z
         refine GO.iG (T := Aa) ((), (), ⟨A616, c617, y618⟩, ⟨A619, c620, (fun _ => ())⟩, (), (), ⟨A621, c622, (fun _ => ())⟩, (), (), ⟨A623, c624, (fun _ => ())⟩, ⟨A625, c626, (fun _ => ())⟩, ⟨A627, c628, (fun _ => ())⟩) (⟨t603, t604, t605, t606, t607, t608, t609, t610, t611, t612, t613, t614⟩ : Am) HS Z Z Z underlying27 Uu Z Z Z c636 Z fun A634 c635 y637 wd633 HS => aS Z (nL (G.weak ?_ (p2 y1 (lR _) _ _ _ _ _ H (HS.pk 5 [2, 4, 0] Z))))
         exact ⟨Z, Z, Z, tv⟩
      refine G.weak ?_ (q2 k2 (lR _) _ _ _ _ _ _ _ H (HS.pk 4 [1, 2, 3, 0] Z))
      exact ⟨Z, Z, Z, Z, Z, Z, tv⟩
    obtain ⟨t638, h639, H⟩ := bI H
    rcases iE H with ⟨c642, H⟩ | ⟨c642, H⟩
    ·
     refine rG (fL b1 0 K5 Z (lB 2 HS Z Nq Z (fL b3 0 K7 Z (lB 1 HS Z na9 Z (fN Z func21 dQ.1 dQ.2 Z Z (Ew.calls HS (rD 3 r_a) h639) (fun _ wd640 ⟨h641, HS⟩ => ⟨_, h641, (pS 2 Z (kN 24 Z (tT c642) (oN Z (fL b1 0 K5 Z (bK (oN Z (lB 2 HS Z Nq Z (bK (oN Z ?_)))))))))⟩))))))
     refine lS Z Z underlying27 Z (bK (oN Z (GO.eql Z Z Z Z (bK (GO.Ip Z Z Z Z Z (nL (G.weak ?_ (o2 K (lR _) _ _ H (HS.pk 3 [2, 1, 0] Z)))))))))
     exact ⟨Z, Z, Z, Z, tv⟩
    refine rG (fL b1 0 K5 Z (lB 2 HS Z Nq Z (fL b3 0 K7 Z (lB 1 HS Z na9 Z (fN Z func21 dQ.1 dQ.2 Z Z (Ew.calls HS (rD 3 r_a) h639) (fun _ wd640 ⟨h641, HS⟩ => ⟨_, h641, (pS 2 Z (kN 24 Z (tF c642) (oF Z (oF Z (oF Z (oF Z (GO.Js Z Z Z Z Z (nL (G.weak ?_ (o2 K (lR _) _ _ H (HS.pk 3 [2, 1, 0] Z)))))))))))⟩))))))
    exact ⟨Z, Z, Z, Z, tv⟩
   refine yB Z (congrArg Bool.not (Ca c25)) (sQ (rG (GO.I9 (.agg [.slice none 0 0, .slice none 0 0, .slice none 0 0].toArray) Z Z (fun _ => by kernel_rfl) Z (GO.C8 (j := 0) (vs := [.slice none 0 0, .slice none 0 0, .slice none 0 0]) ([.slice none 0 0, .slice none 0 0, .slice none 0 0]) HS Z Z Z Z Z (htA Km) Z Z Z fun wd643 HS => aS Z (nL ?_)))))
   replace HS := HS.Gr Aa 64 (fun _ => ((), (), ⟨none, 0, (fun _ => ⟨none, 0, (fun _ => ())⟩)⟩, ⟨none, 0, (fun _ => ())⟩, (), (), ⟨none, 0, (fun _ => ())⟩, (), (), ⟨none, 0, (fun _ => ())⟩, ⟨none, 0, (fun _ => ())⟩, ⟨none, 0, (fun _ => ())⟩))
   replace HS := HS.Gr (Ty.slice 64 Aa) 27 (fun _ => ⟨none, 0, (fun _ => ((), (), ⟨none, 0, (fun _ => ⟨none, 0, (fun _ => ())⟩)⟩, ⟨none, 0, (fun _ => ())⟩, (), (), ⟨none, 0, (fun _ => ())⟩, (), (), ⟨none, 0, (fun _ => ())⟩, ⟨none, 0, (fun _ => ())⟩, ⟨none, 0, (fun _ => ())⟩))⟩)
   replace HS := HS.Gr (Ty.slice 64 Aa) 27 (fun _ => ⟨none, 0, (fun _ => ((), (), ⟨none, 0, (fun _ => ⟨none, 0, (fun _ => ())⟩)⟩, ⟨none, 0, (fun _ => ())⟩, (), (), ⟨none, 0, (fun _ => ())⟩, (), (), ⟨none, 0, (fun _ => ())⟩, ⟨none, 0, (fun _ => ())⟩, ⟨none, 0, (fun _ => ())⟩))⟩)
   obtain ⟨rfl, rfl, rfl, rfl⟩ := Qb H
   exact G.Oy _ _ func13 Z (Ki.Lr (j := 3) (vs := [.slice none 0 0, .slice none 0 0, .slice none 0 0]) HS Z Z Z Km) Z ⟨_, _, _, _, _, _, _, _, _, Z, (HS.pk 6 [2, 1, 0] Z)⟩
  refine rG (GO.Bu (j := 2) ([.slice A_a c1.length c_a, .slice A_b a1.length c_b, .slice A_c t1.length c_c]) HS Z Z Z Z Km Z (fN Z func20 fI.1 fI.2 Z Z (Il.calls HS (rD 3 r_a) (rD 3 r_b) (rD 3 r_c) h17) (fun _ wd18 ⟨h19, HS⟩ => ⟨_, h19, (pS 2 Z (kN 12 Z (congrArg Bool.not (Ca c20)) (oF Z (oF Z (oF Z (GO.Ip Z Z Z Z Z (nL (rN 2 Z (rG (GO.I9 (.agg [.slice none 0 0, .slice none 0 0, .slice none 0 0].toArray) Z Z (fun _ => by kernel_rfl) Z (GO.C8 (j := 0) (vs := [.slice none 0 0, .slice none 0 0, .slice none 0 0]) ([.slice none 0 0, .slice none 0 0, .slice none 0 0]) HS Z Z Z Z Z (htA Km) Z Z Z fun wd644 HS => aS Z ?_)))))))))))⟩)))
  refine nL ?_
  replace HS := HS.Gr Aa 64 (fun _ => ((), (), ⟨none, 0, (fun _ => ⟨none, 0, (fun _ => ())⟩)⟩, ⟨none, 0, (fun _ => ())⟩, (), (), ⟨none, 0, (fun _ => ())⟩, (), (), ⟨none, 0, (fun _ => ())⟩, ⟨none, 0, (fun _ => ())⟩, ⟨none, 0, (fun _ => ())⟩))
  replace HS := HS.Gr (Ty.slice 64 Aa) 27 (fun _ => ⟨none, 0, (fun _ => ((), (), ⟨none, 0, (fun _ => ⟨none, 0, (fun _ => ())⟩)⟩, ⟨none, 0, (fun _ => ())⟩, (), (), ⟨none, 0, (fun _ => ())⟩, (), (), ⟨none, 0, (fun _ => ())⟩, ⟨none, 0, (fun _ => ())⟩, ⟨none, 0, (fun _ => ())⟩))⟩)
  replace HS := HS.Gr (Ty.slice 64 Aa) 27 (fun _ => ⟨none, 0, (fun _ => ((), (), ⟨none, 0, (fun _ => ⟨none, 0, (fun _ => ())⟩)⟩, ⟨none, 0, (fun _ => ())⟩, (), (), ⟨none, 0, (fun _ => ())⟩, (), (), ⟨none, 0, (fun _ => ())⟩, ⟨none, 0, (fun _ => ())⟩, ⟨none, 0, (fun _ => ())⟩))⟩)
  obtain ⟨rfl, rfl, rfl, rfl⟩ := Qb H
  exact G.Oy _ _ func13 Z (Ki.Lr (j := 3) (vs := [.slice none 0 0, .slice none 0 0, .slice none 0 0]) HS Z Z Z Km) Z ⟨_, _, _, _, _, _, _, _, _, Z, (HS.pk 6 [2, 1, 0] Z)⟩
theorem Ff.calls {a_ b_ : ByteArray} {r1 : Int} (HS : St w0 w (L)) (H : Ff.f a_ b_ = some r1) :
    Calls prog 113 #[.string a_, .string b_] w (Ff.post w0 L r1) := by
  unfold Ff.f at H
  refine cG func113 Z ?_
  refine rN 3 Z (rG (pS 2 Z (GO.yG Z func159 (by kernel_rfl) (by kernel_rfl) (by kernel_rfl) (by kernel_rfl) Z Z Z (aS Z (nL ?_)))))
  obtain rfl := sI H
  exact rT _ func113 Z Z ⟨Z, HS⟩
theorem strings_Compare.calls {a_ b_ : ByteArray} {r1 : Int} (HS : St w0 w (L)) (H : strings_Compare.f a_ b_ = some r1) :
    Calls prog 64 #[.string a_, .string b_] w (strings_Compare.post w0 L r1) := by
  unfold strings_Compare.f at H
  refine cG func64 Z ?_
  refine rN 3 Z ?_
  obtain ⟨t1, h2, H⟩ := bI H
  refine rG (pS 2 Z (fN Z func113 jH.1 jH.2 Z Z (Ff.calls HS  h2) (fun _ wd3 ⟨h4, HS⟩ => ⟨_, h4, (aS Z (nL ?_))⟩)))
  obtain rfl := sI H
  exact rT _ func64 Z Z ⟨Z, HS⟩
theorem Im.calls {o1 : ByteArray} {n1 : Int} {c1 : List (List Bt)} {g1 : List Al} {h1 k1 : Int} {d1 : List Int} {i1 m1 : Int} {e1 : List Ci} {f1 a1 : List Int} {name : ByteArray} {A_a : Option Addr} {c_a : Nat} {y_a : Nat → (Ty.slice 157 Bc).Lay} {A_b : Option Addr} {c_b : Nat} {A_c : Option Addr} {c_c : Nat} {A_d : Option Addr} {c_d : Nat} {A_e : Option Addr} {c_e : Nat} {A_f : Option Addr} {c_f : Nat} {r1 : Int} (HS : St w0 w (L)) (r_a : Aq w0 L (Ty.slice 157 Bc) A_a c_a y_a c1) (r_b : Aq w0 L Bb A_b c_b (fun _ => ()) g1) (r_c : Aq w0 L (Bq .i64) A_c c_c (fun _ => ()) d1) (r_d : Aq w0 L Cq A_d c_d (fun _ => ()) e1) (r_e : Aq w0 L (Bq .i64) A_e c_e (fun _ => ()) f1) (r_f : Aq w0 L (Bq .i64) A_f c_f (fun _ => ()) a1) (H : Im.f o1 n1 c1 g1 h1 k1 d1 i1 m1 e1 f1 a1 name = some r1) :
    Calls prog 63 #[.agg [.string o1, I n1, .slice A_a c1.length c_a, .slice A_b g1.length c_b, I h1, I k1, .slice A_c d1.length c_c, I i1, I m1, .slice A_d e1.length c_d, .slice A_e f1.length c_e, .slice A_f a1.length c_f].toArray, .string name] w (Im.post w0 L r1) := by
  unfold Im.f at H
  refine cG func63 Z ?_
  refine sQ (rG (GO.box (cs := [.string o1, I n1, .slice A_a c1.length c_a, .slice A_b g1.length c_b, I h1, I k1, .slice A_c d1.length c_c, I i1, I m1, .slice A_d e1.length c_d, .slice A_e f1.length c_e, .slice A_f a1.length c_f]) HS Z Z Z Z fun b1 wd2 HS => aS Z (nL (sQ ?_))))
  obtain ⟨t3, h4, H⟩ := bI H
  refine rG (fL b1 0 K7 Z (lB 0 HS Z na9 Z (mV Z (fN Z func64 sJ.1 sJ.2 Z Z (strings_Compare.calls HS  h4) (fun _ wd5 ⟨h6, HS⟩ => ⟨_, h6, (aS Z (nL ?_))⟩)))))
  obtain rfl := sI H
  exact rT _ func63 Z Z ⟨Z, (HS.pk 1 [] Z)⟩
theorem Ap.calls {x : List Am} {target : ByteArray} {A_a : Option Addr} {c_a : Nat} {y_a : Nat → Aa.Lay} {r1 : Int} {r2 : Bool} (HS : St w0 w (L)) (r_a : Aq w0 L Aa A_a c_a y_a x) (H : Ap.f K x target = some (r1, r2)) :
    Calls prog 62 #[.slice A_a x.length c_a, .string target, .func (.func 63) #[] #[]] w (Ap.post w0 L r1 r2) := by
  unfold Ap.f at H
  refine cG func62 Z ?_
  refine rN 3 Z (rG (mV Z (lS Z Z underlying27 Z (aS Z (nL (rN 5 Z ?_))))))
  refine G.name (fun g1 h1 => ?_)
  have i1 : ∀ a1, a1 ≤ K → ∀ (b1 c1 : Int) (w : World), Ap.l1 K a1 x target b1 c1 = some (r1, r2) → St w0 w (L) → G prog 62 49 [(0, .slice A_a x.length c_a), (1, .string target), (2, .func (.func 63) #[] #[]), (8, I (x.length : Int)), (9, I b1), (10, I c1)] g1 w (Ap.post w0 L r1 r2) := by
   intro a1
   induction a1 using Nat.strongRecOn with
   | _ a1 e1 =>
    intro f1 b1 c1 w H HS
    cases a1 with
    | zero => rw [Ap.l1] at H; cases H
    | succ d1 =>
     rw [Ap.l1] at H
     subst h1
     refine rN 3 Z ?_
     rcases iE H with ⟨c29, H⟩ | ⟨c29, H⟩
     ·
      refine yB Z (tT c29) (rN 3 Z (rG (pS 3 Z (GO.conv Z Z underlying3 underlying146 Z (GO.shr Z Z Z (by decide) (by decide) Z (GO.conv Z Z underlying146 underlying3 Z (aS Z (nL (sQ ?_)))))))))
      obtain ⟨c30, H⟩ := iN H
      obtain ⟨e31, h32, H⟩ := Cn H
      obtain ⟨t33, h34, H⟩ := bI H
      refine rG (pS 3 Z (GO.ix Z Z Z underlying27 Jt (r_a _ HS).2.2.1 c30.1 c30.2 Z (GO.Ja (T := Aa) (n := (w64 ((IntKind.wrap .u64 (w64 (b1 + c1))) / 2 ^ 1)).toNat) HS r_a Z Z (getD_eq (ltN c30) h32) Mq Z (mV Z (GO.clo Z Z func63 eD.1 eD.2 Z Z (Im.calls HS (Aq.fld r_a (getD_eq (ltN c30) h32) (fun _ h => h.2.2.1)) (Aq.fld r_a (getD_eq (ltN c30) h32) (fun _ h => h.2.2.2.1)) (Aq.fld r_a (getD_eq (ltN c30) h32) (fun _ h => h.2.2.2.2.2.2.1)) (Aq.fld r_a (getD_eq (ltN c30) h32) (fun _ h => h.2.2.2.2.2.2.2.2.2.1)) (Aq.fld r_a (getD_eq (ltN c30) h32) (fun _ h => h.2.2.2.2.2.2.2.2.2.2.1)) (Aq.fld r_a (getD_eq (ltN c30) h32) (fun _ h => h.2.2.2.2.2.2.2.2.2.2.2)) h34) (fun _ wd35 ⟨h36, HS⟩ => ⟨_, h36, (GO.lss Z Z Z Z (nL ?_))⟩))))))
      rcases iE H with ⟨c37, H⟩ | ⟨c37, H⟩
      ·
       refine yB Z (tT c37) (rN 3 Z (G.weak ?_ (e1 d1 (Nat.lt_succ_of_le (lR _)) (Nat.le_of_succ_le f1) _ _ _ H HS)))
       exact ⟨Z, Z, Z, Z, Z, Z, tv⟩
      refine nB Z (tF c37) (rN 3 Z (G.weak ?_ (e1 d1 (Nat.lt_succ_of_le (lR _)) (Nat.le_of_succ_le f1) _ _ _ H HS)))
      exact ⟨Z, Z, Z, Z, Z, Z, tv⟩
     refine nB Z (tF c29) (rN 2 Z ?_)
     rcases iE H with ⟨c38, H⟩ | ⟨c38, H⟩
     ·
      obtain ⟨c39, H⟩ := iN H
      obtain ⟨e40, h41, H⟩ := Cn H
      obtain ⟨t42, h43, H⟩ := bI H
      refine rG (pS 5 Z (kN 39 Z (tT c38) (oN Z (mV Z (bK (oN Z (mV Z (bK (oN Z (mV Z (bK (oN Z (GO.ix Z Z Z underlying27 Jt (r_a _ HS).2.2.1 c39.1 c39.2 Z (bK ?_))))))))))))))
      refine oN Z (GO.Ja (T := Aa) (n := b1.toNat) HS r_a Z Z (getD_eq (ltN c39) h41) Mq Z (bK (oN Z (mV Z (bK (oN Z (GO.clo Z Z func63 eD.1 eD.2 Z Z (Im.calls HS (Aq.fld r_a (getD_eq (ltN c39) h41) (fun _ h => h.2.2.1)) (Aq.fld r_a (getD_eq (ltN c39) h41) (fun _ h => h.2.2.2.1)) (Aq.fld r_a (getD_eq (ltN c39) h41) (fun _ h => h.2.2.2.2.2.2.1)) (Aq.fld r_a (getD_eq (ltN c39) h41) (fun _ h => h.2.2.2.2.2.2.2.2.2.1)) (Aq.fld r_a (getD_eq (ltN c39) h41) (fun _ h => h.2.2.2.2.2.2.2.2.2.2.1)) (Aq.fld r_a (getD_eq (ltN c39) h41) (fun _ h => h.2.2.2.2.2.2.2.2.2.2.2)) h43) (fun _ wd44 ⟨h45, HS⟩ => ⟨_, h45, (bK (oN Z (GO.eql Z Z Z Z (bK (pS 3 Z (nL ?_))))))⟩))))))))
      obtain ⟨rfl, rfl⟩ := Mf H
      exact G.Oy _ _ func62 Z Z Z ⟨Z, HS⟩
     refine rG (pS 5 Z (kN 39 Z (tF c38) (oF Z (oF Z (oF Z (oF Z (oF Z (oF Z (oF Z (oF Z (pS 3 Z (nL ?_))))))))))))
     obtain ⟨rfl, rfl⟩ := Mf H
     exact G.Oy _ _ func62 Z Z Z ⟨Z, HS⟩
  refine G.weak ?_ (i1 K (lR _) _ _ _ H HS)
  exact ⟨Z, Z, Z, Z, Z, Z, tv⟩
theorem Li.calls {items : List Am} {name : ByteArray} {A_a : Option Addr} {c_a : Nat} {y_a : Nat → Aa.Lay} {r1 : Int} {r2 : Bool} (HS : St w0 w (L)) (r_a : Aq w0 L Aa A_a c_a y_a items) (H : Li.f K items name = some (r1, r2)) :
    Calls prog 26 #[.slice A_a items.length c_a, .string name] w (Li.post w0 L r1 r2) := by
  unfold Li.f at H
  refine cG func26 Z ?_
  refine rN 3 Z ?_
  obtain ⟨t1, t2, h3, H⟩ := Dk H
  refine rG (pS 2 Z (fN Z func62 uK.1 uK.2 Z Z (Ap.calls HS r_a h3) (fun _ wd4 ⟨h5, HS⟩ => ⟨_, h5, (pS 4 Z (nL ?_))⟩)))
  obtain ⟨rfl, rfl⟩ := Mf H
  exact G.Oy _ _ func26 Z Z Z ⟨Z, HS⟩
theorem Gi.calls {c : Int} {r1 : Bool} (HS : St w0 w (L)) (H : Gi.f c = some r1) :
    Calls prog 137 #[.int .i32 c] w (Gi.post w0 L r1) := by
  unfold Gi.f at H
  refine cG func137 Z ?_
  refine rN 3 Z ?_
  rcases iE H with ⟨c1, H⟩ | ⟨c1, H⟩
  ·
   refine rG (pS 3 Z (kN 5 Z (tT c1) (oF Z (oF Z (pS 2 Z (nL ?_))))))
   obtain rfl := sI H
   exact rT _ func137 Z Z ⟨Z, HS⟩
  refine rG (pS 3 Z (kN 5 Z (tF c1) (oN Z (mV Z (bK (oN Z (GO.gtr Z Z Z Z (bK (pS 2 Z (nL ?_))))))))))
  obtain rfl := sI H
  exact rT _ func137 Z Z ⟨Z, HS⟩
theorem Cb.calls {s : ByteArray} {truth : Bool} {r1 : Int} (HS : St w0 w (L)) (H : Cb.f K s truth = some r1) :
    Calls prog 190 #[.string s, .func (.func 137) #[] #[], .bool truth] w (Cb.post w0 L r1) := by
  unfold Cb.f at H
  refine cG func190 Z ?_
  refine rN 4 Z (rG (mV Z (GO.wD HS Z Z underlying9 Z fun b1 wd2 HS => nL (rN 2 Z ?_))))
  refine G.name (fun c1 f1 => ?_)
  have g1 : ∀ a1, a1 ≤ K → ∀ (at12 : Ix) (w : World), Cb.l1 K a1 s truth at12 = some r1 → St w0 w (Iter b1 s at12 :: L) → G prog 190 21 [(1, .func (.func 137) #[] #[]), (2, .bool truth), (10, .pointer (some ⟨b1, 0, none⟩))] c1 w (Cb.post w0 L r1) := by
   intro a1
   induction a1 using Nat.strongRecOn with
   | _ a1 e1 =>
    intro h1 at12 w H HS
    cases a1 with
    | zero => rw [Cb.l1] at H; cases H
    | succ d1 =>
     rw [Cb.l1] at H
     subst f1
     refine sQ ?_
     rcases iE H with ⟨c23, H⟩ | ⟨c23, H⟩
     ·
      refine rG (GO.wX (j := 0) HS Z Z Z c23 Z fun wd24 HS => GO.extract Z Z Z Z (nL (rN 7 Z ?_)))
      obtain ⟨t25, h26, H⟩ := bI H
      refine rG (pS 2 Z (GO.clo Z Z func137 oC.1 oC.2 Z Z (Gi.calls HS  h26) (fun _ wd27 ⟨h28, HS⟩ => ⟨_, h28, (mV Z (GO.xY Z Z Z underlying4 Z (nL ?_)))⟩)))
      rcases iE H with ⟨c29, H⟩ | ⟨c29, H⟩
      ·
       refine yB Z c29 (rN 2 Z ?_)
       obtain rfl := sI H
       exact rT _ func190 Z Z ⟨Z, (HS.pk 1 [] Z)⟩
      refine nB Z (Ca c29) (rN 3 Z (G.weak ?_ (e1 d1 (Nat.lt_succ_of_le (lR _)) (Nat.le_of_succ_le h1) _ _ H HS)))
      exact ⟨Z, Z, Z, tv⟩
     refine rG (GO.yA (j := 0) HS Z Z Z c23 Z (GO.extract Z Z Z Z (nL (rN 5 Z ?_))))
     obtain rfl := sI H
     exact rT _ func190 Z Z ⟨Z, (HS.pk 1 [] Z)⟩
  refine G.weak ?_ (g1 K (lR _) _ _ H HS)
  exact ⟨Z, Z, Z, tv⟩
theorem D5.calls {s : ByteArray} {r1 : Int} (HS : St w0 w (L)) (H : D5.f K s = some r1) :
    Calls prog 170 #[.string s, .func (.func 137) #[] #[]] w (D5.post w0 L r1) := by
  unfold D5.f at H
  refine cG func170 Z ?_
  refine rN 3 Z ?_
  obtain ⟨t1, h2, H⟩ := bI H
  refine rG (pS 2 Z (fN Z func190 nP.1 nP.2 Z Z (Cb.calls HS  h2) (fun _ wd3 ⟨h4, HS⟩ => ⟨_, h4, (aS Z (nL ?_))⟩)))
  obtain rfl := sI H
  exact rT _ func170 Z Z ⟨Z, HS⟩
theorem Dj.calls {s : ByteArray} {r1 : Bool} (HS : St w0 w (L)) (H : Dj.f K s = some r1) :
    Calls prog 136 #[.string s, .func (.func 137) #[] #[]] w (Dj.post w0 L r1) := by
  unfold Dj.f at H
  refine cG func136 Z ?_
  refine rN 3 Z ?_
  obtain ⟨t1, h2, H⟩ := bI H
  refine rG (pS 2 Z (fN Z func170 jU.1 jU.2 Z Z (D5.calls HS  h2) (fun _ wd3 ⟨h4, HS⟩ => ⟨_, h4, (pS 2 Z (nL ?_))⟩)))
  obtain rfl := sI H
  exact rT _ func136 Z Z ⟨Z, HS⟩
theorem Io.calls {s : ByteArray} {r1 : Bool} (HS : St w0 w (L)) (H : Io.f K s = some r1) :
    Calls prog 96 #[.string s] w (Io.post w0 L r1) := by
  unfold Io.f at H
  refine cG func96 Z ?_
  refine rN 3 Z ?_
  rcases iE H with ⟨c1, H⟩ | ⟨c1, H⟩
  ·
   rcases iE H with ⟨c2, H⟩ | ⟨c2, H⟩
   ·
    obtain ⟨t3, h4, H⟩ := bI H
    refine rG (mV Z (GO.P6 Z Z underlying9 Z (pS 2 Z (kN 6 Z (tT c1) (oN Z (mV Z (bK (oN Z (GO.P6 Z Z underlying9 Z (bK (oN Z (GO.leq Z Z Z Z (bK (pS 2 Z ?_))))))))))))))
    refine kN 11 Z (tT c2) (oN Z (mV Z (bK (oN Z (fN Z func136 mX.1 mX.2 Z Z (Dj.calls HS  h4) (fun _ wd5 ⟨h6, HS⟩ => ⟨_, h6, (bK (oN Z (GO.not Z Z Z (bK (pS 2 Z (nL ?_))))))⟩))))))
    obtain rfl := sI H
    exact rT _ func96 Z Z ⟨Z, HS⟩
   refine rG (mV Z (GO.P6 Z Z underlying9 Z (pS 2 Z (kN 6 Z (tT c1) (oN Z (mV Z (bK (oN Z (GO.P6 Z Z underlying9 Z (bK (oN Z (GO.leq Z Z Z Z (bK (pS 2 Z ?_))))))))))))))
   refine kN 11 Z (tF c2) (oF Z (oF Z (oF Z (pS 2 Z (nL ?_)))))
   obtain rfl := sI H
   exact rT _ func96 Z Z ⟨Z, HS⟩
  refine rG (mV Z (GO.P6 Z Z underlying9 Z (pS 2 Z (kN 6 Z (tF c1) (oF Z (oF Z (oF Z (pS 2 Z (oF Z (oF Z (oF Z (pS 2 Z (nL ?_)))))))))))))
  obtain rfl := sI H
  exact rT _ func96 Z Z ⟨Z, HS⟩
theorem Ct.calls {x low high : Int} {r1 : Bool} (HS : St w0 w (L)) (H : Ct.f x low high = some r1) :
    Calls prog 97 #[I x, I low, I high] w (Ct.post w0 L r1) := by
  unfold Ct.f at H
  refine cG func97 Z ?_
  refine rN 3 Z ?_
  rcases iE H with ⟨c1, H⟩ | ⟨c1, H⟩
  ·
   refine rG (pS 4 Z (kN 10 Z (tT c1) (oN Z (mV Z (bK (oN Z (mV Z (bK (oN Z (GO.leq Z Z Z Z (bK (pS 2 Z (nL ?_)))))))))))))
   obtain rfl := sI H
   exact rT _ func97 Z Z ⟨Z, HS⟩
  refine rG (pS 4 Z (kN 10 Z (tF c1) (oF Z (oF Z (oF Z (pS 2 Z (nL ?_)))))))
  obtain rfl := sI H
  exact rT _ func97 Z Z ⟨Z, HS⟩
end Go.Proofs.YtkmeepgpmppibaaGreatDoor
