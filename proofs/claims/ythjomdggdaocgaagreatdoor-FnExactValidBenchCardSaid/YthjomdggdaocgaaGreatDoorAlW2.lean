/-
  The walks through the functions: a call comes to what its list function says.
-/
import Derived.Test.YthjomdggdaocgaaGreatDoorAlF
import Derived.Test.YthjomdggdaocgaaGreatDoorAlW1
set_option linter.unusedVariables false
set_option linter.unusedSimpArgs false
namespace Go.Proofs.YthjomdggdaocgaaGreatDoor
open Go.RowKit
open Tryz
set_option maxRecDepth 20000
set_option maxHeartbeats 40000000
theorem spec_l25Parts.calls {w0 w : World} {L : List HObj} {K : Nat} {d_Crossings : List GCrossing} {d_Circles : Int} {A_a : Option Addr} {c_a : Nat} {r1 : List Int} (HS : St w0 w (L)) (r_a : RdIn w0 L T_GCrossing A_a c_a (fun _ => ()) d_Crossings) (H : spec_l25Parts.f K d_Crossings d_Circles = some r1) :
    Calls prog 150 #[.agg [.slice A_a d_Crossings.length c_a, .int .i64 d_Circles].toArray] w (spec_l25Parts.post w0 L r1) := by
  unfold spec_l25Parts.f at H
  refine Calls.of_G func150 rfl rfl rfl ?_
  refine G.seq (G.region (GO.box (cs := [.slice A_a d_Crossings.length c_a, .int .i64 d_Circles]) HS rfl rfl rfl rfl fun b1 wd2 HS => GO.assign rfl rfl rfl (GO.nil (G.seq (G.region (GO.buildS (el := 2) ([]) HS rfl rfl (fun _ => by kernel_rfl) rfl fun b3 wd4 HS => ?_))))))
  replace HS := HS.boxRow (T := (TInt .i64)) (j := 0) rfl flat_flat (fun _ => ()) ([] : List Int) rfl (bndL rfl)
  refine GO.lenC (t := 13) (m := ([] : List Int).length) (c' := ([] : List Int).length) rfl rfl rfl (GO.assign rfl rfl rfl (GO.nil (G.run 5 rfl ?_)))
  refine G.name (fun k_l1 hk_l1 => ?_)
  have at_l1 : ∀ m_l1, m_l1 ≤ K → ∀ (A101 : Option Addr) (c102 : Nat) (out_103 : List Int) (c_104 : Int) (w : World), spec_l25Parts.l1 K m_l1 d_Crossings d_Circles out_103 c_104 = some r1 → St w0 w (Box b1 40 [.slice A_a d_Crossings.length c_a, .int .i64 d_Circles] :: Own (TInt .i64) 2 A101 c102 (fun _ => ()) out_103 :: L) → G prog 150 74 [(1, .pointer (some ⟨b1, 0, none⟩)), (3, .slice A101 out_103.length c102), (4, .int .i64 c_104)] k_l1 w (spec_l25Parts.post w0 L r1) := by
   intro m_l1
   induction m_l1 using Nat.strongRecOn with
   | _ m_l1 ih_l1 =>
    intro hm_l1 A101 c102 out_103 c_104 w H HS
    cases m_l1 with
    | zero => rw [spec_l25Parts.l1] at H; cases H
    | succ n_l1 =>
     rw [spec_l25Parts.l1] at H
     subst hk_l1
     refine G.run 2 rfl (G.region (GO.move rfl rfl rfl (GO.fld (⟨b1, 0, none⟩) rfl rfl fl40_0 rfl rfl (GO.ldBox (j := 0) HS rfl rfl rfl rfl na38 rfl (GO.lenS rfl rfl underlying38 rfl (GO.lss rfl rfl rfl rfl (GO.nil ?_)))))))
     rcases ite_elim H with ⟨c201, H⟩ | ⟨c201, H⟩
     ·
      refine G.yesB rfl (decide_eq_true c201) (G.run 3 rfl ?_)
      obtain ⟨c207, H⟩ := ite_none H
      refine G.region (GO.ps 2 rfl (GO.buildS (el := 2) ([.int .i64 c_104]) HS rfl rfl (fun _ => by kernel_rfl) rfl fun b202 wd203 HS => GO.app1 (T := (TInt .i64)) (j := 2) (jb := 0) c_104 HS rfl rfl flat_flat rfl rfl rfl underlying41 inf2 rfl rfl rfl c207 rfl fun A205 c206 wd204 HS => GO.assign rfl rfl rfl (GO.nil (G.run 3 rfl (G.weak ?_ (ih_l1 n_l1 (Nat.lt_succ_of_le (Nat.le_refl _)) (Nat.le_of_succ_le hm_l1) _ _ _ _ _ H (HS.pk 3 [1, 2] rfl)))))))
      exact ⟨rfl, rfl, rfl, trivial⟩
     refine G.noB rfl (decide_eq_false c201) (G.run 6 rfl ?_)
     refine G.name (fun k_l10 hk_l10 => ?_)
     have at_l10 : ∀ m_l10, m_l10 ≤ n_l1 → ∀ (out_237 : List Int) (a_238 : Int) (w : World), spec_l25Parts.l10 K m_l10 d_Crossings d_Circles out_237 a_238 = some r1 → St w0 w (Box b1 40 [.slice A_a d_Crossings.length c_a, .int .i64 d_Circles] :: Own (TInt .i64) 2 A101 c102 (fun _ => ()) out_237 :: L) → G prog 150 74 [(1, .pointer (some ⟨b1, 0, none⟩)), (3, .slice A101 out_237.length c102), (5, .int .i64 a_238)] k_l10 w (spec_l25Parts.post w0 L r1) := by
      intro m_l10
      induction m_l10 using Nat.strongRecOn with
      | _ m_l10 ih_l10 =>
       intro hm_l10 out_237 a_238 w H HS
       cases m_l10 with
       | zero => rw [spec_l25Parts.l10] at H; cases H
       | succ n_l10 =>
        rw [spec_l25Parts.l10] at H
        subst hk_l10
        refine G.run 2 rfl (G.region (GO.move rfl rfl rfl (GO.fld (⟨b1, 0, none⟩) rfl rfl fl40_0 rfl rfl (GO.ldBox (j := 0) HS rfl rfl rfl rfl na38 rfl (GO.lenS rfl rfl underlying38 rfl (GO.ps 2 rfl (GO.nil ?_)))))))
        rcases ite_elim H with ⟨c268, H⟩ | ⟨c268, H⟩
        ·
         refine G.yesB rfl (decide_eq_true c268) (G.run 4 rfl ?_)
         obtain ⟨t269, t270, h271, H⟩ := bind2_elim H
         refine G.region (GO.ldBoxA (j := 0) ([.slice A_a d_Crossings.length c_a, .int .i64 d_Circles]) HS rfl rfl rfl rfl ag40 rfl (GO.move rfl rfl rfl (GO.fn rfl func174 fok174.1 fok174.2 rfl rfl (spec_l25Place.calls HS (RdIn.drop 2 r_a) h271) (fun _ wd272 ⟨h273, HS⟩ => ⟨_, h273, (GO.ps 5 rfl (GO.nil (G.seq ?_)))⟩))))
         obtain ⟨t274, t275, h276, H⟩ := bind2_elim H
         refine G.region (GO.ldBoxA (j := 0) ([.slice A_a d_Crossings.length c_a, .int .i64 d_Circles]) HS rfl rfl rfl rfl ag40 rfl (GO.move rfl rfl rfl (GO.fn rfl func174 fok174.1 fok174.2 rfl rfl (spec_l25Place.calls HS (RdIn.drop 2 r_a) h276) (fun _ wd277 ⟨h278, HS⟩ => ⟨_, h278, (GO.ps 5 rfl (GO.nil (G.seq ?_)))⟩))))
         obtain ⟨c279, H⟩ := ite_none H
         have h280 := ((RdIn.own (j := 1) rfl) _ HS).2.2.1
         obtain ⟨c281, H⟩ := ite_none H
         have h282 := ((RdIn.own (j := 1) rfl) _ HS).2.2.1
         refine G.lex mixed [0, 1, 2, 4, 5, 6, 3, 7, 8, 9] (by kernel_rfl) ?_
         replace HS := HS.drew
         refine GX.ps 2 rfl (GX.l0 rfl rfl (fun _ _ g => GO.ix rfl rfl rfl underlying41 sz2 h280 c279.1 c279.2 rfl g) rfl (GX.ps 2 rfl (GX.l0 rfl rfl (fun _ _ g => GO.ix rfl rfl rfl underlying41 sz2 h282 c281.1 c281.2 rfl g) rfl (GX.l1 rfl rfl rfl (fun _ g => GO.ldRd (T := (TInt .i64)) (n := t269.toNat) (o := 0) HS (RdIn.own (j := 1) rfl) rfl rfl (getD_some (d := 0) (ltN c279)) rfl rfl na2 rfl g) rfl (GX.l1 rfl rfl rfl (fun _ g => GO.ldRd (T := (TInt .i64)) (n := t274.toNat) (o := 0) HS (RdIn.own (j := 1) rfl) rfl rfl (getD_some (d := 0) (ltN c281)) rfl rfl na2 rfl g) rfl (GX.ps 2 rfl (GX.nil (G.run 4 rfl ?_))))))))
         refine G.name (fun k_l13 hk_l13 => ?_)
         have at_l13 : ∀ m_l13, m_l13 ≤ n_l10 → ∀ (out_287 : List Int) (k_288 : Int) (w : World), spec_l25Parts.l13 K m_l13 d_Crossings d_Circles out_237 a_238 t269 t274 out_287 k_288 = some r1 → St w0 w (Box b1 40 [.slice A_a d_Crossings.length c_a, .int .i64 d_Circles] :: Own (TInt .i64) 2 A101 c102 (fun _ => ()) out_287 :: L) → G prog 150 74 [(1, .pointer (some ⟨b1, 0, none⟩)), (3, .slice A101 out_287.length c102), (5, .int .i64 a_238), (10, .int .i64 (out_237.getD t269.toNat 0)), (11, .int .i64 (out_237.getD t274.toNat 0)), (12, .int .i64 k_288)] k_l13 w (spec_l25Parts.post w0 L r1) := by
          intro m_l13
          induction m_l13 using Nat.strongRecOn with
          | _ m_l13 ih_l13 =>
           intro hm_l13 out_287 k_288 w H HS
           cases m_l13 with
           | zero => rw [spec_l25Parts.l13] at H; cases H
           | succ n_l13 =>
            rw [spec_l25Parts.l13] at H
            subst hk_l13
            refine G.run 2 rfl (G.region (GO.ps 2 rfl (GO.lenS rfl rfl underlying41 rfl (GO.lss rfl rfl rfl rfl (GO.nil ?_)))))
            rcases ite_elim H with ⟨c293, H⟩ | ⟨c293, H⟩
            ·
             refine G.yesB rfl (decide_eq_true c293) (G.run 4 rfl ?_)
             obtain ⟨c294, H⟩ := ite_none H
             refine G.region (GO.ps 2 rfl (GO.ix rfl rfl rfl underlying41 sz2 ((RdIn.own (j := 1) rfl) _ HS).2.2.1 c294.1 c294.2 rfl (GO.ldRd (T := (TInt .i64)) (n := k_288.toNat) (o := 0) HS (RdIn.own (j := 1) rfl) rfl rfl (getD_some (d := 0) (ltN c294)) rfl rfl na2 rfl (GO.ps 2 rfl (GO.max2 rfl rfl rfl rfl (GO.eql rfl rfl rfl rfl (GO.nil ?_)))))))
             rcases ite_elim H with ⟨c295, H⟩ | ⟨c295, H⟩
             ·
              refine G.yesB rfl (decide_eq_true c295) (G.region (GO.ps 4 rfl (GO.min2 rfl rfl rfl rfl (GO.ix rfl rfl rfl underlying41 sz2 ((RdIn.own (j := 1) rfl) _ HS).2.2.1 c294.1 c294.2 rfl (GO.stRow (T := (TInt .i64)) (j := 1) (n := k_288.toNat) (o := 0) (vs := [.int .i64 (if out_237.getD t274.toNat 0 < out_237.getD t269.toNat 0 then out_237.getD t274.toNat 0 else out_237.getD t269.toNat 0)]) (if out_237.getD t274.toNat 0 < out_237.getD t269.toNat 0 then out_237.getD t274.toNat 0 else out_237.getD t269.toNat 0) HS rfl flat_flat rfl rfl rfl rfl (htN na2 rfl) rfl (getD_some (d := 0) (ltN c294)) rfl rfl fun wd296 HS => GO.nil (G.len (t := 3) (m := (out_287.set k_288.toNat (if out_237.getD t274.toNat 0 < out_237.getD t269.toNat 0 then out_237.getD t274.toNat 0 else out_237.getD t269.toNat 0)).length) rfl (by simp only [List.length_set] <;> rfl) (G.run 3 rfl (G.weak ?_ (ih_l13 n_l13 (Nat.lt_succ_of_le (Nat.le_refl _)) (Nat.le_of_succ_le hm_l13) _ _ _ H HS)))))))))
              exact ⟨rfl, rfl, rfl, rfl, rfl, rfl, trivial⟩
             refine G.noB rfl (decide_eq_false c295) (G.run 4 rfl (G.weak ?_ (ih_l13 n_l13 (Nat.lt_succ_of_le (Nat.le_refl _)) (Nat.le_of_succ_le hm_l13) _ _ _ H HS)))
             exact ⟨rfl, rfl, rfl, rfl, rfl, rfl, trivial⟩
            refine G.noB rfl (decide_eq_false c293) (G.run 4 rfl (G.weak ?_ (ih_l10 n_l13 (by omega) (by omega) _ _ _ H HS)))
            exact ⟨rfl, rfl, rfl, trivial⟩
         refine G.weak ?_ (at_l13 n_l10 (Nat.le_refl _) _ _ _ H HS)
         exact ⟨rfl, rfl, rfl, rfl, rfl, rfl, trivial⟩
        refine G.noB rfl (decide_eq_false c268) (G.run 3 rfl ?_)
        obtain rfl := Option.some.inj H
        exact G.ret1 _ func150 rfl rfl ⟨_, _, rfl, (HS.pk 2 [1] rfl)⟩
     refine G.weak ?_ (at_l10 n_l1 (Nat.le_refl _) _ _ _ H HS)
     exact ⟨rfl, rfl, rfl, trivial⟩
  refine G.weak ?_ (at_l1 K (Nat.le_refl _) _ _ _ _ _ H (HS.pk 2 [1, 0] rfl))
  exact ⟨rfl, rfl, rfl, trivial⟩
theorem spec_l25PartCount.calls {w0 w : World} {L : List HObj} {K : Nat} {d_Crossings : List GCrossing} {d_Circles : Int} {A_a : Option Addr} {c_a : Nat} {r1 : Int} (HS : St w0 w (L)) (r_a : RdIn w0 L T_GCrossing A_a c_a (fun _ => ()) d_Crossings) (H : spec_l25PartCount.f K d_Crossings d_Circles = some r1) :
    Calls prog 127 #[.agg [.slice A_a d_Crossings.length c_a, .int .i64 d_Circles].toArray] w (spec_l25PartCount.post w0 L r1) := by
  unfold spec_l25PartCount.f at H
  refine Calls.of_G func127 rfl rfl rfl ?_
  refine G.seq (G.region (GO.box (cs := [.slice A_a d_Crossings.length c_a, .int .i64 d_Circles]) HS rfl rfl rfl rfl fun b1 wd2 HS => GO.assign rfl rfl rfl (GO.nil (G.run 3 rfl ?_))))
  obtain ⟨t3, h4, H⟩ := Option.bind_eq_some_iff.1 H
  refine G.region (GO.ldBoxA (j := 0) ([.slice A_a d_Crossings.length c_a, .int .i64 d_Circles]) HS rfl rfl rfl rfl ag40 rfl (GO.fn rfl func150 fok150.1 fok150.2 rfl rfl (spec_l25Parts.calls HS (RdIn.drop 1 r_a) h4) (fun _ wd7 ⟨A5, c6, h8, HS⟩ => ⟨_, h8, (GO.assign rfl rfl rfl (GO.nil (G.run 5 rfl ?_)))⟩)))
  refine G.name (fun k_l1 hk_l1 => ?_)
  have at_l1 : ∀ m_l1, m_l1 ≤ K → ∀ (n_12 i_13 : Int) (w : World), spec_l25PartCount.l1 K m_l1 t3 n_12 i_13 = some r1 → St w0 w (Own (TInt .i64) 2 A5 c6 (fun _ => ()) t3 :: L) → G prog 127 23 [(3, .int .i64 n_12), (4, .slice A5 t3.length c6), (5, .int .i64 i_13)] k_l1 w (spec_l25PartCount.post w0 L r1) := by
   intro m_l1
   induction m_l1 using Nat.strongRecOn with
   | _ m_l1 ih_l1 =>
    intro hm_l1 n_12 i_13 w H HS
    cases m_l1 with
    | zero => rw [spec_l25PartCount.l1] at H; cases H
    | succ n_l1 =>
     rw [spec_l25PartCount.l1] at H
     subst hk_l1
     refine G.run 2 rfl (G.region (GO.ps 2 rfl (GO.lenS rfl rfl underlying41 rfl (GO.lss rfl rfl rfl rfl (GO.nil ?_)))))
     rcases ite_elim H with ⟨c17, H⟩ | ⟨c17, H⟩
     ·
      refine G.yesB rfl (decide_eq_true c17) (G.run 4 rfl ?_)
      obtain ⟨c18, H⟩ := ite_none H
      refine G.region (GO.ps 2 rfl (GO.ix rfl rfl rfl underlying41 sz2 ((RdIn.own (j := 0) rfl) _ HS).2.2.1 c18.1 c18.2 rfl (GO.ldRd (T := (TInt .i64)) (n := i_13.toNat) (o := 0) HS (RdIn.own (j := 0) rfl) rfl rfl (getD_some (d := 0) (ltN c18)) rfl rfl na2 rfl (GO.ps 2 rfl (GO.nil ?_)))))
      rcases ite_elim H with ⟨c19, H⟩ | ⟨c19, H⟩
      ·
       refine G.yesB rfl (decide_eq_true c19) (G.run 4 rfl (G.weak ?_ (ih_l1 n_l1 (Nat.lt_succ_of_le (Nat.le_refl _)) (Nat.le_of_succ_le hm_l1) _ _ _ H HS)))
       exact ⟨rfl, rfl, rfl, trivial⟩
      refine G.noB rfl (decide_eq_false c19) (G.run 4 rfl (G.weak ?_ (ih_l1 n_l1 (Nat.lt_succ_of_le (Nat.le_refl _)) (Nat.le_of_succ_le hm_l1) _ _ _ H HS)))
      exact ⟨rfl, rfl, rfl, trivial⟩
     refine G.noB rfl (decide_eq_false c17) (G.run 3 rfl ?_)
     obtain rfl := Option.some.inj H
     exact G.ret1 _ func127 rfl rfl ⟨rfl, (HS.pk 1 [] rfl)⟩
  refine G.weak ?_ (at_l1 K (Nat.le_refl _) _ _ _ H (HS.pk 2 [0] rfl))
  exact ⟨rfl, rfl, rfl, trivial⟩
theorem spec_IsDiagram.calls {w0 w : World} {L : List HObj} {K : Nat} {d_Crossings : List GCrossing} {d_Circles : Int} {A_a : Option Addr} {c_a : Nat} {r1 : Bool} (HS : St w0 w (L)) (r_a : RdIn w0 L T_GCrossing A_a c_a (fun _ => ()) d_Crossings) (H : spec_IsDiagram.f K d_Crossings d_Circles = some r1) :
    Calls prog 95 #[.agg [.slice A_a d_Crossings.length c_a, .int .i64 d_Circles].toArray] w (spec_IsDiagram.post w0 L r1) := by
  unfold spec_IsDiagram.f at H
  refine Calls.of_G func95 rfl rfl rfl ?_
  refine G.seq (G.region (GO.box (cs := [.slice A_a d_Crossings.length c_a, .int .i64 d_Circles]) HS rfl rfl rfl rfl fun b1 wd2 HS => GO.assign rfl rfl rfl (GO.nil (G.run 2 rfl ?_))))
  rcases ite_elim H with ⟨c13, H⟩ | ⟨c13, H⟩
  ·
   refine G.region (GO.fld (⟨b1, 0, none⟩) rfl rfl fl40_0 rfl rfl (GO.ldBox (j := 0) HS rfl rfl rfl rfl na38 rfl (GO.lenS rfl rfl underlying38 rfl (GO.ps 2 rfl (GO.known (t := 7) rfl (decide_eq_true c13) (GO.off rfl rfl rfl rfl rfl rfl (GO.off rfl rfl rfl rfl rfl rfl (GO.off rfl rfl rfl rfl rfl rfl (GO.off rfl rfl rfl rfl rfl rfl (GO.ps 2 rfl (GO.off rfl rfl rfl rfl rfl rfl (GO.off rfl rfl rfl rfl rfl rfl (GO.off rfl rfl rfl rfl rfl rfl (GO.pickT rfl rfl rfl rfl rfl ?_))))))))))))))
   refine GO.nil (G.run 3 rfl ?_)
   obtain rfl := Option.some.inj H
   exact G.ret1 _ func95 rfl rfl ⟨rfl, (HS.pk 1 [] rfl)⟩
  obtain ⟨t14, h15, H⟩ := Option.bind_eq_some_iff.1 H
  rcases ite_elim H with ⟨c18, H⟩ | ⟨c18, H⟩
  ·
   obtain ⟨t19, h20, H⟩ := Option.bind_eq_some_iff.1 H
   refine G.region (GO.fld (⟨b1, 0, none⟩) rfl rfl fl40_0 rfl rfl (GO.ldBox (j := 0) HS rfl rfl rfl rfl na38 rfl (GO.lenS rfl rfl underlying38 rfl (GO.ps 2 rfl (GO.known (t := 7) rfl (decide_eq_false c13) (GO.on rfl rfl rfl rfl (GO.fld (⟨b1, 1, none⟩) rfl rfl fl40_1 rfl rfl (GO.back (GO.on rfl rfl rfl rfl (GO.ldBox (j := 0) HS rfl rfl rfl rfl na2 rfl (GO.back (GO.on rfl rfl rfl rfl (GO.fn rfl func92 fok92.1 fok92.2 rfl rfl (spec_l01In.calls HS  h15) (fun _ wd16 ⟨h17, HS⟩ => ⟨_, h17, (GO.back ?_)⟩))))))))))))))
   refine GO.on rfl rfl rfl rfl (GO.not rfl rfl rfl (GO.back (GO.ps 2 rfl (GO.known (t := 13) rfl (congrArg Bool.not c18) (GO.on rfl rfl rfl rfl (GO.ldBoxA (j := 0) ([.slice A_a d_Crossings.length c_a, .int .i64 d_Circles]) HS rfl rfl rfl rfl ag40 rfl (GO.back (GO.on rfl rfl rfl rfl (GO.fn rfl func125 fok125.1 fok125.2 rfl rfl (spec_l25Counts.calls HS (RdIn.drop 1 r_a) h20) (fun _ wd21 ⟨h22, HS⟩ => ⟨_, h22, (GO.back (GO.on rfl rfl rfl rfl (GO.not rfl rfl rfl (GO.back (GO.pickF rfl rfl rfl rfl rfl ?_)))))⟩))))))))))
   refine GO.nil ?_
   rcases ite_elim H with ⟨c23, H⟩ | ⟨c23, H⟩
   ·
    refine G.noB rfl (congrArg Bool.not c23) (G.run 2 rfl ?_)
    obtain ⟨t24, h25, H⟩ := Option.bind_eq_some_iff.1 H
    obtain ⟨t31, h32, H⟩ := Option.bind_eq_some_iff.1 H
    refine G.lexS mixed (fun w => St w0 w (Box b1 40 [.slice A_a d_Crossings.length c_a, .int .i64 d_Circles] :: L)) [0, 2, 4, 5, 6] [3, 0, 4, 5, 6, 1, 2, 7, 8, 9, 10, 11] 12 (by kernel_rfl) (by kernel_rfl) HS.drew ?_
    replace HS := HS.drew
    refine GX.l0 rfl rfl (fun _ _ g => GO.fld (⟨b1, 0, none⟩) rfl rfl fl40_0 rfl rfl g) rfl (GX.ls rfl rfl rfl HS (fun _ HS _ g => GO.ldBoxA (j := 0) ([.slice A_a d_Crossings.length c_a, .int .i64 d_Circles]) HS rfl rfl rfl rfl ag40 rfl g) rfl (GX.ls rfl rfl rfl HS (fun _ HS _ g => GO.ldBox (j := 0) HS rfl rfl rfl rfl na38 rfl g) rfl (GX.ls rfl rfl rfl HS (fun _ HS _ g => GO.lenS rfl rfl underlying38 rfl g) rfl (GX.ls rfl rfl rfl HS (fun _ HS _ g => GO.ldBoxA (j := 0) ([.slice A_a d_Crossings.length c_a, .int .i64 d_Circles]) HS rfl rfl rfl rfl ag40 rfl g) rfl (GX.l2 rfl (GO.fn rfl func126 fok126.1 fok126.2 rfl rfl (spec_l25Regions.calls HS (RdIn.drop 1 r_a) h25) (fun _ wd29 ⟨A26, c27, y28, h30, HS⟩ => ⟨_, h30, (GX.fin (HS.pk 2 [1] rfl) (GX.ls rfl rfl rfl (HS.pk 2 [1] rfl) (fun _ HS _ g => GO.lenS rfl rfl underlying156 rfl g) rfl (GX.l2 rfl (GO.fn rfl func127 fok127.1 fok127.2 rfl rfl (spec_l25PartCount.calls HS (RdIn.drop 2 r_a) h32) (fun _ wd33 ⟨h34, HS⟩ => ⟨_, h34, (GX.fin (HS.pk 2 [1] rfl) (GX.ps 4 rfl (GX.nil ?_)))⟩)))))⟩)))))))
    obtain rfl := Option.some.inj H
    exact G.ret1 _ func95 rfl rfl ⟨rfl, (HS.pk 2 [] rfl)⟩
   refine G.yesB rfl (congrArg Bool.not (bnot_of c23)) (G.run 2 rfl ?_)
   obtain rfl := Option.some.inj H
   exact G.ret1 _ func95 rfl rfl ⟨rfl, (HS.pk 1 [] rfl)⟩
  refine G.region (GO.fld (⟨b1, 0, none⟩) rfl rfl fl40_0 rfl rfl (GO.ldBox (j := 0) HS rfl rfl rfl rfl na38 rfl (GO.lenS rfl rfl underlying38 rfl (GO.ps 2 rfl (GO.known (t := 7) rfl (decide_eq_false c13) (GO.on rfl rfl rfl rfl (GO.fld (⟨b1, 1, none⟩) rfl rfl fl40_1 rfl rfl (GO.back (GO.on rfl rfl rfl rfl (GO.ldBox (j := 0) HS rfl rfl rfl rfl na2 rfl (GO.back (GO.on rfl rfl rfl rfl (GO.fn rfl func92 fok92.1 fok92.2 rfl rfl (spec_l01In.calls HS  h15) (fun _ wd16 ⟨h17, HS⟩ => ⟨_, h17, (GO.back ?_)⟩))))))))))))))
  refine GO.on rfl rfl rfl rfl (GO.not rfl rfl rfl (GO.back (GO.ps 2 rfl (GO.known (t := 13) rfl (congrArg Bool.not (bnot_of c18)) (GO.off rfl rfl rfl rfl rfl rfl (GO.off rfl rfl rfl rfl rfl rfl (GO.off rfl rfl rfl rfl rfl rfl (GO.pickT rfl rfl rfl rfl rfl (GO.nil (G.run 3 rfl ?_))))))))))
  obtain rfl := Option.some.inj H
  exact G.ret1 _ func95 rfl rfl ⟨rfl, (HS.pk 1 [] rfl)⟩
theorem spec_l32Letter.calls {w0 w : World} {L : List HObj} {n_ strands : Int} {r1 : Bool} (HS : St w0 w (L)) (H : spec_l32Letter.f n_ strands = some r1) :
    Calls prog 128 #[.int .i64 n_, .int .i64 strands] w (spec_l32Letter.post w0 L r1) := by
  unfold spec_l32Letter.f at H
  refine Calls.of_G func128 rfl rfl rfl ?_
  refine G.run 3 rfl ?_
  rcases ite_elim H with ⟨c1, H⟩ | ⟨c1, H⟩
  ·
   refine G.region (GO.ps 3 rfl (GO.known (t := 7) rfl (congrArg Bool.not (decide_eq_true c1)) (GO.off rfl rfl rfl rfl rfl rfl (GO.off rfl rfl rfl rfl rfl rfl (GO.off rfl rfl rfl rfl rfl rfl (GO.off rfl rfl rfl rfl rfl rfl (GO.off rfl rfl rfl rfl rfl rfl (GO.off rfl rfl rfl rfl rfl rfl (GO.ps 2 rfl (GO.nil ?_))))))))))
   obtain rfl := Option.some.inj H
   exact G.ret1 _ func128 rfl rfl ⟨rfl, HS⟩
  obtain ⟨t2, h3, H⟩ := Option.bind_eq_some_iff.1 H
  refine G.region (GO.ps 3 rfl (GO.known (t := 7) rfl (congrArg Bool.not (decide_eq_false c1)) (GO.on rfl rfl rfl rfl (GO.move rfl rfl rfl (GO.back (GO.on rfl rfl rfl rfl (GO.move rfl rfl rfl (GO.back (GO.on rfl rfl rfl rfl (GO.sub rfl rfl rfl rfl (GO.back (GO.on rfl rfl rfl rfl (GO.move rfl rfl rfl (GO.back ?_))))))))))))))
  refine GO.on rfl rfl rfl rfl (GO.sub rfl rfl rfl rfl (GO.back (GO.on rfl rfl rfl rfl (GO.fn rfl func92 fok92.1 fok92.2 rfl rfl (spec_l01In.calls HS  h3) (fun _ wd4 ⟨h5, HS⟩ => ⟨_, h5, (GO.back (GO.ps 2 rfl (GO.nil ?_)))⟩)))))
  obtain rfl := Option.some.inj H
  exact G.ret1 _ func128 rfl rfl ⟨rfl, HS⟩
theorem spec_ValidBraid.calls {w0 w : World} {L : List HObj} {K : Nat} {b_Strands : Int} {b_Word : List Int} {A_a : Option Addr} {c_a : Nat} {r1 : Bool} (HS : St w0 w (L)) (r_a : RdIn w0 L (TInt .i64) A_a c_a (fun _ => ()) b_Word) (H : spec_ValidBraid.f K b_Strands b_Word = some r1) :
    Calls prog 96 #[.agg [.int .i64 b_Strands, .slice A_a b_Word.length c_a].toArray] w (spec_ValidBraid.post w0 L r1) := by
  unfold spec_ValidBraid.f at H
  refine Calls.of_G func96 rfl rfl rfl ?_
  refine G.seq (G.region (GO.box (cs := [.int .i64 b_Strands, .slice A_a b_Word.length c_a]) HS rfl rfl rfl rfl fun b1 wd2 HS => GO.assign rfl rfl rfl (GO.nil (G.run 2 rfl ?_))))
  obtain ⟨t8, h9, H⟩ := Option.bind_eq_some_iff.1 H
  rcases ite_elim H with ⟨c12, H⟩ | ⟨c12, H⟩
  ·
   refine G.region (GO.fld (⟨b1, 0, none⟩) rfl rfl fl43_0 rfl rfl (GO.ldBox (j := 0) HS rfl rfl rfl rfl na2 rfl (GO.fn rfl func92 fok92.1 fok92.2 rfl rfl (spec_l01In.calls HS  h9) (fun _ wd10 ⟨h11, HS⟩ => ⟨_, h11, (GO.ps 2 rfl (GO.known (t := 8) rfl (congrArg Bool.not c12) (GO.on rfl rfl rfl rfl (GO.fld (⟨b1, 1, none⟩) rfl rfl fl43_1 rfl rfl (GO.back (GO.on rfl rfl rfl rfl (GO.ldBox (j := 0) HS rfl rfl rfl rfl na41 rfl (GO.back (GO.on rfl rfl rfl rfl (GO.lenS rfl rfl underlying41 rfl (GO.back ?_)))))))))))⟩))))
   refine GO.on rfl rfl rfl rfl (GO.gtr rfl rfl rfl rfl (GO.back (GO.pickF rfl rfl rfl rfl rfl (GO.nil ?_))))
   rcases ite_elim H with ⟨c13, H⟩ | ⟨c13, H⟩
   ·
    refine G.yesB rfl (decide_eq_true c13) (G.run 2 rfl ?_)
    obtain rfl := Option.some.inj H
    exact G.ret1 _ func96 rfl rfl ⟨rfl, (HS.pk 1 [] rfl)⟩
   refine G.noB rfl (decide_eq_false c13) (G.run 6 rfl ?_)
   refine G.name (fun k_l1 hk_l1 => ?_)
   have at_l1 : ∀ m_l1, m_l1 ≤ K → ∀ (i_21 : Int) (w : World), spec_ValidBraid.l1 K m_l1 b_Strands b_Word i_21 = some r1 → St w0 w (Box b1 43 [.int .i64 b_Strands, .slice A_a b_Word.length c_a] :: L) → G prog 96 30 [(1, .pointer (some ⟨b1, 0, none⟩)), (3, .int .i64 i_21)] k_l1 w (spec_ValidBraid.post w0 L r1) := by
    intro m_l1
    induction m_l1 using Nat.strongRecOn with
    | _ m_l1 ih_l1 =>
     intro hm_l1 i_21 w H HS
     cases m_l1 with
     | zero => rw [spec_ValidBraid.l1] at H; cases H
     | succ n_l1 =>
      rw [spec_ValidBraid.l1] at H
      subst hk_l1
      refine G.run 2 rfl (G.region (GO.move rfl rfl rfl (GO.fld (⟨b1, 1, none⟩) rfl rfl fl43_1 rfl rfl (GO.ldBox (j := 0) HS rfl rfl rfl rfl na41 rfl (GO.lenS rfl rfl underlying41 rfl (GO.lss rfl rfl rfl rfl (GO.nil ?_)))))))
      rcases ite_elim H with ⟨c29, H⟩ | ⟨c29, H⟩
      ·
       refine G.yesB rfl (decide_eq_true c29) (G.run 4 rfl ?_)
       obtain ⟨c30, H⟩ := ite_none H
       obtain ⟨t31, h32, H⟩ := Option.bind_eq_some_iff.1 H
       refine G.lex mixed [0, 2, 5, 1, 3, 4, 6, 7, 8] (by kernel_rfl) ?_
       replace HS := HS.drew
       refine GX.l0 rfl rfl (fun _ _ g => GO.fld (⟨b1, 1, none⟩) rfl rfl fl43_1 rfl rfl g) rfl (GX.ps 1 rfl (GX.l0 rfl rfl (fun _ _ g => GO.fld (⟨b1, 0, none⟩) rfl rfl fl43_0 rfl rfl g) rfl (GX.l1 rfl rfl rfl (fun _ g => GO.ldBox (j := 0) HS rfl rfl rfl rfl na41 rfl g) rfl (GX.l0 rfl rfl (fun _ _ g => GO.ix rfl rfl rfl underlying41 sz2 ((RdIn.drop 1 r_a) _ HS).2.2.1 c30.1 c30.2 rfl g) rfl (GX.l1 rfl rfl rfl (fun _ g => GO.ldRd (T := (TInt .i64)) (n := i_21.toNat) (o := 0) HS (RdIn.drop 1 r_a) rfl rfl (getD_some (d := 0) (ltN c30)) rfl rfl na2 rfl g) rfl (GX.l1 rfl rfl rfl (fun _ g => GO.ldBox (j := 0) HS rfl rfl rfl rfl na2 rfl g) rfl (GX.l2 rfl (GO.fn rfl func128 fok128.1 fok128.2 rfl rfl (spec_l32Letter.calls HS  h32) (fun _ wd33 ⟨h34, HS⟩ => ⟨_, h34, (GX.fin trivial (GX.ps 1 rfl (GX.nil ?_)))⟩)))))))))
       rcases ite_elim H with ⟨c35, H⟩ | ⟨c35, H⟩
       ·
        refine G.noB rfl (congrArg Bool.not c35) (G.run 4 rfl (G.weak ?_ (ih_l1 n_l1 (Nat.lt_succ_of_le (Nat.le_refl _)) (Nat.le_of_succ_le hm_l1) _ _ H HS)))
        exact ⟨rfl, rfl, trivial⟩
       refine G.yesB rfl (congrArg Bool.not (bnot_of c35)) (G.run 2 rfl ?_)
       obtain rfl := Option.some.inj H
       exact G.ret1 _ func96 rfl rfl ⟨rfl, (HS.pk 1 [] rfl)⟩
      refine G.noB rfl (decide_eq_false c29) (G.run 3 rfl ?_)
      obtain rfl := Option.some.inj H
      exact G.ret1 _ func96 rfl rfl ⟨rfl, (HS.pk 1 [] rfl)⟩
   refine G.weak ?_ (at_l1 K (Nat.le_refl _) _ _ H HS)
   exact ⟨rfl, rfl, trivial⟩
  refine G.region (GO.fld (⟨b1, 0, none⟩) rfl rfl fl43_0 rfl rfl (GO.ldBox (j := 0) HS rfl rfl rfl rfl na2 rfl (GO.fn rfl func92 fok92.1 fok92.2 rfl rfl (spec_l01In.calls HS  h9) (fun _ wd10 ⟨h11, HS⟩ => ⟨_, h11, (GO.ps 2 rfl (GO.known (t := 8) rfl (congrArg Bool.not (bnot_of c12)) (GO.off rfl rfl rfl rfl rfl rfl (GO.off rfl rfl rfl rfl rfl rfl (GO.off rfl rfl rfl rfl rfl rfl (GO.off rfl rfl rfl rfl rfl rfl (GO.pickT rfl rfl rfl rfl rfl (GO.nil (G.run 3 rfl ?_)))))))))⟩))))
  obtain rfl := Option.some.inj H
  exact G.ret1 _ func96 rfl rfl ⟨rfl, (HS.pk 1 [] rfl)⟩
theorem spec_l23Is.calls {w0 w : World} {L : List HObj} {name : Int} {r1 : Bool} (HS : St w0 w (L)) (H : spec_l23Is.f name = some r1) :
    Calls prog 129 #[.int .i64 name] w (spec_l23Is.post w0 L r1) := by
  unfold spec_l23Is.f at H
  refine Calls.of_G func129 rfl rfl rfl ?_
  refine G.run 3 rfl ?_
  obtain ⟨t1, h2, H⟩ := Option.bind_eq_some_iff.1 H
  refine G.region (GO.move rfl rfl rfl (GO.fn rfl func92 fok92.1 fok92.2 rfl rfl (spec_l01In.calls HS  h2) (fun _ wd3 ⟨h4, HS⟩ => ⟨_, h4, (GO.assign rfl rfl rfl (GO.nil ?_))⟩)))
  obtain rfl := Option.some.inj H
  exact G.ret1 _ func129 rfl rfl ⟨rfl, HS⟩
theorem spec_l12Most.calls {w0 w : World} {L : List HObj} {K : Nat} {kind r1 : Int} (HS : St w0 w (L)) (H : spec_l12Most.f K kind = some r1) :
    Calls prog 151 #[.int .i64 kind] w (spec_l12Most.post w0 L r1) := by
  unfold spec_l12Most.f at H
  refine Calls.of_G func151 rfl rfl rfl ?_
  refine G.run 9 rfl ?_
  refine G.nameT (fun k_j1 hk_j1 => ?_)
  have at_j1 : ∀ m_j1, m_j1 ≤ K → ∀ (x2 : Bool) (w : World), spec_l12Most.j1 K m_j1 kind x2 = some r1 → St w0 w (L) → G prog 151 11 [(3, .int .i64 kind), (4, .bool x2)] k_j1 w (spec_l12Most.post w0 L r1) := by
   intro m_j1 hm_j1 x2 w H HS
   cases m_j1 with
   | zero => rw [spec_l12Most.j1] at H; cases H
   | succ n_j1 =>
    rw [spec_l12Most.j1] at H
    subst hk_j1
    rcases ite_elim H with ⟨c3, H⟩ | ⟨c3, H⟩
    ·
     refine G.yesB rfl c3 (G.run 2 rfl ?_)
     obtain rfl := Option.some.inj H
     exact G.ret1 _ func151 rfl rfl ⟨rfl, HS⟩
    refine G.noB rfl (bnot_of c3) (G.run 2 rfl ?_)
    rcases ite_elim H with ⟨c4, H⟩ | ⟨c4, H⟩
    ·
     refine G.yesB rfl (decide_eq_true c4) (G.run 2 rfl ?_)
     obtain rfl := Option.some.inj H
     exact G.ret1 _ func151 rfl rfl ⟨rfl, HS⟩
    refine G.noB rfl (decide_eq_false c4) (G.run 2 rfl ?_)
    rcases ite_elim H with ⟨c5, H⟩ | ⟨c5, H⟩
    ·
     refine G.yesB rfl (decide_eq_true c5) (G.run 2 rfl ?_)
     obtain rfl := Option.some.inj H
     exact G.ret1 _ func151 rfl rfl ⟨rfl, HS⟩
    refine G.noB rfl (decide_eq_false c5) (G.run 4 rfl ?_)
    obtain rfl := Option.some.inj H
    exact G.ret1 _ func151 rfl rfl ⟨rfl, HS⟩
  rcases ite_elim H with ⟨c6, H⟩ | ⟨c6, H⟩
  ·
   refine G.yesB rfl (decide_eq_true c6) (G.skip (G.weak ?_ (at_j1 K (Nat.le_refl _) _ _ H HS)))
   exact ⟨rfl, rfl, trivial⟩
  refine G.noB rfl (decide_eq_false c6) (G.run 1 rfl (G.weak ?_ (at_j1 K (Nat.le_refl _) _ _ H HS)))
  exact ⟨rfl, rfl, trivial⟩
theorem spec_l12Names.calls {w0 w : World} {L : List HObj} {r1 : List ByteArray} (HS : St w0 w (L)) (H : spec_l12Names.f = some r1) :
    Calls prog 152 #[] w (spec_l12Names.post w0 L r1) := by
  unfold spec_l12Names.f at H
  refine Calls.of_G func152 rfl rfl rfl ?_
  refine G.run 3 rfl (G.region (GO.buildS (el := 9) ([.string (⟨#[50, 51]⟩ : ByteArray), .string (⟨#[51, 50]⟩ : ByteArray), .string (⟨#[49, 52]⟩ : ByteArray), .string (⟨#[52, 49]⟩ : ByteArray)]) HS rfl rfl (fun _ => by kernel_rfl) rfl fun b1 wd2 HS => ?_))
  replace HS := HS.boxRow (T := TStr) (j := 0) rfl flat_flat (fun _ => ()) ([(⟨#[50, 51]⟩ : ByteArray), (⟨#[51, 50]⟩ : ByteArray), (⟨#[49, 52]⟩ : ByteArray), (⟨#[52, 49]⟩ : ByteArray)] : List ByteArray) rfl (bndL rfl)
  refine GO.lenC (t := 1) (m := ([(⟨#[50, 51]⟩ : ByteArray), (⟨#[51, 50]⟩ : ByteArray), (⟨#[49, 52]⟩ : ByteArray), (⟨#[52, 49]⟩ : ByteArray)] : List ByteArray).length) (c' := ([(⟨#[50, 51]⟩ : ByteArray), (⟨#[51, 50]⟩ : ByteArray), (⟨#[49, 52]⟩ : ByteArray), (⟨#[52, 49]⟩ : ByteArray)] : List ByteArray).length) rfl rfl rfl (GO.assign rfl rfl rfl (GO.nil ?_))
  obtain rfl := Option.some.inj H
  exact G.ret1 _ func152 rfl rfl ⟨_, _, rfl, HS⟩
theorem spec_l07Digit.calls {w0 w : World} {L : List HObj} {n_ : Int} {r1 : ByteArray} (HS : St w0 w (L)) (H : spec_l07Digit.f n_ = some r1) :
    Calls prog 153 #[.int .i64 n_] w (spec_l07Digit.post w0 L r1) := by
  unfold spec_l07Digit.f at H
  refine Calls.of_G func153 rfl rfl rfl ?_
  refine G.run 3 rfl (G.region (GO.ps 2 rfl (GO.conv rfl rfl underlying2 underlying5 rfl (GO.buildS (el := 5) ([.int .u8 (IntKind.wrap .u8 (w64 (48 + n_)))]) HS rfl rfl (fun _ => by kernel_rfl) rfl fun b1 wd2 HS => ?_))))
  replace HS := HS.boxRow (T := (TInt .u8)) (j := 0) rfl flat_flat (fun _ => ()) ([IntKind.wrap .u8 (w64 (48 + n_))] : List Int) rfl (bndL rfl)
  refine GO.lenC (t := 6) (m := ([IntKind.wrap .u8 (w64 (48 + n_))] : List Int).length) (c' := ([IntKind.wrap .u8 (w64 (48 + n_))] : List Int).length) rfl rfl rfl (GO.bytesStr HS (RdIn.own (j := 0) rfl) rfl rfl underlying147 underlying5 underlying9 rfl (GO.assign rfl rfl rfl (GO.nil ?_)))
  obtain rfl := Option.some.inj H
  exact G.ret1 _ func153 rfl rfl ⟨rfl, (HS.pk 1 [] rfl)⟩
theorem spec_MoveText.calls {w0 w : World} {L : List HObj} {K : Nat} {m_Kind m_Tet m_Index : Int} {r1 : ByteArray} (HS : St w0 w (L)) (H : spec_MoveText.f K m_Kind m_Tet m_Index = some r1) :
    Calls prog 130 #[.agg [.int .i64 m_Kind, .int .i64 m_Tet, .int .i64 m_Index].toArray] w (spec_MoveText.post w0 L r1) := by
  unfold spec_MoveText.f at H
  refine Calls.of_G func130 rfl rfl rfl ?_
  refine G.seq (G.region (GO.box (cs := [.int .i64 m_Kind, .int .i64 m_Tet, .int .i64 m_Index]) HS rfl rfl rfl rfl fun b1 wd2 HS => GO.assign rfl rfl rfl (GO.nil (G.run 2 rfl ?_))))
  obtain ⟨t21, h22, H⟩ := Option.bind_eq_some_iff.1 H
  rcases ite_elim H with ⟨c25, H⟩ | ⟨c25, H⟩
  ·
   refine G.lexS mixed (fun w => St w0 w (Box b1 110 [.int .i64 m_Kind, .int .i64 m_Tet, .int .i64 m_Index] :: L)) [1, 6, 12, 14] [0, 1, 2, 3, 4, 5, 6, 7, 8, 9, 10, 11, 13, 12, 14, 15, 16, 17, 18] 19 (by kernel_rfl) (by kernel_rfl) HS.drew ?_
   replace HS := HS.drew
   refine GX.l0 rfl rfl (fun _ _ g => GO.fld (⟨b1, 0, none⟩) rfl rfl fl110_0 rfl rfl g) rfl (GX.ls rfl rfl rfl HS (fun _ HS _ g => GO.ldBox (j := 0) HS rfl rfl rfl rfl na2 rfl g) rfl (GX.l2 rfl (GO.fn rfl func151 fok151.1 fok151.2 rfl rfl (spec_l12Most.calls HS  h22) (fun _ wd23 ⟨h24, HS⟩ => ⟨_, h24, (GX.fin HS (GX.ps 1 rfl (GX.l0 rfl rfl (fun _ _ g => GO.move rfl rfl rfl (GO.known (t := 7) rfl (decide_eq_true c25) g)) rfl (GX.l0 rfl rfl (fun _ _ g => GO.off rfl rfl rfl rfl rfl rfl g) rfl (GX.ls rfl rfl rfl HS (fun _ HS _ g => GO.off rfl rfl rfl rfl rfl rfl g) rfl (GX.l2 rfl (GO.off rfl rfl rfl rfl rfl rfl (GX.fin HS (GX.l0 rfl rfl (fun _ _ g => GO.off rfl rfl rfl rfl rfl rfl g) rfl (GX.ps 2 rfl (GX.l0 rfl rfl (fun _ _ g => GO.off rfl rfl rfl rfl rfl rfl g) rfl ?_)))))))))))⟩))))
   refine GX.l0 rfl rfl (fun _ _ g => GO.off rfl rfl rfl rfl rfl rfl g) rfl (GX.ls rfl rfl rfl HS (fun _ HS _ g => GO.off rfl rfl rfl rfl rfl rfl g) rfl (GX.ls rfl rfl rfl HS (fun _ HS _ g => GO.off rfl rfl rfl rfl rfl rfl g) rfl (GX.l2 rfl (GO.off rfl rfl rfl rfl rfl rfl (GX.fin HS (GX.l2 rfl (GO.off rfl rfl rfl rfl rfl rfl (GX.fin HS (GX.l0 rfl rfl (fun _ _ g => GO.off rfl rfl rfl rfl rfl rfl g) rfl (GX.ps 1 rfl (GX.nil (G.run 3 rfl ?_))))))))))))
   obtain rfl := Option.some.inj H
   exact G.ret1 _ func130 rfl rfl ⟨rfl, (HS.pk 1 [] rfl)⟩
  obtain ⟨t26, h27, H⟩ := Option.bind_eq_some_iff.1 H
  rcases ite_elim H with ⟨c30, H⟩ | ⟨c30, H⟩
  ·
   obtain ⟨t31, h32, H⟩ := Option.bind_eq_some_iff.1 H
   obtain ⟨t35, h36, H⟩ := Option.bind_eq_some_iff.1 H
   refine G.lexS mixed (fun w => St w0 w (Box b1 110 [.int .i64 m_Kind, .int .i64 m_Tet, .int .i64 m_Index] :: L)) [1, 6, 12, 14] [0, 1, 2, 3, 4, 5, 6, 7, 8, 9, 10, 11, 13, 12, 14, 15, 16, 17, 18] 19 (by kernel_rfl) (by kernel_rfl) HS.drew ?_
   replace HS := HS.drew
   refine GX.l0 rfl rfl (fun _ _ g => GO.fld (⟨b1, 0, none⟩) rfl rfl fl110_0 rfl rfl g) rfl (GX.ls rfl rfl rfl HS (fun _ HS _ g => GO.ldBox (j := 0) HS rfl rfl rfl rfl na2 rfl g) rfl (GX.l2 rfl (GO.fn rfl func151 fok151.1 fok151.2 rfl rfl (spec_l12Most.calls HS  h22) (fun _ wd23 ⟨h24, HS⟩ => ⟨_, h24, (GX.fin HS (GX.ps 1 rfl (GX.l0 rfl rfl (fun _ _ g => GO.move rfl rfl rfl (GO.known (t := 7) rfl (decide_eq_false c25) g)) rfl (GX.l0 rfl rfl (fun _ _ g => GO.on rfl rfl rfl rfl (GO.fld (⟨b1, 1, none⟩) rfl rfl fl110_1 rfl rfl (GO.back g))) rfl (GX.ls rfl rfl rfl HS (fun _ HS _ g => GO.on rfl rfl rfl rfl (GO.ldBox (j := 0) HS rfl rfl rfl rfl na2 rfl (GO.back g))) rfl (GX.l2 rfl (GO.on rfl rfl rfl rfl (GO.fn rfl func121 fok121.1 fok121.2 rfl rfl (spec_l07In.calls HS  h27) (fun _ wd28 ⟨h29, HS⟩ => ⟨_, h29, (GO.back (GX.fin HS (GX.l0 rfl rfl (fun _ _ g => GO.on rfl rfl rfl rfl (GO.not rfl rfl rfl (GO.back g))) rfl ?_)))⟩)))))))))⟩))))
   refine GX.ps 1 rfl (GX.l0 rfl rfl (fun _ _ g => GO.move rfl rfl rfl (GO.known (t := 13) rfl (congrArg Bool.not c30) g)) rfl (GX.l0 rfl rfl (fun _ _ g => GO.on rfl rfl rfl rfl (GO.fld (⟨b1, 2, none⟩) rfl rfl fl110_2 rfl rfl (GO.back g))) rfl (GX.l0 rfl rfl (fun _ _ g => GO.on rfl rfl rfl rfl (GO.fld (⟨b1, 0, none⟩) rfl rfl fl110_0 rfl rfl (GO.back g))) rfl (GX.ls rfl rfl rfl HS (fun _ HS _ g => GO.on rfl rfl rfl rfl (GO.ldBox (j := 0) HS rfl rfl rfl rfl na2 rfl (GO.back g))) rfl (GX.ls rfl rfl rfl HS (fun _ HS _ g => GO.on rfl rfl rfl rfl (GO.ldBox (j := 0) HS rfl rfl rfl rfl na2 rfl (GO.back g))) rfl (GX.l2 rfl (GO.on rfl rfl rfl rfl (GO.fn rfl func151 fok151.1 fok151.2 rfl rfl (spec_l12Most.calls HS  h32) (fun _ wd33 ⟨h34, HS⟩ => ⟨_, h34, (GO.back (GX.fin HS (GX.l2 rfl (GO.on rfl rfl rfl rfl (GO.fn rfl func121 fok121.1 fok121.2 rfl rfl (spec_l07In.calls HS  h36) (fun _ wd37 ⟨h38, HS⟩ => ⟨_, h38, (GO.back ?_)⟩))))))⟩)))))))))
   refine GX.fin HS (GX.l0 rfl rfl (fun _ _ g => GO.on rfl rfl rfl rfl (GO.not rfl rfl rfl (GO.back g))) rfl (GX.ps 1 rfl (GX.nil ?_)))
   rcases ite_elim H with ⟨c39, H⟩ | ⟨c39, H⟩
   ·
    refine G.noB rfl (congrArg Bool.not c39) (G.run 2 rfl ?_)
    obtain ⟨t40, h41, H⟩ := Option.bind_eq_some_iff.1 H
    obtain ⟨c46, H⟩ := ite_none H
    obtain ⟨c47, H⟩ := ite_none H
    obtain ⟨t48, h49, H⟩ := Option.bind_eq_some_iff.1 H
    obtain ⟨c52, H⟩ := ite_none H
    obtain ⟨c53, H⟩ := ite_none H
    obtain ⟨t54, h55, H⟩ := Option.bind_eq_some_iff.1 H
    obtain ⟨c58, H⟩ := ite_none H
    refine G.regionAny mixed (by decide) (fun b a w => ∃ (Y1_0 : Value) (Y2_1 : Value) (Y3_2 : Value) (Y4_3 : Value) (Y5_4 : Value) (Y6_5 : Value) (Y7_6 : Value) (Y8_7 : Value) (Y9_8 : Value) (Y10_9 : Value) (Y11_10 : Value) (Y12_11 : Value) (Y13_12 : Value) (Y14_13 : Value) (Y15_14 : Value) (Y16_15 : Value) (Y17_16 : Value) (A42 : Option Addr) (c43 : Nat) (O18_2 : HObj), Sat 38 [(2, Y17_16), (22, Y1_0), (23, Y2_1), (24, Y3_2), (25, Y4_3), (26, Y5_4), (27, Y6_5), (28, Y7_6), (29, Y8_7), (30, Y9_8), (31, Y10_9), (32, Y11_10), (33, Y12_11), (34, Y13_12), (35, Y14_13), (36, Y15_14), (37, Y16_15), (1, .pointer (some ⟨b1, 0, none⟩))] a ∧ St w0 w (Box b1 110 [.int .i64 m_Kind, .int .i64 m_Tet, .int .i64 m_Index] :: O18_2 :: L) ∧ (b 16 = true → Y17_16 = (.string ((((t40.getD ((w64 (m_Kind - 1)).toNat) ByteArray.empty ++ (⟨#[32]⟩ : ByteArray)) ++ t48) ++ (⟨#[32]⟩ : ByteArray)) ++ t54))) ∧ (b 0 = true → Y1_0 = (.slice A42 t40.length c43)) ∧ (b 1 = true → Y2_1 = (.pointer (some ⟨b1, 0, none⟩))) ∧ (b 2 = true → Y3_2 = (.int .i64 m_Kind)) ∧ (b 3 = true → Y4_3 = (.int .i64 (w64 (m_Kind - 1)))) ∧ (b 4 = true → Y5_4 = (.pointer (some (ea A42 (((w64 (m_Kind - 1)).toNat) * 1))))) ∧ (b 5 = true → Y6_5 = (.string (t40.getD ((w64 (m_Kind - 1)).toNat) ByteArray.empty))) ∧ (b 6 = true → Y7_6 = (.string (t40.getD ((w64 (m_Kind - 1)).toNat) ByteArray.empty ++ (⟨#[32]⟩ : ByteArray)))) ∧ (b 7 = true → Y8_7 = (.pointer (some ⟨b1, 1, none⟩))) ∧ (b 8 = true → Y9_8 = (.int .i64 m_Tet)) ∧ (b 9 = true → Y10_9 = (.string t48)) ∧ (b 10 = true → Y11_10 = (.string ((t40.getD ((w64 (m_Kind - 1)).toNat) ByteArray.empty ++ (⟨#[32]⟩ : ByteArray)) ++ t48))) ∧ (b 11 = true → Y12_11 = (.string (((t40.getD ((w64 (m_Kind - 1)).toNat) ByteArray.empty ++ (⟨#[32]⟩ : ByteArray)) ++ t48) ++ (⟨#[32]⟩ : ByteArray)))) ∧ (b 12 = true → Y13_12 = (.pointer (some ⟨b1, 2, none⟩))) ∧ (b 13 = true → Y14_13 = (.int .i64 m_Index)) ∧ (b 14 = true → Y15_14 = (.string t54)) ∧ (b 15 = true → Y16_15 = (.string ((((t40.getD ((w64 (m_Kind - 1)).toNat) ByteArray.empty ++ (⟨#[32]⟩ : ByteArray)) ++ t48) ++ (⟨#[32]⟩ : ByteArray)) ++ t54))) ∧ (b 0 = true → O18_2 = Own TStr 9 A42 c43 (fun _ => ()) t40)) ?_ ?_ ?_
    ·
     intro a hs
     obtain ⟨Y17_16, hs⟩ := hs.ext (d := 2) rfl
     obtain ⟨Y1_0, hs⟩ := hs.ext (d := 22) rfl
     obtain ⟨Y2_1, hs⟩ := hs.ext (d := 23) rfl
     obtain ⟨Y3_2, hs⟩ := hs.ext (d := 24) rfl
     obtain ⟨Y4_3, hs⟩ := hs.ext (d := 25) rfl
     obtain ⟨Y5_4, hs⟩ := hs.ext (d := 26) rfl
     obtain ⟨Y6_5, hs⟩ := hs.ext (d := 27) rfl
     obtain ⟨Y7_6, hs⟩ := hs.ext (d := 28) rfl
     obtain ⟨Y8_7, hs⟩ := hs.ext (d := 29) rfl
     obtain ⟨Y9_8, hs⟩ := hs.ext (d := 30) rfl
     obtain ⟨Y10_9, hs⟩ := hs.ext (d := 31) rfl
     obtain ⟨Y11_10, hs⟩ := hs.ext (d := 32) rfl
     obtain ⟨Y12_11, hs⟩ := hs.ext (d := 33) rfl
     obtain ⟨Y13_12, hs⟩ := hs.ext (d := 34) rfl
     obtain ⟨Y14_13, hs⟩ := hs.ext (d := 35) rfl
     obtain ⟨Y15_14, hs⟩ := hs.ext (d := 36) rfl
     obtain ⟨Y16_15, hs⟩ := hs.ext (d := 37) rfl
     exact ⟨Y1_0, Y2_1, Y3_2, Y4_3, Y5_4, Y6_5, Y7_6, Y8_7, Y9_8, Y10_9, Y11_10, Y12_11, Y13_12, Y14_13, Y15_14, Y16_15, Y17_16, none, 0, Emp, hs.weak ⟨rfl, rfl, rfl, rfl, rfl, rfl, rfl, rfl, rfl, rfl, rfl, rfl, rfl, rfl, rfl, rfl, rfl, rfl, trivial⟩, (HS.drew.emp.pk 2 [1, 0] rfl), fun h => Bool.noConfusion h, fun h => Bool.noConfusion h, fun h => Bool.noConfusion h, fun h => Bool.noConfusion h, fun h => Bool.noConfusion h, fun h => Bool.noConfusion h, fun h => Bool.noConfusion h, fun h => Bool.noConfusion h, fun h => Bool.noConfusion h, fun h => Bool.noConfusion h, fun h => Bool.noConfusion h, fun h => Bool.noConfusion h, fun h => Bool.noConfusion h, fun h => Bool.noConfusion h, fun h => Bool.noConfusion h, fun h => Bool.noConfusion h, fun h => Bool.noConfusion h, fun h => Bool.noConfusion h⟩
    ·
     intro j hj b a w
     refine exI fun Y1_0 => exI fun Y2_1 => exI fun Y3_2 => exI fun Y4_3 => exI fun Y5_4 => exI fun Y6_5 => exI fun Y7_6 => exI fun Y8_7 => exI fun Y9_8 => exI fun Y10_9 => exI fun Y11_10 => exI fun Y12_11 => exI fun Y13_12 => exI fun Y14_13 => exI fun Y15_14 => exI fun Y16_15 => exI fun Y17_16 => exI fun A42 => exI fun c43 => exI fun O18_2 => anI fun hs => anI fun HS => anI fun f16 => anI fun f0 => anI fun f1 => anI fun f2 => anI fun f3 => anI fun f4 => anI fun f5 => anI fun f6 => anI fun f7 => anI fun f8 => anI fun f9 => anI fun f10 => anI fun f11 => anI fun f12 => anI fun f13 => anI fun f14 => anI fun f15 => fun o2_0 hb hd hcl => ?_
     match j, hj with
     | 0, _ =>
      refine GO.at hs (GO.fn rfl func152 fok152.1 fok152.2 rfl rfl (spec_l12Names.calls HS  h41) (fun _ wd44 ⟨A42, c43, h45, HS⟩ => ⟨_, h45, (GO.fin (fun a hs => ⟨(.slice A42 t40.length c43), _, _, _, _, _, _, _, _, _, _, _, _, _, _, _, _, A42, c43, Own TStr 9 A42 c43 (fun _ => ()) t40, by exact hs.setAt 1 rfl, HS.pk 3 [1, 0] rfl, f16, fun _ => rfl, f1, f2, f3, fun hh => (Bool.noConfusion ((hcl 4 (by decide) hh 0 (by decide)).symm.trans hb)), f5, f6, f7, f8, f9, f10, f11, f12, f13, f14, f15, fun _ => rfl⟩))⟩))
     | 1, _ =>
      refine GO.at hs (GO.fld (⟨b1, 0, none⟩) rfl rfl fl110_0 rfl rfl (GO.fin (fun a hs => ⟨_, (.pointer (some ⟨b1, 0, none⟩)), _, _, _, _, _, _, _, _, _, _, _, _, _, _, _, A42, c43, _, by exact hs.setAt 2 rfl, HS, f16, f0, fun _ => rfl, f2, f3, f4, f5, f6, f7, f8, f9, f10, f11, f12, f13, f14, f15, o2_0⟩)))
     | 2, _ =>
      have hb1 : b 1 = true := hd 1 (by decide)
      obtain rfl := f1 hb1
      refine GO.at hs (GO.ldBox (j := 0) HS rfl rfl rfl rfl na2 rfl (GO.fin (fun a hs => ⟨_, _, (.int .i64 m_Kind), _, _, _, _, _, _, _, _, _, _, _, _, _, _, A42, c43, _, by exact hs.setAt 3 rfl, HS, f16, f0, f1, fun _ => rfl, f3, f4, f5, f6, f7, f8, f9, f10, f11, f12, f13, f14, f15, o2_0⟩)))
     | 3, _ =>
      have hb2 : b 2 = true := hd 2 (by decide)
      obtain rfl := f2 hb2
      refine GO.at hs (GO.sub rfl rfl rfl rfl (GO.fin (fun a hs => ⟨_, _, _, (.int .i64 (w64 (m_Kind - 1))), _, _, _, _, _, _, _, _, _, _, _, _, _, A42, c43, _, by exact hs.setAt 4 rfl, HS, f16, f0, f1, f2, fun _ => rfl, f4, f5, f6, f7, f8, f9, f10, f11, f12, f13, f14, f15, o2_0⟩)))
     | 4, _ =>
      have hb0 : b 0 = true := hd 0 (by decide)
      obtain rfl := f0 hb0
      have hb3 : b 3 = true := hd 3 (by decide)
      obtain rfl := f3 hb3
      obtain rfl := o2_0 hb0
      refine GO.at hs (GO.ix rfl rfl rfl underlying176 sz9 ((RdIn.own (j := 1) rfl) _ HS).2.2.1 c46.1 c46.2 rfl (GO.fin (fun a hs => ⟨_, _, _, _, (.pointer (some (ea A42 (((w64 (m_Kind - 1)).toNat) * 1)))), _, _, _, _, _, _, _, _, _, _, _, _, A42, c43, _, by exact hs.setAt 5 rfl, HS, f16, f0, f1, f2, f3, fun _ => rfl, f5, f6, f7, f8, f9, f10, f11, f12, f13, f14, f15, o2_0⟩)))
     | 5, _ =>
      have hb4 : b 4 = true := hd 4 (by decide)
      obtain rfl := f4 hb4
      have hb0 : b 0 = true := hcl 4 (by decide) (hd 4 (by decide)) 0 (by decide)
      obtain rfl := o2_0 hb0
      refine GO.at hs (GO.ldRd (T := TStr) (n := (w64 (m_Kind - 1)).toNat) (o := 0) HS (RdIn.own (j := 1) rfl) rfl rfl (getD_some (d := ByteArray.empty) (ltN c46)) rfl rfl na9 rfl (GO.fin (fun a hs => ⟨_, _, _, _, _, (.string (t40.getD ((w64 (m_Kind - 1)).toNat) ByteArray.empty)), _, _, _, _, _, _, _, _, _, _, _, A42, c43, _, by exact hs.setAt 6 rfl, HS, f16, f0, f1, f2, f3, f4, fun _ => rfl, f6, f7, f8, f9, f10, f11, f12, f13, f14, f15, o2_0⟩)))
     | 6, _ =>
      have hb5 : b 5 = true := hd 5 (by decide)
      obtain rfl := f5 hb5
      refine GO.at hs (GO.catS rfl rfl rfl c47 rfl (GO.fin (fun a hs => ⟨_, _, _, _, _, _, (.string (t40.getD ((w64 (m_Kind - 1)).toNat) ByteArray.empty ++ (⟨#[32]⟩ : ByteArray))), _, _, _, _, _, _, _, _, _, _, A42, c43, _, by exact hs.setAt 7 rfl, HS, f16, f0, f1, f2, f3, f4, f5, fun _ => rfl, f7, f8, f9, f10, f11, f12, f13, f14, f15, o2_0⟩)))
     | 7, _ =>
      refine GO.at hs (GO.fld (⟨b1, 1, none⟩) rfl rfl fl110_1 rfl rfl (GO.fin (fun a hs => ⟨_, _, _, _, _, _, _, (.pointer (some ⟨b1, 1, none⟩)), _, _, _, _, _, _, _, _, _, A42, c43, _, by exact hs.setAt 8 rfl, HS, f16, f0, f1, f2, f3, f4, f5, f6, fun _ => rfl, f8, f9, f10, f11, f12, f13, f14, f15, o2_0⟩)))
     | 8, _ =>
      have hb7 : b 7 = true := hd 7 (by decide)
      obtain rfl := f7 hb7
      refine GO.at hs (GO.ldBox (j := 0) HS rfl rfl rfl rfl na2 rfl (GO.fin (fun a hs => ⟨_, _, _, _, _, _, _, _, (.int .i64 m_Tet), _, _, _, _, _, _, _, _, A42, c43, _, by exact hs.setAt 9 rfl, HS, f16, f0, f1, f2, f3, f4, f5, f6, f7, fun _ => rfl, f9, f10, f11, f12, f13, f14, f15, o2_0⟩)))
     | 9, _ =>
      have hb8 : b 8 = true := hd 8 (by decide)
      obtain rfl := f8 hb8
      refine GO.at hs (GO.fn rfl func153 fok153.1 fok153.2 rfl rfl (spec_l07Digit.calls HS  h49) (fun _ wd50 ⟨h51, HS⟩ => ⟨_, h51, (GO.fin (fun a hs => ⟨_, _, _, _, _, _, _, _, _, (.string t48), _, _, _, _, _, _, _, A42, c43, _, by exact hs.setAt 10 rfl, HS, f16, f0, f1, f2, f3, f4, f5, f6, f7, f8, fun _ => rfl, f10, f11, f12, f13, f14, f15, o2_0⟩))⟩))
     | 10, _ =>
      have hb6 : b 6 = true := hd 6 (by decide)
      obtain rfl := f6 hb6
      have hb9 : b 9 = true := hd 9 (by decide)
      obtain rfl := f9 hb9
      refine GO.at hs (GO.catS rfl rfl rfl c52 rfl (GO.fin (fun a hs => ⟨_, _, _, _, _, _, _, _, _, _, (.string ((t40.getD ((w64 (m_Kind - 1)).toNat) ByteArray.empty ++ (⟨#[32]⟩ : ByteArray)) ++ t48)), _, _, _, _, _, _, A42, c43, _, by exact hs.setAt 11 rfl, HS, f16, f0, f1, f2, f3, f4, f5, f6, f7, f8, f9, fun _ => rfl, f11, f12, f13, f14, f15, o2_0⟩)))
     | 11, _ =>
      have hb10 : b 10 = true := hd 10 (by decide)
      obtain rfl := f10 hb10
      refine GO.at hs (GO.catS rfl rfl rfl c53 rfl (GO.fin (fun a hs => ⟨_, _, _, _, _, _, _, _, _, _, _, (.string (((t40.getD ((w64 (m_Kind - 1)).toNat) ByteArray.empty ++ (⟨#[32]⟩ : ByteArray)) ++ t48) ++ (⟨#[32]⟩ : ByteArray))), _, _, _, _, _, A42, c43, _, by exact hs.setAt 12 rfl, HS, f16, f0, f1, f2, f3, f4, f5, f6, f7, f8, f9, f10, fun _ => rfl, f12, f13, f14, f15, o2_0⟩)))
     | 12, _ =>
      refine GO.at hs (GO.fld (⟨b1, 2, none⟩) rfl rfl fl110_2 rfl rfl (GO.fin (fun a hs => ⟨_, _, _, _, _, _, _, _, _, _, _, _, (.pointer (some ⟨b1, 2, none⟩)), _, _, _, _, A42, c43, _, by exact hs.setAt 13 rfl, HS, f16, f0, f1, f2, f3, f4, f5, f6, f7, f8, f9, f10, f11, fun _ => rfl, f13, f14, f15, o2_0⟩)))
     | 13, _ =>
      have hb12 : b 12 = true := hd 12 (by decide)
      obtain rfl := f12 hb12
      refine GO.at hs (GO.ldBox (j := 0) HS rfl rfl rfl rfl na2 rfl (GO.fin (fun a hs => ⟨_, _, _, _, _, _, _, _, _, _, _, _, _, (.int .i64 m_Index), _, _, _, A42, c43, _, by exact hs.setAt 14 rfl, HS, f16, f0, f1, f2, f3, f4, f5, f6, f7, f8, f9, f10, f11, f12, fun _ => rfl, f14, f15, o2_0⟩)))
     | 14, _ =>
      have hb13 : b 13 = true := hd 13 (by decide)
      obtain rfl := f13 hb13
      refine GO.at hs (GO.fn rfl func153 fok153.1 fok153.2 rfl rfl (spec_l07Digit.calls HS  h55) (fun _ wd56 ⟨h57, HS⟩ => ⟨_, h57, (GO.fin (fun a hs => ⟨_, _, _, _, _, _, _, _, _, _, _, _, _, _, (.string t54), _, _, A42, c43, _, by exact hs.setAt 15 rfl, HS, f16, f0, f1, f2, f3, f4, f5, f6, f7, f8, f9, f10, f11, f12, f13, fun _ => rfl, f15, o2_0⟩))⟩))
     | 15, _ =>
      have hb11 : b 11 = true := hd 11 (by decide)
      obtain rfl := f11 hb11
      have hb14 : b 14 = true := hd 14 (by decide)
      obtain rfl := f14 hb14
      refine GO.at hs (GO.catS rfl rfl rfl c58 rfl (GO.fin (fun a hs => ⟨_, _, _, _, _, _, _, _, _, _, _, _, _, _, _, (.string ((((t40.getD ((w64 (m_Kind - 1)).toNat) ByteArray.empty ++ (⟨#[32]⟩ : ByteArray)) ++ t48) ++ (⟨#[32]⟩ : ByteArray)) ++ t54)), _, A42, c43, _, by exact hs.setAt 16 rfl, HS, f16, f0, f1, f2, f3, f4, f5, f6, f7, f8, f9, f10, f11, f12, f13, f14, fun _ => rfl, o2_0⟩)))
     | 16, _ =>
      have hb15 : b 15 = true := hd 15 (by decide)
      obtain rfl := f15 hb15
      refine GO.at hs (GO.assign rfl rfl rfl (GO.fin (fun a hs => ⟨_, _, _, _, _, _, _, _, _, _, _, _, _, _, _, _, (.string ((((t40.getD ((w64 (m_Kind - 1)).toNat) ByteArray.empty ++ (⟨#[32]⟩ : ByteArray)) ++ t48) ++ (⟨#[32]⟩ : ByteArray)) ++ t54)), A42, c43, _, by exact hs.setAt 0 rfl, HS, fun _ => rfl, f0, f1, f2, f3, f4, f5, f6, f7, f8, f9, f10, f11, f12, f13, f14, f15, o2_0⟩)))
     | k + 17, hj => exact absurd hj (Nat.not_lt.2 (Nat.le_add_left 17 k))
    ·
     intro b a w hall
     refine exI fun Y1_0 => exI fun Y2_1 => exI fun Y3_2 => exI fun Y4_3 => exI fun Y5_4 => exI fun Y6_5 => exI fun Y7_6 => exI fun Y8_7 => exI fun Y9_8 => exI fun Y10_9 => exI fun Y11_10 => exI fun Y12_11 => exI fun Y13_12 => exI fun Y14_13 => exI fun Y15_14 => exI fun Y16_15 => exI fun Y17_16 => exI fun A42 => exI fun c43 => exI fun O18_2 => anI fun hs => anI fun HS => anI fun f16 => anI fun f0 => anI fun f1 => anI fun f2 => anI fun f3 => anI fun f4 => anI fun f5 => anI fun f6 => anI fun f7 => anI fun f8 => anI fun f9 => anI fun f10 => anI fun f11 => anI fun f12 => anI fun f13 => anI fun f14 => anI fun f15 => fun o2_0 => ?_
     obtain rfl := f16 (hall 16 (by decide))
     obtain rfl := f0 (hall 0 (by decide))
     obtain rfl := f1 (hall 1 (by decide))
     obtain rfl := f2 (hall 2 (by decide))
     obtain rfl := f3 (hall 3 (by decide))
     obtain rfl := f4 (hall 4 (by decide))
     obtain rfl := f5 (hall 5 (by decide))
     obtain rfl := f6 (hall 6 (by decide))
     obtain rfl := f7 (hall 7 (by decide))
     obtain rfl := f8 (hall 8 (by decide))
     obtain rfl := f9 (hall 9 (by decide))
     obtain rfl := f10 (hall 10 (by decide))
     obtain rfl := f11 (hall 11 (by decide))
     obtain rfl := f12 (hall 12 (by decide))
     obtain rfl := f13 (hall 13 (by decide))
     obtain rfl := f14 (hall 14 (by decide))
     obtain rfl := f15 (hall 15 (by decide))
     obtain rfl := o2_0 (hall 0 (by decide))
     refine G.at hs ?_
     obtain rfl := Option.some.inj H
     exact G.ret1 _ func130 rfl rfl ⟨rfl, (HS.pk 2 [] rfl)⟩
   refine G.yesB rfl (congrArg Bool.not (bnot_of c39)) (G.run 2 rfl ?_)
   obtain rfl := Option.some.inj H
   exact G.ret1 _ func130 rfl rfl ⟨rfl, (HS.pk 1 [] rfl)⟩
  refine G.lexS mixed (fun w => St w0 w (Box b1 110 [.int .i64 m_Kind, .int .i64 m_Tet, .int .i64 m_Index] :: L)) [1, 6, 12, 14] [0, 1, 2, 3, 4, 5, 6, 7, 8, 9, 10, 11, 13, 12, 14, 15, 16, 17, 18] 19 (by kernel_rfl) (by kernel_rfl) HS.drew ?_
  replace HS := HS.drew
  refine GX.l0 rfl rfl (fun _ _ g => GO.fld (⟨b1, 0, none⟩) rfl rfl fl110_0 rfl rfl g) rfl (GX.ls rfl rfl rfl HS (fun _ HS _ g => GO.ldBox (j := 0) HS rfl rfl rfl rfl na2 rfl g) rfl (GX.l2 rfl (GO.fn rfl func151 fok151.1 fok151.2 rfl rfl (spec_l12Most.calls HS  h22) (fun _ wd23 ⟨h24, HS⟩ => ⟨_, h24, (GX.fin HS (GX.ps 1 rfl (GX.l0 rfl rfl (fun _ _ g => GO.move rfl rfl rfl (GO.known (t := 7) rfl (decide_eq_false c25) g)) rfl (GX.l0 rfl rfl (fun _ _ g => GO.on rfl rfl rfl rfl (GO.fld (⟨b1, 1, none⟩) rfl rfl fl110_1 rfl rfl (GO.back g))) rfl (GX.ls rfl rfl rfl HS (fun _ HS _ g => GO.on rfl rfl rfl rfl (GO.ldBox (j := 0) HS rfl rfl rfl rfl na2 rfl (GO.back g))) rfl (GX.l2 rfl (GO.on rfl rfl rfl rfl (GO.fn rfl func121 fok121.1 fok121.2 rfl rfl (spec_l07In.calls HS  h27) (fun _ wd28 ⟨h29, HS⟩ => ⟨_, h29, (GO.back (GX.fin HS (GX.l0 rfl rfl (fun _ _ g => GO.on rfl rfl rfl rfl (GO.not rfl rfl rfl (GO.back g))) rfl ?_)))⟩)))))))))⟩))))
  refine GX.ps 1 rfl (GX.l0 rfl rfl (fun _ _ g => GO.move rfl rfl rfl (GO.known (t := 13) rfl (congrArg Bool.not (bnot_of c30)) g)) rfl (GX.l0 rfl rfl (fun _ _ g => GO.off rfl rfl rfl rfl rfl rfl g) rfl (GX.l0 rfl rfl (fun _ _ g => GO.off rfl rfl rfl rfl rfl rfl g) rfl (GX.ls rfl rfl rfl HS (fun _ HS _ g => GO.off rfl rfl rfl rfl rfl rfl g) rfl (GX.ls rfl rfl rfl HS (fun _ HS _ g => GO.off rfl rfl rfl rfl rfl rfl g) rfl (GX.l2 rfl (GO.off rfl rfl rfl rfl rfl rfl (GX.fin HS (GX.l2 rfl (GO.off rfl rfl rfl rfl rfl rfl (GX.fin HS (GX.l0 rfl rfl (fun _ _ g => GO.off rfl rfl rfl rfl rfl rfl g) rfl (GX.ps 1 rfl (GX.nil ?_))))))))))))))
  refine G.run 3 rfl ?_
  obtain rfl := Option.some.inj H
  exact G.ret1 _ func130 rfl rfl ⟨rfl, (HS.pk 1 [] rfl)⟩
theorem spec_IsPlainCertificate.calls {w0 w : World} {L : List HObj} {K : Nat} {c_Name c_Trait : Int} {c_Moves : List GMove} {c_Tets c_Perms : List Int} {A_a : Option Addr} {c_a : Nat} {A_b : Option Addr} {c_b : Nat} {A_c : Option Addr} {c_c : Nat} {r1 : Bool} (HS : St w0 w (L)) (r_a : RdIn w0 L T_GMove A_a c_a (fun _ => ()) c_Moves) (r_b : RdIn w0 L (TInt .i64) A_b c_b (fun _ => ()) c_Tets) (r_c : RdIn w0 L (TInt .i64) A_c c_c (fun _ => ()) c_Perms) (H : spec_IsPlainCertificate.f K c_Name c_Trait c_Moves c_Tets c_Perms = some r1) :
    Calls prog 97 #[.agg [.int .i64 c_Name, .int .i64 c_Trait, .slice A_a c_Moves.length c_a, .slice A_b c_Tets.length c_b, .slice A_c c_Perms.length c_c].toArray] w (spec_IsPlainCertificate.post w0 L r1) := by
  unfold spec_IsPlainCertificate.f at H
  refine Calls.of_G func97 rfl rfl rfl ?_
  refine G.seq (G.region (GO.box (cs := [.int .i64 c_Name, .int .i64 c_Trait, .slice A_a c_Moves.length c_a, .slice A_b c_Tets.length c_b, .slice A_c c_Perms.length c_c]) HS rfl rfl rfl rfl fun b1 wd2 HS => GO.assign rfl rfl rfl (GO.nil (G.run 2 rfl ?_))))
  obtain ⟨t15, h16, H⟩ := Option.bind_eq_some_iff.1 H
  rcases ite_elim H with ⟨c19, H⟩ | ⟨c19, H⟩
  ·
   obtain ⟨t20, h21, H⟩ := Option.bind_eq_some_iff.1 H
   rcases ite_elim H with ⟨c24, H⟩ | ⟨c24, H⟩
   ·
    rcases ite_elim H with ⟨c25, H⟩ | ⟨c25, H⟩
    ·
     refine G.region (GO.fld (⟨b1, 0, none⟩) rfl rfl fl46_0 rfl rfl (GO.ldBox (j := 0) HS rfl rfl rfl rfl na2 rfl (GO.fn rfl func129 fok129.1 fok129.2 rfl rfl (spec_l23Is.calls HS  h16) (fun _ wd17 ⟨h18, HS⟩ => ⟨_, h18, (GO.ps 2 rfl (GO.known (t := 9) rfl (congrArg Bool.not c19) (GO.on rfl rfl rfl rfl (GO.fld (⟨b1, 1, none⟩) rfl rfl fl46_1 rfl rfl (GO.back (GO.on rfl rfl rfl rfl (GO.ldBox (j := 0) HS rfl rfl rfl rfl na2 rfl (GO.back (GO.on rfl rfl rfl rfl (GO.fn rfl func92 fok92.1 fok92.2 rfl rfl (spec_l01In.calls HS  h21) (fun _ wd22 ⟨h23, HS⟩ => ⟨_, h23, (GO.back ?_)⟩)))))))))))⟩))))
     refine GO.on rfl rfl rfl rfl (GO.not rfl rfl rfl (GO.back (GO.ps 2 rfl (GO.known (t := 15) rfl (congrArg Bool.not c24) (GO.on rfl rfl rfl rfl (GO.fld (⟨b1, 2, none⟩) rfl rfl fl46_2 rfl rfl (GO.back (GO.on rfl rfl rfl rfl (GO.ldBox (j := 0) HS rfl rfl rfl rfl na44 rfl (GO.back (GO.on rfl rfl rfl rfl (GO.lenS rfl rfl underlying44 rfl (GO.back (GO.on rfl rfl rfl rfl ?_))))))))))))))
     refine GO.gtr rfl rfl rfl rfl (GO.back (GO.ps 2 rfl (GO.known (t := 21) rfl (decide_eq_true c25) (GO.off rfl rfl rfl rfl rfl rfl (GO.off rfl rfl rfl rfl rfl rfl (GO.off rfl rfl rfl rfl rfl rfl (GO.off rfl rfl rfl rfl rfl rfl (GO.off rfl rfl rfl rfl rfl rfl (GO.off rfl rfl rfl rfl rfl rfl (GO.off rfl rfl rfl rfl rfl rfl (GO.ps 2 rfl (GO.off rfl rfl rfl rfl rfl rfl (GO.off rfl rfl rfl rfl rfl rfl (GO.off rfl rfl rfl rfl rfl rfl ?_))))))))))))))
     refine GO.off rfl rfl rfl rfl rfl rfl (GO.pickT rfl rfl rfl rfl rfl (GO.nil (G.run 3 rfl ?_)))
     obtain rfl := Option.some.inj H
     exact G.ret1 _ func97 rfl rfl ⟨rfl, (HS.pk 1 [] rfl)⟩
    rcases ite_elim H with ⟨c26, H⟩ | ⟨c26, H⟩
    ·
     refine G.region (GO.fld (⟨b1, 0, none⟩) rfl rfl fl46_0 rfl rfl (GO.ldBox (j := 0) HS rfl rfl rfl rfl na2 rfl (GO.fn rfl func129 fok129.1 fok129.2 rfl rfl (spec_l23Is.calls HS  h16) (fun _ wd17 ⟨h18, HS⟩ => ⟨_, h18, (GO.ps 2 rfl (GO.known (t := 9) rfl (congrArg Bool.not c19) (GO.on rfl rfl rfl rfl (GO.fld (⟨b1, 1, none⟩) rfl rfl fl46_1 rfl rfl (GO.back (GO.on rfl rfl rfl rfl (GO.ldBox (j := 0) HS rfl rfl rfl rfl na2 rfl (GO.back (GO.on rfl rfl rfl rfl (GO.fn rfl func92 fok92.1 fok92.2 rfl rfl (spec_l01In.calls HS  h21) (fun _ wd22 ⟨h23, HS⟩ => ⟨_, h23, (GO.back ?_)⟩)))))))))))⟩))))
     refine GO.on rfl rfl rfl rfl (GO.not rfl rfl rfl (GO.back (GO.ps 2 rfl (GO.known (t := 15) rfl (congrArg Bool.not c24) (GO.on rfl rfl rfl rfl (GO.fld (⟨b1, 2, none⟩) rfl rfl fl46_2 rfl rfl (GO.back (GO.on rfl rfl rfl rfl (GO.ldBox (j := 0) HS rfl rfl rfl rfl na44 rfl (GO.back (GO.on rfl rfl rfl rfl (GO.lenS rfl rfl underlying44 rfl (GO.back (GO.on rfl rfl rfl rfl ?_))))))))))))))
     refine GO.gtr rfl rfl rfl rfl (GO.back (GO.ps 2 rfl (GO.known (t := 21) rfl (decide_eq_false c25) (GO.on rfl rfl rfl rfl (GO.fld (⟨b1, 3, none⟩) rfl rfl fl46_3 rfl rfl (GO.back (GO.on rfl rfl rfl rfl (GO.ldBox (j := 0) HS rfl rfl rfl rfl na41 rfl (GO.back (GO.on rfl rfl rfl rfl (GO.lenS rfl rfl underlying41 rfl (GO.back (GO.on rfl rfl rfl rfl (GO.fld (⟨b1, 4, none⟩) rfl rfl fl46_4 rfl rfl ?_))))))))))))))
     refine GO.back (GO.on rfl rfl rfl rfl (GO.ldBox (j := 0) HS rfl rfl rfl rfl na41 rfl (GO.back (GO.on rfl rfl rfl rfl (GO.lenS rfl rfl underlying41 rfl (GO.back (GO.on rfl rfl rfl rfl (GO.neq rfl rfl rfl rfl (GO.back (GO.ps 2 rfl (GO.known (t := 30) rfl (congrArg Bool.not (decide_eq_true c26)) (GO.on rfl rfl rfl rfl (GO.fld (⟨b1, 3, none⟩) rfl rfl fl46_3 rfl rfl (GO.back ?_))))))))))))))
     refine GO.on rfl rfl rfl rfl (GO.ldBox (j := 0) HS rfl rfl rfl rfl na41 rfl (GO.back (GO.on rfl rfl rfl rfl (GO.lenS rfl rfl underlying41 rfl (GO.back (GO.on rfl rfl rfl rfl (GO.gtr rfl rfl rfl rfl (GO.back (GO.pickF rfl rfl rfl rfl rfl (GO.nil ?_))))))))))
     rcases ite_elim H with ⟨c27, H⟩ | ⟨c27, H⟩
     ·
      refine G.yesB rfl (decide_eq_true c27) (G.run 2 rfl ?_)
      obtain rfl := Option.some.inj H
      exact G.ret1 _ func97 rfl rfl ⟨rfl, (HS.pk 1 [] rfl)⟩
     refine G.noB rfl (decide_eq_false c27) (G.run 6 rfl ?_)
     refine G.name (fun k_l1 hk_l1 => ?_)
     have at_l1 : ∀ m_l1, m_l1 ≤ K → ∀ (i_80 : Int) (w : World), spec_IsPlainCertificate.l1 K m_l1 c_Trait c_Moves c_Tets c_Perms i_80 = some r1 → St w0 w (Box b1 46 [.int .i64 c_Name, .int .i64 c_Trait, .slice A_a c_Moves.length c_a, .slice A_b c_Tets.length c_b, .slice A_c c_Perms.length c_c] :: L) → G prog 97 86 [(1, .pointer (some ⟨b1, 0, none⟩)), (3, .int .i64 i_80)] k_l1 w (spec_IsPlainCertificate.post w0 L r1) := by
      intro m_l1
      induction m_l1 using Nat.strongRecOn with
      | _ m_l1 ih_l1 =>
       intro hm_l1 i_80 w H HS
       cases m_l1 with
       | zero => rw [spec_IsPlainCertificate.l1] at H; cases H
       | succ n_l1 =>
        rw [spec_IsPlainCertificate.l1] at H
        subst hk_l1
        refine G.run 2 rfl (G.region (GO.move rfl rfl rfl (GO.fld (⟨b1, 2, none⟩) rfl rfl fl46_2 rfl rfl (GO.ldBox (j := 0) HS rfl rfl rfl rfl na44 rfl (GO.lenS rfl rfl underlying44 rfl (GO.lss rfl rfl rfl rfl (GO.nil ?_)))))))
        rcases ite_elim H with ⟨c133, H⟩ | ⟨c133, H⟩
        ·
         refine G.yesB rfl (decide_eq_true c133) (G.run 4 rfl ?_)
         obtain ⟨c134, H⟩ := ite_none H
         obtain ⟨e135, h136, H⟩ := bnd_elim H
         obtain ⟨t137, h138, H⟩ := Option.bind_eq_some_iff.1 H
         refine G.region (GO.fld (⟨b1, 2, none⟩) rfl rfl fl46_2 rfl rfl (GO.ldBox (j := 0) HS rfl rfl rfl rfl na44 rfl (GO.move rfl rfl rfl (GO.ix rfl rfl rfl underlying44 sz110 ((RdIn.drop 1 r_a) _ HS).2.2.1 c134.1 c134.2 rfl (GO.ldRdA (T := T_GMove) (n := i_80.toNat) HS (RdIn.drop 1 r_a) rfl rfl (getD_eq (ltN c134) h136) ag110 rfl (GO.fn rfl func130 fok130.1 fok130.2 rfl rfl (spec_MoveText.calls HS  h138) (fun _ wd139 ⟨h140, HS⟩ => ⟨_, h140, (GO.eqlS rfl rfl rfl rfl (GO.nil ?_))⟩)))))))
         rcases ite_elim H with ⟨c141, H⟩ | ⟨c141, H⟩
         ·
          refine G.yesB rfl c141 (G.run 2 rfl ?_)
          obtain rfl := Option.some.inj H
          exact G.ret1 _ func97 rfl rfl ⟨rfl, (HS.pk 1 [] rfl)⟩
         refine G.noB rfl (bnot_of c141) (G.run 4 rfl (G.weak ?_ (ih_l1 n_l1 (Nat.lt_succ_of_le (Nat.le_refl _)) (Nat.le_of_succ_le hm_l1) _ _ H HS)))
         exact ⟨rfl, rfl, trivial⟩
        refine G.noB rfl (decide_eq_false c133) (G.run 6 rfl ?_)
        refine G.name (fun k_l4 hk_l4 => ?_)
        have at_l4 : ∀ m_l4, m_l4 ≤ n_l1 → ∀ (i_156 : Int) (w : World), spec_IsPlainCertificate.l4 K m_l4 c_Trait c_Moves c_Tets c_Perms i_156 = some r1 → St w0 w (Box b1 46 [.int .i64 c_Name, .int .i64 c_Trait, .slice A_a c_Moves.length c_a, .slice A_b c_Tets.length c_b, .slice A_c c_Perms.length c_c] :: L) → G prog 97 86 [(1, .pointer (some ⟨b1, 0, none⟩)), (4, .int .i64 i_156)] k_l4 w (spec_IsPlainCertificate.post w0 L r1) := by
         intro m_l4
         induction m_l4 using Nat.strongRecOn with
         | _ m_l4 ih_l4 =>
          intro hm_l4 i_156 w H HS
          cases m_l4 with
          | zero => rw [spec_IsPlainCertificate.l4] at H; cases H
          | succ n_l4 =>
           rw [spec_IsPlainCertificate.l4] at H
           subst hk_l4
           refine G.run 2 rfl (G.region (GO.move rfl rfl rfl (GO.fld (⟨b1, 3, none⟩) rfl rfl fl46_3 rfl rfl (GO.ldBox (j := 0) HS rfl rfl rfl rfl na41 rfl (GO.lenS rfl rfl underlying41 rfl (GO.lss rfl rfl rfl rfl (GO.nil ?_)))))))
           rcases ite_elim H with ⟨c171, H⟩ | ⟨c171, H⟩
           ·
            refine G.yesB rfl (decide_eq_true c171) (G.run 4 rfl ?_)
            obtain ⟨c172, H⟩ := ite_none H
            obtain ⟨t173, h174, H⟩ := Option.bind_eq_some_iff.1 H
            rcases ite_elim H with ⟨c177, H⟩ | ⟨c177, H⟩
            ·
             obtain ⟨c178, H⟩ := ite_none H
             obtain ⟨t179, h180, H⟩ := Option.bind_eq_some_iff.1 H
             refine G.region (GO.fld (⟨b1, 3, none⟩) rfl rfl fl46_3 rfl rfl (GO.ldBox (j := 0) HS rfl rfl rfl rfl na41 rfl (GO.move rfl rfl rfl (GO.ix rfl rfl rfl underlying41 sz2 ((RdIn.drop 1 r_b) _ HS).2.2.1 c172.1 c172.2 rfl (GO.ldRd (T := (TInt .i64)) (n := i_156.toNat) (o := 0) HS (RdIn.drop 1 r_b) rfl rfl (getD_some (d := 0) (ltN c172)) rfl rfl na2 rfl (GO.fn rfl func92 fok92.1 fok92.2 rfl rfl (spec_l01In.calls HS  h174) (fun _ wd175 ⟨h176, HS⟩ => ⟨_, h176, (GO.ps 2 rfl (GO.known (t := 64) rfl (congrArg Bool.not c177) (GO.on rfl rfl rfl rfl (GO.fld (⟨b1, 4, none⟩) rfl rfl fl46_4 rfl rfl (GO.back (GO.on rfl rfl rfl rfl (GO.ldBox (j := 0) HS rfl rfl rfl rfl na41 rfl (GO.back ?_))))))))⟩)))))))
             refine GO.on rfl rfl rfl rfl (GO.move rfl rfl rfl (GO.back (GO.on rfl rfl rfl rfl (GO.ix rfl rfl rfl underlying41 sz2 ((RdIn.drop 1 r_c) _ HS).2.2.1 c178.1 c178.2 rfl (GO.back (GO.on rfl rfl rfl rfl (GO.ldRd (T := (TInt .i64)) (n := i_156.toNat) (o := 0) HS (RdIn.drop 1 r_c) rfl rfl (getD_some (d := 0) (ltN c178)) rfl rfl na2 rfl (GO.back (GO.on rfl rfl rfl rfl (GO.fn rfl func122 fok122.1 fok122.2 rfl rfl (spec_l06Valid.calls HS  h180) (fun _ wd181 ⟨h182, HS⟩ => ⟨_, h182, (GO.back (GO.on rfl rfl rfl rfl (GO.not rfl rfl rfl (GO.back ?_))))⟩)))))))))))
             refine GO.pickF rfl rfl rfl rfl rfl (GO.nil ?_)
             rcases ite_elim H with ⟨c183, H⟩ | ⟨c183, H⟩
             ·
              refine G.noB rfl (congrArg Bool.not c183) (G.run 4 rfl (G.weak ?_ (ih_l4 n_l4 (Nat.lt_succ_of_le (Nat.le_refl _)) (Nat.le_of_succ_le hm_l4) _ _ H HS)))
              exact ⟨rfl, rfl, trivial⟩
             refine G.yesB rfl (congrArg Bool.not (bnot_of c183)) (G.run 2 rfl ?_)
             obtain rfl := Option.some.inj H
             exact G.ret1 _ func97 rfl rfl ⟨rfl, (HS.pk 1 [] rfl)⟩
            refine G.region (GO.fld (⟨b1, 3, none⟩) rfl rfl fl46_3 rfl rfl (GO.ldBox (j := 0) HS rfl rfl rfl rfl na41 rfl (GO.move rfl rfl rfl (GO.ix rfl rfl rfl underlying41 sz2 ((RdIn.drop 1 r_b) _ HS).2.2.1 c172.1 c172.2 rfl (GO.ldRd (T := (TInt .i64)) (n := i_156.toNat) (o := 0) HS (RdIn.drop 1 r_b) rfl rfl (getD_some (d := 0) (ltN c172)) rfl rfl na2 rfl (GO.fn rfl func92 fok92.1 fok92.2 rfl rfl (spec_l01In.calls HS  h174) (fun _ wd175 ⟨h176, HS⟩ => ⟨_, h176, (GO.ps 2 rfl (GO.known (t := 64) rfl (congrArg Bool.not (bnot_of c177)) (GO.off rfl rfl rfl rfl rfl rfl (GO.off rfl rfl rfl rfl rfl rfl (GO.off rfl rfl rfl rfl rfl rfl (GO.off rfl rfl rfl rfl rfl rfl (GO.off rfl rfl rfl rfl rfl rfl (GO.off rfl rfl rfl rfl rfl rfl ?_))))))))⟩)))))))
            refine GO.off rfl rfl rfl rfl rfl rfl (GO.pickT rfl rfl rfl rfl rfl (GO.nil (G.run 3 rfl ?_)))
            obtain rfl := Option.some.inj H
            exact G.ret1 _ func97 rfl rfl ⟨rfl, (HS.pk 1 [] rfl)⟩
           refine G.noB rfl (decide_eq_false c171) (G.run 2 rfl ?_)
           rcases ite_elim H with ⟨c184, H⟩ | ⟨c184, H⟩
           ·
            refine G.region (GO.fld (⟨b1, 1, none⟩) rfl rfl fl46_1 rfl rfl (GO.ldBox (j := 0) HS rfl rfl rfl rfl na2 rfl (GO.ps 2 rfl (GO.known (t := 76) rfl (decide_eq_true c184) (GO.off rfl rfl rfl rfl rfl rfl (GO.off rfl rfl rfl rfl rfl rfl (GO.off rfl rfl rfl rfl rfl rfl (GO.off rfl rfl rfl rfl rfl rfl (GO.off rfl rfl rfl rfl rfl rfl (GO.off rfl rfl rfl rfl rfl rfl (GO.off rfl rfl rfl rfl rfl rfl (GO.off rfl rfl rfl rfl rfl rfl (GO.ps 2 rfl (GO.nil ?_))))))))))))))
            obtain rfl := Option.some.inj H
            exact G.ret1 _ func97 rfl rfl ⟨rfl, (HS.pk 1 [] rfl)⟩
           refine G.region (GO.fld (⟨b1, 1, none⟩) rfl rfl fl46_1 rfl rfl (GO.ldBox (j := 0) HS rfl rfl rfl rfl na2 rfl (GO.ps 2 rfl (GO.known (t := 76) rfl (decide_eq_false c184) (GO.on rfl rfl rfl rfl (GO.fld (⟨b1, 2, none⟩) rfl rfl fl46_2 rfl rfl (GO.back (GO.on rfl rfl rfl rfl (GO.ldBox (j := 0) HS rfl rfl rfl rfl na44 rfl (GO.back (GO.on rfl rfl rfl rfl (GO.lenS rfl rfl underlying44 rfl (GO.back (GO.on rfl rfl rfl rfl ?_))))))))))))))
           refine GO.fld (⟨b1, 3, none⟩) rfl rfl fl46_3 rfl rfl (GO.back (GO.on rfl rfl rfl rfl (GO.ldBox (j := 0) HS rfl rfl rfl rfl na41 rfl (GO.back (GO.on rfl rfl rfl rfl (GO.lenS rfl rfl underlying41 rfl (GO.back (GO.on rfl rfl rfl rfl (GO.add rfl rfl rfl rfl (GO.back (GO.on rfl rfl rfl rfl (GO.eql rfl rfl rfl rfl (GO.back (GO.ps 2 rfl ?_))))))))))))))
           refine GO.nil ?_
           obtain rfl := Option.some.inj H
           exact G.ret1 _ func97 rfl rfl ⟨rfl, (HS.pk 1 [] rfl)⟩
        refine G.weak ?_ (at_l4 n_l1 (Nat.le_refl _) _ _ H HS)
        exact ⟨rfl, rfl, trivial⟩
     refine G.weak ?_ (at_l1 K (Nat.le_refl _) _ _ H HS)
     exact ⟨rfl, rfl, trivial⟩
    refine G.region (GO.fld (⟨b1, 0, none⟩) rfl rfl fl46_0 rfl rfl (GO.ldBox (j := 0) HS rfl rfl rfl rfl na2 rfl (GO.fn rfl func129 fok129.1 fok129.2 rfl rfl (spec_l23Is.calls HS  h16) (fun _ wd17 ⟨h18, HS⟩ => ⟨_, h18, (GO.ps 2 rfl (GO.known (t := 9) rfl (congrArg Bool.not c19) (GO.on rfl rfl rfl rfl (GO.fld (⟨b1, 1, none⟩) rfl rfl fl46_1 rfl rfl (GO.back (GO.on rfl rfl rfl rfl (GO.ldBox (j := 0) HS rfl rfl rfl rfl na2 rfl (GO.back (GO.on rfl rfl rfl rfl (GO.fn rfl func92 fok92.1 fok92.2 rfl rfl (spec_l01In.calls HS  h21) (fun _ wd22 ⟨h23, HS⟩ => ⟨_, h23, (GO.back ?_)⟩)))))))))))⟩))))
    refine GO.on rfl rfl rfl rfl (GO.not rfl rfl rfl (GO.back (GO.ps 2 rfl (GO.known (t := 15) rfl (congrArg Bool.not c24) (GO.on rfl rfl rfl rfl (GO.fld (⟨b1, 2, none⟩) rfl rfl fl46_2 rfl rfl (GO.back (GO.on rfl rfl rfl rfl (GO.ldBox (j := 0) HS rfl rfl rfl rfl na44 rfl (GO.back (GO.on rfl rfl rfl rfl (GO.lenS rfl rfl underlying44 rfl (GO.back (GO.on rfl rfl rfl rfl ?_))))))))))))))
    refine GO.gtr rfl rfl rfl rfl (GO.back (GO.ps 2 rfl (GO.known (t := 21) rfl (decide_eq_false c25) (GO.on rfl rfl rfl rfl (GO.fld (⟨b1, 3, none⟩) rfl rfl fl46_3 rfl rfl (GO.back (GO.on rfl rfl rfl rfl (GO.ldBox (j := 0) HS rfl rfl rfl rfl na41 rfl (GO.back (GO.on rfl rfl rfl rfl (GO.lenS rfl rfl underlying41 rfl (GO.back (GO.on rfl rfl rfl rfl (GO.fld (⟨b1, 4, none⟩) rfl rfl fl46_4 rfl rfl ?_))))))))))))))
    refine GO.back (GO.on rfl rfl rfl rfl (GO.ldBox (j := 0) HS rfl rfl rfl rfl na41 rfl (GO.back (GO.on rfl rfl rfl rfl (GO.lenS rfl rfl underlying41 rfl (GO.back (GO.on rfl rfl rfl rfl (GO.neq rfl rfl rfl rfl (GO.back (GO.ps 2 rfl (GO.known (t := 30) rfl (congrArg Bool.not (decide_eq_false c26)) (GO.off rfl rfl rfl rfl rfl rfl (GO.off rfl rfl rfl rfl rfl rfl (GO.off rfl rfl rfl rfl rfl rfl ?_))))))))))))))
    refine GO.off rfl rfl rfl rfl rfl rfl (GO.pickT rfl rfl rfl rfl rfl (GO.nil (G.run 3 rfl ?_)))
    obtain rfl := Option.some.inj H
    exact G.ret1 _ func97 rfl rfl ⟨rfl, (HS.pk 1 [] rfl)⟩
   refine G.region (GO.fld (⟨b1, 0, none⟩) rfl rfl fl46_0 rfl rfl (GO.ldBox (j := 0) HS rfl rfl rfl rfl na2 rfl (GO.fn rfl func129 fok129.1 fok129.2 rfl rfl (spec_l23Is.calls HS  h16) (fun _ wd17 ⟨h18, HS⟩ => ⟨_, h18, (GO.ps 2 rfl (GO.known (t := 9) rfl (congrArg Bool.not c19) (GO.on rfl rfl rfl rfl (GO.fld (⟨b1, 1, none⟩) rfl rfl fl46_1 rfl rfl (GO.back (GO.on rfl rfl rfl rfl (GO.ldBox (j := 0) HS rfl rfl rfl rfl na2 rfl (GO.back (GO.on rfl rfl rfl rfl (GO.fn rfl func92 fok92.1 fok92.2 rfl rfl (spec_l01In.calls HS  h21) (fun _ wd22 ⟨h23, HS⟩ => ⟨_, h23, (GO.back ?_)⟩)))))))))))⟩))))
   refine GO.on rfl rfl rfl rfl (GO.not rfl rfl rfl (GO.back (GO.ps 2 rfl (GO.known (t := 15) rfl (congrArg Bool.not (bnot_of c24)) (GO.off rfl rfl rfl rfl rfl rfl (GO.off rfl rfl rfl rfl rfl rfl (GO.off rfl rfl rfl rfl rfl rfl (GO.off rfl rfl rfl rfl rfl rfl (GO.ps 2 rfl (GO.off rfl rfl rfl rfl rfl rfl (GO.off rfl rfl rfl rfl rfl rfl (GO.off rfl rfl rfl rfl rfl rfl (GO.off rfl rfl rfl rfl rfl rfl (GO.off rfl rfl rfl rfl rfl rfl ?_))))))))))))))
   refine GO.off rfl rfl rfl rfl rfl rfl (GO.off rfl rfl rfl rfl rfl rfl (GO.ps 2 rfl (GO.off rfl rfl rfl rfl rfl rfl (GO.off rfl rfl rfl rfl rfl rfl (GO.off rfl rfl rfl rfl rfl rfl (GO.off rfl rfl rfl rfl rfl rfl (GO.pickT rfl rfl rfl rfl rfl (GO.nil (G.run 3 rfl ?_)))))))))
   obtain rfl := Option.some.inj H
   exact G.ret1 _ func97 rfl rfl ⟨rfl, (HS.pk 1 [] rfl)⟩
  refine G.region (GO.fld (⟨b1, 0, none⟩) rfl rfl fl46_0 rfl rfl (GO.ldBox (j := 0) HS rfl rfl rfl rfl na2 rfl (GO.fn rfl func129 fok129.1 fok129.2 rfl rfl (spec_l23Is.calls HS  h16) (fun _ wd17 ⟨h18, HS⟩ => ⟨_, h18, (GO.ps 2 rfl (GO.known (t := 9) rfl (congrArg Bool.not (bnot_of c19)) (GO.off rfl rfl rfl rfl rfl rfl (GO.off rfl rfl rfl rfl rfl rfl (GO.off rfl rfl rfl rfl rfl rfl (GO.off rfl rfl rfl rfl rfl rfl (GO.ps 2 rfl (GO.off rfl rfl rfl rfl rfl rfl (GO.off rfl rfl rfl rfl rfl rfl (GO.off rfl rfl rfl rfl rfl rfl (GO.off rfl rfl rfl rfl rfl rfl ?_)))))))))))⟩))))
  refine GO.ps 2 rfl (GO.off rfl rfl rfl rfl rfl rfl (GO.off rfl rfl rfl rfl rfl rfl (GO.off rfl rfl rfl rfl rfl rfl (GO.off rfl rfl rfl rfl rfl rfl (GO.off rfl rfl rfl rfl rfl rfl (GO.off rfl rfl rfl rfl rfl rfl (GO.off rfl rfl rfl rfl rfl rfl (GO.ps 2 rfl (GO.off rfl rfl rfl rfl rfl rfl (GO.off rfl rfl rfl rfl rfl rfl (GO.off rfl rfl rfl rfl rfl rfl (GO.off rfl rfl rfl rfl rfl rfl (GO.pickT rfl rfl rfl rfl rfl (GO.nil ?_))))))))))))))
  refine G.run 3 rfl ?_
  obtain rfl := Option.some.inj H
  exact G.ret1 _ func97 rfl rfl ⟨rfl, (HS.pk 1 [] rfl)⟩
theorem spec_ValidItem.calls {w0 w : World} {L : List HObj} {K : Nat} {e_Name : ByteArray} {e_Kind : Int} {e_Triangulation_Tets : List (List GFace)} {e_Diagram_Crossings : List GCrossing} {e_Diagram_Circles e_Braid_Strands : Int} {e_Braid_Word : List Int} {e_Certificate_Name e_Certificate_Trait : Int} {e_Certificate_Moves : List GMove} {e_Certificate_Tets e_Certificate_Perms : List Int} {A_a : Option Addr} {c_a : Nat} {y_a : Nat → (Ty.slice 140 T_GFace).Lay} {A_b : Option Addr} {c_b : Nat} {A_c : Option Addr} {c_c : Nat} {A_d : Option Addr} {c_d : Nat} {A_e : Option Addr} {c_e : Nat} {A_f : Option Addr} {c_f : Nat} {r1 : Bool} (HS : St w0 w (L)) (r_a : RdIn w0 L (Ty.slice 140 T_GFace) A_a c_a y_a e_Triangulation_Tets) (r_b : RdIn w0 L T_GCrossing A_b c_b (fun _ => ()) e_Diagram_Crossings) (r_c : RdIn w0 L (TInt .i64) A_c c_c (fun _ => ()) e_Braid_Word) (r_d : RdIn w0 L T_GMove A_d c_d (fun _ => ()) e_Certificate_Moves) (r_e : RdIn w0 L (TInt .i64) A_e c_e (fun _ => ()) e_Certificate_Tets) (r_f : RdIn w0 L (TInt .i64) A_f c_f (fun _ => ()) e_Certificate_Perms) (H : spec_ValidItem.f K e_Name e_Kind e_Triangulation_Tets e_Diagram_Crossings e_Diagram_Circles e_Braid_Strands e_Braid_Word e_Certificate_Name e_Certificate_Trait e_Certificate_Moves e_Certificate_Tets e_Certificate_Perms = some r1) :
    Calls prog 58 #[.agg [.string e_Name, .int .i64 e_Kind, .slice A_a e_Triangulation_Tets.length c_a, .slice A_b e_Diagram_Crossings.length c_b, .int .i64 e_Diagram_Circles, .int .i64 e_Braid_Strands, .slice A_c e_Braid_Word.length c_c, .int .i64 e_Certificate_Name, .int .i64 e_Certificate_Trait, .slice A_d e_Certificate_Moves.length c_d, .slice A_e e_Certificate_Tets.length c_e, .slice A_f e_Certificate_Perms.length c_f].toArray] w (spec_ValidItem.post w0 L r1) := by
  unfold spec_ValidItem.f at H
  refine Calls.of_G func58 rfl rfl rfl ?_
  refine G.seq (G.region (GO.box (cs := [.string e_Name, .int .i64 e_Kind, .slice A_a e_Triangulation_Tets.length c_a, .slice A_b e_Diagram_Crossings.length c_b, .int .i64 e_Diagram_Circles, .int .i64 e_Braid_Strands, .slice A_c e_Braid_Word.length c_c, .int .i64 e_Certificate_Name, .int .i64 e_Certificate_Trait, .slice A_d e_Certificate_Moves.length c_d, .slice A_e e_Certificate_Tets.length c_e, .slice A_f e_Certificate_Perms.length c_f]) HS rfl rfl rfl rfl fun b1 wd2 HS => GO.assign rfl rfl rfl (GO.nil (G.run 2 rfl ?_))))
  obtain ⟨t12, h13, H⟩ := Option.bind_eq_some_iff.1 H
  rcases ite_elim H with ⟨c16, H⟩ | ⟨c16, H⟩
  ·
   obtain ⟨t17, h18, H⟩ := Option.bind_eq_some_iff.1 H
   refine G.region (GO.fld (⟨b1, 0, none⟩) rfl rfl fl48_0 rfl rfl (GO.ldBox (j := 0) HS rfl rfl rfl rfl na9 rfl (GO.fn rfl func91 fok91.1 fok91.2 rfl rfl (spec_l33Name.calls HS  h13) (fun _ wd14 ⟨h15, HS⟩ => ⟨_, h15, (GO.ps 2 rfl (GO.known (t := 8) rfl (congrArg Bool.not c16) (GO.on rfl rfl rfl rfl (GO.fld (⟨b1, 1, none⟩) rfl rfl fl48_1 rfl rfl (GO.back (GO.on rfl rfl rfl rfl (GO.ldBox (j := 0) HS rfl rfl rfl rfl na2 rfl (GO.back (GO.on rfl rfl rfl rfl (GO.fn rfl func92 fok92.1 fok92.2 rfl rfl (spec_l01In.calls HS  h18) (fun _ wd19 ⟨h20, HS⟩ => ⟨_, h20, (GO.back ?_)⟩)))))))))))⟩))))
   refine GO.on rfl rfl rfl rfl (GO.not rfl rfl rfl (GO.back (GO.pickF rfl rfl rfl rfl rfl (GO.nil ?_))))
   rcases ite_elim H with ⟨c21, H⟩ | ⟨c21, H⟩
   ·
    refine G.noB rfl (congrArg Bool.not c21) (G.run 6 rfl ?_)
    refine G.name (fun k_l1 hk_l1 => ?_)
    have at_l1 : ∀ m_l1, m_l1 ≤ K → ∀ (kind_28 : Int) (w : World), spec_ValidItem.l1 K m_l1 e_Name e_Kind e_Triangulation_Tets e_Diagram_Crossings e_Diagram_Circles e_Braid_Strands e_Braid_Word e_Certificate_Name e_Certificate_Trait e_Certificate_Moves e_Certificate_Tets e_Certificate_Perms kind_28 = some r1 → St w0 w (Box b1 48 [.string e_Name, .int .i64 e_Kind, .slice A_a e_Triangulation_Tets.length c_a, .slice A_b e_Diagram_Crossings.length c_b, .int .i64 e_Diagram_Circles, .int .i64 e_Braid_Strands, .slice A_c e_Braid_Word.length c_c, .int .i64 e_Certificate_Name, .int .i64 e_Certificate_Trait, .slice A_d e_Certificate_Moves.length c_d, .slice A_e e_Certificate_Tets.length c_e, .slice A_f e_Certificate_Perms.length c_f] :: L) → G prog 58 48 [(1, .pointer (some ⟨b1, 0, none⟩)), (3, .int .i64 kind_28)] k_l1 w (spec_ValidItem.post w0 L r1) := by
     intro m_l1
     induction m_l1 using Nat.strongRecOn with
     | _ m_l1 ih_l1 =>
      intro hm_l1 kind_28 w H HS
      cases m_l1 with
      | zero => rw [spec_ValidItem.l1] at H; cases H
      | succ n_l1 =>
       rw [spec_ValidItem.l1] at H
       subst hk_l1
       refine G.run 3 rfl ?_
       rcases ite_elim H with ⟨c55, H⟩ | ⟨c55, H⟩
       ·
        refine G.yesB rfl (decide_eq_true c55) (G.run 4 rfl ?_)
        rcases ite_elim H with ⟨c56, H⟩ | ⟨c56, H⟩
        ·
         refine G.region (GO.move rfl rfl rfl (GO.fld (⟨b1, 1, none⟩) rfl rfl fl48_1 rfl rfl (GO.ldBox (j := 0) HS rfl rfl rfl rfl na2 rfl (GO.ps 2 rfl (GO.known (t := 22) rfl (congrArg Bool.not (decide_eq_true c56)) (GO.off rfl rfl rfl rfl rfl rfl (GO.off rfl rfl rfl rfl rfl rfl (GO.off rfl rfl rfl rfl rfl rfl (GO.off rfl rfl rfl rfl rfl rfl (GO.pickF rfl rfl rfl rfl rfl (GO.nil (G.run 5 rfl (G.weak ?_ (ih_l1 n_l1 (Nat.lt_succ_of_le (Nat.le_refl _)) (Nat.le_of_succ_le hm_l1) _ _ H HS))))))))))))))
         exact ⟨rfl, rfl, trivial⟩
        obtain ⟨t57, h58, H⟩ := Option.bind_eq_some_iff.1 H
        refine G.region (GO.move rfl rfl rfl (GO.fld (⟨b1, 1, none⟩) rfl rfl fl48_1 rfl rfl (GO.ldBox (j := 0) HS rfl rfl rfl rfl na2 rfl (GO.ps 2 rfl (GO.known (t := 22) rfl (congrArg Bool.not (decide_eq_false c56)) (GO.on rfl rfl rfl rfl (GO.ldBoxA (j := 0) ([.string e_Name, .int .i64 e_Kind, .slice A_a e_Triangulation_Tets.length c_a, .slice A_b e_Diagram_Crossings.length c_b, .int .i64 e_Diagram_Circles, .int .i64 e_Braid_Strands, .slice A_c e_Braid_Word.length c_c, .int .i64 e_Certificate_Name, .int .i64 e_Certificate_Trait, .slice A_d e_Certificate_Moves.length c_d, .slice A_e e_Certificate_Tets.length c_e, .slice A_f e_Certificate_Perms.length c_f]) HS rfl rfl rfl rfl ag48 rfl (GO.back (GO.on rfl rfl rfl rfl (GO.move rfl rfl rfl (GO.back (GO.on rfl rfl rfl rfl (GO.fn rfl func93 fok93.1 fok93.2 rfl rfl (spec_l33Zero.calls HS (RdIn.drop 1 r_a) (RdIn.drop 1 r_b) (RdIn.drop 1 r_c) (RdIn.drop 1 r_d) (RdIn.drop 1 r_e) (RdIn.drop 1 r_f) h58) (fun _ wd59 ⟨h60, HS⟩ => ⟨_, h60, (GO.back ?_)⟩))))))))))))))
        refine GO.on rfl rfl rfl rfl (GO.not rfl rfl rfl (GO.back (GO.pickT rfl rfl rfl rfl rfl (GO.nil ?_))))
        rcases ite_elim H with ⟨c61, H⟩ | ⟨c61, H⟩
        ·
         refine G.noB rfl (congrArg Bool.not c61) (G.run 4 rfl (G.weak ?_ (ih_l1 n_l1 (Nat.lt_succ_of_le (Nat.le_refl _)) (Nat.le_of_succ_le hm_l1) _ _ H HS)))
         exact ⟨rfl, rfl, trivial⟩
        refine G.yesB rfl (congrArg Bool.not (bnot_of c61)) (G.run 2 rfl ?_)
        obtain rfl := Option.some.inj H
        exact G.ret1 _ func58 rfl rfl ⟨rfl, (HS.pk 1 [] rfl)⟩
       refine G.noB rfl (decide_eq_false c55) (G.run 3 rfl (G.region (GO.fld (⟨b1, 1, none⟩) rfl rfl fl48_1 rfl rfl (GO.ldBox (j := 0) HS rfl rfl rfl rfl na2 rfl (GO.nil (G.run 3 rfl ?_))))))
       rcases ite_elim H with ⟨c62, H⟩ | ⟨c62, H⟩
       ·
        refine G.yesB rfl (decide_eq_true c62) (G.seq ?_)
        obtain ⟨t63, h64, H⟩ := Option.bind_eq_some_iff.1 H
        refine G.region (GO.fld (⟨b1, 2, none⟩) rfl rfl fl48_2 rfl rfl (GO.ldBoxA (j := 0) ([.slice A_a e_Triangulation_Tets.length c_a]) HS rfl rfl rfl rfl ag37 rfl (GO.fn rfl func94 fok94.1 fok94.2 rfl rfl (spec_IsTriangulation.calls HS (RdIn.drop 1 r_a) h64) (fun _ wd65 ⟨h66, HS⟩ => ⟨_, h66, (GO.assign rfl rfl rfl (GO.nil ?_))⟩))))
        obtain rfl := Option.some.inj H
        exact G.ret1 _ func58 rfl rfl ⟨rfl, (HS.pk 1 [] rfl)⟩
       refine G.noB rfl (decide_eq_false c62) (G.run 2 rfl ?_)
       rcases ite_elim H with ⟨c67, H⟩ | ⟨c67, H⟩
       ·
        refine G.yesB rfl (decide_eq_true c67) (G.seq ?_)
        obtain ⟨t68, h69, H⟩ := Option.bind_eq_some_iff.1 H
        refine G.region (GO.fld (⟨b1, 3, none⟩) rfl rfl fl48_3 rfl rfl (GO.ldBoxA (j := 0) ([.slice A_b e_Diagram_Crossings.length c_b, .int .i64 e_Diagram_Circles]) HS rfl rfl rfl rfl ag40 rfl (GO.fn rfl func95 fok95.1 fok95.2 rfl rfl (spec_IsDiagram.calls HS (RdIn.drop 1 r_b) h69) (fun _ wd70 ⟨h71, HS⟩ => ⟨_, h71, (GO.assign rfl rfl rfl (GO.nil ?_))⟩))))
        obtain rfl := Option.some.inj H
        exact G.ret1 _ func58 rfl rfl ⟨rfl, (HS.pk 1 [] rfl)⟩
       refine G.noB rfl (decide_eq_false c67) (G.run 2 rfl ?_)
       rcases ite_elim H with ⟨c72, H⟩ | ⟨c72, H⟩
       ·
        refine G.yesB rfl (decide_eq_true c72) (G.seq ?_)
        obtain ⟨t73, h74, H⟩ := Option.bind_eq_some_iff.1 H
        refine G.region (GO.fld (⟨b1, 5, none⟩) rfl rfl fl48_4 rfl rfl (GO.ldBoxA (j := 0) ([.int .i64 e_Braid_Strands, .slice A_c e_Braid_Word.length c_c]) HS rfl rfl rfl rfl ag43 rfl (GO.fn rfl func96 fok96.1 fok96.2 rfl rfl (spec_ValidBraid.calls HS (RdIn.drop 1 r_c) h74) (fun _ wd75 ⟨h76, HS⟩ => ⟨_, h76, (GO.assign rfl rfl rfl (GO.nil ?_))⟩))))
        obtain rfl := Option.some.inj H
        exact G.ret1 _ func58 rfl rfl ⟨rfl, (HS.pk 1 [] rfl)⟩
       refine G.noB rfl (decide_eq_false c72) (G.run 3 rfl ?_)
       obtain ⟨t77, h78, H⟩ := Option.bind_eq_some_iff.1 H
       refine G.region (GO.fld (⟨b1, 7, none⟩) rfl rfl fl48_5 rfl rfl (GO.ldBoxA (j := 0) ([.int .i64 e_Certificate_Name, .int .i64 e_Certificate_Trait, .slice A_d e_Certificate_Moves.length c_d, .slice A_e e_Certificate_Tets.length c_e, .slice A_f e_Certificate_Perms.length c_f]) HS rfl rfl rfl rfl ag46 rfl (GO.fn rfl func97 fok97.1 fok97.2 rfl rfl (spec_IsPlainCertificate.calls HS (RdIn.drop 1 r_d) (RdIn.drop 1 r_e) (RdIn.drop 1 r_f) h78) (fun _ wd79 ⟨h80, HS⟩ => ⟨_, h80, (GO.assign rfl rfl rfl (GO.nil ?_))⟩))))
       obtain rfl := Option.some.inj H
       exact G.ret1 _ func58 rfl rfl ⟨rfl, (HS.pk 1 [] rfl)⟩
    refine G.weak ?_ (at_l1 K (Nat.le_refl _) _ _ H HS)
    exact ⟨rfl, rfl, trivial⟩
   refine G.yesB rfl (congrArg Bool.not (bnot_of c21)) (G.run 2 rfl ?_)
   obtain rfl := Option.some.inj H
   exact G.ret1 _ func58 rfl rfl ⟨rfl, (HS.pk 1 [] rfl)⟩
  refine G.region (GO.fld (⟨b1, 0, none⟩) rfl rfl fl48_0 rfl rfl (GO.ldBox (j := 0) HS rfl rfl rfl rfl na9 rfl (GO.fn rfl func91 fok91.1 fok91.2 rfl rfl (spec_l33Name.calls HS  h13) (fun _ wd14 ⟨h15, HS⟩ => ⟨_, h15, (GO.ps 2 rfl (GO.known (t := 8) rfl (congrArg Bool.not (bnot_of c16)) (GO.off rfl rfl rfl rfl rfl rfl (GO.off rfl rfl rfl rfl rfl rfl (GO.off rfl rfl rfl rfl rfl rfl (GO.off rfl rfl rfl rfl rfl rfl (GO.pickT rfl rfl rfl rfl rfl (GO.nil (G.run 3 rfl ?_)))))))))⟩))))
  obtain rfl := Option.some.inj H
  exact G.ret1 _ func58 rfl rfl ⟨rfl, (HS.pk 1 [] rfl)⟩
theorem spec_l33List.calls {w0 w : World} {L : List HObj} {K : Nat} {list : List GItem} {A_a : Option Addr} {c_a : Nat} {y_a : Nat → T_GItem_47.Lay} {r1 : Bool} (HS : St w0 w (L)) (r_a : RdIn w0 L T_GItem_47 A_a c_a y_a list) (H : spec_l33List.f K list = some r1) :
    Calls prog 25 #[.slice A_a list.length c_a] w (spec_l33List.post w0 L r1) := by
  unfold spec_l33List.f at H
  refine Calls.of_G func25 rfl rfl rfl ?_
  refine G.run 7 rfl ?_
  refine G.name (fun k_l1 hk_l1 => ?_)
  have at_l1 : ∀ m_l1, m_l1 ≤ K → ∀ (i_10 : Int) (w : World), spec_l33List.l1 K m_l1 list i_10 = some r1 → St w0 w (L) → G prog 25 37 [(0, .slice A_a list.length c_a), (3, .int .i64 i_10)] k_l1 w (spec_l33List.post w0 L r1) := by
   intro m_l1
   induction m_l1 using Nat.strongRecOn with
   | _ m_l1 ih_l1 =>
    intro hm_l1 i_10 w H HS
    cases m_l1 with
    | zero => rw [spec_l33List.l1] at H; cases H
    | succ n_l1 =>
     rw [spec_l33List.l1] at H
     subst hk_l1
     refine G.run 2 rfl (G.region (GO.ps 2 rfl (GO.lenS rfl rfl underlying28 rfl (GO.lss rfl rfl rfl rfl (GO.nil ?_)))))
     rcases ite_elim H with ⟨c25, H⟩ | ⟨c25, H⟩
     ·
      refine G.yesB rfl (decide_eq_true c25) (G.run 4 rfl ?_)
      obtain ⟨c26, H⟩ := ite_none H
      obtain ⟨e27, h28, H⟩ := bnd_elim H
      obtain ⟨t29, h30, H⟩ := Option.bind_eq_some_iff.1 H
      rcases ite_elim H with ⟨c33, H⟩ | ⟨c33, H⟩
      ·
       rcases ite_elim H with ⟨c34, H⟩ | ⟨c34, H⟩
       ·
        obtain ⟨c35, H⟩ := ite_none H
        obtain ⟨e36, h37, H⟩ := bnd_elim H
        refine G.lex mixed [0, 1, 2, 3, 4, 5, 6, 7, 8, 9, 10, 11, 12, 13, 14, 16, 17, 18, 19, 15, 20, 21, 22, 23] (by kernel_rfl) ?_
        replace HS := HS.drew
        refine GX.ps 2 rfl (GX.l0 rfl rfl (fun _ _ g => GO.ix rfl rfl rfl underlying28 sz48 (r_a _ HS).2.2.1 c26.1 c26.2 rfl g) rfl (GX.l1 rfl rfl rfl (fun _ g => GO.ldRdA (T := T_GItem_47) (n := i_10.toNat) HS r_a rfl rfl (getD_eq (ltN c26) h28) ag48 rfl g) rfl (GX.l2 rfl (GO.fn rfl func58 fok58.1 fok58.2 rfl rfl (spec_ValidItem.calls HS (RdIn.fld r_a (getD_eq (ltN c26) h28) (fun _ h => h.2.2.1)) (RdIn.fld r_a (getD_eq (ltN c26) h28) (fun _ h => h.2.2.2.1)) (RdIn.fld r_a (getD_eq (ltN c26) h28) (fun _ h => h.2.2.2.2.2.2.1)) (RdIn.fld r_a (getD_eq (ltN c26) h28) (fun _ h => h.2.2.2.2.2.2.2.2.2.1)) (RdIn.fld r_a (getD_eq (ltN c26) h28) (fun _ h => h.2.2.2.2.2.2.2.2.2.2.1)) (RdIn.fld r_a (getD_eq (ltN c26) h28) (fun _ h => h.2.2.2.2.2.2.2.2.2.2.2)) h30) (fun _ wd31 ⟨h32, HS⟩ => ⟨_, h32, (GX.fin trivial (GX.ps 1 rfl (GX.l0 rfl rfl (fun _ _ g => GO.move rfl rfl rfl (GO.known (t := 16) rfl (congrArg Bool.not c33) g)) rfl (GX.l0 rfl rfl (fun _ _ g => GO.on rfl rfl rfl rfl (GO.move rfl rfl rfl (GO.back g))) rfl (GX.l0 rfl rfl (fun _ _ g => GO.on rfl rfl rfl rfl (GO.gtr rfl rfl rfl rfl (GO.back g))) rfl (GX.l0 rfl rfl (fun _ _ g => GO.on rfl rfl rfl rfl (GO.move rfl rfl rfl (GO.back (GO.known (t := 19) rfl (decide_eq_true c34) g)))) rfl (GX.l0 rfl rfl (fun _ _ g => GO.on rfl rfl rfl rfl (GO.move rfl rfl rfl (GO.back g))) rfl (GX.l0 rfl rfl (fun _ _ g => GO.on rfl rfl rfl rfl (GO.move rfl rfl rfl (GO.back g))) rfl (GX.l0 rfl rfl (fun _ _ g => GO.on rfl rfl rfl rfl (GO.sub rfl rfl rfl rfl (GO.back g))) rfl (GX.l0 rfl rfl (fun _ _ g => GO.on rfl rfl rfl rfl (GO.ix rfl rfl rfl underlying28 sz48 (r_a _ HS).2.2.1 c35.1 c35.2 rfl (GO.back g))) rfl ?_))))))))))⟩)))))
        refine GX.l0 rfl rfl (fun _ _ g => GO.on rfl rfl rfl rfl (GO.fld (ea A_a (((w64 (i_10 - 1)).toNat) * 12)) rfl rfl fl48_0 rfl rfl (GO.back g))) rfl (GX.l0 rfl rfl (fun _ _ g => GO.on rfl rfl rfl rfl (GO.move rfl rfl rfl (GO.back g))) rfl (GX.l0 rfl rfl (fun _ _ g => GO.on rfl rfl rfl rfl (GO.move rfl rfl rfl (GO.back g))) rfl (GX.l0 rfl rfl (fun _ _ g => GO.on rfl rfl rfl rfl (GO.ix rfl rfl rfl underlying28 sz48 (r_a _ HS).2.2.1 c26.1 c26.2 rfl (GO.back g))) rfl (GX.l0 rfl rfl (fun _ _ g => GO.on rfl rfl rfl rfl (GO.fld (ea A_a (i_10.toNat * 12)) rfl rfl fl48_0 rfl rfl (GO.back g))) rfl (GX.l1 rfl rfl rfl (fun _ g => GO.on rfl rfl rfl rfl (GO.ldRd (T := T_GItem_47) (n := (w64 (i_10 - 1)).toNat) (o := 0) HS r_a rfl rfl (getD_eq (ltN c35) h37) rfl rfl na9 rfl (GO.back g))) rfl (GX.l1 rfl rfl rfl (fun _ g => GO.on rfl rfl rfl rfl (GO.ldRd (T := T_GItem_47) (n := i_10.toNat) (o := 0) HS r_a rfl rfl (getD_eq (ltN c26) h28) rfl rfl na9 rfl (GO.back g))) rfl (GX.l0 rfl rfl (fun _ _ g => GO.on rfl rfl rfl rfl (GO.geqS rfl rfl rfl rfl (GO.back g))) rfl (GX.l0 rfl rfl (fun _ _ g => GO.on rfl rfl rfl rfl (GO.pickT rfl rfl rfl rfl rfl (GO.back g))) rfl (GX.ps 1 rfl (GX.nil ?_))))))))))
        rcases ite_elim H with ⟨c38, H⟩ | ⟨c38, H⟩
        ·
         refine G.noB rfl (congrArg Bool.not c38) (G.run 4 rfl (G.weak ?_ (ih_l1 n_l1 (Nat.lt_succ_of_le (Nat.le_refl _)) (Nat.le_of_succ_le hm_l1) _ _ H HS)))
         exact ⟨rfl, rfl, trivial⟩
        refine G.yesB rfl (congrArg Bool.not (bnot_of c38)) (G.run 2 rfl ?_)
        obtain rfl := Option.some.inj H
        exact G.ret1 _ func25 rfl rfl ⟨rfl, HS⟩
       refine G.lex mixed [0, 1, 2, 3, 4, 5, 6, 7, 8, 9, 10, 11, 12, 13, 14, 16, 17, 18, 19, 15, 20, 21, 22, 23] (by kernel_rfl) ?_
       replace HS := HS.drew
       refine GX.ps 2 rfl (GX.l0 rfl rfl (fun _ _ g => GO.ix rfl rfl rfl underlying28 sz48 (r_a _ HS).2.2.1 c26.1 c26.2 rfl g) rfl (GX.l1 rfl rfl rfl (fun _ g => GO.ldRdA (T := T_GItem_47) (n := i_10.toNat) HS r_a rfl rfl (getD_eq (ltN c26) h28) ag48 rfl g) rfl (GX.l2 rfl (GO.fn rfl func58 fok58.1 fok58.2 rfl rfl (spec_ValidItem.calls HS (RdIn.fld r_a (getD_eq (ltN c26) h28) (fun _ h => h.2.2.1)) (RdIn.fld r_a (getD_eq (ltN c26) h28) (fun _ h => h.2.2.2.1)) (RdIn.fld r_a (getD_eq (ltN c26) h28) (fun _ h => h.2.2.2.2.2.2.1)) (RdIn.fld r_a (getD_eq (ltN c26) h28) (fun _ h => h.2.2.2.2.2.2.2.2.2.1)) (RdIn.fld r_a (getD_eq (ltN c26) h28) (fun _ h => h.2.2.2.2.2.2.2.2.2.2.1)) (RdIn.fld r_a (getD_eq (ltN c26) h28) (fun _ h => h.2.2.2.2.2.2.2.2.2.2.2)) h30) (fun _ wd31 ⟨h32, HS⟩ => ⟨_, h32, (GX.fin trivial (GX.ps 1 rfl (GX.l0 rfl rfl (fun _ _ g => GO.move rfl rfl rfl (GO.known (t := 16) rfl (congrArg Bool.not c33) g)) rfl (GX.l0 rfl rfl (fun _ _ g => GO.on rfl rfl rfl rfl (GO.move rfl rfl rfl (GO.back g))) rfl (GX.l0 rfl rfl (fun _ _ g => GO.on rfl rfl rfl rfl (GO.gtr rfl rfl rfl rfl (GO.back g))) rfl (GX.l0 rfl rfl (fun _ _ g => GO.on rfl rfl rfl rfl (GO.move rfl rfl rfl (GO.back (GO.known (t := 19) rfl (decide_eq_false c34) g)))) rfl (GX.l0 rfl rfl (fun _ _ g => GO.off rfl rfl rfl rfl rfl rfl g) rfl (GX.l0 rfl rfl (fun _ _ g => GO.off rfl rfl rfl rfl rfl rfl g) rfl (GX.l0 rfl rfl (fun _ _ g => GO.off rfl rfl rfl rfl rfl rfl g) rfl (GX.l0 rfl rfl (fun _ _ g => GO.off rfl rfl rfl rfl rfl rfl g) rfl ?_))))))))))⟩)))))
       refine GX.l0 rfl rfl (fun _ _ g => GO.off rfl rfl rfl rfl rfl rfl g) rfl (GX.l0 rfl rfl (fun _ _ g => GO.off rfl rfl rfl rfl rfl rfl g) rfl (GX.l0 rfl rfl (fun _ _ g => GO.off rfl rfl rfl rfl rfl rfl g) rfl (GX.l0 rfl rfl (fun _ _ g => GO.off rfl rfl rfl rfl rfl rfl g) rfl (GX.l0 rfl rfl (fun _ _ g => GO.off rfl rfl rfl rfl rfl rfl g) rfl (GX.l1 rfl rfl rfl (fun _ g => GO.off rfl rfl rfl rfl rfl rfl g) rfl (GX.l1 rfl rfl rfl (fun _ g => GO.off rfl rfl rfl rfl rfl rfl g) rfl (GX.l0 rfl rfl (fun _ _ g => GO.off rfl rfl rfl rfl rfl rfl g) rfl (GX.l0 rfl rfl (fun _ _ g => GO.on rfl rfl rfl rfl (GO.pickF rfl rfl rfl rfl rfl (GO.back g))) rfl (GX.ps 1 rfl (GX.nil (G.run 5 rfl (G.weak ?_ (ih_l1 n_l1 (Nat.lt_succ_of_le (Nat.le_refl _)) (Nat.le_of_succ_le hm_l1) _ _ H HS)))))))))))))
       exact ⟨rfl, rfl, trivial⟩
      refine G.lex mixed [0, 1, 2, 3, 4, 5, 6, 7, 8, 9, 10, 11, 12, 13, 14, 16, 17, 18, 19, 15, 20, 21, 22, 23] (by kernel_rfl) ?_
      replace HS := HS.drew
      refine GX.ps 2 rfl (GX.l0 rfl rfl (fun _ _ g => GO.ix rfl rfl rfl underlying28 sz48 (r_a _ HS).2.2.1 c26.1 c26.2 rfl g) rfl (GX.l1 rfl rfl rfl (fun _ g => GO.ldRdA (T := T_GItem_47) (n := i_10.toNat) HS r_a rfl rfl (getD_eq (ltN c26) h28) ag48 rfl g) rfl (GX.l2 rfl (GO.fn rfl func58 fok58.1 fok58.2 rfl rfl (spec_ValidItem.calls HS (RdIn.fld r_a (getD_eq (ltN c26) h28) (fun _ h => h.2.2.1)) (RdIn.fld r_a (getD_eq (ltN c26) h28) (fun _ h => h.2.2.2.1)) (RdIn.fld r_a (getD_eq (ltN c26) h28) (fun _ h => h.2.2.2.2.2.2.1)) (RdIn.fld r_a (getD_eq (ltN c26) h28) (fun _ h => h.2.2.2.2.2.2.2.2.2.1)) (RdIn.fld r_a (getD_eq (ltN c26) h28) (fun _ h => h.2.2.2.2.2.2.2.2.2.2.1)) (RdIn.fld r_a (getD_eq (ltN c26) h28) (fun _ h => h.2.2.2.2.2.2.2.2.2.2.2)) h30) (fun _ wd31 ⟨h32, HS⟩ => ⟨_, h32, (GX.fin trivial (GX.ps 1 rfl (GX.l0 rfl rfl (fun _ _ g => GO.move rfl rfl rfl (GO.known (t := 16) rfl (congrArg Bool.not (bnot_of c33)) g)) rfl (GX.l0 rfl rfl (fun _ _ g => GO.off rfl rfl rfl rfl rfl rfl g) rfl (GX.l0 rfl rfl (fun _ _ g => GO.off rfl rfl rfl rfl rfl rfl g) rfl (GX.l0 rfl rfl (fun _ _ g => GO.off rfl rfl rfl rfl rfl rfl g) rfl (GX.l0 rfl rfl (fun _ _ g => GO.offU rfl rfl rfl rfl rfl rfl g) rfl (GX.l0 rfl rfl (fun _ _ g => GO.offU rfl rfl rfl rfl rfl rfl g) rfl (GX.l0 rfl rfl (fun _ _ g => GO.offU rfl rfl rfl rfl rfl rfl g) rfl (GX.l0 rfl rfl (fun _ _ g => GO.offU rfl rfl rfl rfl rfl rfl g) rfl ?_))))))))))⟩)))))
      refine GX.l0 rfl rfl (fun _ _ g => GO.offU rfl rfl rfl rfl rfl rfl g) rfl (GX.l0 rfl rfl (fun _ _ g => GO.offU rfl rfl rfl rfl rfl rfl g) rfl (GX.l0 rfl rfl (fun _ _ g => GO.offU rfl rfl rfl rfl rfl rfl g) rfl (GX.l0 rfl rfl (fun _ _ g => GO.offU rfl rfl rfl rfl rfl rfl g) rfl (GX.l0 rfl rfl (fun _ _ g => GO.offU rfl rfl rfl rfl rfl rfl g) rfl (GX.l1 rfl rfl rfl (fun _ g => GO.offU rfl rfl rfl rfl rfl rfl g) rfl (GX.l1 rfl rfl rfl (fun _ g => GO.offU rfl rfl rfl rfl rfl rfl g) rfl (GX.l0 rfl rfl (fun _ _ g => GO.offU rfl rfl rfl rfl rfl rfl g) rfl (GX.l0 rfl rfl (fun _ _ g => GO.off rfl rfl rfl rfl rfl rfl g) rfl (GX.ps 1 rfl (GX.nil (G.run 3 rfl ?_)))))))))))
      obtain rfl := Option.some.inj H
      exact G.ret1 _ func25 rfl rfl ⟨rfl, HS⟩
     refine G.noB rfl (decide_eq_false c25) (G.run 2 rfl (G.region (GO.move rfl rfl rfl (GO.lenS rfl rfl underlying28 rfl (GO.ps 2 rfl (GO.nil ?_))))))
     obtain rfl := Option.some.inj H
     exact G.ret1 _ func25 rfl rfl ⟨rfl, HS⟩
  refine G.weak ?_ (at_l1 K (Nat.le_refl _) _ _ H HS)
  exact ⟨rfl, rfl, trivial⟩
theorem spec_l33Stack.calls {w0 w : World} {L : List HObj} {K : Nat} {list : List (List GItem)} {A_a : Option Addr} {c_a : Nat} {y_a : Nat → (Ty.slice 48 T_GItem_47).Lay} {r1 : Bool} (HS : St w0 w (L)) (r_a : RdIn w0 L (Ty.slice 48 T_GItem_47) A_a c_a y_a list) (H : spec_l33Stack.f K list = some r1) :
    Calls prog 26 #[.slice A_a list.length c_a] w (spec_l33Stack.post w0 L r1) := by
  unfold spec_l33Stack.f at H
  refine Calls.of_G func26 rfl rfl rfl ?_
  refine G.run 7 rfl ?_
  refine G.name (fun k_l1 hk_l1 => ?_)
  have at_l1 : ∀ m_l1, m_l1 ≤ K → ∀ (i_8 : Int) (w : World), spec_l33Stack.l1 K m_l1 list i_8 = some r1 → St w0 w (L) → G prog 26 19 [(0, .slice A_a list.length c_a), (3, .int .i64 i_8)] k_l1 w (spec_l33Stack.post w0 L r1) := by
   intro m_l1
   induction m_l1 using Nat.strongRecOn with
   | _ m_l1 ih_l1 =>
    intro hm_l1 i_8 w H HS
    cases m_l1 with
    | zero => rw [spec_l33Stack.l1] at H; cases H
    | succ n_l1 =>
     rw [spec_l33Stack.l1] at H
     subst hk_l1
     refine G.run 2 rfl (G.region (GO.ps 2 rfl (GO.lenS rfl rfl underlying29 rfl (GO.lss rfl rfl rfl rfl (GO.nil ?_)))))
     rcases ite_elim H with ⟨c16, H⟩ | ⟨c16, H⟩
     ·
      refine G.yesB rfl (decide_eq_true c16) (G.run 4 rfl ?_)
      obtain ⟨c17, H⟩ := ite_none H
      obtain ⟨t18, h19, H⟩ := Option.bind_eq_some_iff.1 H
      refine G.region (GO.ps 2 rfl (GO.ix rfl rfl rfl underlying29 sz28 (r_a _ HS).2.2.1 c17.1 c17.2 rfl (GO.ldRd (T := (Ty.slice 48 T_GItem_47)) (n := i_8.toNat) (o := 0) HS r_a rfl rfl (getD_some (d := []) (ltN c17)) rfl rfl na28 rfl (GO.fn rfl func25 fok25.1 fok25.2 rfl rfl (spec_l33List.calls HS (RdIn.elem r_a c17.1 c17.2) h19) (fun _ wd20 ⟨h21, HS⟩ => ⟨_, h21, (GO.not rfl rfl rfl (GO.nil ?_))⟩)))))
      rcases ite_elim H with ⟨c22, H⟩ | ⟨c22, H⟩
      ·
       refine G.noB rfl (congrArg Bool.not c22) (G.run 4 rfl (G.weak ?_ (ih_l1 n_l1 (Nat.lt_succ_of_le (Nat.le_refl _)) (Nat.le_of_succ_le hm_l1) _ _ H HS)))
       exact ⟨rfl, rfl, trivial⟩
      refine G.yesB rfl (congrArg Bool.not (bnot_of c22)) (G.run 2 rfl ?_)
      obtain rfl := Option.some.inj H
      exact G.ret1 _ func26 rfl rfl ⟨rfl, HS⟩
     refine G.noB rfl (decide_eq_false c16) (G.run 2 rfl (G.region (GO.move rfl rfl rfl (GO.lenS rfl rfl underlying29 rfl (GO.ps 2 rfl (GO.nil ?_))))))
     obtain rfl := Option.some.inj H
     exact G.ret1 _ func26 rfl rfl ⟨rfl, HS⟩
  refine G.weak ?_ (at_l1 K (Nat.le_refl _) _ _ H HS)
  exact ⟨rfl, rfl, trivial⟩
theorem spec_ValidBench.calls {w0 w : World} {L : List HObj} {K : Nat} {b_Items : List GItem} {b_Undos b_Redos : List (List GItem)} {A_a : Option Addr} {c_a : Nat} {y_a : Nat → T_GItem_47.Lay} {A_b : Option Addr} {c_b : Nat} {y_b : Nat → (Ty.slice 48 T_GItem_47).Lay} {A_c : Option Addr} {c_c : Nat} {y_c : Nat → (Ty.slice 48 T_GItem_47).Lay} {r1 : Bool} (HS : St w0 w (L)) (r_a : RdIn w0 L T_GItem_47 A_a c_a y_a b_Items) (r_b : RdIn w0 L (Ty.slice 48 T_GItem_47) A_b c_b y_b b_Undos) (r_c : RdIn w0 L (Ty.slice 48 T_GItem_47) A_c c_c y_c b_Redos) (H : spec_ValidBench.f K b_Items b_Undos b_Redos = some r1) :
    Calls prog 8 #[.agg [.slice A_a b_Items.length c_a, .slice A_b b_Undos.length c_b, .slice A_c b_Redos.length c_c].toArray] w (spec_ValidBench.post w0 L r1) := by
  unfold spec_ValidBench.f at H
  refine Calls.of_G func8 rfl rfl rfl ?_
  refine G.seq (G.region (GO.box (cs := [.slice A_a b_Items.length c_a, .slice A_b b_Undos.length c_b, .slice A_c b_Redos.length c_c]) HS rfl rfl rfl rfl fun b1 wd2 HS => GO.assign rfl rfl rfl (GO.nil (G.seq ?_))))
  obtain ⟨t3, h4, H⟩ := Option.bind_eq_some_iff.1 H
  rcases ite_elim H with ⟨c7, H⟩ | ⟨c7, H⟩
  ·
   obtain ⟨t8, h9, H⟩ := Option.bind_eq_some_iff.1 H
   rcases ite_elim H with ⟨c12, H⟩ | ⟨c12, H⟩
   ·
    obtain ⟨t13, h14, H⟩ := Option.bind_eq_some_iff.1 H
    refine G.region (GO.fld (⟨b1, 0, none⟩) rfl rfl fl31_0 rfl rfl (GO.ldBox (j := 0) HS rfl rfl rfl rfl na28 rfl (GO.fn rfl func25 fok25.1 fok25.2 rfl rfl (spec_l33List.calls HS (RdIn.drop 1 r_a) h4) (fun _ wd5 ⟨h6, HS⟩ => ⟨_, h6, (GO.move rfl rfl rfl (GO.known (t := 6) rfl c7 (GO.on rfl rfl rfl rfl (GO.fld (⟨b1, 1, none⟩) rfl rfl fl31_1 rfl rfl (GO.back (GO.on rfl rfl rfl rfl (GO.ldBox (j := 0) HS rfl rfl rfl rfl na29 rfl (GO.back (GO.on rfl rfl rfl rfl (GO.fn rfl func26 fok26.1 fok26.2 rfl rfl (spec_l33Stack.calls HS (RdIn.drop 1 r_b) h9) (fun _ wd10 ⟨h11, HS⟩ => ⟨_, h11, (GO.back ?_)⟩)))))))))))⟩))))
    refine GO.ps 2 rfl (GO.known (t := 11) rfl c12 (GO.on rfl rfl rfl rfl (GO.fld (⟨b1, 2, none⟩) rfl rfl fl31_2 rfl rfl (GO.back (GO.on rfl rfl rfl rfl (GO.ldBox (j := 0) HS rfl rfl rfl rfl na29 rfl (GO.back (GO.on rfl rfl rfl rfl (GO.fn rfl func26 fok26.1 fok26.2 rfl rfl (spec_l33Stack.calls HS (RdIn.drop 1 r_c) h14) (fun _ wd15 ⟨h16, HS⟩ => ⟨_, h16, (GO.back (GO.ps 2 rfl (GO.nil ?_)))⟩))))))))))
    obtain rfl := Option.some.inj H
    exact G.ret1 _ func8 rfl rfl ⟨rfl, (HS.pk 1 [] rfl)⟩
   refine G.region (GO.fld (⟨b1, 0, none⟩) rfl rfl fl31_0 rfl rfl (GO.ldBox (j := 0) HS rfl rfl rfl rfl na28 rfl (GO.fn rfl func25 fok25.1 fok25.2 rfl rfl (spec_l33List.calls HS (RdIn.drop 1 r_a) h4) (fun _ wd5 ⟨h6, HS⟩ => ⟨_, h6, (GO.move rfl rfl rfl (GO.known (t := 6) rfl c7 (GO.on rfl rfl rfl rfl (GO.fld (⟨b1, 1, none⟩) rfl rfl fl31_1 rfl rfl (GO.back (GO.on rfl rfl rfl rfl (GO.ldBox (j := 0) HS rfl rfl rfl rfl na29 rfl (GO.back (GO.on rfl rfl rfl rfl (GO.fn rfl func26 fok26.1 fok26.2 rfl rfl (spec_l33Stack.calls HS (RdIn.drop 1 r_b) h9) (fun _ wd10 ⟨h11, HS⟩ => ⟨_, h11, (GO.back ?_)⟩)))))))))))⟩))))
   refine GO.ps 2 rfl (GO.known (t := 11) rfl (bnot_of c12) (GO.off rfl rfl rfl rfl rfl rfl (GO.off rfl rfl rfl rfl rfl rfl (GO.off rfl rfl rfl rfl rfl rfl (GO.ps 2 rfl (GO.nil ?_))))))
   obtain rfl := Option.some.inj H
   exact G.ret1 _ func8 rfl rfl ⟨rfl, (HS.pk 1 [] rfl)⟩
  refine G.region (GO.fld (⟨b1, 0, none⟩) rfl rfl fl31_0 rfl rfl (GO.ldBox (j := 0) HS rfl rfl rfl rfl na28 rfl (GO.fn rfl func25 fok25.1 fok25.2 rfl rfl (spec_l33List.calls HS (RdIn.drop 1 r_a) h4) (fun _ wd5 ⟨h6, HS⟩ => ⟨_, h6, (GO.move rfl rfl rfl (GO.known (t := 6) rfl (bnot_of c7) (GO.off rfl rfl rfl rfl rfl rfl (GO.off rfl rfl rfl rfl rfl rfl (GO.off rfl rfl rfl rfl rfl rfl (GO.ps 2 rfl (GO.off rfl rfl rfl rfl rfl rfl (GO.off rfl rfl rfl rfl rfl rfl (GO.off rfl rfl rfl rfl rfl rfl (GO.ps 2 rfl (GO.nil ?_)))))))))))⟩))))
  obtain rfl := Option.some.inj H
  exact G.ret1 _ func8 rfl rfl ⟨rfl, (HS.pk 1 [] rfl)⟩
theorem impl_isItemName_fn1.calls {w0 w : World} {L : List HObj} {c : Int} {r1 : Bool} (HS : St w0 w (L)) (H : impl_isItemName_fn1.f c = some r1) :
    Calls prog 158 #[.int .i32 c] w (impl_isItemName_fn1.post w0 L r1) := by
  unfold impl_isItemName_fn1.f at H
  refine Calls.of_G func158 rfl rfl rfl ?_
  refine G.run 3 rfl ?_
  rcases ite_elim H with ⟨c1, H⟩ | ⟨c1, H⟩
  ·
   refine G.region (GO.ps 3 rfl (GO.known (t := 5) rfl (decide_eq_true c1) (GO.off rfl rfl rfl rfl rfl rfl (GO.off rfl rfl rfl rfl rfl rfl (GO.ps 2 rfl (GO.nil ?_))))))
   obtain rfl := Option.some.inj H
   exact G.ret1 _ func158 rfl rfl ⟨rfl, HS⟩
  refine G.region (GO.ps 3 rfl (GO.known (t := 5) rfl (decide_eq_false c1) (GO.on rfl rfl rfl rfl (GO.move rfl rfl rfl (GO.back (GO.on rfl rfl rfl rfl (GO.gtr rfl rfl rfl rfl (GO.back (GO.ps 2 rfl (GO.nil ?_))))))))))
  obtain rfl := Option.some.inj H
  exact G.ret1 _ func158 rfl rfl ⟨rfl, HS⟩
theorem strings_indexFunc_isItemName_fn1.calls {w0 w : World} {L : List HObj} {K : Nat} {s : ByteArray} {truth : Bool} {r1 : Int} (HS : St w0 w (L)) (H : strings_indexFunc_isItemName_fn1.f K s truth = some r1) :
    Calls prog 193 #[.string s, .func (.func 158) #[] #[], .bool truth] w (strings_indexFunc_isItemName_fn1.post w0 L r1) := by
  unfold strings_indexFunc_isItemName_fn1.f at H
  refine Calls.of_G func193 rfl rfl rfl ?_
  refine G.run 4 rfl (G.region (GO.move rfl rfl rfl (GO.rangeS HS rfl rfl underlying9 rfl fun b1 wd2 HS => GO.nil (G.run 2 rfl ?_))))
  refine G.name (fun k_l1 hk_l1 => ?_)
  have at_l1 : ∀ m_l1, m_l1 ≤ K → ∀ (at12 : Ix) (w : World), strings_indexFunc_isItemName_fn1.l1 K m_l1 s truth at12 = some r1 → St w0 w (Iter b1 s at12 :: L) → G prog 193 21 [(1, .func (.func 158) #[] #[]), (2, .bool truth), (10, .pointer (some ⟨b1, 0, none⟩))] k_l1 w (strings_indexFunc_isItemName_fn1.post w0 L r1) := by
   intro m_l1
   induction m_l1 using Nat.strongRecOn with
   | _ m_l1 ih_l1 =>
    intro hm_l1 at12 w H HS
    cases m_l1 with
    | zero => rw [strings_indexFunc_isItemName_fn1.l1] at H; cases H
    | succ n_l1 =>
     rw [strings_indexFunc_isItemName_fn1.l1] at H
     subst hk_l1
     refine G.seq ?_
     rcases ite_elim H with ⟨c23, H⟩ | ⟨c23, H⟩
     ·
      refine G.region (GO.nextS (j := 0) HS rfl rfl rfl c23 rfl fun wd24 HS => GO.extract rfl rfl rfl rfl (GO.nil (G.run 7 rfl ?_)))
      obtain ⟨t25, h26, H⟩ := Option.bind_eq_some_iff.1 H
      refine G.region (GO.ps 2 rfl (GO.clo rfl rfl func158 fok158.1 fok158.2 rfl rfl (impl_isItemName_fn1.calls HS  h26) (fun _ wd27 ⟨h28, HS⟩ => ⟨_, h28, (GO.move rfl rfl rfl (GO.eqlB rfl rfl rfl underlying4 rfl (GO.nil ?_)))⟩)))
      rcases ite_elim H with ⟨c29, H⟩ | ⟨c29, H⟩
      ·
       refine G.yesB rfl c29 (G.run 2 rfl ?_)
       obtain rfl := Option.some.inj H
       exact G.ret1 _ func193 rfl rfl ⟨rfl, (HS.pk 1 [] rfl)⟩
      refine G.noB rfl (bnot_of c29) (G.run 3 rfl (G.weak ?_ (ih_l1 n_l1 (Nat.lt_succ_of_le (Nat.le_refl _)) (Nat.le_of_succ_le hm_l1) _ _ H HS)))
      exact ⟨rfl, rfl, rfl, trivial⟩
     refine G.region (GO.nextE (j := 0) HS rfl rfl rfl c23 rfl (GO.extract rfl rfl rfl rfl (GO.nil (G.run 5 rfl ?_))))
     obtain rfl := Option.some.inj H
     exact G.ret1 _ func193 rfl rfl ⟨rfl, (HS.pk 1 [] rfl)⟩
  refine G.weak ?_ (at_l1 K (Nat.le_refl _) _ _ H HS)
  exact ⟨rfl, rfl, rfl, trivial⟩
theorem strings_IndexFunc_isItemName_fn1.calls {w0 w : World} {L : List HObj} {K : Nat} {s : ByteArray} {r1 : Int} (HS : St w0 w (L)) (H : strings_IndexFunc_isItemName_fn1.f K s = some r1) :
    Calls prog 176 #[.string s, .func (.func 158) #[] #[]] w (strings_IndexFunc_isItemName_fn1.post w0 L r1) := by
  unfold strings_IndexFunc_isItemName_fn1.f at H
  refine Calls.of_G func176 rfl rfl rfl ?_
  refine G.run 3 rfl ?_
  obtain ⟨t1, h2, H⟩ := Option.bind_eq_some_iff.1 H
  refine G.region (GO.ps 2 rfl (GO.fn rfl func193 fok193.1 fok193.2 rfl rfl (strings_indexFunc_isItemName_fn1.calls HS  h2) (fun _ wd3 ⟨h4, HS⟩ => ⟨_, h4, (GO.assign rfl rfl rfl (GO.nil ?_))⟩)))
  obtain rfl := Option.some.inj H
  exact G.ret1 _ func176 rfl rfl ⟨rfl, HS⟩
theorem strings_ContainsFunc_isItemName_fn1.calls {w0 w : World} {L : List HObj} {K : Nat} {s : ByteArray} {r1 : Bool} (HS : St w0 w (L)) (H : strings_ContainsFunc_isItemName_fn1.f K s = some r1) :
    Calls prog 157 #[.string s, .func (.func 158) #[] #[]] w (strings_ContainsFunc_isItemName_fn1.post w0 L r1) := by
  unfold strings_ContainsFunc_isItemName_fn1.f at H
  refine Calls.of_G func157 rfl rfl rfl ?_
  refine G.run 3 rfl ?_
  obtain ⟨t1, h2, H⟩ := Option.bind_eq_some_iff.1 H
  refine G.region (GO.ps 2 rfl (GO.fn rfl func176 fok176.1 fok176.2 rfl rfl (strings_IndexFunc_isItemName_fn1.calls HS  h2) (fun _ wd3 ⟨h4, HS⟩ => ⟨_, h4, (GO.ps 2 rfl (GO.nil ?_))⟩)))
  obtain rfl := Option.some.inj H
  exact G.ret1 _ func157 rfl rfl ⟨rfl, HS⟩
theorem impl_isItemName.calls {w0 w : World} {L : List HObj} {K : Nat} {s : ByteArray} {r1 : Bool} (HS : St w0 w (L)) (H : impl_isItemName.f K s = some r1) :
    Calls prog 135 #[.string s] w (impl_isItemName.post w0 L r1) := by
  unfold impl_isItemName.f at H
  refine Calls.of_G func135 rfl rfl rfl ?_
  refine G.run 3 rfl ?_
  rcases ite_elim H with ⟨c1, H⟩ | ⟨c1, H⟩
  ·
   rcases ite_elim H with ⟨c2, H⟩ | ⟨c2, H⟩
   ·
    obtain ⟨t3, h4, H⟩ := Option.bind_eq_some_iff.1 H
    refine G.region (GO.move rfl rfl rfl (GO.lenStr rfl rfl underlying9 rfl (GO.ps 2 rfl (GO.known (t := 6) rfl (decide_eq_true c1) (GO.on rfl rfl rfl rfl (GO.move rfl rfl rfl (GO.back (GO.on rfl rfl rfl rfl (GO.lenStr rfl rfl underlying9 rfl (GO.back (GO.on rfl rfl rfl rfl (GO.leq rfl rfl rfl rfl (GO.back (GO.ps 2 rfl ?_))))))))))))))
    refine GO.known (t := 11) rfl (decide_eq_true c2) (GO.on rfl rfl rfl rfl (GO.move rfl rfl rfl (GO.back (GO.on rfl rfl rfl rfl (GO.fn rfl func157 fok157.1 fok157.2 rfl rfl (strings_ContainsFunc_isItemName_fn1.calls HS  h4) (fun _ wd5 ⟨h6, HS⟩ => ⟨_, h6, (GO.back (GO.on rfl rfl rfl rfl (GO.not rfl rfl rfl (GO.back (GO.ps 2 rfl (GO.nil ?_))))))⟩))))))
    obtain rfl := Option.some.inj H
    exact G.ret1 _ func135 rfl rfl ⟨rfl, HS⟩
   refine G.region (GO.move rfl rfl rfl (GO.lenStr rfl rfl underlying9 rfl (GO.ps 2 rfl (GO.known (t := 6) rfl (decide_eq_true c1) (GO.on rfl rfl rfl rfl (GO.move rfl rfl rfl (GO.back (GO.on rfl rfl rfl rfl (GO.lenStr rfl rfl underlying9 rfl (GO.back (GO.on rfl rfl rfl rfl (GO.leq rfl rfl rfl rfl (GO.back (GO.ps 2 rfl ?_))))))))))))))
   refine GO.known (t := 11) rfl (decide_eq_false c2) (GO.off rfl rfl rfl rfl rfl rfl (GO.off rfl rfl rfl rfl rfl rfl (GO.off rfl rfl rfl rfl rfl rfl (GO.ps 2 rfl (GO.nil ?_)))))
   obtain rfl := Option.some.inj H
   exact G.ret1 _ func135 rfl rfl ⟨rfl, HS⟩
  refine G.region (GO.move rfl rfl rfl (GO.lenStr rfl rfl underlying9 rfl (GO.ps 2 rfl (GO.known (t := 6) rfl (decide_eq_false c1) (GO.off rfl rfl rfl rfl rfl rfl (GO.off rfl rfl rfl rfl rfl rfl (GO.off rfl rfl rfl rfl rfl rfl (GO.ps 2 rfl (GO.off rfl rfl rfl rfl rfl rfl (GO.off rfl rfl rfl rfl rfl rfl (GO.off rfl rfl rfl rfl rfl rfl (GO.ps 2 rfl (GO.nil ?_)))))))))))))
  obtain rfl := Option.some.inj H
  exact G.ret1 _ func135 rfl rfl ⟨rfl, HS⟩
theorem impl_inRange.calls {w0 w : World} {L : List HObj} {x low high : Int} {r1 : Bool} (HS : St w0 w (L)) (H : impl_inRange.f x low high = some r1) :
    Calls prog 136 #[.int .i64 x, .int .i64 low, .int .i64 high] w (impl_inRange.post w0 L r1) := by
  unfold impl_inRange.f at H
  refine Calls.of_G func136 rfl rfl rfl ?_
  refine G.run 3 rfl ?_
  rcases ite_elim H with ⟨c1, H⟩ | ⟨c1, H⟩
  ·
   refine G.region (GO.ps 4 rfl (GO.known (t := 10) rfl (decide_eq_true c1) (GO.on rfl rfl rfl rfl (GO.move rfl rfl rfl (GO.back (GO.on rfl rfl rfl rfl (GO.move rfl rfl rfl (GO.back (GO.on rfl rfl rfl rfl (GO.leq rfl rfl rfl rfl (GO.back (GO.ps 2 rfl (GO.nil ?_)))))))))))))
   obtain rfl := Option.some.inj H
   exact G.ret1 _ func136 rfl rfl ⟨rfl, HS⟩
  refine G.region (GO.ps 4 rfl (GO.known (t := 10) rfl (decide_eq_false c1) (GO.off rfl rfl rfl rfl rfl rfl (GO.off rfl rfl rfl rfl rfl rfl (GO.off rfl rfl rfl rfl rfl rfl (GO.ps 2 rfl (GO.nil ?_)))))))
  obtain rfl := Option.some.inj H
  exact G.ret1 _ func136 rfl rfl ⟨rfl, HS⟩
theorem impl_fields.calls {w0 w : World} {L : List HObj} {e_Name : ByteArray} {e_Kind : Int} {e_Triangulation_Tets : List (List GFace)} {e_Diagram_Crossings : List GCrossing} {e_Diagram_Circles e_Braid_Strands : Int} {e_Braid_Word : List Int} {e_Certificate_Name e_Certificate_Trait : Int} {e_Certificate_Moves : List GMove} {e_Certificate_Tets e_Certificate_Perms : List Int} {A_a : Option Addr} {c_a : Nat} {y_a : Nat → (Ty.slice 140 T_GFace).Lay} {A_b : Option Addr} {c_b : Nat} {A_c : Option Addr} {c_c : Nat} {A_d : Option Addr} {c_d : Nat} {A_e : Option Addr} {c_e : Nat} {A_f : Option Addr} {c_f : Nat} {r1 r2 : Bool} {r3 r4 : Bool} (HS : St w0 w (L)) (r_a : RdIn w0 L (Ty.slice 140 T_GFace) A_a c_a y_a e_Triangulation_Tets) (r_b : RdIn w0 L T_GCrossing A_b c_b (fun _ => ()) e_Diagram_Crossings) (r_c : RdIn w0 L (TInt .i64) A_c c_c (fun _ => ()) e_Braid_Word) (r_d : RdIn w0 L T_GMove A_d c_d (fun _ => ()) e_Certificate_Moves) (r_e : RdIn w0 L (TInt .i64) A_e c_e (fun _ => ()) e_Certificate_Tets) (r_f : RdIn w0 L (TInt .i64) A_f c_f (fun _ => ()) e_Certificate_Perms) (H : impl_fields.f e_Name e_Kind e_Triangulation_Tets e_Diagram_Crossings e_Diagram_Circles e_Braid_Strands e_Braid_Word e_Certificate_Name e_Certificate_Trait e_Certificate_Moves e_Certificate_Tets e_Certificate_Perms = some (r1, r2, r3, r4)) :
    Calls prog 137 #[.agg [.string e_Name, .int .i64 e_Kind, .slice A_a e_Triangulation_Tets.length c_a, .slice A_b e_Diagram_Crossings.length c_b, .int .i64 e_Diagram_Circles, .int .i64 e_Braid_Strands, .slice A_c e_Braid_Word.length c_c, .int .i64 e_Certificate_Name, .int .i64 e_Certificate_Trait, .slice A_d e_Certificate_Moves.length c_d, .slice A_e e_Certificate_Tets.length c_e, .slice A_f e_Certificate_Perms.length c_f].toArray] w (impl_fields.post w0 L r1 r2 r3 r4) := by
  unfold impl_fields.f at H
  refine Calls.of_G func137 rfl rfl rfl ?_
  refine G.seq (G.region (GO.box (cs := [.string e_Name, .int .i64 e_Kind, .slice A_a e_Triangulation_Tets.length c_a, .slice A_b e_Diagram_Crossings.length c_b, .int .i64 e_Diagram_Circles, .int .i64 e_Braid_Strands, .slice A_c e_Braid_Word.length c_c, .int .i64 e_Certificate_Name, .int .i64 e_Certificate_Trait, .slice A_d e_Certificate_Moves.length c_d, .slice A_e e_Certificate_Tets.length c_e, .slice A_f e_Certificate_Perms.length c_f]) HS rfl rfl rfl rfl fun b1 wd2 HS => GO.alloc HS rfl zr164 rfl rfl fun b3 wd4 HS => GO.nil (G.seq (G.region (GO.fld (⟨b1, 7, none⟩) rfl rfl fl48_5 rfl rfl (GO.ldBoxA (j := 1) ([.int .i64 e_Certificate_Name, .int .i64 e_Certificate_Trait, .slice A_d e_Certificate_Moves.length c_d, .slice A_e e_Certificate_Tets.length c_e, .slice A_f e_Certificate_Perms.length c_f]) HS rfl rfl rfl rfl ag46 rfl (GO.alloc HS rfl zr46 rfl rfl fun b5 wd6 HS => GO.stBox (j := 0) (vs := [.int .i64 e_Certificate_Name, .int .i64 e_Certificate_Trait, .slice A_d e_Certificate_Moves.length c_d, .slice A_e e_Certificate_Tets.length c_e, .slice A_f e_Certificate_Perms.length c_f]) ([.int .i64 e_Certificate_Name, .int .i64 e_Certificate_Trait, .slice A_d e_Certificate_Moves.length c_d, .slice A_e e_Certificate_Tets.length c_e, .slice A_f e_Certificate_Perms.length c_f]) HS rfl rfl rfl rfl rfl (htA ag46) rfl rfl rfl fun wd7 HS => GO.nil (G.seq ?_))))))))
  rcases ite_elim H with ⟨c8, H⟩ | ⟨c8, H⟩
  ·
   rcases ite_elim H with ⟨c9, H⟩ | ⟨c9, H⟩
   ·
    rcases ite_elim H with ⟨c10, H⟩ | ⟨c10, H⟩
    ·
     rcases ite_elim H with ⟨c11, H⟩ | ⟨c11, H⟩
     ·
      rcases ite_elim H with ⟨c12, H⟩ | ⟨c12, H⟩
      ·
       refine G.region (GO.fld (⟨b1, 2, none⟩) rfl rfl fl48_2 rfl rfl (GO.fld (⟨b1, 2, none⟩) rfl rfl fl37_0 rfl rfl (GO.ldBox (j := 2) HS rfl rfl rfl rfl na35 rfl (GO.lenS rfl rfl underlying35 rfl (GO.gtr rfl rfl rfl rfl (GO.fld (⟨b1, 3, none⟩) rfl rfl fl48_3 rfl rfl (GO.fld (⟨b1, 3, none⟩) rfl rfl fl40_0 rfl rfl (GO.ldBox (j := 2) HS rfl rfl rfl rfl na38 rfl (GO.lenS rfl rfl underlying38 rfl (GO.ps 2 rfl (GO.known (t := 16) rfl (decide_eq_true c8) (GO.off rfl rfl rfl rfl rfl rfl (GO.off rfl rfl rfl rfl rfl rfl (GO.off rfl rfl rfl rfl rfl rfl ?_))))))))))))))
       refine GO.off rfl rfl rfl rfl rfl rfl (GO.pickT rfl rfl rfl rfl rfl (GO.fld (⟨b1, 5, none⟩) rfl rfl fl48_4 rfl rfl (GO.fld (⟨b1, 5, none⟩) rfl rfl fl43_0 rfl rfl (GO.ldBox (j := 2) HS rfl rfl rfl rfl na2 rfl (GO.ps 2 rfl (GO.known (t := 26) rfl (congrArg Bool.not (decide_eq_true c9)) (GO.on rfl rfl rfl rfl (GO.fld (⟨b1, 5, none⟩) rfl rfl fl48_4 rfl rfl (GO.back (GO.on rfl rfl rfl rfl (GO.fld (⟨b1, 6, none⟩) rfl rfl fl43_1 rfl rfl (GO.back (GO.on rfl rfl rfl rfl (GO.ldBox (j := 2) HS rfl rfl rfl rfl na41 rfl ?_))))))))))))))
       refine GO.back (GO.on rfl rfl rfl rfl (GO.lenS rfl rfl underlying41 rfl (GO.back (GO.on rfl rfl rfl rfl (GO.gtr rfl rfl rfl rfl (GO.back (GO.pickF rfl rfl rfl rfl rfl (GO.fld (⟨b5, 0, none⟩) rfl rfl fl46_0 rfl rfl (GO.ldBox (j := 0) HS rfl rfl rfl rfl na2 rfl (GO.ps 2 rfl (GO.known (t := 36) rfl (congrArg Bool.not (decide_eq_true c10)) (GO.on rfl rfl rfl rfl (GO.fld (⟨b5, 1, none⟩) rfl rfl fl46_1 rfl rfl (GO.back ?_))))))))))))))
       refine GO.on rfl rfl rfl rfl (GO.ldBox (j := 0) HS rfl rfl rfl rfl na2 rfl (GO.back (GO.on rfl rfl rfl rfl (GO.neq rfl rfl rfl rfl (GO.back (GO.ps 2 rfl (GO.known (t := 41) rfl (congrArg Bool.not (decide_eq_true c11)) (GO.on rfl rfl rfl rfl (GO.fld (⟨b5, 2, none⟩) rfl rfl fl46_2 rfl rfl (GO.back (GO.on rfl rfl rfl rfl (GO.ldBox (j := 0) HS rfl rfl rfl rfl na44 rfl (GO.back (GO.on rfl rfl rfl rfl ?_))))))))))))))
       refine GO.lenS rfl rfl underlying44 rfl (GO.back (GO.on rfl rfl rfl rfl (GO.gtr rfl rfl rfl rfl (GO.back (GO.ps 2 rfl (GO.known (t := 47) rfl (decide_eq_true c12) (GO.off rfl rfl rfl rfl rfl rfl (GO.off rfl rfl rfl rfl rfl rfl (GO.off rfl rfl rfl rfl rfl rfl (GO.off rfl rfl rfl rfl rfl rfl (GO.ps 2 rfl (GO.off rfl rfl rfl rfl rfl rfl (GO.off rfl rfl rfl rfl rfl rfl (GO.off rfl rfl rfl rfl rfl rfl ?_))))))))))))))
       refine GO.off rfl rfl rfl rfl rfl rfl (GO.pickT rfl rfl rfl rfl rfl (GO.buildV (.agg [.bool (decide (0 < (e_Triangulation_Tets.length : Int))), .bool true, .bool (decide (0 < (e_Braid_Word.length : Int))), .bool true].toArray) rfl rfl (fun _ => by kernel_rfl) rfl (GO.stBox (j := 1) (vs := [.bool (decide (0 < (e_Triangulation_Tets.length : Int))), .bool true, .bool (decide (0 < (e_Braid_Word.length : Int))), .bool true]) ([.bool (decide (0 < (e_Triangulation_Tets.length : Int))), .bool true, .bool (decide (0 < (e_Braid_Word.length : Int))), .bool true]) HS rfl rfl rfl rfl rfl (htA ag164) rfl rfl rfl fun wd13 HS => GO.nil ?_)))
       obtain ⟨rfl, rfl, rfl, rfl⟩ := some4 H
       exact G.ret1 _ func137 rfl (Res1.boxA (j := 1) (vs := [.bool (decide (0 < (e_Triangulation_Tets.length : Int))), .bool true, .bool (decide (0 < (e_Braid_Word.length : Int))), .bool true]) HS rfl rfl rfl ag164) ⟨rfl, (HS.pk 3 [] rfl)⟩
      rcases ite_elim H with ⟨c14, H⟩ | ⟨c14, H⟩
      ·
       refine G.region (GO.fld (⟨b1, 2, none⟩) rfl rfl fl48_2 rfl rfl (GO.fld (⟨b1, 2, none⟩) rfl rfl fl37_0 rfl rfl (GO.ldBox (j := 2) HS rfl rfl rfl rfl na35 rfl (GO.lenS rfl rfl underlying35 rfl (GO.gtr rfl rfl rfl rfl (GO.fld (⟨b1, 3, none⟩) rfl rfl fl48_3 rfl rfl (GO.fld (⟨b1, 3, none⟩) rfl rfl fl40_0 rfl rfl (GO.ldBox (j := 2) HS rfl rfl rfl rfl na38 rfl (GO.lenS rfl rfl underlying38 rfl (GO.ps 2 rfl (GO.known (t := 16) rfl (decide_eq_true c8) (GO.off rfl rfl rfl rfl rfl rfl (GO.off rfl rfl rfl rfl rfl rfl (GO.off rfl rfl rfl rfl rfl rfl ?_))))))))))))))
       refine GO.off rfl rfl rfl rfl rfl rfl (GO.pickT rfl rfl rfl rfl rfl (GO.fld (⟨b1, 5, none⟩) rfl rfl fl48_4 rfl rfl (GO.fld (⟨b1, 5, none⟩) rfl rfl fl43_0 rfl rfl (GO.ldBox (j := 2) HS rfl rfl rfl rfl na2 rfl (GO.ps 2 rfl (GO.known (t := 26) rfl (congrArg Bool.not (decide_eq_true c9)) (GO.on rfl rfl rfl rfl (GO.fld (⟨b1, 5, none⟩) rfl rfl fl48_4 rfl rfl (GO.back (GO.on rfl rfl rfl rfl (GO.fld (⟨b1, 6, none⟩) rfl rfl fl43_1 rfl rfl (GO.back (GO.on rfl rfl rfl rfl (GO.ldBox (j := 2) HS rfl rfl rfl rfl na41 rfl ?_))))))))))))))
       refine GO.back (GO.on rfl rfl rfl rfl (GO.lenS rfl rfl underlying41 rfl (GO.back (GO.on rfl rfl rfl rfl (GO.gtr rfl rfl rfl rfl (GO.back (GO.pickF rfl rfl rfl rfl rfl (GO.fld (⟨b5, 0, none⟩) rfl rfl fl46_0 rfl rfl (GO.ldBox (j := 0) HS rfl rfl rfl rfl na2 rfl (GO.ps 2 rfl (GO.known (t := 36) rfl (congrArg Bool.not (decide_eq_true c10)) (GO.on rfl rfl rfl rfl (GO.fld (⟨b5, 1, none⟩) rfl rfl fl46_1 rfl rfl (GO.back ?_))))))))))))))
       refine GO.on rfl rfl rfl rfl (GO.ldBox (j := 0) HS rfl rfl rfl rfl na2 rfl (GO.back (GO.on rfl rfl rfl rfl (GO.neq rfl rfl rfl rfl (GO.back (GO.ps 2 rfl (GO.known (t := 41) rfl (congrArg Bool.not (decide_eq_true c11)) (GO.on rfl rfl rfl rfl (GO.fld (⟨b5, 2, none⟩) rfl rfl fl46_2 rfl rfl (GO.back (GO.on rfl rfl rfl rfl (GO.ldBox (j := 0) HS rfl rfl rfl rfl na44 rfl (GO.back (GO.on rfl rfl rfl rfl ?_))))))))))))))
       refine GO.lenS rfl rfl underlying44 rfl (GO.back (GO.on rfl rfl rfl rfl (GO.gtr rfl rfl rfl rfl (GO.back (GO.ps 2 rfl (GO.known (t := 47) rfl (decide_eq_false c12) (GO.on rfl rfl rfl rfl (GO.fld (⟨b5, 3, none⟩) rfl rfl fl46_3 rfl rfl (GO.back (GO.on rfl rfl rfl rfl (GO.ldBox (j := 0) HS rfl rfl rfl rfl na41 rfl (GO.back (GO.on rfl rfl rfl rfl (GO.lenS rfl rfl underlying41 rfl ?_))))))))))))))
       refine GO.back (GO.on rfl rfl rfl rfl (GO.gtr rfl rfl rfl rfl (GO.back (GO.ps 2 rfl (GO.known (t := 53) rfl (decide_eq_true c14) (GO.off rfl rfl rfl rfl rfl rfl (GO.off rfl rfl rfl rfl rfl rfl (GO.off rfl rfl rfl rfl rfl rfl (GO.off rfl rfl rfl rfl rfl rfl (GO.pickT rfl rfl rfl rfl rfl (GO.buildV (.agg [.bool (decide (0 < (e_Triangulation_Tets.length : Int))), .bool true, .bool (decide (0 < (e_Braid_Word.length : Int))), .bool true].toArray) rfl rfl (fun _ => by kernel_rfl) rfl (GO.stBox (j := 1) (vs := [.bool (decide (0 < (e_Triangulation_Tets.length : Int))), .bool true, .bool (decide (0 < (e_Braid_Word.length : Int))), .bool true]) ([.bool (decide (0 < (e_Triangulation_Tets.length : Int))), .bool true, .bool (decide (0 < (e_Braid_Word.length : Int))), .bool true]) HS rfl rfl rfl rfl rfl (htA ag164) rfl rfl rfl fun wd15 HS => GO.nil ?_))))))))))))
       obtain ⟨rfl, rfl, rfl, rfl⟩ := some4 H
       exact G.ret1 _ func137 rfl (Res1.boxA (j := 1) (vs := [.bool (decide (0 < (e_Triangulation_Tets.length : Int))), .bool true, .bool (decide (0 < (e_Braid_Word.length : Int))), .bool true]) HS rfl rfl rfl ag164) ⟨rfl, (HS.pk 3 [] rfl)⟩
      refine G.region (GO.fld (⟨b1, 2, none⟩) rfl rfl fl48_2 rfl rfl (GO.fld (⟨b1, 2, none⟩) rfl rfl fl37_0 rfl rfl (GO.ldBox (j := 2) HS rfl rfl rfl rfl na35 rfl (GO.lenS rfl rfl underlying35 rfl (GO.gtr rfl rfl rfl rfl (GO.fld (⟨b1, 3, none⟩) rfl rfl fl48_3 rfl rfl (GO.fld (⟨b1, 3, none⟩) rfl rfl fl40_0 rfl rfl (GO.ldBox (j := 2) HS rfl rfl rfl rfl na38 rfl (GO.lenS rfl rfl underlying38 rfl (GO.ps 2 rfl (GO.known (t := 16) rfl (decide_eq_true c8) (GO.off rfl rfl rfl rfl rfl rfl (GO.off rfl rfl rfl rfl rfl rfl (GO.off rfl rfl rfl rfl rfl rfl ?_))))))))))))))
      refine GO.off rfl rfl rfl rfl rfl rfl (GO.pickT rfl rfl rfl rfl rfl (GO.fld (⟨b1, 5, none⟩) rfl rfl fl48_4 rfl rfl (GO.fld (⟨b1, 5, none⟩) rfl rfl fl43_0 rfl rfl (GO.ldBox (j := 2) HS rfl rfl rfl rfl na2 rfl (GO.ps 2 rfl (GO.known (t := 26) rfl (congrArg Bool.not (decide_eq_true c9)) (GO.on rfl rfl rfl rfl (GO.fld (⟨b1, 5, none⟩) rfl rfl fl48_4 rfl rfl (GO.back (GO.on rfl rfl rfl rfl (GO.fld (⟨b1, 6, none⟩) rfl rfl fl43_1 rfl rfl (GO.back (GO.on rfl rfl rfl rfl (GO.ldBox (j := 2) HS rfl rfl rfl rfl na41 rfl ?_))))))))))))))
      refine GO.back (GO.on rfl rfl rfl rfl (GO.lenS rfl rfl underlying41 rfl (GO.back (GO.on rfl rfl rfl rfl (GO.gtr rfl rfl rfl rfl (GO.back (GO.pickF rfl rfl rfl rfl rfl (GO.fld (⟨b5, 0, none⟩) rfl rfl fl46_0 rfl rfl (GO.ldBox (j := 0) HS rfl rfl rfl rfl na2 rfl (GO.ps 2 rfl (GO.known (t := 36) rfl (congrArg Bool.not (decide_eq_true c10)) (GO.on rfl rfl rfl rfl (GO.fld (⟨b5, 1, none⟩) rfl rfl fl46_1 rfl rfl (GO.back ?_))))))))))))))
      refine GO.on rfl rfl rfl rfl (GO.ldBox (j := 0) HS rfl rfl rfl rfl na2 rfl (GO.back (GO.on rfl rfl rfl rfl (GO.neq rfl rfl rfl rfl (GO.back (GO.ps 2 rfl (GO.known (t := 41) rfl (congrArg Bool.not (decide_eq_true c11)) (GO.on rfl rfl rfl rfl (GO.fld (⟨b5, 2, none⟩) rfl rfl fl46_2 rfl rfl (GO.back (GO.on rfl rfl rfl rfl (GO.ldBox (j := 0) HS rfl rfl rfl rfl na44 rfl (GO.back (GO.on rfl rfl rfl rfl ?_))))))))))))))
      refine GO.lenS rfl rfl underlying44 rfl (GO.back (GO.on rfl rfl rfl rfl (GO.gtr rfl rfl rfl rfl (GO.back (GO.ps 2 rfl (GO.known (t := 47) rfl (decide_eq_false c12) (GO.on rfl rfl rfl rfl (GO.fld (⟨b5, 3, none⟩) rfl rfl fl46_3 rfl rfl (GO.back (GO.on rfl rfl rfl rfl (GO.ldBox (j := 0) HS rfl rfl rfl rfl na41 rfl (GO.back (GO.on rfl rfl rfl rfl (GO.lenS rfl rfl underlying41 rfl ?_))))))))))))))
      refine GO.back (GO.on rfl rfl rfl rfl (GO.gtr rfl rfl rfl rfl (GO.back (GO.ps 2 rfl (GO.known (t := 53) rfl (decide_eq_false c14) (GO.on rfl rfl rfl rfl (GO.fld (⟨b5, 4, none⟩) rfl rfl fl46_4 rfl rfl (GO.back (GO.on rfl rfl rfl rfl (GO.ldBox (j := 0) HS rfl rfl rfl rfl na41 rfl (GO.back (GO.on rfl rfl rfl rfl (GO.lenS rfl rfl underlying41 rfl (GO.back ?_))))))))))))))
      refine GO.on rfl rfl rfl rfl (GO.gtr rfl rfl rfl rfl (GO.back (GO.pickF rfl rfl rfl rfl rfl (GO.buildV (.agg [.bool (decide (0 < (e_Triangulation_Tets.length : Int))), .bool true, .bool (decide (0 < (e_Braid_Word.length : Int))), .bool (decide (0 < (e_Certificate_Perms.length : Int)))].toArray) rfl rfl (fun _ => by kernel_rfl) rfl (GO.stBox (j := 1) (vs := [.bool (decide (0 < (e_Triangulation_Tets.length : Int))), .bool true, .bool (decide (0 < (e_Braid_Word.length : Int))), .bool (decide (0 < (e_Certificate_Perms.length : Int)))]) ([.bool (decide (0 < (e_Triangulation_Tets.length : Int))), .bool true, .bool (decide (0 < (e_Braid_Word.length : Int))), .bool (decide (0 < (e_Certificate_Perms.length : Int)))]) HS rfl rfl rfl rfl rfl (htA ag164) rfl rfl rfl fun wd16 HS => GO.nil ?_)))))
      obtain ⟨rfl, rfl, rfl, rfl⟩ := some4 H
      exact G.ret1 _ func137 rfl (Res1.boxA (j := 1) (vs := [.bool (decide (0 < (e_Triangulation_Tets.length : Int))), .bool true, .bool (decide (0 < (e_Braid_Word.length : Int))), .bool (decide (0 < (e_Certificate_Perms.length : Int)))]) HS rfl rfl rfl ag164) ⟨rfl, (HS.pk 3 [] rfl)⟩
     refine G.region (GO.fld (⟨b1, 2, none⟩) rfl rfl fl48_2 rfl rfl (GO.fld (⟨b1, 2, none⟩) rfl rfl fl37_0 rfl rfl (GO.ldBox (j := 2) HS rfl rfl rfl rfl na35 rfl (GO.lenS rfl rfl underlying35 rfl (GO.gtr rfl rfl rfl rfl (GO.fld (⟨b1, 3, none⟩) rfl rfl fl48_3 rfl rfl (GO.fld (⟨b1, 3, none⟩) rfl rfl fl40_0 rfl rfl (GO.ldBox (j := 2) HS rfl rfl rfl rfl na38 rfl (GO.lenS rfl rfl underlying38 rfl (GO.ps 2 rfl (GO.known (t := 16) rfl (decide_eq_true c8) (GO.off rfl rfl rfl rfl rfl rfl (GO.off rfl rfl rfl rfl rfl rfl (GO.off rfl rfl rfl rfl rfl rfl ?_))))))))))))))
     refine GO.off rfl rfl rfl rfl rfl rfl (GO.pickT rfl rfl rfl rfl rfl (GO.fld (⟨b1, 5, none⟩) rfl rfl fl48_4 rfl rfl (GO.fld (⟨b1, 5, none⟩) rfl rfl fl43_0 rfl rfl (GO.ldBox (j := 2) HS rfl rfl rfl rfl na2 rfl (GO.ps 2 rfl (GO.known (t := 26) rfl (congrArg Bool.not (decide_eq_true c9)) (GO.on rfl rfl rfl rfl (GO.fld (⟨b1, 5, none⟩) rfl rfl fl48_4 rfl rfl (GO.back (GO.on rfl rfl rfl rfl (GO.fld (⟨b1, 6, none⟩) rfl rfl fl43_1 rfl rfl (GO.back (GO.on rfl rfl rfl rfl (GO.ldBox (j := 2) HS rfl rfl rfl rfl na41 rfl ?_))))))))))))))
     refine GO.back (GO.on rfl rfl rfl rfl (GO.lenS rfl rfl underlying41 rfl (GO.back (GO.on rfl rfl rfl rfl (GO.gtr rfl rfl rfl rfl (GO.back (GO.pickF rfl rfl rfl rfl rfl (GO.fld (⟨b5, 0, none⟩) rfl rfl fl46_0 rfl rfl (GO.ldBox (j := 0) HS rfl rfl rfl rfl na2 rfl (GO.ps 2 rfl (GO.known (t := 36) rfl (congrArg Bool.not (decide_eq_true c10)) (GO.on rfl rfl rfl rfl (GO.fld (⟨b5, 1, none⟩) rfl rfl fl46_1 rfl rfl (GO.back ?_))))))))))))))
     refine GO.on rfl rfl rfl rfl (GO.ldBox (j := 0) HS rfl rfl rfl rfl na2 rfl (GO.back (GO.on rfl rfl rfl rfl (GO.neq rfl rfl rfl rfl (GO.back (GO.ps 2 rfl (GO.known (t := 41) rfl (congrArg Bool.not (decide_eq_false c11)) (GO.off rfl rfl rfl rfl rfl rfl (GO.off rfl rfl rfl rfl rfl rfl (GO.off rfl rfl rfl rfl rfl rfl (GO.off rfl rfl rfl rfl rfl rfl (GO.ps 2 rfl (GO.off rfl rfl rfl rfl rfl rfl (GO.off rfl rfl rfl rfl rfl rfl ?_))))))))))))))
     refine GO.off rfl rfl rfl rfl rfl rfl (GO.off rfl rfl rfl rfl rfl rfl (GO.ps 2 rfl (GO.off rfl rfl rfl rfl rfl rfl (GO.off rfl rfl rfl rfl rfl rfl (GO.off rfl rfl rfl rfl rfl rfl (GO.off rfl rfl rfl rfl rfl rfl (GO.pickT rfl rfl rfl rfl rfl (GO.buildV (.agg [.bool (decide (0 < (e_Triangulation_Tets.length : Int))), .bool true, .bool (decide (0 < (e_Braid_Word.length : Int))), .bool true].toArray) rfl rfl (fun _ => by kernel_rfl) rfl (GO.stBox (j := 1) (vs := [.bool (decide (0 < (e_Triangulation_Tets.length : Int))), .bool true, .bool (decide (0 < (e_Braid_Word.length : Int))), .bool true]) ([.bool (decide (0 < (e_Triangulation_Tets.length : Int))), .bool true, .bool (decide (0 < (e_Braid_Word.length : Int))), .bool true]) HS rfl rfl rfl rfl rfl (htA ag164) rfl rfl rfl fun wd17 HS => GO.nil ?_)))))))))
     obtain ⟨rfl, rfl, rfl, rfl⟩ := some4 H
     exact G.ret1 _ func137 rfl (Res1.boxA (j := 1) (vs := [.bool (decide (0 < (e_Triangulation_Tets.length : Int))), .bool true, .bool (decide (0 < (e_Braid_Word.length : Int))), .bool true]) HS rfl rfl rfl ag164) ⟨rfl, (HS.pk 3 [] rfl)⟩
    refine G.region (GO.fld (⟨b1, 2, none⟩) rfl rfl fl48_2 rfl rfl (GO.fld (⟨b1, 2, none⟩) rfl rfl fl37_0 rfl rfl (GO.ldBox (j := 2) HS rfl rfl rfl rfl na35 rfl (GO.lenS rfl rfl underlying35 rfl (GO.gtr rfl rfl rfl rfl (GO.fld (⟨b1, 3, none⟩) rfl rfl fl48_3 rfl rfl (GO.fld (⟨b1, 3, none⟩) rfl rfl fl40_0 rfl rfl (GO.ldBox (j := 2) HS rfl rfl rfl rfl na38 rfl (GO.lenS rfl rfl underlying38 rfl (GO.ps 2 rfl (GO.known (t := 16) rfl (decide_eq_true c8) (GO.off rfl rfl rfl rfl rfl rfl (GO.off rfl rfl rfl rfl rfl rfl (GO.off rfl rfl rfl rfl rfl rfl ?_))))))))))))))
    refine GO.off rfl rfl rfl rfl rfl rfl (GO.pickT rfl rfl rfl rfl rfl (GO.fld (⟨b1, 5, none⟩) rfl rfl fl48_4 rfl rfl (GO.fld (⟨b1, 5, none⟩) rfl rfl fl43_0 rfl rfl (GO.ldBox (j := 2) HS rfl rfl rfl rfl na2 rfl (GO.ps 2 rfl (GO.known (t := 26) rfl (congrArg Bool.not (decide_eq_true c9)) (GO.on rfl rfl rfl rfl (GO.fld (⟨b1, 5, none⟩) rfl rfl fl48_4 rfl rfl (GO.back (GO.on rfl rfl rfl rfl (GO.fld (⟨b1, 6, none⟩) rfl rfl fl43_1 rfl rfl (GO.back (GO.on rfl rfl rfl rfl (GO.ldBox (j := 2) HS rfl rfl rfl rfl na41 rfl ?_))))))))))))))
    refine GO.back (GO.on rfl rfl rfl rfl (GO.lenS rfl rfl underlying41 rfl (GO.back (GO.on rfl rfl rfl rfl (GO.gtr rfl rfl rfl rfl (GO.back (GO.pickF rfl rfl rfl rfl rfl (GO.fld (⟨b5, 0, none⟩) rfl rfl fl46_0 rfl rfl (GO.ldBox (j := 0) HS rfl rfl rfl rfl na2 rfl (GO.ps 2 rfl (GO.known (t := 36) rfl (congrArg Bool.not (decide_eq_false c10)) (GO.off rfl rfl rfl rfl rfl rfl (GO.off rfl rfl rfl rfl rfl rfl (GO.off rfl rfl rfl rfl rfl rfl ?_))))))))))))))
    refine GO.ps 2 rfl (GO.off rfl rfl rfl rfl rfl rfl (GO.off rfl rfl rfl rfl rfl rfl (GO.off rfl rfl rfl rfl rfl rfl (GO.off rfl rfl rfl rfl rfl rfl (GO.ps 2 rfl (GO.off rfl rfl rfl rfl rfl rfl (GO.off rfl rfl rfl rfl rfl rfl (GO.off rfl rfl rfl rfl rfl rfl (GO.off rfl rfl rfl rfl rfl rfl (GO.ps 2 rfl (GO.off rfl rfl rfl rfl rfl rfl (GO.off rfl rfl rfl rfl rfl rfl (GO.off rfl rfl rfl rfl rfl rfl (GO.off rfl rfl rfl rfl rfl rfl ?_))))))))))))))
    refine GO.pickT rfl rfl rfl rfl rfl (GO.buildV (.agg [.bool (decide (0 < (e_Triangulation_Tets.length : Int))), .bool true, .bool (decide (0 < (e_Braid_Word.length : Int))), .bool true].toArray) rfl rfl (fun _ => by kernel_rfl) rfl (GO.stBox (j := 1) (vs := [.bool (decide (0 < (e_Triangulation_Tets.length : Int))), .bool true, .bool (decide (0 < (e_Braid_Word.length : Int))), .bool true]) ([.bool (decide (0 < (e_Triangulation_Tets.length : Int))), .bool true, .bool (decide (0 < (e_Braid_Word.length : Int))), .bool true]) HS rfl rfl rfl rfl rfl (htA ag164) rfl rfl rfl fun wd18 HS => GO.nil ?_))
    obtain ⟨rfl, rfl, rfl, rfl⟩ := some4 H
    exact G.ret1 _ func137 rfl (Res1.boxA (j := 1) (vs := [.bool (decide (0 < (e_Triangulation_Tets.length : Int))), .bool true, .bool (decide (0 < (e_Braid_Word.length : Int))), .bool true]) HS rfl rfl rfl ag164) ⟨rfl, (HS.pk 3 [] rfl)⟩
   rcases ite_elim H with ⟨c19, H⟩ | ⟨c19, H⟩
   ·
    rcases ite_elim H with ⟨c20, H⟩ | ⟨c20, H⟩
    ·
     rcases ite_elim H with ⟨c21, H⟩ | ⟨c21, H⟩
     ·
      refine G.region (GO.fld (⟨b1, 2, none⟩) rfl rfl fl48_2 rfl rfl (GO.fld (⟨b1, 2, none⟩) rfl rfl fl37_0 rfl rfl (GO.ldBox (j := 2) HS rfl rfl rfl rfl na35 rfl (GO.lenS rfl rfl underlying35 rfl (GO.gtr rfl rfl rfl rfl (GO.fld (⟨b1, 3, none⟩) rfl rfl fl48_3 rfl rfl (GO.fld (⟨b1, 3, none⟩) rfl rfl fl40_0 rfl rfl (GO.ldBox (j := 2) HS rfl rfl rfl rfl na38 rfl (GO.lenS rfl rfl underlying38 rfl (GO.ps 2 rfl (GO.known (t := 16) rfl (decide_eq_true c8) (GO.off rfl rfl rfl rfl rfl rfl (GO.off rfl rfl rfl rfl rfl rfl (GO.off rfl rfl rfl rfl rfl rfl ?_))))))))))))))
      refine GO.off rfl rfl rfl rfl rfl rfl (GO.pickT rfl rfl rfl rfl rfl (GO.fld (⟨b1, 5, none⟩) rfl rfl fl48_4 rfl rfl (GO.fld (⟨b1, 5, none⟩) rfl rfl fl43_0 rfl rfl (GO.ldBox (j := 2) HS rfl rfl rfl rfl na2 rfl (GO.ps 2 rfl (GO.known (t := 26) rfl (congrArg Bool.not (decide_eq_false c9)) (GO.off rfl rfl rfl rfl rfl rfl (GO.off rfl rfl rfl rfl rfl rfl (GO.off rfl rfl rfl rfl rfl rfl (GO.off rfl rfl rfl rfl rfl rfl (GO.off rfl rfl rfl rfl rfl rfl (GO.pickT rfl rfl rfl rfl rfl (GO.fld (⟨b5, 0, none⟩) rfl rfl fl46_0 rfl rfl (GO.ldBox (j := 0) HS rfl rfl rfl rfl na2 rfl ?_))))))))))))))
      refine GO.ps 2 rfl (GO.known (t := 36) rfl (congrArg Bool.not (decide_eq_true c19)) (GO.on rfl rfl rfl rfl (GO.fld (⟨b5, 1, none⟩) rfl rfl fl46_1 rfl rfl (GO.back (GO.on rfl rfl rfl rfl (GO.ldBox (j := 0) HS rfl rfl rfl rfl na2 rfl (GO.back (GO.on rfl rfl rfl rfl (GO.neq rfl rfl rfl rfl (GO.back (GO.ps 2 rfl (GO.known (t := 41) rfl (congrArg Bool.not (decide_eq_true c20)) (GO.on rfl rfl rfl rfl (GO.fld (⟨b5, 2, none⟩) rfl rfl fl46_2 rfl rfl ?_))))))))))))))
      refine GO.back (GO.on rfl rfl rfl rfl (GO.ldBox (j := 0) HS rfl rfl rfl rfl na44 rfl (GO.back (GO.on rfl rfl rfl rfl (GO.lenS rfl rfl underlying44 rfl (GO.back (GO.on rfl rfl rfl rfl (GO.gtr rfl rfl rfl rfl (GO.back (GO.ps 2 rfl (GO.known (t := 47) rfl (decide_eq_true c21) (GO.off rfl rfl rfl rfl rfl rfl (GO.off rfl rfl rfl rfl rfl rfl (GO.off rfl rfl rfl rfl rfl rfl ?_))))))))))))))
      refine GO.off rfl rfl rfl rfl rfl rfl (GO.ps 2 rfl (GO.off rfl rfl rfl rfl rfl rfl (GO.off rfl rfl rfl rfl rfl rfl (GO.off rfl rfl rfl rfl rfl rfl (GO.off rfl rfl rfl rfl rfl rfl (GO.pickT rfl rfl rfl rfl rfl (GO.buildV (.agg [.bool (decide (0 < (e_Triangulation_Tets.length : Int))), .bool true, .bool true, .bool true].toArray) rfl rfl (fun _ => by kernel_rfl) rfl (GO.stBox (j := 1) (vs := [.bool (decide (0 < (e_Triangulation_Tets.length : Int))), .bool true, .bool true, .bool true]) ([.bool (decide (0 < (e_Triangulation_Tets.length : Int))), .bool true, .bool true, .bool true]) HS rfl rfl rfl rfl rfl (htA ag164) rfl rfl rfl fun wd22 HS => GO.nil ?_))))))))
      obtain ⟨rfl, rfl, rfl, rfl⟩ := some4 H
      exact G.ret1 _ func137 rfl (Res1.boxA (j := 1) (vs := [.bool (decide (0 < (e_Triangulation_Tets.length : Int))), .bool true, .bool true, .bool true]) HS rfl rfl rfl ag164) ⟨rfl, (HS.pk 3 [] rfl)⟩
     rcases ite_elim H with ⟨c23, H⟩ | ⟨c23, H⟩
     ·
      refine G.region (GO.fld (⟨b1, 2, none⟩) rfl rfl fl48_2 rfl rfl (GO.fld (⟨b1, 2, none⟩) rfl rfl fl37_0 rfl rfl (GO.ldBox (j := 2) HS rfl rfl rfl rfl na35 rfl (GO.lenS rfl rfl underlying35 rfl (GO.gtr rfl rfl rfl rfl (GO.fld (⟨b1, 3, none⟩) rfl rfl fl48_3 rfl rfl (GO.fld (⟨b1, 3, none⟩) rfl rfl fl40_0 rfl rfl (GO.ldBox (j := 2) HS rfl rfl rfl rfl na38 rfl (GO.lenS rfl rfl underlying38 rfl (GO.ps 2 rfl (GO.known (t := 16) rfl (decide_eq_true c8) (GO.off rfl rfl rfl rfl rfl rfl (GO.off rfl rfl rfl rfl rfl rfl (GO.off rfl rfl rfl rfl rfl rfl ?_))))))))))))))
      refine GO.off rfl rfl rfl rfl rfl rfl (GO.pickT rfl rfl rfl rfl rfl (GO.fld (⟨b1, 5, none⟩) rfl rfl fl48_4 rfl rfl (GO.fld (⟨b1, 5, none⟩) rfl rfl fl43_0 rfl rfl (GO.ldBox (j := 2) HS rfl rfl rfl rfl na2 rfl (GO.ps 2 rfl (GO.known (t := 26) rfl (congrArg Bool.not (decide_eq_false c9)) (GO.off rfl rfl rfl rfl rfl rfl (GO.off rfl rfl rfl rfl rfl rfl (GO.off rfl rfl rfl rfl rfl rfl (GO.off rfl rfl rfl rfl rfl rfl (GO.off rfl rfl rfl rfl rfl rfl (GO.pickT rfl rfl rfl rfl rfl (GO.fld (⟨b5, 0, none⟩) rfl rfl fl46_0 rfl rfl (GO.ldBox (j := 0) HS rfl rfl rfl rfl na2 rfl ?_))))))))))))))
      refine GO.ps 2 rfl (GO.known (t := 36) rfl (congrArg Bool.not (decide_eq_true c19)) (GO.on rfl rfl rfl rfl (GO.fld (⟨b5, 1, none⟩) rfl rfl fl46_1 rfl rfl (GO.back (GO.on rfl rfl rfl rfl (GO.ldBox (j := 0) HS rfl rfl rfl rfl na2 rfl (GO.back (GO.on rfl rfl rfl rfl (GO.neq rfl rfl rfl rfl (GO.back (GO.ps 2 rfl (GO.known (t := 41) rfl (congrArg Bool.not (decide_eq_true c20)) (GO.on rfl rfl rfl rfl (GO.fld (⟨b5, 2, none⟩) rfl rfl fl46_2 rfl rfl ?_))))))))))))))
      refine GO.back (GO.on rfl rfl rfl rfl (GO.ldBox (j := 0) HS rfl rfl rfl rfl na44 rfl (GO.back (GO.on rfl rfl rfl rfl (GO.lenS rfl rfl underlying44 rfl (GO.back (GO.on rfl rfl rfl rfl (GO.gtr rfl rfl rfl rfl (GO.back (GO.ps 2 rfl (GO.known (t := 47) rfl (decide_eq_false c21) (GO.on rfl rfl rfl rfl (GO.fld (⟨b5, 3, none⟩) rfl rfl fl46_3 rfl rfl (GO.back ?_))))))))))))))
      refine GO.on rfl rfl rfl rfl (GO.ldBox (j := 0) HS rfl rfl rfl rfl na41 rfl (GO.back (GO.on rfl rfl rfl rfl (GO.lenS rfl rfl underlying41 rfl (GO.back (GO.on rfl rfl rfl rfl (GO.gtr rfl rfl rfl rfl (GO.back (GO.ps 2 rfl (GO.known (t := 53) rfl (decide_eq_true c23) (GO.off rfl rfl rfl rfl rfl rfl (GO.off rfl rfl rfl rfl rfl rfl (GO.off rfl rfl rfl rfl rfl rfl (GO.off rfl rfl rfl rfl rfl rfl ?_))))))))))))))
      refine GO.pickT rfl rfl rfl rfl rfl (GO.buildV (.agg [.bool (decide (0 < (e_Triangulation_Tets.length : Int))), .bool true, .bool true, .bool true].toArray) rfl rfl (fun _ => by kernel_rfl) rfl (GO.stBox (j := 1) (vs := [.bool (decide (0 < (e_Triangulation_Tets.length : Int))), .bool true, .bool true, .bool true]) ([.bool (decide (0 < (e_Triangulation_Tets.length : Int))), .bool true, .bool true, .bool true]) HS rfl rfl rfl rfl rfl (htA ag164) rfl rfl rfl fun wd24 HS => GO.nil ?_))
      obtain ⟨rfl, rfl, rfl, rfl⟩ := some4 H
      exact G.ret1 _ func137 rfl (Res1.boxA (j := 1) (vs := [.bool (decide (0 < (e_Triangulation_Tets.length : Int))), .bool true, .bool true, .bool true]) HS rfl rfl rfl ag164) ⟨rfl, (HS.pk 3 [] rfl)⟩
     refine G.region (GO.fld (⟨b1, 2, none⟩) rfl rfl fl48_2 rfl rfl (GO.fld (⟨b1, 2, none⟩) rfl rfl fl37_0 rfl rfl (GO.ldBox (j := 2) HS rfl rfl rfl rfl na35 rfl (GO.lenS rfl rfl underlying35 rfl (GO.gtr rfl rfl rfl rfl (GO.fld (⟨b1, 3, none⟩) rfl rfl fl48_3 rfl rfl (GO.fld (⟨b1, 3, none⟩) rfl rfl fl40_0 rfl rfl (GO.ldBox (j := 2) HS rfl rfl rfl rfl na38 rfl (GO.lenS rfl rfl underlying38 rfl (GO.ps 2 rfl (GO.known (t := 16) rfl (decide_eq_true c8) (GO.off rfl rfl rfl rfl rfl rfl (GO.off rfl rfl rfl rfl rfl rfl (GO.off rfl rfl rfl rfl rfl rfl ?_))))))))))))))
     refine GO.off rfl rfl rfl rfl rfl rfl (GO.pickT rfl rfl rfl rfl rfl (GO.fld (⟨b1, 5, none⟩) rfl rfl fl48_4 rfl rfl (GO.fld (⟨b1, 5, none⟩) rfl rfl fl43_0 rfl rfl (GO.ldBox (j := 2) HS rfl rfl rfl rfl na2 rfl (GO.ps 2 rfl (GO.known (t := 26) rfl (congrArg Bool.not (decide_eq_false c9)) (GO.off rfl rfl rfl rfl rfl rfl (GO.off rfl rfl rfl rfl rfl rfl (GO.off rfl rfl rfl rfl rfl rfl (GO.off rfl rfl rfl rfl rfl rfl (GO.off rfl rfl rfl rfl rfl rfl (GO.pickT rfl rfl rfl rfl rfl (GO.fld (⟨b5, 0, none⟩) rfl rfl fl46_0 rfl rfl (GO.ldBox (j := 0) HS rfl rfl rfl rfl na2 rfl ?_))))))))))))))
     refine GO.ps 2 rfl (GO.known (t := 36) rfl (congrArg Bool.not (decide_eq_true c19)) (GO.on rfl rfl rfl rfl (GO.fld (⟨b5, 1, none⟩) rfl rfl fl46_1 rfl rfl (GO.back (GO.on rfl rfl rfl rfl (GO.ldBox (j := 0) HS rfl rfl rfl rfl na2 rfl (GO.back (GO.on rfl rfl rfl rfl (GO.neq rfl rfl rfl rfl (GO.back (GO.ps 2 rfl (GO.known (t := 41) rfl (congrArg Bool.not (decide_eq_true c20)) (GO.on rfl rfl rfl rfl (GO.fld (⟨b5, 2, none⟩) rfl rfl fl46_2 rfl rfl ?_))))))))))))))
     refine GO.back (GO.on rfl rfl rfl rfl (GO.ldBox (j := 0) HS rfl rfl rfl rfl na44 rfl (GO.back (GO.on rfl rfl rfl rfl (GO.lenS rfl rfl underlying44 rfl (GO.back (GO.on rfl rfl rfl rfl (GO.gtr rfl rfl rfl rfl (GO.back (GO.ps 2 rfl (GO.known (t := 47) rfl (decide_eq_false c21) (GO.on rfl rfl rfl rfl (GO.fld (⟨b5, 3, none⟩) rfl rfl fl46_3 rfl rfl (GO.back ?_))))))))))))))
     refine GO.on rfl rfl rfl rfl (GO.ldBox (j := 0) HS rfl rfl rfl rfl na41 rfl (GO.back (GO.on rfl rfl rfl rfl (GO.lenS rfl rfl underlying41 rfl (GO.back (GO.on rfl rfl rfl rfl (GO.gtr rfl rfl rfl rfl (GO.back (GO.ps 2 rfl (GO.known (t := 53) rfl (decide_eq_false c23) (GO.on rfl rfl rfl rfl (GO.fld (⟨b5, 4, none⟩) rfl rfl fl46_4 rfl rfl (GO.back (GO.on rfl rfl rfl rfl ?_))))))))))))))
     refine GO.ldBox (j := 0) HS rfl rfl rfl rfl na41 rfl (GO.back (GO.on rfl rfl rfl rfl (GO.lenS rfl rfl underlying41 rfl (GO.back (GO.on rfl rfl rfl rfl (GO.gtr rfl rfl rfl rfl (GO.back (GO.pickF rfl rfl rfl rfl rfl (GO.buildV (.agg [.bool (decide (0 < (e_Triangulation_Tets.length : Int))), .bool true, .bool true, .bool (decide (0 < (e_Certificate_Perms.length : Int)))].toArray) rfl rfl (fun _ => by kernel_rfl) rfl (GO.stBox (j := 1) (vs := [.bool (decide (0 < (e_Triangulation_Tets.length : Int))), .bool true, .bool true, .bool (decide (0 < (e_Certificate_Perms.length : Int)))]) ([.bool (decide (0 < (e_Triangulation_Tets.length : Int))), .bool true, .bool true, .bool (decide (0 < (e_Certificate_Perms.length : Int)))]) HS rfl rfl rfl rfl rfl (htA ag164) rfl rfl rfl fun wd25 HS => GO.nil ?_))))))))))
     obtain ⟨rfl, rfl, rfl, rfl⟩ := some4 H
     exact G.ret1 _ func137 rfl (Res1.boxA (j := 1) (vs := [.bool (decide (0 < (e_Triangulation_Tets.length : Int))), .bool true, .bool true, .bool (decide (0 < (e_Certificate_Perms.length : Int)))]) HS rfl rfl rfl ag164) ⟨rfl, (HS.pk 3 [] rfl)⟩
    refine G.region (GO.fld (⟨b1, 2, none⟩) rfl rfl fl48_2 rfl rfl (GO.fld (⟨b1, 2, none⟩) rfl rfl fl37_0 rfl rfl (GO.ldBox (j := 2) HS rfl rfl rfl rfl na35 rfl (GO.lenS rfl rfl underlying35 rfl (GO.gtr rfl rfl rfl rfl (GO.fld (⟨b1, 3, none⟩) rfl rfl fl48_3 rfl rfl (GO.fld (⟨b1, 3, none⟩) rfl rfl fl40_0 rfl rfl (GO.ldBox (j := 2) HS rfl rfl rfl rfl na38 rfl (GO.lenS rfl rfl underlying38 rfl (GO.ps 2 rfl (GO.known (t := 16) rfl (decide_eq_true c8) (GO.off rfl rfl rfl rfl rfl rfl (GO.off rfl rfl rfl rfl rfl rfl (GO.off rfl rfl rfl rfl rfl rfl ?_))))))))))))))
    refine GO.off rfl rfl rfl rfl rfl rfl (GO.pickT rfl rfl rfl rfl rfl (GO.fld (⟨b1, 5, none⟩) rfl rfl fl48_4 rfl rfl (GO.fld (⟨b1, 5, none⟩) rfl rfl fl43_0 rfl rfl (GO.ldBox (j := 2) HS rfl rfl rfl rfl na2 rfl (GO.ps 2 rfl (GO.known (t := 26) rfl (congrArg Bool.not (decide_eq_false c9)) (GO.off rfl rfl rfl rfl rfl rfl (GO.off rfl rfl rfl rfl rfl rfl (GO.off rfl rfl rfl rfl rfl rfl (GO.off rfl rfl rfl rfl rfl rfl (GO.off rfl rfl rfl rfl rfl rfl (GO.pickT rfl rfl rfl rfl rfl (GO.fld (⟨b5, 0, none⟩) rfl rfl fl46_0 rfl rfl (GO.ldBox (j := 0) HS rfl rfl rfl rfl na2 rfl ?_))))))))))))))
    refine GO.ps 2 rfl (GO.known (t := 36) rfl (congrArg Bool.not (decide_eq_true c19)) (GO.on rfl rfl rfl rfl (GO.fld (⟨b5, 1, none⟩) rfl rfl fl46_1 rfl rfl (GO.back (GO.on rfl rfl rfl rfl (GO.ldBox (j := 0) HS rfl rfl rfl rfl na2 rfl (GO.back (GO.on rfl rfl rfl rfl (GO.neq rfl rfl rfl rfl (GO.back (GO.ps 2 rfl (GO.known (t := 41) rfl (congrArg Bool.not (decide_eq_false c20)) (GO.off rfl rfl rfl rfl rfl rfl (GO.off rfl rfl rfl rfl rfl rfl ?_))))))))))))))
    refine GO.off rfl rfl rfl rfl rfl rfl (GO.off rfl rfl rfl rfl rfl rfl (GO.ps 2 rfl (GO.off rfl rfl rfl rfl rfl rfl (GO.off rfl rfl rfl rfl rfl rfl (GO.off rfl rfl rfl rfl rfl rfl (GO.off rfl rfl rfl rfl rfl rfl (GO.ps 2 rfl (GO.off rfl rfl rfl rfl rfl rfl (GO.off rfl rfl rfl rfl rfl rfl (GO.off rfl rfl rfl rfl rfl rfl (GO.off rfl rfl rfl rfl rfl rfl (GO.pickT rfl rfl rfl rfl rfl (GO.buildV (.agg [.bool (decide (0 < (e_Triangulation_Tets.length : Int))), .bool true, .bool true, .bool true].toArray) rfl rfl (fun _ => by kernel_rfl) rfl (GO.stBox (j := 1) (vs := [.bool (decide (0 < (e_Triangulation_Tets.length : Int))), .bool true, .bool true, .bool true]) ([.bool (decide (0 < (e_Triangulation_Tets.length : Int))), .bool true, .bool true, .bool true]) HS rfl rfl rfl rfl rfl (htA ag164) rfl rfl rfl fun wd26 HS => ?_))))))))))))))
    refine GO.nil ?_
    obtain ⟨rfl, rfl, rfl, rfl⟩ := some4 H
    exact G.ret1 _ func137 rfl (Res1.boxA (j := 1) (vs := [.bool (decide (0 < (e_Triangulation_Tets.length : Int))), .bool true, .bool true, .bool true]) HS rfl rfl rfl ag164) ⟨rfl, (HS.pk 3 [] rfl)⟩
   refine G.region (GO.fld (⟨b1, 2, none⟩) rfl rfl fl48_2 rfl rfl (GO.fld (⟨b1, 2, none⟩) rfl rfl fl37_0 rfl rfl (GO.ldBox (j := 2) HS rfl rfl rfl rfl na35 rfl (GO.lenS rfl rfl underlying35 rfl (GO.gtr rfl rfl rfl rfl (GO.fld (⟨b1, 3, none⟩) rfl rfl fl48_3 rfl rfl (GO.fld (⟨b1, 3, none⟩) rfl rfl fl40_0 rfl rfl (GO.ldBox (j := 2) HS rfl rfl rfl rfl na38 rfl (GO.lenS rfl rfl underlying38 rfl (GO.ps 2 rfl (GO.known (t := 16) rfl (decide_eq_true c8) (GO.off rfl rfl rfl rfl rfl rfl (GO.off rfl rfl rfl rfl rfl rfl (GO.off rfl rfl rfl rfl rfl rfl ?_))))))))))))))
   refine GO.off rfl rfl rfl rfl rfl rfl (GO.pickT rfl rfl rfl rfl rfl (GO.fld (⟨b1, 5, none⟩) rfl rfl fl48_4 rfl rfl (GO.fld (⟨b1, 5, none⟩) rfl rfl fl43_0 rfl rfl (GO.ldBox (j := 2) HS rfl rfl rfl rfl na2 rfl (GO.ps 2 rfl (GO.known (t := 26) rfl (congrArg Bool.not (decide_eq_false c9)) (GO.off rfl rfl rfl rfl rfl rfl (GO.off rfl rfl rfl rfl rfl rfl (GO.off rfl rfl rfl rfl rfl rfl (GO.off rfl rfl rfl rfl rfl rfl (GO.off rfl rfl rfl rfl rfl rfl (GO.pickT rfl rfl rfl rfl rfl (GO.fld (⟨b5, 0, none⟩) rfl rfl fl46_0 rfl rfl (GO.ldBox (j := 0) HS rfl rfl rfl rfl na2 rfl ?_))))))))))))))
   refine GO.ps 2 rfl (GO.known (t := 36) rfl (congrArg Bool.not (decide_eq_false c19)) (GO.off rfl rfl rfl rfl rfl rfl (GO.off rfl rfl rfl rfl rfl rfl (GO.off rfl rfl rfl rfl rfl rfl (GO.ps 2 rfl (GO.off rfl rfl rfl rfl rfl rfl (GO.off rfl rfl rfl rfl rfl rfl (GO.off rfl rfl rfl rfl rfl rfl (GO.off rfl rfl rfl rfl rfl rfl (GO.ps 2 rfl (GO.off rfl rfl rfl rfl rfl rfl (GO.off rfl rfl rfl rfl rfl rfl (GO.off rfl rfl rfl rfl rfl rfl (GO.off rfl rfl rfl rfl rfl rfl ?_))))))))))))))
   refine GO.ps 2 rfl (GO.off rfl rfl rfl rfl rfl rfl (GO.off rfl rfl rfl rfl rfl rfl (GO.off rfl rfl rfl rfl rfl rfl (GO.off rfl rfl rfl rfl rfl rfl (GO.pickT rfl rfl rfl rfl rfl (GO.buildV (.agg [.bool (decide (0 < (e_Triangulation_Tets.length : Int))), .bool true, .bool true, .bool true].toArray) rfl rfl (fun _ => by kernel_rfl) rfl (GO.stBox (j := 1) (vs := [.bool (decide (0 < (e_Triangulation_Tets.length : Int))), .bool true, .bool true, .bool true]) ([.bool (decide (0 < (e_Triangulation_Tets.length : Int))), .bool true, .bool true, .bool true]) HS rfl rfl rfl rfl rfl (htA ag164) rfl rfl rfl fun wd27 HS => GO.nil ?_)))))))
   obtain ⟨rfl, rfl, rfl, rfl⟩ := some4 H
   exact G.ret1 _ func137 rfl (Res1.boxA (j := 1) (vs := [.bool (decide (0 < (e_Triangulation_Tets.length : Int))), .bool true, .bool true, .bool true]) HS rfl rfl rfl ag164) ⟨rfl, (HS.pk 3 [] rfl)⟩
  rcases ite_elim H with ⟨c28, H⟩ | ⟨c28, H⟩
  ·
   rcases ite_elim H with ⟨c29, H⟩ | ⟨c29, H⟩
   ·
    rcases ite_elim H with ⟨c30, H⟩ | ⟨c30, H⟩
    ·
     rcases ite_elim H with ⟨c31, H⟩ | ⟨c31, H⟩
     ·
      refine G.region (GO.fld (⟨b1, 2, none⟩) rfl rfl fl48_2 rfl rfl (GO.fld (⟨b1, 2, none⟩) rfl rfl fl37_0 rfl rfl (GO.ldBox (j := 2) HS rfl rfl rfl rfl na35 rfl (GO.lenS rfl rfl underlying35 rfl (GO.gtr rfl rfl rfl rfl (GO.fld (⟨b1, 3, none⟩) rfl rfl fl48_3 rfl rfl (GO.fld (⟨b1, 3, none⟩) rfl rfl fl40_0 rfl rfl (GO.ldBox (j := 2) HS rfl rfl rfl rfl na38 rfl (GO.lenS rfl rfl underlying38 rfl (GO.ps 2 rfl (GO.known (t := 16) rfl (decide_eq_false c8) (GO.on rfl rfl rfl rfl (GO.fld (⟨b1, 3, none⟩) rfl rfl fl48_3 rfl rfl (GO.back ?_))))))))))))))
      refine GO.on rfl rfl rfl rfl (GO.fld (⟨b1, 4, none⟩) rfl rfl fl40_1 rfl rfl (GO.back (GO.on rfl rfl rfl rfl (GO.ldBox (j := 2) HS rfl rfl rfl rfl na2 rfl (GO.back (GO.on rfl rfl rfl rfl (GO.neq rfl rfl rfl rfl (GO.back (GO.pickF rfl rfl rfl rfl rfl (GO.fld (⟨b1, 5, none⟩) rfl rfl fl48_4 rfl rfl (GO.fld (⟨b1, 5, none⟩) rfl rfl fl43_0 rfl rfl (GO.ldBox (j := 2) HS rfl rfl rfl rfl na2 rfl (GO.ps 2 rfl (GO.known (t := 26) rfl (congrArg Bool.not (decide_eq_true c28)) ?_))))))))))))))
      refine GO.on rfl rfl rfl rfl (GO.fld (⟨b1, 5, none⟩) rfl rfl fl48_4 rfl rfl (GO.back (GO.on rfl rfl rfl rfl (GO.fld (⟨b1, 6, none⟩) rfl rfl fl43_1 rfl rfl (GO.back (GO.on rfl rfl rfl rfl (GO.ldBox (j := 2) HS rfl rfl rfl rfl na41 rfl (GO.back (GO.on rfl rfl rfl rfl (GO.lenS rfl rfl underlying41 rfl (GO.back (GO.on rfl rfl rfl rfl (GO.gtr rfl rfl rfl rfl (GO.back ?_))))))))))))))
      refine GO.pickF rfl rfl rfl rfl rfl (GO.fld (⟨b5, 0, none⟩) rfl rfl fl46_0 rfl rfl (GO.ldBox (j := 0) HS rfl rfl rfl rfl na2 rfl (GO.ps 2 rfl (GO.known (t := 36) rfl (congrArg Bool.not (decide_eq_true c29)) (GO.on rfl rfl rfl rfl (GO.fld (⟨b5, 1, none⟩) rfl rfl fl46_1 rfl rfl (GO.back (GO.on rfl rfl rfl rfl (GO.ldBox (j := 0) HS rfl rfl rfl rfl na2 rfl (GO.back (GO.on rfl rfl rfl rfl (GO.neq rfl rfl rfl rfl (GO.back (GO.ps 2 rfl ?_))))))))))))))
      refine GO.known (t := 41) rfl (congrArg Bool.not (decide_eq_true c30)) (GO.on rfl rfl rfl rfl (GO.fld (⟨b5, 2, none⟩) rfl rfl fl46_2 rfl rfl (GO.back (GO.on rfl rfl rfl rfl (GO.ldBox (j := 0) HS rfl rfl rfl rfl na44 rfl (GO.back (GO.on rfl rfl rfl rfl (GO.lenS rfl rfl underlying44 rfl (GO.back (GO.on rfl rfl rfl rfl (GO.gtr rfl rfl rfl rfl (GO.back (GO.ps 2 rfl (GO.known (t := 47) rfl (decide_eq_true c31) ?_))))))))))))))
      refine GO.off rfl rfl rfl rfl rfl rfl (GO.off rfl rfl rfl rfl rfl rfl (GO.off rfl rfl rfl rfl rfl rfl (GO.off rfl rfl rfl rfl rfl rfl (GO.ps 2 rfl (GO.off rfl rfl rfl rfl rfl rfl (GO.off rfl rfl rfl rfl rfl rfl (GO.off rfl rfl rfl rfl rfl rfl (GO.off rfl rfl rfl rfl rfl rfl (GO.pickT rfl rfl rfl rfl rfl (GO.buildV (.agg [.bool (decide (0 < (e_Triangulation_Tets.length : Int))), .bool (!(decide (e_Diagram_Circles = 0))), .bool (decide (0 < (e_Braid_Word.length : Int))), .bool true].toArray) rfl rfl (fun _ => by kernel_rfl) rfl (GO.stBox (j := 1) (vs := [.bool (decide (0 < (e_Triangulation_Tets.length : Int))), .bool (!(decide (e_Diagram_Circles = 0))), .bool (decide (0 < (e_Braid_Word.length : Int))), .bool true]) ([.bool (decide (0 < (e_Triangulation_Tets.length : Int))), .bool (!(decide (e_Diagram_Circles = 0))), .bool (decide (0 < (e_Braid_Word.length : Int))), .bool true]) HS rfl rfl rfl rfl rfl (htA ag164) rfl rfl rfl fun wd32 HS => GO.nil ?_)))))))))))
      obtain ⟨rfl, rfl, rfl, rfl⟩ := some4 H
      exact G.ret1 _ func137 rfl (Res1.boxA (j := 1) (vs := [.bool (decide (0 < (e_Triangulation_Tets.length : Int))), .bool (!(decide (e_Diagram_Circles = 0))), .bool (decide (0 < (e_Braid_Word.length : Int))), .bool true]) HS rfl rfl rfl ag164) ⟨rfl, (HS.pk 3 [] rfl)⟩
     rcases ite_elim H with ⟨c33, H⟩ | ⟨c33, H⟩
     ·
      refine G.region (GO.fld (⟨b1, 2, none⟩) rfl rfl fl48_2 rfl rfl (GO.fld (⟨b1, 2, none⟩) rfl rfl fl37_0 rfl rfl (GO.ldBox (j := 2) HS rfl rfl rfl rfl na35 rfl (GO.lenS rfl rfl underlying35 rfl (GO.gtr rfl rfl rfl rfl (GO.fld (⟨b1, 3, none⟩) rfl rfl fl48_3 rfl rfl (GO.fld (⟨b1, 3, none⟩) rfl rfl fl40_0 rfl rfl (GO.ldBox (j := 2) HS rfl rfl rfl rfl na38 rfl (GO.lenS rfl rfl underlying38 rfl (GO.ps 2 rfl (GO.known (t := 16) rfl (decide_eq_false c8) (GO.on rfl rfl rfl rfl (GO.fld (⟨b1, 3, none⟩) rfl rfl fl48_3 rfl rfl (GO.back ?_))))))))))))))
      refine GO.on rfl rfl rfl rfl (GO.fld (⟨b1, 4, none⟩) rfl rfl fl40_1 rfl rfl (GO.back (GO.on rfl rfl rfl rfl (GO.ldBox (j := 2) HS rfl rfl rfl rfl na2 rfl (GO.back (GO.on rfl rfl rfl rfl (GO.neq rfl rfl rfl rfl (GO.back (GO.pickF rfl rfl rfl rfl rfl (GO.fld (⟨b1, 5, none⟩) rfl rfl fl48_4 rfl rfl (GO.fld (⟨b1, 5, none⟩) rfl rfl fl43_0 rfl rfl (GO.ldBox (j := 2) HS rfl rfl rfl rfl na2 rfl (GO.ps 2 rfl (GO.known (t := 26) rfl (congrArg Bool.not (decide_eq_true c28)) ?_))))))))))))))
      refine GO.on rfl rfl rfl rfl (GO.fld (⟨b1, 5, none⟩) rfl rfl fl48_4 rfl rfl (GO.back (GO.on rfl rfl rfl rfl (GO.fld (⟨b1, 6, none⟩) rfl rfl fl43_1 rfl rfl (GO.back (GO.on rfl rfl rfl rfl (GO.ldBox (j := 2) HS rfl rfl rfl rfl na41 rfl (GO.back (GO.on rfl rfl rfl rfl (GO.lenS rfl rfl underlying41 rfl (GO.back (GO.on rfl rfl rfl rfl (GO.gtr rfl rfl rfl rfl (GO.back ?_))))))))))))))
      refine GO.pickF rfl rfl rfl rfl rfl (GO.fld (⟨b5, 0, none⟩) rfl rfl fl46_0 rfl rfl (GO.ldBox (j := 0) HS rfl rfl rfl rfl na2 rfl (GO.ps 2 rfl (GO.known (t := 36) rfl (congrArg Bool.not (decide_eq_true c29)) (GO.on rfl rfl rfl rfl (GO.fld (⟨b5, 1, none⟩) rfl rfl fl46_1 rfl rfl (GO.back (GO.on rfl rfl rfl rfl (GO.ldBox (j := 0) HS rfl rfl rfl rfl na2 rfl (GO.back (GO.on rfl rfl rfl rfl (GO.neq rfl rfl rfl rfl (GO.back (GO.ps 2 rfl ?_))))))))))))))
      refine GO.known (t := 41) rfl (congrArg Bool.not (decide_eq_true c30)) (GO.on rfl rfl rfl rfl (GO.fld (⟨b5, 2, none⟩) rfl rfl fl46_2 rfl rfl (GO.back (GO.on rfl rfl rfl rfl (GO.ldBox (j := 0) HS rfl rfl rfl rfl na44 rfl (GO.back (GO.on rfl rfl rfl rfl (GO.lenS rfl rfl underlying44 rfl (GO.back (GO.on rfl rfl rfl rfl (GO.gtr rfl rfl rfl rfl (GO.back (GO.ps 2 rfl (GO.known (t := 47) rfl (decide_eq_false c31) ?_))))))))))))))
      refine GO.on rfl rfl rfl rfl (GO.fld (⟨b5, 3, none⟩) rfl rfl fl46_3 rfl rfl (GO.back (GO.on rfl rfl rfl rfl (GO.ldBox (j := 0) HS rfl rfl rfl rfl na41 rfl (GO.back (GO.on rfl rfl rfl rfl (GO.lenS rfl rfl underlying41 rfl (GO.back (GO.on rfl rfl rfl rfl (GO.gtr rfl rfl rfl rfl (GO.back (GO.ps 2 rfl (GO.known (t := 53) rfl (decide_eq_true c33) (GO.off rfl rfl rfl rfl rfl rfl ?_))))))))))))))
      refine GO.off rfl rfl rfl rfl rfl rfl (GO.off rfl rfl rfl rfl rfl rfl (GO.off rfl rfl rfl rfl rfl rfl (GO.pickT rfl rfl rfl rfl rfl (GO.buildV (.agg [.bool (decide (0 < (e_Triangulation_Tets.length : Int))), .bool (!(decide (e_Diagram_Circles = 0))), .bool (decide (0 < (e_Braid_Word.length : Int))), .bool true].toArray) rfl rfl (fun _ => by kernel_rfl) rfl (GO.stBox (j := 1) (vs := [.bool (decide (0 < (e_Triangulation_Tets.length : Int))), .bool (!(decide (e_Diagram_Circles = 0))), .bool (decide (0 < (e_Braid_Word.length : Int))), .bool true]) ([.bool (decide (0 < (e_Triangulation_Tets.length : Int))), .bool (!(decide (e_Diagram_Circles = 0))), .bool (decide (0 < (e_Braid_Word.length : Int))), .bool true]) HS rfl rfl rfl rfl rfl (htA ag164) rfl rfl rfl fun wd34 HS => GO.nil ?_)))))
      obtain ⟨rfl, rfl, rfl, rfl⟩ := some4 H
      exact G.ret1 _ func137 rfl (Res1.boxA (j := 1) (vs := [.bool (decide (0 < (e_Triangulation_Tets.length : Int))), .bool (!(decide (e_Diagram_Circles = 0))), .bool (decide (0 < (e_Braid_Word.length : Int))), .bool true]) HS rfl rfl rfl ag164) ⟨rfl, (HS.pk 3 [] rfl)⟩
     refine G.region (GO.fld (⟨b1, 2, none⟩) rfl rfl fl48_2 rfl rfl (GO.fld (⟨b1, 2, none⟩) rfl rfl fl37_0 rfl rfl (GO.ldBox (j := 2) HS rfl rfl rfl rfl na35 rfl (GO.lenS rfl rfl underlying35 rfl (GO.gtr rfl rfl rfl rfl (GO.fld (⟨b1, 3, none⟩) rfl rfl fl48_3 rfl rfl (GO.fld (⟨b1, 3, none⟩) rfl rfl fl40_0 rfl rfl (GO.ldBox (j := 2) HS rfl rfl rfl rfl na38 rfl (GO.lenS rfl rfl underlying38 rfl (GO.ps 2 rfl (GO.known (t := 16) rfl (decide_eq_false c8) (GO.on rfl rfl rfl rfl (GO.fld (⟨b1, 3, none⟩) rfl rfl fl48_3 rfl rfl (GO.back ?_))))))))))))))
     refine GO.on rfl rfl rfl rfl (GO.fld (⟨b1, 4, none⟩) rfl rfl fl40_1 rfl rfl (GO.back (GO.on rfl rfl rfl rfl (GO.ldBox (j := 2) HS rfl rfl rfl rfl na2 rfl (GO.back (GO.on rfl rfl rfl rfl (GO.neq rfl rfl rfl rfl (GO.back (GO.pickF rfl rfl rfl rfl rfl (GO.fld (⟨b1, 5, none⟩) rfl rfl fl48_4 rfl rfl (GO.fld (⟨b1, 5, none⟩) rfl rfl fl43_0 rfl rfl (GO.ldBox (j := 2) HS rfl rfl rfl rfl na2 rfl (GO.ps 2 rfl (GO.known (t := 26) rfl (congrArg Bool.not (decide_eq_true c28)) ?_))))))))))))))
     refine GO.on rfl rfl rfl rfl (GO.fld (⟨b1, 5, none⟩) rfl rfl fl48_4 rfl rfl (GO.back (GO.on rfl rfl rfl rfl (GO.fld (⟨b1, 6, none⟩) rfl rfl fl43_1 rfl rfl (GO.back (GO.on rfl rfl rfl rfl (GO.ldBox (j := 2) HS rfl rfl rfl rfl na41 rfl (GO.back (GO.on rfl rfl rfl rfl (GO.lenS rfl rfl underlying41 rfl (GO.back (GO.on rfl rfl rfl rfl (GO.gtr rfl rfl rfl rfl (GO.back ?_))))))))))))))
     refine GO.pickF rfl rfl rfl rfl rfl (GO.fld (⟨b5, 0, none⟩) rfl rfl fl46_0 rfl rfl (GO.ldBox (j := 0) HS rfl rfl rfl rfl na2 rfl (GO.ps 2 rfl (GO.known (t := 36) rfl (congrArg Bool.not (decide_eq_true c29)) (GO.on rfl rfl rfl rfl (GO.fld (⟨b5, 1, none⟩) rfl rfl fl46_1 rfl rfl (GO.back (GO.on rfl rfl rfl rfl (GO.ldBox (j := 0) HS rfl rfl rfl rfl na2 rfl (GO.back (GO.on rfl rfl rfl rfl (GO.neq rfl rfl rfl rfl (GO.back (GO.ps 2 rfl ?_))))))))))))))
     refine GO.known (t := 41) rfl (congrArg Bool.not (decide_eq_true c30)) (GO.on rfl rfl rfl rfl (GO.fld (⟨b5, 2, none⟩) rfl rfl fl46_2 rfl rfl (GO.back (GO.on rfl rfl rfl rfl (GO.ldBox (j := 0) HS rfl rfl rfl rfl na44 rfl (GO.back (GO.on rfl rfl rfl rfl (GO.lenS rfl rfl underlying44 rfl (GO.back (GO.on rfl rfl rfl rfl (GO.gtr rfl rfl rfl rfl (GO.back (GO.ps 2 rfl (GO.known (t := 47) rfl (decide_eq_false c31) ?_))))))))))))))
     refine GO.on rfl rfl rfl rfl (GO.fld (⟨b5, 3, none⟩) rfl rfl fl46_3 rfl rfl (GO.back (GO.on rfl rfl rfl rfl (GO.ldBox (j := 0) HS rfl rfl rfl rfl na41 rfl (GO.back (GO.on rfl rfl rfl rfl (GO.lenS rfl rfl underlying41 rfl (GO.back (GO.on rfl rfl rfl rfl (GO.gtr rfl rfl rfl rfl (GO.back (GO.ps 2 rfl (GO.known (t := 53) rfl (decide_eq_false c33) (GO.on rfl rfl rfl rfl ?_))))))))))))))
     refine GO.fld (⟨b5, 4, none⟩) rfl rfl fl46_4 rfl rfl (GO.back (GO.on rfl rfl rfl rfl (GO.ldBox (j := 0) HS rfl rfl rfl rfl na41 rfl (GO.back (GO.on rfl rfl rfl rfl (GO.lenS rfl rfl underlying41 rfl (GO.back (GO.on rfl rfl rfl rfl (GO.gtr rfl rfl rfl rfl (GO.back (GO.pickF rfl rfl rfl rfl rfl (GO.buildV (.agg [.bool (decide (0 < (e_Triangulation_Tets.length : Int))), .bool (!(decide (e_Diagram_Circles = 0))), .bool (decide (0 < (e_Braid_Word.length : Int))), .bool (decide (0 < (e_Certificate_Perms.length : Int)))].toArray) rfl rfl (fun _ => by kernel_rfl) rfl (GO.stBox (j := 1) (vs := [.bool (decide (0 < (e_Triangulation_Tets.length : Int))), .bool (!(decide (e_Diagram_Circles = 0))), .bool (decide (0 < (e_Braid_Word.length : Int))), .bool (decide (0 < (e_Certificate_Perms.length : Int)))]) ([.bool (decide (0 < (e_Triangulation_Tets.length : Int))), .bool (!(decide (e_Diagram_Circles = 0))), .bool (decide (0 < (e_Braid_Word.length : Int))), .bool (decide (0 < (e_Certificate_Perms.length : Int)))]) HS rfl rfl rfl rfl rfl (htA ag164) rfl rfl rfl fun wd35 HS => GO.nil ?_)))))))))))))
     obtain ⟨rfl, rfl, rfl, rfl⟩ := some4 H
     exact G.ret1 _ func137 rfl (Res1.boxA (j := 1) (vs := [.bool (decide (0 < (e_Triangulation_Tets.length : Int))), .bool (!(decide (e_Diagram_Circles = 0))), .bool (decide (0 < (e_Braid_Word.length : Int))), .bool (decide (0 < (e_Certificate_Perms.length : Int)))]) HS rfl rfl rfl ag164) ⟨rfl, (HS.pk 3 [] rfl)⟩
    refine G.region (GO.fld (⟨b1, 2, none⟩) rfl rfl fl48_2 rfl rfl (GO.fld (⟨b1, 2, none⟩) rfl rfl fl37_0 rfl rfl (GO.ldBox (j := 2) HS rfl rfl rfl rfl na35 rfl (GO.lenS rfl rfl underlying35 rfl (GO.gtr rfl rfl rfl rfl (GO.fld (⟨b1, 3, none⟩) rfl rfl fl48_3 rfl rfl (GO.fld (⟨b1, 3, none⟩) rfl rfl fl40_0 rfl rfl (GO.ldBox (j := 2) HS rfl rfl rfl rfl na38 rfl (GO.lenS rfl rfl underlying38 rfl (GO.ps 2 rfl (GO.known (t := 16) rfl (decide_eq_false c8) (GO.on rfl rfl rfl rfl (GO.fld (⟨b1, 3, none⟩) rfl rfl fl48_3 rfl rfl (GO.back ?_))))))))))))))
    refine GO.on rfl rfl rfl rfl (GO.fld (⟨b1, 4, none⟩) rfl rfl fl40_1 rfl rfl (GO.back (GO.on rfl rfl rfl rfl (GO.ldBox (j := 2) HS rfl rfl rfl rfl na2 rfl (GO.back (GO.on rfl rfl rfl rfl (GO.neq rfl rfl rfl rfl (GO.back (GO.pickF rfl rfl rfl rfl rfl (GO.fld (⟨b1, 5, none⟩) rfl rfl fl48_4 rfl rfl (GO.fld (⟨b1, 5, none⟩) rfl rfl fl43_0 rfl rfl (GO.ldBox (j := 2) HS rfl rfl rfl rfl na2 rfl (GO.ps 2 rfl (GO.known (t := 26) rfl (congrArg Bool.not (decide_eq_true c28)) ?_))))))))))))))
    refine GO.on rfl rfl rfl rfl (GO.fld (⟨b1, 5, none⟩) rfl rfl fl48_4 rfl rfl (GO.back (GO.on rfl rfl rfl rfl (GO.fld (⟨b1, 6, none⟩) rfl rfl fl43_1 rfl rfl (GO.back (GO.on rfl rfl rfl rfl (GO.ldBox (j := 2) HS rfl rfl rfl rfl na41 rfl (GO.back (GO.on rfl rfl rfl rfl (GO.lenS rfl rfl underlying41 rfl (GO.back (GO.on rfl rfl rfl rfl (GO.gtr rfl rfl rfl rfl (GO.back ?_))))))))))))))
    refine GO.pickF rfl rfl rfl rfl rfl (GO.fld (⟨b5, 0, none⟩) rfl rfl fl46_0 rfl rfl (GO.ldBox (j := 0) HS rfl rfl rfl rfl na2 rfl (GO.ps 2 rfl (GO.known (t := 36) rfl (congrArg Bool.not (decide_eq_true c29)) (GO.on rfl rfl rfl rfl (GO.fld (⟨b5, 1, none⟩) rfl rfl fl46_1 rfl rfl (GO.back (GO.on rfl rfl rfl rfl (GO.ldBox (j := 0) HS rfl rfl rfl rfl na2 rfl (GO.back (GO.on rfl rfl rfl rfl (GO.neq rfl rfl rfl rfl (GO.back (GO.ps 2 rfl ?_))))))))))))))
    refine GO.known (t := 41) rfl (congrArg Bool.not (decide_eq_false c30)) (GO.off rfl rfl rfl rfl rfl rfl (GO.off rfl rfl rfl rfl rfl rfl (GO.off rfl rfl rfl rfl rfl rfl (GO.off rfl rfl rfl rfl rfl rfl (GO.ps 2 rfl (GO.off rfl rfl rfl rfl rfl rfl (GO.off rfl rfl rfl rfl rfl rfl (GO.off rfl rfl rfl rfl rfl rfl (GO.off rfl rfl rfl rfl rfl rfl (GO.ps 2 rfl (GO.off rfl rfl rfl rfl rfl rfl (GO.off rfl rfl rfl rfl rfl rfl (GO.off rfl rfl rfl rfl rfl rfl (GO.off rfl rfl rfl rfl rfl rfl ?_))))))))))))))
    refine GO.pickT rfl rfl rfl rfl rfl (GO.buildV (.agg [.bool (decide (0 < (e_Triangulation_Tets.length : Int))), .bool (!(decide (e_Diagram_Circles = 0))), .bool (decide (0 < (e_Braid_Word.length : Int))), .bool true].toArray) rfl rfl (fun _ => by kernel_rfl) rfl (GO.stBox (j := 1) (vs := [.bool (decide (0 < (e_Triangulation_Tets.length : Int))), .bool (!(decide (e_Diagram_Circles = 0))), .bool (decide (0 < (e_Braid_Word.length : Int))), .bool true]) ([.bool (decide (0 < (e_Triangulation_Tets.length : Int))), .bool (!(decide (e_Diagram_Circles = 0))), .bool (decide (0 < (e_Braid_Word.length : Int))), .bool true]) HS rfl rfl rfl rfl rfl (htA ag164) rfl rfl rfl fun wd36 HS => GO.nil ?_))
    obtain ⟨rfl, rfl, rfl, rfl⟩ := some4 H
    exact G.ret1 _ func137 rfl (Res1.boxA (j := 1) (vs := [.bool (decide (0 < (e_Triangulation_Tets.length : Int))), .bool (!(decide (e_Diagram_Circles = 0))), .bool (decide (0 < (e_Braid_Word.length : Int))), .bool true]) HS rfl rfl rfl ag164) ⟨rfl, (HS.pk 3 [] rfl)⟩
   refine G.region (GO.fld (⟨b1, 2, none⟩) rfl rfl fl48_2 rfl rfl (GO.fld (⟨b1, 2, none⟩) rfl rfl fl37_0 rfl rfl (GO.ldBox (j := 2) HS rfl rfl rfl rfl na35 rfl (GO.lenS rfl rfl underlying35 rfl (GO.gtr rfl rfl rfl rfl (GO.fld (⟨b1, 3, none⟩) rfl rfl fl48_3 rfl rfl (GO.fld (⟨b1, 3, none⟩) rfl rfl fl40_0 rfl rfl (GO.ldBox (j := 2) HS rfl rfl rfl rfl na38 rfl (GO.lenS rfl rfl underlying38 rfl (GO.ps 2 rfl (GO.known (t := 16) rfl (decide_eq_false c8) (GO.on rfl rfl rfl rfl (GO.fld (⟨b1, 3, none⟩) rfl rfl fl48_3 rfl rfl (GO.back ?_))))))))))))))
   refine GO.on rfl rfl rfl rfl (GO.fld (⟨b1, 4, none⟩) rfl rfl fl40_1 rfl rfl (GO.back (GO.on rfl rfl rfl rfl (GO.ldBox (j := 2) HS rfl rfl rfl rfl na2 rfl (GO.back (GO.on rfl rfl rfl rfl (GO.neq rfl rfl rfl rfl (GO.back (GO.pickF rfl rfl rfl rfl rfl (GO.fld (⟨b1, 5, none⟩) rfl rfl fl48_4 rfl rfl (GO.fld (⟨b1, 5, none⟩) rfl rfl fl43_0 rfl rfl (GO.ldBox (j := 2) HS rfl rfl rfl rfl na2 rfl (GO.ps 2 rfl (GO.known (t := 26) rfl (congrArg Bool.not (decide_eq_true c28)) ?_))))))))))))))
   refine GO.on rfl rfl rfl rfl (GO.fld (⟨b1, 5, none⟩) rfl rfl fl48_4 rfl rfl (GO.back (GO.on rfl rfl rfl rfl (GO.fld (⟨b1, 6, none⟩) rfl rfl fl43_1 rfl rfl (GO.back (GO.on rfl rfl rfl rfl (GO.ldBox (j := 2) HS rfl rfl rfl rfl na41 rfl (GO.back (GO.on rfl rfl rfl rfl (GO.lenS rfl rfl underlying41 rfl (GO.back (GO.on rfl rfl rfl rfl (GO.gtr rfl rfl rfl rfl (GO.back ?_))))))))))))))
   refine GO.pickF rfl rfl rfl rfl rfl (GO.fld (⟨b5, 0, none⟩) rfl rfl fl46_0 rfl rfl (GO.ldBox (j := 0) HS rfl rfl rfl rfl na2 rfl (GO.ps 2 rfl (GO.known (t := 36) rfl (congrArg Bool.not (decide_eq_false c29)) (GO.off rfl rfl rfl rfl rfl rfl (GO.off rfl rfl rfl rfl rfl rfl (GO.off rfl rfl rfl rfl rfl rfl (GO.ps 2 rfl (GO.off rfl rfl rfl rfl rfl rfl (GO.off rfl rfl rfl rfl rfl rfl (GO.off rfl rfl rfl rfl rfl rfl (GO.off rfl rfl rfl rfl rfl rfl (GO.ps 2 rfl (GO.off rfl rfl rfl rfl rfl rfl ?_))))))))))))))
   refine GO.off rfl rfl rfl rfl rfl rfl (GO.off rfl rfl rfl rfl rfl rfl (GO.off rfl rfl rfl rfl rfl rfl (GO.ps 2 rfl (GO.off rfl rfl rfl rfl rfl rfl (GO.off rfl rfl rfl rfl rfl rfl (GO.off rfl rfl rfl rfl rfl rfl (GO.off rfl rfl rfl rfl rfl rfl (GO.pickT rfl rfl rfl rfl rfl (GO.buildV (.agg [.bool (decide (0 < (e_Triangulation_Tets.length : Int))), .bool (!(decide (e_Diagram_Circles = 0))), .bool (decide (0 < (e_Braid_Word.length : Int))), .bool true].toArray) rfl rfl (fun _ => by kernel_rfl) rfl (GO.stBox (j := 1) (vs := [.bool (decide (0 < (e_Triangulation_Tets.length : Int))), .bool (!(decide (e_Diagram_Circles = 0))), .bool (decide (0 < (e_Braid_Word.length : Int))), .bool true]) ([.bool (decide (0 < (e_Triangulation_Tets.length : Int))), .bool (!(decide (e_Diagram_Circles = 0))), .bool (decide (0 < (e_Braid_Word.length : Int))), .bool true]) HS rfl rfl rfl rfl rfl (htA ag164) rfl rfl rfl fun wd37 HS => GO.nil ?_))))))))))
   obtain ⟨rfl, rfl, rfl, rfl⟩ := some4 H
   exact G.ret1 _ func137 rfl (Res1.boxA (j := 1) (vs := [.bool (decide (0 < (e_Triangulation_Tets.length : Int))), .bool (!(decide (e_Diagram_Circles = 0))), .bool (decide (0 < (e_Braid_Word.length : Int))), .bool true]) HS rfl rfl rfl ag164) ⟨rfl, (HS.pk 3 [] rfl)⟩
  rcases ite_elim H with ⟨c38, H⟩ | ⟨c38, H⟩
  ·
   rcases ite_elim H with ⟨c39, H⟩ | ⟨c39, H⟩
   ·
    rcases ite_elim H with ⟨c40, H⟩ | ⟨c40, H⟩
    ·
     refine G.region (GO.fld (⟨b1, 2, none⟩) rfl rfl fl48_2 rfl rfl (GO.fld (⟨b1, 2, none⟩) rfl rfl fl37_0 rfl rfl (GO.ldBox (j := 2) HS rfl rfl rfl rfl na35 rfl (GO.lenS rfl rfl underlying35 rfl (GO.gtr rfl rfl rfl rfl (GO.fld (⟨b1, 3, none⟩) rfl rfl fl48_3 rfl rfl (GO.fld (⟨b1, 3, none⟩) rfl rfl fl40_0 rfl rfl (GO.ldBox (j := 2) HS rfl rfl rfl rfl na38 rfl (GO.lenS rfl rfl underlying38 rfl (GO.ps 2 rfl (GO.known (t := 16) rfl (decide_eq_false c8) (GO.on rfl rfl rfl rfl (GO.fld (⟨b1, 3, none⟩) rfl rfl fl48_3 rfl rfl (GO.back ?_))))))))))))))
     refine GO.on rfl rfl rfl rfl (GO.fld (⟨b1, 4, none⟩) rfl rfl fl40_1 rfl rfl (GO.back (GO.on rfl rfl rfl rfl (GO.ldBox (j := 2) HS rfl rfl rfl rfl na2 rfl (GO.back (GO.on rfl rfl rfl rfl (GO.neq rfl rfl rfl rfl (GO.back (GO.pickF rfl rfl rfl rfl rfl (GO.fld (⟨b1, 5, none⟩) rfl rfl fl48_4 rfl rfl (GO.fld (⟨b1, 5, none⟩) rfl rfl fl43_0 rfl rfl (GO.ldBox (j := 2) HS rfl rfl rfl rfl na2 rfl (GO.ps 2 rfl (GO.known (t := 26) rfl (congrArg Bool.not (decide_eq_false c28)) ?_))))))))))))))
     refine GO.off rfl rfl rfl rfl rfl rfl (GO.off rfl rfl rfl rfl rfl rfl (GO.off rfl rfl rfl rfl rfl rfl (GO.off rfl rfl rfl rfl rfl rfl (GO.off rfl rfl rfl rfl rfl rfl (GO.pickT rfl rfl rfl rfl rfl (GO.fld (⟨b5, 0, none⟩) rfl rfl fl46_0 rfl rfl (GO.ldBox (j := 0) HS rfl rfl rfl rfl na2 rfl (GO.ps 2 rfl (GO.known (t := 36) rfl (congrArg Bool.not (decide_eq_true c38)) (GO.on rfl rfl rfl rfl (GO.fld (⟨b5, 1, none⟩) rfl rfl fl46_1 rfl rfl (GO.back (GO.on rfl rfl rfl rfl (GO.ldBox (j := 0) HS rfl rfl rfl rfl na2 rfl ?_))))))))))))))
     refine GO.back (GO.on rfl rfl rfl rfl (GO.neq rfl rfl rfl rfl (GO.back (GO.ps 2 rfl (GO.known (t := 41) rfl (congrArg Bool.not (decide_eq_true c39)) (GO.on rfl rfl rfl rfl (GO.fld (⟨b5, 2, none⟩) rfl rfl fl46_2 rfl rfl (GO.back (GO.on rfl rfl rfl rfl (GO.ldBox (j := 0) HS rfl rfl rfl rfl na44 rfl (GO.back (GO.on rfl rfl rfl rfl (GO.lenS rfl rfl underlying44 rfl (GO.back ?_))))))))))))))
     refine GO.on rfl rfl rfl rfl (GO.gtr rfl rfl rfl rfl (GO.back (GO.ps 2 rfl (GO.known (t := 47) rfl (decide_eq_true c40) (GO.off rfl rfl rfl rfl rfl rfl (GO.off rfl rfl rfl rfl rfl rfl (GO.off rfl rfl rfl rfl rfl rfl (GO.off rfl rfl rfl rfl rfl rfl (GO.ps 2 rfl (GO.off rfl rfl rfl rfl rfl rfl (GO.off rfl rfl rfl rfl rfl rfl (GO.off rfl rfl rfl rfl rfl rfl (GO.off rfl rfl rfl rfl rfl rfl (GO.pickT rfl rfl rfl rfl rfl ?_))))))))))))))
     refine GO.buildV (.agg [.bool (decide (0 < (e_Triangulation_Tets.length : Int))), .bool (!(decide (e_Diagram_Circles = 0))), .bool true, .bool true].toArray) rfl rfl (fun _ => by kernel_rfl) rfl (GO.stBox (j := 1) (vs := [.bool (decide (0 < (e_Triangulation_Tets.length : Int))), .bool (!(decide (e_Diagram_Circles = 0))), .bool true, .bool true]) ([.bool (decide (0 < (e_Triangulation_Tets.length : Int))), .bool (!(decide (e_Diagram_Circles = 0))), .bool true, .bool true]) HS rfl rfl rfl rfl rfl (htA ag164) rfl rfl rfl fun wd41 HS => GO.nil ?_)
     obtain ⟨rfl, rfl, rfl, rfl⟩ := some4 H
     exact G.ret1 _ func137 rfl (Res1.boxA (j := 1) (vs := [.bool (decide (0 < (e_Triangulation_Tets.length : Int))), .bool (!(decide (e_Diagram_Circles = 0))), .bool true, .bool true]) HS rfl rfl rfl ag164) ⟨rfl, (HS.pk 3 [] rfl)⟩
    rcases ite_elim H with ⟨c42, H⟩ | ⟨c42, H⟩
    ·
     refine G.region (GO.fld (⟨b1, 2, none⟩) rfl rfl fl48_2 rfl rfl (GO.fld (⟨b1, 2, none⟩) rfl rfl fl37_0 rfl rfl (GO.ldBox (j := 2) HS rfl rfl rfl rfl na35 rfl (GO.lenS rfl rfl underlying35 rfl (GO.gtr rfl rfl rfl rfl (GO.fld (⟨b1, 3, none⟩) rfl rfl fl48_3 rfl rfl (GO.fld (⟨b1, 3, none⟩) rfl rfl fl40_0 rfl rfl (GO.ldBox (j := 2) HS rfl rfl rfl rfl na38 rfl (GO.lenS rfl rfl underlying38 rfl (GO.ps 2 rfl (GO.known (t := 16) rfl (decide_eq_false c8) (GO.on rfl rfl rfl rfl (GO.fld (⟨b1, 3, none⟩) rfl rfl fl48_3 rfl rfl (GO.back ?_))))))))))))))
     refine GO.on rfl rfl rfl rfl (GO.fld (⟨b1, 4, none⟩) rfl rfl fl40_1 rfl rfl (GO.back (GO.on rfl rfl rfl rfl (GO.ldBox (j := 2) HS rfl rfl rfl rfl na2 rfl (GO.back (GO.on rfl rfl rfl rfl (GO.neq rfl rfl rfl rfl (GO.back (GO.pickF rfl rfl rfl rfl rfl (GO.fld (⟨b1, 5, none⟩) rfl rfl fl48_4 rfl rfl (GO.fld (⟨b1, 5, none⟩) rfl rfl fl43_0 rfl rfl (GO.ldBox (j := 2) HS rfl rfl rfl rfl na2 rfl (GO.ps 2 rfl (GO.known (t := 26) rfl (congrArg Bool.not (decide_eq_false c28)) ?_))))))))))))))
     refine GO.off rfl rfl rfl rfl rfl rfl (GO.off rfl rfl rfl rfl rfl rfl (GO.off rfl rfl rfl rfl rfl rfl (GO.off rfl rfl rfl rfl rfl rfl (GO.off rfl rfl rfl rfl rfl rfl (GO.pickT rfl rfl rfl rfl rfl (GO.fld (⟨b5, 0, none⟩) rfl rfl fl46_0 rfl rfl (GO.ldBox (j := 0) HS rfl rfl rfl rfl na2 rfl (GO.ps 2 rfl (GO.known (t := 36) rfl (congrArg Bool.not (decide_eq_true c38)) (GO.on rfl rfl rfl rfl (GO.fld (⟨b5, 1, none⟩) rfl rfl fl46_1 rfl rfl (GO.back (GO.on rfl rfl rfl rfl (GO.ldBox (j := 0) HS rfl rfl rfl rfl na2 rfl ?_))))))))))))))
     refine GO.back (GO.on rfl rfl rfl rfl (GO.neq rfl rfl rfl rfl (GO.back (GO.ps 2 rfl (GO.known (t := 41) rfl (congrArg Bool.not (decide_eq_true c39)) (GO.on rfl rfl rfl rfl (GO.fld (⟨b5, 2, none⟩) rfl rfl fl46_2 rfl rfl (GO.back (GO.on rfl rfl rfl rfl (GO.ldBox (j := 0) HS rfl rfl rfl rfl na44 rfl (GO.back (GO.on rfl rfl rfl rfl (GO.lenS rfl rfl underlying44 rfl (GO.back ?_))))))))))))))
     refine GO.on rfl rfl rfl rfl (GO.gtr rfl rfl rfl rfl (GO.back (GO.ps 2 rfl (GO.known (t := 47) rfl (decide_eq_false c40) (GO.on rfl rfl rfl rfl (GO.fld (⟨b5, 3, none⟩) rfl rfl fl46_3 rfl rfl (GO.back (GO.on rfl rfl rfl rfl (GO.ldBox (j := 0) HS rfl rfl rfl rfl na41 rfl (GO.back (GO.on rfl rfl rfl rfl (GO.lenS rfl rfl underlying41 rfl (GO.back (GO.on rfl rfl rfl rfl ?_))))))))))))))
     refine GO.gtr rfl rfl rfl rfl (GO.back (GO.ps 2 rfl (GO.known (t := 53) rfl (decide_eq_true c42) (GO.off rfl rfl rfl rfl rfl rfl (GO.off rfl rfl rfl rfl rfl rfl (GO.off rfl rfl rfl rfl rfl rfl (GO.off rfl rfl rfl rfl rfl rfl (GO.pickT rfl rfl rfl rfl rfl (GO.buildV (.agg [.bool (decide (0 < (e_Triangulation_Tets.length : Int))), .bool (!(decide (e_Diagram_Circles = 0))), .bool true, .bool true].toArray) rfl rfl (fun _ => by kernel_rfl) rfl (GO.stBox (j := 1) (vs := [.bool (decide (0 < (e_Triangulation_Tets.length : Int))), .bool (!(decide (e_Diagram_Circles = 0))), .bool true, .bool true]) ([.bool (decide (0 < (e_Triangulation_Tets.length : Int))), .bool (!(decide (e_Diagram_Circles = 0))), .bool true, .bool true]) HS rfl rfl rfl rfl rfl (htA ag164) rfl rfl rfl fun wd43 HS => GO.nil ?_))))))))))
     obtain ⟨rfl, rfl, rfl, rfl⟩ := some4 H
     exact G.ret1 _ func137 rfl (Res1.boxA (j := 1) (vs := [.bool (decide (0 < (e_Triangulation_Tets.length : Int))), .bool (!(decide (e_Diagram_Circles = 0))), .bool true, .bool true]) HS rfl rfl rfl ag164) ⟨rfl, (HS.pk 3 [] rfl)⟩
    refine G.region (GO.fld (⟨b1, 2, none⟩) rfl rfl fl48_2 rfl rfl (GO.fld (⟨b1, 2, none⟩) rfl rfl fl37_0 rfl rfl (GO.ldBox (j := 2) HS rfl rfl rfl rfl na35 rfl (GO.lenS rfl rfl underlying35 rfl (GO.gtr rfl rfl rfl rfl (GO.fld (⟨b1, 3, none⟩) rfl rfl fl48_3 rfl rfl (GO.fld (⟨b1, 3, none⟩) rfl rfl fl40_0 rfl rfl (GO.ldBox (j := 2) HS rfl rfl rfl rfl na38 rfl (GO.lenS rfl rfl underlying38 rfl (GO.ps 2 rfl (GO.known (t := 16) rfl (decide_eq_false c8) (GO.on rfl rfl rfl rfl (GO.fld (⟨b1, 3, none⟩) rfl rfl fl48_3 rfl rfl (GO.back ?_))))))))))))))
    refine GO.on rfl rfl rfl rfl (GO.fld (⟨b1, 4, none⟩) rfl rfl fl40_1 rfl rfl (GO.back (GO.on rfl rfl rfl rfl (GO.ldBox (j := 2) HS rfl rfl rfl rfl na2 rfl (GO.back (GO.on rfl rfl rfl rfl (GO.neq rfl rfl rfl rfl (GO.back (GO.pickF rfl rfl rfl rfl rfl (GO.fld (⟨b1, 5, none⟩) rfl rfl fl48_4 rfl rfl (GO.fld (⟨b1, 5, none⟩) rfl rfl fl43_0 rfl rfl (GO.ldBox (j := 2) HS rfl rfl rfl rfl na2 rfl (GO.ps 2 rfl (GO.known (t := 26) rfl (congrArg Bool.not (decide_eq_false c28)) ?_))))))))))))))
    refine GO.off rfl rfl rfl rfl rfl rfl (GO.off rfl rfl rfl rfl rfl rfl (GO.off rfl rfl rfl rfl rfl rfl (GO.off rfl rfl rfl rfl rfl rfl (GO.off rfl rfl rfl rfl rfl rfl (GO.pickT rfl rfl rfl rfl rfl (GO.fld (⟨b5, 0, none⟩) rfl rfl fl46_0 rfl rfl (GO.ldBox (j := 0) HS rfl rfl rfl rfl na2 rfl (GO.ps 2 rfl (GO.known (t := 36) rfl (congrArg Bool.not (decide_eq_true c38)) (GO.on rfl rfl rfl rfl (GO.fld (⟨b5, 1, none⟩) rfl rfl fl46_1 rfl rfl (GO.back (GO.on rfl rfl rfl rfl (GO.ldBox (j := 0) HS rfl rfl rfl rfl na2 rfl ?_))))))))))))))
    refine GO.back (GO.on rfl rfl rfl rfl (GO.neq rfl rfl rfl rfl (GO.back (GO.ps 2 rfl (GO.known (t := 41) rfl (congrArg Bool.not (decide_eq_true c39)) (GO.on rfl rfl rfl rfl (GO.fld (⟨b5, 2, none⟩) rfl rfl fl46_2 rfl rfl (GO.back (GO.on rfl rfl rfl rfl (GO.ldBox (j := 0) HS rfl rfl rfl rfl na44 rfl (GO.back (GO.on rfl rfl rfl rfl (GO.lenS rfl rfl underlying44 rfl (GO.back ?_))))))))))))))
    refine GO.on rfl rfl rfl rfl (GO.gtr rfl rfl rfl rfl (GO.back (GO.ps 2 rfl (GO.known (t := 47) rfl (decide_eq_false c40) (GO.on rfl rfl rfl rfl (GO.fld (⟨b5, 3, none⟩) rfl rfl fl46_3 rfl rfl (GO.back (GO.on rfl rfl rfl rfl (GO.ldBox (j := 0) HS rfl rfl rfl rfl na41 rfl (GO.back (GO.on rfl rfl rfl rfl (GO.lenS rfl rfl underlying41 rfl (GO.back (GO.on rfl rfl rfl rfl ?_))))))))))))))
    refine GO.gtr rfl rfl rfl rfl (GO.back (GO.ps 2 rfl (GO.known (t := 53) rfl (decide_eq_false c42) (GO.on rfl rfl rfl rfl (GO.fld (⟨b5, 4, none⟩) rfl rfl fl46_4 rfl rfl (GO.back (GO.on rfl rfl rfl rfl (GO.ldBox (j := 0) HS rfl rfl rfl rfl na41 rfl (GO.back (GO.on rfl rfl rfl rfl (GO.lenS rfl rfl underlying41 rfl (GO.back (GO.on rfl rfl rfl rfl (GO.gtr rfl rfl rfl rfl ?_))))))))))))))
    refine GO.back (GO.pickF rfl rfl rfl rfl rfl (GO.buildV (.agg [.bool (decide (0 < (e_Triangulation_Tets.length : Int))), .bool (!(decide (e_Diagram_Circles = 0))), .bool true, .bool (decide (0 < (e_Certificate_Perms.length : Int)))].toArray) rfl rfl (fun _ => by kernel_rfl) rfl (GO.stBox (j := 1) (vs := [.bool (decide (0 < (e_Triangulation_Tets.length : Int))), .bool (!(decide (e_Diagram_Circles = 0))), .bool true, .bool (decide (0 < (e_Certificate_Perms.length : Int)))]) ([.bool (decide (0 < (e_Triangulation_Tets.length : Int))), .bool (!(decide (e_Diagram_Circles = 0))), .bool true, .bool (decide (0 < (e_Certificate_Perms.length : Int)))]) HS rfl rfl rfl rfl rfl (htA ag164) rfl rfl rfl fun wd44 HS => GO.nil ?_)))
    obtain ⟨rfl, rfl, rfl, rfl⟩ := some4 H
    exact G.ret1 _ func137 rfl (Res1.boxA (j := 1) (vs := [.bool (decide (0 < (e_Triangulation_Tets.length : Int))), .bool (!(decide (e_Diagram_Circles = 0))), .bool true, .bool (decide (0 < (e_Certificate_Perms.length : Int)))]) HS rfl rfl rfl ag164) ⟨rfl, (HS.pk 3 [] rfl)⟩
   refine G.region (GO.fld (⟨b1, 2, none⟩) rfl rfl fl48_2 rfl rfl (GO.fld (⟨b1, 2, none⟩) rfl rfl fl37_0 rfl rfl (GO.ldBox (j := 2) HS rfl rfl rfl rfl na35 rfl (GO.lenS rfl rfl underlying35 rfl (GO.gtr rfl rfl rfl rfl (GO.fld (⟨b1, 3, none⟩) rfl rfl fl48_3 rfl rfl (GO.fld (⟨b1, 3, none⟩) rfl rfl fl40_0 rfl rfl (GO.ldBox (j := 2) HS rfl rfl rfl rfl na38 rfl (GO.lenS rfl rfl underlying38 rfl (GO.ps 2 rfl (GO.known (t := 16) rfl (decide_eq_false c8) (GO.on rfl rfl rfl rfl (GO.fld (⟨b1, 3, none⟩) rfl rfl fl48_3 rfl rfl (GO.back ?_))))))))))))))
   refine GO.on rfl rfl rfl rfl (GO.fld (⟨b1, 4, none⟩) rfl rfl fl40_1 rfl rfl (GO.back (GO.on rfl rfl rfl rfl (GO.ldBox (j := 2) HS rfl rfl rfl rfl na2 rfl (GO.back (GO.on rfl rfl rfl rfl (GO.neq rfl rfl rfl rfl (GO.back (GO.pickF rfl rfl rfl rfl rfl (GO.fld (⟨b1, 5, none⟩) rfl rfl fl48_4 rfl rfl (GO.fld (⟨b1, 5, none⟩) rfl rfl fl43_0 rfl rfl (GO.ldBox (j := 2) HS rfl rfl rfl rfl na2 rfl (GO.ps 2 rfl (GO.known (t := 26) rfl (congrArg Bool.not (decide_eq_false c28)) ?_))))))))))))))
   refine GO.off rfl rfl rfl rfl rfl rfl (GO.off rfl rfl rfl rfl rfl rfl (GO.off rfl rfl rfl rfl rfl rfl (GO.off rfl rfl rfl rfl rfl rfl (GO.off rfl rfl rfl rfl rfl rfl (GO.pickT rfl rfl rfl rfl rfl (GO.fld (⟨b5, 0, none⟩) rfl rfl fl46_0 rfl rfl (GO.ldBox (j := 0) HS rfl rfl rfl rfl na2 rfl (GO.ps 2 rfl (GO.known (t := 36) rfl (congrArg Bool.not (decide_eq_true c38)) (GO.on rfl rfl rfl rfl (GO.fld (⟨b5, 1, none⟩) rfl rfl fl46_1 rfl rfl (GO.back (GO.on rfl rfl rfl rfl (GO.ldBox (j := 0) HS rfl rfl rfl rfl na2 rfl ?_))))))))))))))
   refine GO.back (GO.on rfl rfl rfl rfl (GO.neq rfl rfl rfl rfl (GO.back (GO.ps 2 rfl (GO.known (t := 41) rfl (congrArg Bool.not (decide_eq_false c39)) (GO.off rfl rfl rfl rfl rfl rfl (GO.off rfl rfl rfl rfl rfl rfl (GO.off rfl rfl rfl rfl rfl rfl (GO.off rfl rfl rfl rfl rfl rfl (GO.ps 2 rfl (GO.off rfl rfl rfl rfl rfl rfl (GO.off rfl rfl rfl rfl rfl rfl (GO.off rfl rfl rfl rfl rfl rfl (GO.off rfl rfl rfl rfl rfl rfl ?_))))))))))))))
   refine GO.ps 2 rfl (GO.off rfl rfl rfl rfl rfl rfl (GO.off rfl rfl rfl rfl rfl rfl (GO.off rfl rfl rfl rfl rfl rfl (GO.off rfl rfl rfl rfl rfl rfl (GO.pickT rfl rfl rfl rfl rfl (GO.buildV (.agg [.bool (decide (0 < (e_Triangulation_Tets.length : Int))), .bool (!(decide (e_Diagram_Circles = 0))), .bool true, .bool true].toArray) rfl rfl (fun _ => by kernel_rfl) rfl (GO.stBox (j := 1) (vs := [.bool (decide (0 < (e_Triangulation_Tets.length : Int))), .bool (!(decide (e_Diagram_Circles = 0))), .bool true, .bool true]) ([.bool (decide (0 < (e_Triangulation_Tets.length : Int))), .bool (!(decide (e_Diagram_Circles = 0))), .bool true, .bool true]) HS rfl rfl rfl rfl rfl (htA ag164) rfl rfl rfl fun wd45 HS => GO.nil ?_)))))))
   obtain ⟨rfl, rfl, rfl, rfl⟩ := some4 H
   exact G.ret1 _ func137 rfl (Res1.boxA (j := 1) (vs := [.bool (decide (0 < (e_Triangulation_Tets.length : Int))), .bool (!(decide (e_Diagram_Circles = 0))), .bool true, .bool true]) HS rfl rfl rfl ag164) ⟨rfl, (HS.pk 3 [] rfl)⟩
  refine G.region (GO.fld (⟨b1, 2, none⟩) rfl rfl fl48_2 rfl rfl (GO.fld (⟨b1, 2, none⟩) rfl rfl fl37_0 rfl rfl (GO.ldBox (j := 2) HS rfl rfl rfl rfl na35 rfl (GO.lenS rfl rfl underlying35 rfl (GO.gtr rfl rfl rfl rfl (GO.fld (⟨b1, 3, none⟩) rfl rfl fl48_3 rfl rfl (GO.fld (⟨b1, 3, none⟩) rfl rfl fl40_0 rfl rfl (GO.ldBox (j := 2) HS rfl rfl rfl rfl na38 rfl (GO.lenS rfl rfl underlying38 rfl (GO.ps 2 rfl (GO.known (t := 16) rfl (decide_eq_false c8) (GO.on rfl rfl rfl rfl (GO.fld (⟨b1, 3, none⟩) rfl rfl fl48_3 rfl rfl (GO.back ?_))))))))))))))
  refine GO.on rfl rfl rfl rfl (GO.fld (⟨b1, 4, none⟩) rfl rfl fl40_1 rfl rfl (GO.back (GO.on rfl rfl rfl rfl (GO.ldBox (j := 2) HS rfl rfl rfl rfl na2 rfl (GO.back (GO.on rfl rfl rfl rfl (GO.neq rfl rfl rfl rfl (GO.back (GO.pickF rfl rfl rfl rfl rfl (GO.fld (⟨b1, 5, none⟩) rfl rfl fl48_4 rfl rfl (GO.fld (⟨b1, 5, none⟩) rfl rfl fl43_0 rfl rfl (GO.ldBox (j := 2) HS rfl rfl rfl rfl na2 rfl (GO.ps 2 rfl (GO.known (t := 26) rfl (congrArg Bool.not (decide_eq_false c28)) ?_))))))))))))))
  refine GO.off rfl rfl rfl rfl rfl rfl (GO.off rfl rfl rfl rfl rfl rfl (GO.off rfl rfl rfl rfl rfl rfl (GO.off rfl rfl rfl rfl rfl rfl (GO.off rfl rfl rfl rfl rfl rfl (GO.pickT rfl rfl rfl rfl rfl (GO.fld (⟨b5, 0, none⟩) rfl rfl fl46_0 rfl rfl (GO.ldBox (j := 0) HS rfl rfl rfl rfl na2 rfl (GO.ps 2 rfl (GO.known (t := 36) rfl (congrArg Bool.not (decide_eq_false c38)) (GO.off rfl rfl rfl rfl rfl rfl (GO.off rfl rfl rfl rfl rfl rfl (GO.off rfl rfl rfl rfl rfl rfl (GO.ps 2 rfl (GO.off rfl rfl rfl rfl rfl rfl ?_))))))))))))))
  refine GO.off rfl rfl rfl rfl rfl rfl (GO.off rfl rfl rfl rfl rfl rfl (GO.off rfl rfl rfl rfl rfl rfl (GO.ps 2 rfl (GO.off rfl rfl rfl rfl rfl rfl (GO.off rfl rfl rfl rfl rfl rfl (GO.off rfl rfl rfl rfl rfl rfl (GO.off rfl rfl rfl rfl rfl rfl (GO.ps 2 rfl (GO.off rfl rfl rfl rfl rfl rfl (GO.off rfl rfl rfl rfl rfl rfl (GO.off rfl rfl rfl rfl rfl rfl (GO.off rfl rfl rfl rfl rfl rfl (GO.pickT rfl rfl rfl rfl rfl (GO.buildV (.agg [.bool (decide (0 < (e_Triangulation_Tets.length : Int))), .bool (!(decide (e_Diagram_Circles = 0))), .bool true, .bool true].toArray) rfl rfl (fun _ => by kernel_rfl) rfl ?_))))))))))))))
  refine GO.stBox (j := 1) (vs := [.bool (decide (0 < (e_Triangulation_Tets.length : Int))), .bool (!(decide (e_Diagram_Circles = 0))), .bool true, .bool true]) ([.bool (decide (0 < (e_Triangulation_Tets.length : Int))), .bool (!(decide (e_Diagram_Circles = 0))), .bool true, .bool true]) HS rfl rfl rfl rfl rfl (htA ag164) rfl rfl rfl fun wd46 HS => GO.nil ?_
  obtain ⟨rfl, rfl, rfl, rfl⟩ := some4 H
  exact G.ret1 _ func137 rfl (Res1.boxA (j := 1) (vs := [.bool (decide (0 < (e_Triangulation_Tets.length : Int))), .bool (!(decide (e_Diagram_Circles = 0))), .bool true, .bool true]) HS rfl rfl rfl ag164) ⟨rfl, (HS.pk 3 [] rfl)⟩
theorem impl_isTriangulation_fn1.calls {w0 w : World} {L : List HObj} {faces : List GFace} {A_a : Option Addr} {c_a : Nat} {r1 : Bool} (HS : St w0 w (L)) (r_a : RdIn w0 L T_GFace A_a c_a (fun _ => ()) faces) (H : impl_isTriangulation_fn1.f faces = some r1) :
    Calls prog 160 #[.slice A_a faces.length c_a] w (impl_isTriangulation_fn1.post w0 L r1) := by
  unfold impl_isTriangulation_fn1.f at H
  refine Calls.of_G func160 rfl rfl rfl ?_
  refine G.run 3 rfl (G.region (GO.move rfl rfl rfl (GO.lenS rfl rfl underlying136 rfl (GO.ps 2 rfl (GO.nil ?_)))))
  obtain rfl := Option.some.inj H
  exact G.ret1 _ func160 rfl rfl ⟨rfl, HS⟩
theorem slices_IndexFunc_impl_Face_impl_Face_isTriangulation_fn1.calls {w0 w : World} {L : List HObj} {K : Nat} {s : List (List GFace)} {A_a : Option Addr} {c_a : Nat} {y_a : Nat → (Ty.slice 140 T_GFace).Lay} {r1 : Int} (HS : St w0 w (L)) (r_a : RdIn w0 L (Ty.slice 140 T_GFace) A_a c_a y_a s) (H : slices_IndexFunc_impl_Face_impl_Face_isTriangulation_fn1.f K s = some r1) :
    Calls prog 177 #[.slice A_a s.length c_a, .func (.func 160) #[] #[]] w (slices_IndexFunc_impl_Face_impl_Face_isTriangulation_fn1.post w0 L r1) := by
  unfold slices_IndexFunc_impl_Face_impl_Face_isTriangulation_fn1.f at H
  refine Calls.of_G func177 rfl rfl rfl ?_
  refine G.run 4 rfl (G.region (GO.move rfl rfl rfl (GO.lenS rfl rfl underlying35 rfl (GO.move rfl rfl rfl (GO.nil (G.run 2 rfl ?_))))))
  refine G.name (fun k_l1 hk_l1 => ?_)
  have at_l1 : ∀ m_l1, m_l1 ≤ K → ∀ (x8 : Int) (w : World), slices_IndexFunc_impl_Face_impl_Face_isTriangulation_fn1.l1 K m_l1 s x8 = some r1 → St w0 w (L) → G prog 177 19 [(0, .slice A_a s.length c_a), (1, .func (.func 160) #[] #[]), (7, .int .i64 (s.length : Int)), (8, .int .i64 x8)] k_l1 w (slices_IndexFunc_impl_Face_impl_Face_isTriangulation_fn1.post w0 L r1) := by
   intro m_l1
   induction m_l1 using Nat.strongRecOn with
   | _ m_l1 ih_l1 =>
    intro hm_l1 x8 w H HS
    cases m_l1 with
    | zero => rw [slices_IndexFunc_impl_Face_impl_Face_isTriangulation_fn1.l1] at H; cases H
    | succ n_l1 =>
     rw [slices_IndexFunc_impl_Face_impl_Face_isTriangulation_fn1.l1] at H
     subst hk_l1
     refine G.run 3 rfl ?_
     rcases ite_elim H with ⟨c16, H⟩ | ⟨c16, H⟩
     ·
      refine G.yesB rfl (decide_eq_true c16) (G.run 6 rfl ?_)
      obtain ⟨c17, H⟩ := ite_none H
      obtain ⟨t18, h19, H⟩ := Option.bind_eq_some_iff.1 H
      refine G.region (GO.ps 3 rfl (GO.ix rfl rfl rfl underlying35 sz136 (r_a _ HS).2.2.1 c17.1 c17.2 rfl (GO.ldRd (T := (Ty.slice 140 T_GFace)) (n := x8.toNat) (o := 0) HS r_a rfl rfl (getD_some (d := []) (ltN c17)) rfl rfl na136 rfl (GO.clo rfl rfl func160 fok160.1 fok160.2 rfl rfl (impl_isTriangulation_fn1.calls HS (RdIn.elem r_a c17.1 c17.2) h19) (fun _ wd20 ⟨h21, HS⟩ => ⟨_, h21, (GO.nil ?_)⟩)))))
      rcases ite_elim H with ⟨c22, H⟩ | ⟨c22, H⟩
      ·
       refine G.yesB rfl c22 (G.run 2 rfl ?_)
       obtain rfl := Option.some.inj H
       exact G.ret1 _ func177 rfl rfl ⟨rfl, HS⟩
      refine G.noB rfl (bnot_of c22) (G.run 4 rfl (G.weak ?_ (ih_l1 n_l1 (Nat.lt_succ_of_le (Nat.le_refl _)) (Nat.le_of_succ_le hm_l1) _ _ H HS)))
      exact ⟨rfl, rfl, rfl, rfl, trivial⟩
     refine G.noB rfl (decide_eq_false c16) (G.run 3 rfl ?_)
     obtain rfl := Option.some.inj H
     exact G.ret1 _ func177 rfl rfl ⟨rfl, HS⟩
  refine G.weak ?_ (at_l1 K (Nat.le_refl _) _ _ H HS)
  exact ⟨rfl, rfl, rfl, rfl, trivial⟩
theorem slices_ContainsFunc_impl_Face_impl_Face_isTriangulation_fn1.calls {w0 w : World} {L : List HObj} {K : Nat} {s : List (List GFace)} {A_a : Option Addr} {c_a : Nat} {y_a : Nat → (Ty.slice 140 T_GFace).Lay} {r1 : Bool} (HS : St w0 w (L)) (r_a : RdIn w0 L (Ty.slice 140 T_GFace) A_a c_a y_a s) (H : slices_ContainsFunc_impl_Face_impl_Face_isTriangulation_fn1.f K s = some r1) :
    Calls prog 159 #[.slice A_a s.length c_a, .func (.func 160) #[] #[]] w (slices_ContainsFunc_impl_Face_impl_Face_isTriangulation_fn1.post w0 L r1) := by
  unfold slices_ContainsFunc_impl_Face_impl_Face_isTriangulation_fn1.f at H
  refine Calls.of_G func159 rfl rfl rfl ?_
  refine G.run 3 rfl ?_
  obtain ⟨t1, h2, H⟩ := Option.bind_eq_some_iff.1 H
  refine G.region (GO.ps 2 rfl (GO.fn rfl func177 fok177.1 fok177.2 rfl rfl (slices_IndexFunc_impl_Face_impl_Face_isTriangulation_fn1.calls HS r_a h2) (fun _ wd3 ⟨h4, HS⟩ => ⟨_, h4, (GO.ps 2 rfl (GO.nil ?_))⟩)))
  obtain rfl := Option.some.inj H
  exact G.ret1 _ func159 rfl rfl ⟨rfl, HS⟩
theorem impl_size_impl_Face.calls {w0 w : World} {L : List HObj} {list : List (List GFace)} {A_a : Option Addr} {c_a : Nat} {y_a : Nat → (Ty.slice 140 T_GFace).Lay} {r1 : Int} (HS : St w0 w (L)) (r_a : RdIn w0 L (Ty.slice 140 T_GFace) A_a c_a y_a list) (H : impl_size_impl_Face.f list = some r1) :
    Calls prog 161 #[.slice A_a list.length c_a] w (impl_size_impl_Face.post w0 L r1) := by
  unfold impl_size_impl_Face.f at H
  refine Calls.of_G func161 rfl rfl rfl ?_
  refine G.run 3 rfl (G.region (GO.move rfl rfl rfl (GO.lenS rfl rfl underlying35 rfl (GO.assign rfl rfl rfl (GO.nil ?_)))))
  obtain rfl := Option.some.inj H
  exact G.ret1 _ func161 rfl rfl ⟨rfl, HS⟩
theorem impl_hasIndex_impl_Face.calls {w0 w : World} {L : List HObj} {list : List (List GFace)} {i : Int} {A_a : Option Addr} {c_a : Nat} {y_a : Nat → (Ty.slice 140 T_GFace).Lay} {r1 : Bool} (HS : St w0 w (L)) (r_a : RdIn w0 L (Ty.slice 140 T_GFace) A_a c_a y_a list) (H : impl_hasIndex_impl_Face.f list i = some r1) :
    Calls prog 178 #[.slice A_a list.length c_a, .int .i64 i] w (impl_hasIndex_impl_Face.post w0 L r1) := by
  unfold impl_hasIndex_impl_Face.f at H
  refine Calls.of_G func178 rfl rfl rfl ?_
  refine G.run 3 rfl ?_
  obtain ⟨t1, h2, H⟩ := Option.bind_eq_some_iff.1 H
  obtain ⟨t5, h6, H⟩ := Option.bind_eq_some_iff.1 H
  refine G.region (GO.ps 2 rfl (GO.fn rfl func161 fok161.1 fok161.2 rfl rfl (impl_size_impl_Face.calls HS r_a h2) (fun _ wd3 ⟨h4, HS⟩ => ⟨_, h4, (GO.sub rfl rfl rfl rfl (GO.fn rfl func136 fok136.1 fok136.2 rfl rfl (impl_inRange.calls HS  h6) (fun _ wd7 ⟨h8, HS⟩ => ⟨_, h8, (GO.assign rfl rfl rfl (GO.nil ?_))⟩)))⟩)))
  obtain rfl := Option.some.inj H
  exact G.ret1 _ func178 rfl rfl ⟨rfl, HS⟩
theorem impl_isPerm.calls {w0 w : World} {L : List HObj} {p : Int} {r1 : Bool} (HS : St w0 w (L)) (H : impl_isPerm.f p = some r1) :
    Calls prog 173 #[.int .i64 p] w (impl_isPerm.post w0 L r1) := by
  unfold impl_isPerm.f at H
  refine Calls.of_G func173 rfl rfl rfl ?_
  refine G.run 3 rfl ?_
  obtain ⟨t1, h2, H⟩ := Option.bind_eq_some_iff.1 H
  refine G.region (GO.move rfl rfl rfl (GO.fn rfl func136 fok136.1 fok136.2 rfl rfl (impl_inRange.calls HS  h2) (fun _ wd3 ⟨h4, HS⟩ => ⟨_, h4, (GO.assign rfl rfl rfl (GO.nil ?_))⟩)))
  obtain rfl := Option.some.inj H
  exact G.ret1 _ func173 rfl rfl ⟨rfl, HS⟩
theorem slices_Delete_int64_int64.calls {w0 w : World} {L : List HObj} {s : List Int} {i j_ : Int} {A_a : Option Addr} {c_a : Nat} {r1 : List Int} (HS : St w0 w (Own (TInt .i64) 2 A_a c_a (fun _ => ()) s :: L)) (H : slices_Delete_int64_int64.f s i j_ = some r1) :
    Calls prog 207 #[.slice A_a s.length c_a, .int .i64 i, .int .i64 j_] w (slices_Delete_int64_int64.post w0 L r1) := by
  unfold slices_Delete_int64_int64.f at H
  refine Calls.of_G func207 rfl rfl rfl ?_
  refine G.run 3 rfl ?_
  obtain ⟨c1, H⟩ := ite_none H
  obtain ⟨c2, H⟩ := ite_none H
  refine G.region (GO.ps 4 rfl (GO.lenS rfl rfl underlying41 rfl (GO.slM rfl rfl rfl rfl rfl underlying41 sz2 c1 c2 (Int.ofNat_le.2 ((RdIn.own (j := 0) rfl) _ HS).1) rfl (GO.nil (G.run 3 rfl ?_)))))
  rcases ite_elim H with ⟨c3, H⟩ | ⟨c3, H⟩
  ·
   refine G.yesB rfl (decide_eq_true c3) (G.run 2 rfl ?_)
   obtain rfl := Option.some.inj H
   exact G.ret1 _ func207 rfl rfl ⟨_, _, rfl, HS⟩
  refine G.noB rfl (decide_eq_false c3) (G.run 2 rfl (G.region (GO.move rfl rfl rfl (GO.lenS rfl rfl underlying41 rfl (GO.assign rfl rfl rfl (GO.nil (G.seq ?_)))))))
  obtain ⟨c4, H⟩ := ite_none H
  obtain ⟨c5, H⟩ := ite_none H
  obtain ⟨c7, H⟩ := ite_none H
  have h8 := over_lenD c7 (leN c5)
  refine G.lex mixed [0, 1, 3, 4, 2, 5, 6, 7] (by kernel_rfl) ?_
  replace HS := HS.drew
  refine GX.ps 4 rfl (GX.l1 rfl rfl rfl (fun _ g => GO.slH (T := (TInt .i64)) HS (RdIn.own (j := 0) rfl) rfl rfl rfl underlying41 sz2 c4.1 c4.2 rfl g) rfl (GX.l1 rfl rfl rfl (fun _ g => GO.slL (T := (TInt .i64)) HS (RdIn.own (j := 0) rfl) rfl rfl rfl underlying41 sz2 c5.1 c5.2 rfl g) rfl (GX.l2 rfl (GO.appCut (T := (TInt .i64)) (j := 0) (i1 := i.toNat) (l1 := j_.toNat) HS rfl flat_flat (fun _ _ => rfl) rfl rfl rfl (by rw [List.drop_zero, List.length_take]; exact Nat.min_eq_left (leN c4)) (by rw [List.length_drop, List.take_length]) underlying41 inf2 c7 (leN c5) rfl fun wd6 HS => GX.fin trivial (GX.ps 1 rfl (GX.nil (G.seq ?_)))))))
  obtain ⟨c9, H⟩ := ite_none H
  obtain ⟨c10, H⟩ := ite_none H
  have h12 := over_lenR (xs := (over s i.toNat (s.drop j_.toNat))) (z := 0) (cutN (leNN c9) (leN c10))
  refine G.region (GO.ps 2 rfl (GO.lenS rfl rfl underlying41 rfl (GO.move rfl rfl rfl (GO.slCut (T := (TInt .i64)) (xs := (over s i.toNat (s.drop j_.toNat))) ((RdIn.own (j := 0) rfl) _ HS).1 rfl rfl rfl rfl underlying41 sz2 c9 c10 rfl (GO.clearC (T := (TInt .i64)) (j := 0) (l := ((((over s i.toNat (s.drop j_.toNat)).take (i.toNat + (s.length - j_.toNat))).drop 0).length : Int).toNat) 0 () HS rfl flat_flat rfl rfl underlying41 zr2 rfl rfl (cutC (leN c10) ((RdIn.own (j := 0) rfl) _ HS).1) (cutN (leNN c9) (leN c10)) (fun _ => rfl) fun wd11 HS => GO.nil ?_)))))
  obtain ⟨c13, H⟩ := ite_none H
  refine G.len (t := 0) (m := (((over (over s i.toNat (s.drop j_.toNat)) (((((over s i.toNat (s.drop j_.toNat)).take (i.toNat + (s.length - j_.toNat))).drop 0).length : Int).toNat) (List.replicate (((over s i.toNat (s.drop j_.toNat)).take ((s.length : Int).toNat)).drop (((((over s i.toNat (s.drop j_.toNat)).take (i.toNat + (s.length - j_.toNat))).drop 0).length : Int).toNat)).length 0)).take (i.toNat + (s.length - j_.toNat))).drop 0).length) rfl (lenCut h12) (G.run 2 rfl ?_)
  replace HS := HS.shrink (A' := (cutA A_a 0 c_a 1)) (c' := (c_a - 0)) (j := 0) (m := (i.toNat + (s.length - j_.toNat))) rfl flat_flat c13 (cutA_zero _ _ _) rfl
  obtain rfl := Option.some.inj H
  exact G.ret1 _ func207 rfl rfl ⟨_, _, rfl, HS⟩
theorem impl_perm.calls {w0 w : World} {L : List HObj} {K : Nat} {p r1 : Int} {r2 r3 r4 : Int} (HS : St w0 w (L)) (H : impl_perm.f K p = some (r1, r2, r3, r4)) :
    Calls prog 194 #[.int .i64 p] w (impl_perm.post w0 L r1 r2 r3 r4) := by
  unfold impl_perm.f at H
  refine Calls.of_G func194 rfl rfl rfl ?_
  refine G.seq (G.region (GO.alloc HS rfl zr214 rfl rfl fun b1 wd2 HS => GO.nil (G.seq (G.region (GO.alloc HS rfl zr214 rfl rfl fun b3 wd4 HS => GO.nil (G.seq (G.region (GO.buildS (el := 2) ([.int .i64 0, .int .i64 1, .int .i64 2, .int .i64 3]) HS rfl rfl (fun _ => by kernel_rfl) rfl fun b5 wd6 HS => ?_))))))))
  replace HS := HS.boxRow (T := (TInt .i64)) (j := 0) rfl flat_flat (fun _ => ()) ([0, 1, 2, 3] : List Int) rfl (bndL rfl)
  refine GO.lenC (t := 8) (m := ([0, 1, 2, 3] : List Int).length) (c' := ([0, 1, 2, 3] : List Int).length) rfl rfl rfl (GO.assign rfl rfl rfl (GO.nil (G.run 2 rfl (G.region (GO.buildS (el := 2) ([.int .i64 6, .int .i64 2, .int .i64 1, .int .i64 1]) HS rfl rfl (fun _ => by kernel_rfl) rfl fun b7 wd8 HS => GO.lenS rfl rfl underlying41 rfl (GO.move rfl rfl rfl (GO.nil (G.run 2 rfl ?_))))))))
  replace HS := HS.boxRow (T := (TInt .i64)) (j := 0) rfl flat_flat (fun _ => ()) ([6, 2, 1, 1] : List Int) rfl (bndL rfl)
  refine G.lenC (t := 9) (m := ([6, 2, 1, 1] : List Int).length) (c' := ([6, 2, 1, 1] : List Int).length) rfl rfl rfl ?_
  refine G.name (fun k_l1 hk_l1 => ?_)
  have at_l1 : ∀ m_l1, m_l1 ≤ K → ∀ (p_19 out_20 : Int) (A21 : Option Addr) (c22 : Nat) (left_23 : List Int) (x24 out_62 : Int) (out_63 out_64 : Int) (w : World), impl_perm.l1 K m_l1 p_19 out_20 left_23 x24 out_62 out_63 out_64 = some (r1, r2, r3, r4) → St w0 w (Box b1 214 [.int .i64 0, .int .i64 0, .int .i64 0, .int .i64 0] :: Box b3 214 [.int .i64 out_20, .int .i64 out_62, .int .i64 out_63, .int .i64 out_64] :: Own (TInt .i64) 2 A21 c22 (fun _ => ()) left_23 :: Own (TInt .i64) 2 (some ⟨b7, 0, none⟩) (([6, 2, 1, 1] : List Int).length) (fun _ => ()) ([6, 2, 1, 1] : List Int) :: L) → G prog 194 35 [(0, .int .i64 p_19), (2, .pointer (some ⟨b1, 0, none⟩)), (3, .pointer (some ⟨b3, 0, none⟩)), (4, .slice A21 left_23.length c22), (9, .slice (some ⟨b7, 0, none⟩) ([6, 2, 1, 1] : List Int).length (([6, 2, 1, 1] : List Int).length)), (10, .int .i64 4), (11, .int .i64 x24)] k_l1 w (impl_perm.post w0 L r1 r2 r3 r4) := by
   intro m_l1
   induction m_l1 using Nat.strongRecOn with
   | _ m_l1 ih_l1 =>
    intro hm_l1 p_19 out_20 A21 c22 left_23 x24 out_62 out_63 out_64 w H HS
    cases m_l1 with
    | zero => rw [impl_perm.l1] at H; cases H
    | succ n_l1 =>
     rw [impl_perm.l1] at H
     subst hk_l1
     refine G.run 3 rfl ?_
     rcases ite_elim H with ⟨c102, H⟩ | ⟨c102, H⟩
     ·
      refine G.yesB rfl (decide_eq_true c102) (G.run 4 rfl ?_)
      obtain ⟨c103, H⟩ := ite_none H
      refine G.region (GO.move rfl rfl rfl (GO.ix rfl rfl rfl underlying41 sz2 (fun _ => ⟨_, _, rfl⟩) c103.1 c103.2 rfl (GO.ldRd (T := (TInt .i64)) (n := x24.toNat) (o := 0) HS (RdIn.own (j := 3) rfl) rfl rfl (getD_some (d := 0) (ltN c103)) rfl rfl na2 rfl (GO.ps 2 rfl (GO.nil (G.seq ?_))))))
      obtain ⟨c104, H⟩ := ite_some H
      refine G.region (GO.ps 2 rfl (GO.quo rfl rfl rfl c104 rfl (GO.assign rfl rfl rfl (GO.nil (G.seq (G.region (GO.ps 2 rfl (GO.rem rfl rfl rfl c104 rfl (GO.assign rfl rfl rfl (GO.nil (G.seq ?_)))))))))))
      obtain ⟨c105, H⟩ := ite_none H
      rcases ite_elim H with ⟨c106, H⟩ | ⟨c106, H⟩
      ·
       refine G.region (GO.ps 3 rfl (GO.ix rfl rfl rfl underlying41 sz2 ((RdIn.own (j := 2) rfl) _ HS).2.2.1 c105.1 c105.2 rfl (GO.ldRd (T := (TInt .i64)) (n := (w64 (p_19.tdiv (([6, 2, 1, 1] : List Int).getD x24.toNat 0))).toNat) (o := 0) HS (RdIn.own (j := 2) rfl) rfl rfl (getD_some (d := 0) (ltN c105)) rfl rfl na2 rfl (GO.ixP 0 rfl rfl rfl c106 underlying214 sz2 rfl rfl (GO.stBox (j := 1) (vs := [.int .i64 (left_23.getD ((w64 (p_19.tdiv (([6, 2, 1, 1] : List Int).getD x24.toNat 0))).toNat) 0)]) ([.int .i64 (left_23.getD ((w64 (p_19.tdiv (([6, 2, 1, 1] : List Int).getD x24.toNat 0))).toNat) 0), .int .i64 out_62, .int .i64 out_63, .int .i64 out_64]) HS rfl rfl rfl rfl rfl (htN na2 rfl) rfl rfl rfl fun wd107 HS => GO.nil ?_)))))
       obtain ⟨t108, h109, H⟩ := Option.bind_eq_some_iff.1 H
       refine G.region (GO.ps 4 rfl ?_)
       replace HS := HS.pk 4 [2, 0, 1, 3] rfl
       refine GO.fn rfl func207 fok207.1 fok207.2 rfl rfl (slices_Delete_int64_int64.calls HS  h109) (fun _ wd112 ⟨A110, c111, h113, HS⟩ => ⟨_, h113, (GO.assign rfl rfl rfl (GO.nil (G.run 3 rfl (G.weak ?_ (ih_l1 n_l1 (Nat.lt_succ_of_le (Nat.le_refl _)) (Nat.le_of_succ_le hm_l1) _ _ _ _ _ _ _ _ _ _ H (HS.pk 4 [1, 2, 0, 3] rfl))))))⟩)
       exact ⟨rfl, rfl, rfl, rfl, rfl, rfl, rfl, trivial⟩
      rcases ite_elim H with ⟨c114, H⟩ | ⟨c114, H⟩
      ·
       refine G.region (GO.ps 3 rfl (GO.ix rfl rfl rfl underlying41 sz2 ((RdIn.own (j := 2) rfl) _ HS).2.2.1 c105.1 c105.2 rfl (GO.ldRd (T := (TInt .i64)) (n := (w64 (p_19.tdiv (([6, 2, 1, 1] : List Int).getD x24.toNat 0))).toNat) (o := 0) HS (RdIn.own (j := 2) rfl) rfl rfl (getD_some (d := 0) (ltN c105)) rfl rfl na2 rfl (GO.ixP 1 rfl rfl rfl c114 underlying214 sz2 rfl rfl (GO.stBox (j := 1) (vs := [.int .i64 (left_23.getD ((w64 (p_19.tdiv (([6, 2, 1, 1] : List Int).getD x24.toNat 0))).toNat) 0)]) ([.int .i64 out_20, .int .i64 (left_23.getD ((w64 (p_19.tdiv (([6, 2, 1, 1] : List Int).getD x24.toNat 0))).toNat) 0), .int .i64 out_63, .int .i64 out_64]) HS rfl rfl rfl rfl rfl (htN na2 rfl) rfl rfl rfl fun wd115 HS => GO.nil ?_)))))
       obtain ⟨t116, h117, H⟩ := Option.bind_eq_some_iff.1 H
       refine G.region (GO.ps 4 rfl ?_)
       replace HS := HS.pk 4 [2, 0, 1, 3] rfl
       refine GO.fn rfl func207 fok207.1 fok207.2 rfl rfl (slices_Delete_int64_int64.calls HS  h117) (fun _ wd120 ⟨A118, c119, h121, HS⟩ => ⟨_, h121, (GO.assign rfl rfl rfl (GO.nil (G.run 3 rfl (G.weak ?_ (ih_l1 n_l1 (Nat.lt_succ_of_le (Nat.le_refl _)) (Nat.le_of_succ_le hm_l1) _ _ _ _ _ _ _ _ _ _ H (HS.pk 4 [1, 2, 0, 3] rfl))))))⟩)
       exact ⟨rfl, rfl, rfl, rfl, rfl, rfl, rfl, trivial⟩
      rcases ite_elim H with ⟨c122, H⟩ | ⟨c122, H⟩
      ·
       refine G.region (GO.ps 3 rfl (GO.ix rfl rfl rfl underlying41 sz2 ((RdIn.own (j := 2) rfl) _ HS).2.2.1 c105.1 c105.2 rfl (GO.ldRd (T := (TInt .i64)) (n := (w64 (p_19.tdiv (([6, 2, 1, 1] : List Int).getD x24.toNat 0))).toNat) (o := 0) HS (RdIn.own (j := 2) rfl) rfl rfl (getD_some (d := 0) (ltN c105)) rfl rfl na2 rfl (GO.ixP 2 rfl rfl rfl c122 underlying214 sz2 rfl rfl (GO.stBox (j := 1) (vs := [.int .i64 (left_23.getD ((w64 (p_19.tdiv (([6, 2, 1, 1] : List Int).getD x24.toNat 0))).toNat) 0)]) ([.int .i64 out_20, .int .i64 out_62, .int .i64 (left_23.getD ((w64 (p_19.tdiv (([6, 2, 1, 1] : List Int).getD x24.toNat 0))).toNat) 0), .int .i64 out_64]) HS rfl rfl rfl rfl rfl (htN na2 rfl) rfl rfl rfl fun wd123 HS => GO.nil ?_)))))
       obtain ⟨t124, h125, H⟩ := Option.bind_eq_some_iff.1 H
       refine G.region (GO.ps 4 rfl ?_)
       replace HS := HS.pk 4 [2, 0, 1, 3] rfl
       refine GO.fn rfl func207 fok207.1 fok207.2 rfl rfl (slices_Delete_int64_int64.calls HS  h125) (fun _ wd128 ⟨A126, c127, h129, HS⟩ => ⟨_, h129, (GO.assign rfl rfl rfl (GO.nil (G.run 3 rfl (G.weak ?_ (ih_l1 n_l1 (Nat.lt_succ_of_le (Nat.le_refl _)) (Nat.le_of_succ_le hm_l1) _ _ _ _ _ _ _ _ _ _ H (HS.pk 4 [1, 2, 0, 3] rfl))))))⟩)
       exact ⟨rfl, rfl, rfl, rfl, rfl, rfl, rfl, trivial⟩
      rcases ite_elim H with ⟨c130, H⟩ | ⟨c130, H⟩
      ·
       refine G.region (GO.ps 3 rfl (GO.ix rfl rfl rfl underlying41 sz2 ((RdIn.own (j := 2) rfl) _ HS).2.2.1 c105.1 c105.2 rfl (GO.ldRd (T := (TInt .i64)) (n := (w64 (p_19.tdiv (([6, 2, 1, 1] : List Int).getD x24.toNat 0))).toNat) (o := 0) HS (RdIn.own (j := 2) rfl) rfl rfl (getD_some (d := 0) (ltN c105)) rfl rfl na2 rfl (GO.ixP 3 rfl rfl rfl c130 underlying214 sz2 rfl rfl (GO.stBox (j := 1) (vs := [.int .i64 (left_23.getD ((w64 (p_19.tdiv (([6, 2, 1, 1] : List Int).getD x24.toNat 0))).toNat) 0)]) ([.int .i64 out_20, .int .i64 out_62, .int .i64 out_63, .int .i64 (left_23.getD ((w64 (p_19.tdiv (([6, 2, 1, 1] : List Int).getD x24.toNat 0))).toNat) 0)]) HS rfl rfl rfl rfl rfl (htN na2 rfl) rfl rfl rfl fun wd131 HS => GO.nil ?_)))))
       obtain ⟨t132, h133, H⟩ := Option.bind_eq_some_iff.1 H
       refine G.region (GO.ps 4 rfl ?_)
       replace HS := HS.pk 4 [2, 0, 1, 3] rfl
       refine GO.fn rfl func207 fok207.1 fok207.2 rfl rfl (slices_Delete_int64_int64.calls HS  h133) (fun _ wd136 ⟨A134, c135, h137, HS⟩ => ⟨_, h137, (GO.assign rfl rfl rfl (GO.nil (G.run 3 rfl (G.weak ?_ (ih_l1 n_l1 (Nat.lt_succ_of_le (Nat.le_refl _)) (Nat.le_of_succ_le hm_l1) _ _ _ _ _ _ _ _ _ _ H (HS.pk 4 [1, 2, 0, 3] rfl))))))⟩)
       exact ⟨rfl, rfl, rfl, rfl, rfl, rfl, rfl, trivial⟩
      cases H
     refine G.noB rfl (decide_eq_false c102) (G.run 2 rfl (G.region (GO.ldBoxA (j := 1) ([.int .i64 out_20, .int .i64 out_62, .int .i64 out_63, .int .i64 out_64]) HS rfl rfl rfl rfl ag214 rfl (GO.stBox (j := 0) (vs := [.int .i64 out_20, .int .i64 out_62, .int .i64 out_63, .int .i64 out_64]) ([.int .i64 out_20, .int .i64 out_62, .int .i64 out_63, .int .i64 out_64]) HS rfl rfl rfl rfl rfl (htA ag214) rfl rfl rfl fun wd138 HS => GO.nil ?_))))
     obtain ⟨rfl, rfl, rfl, rfl⟩ := some4 H
     exact G.ret1 _ func194 rfl (Res1.boxA (j := 0) (vs := [.int .i64 out_20, .int .i64 out_62, .int .i64 out_63, .int .i64 out_64]) HS rfl rfl rfl ag214) ⟨rfl, (HS.pk 4 [] rfl)⟩
  refine G.weak ?_ (at_l1 K (Nat.le_refl _) _ _ _ _ _ _ _ _ _ _ H (HS.pk 4 [3, 2, 1, 0] rfl))
  exact ⟨rfl, rfl, rfl, rfl, rfl, rfl, rfl, trivial⟩
end Go.Proofs.YthjomdggdaocgaaGreatDoor
