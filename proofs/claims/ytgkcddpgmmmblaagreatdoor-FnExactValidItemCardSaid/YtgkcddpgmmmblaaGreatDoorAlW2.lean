/-
  The walks through the functions: a call comes to what its list function says.
-/
import Derived.Test.YtgkcddpgmmmblaaGreatDoorAlF
import Derived.Test.YtgkcddpgmmmblaaGreatDoorAlW1
set_option linter.unusedVariables false
set_option linter.unusedSimpArgs false
namespace Go.Proofs.YtgkcddpgmmmblaaGreatDoor
open Go.RowKit
open Tryz
set_option maxRecDepth 20000
set_option maxHeartbeats 40000000
theorem spec_l07Digit.calls {w0 w : World} {L : List HObj} {n_ : Int} {r1 : ByteArray} (HS : St w0 w (L)) (H : spec_l07Digit.f n_ = some r1) :
    Calls prog 177 #[.int .i64 n_] w (spec_l07Digit.post w0 L r1) := by
  unfold spec_l07Digit.f at H
  refine Calls.of_G func177 rfl rfl rfl ?_
  refine G.run 3 rfl (G.region (GO.ps 2 rfl (GO.conv rfl rfl underlying2 underlying5 rfl (GO.buildS (el := 5) ([.int .u8 (IntKind.wrap .u8 (w64 (48 + n_)))]) HS rfl rfl (fun _ => by kernel_rfl) rfl fun b1 wd2 HS => ?_))))
  replace HS := HS.boxRow (T := (TInt .u8)) (j := 0) rfl flat_flat (fun _ => ()) ([IntKind.wrap .u8 (w64 (48 + n_))] : List Int) rfl (bndL rfl)
  refine GO.lenC (t := 6) (m := ([IntKind.wrap .u8 (w64 (48 + n_))] : List Int).length) (c' := ([IntKind.wrap .u8 (w64 (48 + n_))] : List Int).length) rfl rfl rfl (GO.bytesStr HS (RdIn.own (j := 0) rfl) rfl rfl underlying90 underlying5 underlying9 rfl (GO.assign rfl rfl rfl (GO.nil ?_)))
  obtain rfl := Option.some.inj H
  exact G.ret1 _ func177 rfl rfl ⟨rfl, (HS.pk 1 [] rfl)⟩
theorem spec_MoveText.calls {w0 w : World} {L : List HObj} {K : Nat} {m_Kind m_Tet m_Index : Int} {r1 : ByteArray} (HS : St w0 w (L)) (H : spec_MoveText.f K m_Kind m_Tet m_Index = some r1) :
    Calls prog 140 #[.agg [.int .i64 m_Kind, .int .i64 m_Tet, .int .i64 m_Index].toArray] w (spec_MoveText.post w0 L r1) := by
  unfold spec_MoveText.f at H
  refine Calls.of_G func140 rfl rfl rfl ?_
  refine G.seq (G.region (GO.box (cs := [.int .i64 m_Kind, .int .i64 m_Tet, .int .i64 m_Index]) HS rfl rfl rfl rfl fun b1 wd2 HS => GO.assign rfl rfl rfl (GO.nil (G.run 2 rfl ?_))))
  obtain ⟨t21, h22, H⟩ := Option.bind_eq_some_iff.1 H
  rcases ite_elim H with ⟨c25, H⟩ | ⟨c25, H⟩
  ·
   refine G.lexS mixed (fun w => St w0 w (Box b1 176 [.int .i64 m_Kind, .int .i64 m_Tet, .int .i64 m_Index] :: L)) [1, 6, 12, 14] [0, 1, 2, 3, 4, 5, 6, 7, 8, 9, 10, 11, 13, 12, 14, 15, 16, 17, 18] 19 (by kernel_rfl) (by kernel_rfl) HS.drew ?_
   replace HS := HS.drew
   refine GX.l0 rfl rfl (fun _ _ g => GO.fld (⟨b1, 0, none⟩) rfl rfl fl176_0 rfl rfl g) rfl (GX.ls rfl rfl rfl HS (fun _ HS _ g => GO.ldBox (j := 0) HS rfl rfl rfl rfl na2 rfl g) rfl (GX.l2 rfl (GO.fn rfl func202 fok202.1 fok202.2 rfl rfl (spec_l12Most.calls HS  h22) (fun _ wd23 ⟨h24, HS⟩ => ⟨_, h24, (GX.fin HS (GX.ps 1 rfl (GX.l0 rfl rfl (fun _ _ g => GO.move rfl rfl rfl (GO.known (t := 7) rfl (decide_eq_true c25) g)) rfl (GX.l0 rfl rfl (fun _ _ g => GO.off rfl rfl rfl rfl rfl rfl g) rfl (GX.ls rfl rfl rfl HS (fun _ HS _ g => GO.off rfl rfl rfl rfl rfl rfl g) rfl (GX.l2 rfl (GO.off rfl rfl rfl rfl rfl rfl (GX.fin HS (GX.l0 rfl rfl (fun _ _ g => GO.off rfl rfl rfl rfl rfl rfl g) rfl (GX.ps 2 rfl (GX.l0 rfl rfl (fun _ _ g => GO.off rfl rfl rfl rfl rfl rfl g) rfl ?_)))))))))))⟩))))
   refine GX.l0 rfl rfl (fun _ _ g => GO.off rfl rfl rfl rfl rfl rfl g) rfl (GX.ls rfl rfl rfl HS (fun _ HS _ g => GO.off rfl rfl rfl rfl rfl rfl g) rfl (GX.ls rfl rfl rfl HS (fun _ HS _ g => GO.off rfl rfl rfl rfl rfl rfl g) rfl (GX.l2 rfl (GO.off rfl rfl rfl rfl rfl rfl (GX.fin HS (GX.l2 rfl (GO.off rfl rfl rfl rfl rfl rfl (GX.fin HS (GX.l0 rfl rfl (fun _ _ g => GO.off rfl rfl rfl rfl rfl rfl g) rfl (GX.ps 1 rfl (GX.nil (G.run 3 rfl ?_))))))))))))
   obtain rfl := Option.some.inj H
   exact G.ret1 _ func140 rfl rfl ⟨rfl, (HS.pk 1 [] rfl)⟩
  obtain ⟨t26, h27, H⟩ := Option.bind_eq_some_iff.1 H
  rcases ite_elim H with ⟨c30, H⟩ | ⟨c30, H⟩
  ·
   obtain ⟨t31, h32, H⟩ := Option.bind_eq_some_iff.1 H
   obtain ⟨t35, h36, H⟩ := Option.bind_eq_some_iff.1 H
   refine G.lexS mixed (fun w => St w0 w (Box b1 176 [.int .i64 m_Kind, .int .i64 m_Tet, .int .i64 m_Index] :: L)) [1, 6, 12, 14] [0, 1, 2, 3, 4, 5, 6, 7, 8, 9, 10, 11, 13, 12, 14, 15, 16, 17, 18] 19 (by kernel_rfl) (by kernel_rfl) HS.drew ?_
   replace HS := HS.drew
   refine GX.l0 rfl rfl (fun _ _ g => GO.fld (⟨b1, 0, none⟩) rfl rfl fl176_0 rfl rfl g) rfl (GX.ls rfl rfl rfl HS (fun _ HS _ g => GO.ldBox (j := 0) HS rfl rfl rfl rfl na2 rfl g) rfl (GX.l2 rfl (GO.fn rfl func202 fok202.1 fok202.2 rfl rfl (spec_l12Most.calls HS  h22) (fun _ wd23 ⟨h24, HS⟩ => ⟨_, h24, (GX.fin HS (GX.ps 1 rfl (GX.l0 rfl rfl (fun _ _ g => GO.move rfl rfl rfl (GO.known (t := 7) rfl (decide_eq_false c25) g)) rfl (GX.l0 rfl rfl (fun _ _ g => GO.on rfl rfl rfl rfl (GO.fld (⟨b1, 1, none⟩) rfl rfl fl176_1 rfl rfl (GO.back g))) rfl (GX.ls rfl rfl rfl HS (fun _ HS _ g => GO.on rfl rfl rfl rfl (GO.ldBox (j := 0) HS rfl rfl rfl rfl na2 rfl (GO.back g))) rfl (GX.l2 rfl (GO.on rfl rfl rfl rfl (GO.fn rfl func131 fok131.1 fok131.2 rfl rfl (spec_l07In.calls HS  h27) (fun _ wd28 ⟨h29, HS⟩ => ⟨_, h29, (GO.back (GX.fin HS (GX.l0 rfl rfl (fun _ _ g => GO.on rfl rfl rfl rfl (GO.not rfl rfl rfl (GO.back g))) rfl ?_)))⟩)))))))))⟩))))
   refine GX.ps 1 rfl (GX.l0 rfl rfl (fun _ _ g => GO.move rfl rfl rfl (GO.known (t := 13) rfl (congrArg Bool.not c30) g)) rfl (GX.l0 rfl rfl (fun _ _ g => GO.on rfl rfl rfl rfl (GO.fld (⟨b1, 2, none⟩) rfl rfl fl176_2 rfl rfl (GO.back g))) rfl (GX.l0 rfl rfl (fun _ _ g => GO.on rfl rfl rfl rfl (GO.fld (⟨b1, 0, none⟩) rfl rfl fl176_0 rfl rfl (GO.back g))) rfl (GX.ls rfl rfl rfl HS (fun _ HS _ g => GO.on rfl rfl rfl rfl (GO.ldBox (j := 0) HS rfl rfl rfl rfl na2 rfl (GO.back g))) rfl (GX.ls rfl rfl rfl HS (fun _ HS _ g => GO.on rfl rfl rfl rfl (GO.ldBox (j := 0) HS rfl rfl rfl rfl na2 rfl (GO.back g))) rfl (GX.l2 rfl (GO.on rfl rfl rfl rfl (GO.fn rfl func202 fok202.1 fok202.2 rfl rfl (spec_l12Most.calls HS  h32) (fun _ wd33 ⟨h34, HS⟩ => ⟨_, h34, (GO.back (GX.fin HS (GX.l2 rfl (GO.on rfl rfl rfl rfl (GO.fn rfl func131 fok131.1 fok131.2 rfl rfl (spec_l07In.calls HS  h36) (fun _ wd37 ⟨h38, HS⟩ => ⟨_, h38, (GO.back ?_)⟩))))))⟩)))))))))
   refine GX.fin HS (GX.l0 rfl rfl (fun _ _ g => GO.on rfl rfl rfl rfl (GO.not rfl rfl rfl (GO.back g))) rfl (GX.ps 1 rfl (GX.nil ?_)))
   rcases ite_elim H with ⟨c39, H⟩ | ⟨c39, H⟩
   ·
    refine G.noB rfl (congrArg Bool.not c39) (G.run 2 rfl ?_)
    obtain ⟨t40, h41, H⟩ := Option.bind_eq_some_iff.1 H
    obtain ⟨c46, H⟩ := ite_none H
    obtain ⟨c47, H⟩ := ite_none H
    obtain ⟨t48, h49, H⟩ := Option.bind_eq_some_iff.1 H
    obtain ⟨c52, H⟩ := ite_none H
    obtain ⟨c53, H⟩ := ite_none H
    obtain ⟨t54, h55, H⟩ := Option.bind_eq_some_iff.1 H
    obtain ⟨c58, H⟩ := ite_none H
    refine G.regionAny mixed (by decide) (fun b a w => ∃ (Y1_0 : Value) (Y2_1 : Value) (Y3_2 : Value) (Y4_3 : Value) (Y5_4 : Value) (Y6_5 : Value) (Y7_6 : Value) (Y8_7 : Value) (Y9_8 : Value) (Y10_9 : Value) (Y11_10 : Value) (Y12_11 : Value) (Y13_12 : Value) (Y14_13 : Value) (Y15_14 : Value) (Y16_15 : Value) (Y17_16 : Value) (A42 : Option Addr) (c43 : Nat) (O18_2 : HObj), Sat 38 [(2, Y17_16), (22, Y1_0), (23, Y2_1), (24, Y3_2), (25, Y4_3), (26, Y5_4), (27, Y6_5), (28, Y7_6), (29, Y8_7), (30, Y9_8), (31, Y10_9), (32, Y11_10), (33, Y12_11), (34, Y13_12), (35, Y14_13), (36, Y15_14), (37, Y16_15), (1, .pointer (some ⟨b1, 0, none⟩))] a ∧ St w0 w (Box b1 176 [.int .i64 m_Kind, .int .i64 m_Tet, .int .i64 m_Index] :: O18_2 :: L) ∧ (b 16 = true → Y17_16 = (.string ((((t40.getD ((w64 (m_Kind - 1)).toNat) ByteArray.empty ++ (⟨#[32]⟩ : ByteArray)) ++ t48) ++ (⟨#[32]⟩ : ByteArray)) ++ t54))) ∧ (b 0 = true → Y1_0 = (.slice A42 t40.length c43)) ∧ (b 1 = true → Y2_1 = (.pointer (some ⟨b1, 0, none⟩))) ∧ (b 2 = true → Y3_2 = (.int .i64 m_Kind)) ∧ (b 3 = true → Y4_3 = (.int .i64 (w64 (m_Kind - 1)))) ∧ (b 4 = true → Y5_4 = (.pointer (some (ea A42 (((w64 (m_Kind - 1)).toNat) * 1))))) ∧ (b 5 = true → Y6_5 = (.string (t40.getD ((w64 (m_Kind - 1)).toNat) ByteArray.empty))) ∧ (b 6 = true → Y7_6 = (.string (t40.getD ((w64 (m_Kind - 1)).toNat) ByteArray.empty ++ (⟨#[32]⟩ : ByteArray)))) ∧ (b 7 = true → Y8_7 = (.pointer (some ⟨b1, 1, none⟩))) ∧ (b 8 = true → Y9_8 = (.int .i64 m_Tet)) ∧ (b 9 = true → Y10_9 = (.string t48)) ∧ (b 10 = true → Y11_10 = (.string ((t40.getD ((w64 (m_Kind - 1)).toNat) ByteArray.empty ++ (⟨#[32]⟩ : ByteArray)) ++ t48))) ∧ (b 11 = true → Y12_11 = (.string (((t40.getD ((w64 (m_Kind - 1)).toNat) ByteArray.empty ++ (⟨#[32]⟩ : ByteArray)) ++ t48) ++ (⟨#[32]⟩ : ByteArray)))) ∧ (b 12 = true → Y13_12 = (.pointer (some ⟨b1, 2, none⟩))) ∧ (b 13 = true → Y14_13 = (.int .i64 m_Index)) ∧ (b 14 = true → Y15_14 = (.string t54)) ∧ (b 15 = true → Y16_15 = (.string ((((t40.getD ((w64 (m_Kind - 1)).toNat) ByteArray.empty ++ (⟨#[32]⟩ : ByteArray)) ++ t48) ++ (⟨#[32]⟩ : ByteArray)) ++ t54))) ∧ (b 0 = true → O18_2 = Own TStr 9 A42 c43 (fun _ => ()) t40)) ?_ ?_ ?_
    ·
     intro a hs
     obtain ⟨Y17_16, hs⟩ := hs.ext (d := 2) rfl
     obtain ⟨Y1_0, hs⟩ := hs.ext (d := 22) rfl
     obtain ⟨Y2_1, hs⟩ := hs.ext (d := 23) rfl
     obtain ⟨Y3_2, hs⟩ := hs.ext (d := 24) rfl
     obtain ⟨Y4_3, hs⟩ := hs.ext (d := 25) rfl
     obtain ⟨Y5_4, hs⟩ := hs.ext (d := 26) rfl
     obtain ⟨Y6_5, hs⟩ := hs.ext (d := 27) rfl
     obtain ⟨Y7_6, hs⟩ := hs.ext (d := 28) rfl
     obtain ⟨Y8_7, hs⟩ := hs.ext (d := 29) rfl
     obtain ⟨Y9_8, hs⟩ := hs.ext (d := 30) rfl
     obtain ⟨Y10_9, hs⟩ := hs.ext (d := 31) rfl
     obtain ⟨Y11_10, hs⟩ := hs.ext (d := 32) rfl
     obtain ⟨Y12_11, hs⟩ := hs.ext (d := 33) rfl
     obtain ⟨Y13_12, hs⟩ := hs.ext (d := 34) rfl
     obtain ⟨Y14_13, hs⟩ := hs.ext (d := 35) rfl
     obtain ⟨Y15_14, hs⟩ := hs.ext (d := 36) rfl
     obtain ⟨Y16_15, hs⟩ := hs.ext (d := 37) rfl
     exact ⟨Y1_0, Y2_1, Y3_2, Y4_3, Y5_4, Y6_5, Y7_6, Y8_7, Y9_8, Y10_9, Y11_10, Y12_11, Y13_12, Y14_13, Y15_14, Y16_15, Y17_16, none, 0, Emp, hs.weak ⟨rfl, rfl, rfl, rfl, rfl, rfl, rfl, rfl, rfl, rfl, rfl, rfl, rfl, rfl, rfl, rfl, rfl, rfl, trivial⟩, (HS.drew.emp.pk 2 [1, 0] rfl), fun h => Bool.noConfusion h, fun h => Bool.noConfusion h, fun h => Bool.noConfusion h, fun h => Bool.noConfusion h, fun h => Bool.noConfusion h, fun h => Bool.noConfusion h, fun h => Bool.noConfusion h, fun h => Bool.noConfusion h, fun h => Bool.noConfusion h, fun h => Bool.noConfusion h, fun h => Bool.noConfusion h, fun h => Bool.noConfusion h, fun h => Bool.noConfusion h, fun h => Bool.noConfusion h, fun h => Bool.noConfusion h, fun h => Bool.noConfusion h, fun h => Bool.noConfusion h, fun h => Bool.noConfusion h⟩
    ·
     intro j hj b a w
     refine exI fun Y1_0 => exI fun Y2_1 => exI fun Y3_2 => exI fun Y4_3 => exI fun Y5_4 => exI fun Y6_5 => exI fun Y7_6 => exI fun Y8_7 => exI fun Y9_8 => exI fun Y10_9 => exI fun Y11_10 => exI fun Y12_11 => exI fun Y13_12 => exI fun Y14_13 => exI fun Y15_14 => exI fun Y16_15 => exI fun Y17_16 => exI fun A42 => exI fun c43 => exI fun O18_2 => anI fun hs => anI fun HS => anI fun f16 => anI fun f0 => anI fun f1 => anI fun f2 => anI fun f3 => anI fun f4 => anI fun f5 => anI fun f6 => anI fun f7 => anI fun f8 => anI fun f9 => anI fun f10 => anI fun f11 => anI fun f12 => anI fun f13 => anI fun f14 => anI fun f15 => fun o2_0 hb hd hcl => ?_
     match j, hj with
     | 0, _ =>
      refine GO.at hs (GO.fn rfl func203 fok203.1 fok203.2 rfl rfl (spec_l12Names.calls HS  h41) (fun _ wd44 ⟨A42, c43, h45, HS⟩ => ⟨_, h45, (GO.fin (fun a hs => ⟨(.slice A42 t40.length c43), _, _, _, _, _, _, _, _, _, _, _, _, _, _, _, _, A42, c43, Own TStr 9 A42 c43 (fun _ => ()) t40, by exact hs.setAt 1 rfl, HS.pk 3 [1, 0] rfl, f16, fun _ => rfl, f1, f2, f3, fun hh => (Bool.noConfusion ((hcl 4 (by decide) hh 0 (by decide)).symm.trans hb)), f5, f6, f7, f8, f9, f10, f11, f12, f13, f14, f15, fun _ => rfl⟩))⟩))
     | 1, _ =>
      refine GO.at hs (GO.fld (⟨b1, 0, none⟩) rfl rfl fl176_0 rfl rfl (GO.fin (fun a hs => ⟨_, (.pointer (some ⟨b1, 0, none⟩)), _, _, _, _, _, _, _, _, _, _, _, _, _, _, _, A42, c43, _, by exact hs.setAt 2 rfl, HS, f16, f0, fun _ => rfl, f2, f3, f4, f5, f6, f7, f8, f9, f10, f11, f12, f13, f14, f15, o2_0⟩)))
     | 2, _ =>
      have hb1 : b 1 = true := hd 1 (by decide)
      obtain rfl := f1 hb1
      refine GO.at hs (GO.ldBox (j := 0) HS rfl rfl rfl rfl na2 rfl (GO.fin (fun a hs => ⟨_, _, (.int .i64 m_Kind), _, _, _, _, _, _, _, _, _, _, _, _, _, _, A42, c43, _, by exact hs.setAt 3 rfl, HS, f16, f0, f1, fun _ => rfl, f3, f4, f5, f6, f7, f8, f9, f10, f11, f12, f13, f14, f15, o2_0⟩)))
     | 3, _ =>
      have hb2 : b 2 = true := hd 2 (by decide)
      obtain rfl := f2 hb2
      refine GO.at hs (GO.sub rfl rfl rfl rfl (GO.fin (fun a hs => ⟨_, _, _, (.int .i64 (w64 (m_Kind - 1))), _, _, _, _, _, _, _, _, _, _, _, _, _, A42, c43, _, by exact hs.setAt 4 rfl, HS, f16, f0, f1, f2, fun _ => rfl, f4, f5, f6, f7, f8, f9, f10, f11, f12, f13, f14, f15, o2_0⟩)))
     | 4, _ =>
      have hb0 : b 0 = true := hd 0 (by decide)
      obtain rfl := f0 hb0
      have hb3 : b 3 = true := hd 3 (by decide)
      obtain rfl := f3 hb3
      obtain rfl := o2_0 hb0
      refine GO.at hs (GO.ix rfl rfl rfl underlying131 sz9 ((RdIn.own (j := 1) rfl) _ HS).2.2.1 c46.1 c46.2 rfl (GO.fin (fun a hs => ⟨_, _, _, _, (.pointer (some (ea A42 (((w64 (m_Kind - 1)).toNat) * 1)))), _, _, _, _, _, _, _, _, _, _, _, _, A42, c43, _, by exact hs.setAt 5 rfl, HS, f16, f0, f1, f2, f3, fun _ => rfl, f5, f6, f7, f8, f9, f10, f11, f12, f13, f14, f15, o2_0⟩)))
     | 5, _ =>
      have hb4 : b 4 = true := hd 4 (by decide)
      obtain rfl := f4 hb4
      have hb0 : b 0 = true := hcl 4 (by decide) (hd 4 (by decide)) 0 (by decide)
      obtain rfl := o2_0 hb0
      refine GO.at hs (GO.ldRd (T := TStr) (n := (w64 (m_Kind - 1)).toNat) (o := 0) HS (RdIn.own (j := 1) rfl) rfl rfl (getD_some (d := ByteArray.empty) (ltN c46)) rfl rfl na9 rfl (GO.fin (fun a hs => ⟨_, _, _, _, _, (.string (t40.getD ((w64 (m_Kind - 1)).toNat) ByteArray.empty)), _, _, _, _, _, _, _, _, _, _, _, A42, c43, _, by exact hs.setAt 6 rfl, HS, f16, f0, f1, f2, f3, f4, fun _ => rfl, f6, f7, f8, f9, f10, f11, f12, f13, f14, f15, o2_0⟩)))
     | 6, _ =>
      have hb5 : b 5 = true := hd 5 (by decide)
      obtain rfl := f5 hb5
      refine GO.at hs (GO.catS rfl rfl rfl c47 rfl (GO.fin (fun a hs => ⟨_, _, _, _, _, _, (.string (t40.getD ((w64 (m_Kind - 1)).toNat) ByteArray.empty ++ (⟨#[32]⟩ : ByteArray))), _, _, _, _, _, _, _, _, _, _, A42, c43, _, by exact hs.setAt 7 rfl, HS, f16, f0, f1, f2, f3, f4, f5, fun _ => rfl, f7, f8, f9, f10, f11, f12, f13, f14, f15, o2_0⟩)))
     | 7, _ =>
      refine GO.at hs (GO.fld (⟨b1, 1, none⟩) rfl rfl fl176_1 rfl rfl (GO.fin (fun a hs => ⟨_, _, _, _, _, _, _, (.pointer (some ⟨b1, 1, none⟩)), _, _, _, _, _, _, _, _, _, A42, c43, _, by exact hs.setAt 8 rfl, HS, f16, f0, f1, f2, f3, f4, f5, f6, fun _ => rfl, f8, f9, f10, f11, f12, f13, f14, f15, o2_0⟩)))
     | 8, _ =>
      have hb7 : b 7 = true := hd 7 (by decide)
      obtain rfl := f7 hb7
      refine GO.at hs (GO.ldBox (j := 0) HS rfl rfl rfl rfl na2 rfl (GO.fin (fun a hs => ⟨_, _, _, _, _, _, _, _, (.int .i64 m_Tet), _, _, _, _, _, _, _, _, A42, c43, _, by exact hs.setAt 9 rfl, HS, f16, f0, f1, f2, f3, f4, f5, f6, f7, fun _ => rfl, f9, f10, f11, f12, f13, f14, f15, o2_0⟩)))
     | 9, _ =>
      have hb8 : b 8 = true := hd 8 (by decide)
      obtain rfl := f8 hb8
      refine GO.at hs (GO.fn rfl func177 fok177.1 fok177.2 rfl rfl (spec_l07Digit.calls HS  h49) (fun _ wd50 ⟨h51, HS⟩ => ⟨_, h51, (GO.fin (fun a hs => ⟨_, _, _, _, _, _, _, _, _, (.string t48), _, _, _, _, _, _, _, A42, c43, _, by exact hs.setAt 10 rfl, HS, f16, f0, f1, f2, f3, f4, f5, f6, f7, f8, fun _ => rfl, f10, f11, f12, f13, f14, f15, o2_0⟩))⟩))
     | 10, _ =>
      have hb6 : b 6 = true := hd 6 (by decide)
      obtain rfl := f6 hb6
      have hb9 : b 9 = true := hd 9 (by decide)
      obtain rfl := f9 hb9
      refine GO.at hs (GO.catS rfl rfl rfl c52 rfl (GO.fin (fun a hs => ⟨_, _, _, _, _, _, _, _, _, _, (.string ((t40.getD ((w64 (m_Kind - 1)).toNat) ByteArray.empty ++ (⟨#[32]⟩ : ByteArray)) ++ t48)), _, _, _, _, _, _, A42, c43, _, by exact hs.setAt 11 rfl, HS, f16, f0, f1, f2, f3, f4, f5, f6, f7, f8, f9, fun _ => rfl, f11, f12, f13, f14, f15, o2_0⟩)))
     | 11, _ =>
      have hb10 : b 10 = true := hd 10 (by decide)
      obtain rfl := f10 hb10
      refine GO.at hs (GO.catS rfl rfl rfl c53 rfl (GO.fin (fun a hs => ⟨_, _, _, _, _, _, _, _, _, _, _, (.string (((t40.getD ((w64 (m_Kind - 1)).toNat) ByteArray.empty ++ (⟨#[32]⟩ : ByteArray)) ++ t48) ++ (⟨#[32]⟩ : ByteArray))), _, _, _, _, _, A42, c43, _, by exact hs.setAt 12 rfl, HS, f16, f0, f1, f2, f3, f4, f5, f6, f7, f8, f9, f10, fun _ => rfl, f12, f13, f14, f15, o2_0⟩)))
     | 12, _ =>
      refine GO.at hs (GO.fld (⟨b1, 2, none⟩) rfl rfl fl176_2 rfl rfl (GO.fin (fun a hs => ⟨_, _, _, _, _, _, _, _, _, _, _, _, (.pointer (some ⟨b1, 2, none⟩)), _, _, _, _, A42, c43, _, by exact hs.setAt 13 rfl, HS, f16, f0, f1, f2, f3, f4, f5, f6, f7, f8, f9, f10, f11, fun _ => rfl, f13, f14, f15, o2_0⟩)))
     | 13, _ =>
      have hb12 : b 12 = true := hd 12 (by decide)
      obtain rfl := f12 hb12
      refine GO.at hs (GO.ldBox (j := 0) HS rfl rfl rfl rfl na2 rfl (GO.fin (fun a hs => ⟨_, _, _, _, _, _, _, _, _, _, _, _, _, (.int .i64 m_Index), _, _, _, A42, c43, _, by exact hs.setAt 14 rfl, HS, f16, f0, f1, f2, f3, f4, f5, f6, f7, f8, f9, f10, f11, f12, fun _ => rfl, f14, f15, o2_0⟩)))
     | 14, _ =>
      have hb13 : b 13 = true := hd 13 (by decide)
      obtain rfl := f13 hb13
      refine GO.at hs (GO.fn rfl func177 fok177.1 fok177.2 rfl rfl (spec_l07Digit.calls HS  h55) (fun _ wd56 ⟨h57, HS⟩ => ⟨_, h57, (GO.fin (fun a hs => ⟨_, _, _, _, _, _, _, _, _, _, _, _, _, _, (.string t54), _, _, A42, c43, _, by exact hs.setAt 15 rfl, HS, f16, f0, f1, f2, f3, f4, f5, f6, f7, f8, f9, f10, f11, f12, f13, fun _ => rfl, f15, o2_0⟩))⟩))
     | 15, _ =>
      have hb11 : b 11 = true := hd 11 (by decide)
      obtain rfl := f11 hb11
      have hb14 : b 14 = true := hd 14 (by decide)
      obtain rfl := f14 hb14
      refine GO.at hs (GO.catS rfl rfl rfl c58 rfl (GO.fin (fun a hs => ⟨_, _, _, _, _, _, _, _, _, _, _, _, _, _, _, (.string ((((t40.getD ((w64 (m_Kind - 1)).toNat) ByteArray.empty ++ (⟨#[32]⟩ : ByteArray)) ++ t48) ++ (⟨#[32]⟩ : ByteArray)) ++ t54)), _, A42, c43, _, by exact hs.setAt 16 rfl, HS, f16, f0, f1, f2, f3, f4, f5, f6, f7, f8, f9, f10, f11, f12, f13, f14, fun _ => rfl, o2_0⟩)))
     | 16, _ =>
      have hb15 : b 15 = true := hd 15 (by decide)
      obtain rfl := f15 hb15
      refine GO.at hs (GO.assign rfl rfl rfl (GO.fin (fun a hs => ⟨_, _, _, _, _, _, _, _, _, _, _, _, _, _, _, _, (.string ((((t40.getD ((w64 (m_Kind - 1)).toNat) ByteArray.empty ++ (⟨#[32]⟩ : ByteArray)) ++ t48) ++ (⟨#[32]⟩ : ByteArray)) ++ t54)), A42, c43, _, by exact hs.setAt 0 rfl, HS, fun _ => rfl, f0, f1, f2, f3, f4, f5, f6, f7, f8, f9, f10, f11, f12, f13, f14, f15, o2_0⟩)))
     | k + 17, hj => exact absurd hj (Nat.not_lt.2 (Nat.le_add_left 17 k))
    ·
     intro b a w hall
     refine exI fun Y1_0 => exI fun Y2_1 => exI fun Y3_2 => exI fun Y4_3 => exI fun Y5_4 => exI fun Y6_5 => exI fun Y7_6 => exI fun Y8_7 => exI fun Y9_8 => exI fun Y10_9 => exI fun Y11_10 => exI fun Y12_11 => exI fun Y13_12 => exI fun Y14_13 => exI fun Y15_14 => exI fun Y16_15 => exI fun Y17_16 => exI fun A42 => exI fun c43 => exI fun O18_2 => anI fun hs => anI fun HS => anI fun f16 => anI fun f0 => anI fun f1 => anI fun f2 => anI fun f3 => anI fun f4 => anI fun f5 => anI fun f6 => anI fun f7 => anI fun f8 => anI fun f9 => anI fun f10 => anI fun f11 => anI fun f12 => anI fun f13 => anI fun f14 => anI fun f15 => fun o2_0 => ?_
     obtain rfl := f16 (hall 16 (by decide))
     obtain rfl := f0 (hall 0 (by decide))
     obtain rfl := f1 (hall 1 (by decide))
     obtain rfl := f2 (hall 2 (by decide))
     obtain rfl := f3 (hall 3 (by decide))
     obtain rfl := f4 (hall 4 (by decide))
     obtain rfl := f5 (hall 5 (by decide))
     obtain rfl := f6 (hall 6 (by decide))
     obtain rfl := f7 (hall 7 (by decide))
     obtain rfl := f8 (hall 8 (by decide))
     obtain rfl := f9 (hall 9 (by decide))
     obtain rfl := f10 (hall 10 (by decide))
     obtain rfl := f11 (hall 11 (by decide))
     obtain rfl := f12 (hall 12 (by decide))
     obtain rfl := f13 (hall 13 (by decide))
     obtain rfl := f14 (hall 14 (by decide))
     obtain rfl := f15 (hall 15 (by decide))
     obtain rfl := o2_0 (hall 0 (by decide))
     refine G.at hs ?_
     obtain rfl := Option.some.inj H
     exact G.ret1 _ func140 rfl rfl ⟨rfl, (HS.pk 2 [] rfl)⟩
   refine G.yesB rfl (congrArg Bool.not (bnot_of c39)) (G.run 2 rfl ?_)
   obtain rfl := Option.some.inj H
   exact G.ret1 _ func140 rfl rfl ⟨rfl, (HS.pk 1 [] rfl)⟩
  refine G.lexS mixed (fun w => St w0 w (Box b1 176 [.int .i64 m_Kind, .int .i64 m_Tet, .int .i64 m_Index] :: L)) [1, 6, 12, 14] [0, 1, 2, 3, 4, 5, 6, 7, 8, 9, 10, 11, 13, 12, 14, 15, 16, 17, 18] 19 (by kernel_rfl) (by kernel_rfl) HS.drew ?_
  replace HS := HS.drew
  refine GX.l0 rfl rfl (fun _ _ g => GO.fld (⟨b1, 0, none⟩) rfl rfl fl176_0 rfl rfl g) rfl (GX.ls rfl rfl rfl HS (fun _ HS _ g => GO.ldBox (j := 0) HS rfl rfl rfl rfl na2 rfl g) rfl (GX.l2 rfl (GO.fn rfl func202 fok202.1 fok202.2 rfl rfl (spec_l12Most.calls HS  h22) (fun _ wd23 ⟨h24, HS⟩ => ⟨_, h24, (GX.fin HS (GX.ps 1 rfl (GX.l0 rfl rfl (fun _ _ g => GO.move rfl rfl rfl (GO.known (t := 7) rfl (decide_eq_false c25) g)) rfl (GX.l0 rfl rfl (fun _ _ g => GO.on rfl rfl rfl rfl (GO.fld (⟨b1, 1, none⟩) rfl rfl fl176_1 rfl rfl (GO.back g))) rfl (GX.ls rfl rfl rfl HS (fun _ HS _ g => GO.on rfl rfl rfl rfl (GO.ldBox (j := 0) HS rfl rfl rfl rfl na2 rfl (GO.back g))) rfl (GX.l2 rfl (GO.on rfl rfl rfl rfl (GO.fn rfl func131 fok131.1 fok131.2 rfl rfl (spec_l07In.calls HS  h27) (fun _ wd28 ⟨h29, HS⟩ => ⟨_, h29, (GO.back (GX.fin HS (GX.l0 rfl rfl (fun _ _ g => GO.on rfl rfl rfl rfl (GO.not rfl rfl rfl (GO.back g))) rfl ?_)))⟩)))))))))⟩))))
  refine GX.ps 1 rfl (GX.l0 rfl rfl (fun _ _ g => GO.move rfl rfl rfl (GO.known (t := 13) rfl (congrArg Bool.not (bnot_of c30)) g)) rfl (GX.l0 rfl rfl (fun _ _ g => GO.off rfl rfl rfl rfl rfl rfl g) rfl (GX.l0 rfl rfl (fun _ _ g => GO.off rfl rfl rfl rfl rfl rfl g) rfl (GX.ls rfl rfl rfl HS (fun _ HS _ g => GO.off rfl rfl rfl rfl rfl rfl g) rfl (GX.ls rfl rfl rfl HS (fun _ HS _ g => GO.off rfl rfl rfl rfl rfl rfl g) rfl (GX.l2 rfl (GO.off rfl rfl rfl rfl rfl rfl (GX.fin HS (GX.l2 rfl (GO.off rfl rfl rfl rfl rfl rfl (GX.fin HS (GX.l0 rfl rfl (fun _ _ g => GO.off rfl rfl rfl rfl rfl rfl g) rfl (GX.ps 1 rfl (GX.nil ?_))))))))))))))
  refine G.run 3 rfl ?_
  obtain rfl := Option.some.inj H
  exact G.ret1 _ func140 rfl rfl ⟨rfl, (HS.pk 1 [] rfl)⟩
theorem spec_IsPlainCertificate.calls {w0 w : World} {L : List HObj} {K : Nat} {c_Name c_Trait : Int} {c_Moves : List GMove} {c_Tets c_Perms : List Int} {A_a : Option Addr} {c_a : Nat} {A_b : Option Addr} {c_b : Nat} {A_c : Option Addr} {c_c : Nat} {r1 : Bool} (HS : St w0 w (L)) (r_a : RdIn w0 L T_GMove A_a c_a (fun _ => ()) c_Moves) (r_b : RdIn w0 L (TInt .i64) A_b c_b (fun _ => ()) c_Tets) (r_c : RdIn w0 L (TInt .i64) A_c c_c (fun _ => ()) c_Perms) (H : spec_IsPlainCertificate.f K c_Name c_Trait c_Moves c_Tets c_Perms = some r1) :
    Calls prog 63 #[.agg [.int .i64 c_Name, .int .i64 c_Trait, .slice A_a c_Moves.length c_a, .slice A_b c_Tets.length c_b, .slice A_c c_Perms.length c_c].toArray] w (spec_IsPlainCertificate.post w0 L r1) := by
  unfold spec_IsPlainCertificate.f at H
  refine Calls.of_G func63 rfl rfl rfl ?_
  refine G.seq (G.region (GO.box (cs := [.int .i64 c_Name, .int .i64 c_Trait, .slice A_a c_Moves.length c_a, .slice A_b c_Tets.length c_b, .slice A_c c_Perms.length c_c]) HS rfl rfl rfl rfl fun b1 wd2 HS => GO.assign rfl rfl rfl (GO.nil (G.run 2 rfl ?_))))
  obtain ⟨t15, h16, H⟩ := Option.bind_eq_some_iff.1 H
  rcases ite_elim H with ⟨c19, H⟩ | ⟨c19, H⟩
  ·
   obtain ⟨t20, h21, H⟩ := Option.bind_eq_some_iff.1 H
   rcases ite_elim H with ⟨c24, H⟩ | ⟨c24, H⟩
   ·
    rcases ite_elim H with ⟨c25, H⟩ | ⟨c25, H⟩
    ·
     refine G.region (GO.fld (⟨b1, 0, none⟩) rfl rfl fl47_0 rfl rfl (GO.ldBox (j := 0) HS rfl rfl rfl rfl na2 rfl (GO.fn rfl func139 fok139.1 fok139.2 rfl rfl (spec_l23Is.calls HS  h16) (fun _ wd17 ⟨h18, HS⟩ => ⟨_, h18, (GO.ps 2 rfl (GO.known (t := 9) rfl (congrArg Bool.not c19) (GO.on rfl rfl rfl rfl (GO.fld (⟨b1, 1, none⟩) rfl rfl fl47_1 rfl rfl (GO.back (GO.on rfl rfl rfl rfl (GO.ldBox (j := 0) HS rfl rfl rfl rfl na2 rfl (GO.back (GO.on rfl rfl rfl rfl (GO.fn rfl func58 fok58.1 fok58.2 rfl rfl (spec_l01In.calls HS  h21) (fun _ wd22 ⟨h23, HS⟩ => ⟨_, h23, (GO.back ?_)⟩)))))))))))⟩))))
     refine GO.on rfl rfl rfl rfl (GO.not rfl rfl rfl (GO.back (GO.ps 2 rfl (GO.known (t := 15) rfl (congrArg Bool.not c24) (GO.on rfl rfl rfl rfl (GO.fld (⟨b1, 2, none⟩) rfl rfl fl47_2 rfl rfl (GO.back (GO.on rfl rfl rfl rfl (GO.ldBox (j := 0) HS rfl rfl rfl rfl na45 rfl (GO.back (GO.on rfl rfl rfl rfl (GO.lenS rfl rfl underlying45 rfl (GO.back (GO.on rfl rfl rfl rfl ?_))))))))))))))
     refine GO.gtr rfl rfl rfl rfl (GO.back (GO.ps 2 rfl (GO.known (t := 21) rfl (decide_eq_true c25) (GO.off rfl rfl rfl rfl rfl rfl (GO.off rfl rfl rfl rfl rfl rfl (GO.off rfl rfl rfl rfl rfl rfl (GO.off rfl rfl rfl rfl rfl rfl (GO.off rfl rfl rfl rfl rfl rfl (GO.off rfl rfl rfl rfl rfl rfl (GO.off rfl rfl rfl rfl rfl rfl (GO.ps 2 rfl (GO.off rfl rfl rfl rfl rfl rfl (GO.off rfl rfl rfl rfl rfl rfl (GO.off rfl rfl rfl rfl rfl rfl ?_))))))))))))))
     refine GO.off rfl rfl rfl rfl rfl rfl (GO.pickT rfl rfl rfl rfl rfl (GO.nil (G.run 3 rfl ?_)))
     obtain rfl := Option.some.inj H
     exact G.ret1 _ func63 rfl rfl ⟨rfl, (HS.pk 1 [] rfl)⟩
    rcases ite_elim H with ⟨c26, H⟩ | ⟨c26, H⟩
    ·
     refine G.region (GO.fld (⟨b1, 0, none⟩) rfl rfl fl47_0 rfl rfl (GO.ldBox (j := 0) HS rfl rfl rfl rfl na2 rfl (GO.fn rfl func139 fok139.1 fok139.2 rfl rfl (spec_l23Is.calls HS  h16) (fun _ wd17 ⟨h18, HS⟩ => ⟨_, h18, (GO.ps 2 rfl (GO.known (t := 9) rfl (congrArg Bool.not c19) (GO.on rfl rfl rfl rfl (GO.fld (⟨b1, 1, none⟩) rfl rfl fl47_1 rfl rfl (GO.back (GO.on rfl rfl rfl rfl (GO.ldBox (j := 0) HS rfl rfl rfl rfl na2 rfl (GO.back (GO.on rfl rfl rfl rfl (GO.fn rfl func58 fok58.1 fok58.2 rfl rfl (spec_l01In.calls HS  h21) (fun _ wd22 ⟨h23, HS⟩ => ⟨_, h23, (GO.back ?_)⟩)))))))))))⟩))))
     refine GO.on rfl rfl rfl rfl (GO.not rfl rfl rfl (GO.back (GO.ps 2 rfl (GO.known (t := 15) rfl (congrArg Bool.not c24) (GO.on rfl rfl rfl rfl (GO.fld (⟨b1, 2, none⟩) rfl rfl fl47_2 rfl rfl (GO.back (GO.on rfl rfl rfl rfl (GO.ldBox (j := 0) HS rfl rfl rfl rfl na45 rfl (GO.back (GO.on rfl rfl rfl rfl (GO.lenS rfl rfl underlying45 rfl (GO.back (GO.on rfl rfl rfl rfl ?_))))))))))))))
     refine GO.gtr rfl rfl rfl rfl (GO.back (GO.ps 2 rfl (GO.known (t := 21) rfl (decide_eq_false c25) (GO.on rfl rfl rfl rfl (GO.fld (⟨b1, 3, none⟩) rfl rfl fl47_3 rfl rfl (GO.back (GO.on rfl rfl rfl rfl (GO.ldBox (j := 0) HS rfl rfl rfl rfl na28 rfl (GO.back (GO.on rfl rfl rfl rfl (GO.lenS rfl rfl underlying28 rfl (GO.back (GO.on rfl rfl rfl rfl (GO.fld (⟨b1, 4, none⟩) rfl rfl fl47_4 rfl rfl ?_))))))))))))))
     refine GO.back (GO.on rfl rfl rfl rfl (GO.ldBox (j := 0) HS rfl rfl rfl rfl na28 rfl (GO.back (GO.on rfl rfl rfl rfl (GO.lenS rfl rfl underlying28 rfl (GO.back (GO.on rfl rfl rfl rfl (GO.neq rfl rfl rfl rfl (GO.back (GO.ps 2 rfl (GO.known (t := 30) rfl (congrArg Bool.not (decide_eq_true c26)) (GO.on rfl rfl rfl rfl (GO.fld (⟨b1, 3, none⟩) rfl rfl fl47_3 rfl rfl (GO.back ?_))))))))))))))
     refine GO.on rfl rfl rfl rfl (GO.ldBox (j := 0) HS rfl rfl rfl rfl na28 rfl (GO.back (GO.on rfl rfl rfl rfl (GO.lenS rfl rfl underlying28 rfl (GO.back (GO.on rfl rfl rfl rfl (GO.gtr rfl rfl rfl rfl (GO.back (GO.pickF rfl rfl rfl rfl rfl (GO.nil ?_))))))))))
     rcases ite_elim H with ⟨c27, H⟩ | ⟨c27, H⟩
     ·
      refine G.yesB rfl (decide_eq_true c27) (G.run 2 rfl ?_)
      obtain rfl := Option.some.inj H
      exact G.ret1 _ func63 rfl rfl ⟨rfl, (HS.pk 1 [] rfl)⟩
     refine G.noB rfl (decide_eq_false c27) (G.run 6 rfl ?_)
     refine G.name (fun k_l1 hk_l1 => ?_)
     have at_l1 : ∀ m_l1, m_l1 ≤ K → ∀ (i_80 : Int) (w : World), spec_IsPlainCertificate.l1 K m_l1 c_Trait c_Moves c_Tets c_Perms i_80 = some r1 → St w0 w (Box b1 47 [.int .i64 c_Name, .int .i64 c_Trait, .slice A_a c_Moves.length c_a, .slice A_b c_Tets.length c_b, .slice A_c c_Perms.length c_c] :: L) → G prog 63 86 [(1, .pointer (some ⟨b1, 0, none⟩)), (3, .int .i64 i_80)] k_l1 w (spec_IsPlainCertificate.post w0 L r1) := by
      intro m_l1
      induction m_l1 using Nat.strongRecOn with
      | _ m_l1 ih_l1 =>
       intro hm_l1 i_80 w H HS
       cases m_l1 with
       | zero => rw [spec_IsPlainCertificate.l1] at H; cases H
       | succ n_l1 =>
        rw [spec_IsPlainCertificate.l1] at H
        subst hk_l1
        refine G.run 2 rfl (G.region (GO.move rfl rfl rfl (GO.fld (⟨b1, 2, none⟩) rfl rfl fl47_2 rfl rfl (GO.ldBox (j := 0) HS rfl rfl rfl rfl na45 rfl (GO.lenS rfl rfl underlying45 rfl (GO.lss rfl rfl rfl rfl (GO.nil ?_)))))))
        rcases ite_elim H with ⟨c133, H⟩ | ⟨c133, H⟩
        ·
         refine G.yesB rfl (decide_eq_true c133) (G.run 4 rfl ?_)
         obtain ⟨c134, H⟩ := ite_none H
         obtain ⟨e135, h136, H⟩ := bnd_elim H
         obtain ⟨t137, h138, H⟩ := Option.bind_eq_some_iff.1 H
         refine G.region (GO.fld (⟨b1, 2, none⟩) rfl rfl fl47_2 rfl rfl (GO.ldBox (j := 0) HS rfl rfl rfl rfl na45 rfl (GO.move rfl rfl rfl (GO.ix rfl rfl rfl underlying45 sz176 ((RdIn.drop 1 r_a) _ HS).2.2.1 c134.1 c134.2 rfl (GO.ldRdA (T := T_GMove) (n := i_80.toNat) HS (RdIn.drop 1 r_a) rfl rfl (getD_eq (ltN c134) h136) ag176 rfl (GO.fn rfl func140 fok140.1 fok140.2 rfl rfl (spec_MoveText.calls HS  h138) (fun _ wd139 ⟨h140, HS⟩ => ⟨_, h140, (GO.eqlS rfl rfl rfl rfl (GO.nil ?_))⟩)))))))
         rcases ite_elim H with ⟨c141, H⟩ | ⟨c141, H⟩
         ·
          refine G.yesB rfl c141 (G.run 2 rfl ?_)
          obtain rfl := Option.some.inj H
          exact G.ret1 _ func63 rfl rfl ⟨rfl, (HS.pk 1 [] rfl)⟩
         refine G.noB rfl (bnot_of c141) (G.run 4 rfl (G.weak ?_ (ih_l1 n_l1 (Nat.lt_succ_of_le (Nat.le_refl _)) (Nat.le_of_succ_le hm_l1) _ _ H HS)))
         exact ⟨rfl, rfl, trivial⟩
        refine G.noB rfl (decide_eq_false c133) (G.run 6 rfl ?_)
        refine G.name (fun k_l4 hk_l4 => ?_)
        have at_l4 : ∀ m_l4, m_l4 ≤ n_l1 → ∀ (i_156 : Int) (w : World), spec_IsPlainCertificate.l4 K m_l4 c_Trait c_Moves c_Tets c_Perms i_156 = some r1 → St w0 w (Box b1 47 [.int .i64 c_Name, .int .i64 c_Trait, .slice A_a c_Moves.length c_a, .slice A_b c_Tets.length c_b, .slice A_c c_Perms.length c_c] :: L) → G prog 63 86 [(1, .pointer (some ⟨b1, 0, none⟩)), (4, .int .i64 i_156)] k_l4 w (spec_IsPlainCertificate.post w0 L r1) := by
         intro m_l4
         induction m_l4 using Nat.strongRecOn with
         | _ m_l4 ih_l4 =>
          intro hm_l4 i_156 w H HS
          cases m_l4 with
          | zero => rw [spec_IsPlainCertificate.l4] at H; cases H
          | succ n_l4 =>
           rw [spec_IsPlainCertificate.l4] at H
           subst hk_l4
           refine G.run 2 rfl (G.region (GO.move rfl rfl rfl (GO.fld (⟨b1, 3, none⟩) rfl rfl fl47_3 rfl rfl (GO.ldBox (j := 0) HS rfl rfl rfl rfl na28 rfl (GO.lenS rfl rfl underlying28 rfl (GO.lss rfl rfl rfl rfl (GO.nil ?_)))))))
           rcases ite_elim H with ⟨c171, H⟩ | ⟨c171, H⟩
           ·
            refine G.yesB rfl (decide_eq_true c171) (G.run 4 rfl ?_)
            obtain ⟨c172, H⟩ := ite_none H
            obtain ⟨t173, h174, H⟩ := Option.bind_eq_some_iff.1 H
            rcases ite_elim H with ⟨c177, H⟩ | ⟨c177, H⟩
            ·
             obtain ⟨c178, H⟩ := ite_none H
             obtain ⟨t179, h180, H⟩ := Option.bind_eq_some_iff.1 H
             refine G.region (GO.fld (⟨b1, 3, none⟩) rfl rfl fl47_3 rfl rfl (GO.ldBox (j := 0) HS rfl rfl rfl rfl na28 rfl (GO.move rfl rfl rfl (GO.ix rfl rfl rfl underlying28 sz2 ((RdIn.drop 1 r_b) _ HS).2.2.1 c172.1 c172.2 rfl (GO.ldRd (T := (TInt .i64)) (n := i_156.toNat) (o := 0) HS (RdIn.drop 1 r_b) rfl rfl (getD_some (d := 0) (ltN c172)) rfl rfl na2 rfl (GO.fn rfl func58 fok58.1 fok58.2 rfl rfl (spec_l01In.calls HS  h174) (fun _ wd175 ⟨h176, HS⟩ => ⟨_, h176, (GO.ps 2 rfl (GO.known (t := 64) rfl (congrArg Bool.not c177) (GO.on rfl rfl rfl rfl (GO.fld (⟨b1, 4, none⟩) rfl rfl fl47_4 rfl rfl (GO.back (GO.on rfl rfl rfl rfl (GO.ldBox (j := 0) HS rfl rfl rfl rfl na28 rfl (GO.back ?_))))))))⟩)))))))
             refine GO.on rfl rfl rfl rfl (GO.move rfl rfl rfl (GO.back (GO.on rfl rfl rfl rfl (GO.ix rfl rfl rfl underlying28 sz2 ((RdIn.drop 1 r_c) _ HS).2.2.1 c178.1 c178.2 rfl (GO.back (GO.on rfl rfl rfl rfl (GO.ldRd (T := (TInt .i64)) (n := i_156.toNat) (o := 0) HS (RdIn.drop 1 r_c) rfl rfl (getD_some (d := 0) (ltN c178)) rfl rfl na2 rfl (GO.back (GO.on rfl rfl rfl rfl (GO.fn rfl func132 fok132.1 fok132.2 rfl rfl (spec_l06Valid.calls HS  h180) (fun _ wd181 ⟨h182, HS⟩ => ⟨_, h182, (GO.back (GO.on rfl rfl rfl rfl (GO.not rfl rfl rfl (GO.back ?_))))⟩)))))))))))
             refine GO.pickF rfl rfl rfl rfl rfl (GO.nil ?_)
             rcases ite_elim H with ⟨c183, H⟩ | ⟨c183, H⟩
             ·
              refine G.noB rfl (congrArg Bool.not c183) (G.run 4 rfl (G.weak ?_ (ih_l4 n_l4 (Nat.lt_succ_of_le (Nat.le_refl _)) (Nat.le_of_succ_le hm_l4) _ _ H HS)))
              exact ⟨rfl, rfl, trivial⟩
             refine G.yesB rfl (congrArg Bool.not (bnot_of c183)) (G.run 2 rfl ?_)
             obtain rfl := Option.some.inj H
             exact G.ret1 _ func63 rfl rfl ⟨rfl, (HS.pk 1 [] rfl)⟩
            refine G.region (GO.fld (⟨b1, 3, none⟩) rfl rfl fl47_3 rfl rfl (GO.ldBox (j := 0) HS rfl rfl rfl rfl na28 rfl (GO.move rfl rfl rfl (GO.ix rfl rfl rfl underlying28 sz2 ((RdIn.drop 1 r_b) _ HS).2.2.1 c172.1 c172.2 rfl (GO.ldRd (T := (TInt .i64)) (n := i_156.toNat) (o := 0) HS (RdIn.drop 1 r_b) rfl rfl (getD_some (d := 0) (ltN c172)) rfl rfl na2 rfl (GO.fn rfl func58 fok58.1 fok58.2 rfl rfl (spec_l01In.calls HS  h174) (fun _ wd175 ⟨h176, HS⟩ => ⟨_, h176, (GO.ps 2 rfl (GO.known (t := 64) rfl (congrArg Bool.not (bnot_of c177)) (GO.off rfl rfl rfl rfl rfl rfl (GO.off rfl rfl rfl rfl rfl rfl (GO.off rfl rfl rfl rfl rfl rfl (GO.off rfl rfl rfl rfl rfl rfl (GO.off rfl rfl rfl rfl rfl rfl (GO.off rfl rfl rfl rfl rfl rfl ?_))))))))⟩)))))))
            refine GO.off rfl rfl rfl rfl rfl rfl (GO.pickT rfl rfl rfl rfl rfl (GO.nil (G.run 3 rfl ?_)))
            obtain rfl := Option.some.inj H
            exact G.ret1 _ func63 rfl rfl ⟨rfl, (HS.pk 1 [] rfl)⟩
           refine G.noB rfl (decide_eq_false c171) (G.run 2 rfl ?_)
           rcases ite_elim H with ⟨c184, H⟩ | ⟨c184, H⟩
           ·
            refine G.region (GO.fld (⟨b1, 1, none⟩) rfl rfl fl47_1 rfl rfl (GO.ldBox (j := 0) HS rfl rfl rfl rfl na2 rfl (GO.ps 2 rfl (GO.known (t := 76) rfl (decide_eq_true c184) (GO.off rfl rfl rfl rfl rfl rfl (GO.off rfl rfl rfl rfl rfl rfl (GO.off rfl rfl rfl rfl rfl rfl (GO.off rfl rfl rfl rfl rfl rfl (GO.off rfl rfl rfl rfl rfl rfl (GO.off rfl rfl rfl rfl rfl rfl (GO.off rfl rfl rfl rfl rfl rfl (GO.off rfl rfl rfl rfl rfl rfl (GO.ps 2 rfl (GO.nil ?_))))))))))))))
            obtain rfl := Option.some.inj H
            exact G.ret1 _ func63 rfl rfl ⟨rfl, (HS.pk 1 [] rfl)⟩
           refine G.region (GO.fld (⟨b1, 1, none⟩) rfl rfl fl47_1 rfl rfl (GO.ldBox (j := 0) HS rfl rfl rfl rfl na2 rfl (GO.ps 2 rfl (GO.known (t := 76) rfl (decide_eq_false c184) (GO.on rfl rfl rfl rfl (GO.fld (⟨b1, 2, none⟩) rfl rfl fl47_2 rfl rfl (GO.back (GO.on rfl rfl rfl rfl (GO.ldBox (j := 0) HS rfl rfl rfl rfl na45 rfl (GO.back (GO.on rfl rfl rfl rfl (GO.lenS rfl rfl underlying45 rfl (GO.back (GO.on rfl rfl rfl rfl ?_))))))))))))))
           refine GO.fld (⟨b1, 3, none⟩) rfl rfl fl47_3 rfl rfl (GO.back (GO.on rfl rfl rfl rfl (GO.ldBox (j := 0) HS rfl rfl rfl rfl na28 rfl (GO.back (GO.on rfl rfl rfl rfl (GO.lenS rfl rfl underlying28 rfl (GO.back (GO.on rfl rfl rfl rfl (GO.add rfl rfl rfl rfl (GO.back (GO.on rfl rfl rfl rfl (GO.eql rfl rfl rfl rfl (GO.back (GO.ps 2 rfl ?_))))))))))))))
           refine GO.nil ?_
           obtain rfl := Option.some.inj H
           exact G.ret1 _ func63 rfl rfl ⟨rfl, (HS.pk 1 [] rfl)⟩
        refine G.weak ?_ (at_l4 n_l1 (Nat.le_refl _) _ _ H HS)
        exact ⟨rfl, rfl, trivial⟩
     refine G.weak ?_ (at_l1 K (Nat.le_refl _) _ _ H HS)
     exact ⟨rfl, rfl, trivial⟩
    refine G.region (GO.fld (⟨b1, 0, none⟩) rfl rfl fl47_0 rfl rfl (GO.ldBox (j := 0) HS rfl rfl rfl rfl na2 rfl (GO.fn rfl func139 fok139.1 fok139.2 rfl rfl (spec_l23Is.calls HS  h16) (fun _ wd17 ⟨h18, HS⟩ => ⟨_, h18, (GO.ps 2 rfl (GO.known (t := 9) rfl (congrArg Bool.not c19) (GO.on rfl rfl rfl rfl (GO.fld (⟨b1, 1, none⟩) rfl rfl fl47_1 rfl rfl (GO.back (GO.on rfl rfl rfl rfl (GO.ldBox (j := 0) HS rfl rfl rfl rfl na2 rfl (GO.back (GO.on rfl rfl rfl rfl (GO.fn rfl func58 fok58.1 fok58.2 rfl rfl (spec_l01In.calls HS  h21) (fun _ wd22 ⟨h23, HS⟩ => ⟨_, h23, (GO.back ?_)⟩)))))))))))⟩))))
    refine GO.on rfl rfl rfl rfl (GO.not rfl rfl rfl (GO.back (GO.ps 2 rfl (GO.known (t := 15) rfl (congrArg Bool.not c24) (GO.on rfl rfl rfl rfl (GO.fld (⟨b1, 2, none⟩) rfl rfl fl47_2 rfl rfl (GO.back (GO.on rfl rfl rfl rfl (GO.ldBox (j := 0) HS rfl rfl rfl rfl na45 rfl (GO.back (GO.on rfl rfl rfl rfl (GO.lenS rfl rfl underlying45 rfl (GO.back (GO.on rfl rfl rfl rfl ?_))))))))))))))
    refine GO.gtr rfl rfl rfl rfl (GO.back (GO.ps 2 rfl (GO.known (t := 21) rfl (decide_eq_false c25) (GO.on rfl rfl rfl rfl (GO.fld (⟨b1, 3, none⟩) rfl rfl fl47_3 rfl rfl (GO.back (GO.on rfl rfl rfl rfl (GO.ldBox (j := 0) HS rfl rfl rfl rfl na28 rfl (GO.back (GO.on rfl rfl rfl rfl (GO.lenS rfl rfl underlying28 rfl (GO.back (GO.on rfl rfl rfl rfl (GO.fld (⟨b1, 4, none⟩) rfl rfl fl47_4 rfl rfl ?_))))))))))))))
    refine GO.back (GO.on rfl rfl rfl rfl (GO.ldBox (j := 0) HS rfl rfl rfl rfl na28 rfl (GO.back (GO.on rfl rfl rfl rfl (GO.lenS rfl rfl underlying28 rfl (GO.back (GO.on rfl rfl rfl rfl (GO.neq rfl rfl rfl rfl (GO.back (GO.ps 2 rfl (GO.known (t := 30) rfl (congrArg Bool.not (decide_eq_false c26)) (GO.off rfl rfl rfl rfl rfl rfl (GO.off rfl rfl rfl rfl rfl rfl (GO.off rfl rfl rfl rfl rfl rfl ?_))))))))))))))
    refine GO.off rfl rfl rfl rfl rfl rfl (GO.pickT rfl rfl rfl rfl rfl (GO.nil (G.run 3 rfl ?_)))
    obtain rfl := Option.some.inj H
    exact G.ret1 _ func63 rfl rfl ⟨rfl, (HS.pk 1 [] rfl)⟩
   refine G.region (GO.fld (⟨b1, 0, none⟩) rfl rfl fl47_0 rfl rfl (GO.ldBox (j := 0) HS rfl rfl rfl rfl na2 rfl (GO.fn rfl func139 fok139.1 fok139.2 rfl rfl (spec_l23Is.calls HS  h16) (fun _ wd17 ⟨h18, HS⟩ => ⟨_, h18, (GO.ps 2 rfl (GO.known (t := 9) rfl (congrArg Bool.not c19) (GO.on rfl rfl rfl rfl (GO.fld (⟨b1, 1, none⟩) rfl rfl fl47_1 rfl rfl (GO.back (GO.on rfl rfl rfl rfl (GO.ldBox (j := 0) HS rfl rfl rfl rfl na2 rfl (GO.back (GO.on rfl rfl rfl rfl (GO.fn rfl func58 fok58.1 fok58.2 rfl rfl (spec_l01In.calls HS  h21) (fun _ wd22 ⟨h23, HS⟩ => ⟨_, h23, (GO.back ?_)⟩)))))))))))⟩))))
   refine GO.on rfl rfl rfl rfl (GO.not rfl rfl rfl (GO.back (GO.ps 2 rfl (GO.known (t := 15) rfl (congrArg Bool.not (bnot_of c24)) (GO.off rfl rfl rfl rfl rfl rfl (GO.off rfl rfl rfl rfl rfl rfl (GO.off rfl rfl rfl rfl rfl rfl (GO.off rfl rfl rfl rfl rfl rfl (GO.ps 2 rfl (GO.off rfl rfl rfl rfl rfl rfl (GO.off rfl rfl rfl rfl rfl rfl (GO.off rfl rfl rfl rfl rfl rfl (GO.off rfl rfl rfl rfl rfl rfl (GO.off rfl rfl rfl rfl rfl rfl ?_))))))))))))))
   refine GO.off rfl rfl rfl rfl rfl rfl (GO.off rfl rfl rfl rfl rfl rfl (GO.ps 2 rfl (GO.off rfl rfl rfl rfl rfl rfl (GO.off rfl rfl rfl rfl rfl rfl (GO.off rfl rfl rfl rfl rfl rfl (GO.off rfl rfl rfl rfl rfl rfl (GO.pickT rfl rfl rfl rfl rfl (GO.nil (G.run 3 rfl ?_)))))))))
   obtain rfl := Option.some.inj H
   exact G.ret1 _ func63 rfl rfl ⟨rfl, (HS.pk 1 [] rfl)⟩
  refine G.region (GO.fld (⟨b1, 0, none⟩) rfl rfl fl47_0 rfl rfl (GO.ldBox (j := 0) HS rfl rfl rfl rfl na2 rfl (GO.fn rfl func139 fok139.1 fok139.2 rfl rfl (spec_l23Is.calls HS  h16) (fun _ wd17 ⟨h18, HS⟩ => ⟨_, h18, (GO.ps 2 rfl (GO.known (t := 9) rfl (congrArg Bool.not (bnot_of c19)) (GO.off rfl rfl rfl rfl rfl rfl (GO.off rfl rfl rfl rfl rfl rfl (GO.off rfl rfl rfl rfl rfl rfl (GO.off rfl rfl rfl rfl rfl rfl (GO.ps 2 rfl (GO.off rfl rfl rfl rfl rfl rfl (GO.off rfl rfl rfl rfl rfl rfl (GO.off rfl rfl rfl rfl rfl rfl (GO.off rfl rfl rfl rfl rfl rfl ?_)))))))))))⟩))))
  refine GO.ps 2 rfl (GO.off rfl rfl rfl rfl rfl rfl (GO.off rfl rfl rfl rfl rfl rfl (GO.off rfl rfl rfl rfl rfl rfl (GO.off rfl rfl rfl rfl rfl rfl (GO.off rfl rfl rfl rfl rfl rfl (GO.off rfl rfl rfl rfl rfl rfl (GO.off rfl rfl rfl rfl rfl rfl (GO.ps 2 rfl (GO.off rfl rfl rfl rfl rfl rfl (GO.off rfl rfl rfl rfl rfl rfl (GO.off rfl rfl rfl rfl rfl rfl (GO.off rfl rfl rfl rfl rfl rfl (GO.pickT rfl rfl rfl rfl rfl (GO.nil ?_))))))))))))))
  refine G.run 3 rfl ?_
  obtain rfl := Option.some.inj H
  exact G.ret1 _ func63 rfl rfl ⟨rfl, (HS.pk 1 [] rfl)⟩
theorem spec_ValidItem.calls {w0 w : World} {L : List HObj} {K : Nat} {e_Name : ByteArray} {e_Kind : Int} {e_Triangulation_Tets : List (List GFace)} {e_Diagram_Crossings : List GCrossing} {e_Diagram_Circles e_Braid_Strands : Int} {e_Braid_Word : List Int} {e_Certificate_Name e_Certificate_Trait : Int} {e_Certificate_Moves : List GMove} {e_Certificate_Tets e_Certificate_Perms : List Int} {A_a : Option Addr} {c_a : Nat} {y_a : Nat → (Ty.slice 166 T_GFace).Lay} {A_b : Option Addr} {c_b : Nat} {A_c : Option Addr} {c_c : Nat} {A_d : Option Addr} {c_d : Nat} {A_e : Option Addr} {c_e : Nat} {A_f : Option Addr} {c_f : Nat} {r1 : Bool} (HS : St w0 w (L)) (r_a : RdIn w0 L (Ty.slice 166 T_GFace) A_a c_a y_a e_Triangulation_Tets) (r_b : RdIn w0 L T_GCrossing A_b c_b (fun _ => ()) e_Diagram_Crossings) (r_c : RdIn w0 L (TInt .i64) A_c c_c (fun _ => ()) e_Braid_Word) (r_d : RdIn w0 L T_GMove A_d c_d (fun _ => ()) e_Certificate_Moves) (r_e : RdIn w0 L (TInt .i64) A_e c_e (fun _ => ()) e_Certificate_Tets) (r_f : RdIn w0 L (TInt .i64) A_f c_f (fun _ => ()) e_Certificate_Perms) (H : spec_ValidItem.f K e_Name e_Kind e_Triangulation_Tets e_Diagram_Crossings e_Diagram_Circles e_Braid_Strands e_Braid_Word e_Certificate_Name e_Certificate_Trait e_Certificate_Moves e_Certificate_Tets e_Certificate_Perms = some r1) :
    Calls prog 16 #[.agg [.string e_Name, .int .i64 e_Kind, .slice A_a e_Triangulation_Tets.length c_a, .slice A_b e_Diagram_Crossings.length c_b, .int .i64 e_Diagram_Circles, .int .i64 e_Braid_Strands, .slice A_c e_Braid_Word.length c_c, .int .i64 e_Certificate_Name, .int .i64 e_Certificate_Trait, .slice A_d e_Certificate_Moves.length c_d, .slice A_e e_Certificate_Tets.length c_e, .slice A_f e_Certificate_Perms.length c_f].toArray] w (spec_ValidItem.post w0 L r1) := by
  unfold spec_ValidItem.f at H
  refine Calls.of_G func16 rfl rfl rfl ?_
  refine G.seq (G.region (GO.box (cs := [.string e_Name, .int .i64 e_Kind, .slice A_a e_Triangulation_Tets.length c_a, .slice A_b e_Diagram_Crossings.length c_b, .int .i64 e_Diagram_Circles, .int .i64 e_Braid_Strands, .slice A_c e_Braid_Word.length c_c, .int .i64 e_Certificate_Name, .int .i64 e_Certificate_Trait, .slice A_d e_Certificate_Moves.length c_d, .slice A_e e_Certificate_Tets.length c_e, .slice A_f e_Certificate_Perms.length c_f]) HS rfl rfl rfl rfl fun b1 wd2 HS => GO.assign rfl rfl rfl (GO.nil (G.run 2 rfl ?_))))
  obtain ⟨t12, h13, H⟩ := Option.bind_eq_some_iff.1 H
  rcases ite_elim H with ⟨c16, H⟩ | ⟨c16, H⟩
  ·
   obtain ⟨t17, h18, H⟩ := Option.bind_eq_some_iff.1 H
   refine G.region (GO.fld (⟨b1, 0, none⟩) rfl rfl fl49_0 rfl rfl (GO.ldBox (j := 0) HS rfl rfl rfl rfl na9 rfl (GO.fn rfl func57 fok57.1 fok57.2 rfl rfl (spec_l33Name.calls HS  h13) (fun _ wd14 ⟨h15, HS⟩ => ⟨_, h15, (GO.ps 2 rfl (GO.known (t := 8) rfl (congrArg Bool.not c16) (GO.on rfl rfl rfl rfl (GO.fld (⟨b1, 1, none⟩) rfl rfl fl49_1 rfl rfl (GO.back (GO.on rfl rfl rfl rfl (GO.ldBox (j := 0) HS rfl rfl rfl rfl na2 rfl (GO.back (GO.on rfl rfl rfl rfl (GO.fn rfl func58 fok58.1 fok58.2 rfl rfl (spec_l01In.calls HS  h18) (fun _ wd19 ⟨h20, HS⟩ => ⟨_, h20, (GO.back ?_)⟩)))))))))))⟩))))
   refine GO.on rfl rfl rfl rfl (GO.not rfl rfl rfl (GO.back (GO.pickF rfl rfl rfl rfl rfl (GO.nil ?_))))
   rcases ite_elim H with ⟨c21, H⟩ | ⟨c21, H⟩
   ·
    refine G.noB rfl (congrArg Bool.not c21) (G.run 6 rfl ?_)
    refine G.name (fun k_l1 hk_l1 => ?_)
    have at_l1 : ∀ m_l1, m_l1 ≤ K → ∀ (kind_28 : Int) (w : World), spec_ValidItem.l1 K m_l1 e_Name e_Kind e_Triangulation_Tets e_Diagram_Crossings e_Diagram_Circles e_Braid_Strands e_Braid_Word e_Certificate_Name e_Certificate_Trait e_Certificate_Moves e_Certificate_Tets e_Certificate_Perms kind_28 = some r1 → St w0 w (Box b1 49 [.string e_Name, .int .i64 e_Kind, .slice A_a e_Triangulation_Tets.length c_a, .slice A_b e_Diagram_Crossings.length c_b, .int .i64 e_Diagram_Circles, .int .i64 e_Braid_Strands, .slice A_c e_Braid_Word.length c_c, .int .i64 e_Certificate_Name, .int .i64 e_Certificate_Trait, .slice A_d e_Certificate_Moves.length c_d, .slice A_e e_Certificate_Tets.length c_e, .slice A_f e_Certificate_Perms.length c_f] :: L) → G prog 16 48 [(1, .pointer (some ⟨b1, 0, none⟩)), (3, .int .i64 kind_28)] k_l1 w (spec_ValidItem.post w0 L r1) := by
     intro m_l1
     induction m_l1 using Nat.strongRecOn with
     | _ m_l1 ih_l1 =>
      intro hm_l1 kind_28 w H HS
      cases m_l1 with
      | zero => rw [spec_ValidItem.l1] at H; cases H
      | succ n_l1 =>
       rw [spec_ValidItem.l1] at H
       subst hk_l1
       refine G.run 3 rfl ?_
       rcases ite_elim H with ⟨c55, H⟩ | ⟨c55, H⟩
       ·
        refine G.yesB rfl (decide_eq_true c55) (G.run 4 rfl ?_)
        rcases ite_elim H with ⟨c56, H⟩ | ⟨c56, H⟩
        ·
         refine G.region (GO.move rfl rfl rfl (GO.fld (⟨b1, 1, none⟩) rfl rfl fl49_1 rfl rfl (GO.ldBox (j := 0) HS rfl rfl rfl rfl na2 rfl (GO.ps 2 rfl (GO.known (t := 22) rfl (congrArg Bool.not (decide_eq_true c56)) (GO.off rfl rfl rfl rfl rfl rfl (GO.off rfl rfl rfl rfl rfl rfl (GO.off rfl rfl rfl rfl rfl rfl (GO.off rfl rfl rfl rfl rfl rfl (GO.pickF rfl rfl rfl rfl rfl (GO.nil (G.run 5 rfl (G.weak ?_ (ih_l1 n_l1 (Nat.lt_succ_of_le (Nat.le_refl _)) (Nat.le_of_succ_le hm_l1) _ _ H HS))))))))))))))
         exact ⟨rfl, rfl, trivial⟩
        obtain ⟨t57, h58, H⟩ := Option.bind_eq_some_iff.1 H
        refine G.region (GO.move rfl rfl rfl (GO.fld (⟨b1, 1, none⟩) rfl rfl fl49_1 rfl rfl (GO.ldBox (j := 0) HS rfl rfl rfl rfl na2 rfl (GO.ps 2 rfl (GO.known (t := 22) rfl (congrArg Bool.not (decide_eq_false c56)) (GO.on rfl rfl rfl rfl (GO.ldBoxA (j := 0) ([.string e_Name, .int .i64 e_Kind, .slice A_a e_Triangulation_Tets.length c_a, .slice A_b e_Diagram_Crossings.length c_b, .int .i64 e_Diagram_Circles, .int .i64 e_Braid_Strands, .slice A_c e_Braid_Word.length c_c, .int .i64 e_Certificate_Name, .int .i64 e_Certificate_Trait, .slice A_d e_Certificate_Moves.length c_d, .slice A_e e_Certificate_Tets.length c_e, .slice A_f e_Certificate_Perms.length c_f]) HS rfl rfl rfl rfl ag49 rfl (GO.back (GO.on rfl rfl rfl rfl (GO.move rfl rfl rfl (GO.back (GO.on rfl rfl rfl rfl (GO.fn rfl func59 fok59.1 fok59.2 rfl rfl (spec_l33Zero.calls HS (RdIn.drop 1 r_a) (RdIn.drop 1 r_b) (RdIn.drop 1 r_c) (RdIn.drop 1 r_d) (RdIn.drop 1 r_e) (RdIn.drop 1 r_f) h58) (fun _ wd59 ⟨h60, HS⟩ => ⟨_, h60, (GO.back ?_)⟩))))))))))))))
        refine GO.on rfl rfl rfl rfl (GO.not rfl rfl rfl (GO.back (GO.pickT rfl rfl rfl rfl rfl (GO.nil ?_))))
        rcases ite_elim H with ⟨c61, H⟩ | ⟨c61, H⟩
        ·
         refine G.noB rfl (congrArg Bool.not c61) (G.run 4 rfl (G.weak ?_ (ih_l1 n_l1 (Nat.lt_succ_of_le (Nat.le_refl _)) (Nat.le_of_succ_le hm_l1) _ _ H HS)))
         exact ⟨rfl, rfl, trivial⟩
        refine G.yesB rfl (congrArg Bool.not (bnot_of c61)) (G.run 2 rfl ?_)
        obtain rfl := Option.some.inj H
        exact G.ret1 _ func16 rfl rfl ⟨rfl, (HS.pk 1 [] rfl)⟩
       refine G.noB rfl (decide_eq_false c55) (G.run 3 rfl (G.region (GO.fld (⟨b1, 1, none⟩) rfl rfl fl49_1 rfl rfl (GO.ldBox (j := 0) HS rfl rfl rfl rfl na2 rfl (GO.nil (G.run 3 rfl ?_))))))
       rcases ite_elim H with ⟨c62, H⟩ | ⟨c62, H⟩
       ·
        refine G.yesB rfl (decide_eq_true c62) (G.seq ?_)
        obtain ⟨t63, h64, H⟩ := Option.bind_eq_some_iff.1 H
        refine G.region (GO.fld (⟨b1, 2, none⟩) rfl rfl fl49_2 rfl rfl (GO.ldBoxA (j := 0) ([.slice A_a e_Triangulation_Tets.length c_a]) HS rfl rfl rfl rfl ag40 rfl (GO.fn rfl func60 fok60.1 fok60.2 rfl rfl (spec_IsTriangulation.calls HS (RdIn.drop 1 r_a) h64) (fun _ wd65 ⟨h66, HS⟩ => ⟨_, h66, (GO.assign rfl rfl rfl (GO.nil ?_))⟩))))
        obtain rfl := Option.some.inj H
        exact G.ret1 _ func16 rfl rfl ⟨rfl, (HS.pk 1 [] rfl)⟩
       refine G.noB rfl (decide_eq_false c62) (G.run 2 rfl ?_)
       rcases ite_elim H with ⟨c67, H⟩ | ⟨c67, H⟩
       ·
        refine G.yesB rfl (decide_eq_true c67) (G.seq ?_)
        obtain ⟨t68, h69, H⟩ := Option.bind_eq_some_iff.1 H
        refine G.region (GO.fld (⟨b1, 3, none⟩) rfl rfl fl49_3 rfl rfl (GO.ldBoxA (j := 0) ([.slice A_b e_Diagram_Crossings.length c_b, .int .i64 e_Diagram_Circles]) HS rfl rfl rfl rfl ag43 rfl (GO.fn rfl func61 fok61.1 fok61.2 rfl rfl (spec_IsDiagram.calls HS (RdIn.drop 1 r_b) h69) (fun _ wd70 ⟨h71, HS⟩ => ⟨_, h71, (GO.assign rfl rfl rfl (GO.nil ?_))⟩))))
        obtain rfl := Option.some.inj H
        exact G.ret1 _ func16 rfl rfl ⟨rfl, (HS.pk 1 [] rfl)⟩
       refine G.noB rfl (decide_eq_false c67) (G.run 2 rfl ?_)
       rcases ite_elim H with ⟨c72, H⟩ | ⟨c72, H⟩
       ·
        refine G.yesB rfl (decide_eq_true c72) (G.seq ?_)
        obtain ⟨t73, h74, H⟩ := Option.bind_eq_some_iff.1 H
        refine G.region (GO.fld (⟨b1, 5, none⟩) rfl rfl fl49_4 rfl rfl (GO.ldBoxA (j := 0) ([.int .i64 e_Braid_Strands, .slice A_c e_Braid_Word.length c_c]) HS rfl rfl rfl rfl ag44 rfl (GO.fn rfl func62 fok62.1 fok62.2 rfl rfl (spec_ValidBraid.calls HS (RdIn.drop 1 r_c) h74) (fun _ wd75 ⟨h76, HS⟩ => ⟨_, h76, (GO.assign rfl rfl rfl (GO.nil ?_))⟩))))
        obtain rfl := Option.some.inj H
        exact G.ret1 _ func16 rfl rfl ⟨rfl, (HS.pk 1 [] rfl)⟩
       refine G.noB rfl (decide_eq_false c72) (G.run 3 rfl ?_)
       obtain ⟨t77, h78, H⟩ := Option.bind_eq_some_iff.1 H
       refine G.region (GO.fld (⟨b1, 7, none⟩) rfl rfl fl49_5 rfl rfl (GO.ldBoxA (j := 0) ([.int .i64 e_Certificate_Name, .int .i64 e_Certificate_Trait, .slice A_d e_Certificate_Moves.length c_d, .slice A_e e_Certificate_Tets.length c_e, .slice A_f e_Certificate_Perms.length c_f]) HS rfl rfl rfl rfl ag47 rfl (GO.fn rfl func63 fok63.1 fok63.2 rfl rfl (spec_IsPlainCertificate.calls HS (RdIn.drop 1 r_d) (RdIn.drop 1 r_e) (RdIn.drop 1 r_f) h78) (fun _ wd79 ⟨h80, HS⟩ => ⟨_, h80, (GO.assign rfl rfl rfl (GO.nil ?_))⟩))))
       obtain rfl := Option.some.inj H
       exact G.ret1 _ func16 rfl rfl ⟨rfl, (HS.pk 1 [] rfl)⟩
    refine G.weak ?_ (at_l1 K (Nat.le_refl _) _ _ H HS)
    exact ⟨rfl, rfl, trivial⟩
   refine G.yesB rfl (congrArg Bool.not (bnot_of c21)) (G.run 2 rfl ?_)
   obtain rfl := Option.some.inj H
   exact G.ret1 _ func16 rfl rfl ⟨rfl, (HS.pk 1 [] rfl)⟩
  refine G.region (GO.fld (⟨b1, 0, none⟩) rfl rfl fl49_0 rfl rfl (GO.ldBox (j := 0) HS rfl rfl rfl rfl na9 rfl (GO.fn rfl func57 fok57.1 fok57.2 rfl rfl (spec_l33Name.calls HS  h13) (fun _ wd14 ⟨h15, HS⟩ => ⟨_, h15, (GO.ps 2 rfl (GO.known (t := 8) rfl (congrArg Bool.not (bnot_of c16)) (GO.off rfl rfl rfl rfl rfl rfl (GO.off rfl rfl rfl rfl rfl rfl (GO.off rfl rfl rfl rfl rfl rfl (GO.off rfl rfl rfl rfl rfl rfl (GO.pickT rfl rfl rfl rfl rfl (GO.nil (G.run 3 rfl ?_)))))))))⟩))))
  obtain rfl := Option.some.inj H
  exact G.ret1 _ func16 rfl rfl ⟨rfl, (HS.pk 1 [] rfl)⟩
theorem impl_isItemName_fn1.calls {w0 w : World} {L : List HObj} {c : Int} {r1 : Bool} (HS : St w0 w (L)) (H : impl_isItemName_fn1.f c = some r1) :
    Calls prog 208 #[.int .i32 c] w (impl_isItemName_fn1.post w0 L r1) := by
  unfold impl_isItemName_fn1.f at H
  refine Calls.of_G func208 rfl rfl rfl ?_
  refine G.run 3 rfl ?_
  rcases ite_elim H with ⟨c1, H⟩ | ⟨c1, H⟩
  ·
   refine G.region (GO.ps 3 rfl (GO.known (t := 5) rfl (decide_eq_true c1) (GO.off rfl rfl rfl rfl rfl rfl (GO.off rfl rfl rfl rfl rfl rfl (GO.ps 2 rfl (GO.nil ?_))))))
   obtain rfl := Option.some.inj H
   exact G.ret1 _ func208 rfl rfl ⟨rfl, HS⟩
  refine G.region (GO.ps 3 rfl (GO.known (t := 5) rfl (decide_eq_false c1) (GO.on rfl rfl rfl rfl (GO.move rfl rfl rfl (GO.back (GO.on rfl rfl rfl rfl (GO.gtr rfl rfl rfl rfl (GO.back (GO.ps 2 rfl (GO.nil ?_))))))))))
  obtain rfl := Option.some.inj H
  exact G.ret1 _ func208 rfl rfl ⟨rfl, HS⟩
theorem strings_indexFunc_isItemName_fn1.calls {w0 w : World} {L : List HObj} {K : Nat} {s : ByteArray} {truth : Bool} {r1 : Int} (HS : St w0 w (L)) (H : strings_indexFunc_isItemName_fn1.f K s truth = some r1) :
    Calls prog 279 #[.string s, .func (.func 208) #[] #[], .bool truth] w (strings_indexFunc_isItemName_fn1.post w0 L r1) := by
  unfold strings_indexFunc_isItemName_fn1.f at H
  refine Calls.of_G func279 rfl rfl rfl ?_
  refine G.run 4 rfl (G.region (GO.move rfl rfl rfl (GO.rangeS HS rfl rfl underlying9 rfl fun b1 wd2 HS => GO.nil (G.run 2 rfl ?_))))
  refine G.name (fun k_l1 hk_l1 => ?_)
  have at_l1 : ∀ m_l1, m_l1 ≤ K → ∀ (at12 : Ix) (w : World), strings_indexFunc_isItemName_fn1.l1 K m_l1 s truth at12 = some r1 → St w0 w (Iter b1 s at12 :: L) → G prog 279 21 [(1, .func (.func 208) #[] #[]), (2, .bool truth), (10, .pointer (some ⟨b1, 0, none⟩))] k_l1 w (strings_indexFunc_isItemName_fn1.post w0 L r1) := by
   intro m_l1
   induction m_l1 using Nat.strongRecOn with
   | _ m_l1 ih_l1 =>
    intro hm_l1 at12 w H HS
    cases m_l1 with
    | zero => rw [strings_indexFunc_isItemName_fn1.l1] at H; cases H
    | succ n_l1 =>
     rw [strings_indexFunc_isItemName_fn1.l1] at H
     subst hk_l1
     refine G.seq ?_
     rcases ite_elim H with ⟨c23, H⟩ | ⟨c23, H⟩
     ·
      refine G.region (GO.nextS (j := 0) HS rfl rfl rfl c23 rfl fun wd24 HS => GO.extract rfl rfl rfl rfl (GO.nil (G.run 7 rfl ?_)))
      obtain ⟨t25, h26, H⟩ := Option.bind_eq_some_iff.1 H
      refine G.region (GO.ps 2 rfl (GO.clo rfl rfl func208 fok208.1 fok208.2 rfl rfl (impl_isItemName_fn1.calls HS  h26) (fun _ wd27 ⟨h28, HS⟩ => ⟨_, h28, (GO.move rfl rfl rfl (GO.eqlB rfl rfl rfl underlying4 rfl (GO.nil ?_)))⟩)))
      rcases ite_elim H with ⟨c29, H⟩ | ⟨c29, H⟩
      ·
       refine G.yesB rfl c29 (G.run 2 rfl ?_)
       obtain rfl := Option.some.inj H
       exact G.ret1 _ func279 rfl rfl ⟨rfl, (HS.pk 1 [] rfl)⟩
      refine G.noB rfl (bnot_of c29) (G.run 3 rfl (G.weak ?_ (ih_l1 n_l1 (Nat.lt_succ_of_le (Nat.le_refl _)) (Nat.le_of_succ_le hm_l1) _ _ H HS)))
      exact ⟨rfl, rfl, rfl, trivial⟩
     refine G.region (GO.nextE (j := 0) HS rfl rfl rfl c23 rfl (GO.extract rfl rfl rfl rfl (GO.nil (G.run 5 rfl ?_))))
     obtain rfl := Option.some.inj H
     exact G.ret1 _ func279 rfl rfl ⟨rfl, (HS.pk 1 [] rfl)⟩
  refine G.weak ?_ (at_l1 K (Nat.le_refl _) _ _ H HS)
  exact ⟨rfl, rfl, rfl, trivial⟩
theorem strings_IndexFunc_isItemName_fn1.calls {w0 w : World} {L : List HObj} {K : Nat} {s : ByteArray} {r1 : Int} (HS : St w0 w (L)) (H : strings_IndexFunc_isItemName_fn1.f K s = some r1) :
    Calls prog 249 #[.string s, .func (.func 208) #[] #[]] w (strings_IndexFunc_isItemName_fn1.post w0 L r1) := by
  unfold strings_IndexFunc_isItemName_fn1.f at H
  refine Calls.of_G func249 rfl rfl rfl ?_
  refine G.run 3 rfl ?_
  obtain ⟨t1, h2, H⟩ := Option.bind_eq_some_iff.1 H
  refine G.region (GO.ps 2 rfl (GO.fn rfl func279 fok279.1 fok279.2 rfl rfl (strings_indexFunc_isItemName_fn1.calls HS  h2) (fun _ wd3 ⟨h4, HS⟩ => ⟨_, h4, (GO.assign rfl rfl rfl (GO.nil ?_))⟩)))
  obtain rfl := Option.some.inj H
  exact G.ret1 _ func249 rfl rfl ⟨rfl, HS⟩
theorem strings_ContainsFunc_isItemName_fn1.calls {w0 w : World} {L : List HObj} {K : Nat} {s : ByteArray} {r1 : Bool} (HS : St w0 w (L)) (H : strings_ContainsFunc_isItemName_fn1.f K s = some r1) :
    Calls prog 207 #[.string s, .func (.func 208) #[] #[]] w (strings_ContainsFunc_isItemName_fn1.post w0 L r1) := by
  unfold strings_ContainsFunc_isItemName_fn1.f at H
  refine Calls.of_G func207 rfl rfl rfl ?_
  refine G.run 3 rfl ?_
  obtain ⟨t1, h2, H⟩ := Option.bind_eq_some_iff.1 H
  refine G.region (GO.ps 2 rfl (GO.fn rfl func249 fok249.1 fok249.2 rfl rfl (strings_IndexFunc_isItemName_fn1.calls HS  h2) (fun _ wd3 ⟨h4, HS⟩ => ⟨_, h4, (GO.ps 2 rfl (GO.nil ?_))⟩)))
  obtain rfl := Option.some.inj H
  exact G.ret1 _ func207 rfl rfl ⟨rfl, HS⟩
theorem impl_isItemName.calls {w0 w : World} {L : List HObj} {K : Nat} {s : ByteArray} {r1 : Bool} (HS : St w0 w (L)) (H : impl_isItemName.f K s = some r1) :
    Calls prog 145 #[.string s] w (impl_isItemName.post w0 L r1) := by
  unfold impl_isItemName.f at H
  refine Calls.of_G func145 rfl rfl rfl ?_
  refine G.run 3 rfl ?_
  rcases ite_elim H with ⟨c1, H⟩ | ⟨c1, H⟩
  ·
   rcases ite_elim H with ⟨c2, H⟩ | ⟨c2, H⟩
   ·
    obtain ⟨t3, h4, H⟩ := Option.bind_eq_some_iff.1 H
    refine G.region (GO.move rfl rfl rfl (GO.lenStr rfl rfl underlying9 rfl (GO.ps 2 rfl (GO.known (t := 6) rfl (decide_eq_true c1) (GO.on rfl rfl rfl rfl (GO.move rfl rfl rfl (GO.back (GO.on rfl rfl rfl rfl (GO.lenStr rfl rfl underlying9 rfl (GO.back (GO.on rfl rfl rfl rfl (GO.leq rfl rfl rfl rfl (GO.back (GO.ps 2 rfl ?_))))))))))))))
    refine GO.known (t := 11) rfl (decide_eq_true c2) (GO.on rfl rfl rfl rfl (GO.move rfl rfl rfl (GO.back (GO.on rfl rfl rfl rfl (GO.fn rfl func207 fok207.1 fok207.2 rfl rfl (strings_ContainsFunc_isItemName_fn1.calls HS  h4) (fun _ wd5 ⟨h6, HS⟩ => ⟨_, h6, (GO.back (GO.on rfl rfl rfl rfl (GO.not rfl rfl rfl (GO.back (GO.ps 2 rfl (GO.nil ?_))))))⟩))))))
    obtain rfl := Option.some.inj H
    exact G.ret1 _ func145 rfl rfl ⟨rfl, HS⟩
   refine G.region (GO.move rfl rfl rfl (GO.lenStr rfl rfl underlying9 rfl (GO.ps 2 rfl (GO.known (t := 6) rfl (decide_eq_true c1) (GO.on rfl rfl rfl rfl (GO.move rfl rfl rfl (GO.back (GO.on rfl rfl rfl rfl (GO.lenStr rfl rfl underlying9 rfl (GO.back (GO.on rfl rfl rfl rfl (GO.leq rfl rfl rfl rfl (GO.back (GO.ps 2 rfl ?_))))))))))))))
   refine GO.known (t := 11) rfl (decide_eq_false c2) (GO.off rfl rfl rfl rfl rfl rfl (GO.off rfl rfl rfl rfl rfl rfl (GO.off rfl rfl rfl rfl rfl rfl (GO.ps 2 rfl (GO.nil ?_)))))
   obtain rfl := Option.some.inj H
   exact G.ret1 _ func145 rfl rfl ⟨rfl, HS⟩
  refine G.region (GO.move rfl rfl rfl (GO.lenStr rfl rfl underlying9 rfl (GO.ps 2 rfl (GO.known (t := 6) rfl (decide_eq_false c1) (GO.off rfl rfl rfl rfl rfl rfl (GO.off rfl rfl rfl rfl rfl rfl (GO.off rfl rfl rfl rfl rfl rfl (GO.ps 2 rfl (GO.off rfl rfl rfl rfl rfl rfl (GO.off rfl rfl rfl rfl rfl rfl (GO.off rfl rfl rfl rfl rfl rfl (GO.ps 2 rfl (GO.nil ?_)))))))))))))
  obtain rfl := Option.some.inj H
  exact G.ret1 _ func145 rfl rfl ⟨rfl, HS⟩
theorem impl_inRange.calls {w0 w : World} {L : List HObj} {x low high : Int} {r1 : Bool} (HS : St w0 w (L)) (H : impl_inRange.f x low high = some r1) :
    Calls prog 146 #[.int .i64 x, .int .i64 low, .int .i64 high] w (impl_inRange.post w0 L r1) := by
  unfold impl_inRange.f at H
  refine Calls.of_G func146 rfl rfl rfl ?_
  refine G.run 3 rfl ?_
  rcases ite_elim H with ⟨c1, H⟩ | ⟨c1, H⟩
  ·
   refine G.region (GO.ps 4 rfl (GO.known (t := 10) rfl (decide_eq_true c1) (GO.on rfl rfl rfl rfl (GO.move rfl rfl rfl (GO.back (GO.on rfl rfl rfl rfl (GO.move rfl rfl rfl (GO.back (GO.on rfl rfl rfl rfl (GO.leq rfl rfl rfl rfl (GO.back (GO.ps 2 rfl (GO.nil ?_)))))))))))))
   obtain rfl := Option.some.inj H
   exact G.ret1 _ func146 rfl rfl ⟨rfl, HS⟩
  refine G.region (GO.ps 4 rfl (GO.known (t := 10) rfl (decide_eq_false c1) (GO.off rfl rfl rfl rfl rfl rfl (GO.off rfl rfl rfl rfl rfl rfl (GO.off rfl rfl rfl rfl rfl rfl (GO.ps 2 rfl (GO.nil ?_)))))))
  obtain rfl := Option.some.inj H
  exact G.ret1 _ func146 rfl rfl ⟨rfl, HS⟩
theorem impl_fields.calls {w0 w : World} {L : List HObj} {e_Name : ByteArray} {e_Kind : Int} {e_Triangulation_Tets : List (List GFace)} {e_Diagram_Crossings : List GCrossing} {e_Diagram_Circles e_Braid_Strands : Int} {e_Braid_Word : List Int} {e_Certificate_Name e_Certificate_Trait : Int} {e_Certificate_Moves : List GMove} {e_Certificate_Tets e_Certificate_Perms : List Int} {A_a : Option Addr} {c_a : Nat} {y_a : Nat → (Ty.slice 166 T_GFace).Lay} {A_b : Option Addr} {c_b : Nat} {A_c : Option Addr} {c_c : Nat} {A_d : Option Addr} {c_d : Nat} {A_e : Option Addr} {c_e : Nat} {A_f : Option Addr} {c_f : Nat} {r1 r2 : Bool} {r3 r4 : Bool} (HS : St w0 w (L)) (r_a : RdIn w0 L (Ty.slice 166 T_GFace) A_a c_a y_a e_Triangulation_Tets) (r_b : RdIn w0 L T_GCrossing A_b c_b (fun _ => ()) e_Diagram_Crossings) (r_c : RdIn w0 L (TInt .i64) A_c c_c (fun _ => ()) e_Braid_Word) (r_d : RdIn w0 L T_GMove A_d c_d (fun _ => ()) e_Certificate_Moves) (r_e : RdIn w0 L (TInt .i64) A_e c_e (fun _ => ()) e_Certificate_Tets) (r_f : RdIn w0 L (TInt .i64) A_f c_f (fun _ => ()) e_Certificate_Perms) (H : impl_fields.f e_Name e_Kind e_Triangulation_Tets e_Diagram_Crossings e_Diagram_Circles e_Braid_Strands e_Braid_Word e_Certificate_Name e_Certificate_Trait e_Certificate_Moves e_Certificate_Tets e_Certificate_Perms = some (r1, r2, r3, r4)) :
    Calls prog 147 #[.agg [.string e_Name, .int .i64 e_Kind, .slice A_a e_Triangulation_Tets.length c_a, .slice A_b e_Diagram_Crossings.length c_b, .int .i64 e_Diagram_Circles, .int .i64 e_Braid_Strands, .slice A_c e_Braid_Word.length c_c, .int .i64 e_Certificate_Name, .int .i64 e_Certificate_Trait, .slice A_d e_Certificate_Moves.length c_d, .slice A_e e_Certificate_Tets.length c_e, .slice A_f e_Certificate_Perms.length c_f].toArray] w (impl_fields.post w0 L r1 r2 r3 r4) := by
  unfold impl_fields.f at H
  refine Calls.of_G func147 rfl rfl rfl ?_
  refine G.seq (G.region (GO.box (cs := [.string e_Name, .int .i64 e_Kind, .slice A_a e_Triangulation_Tets.length c_a, .slice A_b e_Diagram_Crossings.length c_b, .int .i64 e_Diagram_Circles, .int .i64 e_Braid_Strands, .slice A_c e_Braid_Word.length c_c, .int .i64 e_Certificate_Name, .int .i64 e_Certificate_Trait, .slice A_d e_Certificate_Moves.length c_d, .slice A_e e_Certificate_Tets.length c_e, .slice A_f e_Certificate_Perms.length c_f]) HS rfl rfl rfl rfl fun b1 wd2 HS => GO.alloc HS rfl zr181 rfl rfl fun b3 wd4 HS => GO.nil (G.seq (G.region (GO.fld (⟨b1, 7, none⟩) rfl rfl fl49_5 rfl rfl (GO.ldBoxA (j := 1) ([.int .i64 e_Certificate_Name, .int .i64 e_Certificate_Trait, .slice A_d e_Certificate_Moves.length c_d, .slice A_e e_Certificate_Tets.length c_e, .slice A_f e_Certificate_Perms.length c_f]) HS rfl rfl rfl rfl ag47 rfl (GO.alloc HS rfl zr47 rfl rfl fun b5 wd6 HS => GO.stBox (j := 0) (vs := [.int .i64 e_Certificate_Name, .int .i64 e_Certificate_Trait, .slice A_d e_Certificate_Moves.length c_d, .slice A_e e_Certificate_Tets.length c_e, .slice A_f e_Certificate_Perms.length c_f]) ([.int .i64 e_Certificate_Name, .int .i64 e_Certificate_Trait, .slice A_d e_Certificate_Moves.length c_d, .slice A_e e_Certificate_Tets.length c_e, .slice A_f e_Certificate_Perms.length c_f]) HS rfl rfl rfl rfl rfl (htA ag47) rfl rfl rfl fun wd7 HS => GO.nil (G.seq ?_))))))))
  rcases ite_elim H with ⟨c8, H⟩ | ⟨c8, H⟩
  ·
   rcases ite_elim H with ⟨c9, H⟩ | ⟨c9, H⟩
   ·
    rcases ite_elim H with ⟨c10, H⟩ | ⟨c10, H⟩
    ·
     rcases ite_elim H with ⟨c11, H⟩ | ⟨c11, H⟩
     ·
      rcases ite_elim H with ⟨c12, H⟩ | ⟨c12, H⟩
      ·
       refine G.region (GO.fld (⟨b1, 2, none⟩) rfl rfl fl49_2 rfl rfl (GO.fld (⟨b1, 2, none⟩) rfl rfl fl40_0 rfl rfl (GO.ldBox (j := 2) HS rfl rfl rfl rfl na38 rfl (GO.lenS rfl rfl underlying38 rfl (GO.gtr rfl rfl rfl rfl (GO.fld (⟨b1, 3, none⟩) rfl rfl fl49_3 rfl rfl (GO.fld (⟨b1, 3, none⟩) rfl rfl fl43_0 rfl rfl (GO.ldBox (j := 2) HS rfl rfl rfl rfl na41 rfl (GO.lenS rfl rfl underlying41 rfl (GO.ps 2 rfl (GO.known (t := 16) rfl (decide_eq_true c8) (GO.off rfl rfl rfl rfl rfl rfl (GO.off rfl rfl rfl rfl rfl rfl (GO.off rfl rfl rfl rfl rfl rfl ?_))))))))))))))
       refine GO.off rfl rfl rfl rfl rfl rfl (GO.pickT rfl rfl rfl rfl rfl (GO.fld (⟨b1, 5, none⟩) rfl rfl fl49_4 rfl rfl (GO.fld (⟨b1, 5, none⟩) rfl rfl fl44_0 rfl rfl (GO.ldBox (j := 2) HS rfl rfl rfl rfl na2 rfl (GO.ps 2 rfl (GO.known (t := 26) rfl (congrArg Bool.not (decide_eq_true c9)) (GO.on rfl rfl rfl rfl (GO.fld (⟨b1, 5, none⟩) rfl rfl fl49_4 rfl rfl (GO.back (GO.on rfl rfl rfl rfl (GO.fld (⟨b1, 6, none⟩) rfl rfl fl44_1 rfl rfl (GO.back (GO.on rfl rfl rfl rfl (GO.ldBox (j := 2) HS rfl rfl rfl rfl na28 rfl ?_))))))))))))))
       refine GO.back (GO.on rfl rfl rfl rfl (GO.lenS rfl rfl underlying28 rfl (GO.back (GO.on rfl rfl rfl rfl (GO.gtr rfl rfl rfl rfl (GO.back (GO.pickF rfl rfl rfl rfl rfl (GO.fld (⟨b5, 0, none⟩) rfl rfl fl47_0 rfl rfl (GO.ldBox (j := 0) HS rfl rfl rfl rfl na2 rfl (GO.ps 2 rfl (GO.known (t := 36) rfl (congrArg Bool.not (decide_eq_true c10)) (GO.on rfl rfl rfl rfl (GO.fld (⟨b5, 1, none⟩) rfl rfl fl47_1 rfl rfl (GO.back ?_))))))))))))))
       refine GO.on rfl rfl rfl rfl (GO.ldBox (j := 0) HS rfl rfl rfl rfl na2 rfl (GO.back (GO.on rfl rfl rfl rfl (GO.neq rfl rfl rfl rfl (GO.back (GO.ps 2 rfl (GO.known (t := 41) rfl (congrArg Bool.not (decide_eq_true c11)) (GO.on rfl rfl rfl rfl (GO.fld (⟨b5, 2, none⟩) rfl rfl fl47_2 rfl rfl (GO.back (GO.on rfl rfl rfl rfl (GO.ldBox (j := 0) HS rfl rfl rfl rfl na45 rfl (GO.back (GO.on rfl rfl rfl rfl ?_))))))))))))))
       refine GO.lenS rfl rfl underlying45 rfl (GO.back (GO.on rfl rfl rfl rfl (GO.gtr rfl rfl rfl rfl (GO.back (GO.ps 2 rfl (GO.known (t := 47) rfl (decide_eq_true c12) (GO.off rfl rfl rfl rfl rfl rfl (GO.off rfl rfl rfl rfl rfl rfl (GO.off rfl rfl rfl rfl rfl rfl (GO.off rfl rfl rfl rfl rfl rfl (GO.ps 2 rfl (GO.off rfl rfl rfl rfl rfl rfl (GO.off rfl rfl rfl rfl rfl rfl (GO.off rfl rfl rfl rfl rfl rfl ?_))))))))))))))
       refine GO.off rfl rfl rfl rfl rfl rfl (GO.pickT rfl rfl rfl rfl rfl (GO.buildV (.agg [.bool (decide (0 < (e_Triangulation_Tets.length : Int))), .bool true, .bool (decide (0 < (e_Braid_Word.length : Int))), .bool true].toArray) rfl rfl (fun _ => by kernel_rfl) rfl (GO.stBox (j := 1) (vs := [.bool (decide (0 < (e_Triangulation_Tets.length : Int))), .bool true, .bool (decide (0 < (e_Braid_Word.length : Int))), .bool true]) ([.bool (decide (0 < (e_Triangulation_Tets.length : Int))), .bool true, .bool (decide (0 < (e_Braid_Word.length : Int))), .bool true]) HS rfl rfl rfl rfl rfl (htA ag181) rfl rfl rfl fun wd13 HS => GO.nil ?_)))
       obtain ⟨rfl, rfl, rfl, rfl⟩ := some4 H
       exact G.ret1 _ func147 rfl (Res1.boxA (j := 1) (vs := [.bool (decide (0 < (e_Triangulation_Tets.length : Int))), .bool true, .bool (decide (0 < (e_Braid_Word.length : Int))), .bool true]) HS rfl rfl rfl ag181) ⟨rfl, (HS.pk 3 [] rfl)⟩
      rcases ite_elim H with ⟨c14, H⟩ | ⟨c14, H⟩
      ·
       refine G.region (GO.fld (⟨b1, 2, none⟩) rfl rfl fl49_2 rfl rfl (GO.fld (⟨b1, 2, none⟩) rfl rfl fl40_0 rfl rfl (GO.ldBox (j := 2) HS rfl rfl rfl rfl na38 rfl (GO.lenS rfl rfl underlying38 rfl (GO.gtr rfl rfl rfl rfl (GO.fld (⟨b1, 3, none⟩) rfl rfl fl49_3 rfl rfl (GO.fld (⟨b1, 3, none⟩) rfl rfl fl43_0 rfl rfl (GO.ldBox (j := 2) HS rfl rfl rfl rfl na41 rfl (GO.lenS rfl rfl underlying41 rfl (GO.ps 2 rfl (GO.known (t := 16) rfl (decide_eq_true c8) (GO.off rfl rfl rfl rfl rfl rfl (GO.off rfl rfl rfl rfl rfl rfl (GO.off rfl rfl rfl rfl rfl rfl ?_))))))))))))))
       refine GO.off rfl rfl rfl rfl rfl rfl (GO.pickT rfl rfl rfl rfl rfl (GO.fld (⟨b1, 5, none⟩) rfl rfl fl49_4 rfl rfl (GO.fld (⟨b1, 5, none⟩) rfl rfl fl44_0 rfl rfl (GO.ldBox (j := 2) HS rfl rfl rfl rfl na2 rfl (GO.ps 2 rfl (GO.known (t := 26) rfl (congrArg Bool.not (decide_eq_true c9)) (GO.on rfl rfl rfl rfl (GO.fld (⟨b1, 5, none⟩) rfl rfl fl49_4 rfl rfl (GO.back (GO.on rfl rfl rfl rfl (GO.fld (⟨b1, 6, none⟩) rfl rfl fl44_1 rfl rfl (GO.back (GO.on rfl rfl rfl rfl (GO.ldBox (j := 2) HS rfl rfl rfl rfl na28 rfl ?_))))))))))))))
       refine GO.back (GO.on rfl rfl rfl rfl (GO.lenS rfl rfl underlying28 rfl (GO.back (GO.on rfl rfl rfl rfl (GO.gtr rfl rfl rfl rfl (GO.back (GO.pickF rfl rfl rfl rfl rfl (GO.fld (⟨b5, 0, none⟩) rfl rfl fl47_0 rfl rfl (GO.ldBox (j := 0) HS rfl rfl rfl rfl na2 rfl (GO.ps 2 rfl (GO.known (t := 36) rfl (congrArg Bool.not (decide_eq_true c10)) (GO.on rfl rfl rfl rfl (GO.fld (⟨b5, 1, none⟩) rfl rfl fl47_1 rfl rfl (GO.back ?_))))))))))))))
       refine GO.on rfl rfl rfl rfl (GO.ldBox (j := 0) HS rfl rfl rfl rfl na2 rfl (GO.back (GO.on rfl rfl rfl rfl (GO.neq rfl rfl rfl rfl (GO.back (GO.ps 2 rfl (GO.known (t := 41) rfl (congrArg Bool.not (decide_eq_true c11)) (GO.on rfl rfl rfl rfl (GO.fld (⟨b5, 2, none⟩) rfl rfl fl47_2 rfl rfl (GO.back (GO.on rfl rfl rfl rfl (GO.ldBox (j := 0) HS rfl rfl rfl rfl na45 rfl (GO.back (GO.on rfl rfl rfl rfl ?_))))))))))))))
       refine GO.lenS rfl rfl underlying45 rfl (GO.back (GO.on rfl rfl rfl rfl (GO.gtr rfl rfl rfl rfl (GO.back (GO.ps 2 rfl (GO.known (t := 47) rfl (decide_eq_false c12) (GO.on rfl rfl rfl rfl (GO.fld (⟨b5, 3, none⟩) rfl rfl fl47_3 rfl rfl (GO.back (GO.on rfl rfl rfl rfl (GO.ldBox (j := 0) HS rfl rfl rfl rfl na28 rfl (GO.back (GO.on rfl rfl rfl rfl (GO.lenS rfl rfl underlying28 rfl ?_))))))))))))))
       refine GO.back (GO.on rfl rfl rfl rfl (GO.gtr rfl rfl rfl rfl (GO.back (GO.ps 2 rfl (GO.known (t := 53) rfl (decide_eq_true c14) (GO.off rfl rfl rfl rfl rfl rfl (GO.off rfl rfl rfl rfl rfl rfl (GO.off rfl rfl rfl rfl rfl rfl (GO.off rfl rfl rfl rfl rfl rfl (GO.pickT rfl rfl rfl rfl rfl (GO.buildV (.agg [.bool (decide (0 < (e_Triangulation_Tets.length : Int))), .bool true, .bool (decide (0 < (e_Braid_Word.length : Int))), .bool true].toArray) rfl rfl (fun _ => by kernel_rfl) rfl (GO.stBox (j := 1) (vs := [.bool (decide (0 < (e_Triangulation_Tets.length : Int))), .bool true, .bool (decide (0 < (e_Braid_Word.length : Int))), .bool true]) ([.bool (decide (0 < (e_Triangulation_Tets.length : Int))), .bool true, .bool (decide (0 < (e_Braid_Word.length : Int))), .bool true]) HS rfl rfl rfl rfl rfl (htA ag181) rfl rfl rfl fun wd15 HS => GO.nil ?_))))))))))))
       obtain ⟨rfl, rfl, rfl, rfl⟩ := some4 H
       exact G.ret1 _ func147 rfl (Res1.boxA (j := 1) (vs := [.bool (decide (0 < (e_Triangulation_Tets.length : Int))), .bool true, .bool (decide (0 < (e_Braid_Word.length : Int))), .bool true]) HS rfl rfl rfl ag181) ⟨rfl, (HS.pk 3 [] rfl)⟩
      refine G.region (GO.fld (⟨b1, 2, none⟩) rfl rfl fl49_2 rfl rfl (GO.fld (⟨b1, 2, none⟩) rfl rfl fl40_0 rfl rfl (GO.ldBox (j := 2) HS rfl rfl rfl rfl na38 rfl (GO.lenS rfl rfl underlying38 rfl (GO.gtr rfl rfl rfl rfl (GO.fld (⟨b1, 3, none⟩) rfl rfl fl49_3 rfl rfl (GO.fld (⟨b1, 3, none⟩) rfl rfl fl43_0 rfl rfl (GO.ldBox (j := 2) HS rfl rfl rfl rfl na41 rfl (GO.lenS rfl rfl underlying41 rfl (GO.ps 2 rfl (GO.known (t := 16) rfl (decide_eq_true c8) (GO.off rfl rfl rfl rfl rfl rfl (GO.off rfl rfl rfl rfl rfl rfl (GO.off rfl rfl rfl rfl rfl rfl ?_))))))))))))))
      refine GO.off rfl rfl rfl rfl rfl rfl (GO.pickT rfl rfl rfl rfl rfl (GO.fld (⟨b1, 5, none⟩) rfl rfl fl49_4 rfl rfl (GO.fld (⟨b1, 5, none⟩) rfl rfl fl44_0 rfl rfl (GO.ldBox (j := 2) HS rfl rfl rfl rfl na2 rfl (GO.ps 2 rfl (GO.known (t := 26) rfl (congrArg Bool.not (decide_eq_true c9)) (GO.on rfl rfl rfl rfl (GO.fld (⟨b1, 5, none⟩) rfl rfl fl49_4 rfl rfl (GO.back (GO.on rfl rfl rfl rfl (GO.fld (⟨b1, 6, none⟩) rfl rfl fl44_1 rfl rfl (GO.back (GO.on rfl rfl rfl rfl (GO.ldBox (j := 2) HS rfl rfl rfl rfl na28 rfl ?_))))))))))))))
      refine GO.back (GO.on rfl rfl rfl rfl (GO.lenS rfl rfl underlying28 rfl (GO.back (GO.on rfl rfl rfl rfl (GO.gtr rfl rfl rfl rfl (GO.back (GO.pickF rfl rfl rfl rfl rfl (GO.fld (⟨b5, 0, none⟩) rfl rfl fl47_0 rfl rfl (GO.ldBox (j := 0) HS rfl rfl rfl rfl na2 rfl (GO.ps 2 rfl (GO.known (t := 36) rfl (congrArg Bool.not (decide_eq_true c10)) (GO.on rfl rfl rfl rfl (GO.fld (⟨b5, 1, none⟩) rfl rfl fl47_1 rfl rfl (GO.back ?_))))))))))))))
      refine GO.on rfl rfl rfl rfl (GO.ldBox (j := 0) HS rfl rfl rfl rfl na2 rfl (GO.back (GO.on rfl rfl rfl rfl (GO.neq rfl rfl rfl rfl (GO.back (GO.ps 2 rfl (GO.known (t := 41) rfl (congrArg Bool.not (decide_eq_true c11)) (GO.on rfl rfl rfl rfl (GO.fld (⟨b5, 2, none⟩) rfl rfl fl47_2 rfl rfl (GO.back (GO.on rfl rfl rfl rfl (GO.ldBox (j := 0) HS rfl rfl rfl rfl na45 rfl (GO.back (GO.on rfl rfl rfl rfl ?_))))))))))))))
      refine GO.lenS rfl rfl underlying45 rfl (GO.back (GO.on rfl rfl rfl rfl (GO.gtr rfl rfl rfl rfl (GO.back (GO.ps 2 rfl (GO.known (t := 47) rfl (decide_eq_false c12) (GO.on rfl rfl rfl rfl (GO.fld (⟨b5, 3, none⟩) rfl rfl fl47_3 rfl rfl (GO.back (GO.on rfl rfl rfl rfl (GO.ldBox (j := 0) HS rfl rfl rfl rfl na28 rfl (GO.back (GO.on rfl rfl rfl rfl (GO.lenS rfl rfl underlying28 rfl ?_))))))))))))))
      refine GO.back (GO.on rfl rfl rfl rfl (GO.gtr rfl rfl rfl rfl (GO.back (GO.ps 2 rfl (GO.known (t := 53) rfl (decide_eq_false c14) (GO.on rfl rfl rfl rfl (GO.fld (⟨b5, 4, none⟩) rfl rfl fl47_4 rfl rfl (GO.back (GO.on rfl rfl rfl rfl (GO.ldBox (j := 0) HS rfl rfl rfl rfl na28 rfl (GO.back (GO.on rfl rfl rfl rfl (GO.lenS rfl rfl underlying28 rfl (GO.back ?_))))))))))))))
      refine GO.on rfl rfl rfl rfl (GO.gtr rfl rfl rfl rfl (GO.back (GO.pickF rfl rfl rfl rfl rfl (GO.buildV (.agg [.bool (decide (0 < (e_Triangulation_Tets.length : Int))), .bool true, .bool (decide (0 < (e_Braid_Word.length : Int))), .bool (decide (0 < (e_Certificate_Perms.length : Int)))].toArray) rfl rfl (fun _ => by kernel_rfl) rfl (GO.stBox (j := 1) (vs := [.bool (decide (0 < (e_Triangulation_Tets.length : Int))), .bool true, .bool (decide (0 < (e_Braid_Word.length : Int))), .bool (decide (0 < (e_Certificate_Perms.length : Int)))]) ([.bool (decide (0 < (e_Triangulation_Tets.length : Int))), .bool true, .bool (decide (0 < (e_Braid_Word.length : Int))), .bool (decide (0 < (e_Certificate_Perms.length : Int)))]) HS rfl rfl rfl rfl rfl (htA ag181) rfl rfl rfl fun wd16 HS => GO.nil ?_)))))
      obtain ⟨rfl, rfl, rfl, rfl⟩ := some4 H
      exact G.ret1 _ func147 rfl (Res1.boxA (j := 1) (vs := [.bool (decide (0 < (e_Triangulation_Tets.length : Int))), .bool true, .bool (decide (0 < (e_Braid_Word.length : Int))), .bool (decide (0 < (e_Certificate_Perms.length : Int)))]) HS rfl rfl rfl ag181) ⟨rfl, (HS.pk 3 [] rfl)⟩
     refine G.region (GO.fld (⟨b1, 2, none⟩) rfl rfl fl49_2 rfl rfl (GO.fld (⟨b1, 2, none⟩) rfl rfl fl40_0 rfl rfl (GO.ldBox (j := 2) HS rfl rfl rfl rfl na38 rfl (GO.lenS rfl rfl underlying38 rfl (GO.gtr rfl rfl rfl rfl (GO.fld (⟨b1, 3, none⟩) rfl rfl fl49_3 rfl rfl (GO.fld (⟨b1, 3, none⟩) rfl rfl fl43_0 rfl rfl (GO.ldBox (j := 2) HS rfl rfl rfl rfl na41 rfl (GO.lenS rfl rfl underlying41 rfl (GO.ps 2 rfl (GO.known (t := 16) rfl (decide_eq_true c8) (GO.off rfl rfl rfl rfl rfl rfl (GO.off rfl rfl rfl rfl rfl rfl (GO.off rfl rfl rfl rfl rfl rfl ?_))))))))))))))
     refine GO.off rfl rfl rfl rfl rfl rfl (GO.pickT rfl rfl rfl rfl rfl (GO.fld (⟨b1, 5, none⟩) rfl rfl fl49_4 rfl rfl (GO.fld (⟨b1, 5, none⟩) rfl rfl fl44_0 rfl rfl (GO.ldBox (j := 2) HS rfl rfl rfl rfl na2 rfl (GO.ps 2 rfl (GO.known (t := 26) rfl (congrArg Bool.not (decide_eq_true c9)) (GO.on rfl rfl rfl rfl (GO.fld (⟨b1, 5, none⟩) rfl rfl fl49_4 rfl rfl (GO.back (GO.on rfl rfl rfl rfl (GO.fld (⟨b1, 6, none⟩) rfl rfl fl44_1 rfl rfl (GO.back (GO.on rfl rfl rfl rfl (GO.ldBox (j := 2) HS rfl rfl rfl rfl na28 rfl ?_))))))))))))))
     refine GO.back (GO.on rfl rfl rfl rfl (GO.lenS rfl rfl underlying28 rfl (GO.back (GO.on rfl rfl rfl rfl (GO.gtr rfl rfl rfl rfl (GO.back (GO.pickF rfl rfl rfl rfl rfl (GO.fld (⟨b5, 0, none⟩) rfl rfl fl47_0 rfl rfl (GO.ldBox (j := 0) HS rfl rfl rfl rfl na2 rfl (GO.ps 2 rfl (GO.known (t := 36) rfl (congrArg Bool.not (decide_eq_true c10)) (GO.on rfl rfl rfl rfl (GO.fld (⟨b5, 1, none⟩) rfl rfl fl47_1 rfl rfl (GO.back ?_))))))))))))))
     refine GO.on rfl rfl rfl rfl (GO.ldBox (j := 0) HS rfl rfl rfl rfl na2 rfl (GO.back (GO.on rfl rfl rfl rfl (GO.neq rfl rfl rfl rfl (GO.back (GO.ps 2 rfl (GO.known (t := 41) rfl (congrArg Bool.not (decide_eq_false c11)) (GO.off rfl rfl rfl rfl rfl rfl (GO.off rfl rfl rfl rfl rfl rfl (GO.off rfl rfl rfl rfl rfl rfl (GO.off rfl rfl rfl rfl rfl rfl (GO.ps 2 rfl (GO.off rfl rfl rfl rfl rfl rfl (GO.off rfl rfl rfl rfl rfl rfl ?_))))))))))))))
     refine GO.off rfl rfl rfl rfl rfl rfl (GO.off rfl rfl rfl rfl rfl rfl (GO.ps 2 rfl (GO.off rfl rfl rfl rfl rfl rfl (GO.off rfl rfl rfl rfl rfl rfl (GO.off rfl rfl rfl rfl rfl rfl (GO.off rfl rfl rfl rfl rfl rfl (GO.pickT rfl rfl rfl rfl rfl (GO.buildV (.agg [.bool (decide (0 < (e_Triangulation_Tets.length : Int))), .bool true, .bool (decide (0 < (e_Braid_Word.length : Int))), .bool true].toArray) rfl rfl (fun _ => by kernel_rfl) rfl (GO.stBox (j := 1) (vs := [.bool (decide (0 < (e_Triangulation_Tets.length : Int))), .bool true, .bool (decide (0 < (e_Braid_Word.length : Int))), .bool true]) ([.bool (decide (0 < (e_Triangulation_Tets.length : Int))), .bool true, .bool (decide (0 < (e_Braid_Word.length : Int))), .bool true]) HS rfl rfl rfl rfl rfl (htA ag181) rfl rfl rfl fun wd17 HS => GO.nil ?_)))))))))
     obtain ⟨rfl, rfl, rfl, rfl⟩ := some4 H
     exact G.ret1 _ func147 rfl (Res1.boxA (j := 1) (vs := [.bool (decide (0 < (e_Triangulation_Tets.length : Int))), .bool true, .bool (decide (0 < (e_Braid_Word.length : Int))), .bool true]) HS rfl rfl rfl ag181) ⟨rfl, (HS.pk 3 [] rfl)⟩
    refine G.region (GO.fld (⟨b1, 2, none⟩) rfl rfl fl49_2 rfl rfl (GO.fld (⟨b1, 2, none⟩) rfl rfl fl40_0 rfl rfl (GO.ldBox (j := 2) HS rfl rfl rfl rfl na38 rfl (GO.lenS rfl rfl underlying38 rfl (GO.gtr rfl rfl rfl rfl (GO.fld (⟨b1, 3, none⟩) rfl rfl fl49_3 rfl rfl (GO.fld (⟨b1, 3, none⟩) rfl rfl fl43_0 rfl rfl (GO.ldBox (j := 2) HS rfl rfl rfl rfl na41 rfl (GO.lenS rfl rfl underlying41 rfl (GO.ps 2 rfl (GO.known (t := 16) rfl (decide_eq_true c8) (GO.off rfl rfl rfl rfl rfl rfl (GO.off rfl rfl rfl rfl rfl rfl (GO.off rfl rfl rfl rfl rfl rfl ?_))))))))))))))
    refine GO.off rfl rfl rfl rfl rfl rfl (GO.pickT rfl rfl rfl rfl rfl (GO.fld (⟨b1, 5, none⟩) rfl rfl fl49_4 rfl rfl (GO.fld (⟨b1, 5, none⟩) rfl rfl fl44_0 rfl rfl (GO.ldBox (j := 2) HS rfl rfl rfl rfl na2 rfl (GO.ps 2 rfl (GO.known (t := 26) rfl (congrArg Bool.not (decide_eq_true c9)) (GO.on rfl rfl rfl rfl (GO.fld (⟨b1, 5, none⟩) rfl rfl fl49_4 rfl rfl (GO.back (GO.on rfl rfl rfl rfl (GO.fld (⟨b1, 6, none⟩) rfl rfl fl44_1 rfl rfl (GO.back (GO.on rfl rfl rfl rfl (GO.ldBox (j := 2) HS rfl rfl rfl rfl na28 rfl ?_))))))))))))))
    refine GO.back (GO.on rfl rfl rfl rfl (GO.lenS rfl rfl underlying28 rfl (GO.back (GO.on rfl rfl rfl rfl (GO.gtr rfl rfl rfl rfl (GO.back (GO.pickF rfl rfl rfl rfl rfl (GO.fld (⟨b5, 0, none⟩) rfl rfl fl47_0 rfl rfl (GO.ldBox (j := 0) HS rfl rfl rfl rfl na2 rfl (GO.ps 2 rfl (GO.known (t := 36) rfl (congrArg Bool.not (decide_eq_false c10)) (GO.off rfl rfl rfl rfl rfl rfl (GO.off rfl rfl rfl rfl rfl rfl (GO.off rfl rfl rfl rfl rfl rfl ?_))))))))))))))
    refine GO.ps 2 rfl (GO.off rfl rfl rfl rfl rfl rfl (GO.off rfl rfl rfl rfl rfl rfl (GO.off rfl rfl rfl rfl rfl rfl (GO.off rfl rfl rfl rfl rfl rfl (GO.ps 2 rfl (GO.off rfl rfl rfl rfl rfl rfl (GO.off rfl rfl rfl rfl rfl rfl (GO.off rfl rfl rfl rfl rfl rfl (GO.off rfl rfl rfl rfl rfl rfl (GO.ps 2 rfl (GO.off rfl rfl rfl rfl rfl rfl (GO.off rfl rfl rfl rfl rfl rfl (GO.off rfl rfl rfl rfl rfl rfl (GO.off rfl rfl rfl rfl rfl rfl ?_))))))))))))))
    refine GO.pickT rfl rfl rfl rfl rfl (GO.buildV (.agg [.bool (decide (0 < (e_Triangulation_Tets.length : Int))), .bool true, .bool (decide (0 < (e_Braid_Word.length : Int))), .bool true].toArray) rfl rfl (fun _ => by kernel_rfl) rfl (GO.stBox (j := 1) (vs := [.bool (decide (0 < (e_Triangulation_Tets.length : Int))), .bool true, .bool (decide (0 < (e_Braid_Word.length : Int))), .bool true]) ([.bool (decide (0 < (e_Triangulation_Tets.length : Int))), .bool true, .bool (decide (0 < (e_Braid_Word.length : Int))), .bool true]) HS rfl rfl rfl rfl rfl (htA ag181) rfl rfl rfl fun wd18 HS => GO.nil ?_))
    obtain ⟨rfl, rfl, rfl, rfl⟩ := some4 H
    exact G.ret1 _ func147 rfl (Res1.boxA (j := 1) (vs := [.bool (decide (0 < (e_Triangulation_Tets.length : Int))), .bool true, .bool (decide (0 < (e_Braid_Word.length : Int))), .bool true]) HS rfl rfl rfl ag181) ⟨rfl, (HS.pk 3 [] rfl)⟩
   rcases ite_elim H with ⟨c19, H⟩ | ⟨c19, H⟩
   ·
    rcases ite_elim H with ⟨c20, H⟩ | ⟨c20, H⟩
    ·
     rcases ite_elim H with ⟨c21, H⟩ | ⟨c21, H⟩
     ·
      refine G.region (GO.fld (⟨b1, 2, none⟩) rfl rfl fl49_2 rfl rfl (GO.fld (⟨b1, 2, none⟩) rfl rfl fl40_0 rfl rfl (GO.ldBox (j := 2) HS rfl rfl rfl rfl na38 rfl (GO.lenS rfl rfl underlying38 rfl (GO.gtr rfl rfl rfl rfl (GO.fld (⟨b1, 3, none⟩) rfl rfl fl49_3 rfl rfl (GO.fld (⟨b1, 3, none⟩) rfl rfl fl43_0 rfl rfl (GO.ldBox (j := 2) HS rfl rfl rfl rfl na41 rfl (GO.lenS rfl rfl underlying41 rfl (GO.ps 2 rfl (GO.known (t := 16) rfl (decide_eq_true c8) (GO.off rfl rfl rfl rfl rfl rfl (GO.off rfl rfl rfl rfl rfl rfl (GO.off rfl rfl rfl rfl rfl rfl ?_))))))))))))))
      refine GO.off rfl rfl rfl rfl rfl rfl (GO.pickT rfl rfl rfl rfl rfl (GO.fld (⟨b1, 5, none⟩) rfl rfl fl49_4 rfl rfl (GO.fld (⟨b1, 5, none⟩) rfl rfl fl44_0 rfl rfl (GO.ldBox (j := 2) HS rfl rfl rfl rfl na2 rfl (GO.ps 2 rfl (GO.known (t := 26) rfl (congrArg Bool.not (decide_eq_false c9)) (GO.off rfl rfl rfl rfl rfl rfl (GO.off rfl rfl rfl rfl rfl rfl (GO.off rfl rfl rfl rfl rfl rfl (GO.off rfl rfl rfl rfl rfl rfl (GO.off rfl rfl rfl rfl rfl rfl (GO.pickT rfl rfl rfl rfl rfl (GO.fld (⟨b5, 0, none⟩) rfl rfl fl47_0 rfl rfl (GO.ldBox (j := 0) HS rfl rfl rfl rfl na2 rfl ?_))))))))))))))
      refine GO.ps 2 rfl (GO.known (t := 36) rfl (congrArg Bool.not (decide_eq_true c19)) (GO.on rfl rfl rfl rfl (GO.fld (⟨b5, 1, none⟩) rfl rfl fl47_1 rfl rfl (GO.back (GO.on rfl rfl rfl rfl (GO.ldBox (j := 0) HS rfl rfl rfl rfl na2 rfl (GO.back (GO.on rfl rfl rfl rfl (GO.neq rfl rfl rfl rfl (GO.back (GO.ps 2 rfl (GO.known (t := 41) rfl (congrArg Bool.not (decide_eq_true c20)) (GO.on rfl rfl rfl rfl (GO.fld (⟨b5, 2, none⟩) rfl rfl fl47_2 rfl rfl ?_))))))))))))))
      refine GO.back (GO.on rfl rfl rfl rfl (GO.ldBox (j := 0) HS rfl rfl rfl rfl na45 rfl (GO.back (GO.on rfl rfl rfl rfl (GO.lenS rfl rfl underlying45 rfl (GO.back (GO.on rfl rfl rfl rfl (GO.gtr rfl rfl rfl rfl (GO.back (GO.ps 2 rfl (GO.known (t := 47) rfl (decide_eq_true c21) (GO.off rfl rfl rfl rfl rfl rfl (GO.off rfl rfl rfl rfl rfl rfl (GO.off rfl rfl rfl rfl rfl rfl ?_))))))))))))))
      refine GO.off rfl rfl rfl rfl rfl rfl (GO.ps 2 rfl (GO.off rfl rfl rfl rfl rfl rfl (GO.off rfl rfl rfl rfl rfl rfl (GO.off rfl rfl rfl rfl rfl rfl (GO.off rfl rfl rfl rfl rfl rfl (GO.pickT rfl rfl rfl rfl rfl (GO.buildV (.agg [.bool (decide (0 < (e_Triangulation_Tets.length : Int))), .bool true, .bool true, .bool true].toArray) rfl rfl (fun _ => by kernel_rfl) rfl (GO.stBox (j := 1) (vs := [.bool (decide (0 < (e_Triangulation_Tets.length : Int))), .bool true, .bool true, .bool true]) ([.bool (decide (0 < (e_Triangulation_Tets.length : Int))), .bool true, .bool true, .bool true]) HS rfl rfl rfl rfl rfl (htA ag181) rfl rfl rfl fun wd22 HS => GO.nil ?_))))))))
      obtain ⟨rfl, rfl, rfl, rfl⟩ := some4 H
      exact G.ret1 _ func147 rfl (Res1.boxA (j := 1) (vs := [.bool (decide (0 < (e_Triangulation_Tets.length : Int))), .bool true, .bool true, .bool true]) HS rfl rfl rfl ag181) ⟨rfl, (HS.pk 3 [] rfl)⟩
     rcases ite_elim H with ⟨c23, H⟩ | ⟨c23, H⟩
     ·
      refine G.region (GO.fld (⟨b1, 2, none⟩) rfl rfl fl49_2 rfl rfl (GO.fld (⟨b1, 2, none⟩) rfl rfl fl40_0 rfl rfl (GO.ldBox (j := 2) HS rfl rfl rfl rfl na38 rfl (GO.lenS rfl rfl underlying38 rfl (GO.gtr rfl rfl rfl rfl (GO.fld (⟨b1, 3, none⟩) rfl rfl fl49_3 rfl rfl (GO.fld (⟨b1, 3, none⟩) rfl rfl fl43_0 rfl rfl (GO.ldBox (j := 2) HS rfl rfl rfl rfl na41 rfl (GO.lenS rfl rfl underlying41 rfl (GO.ps 2 rfl (GO.known (t := 16) rfl (decide_eq_true c8) (GO.off rfl rfl rfl rfl rfl rfl (GO.off rfl rfl rfl rfl rfl rfl (GO.off rfl rfl rfl rfl rfl rfl ?_))))))))))))))
      refine GO.off rfl rfl rfl rfl rfl rfl (GO.pickT rfl rfl rfl rfl rfl (GO.fld (⟨b1, 5, none⟩) rfl rfl fl49_4 rfl rfl (GO.fld (⟨b1, 5, none⟩) rfl rfl fl44_0 rfl rfl (GO.ldBox (j := 2) HS rfl rfl rfl rfl na2 rfl (GO.ps 2 rfl (GO.known (t := 26) rfl (congrArg Bool.not (decide_eq_false c9)) (GO.off rfl rfl rfl rfl rfl rfl (GO.off rfl rfl rfl rfl rfl rfl (GO.off rfl rfl rfl rfl rfl rfl (GO.off rfl rfl rfl rfl rfl rfl (GO.off rfl rfl rfl rfl rfl rfl (GO.pickT rfl rfl rfl rfl rfl (GO.fld (⟨b5, 0, none⟩) rfl rfl fl47_0 rfl rfl (GO.ldBox (j := 0) HS rfl rfl rfl rfl na2 rfl ?_))))))))))))))
      refine GO.ps 2 rfl (GO.known (t := 36) rfl (congrArg Bool.not (decide_eq_true c19)) (GO.on rfl rfl rfl rfl (GO.fld (⟨b5, 1, none⟩) rfl rfl fl47_1 rfl rfl (GO.back (GO.on rfl rfl rfl rfl (GO.ldBox (j := 0) HS rfl rfl rfl rfl na2 rfl (GO.back (GO.on rfl rfl rfl rfl (GO.neq rfl rfl rfl rfl (GO.back (GO.ps 2 rfl (GO.known (t := 41) rfl (congrArg Bool.not (decide_eq_true c20)) (GO.on rfl rfl rfl rfl (GO.fld (⟨b5, 2, none⟩) rfl rfl fl47_2 rfl rfl ?_))))))))))))))
      refine GO.back (GO.on rfl rfl rfl rfl (GO.ldBox (j := 0) HS rfl rfl rfl rfl na45 rfl (GO.back (GO.on rfl rfl rfl rfl (GO.lenS rfl rfl underlying45 rfl (GO.back (GO.on rfl rfl rfl rfl (GO.gtr rfl rfl rfl rfl (GO.back (GO.ps 2 rfl (GO.known (t := 47) rfl (decide_eq_false c21) (GO.on rfl rfl rfl rfl (GO.fld (⟨b5, 3, none⟩) rfl rfl fl47_3 rfl rfl (GO.back ?_))))))))))))))
      refine GO.on rfl rfl rfl rfl (GO.ldBox (j := 0) HS rfl rfl rfl rfl na28 rfl (GO.back (GO.on rfl rfl rfl rfl (GO.lenS rfl rfl underlying28 rfl (GO.back (GO.on rfl rfl rfl rfl (GO.gtr rfl rfl rfl rfl (GO.back (GO.ps 2 rfl (GO.known (t := 53) rfl (decide_eq_true c23) (GO.off rfl rfl rfl rfl rfl rfl (GO.off rfl rfl rfl rfl rfl rfl (GO.off rfl rfl rfl rfl rfl rfl (GO.off rfl rfl rfl rfl rfl rfl ?_))))))))))))))
      refine GO.pickT rfl rfl rfl rfl rfl (GO.buildV (.agg [.bool (decide (0 < (e_Triangulation_Tets.length : Int))), .bool true, .bool true, .bool true].toArray) rfl rfl (fun _ => by kernel_rfl) rfl (GO.stBox (j := 1) (vs := [.bool (decide (0 < (e_Triangulation_Tets.length : Int))), .bool true, .bool true, .bool true]) ([.bool (decide (0 < (e_Triangulation_Tets.length : Int))), .bool true, .bool true, .bool true]) HS rfl rfl rfl rfl rfl (htA ag181) rfl rfl rfl fun wd24 HS => GO.nil ?_))
      obtain ⟨rfl, rfl, rfl, rfl⟩ := some4 H
      exact G.ret1 _ func147 rfl (Res1.boxA (j := 1) (vs := [.bool (decide (0 < (e_Triangulation_Tets.length : Int))), .bool true, .bool true, .bool true]) HS rfl rfl rfl ag181) ⟨rfl, (HS.pk 3 [] rfl)⟩
     refine G.region (GO.fld (⟨b1, 2, none⟩) rfl rfl fl49_2 rfl rfl (GO.fld (⟨b1, 2, none⟩) rfl rfl fl40_0 rfl rfl (GO.ldBox (j := 2) HS rfl rfl rfl rfl na38 rfl (GO.lenS rfl rfl underlying38 rfl (GO.gtr rfl rfl rfl rfl (GO.fld (⟨b1, 3, none⟩) rfl rfl fl49_3 rfl rfl (GO.fld (⟨b1, 3, none⟩) rfl rfl fl43_0 rfl rfl (GO.ldBox (j := 2) HS rfl rfl rfl rfl na41 rfl (GO.lenS rfl rfl underlying41 rfl (GO.ps 2 rfl (GO.known (t := 16) rfl (decide_eq_true c8) (GO.off rfl rfl rfl rfl rfl rfl (GO.off rfl rfl rfl rfl rfl rfl (GO.off rfl rfl rfl rfl rfl rfl ?_))))))))))))))
     refine GO.off rfl rfl rfl rfl rfl rfl (GO.pickT rfl rfl rfl rfl rfl (GO.fld (⟨b1, 5, none⟩) rfl rfl fl49_4 rfl rfl (GO.fld (⟨b1, 5, none⟩) rfl rfl fl44_0 rfl rfl (GO.ldBox (j := 2) HS rfl rfl rfl rfl na2 rfl (GO.ps 2 rfl (GO.known (t := 26) rfl (congrArg Bool.not (decide_eq_false c9)) (GO.off rfl rfl rfl rfl rfl rfl (GO.off rfl rfl rfl rfl rfl rfl (GO.off rfl rfl rfl rfl rfl rfl (GO.off rfl rfl rfl rfl rfl rfl (GO.off rfl rfl rfl rfl rfl rfl (GO.pickT rfl rfl rfl rfl rfl (GO.fld (⟨b5, 0, none⟩) rfl rfl fl47_0 rfl rfl (GO.ldBox (j := 0) HS rfl rfl rfl rfl na2 rfl ?_))))))))))))))
     refine GO.ps 2 rfl (GO.known (t := 36) rfl (congrArg Bool.not (decide_eq_true c19)) (GO.on rfl rfl rfl rfl (GO.fld (⟨b5, 1, none⟩) rfl rfl fl47_1 rfl rfl (GO.back (GO.on rfl rfl rfl rfl (GO.ldBox (j := 0) HS rfl rfl rfl rfl na2 rfl (GO.back (GO.on rfl rfl rfl rfl (GO.neq rfl rfl rfl rfl (GO.back (GO.ps 2 rfl (GO.known (t := 41) rfl (congrArg Bool.not (decide_eq_true c20)) (GO.on rfl rfl rfl rfl (GO.fld (⟨b5, 2, none⟩) rfl rfl fl47_2 rfl rfl ?_))))))))))))))
     refine GO.back (GO.on rfl rfl rfl rfl (GO.ldBox (j := 0) HS rfl rfl rfl rfl na45 rfl (GO.back (GO.on rfl rfl rfl rfl (GO.lenS rfl rfl underlying45 rfl (GO.back (GO.on rfl rfl rfl rfl (GO.gtr rfl rfl rfl rfl (GO.back (GO.ps 2 rfl (GO.known (t := 47) rfl (decide_eq_false c21) (GO.on rfl rfl rfl rfl (GO.fld (⟨b5, 3, none⟩) rfl rfl fl47_3 rfl rfl (GO.back ?_))))))))))))))
     refine GO.on rfl rfl rfl rfl (GO.ldBox (j := 0) HS rfl rfl rfl rfl na28 rfl (GO.back (GO.on rfl rfl rfl rfl (GO.lenS rfl rfl underlying28 rfl (GO.back (GO.on rfl rfl rfl rfl (GO.gtr rfl rfl rfl rfl (GO.back (GO.ps 2 rfl (GO.known (t := 53) rfl (decide_eq_false c23) (GO.on rfl rfl rfl rfl (GO.fld (⟨b5, 4, none⟩) rfl rfl fl47_4 rfl rfl (GO.back (GO.on rfl rfl rfl rfl ?_))))))))))))))
     refine GO.ldBox (j := 0) HS rfl rfl rfl rfl na28 rfl (GO.back (GO.on rfl rfl rfl rfl (GO.lenS rfl rfl underlying28 rfl (GO.back (GO.on rfl rfl rfl rfl (GO.gtr rfl rfl rfl rfl (GO.back (GO.pickF rfl rfl rfl rfl rfl (GO.buildV (.agg [.bool (decide (0 < (e_Triangulation_Tets.length : Int))), .bool true, .bool true, .bool (decide (0 < (e_Certificate_Perms.length : Int)))].toArray) rfl rfl (fun _ => by kernel_rfl) rfl (GO.stBox (j := 1) (vs := [.bool (decide (0 < (e_Triangulation_Tets.length : Int))), .bool true, .bool true, .bool (decide (0 < (e_Certificate_Perms.length : Int)))]) ([.bool (decide (0 < (e_Triangulation_Tets.length : Int))), .bool true, .bool true, .bool (decide (0 < (e_Certificate_Perms.length : Int)))]) HS rfl rfl rfl rfl rfl (htA ag181) rfl rfl rfl fun wd25 HS => GO.nil ?_))))))))))
     obtain ⟨rfl, rfl, rfl, rfl⟩ := some4 H
     exact G.ret1 _ func147 rfl (Res1.boxA (j := 1) (vs := [.bool (decide (0 < (e_Triangulation_Tets.length : Int))), .bool true, .bool true, .bool (decide (0 < (e_Certificate_Perms.length : Int)))]) HS rfl rfl rfl ag181) ⟨rfl, (HS.pk 3 [] rfl)⟩
    refine G.region (GO.fld (⟨b1, 2, none⟩) rfl rfl fl49_2 rfl rfl (GO.fld (⟨b1, 2, none⟩) rfl rfl fl40_0 rfl rfl (GO.ldBox (j := 2) HS rfl rfl rfl rfl na38 rfl (GO.lenS rfl rfl underlying38 rfl (GO.gtr rfl rfl rfl rfl (GO.fld (⟨b1, 3, none⟩) rfl rfl fl49_3 rfl rfl (GO.fld (⟨b1, 3, none⟩) rfl rfl fl43_0 rfl rfl (GO.ldBox (j := 2) HS rfl rfl rfl rfl na41 rfl (GO.lenS rfl rfl underlying41 rfl (GO.ps 2 rfl (GO.known (t := 16) rfl (decide_eq_true c8) (GO.off rfl rfl rfl rfl rfl rfl (GO.off rfl rfl rfl rfl rfl rfl (GO.off rfl rfl rfl rfl rfl rfl ?_))))))))))))))
    refine GO.off rfl rfl rfl rfl rfl rfl (GO.pickT rfl rfl rfl rfl rfl (GO.fld (⟨b1, 5, none⟩) rfl rfl fl49_4 rfl rfl (GO.fld (⟨b1, 5, none⟩) rfl rfl fl44_0 rfl rfl (GO.ldBox (j := 2) HS rfl rfl rfl rfl na2 rfl (GO.ps 2 rfl (GO.known (t := 26) rfl (congrArg Bool.not (decide_eq_false c9)) (GO.off rfl rfl rfl rfl rfl rfl (GO.off rfl rfl rfl rfl rfl rfl (GO.off rfl rfl rfl rfl rfl rfl (GO.off rfl rfl rfl rfl rfl rfl (GO.off rfl rfl rfl rfl rfl rfl (GO.pickT rfl rfl rfl rfl rfl (GO.fld (⟨b5, 0, none⟩) rfl rfl fl47_0 rfl rfl (GO.ldBox (j := 0) HS rfl rfl rfl rfl na2 rfl ?_))))))))))))))
    refine GO.ps 2 rfl (GO.known (t := 36) rfl (congrArg Bool.not (decide_eq_true c19)) (GO.on rfl rfl rfl rfl (GO.fld (⟨b5, 1, none⟩) rfl rfl fl47_1 rfl rfl (GO.back (GO.on rfl rfl rfl rfl (GO.ldBox (j := 0) HS rfl rfl rfl rfl na2 rfl (GO.back (GO.on rfl rfl rfl rfl (GO.neq rfl rfl rfl rfl (GO.back (GO.ps 2 rfl (GO.known (t := 41) rfl (congrArg Bool.not (decide_eq_false c20)) (GO.off rfl rfl rfl rfl rfl rfl (GO.off rfl rfl rfl rfl rfl rfl ?_))))))))))))))
    refine GO.off rfl rfl rfl rfl rfl rfl (GO.off rfl rfl rfl rfl rfl rfl (GO.ps 2 rfl (GO.off rfl rfl rfl rfl rfl rfl (GO.off rfl rfl rfl rfl rfl rfl (GO.off rfl rfl rfl rfl rfl rfl (GO.off rfl rfl rfl rfl rfl rfl (GO.ps 2 rfl (GO.off rfl rfl rfl rfl rfl rfl (GO.off rfl rfl rfl rfl rfl rfl (GO.off rfl rfl rfl rfl rfl rfl (GO.off rfl rfl rfl rfl rfl rfl (GO.pickT rfl rfl rfl rfl rfl (GO.buildV (.agg [.bool (decide (0 < (e_Triangulation_Tets.length : Int))), .bool true, .bool true, .bool true].toArray) rfl rfl (fun _ => by kernel_rfl) rfl (GO.stBox (j := 1) (vs := [.bool (decide (0 < (e_Triangulation_Tets.length : Int))), .bool true, .bool true, .bool true]) ([.bool (decide (0 < (e_Triangulation_Tets.length : Int))), .bool true, .bool true, .bool true]) HS rfl rfl rfl rfl rfl (htA ag181) rfl rfl rfl fun wd26 HS => ?_))))))))))))))
    refine GO.nil ?_
    obtain ⟨rfl, rfl, rfl, rfl⟩ := some4 H
    exact G.ret1 _ func147 rfl (Res1.boxA (j := 1) (vs := [.bool (decide (0 < (e_Triangulation_Tets.length : Int))), .bool true, .bool true, .bool true]) HS rfl rfl rfl ag181) ⟨rfl, (HS.pk 3 [] rfl)⟩
   refine G.region (GO.fld (⟨b1, 2, none⟩) rfl rfl fl49_2 rfl rfl (GO.fld (⟨b1, 2, none⟩) rfl rfl fl40_0 rfl rfl (GO.ldBox (j := 2) HS rfl rfl rfl rfl na38 rfl (GO.lenS rfl rfl underlying38 rfl (GO.gtr rfl rfl rfl rfl (GO.fld (⟨b1, 3, none⟩) rfl rfl fl49_3 rfl rfl (GO.fld (⟨b1, 3, none⟩) rfl rfl fl43_0 rfl rfl (GO.ldBox (j := 2) HS rfl rfl rfl rfl na41 rfl (GO.lenS rfl rfl underlying41 rfl (GO.ps 2 rfl (GO.known (t := 16) rfl (decide_eq_true c8) (GO.off rfl rfl rfl rfl rfl rfl (GO.off rfl rfl rfl rfl rfl rfl (GO.off rfl rfl rfl rfl rfl rfl ?_))))))))))))))
   refine GO.off rfl rfl rfl rfl rfl rfl (GO.pickT rfl rfl rfl rfl rfl (GO.fld (⟨b1, 5, none⟩) rfl rfl fl49_4 rfl rfl (GO.fld (⟨b1, 5, none⟩) rfl rfl fl44_0 rfl rfl (GO.ldBox (j := 2) HS rfl rfl rfl rfl na2 rfl (GO.ps 2 rfl (GO.known (t := 26) rfl (congrArg Bool.not (decide_eq_false c9)) (GO.off rfl rfl rfl rfl rfl rfl (GO.off rfl rfl rfl rfl rfl rfl (GO.off rfl rfl rfl rfl rfl rfl (GO.off rfl rfl rfl rfl rfl rfl (GO.off rfl rfl rfl rfl rfl rfl (GO.pickT rfl rfl rfl rfl rfl (GO.fld (⟨b5, 0, none⟩) rfl rfl fl47_0 rfl rfl (GO.ldBox (j := 0) HS rfl rfl rfl rfl na2 rfl ?_))))))))))))))
   refine GO.ps 2 rfl (GO.known (t := 36) rfl (congrArg Bool.not (decide_eq_false c19)) (GO.off rfl rfl rfl rfl rfl rfl (GO.off rfl rfl rfl rfl rfl rfl (GO.off rfl rfl rfl rfl rfl rfl (GO.ps 2 rfl (GO.off rfl rfl rfl rfl rfl rfl (GO.off rfl rfl rfl rfl rfl rfl (GO.off rfl rfl rfl rfl rfl rfl (GO.off rfl rfl rfl rfl rfl rfl (GO.ps 2 rfl (GO.off rfl rfl rfl rfl rfl rfl (GO.off rfl rfl rfl rfl rfl rfl (GO.off rfl rfl rfl rfl rfl rfl (GO.off rfl rfl rfl rfl rfl rfl ?_))))))))))))))
   refine GO.ps 2 rfl (GO.off rfl rfl rfl rfl rfl rfl (GO.off rfl rfl rfl rfl rfl rfl (GO.off rfl rfl rfl rfl rfl rfl (GO.off rfl rfl rfl rfl rfl rfl (GO.pickT rfl rfl rfl rfl rfl (GO.buildV (.agg [.bool (decide (0 < (e_Triangulation_Tets.length : Int))), .bool true, .bool true, .bool true].toArray) rfl rfl (fun _ => by kernel_rfl) rfl (GO.stBox (j := 1) (vs := [.bool (decide (0 < (e_Triangulation_Tets.length : Int))), .bool true, .bool true, .bool true]) ([.bool (decide (0 < (e_Triangulation_Tets.length : Int))), .bool true, .bool true, .bool true]) HS rfl rfl rfl rfl rfl (htA ag181) rfl rfl rfl fun wd27 HS => GO.nil ?_)))))))
   obtain ⟨rfl, rfl, rfl, rfl⟩ := some4 H
   exact G.ret1 _ func147 rfl (Res1.boxA (j := 1) (vs := [.bool (decide (0 < (e_Triangulation_Tets.length : Int))), .bool true, .bool true, .bool true]) HS rfl rfl rfl ag181) ⟨rfl, (HS.pk 3 [] rfl)⟩
  rcases ite_elim H with ⟨c28, H⟩ | ⟨c28, H⟩
  ·
   rcases ite_elim H with ⟨c29, H⟩ | ⟨c29, H⟩
   ·
    rcases ite_elim H with ⟨c30, H⟩ | ⟨c30, H⟩
    ·
     rcases ite_elim H with ⟨c31, H⟩ | ⟨c31, H⟩
     ·
      refine G.region (GO.fld (⟨b1, 2, none⟩) rfl rfl fl49_2 rfl rfl (GO.fld (⟨b1, 2, none⟩) rfl rfl fl40_0 rfl rfl (GO.ldBox (j := 2) HS rfl rfl rfl rfl na38 rfl (GO.lenS rfl rfl underlying38 rfl (GO.gtr rfl rfl rfl rfl (GO.fld (⟨b1, 3, none⟩) rfl rfl fl49_3 rfl rfl (GO.fld (⟨b1, 3, none⟩) rfl rfl fl43_0 rfl rfl (GO.ldBox (j := 2) HS rfl rfl rfl rfl na41 rfl (GO.lenS rfl rfl underlying41 rfl (GO.ps 2 rfl (GO.known (t := 16) rfl (decide_eq_false c8) (GO.on rfl rfl rfl rfl (GO.fld (⟨b1, 3, none⟩) rfl rfl fl49_3 rfl rfl (GO.back ?_))))))))))))))
      refine GO.on rfl rfl rfl rfl (GO.fld (⟨b1, 4, none⟩) rfl rfl fl43_1 rfl rfl (GO.back (GO.on rfl rfl rfl rfl (GO.ldBox (j := 2) HS rfl rfl rfl rfl na2 rfl (GO.back (GO.on rfl rfl rfl rfl (GO.neq rfl rfl rfl rfl (GO.back (GO.pickF rfl rfl rfl rfl rfl (GO.fld (⟨b1, 5, none⟩) rfl rfl fl49_4 rfl rfl (GO.fld (⟨b1, 5, none⟩) rfl rfl fl44_0 rfl rfl (GO.ldBox (j := 2) HS rfl rfl rfl rfl na2 rfl (GO.ps 2 rfl (GO.known (t := 26) rfl (congrArg Bool.not (decide_eq_true c28)) ?_))))))))))))))
      refine GO.on rfl rfl rfl rfl (GO.fld (⟨b1, 5, none⟩) rfl rfl fl49_4 rfl rfl (GO.back (GO.on rfl rfl rfl rfl (GO.fld (⟨b1, 6, none⟩) rfl rfl fl44_1 rfl rfl (GO.back (GO.on rfl rfl rfl rfl (GO.ldBox (j := 2) HS rfl rfl rfl rfl na28 rfl (GO.back (GO.on rfl rfl rfl rfl (GO.lenS rfl rfl underlying28 rfl (GO.back (GO.on rfl rfl rfl rfl (GO.gtr rfl rfl rfl rfl (GO.back ?_))))))))))))))
      refine GO.pickF rfl rfl rfl rfl rfl (GO.fld (⟨b5, 0, none⟩) rfl rfl fl47_0 rfl rfl (GO.ldBox (j := 0) HS rfl rfl rfl rfl na2 rfl (GO.ps 2 rfl (GO.known (t := 36) rfl (congrArg Bool.not (decide_eq_true c29)) (GO.on rfl rfl rfl rfl (GO.fld (⟨b5, 1, none⟩) rfl rfl fl47_1 rfl rfl (GO.back (GO.on rfl rfl rfl rfl (GO.ldBox (j := 0) HS rfl rfl rfl rfl na2 rfl (GO.back (GO.on rfl rfl rfl rfl (GO.neq rfl rfl rfl rfl (GO.back (GO.ps 2 rfl ?_))))))))))))))
      refine GO.known (t := 41) rfl (congrArg Bool.not (decide_eq_true c30)) (GO.on rfl rfl rfl rfl (GO.fld (⟨b5, 2, none⟩) rfl rfl fl47_2 rfl rfl (GO.back (GO.on rfl rfl rfl rfl (GO.ldBox (j := 0) HS rfl rfl rfl rfl na45 rfl (GO.back (GO.on rfl rfl rfl rfl (GO.lenS rfl rfl underlying45 rfl (GO.back (GO.on rfl rfl rfl rfl (GO.gtr rfl rfl rfl rfl (GO.back (GO.ps 2 rfl (GO.known (t := 47) rfl (decide_eq_true c31) ?_))))))))))))))
      refine GO.off rfl rfl rfl rfl rfl rfl (GO.off rfl rfl rfl rfl rfl rfl (GO.off rfl rfl rfl rfl rfl rfl (GO.off rfl rfl rfl rfl rfl rfl (GO.ps 2 rfl (GO.off rfl rfl rfl rfl rfl rfl (GO.off rfl rfl rfl rfl rfl rfl (GO.off rfl rfl rfl rfl rfl rfl (GO.off rfl rfl rfl rfl rfl rfl (GO.pickT rfl rfl rfl rfl rfl (GO.buildV (.agg [.bool (decide (0 < (e_Triangulation_Tets.length : Int))), .bool (!(decide (e_Diagram_Circles = 0))), .bool (decide (0 < (e_Braid_Word.length : Int))), .bool true].toArray) rfl rfl (fun _ => by kernel_rfl) rfl (GO.stBox (j := 1) (vs := [.bool (decide (0 < (e_Triangulation_Tets.length : Int))), .bool (!(decide (e_Diagram_Circles = 0))), .bool (decide (0 < (e_Braid_Word.length : Int))), .bool true]) ([.bool (decide (0 < (e_Triangulation_Tets.length : Int))), .bool (!(decide (e_Diagram_Circles = 0))), .bool (decide (0 < (e_Braid_Word.length : Int))), .bool true]) HS rfl rfl rfl rfl rfl (htA ag181) rfl rfl rfl fun wd32 HS => GO.nil ?_)))))))))))
      obtain ⟨rfl, rfl, rfl, rfl⟩ := some4 H
      exact G.ret1 _ func147 rfl (Res1.boxA (j := 1) (vs := [.bool (decide (0 < (e_Triangulation_Tets.length : Int))), .bool (!(decide (e_Diagram_Circles = 0))), .bool (decide (0 < (e_Braid_Word.length : Int))), .bool true]) HS rfl rfl rfl ag181) ⟨rfl, (HS.pk 3 [] rfl)⟩
     rcases ite_elim H with ⟨c33, H⟩ | ⟨c33, H⟩
     ·
      refine G.region (GO.fld (⟨b1, 2, none⟩) rfl rfl fl49_2 rfl rfl (GO.fld (⟨b1, 2, none⟩) rfl rfl fl40_0 rfl rfl (GO.ldBox (j := 2) HS rfl rfl rfl rfl na38 rfl (GO.lenS rfl rfl underlying38 rfl (GO.gtr rfl rfl rfl rfl (GO.fld (⟨b1, 3, none⟩) rfl rfl fl49_3 rfl rfl (GO.fld (⟨b1, 3, none⟩) rfl rfl fl43_0 rfl rfl (GO.ldBox (j := 2) HS rfl rfl rfl rfl na41 rfl (GO.lenS rfl rfl underlying41 rfl (GO.ps 2 rfl (GO.known (t := 16) rfl (decide_eq_false c8) (GO.on rfl rfl rfl rfl (GO.fld (⟨b1, 3, none⟩) rfl rfl fl49_3 rfl rfl (GO.back ?_))))))))))))))
      refine GO.on rfl rfl rfl rfl (GO.fld (⟨b1, 4, none⟩) rfl rfl fl43_1 rfl rfl (GO.back (GO.on rfl rfl rfl rfl (GO.ldBox (j := 2) HS rfl rfl rfl rfl na2 rfl (GO.back (GO.on rfl rfl rfl rfl (GO.neq rfl rfl rfl rfl (GO.back (GO.pickF rfl rfl rfl rfl rfl (GO.fld (⟨b1, 5, none⟩) rfl rfl fl49_4 rfl rfl (GO.fld (⟨b1, 5, none⟩) rfl rfl fl44_0 rfl rfl (GO.ldBox (j := 2) HS rfl rfl rfl rfl na2 rfl (GO.ps 2 rfl (GO.known (t := 26) rfl (congrArg Bool.not (decide_eq_true c28)) ?_))))))))))))))
      refine GO.on rfl rfl rfl rfl (GO.fld (⟨b1, 5, none⟩) rfl rfl fl49_4 rfl rfl (GO.back (GO.on rfl rfl rfl rfl (GO.fld (⟨b1, 6, none⟩) rfl rfl fl44_1 rfl rfl (GO.back (GO.on rfl rfl rfl rfl (GO.ldBox (j := 2) HS rfl rfl rfl rfl na28 rfl (GO.back (GO.on rfl rfl rfl rfl (GO.lenS rfl rfl underlying28 rfl (GO.back (GO.on rfl rfl rfl rfl (GO.gtr rfl rfl rfl rfl (GO.back ?_))))))))))))))
      refine GO.pickF rfl rfl rfl rfl rfl (GO.fld (⟨b5, 0, none⟩) rfl rfl fl47_0 rfl rfl (GO.ldBox (j := 0) HS rfl rfl rfl rfl na2 rfl (GO.ps 2 rfl (GO.known (t := 36) rfl (congrArg Bool.not (decide_eq_true c29)) (GO.on rfl rfl rfl rfl (GO.fld (⟨b5, 1, none⟩) rfl rfl fl47_1 rfl rfl (GO.back (GO.on rfl rfl rfl rfl (GO.ldBox (j := 0) HS rfl rfl rfl rfl na2 rfl (GO.back (GO.on rfl rfl rfl rfl (GO.neq rfl rfl rfl rfl (GO.back (GO.ps 2 rfl ?_))))))))))))))
      refine GO.known (t := 41) rfl (congrArg Bool.not (decide_eq_true c30)) (GO.on rfl rfl rfl rfl (GO.fld (⟨b5, 2, none⟩) rfl rfl fl47_2 rfl rfl (GO.back (GO.on rfl rfl rfl rfl (GO.ldBox (j := 0) HS rfl rfl rfl rfl na45 rfl (GO.back (GO.on rfl rfl rfl rfl (GO.lenS rfl rfl underlying45 rfl (GO.back (GO.on rfl rfl rfl rfl (GO.gtr rfl rfl rfl rfl (GO.back (GO.ps 2 rfl (GO.known (t := 47) rfl (decide_eq_false c31) ?_))))))))))))))
      refine GO.on rfl rfl rfl rfl (GO.fld (⟨b5, 3, none⟩) rfl rfl fl47_3 rfl rfl (GO.back (GO.on rfl rfl rfl rfl (GO.ldBox (j := 0) HS rfl rfl rfl rfl na28 rfl (GO.back (GO.on rfl rfl rfl rfl (GO.lenS rfl rfl underlying28 rfl (GO.back (GO.on rfl rfl rfl rfl (GO.gtr rfl rfl rfl rfl (GO.back (GO.ps 2 rfl (GO.known (t := 53) rfl (decide_eq_true c33) (GO.off rfl rfl rfl rfl rfl rfl ?_))))))))))))))
      refine GO.off rfl rfl rfl rfl rfl rfl (GO.off rfl rfl rfl rfl rfl rfl (GO.off rfl rfl rfl rfl rfl rfl (GO.pickT rfl rfl rfl rfl rfl (GO.buildV (.agg [.bool (decide (0 < (e_Triangulation_Tets.length : Int))), .bool (!(decide (e_Diagram_Circles = 0))), .bool (decide (0 < (e_Braid_Word.length : Int))), .bool true].toArray) rfl rfl (fun _ => by kernel_rfl) rfl (GO.stBox (j := 1) (vs := [.bool (decide (0 < (e_Triangulation_Tets.length : Int))), .bool (!(decide (e_Diagram_Circles = 0))), .bool (decide (0 < (e_Braid_Word.length : Int))), .bool true]) ([.bool (decide (0 < (e_Triangulation_Tets.length : Int))), .bool (!(decide (e_Diagram_Circles = 0))), .bool (decide (0 < (e_Braid_Word.length : Int))), .bool true]) HS rfl rfl rfl rfl rfl (htA ag181) rfl rfl rfl fun wd34 HS => GO.nil ?_)))))
      obtain ⟨rfl, rfl, rfl, rfl⟩ := some4 H
      exact G.ret1 _ func147 rfl (Res1.boxA (j := 1) (vs := [.bool (decide (0 < (e_Triangulation_Tets.length : Int))), .bool (!(decide (e_Diagram_Circles = 0))), .bool (decide (0 < (e_Braid_Word.length : Int))), .bool true]) HS rfl rfl rfl ag181) ⟨rfl, (HS.pk 3 [] rfl)⟩
     refine G.region (GO.fld (⟨b1, 2, none⟩) rfl rfl fl49_2 rfl rfl (GO.fld (⟨b1, 2, none⟩) rfl rfl fl40_0 rfl rfl (GO.ldBox (j := 2) HS rfl rfl rfl rfl na38 rfl (GO.lenS rfl rfl underlying38 rfl (GO.gtr rfl rfl rfl rfl (GO.fld (⟨b1, 3, none⟩) rfl rfl fl49_3 rfl rfl (GO.fld (⟨b1, 3, none⟩) rfl rfl fl43_0 rfl rfl (GO.ldBox (j := 2) HS rfl rfl rfl rfl na41 rfl (GO.lenS rfl rfl underlying41 rfl (GO.ps 2 rfl (GO.known (t := 16) rfl (decide_eq_false c8) (GO.on rfl rfl rfl rfl (GO.fld (⟨b1, 3, none⟩) rfl rfl fl49_3 rfl rfl (GO.back ?_))))))))))))))
     refine GO.on rfl rfl rfl rfl (GO.fld (⟨b1, 4, none⟩) rfl rfl fl43_1 rfl rfl (GO.back (GO.on rfl rfl rfl rfl (GO.ldBox (j := 2) HS rfl rfl rfl rfl na2 rfl (GO.back (GO.on rfl rfl rfl rfl (GO.neq rfl rfl rfl rfl (GO.back (GO.pickF rfl rfl rfl rfl rfl (GO.fld (⟨b1, 5, none⟩) rfl rfl fl49_4 rfl rfl (GO.fld (⟨b1, 5, none⟩) rfl rfl fl44_0 rfl rfl (GO.ldBox (j := 2) HS rfl rfl rfl rfl na2 rfl (GO.ps 2 rfl (GO.known (t := 26) rfl (congrArg Bool.not (decide_eq_true c28)) ?_))))))))))))))
     refine GO.on rfl rfl rfl rfl (GO.fld (⟨b1, 5, none⟩) rfl rfl fl49_4 rfl rfl (GO.back (GO.on rfl rfl rfl rfl (GO.fld (⟨b1, 6, none⟩) rfl rfl fl44_1 rfl rfl (GO.back (GO.on rfl rfl rfl rfl (GO.ldBox (j := 2) HS rfl rfl rfl rfl na28 rfl (GO.back (GO.on rfl rfl rfl rfl (GO.lenS rfl rfl underlying28 rfl (GO.back (GO.on rfl rfl rfl rfl (GO.gtr rfl rfl rfl rfl (GO.back ?_))))))))))))))
     refine GO.pickF rfl rfl rfl rfl rfl (GO.fld (⟨b5, 0, none⟩) rfl rfl fl47_0 rfl rfl (GO.ldBox (j := 0) HS rfl rfl rfl rfl na2 rfl (GO.ps 2 rfl (GO.known (t := 36) rfl (congrArg Bool.not (decide_eq_true c29)) (GO.on rfl rfl rfl rfl (GO.fld (⟨b5, 1, none⟩) rfl rfl fl47_1 rfl rfl (GO.back (GO.on rfl rfl rfl rfl (GO.ldBox (j := 0) HS rfl rfl rfl rfl na2 rfl (GO.back (GO.on rfl rfl rfl rfl (GO.neq rfl rfl rfl rfl (GO.back (GO.ps 2 rfl ?_))))))))))))))
     refine GO.known (t := 41) rfl (congrArg Bool.not (decide_eq_true c30)) (GO.on rfl rfl rfl rfl (GO.fld (⟨b5, 2, none⟩) rfl rfl fl47_2 rfl rfl (GO.back (GO.on rfl rfl rfl rfl (GO.ldBox (j := 0) HS rfl rfl rfl rfl na45 rfl (GO.back (GO.on rfl rfl rfl rfl (GO.lenS rfl rfl underlying45 rfl (GO.back (GO.on rfl rfl rfl rfl (GO.gtr rfl rfl rfl rfl (GO.back (GO.ps 2 rfl (GO.known (t := 47) rfl (decide_eq_false c31) ?_))))))))))))))
     refine GO.on rfl rfl rfl rfl (GO.fld (⟨b5, 3, none⟩) rfl rfl fl47_3 rfl rfl (GO.back (GO.on rfl rfl rfl rfl (GO.ldBox (j := 0) HS rfl rfl rfl rfl na28 rfl (GO.back (GO.on rfl rfl rfl rfl (GO.lenS rfl rfl underlying28 rfl (GO.back (GO.on rfl rfl rfl rfl (GO.gtr rfl rfl rfl rfl (GO.back (GO.ps 2 rfl (GO.known (t := 53) rfl (decide_eq_false c33) (GO.on rfl rfl rfl rfl ?_))))))))))))))
     refine GO.fld (⟨b5, 4, none⟩) rfl rfl fl47_4 rfl rfl (GO.back (GO.on rfl rfl rfl rfl (GO.ldBox (j := 0) HS rfl rfl rfl rfl na28 rfl (GO.back (GO.on rfl rfl rfl rfl (GO.lenS rfl rfl underlying28 rfl (GO.back (GO.on rfl rfl rfl rfl (GO.gtr rfl rfl rfl rfl (GO.back (GO.pickF rfl rfl rfl rfl rfl (GO.buildV (.agg [.bool (decide (0 < (e_Triangulation_Tets.length : Int))), .bool (!(decide (e_Diagram_Circles = 0))), .bool (decide (0 < (e_Braid_Word.length : Int))), .bool (decide (0 < (e_Certificate_Perms.length : Int)))].toArray) rfl rfl (fun _ => by kernel_rfl) rfl (GO.stBox (j := 1) (vs := [.bool (decide (0 < (e_Triangulation_Tets.length : Int))), .bool (!(decide (e_Diagram_Circles = 0))), .bool (decide (0 < (e_Braid_Word.length : Int))), .bool (decide (0 < (e_Certificate_Perms.length : Int)))]) ([.bool (decide (0 < (e_Triangulation_Tets.length : Int))), .bool (!(decide (e_Diagram_Circles = 0))), .bool (decide (0 < (e_Braid_Word.length : Int))), .bool (decide (0 < (e_Certificate_Perms.length : Int)))]) HS rfl rfl rfl rfl rfl (htA ag181) rfl rfl rfl fun wd35 HS => GO.nil ?_)))))))))))))
     obtain ⟨rfl, rfl, rfl, rfl⟩ := some4 H
     exact G.ret1 _ func147 rfl (Res1.boxA (j := 1) (vs := [.bool (decide (0 < (e_Triangulation_Tets.length : Int))), .bool (!(decide (e_Diagram_Circles = 0))), .bool (decide (0 < (e_Braid_Word.length : Int))), .bool (decide (0 < (e_Certificate_Perms.length : Int)))]) HS rfl rfl rfl ag181) ⟨rfl, (HS.pk 3 [] rfl)⟩
    refine G.region (GO.fld (⟨b1, 2, none⟩) rfl rfl fl49_2 rfl rfl (GO.fld (⟨b1, 2, none⟩) rfl rfl fl40_0 rfl rfl (GO.ldBox (j := 2) HS rfl rfl rfl rfl na38 rfl (GO.lenS rfl rfl underlying38 rfl (GO.gtr rfl rfl rfl rfl (GO.fld (⟨b1, 3, none⟩) rfl rfl fl49_3 rfl rfl (GO.fld (⟨b1, 3, none⟩) rfl rfl fl43_0 rfl rfl (GO.ldBox (j := 2) HS rfl rfl rfl rfl na41 rfl (GO.lenS rfl rfl underlying41 rfl (GO.ps 2 rfl (GO.known (t := 16) rfl (decide_eq_false c8) (GO.on rfl rfl rfl rfl (GO.fld (⟨b1, 3, none⟩) rfl rfl fl49_3 rfl rfl (GO.back ?_))))))))))))))
    refine GO.on rfl rfl rfl rfl (GO.fld (⟨b1, 4, none⟩) rfl rfl fl43_1 rfl rfl (GO.back (GO.on rfl rfl rfl rfl (GO.ldBox (j := 2) HS rfl rfl rfl rfl na2 rfl (GO.back (GO.on rfl rfl rfl rfl (GO.neq rfl rfl rfl rfl (GO.back (GO.pickF rfl rfl rfl rfl rfl (GO.fld (⟨b1, 5, none⟩) rfl rfl fl49_4 rfl rfl (GO.fld (⟨b1, 5, none⟩) rfl rfl fl44_0 rfl rfl (GO.ldBox (j := 2) HS rfl rfl rfl rfl na2 rfl (GO.ps 2 rfl (GO.known (t := 26) rfl (congrArg Bool.not (decide_eq_true c28)) ?_))))))))))))))
    refine GO.on rfl rfl rfl rfl (GO.fld (⟨b1, 5, none⟩) rfl rfl fl49_4 rfl rfl (GO.back (GO.on rfl rfl rfl rfl (GO.fld (⟨b1, 6, none⟩) rfl rfl fl44_1 rfl rfl (GO.back (GO.on rfl rfl rfl rfl (GO.ldBox (j := 2) HS rfl rfl rfl rfl na28 rfl (GO.back (GO.on rfl rfl rfl rfl (GO.lenS rfl rfl underlying28 rfl (GO.back (GO.on rfl rfl rfl rfl (GO.gtr rfl rfl rfl rfl (GO.back ?_))))))))))))))
    refine GO.pickF rfl rfl rfl rfl rfl (GO.fld (⟨b5, 0, none⟩) rfl rfl fl47_0 rfl rfl (GO.ldBox (j := 0) HS rfl rfl rfl rfl na2 rfl (GO.ps 2 rfl (GO.known (t := 36) rfl (congrArg Bool.not (decide_eq_true c29)) (GO.on rfl rfl rfl rfl (GO.fld (⟨b5, 1, none⟩) rfl rfl fl47_1 rfl rfl (GO.back (GO.on rfl rfl rfl rfl (GO.ldBox (j := 0) HS rfl rfl rfl rfl na2 rfl (GO.back (GO.on rfl rfl rfl rfl (GO.neq rfl rfl rfl rfl (GO.back (GO.ps 2 rfl ?_))))))))))))))
    refine GO.known (t := 41) rfl (congrArg Bool.not (decide_eq_false c30)) (GO.off rfl rfl rfl rfl rfl rfl (GO.off rfl rfl rfl rfl rfl rfl (GO.off rfl rfl rfl rfl rfl rfl (GO.off rfl rfl rfl rfl rfl rfl (GO.ps 2 rfl (GO.off rfl rfl rfl rfl rfl rfl (GO.off rfl rfl rfl rfl rfl rfl (GO.off rfl rfl rfl rfl rfl rfl (GO.off rfl rfl rfl rfl rfl rfl (GO.ps 2 rfl (GO.off rfl rfl rfl rfl rfl rfl (GO.off rfl rfl rfl rfl rfl rfl (GO.off rfl rfl rfl rfl rfl rfl (GO.off rfl rfl rfl rfl rfl rfl ?_))))))))))))))
    refine GO.pickT rfl rfl rfl rfl rfl (GO.buildV (.agg [.bool (decide (0 < (e_Triangulation_Tets.length : Int))), .bool (!(decide (e_Diagram_Circles = 0))), .bool (decide (0 < (e_Braid_Word.length : Int))), .bool true].toArray) rfl rfl (fun _ => by kernel_rfl) rfl (GO.stBox (j := 1) (vs := [.bool (decide (0 < (e_Triangulation_Tets.length : Int))), .bool (!(decide (e_Diagram_Circles = 0))), .bool (decide (0 < (e_Braid_Word.length : Int))), .bool true]) ([.bool (decide (0 < (e_Triangulation_Tets.length : Int))), .bool (!(decide (e_Diagram_Circles = 0))), .bool (decide (0 < (e_Braid_Word.length : Int))), .bool true]) HS rfl rfl rfl rfl rfl (htA ag181) rfl rfl rfl fun wd36 HS => GO.nil ?_))
    obtain ⟨rfl, rfl, rfl, rfl⟩ := some4 H
    exact G.ret1 _ func147 rfl (Res1.boxA (j := 1) (vs := [.bool (decide (0 < (e_Triangulation_Tets.length : Int))), .bool (!(decide (e_Diagram_Circles = 0))), .bool (decide (0 < (e_Braid_Word.length : Int))), .bool true]) HS rfl rfl rfl ag181) ⟨rfl, (HS.pk 3 [] rfl)⟩
   refine G.region (GO.fld (⟨b1, 2, none⟩) rfl rfl fl49_2 rfl rfl (GO.fld (⟨b1, 2, none⟩) rfl rfl fl40_0 rfl rfl (GO.ldBox (j := 2) HS rfl rfl rfl rfl na38 rfl (GO.lenS rfl rfl underlying38 rfl (GO.gtr rfl rfl rfl rfl (GO.fld (⟨b1, 3, none⟩) rfl rfl fl49_3 rfl rfl (GO.fld (⟨b1, 3, none⟩) rfl rfl fl43_0 rfl rfl (GO.ldBox (j := 2) HS rfl rfl rfl rfl na41 rfl (GO.lenS rfl rfl underlying41 rfl (GO.ps 2 rfl (GO.known (t := 16) rfl (decide_eq_false c8) (GO.on rfl rfl rfl rfl (GO.fld (⟨b1, 3, none⟩) rfl rfl fl49_3 rfl rfl (GO.back ?_))))))))))))))
   refine GO.on rfl rfl rfl rfl (GO.fld (⟨b1, 4, none⟩) rfl rfl fl43_1 rfl rfl (GO.back (GO.on rfl rfl rfl rfl (GO.ldBox (j := 2) HS rfl rfl rfl rfl na2 rfl (GO.back (GO.on rfl rfl rfl rfl (GO.neq rfl rfl rfl rfl (GO.back (GO.pickF rfl rfl rfl rfl rfl (GO.fld (⟨b1, 5, none⟩) rfl rfl fl49_4 rfl rfl (GO.fld (⟨b1, 5, none⟩) rfl rfl fl44_0 rfl rfl (GO.ldBox (j := 2) HS rfl rfl rfl rfl na2 rfl (GO.ps 2 rfl (GO.known (t := 26) rfl (congrArg Bool.not (decide_eq_true c28)) ?_))))))))))))))
   refine GO.on rfl rfl rfl rfl (GO.fld (⟨b1, 5, none⟩) rfl rfl fl49_4 rfl rfl (GO.back (GO.on rfl rfl rfl rfl (GO.fld (⟨b1, 6, none⟩) rfl rfl fl44_1 rfl rfl (GO.back (GO.on rfl rfl rfl rfl (GO.ldBox (j := 2) HS rfl rfl rfl rfl na28 rfl (GO.back (GO.on rfl rfl rfl rfl (GO.lenS rfl rfl underlying28 rfl (GO.back (GO.on rfl rfl rfl rfl (GO.gtr rfl rfl rfl rfl (GO.back ?_))))))))))))))
   refine GO.pickF rfl rfl rfl rfl rfl (GO.fld (⟨b5, 0, none⟩) rfl rfl fl47_0 rfl rfl (GO.ldBox (j := 0) HS rfl rfl rfl rfl na2 rfl (GO.ps 2 rfl (GO.known (t := 36) rfl (congrArg Bool.not (decide_eq_false c29)) (GO.off rfl rfl rfl rfl rfl rfl (GO.off rfl rfl rfl rfl rfl rfl (GO.off rfl rfl rfl rfl rfl rfl (GO.ps 2 rfl (GO.off rfl rfl rfl rfl rfl rfl (GO.off rfl rfl rfl rfl rfl rfl (GO.off rfl rfl rfl rfl rfl rfl (GO.off rfl rfl rfl rfl rfl rfl (GO.ps 2 rfl (GO.off rfl rfl rfl rfl rfl rfl ?_))))))))))))))
   refine GO.off rfl rfl rfl rfl rfl rfl (GO.off rfl rfl rfl rfl rfl rfl (GO.off rfl rfl rfl rfl rfl rfl (GO.ps 2 rfl (GO.off rfl rfl rfl rfl rfl rfl (GO.off rfl rfl rfl rfl rfl rfl (GO.off rfl rfl rfl rfl rfl rfl (GO.off rfl rfl rfl rfl rfl rfl (GO.pickT rfl rfl rfl rfl rfl (GO.buildV (.agg [.bool (decide (0 < (e_Triangulation_Tets.length : Int))), .bool (!(decide (e_Diagram_Circles = 0))), .bool (decide (0 < (e_Braid_Word.length : Int))), .bool true].toArray) rfl rfl (fun _ => by kernel_rfl) rfl (GO.stBox (j := 1) (vs := [.bool (decide (0 < (e_Triangulation_Tets.length : Int))), .bool (!(decide (e_Diagram_Circles = 0))), .bool (decide (0 < (e_Braid_Word.length : Int))), .bool true]) ([.bool (decide (0 < (e_Triangulation_Tets.length : Int))), .bool (!(decide (e_Diagram_Circles = 0))), .bool (decide (0 < (e_Braid_Word.length : Int))), .bool true]) HS rfl rfl rfl rfl rfl (htA ag181) rfl rfl rfl fun wd37 HS => GO.nil ?_))))))))))
   obtain ⟨rfl, rfl, rfl, rfl⟩ := some4 H
   exact G.ret1 _ func147 rfl (Res1.boxA (j := 1) (vs := [.bool (decide (0 < (e_Triangulation_Tets.length : Int))), .bool (!(decide (e_Diagram_Circles = 0))), .bool (decide (0 < (e_Braid_Word.length : Int))), .bool true]) HS rfl rfl rfl ag181) ⟨rfl, (HS.pk 3 [] rfl)⟩
  rcases ite_elim H with ⟨c38, H⟩ | ⟨c38, H⟩
  ·
   rcases ite_elim H with ⟨c39, H⟩ | ⟨c39, H⟩
   ·
    rcases ite_elim H with ⟨c40, H⟩ | ⟨c40, H⟩
    ·
     refine G.region (GO.fld (⟨b1, 2, none⟩) rfl rfl fl49_2 rfl rfl (GO.fld (⟨b1, 2, none⟩) rfl rfl fl40_0 rfl rfl (GO.ldBox (j := 2) HS rfl rfl rfl rfl na38 rfl (GO.lenS rfl rfl underlying38 rfl (GO.gtr rfl rfl rfl rfl (GO.fld (⟨b1, 3, none⟩) rfl rfl fl49_3 rfl rfl (GO.fld (⟨b1, 3, none⟩) rfl rfl fl43_0 rfl rfl (GO.ldBox (j := 2) HS rfl rfl rfl rfl na41 rfl (GO.lenS rfl rfl underlying41 rfl (GO.ps 2 rfl (GO.known (t := 16) rfl (decide_eq_false c8) (GO.on rfl rfl rfl rfl (GO.fld (⟨b1, 3, none⟩) rfl rfl fl49_3 rfl rfl (GO.back ?_))))))))))))))
     refine GO.on rfl rfl rfl rfl (GO.fld (⟨b1, 4, none⟩) rfl rfl fl43_1 rfl rfl (GO.back (GO.on rfl rfl rfl rfl (GO.ldBox (j := 2) HS rfl rfl rfl rfl na2 rfl (GO.back (GO.on rfl rfl rfl rfl (GO.neq rfl rfl rfl rfl (GO.back (GO.pickF rfl rfl rfl rfl rfl (GO.fld (⟨b1, 5, none⟩) rfl rfl fl49_4 rfl rfl (GO.fld (⟨b1, 5, none⟩) rfl rfl fl44_0 rfl rfl (GO.ldBox (j := 2) HS rfl rfl rfl rfl na2 rfl (GO.ps 2 rfl (GO.known (t := 26) rfl (congrArg Bool.not (decide_eq_false c28)) ?_))))))))))))))
     refine GO.off rfl rfl rfl rfl rfl rfl (GO.off rfl rfl rfl rfl rfl rfl (GO.off rfl rfl rfl rfl rfl rfl (GO.off rfl rfl rfl rfl rfl rfl (GO.off rfl rfl rfl rfl rfl rfl (GO.pickT rfl rfl rfl rfl rfl (GO.fld (⟨b5, 0, none⟩) rfl rfl fl47_0 rfl rfl (GO.ldBox (j := 0) HS rfl rfl rfl rfl na2 rfl (GO.ps 2 rfl (GO.known (t := 36) rfl (congrArg Bool.not (decide_eq_true c38)) (GO.on rfl rfl rfl rfl (GO.fld (⟨b5, 1, none⟩) rfl rfl fl47_1 rfl rfl (GO.back (GO.on rfl rfl rfl rfl (GO.ldBox (j := 0) HS rfl rfl rfl rfl na2 rfl ?_))))))))))))))
     refine GO.back (GO.on rfl rfl rfl rfl (GO.neq rfl rfl rfl rfl (GO.back (GO.ps 2 rfl (GO.known (t := 41) rfl (congrArg Bool.not (decide_eq_true c39)) (GO.on rfl rfl rfl rfl (GO.fld (⟨b5, 2, none⟩) rfl rfl fl47_2 rfl rfl (GO.back (GO.on rfl rfl rfl rfl (GO.ldBox (j := 0) HS rfl rfl rfl rfl na45 rfl (GO.back (GO.on rfl rfl rfl rfl (GO.lenS rfl rfl underlying45 rfl (GO.back ?_))))))))))))))
     refine GO.on rfl rfl rfl rfl (GO.gtr rfl rfl rfl rfl (GO.back (GO.ps 2 rfl (GO.known (t := 47) rfl (decide_eq_true c40) (GO.off rfl rfl rfl rfl rfl rfl (GO.off rfl rfl rfl rfl rfl rfl (GO.off rfl rfl rfl rfl rfl rfl (GO.off rfl rfl rfl rfl rfl rfl (GO.ps 2 rfl (GO.off rfl rfl rfl rfl rfl rfl (GO.off rfl rfl rfl rfl rfl rfl (GO.off rfl rfl rfl rfl rfl rfl (GO.off rfl rfl rfl rfl rfl rfl (GO.pickT rfl rfl rfl rfl rfl ?_))))))))))))))
     refine GO.buildV (.agg [.bool (decide (0 < (e_Triangulation_Tets.length : Int))), .bool (!(decide (e_Diagram_Circles = 0))), .bool true, .bool true].toArray) rfl rfl (fun _ => by kernel_rfl) rfl (GO.stBox (j := 1) (vs := [.bool (decide (0 < (e_Triangulation_Tets.length : Int))), .bool (!(decide (e_Diagram_Circles = 0))), .bool true, .bool true]) ([.bool (decide (0 < (e_Triangulation_Tets.length : Int))), .bool (!(decide (e_Diagram_Circles = 0))), .bool true, .bool true]) HS rfl rfl rfl rfl rfl (htA ag181) rfl rfl rfl fun wd41 HS => GO.nil ?_)
     obtain ⟨rfl, rfl, rfl, rfl⟩ := some4 H
     exact G.ret1 _ func147 rfl (Res1.boxA (j := 1) (vs := [.bool (decide (0 < (e_Triangulation_Tets.length : Int))), .bool (!(decide (e_Diagram_Circles = 0))), .bool true, .bool true]) HS rfl rfl rfl ag181) ⟨rfl, (HS.pk 3 [] rfl)⟩
    rcases ite_elim H with ⟨c42, H⟩ | ⟨c42, H⟩
    ·
     refine G.region (GO.fld (⟨b1, 2, none⟩) rfl rfl fl49_2 rfl rfl (GO.fld (⟨b1, 2, none⟩) rfl rfl fl40_0 rfl rfl (GO.ldBox (j := 2) HS rfl rfl rfl rfl na38 rfl (GO.lenS rfl rfl underlying38 rfl (GO.gtr rfl rfl rfl rfl (GO.fld (⟨b1, 3, none⟩) rfl rfl fl49_3 rfl rfl (GO.fld (⟨b1, 3, none⟩) rfl rfl fl43_0 rfl rfl (GO.ldBox (j := 2) HS rfl rfl rfl rfl na41 rfl (GO.lenS rfl rfl underlying41 rfl (GO.ps 2 rfl (GO.known (t := 16) rfl (decide_eq_false c8) (GO.on rfl rfl rfl rfl (GO.fld (⟨b1, 3, none⟩) rfl rfl fl49_3 rfl rfl (GO.back ?_))))))))))))))
     refine GO.on rfl rfl rfl rfl (GO.fld (⟨b1, 4, none⟩) rfl rfl fl43_1 rfl rfl (GO.back (GO.on rfl rfl rfl rfl (GO.ldBox (j := 2) HS rfl rfl rfl rfl na2 rfl (GO.back (GO.on rfl rfl rfl rfl (GO.neq rfl rfl rfl rfl (GO.back (GO.pickF rfl rfl rfl rfl rfl (GO.fld (⟨b1, 5, none⟩) rfl rfl fl49_4 rfl rfl (GO.fld (⟨b1, 5, none⟩) rfl rfl fl44_0 rfl rfl (GO.ldBox (j := 2) HS rfl rfl rfl rfl na2 rfl (GO.ps 2 rfl (GO.known (t := 26) rfl (congrArg Bool.not (decide_eq_false c28)) ?_))))))))))))))
     refine GO.off rfl rfl rfl rfl rfl rfl (GO.off rfl rfl rfl rfl rfl rfl (GO.off rfl rfl rfl rfl rfl rfl (GO.off rfl rfl rfl rfl rfl rfl (GO.off rfl rfl rfl rfl rfl rfl (GO.pickT rfl rfl rfl rfl rfl (GO.fld (⟨b5, 0, none⟩) rfl rfl fl47_0 rfl rfl (GO.ldBox (j := 0) HS rfl rfl rfl rfl na2 rfl (GO.ps 2 rfl (GO.known (t := 36) rfl (congrArg Bool.not (decide_eq_true c38)) (GO.on rfl rfl rfl rfl (GO.fld (⟨b5, 1, none⟩) rfl rfl fl47_1 rfl rfl (GO.back (GO.on rfl rfl rfl rfl (GO.ldBox (j := 0) HS rfl rfl rfl rfl na2 rfl ?_))))))))))))))
     refine GO.back (GO.on rfl rfl rfl rfl (GO.neq rfl rfl rfl rfl (GO.back (GO.ps 2 rfl (GO.known (t := 41) rfl (congrArg Bool.not (decide_eq_true c39)) (GO.on rfl rfl rfl rfl (GO.fld (⟨b5, 2, none⟩) rfl rfl fl47_2 rfl rfl (GO.back (GO.on rfl rfl rfl rfl (GO.ldBox (j := 0) HS rfl rfl rfl rfl na45 rfl (GO.back (GO.on rfl rfl rfl rfl (GO.lenS rfl rfl underlying45 rfl (GO.back ?_))))))))))))))
     refine GO.on rfl rfl rfl rfl (GO.gtr rfl rfl rfl rfl (GO.back (GO.ps 2 rfl (GO.known (t := 47) rfl (decide_eq_false c40) (GO.on rfl rfl rfl rfl (GO.fld (⟨b5, 3, none⟩) rfl rfl fl47_3 rfl rfl (GO.back (GO.on rfl rfl rfl rfl (GO.ldBox (j := 0) HS rfl rfl rfl rfl na28 rfl (GO.back (GO.on rfl rfl rfl rfl (GO.lenS rfl rfl underlying28 rfl (GO.back (GO.on rfl rfl rfl rfl ?_))))))))))))))
     refine GO.gtr rfl rfl rfl rfl (GO.back (GO.ps 2 rfl (GO.known (t := 53) rfl (decide_eq_true c42) (GO.off rfl rfl rfl rfl rfl rfl (GO.off rfl rfl rfl rfl rfl rfl (GO.off rfl rfl rfl rfl rfl rfl (GO.off rfl rfl rfl rfl rfl rfl (GO.pickT rfl rfl rfl rfl rfl (GO.buildV (.agg [.bool (decide (0 < (e_Triangulation_Tets.length : Int))), .bool (!(decide (e_Diagram_Circles = 0))), .bool true, .bool true].toArray) rfl rfl (fun _ => by kernel_rfl) rfl (GO.stBox (j := 1) (vs := [.bool (decide (0 < (e_Triangulation_Tets.length : Int))), .bool (!(decide (e_Diagram_Circles = 0))), .bool true, .bool true]) ([.bool (decide (0 < (e_Triangulation_Tets.length : Int))), .bool (!(decide (e_Diagram_Circles = 0))), .bool true, .bool true]) HS rfl rfl rfl rfl rfl (htA ag181) rfl rfl rfl fun wd43 HS => GO.nil ?_))))))))))
     obtain ⟨rfl, rfl, rfl, rfl⟩ := some4 H
     exact G.ret1 _ func147 rfl (Res1.boxA (j := 1) (vs := [.bool (decide (0 < (e_Triangulation_Tets.length : Int))), .bool (!(decide (e_Diagram_Circles = 0))), .bool true, .bool true]) HS rfl rfl rfl ag181) ⟨rfl, (HS.pk 3 [] rfl)⟩
    refine G.region (GO.fld (⟨b1, 2, none⟩) rfl rfl fl49_2 rfl rfl (GO.fld (⟨b1, 2, none⟩) rfl rfl fl40_0 rfl rfl (GO.ldBox (j := 2) HS rfl rfl rfl rfl na38 rfl (GO.lenS rfl rfl underlying38 rfl (GO.gtr rfl rfl rfl rfl (GO.fld (⟨b1, 3, none⟩) rfl rfl fl49_3 rfl rfl (GO.fld (⟨b1, 3, none⟩) rfl rfl fl43_0 rfl rfl (GO.ldBox (j := 2) HS rfl rfl rfl rfl na41 rfl (GO.lenS rfl rfl underlying41 rfl (GO.ps 2 rfl (GO.known (t := 16) rfl (decide_eq_false c8) (GO.on rfl rfl rfl rfl (GO.fld (⟨b1, 3, none⟩) rfl rfl fl49_3 rfl rfl (GO.back ?_))))))))))))))
    refine GO.on rfl rfl rfl rfl (GO.fld (⟨b1, 4, none⟩) rfl rfl fl43_1 rfl rfl (GO.back (GO.on rfl rfl rfl rfl (GO.ldBox (j := 2) HS rfl rfl rfl rfl na2 rfl (GO.back (GO.on rfl rfl rfl rfl (GO.neq rfl rfl rfl rfl (GO.back (GO.pickF rfl rfl rfl rfl rfl (GO.fld (⟨b1, 5, none⟩) rfl rfl fl49_4 rfl rfl (GO.fld (⟨b1, 5, none⟩) rfl rfl fl44_0 rfl rfl (GO.ldBox (j := 2) HS rfl rfl rfl rfl na2 rfl (GO.ps 2 rfl (GO.known (t := 26) rfl (congrArg Bool.not (decide_eq_false c28)) ?_))))))))))))))
    refine GO.off rfl rfl rfl rfl rfl rfl (GO.off rfl rfl rfl rfl rfl rfl (GO.off rfl rfl rfl rfl rfl rfl (GO.off rfl rfl rfl rfl rfl rfl (GO.off rfl rfl rfl rfl rfl rfl (GO.pickT rfl rfl rfl rfl rfl (GO.fld (⟨b5, 0, none⟩) rfl rfl fl47_0 rfl rfl (GO.ldBox (j := 0) HS rfl rfl rfl rfl na2 rfl (GO.ps 2 rfl (GO.known (t := 36) rfl (congrArg Bool.not (decide_eq_true c38)) (GO.on rfl rfl rfl rfl (GO.fld (⟨b5, 1, none⟩) rfl rfl fl47_1 rfl rfl (GO.back (GO.on rfl rfl rfl rfl (GO.ldBox (j := 0) HS rfl rfl rfl rfl na2 rfl ?_))))))))))))))
    refine GO.back (GO.on rfl rfl rfl rfl (GO.neq rfl rfl rfl rfl (GO.back (GO.ps 2 rfl (GO.known (t := 41) rfl (congrArg Bool.not (decide_eq_true c39)) (GO.on rfl rfl rfl rfl (GO.fld (⟨b5, 2, none⟩) rfl rfl fl47_2 rfl rfl (GO.back (GO.on rfl rfl rfl rfl (GO.ldBox (j := 0) HS rfl rfl rfl rfl na45 rfl (GO.back (GO.on rfl rfl rfl rfl (GO.lenS rfl rfl underlying45 rfl (GO.back ?_))))))))))))))
    refine GO.on rfl rfl rfl rfl (GO.gtr rfl rfl rfl rfl (GO.back (GO.ps 2 rfl (GO.known (t := 47) rfl (decide_eq_false c40) (GO.on rfl rfl rfl rfl (GO.fld (⟨b5, 3, none⟩) rfl rfl fl47_3 rfl rfl (GO.back (GO.on rfl rfl rfl rfl (GO.ldBox (j := 0) HS rfl rfl rfl rfl na28 rfl (GO.back (GO.on rfl rfl rfl rfl (GO.lenS rfl rfl underlying28 rfl (GO.back (GO.on rfl rfl rfl rfl ?_))))))))))))))
    refine GO.gtr rfl rfl rfl rfl (GO.back (GO.ps 2 rfl (GO.known (t := 53) rfl (decide_eq_false c42) (GO.on rfl rfl rfl rfl (GO.fld (⟨b5, 4, none⟩) rfl rfl fl47_4 rfl rfl (GO.back (GO.on rfl rfl rfl rfl (GO.ldBox (j := 0) HS rfl rfl rfl rfl na28 rfl (GO.back (GO.on rfl rfl rfl rfl (GO.lenS rfl rfl underlying28 rfl (GO.back (GO.on rfl rfl rfl rfl (GO.gtr rfl rfl rfl rfl ?_))))))))))))))
    refine GO.back (GO.pickF rfl rfl rfl rfl rfl (GO.buildV (.agg [.bool (decide (0 < (e_Triangulation_Tets.length : Int))), .bool (!(decide (e_Diagram_Circles = 0))), .bool true, .bool (decide (0 < (e_Certificate_Perms.length : Int)))].toArray) rfl rfl (fun _ => by kernel_rfl) rfl (GO.stBox (j := 1) (vs := [.bool (decide (0 < (e_Triangulation_Tets.length : Int))), .bool (!(decide (e_Diagram_Circles = 0))), .bool true, .bool (decide (0 < (e_Certificate_Perms.length : Int)))]) ([.bool (decide (0 < (e_Triangulation_Tets.length : Int))), .bool (!(decide (e_Diagram_Circles = 0))), .bool true, .bool (decide (0 < (e_Certificate_Perms.length : Int)))]) HS rfl rfl rfl rfl rfl (htA ag181) rfl rfl rfl fun wd44 HS => GO.nil ?_)))
    obtain ⟨rfl, rfl, rfl, rfl⟩ := some4 H
    exact G.ret1 _ func147 rfl (Res1.boxA (j := 1) (vs := [.bool (decide (0 < (e_Triangulation_Tets.length : Int))), .bool (!(decide (e_Diagram_Circles = 0))), .bool true, .bool (decide (0 < (e_Certificate_Perms.length : Int)))]) HS rfl rfl rfl ag181) ⟨rfl, (HS.pk 3 [] rfl)⟩
   refine G.region (GO.fld (⟨b1, 2, none⟩) rfl rfl fl49_2 rfl rfl (GO.fld (⟨b1, 2, none⟩) rfl rfl fl40_0 rfl rfl (GO.ldBox (j := 2) HS rfl rfl rfl rfl na38 rfl (GO.lenS rfl rfl underlying38 rfl (GO.gtr rfl rfl rfl rfl (GO.fld (⟨b1, 3, none⟩) rfl rfl fl49_3 rfl rfl (GO.fld (⟨b1, 3, none⟩) rfl rfl fl43_0 rfl rfl (GO.ldBox (j := 2) HS rfl rfl rfl rfl na41 rfl (GO.lenS rfl rfl underlying41 rfl (GO.ps 2 rfl (GO.known (t := 16) rfl (decide_eq_false c8) (GO.on rfl rfl rfl rfl (GO.fld (⟨b1, 3, none⟩) rfl rfl fl49_3 rfl rfl (GO.back ?_))))))))))))))
   refine GO.on rfl rfl rfl rfl (GO.fld (⟨b1, 4, none⟩) rfl rfl fl43_1 rfl rfl (GO.back (GO.on rfl rfl rfl rfl (GO.ldBox (j := 2) HS rfl rfl rfl rfl na2 rfl (GO.back (GO.on rfl rfl rfl rfl (GO.neq rfl rfl rfl rfl (GO.back (GO.pickF rfl rfl rfl rfl rfl (GO.fld (⟨b1, 5, none⟩) rfl rfl fl49_4 rfl rfl (GO.fld (⟨b1, 5, none⟩) rfl rfl fl44_0 rfl rfl (GO.ldBox (j := 2) HS rfl rfl rfl rfl na2 rfl (GO.ps 2 rfl (GO.known (t := 26) rfl (congrArg Bool.not (decide_eq_false c28)) ?_))))))))))))))
   refine GO.off rfl rfl rfl rfl rfl rfl (GO.off rfl rfl rfl rfl rfl rfl (GO.off rfl rfl rfl rfl rfl rfl (GO.off rfl rfl rfl rfl rfl rfl (GO.off rfl rfl rfl rfl rfl rfl (GO.pickT rfl rfl rfl rfl rfl (GO.fld (⟨b5, 0, none⟩) rfl rfl fl47_0 rfl rfl (GO.ldBox (j := 0) HS rfl rfl rfl rfl na2 rfl (GO.ps 2 rfl (GO.known (t := 36) rfl (congrArg Bool.not (decide_eq_true c38)) (GO.on rfl rfl rfl rfl (GO.fld (⟨b5, 1, none⟩) rfl rfl fl47_1 rfl rfl (GO.back (GO.on rfl rfl rfl rfl (GO.ldBox (j := 0) HS rfl rfl rfl rfl na2 rfl ?_))))))))))))))
   refine GO.back (GO.on rfl rfl rfl rfl (GO.neq rfl rfl rfl rfl (GO.back (GO.ps 2 rfl (GO.known (t := 41) rfl (congrArg Bool.not (decide_eq_false c39)) (GO.off rfl rfl rfl rfl rfl rfl (GO.off rfl rfl rfl rfl rfl rfl (GO.off rfl rfl rfl rfl rfl rfl (GO.off rfl rfl rfl rfl rfl rfl (GO.ps 2 rfl (GO.off rfl rfl rfl rfl rfl rfl (GO.off rfl rfl rfl rfl rfl rfl (GO.off rfl rfl rfl rfl rfl rfl (GO.off rfl rfl rfl rfl rfl rfl ?_))))))))))))))
   refine GO.ps 2 rfl (GO.off rfl rfl rfl rfl rfl rfl (GO.off rfl rfl rfl rfl rfl rfl (GO.off rfl rfl rfl rfl rfl rfl (GO.off rfl rfl rfl rfl rfl rfl (GO.pickT rfl rfl rfl rfl rfl (GO.buildV (.agg [.bool (decide (0 < (e_Triangulation_Tets.length : Int))), .bool (!(decide (e_Diagram_Circles = 0))), .bool true, .bool true].toArray) rfl rfl (fun _ => by kernel_rfl) rfl (GO.stBox (j := 1) (vs := [.bool (decide (0 < (e_Triangulation_Tets.length : Int))), .bool (!(decide (e_Diagram_Circles = 0))), .bool true, .bool true]) ([.bool (decide (0 < (e_Triangulation_Tets.length : Int))), .bool (!(decide (e_Diagram_Circles = 0))), .bool true, .bool true]) HS rfl rfl rfl rfl rfl (htA ag181) rfl rfl rfl fun wd45 HS => GO.nil ?_)))))))
   obtain ⟨rfl, rfl, rfl, rfl⟩ := some4 H
   exact G.ret1 _ func147 rfl (Res1.boxA (j := 1) (vs := [.bool (decide (0 < (e_Triangulation_Tets.length : Int))), .bool (!(decide (e_Diagram_Circles = 0))), .bool true, .bool true]) HS rfl rfl rfl ag181) ⟨rfl, (HS.pk 3 [] rfl)⟩
  refine G.region (GO.fld (⟨b1, 2, none⟩) rfl rfl fl49_2 rfl rfl (GO.fld (⟨b1, 2, none⟩) rfl rfl fl40_0 rfl rfl (GO.ldBox (j := 2) HS rfl rfl rfl rfl na38 rfl (GO.lenS rfl rfl underlying38 rfl (GO.gtr rfl rfl rfl rfl (GO.fld (⟨b1, 3, none⟩) rfl rfl fl49_3 rfl rfl (GO.fld (⟨b1, 3, none⟩) rfl rfl fl43_0 rfl rfl (GO.ldBox (j := 2) HS rfl rfl rfl rfl na41 rfl (GO.lenS rfl rfl underlying41 rfl (GO.ps 2 rfl (GO.known (t := 16) rfl (decide_eq_false c8) (GO.on rfl rfl rfl rfl (GO.fld (⟨b1, 3, none⟩) rfl rfl fl49_3 rfl rfl (GO.back ?_))))))))))))))
  refine GO.on rfl rfl rfl rfl (GO.fld (⟨b1, 4, none⟩) rfl rfl fl43_1 rfl rfl (GO.back (GO.on rfl rfl rfl rfl (GO.ldBox (j := 2) HS rfl rfl rfl rfl na2 rfl (GO.back (GO.on rfl rfl rfl rfl (GO.neq rfl rfl rfl rfl (GO.back (GO.pickF rfl rfl rfl rfl rfl (GO.fld (⟨b1, 5, none⟩) rfl rfl fl49_4 rfl rfl (GO.fld (⟨b1, 5, none⟩) rfl rfl fl44_0 rfl rfl (GO.ldBox (j := 2) HS rfl rfl rfl rfl na2 rfl (GO.ps 2 rfl (GO.known (t := 26) rfl (congrArg Bool.not (decide_eq_false c28)) ?_))))))))))))))
  refine GO.off rfl rfl rfl rfl rfl rfl (GO.off rfl rfl rfl rfl rfl rfl (GO.off rfl rfl rfl rfl rfl rfl (GO.off rfl rfl rfl rfl rfl rfl (GO.off rfl rfl rfl rfl rfl rfl (GO.pickT rfl rfl rfl rfl rfl (GO.fld (⟨b5, 0, none⟩) rfl rfl fl47_0 rfl rfl (GO.ldBox (j := 0) HS rfl rfl rfl rfl na2 rfl (GO.ps 2 rfl (GO.known (t := 36) rfl (congrArg Bool.not (decide_eq_false c38)) (GO.off rfl rfl rfl rfl rfl rfl (GO.off rfl rfl rfl rfl rfl rfl (GO.off rfl rfl rfl rfl rfl rfl (GO.ps 2 rfl (GO.off rfl rfl rfl rfl rfl rfl ?_))))))))))))))
  refine GO.off rfl rfl rfl rfl rfl rfl (GO.off rfl rfl rfl rfl rfl rfl (GO.off rfl rfl rfl rfl rfl rfl (GO.ps 2 rfl (GO.off rfl rfl rfl rfl rfl rfl (GO.off rfl rfl rfl rfl rfl rfl (GO.off rfl rfl rfl rfl rfl rfl (GO.off rfl rfl rfl rfl rfl rfl (GO.ps 2 rfl (GO.off rfl rfl rfl rfl rfl rfl (GO.off rfl rfl rfl rfl rfl rfl (GO.off rfl rfl rfl rfl rfl rfl (GO.off rfl rfl rfl rfl rfl rfl (GO.pickT rfl rfl rfl rfl rfl (GO.buildV (.agg [.bool (decide (0 < (e_Triangulation_Tets.length : Int))), .bool (!(decide (e_Diagram_Circles = 0))), .bool true, .bool true].toArray) rfl rfl (fun _ => by kernel_rfl) rfl ?_))))))))))))))
  refine GO.stBox (j := 1) (vs := [.bool (decide (0 < (e_Triangulation_Tets.length : Int))), .bool (!(decide (e_Diagram_Circles = 0))), .bool true, .bool true]) ([.bool (decide (0 < (e_Triangulation_Tets.length : Int))), .bool (!(decide (e_Diagram_Circles = 0))), .bool true, .bool true]) HS rfl rfl rfl rfl rfl (htA ag181) rfl rfl rfl fun wd46 HS => GO.nil ?_
  obtain ⟨rfl, rfl, rfl, rfl⟩ := some4 H
  exact G.ret1 _ func147 rfl (Res1.boxA (j := 1) (vs := [.bool (decide (0 < (e_Triangulation_Tets.length : Int))), .bool (!(decide (e_Diagram_Circles = 0))), .bool true, .bool true]) HS rfl rfl rfl ag181) ⟨rfl, (HS.pk 3 [] rfl)⟩
theorem impl_isTriangulation_fn1.calls {w0 w : World} {L : List HObj} {faces : List GFace} {A_a : Option Addr} {c_a : Nat} {r1 : Bool} (HS : St w0 w (L)) (r_a : RdIn w0 L T_GFace A_a c_a (fun _ => ()) faces) (H : impl_isTriangulation_fn1.f faces = some r1) :
    Calls prog 210 #[.slice A_a faces.length c_a] w (impl_isTriangulation_fn1.post w0 L r1) := by
  unfold impl_isTriangulation_fn1.f at H
  refine Calls.of_G func210 rfl rfl rfl ?_
  refine G.run 3 rfl (G.region (GO.move rfl rfl rfl (GO.lenS rfl rfl underlying164 rfl (GO.ps 2 rfl (GO.nil ?_)))))
  obtain rfl := Option.some.inj H
  exact G.ret1 _ func210 rfl rfl ⟨rfl, HS⟩
theorem slices_IndexFunc_impl_Face_impl_Face_isTriangulation_fn1.calls {w0 w : World} {L : List HObj} {K : Nat} {s : List (List GFace)} {A_a : Option Addr} {c_a : Nat} {y_a : Nat → (Ty.slice 166 T_GFace).Lay} {r1 : Int} (HS : St w0 w (L)) (r_a : RdIn w0 L (Ty.slice 166 T_GFace) A_a c_a y_a s) (H : slices_IndexFunc_impl_Face_impl_Face_isTriangulation_fn1.f K s = some r1) :
    Calls prog 250 #[.slice A_a s.length c_a, .func (.func 210) #[] #[]] w (slices_IndexFunc_impl_Face_impl_Face_isTriangulation_fn1.post w0 L r1) := by
  unfold slices_IndexFunc_impl_Face_impl_Face_isTriangulation_fn1.f at H
  refine Calls.of_G func250 rfl rfl rfl ?_
  refine G.run 4 rfl (G.region (GO.move rfl rfl rfl (GO.lenS rfl rfl underlying38 rfl (GO.move rfl rfl rfl (GO.nil (G.run 2 rfl ?_))))))
  refine G.name (fun k_l1 hk_l1 => ?_)
  have at_l1 : ∀ m_l1, m_l1 ≤ K → ∀ (x8 : Int) (w : World), slices_IndexFunc_impl_Face_impl_Face_isTriangulation_fn1.l1 K m_l1 s x8 = some r1 → St w0 w (L) → G prog 250 19 [(0, .slice A_a s.length c_a), (1, .func (.func 210) #[] #[]), (7, .int .i64 (s.length : Int)), (8, .int .i64 x8)] k_l1 w (slices_IndexFunc_impl_Face_impl_Face_isTriangulation_fn1.post w0 L r1) := by
   intro m_l1
   induction m_l1 using Nat.strongRecOn with
   | _ m_l1 ih_l1 =>
    intro hm_l1 x8 w H HS
    cases m_l1 with
    | zero => rw [slices_IndexFunc_impl_Face_impl_Face_isTriangulation_fn1.l1] at H; cases H
    | succ n_l1 =>
     rw [slices_IndexFunc_impl_Face_impl_Face_isTriangulation_fn1.l1] at H
     subst hk_l1
     refine G.run 3 rfl ?_
     rcases ite_elim H with ⟨c16, H⟩ | ⟨c16, H⟩
     ·
      refine G.yesB rfl (decide_eq_true c16) (G.run 6 rfl ?_)
      obtain ⟨c17, H⟩ := ite_none H
      obtain ⟨t18, h19, H⟩ := Option.bind_eq_some_iff.1 H
      refine G.region (GO.ps 3 rfl (GO.ix rfl rfl rfl underlying38 sz164 (r_a _ HS).2.2.1 c17.1 c17.2 rfl (GO.ldRd (T := (Ty.slice 166 T_GFace)) (n := x8.toNat) (o := 0) HS r_a rfl rfl (getD_some (d := []) (ltN c17)) rfl rfl na164 rfl (GO.clo rfl rfl func210 fok210.1 fok210.2 rfl rfl (impl_isTriangulation_fn1.calls HS (RdIn.elem r_a c17.1 c17.2) h19) (fun _ wd20 ⟨h21, HS⟩ => ⟨_, h21, (GO.nil ?_)⟩)))))
      rcases ite_elim H with ⟨c22, H⟩ | ⟨c22, H⟩
      ·
       refine G.yesB rfl c22 (G.run 2 rfl ?_)
       obtain rfl := Option.some.inj H
       exact G.ret1 _ func250 rfl rfl ⟨rfl, HS⟩
      refine G.noB rfl (bnot_of c22) (G.run 4 rfl (G.weak ?_ (ih_l1 n_l1 (Nat.lt_succ_of_le (Nat.le_refl _)) (Nat.le_of_succ_le hm_l1) _ _ H HS)))
      exact ⟨rfl, rfl, rfl, rfl, trivial⟩
     refine G.noB rfl (decide_eq_false c16) (G.run 3 rfl ?_)
     obtain rfl := Option.some.inj H
     exact G.ret1 _ func250 rfl rfl ⟨rfl, HS⟩
  refine G.weak ?_ (at_l1 K (Nat.le_refl _) _ _ H HS)
  exact ⟨rfl, rfl, rfl, rfl, trivial⟩
theorem slices_ContainsFunc_impl_Face_impl_Face_isTriangulation_fn1.calls {w0 w : World} {L : List HObj} {K : Nat} {s : List (List GFace)} {A_a : Option Addr} {c_a : Nat} {y_a : Nat → (Ty.slice 166 T_GFace).Lay} {r1 : Bool} (HS : St w0 w (L)) (r_a : RdIn w0 L (Ty.slice 166 T_GFace) A_a c_a y_a s) (H : slices_ContainsFunc_impl_Face_impl_Face_isTriangulation_fn1.f K s = some r1) :
    Calls prog 209 #[.slice A_a s.length c_a, .func (.func 210) #[] #[]] w (slices_ContainsFunc_impl_Face_impl_Face_isTriangulation_fn1.post w0 L r1) := by
  unfold slices_ContainsFunc_impl_Face_impl_Face_isTriangulation_fn1.f at H
  refine Calls.of_G func209 rfl rfl rfl ?_
  refine G.run 3 rfl ?_
  obtain ⟨t1, h2, H⟩ := Option.bind_eq_some_iff.1 H
  refine G.region (GO.ps 2 rfl (GO.fn rfl func250 fok250.1 fok250.2 rfl rfl (slices_IndexFunc_impl_Face_impl_Face_isTriangulation_fn1.calls HS r_a h2) (fun _ wd3 ⟨h4, HS⟩ => ⟨_, h4, (GO.ps 2 rfl (GO.nil ?_))⟩)))
  obtain rfl := Option.some.inj H
  exact G.ret1 _ func209 rfl rfl ⟨rfl, HS⟩
theorem impl_size_impl_Face.calls {w0 w : World} {L : List HObj} {list : List (List GFace)} {A_a : Option Addr} {c_a : Nat} {y_a : Nat → (Ty.slice 166 T_GFace).Lay} {r1 : Int} (HS : St w0 w (L)) (r_a : RdIn w0 L (Ty.slice 166 T_GFace) A_a c_a y_a list) (H : impl_size_impl_Face.f list = some r1) :
    Calls prog 211 #[.slice A_a list.length c_a] w (impl_size_impl_Face.post w0 L r1) := by
  unfold impl_size_impl_Face.f at H
  refine Calls.of_G func211 rfl rfl rfl ?_
  refine G.run 3 rfl (G.region (GO.move rfl rfl rfl (GO.lenS rfl rfl underlying38 rfl (GO.assign rfl rfl rfl (GO.nil ?_)))))
  obtain rfl := Option.some.inj H
  exact G.ret1 _ func211 rfl rfl ⟨rfl, HS⟩
theorem impl_hasIndex_impl_Face.calls {w0 w : World} {L : List HObj} {list : List (List GFace)} {i : Int} {A_a : Option Addr} {c_a : Nat} {y_a : Nat → (Ty.slice 166 T_GFace).Lay} {r1 : Bool} (HS : St w0 w (L)) (r_a : RdIn w0 L (Ty.slice 166 T_GFace) A_a c_a y_a list) (H : impl_hasIndex_impl_Face.f list i = some r1) :
    Calls prog 251 #[.slice A_a list.length c_a, .int .i64 i] w (impl_hasIndex_impl_Face.post w0 L r1) := by
  unfold impl_hasIndex_impl_Face.f at H
  refine Calls.of_G func251 rfl rfl rfl ?_
  refine G.run 3 rfl ?_
  obtain ⟨t1, h2, H⟩ := Option.bind_eq_some_iff.1 H
  obtain ⟨t5, h6, H⟩ := Option.bind_eq_some_iff.1 H
  refine G.region (GO.ps 2 rfl (GO.fn rfl func211 fok211.1 fok211.2 rfl rfl (impl_size_impl_Face.calls HS r_a h2) (fun _ wd3 ⟨h4, HS⟩ => ⟨_, h4, (GO.sub rfl rfl rfl rfl (GO.fn rfl func146 fok146.1 fok146.2 rfl rfl (impl_inRange.calls HS  h6) (fun _ wd7 ⟨h8, HS⟩ => ⟨_, h8, (GO.assign rfl rfl rfl (GO.nil ?_))⟩)))⟩)))
  obtain rfl := Option.some.inj H
  exact G.ret1 _ func251 rfl rfl ⟨rfl, HS⟩
theorem impl_isPerm.calls {w0 w : World} {L : List HObj} {p : Int} {r1 : Bool} (HS : St w0 w (L)) (H : impl_isPerm.f p = some r1) :
    Calls prog 223 #[.int .i64 p] w (impl_isPerm.post w0 L r1) := by
  unfold impl_isPerm.f at H
  refine Calls.of_G func223 rfl rfl rfl ?_
  refine G.run 3 rfl ?_
  obtain ⟨t1, h2, H⟩ := Option.bind_eq_some_iff.1 H
  refine G.region (GO.move rfl rfl rfl (GO.fn rfl func146 fok146.1 fok146.2 rfl rfl (impl_inRange.calls HS  h2) (fun _ wd3 ⟨h4, HS⟩ => ⟨_, h4, (GO.assign rfl rfl rfl (GO.nil ?_))⟩)))
  obtain rfl := Option.some.inj H
  exact G.ret1 _ func223 rfl rfl ⟨rfl, HS⟩
theorem slices_Delete_int64_int64.calls {w0 w : World} {L : List HObj} {s : List Int} {i j_ : Int} {A_a : Option Addr} {c_a : Nat} {r1 : List Int} (HS : St w0 w (Own (TInt .i64) 2 A_a c_a (fun _ => ()) s :: L)) (H : slices_Delete_int64_int64.f s i j_ = some r1) :
    Calls prog 267 #[.slice A_a s.length c_a, .int .i64 i, .int .i64 j_] w (slices_Delete_int64_int64.post w0 L r1) := by
  unfold slices_Delete_int64_int64.f at H
  refine Calls.of_G func267 rfl rfl rfl ?_
  refine G.run 3 rfl ?_
  obtain ⟨c1, H⟩ := ite_none H
  obtain ⟨c2, H⟩ := ite_none H
  refine G.region (GO.ps 4 rfl (GO.lenS rfl rfl underlying28 rfl (GO.slM rfl rfl rfl rfl rfl underlying28 sz2 c1 c2 (Int.ofNat_le.2 ((RdIn.own (j := 0) rfl) _ HS).1) rfl (GO.nil (G.run 3 rfl ?_)))))
  rcases ite_elim H with ⟨c3, H⟩ | ⟨c3, H⟩
  ·
   refine G.yesB rfl (decide_eq_true c3) (G.run 2 rfl ?_)
   obtain rfl := Option.some.inj H
   exact G.ret1 _ func267 rfl rfl ⟨_, _, rfl, HS⟩
  refine G.noB rfl (decide_eq_false c3) (G.run 2 rfl (G.region (GO.move rfl rfl rfl (GO.lenS rfl rfl underlying28 rfl (GO.assign rfl rfl rfl (GO.nil (G.seq ?_)))))))
  obtain ⟨c4, H⟩ := ite_none H
  obtain ⟨c5, H⟩ := ite_none H
  obtain ⟨c7, H⟩ := ite_none H
  have h8 := over_lenD c7 (leN c5)
  refine G.lex mixed [0, 1, 3, 4, 2, 5, 6, 7] (by kernel_rfl) ?_
  replace HS := HS.drew
  refine GX.ps 4 rfl (GX.l1 rfl rfl rfl (fun _ g => GO.slH (T := (TInt .i64)) HS (RdIn.own (j := 0) rfl) rfl rfl rfl underlying28 sz2 c4.1 c4.2 rfl g) rfl (GX.l1 rfl rfl rfl (fun _ g => GO.slL (T := (TInt .i64)) HS (RdIn.own (j := 0) rfl) rfl rfl rfl underlying28 sz2 c5.1 c5.2 rfl g) rfl (GX.l2 rfl (GO.appCut (T := (TInt .i64)) (j := 0) (i1 := i.toNat) (l1 := j_.toNat) HS rfl flat_flat (fun _ _ => rfl) rfl rfl rfl (by rw [List.drop_zero, List.length_take]; exact Nat.min_eq_left (leN c4)) (by rw [List.length_drop, List.take_length]) underlying28 inf2 c7 (leN c5) rfl fun wd6 HS => GX.fin trivial (GX.ps 1 rfl (GX.nil (G.seq ?_)))))))
  obtain ⟨c9, H⟩ := ite_none H
  obtain ⟨c10, H⟩ := ite_none H
  have h12 := over_lenR (xs := (over s i.toNat (s.drop j_.toNat))) (z := 0) (cutN (leNN c9) (leN c10))
  refine G.region (GO.ps 2 rfl (GO.lenS rfl rfl underlying28 rfl (GO.move rfl rfl rfl (GO.slCut (T := (TInt .i64)) (xs := (over s i.toNat (s.drop j_.toNat))) ((RdIn.own (j := 0) rfl) _ HS).1 rfl rfl rfl rfl underlying28 sz2 c9 c10 rfl (GO.clearC (T := (TInt .i64)) (j := 0) (l := ((((over s i.toNat (s.drop j_.toNat)).take (i.toNat + (s.length - j_.toNat))).drop 0).length : Int).toNat) 0 () HS rfl flat_flat rfl rfl underlying28 zr2 rfl rfl (cutC (leN c10) ((RdIn.own (j := 0) rfl) _ HS).1) (cutN (leNN c9) (leN c10)) (fun _ => rfl) fun wd11 HS => GO.nil ?_)))))
  obtain ⟨c13, H⟩ := ite_none H
  refine G.len (t := 0) (m := (((over (over s i.toNat (s.drop j_.toNat)) (((((over s i.toNat (s.drop j_.toNat)).take (i.toNat + (s.length - j_.toNat))).drop 0).length : Int).toNat) (List.replicate (((over s i.toNat (s.drop j_.toNat)).take ((s.length : Int).toNat)).drop (((((over s i.toNat (s.drop j_.toNat)).take (i.toNat + (s.length - j_.toNat))).drop 0).length : Int).toNat)).length 0)).take (i.toNat + (s.length - j_.toNat))).drop 0).length) rfl (lenCut h12) (G.run 2 rfl ?_)
  replace HS := HS.shrink (A' := (cutA A_a 0 c_a 1)) (c' := (c_a - 0)) (j := 0) (m := (i.toNat + (s.length - j_.toNat))) rfl flat_flat c13 (cutA_zero _ _ _) rfl
  obtain rfl := Option.some.inj H
  exact G.ret1 _ func267 rfl rfl ⟨_, _, rfl, HS⟩
theorem impl_perm.calls {w0 w : World} {L : List HObj} {K : Nat} {p r1 : Int} {r2 r3 r4 : Int} (HS : St w0 w (L)) (H : impl_perm.f K p = some (r1, r2, r3, r4)) :
    Calls prog 235 #[.int .i64 p] w (impl_perm.post w0 L r1 r2 r3 r4) := by
  unfold impl_perm.f at H
  refine Calls.of_G func235 rfl rfl rfl ?_
  refine G.seq (G.region (GO.alloc HS rfl zr251 rfl rfl fun b1 wd2 HS => GO.nil (G.seq (G.region (GO.alloc HS rfl zr251 rfl rfl fun b3 wd4 HS => GO.nil (G.seq (G.region (GO.buildS (el := 2) ([.int .i64 0, .int .i64 1, .int .i64 2, .int .i64 3]) HS rfl rfl (fun _ => by kernel_rfl) rfl fun b5 wd6 HS => ?_))))))))
  replace HS := HS.boxRow (T := (TInt .i64)) (j := 0) rfl flat_flat (fun _ => ()) ([0, 1, 2, 3] : List Int) rfl (bndL rfl)
  refine GO.lenC (t := 8) (m := ([0, 1, 2, 3] : List Int).length) (c' := ([0, 1, 2, 3] : List Int).length) rfl rfl rfl (GO.assign rfl rfl rfl (GO.nil (G.run 2 rfl (G.region (GO.buildS (el := 2) ([.int .i64 6, .int .i64 2, .int .i64 1, .int .i64 1]) HS rfl rfl (fun _ => by kernel_rfl) rfl fun b7 wd8 HS => GO.lenS rfl rfl underlying28 rfl (GO.move rfl rfl rfl (GO.nil (G.run 2 rfl ?_))))))))
  replace HS := HS.boxRow (T := (TInt .i64)) (j := 0) rfl flat_flat (fun _ => ()) ([6, 2, 1, 1] : List Int) rfl (bndL rfl)
  refine G.lenC (t := 9) (m := ([6, 2, 1, 1] : List Int).length) (c' := ([6, 2, 1, 1] : List Int).length) rfl rfl rfl ?_
  refine G.name (fun k_l1 hk_l1 => ?_)
  have at_l1 : ∀ m_l1, m_l1 ≤ K → ∀ (p_19 out_20 : Int) (A21 : Option Addr) (c22 : Nat) (left_23 : List Int) (x24 out_62 : Int) (out_63 out_64 : Int) (w : World), impl_perm.l1 K m_l1 p_19 out_20 left_23 x24 out_62 out_63 out_64 = some (r1, r2, r3, r4) → St w0 w (Box b1 251 [.int .i64 0, .int .i64 0, .int .i64 0, .int .i64 0] :: Box b3 251 [.int .i64 out_20, .int .i64 out_62, .int .i64 out_63, .int .i64 out_64] :: Own (TInt .i64) 2 A21 c22 (fun _ => ()) left_23 :: Own (TInt .i64) 2 (some ⟨b7, 0, none⟩) (([6, 2, 1, 1] : List Int).length) (fun _ => ()) ([6, 2, 1, 1] : List Int) :: L) → G prog 235 35 [(0, .int .i64 p_19), (2, .pointer (some ⟨b1, 0, none⟩)), (3, .pointer (some ⟨b3, 0, none⟩)), (4, .slice A21 left_23.length c22), (9, .slice (some ⟨b7, 0, none⟩) ([6, 2, 1, 1] : List Int).length (([6, 2, 1, 1] : List Int).length)), (10, .int .i64 4), (11, .int .i64 x24)] k_l1 w (impl_perm.post w0 L r1 r2 r3 r4) := by
   intro m_l1
   induction m_l1 using Nat.strongRecOn with
   | _ m_l1 ih_l1 =>
    intro hm_l1 p_19 out_20 A21 c22 left_23 x24 out_62 out_63 out_64 w H HS
    cases m_l1 with
    | zero => rw [impl_perm.l1] at H; cases H
    | succ n_l1 =>
     rw [impl_perm.l1] at H
     subst hk_l1
     refine G.run 3 rfl ?_
     rcases ite_elim H with ⟨c102, H⟩ | ⟨c102, H⟩
     ·
      refine G.yesB rfl (decide_eq_true c102) (G.run 4 rfl ?_)
      obtain ⟨c103, H⟩ := ite_none H
      refine G.region (GO.move rfl rfl rfl (GO.ix rfl rfl rfl underlying28 sz2 (fun _ => ⟨_, _, rfl⟩) c103.1 c103.2 rfl (GO.ldRd (T := (TInt .i64)) (n := x24.toNat) (o := 0) HS (RdIn.own (j := 3) rfl) rfl rfl (getD_some (d := 0) (ltN c103)) rfl rfl na2 rfl (GO.ps 2 rfl (GO.nil (G.seq ?_))))))
      obtain ⟨c104, H⟩ := ite_some H
      refine G.region (GO.ps 2 rfl (GO.quo rfl rfl rfl c104 rfl (GO.assign rfl rfl rfl (GO.nil (G.seq (G.region (GO.ps 2 rfl (GO.rem rfl rfl rfl c104 rfl (GO.assign rfl rfl rfl (GO.nil (G.seq ?_)))))))))))
      obtain ⟨c105, H⟩ := ite_none H
      rcases ite_elim H with ⟨c106, H⟩ | ⟨c106, H⟩
      ·
       refine G.region (GO.ps 3 rfl (GO.ix rfl rfl rfl underlying28 sz2 ((RdIn.own (j := 2) rfl) _ HS).2.2.1 c105.1 c105.2 rfl (GO.ldRd (T := (TInt .i64)) (n := (w64 (p_19.tdiv (([6, 2, 1, 1] : List Int).getD x24.toNat 0))).toNat) (o := 0) HS (RdIn.own (j := 2) rfl) rfl rfl (getD_some (d := 0) (ltN c105)) rfl rfl na2 rfl (GO.ixP 0 rfl rfl rfl c106 underlying251 sz2 rfl rfl (GO.stBox (j := 1) (vs := [.int .i64 (left_23.getD ((w64 (p_19.tdiv (([6, 2, 1, 1] : List Int).getD x24.toNat 0))).toNat) 0)]) ([.int .i64 (left_23.getD ((w64 (p_19.tdiv (([6, 2, 1, 1] : List Int).getD x24.toNat 0))).toNat) 0), .int .i64 out_62, .int .i64 out_63, .int .i64 out_64]) HS rfl rfl rfl rfl rfl (htN na2 rfl) rfl rfl rfl fun wd107 HS => GO.nil ?_)))))
       obtain ⟨t108, h109, H⟩ := Option.bind_eq_some_iff.1 H
       refine G.region (GO.ps 4 rfl ?_)
       replace HS := HS.pk 4 [2, 0, 1, 3] rfl
       refine GO.fn rfl func267 fok267.1 fok267.2 rfl rfl (slices_Delete_int64_int64.calls HS  h109) (fun _ wd112 ⟨A110, c111, h113, HS⟩ => ⟨_, h113, (GO.assign rfl rfl rfl (GO.nil (G.run 3 rfl (G.weak ?_ (ih_l1 n_l1 (Nat.lt_succ_of_le (Nat.le_refl _)) (Nat.le_of_succ_le hm_l1) _ _ _ _ _ _ _ _ _ _ H (HS.pk 4 [1, 2, 0, 3] rfl))))))⟩)
       exact ⟨rfl, rfl, rfl, rfl, rfl, rfl, rfl, trivial⟩
      rcases ite_elim H with ⟨c114, H⟩ | ⟨c114, H⟩
      ·
       refine G.region (GO.ps 3 rfl (GO.ix rfl rfl rfl underlying28 sz2 ((RdIn.own (j := 2) rfl) _ HS).2.2.1 c105.1 c105.2 rfl (GO.ldRd (T := (TInt .i64)) (n := (w64 (p_19.tdiv (([6, 2, 1, 1] : List Int).getD x24.toNat 0))).toNat) (o := 0) HS (RdIn.own (j := 2) rfl) rfl rfl (getD_some (d := 0) (ltN c105)) rfl rfl na2 rfl (GO.ixP 1 rfl rfl rfl c114 underlying251 sz2 rfl rfl (GO.stBox (j := 1) (vs := [.int .i64 (left_23.getD ((w64 (p_19.tdiv (([6, 2, 1, 1] : List Int).getD x24.toNat 0))).toNat) 0)]) ([.int .i64 out_20, .int .i64 (left_23.getD ((w64 (p_19.tdiv (([6, 2, 1, 1] : List Int).getD x24.toNat 0))).toNat) 0), .int .i64 out_63, .int .i64 out_64]) HS rfl rfl rfl rfl rfl (htN na2 rfl) rfl rfl rfl fun wd115 HS => GO.nil ?_)))))
       obtain ⟨t116, h117, H⟩ := Option.bind_eq_some_iff.1 H
       refine G.region (GO.ps 4 rfl ?_)
       replace HS := HS.pk 4 [2, 0, 1, 3] rfl
       refine GO.fn rfl func267 fok267.1 fok267.2 rfl rfl (slices_Delete_int64_int64.calls HS  h117) (fun _ wd120 ⟨A118, c119, h121, HS⟩ => ⟨_, h121, (GO.assign rfl rfl rfl (GO.nil (G.run 3 rfl (G.weak ?_ (ih_l1 n_l1 (Nat.lt_succ_of_le (Nat.le_refl _)) (Nat.le_of_succ_le hm_l1) _ _ _ _ _ _ _ _ _ _ H (HS.pk 4 [1, 2, 0, 3] rfl))))))⟩)
       exact ⟨rfl, rfl, rfl, rfl, rfl, rfl, rfl, trivial⟩
      rcases ite_elim H with ⟨c122, H⟩ | ⟨c122, H⟩
      ·
       refine G.region (GO.ps 3 rfl (GO.ix rfl rfl rfl underlying28 sz2 ((RdIn.own (j := 2) rfl) _ HS).2.2.1 c105.1 c105.2 rfl (GO.ldRd (T := (TInt .i64)) (n := (w64 (p_19.tdiv (([6, 2, 1, 1] : List Int).getD x24.toNat 0))).toNat) (o := 0) HS (RdIn.own (j := 2) rfl) rfl rfl (getD_some (d := 0) (ltN c105)) rfl rfl na2 rfl (GO.ixP 2 rfl rfl rfl c122 underlying251 sz2 rfl rfl (GO.stBox (j := 1) (vs := [.int .i64 (left_23.getD ((w64 (p_19.tdiv (([6, 2, 1, 1] : List Int).getD x24.toNat 0))).toNat) 0)]) ([.int .i64 out_20, .int .i64 out_62, .int .i64 (left_23.getD ((w64 (p_19.tdiv (([6, 2, 1, 1] : List Int).getD x24.toNat 0))).toNat) 0), .int .i64 out_64]) HS rfl rfl rfl rfl rfl (htN na2 rfl) rfl rfl rfl fun wd123 HS => GO.nil ?_)))))
       obtain ⟨t124, h125, H⟩ := Option.bind_eq_some_iff.1 H
       refine G.region (GO.ps 4 rfl ?_)
       replace HS := HS.pk 4 [2, 0, 1, 3] rfl
       refine GO.fn rfl func267 fok267.1 fok267.2 rfl rfl (slices_Delete_int64_int64.calls HS  h125) (fun _ wd128 ⟨A126, c127, h129, HS⟩ => ⟨_, h129, (GO.assign rfl rfl rfl (GO.nil (G.run 3 rfl (G.weak ?_ (ih_l1 n_l1 (Nat.lt_succ_of_le (Nat.le_refl _)) (Nat.le_of_succ_le hm_l1) _ _ _ _ _ _ _ _ _ _ H (HS.pk 4 [1, 2, 0, 3] rfl))))))⟩)
       exact ⟨rfl, rfl, rfl, rfl, rfl, rfl, rfl, trivial⟩
      rcases ite_elim H with ⟨c130, H⟩ | ⟨c130, H⟩
      ·
       refine G.region (GO.ps 3 rfl (GO.ix rfl rfl rfl underlying28 sz2 ((RdIn.own (j := 2) rfl) _ HS).2.2.1 c105.1 c105.2 rfl (GO.ldRd (T := (TInt .i64)) (n := (w64 (p_19.tdiv (([6, 2, 1, 1] : List Int).getD x24.toNat 0))).toNat) (o := 0) HS (RdIn.own (j := 2) rfl) rfl rfl (getD_some (d := 0) (ltN c105)) rfl rfl na2 rfl (GO.ixP 3 rfl rfl rfl c130 underlying251 sz2 rfl rfl (GO.stBox (j := 1) (vs := [.int .i64 (left_23.getD ((w64 (p_19.tdiv (([6, 2, 1, 1] : List Int).getD x24.toNat 0))).toNat) 0)]) ([.int .i64 out_20, .int .i64 out_62, .int .i64 out_63, .int .i64 (left_23.getD ((w64 (p_19.tdiv (([6, 2, 1, 1] : List Int).getD x24.toNat 0))).toNat) 0)]) HS rfl rfl rfl rfl rfl (htN na2 rfl) rfl rfl rfl fun wd131 HS => GO.nil ?_)))))
       obtain ⟨t132, h133, H⟩ := Option.bind_eq_some_iff.1 H
       refine G.region (GO.ps 4 rfl ?_)
       replace HS := HS.pk 4 [2, 0, 1, 3] rfl
       refine GO.fn rfl func267 fok267.1 fok267.2 rfl rfl (slices_Delete_int64_int64.calls HS  h133) (fun _ wd136 ⟨A134, c135, h137, HS⟩ => ⟨_, h137, (GO.assign rfl rfl rfl (GO.nil (G.run 3 rfl (G.weak ?_ (ih_l1 n_l1 (Nat.lt_succ_of_le (Nat.le_refl _)) (Nat.le_of_succ_le hm_l1) _ _ _ _ _ _ _ _ _ _ H (HS.pk 4 [1, 2, 0, 3] rfl))))))⟩)
       exact ⟨rfl, rfl, rfl, rfl, rfl, rfl, rfl, trivial⟩
      cases H
     refine G.noB rfl (decide_eq_false c102) (G.run 2 rfl (G.region (GO.ldBoxA (j := 1) ([.int .i64 out_20, .int .i64 out_62, .int .i64 out_63, .int .i64 out_64]) HS rfl rfl rfl rfl ag251 rfl (GO.stBox (j := 0) (vs := [.int .i64 out_20, .int .i64 out_62, .int .i64 out_63, .int .i64 out_64]) ([.int .i64 out_20, .int .i64 out_62, .int .i64 out_63, .int .i64 out_64]) HS rfl rfl rfl rfl rfl (htA ag251) rfl rfl rfl fun wd138 HS => GO.nil ?_))))
     obtain ⟨rfl, rfl, rfl, rfl⟩ := some4 H
     exact G.ret1 _ func235 rfl (Res1.boxA (j := 0) (vs := [.int .i64 out_20, .int .i64 out_62, .int .i64 out_63, .int .i64 out_64]) HS rfl rfl rfl ag251) ⟨rfl, (HS.pk 4 [] rfl)⟩
  refine G.weak ?_ (at_l1 K (Nat.le_refl _) _ _ _ _ _ _ _ _ _ _ H (HS.pk 4 [3, 2, 1, 0] rfl))
  exact ⟨rfl, rfl, rfl, rfl, rfl, rfl, rfl, trivial⟩
theorem impl_Face_target.calls {w0 w : World} {L : List HObj} {K : Nat} {f_Tet f_Perm : Int} {face r1 : Int} (HS : St w0 w (L)) (H : impl_Face_target.f K f_Tet f_Perm face = some r1) :
    Calls prog 252 #[.agg [.int .i64 f_Tet, .int .i64 f_Perm].toArray, .int .i64 face] w (impl_Face_target.post w0 L r1) := by
  unfold impl_Face_target.f at H
  refine Calls.of_G func252 rfl rfl rfl ?_
  refine G.seq (G.region (GO.box (cs := [.int .i64 f_Tet, .int .i64 f_Perm]) HS rfl rfl rfl rfl fun b1 wd2 HS => GO.assign rfl rfl rfl (GO.nil (G.seq ?_))))
  obtain ⟨t3, t4, t5, t6, h7, H⟩ := bind4_elim H
  obtain ⟨c10, H⟩ := ite_none H
  refine G.region (GO.fld (⟨b1, 1, none⟩) rfl rfl fl166_1 rfl rfl (GO.ldBox (j := 0) HS rfl rfl rfl rfl na2 rfl (GO.fn rfl func235 fok235.1 fok235.2 rfl rfl (impl_perm.calls HS  h7) (fun _ wd8 ⟨h9, HS⟩ => ⟨_, h9, (GO.move rfl rfl rfl (GO.ixArr ([t3, t4, t5, t6] : List Int) rfl rfl rfl underlying251 underlying2 sz2 rfl c10.1 c10.2 rfl (GO.assign rfl rfl rfl (GO.nil ?_))))⟩))))
  obtain rfl := Option.some.inj H
  exact G.ret1 _ func252 rfl rfl ⟨rfl, (HS.pk 1 [] rfl)⟩
theorem impl_indexOf.calls {w0 w : World} {L : List HObj} {K : Nat} {images_0 images_1 : Int} {images_2 images_3 r1 : Int} (HS : St w0 w (L)) (H : impl_indexOf.f K images_0 images_1 images_2 images_3 = some r1) :
    Calls prog 302 #[.agg [.int .i64 images_0, .int .i64 images_1, .int .i64 images_2, .int .i64 images_3].toArray] w (impl_indexOf.post w0 L r1) := by
  unfold impl_indexOf.f at H
  refine Calls.of_G func302 rfl rfl rfl ?_
  refine G.seq (G.region (GO.box (cs := [.int .i64 images_0, .int .i64 images_1, .int .i64 images_2, .int .i64 images_3]) HS rfl rfl rfl rfl fun b1 wd2 HS => GO.assign rfl rfl rfl (GO.nil (G.run 4 rfl (G.region (GO.buildS (el := 2) ([.int .i64 6, .int .i64 2, .int .i64 1, .int .i64 1]) HS rfl rfl (fun _ => by kernel_rfl) rfl fun b3 wd4 HS => GO.lenS rfl rfl underlying28 rfl (GO.move rfl rfl rfl (GO.nil (G.run 2 rfl ?_)))))))))
  replace HS := HS.boxRow (T := (TInt .i64)) (j := 0) rfl flat_flat (fun _ => ()) ([6, 2, 1, 1] : List Int) rfl (bndL rfl)
  refine G.lenC (t := 9) (m := ([6, 2, 1, 1] : List Int).length) (c' := ([6, 2, 1, 1] : List Int).length) rfl rfl rfl ?_
  refine G.name (fun k_l1 hk_l1 => ?_)
  have at_l1 : ∀ m_l1, m_l1 ≤ K → ∀ (out_18 x19 : Int) (w : World), impl_indexOf.l1 K m_l1 images_0 images_1 images_2 images_3 out_18 x19 = some r1 → St w0 w (Box b1 251 [.int .i64 images_0, .int .i64 images_1, .int .i64 images_2, .int .i64 images_3] :: Own (TInt .i64) 2 (some ⟨b3, 0, none⟩) (([6, 2, 1, 1] : List Int).length) (fun _ => ()) ([6, 2, 1, 1] : List Int) :: L) → G prog 302 41 [(1, .pointer (some ⟨b1, 0, none⟩)), (3, .int .i64 out_18), (9, .slice (some ⟨b3, 0, none⟩) ([6, 2, 1, 1] : List Int).length (([6, 2, 1, 1] : List Int).length)), (10, .int .i64 4), (11, .int .i64 x19)] k_l1 w (impl_indexOf.post w0 L r1) := by
   intro m_l1
   induction m_l1 using Nat.strongRecOn with
   | _ m_l1 ih_l1 =>
    intro hm_l1 out_18 x19 w H HS
    cases m_l1 with
    | zero => rw [impl_indexOf.l1] at H; cases H
    | succ n_l1 =>
     rw [impl_indexOf.l1] at H
     subst hk_l1
     refine G.run 3 rfl ?_
     rcases ite_elim H with ⟨c35, H⟩ | ⟨c35, H⟩
     ·
      refine G.yesB rfl (decide_eq_true c35) (G.run 4 rfl ?_)
      obtain ⟨c36, H⟩ := ite_none H
      refine G.region (GO.move rfl rfl rfl (GO.ix rfl rfl rfl underlying28 sz2 (fun _ => ⟨_, _, rfl⟩) c36.1 c36.2 rfl (GO.ldRd (T := (TInt .i64)) (n := x19.toNat) (o := 0) HS (RdIn.own (j := 1) rfl) rfl rfl (getD_some (d := 0) (ltN c36)) rfl rfl na2 rfl (GO.ps 2 rfl (GO.nil (G.seq ?_))))))
      obtain ⟨c37, H⟩ := ite_none H
      refine G.region (GO.move rfl rfl rfl (GO.ixV rfl rfl rfl underlying251 sz2 c37.1 c37.2 rfl (GO.ldBoxV (j := 0) (kd := .i64) ([images_0, images_1, images_2, images_3] : List Int) HS rfl rfl rfl (ltN c37) na2 rfl rfl (GO.assign rfl rfl rfl (GO.nil (G.run 2 rfl ?_))))))
      obtain ⟨c38, H⟩ := ite_none H
      refine G.region (GO.move rfl rfl rfl (GO.slArrH (m := (([images_0, images_1, images_2, images_3] : List Int).take x19.toNat).length) rfl rfl rfl underlying251 sz2 c38 (lenTake (leN c38)) rfl (GO.lenS rfl rfl underlying28 rfl (GO.move rfl rfl rfl (GO.nil (G.run 2 rfl ?_))))))
      refine G.name (fun k_l4 hk_l4 => ?_)
      have at_l4 : ∀ m_l4, m_l4 ≤ n_l1 → ∀ (less_42 x43 : Int) (w : World), impl_indexOf.l4 K m_l4 images_0 images_1 images_2 images_3 out_18 x19 less_42 x43 = some r1 → St w0 w (Box b1 251 [.int .i64 images_0, .int .i64 images_1, .int .i64 images_2, .int .i64 images_3] :: Own (TInt .i64) 2 (some ⟨b3, 0, none⟩) (([6, 2, 1, 1] : List Int).length) (fun _ => ()) ([6, 2, 1, 1] : List Int) :: L) → G prog 302 41 [(1, .pointer (some ⟨b1, 0, none⟩)), (3, .int .i64 out_18), (4, .int .i64 x19), (5, .int .i64 (([6, 2, 1, 1] : List Int).getD x19.toNat 0)), (6, .int .i64 less_42), (9, .slice (some ⟨b3, 0, none⟩) ([6, 2, 1, 1] : List Int).length (([6, 2, 1, 1] : List Int).length)), (10, .int .i64 4), (11, .int .i64 x19), (20, .slice (some ⟨b1, 0, none⟩) (([images_0, images_1, images_2, images_3] : List Int).take x19.toNat).length 4), (21, .int .i64 ((([images_0, images_1, images_2, images_3] : List Int).take x19.toNat).length : Int)), (22, .int .i64 x43)] k_l4 w (impl_indexOf.post w0 L r1) := by
       intro m_l4
       induction m_l4 using Nat.strongRecOn with
       | _ m_l4 ih_l4 =>
        intro hm_l4 less_42 x43 w H HS
        cases m_l4 with
        | zero => rw [impl_indexOf.l4] at H; cases H
        | succ n_l4 =>
         rw [impl_indexOf.l4] at H
         subst hk_l4
         refine G.run 3 rfl ?_
         rcases ite_elim H with ⟨c47, H⟩ | ⟨c47, H⟩
         ·
          refine G.yesB rfl (decide_eq_true c47) (G.run 4 rfl ?_)
          obtain ⟨c48, H⟩ := ite_none H
          refine G.region (GO.ix rfl rfl rfl underlying28 sz2 (fun _ => ⟨_, _, rfl⟩) c48.1 c48.2 rfl (GO.ldRd (T := (TInt .i64)) (n := x43.toNat) (o := 0) HS (RdIn.take (RdIn.box (j := 0) (fun _ => ()) ([images_0, images_1, images_2, images_3] : List Int) rfl rfl rfl rfl (fun _ _ _ _ _ => trivial)) (leN c38)) rfl rfl (getD_some (d := 0) (ltN c48)) rfl rfl na2 rfl (GO.assign rfl rfl rfl (GO.nil (G.seq (G.region (GO.ps 2 rfl (GO.ixV rfl rfl rfl underlying251 sz2 c37.1 c37.2 rfl (GO.ldBoxV (j := 0) (kd := .i64) ([images_0, images_1, images_2, images_3] : List Int) HS rfl rfl rfl (ltN c37) na2 rfl rfl (GO.lss rfl rfl rfl rfl (GO.nil ?_)))))))))))
          rcases ite_elim H with ⟨c49, H⟩ | ⟨c49, H⟩
          ·
           refine G.yesB rfl (decide_eq_true c49) (G.run 4 rfl (G.weak ?_ (ih_l4 n_l4 (Nat.lt_succ_of_le (Nat.le_refl _)) (Nat.le_of_succ_le hm_l4) _ _ _ H HS)))
           exact ⟨rfl, rfl, rfl, rfl, rfl, rfl, rfl, rfl, rfl, rfl, rfl, trivial⟩
          refine G.noB rfl (decide_eq_false c49) (G.run 4 rfl (G.weak ?_ (ih_l4 n_l4 (Nat.lt_succ_of_le (Nat.le_refl _)) (Nat.le_of_succ_le hm_l4) _ _ _ H HS)))
          exact ⟨rfl, rfl, rfl, rfl, rfl, rfl, rfl, rfl, rfl, rfl, rfl, trivial⟩
         refine G.noB rfl (decide_eq_false c47) (G.run 5 rfl (G.weak ?_ (ih_l1 n_l4 (by omega) (by omega) _ _ _ H HS)))
         exact ⟨rfl, rfl, rfl, rfl, rfl, trivial⟩
      refine G.weak ?_ (at_l4 n_l1 (Nat.le_refl _) _ _ _ H HS)
      exact ⟨rfl, rfl, rfl, rfl, rfl, rfl, rfl, rfl, rfl, rfl, rfl, trivial⟩
     refine G.noB rfl (decide_eq_false c35) (G.run 3 rfl ?_)
     obtain rfl := Option.some.inj H
     exact G.ret1 _ func302 rfl rfl ⟨rfl, (HS.pk 2 [] rfl)⟩
  refine G.weak ?_ (at_l1 K (Nat.le_refl _) _ _ _ H (HS.pk 2 [1, 0] rfl))
  exact ⟨rfl, rfl, rfl, rfl, rfl, trivial⟩
theorem impl_invert.calls {w0 w : World} {L : List HObj} {K : Nat} {p r1 : Int} (HS : St w0 w (L)) (H : impl_invert.f K p = some r1) :
    Calls prog 280 #[.int .i64 p] w (impl_invert.post w0 L r1) := by
  unfold impl_invert.f at H
  refine Calls.of_G func280 rfl rfl rfl ?_
  refine G.run 3 rfl (G.region (GO.alloc HS rfl zr251 rfl rfl fun b1 wd2 HS => GO.nil (G.run 2 rfl ?_)))
  obtain ⟨t3, t4, t5, t6, h7, H⟩ := bind4_elim H
  refine G.region (GO.move rfl rfl rfl (GO.fn rfl func235 fok235.1 fok235.2 rfl rfl (impl_perm.calls HS  h7) (fun _ wd8 ⟨h9, HS⟩ => ⟨_, h9, (GO.move rfl rfl rfl (GO.nil (G.run 2 rfl ?_)))⟩)))
  refine G.name (fun k_l1 hk_l1 => ?_)
  have at_l1 : ∀ m_l1, m_l1 ≤ K → ∀ (x18 out_33 : Int) (out_34 out_35 out_36 : Int) (w : World), impl_invert.l1 K m_l1 t3 t4 t5 t6 x18 out_33 out_34 out_35 out_36 = some r1 → St w0 w (Box b1 251 [.int .i64 out_33, .int .i64 out_34, .int .i64 out_35, .int .i64 out_36] :: L) → G prog 280 18 [(3, .pointer (some ⟨b1, 0, none⟩)), (7, .agg [.int .i64 t3, .int .i64 t4, .int .i64 t5, .int .i64 t6].toArray), (8, .int .i64 x18)] k_l1 w (impl_invert.post w0 L r1) := by
   intro m_l1
   induction m_l1 using Nat.strongRecOn with
   | _ m_l1 ih_l1 =>
    intro hm_l1 x18 out_33 out_34 out_35 out_36 w H HS
    cases m_l1 with
    | zero => rw [impl_invert.l1] at H; cases H
    | succ n_l1 =>
     rw [impl_invert.l1] at H
     subst hk_l1
     refine G.run 3 rfl ?_
     rcases ite_elim H with ⟨c51, H⟩ | ⟨c51, H⟩
     ·
      refine G.yesB rfl (decide_eq_true c51) (G.run 4 rfl ?_)
      obtain ⟨c52, H⟩ := ite_none H
      refine G.region (GO.move rfl rfl rfl (GO.ixArr ([t3, t4, t5, t6] : List Int) rfl rfl rfl underlying251 underlying2 sz2 rfl c52.1 c52.2 rfl (GO.ps 2 rfl (GO.nil ?_))))
      rcases ite_elim H with ⟨c53, H⟩ | ⟨c53, H⟩
      ·
       refine G.region (GO.ps 2 rfl (GO.ixP 0 rfl rfl rfl c53 underlying251 sz2 rfl rfl (GO.stBox (j := 0) (vs := [.int .i64 x18]) ([.int .i64 x18, .int .i64 out_34, .int .i64 out_35, .int .i64 out_36]) HS rfl rfl rfl rfl rfl (htN na2 rfl) rfl rfl rfl fun wd54 HS => GO.nil (G.run 3 rfl (G.weak ?_ (ih_l1 n_l1 (Nat.lt_succ_of_le (Nat.le_refl _)) (Nat.le_of_succ_le hm_l1) _ _ _ _ _ _ H HS))))))
       exact ⟨rfl, rfl, rfl, trivial⟩
      rcases ite_elim H with ⟨c55, H⟩ | ⟨c55, H⟩
      ·
       refine G.region (GO.ps 2 rfl (GO.ixP 1 rfl rfl rfl c55 underlying251 sz2 rfl rfl (GO.stBox (j := 0) (vs := [.int .i64 x18]) ([.int .i64 out_33, .int .i64 x18, .int .i64 out_35, .int .i64 out_36]) HS rfl rfl rfl rfl rfl (htN na2 rfl) rfl rfl rfl fun wd56 HS => GO.nil (G.run 3 rfl (G.weak ?_ (ih_l1 n_l1 (Nat.lt_succ_of_le (Nat.le_refl _)) (Nat.le_of_succ_le hm_l1) _ _ _ _ _ _ H HS))))))
       exact ⟨rfl, rfl, rfl, trivial⟩
      rcases ite_elim H with ⟨c57, H⟩ | ⟨c57, H⟩
      ·
       refine G.region (GO.ps 2 rfl (GO.ixP 2 rfl rfl rfl c57 underlying251 sz2 rfl rfl (GO.stBox (j := 0) (vs := [.int .i64 x18]) ([.int .i64 out_33, .int .i64 out_34, .int .i64 x18, .int .i64 out_36]) HS rfl rfl rfl rfl rfl (htN na2 rfl) rfl rfl rfl fun wd58 HS => GO.nil (G.run 3 rfl (G.weak ?_ (ih_l1 n_l1 (Nat.lt_succ_of_le (Nat.le_refl _)) (Nat.le_of_succ_le hm_l1) _ _ _ _ _ _ H HS))))))
       exact ⟨rfl, rfl, rfl, trivial⟩
      rcases ite_elim H with ⟨c59, H⟩ | ⟨c59, H⟩
      ·
       refine G.region (GO.ps 2 rfl (GO.ixP 3 rfl rfl rfl c59 underlying251 sz2 rfl rfl (GO.stBox (j := 0) (vs := [.int .i64 x18]) ([.int .i64 out_33, .int .i64 out_34, .int .i64 out_35, .int .i64 x18]) HS rfl rfl rfl rfl rfl (htN na2 rfl) rfl rfl rfl fun wd60 HS => GO.nil (G.run 3 rfl (G.weak ?_ (ih_l1 n_l1 (Nat.lt_succ_of_le (Nat.le_refl _)) (Nat.le_of_succ_le hm_l1) _ _ _ _ _ _ H HS))))))
       exact ⟨rfl, rfl, rfl, trivial⟩
      cases H
     refine G.noB rfl (decide_eq_false c51) (G.run 2 rfl ?_)
     obtain ⟨t61, h62, H⟩ := Option.bind_eq_some_iff.1 H
     refine G.region (GO.ldBoxA (j := 0) ([.int .i64 out_33, .int .i64 out_34, .int .i64 out_35, .int .i64 out_36]) HS rfl rfl rfl rfl ag251 rfl (GO.fn rfl func302 fok302.1 fok302.2 rfl rfl (impl_indexOf.calls HS  h62) (fun _ wd63 ⟨h64, HS⟩ => ⟨_, h64, (GO.assign rfl rfl rfl (GO.nil ?_))⟩)))
     obtain rfl := Option.some.inj H
     exact G.ret1 _ func280 rfl rfl ⟨rfl, (HS.pk 1 [] rfl)⟩
  refine G.weak ?_ (at_l1 K (Nat.le_refl _) _ _ _ _ _ _ H HS)
  exact ⟨rfl, rfl, rfl, trivial⟩
theorem impl_Face_partner.calls {w0 w : World} {L : List HObj} {K : Nat} {f_Tet f_Perm : Int} {tet r1 r2 : Int} (HS : St w0 w (L)) (H : impl_Face_partner.f K f_Tet f_Perm tet = some (r1, r2)) :
    Calls prog 253 #[.agg [.int .i64 f_Tet, .int .i64 f_Perm].toArray, .int .i64 tet] w (impl_Face_partner.post w0 L r1 r2) := by
  unfold impl_Face_partner.f at H
  refine Calls.of_G func253 rfl rfl rfl ?_
  refine G.seq (G.region (GO.box (cs := [.int .i64 f_Tet, .int .i64 f_Perm]) HS rfl rfl rfl rfl fun b1 wd2 HS => GO.alloc HS rfl zr166 rfl rfl fun b3 wd4 HS => GO.nil (G.seq ?_)))
  obtain ⟨t5, h6, H⟩ := Option.bind_eq_some_iff.1 H
  refine G.region (GO.move rfl rfl rfl (GO.fld (⟨b1, 1, none⟩) rfl rfl fl166_1 rfl rfl (GO.ldBox (j := 1) HS rfl rfl rfl rfl na2 rfl (GO.fn rfl func280 fok280.1 fok280.2 rfl rfl (impl_invert.calls HS  h6) (fun _ wd7 ⟨h8, HS⟩ => ⟨_, h8, (GO.buildV (.agg [.int .i64 tet, .int .i64 t5].toArray) rfl rfl (fun _ => by kernel_rfl) rfl (GO.stBox (j := 0) (vs := [.int .i64 tet, .int .i64 t5]) ([.int .i64 tet, .int .i64 t5]) HS rfl rfl rfl rfl rfl (htA ag166) rfl rfl rfl fun wd9 HS => GO.nil ?_))⟩)))))
  obtain ⟨rfl, rfl⟩ := some2 H
  exact G.ret1 _ func253 rfl (Res1.boxA (j := 0) (vs := [.int .i64 tet, .int .i64 t5]) HS rfl rfl rfl ag166) ⟨rfl, (HS.pk 2 [] rfl)⟩
theorem impl_Triangulation_isGood.calls {w0 w : World} {L : List HObj} {K : Nat} {t_Tets : List (List GFace)} {tet f : Int} {A_a : Option Addr} {c_a : Nat} {y_a : Nat → (Ty.slice 166 T_GFace).Lay} {r1 : Bool} (HS : St w0 w (L)) (r_a : RdIn w0 L (Ty.slice 166 T_GFace) A_a c_a y_a t_Tets) (H : impl_Triangulation_isGood.f K t_Tets tet f = some r1) :
    Calls prog 212 #[.agg [.slice A_a t_Tets.length c_a].toArray, .int .i64 tet, .int .i64 f] w (impl_Triangulation_isGood.post w0 L r1) := by
  unfold impl_Triangulation_isGood.f at H
  refine Calls.of_G func212 rfl rfl rfl ?_
  refine G.seq (G.region (GO.box (cs := [.slice A_a t_Tets.length c_a]) HS rfl rfl rfl rfl fun b1 wd2 HS => GO.assign rfl rfl rfl (GO.nil (G.seq ?_))))
  obtain ⟨c3, H⟩ := ite_none H
  obtain ⟨c4, H⟩ := ite_none H
  obtain ⟨e5, h6, H⟩ := bnd_elim H
  refine G.region (GO.fld (⟨b1, 0, none⟩) rfl rfl fl40_0 rfl rfl (GO.ldBox (j := 0) HS rfl rfl rfl rfl na38 rfl (GO.move rfl rfl rfl (GO.ix rfl rfl rfl underlying38 sz164 ((RdIn.drop 1 r_a) _ HS).2.2.1 c3.1 c3.2 rfl (GO.ldRd (T := (Ty.slice 166 T_GFace)) (n := tet.toNat) (o := 0) HS (RdIn.drop 1 r_a) rfl rfl (getD_some (d := []) (ltN c3)) rfl rfl na164 rfl (GO.move rfl rfl rfl (GO.ix rfl rfl rfl underlying164 sz166 ((RdIn.elem (RdIn.drop 1 r_a) c3.1 c3.2) _ HS).2.2.1 c4.1 c4.2 rfl (GO.ldRdA (T := T_GFace) (n := f.toNat) HS (RdIn.elem (RdIn.drop 1 r_a) c3.1 c3.2) rfl rfl (getD_eq (ltN c4) h6) ag166 rfl (GO.alloc HS rfl zr166 rfl rfl fun b7 wd8 HS => GO.stBox (j := 0) (vs := [.int .i64 e5.Tet, .int .i64 e5.Perm]) ([.int .i64 e5.Tet, .int .i64 e5.Perm]) HS rfl rfl rfl rfl rfl (htA ag166) rfl rfl rfl fun wd9 HS => GO.nil (G.run 2 rfl (G.region (GO.fld (⟨b7, 0, none⟩) rfl rfl fl166_0 rfl rfl ?_))))))))))))
  refine GO.ldBox (j := 0) HS rfl rfl rfl rfl na2 rfl (GO.eql rfl rfl rfl rfl (GO.nil ?_))
  rcases ite_elim H with ⟨c10, H⟩ | ⟨c10, H⟩
  ·
   refine G.yesB rfl (decide_eq_true c10) (G.seq (G.region (GO.fld (⟨b7, 1, none⟩) rfl rfl fl166_1 rfl rfl (GO.ldBox (j := 0) HS rfl rfl rfl rfl na2 rfl (GO.ps 2 rfl (GO.nil ?_))))))
   obtain rfl := Option.some.inj H
   exact G.ret1 _ func212 rfl rfl ⟨rfl, (HS.pk 2 [] rfl)⟩
  refine G.noB rfl (decide_eq_false c10) (G.run 3 rfl ?_)
  obtain ⟨t20, h21, H⟩ := Option.bind_eq_some_iff.1 H
  rcases ite_elim H with ⟨c24, H⟩ | ⟨c24, H⟩
  ·
   obtain ⟨t25, h26, H⟩ := Option.bind_eq_some_iff.1 H
   refine G.region (GO.fld (⟨b1, 0, none⟩) rfl rfl fl40_0 rfl rfl (GO.ldBox (j := 1) HS rfl rfl rfl rfl na38 rfl (GO.fld (⟨b7, 0, none⟩) rfl rfl fl166_0 rfl rfl (GO.ldBox (j := 0) HS rfl rfl rfl rfl na2 rfl (GO.fn rfl func251 fok251.1 fok251.2 rfl rfl (impl_hasIndex_impl_Face.calls HS (RdIn.drop 2 r_a) h21) (fun _ wd22 ⟨h23, HS⟩ => ⟨_, h23, (GO.ps 2 rfl (GO.known (t := 29) rfl (congrArg Bool.not c24) (GO.on rfl rfl rfl rfl (GO.fld (⟨b7, 1, none⟩) rfl rfl fl166_1 rfl rfl (GO.back (GO.on rfl rfl rfl rfl (GO.ldBox (j := 0) HS rfl rfl rfl rfl na2 rfl (GO.back (GO.on rfl rfl rfl rfl ?_)))))))))⟩))))))
   refine GO.fn rfl func223 fok223.1 fok223.2 rfl rfl (impl_isPerm.calls HS  h26) (fun _ wd27 ⟨h28, HS⟩ => ⟨_, h28, (GO.back (GO.on rfl rfl rfl rfl (GO.not rfl rfl rfl (GO.back (GO.pickF rfl rfl rfl rfl rfl (GO.nil ?_))))))⟩)
   rcases ite_elim H with ⟨c29, H⟩ | ⟨c29, H⟩
   ·
    refine G.noB rfl (congrArg Bool.not c29) (G.run 2 rfl ?_)
    obtain ⟨t30, h31, H⟩ := Option.bind_eq_some_iff.1 H
    refine G.region (GO.ldBoxA (j := 0) ([.int .i64 e5.Tet, .int .i64 e5.Perm]) HS rfl rfl rfl rfl ag166 rfl (GO.move rfl rfl rfl (GO.fn rfl func252 fok252.1 fok252.2 rfl rfl (impl_Face_target.calls HS  h31) (fun _ wd32 ⟨h33, HS⟩ => ⟨_, h33, (GO.assign rfl rfl rfl (GO.nil (G.seq ?_)))⟩))))
    obtain ⟨c34, H⟩ := ite_none H
    obtain ⟨c35, H⟩ := ite_none H
    obtain ⟨e36, h37, H⟩ := bnd_elim H
    obtain ⟨t38, t39, h40, H⟩ := bind2_elim H
    rcases ite_elim H with ⟨c43, H⟩ | ⟨c43, H⟩
    ·
     rcases ite_elim H with ⟨c44, H⟩ | ⟨c44, H⟩
     ·
      refine G.lexS mixed (fun w => St w0 w (Box b7 166 [.int .i64 e5.Tet, .int .i64 e5.Perm] :: Box b1 40 [.slice A_a t_Tets.length c_a] :: L)) [1, 3, 5, 8, 9, 15] [0, 2, 6, 10, 1, 3, 4, 5, 7, 8, 9, 11, 12, 13, 14, 16, 15, 17, 18, 19, 20, 21, 22, 23, 24] 25 (by kernel_rfl) (by kernel_rfl) HS.drew ?_
      replace HS := HS.drew
      refine GX.l0 rfl rfl (fun _ _ g => GO.fld (⟨b1, 0, none⟩) rfl rfl fl40_0 rfl rfl g) rfl (GX.l0 rfl rfl (fun _ _ g => GO.fld (⟨b7, 0, none⟩) rfl rfl fl166_0 rfl rfl g) rfl (GX.ps 2 rfl (GX.ls rfl rfl rfl HS (fun _ HS _ g => GO.ldBox (j := 1) HS rfl rfl rfl rfl na38 rfl g) rfl (GX.ls rfl rfl rfl HS (fun _ HS _ g => GO.ldBox (j := 0) HS rfl rfl rfl rfl na2 rfl g) rfl (GX.l0 rfl rfl (fun _ _ g => GO.ix rfl rfl rfl underlying38 sz164 ((RdIn.drop 2 r_a) _ HS).2.2.1 c34.1 c34.2 rfl g) rfl (GX.ls rfl rfl rfl HS (fun _ HS _ g => GO.ldRd (T := (Ty.slice 166 T_GFace)) (n := e5.Tet.toNat) (o := 0) HS (RdIn.drop 2 r_a) rfl rfl (getD_some (d := []) (ltN c34)) rfl rfl na164 rfl g) rfl (GX.l0 rfl rfl (fun _ _ g => GO.ix rfl rfl rfl underlying164 sz166 ((RdIn.elem (RdIn.drop 2 r_a) c34.1 c34.2) _ HS).2.2.1 c35.1 c35.2 rfl g) rfl (GX.ls rfl rfl rfl HS (fun _ HS _ g => GO.ldRdA (T := T_GFace) (n := t30.toNat) HS (RdIn.elem (RdIn.drop 2 r_a) c34.1 c34.2) rfl rfl (getD_eq (ltN c35) h37) ag166 rfl g) rfl (GX.ls rfl rfl rfl HS (fun _ HS _ g => GO.ldBoxA (j := 0) ([.int .i64 e5.Tet, .int .i64 e5.Perm]) HS rfl rfl rfl rfl ag166 rfl g) rfl (GX.l2 rfl (GO.fn rfl func253 fok253.1 fok253.2 rfl rfl (impl_Face_partner.calls HS  h40) (fun _ wd41 ⟨h42, HS⟩ => ⟨_, h42, (GX.fin HS (GX.l0 rfl rfl (fun _ _ g => GO.eqlA rfl rfl rfl ng166 (fun _ => eq166) rfl g) rfl (GX.l0 rfl rfl (fun _ _ g => GO.move rfl rfl rfl (GO.known (t := 51) rfl (decide_eq_true c43) g)) rfl ?_)))⟩))))))))))))
      refine GX.l0 rfl rfl (fun _ _ g => GO.on rfl rfl rfl rfl (GO.fld (⟨b7, 0, none⟩) rfl rfl fl166_0 rfl rfl (GO.back g))) rfl (GX.l0 rfl rfl (fun _ _ g => GO.on rfl rfl rfl rfl (GO.move rfl rfl rfl (GO.back g))) rfl (GX.ls rfl rfl rfl HS (fun _ HS _ g => GO.on rfl rfl rfl rfl (GO.ldBox (j := 0) HS rfl rfl rfl rfl na2 rfl (GO.back g))) rfl (GX.l0 rfl rfl (fun _ _ g => GO.on rfl rfl rfl rfl (GO.neq rfl rfl rfl rfl (GO.back g))) rfl (GX.l0 rfl rfl (fun _ _ g => GO.on rfl rfl rfl rfl (GO.move rfl rfl rfl (GO.back (GO.known (t := 56) rfl (congrArg Bool.not (decide_eq_true c44)) g)))) rfl (GX.l0 rfl rfl (fun _ _ g => GO.on rfl rfl rfl rfl (GO.move rfl rfl rfl (GO.back g))) rfl (GX.l0 rfl rfl (fun _ _ g => GO.on rfl rfl rfl rfl (GO.move rfl rfl rfl (GO.back g))) rfl (GX.l0 rfl rfl (fun _ _ g => GO.on rfl rfl rfl rfl (GO.neq rfl rfl rfl rfl (GO.back g))) rfl (GX.l0 rfl rfl (fun _ _ g => GO.on rfl rfl rfl rfl (GO.pickF rfl rfl rfl rfl rfl (GO.back g))) rfl (GX.ps 2 rfl (GX.nil ?_))))))))))
      obtain rfl := Option.some.inj H
      exact G.ret1 _ func212 rfl rfl ⟨rfl, (HS.pk 2 [] rfl)⟩
     refine G.lexS mixed (fun w => St w0 w (Box b7 166 [.int .i64 e5.Tet, .int .i64 e5.Perm] :: Box b1 40 [.slice A_a t_Tets.length c_a] :: L)) [1, 3, 5, 8, 9, 15] [0, 2, 6, 10, 1, 3, 4, 5, 7, 8, 9, 11, 12, 13, 14, 16, 15, 17, 18, 19, 20, 21, 22, 23, 24] 25 (by kernel_rfl) (by kernel_rfl) HS.drew ?_
     replace HS := HS.drew
     refine GX.l0 rfl rfl (fun _ _ g => GO.fld (⟨b1, 0, none⟩) rfl rfl fl40_0 rfl rfl g) rfl (GX.l0 rfl rfl (fun _ _ g => GO.fld (⟨b7, 0, none⟩) rfl rfl fl166_0 rfl rfl g) rfl (GX.ps 2 rfl (GX.ls rfl rfl rfl HS (fun _ HS _ g => GO.ldBox (j := 1) HS rfl rfl rfl rfl na38 rfl g) rfl (GX.ls rfl rfl rfl HS (fun _ HS _ g => GO.ldBox (j := 0) HS rfl rfl rfl rfl na2 rfl g) rfl (GX.l0 rfl rfl (fun _ _ g => GO.ix rfl rfl rfl underlying38 sz164 ((RdIn.drop 2 r_a) _ HS).2.2.1 c34.1 c34.2 rfl g) rfl (GX.ls rfl rfl rfl HS (fun _ HS _ g => GO.ldRd (T := (Ty.slice 166 T_GFace)) (n := e5.Tet.toNat) (o := 0) HS (RdIn.drop 2 r_a) rfl rfl (getD_some (d := []) (ltN c34)) rfl rfl na164 rfl g) rfl (GX.l0 rfl rfl (fun _ _ g => GO.ix rfl rfl rfl underlying164 sz166 ((RdIn.elem (RdIn.drop 2 r_a) c34.1 c34.2) _ HS).2.2.1 c35.1 c35.2 rfl g) rfl (GX.ls rfl rfl rfl HS (fun _ HS _ g => GO.ldRdA (T := T_GFace) (n := t30.toNat) HS (RdIn.elem (RdIn.drop 2 r_a) c34.1 c34.2) rfl rfl (getD_eq (ltN c35) h37) ag166 rfl g) rfl (GX.ls rfl rfl rfl HS (fun _ HS _ g => GO.ldBoxA (j := 0) ([.int .i64 e5.Tet, .int .i64 e5.Perm]) HS rfl rfl rfl rfl ag166 rfl g) rfl (GX.l2 rfl (GO.fn rfl func253 fok253.1 fok253.2 rfl rfl (impl_Face_partner.calls HS  h40) (fun _ wd41 ⟨h42, HS⟩ => ⟨_, h42, (GX.fin HS (GX.l0 rfl rfl (fun _ _ g => GO.eqlA rfl rfl rfl ng166 (fun _ => eq166) rfl g) rfl (GX.l0 rfl rfl (fun _ _ g => GO.move rfl rfl rfl (GO.known (t := 51) rfl (decide_eq_true c43) g)) rfl ?_)))⟩))))))))))))
     refine GX.l0 rfl rfl (fun _ _ g => GO.on rfl rfl rfl rfl (GO.fld (⟨b7, 0, none⟩) rfl rfl fl166_0 rfl rfl (GO.back g))) rfl (GX.l0 rfl rfl (fun _ _ g => GO.on rfl rfl rfl rfl (GO.move rfl rfl rfl (GO.back g))) rfl (GX.ls rfl rfl rfl HS (fun _ HS _ g => GO.on rfl rfl rfl rfl (GO.ldBox (j := 0) HS rfl rfl rfl rfl na2 rfl (GO.back g))) rfl (GX.l0 rfl rfl (fun _ _ g => GO.on rfl rfl rfl rfl (GO.neq rfl rfl rfl rfl (GO.back g))) rfl (GX.l0 rfl rfl (fun _ _ g => GO.on rfl rfl rfl rfl (GO.move rfl rfl rfl (GO.back (GO.known (t := 56) rfl (congrArg Bool.not (decide_eq_false c44)) g)))) rfl (GX.l0 rfl rfl (fun _ _ g => GO.off rfl rfl rfl rfl rfl rfl g) rfl (GX.l0 rfl rfl (fun _ _ g => GO.off rfl rfl rfl rfl rfl rfl g) rfl (GX.l0 rfl rfl (fun _ _ g => GO.off rfl rfl rfl rfl rfl rfl g) rfl (GX.l0 rfl rfl (fun _ _ g => GO.on rfl rfl rfl rfl (GO.pickT rfl rfl rfl rfl rfl (GO.back g))) rfl (GX.ps 2 rfl (GX.nil ?_))))))))))
     obtain rfl := Option.some.inj H
     exact G.ret1 _ func212 rfl rfl ⟨rfl, (HS.pk 2 [] rfl)⟩
    refine G.lexS mixed (fun w => St w0 w (Box b7 166 [.int .i64 e5.Tet, .int .i64 e5.Perm] :: Box b1 40 [.slice A_a t_Tets.length c_a] :: L)) [1, 3, 5, 8, 9, 15] [0, 2, 6, 10, 1, 3, 4, 5, 7, 8, 9, 11, 12, 13, 14, 16, 15, 17, 18, 19, 20, 21, 22, 23, 24] 25 (by kernel_rfl) (by kernel_rfl) HS.drew ?_
    replace HS := HS.drew
    refine GX.l0 rfl rfl (fun _ _ g => GO.fld (⟨b1, 0, none⟩) rfl rfl fl40_0 rfl rfl g) rfl (GX.l0 rfl rfl (fun _ _ g => GO.fld (⟨b7, 0, none⟩) rfl rfl fl166_0 rfl rfl g) rfl (GX.ps 2 rfl (GX.ls rfl rfl rfl HS (fun _ HS _ g => GO.ldBox (j := 1) HS rfl rfl rfl rfl na38 rfl g) rfl (GX.ls rfl rfl rfl HS (fun _ HS _ g => GO.ldBox (j := 0) HS rfl rfl rfl rfl na2 rfl g) rfl (GX.l0 rfl rfl (fun _ _ g => GO.ix rfl rfl rfl underlying38 sz164 ((RdIn.drop 2 r_a) _ HS).2.2.1 c34.1 c34.2 rfl g) rfl (GX.ls rfl rfl rfl HS (fun _ HS _ g => GO.ldRd (T := (Ty.slice 166 T_GFace)) (n := e5.Tet.toNat) (o := 0) HS (RdIn.drop 2 r_a) rfl rfl (getD_some (d := []) (ltN c34)) rfl rfl na164 rfl g) rfl (GX.l0 rfl rfl (fun _ _ g => GO.ix rfl rfl rfl underlying164 sz166 ((RdIn.elem (RdIn.drop 2 r_a) c34.1 c34.2) _ HS).2.2.1 c35.1 c35.2 rfl g) rfl (GX.ls rfl rfl rfl HS (fun _ HS _ g => GO.ldRdA (T := T_GFace) (n := t30.toNat) HS (RdIn.elem (RdIn.drop 2 r_a) c34.1 c34.2) rfl rfl (getD_eq (ltN c35) h37) ag166 rfl g) rfl (GX.ls rfl rfl rfl HS (fun _ HS _ g => GO.ldBoxA (j := 0) ([.int .i64 e5.Tet, .int .i64 e5.Perm]) HS rfl rfl rfl rfl ag166 rfl g) rfl (GX.l2 rfl (GO.fn rfl func253 fok253.1 fok253.2 rfl rfl (impl_Face_partner.calls HS  h40) (fun _ wd41 ⟨h42, HS⟩ => ⟨_, h42, (GX.fin HS (GX.l0 rfl rfl (fun _ _ g => GO.eqlA rfl rfl rfl ng166 (fun _ => eq166) rfl g) rfl (GX.l0 rfl rfl (fun _ _ g => GO.move rfl rfl rfl (GO.known (t := 51) rfl (decide_eq_false c43) g)) rfl ?_)))⟩))))))))))))
    refine GX.l0 rfl rfl (fun _ _ g => GO.off rfl rfl rfl rfl rfl rfl g) rfl (GX.l0 rfl rfl (fun _ _ g => GO.off rfl rfl rfl rfl rfl rfl g) rfl (GX.ls rfl rfl rfl HS (fun _ HS _ g => GO.off rfl rfl rfl rfl rfl rfl g) rfl (GX.l0 rfl rfl (fun _ _ g => GO.off rfl rfl rfl rfl rfl rfl g) rfl (GX.l0 rfl rfl (fun _ _ g => GO.off rfl rfl rfl rfl rfl rfl g) rfl (GX.l0 rfl rfl (fun _ _ g => GO.offU rfl rfl rfl rfl rfl rfl g) rfl (GX.l0 rfl rfl (fun _ _ g => GO.offU rfl rfl rfl rfl rfl rfl g) rfl (GX.l0 rfl rfl (fun _ _ g => GO.offU rfl rfl rfl rfl rfl rfl g) rfl (GX.l0 rfl rfl (fun _ _ g => GO.off rfl rfl rfl rfl rfl rfl g) rfl (GX.ps 2 rfl (GX.nil ?_))))))))))
    obtain rfl := Option.some.inj H
    exact G.ret1 _ func212 rfl rfl ⟨rfl, (HS.pk 2 [] rfl)⟩
   refine G.yesB rfl (congrArg Bool.not (bnot_of c29)) (G.run 2 rfl ?_)
   obtain rfl := Option.some.inj H
   exact G.ret1 _ func212 rfl rfl ⟨rfl, (HS.pk 2 [] rfl)⟩
  refine G.region (GO.fld (⟨b1, 0, none⟩) rfl rfl fl40_0 rfl rfl (GO.ldBox (j := 1) HS rfl rfl rfl rfl na38 rfl (GO.fld (⟨b7, 0, none⟩) rfl rfl fl166_0 rfl rfl (GO.ldBox (j := 0) HS rfl rfl rfl rfl na2 rfl (GO.fn rfl func251 fok251.1 fok251.2 rfl rfl (impl_hasIndex_impl_Face.calls HS (RdIn.drop 2 r_a) h21) (fun _ wd22 ⟨h23, HS⟩ => ⟨_, h23, (GO.ps 2 rfl (GO.known (t := 29) rfl (congrArg Bool.not (bnot_of c24)) (GO.off rfl rfl rfl rfl rfl rfl (GO.off rfl rfl rfl rfl rfl rfl (GO.off rfl rfl rfl rfl rfl rfl (GO.off rfl rfl rfl rfl rfl rfl (GO.pickT rfl rfl rfl rfl rfl (GO.nil (G.run 3 rfl ?_)))))))))⟩))))))
  obtain rfl := Option.some.inj H
  exact G.ret1 _ func212 rfl rfl ⟨rfl, (HS.pk 2 [] rfl)⟩
theorem impl_isTriangulation.calls {w0 w : World} {L : List HObj} {K : Nat} {t_Tets : List (List GFace)} {A_a : Option Addr} {c_a : Nat} {y_a : Nat → (Ty.slice 166 T_GFace).Lay} {r1 : Bool} (HS : St w0 w (L)) (r_a : RdIn w0 L (Ty.slice 166 T_GFace) A_a c_a y_a t_Tets) (H : impl_isTriangulation.f K t_Tets = some r1) :
    Calls prog 148 #[.agg [.slice A_a t_Tets.length c_a].toArray] w (impl_isTriangulation.post w0 L r1) := by
  unfold impl_isTriangulation.f at H
  refine Calls.of_G func148 rfl rfl rfl ?_
  refine G.seq (G.region (GO.box (cs := [.slice A_a t_Tets.length c_a]) HS rfl rfl rfl rfl fun b1 wd2 HS => GO.assign rfl rfl rfl (GO.nil (G.run 2 rfl ?_))))
  rcases ite_elim H with ⟨c8, H⟩ | ⟨c8, H⟩
  ·
   refine G.region (GO.fld (⟨b1, 0, none⟩) rfl rfl fl40_0 rfl rfl (GO.ldBox (j := 0) HS rfl rfl rfl rfl na38 rfl (GO.lenS rfl rfl underlying38 rfl (GO.ps 2 rfl (GO.known (t := 9) rfl (decide_eq_true c8) (GO.off rfl rfl rfl rfl rfl rfl (GO.off rfl rfl rfl rfl rfl rfl (GO.off rfl rfl rfl rfl rfl rfl (GO.pickT rfl rfl rfl rfl rfl (GO.nil (G.run 3 rfl ?_)))))))))))
   obtain rfl := Option.some.inj H
   exact G.ret1 _ func148 rfl rfl ⟨rfl, (HS.pk 1 [] rfl)⟩
  obtain ⟨t9, h10, H⟩ := Option.bind_eq_some_iff.1 H
  refine G.region (GO.fld (⟨b1, 0, none⟩) rfl rfl fl40_0 rfl rfl (GO.ldBox (j := 0) HS rfl rfl rfl rfl na38 rfl (GO.lenS rfl rfl underlying38 rfl (GO.ps 2 rfl (GO.known (t := 9) rfl (decide_eq_false c8) (GO.on rfl rfl rfl rfl (GO.fld (⟨b1, 0, none⟩) rfl rfl fl40_0 rfl rfl (GO.back (GO.on rfl rfl rfl rfl (GO.ldBox (j := 0) HS rfl rfl rfl rfl na38 rfl (GO.back (GO.on rfl rfl rfl rfl (GO.fn rfl func209 fok209.1 fok209.2 rfl rfl (slices_ContainsFunc_impl_Face_impl_Face_isTriangulation_fn1.calls HS (RdIn.drop 1 r_a) h10) (fun _ wd11 ⟨h12, HS⟩ => ⟨_, h12, (GO.back ?_)⟩))))))))))))))
  refine GO.pickF rfl rfl rfl rfl rfl (GO.nil ?_)
  rcases ite_elim H with ⟨c13, H⟩ | ⟨c13, H⟩
  ·
   refine G.yesB rfl c13 (G.run 2 rfl ?_)
   obtain rfl := Option.some.inj H
   exact G.ret1 _ func148 rfl rfl ⟨rfl, (HS.pk 1 [] rfl)⟩
  refine G.noB rfl (bnot_of c13) (G.run 3 rfl ?_)
  obtain ⟨t14, h15, H⟩ := Option.bind_eq_some_iff.1 H
  refine G.region (GO.fld (⟨b1, 0, none⟩) rfl rfl fl40_0 rfl rfl (GO.ldBox (j := 0) HS rfl rfl rfl rfl na38 rfl (GO.fn rfl func211 fok211.1 fok211.2 rfl rfl (impl_size_impl_Face.calls HS (RdIn.drop 1 r_a) h15) (fun _ wd16 ⟨h17, HS⟩ => ⟨_, h17, (GO.move rfl rfl rfl (GO.nil (G.run 2 rfl ?_)))⟩))))
  refine G.name (fun k_l1 hk_l1 => ?_)
  have at_l1 : ∀ m_l1, m_l1 ≤ K → ∀ (x37 : Int) (w : World), impl_isTriangulation.l1 K m_l1 t_Tets t14 x37 = some r1 → St w0 w (Box b1 40 [.slice A_a t_Tets.length c_a] :: L) → G prog 148 30 [(1, .pointer (some ⟨b1, 0, none⟩)), (16, .int .i64 t14), (17, .int .i64 x37)] k_l1 w (impl_isTriangulation.post w0 L r1) := by
   intro m_l1
   induction m_l1 using Nat.strongRecOn with
   | _ m_l1 ih_l1 =>
    intro hm_l1 x37 w H HS
    cases m_l1 with
    | zero => rw [impl_isTriangulation.l1] at H; cases H
    | succ n_l1 =>
     rw [impl_isTriangulation.l1] at H
     subst hk_l1
     refine G.run 3 rfl ?_
     rcases ite_elim H with ⟨c57, H⟩ | ⟨c57, H⟩
     ·
      refine G.yesB rfl (decide_eq_true c57) (G.run 9 rfl ?_)
      refine G.name (fun k_l4 hk_l4 => ?_)
      have at_l4 : ∀ m_l4, m_l4 ≤ n_l1 → ∀ (x63 : Int) (w : World), impl_isTriangulation.l4 K m_l4 t_Tets t14 x37 x63 = some r1 → St w0 w (Box b1 40 [.slice A_a t_Tets.length c_a] :: L) → G prog 148 30 [(1, .pointer (some ⟨b1, 0, none⟩)), (3, .int .i64 x37), (16, .int .i64 t14), (17, .int .i64 x37), (20, .int .i64 x63)] k_l4 w (impl_isTriangulation.post w0 L r1) := by
       intro m_l4
       induction m_l4 using Nat.strongRecOn with
       | _ m_l4 ih_l4 =>
        intro hm_l4 x63 w H HS
        cases m_l4 with
        | zero => rw [impl_isTriangulation.l4] at H; cases H
        | succ n_l4 =>
         rw [impl_isTriangulation.l4] at H
         subst hk_l4
         refine G.run 3 rfl ?_
         rcases ite_elim H with ⟨c70, H⟩ | ⟨c70, H⟩
         ·
          refine G.yesB rfl (decide_eq_true c70) (G.run 6 rfl ?_)
          obtain ⟨t71, h72, H⟩ := Option.bind_eq_some_iff.1 H
          refine G.region (GO.ldBoxA (j := 0) ([.slice A_a t_Tets.length c_a]) HS rfl rfl rfl rfl ag40 rfl (GO.ps 2 rfl (GO.fn rfl func212 fok212.1 fok212.2 rfl rfl (impl_Triangulation_isGood.calls HS (RdIn.drop 1 r_a) h72) (fun _ wd73 ⟨h74, HS⟩ => ⟨_, h74, (GO.not rfl rfl rfl (GO.nil ?_))⟩))))
          rcases ite_elim H with ⟨c75, H⟩ | ⟨c75, H⟩
          ·
           refine G.noB rfl (congrArg Bool.not c75) (G.run 4 rfl (G.weak ?_ (ih_l4 n_l4 (Nat.lt_succ_of_le (Nat.le_refl _)) (Nat.le_of_succ_le hm_l4) _ _ H HS)))
           exact ⟨rfl, rfl, rfl, rfl, rfl, trivial⟩
          refine G.yesB rfl (congrArg Bool.not (bnot_of c75)) (G.run 2 rfl ?_)
          obtain rfl := Option.some.inj H
          exact G.ret1 _ func148 rfl rfl ⟨rfl, (HS.pk 1 [] rfl)⟩
         refine G.noB rfl (decide_eq_false c70) (G.run 4 rfl (G.weak ?_ (ih_l1 n_l4 (by omega) (by omega) _ _ H HS)))
         exact ⟨rfl, rfl, rfl, trivial⟩
      refine G.weak ?_ (at_l4 n_l1 (Nat.le_refl _) _ _ H HS)
      exact ⟨rfl, rfl, rfl, rfl, rfl, trivial⟩
     refine G.noB rfl (decide_eq_false c57) (G.run 3 rfl ?_)
     obtain rfl := Option.some.inj H
     exact G.ret1 _ func148 rfl rfl ⟨rfl, (HS.pk 1 [] rfl)⟩
  refine G.weak ?_ (at_l1 K (Nat.le_refl _) _ _ H HS)
  exact ⟨rfl, rfl, rfl, trivial⟩
theorem impl_size_impl_Crossing.calls {w0 w : World} {L : List HObj} {list : List GCrossing} {A_a : Option Addr} {c_a : Nat} {r1 : Int} (HS : St w0 w (L)) (r_a : RdIn w0 L T_GCrossing A_a c_a (fun _ => ()) list) (H : impl_size_impl_Crossing.f list = some r1) :
    Calls prog 254 #[.slice A_a list.length c_a] w (impl_size_impl_Crossing.post w0 L r1) := by
  unfold impl_size_impl_Crossing.f at H
  refine Calls.of_G func254 rfl rfl rfl ?_
  refine G.run 3 rfl (G.region (GO.move rfl rfl rfl (GO.lenS rfl rfl underlying41 rfl (GO.assign rfl rfl rfl (GO.nil ?_)))))
  obtain rfl := Option.some.inj H
  exact G.ret1 _ func254 rfl rfl ⟨rfl, HS⟩
theorem impl_Diagram_drawing_fn1.calls {w0 w : World} {L : List HObj} {c_A c_B : Int} {c_C c_D c_Sign : Int} {r1 : Bool} (HS : St w0 w (L)) (H : impl_Diagram_drawing_fn1.f c_A c_B c_C c_D c_Sign = some r1) :
    Calls prog 256 #[.agg [.int .i64 c_A, .int .i64 c_B, .int .i64 c_C, .int .i64 c_D, .int .i64 c_Sign].toArray] w (impl_Diagram_drawing_fn1.post w0 L r1) := by
  unfold impl_Diagram_drawing_fn1.f at H
  refine Calls.of_G func256 rfl rfl rfl ?_
  refine G.seq (G.region (GO.box (cs := [.int .i64 c_A, .int .i64 c_B, .int .i64 c_C, .int .i64 c_D, .int .i64 c_Sign]) HS rfl rfl rfl rfl fun b1 wd2 HS => GO.assign rfl rfl rfl (GO.nil (G.seq ?_))))
  rcases ite_elim H with ⟨c3, H⟩ | ⟨c3, H⟩
  ·
   refine G.region (GO.fld (⟨b1, 4, none⟩) rfl rfl fl203_4 rfl rfl (GO.ldBox (j := 0) HS rfl rfl rfl rfl na2 rfl (GO.ps 2 rfl (GO.known (t := 6) rfl (congrArg Bool.not (decide_eq_true c3)) (GO.off rfl rfl rfl rfl rfl rfl (GO.off rfl rfl rfl rfl rfl rfl (GO.off rfl rfl rfl rfl rfl rfl (GO.ps 2 rfl (GO.nil ?_)))))))))
   obtain rfl := Option.some.inj H
   exact G.ret1 _ func256 rfl rfl ⟨rfl, (HS.pk 1 [] rfl)⟩
  refine G.region (GO.fld (⟨b1, 4, none⟩) rfl rfl fl203_4 rfl rfl (GO.ldBox (j := 0) HS rfl rfl rfl rfl na2 rfl (GO.ps 2 rfl (GO.known (t := 6) rfl (congrArg Bool.not (decide_eq_false c3)) (GO.on rfl rfl rfl rfl (GO.fld (⟨b1, 4, none⟩) rfl rfl fl203_4 rfl rfl (GO.back (GO.on rfl rfl rfl rfl (GO.ldBox (j := 0) HS rfl rfl rfl rfl na2 rfl (GO.back (GO.on rfl rfl rfl rfl (GO.neq rfl rfl rfl rfl (GO.back (GO.ps 2 rfl ?_))))))))))))))
  refine GO.nil ?_
  obtain rfl := Option.some.inj H
  exact G.ret1 _ func256 rfl rfl ⟨rfl, (HS.pk 1 [] rfl)⟩
theorem slices_IndexFunc_impl_Crossing_impl_Crossing_109.calls {w0 w : World} {L : List HObj} {K : Nat} {s : List GCrossing} {A_a : Option Addr} {c_a : Nat} {r1 : Int} (HS : St w0 w (L)) (r_a : RdIn w0 L T_GCrossing A_a c_a (fun _ => ()) s) (H : slices_IndexFunc_impl_Crossing_impl_Crossing_109.f K s = some r1) :
    Calls prog 281 #[.slice A_a s.length c_a, .func (.func 256) #[] #[]] w (slices_IndexFunc_impl_Crossing_impl_Crossing_109.post w0 L r1) := by
  unfold slices_IndexFunc_impl_Crossing_impl_Crossing_109.f at H
  refine Calls.of_G func281 rfl rfl rfl ?_
  refine G.run 4 rfl (G.region (GO.move rfl rfl rfl (GO.lenS rfl rfl underlying41 rfl (GO.move rfl rfl rfl (GO.nil (G.run 2 rfl ?_))))))
  refine G.name (fun k_l1 hk_l1 => ?_)
  have at_l1 : ∀ m_l1, m_l1 ≤ K → ∀ (x10 : Int) (w : World), slices_IndexFunc_impl_Crossing_impl_Crossing_109.l1 K m_l1 s x10 = some r1 → St w0 w (L) → G prog 281 19 [(0, .slice A_a s.length c_a), (1, .func (.func 256) #[] #[]), (7, .int .i64 (s.length : Int)), (8, .int .i64 x10)] k_l1 w (slices_IndexFunc_impl_Crossing_impl_Crossing_109.post w0 L r1) := by
   intro m_l1
   induction m_l1 using Nat.strongRecOn with
   | _ m_l1 ih_l1 =>
    intro hm_l1 x10 w H HS
    cases m_l1 with
    | zero => rw [slices_IndexFunc_impl_Crossing_impl_Crossing_109.l1] at H; cases H
    | succ n_l1 =>
     rw [slices_IndexFunc_impl_Crossing_impl_Crossing_109.l1] at H
     subst hk_l1
     refine G.run 3 rfl ?_
     rcases ite_elim H with ⟨c20, H⟩ | ⟨c20, H⟩
     ·
      refine G.yesB rfl (decide_eq_true c20) (G.run 6 rfl ?_)
      obtain ⟨c21, H⟩ := ite_none H
      obtain ⟨e22, h23, H⟩ := bnd_elim H
      obtain ⟨t24, h25, H⟩ := Option.bind_eq_some_iff.1 H
      refine G.region (GO.ps 3 rfl (GO.ix rfl rfl rfl underlying41 sz203 (r_a _ HS).2.2.1 c21.1 c21.2 rfl (GO.ldRdA (T := T_GCrossing) (n := x10.toNat) HS r_a rfl rfl (getD_eq (ltN c21) h23) ag203 rfl (GO.clo rfl rfl func256 fok256.1 fok256.2 rfl rfl (impl_Diagram_drawing_fn1.calls HS  h25) (fun _ wd26 ⟨h27, HS⟩ => ⟨_, h27, (GO.nil ?_)⟩)))))
      rcases ite_elim H with ⟨c28, H⟩ | ⟨c28, H⟩
      ·
       refine G.yesB rfl c28 (G.run 2 rfl ?_)
       obtain rfl := Option.some.inj H
       exact G.ret1 _ func281 rfl rfl ⟨rfl, HS⟩
      refine G.noB rfl (bnot_of c28) (G.run 4 rfl (G.weak ?_ (ih_l1 n_l1 (Nat.lt_succ_of_le (Nat.le_refl _)) (Nat.le_of_succ_le hm_l1) _ _ H HS)))
      exact ⟨rfl, rfl, rfl, rfl, trivial⟩
     refine G.noB rfl (decide_eq_false c20) (G.run 3 rfl ?_)
     obtain rfl := Option.some.inj H
     exact G.ret1 _ func281 rfl rfl ⟨rfl, HS⟩
  refine G.weak ?_ (at_l1 K (Nat.le_refl _) _ _ H HS)
  exact ⟨rfl, rfl, rfl, rfl, trivial⟩
theorem slices_ContainsFunc_impl_Crossing_impl_Crossing_109.calls {w0 w : World} {L : List HObj} {K : Nat} {s : List GCrossing} {A_a : Option Addr} {c_a : Nat} {r1 : Bool} (HS : St w0 w (L)) (r_a : RdIn w0 L T_GCrossing A_a c_a (fun _ => ()) s) (H : slices_ContainsFunc_impl_Crossing_impl_Crossing_109.f K s = some r1) :
    Calls prog 255 #[.slice A_a s.length c_a, .func (.func 256) #[] #[]] w (slices_ContainsFunc_impl_Crossing_impl_Crossing_109.post w0 L r1) := by
  unfold slices_ContainsFunc_impl_Crossing_impl_Crossing_109.f at H
  refine Calls.of_G func255 rfl rfl rfl ?_
  refine G.run 3 rfl ?_
  obtain ⟨t1, h2, H⟩ := Option.bind_eq_some_iff.1 H
  refine G.region (GO.ps 2 rfl (GO.fn rfl func281 fok281.1 fok281.2 rfl rfl (slices_IndexFunc_impl_Crossing_impl_Crossing_109.calls HS r_a h2) (fun _ wd3 ⟨h4, HS⟩ => ⟨_, h4, (GO.ps 2 rfl (GO.nil ?_))⟩)))
  obtain rfl := Option.some.inj H
  exact G.ret1 _ func255 rfl rfl ⟨rfl, HS⟩
theorem math_bits_Mul64.calls {w0 w : World} {L : List HObj} {x y : Int} {r1 r2 : Int} (HS : St w0 w (L)) (H : math_bits_Mul64.f x y = some (r1, r2)) :
    Calls prog 317 #[.int .u64 x, .int .u64 y] w (math_bits_Mul64.post w0 L r1 r2) := by
  unfold math_bits_Mul64.f at H
  refine Calls.of_G func317 rfl rfl rfl ?_
  refine G.run 3 rfl (G.region (GO.move rfl rfl rfl (GO.bits (by simp) rfl rfl rfl rfl (GO.assign rfl rfl rfl (GO.nil (G.seq (G.region (GO.move rfl rfl rfl (GO.shr rfl rfl rfl (by decide) (by decide) rfl (GO.assign rfl rfl rfl (GO.nil (G.seq (G.region (GO.move rfl rfl rfl ?_))))))))))))))
  refine GO.bits (by simp) rfl rfl rfl rfl (GO.assign rfl rfl rfl (GO.nil (G.seq (G.region (GO.move rfl rfl rfl (GO.shr rfl rfl rfl (by decide) (by decide) rfl (GO.assign rfl rfl rfl (GO.nil (G.run 3 rfl (G.region (GO.ps 4 rfl (GO.shr rfl rfl rfl (by decide) (by decide) rfl (GO.ps 2 rfl (GO.nil ?_))))))))))))))
  refine G.seq (G.region (GO.move rfl rfl rfl (GO.bits (by simp) rfl rfl rfl rfl (GO.assign rfl rfl rfl (GO.nil (G.seq (G.region (GO.move rfl rfl rfl (GO.shr rfl rfl rfl (by decide) (by decide) rfl (GO.assign rfl rfl rfl (GO.nil (G.run 3 rfl (G.region (GO.ps 6 rfl ?_))))))))))))))
  refine GO.shr rfl rfl rfl (by decide) (by decide) rfl (GO.ps 2 rfl (GO.nil (G.run 2 rfl ?_)))
  obtain ⟨rfl, rfl⟩ := some2 H
  exact G.ret2 _ _ func317 rfl rfl rfl ⟨rfl, HS⟩
theorem math_bits_Mul.calls {w0 w : World} {L : List HObj} {x y : Int} {r1 r2 : Int} (HS : St w0 w (L)) (H : math_bits_Mul.f x y = some (r1, r2)) :
    Calls prog 303 #[.int .u64 x, .int .u64 y] w (math_bits_Mul.post w0 L r1 r2) := by
  unfold math_bits_Mul.f at H
  refine Calls.of_G func303 rfl rfl rfl ?_
  refine G.run 6 rfl ?_
  obtain ⟨t1, t2, h3, H⟩ := bind2_elim H
  refine G.region (GO.ps 2 rfl (GO.fn rfl func317 fok317.1 fok317.2 rfl rfl (math_bits_Mul64.calls HS  h3) (fun _ wd4 ⟨h5, HS⟩ => ⟨_, h5, (GO.ps 5 rfl (GO.nil (G.run 2 rfl ?_)))⟩)))
  obtain ⟨rfl, rfl⟩ := some2 H
  exact G.ret2 _ _ func303 rfl rfl rfl ⟨rfl, HS⟩
end Go.Proofs.YtgkcddpgmmmblaaGreatDoor
