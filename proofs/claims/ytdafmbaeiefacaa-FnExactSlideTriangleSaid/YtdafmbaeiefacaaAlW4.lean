/-
  The walks through the functions: a call comes to what its list function says.
-/
import Derived.Test.YtdafmbaeiefacaaAlF
import Derived.Test.YtdafmbaeiefacaaAlW3
set_option linter.unusedVariables false
set_option linter.unusedSimpArgs false
namespace Go.Proofs.Ytdafmbaeiefacaa
open Go.RowKit
set_option maxRecDepth 20000 in
set_option maxHeartbeats 40000000 in
theorem impl_isTriangle.calls {w0 w : World} {L : List HObj} {K : Nat} {region : List Int} {A_region : Option Addr} {c_region : Nat} {r1 : Bool} (HS : St w0 w (L)) (h_region : RdIn w0 L (TInt .i64) A_region c_region (fun _ => ()) region) (H : impl_isTriangle.f K region = some r1) :
    Calls Try.prog 124 #[.slice A_region region.length c_region] w (impl_isTriangle.post w0 L region A_region c_region r1) := by
  unfold impl_isTriangle.f at H
  refine Calls.of_G Try.func124 rfl rfl rfl ?_
  refine G.seq ?_
  refine G.region ?_
  refine GO.assign rfl rfl rfl ?_
  refine GO.nil ?_
  refine G.seq ?_
  refine G.seq ?_
  rcases ite_elim H with ⟨c7, H⟩ | ⟨c7, H⟩
  ·
   obtain ⟨c8, H⟩ := ite_none H
   obtain ⟨c9, H⟩ := ite_none H
   rcases ite_elim H with ⟨c10, H⟩ | ⟨c10, H⟩
   ·
    refine G.regionAny mixed (by decide) (fun b a w => ∃ (Y1_0 : Value) (Y2_1 : Value) (Y3_2 : Value) (Y4_3 : Value) (Y5_4 : Value) (Y6_5 : Value) (Y7_6 : Value) (Y8_7 : Value) (Y9_8 : Value) (Y10_9 : Value) (Y11_10 : Value) (Y12_11 : Value) (Y13_12 : Value) (Y14_13 : Value) (Y15_14 : Value) (Y16_15 : Value) (Y17_16 : Value) (Y18_17 : Value) (Y19_18 : Value) (Y20_19 : Value) (Y21_20 : Value) (Y22_21 : Value) (Y23_22 : Value) (Y24_23 : Value) (Y25_24 : Value) (Y26_25 : Value) (Y27_26 : Value) (Y28_27 : Value) (Y29_28 : Value) (Y30_29 : Value) (Y31_30 : Value) (Y32_31 : Value) (Y33_32 : Value) (Y34_33 : Value) (Y35_34 : Value) (Y36_35 : Value), Sat 85 [(9, Y1_0), (10, Y2_1), (11, Y3_2), (12, Y4_3), (13, Y5_4), (14, Y6_5), (15, Y7_6), (16, Y8_7), (17, Y9_8), (18, Y10_9), (19, Y11_10), (20, Y12_11), (21, Y13_12), (22, Y14_13), (23, Y15_14), (24, Y16_15), (25, Y17_16), (26, Y18_17), (27, Y19_18), (28, Y20_19), (29, Y21_20), (30, Y22_21), (31, Y23_22), (32, Y24_23), (33, Y25_24), (34, Y26_25), (35, Y27_26), (36, Y28_27), (37, Y29_28), (38, Y30_29), (39, Y31_30), (40, Y32_31), (41, Y33_32), (42, Y34_33), (43, Y35_34), (44, Y36_35), (0, .slice A_region region.length c_region)] a ∧ St w0 w (L) ∧ (b 0 = true → Y1_0 = (.slice A_region region.length c_region)) ∧ (b 1 = true → Y2_1 = (.int .i64 (region.length : Int))) ∧ (b 2 = true → Y3_2 = (.bool (!(decide ((region.length : Int) = 3))))) ∧ (b 3 = true → Y4_3 = (.bool false)) ∧ (b 4 = true → Y5_4 = (.slice A_region region.length c_region)) ∧ (b 5 = true → Y6_5 = (.pointer (some (ea A_region (0 * 1))))) ∧ (b 6 = true → Y7_6 = (.int .i64 (region.getD 0 0))) ∧ (b 7 = true → Y8_7 = (.int .i64 (w64 ((region.getD 0 0).tdiv 4)))) ∧ (b 8 = true → Y9_8 = (.slice A_region region.length c_region)) ∧ (b 9 = true → Y10_9 = (.pointer (some (ea A_region (1 * 1))))) ∧ (b 10 = true → Y11_10 = (.int .i64 (region.getD 1 0))) ∧ (b 11 = true → Y12_11 = (.int .i64 (w64 ((region.getD 1 0).tdiv 4)))) ∧ (b 12 = true → Y13_12 = (.bool (decide (w64 ((region.getD 0 0).tdiv 4) = w64 ((region.getD 1 0).tdiv 4))))) ∧ (b 13 = true → Y14_13 = (.bool (decide (w64 ((region.getD 0 0).tdiv 4) = w64 ((region.getD 1 0).tdiv 4))))) ∧ (b 14 = true → Y15_14 = (.bool true)) ∧ (b 15 = true → Y16_15 = (undef)) ∧ (b 16 = true → Y17_16 = (undef)) ∧ (b 17 = true → Y18_17 = (undef)) ∧ (b 18 = true → Y19_18 = (undef)) ∧ (b 19 = true → Y20_19 = (undef)) ∧ (b 20 = true → Y21_20 = (undef)) ∧ (b 21 = true → Y22_21 = (undef)) ∧ (b 22 = true → Y23_22 = (undef)) ∧ (b 23 = true → Y24_23 = (undef)) ∧ (b 24 = true → Y25_24 = (.bool true)) ∧ (b 25 = true → Y26_25 = (.bool true)) ∧ (b 26 = true → Y27_26 = (undef)) ∧ (b 27 = true → Y28_27 = (undef)) ∧ (b 28 = true → Y29_28 = (undef)) ∧ (b 29 = true → Y30_29 = (undef)) ∧ (b 30 = true → Y31_30 = (undef)) ∧ (b 31 = true → Y32_31 = (undef)) ∧ (b 32 = true → Y33_32 = (undef)) ∧ (b 33 = true → Y34_33 = (undef)) ∧ (b 34 = true → Y35_34 = (undef)) ∧ (b 35 = true → Y36_35 = (.bool true))) ?_ ?_ ?_
    ·
     intro a hs
     obtain ⟨Y1_0, hs⟩ := hs.ext (d := 9) rfl
     obtain ⟨Y2_1, hs⟩ := hs.ext (d := 10) rfl
     obtain ⟨Y3_2, hs⟩ := hs.ext (d := 11) rfl
     obtain ⟨Y4_3, hs⟩ := hs.ext (d := 12) rfl
     obtain ⟨Y5_4, hs⟩ := hs.ext (d := 13) rfl
     obtain ⟨Y6_5, hs⟩ := hs.ext (d := 14) rfl
     obtain ⟨Y7_6, hs⟩ := hs.ext (d := 15) rfl
     obtain ⟨Y8_7, hs⟩ := hs.ext (d := 16) rfl
     obtain ⟨Y9_8, hs⟩ := hs.ext (d := 17) rfl
     obtain ⟨Y10_9, hs⟩ := hs.ext (d := 18) rfl
     obtain ⟨Y11_10, hs⟩ := hs.ext (d := 19) rfl
     obtain ⟨Y12_11, hs⟩ := hs.ext (d := 20) rfl
     obtain ⟨Y13_12, hs⟩ := hs.ext (d := 21) rfl
     obtain ⟨Y14_13, hs⟩ := hs.ext (d := 22) rfl
     obtain ⟨Y15_14, hs⟩ := hs.ext (d := 23) rfl
     obtain ⟨Y16_15, hs⟩ := hs.ext (d := 24) rfl
     obtain ⟨Y17_16, hs⟩ := hs.ext (d := 25) rfl
     obtain ⟨Y18_17, hs⟩ := hs.ext (d := 26) rfl
     obtain ⟨Y19_18, hs⟩ := hs.ext (d := 27) rfl
     obtain ⟨Y20_19, hs⟩ := hs.ext (d := 28) rfl
     obtain ⟨Y21_20, hs⟩ := hs.ext (d := 29) rfl
     obtain ⟨Y22_21, hs⟩ := hs.ext (d := 30) rfl
     obtain ⟨Y23_22, hs⟩ := hs.ext (d := 31) rfl
     obtain ⟨Y24_23, hs⟩ := hs.ext (d := 32) rfl
     obtain ⟨Y25_24, hs⟩ := hs.ext (d := 33) rfl
     obtain ⟨Y26_25, hs⟩ := hs.ext (d := 34) rfl
     obtain ⟨Y27_26, hs⟩ := hs.ext (d := 35) rfl
     obtain ⟨Y28_27, hs⟩ := hs.ext (d := 36) rfl
     obtain ⟨Y29_28, hs⟩ := hs.ext (d := 37) rfl
     obtain ⟨Y30_29, hs⟩ := hs.ext (d := 38) rfl
     obtain ⟨Y31_30, hs⟩ := hs.ext (d := 39) rfl
     obtain ⟨Y32_31, hs⟩ := hs.ext (d := 40) rfl
     obtain ⟨Y33_32, hs⟩ := hs.ext (d := 41) rfl
     obtain ⟨Y34_33, hs⟩ := hs.ext (d := 42) rfl
     obtain ⟨Y35_34, hs⟩ := hs.ext (d := 43) rfl
     obtain ⟨Y36_35, hs⟩ := hs.ext (d := 44) rfl
     exact ⟨Y1_0, Y2_1, Y3_2, Y4_3, Y5_4, Y6_5, Y7_6, Y8_7, Y9_8, Y10_9, Y11_10, Y12_11, Y13_12, Y14_13, Y15_14, Y16_15, Y17_16, Y18_17, Y19_18, Y20_19, Y21_20, Y22_21, Y23_22, Y24_23, Y25_24, Y26_25, Y27_26, Y28_27, Y29_28, Y30_29, Y31_30, Y32_31, Y33_32, Y34_33, Y35_34, Y36_35, hs.weak ⟨rfl, rfl, rfl, rfl, rfl, rfl, rfl, rfl, rfl, rfl, rfl, rfl, rfl, rfl, rfl, rfl, rfl, rfl, rfl, rfl, rfl, rfl, rfl, rfl, rfl, rfl, rfl, rfl, rfl, rfl, rfl, rfl, rfl, rfl, rfl, rfl, rfl, trivial⟩, (HS.drew.pick 0 []), fun h => Bool.noConfusion h, fun h => Bool.noConfusion h, fun h => Bool.noConfusion h, fun h => Bool.noConfusion h, fun h => Bool.noConfusion h, fun h => Bool.noConfusion h, fun h => Bool.noConfusion h, fun h => Bool.noConfusion h, fun h => Bool.noConfusion h, fun h => Bool.noConfusion h, fun h => Bool.noConfusion h, fun h => Bool.noConfusion h, fun h => Bool.noConfusion h, fun h => Bool.noConfusion h, fun h => Bool.noConfusion h, fun h => Bool.noConfusion h, fun h => Bool.noConfusion h, fun h => Bool.noConfusion h, fun h => Bool.noConfusion h, fun h => Bool.noConfusion h, fun h => Bool.noConfusion h, fun h => Bool.noConfusion h, fun h => Bool.noConfusion h, fun h => Bool.noConfusion h, fun h => Bool.noConfusion h, fun h => Bool.noConfusion h, fun h => Bool.noConfusion h, fun h => Bool.noConfusion h, fun h => Bool.noConfusion h, fun h => Bool.noConfusion h, fun h => Bool.noConfusion h, fun h => Bool.noConfusion h, fun h => Bool.noConfusion h, fun h => Bool.noConfusion h, fun h => Bool.noConfusion h, fun h => Bool.noConfusion h⟩
    ·
     intro j hj b a w
     refine exI fun Y1_0 => exI fun Y2_1 => exI fun Y3_2 => exI fun Y4_3 => exI fun Y5_4 => exI fun Y6_5 => exI fun Y7_6 => exI fun Y8_7 => exI fun Y9_8 => exI fun Y10_9 => exI fun Y11_10 => exI fun Y12_11 => exI fun Y13_12 => exI fun Y14_13 => exI fun Y15_14 => exI fun Y16_15 => exI fun Y17_16 => exI fun Y18_17 => exI fun Y19_18 => exI fun Y20_19 => exI fun Y21_20 => exI fun Y22_21 => exI fun Y23_22 => exI fun Y24_23 => exI fun Y25_24 => exI fun Y26_25 => exI fun Y27_26 => exI fun Y28_27 => exI fun Y29_28 => exI fun Y30_29 => exI fun Y31_30 => exI fun Y32_31 => exI fun Y33_32 => exI fun Y34_33 => exI fun Y35_34 => exI fun Y36_35 => anI fun hs => anI fun HS => anI fun f0 => anI fun f1 => anI fun f2 => anI fun f3 => anI fun f4 => anI fun f5 => anI fun f6 => anI fun f7 => anI fun f8 => anI fun f9 => anI fun f10 => anI fun f11 => anI fun f12 => anI fun f13 => anI fun f14 => anI fun f15 => anI fun f16 => anI fun f17 => anI fun f18 => anI fun f19 => anI fun f20 => anI fun f21 => anI fun f22 => anI fun f23 => anI fun f24 => anI fun f25 => anI fun f26 => anI fun f27 => anI fun f28 => anI fun f29 => anI fun f30 => anI fun f31 => anI fun f32 => anI fun f33 => anI fun f34 => fun f35 hb hd hcl => ?_
     match j, hj with
     | 0, _ =>
      refine GO.at hs ?_
      refine GO.move rfl rfl rfl ?_
      refine GO.fin (fun a hs => ?_)
      exact ⟨(.slice A_region region.length c_region), _, _, _, _, _, _, _, _, _, _, _, _, _, _, _, _, _, _, _, _, _, _, _, _, _, _, _, _, _, _, _, _, _, _, _, by exact hs.setAt 0 rfl, HS, fun _ => rfl, f1, f2, f3, f4, f5, f6, f7, f8, f9, f10, f11, f12, f13, f14, f15, f16, f17, f18, f19, f20, f21, f22, f23, f24, f25, f26, f27, f28, f29, f30, f31, f32, f33, f34, f35⟩
     | 1, _ =>
      have h0 : b 0 = true := hd 0 (by decide)
      obtain rfl := f0 h0
      refine GO.at hs ?_
      refine GO.lenS rfl rfl Try.underlying43 rfl ?_
      refine GO.fin (fun a hs => ?_)
      exact ⟨_, (.int .i64 (region.length : Int)), _, _, _, _, _, _, _, _, _, _, _, _, _, _, _, _, _, _, _, _, _, _, _, _, _, _, _, _, _, _, _, _, _, _, by exact hs.setAt 1 rfl, HS, f0, fun _ => rfl, f2, f3, f4, f5, f6, f7, f8, f9, f10, f11, f12, f13, f14, f15, f16, f17, f18, f19, f20, f21, f22, f23, f24, f25, f26, f27, f28, f29, f30, f31, f32, f33, f34, f35⟩
     | 2, _ =>
      have h1 : b 1 = true := hd 1 (by decide)
      obtain rfl := f1 h1
      refine GO.at hs ?_
      refine GO.neq rfl rfl rfl rfl ?_
      refine GO.fin (fun a hs => ?_)
      exact ⟨_, _, (.bool (!(decide ((region.length : Int) = 3)))), _, _, _, _, _, _, _, _, _, _, _, _, _, _, _, _, _, _, _, _, _, _, _, _, _, _, _, _, _, _, _, _, _, by exact hs.setAt 2 rfl, HS, f0, f1, fun _ => rfl, f3, f4, f5, f6, f7, f8, f9, f10, f11, f12, f13, f14, f15, f16, f17, f18, f19, f20, f21, f22, f23, f24, f25, f26, f27, f28, f29, f30, f31, f32, f33, f34, f35⟩
     | 3, _ =>
      have h2 : b 2 = true := hd 2 (by decide)
      obtain rfl := f2 h2
      refine GO.at hs ?_
      refine GO.move rfl rfl rfl ?_
      refine GO.known (t := 12) rfl (congrArg Bool.not (decide_eq_true c7)) ?_
      refine GO.fin (fun a hs => ?_)
      exact ⟨_, _, _, (.bool false), _, _, _, _, _, _, _, _, _, _, _, _, _, _, _, _, _, _, _, _, _, _, _, _, _, _, _, _, _, _, _, _, hs.weak ⟨rfl, rfl, rfl, rfl, rfl, rfl, rfl, rfl, rfl, rfl, rfl, rfl, rfl, rfl, rfl, rfl, rfl, rfl, rfl, rfl, rfl, rfl, rfl, rfl, rfl, rfl, rfl, rfl, rfl, rfl, rfl, rfl, rfl, rfl, rfl, rfl, rfl, trivial⟩, HS, f0, f1, f2, fun _ => rfl, f4, f5, f6, f7, f8, f9, f10, f11, f12, f13, f14, f15, f16, f17, f18, f19, f20, f21, f22, f23, f24, f25, f26, f27, f28, f29, f30, f31, f32, f33, f34, f35⟩
     | 4, _ =>
      have h3 : b 3 = true := hd 3 (by decide)
      obtain rfl := f3 h3
      refine GO.at hs ?_
      refine GO.on rfl rfl rfl rfl ?_
      refine GO.move rfl rfl rfl ?_
      refine GO.back ?_
      refine GO.fin (fun a hs => ?_)
      exact ⟨_, _, _, _, (.slice A_region region.length c_region), _, _, _, _, _, _, _, _, _, _, _, _, _, _, _, _, _, _, _, _, _, _, _, _, _, _, _, _, _, _, _, by exact hs.setAt 4 rfl, HS, f0, f1, f2, f3, fun _ => rfl, f5, f6, f7, f8, f9, f10, f11, f12, f13, f14, f15, f16, f17, f18, f19, f20, f21, f22, f23, f24, f25, f26, f27, f28, f29, f30, f31, f32, f33, f34, f35⟩
     | 5, _ =>
      have h3 : b 3 = true := hd 3 (by decide)
      obtain rfl := f3 h3
      have h4 : b 4 = true := hd 4 (by decide)
      obtain rfl := f4 h4
      refine GO.at hs ?_
      refine GO.on rfl rfl rfl rfl ?_
      refine GO.ix rfl rfl rfl Try.underlying43 sz2 (h_region _ HS).2.2.1 c8.1 c8.2 rfl ?_
      refine GO.back ?_
      refine GO.fin (fun a hs => ?_)
      exact ⟨_, _, _, _, _, (.pointer (some (ea A_region (0 * 1)))), _, _, _, _, _, _, _, _, _, _, _, _, _, _, _, _, _, _, _, _, _, _, _, _, _, _, _, _, _, _, by exact hs.setAt 5 rfl, HS, f0, f1, f2, f3, f4, fun _ => rfl, f6, f7, f8, f9, f10, f11, f12, f13, f14, f15, f16, f17, f18, f19, f20, f21, f22, f23, f24, f25, f26, f27, f28, f29, f30, f31, f32, f33, f34, f35⟩
     | 6, _ =>
      have h3 : b 3 = true := hd 3 (by decide)
      obtain rfl := f3 h3
      have h5 : b 5 = true := hd 5 (by decide)
      obtain rfl := f5 h5
      refine GO.at hs ?_
      refine GO.on rfl rfl rfl rfl ?_
      refine GO.ldRd (T := (TInt .i64)) (n := 0) (o := 0) HS h_region rfl rfl (getD_some (d := 0) (ltN c8)) rfl rfl na2 rfl ?_
      refine GO.back ?_
      refine GO.fin (fun a hs => ?_)
      exact ⟨_, _, _, _, _, _, (.int .i64 (region.getD 0 0)), _, _, _, _, _, _, _, _, _, _, _, _, _, _, _, _, _, _, _, _, _, _, _, _, _, _, _, _, _, by exact hs.setAt 6 rfl, HS, f0, f1, f2, f3, f4, f5, fun _ => rfl, f7, f8, f9, f10, f11, f12, f13, f14, f15, f16, f17, f18, f19, f20, f21, f22, f23, f24, f25, f26, f27, f28, f29, f30, f31, f32, f33, f34, f35⟩
     | 7, _ =>
      have h3 : b 3 = true := hd 3 (by decide)
      obtain rfl := f3 h3
      have h6 : b 6 = true := hd 6 (by decide)
      obtain rfl := f6 h6
      refine GO.at hs ?_
      refine GO.on rfl rfl rfl rfl ?_
      refine GO.quo rfl rfl rfl (by decide) rfl ?_
      refine GO.back ?_
      refine GO.fin (fun a hs => ?_)
      exact ⟨_, _, _, _, _, _, _, (.int .i64 (w64 ((region.getD 0 0).tdiv 4))), _, _, _, _, _, _, _, _, _, _, _, _, _, _, _, _, _, _, _, _, _, _, _, _, _, _, _, _, by exact hs.setAt 7 rfl, HS, f0, f1, f2, f3, f4, f5, f6, fun _ => rfl, f8, f9, f10, f11, f12, f13, f14, f15, f16, f17, f18, f19, f20, f21, f22, f23, f24, f25, f26, f27, f28, f29, f30, f31, f32, f33, f34, f35⟩
     | 8, _ =>
      have h3 : b 3 = true := hd 3 (by decide)
      obtain rfl := f3 h3
      refine GO.at hs ?_
      refine GO.on rfl rfl rfl rfl ?_
      refine GO.move rfl rfl rfl ?_
      refine GO.back ?_
      refine GO.fin (fun a hs => ?_)
      exact ⟨_, _, _, _, _, _, _, _, (.slice A_region region.length c_region), _, _, _, _, _, _, _, _, _, _, _, _, _, _, _, _, _, _, _, _, _, _, _, _, _, _, _, by exact hs.setAt 8 rfl, HS, f0, f1, f2, f3, f4, f5, f6, f7, fun _ => rfl, f9, f10, f11, f12, f13, f14, f15, f16, f17, f18, f19, f20, f21, f22, f23, f24, f25, f26, f27, f28, f29, f30, f31, f32, f33, f34, f35⟩
     | 9, _ =>
      have h3 : b 3 = true := hd 3 (by decide)
      obtain rfl := f3 h3
      have h8 : b 8 = true := hd 8 (by decide)
      obtain rfl := f8 h8
      refine GO.at hs ?_
      refine GO.on rfl rfl rfl rfl ?_
      refine GO.ix rfl rfl rfl Try.underlying43 sz2 (h_region _ HS).2.2.1 c9.1 c9.2 rfl ?_
      refine GO.back ?_
      refine GO.fin (fun a hs => ?_)
      exact ⟨_, _, _, _, _, _, _, _, _, (.pointer (some (ea A_region (1 * 1)))), _, _, _, _, _, _, _, _, _, _, _, _, _, _, _, _, _, _, _, _, _, _, _, _, _, _, by exact hs.setAt 9 rfl, HS, f0, f1, f2, f3, f4, f5, f6, f7, f8, fun _ => rfl, f10, f11, f12, f13, f14, f15, f16, f17, f18, f19, f20, f21, f22, f23, f24, f25, f26, f27, f28, f29, f30, f31, f32, f33, f34, f35⟩
     | 10, _ =>
      have h3 : b 3 = true := hd 3 (by decide)
      obtain rfl := f3 h3
      have h9 : b 9 = true := hd 9 (by decide)
      obtain rfl := f9 h9
      refine GO.at hs ?_
      refine GO.on rfl rfl rfl rfl ?_
      refine GO.ldRd (T := (TInt .i64)) (n := 1) (o := 0) HS h_region rfl rfl (getD_some (d := 0) (ltN c9)) rfl rfl na2 rfl ?_
      refine GO.back ?_
      refine GO.fin (fun a hs => ?_)
      exact ⟨_, _, _, _, _, _, _, _, _, _, (.int .i64 (region.getD 1 0)), _, _, _, _, _, _, _, _, _, _, _, _, _, _, _, _, _, _, _, _, _, _, _, _, _, by exact hs.setAt 10 rfl, HS, f0, f1, f2, f3, f4, f5, f6, f7, f8, f9, fun _ => rfl, f11, f12, f13, f14, f15, f16, f17, f18, f19, f20, f21, f22, f23, f24, f25, f26, f27, f28, f29, f30, f31, f32, f33, f34, f35⟩
     | 11, _ =>
      have h3 : b 3 = true := hd 3 (by decide)
      obtain rfl := f3 h3
      have h10 : b 10 = true := hd 10 (by decide)
      obtain rfl := f10 h10
      refine GO.at hs ?_
      refine GO.on rfl rfl rfl rfl ?_
      refine GO.quo rfl rfl rfl (by decide) rfl ?_
      refine GO.back ?_
      refine GO.fin (fun a hs => ?_)
      exact ⟨_, _, _, _, _, _, _, _, _, _, _, (.int .i64 (w64 ((region.getD 1 0).tdiv 4))), _, _, _, _, _, _, _, _, _, _, _, _, _, _, _, _, _, _, _, _, _, _, _, _, by exact hs.setAt 11 rfl, HS, f0, f1, f2, f3, f4, f5, f6, f7, f8, f9, f10, fun _ => rfl, f12, f13, f14, f15, f16, f17, f18, f19, f20, f21, f22, f23, f24, f25, f26, f27, f28, f29, f30, f31, f32, f33, f34, f35⟩
     | 12, _ =>
      have h3 : b 3 = true := hd 3 (by decide)
      obtain rfl := f3 h3
      have h7 : b 7 = true := hd 7 (by decide)
      obtain rfl := f7 h7
      have h11 : b 11 = true := hd 11 (by decide)
      obtain rfl := f11 h11
      refine GO.at hs ?_
      refine GO.on rfl rfl rfl rfl ?_
      refine GO.eql rfl rfl rfl rfl ?_
      refine GO.back ?_
      refine GO.fin (fun a hs => ?_)
      exact ⟨_, _, _, _, _, _, _, _, _, _, _, _, (.bool (decide (w64 ((region.getD 0 0).tdiv 4) = w64 ((region.getD 1 0).tdiv 4)))), _, _, _, _, _, _, _, _, _, _, _, _, _, _, _, _, _, _, _, _, _, _, _, by exact hs.setAt 12 rfl, HS, f0, f1, f2, f3, f4, f5, f6, f7, f8, f9, f10, f11, fun _ => rfl, f13, f14, f15, f16, f17, f18, f19, f20, f21, f22, f23, f24, f25, f26, f27, f28, f29, f30, f31, f32, f33, f34, f35⟩
     | 13, _ =>
      have h3 : b 3 = true := hd 3 (by decide)
      obtain rfl := f3 h3
      have h12 : b 12 = true := hd 12 (by decide)
      obtain rfl := f12 h12
      refine GO.at hs ?_
      refine GO.pickF rfl rfl rfl rfl rfl ?_
      refine GO.fin (fun a hs => ?_)
      exact ⟨_, _, _, _, _, _, _, _, _, _, _, _, _, (.bool (decide (w64 ((region.getD 0 0).tdiv 4) = w64 ((region.getD 1 0).tdiv 4)))), _, _, _, _, _, _, _, _, _, _, _, _, _, _, _, _, _, _, _, _, _, _, by exact hs.setAt 13 rfl, HS, f0, f1, f2, f3, f4, f5, f6, f7, f8, f9, f10, f11, f12, fun _ => rfl, f14, f15, f16, f17, f18, f19, f20, f21, f22, f23, f24, f25, f26, f27, f28, f29, f30, f31, f32, f33, f34, f35⟩
     | 14, _ =>
      have h13 : b 13 = true := hd 13 (by decide)
      obtain rfl := f13 h13
      refine GO.at hs ?_
      refine GO.move rfl rfl rfl ?_
      refine GO.known (t := 23) rfl (decide_eq_true c10) ?_
      refine GO.fin (fun a hs => ?_)
      exact ⟨_, _, _, _, _, _, _, _, _, _, _, _, _, _, (.bool true), _, _, _, _, _, _, _, _, _, _, _, _, _, _, _, _, _, _, _, _, _, hs.weak ⟨rfl, rfl, rfl, rfl, rfl, rfl, rfl, rfl, rfl, rfl, rfl, rfl, rfl, rfl, rfl, rfl, rfl, rfl, rfl, rfl, rfl, rfl, rfl, rfl, rfl, rfl, rfl, rfl, rfl, rfl, rfl, rfl, rfl, rfl, rfl, rfl, rfl, trivial⟩, HS, f0, f1, f2, f3, f4, f5, f6, f7, f8, f9, f10, f11, f12, f13, fun _ => rfl, f15, f16, f17, f18, f19, f20, f21, f22, f23, f24, f25, f26, f27, f28, f29, f30, f31, f32, f33, f34, f35⟩
     | 15, _ =>
      have h14 : b 14 = true := hd 14 (by decide)
      obtain rfl := f14 h14
      refine GO.at hs ?_
      refine GO.off rfl rfl rfl rfl rfl rfl ?_
      refine GO.fin (fun a hs => ?_)
      exact ⟨_, _, _, _, _, _, _, _, _, _, _, _, _, _, _, (undef), _, _, _, _, _, _, _, _, _, _, _, _, _, _, _, _, _, _, _, _, by exact hs.setAt 15 rfl, HS, f0, f1, f2, f3, f4, f5, f6, f7, f8, f9, f10, f11, f12, f13, f14, fun _ => rfl, f16, f17, f18, f19, f20, f21, f22, f23, f24, f25, f26, f27, f28, f29, f30, f31, f32, f33, f34, f35⟩
     | 16, _ =>
      have h14 : b 14 = true := hd 14 (by decide)
      obtain rfl := f14 h14
      have h15 : b 15 = true := hd 15 (by decide)
      obtain rfl := f15 h15
      refine GO.at hs ?_
      refine GO.off rfl rfl rfl rfl rfl rfl ?_
      refine GO.fin (fun a hs => ?_)
      exact ⟨_, _, _, _, _, _, _, _, _, _, _, _, _, _, _, _, (undef), _, _, _, _, _, _, _, _, _, _, _, _, _, _, _, _, _, _, _, by exact hs.setAt 16 rfl, HS, f0, f1, f2, f3, f4, f5, f6, f7, f8, f9, f10, f11, f12, f13, f14, f15, fun _ => rfl, f17, f18, f19, f20, f21, f22, f23, f24, f25, f26, f27, f28, f29, f30, f31, f32, f33, f34, f35⟩
     | 17, _ =>
      have h14 : b 14 = true := hd 14 (by decide)
      obtain rfl := f14 h14
      have h16 : b 16 = true := hd 16 (by decide)
      obtain rfl := f16 h16
      refine GO.at hs ?_
      refine GO.off rfl rfl rfl rfl rfl rfl ?_
      refine GO.fin (fun a hs => ?_)
      exact ⟨_, _, _, _, _, _, _, _, _, _, _, _, _, _, _, _, _, (undef), _, _, _, _, _, _, _, _, _, _, _, _, _, _, _, _, _, _, by exact hs.setAt 17 rfl, HS, f0, f1, f2, f3, f4, f5, f6, f7, f8, f9, f10, f11, f12, f13, f14, f15, f16, fun _ => rfl, f18, f19, f20, f21, f22, f23, f24, f25, f26, f27, f28, f29, f30, f31, f32, f33, f34, f35⟩
     | 18, _ =>
      have h14 : b 14 = true := hd 14 (by decide)
      obtain rfl := f14 h14
      have h17 : b 17 = true := hd 17 (by decide)
      obtain rfl := f17 h17
      refine GO.at hs ?_
      refine GO.off rfl rfl rfl rfl rfl rfl ?_
      refine GO.fin (fun a hs => ?_)
      exact ⟨_, _, _, _, _, _, _, _, _, _, _, _, _, _, _, _, _, _, (undef), _, _, _, _, _, _, _, _, _, _, _, _, _, _, _, _, _, by exact hs.setAt 18 rfl, HS, f0, f1, f2, f3, f4, f5, f6, f7, f8, f9, f10, f11, f12, f13, f14, f15, f16, f17, fun _ => rfl, f19, f20, f21, f22, f23, f24, f25, f26, f27, f28, f29, f30, f31, f32, f33, f34, f35⟩
     | 19, _ =>
      have h14 : b 14 = true := hd 14 (by decide)
      obtain rfl := f14 h14
      refine GO.at hs ?_
      refine GO.off rfl rfl rfl rfl rfl rfl ?_
      refine GO.fin (fun a hs => ?_)
      exact ⟨_, _, _, _, _, _, _, _, _, _, _, _, _, _, _, _, _, _, _, (undef), _, _, _, _, _, _, _, _, _, _, _, _, _, _, _, _, by exact hs.setAt 19 rfl, HS, f0, f1, f2, f3, f4, f5, f6, f7, f8, f9, f10, f11, f12, f13, f14, f15, f16, f17, f18, fun _ => rfl, f20, f21, f22, f23, f24, f25, f26, f27, f28, f29, f30, f31, f32, f33, f34, f35⟩
     | 20, _ =>
      have h14 : b 14 = true := hd 14 (by decide)
      obtain rfl := f14 h14
      have h19 : b 19 = true := hd 19 (by decide)
      obtain rfl := f19 h19
      refine GO.at hs ?_
      refine GO.off rfl rfl rfl rfl rfl rfl ?_
      refine GO.fin (fun a hs => ?_)
      exact ⟨_, _, _, _, _, _, _, _, _, _, _, _, _, _, _, _, _, _, _, _, (undef), _, _, _, _, _, _, _, _, _, _, _, _, _, _, _, by exact hs.setAt 20 rfl, HS, f0, f1, f2, f3, f4, f5, f6, f7, f8, f9, f10, f11, f12, f13, f14, f15, f16, f17, f18, f19, fun _ => rfl, f21, f22, f23, f24, f25, f26, f27, f28, f29, f30, f31, f32, f33, f34, f35⟩
     | 21, _ =>
      have h14 : b 14 = true := hd 14 (by decide)
      obtain rfl := f14 h14
      have h20 : b 20 = true := hd 20 (by decide)
      obtain rfl := f20 h20
      refine GO.at hs ?_
      refine GO.off rfl rfl rfl rfl rfl rfl ?_
      refine GO.fin (fun a hs => ?_)
      exact ⟨_, _, _, _, _, _, _, _, _, _, _, _, _, _, _, _, _, _, _, _, _, (undef), _, _, _, _, _, _, _, _, _, _, _, _, _, _, by exact hs.setAt 21 rfl, HS, f0, f1, f2, f3, f4, f5, f6, f7, f8, f9, f10, f11, f12, f13, f14, f15, f16, f17, f18, f19, f20, fun _ => rfl, f22, f23, f24, f25, f26, f27, f28, f29, f30, f31, f32, f33, f34, f35⟩
     | 22, _ =>
      have h14 : b 14 = true := hd 14 (by decide)
      obtain rfl := f14 h14
      have h21 : b 21 = true := hd 21 (by decide)
      obtain rfl := f21 h21
      refine GO.at hs ?_
      refine GO.off rfl rfl rfl rfl rfl rfl ?_
      refine GO.fin (fun a hs => ?_)
      exact ⟨_, _, _, _, _, _, _, _, _, _, _, _, _, _, _, _, _, _, _, _, _, _, (undef), _, _, _, _, _, _, _, _, _, _, _, _, _, by exact hs.setAt 22 rfl, HS, f0, f1, f2, f3, f4, f5, f6, f7, f8, f9, f10, f11, f12, f13, f14, f15, f16, f17, f18, f19, f20, f21, fun _ => rfl, f23, f24, f25, f26, f27, f28, f29, f30, f31, f32, f33, f34, f35⟩
     | 23, _ =>
      have h14 : b 14 = true := hd 14 (by decide)
      obtain rfl := f14 h14
      have h18 : b 18 = true := hd 18 (by decide)
      obtain rfl := f18 h18
      have h22 : b 22 = true := hd 22 (by decide)
      obtain rfl := f22 h22
      refine GO.at hs ?_
      refine GO.off rfl rfl rfl rfl rfl rfl ?_
      refine GO.fin (fun a hs => ?_)
      exact ⟨_, _, _, _, _, _, _, _, _, _, _, _, _, _, _, _, _, _, _, _, _, _, _, (undef), _, _, _, _, _, _, _, _, _, _, _, _, by exact hs.setAt 23 rfl, HS, f0, f1, f2, f3, f4, f5, f6, f7, f8, f9, f10, f11, f12, f13, f14, f15, f16, f17, f18, f19, f20, f21, f22, fun _ => rfl, f24, f25, f26, f27, f28, f29, f30, f31, f32, f33, f34, f35⟩
     | 24, _ =>
      have h14 : b 14 = true := hd 14 (by decide)
      obtain rfl := f14 h14
      have h23 : b 23 = true := hd 23 (by decide)
      obtain rfl := f23 h23
      refine GO.at hs ?_
      refine GO.pickT rfl rfl rfl rfl rfl ?_
      refine GO.fin (fun a hs => ?_)
      exact ⟨_, _, _, _, _, _, _, _, _, _, _, _, _, _, _, _, _, _, _, _, _, _, _, _, (.bool true), _, _, _, _, _, _, _, _, _, _, _, by exact hs.setAt 24 rfl, HS, f0, f1, f2, f3, f4, f5, f6, f7, f8, f9, f10, f11, f12, f13, f14, f15, f16, f17, f18, f19, f20, f21, f22, f23, fun _ => rfl, f25, f26, f27, f28, f29, f30, f31, f32, f33, f34, f35⟩
     | 25, _ =>
      have h24 : b 24 = true := hd 24 (by decide)
      obtain rfl := f24 h24
      refine GO.at hs ?_
      refine GO.move rfl rfl rfl ?_
      refine GO.fin (fun a hs => ?_)
      exact ⟨_, _, _, _, _, _, _, _, _, _, _, _, _, _, _, _, _, _, _, _, _, _, _, _, _, (.bool true), _, _, _, _, _, _, _, _, _, _, by exact hs.setAt 25 rfl, HS, f0, f1, f2, f3, f4, f5, f6, f7, f8, f9, f10, f11, f12, f13, f14, f15, f16, f17, f18, f19, f20, f21, f22, f23, f24, fun _ => rfl, f26, f27, f28, f29, f30, f31, f32, f33, f34, f35⟩
     | 26, _ =>
      have h25 : b 25 = true := hd 25 (by decide)
      obtain rfl := f25 h25
      refine GO.at hs ?_
      refine GO.off rfl rfl rfl rfl rfl rfl ?_
      refine GO.fin (fun a hs => ?_)
      exact ⟨_, _, _, _, _, _, _, _, _, _, _, _, _, _, _, _, _, _, _, _, _, _, _, _, _, _, (undef), _, _, _, _, _, _, _, _, _, by exact hs.setAt 26 rfl, HS, f0, f1, f2, f3, f4, f5, f6, f7, f8, f9, f10, f11, f12, f13, f14, f15, f16, f17, f18, f19, f20, f21, f22, f23, f24, f25, fun _ => rfl, f27, f28, f29, f30, f31, f32, f33, f34, f35⟩
     | 27, _ =>
      have h25 : b 25 = true := hd 25 (by decide)
      obtain rfl := f25 h25
      have h26 : b 26 = true := hd 26 (by decide)
      obtain rfl := f26 h26
      refine GO.at hs ?_
      refine GO.off rfl rfl rfl rfl rfl rfl ?_
      refine GO.fin (fun a hs => ?_)
      exact ⟨_, _, _, _, _, _, _, _, _, _, _, _, _, _, _, _, _, _, _, _, _, _, _, _, _, _, _, (undef), _, _, _, _, _, _, _, _, by exact hs.setAt 27 rfl, HS, f0, f1, f2, f3, f4, f5, f6, f7, f8, f9, f10, f11, f12, f13, f14, f15, f16, f17, f18, f19, f20, f21, f22, f23, f24, f25, f26, fun _ => rfl, f28, f29, f30, f31, f32, f33, f34, f35⟩
     | 28, _ =>
      have h25 : b 25 = true := hd 25 (by decide)
      obtain rfl := f25 h25
      have h27 : b 27 = true := hd 27 (by decide)
      obtain rfl := f27 h27
      refine GO.at hs ?_
      refine GO.off rfl rfl rfl rfl rfl rfl ?_
      refine GO.fin (fun a hs => ?_)
      exact ⟨_, _, _, _, _, _, _, _, _, _, _, _, _, _, _, _, _, _, _, _, _, _, _, _, _, _, _, _, (undef), _, _, _, _, _, _, _, by exact hs.setAt 28 rfl, HS, f0, f1, f2, f3, f4, f5, f6, f7, f8, f9, f10, f11, f12, f13, f14, f15, f16, f17, f18, f19, f20, f21, f22, f23, f24, f25, f26, f27, fun _ => rfl, f29, f30, f31, f32, f33, f34, f35⟩
     | 29, _ =>
      have h25 : b 25 = true := hd 25 (by decide)
      obtain rfl := f25 h25
      have h28 : b 28 = true := hd 28 (by decide)
      obtain rfl := f28 h28
      refine GO.at hs ?_
      refine GO.off rfl rfl rfl rfl rfl rfl ?_
      refine GO.fin (fun a hs => ?_)
      exact ⟨_, _, _, _, _, _, _, _, _, _, _, _, _, _, _, _, _, _, _, _, _, _, _, _, _, _, _, _, _, (undef), _, _, _, _, _, _, by exact hs.setAt 29 rfl, HS, f0, f1, f2, f3, f4, f5, f6, f7, f8, f9, f10, f11, f12, f13, f14, f15, f16, f17, f18, f19, f20, f21, f22, f23, f24, f25, f26, f27, f28, fun _ => rfl, f30, f31, f32, f33, f34, f35⟩
     | 30, _ =>
      have h25 : b 25 = true := hd 25 (by decide)
      obtain rfl := f25 h25
      refine GO.at hs ?_
      refine GO.off rfl rfl rfl rfl rfl rfl ?_
      refine GO.fin (fun a hs => ?_)
      exact ⟨_, _, _, _, _, _, _, _, _, _, _, _, _, _, _, _, _, _, _, _, _, _, _, _, _, _, _, _, _, _, (undef), _, _, _, _, _, by exact hs.setAt 30 rfl, HS, f0, f1, f2, f3, f4, f5, f6, f7, f8, f9, f10, f11, f12, f13, f14, f15, f16, f17, f18, f19, f20, f21, f22, f23, f24, f25, f26, f27, f28, f29, fun _ => rfl, f31, f32, f33, f34, f35⟩
     | 31, _ =>
      have h25 : b 25 = true := hd 25 (by decide)
      obtain rfl := f25 h25
      have h30 : b 30 = true := hd 30 (by decide)
      obtain rfl := f30 h30
      refine GO.at hs ?_
      refine GO.off rfl rfl rfl rfl rfl rfl ?_
      refine GO.fin (fun a hs => ?_)
      exact ⟨_, _, _, _, _, _, _, _, _, _, _, _, _, _, _, _, _, _, _, _, _, _, _, _, _, _, _, _, _, _, _, (undef), _, _, _, _, by exact hs.setAt 31 rfl, HS, f0, f1, f2, f3, f4, f5, f6, f7, f8, f9, f10, f11, f12, f13, f14, f15, f16, f17, f18, f19, f20, f21, f22, f23, f24, f25, f26, f27, f28, f29, f30, fun _ => rfl, f32, f33, f34, f35⟩
     | 32, _ =>
      have h25 : b 25 = true := hd 25 (by decide)
      obtain rfl := f25 h25
      have h31 : b 31 = true := hd 31 (by decide)
      obtain rfl := f31 h31
      refine GO.at hs ?_
      refine GO.off rfl rfl rfl rfl rfl rfl ?_
      refine GO.fin (fun a hs => ?_)
      exact ⟨_, _, _, _, _, _, _, _, _, _, _, _, _, _, _, _, _, _, _, _, _, _, _, _, _, _, _, _, _, _, _, _, (undef), _, _, _, by exact hs.setAt 32 rfl, HS, f0, f1, f2, f3, f4, f5, f6, f7, f8, f9, f10, f11, f12, f13, f14, f15, f16, f17, f18, f19, f20, f21, f22, f23, f24, f25, f26, f27, f28, f29, f30, f31, fun _ => rfl, f33, f34, f35⟩
     | 33, _ =>
      have h25 : b 25 = true := hd 25 (by decide)
      obtain rfl := f25 h25
      have h32 : b 32 = true := hd 32 (by decide)
      obtain rfl := f32 h32
      refine GO.at hs ?_
      refine GO.off rfl rfl rfl rfl rfl rfl ?_
      refine GO.fin (fun a hs => ?_)
      exact ⟨_, _, _, _, _, _, _, _, _, _, _, _, _, _, _, _, _, _, _, _, _, _, _, _, _, _, _, _, _, _, _, _, _, (undef), _, _, by exact hs.setAt 33 rfl, HS, f0, f1, f2, f3, f4, f5, f6, f7, f8, f9, f10, f11, f12, f13, f14, f15, f16, f17, f18, f19, f20, f21, f22, f23, f24, f25, f26, f27, f28, f29, f30, f31, f32, fun _ => rfl, f34, f35⟩
     | 34, _ =>
      have h25 : b 25 = true := hd 25 (by decide)
      obtain rfl := f25 h25
      have h29 : b 29 = true := hd 29 (by decide)
      obtain rfl := f29 h29
      have h33 : b 33 = true := hd 33 (by decide)
      obtain rfl := f33 h33
      refine GO.at hs ?_
      refine GO.off rfl rfl rfl rfl rfl rfl ?_
      refine GO.fin (fun a hs => ?_)
      exact ⟨_, _, _, _, _, _, _, _, _, _, _, _, _, _, _, _, _, _, _, _, _, _, _, _, _, _, _, _, _, _, _, _, _, _, (undef), _, by exact hs.setAt 34 rfl, HS, f0, f1, f2, f3, f4, f5, f6, f7, f8, f9, f10, f11, f12, f13, f14, f15, f16, f17, f18, f19, f20, f21, f22, f23, f24, f25, f26, f27, f28, f29, f30, f31, f32, f33, fun _ => rfl, f35⟩
     | 35, _ =>
      have h25 : b 25 = true := hd 25 (by decide)
      obtain rfl := f25 h25
      have h34 : b 34 = true := hd 34 (by decide)
      obtain rfl := f34 h34
      refine GO.at hs ?_
      refine GO.pickT rfl rfl rfl rfl rfl ?_
      refine GO.fin (fun a hs => ?_)
      exact ⟨_, _, _, _, _, _, _, _, _, _, _, _, _, _, _, _, _, _, _, _, _, _, _, _, _, _, _, _, _, _, _, _, _, _, _, (.bool true), by exact hs.setAt 35 rfl, HS, f0, f1, f2, f3, f4, f5, f6, f7, f8, f9, f10, f11, f12, f13, f14, f15, f16, f17, f18, f19, f20, f21, f22, f23, f24, f25, f26, f27, f28, f29, f30, f31, f32, f33, f34, fun _ => rfl⟩
     | k + 36, hj => exact absurd hj (Nat.not_lt.2 (Nat.le_add_left 36 k))
    ·
     intro b a w hall
     refine exI fun Y1_0 => exI fun Y2_1 => exI fun Y3_2 => exI fun Y4_3 => exI fun Y5_4 => exI fun Y6_5 => exI fun Y7_6 => exI fun Y8_7 => exI fun Y9_8 => exI fun Y10_9 => exI fun Y11_10 => exI fun Y12_11 => exI fun Y13_12 => exI fun Y14_13 => exI fun Y15_14 => exI fun Y16_15 => exI fun Y17_16 => exI fun Y18_17 => exI fun Y19_18 => exI fun Y20_19 => exI fun Y21_20 => exI fun Y22_21 => exI fun Y23_22 => exI fun Y24_23 => exI fun Y25_24 => exI fun Y26_25 => exI fun Y27_26 => exI fun Y28_27 => exI fun Y29_28 => exI fun Y30_29 => exI fun Y31_30 => exI fun Y32_31 => exI fun Y33_32 => exI fun Y34_33 => exI fun Y35_34 => exI fun Y36_35 => anI fun hs => anI fun HS => anI fun f0 => anI fun f1 => anI fun f2 => anI fun f3 => anI fun f4 => anI fun f5 => anI fun f6 => anI fun f7 => anI fun f8 => anI fun f9 => anI fun f10 => anI fun f11 => anI fun f12 => anI fun f13 => anI fun f14 => anI fun f15 => anI fun f16 => anI fun f17 => anI fun f18 => anI fun f19 => anI fun f20 => anI fun f21 => anI fun f22 => anI fun f23 => anI fun f24 => anI fun f25 => anI fun f26 => anI fun f27 => anI fun f28 => anI fun f29 => anI fun f30 => anI fun f31 => anI fun f32 => anI fun f33 => anI fun f34 => fun f35 => ?_
     obtain rfl := f0 (hall 0 (by decide))
     obtain rfl := f1 (hall 1 (by decide))
     obtain rfl := f2 (hall 2 (by decide))
     obtain rfl := f3 (hall 3 (by decide))
     obtain rfl := f4 (hall 4 (by decide))
     obtain rfl := f5 (hall 5 (by decide))
     obtain rfl := f6 (hall 6 (by decide))
     obtain rfl := f7 (hall 7 (by decide))
     obtain rfl := f8 (hall 8 (by decide))
     obtain rfl := f9 (hall 9 (by decide))
     obtain rfl := f10 (hall 10 (by decide))
     obtain rfl := f11 (hall 11 (by decide))
     obtain rfl := f12 (hall 12 (by decide))
     obtain rfl := f13 (hall 13 (by decide))
     obtain rfl := f14 (hall 14 (by decide))
     obtain rfl := f15 (hall 15 (by decide))
     obtain rfl := f16 (hall 16 (by decide))
     obtain rfl := f17 (hall 17 (by decide))
     obtain rfl := f18 (hall 18 (by decide))
     obtain rfl := f19 (hall 19 (by decide))
     obtain rfl := f20 (hall 20 (by decide))
     obtain rfl := f21 (hall 21 (by decide))
     obtain rfl := f22 (hall 22 (by decide))
     obtain rfl := f23 (hall 23 (by decide))
     obtain rfl := f24 (hall 24 (by decide))
     obtain rfl := f25 (hall 25 (by decide))
     obtain rfl := f26 (hall 26 (by decide))
     obtain rfl := f27 (hall 27 (by decide))
     obtain rfl := f28 (hall 28 (by decide))
     obtain rfl := f29 (hall 29 (by decide))
     obtain rfl := f30 (hall 30 (by decide))
     obtain rfl := f31 (hall 31 (by decide))
     obtain rfl := f32 (hall 32 (by decide))
     obtain rfl := f33 (hall 33 (by decide))
     obtain rfl := f34 (hall 34 (by decide))
     obtain rfl := f35 (hall 35 (by decide))
     refine G.at hs ?_
     refine G.yesB rfl rfl ?_
     refine G.seq ?_
     refine G.region ?_
     refine GO.assign rfl rfl rfl ?_
     refine GO.nil ?_
     obtain rfl := Option.some.inj H
     exact G.ret1 _ Try.func124 rfl rfl ⟨rfl, HS⟩
   ·
    obtain ⟨c11, H⟩ := ite_none H
    rcases ite_elim H with ⟨c12, H⟩ | ⟨c12, H⟩
    ·
     refine G.regionAny mixed (by decide) (fun b a w => ∃ (Y37_0 : Value) (Y38_1 : Value) (Y39_2 : Value) (Y40_3 : Value) (Y41_4 : Value) (Y42_5 : Value) (Y43_6 : Value) (Y44_7 : Value) (Y45_8 : Value) (Y46_9 : Value) (Y47_10 : Value) (Y48_11 : Value) (Y49_12 : Value) (Y50_13 : Value) (Y51_14 : Value) (Y52_15 : Value) (Y53_16 : Value) (Y54_17 : Value) (Y55_18 : Value) (Y56_19 : Value) (Y57_20 : Value) (Y58_21 : Value) (Y59_22 : Value) (Y60_23 : Value) (Y61_24 : Value) (Y62_25 : Value) (Y63_26 : Value) (Y64_27 : Value) (Y65_28 : Value) (Y66_29 : Value) (Y67_30 : Value) (Y68_31 : Value) (Y69_32 : Value) (Y70_33 : Value) (Y71_34 : Value) (Y72_35 : Value), Sat 85 [(9, Y37_0), (10, Y38_1), (11, Y39_2), (12, Y40_3), (13, Y41_4), (14, Y42_5), (15, Y43_6), (16, Y44_7), (17, Y45_8), (18, Y46_9), (19, Y47_10), (20, Y48_11), (21, Y49_12), (22, Y50_13), (23, Y51_14), (24, Y52_15), (25, Y53_16), (26, Y54_17), (27, Y55_18), (28, Y56_19), (29, Y57_20), (30, Y58_21), (31, Y59_22), (32, Y60_23), (33, Y61_24), (34, Y62_25), (35, Y63_26), (36, Y64_27), (37, Y65_28), (38, Y66_29), (39, Y67_30), (40, Y68_31), (41, Y69_32), (42, Y70_33), (43, Y71_34), (44, Y72_35), (0, .slice A_region region.length c_region)] a ∧ St w0 w (L) ∧ (b 0 = true → Y37_0 = (.slice A_region region.length c_region)) ∧ (b 1 = true → Y38_1 = (.int .i64 (region.length : Int))) ∧ (b 2 = true → Y39_2 = (.bool (!(decide ((region.length : Int) = 3))))) ∧ (b 3 = true → Y40_3 = (.bool false)) ∧ (b 4 = true → Y41_4 = (.slice A_region region.length c_region)) ∧ (b 5 = true → Y42_5 = (.pointer (some (ea A_region (0 * 1))))) ∧ (b 6 = true → Y43_6 = (.int .i64 (region.getD 0 0))) ∧ (b 7 = true → Y44_7 = (.int .i64 (w64 ((region.getD 0 0).tdiv 4)))) ∧ (b 8 = true → Y45_8 = (.slice A_region region.length c_region)) ∧ (b 9 = true → Y46_9 = (.pointer (some (ea A_region (1 * 1))))) ∧ (b 10 = true → Y47_10 = (.int .i64 (region.getD 1 0))) ∧ (b 11 = true → Y48_11 = (.int .i64 (w64 ((region.getD 1 0).tdiv 4)))) ∧ (b 12 = true → Y49_12 = (.bool (decide (w64 ((region.getD 0 0).tdiv 4) = w64 ((region.getD 1 0).tdiv 4))))) ∧ (b 13 = true → Y50_13 = (.bool (decide (w64 ((region.getD 0 0).tdiv 4) = w64 ((region.getD 1 0).tdiv 4))))) ∧ (b 14 = true → Y51_14 = (.bool false)) ∧ (b 15 = true → Y52_15 = (.slice A_region region.length c_region)) ∧ (b 16 = true → Y53_16 = (.pointer (some (ea A_region (1 * 1))))) ∧ (b 17 = true → Y54_17 = (.int .i64 (region.getD 1 0))) ∧ (b 18 = true → Y55_18 = (.int .i64 (w64 ((region.getD 1 0).tdiv 4)))) ∧ (b 19 = true → Y56_19 = (.slice A_region region.length c_region)) ∧ (b 20 = true → Y57_20 = (.pointer (some (ea A_region (2 * 1))))) ∧ (b 21 = true → Y58_21 = (.int .i64 (region.getD 2 0))) ∧ (b 22 = true → Y59_22 = (.int .i64 (w64 ((region.getD 2 0).tdiv 4)))) ∧ (b 23 = true → Y60_23 = (.bool (decide (w64 ((region.getD 1 0).tdiv 4) = w64 ((region.getD 2 0).tdiv 4))))) ∧ (b 24 = true → Y61_24 = (.bool (decide (w64 ((region.getD 1 0).tdiv 4) = w64 ((region.getD 2 0).tdiv 4))))) ∧ (b 25 = true → Y62_25 = (.bool true)) ∧ (b 26 = true → Y63_26 = (undef)) ∧ (b 27 = true → Y64_27 = (undef)) ∧ (b 28 = true → Y65_28 = (undef)) ∧ (b 29 = true → Y66_29 = (undef)) ∧ (b 30 = true → Y67_30 = (undef)) ∧ (b 31 = true → Y68_31 = (undef)) ∧ (b 32 = true → Y69_32 = (undef)) ∧ (b 33 = true → Y70_33 = (undef)) ∧ (b 34 = true → Y71_34 = (undef)) ∧ (b 35 = true → Y72_35 = (.bool true))) ?_ ?_ ?_
     ·
      intro a hs
      obtain ⟨Y37_0, hs⟩ := hs.ext (d := 9) rfl
      obtain ⟨Y38_1, hs⟩ := hs.ext (d := 10) rfl
      obtain ⟨Y39_2, hs⟩ := hs.ext (d := 11) rfl
      obtain ⟨Y40_3, hs⟩ := hs.ext (d := 12) rfl
      obtain ⟨Y41_4, hs⟩ := hs.ext (d := 13) rfl
      obtain ⟨Y42_5, hs⟩ := hs.ext (d := 14) rfl
      obtain ⟨Y43_6, hs⟩ := hs.ext (d := 15) rfl
      obtain ⟨Y44_7, hs⟩ := hs.ext (d := 16) rfl
      obtain ⟨Y45_8, hs⟩ := hs.ext (d := 17) rfl
      obtain ⟨Y46_9, hs⟩ := hs.ext (d := 18) rfl
      obtain ⟨Y47_10, hs⟩ := hs.ext (d := 19) rfl
      obtain ⟨Y48_11, hs⟩ := hs.ext (d := 20) rfl
      obtain ⟨Y49_12, hs⟩ := hs.ext (d := 21) rfl
      obtain ⟨Y50_13, hs⟩ := hs.ext (d := 22) rfl
      obtain ⟨Y51_14, hs⟩ := hs.ext (d := 23) rfl
      obtain ⟨Y52_15, hs⟩ := hs.ext (d := 24) rfl
      obtain ⟨Y53_16, hs⟩ := hs.ext (d := 25) rfl
      obtain ⟨Y54_17, hs⟩ := hs.ext (d := 26) rfl
      obtain ⟨Y55_18, hs⟩ := hs.ext (d := 27) rfl
      obtain ⟨Y56_19, hs⟩ := hs.ext (d := 28) rfl
      obtain ⟨Y57_20, hs⟩ := hs.ext (d := 29) rfl
      obtain ⟨Y58_21, hs⟩ := hs.ext (d := 30) rfl
      obtain ⟨Y59_22, hs⟩ := hs.ext (d := 31) rfl
      obtain ⟨Y60_23, hs⟩ := hs.ext (d := 32) rfl
      obtain ⟨Y61_24, hs⟩ := hs.ext (d := 33) rfl
      obtain ⟨Y62_25, hs⟩ := hs.ext (d := 34) rfl
      obtain ⟨Y63_26, hs⟩ := hs.ext (d := 35) rfl
      obtain ⟨Y64_27, hs⟩ := hs.ext (d := 36) rfl
      obtain ⟨Y65_28, hs⟩ := hs.ext (d := 37) rfl
      obtain ⟨Y66_29, hs⟩ := hs.ext (d := 38) rfl
      obtain ⟨Y67_30, hs⟩ := hs.ext (d := 39) rfl
      obtain ⟨Y68_31, hs⟩ := hs.ext (d := 40) rfl
      obtain ⟨Y69_32, hs⟩ := hs.ext (d := 41) rfl
      obtain ⟨Y70_33, hs⟩ := hs.ext (d := 42) rfl
      obtain ⟨Y71_34, hs⟩ := hs.ext (d := 43) rfl
      obtain ⟨Y72_35, hs⟩ := hs.ext (d := 44) rfl
      exact ⟨Y37_0, Y38_1, Y39_2, Y40_3, Y41_4, Y42_5, Y43_6, Y44_7, Y45_8, Y46_9, Y47_10, Y48_11, Y49_12, Y50_13, Y51_14, Y52_15, Y53_16, Y54_17, Y55_18, Y56_19, Y57_20, Y58_21, Y59_22, Y60_23, Y61_24, Y62_25, Y63_26, Y64_27, Y65_28, Y66_29, Y67_30, Y68_31, Y69_32, Y70_33, Y71_34, Y72_35, hs.weak ⟨rfl, rfl, rfl, rfl, rfl, rfl, rfl, rfl, rfl, rfl, rfl, rfl, rfl, rfl, rfl, rfl, rfl, rfl, rfl, rfl, rfl, rfl, rfl, rfl, rfl, rfl, rfl, rfl, rfl, rfl, rfl, rfl, rfl, rfl, rfl, rfl, rfl, trivial⟩, (HS.drew.pick 0 []), fun h => Bool.noConfusion h, fun h => Bool.noConfusion h, fun h => Bool.noConfusion h, fun h => Bool.noConfusion h, fun h => Bool.noConfusion h, fun h => Bool.noConfusion h, fun h => Bool.noConfusion h, fun h => Bool.noConfusion h, fun h => Bool.noConfusion h, fun h => Bool.noConfusion h, fun h => Bool.noConfusion h, fun h => Bool.noConfusion h, fun h => Bool.noConfusion h, fun h => Bool.noConfusion h, fun h => Bool.noConfusion h, fun h => Bool.noConfusion h, fun h => Bool.noConfusion h, fun h => Bool.noConfusion h, fun h => Bool.noConfusion h, fun h => Bool.noConfusion h, fun h => Bool.noConfusion h, fun h => Bool.noConfusion h, fun h => Bool.noConfusion h, fun h => Bool.noConfusion h, fun h => Bool.noConfusion h, fun h => Bool.noConfusion h, fun h => Bool.noConfusion h, fun h => Bool.noConfusion h, fun h => Bool.noConfusion h, fun h => Bool.noConfusion h, fun h => Bool.noConfusion h, fun h => Bool.noConfusion h, fun h => Bool.noConfusion h, fun h => Bool.noConfusion h, fun h => Bool.noConfusion h, fun h => Bool.noConfusion h⟩
     ·
      intro j hj b a w
      refine exI fun Y37_0 => exI fun Y38_1 => exI fun Y39_2 => exI fun Y40_3 => exI fun Y41_4 => exI fun Y42_5 => exI fun Y43_6 => exI fun Y44_7 => exI fun Y45_8 => exI fun Y46_9 => exI fun Y47_10 => exI fun Y48_11 => exI fun Y49_12 => exI fun Y50_13 => exI fun Y51_14 => exI fun Y52_15 => exI fun Y53_16 => exI fun Y54_17 => exI fun Y55_18 => exI fun Y56_19 => exI fun Y57_20 => exI fun Y58_21 => exI fun Y59_22 => exI fun Y60_23 => exI fun Y61_24 => exI fun Y62_25 => exI fun Y63_26 => exI fun Y64_27 => exI fun Y65_28 => exI fun Y66_29 => exI fun Y67_30 => exI fun Y68_31 => exI fun Y69_32 => exI fun Y70_33 => exI fun Y71_34 => exI fun Y72_35 => anI fun hs => anI fun HS => anI fun f0 => anI fun f1 => anI fun f2 => anI fun f3 => anI fun f4 => anI fun f5 => anI fun f6 => anI fun f7 => anI fun f8 => anI fun f9 => anI fun f10 => anI fun f11 => anI fun f12 => anI fun f13 => anI fun f14 => anI fun f15 => anI fun f16 => anI fun f17 => anI fun f18 => anI fun f19 => anI fun f20 => anI fun f21 => anI fun f22 => anI fun f23 => anI fun f24 => anI fun f25 => anI fun f26 => anI fun f27 => anI fun f28 => anI fun f29 => anI fun f30 => anI fun f31 => anI fun f32 => anI fun f33 => anI fun f34 => fun f35 hb hd hcl => ?_
      match j, hj with
      | 0, _ =>
       refine GO.at hs ?_
       refine GO.move rfl rfl rfl ?_
       refine GO.fin (fun a hs => ?_)
       exact ⟨(.slice A_region region.length c_region), _, _, _, _, _, _, _, _, _, _, _, _, _, _, _, _, _, _, _, _, _, _, _, _, _, _, _, _, _, _, _, _, _, _, _, by exact hs.setAt 0 rfl, HS, fun _ => rfl, f1, f2, f3, f4, f5, f6, f7, f8, f9, f10, f11, f12, f13, f14, f15, f16, f17, f18, f19, f20, f21, f22, f23, f24, f25, f26, f27, f28, f29, f30, f31, f32, f33, f34, f35⟩
      | 1, _ =>
       have h0 : b 0 = true := hd 0 (by decide)
       obtain rfl := f0 h0
       refine GO.at hs ?_
       refine GO.lenS rfl rfl Try.underlying43 rfl ?_
       refine GO.fin (fun a hs => ?_)
       exact ⟨_, (.int .i64 (region.length : Int)), _, _, _, _, _, _, _, _, _, _, _, _, _, _, _, _, _, _, _, _, _, _, _, _, _, _, _, _, _, _, _, _, _, _, by exact hs.setAt 1 rfl, HS, f0, fun _ => rfl, f2, f3, f4, f5, f6, f7, f8, f9, f10, f11, f12, f13, f14, f15, f16, f17, f18, f19, f20, f21, f22, f23, f24, f25, f26, f27, f28, f29, f30, f31, f32, f33, f34, f35⟩
      | 2, _ =>
       have h1 : b 1 = true := hd 1 (by decide)
       obtain rfl := f1 h1
       refine GO.at hs ?_
       refine GO.neq rfl rfl rfl rfl ?_
       refine GO.fin (fun a hs => ?_)
       exact ⟨_, _, (.bool (!(decide ((region.length : Int) = 3)))), _, _, _, _, _, _, _, _, _, _, _, _, _, _, _, _, _, _, _, _, _, _, _, _, _, _, _, _, _, _, _, _, _, by exact hs.setAt 2 rfl, HS, f0, f1, fun _ => rfl, f3, f4, f5, f6, f7, f8, f9, f10, f11, f12, f13, f14, f15, f16, f17, f18, f19, f20, f21, f22, f23, f24, f25, f26, f27, f28, f29, f30, f31, f32, f33, f34, f35⟩
      | 3, _ =>
       have h2 : b 2 = true := hd 2 (by decide)
       obtain rfl := f2 h2
       refine GO.at hs ?_
       refine GO.move rfl rfl rfl ?_
       refine GO.known (t := 12) rfl (congrArg Bool.not (decide_eq_true c7)) ?_
       refine GO.fin (fun a hs => ?_)
       exact ⟨_, _, _, (.bool false), _, _, _, _, _, _, _, _, _, _, _, _, _, _, _, _, _, _, _, _, _, _, _, _, _, _, _, _, _, _, _, _, hs.weak ⟨rfl, rfl, rfl, rfl, rfl, rfl, rfl, rfl, rfl, rfl, rfl, rfl, rfl, rfl, rfl, rfl, rfl, rfl, rfl, rfl, rfl, rfl, rfl, rfl, rfl, rfl, rfl, rfl, rfl, rfl, rfl, rfl, rfl, rfl, rfl, rfl, rfl, trivial⟩, HS, f0, f1, f2, fun _ => rfl, f4, f5, f6, f7, f8, f9, f10, f11, f12, f13, f14, f15, f16, f17, f18, f19, f20, f21, f22, f23, f24, f25, f26, f27, f28, f29, f30, f31, f32, f33, f34, f35⟩
      | 4, _ =>
       have h3 : b 3 = true := hd 3 (by decide)
       obtain rfl := f3 h3
       refine GO.at hs ?_
       refine GO.on rfl rfl rfl rfl ?_
       refine GO.move rfl rfl rfl ?_
       refine GO.back ?_
       refine GO.fin (fun a hs => ?_)
       exact ⟨_, _, _, _, (.slice A_region region.length c_region), _, _, _, _, _, _, _, _, _, _, _, _, _, _, _, _, _, _, _, _, _, _, _, _, _, _, _, _, _, _, _, by exact hs.setAt 4 rfl, HS, f0, f1, f2, f3, fun _ => rfl, f5, f6, f7, f8, f9, f10, f11, f12, f13, f14, f15, f16, f17, f18, f19, f20, f21, f22, f23, f24, f25, f26, f27, f28, f29, f30, f31, f32, f33, f34, f35⟩
      | 5, _ =>
       have h3 : b 3 = true := hd 3 (by decide)
       obtain rfl := f3 h3
       have h4 : b 4 = true := hd 4 (by decide)
       obtain rfl := f4 h4
       refine GO.at hs ?_
       refine GO.on rfl rfl rfl rfl ?_
       refine GO.ix rfl rfl rfl Try.underlying43 sz2 (h_region _ HS).2.2.1 c8.1 c8.2 rfl ?_
       refine GO.back ?_
       refine GO.fin (fun a hs => ?_)
       exact ⟨_, _, _, _, _, (.pointer (some (ea A_region (0 * 1)))), _, _, _, _, _, _, _, _, _, _, _, _, _, _, _, _, _, _, _, _, _, _, _, _, _, _, _, _, _, _, by exact hs.setAt 5 rfl, HS, f0, f1, f2, f3, f4, fun _ => rfl, f6, f7, f8, f9, f10, f11, f12, f13, f14, f15, f16, f17, f18, f19, f20, f21, f22, f23, f24, f25, f26, f27, f28, f29, f30, f31, f32, f33, f34, f35⟩
      | 6, _ =>
       have h3 : b 3 = true := hd 3 (by decide)
       obtain rfl := f3 h3
       have h5 : b 5 = true := hd 5 (by decide)
       obtain rfl := f5 h5
       refine GO.at hs ?_
       refine GO.on rfl rfl rfl rfl ?_
       refine GO.ldRd (T := (TInt .i64)) (n := 0) (o := 0) HS h_region rfl rfl (getD_some (d := 0) (ltN c8)) rfl rfl na2 rfl ?_
       refine GO.back ?_
       refine GO.fin (fun a hs => ?_)
       exact ⟨_, _, _, _, _, _, (.int .i64 (region.getD 0 0)), _, _, _, _, _, _, _, _, _, _, _, _, _, _, _, _, _, _, _, _, _, _, _, _, _, _, _, _, _, by exact hs.setAt 6 rfl, HS, f0, f1, f2, f3, f4, f5, fun _ => rfl, f7, f8, f9, f10, f11, f12, f13, f14, f15, f16, f17, f18, f19, f20, f21, f22, f23, f24, f25, f26, f27, f28, f29, f30, f31, f32, f33, f34, f35⟩
      | 7, _ =>
       have h3 : b 3 = true := hd 3 (by decide)
       obtain rfl := f3 h3
       have h6 : b 6 = true := hd 6 (by decide)
       obtain rfl := f6 h6
       refine GO.at hs ?_
       refine GO.on rfl rfl rfl rfl ?_
       refine GO.quo rfl rfl rfl (by decide) rfl ?_
       refine GO.back ?_
       refine GO.fin (fun a hs => ?_)
       exact ⟨_, _, _, _, _, _, _, (.int .i64 (w64 ((region.getD 0 0).tdiv 4))), _, _, _, _, _, _, _, _, _, _, _, _, _, _, _, _, _, _, _, _, _, _, _, _, _, _, _, _, by exact hs.setAt 7 rfl, HS, f0, f1, f2, f3, f4, f5, f6, fun _ => rfl, f8, f9, f10, f11, f12, f13, f14, f15, f16, f17, f18, f19, f20, f21, f22, f23, f24, f25, f26, f27, f28, f29, f30, f31, f32, f33, f34, f35⟩
      | 8, _ =>
       have h3 : b 3 = true := hd 3 (by decide)
       obtain rfl := f3 h3
       refine GO.at hs ?_
       refine GO.on rfl rfl rfl rfl ?_
       refine GO.move rfl rfl rfl ?_
       refine GO.back ?_
       refine GO.fin (fun a hs => ?_)
       exact ⟨_, _, _, _, _, _, _, _, (.slice A_region region.length c_region), _, _, _, _, _, _, _, _, _, _, _, _, _, _, _, _, _, _, _, _, _, _, _, _, _, _, _, by exact hs.setAt 8 rfl, HS, f0, f1, f2, f3, f4, f5, f6, f7, fun _ => rfl, f9, f10, f11, f12, f13, f14, f15, f16, f17, f18, f19, f20, f21, f22, f23, f24, f25, f26, f27, f28, f29, f30, f31, f32, f33, f34, f35⟩
      | 9, _ =>
       have h3 : b 3 = true := hd 3 (by decide)
       obtain rfl := f3 h3
       have h8 : b 8 = true := hd 8 (by decide)
       obtain rfl := f8 h8
       refine GO.at hs ?_
       refine GO.on rfl rfl rfl rfl ?_
       refine GO.ix rfl rfl rfl Try.underlying43 sz2 (h_region _ HS).2.2.1 c9.1 c9.2 rfl ?_
       refine GO.back ?_
       refine GO.fin (fun a hs => ?_)
       exact ⟨_, _, _, _, _, _, _, _, _, (.pointer (some (ea A_region (1 * 1)))), _, _, _, _, _, _, _, _, _, _, _, _, _, _, _, _, _, _, _, _, _, _, _, _, _, _, by exact hs.setAt 9 rfl, HS, f0, f1, f2, f3, f4, f5, f6, f7, f8, fun _ => rfl, f10, f11, f12, f13, f14, f15, f16, f17, f18, f19, f20, f21, f22, f23, f24, f25, f26, f27, f28, f29, f30, f31, f32, f33, f34, f35⟩
      | 10, _ =>
       have h3 : b 3 = true := hd 3 (by decide)
       obtain rfl := f3 h3
       have h9 : b 9 = true := hd 9 (by decide)
       obtain rfl := f9 h9
       refine GO.at hs ?_
       refine GO.on rfl rfl rfl rfl ?_
       refine GO.ldRd (T := (TInt .i64)) (n := 1) (o := 0) HS h_region rfl rfl (getD_some (d := 0) (ltN c9)) rfl rfl na2 rfl ?_
       refine GO.back ?_
       refine GO.fin (fun a hs => ?_)
       exact ⟨_, _, _, _, _, _, _, _, _, _, (.int .i64 (region.getD 1 0)), _, _, _, _, _, _, _, _, _, _, _, _, _, _, _, _, _, _, _, _, _, _, _, _, _, by exact hs.setAt 10 rfl, HS, f0, f1, f2, f3, f4, f5, f6, f7, f8, f9, fun _ => rfl, f11, f12, f13, f14, f15, f16, f17, f18, f19, f20, f21, f22, f23, f24, f25, f26, f27, f28, f29, f30, f31, f32, f33, f34, f35⟩
      | 11, _ =>
       have h3 : b 3 = true := hd 3 (by decide)
       obtain rfl := f3 h3
       have h10 : b 10 = true := hd 10 (by decide)
       obtain rfl := f10 h10
       refine GO.at hs ?_
       refine GO.on rfl rfl rfl rfl ?_
       refine GO.quo rfl rfl rfl (by decide) rfl ?_
       refine GO.back ?_
       refine GO.fin (fun a hs => ?_)
       exact ⟨_, _, _, _, _, _, _, _, _, _, _, (.int .i64 (w64 ((region.getD 1 0).tdiv 4))), _, _, _, _, _, _, _, _, _, _, _, _, _, _, _, _, _, _, _, _, _, _, _, _, by exact hs.setAt 11 rfl, HS, f0, f1, f2, f3, f4, f5, f6, f7, f8, f9, f10, fun _ => rfl, f12, f13, f14, f15, f16, f17, f18, f19, f20, f21, f22, f23, f24, f25, f26, f27, f28, f29, f30, f31, f32, f33, f34, f35⟩
      | 12, _ =>
       have h3 : b 3 = true := hd 3 (by decide)
       obtain rfl := f3 h3
       have h7 : b 7 = true := hd 7 (by decide)
       obtain rfl := f7 h7
       have h11 : b 11 = true := hd 11 (by decide)
       obtain rfl := f11 h11
       refine GO.at hs ?_
       refine GO.on rfl rfl rfl rfl ?_
       refine GO.eql rfl rfl rfl rfl ?_
       refine GO.back ?_
       refine GO.fin (fun a hs => ?_)
       exact ⟨_, _, _, _, _, _, _, _, _, _, _, _, (.bool (decide (w64 ((region.getD 0 0).tdiv 4) = w64 ((region.getD 1 0).tdiv 4)))), _, _, _, _, _, _, _, _, _, _, _, _, _, _, _, _, _, _, _, _, _, _, _, by exact hs.setAt 12 rfl, HS, f0, f1, f2, f3, f4, f5, f6, f7, f8, f9, f10, f11, fun _ => rfl, f13, f14, f15, f16, f17, f18, f19, f20, f21, f22, f23, f24, f25, f26, f27, f28, f29, f30, f31, f32, f33, f34, f35⟩
      | 13, _ =>
       have h3 : b 3 = true := hd 3 (by decide)
       obtain rfl := f3 h3
       have h12 : b 12 = true := hd 12 (by decide)
       obtain rfl := f12 h12
       refine GO.at hs ?_
       refine GO.pickF rfl rfl rfl rfl rfl ?_
       refine GO.fin (fun a hs => ?_)
       exact ⟨_, _, _, _, _, _, _, _, _, _, _, _, _, (.bool (decide (w64 ((region.getD 0 0).tdiv 4) = w64 ((region.getD 1 0).tdiv 4)))), _, _, _, _, _, _, _, _, _, _, _, _, _, _, _, _, _, _, _, _, _, _, by exact hs.setAt 13 rfl, HS, f0, f1, f2, f3, f4, f5, f6, f7, f8, f9, f10, f11, f12, fun _ => rfl, f14, f15, f16, f17, f18, f19, f20, f21, f22, f23, f24, f25, f26, f27, f28, f29, f30, f31, f32, f33, f34, f35⟩
      | 14, _ =>
       have h13 : b 13 = true := hd 13 (by decide)
       obtain rfl := f13 h13
       refine GO.at hs ?_
       refine GO.move rfl rfl rfl ?_
       refine GO.known (t := 23) rfl (decide_eq_false c10) ?_
       refine GO.fin (fun a hs => ?_)
       exact ⟨_, _, _, _, _, _, _, _, _, _, _, _, _, _, (.bool false), _, _, _, _, _, _, _, _, _, _, _, _, _, _, _, _, _, _, _, _, _, hs.weak ⟨rfl, rfl, rfl, rfl, rfl, rfl, rfl, rfl, rfl, rfl, rfl, rfl, rfl, rfl, rfl, rfl, rfl, rfl, rfl, rfl, rfl, rfl, rfl, rfl, rfl, rfl, rfl, rfl, rfl, rfl, rfl, rfl, rfl, rfl, rfl, rfl, rfl, trivial⟩, HS, f0, f1, f2, f3, f4, f5, f6, f7, f8, f9, f10, f11, f12, f13, fun _ => rfl, f15, f16, f17, f18, f19, f20, f21, f22, f23, f24, f25, f26, f27, f28, f29, f30, f31, f32, f33, f34, f35⟩
      | 15, _ =>
       have h14 : b 14 = true := hd 14 (by decide)
       obtain rfl := f14 h14
       refine GO.at hs ?_
       refine GO.on rfl rfl rfl rfl ?_
       refine GO.move rfl rfl rfl ?_
       refine GO.back ?_
       refine GO.fin (fun a hs => ?_)
       exact ⟨_, _, _, _, _, _, _, _, _, _, _, _, _, _, _, (.slice A_region region.length c_region), _, _, _, _, _, _, _, _, _, _, _, _, _, _, _, _, _, _, _, _, by exact hs.setAt 15 rfl, HS, f0, f1, f2, f3, f4, f5, f6, f7, f8, f9, f10, f11, f12, f13, f14, fun _ => rfl, f16, f17, f18, f19, f20, f21, f22, f23, f24, f25, f26, f27, f28, f29, f30, f31, f32, f33, f34, f35⟩
      | 16, _ =>
       have h14 : b 14 = true := hd 14 (by decide)
       obtain rfl := f14 h14
       have h15 : b 15 = true := hd 15 (by decide)
       obtain rfl := f15 h15
       refine GO.at hs ?_
       refine GO.on rfl rfl rfl rfl ?_
       refine GO.ix rfl rfl rfl Try.underlying43 sz2 (h_region _ HS).2.2.1 c9.1 c9.2 rfl ?_
       refine GO.back ?_
       refine GO.fin (fun a hs => ?_)
       exact ⟨_, _, _, _, _, _, _, _, _, _, _, _, _, _, _, _, (.pointer (some (ea A_region (1 * 1)))), _, _, _, _, _, _, _, _, _, _, _, _, _, _, _, _, _, _, _, by exact hs.setAt 16 rfl, HS, f0, f1, f2, f3, f4, f5, f6, f7, f8, f9, f10, f11, f12, f13, f14, f15, fun _ => rfl, f17, f18, f19, f20, f21, f22, f23, f24, f25, f26, f27, f28, f29, f30, f31, f32, f33, f34, f35⟩
      | 17, _ =>
       have h14 : b 14 = true := hd 14 (by decide)
       obtain rfl := f14 h14
       have h16 : b 16 = true := hd 16 (by decide)
       obtain rfl := f16 h16
       refine GO.at hs ?_
       refine GO.on rfl rfl rfl rfl ?_
       refine GO.ldRd (T := (TInt .i64)) (n := 1) (o := 0) HS h_region rfl rfl (getD_some (d := 0) (ltN c9)) rfl rfl na2 rfl ?_
       refine GO.back ?_
       refine GO.fin (fun a hs => ?_)
       exact ⟨_, _, _, _, _, _, _, _, _, _, _, _, _, _, _, _, _, (.int .i64 (region.getD 1 0)), _, _, _, _, _, _, _, _, _, _, _, _, _, _, _, _, _, _, by exact hs.setAt 17 rfl, HS, f0, f1, f2, f3, f4, f5, f6, f7, f8, f9, f10, f11, f12, f13, f14, f15, f16, fun _ => rfl, f18, f19, f20, f21, f22, f23, f24, f25, f26, f27, f28, f29, f30, f31, f32, f33, f34, f35⟩
      | 18, _ =>
       have h14 : b 14 = true := hd 14 (by decide)
       obtain rfl := f14 h14
       have h17 : b 17 = true := hd 17 (by decide)
       obtain rfl := f17 h17
       refine GO.at hs ?_
       refine GO.on rfl rfl rfl rfl ?_
       refine GO.quo rfl rfl rfl (by decide) rfl ?_
       refine GO.back ?_
       refine GO.fin (fun a hs => ?_)
       exact ⟨_, _, _, _, _, _, _, _, _, _, _, _, _, _, _, _, _, _, (.int .i64 (w64 ((region.getD 1 0).tdiv 4))), _, _, _, _, _, _, _, _, _, _, _, _, _, _, _, _, _, by exact hs.setAt 18 rfl, HS, f0, f1, f2, f3, f4, f5, f6, f7, f8, f9, f10, f11, f12, f13, f14, f15, f16, f17, fun _ => rfl, f19, f20, f21, f22, f23, f24, f25, f26, f27, f28, f29, f30, f31, f32, f33, f34, f35⟩
      | 19, _ =>
       have h14 : b 14 = true := hd 14 (by decide)
       obtain rfl := f14 h14
       refine GO.at hs ?_
       refine GO.on rfl rfl rfl rfl ?_
       refine GO.move rfl rfl rfl ?_
       refine GO.back ?_
       refine GO.fin (fun a hs => ?_)
       exact ⟨_, _, _, _, _, _, _, _, _, _, _, _, _, _, _, _, _, _, _, (.slice A_region region.length c_region), _, _, _, _, _, _, _, _, _, _, _, _, _, _, _, _, by exact hs.setAt 19 rfl, HS, f0, f1, f2, f3, f4, f5, f6, f7, f8, f9, f10, f11, f12, f13, f14, f15, f16, f17, f18, fun _ => rfl, f20, f21, f22, f23, f24, f25, f26, f27, f28, f29, f30, f31, f32, f33, f34, f35⟩
      | 20, _ =>
       have h14 : b 14 = true := hd 14 (by decide)
       obtain rfl := f14 h14
       have h19 : b 19 = true := hd 19 (by decide)
       obtain rfl := f19 h19
       refine GO.at hs ?_
       refine GO.on rfl rfl rfl rfl ?_
       refine GO.ix rfl rfl rfl Try.underlying43 sz2 (h_region _ HS).2.2.1 c11.1 c11.2 rfl ?_
       refine GO.back ?_
       refine GO.fin (fun a hs => ?_)
       exact ⟨_, _, _, _, _, _, _, _, _, _, _, _, _, _, _, _, _, _, _, _, (.pointer (some (ea A_region (2 * 1)))), _, _, _, _, _, _, _, _, _, _, _, _, _, _, _, by exact hs.setAt 20 rfl, HS, f0, f1, f2, f3, f4, f5, f6, f7, f8, f9, f10, f11, f12, f13, f14, f15, f16, f17, f18, f19, fun _ => rfl, f21, f22, f23, f24, f25, f26, f27, f28, f29, f30, f31, f32, f33, f34, f35⟩
      | 21, _ =>
       have h14 : b 14 = true := hd 14 (by decide)
       obtain rfl := f14 h14
       have h20 : b 20 = true := hd 20 (by decide)
       obtain rfl := f20 h20
       refine GO.at hs ?_
       refine GO.on rfl rfl rfl rfl ?_
       refine GO.ldRd (T := (TInt .i64)) (n := 2) (o := 0) HS h_region rfl rfl (getD_some (d := 0) (ltN c11)) rfl rfl na2 rfl ?_
       refine GO.back ?_
       refine GO.fin (fun a hs => ?_)
       exact ⟨_, _, _, _, _, _, _, _, _, _, _, _, _, _, _, _, _, _, _, _, _, (.int .i64 (region.getD 2 0)), _, _, _, _, _, _, _, _, _, _, _, _, _, _, by exact hs.setAt 21 rfl, HS, f0, f1, f2, f3, f4, f5, f6, f7, f8, f9, f10, f11, f12, f13, f14, f15, f16, f17, f18, f19, f20, fun _ => rfl, f22, f23, f24, f25, f26, f27, f28, f29, f30, f31, f32, f33, f34, f35⟩
      | 22, _ =>
       have h14 : b 14 = true := hd 14 (by decide)
       obtain rfl := f14 h14
       have h21 : b 21 = true := hd 21 (by decide)
       obtain rfl := f21 h21
       refine GO.at hs ?_
       refine GO.on rfl rfl rfl rfl ?_
       refine GO.quo rfl rfl rfl (by decide) rfl ?_
       refine GO.back ?_
       refine GO.fin (fun a hs => ?_)
       exact ⟨_, _, _, _, _, _, _, _, _, _, _, _, _, _, _, _, _, _, _, _, _, _, (.int .i64 (w64 ((region.getD 2 0).tdiv 4))), _, _, _, _, _, _, _, _, _, _, _, _, _, by exact hs.setAt 22 rfl, HS, f0, f1, f2, f3, f4, f5, f6, f7, f8, f9, f10, f11, f12, f13, f14, f15, f16, f17, f18, f19, f20, f21, fun _ => rfl, f23, f24, f25, f26, f27, f28, f29, f30, f31, f32, f33, f34, f35⟩
      | 23, _ =>
       have h14 : b 14 = true := hd 14 (by decide)
       obtain rfl := f14 h14
       have h18 : b 18 = true := hd 18 (by decide)
       obtain rfl := f18 h18
       have h22 : b 22 = true := hd 22 (by decide)
       obtain rfl := f22 h22
       refine GO.at hs ?_
       refine GO.on rfl rfl rfl rfl ?_
       refine GO.eql rfl rfl rfl rfl ?_
       refine GO.back ?_
       refine GO.fin (fun a hs => ?_)
       exact ⟨_, _, _, _, _, _, _, _, _, _, _, _, _, _, _, _, _, _, _, _, _, _, _, (.bool (decide (w64 ((region.getD 1 0).tdiv 4) = w64 ((region.getD 2 0).tdiv 4)))), _, _, _, _, _, _, _, _, _, _, _, _, by exact hs.setAt 23 rfl, HS, f0, f1, f2, f3, f4, f5, f6, f7, f8, f9, f10, f11, f12, f13, f14, f15, f16, f17, f18, f19, f20, f21, f22, fun _ => rfl, f24, f25, f26, f27, f28, f29, f30, f31, f32, f33, f34, f35⟩
      | 24, _ =>
       have h14 : b 14 = true := hd 14 (by decide)
       obtain rfl := f14 h14
       have h23 : b 23 = true := hd 23 (by decide)
       obtain rfl := f23 h23
       refine GO.at hs ?_
       refine GO.pickF rfl rfl rfl rfl rfl ?_
       refine GO.fin (fun a hs => ?_)
       exact ⟨_, _, _, _, _, _, _, _, _, _, _, _, _, _, _, _, _, _, _, _, _, _, _, _, (.bool (decide (w64 ((region.getD 1 0).tdiv 4) = w64 ((region.getD 2 0).tdiv 4)))), _, _, _, _, _, _, _, _, _, _, _, by exact hs.setAt 24 rfl, HS, f0, f1, f2, f3, f4, f5, f6, f7, f8, f9, f10, f11, f12, f13, f14, f15, f16, f17, f18, f19, f20, f21, f22, f23, fun _ => rfl, f25, f26, f27, f28, f29, f30, f31, f32, f33, f34, f35⟩
      | 25, _ =>
       have h24 : b 24 = true := hd 24 (by decide)
       obtain rfl := f24 h24
       refine GO.at hs ?_
       refine GO.move rfl rfl rfl ?_
       refine GO.known (t := 34) rfl (decide_eq_true c12) ?_
       refine GO.fin (fun a hs => ?_)
       exact ⟨_, _, _, _, _, _, _, _, _, _, _, _, _, _, _, _, _, _, _, _, _, _, _, _, _, (.bool true), _, _, _, _, _, _, _, _, _, _, hs.weak ⟨rfl, rfl, rfl, rfl, rfl, rfl, rfl, rfl, rfl, rfl, rfl, rfl, rfl, rfl, rfl, rfl, rfl, rfl, rfl, rfl, rfl, rfl, rfl, rfl, rfl, rfl, rfl, rfl, rfl, rfl, rfl, rfl, rfl, rfl, rfl, rfl, rfl, trivial⟩, HS, f0, f1, f2, f3, f4, f5, f6, f7, f8, f9, f10, f11, f12, f13, f14, f15, f16, f17, f18, f19, f20, f21, f22, f23, f24, fun _ => rfl, f26, f27, f28, f29, f30, f31, f32, f33, f34, f35⟩
      | 26, _ =>
       have h25 : b 25 = true := hd 25 (by decide)
       obtain rfl := f25 h25
       refine GO.at hs ?_
       refine GO.off rfl rfl rfl rfl rfl rfl ?_
       refine GO.fin (fun a hs => ?_)
       exact ⟨_, _, _, _, _, _, _, _, _, _, _, _, _, _, _, _, _, _, _, _, _, _, _, _, _, _, (undef), _, _, _, _, _, _, _, _, _, by exact hs.setAt 26 rfl, HS, f0, f1, f2, f3, f4, f5, f6, f7, f8, f9, f10, f11, f12, f13, f14, f15, f16, f17, f18, f19, f20, f21, f22, f23, f24, f25, fun _ => rfl, f27, f28, f29, f30, f31, f32, f33, f34, f35⟩
      | 27, _ =>
       have h25 : b 25 = true := hd 25 (by decide)
       obtain rfl := f25 h25
       have h26 : b 26 = true := hd 26 (by decide)
       obtain rfl := f26 h26
       refine GO.at hs ?_
       refine GO.off rfl rfl rfl rfl rfl rfl ?_
       refine GO.fin (fun a hs => ?_)
       exact ⟨_, _, _, _, _, _, _, _, _, _, _, _, _, _, _, _, _, _, _, _, _, _, _, _, _, _, _, (undef), _, _, _, _, _, _, _, _, by exact hs.setAt 27 rfl, HS, f0, f1, f2, f3, f4, f5, f6, f7, f8, f9, f10, f11, f12, f13, f14, f15, f16, f17, f18, f19, f20, f21, f22, f23, f24, f25, f26, fun _ => rfl, f28, f29, f30, f31, f32, f33, f34, f35⟩
      | 28, _ =>
       have h25 : b 25 = true := hd 25 (by decide)
       obtain rfl := f25 h25
       have h27 : b 27 = true := hd 27 (by decide)
       obtain rfl := f27 h27
       refine GO.at hs ?_
       refine GO.off rfl rfl rfl rfl rfl rfl ?_
       refine GO.fin (fun a hs => ?_)
       exact ⟨_, _, _, _, _, _, _, _, _, _, _, _, _, _, _, _, _, _, _, _, _, _, _, _, _, _, _, _, (undef), _, _, _, _, _, _, _, by exact hs.setAt 28 rfl, HS, f0, f1, f2, f3, f4, f5, f6, f7, f8, f9, f10, f11, f12, f13, f14, f15, f16, f17, f18, f19, f20, f21, f22, f23, f24, f25, f26, f27, fun _ => rfl, f29, f30, f31, f32, f33, f34, f35⟩
      | 29, _ =>
       have h25 : b 25 = true := hd 25 (by decide)
       obtain rfl := f25 h25
       have h28 : b 28 = true := hd 28 (by decide)
       obtain rfl := f28 h28
       refine GO.at hs ?_
       refine GO.off rfl rfl rfl rfl rfl rfl ?_
       refine GO.fin (fun a hs => ?_)
       exact ⟨_, _, _, _, _, _, _, _, _, _, _, _, _, _, _, _, _, _, _, _, _, _, _, _, _, _, _, _, _, (undef), _, _, _, _, _, _, by exact hs.setAt 29 rfl, HS, f0, f1, f2, f3, f4, f5, f6, f7, f8, f9, f10, f11, f12, f13, f14, f15, f16, f17, f18, f19, f20, f21, f22, f23, f24, f25, f26, f27, f28, fun _ => rfl, f30, f31, f32, f33, f34, f35⟩
      | 30, _ =>
       have h25 : b 25 = true := hd 25 (by decide)
       obtain rfl := f25 h25
       refine GO.at hs ?_
       refine GO.off rfl rfl rfl rfl rfl rfl ?_
       refine GO.fin (fun a hs => ?_)
       exact ⟨_, _, _, _, _, _, _, _, _, _, _, _, _, _, _, _, _, _, _, _, _, _, _, _, _, _, _, _, _, _, (undef), _, _, _, _, _, by exact hs.setAt 30 rfl, HS, f0, f1, f2, f3, f4, f5, f6, f7, f8, f9, f10, f11, f12, f13, f14, f15, f16, f17, f18, f19, f20, f21, f22, f23, f24, f25, f26, f27, f28, f29, fun _ => rfl, f31, f32, f33, f34, f35⟩
      | 31, _ =>
       have h25 : b 25 = true := hd 25 (by decide)
       obtain rfl := f25 h25
       have h30 : b 30 = true := hd 30 (by decide)
       obtain rfl := f30 h30
       refine GO.at hs ?_
       refine GO.off rfl rfl rfl rfl rfl rfl ?_
       refine GO.fin (fun a hs => ?_)
       exact ⟨_, _, _, _, _, _, _, _, _, _, _, _, _, _, _, _, _, _, _, _, _, _, _, _, _, _, _, _, _, _, _, (undef), _, _, _, _, by exact hs.setAt 31 rfl, HS, f0, f1, f2, f3, f4, f5, f6, f7, f8, f9, f10, f11, f12, f13, f14, f15, f16, f17, f18, f19, f20, f21, f22, f23, f24, f25, f26, f27, f28, f29, f30, fun _ => rfl, f32, f33, f34, f35⟩
      | 32, _ =>
       have h25 : b 25 = true := hd 25 (by decide)
       obtain rfl := f25 h25
       have h31 : b 31 = true := hd 31 (by decide)
       obtain rfl := f31 h31
       refine GO.at hs ?_
       refine GO.off rfl rfl rfl rfl rfl rfl ?_
       refine GO.fin (fun a hs => ?_)
       exact ⟨_, _, _, _, _, _, _, _, _, _, _, _, _, _, _, _, _, _, _, _, _, _, _, _, _, _, _, _, _, _, _, _, (undef), _, _, _, by exact hs.setAt 32 rfl, HS, f0, f1, f2, f3, f4, f5, f6, f7, f8, f9, f10, f11, f12, f13, f14, f15, f16, f17, f18, f19, f20, f21, f22, f23, f24, f25, f26, f27, f28, f29, f30, f31, fun _ => rfl, f33, f34, f35⟩
      | 33, _ =>
       have h25 : b 25 = true := hd 25 (by decide)
       obtain rfl := f25 h25
       have h32 : b 32 = true := hd 32 (by decide)
       obtain rfl := f32 h32
       refine GO.at hs ?_
       refine GO.off rfl rfl rfl rfl rfl rfl ?_
       refine GO.fin (fun a hs => ?_)
       exact ⟨_, _, _, _, _, _, _, _, _, _, _, _, _, _, _, _, _, _, _, _, _, _, _, _, _, _, _, _, _, _, _, _, _, (undef), _, _, by exact hs.setAt 33 rfl, HS, f0, f1, f2, f3, f4, f5, f6, f7, f8, f9, f10, f11, f12, f13, f14, f15, f16, f17, f18, f19, f20, f21, f22, f23, f24, f25, f26, f27, f28, f29, f30, f31, f32, fun _ => rfl, f34, f35⟩
      | 34, _ =>
       have h25 : b 25 = true := hd 25 (by decide)
       obtain rfl := f25 h25
       have h29 : b 29 = true := hd 29 (by decide)
       obtain rfl := f29 h29
       have h33 : b 33 = true := hd 33 (by decide)
       obtain rfl := f33 h33
       refine GO.at hs ?_
       refine GO.off rfl rfl rfl rfl rfl rfl ?_
       refine GO.fin (fun a hs => ?_)
       exact ⟨_, _, _, _, _, _, _, _, _, _, _, _, _, _, _, _, _, _, _, _, _, _, _, _, _, _, _, _, _, _, _, _, _, _, (undef), _, by exact hs.setAt 34 rfl, HS, f0, f1, f2, f3, f4, f5, f6, f7, f8, f9, f10, f11, f12, f13, f14, f15, f16, f17, f18, f19, f20, f21, f22, f23, f24, f25, f26, f27, f28, f29, f30, f31, f32, f33, fun _ => rfl, f35⟩
      | 35, _ =>
       have h25 : b 25 = true := hd 25 (by decide)
       obtain rfl := f25 h25
       have h34 : b 34 = true := hd 34 (by decide)
       obtain rfl := f34 h34
       refine GO.at hs ?_
       refine GO.pickT rfl rfl rfl rfl rfl ?_
       refine GO.fin (fun a hs => ?_)
       exact ⟨_, _, _, _, _, _, _, _, _, _, _, _, _, _, _, _, _, _, _, _, _, _, _, _, _, _, _, _, _, _, _, _, _, _, _, (.bool true), by exact hs.setAt 35 rfl, HS, f0, f1, f2, f3, f4, f5, f6, f7, f8, f9, f10, f11, f12, f13, f14, f15, f16, f17, f18, f19, f20, f21, f22, f23, f24, f25, f26, f27, f28, f29, f30, f31, f32, f33, f34, fun _ => rfl⟩
      | k + 36, hj => exact absurd hj (Nat.not_lt.2 (Nat.le_add_left 36 k))
     ·
      intro b a w hall
      refine exI fun Y37_0 => exI fun Y38_1 => exI fun Y39_2 => exI fun Y40_3 => exI fun Y41_4 => exI fun Y42_5 => exI fun Y43_6 => exI fun Y44_7 => exI fun Y45_8 => exI fun Y46_9 => exI fun Y47_10 => exI fun Y48_11 => exI fun Y49_12 => exI fun Y50_13 => exI fun Y51_14 => exI fun Y52_15 => exI fun Y53_16 => exI fun Y54_17 => exI fun Y55_18 => exI fun Y56_19 => exI fun Y57_20 => exI fun Y58_21 => exI fun Y59_22 => exI fun Y60_23 => exI fun Y61_24 => exI fun Y62_25 => exI fun Y63_26 => exI fun Y64_27 => exI fun Y65_28 => exI fun Y66_29 => exI fun Y67_30 => exI fun Y68_31 => exI fun Y69_32 => exI fun Y70_33 => exI fun Y71_34 => exI fun Y72_35 => anI fun hs => anI fun HS => anI fun f0 => anI fun f1 => anI fun f2 => anI fun f3 => anI fun f4 => anI fun f5 => anI fun f6 => anI fun f7 => anI fun f8 => anI fun f9 => anI fun f10 => anI fun f11 => anI fun f12 => anI fun f13 => anI fun f14 => anI fun f15 => anI fun f16 => anI fun f17 => anI fun f18 => anI fun f19 => anI fun f20 => anI fun f21 => anI fun f22 => anI fun f23 => anI fun f24 => anI fun f25 => anI fun f26 => anI fun f27 => anI fun f28 => anI fun f29 => anI fun f30 => anI fun f31 => anI fun f32 => anI fun f33 => anI fun f34 => fun f35 => ?_
      obtain rfl := f0 (hall 0 (by decide))
      obtain rfl := f1 (hall 1 (by decide))
      obtain rfl := f2 (hall 2 (by decide))
      obtain rfl := f3 (hall 3 (by decide))
      obtain rfl := f4 (hall 4 (by decide))
      obtain rfl := f5 (hall 5 (by decide))
      obtain rfl := f6 (hall 6 (by decide))
      obtain rfl := f7 (hall 7 (by decide))
      obtain rfl := f8 (hall 8 (by decide))
      obtain rfl := f9 (hall 9 (by decide))
      obtain rfl := f10 (hall 10 (by decide))
      obtain rfl := f11 (hall 11 (by decide))
      obtain rfl := f12 (hall 12 (by decide))
      obtain rfl := f13 (hall 13 (by decide))
      obtain rfl := f14 (hall 14 (by decide))
      obtain rfl := f15 (hall 15 (by decide))
      obtain rfl := f16 (hall 16 (by decide))
      obtain rfl := f17 (hall 17 (by decide))
      obtain rfl := f18 (hall 18 (by decide))
      obtain rfl := f19 (hall 19 (by decide))
      obtain rfl := f20 (hall 20 (by decide))
      obtain rfl := f21 (hall 21 (by decide))
      obtain rfl := f22 (hall 22 (by decide))
      obtain rfl := f23 (hall 23 (by decide))
      obtain rfl := f24 (hall 24 (by decide))
      obtain rfl := f25 (hall 25 (by decide))
      obtain rfl := f26 (hall 26 (by decide))
      obtain rfl := f27 (hall 27 (by decide))
      obtain rfl := f28 (hall 28 (by decide))
      obtain rfl := f29 (hall 29 (by decide))
      obtain rfl := f30 (hall 30 (by decide))
      obtain rfl := f31 (hall 31 (by decide))
      obtain rfl := f32 (hall 32 (by decide))
      obtain rfl := f33 (hall 33 (by decide))
      obtain rfl := f34 (hall 34 (by decide))
      obtain rfl := f35 (hall 35 (by decide))
      refine G.at hs ?_
      refine G.yesB rfl rfl ?_
      refine G.seq ?_
      refine G.region ?_
      refine GO.assign rfl rfl rfl ?_
      refine GO.nil ?_
      obtain rfl := Option.some.inj H
      exact G.ret1 _ Try.func124 rfl rfl ⟨rfl, HS⟩
    ·
     refine G.regionAny mixed (by decide) (fun b a w => ∃ (Y73_0 : Value) (Y74_1 : Value) (Y75_2 : Value) (Y76_3 : Value) (Y77_4 : Value) (Y78_5 : Value) (Y79_6 : Value) (Y80_7 : Value) (Y81_8 : Value) (Y82_9 : Value) (Y83_10 : Value) (Y84_11 : Value) (Y85_12 : Value) (Y86_13 : Value) (Y87_14 : Value) (Y88_15 : Value) (Y89_16 : Value) (Y90_17 : Value) (Y91_18 : Value) (Y92_19 : Value) (Y93_20 : Value) (Y94_21 : Value) (Y95_22 : Value) (Y96_23 : Value) (Y97_24 : Value) (Y98_25 : Value) (Y99_26 : Value) (Y100_27 : Value) (Y101_28 : Value) (Y102_29 : Value) (Y103_30 : Value) (Y104_31 : Value) (Y105_32 : Value) (Y106_33 : Value) (Y107_34 : Value) (Y108_35 : Value), Sat 85 [(9, Y73_0), (10, Y74_1), (11, Y75_2), (12, Y76_3), (13, Y77_4), (14, Y78_5), (15, Y79_6), (16, Y80_7), (17, Y81_8), (18, Y82_9), (19, Y83_10), (20, Y84_11), (21, Y85_12), (22, Y86_13), (23, Y87_14), (24, Y88_15), (25, Y89_16), (26, Y90_17), (27, Y91_18), (28, Y92_19), (29, Y93_20), (30, Y94_21), (31, Y95_22), (32, Y96_23), (33, Y97_24), (34, Y98_25), (35, Y99_26), (36, Y100_27), (37, Y101_28), (38, Y102_29), (39, Y103_30), (40, Y104_31), (41, Y105_32), (42, Y106_33), (43, Y107_34), (44, Y108_35), (0, .slice A_region region.length c_region)] a ∧ St w0 w (L) ∧ (b 0 = true → Y73_0 = (.slice A_region region.length c_region)) ∧ (b 1 = true → Y74_1 = (.int .i64 (region.length : Int))) ∧ (b 2 = true → Y75_2 = (.bool (!(decide ((region.length : Int) = 3))))) ∧ (b 3 = true → Y76_3 = (.bool false)) ∧ (b 4 = true → Y77_4 = (.slice A_region region.length c_region)) ∧ (b 5 = true → Y78_5 = (.pointer (some (ea A_region (0 * 1))))) ∧ (b 6 = true → Y79_6 = (.int .i64 (region.getD 0 0))) ∧ (b 7 = true → Y80_7 = (.int .i64 (w64 ((region.getD 0 0).tdiv 4)))) ∧ (b 8 = true → Y81_8 = (.slice A_region region.length c_region)) ∧ (b 9 = true → Y82_9 = (.pointer (some (ea A_region (1 * 1))))) ∧ (b 10 = true → Y83_10 = (.int .i64 (region.getD 1 0))) ∧ (b 11 = true → Y84_11 = (.int .i64 (w64 ((region.getD 1 0).tdiv 4)))) ∧ (b 12 = true → Y85_12 = (.bool (decide (w64 ((region.getD 0 0).tdiv 4) = w64 ((region.getD 1 0).tdiv 4))))) ∧ (b 13 = true → Y86_13 = (.bool (decide (w64 ((region.getD 0 0).tdiv 4) = w64 ((region.getD 1 0).tdiv 4))))) ∧ (b 14 = true → Y87_14 = (.bool false)) ∧ (b 15 = true → Y88_15 = (.slice A_region region.length c_region)) ∧ (b 16 = true → Y89_16 = (.pointer (some (ea A_region (1 * 1))))) ∧ (b 17 = true → Y90_17 = (.int .i64 (region.getD 1 0))) ∧ (b 18 = true → Y91_18 = (.int .i64 (w64 ((region.getD 1 0).tdiv 4)))) ∧ (b 19 = true → Y92_19 = (.slice A_region region.length c_region)) ∧ (b 20 = true → Y93_20 = (.pointer (some (ea A_region (2 * 1))))) ∧ (b 21 = true → Y94_21 = (.int .i64 (region.getD 2 0))) ∧ (b 22 = true → Y95_22 = (.int .i64 (w64 ((region.getD 2 0).tdiv 4)))) ∧ (b 23 = true → Y96_23 = (.bool (decide (w64 ((region.getD 1 0).tdiv 4) = w64 ((region.getD 2 0).tdiv 4))))) ∧ (b 24 = true → Y97_24 = (.bool (decide (w64 ((region.getD 1 0).tdiv 4) = w64 ((region.getD 2 0).tdiv 4))))) ∧ (b 25 = true → Y98_25 = (.bool false)) ∧ (b 26 = true → Y99_26 = (.slice A_region region.length c_region)) ∧ (b 27 = true → Y100_27 = (.pointer (some (ea A_region (2 * 1))))) ∧ (b 28 = true → Y101_28 = (.int .i64 (region.getD 2 0))) ∧ (b 29 = true → Y102_29 = (.int .i64 (w64 ((region.getD 2 0).tdiv 4)))) ∧ (b 30 = true → Y103_30 = (.slice A_region region.length c_region)) ∧ (b 31 = true → Y104_31 = (.pointer (some (ea A_region (0 * 1))))) ∧ (b 32 = true → Y105_32 = (.int .i64 (region.getD 0 0))) ∧ (b 33 = true → Y106_33 = (.int .i64 (w64 ((region.getD 0 0).tdiv 4)))) ∧ (b 34 = true → Y107_34 = (.bool (decide (w64 ((region.getD 2 0).tdiv 4) = w64 ((region.getD 0 0).tdiv 4))))) ∧ (b 35 = true → Y108_35 = (.bool (decide (w64 ((region.getD 2 0).tdiv 4) = w64 ((region.getD 0 0).tdiv 4)))))) ?_ ?_ ?_
     ·
      intro a hs
      obtain ⟨Y73_0, hs⟩ := hs.ext (d := 9) rfl
      obtain ⟨Y74_1, hs⟩ := hs.ext (d := 10) rfl
      obtain ⟨Y75_2, hs⟩ := hs.ext (d := 11) rfl
      obtain ⟨Y76_3, hs⟩ := hs.ext (d := 12) rfl
      obtain ⟨Y77_4, hs⟩ := hs.ext (d := 13) rfl
      obtain ⟨Y78_5, hs⟩ := hs.ext (d := 14) rfl
      obtain ⟨Y79_6, hs⟩ := hs.ext (d := 15) rfl
      obtain ⟨Y80_7, hs⟩ := hs.ext (d := 16) rfl
      obtain ⟨Y81_8, hs⟩ := hs.ext (d := 17) rfl
      obtain ⟨Y82_9, hs⟩ := hs.ext (d := 18) rfl
      obtain ⟨Y83_10, hs⟩ := hs.ext (d := 19) rfl
      obtain ⟨Y84_11, hs⟩ := hs.ext (d := 20) rfl
      obtain ⟨Y85_12, hs⟩ := hs.ext (d := 21) rfl
      obtain ⟨Y86_13, hs⟩ := hs.ext (d := 22) rfl
      obtain ⟨Y87_14, hs⟩ := hs.ext (d := 23) rfl
      obtain ⟨Y88_15, hs⟩ := hs.ext (d := 24) rfl
      obtain ⟨Y89_16, hs⟩ := hs.ext (d := 25) rfl
      obtain ⟨Y90_17, hs⟩ := hs.ext (d := 26) rfl
      obtain ⟨Y91_18, hs⟩ := hs.ext (d := 27) rfl
      obtain ⟨Y92_19, hs⟩ := hs.ext (d := 28) rfl
      obtain ⟨Y93_20, hs⟩ := hs.ext (d := 29) rfl
      obtain ⟨Y94_21, hs⟩ := hs.ext (d := 30) rfl
      obtain ⟨Y95_22, hs⟩ := hs.ext (d := 31) rfl
      obtain ⟨Y96_23, hs⟩ := hs.ext (d := 32) rfl
      obtain ⟨Y97_24, hs⟩ := hs.ext (d := 33) rfl
      obtain ⟨Y98_25, hs⟩ := hs.ext (d := 34) rfl
      obtain ⟨Y99_26, hs⟩ := hs.ext (d := 35) rfl
      obtain ⟨Y100_27, hs⟩ := hs.ext (d := 36) rfl
      obtain ⟨Y101_28, hs⟩ := hs.ext (d := 37) rfl
      obtain ⟨Y102_29, hs⟩ := hs.ext (d := 38) rfl
      obtain ⟨Y103_30, hs⟩ := hs.ext (d := 39) rfl
      obtain ⟨Y104_31, hs⟩ := hs.ext (d := 40) rfl
      obtain ⟨Y105_32, hs⟩ := hs.ext (d := 41) rfl
      obtain ⟨Y106_33, hs⟩ := hs.ext (d := 42) rfl
      obtain ⟨Y107_34, hs⟩ := hs.ext (d := 43) rfl
      obtain ⟨Y108_35, hs⟩ := hs.ext (d := 44) rfl
      exact ⟨Y73_0, Y74_1, Y75_2, Y76_3, Y77_4, Y78_5, Y79_6, Y80_7, Y81_8, Y82_9, Y83_10, Y84_11, Y85_12, Y86_13, Y87_14, Y88_15, Y89_16, Y90_17, Y91_18, Y92_19, Y93_20, Y94_21, Y95_22, Y96_23, Y97_24, Y98_25, Y99_26, Y100_27, Y101_28, Y102_29, Y103_30, Y104_31, Y105_32, Y106_33, Y107_34, Y108_35, hs.weak ⟨rfl, rfl, rfl, rfl, rfl, rfl, rfl, rfl, rfl, rfl, rfl, rfl, rfl, rfl, rfl, rfl, rfl, rfl, rfl, rfl, rfl, rfl, rfl, rfl, rfl, rfl, rfl, rfl, rfl, rfl, rfl, rfl, rfl, rfl, rfl, rfl, rfl, trivial⟩, (HS.drew.pick 0 []), fun h => Bool.noConfusion h, fun h => Bool.noConfusion h, fun h => Bool.noConfusion h, fun h => Bool.noConfusion h, fun h => Bool.noConfusion h, fun h => Bool.noConfusion h, fun h => Bool.noConfusion h, fun h => Bool.noConfusion h, fun h => Bool.noConfusion h, fun h => Bool.noConfusion h, fun h => Bool.noConfusion h, fun h => Bool.noConfusion h, fun h => Bool.noConfusion h, fun h => Bool.noConfusion h, fun h => Bool.noConfusion h, fun h => Bool.noConfusion h, fun h => Bool.noConfusion h, fun h => Bool.noConfusion h, fun h => Bool.noConfusion h, fun h => Bool.noConfusion h, fun h => Bool.noConfusion h, fun h => Bool.noConfusion h, fun h => Bool.noConfusion h, fun h => Bool.noConfusion h, fun h => Bool.noConfusion h, fun h => Bool.noConfusion h, fun h => Bool.noConfusion h, fun h => Bool.noConfusion h, fun h => Bool.noConfusion h, fun h => Bool.noConfusion h, fun h => Bool.noConfusion h, fun h => Bool.noConfusion h, fun h => Bool.noConfusion h, fun h => Bool.noConfusion h, fun h => Bool.noConfusion h, fun h => Bool.noConfusion h⟩
     ·
      intro j hj b a w
      refine exI fun Y73_0 => exI fun Y74_1 => exI fun Y75_2 => exI fun Y76_3 => exI fun Y77_4 => exI fun Y78_5 => exI fun Y79_6 => exI fun Y80_7 => exI fun Y81_8 => exI fun Y82_9 => exI fun Y83_10 => exI fun Y84_11 => exI fun Y85_12 => exI fun Y86_13 => exI fun Y87_14 => exI fun Y88_15 => exI fun Y89_16 => exI fun Y90_17 => exI fun Y91_18 => exI fun Y92_19 => exI fun Y93_20 => exI fun Y94_21 => exI fun Y95_22 => exI fun Y96_23 => exI fun Y97_24 => exI fun Y98_25 => exI fun Y99_26 => exI fun Y100_27 => exI fun Y101_28 => exI fun Y102_29 => exI fun Y103_30 => exI fun Y104_31 => exI fun Y105_32 => exI fun Y106_33 => exI fun Y107_34 => exI fun Y108_35 => anI fun hs => anI fun HS => anI fun f0 => anI fun f1 => anI fun f2 => anI fun f3 => anI fun f4 => anI fun f5 => anI fun f6 => anI fun f7 => anI fun f8 => anI fun f9 => anI fun f10 => anI fun f11 => anI fun f12 => anI fun f13 => anI fun f14 => anI fun f15 => anI fun f16 => anI fun f17 => anI fun f18 => anI fun f19 => anI fun f20 => anI fun f21 => anI fun f22 => anI fun f23 => anI fun f24 => anI fun f25 => anI fun f26 => anI fun f27 => anI fun f28 => anI fun f29 => anI fun f30 => anI fun f31 => anI fun f32 => anI fun f33 => anI fun f34 => fun f35 hb hd hcl => ?_
      match j, hj with
      | 0, _ =>
       refine GO.at hs ?_
       refine GO.move rfl rfl rfl ?_
       refine GO.fin (fun a hs => ?_)
       exact ⟨(.slice A_region region.length c_region), _, _, _, _, _, _, _, _, _, _, _, _, _, _, _, _, _, _, _, _, _, _, _, _, _, _, _, _, _, _, _, _, _, _, _, by exact hs.setAt 0 rfl, HS, fun _ => rfl, f1, f2, f3, f4, f5, f6, f7, f8, f9, f10, f11, f12, f13, f14, f15, f16, f17, f18, f19, f20, f21, f22, f23, f24, f25, f26, f27, f28, f29, f30, f31, f32, f33, f34, f35⟩
      | 1, _ =>
       have h0 : b 0 = true := hd 0 (by decide)
       obtain rfl := f0 h0
       refine GO.at hs ?_
       refine GO.lenS rfl rfl Try.underlying43 rfl ?_
       refine GO.fin (fun a hs => ?_)
       exact ⟨_, (.int .i64 (region.length : Int)), _, _, _, _, _, _, _, _, _, _, _, _, _, _, _, _, _, _, _, _, _, _, _, _, _, _, _, _, _, _, _, _, _, _, by exact hs.setAt 1 rfl, HS, f0, fun _ => rfl, f2, f3, f4, f5, f6, f7, f8, f9, f10, f11, f12, f13, f14, f15, f16, f17, f18, f19, f20, f21, f22, f23, f24, f25, f26, f27, f28, f29, f30, f31, f32, f33, f34, f35⟩
      | 2, _ =>
       have h1 : b 1 = true := hd 1 (by decide)
       obtain rfl := f1 h1
       refine GO.at hs ?_
       refine GO.neq rfl rfl rfl rfl ?_
       refine GO.fin (fun a hs => ?_)
       exact ⟨_, _, (.bool (!(decide ((region.length : Int) = 3)))), _, _, _, _, _, _, _, _, _, _, _, _, _, _, _, _, _, _, _, _, _, _, _, _, _, _, _, _, _, _, _, _, _, by exact hs.setAt 2 rfl, HS, f0, f1, fun _ => rfl, f3, f4, f5, f6, f7, f8, f9, f10, f11, f12, f13, f14, f15, f16, f17, f18, f19, f20, f21, f22, f23, f24, f25, f26, f27, f28, f29, f30, f31, f32, f33, f34, f35⟩
      | 3, _ =>
       have h2 : b 2 = true := hd 2 (by decide)
       obtain rfl := f2 h2
       refine GO.at hs ?_
       refine GO.move rfl rfl rfl ?_
       refine GO.known (t := 12) rfl (congrArg Bool.not (decide_eq_true c7)) ?_
       refine GO.fin (fun a hs => ?_)
       exact ⟨_, _, _, (.bool false), _, _, _, _, _, _, _, _, _, _, _, _, _, _, _, _, _, _, _, _, _, _, _, _, _, _, _, _, _, _, _, _, hs.weak ⟨rfl, rfl, rfl, rfl, rfl, rfl, rfl, rfl, rfl, rfl, rfl, rfl, rfl, rfl, rfl, rfl, rfl, rfl, rfl, rfl, rfl, rfl, rfl, rfl, rfl, rfl, rfl, rfl, rfl, rfl, rfl, rfl, rfl, rfl, rfl, rfl, rfl, trivial⟩, HS, f0, f1, f2, fun _ => rfl, f4, f5, f6, f7, f8, f9, f10, f11, f12, f13, f14, f15, f16, f17, f18, f19, f20, f21, f22, f23, f24, f25, f26, f27, f28, f29, f30, f31, f32, f33, f34, f35⟩
      | 4, _ =>
       have h3 : b 3 = true := hd 3 (by decide)
       obtain rfl := f3 h3
       refine GO.at hs ?_
       refine GO.on rfl rfl rfl rfl ?_
       refine GO.move rfl rfl rfl ?_
       refine GO.back ?_
       refine GO.fin (fun a hs => ?_)
       exact ⟨_, _, _, _, (.slice A_region region.length c_region), _, _, _, _, _, _, _, _, _, _, _, _, _, _, _, _, _, _, _, _, _, _, _, _, _, _, _, _, _, _, _, by exact hs.setAt 4 rfl, HS, f0, f1, f2, f3, fun _ => rfl, f5, f6, f7, f8, f9, f10, f11, f12, f13, f14, f15, f16, f17, f18, f19, f20, f21, f22, f23, f24, f25, f26, f27, f28, f29, f30, f31, f32, f33, f34, f35⟩
      | 5, _ =>
       have h3 : b 3 = true := hd 3 (by decide)
       obtain rfl := f3 h3
       have h4 : b 4 = true := hd 4 (by decide)
       obtain rfl := f4 h4
       refine GO.at hs ?_
       refine GO.on rfl rfl rfl rfl ?_
       refine GO.ix rfl rfl rfl Try.underlying43 sz2 (h_region _ HS).2.2.1 c8.1 c8.2 rfl ?_
       refine GO.back ?_
       refine GO.fin (fun a hs => ?_)
       exact ⟨_, _, _, _, _, (.pointer (some (ea A_region (0 * 1)))), _, _, _, _, _, _, _, _, _, _, _, _, _, _, _, _, _, _, _, _, _, _, _, _, _, _, _, _, _, _, by exact hs.setAt 5 rfl, HS, f0, f1, f2, f3, f4, fun _ => rfl, f6, f7, f8, f9, f10, f11, f12, f13, f14, f15, f16, f17, f18, f19, f20, f21, f22, f23, f24, f25, f26, f27, f28, f29, f30, f31, f32, f33, f34, f35⟩
      | 6, _ =>
       have h3 : b 3 = true := hd 3 (by decide)
       obtain rfl := f3 h3
       have h5 : b 5 = true := hd 5 (by decide)
       obtain rfl := f5 h5
       refine GO.at hs ?_
       refine GO.on rfl rfl rfl rfl ?_
       refine GO.ldRd (T := (TInt .i64)) (n := 0) (o := 0) HS h_region rfl rfl (getD_some (d := 0) (ltN c8)) rfl rfl na2 rfl ?_
       refine GO.back ?_
       refine GO.fin (fun a hs => ?_)
       exact ⟨_, _, _, _, _, _, (.int .i64 (region.getD 0 0)), _, _, _, _, _, _, _, _, _, _, _, _, _, _, _, _, _, _, _, _, _, _, _, _, _, _, _, _, _, by exact hs.setAt 6 rfl, HS, f0, f1, f2, f3, f4, f5, fun _ => rfl, f7, f8, f9, f10, f11, f12, f13, f14, f15, f16, f17, f18, f19, f20, f21, f22, f23, f24, f25, f26, f27, f28, f29, f30, f31, f32, f33, f34, f35⟩
      | 7, _ =>
       have h3 : b 3 = true := hd 3 (by decide)
       obtain rfl := f3 h3
       have h6 : b 6 = true := hd 6 (by decide)
       obtain rfl := f6 h6
       refine GO.at hs ?_
       refine GO.on rfl rfl rfl rfl ?_
       refine GO.quo rfl rfl rfl (by decide) rfl ?_
       refine GO.back ?_
       refine GO.fin (fun a hs => ?_)
       exact ⟨_, _, _, _, _, _, _, (.int .i64 (w64 ((region.getD 0 0).tdiv 4))), _, _, _, _, _, _, _, _, _, _, _, _, _, _, _, _, _, _, _, _, _, _, _, _, _, _, _, _, by exact hs.setAt 7 rfl, HS, f0, f1, f2, f3, f4, f5, f6, fun _ => rfl, f8, f9, f10, f11, f12, f13, f14, f15, f16, f17, f18, f19, f20, f21, f22, f23, f24, f25, f26, f27, f28, f29, f30, f31, f32, f33, f34, f35⟩
      | 8, _ =>
       have h3 : b 3 = true := hd 3 (by decide)
       obtain rfl := f3 h3
       refine GO.at hs ?_
       refine GO.on rfl rfl rfl rfl ?_
       refine GO.move rfl rfl rfl ?_
       refine GO.back ?_
       refine GO.fin (fun a hs => ?_)
       exact ⟨_, _, _, _, _, _, _, _, (.slice A_region region.length c_region), _, _, _, _, _, _, _, _, _, _, _, _, _, _, _, _, _, _, _, _, _, _, _, _, _, _, _, by exact hs.setAt 8 rfl, HS, f0, f1, f2, f3, f4, f5, f6, f7, fun _ => rfl, f9, f10, f11, f12, f13, f14, f15, f16, f17, f18, f19, f20, f21, f22, f23, f24, f25, f26, f27, f28, f29, f30, f31, f32, f33, f34, f35⟩
      | 9, _ =>
       have h3 : b 3 = true := hd 3 (by decide)
       obtain rfl := f3 h3
       have h8 : b 8 = true := hd 8 (by decide)
       obtain rfl := f8 h8
       refine GO.at hs ?_
       refine GO.on rfl rfl rfl rfl ?_
       refine GO.ix rfl rfl rfl Try.underlying43 sz2 (h_region _ HS).2.2.1 c9.1 c9.2 rfl ?_
       refine GO.back ?_
       refine GO.fin (fun a hs => ?_)
       exact ⟨_, _, _, _, _, _, _, _, _, (.pointer (some (ea A_region (1 * 1)))), _, _, _, _, _, _, _, _, _, _, _, _, _, _, _, _, _, _, _, _, _, _, _, _, _, _, by exact hs.setAt 9 rfl, HS, f0, f1, f2, f3, f4, f5, f6, f7, f8, fun _ => rfl, f10, f11, f12, f13, f14, f15, f16, f17, f18, f19, f20, f21, f22, f23, f24, f25, f26, f27, f28, f29, f30, f31, f32, f33, f34, f35⟩
      | 10, _ =>
       have h3 : b 3 = true := hd 3 (by decide)
       obtain rfl := f3 h3
       have h9 : b 9 = true := hd 9 (by decide)
       obtain rfl := f9 h9
       refine GO.at hs ?_
       refine GO.on rfl rfl rfl rfl ?_
       refine GO.ldRd (T := (TInt .i64)) (n := 1) (o := 0) HS h_region rfl rfl (getD_some (d := 0) (ltN c9)) rfl rfl na2 rfl ?_
       refine GO.back ?_
       refine GO.fin (fun a hs => ?_)
       exact ⟨_, _, _, _, _, _, _, _, _, _, (.int .i64 (region.getD 1 0)), _, _, _, _, _, _, _, _, _, _, _, _, _, _, _, _, _, _, _, _, _, _, _, _, _, by exact hs.setAt 10 rfl, HS, f0, f1, f2, f3, f4, f5, f6, f7, f8, f9, fun _ => rfl, f11, f12, f13, f14, f15, f16, f17, f18, f19, f20, f21, f22, f23, f24, f25, f26, f27, f28, f29, f30, f31, f32, f33, f34, f35⟩
      | 11, _ =>
       have h3 : b 3 = true := hd 3 (by decide)
       obtain rfl := f3 h3
       have h10 : b 10 = true := hd 10 (by decide)
       obtain rfl := f10 h10
       refine GO.at hs ?_
       refine GO.on rfl rfl rfl rfl ?_
       refine GO.quo rfl rfl rfl (by decide) rfl ?_
       refine GO.back ?_
       refine GO.fin (fun a hs => ?_)
       exact ⟨_, _, _, _, _, _, _, _, _, _, _, (.int .i64 (w64 ((region.getD 1 0).tdiv 4))), _, _, _, _, _, _, _, _, _, _, _, _, _, _, _, _, _, _, _, _, _, _, _, _, by exact hs.setAt 11 rfl, HS, f0, f1, f2, f3, f4, f5, f6, f7, f8, f9, f10, fun _ => rfl, f12, f13, f14, f15, f16, f17, f18, f19, f20, f21, f22, f23, f24, f25, f26, f27, f28, f29, f30, f31, f32, f33, f34, f35⟩
      | 12, _ =>
       have h3 : b 3 = true := hd 3 (by decide)
       obtain rfl := f3 h3
       have h7 : b 7 = true := hd 7 (by decide)
       obtain rfl := f7 h7
       have h11 : b 11 = true := hd 11 (by decide)
       obtain rfl := f11 h11
       refine GO.at hs ?_
       refine GO.on rfl rfl rfl rfl ?_
       refine GO.eql rfl rfl rfl rfl ?_
       refine GO.back ?_
       refine GO.fin (fun a hs => ?_)
       exact ⟨_, _, _, _, _, _, _, _, _, _, _, _, (.bool (decide (w64 ((region.getD 0 0).tdiv 4) = w64 ((region.getD 1 0).tdiv 4)))), _, _, _, _, _, _, _, _, _, _, _, _, _, _, _, _, _, _, _, _, _, _, _, by exact hs.setAt 12 rfl, HS, f0, f1, f2, f3, f4, f5, f6, f7, f8, f9, f10, f11, fun _ => rfl, f13, f14, f15, f16, f17, f18, f19, f20, f21, f22, f23, f24, f25, f26, f27, f28, f29, f30, f31, f32, f33, f34, f35⟩
      | 13, _ =>
       have h3 : b 3 = true := hd 3 (by decide)
       obtain rfl := f3 h3
       have h12 : b 12 = true := hd 12 (by decide)
       obtain rfl := f12 h12
       refine GO.at hs ?_
       refine GO.pickF rfl rfl rfl rfl rfl ?_
       refine GO.fin (fun a hs => ?_)
       exact ⟨_, _, _, _, _, _, _, _, _, _, _, _, _, (.bool (decide (w64 ((region.getD 0 0).tdiv 4) = w64 ((region.getD 1 0).tdiv 4)))), _, _, _, _, _, _, _, _, _, _, _, _, _, _, _, _, _, _, _, _, _, _, by exact hs.setAt 13 rfl, HS, f0, f1, f2, f3, f4, f5, f6, f7, f8, f9, f10, f11, f12, fun _ => rfl, f14, f15, f16, f17, f18, f19, f20, f21, f22, f23, f24, f25, f26, f27, f28, f29, f30, f31, f32, f33, f34, f35⟩
      | 14, _ =>
       have h13 : b 13 = true := hd 13 (by decide)
       obtain rfl := f13 h13
       refine GO.at hs ?_
       refine GO.move rfl rfl rfl ?_
       refine GO.known (t := 23) rfl (decide_eq_false c10) ?_
       refine GO.fin (fun a hs => ?_)
       exact ⟨_, _, _, _, _, _, _, _, _, _, _, _, _, _, (.bool false), _, _, _, _, _, _, _, _, _, _, _, _, _, _, _, _, _, _, _, _, _, hs.weak ⟨rfl, rfl, rfl, rfl, rfl, rfl, rfl, rfl, rfl, rfl, rfl, rfl, rfl, rfl, rfl, rfl, rfl, rfl, rfl, rfl, rfl, rfl, rfl, rfl, rfl, rfl, rfl, rfl, rfl, rfl, rfl, rfl, rfl, rfl, rfl, rfl, rfl, trivial⟩, HS, f0, f1, f2, f3, f4, f5, f6, f7, f8, f9, f10, f11, f12, f13, fun _ => rfl, f15, f16, f17, f18, f19, f20, f21, f22, f23, f24, f25, f26, f27, f28, f29, f30, f31, f32, f33, f34, f35⟩
      | 15, _ =>
       have h14 : b 14 = true := hd 14 (by decide)
       obtain rfl := f14 h14
       refine GO.at hs ?_
       refine GO.on rfl rfl rfl rfl ?_
       refine GO.move rfl rfl rfl ?_
       refine GO.back ?_
       refine GO.fin (fun a hs => ?_)
       exact ⟨_, _, _, _, _, _, _, _, _, _, _, _, _, _, _, (.slice A_region region.length c_region), _, _, _, _, _, _, _, _, _, _, _, _, _, _, _, _, _, _, _, _, by exact hs.setAt 15 rfl, HS, f0, f1, f2, f3, f4, f5, f6, f7, f8, f9, f10, f11, f12, f13, f14, fun _ => rfl, f16, f17, f18, f19, f20, f21, f22, f23, f24, f25, f26, f27, f28, f29, f30, f31, f32, f33, f34, f35⟩
      | 16, _ =>
       have h14 : b 14 = true := hd 14 (by decide)
       obtain rfl := f14 h14
       have h15 : b 15 = true := hd 15 (by decide)
       obtain rfl := f15 h15
       refine GO.at hs ?_
       refine GO.on rfl rfl rfl rfl ?_
       refine GO.ix rfl rfl rfl Try.underlying43 sz2 (h_region _ HS).2.2.1 c9.1 c9.2 rfl ?_
       refine GO.back ?_
       refine GO.fin (fun a hs => ?_)
       exact ⟨_, _, _, _, _, _, _, _, _, _, _, _, _, _, _, _, (.pointer (some (ea A_region (1 * 1)))), _, _, _, _, _, _, _, _, _, _, _, _, _, _, _, _, _, _, _, by exact hs.setAt 16 rfl, HS, f0, f1, f2, f3, f4, f5, f6, f7, f8, f9, f10, f11, f12, f13, f14, f15, fun _ => rfl, f17, f18, f19, f20, f21, f22, f23, f24, f25, f26, f27, f28, f29, f30, f31, f32, f33, f34, f35⟩
      | 17, _ =>
       have h14 : b 14 = true := hd 14 (by decide)
       obtain rfl := f14 h14
       have h16 : b 16 = true := hd 16 (by decide)
       obtain rfl := f16 h16
       refine GO.at hs ?_
       refine GO.on rfl rfl rfl rfl ?_
       refine GO.ldRd (T := (TInt .i64)) (n := 1) (o := 0) HS h_region rfl rfl (getD_some (d := 0) (ltN c9)) rfl rfl na2 rfl ?_
       refine GO.back ?_
       refine GO.fin (fun a hs => ?_)
       exact ⟨_, _, _, _, _, _, _, _, _, _, _, _, _, _, _, _, _, (.int .i64 (region.getD 1 0)), _, _, _, _, _, _, _, _, _, _, _, _, _, _, _, _, _, _, by exact hs.setAt 17 rfl, HS, f0, f1, f2, f3, f4, f5, f6, f7, f8, f9, f10, f11, f12, f13, f14, f15, f16, fun _ => rfl, f18, f19, f20, f21, f22, f23, f24, f25, f26, f27, f28, f29, f30, f31, f32, f33, f34, f35⟩
      | 18, _ =>
       have h14 : b 14 = true := hd 14 (by decide)
       obtain rfl := f14 h14
       have h17 : b 17 = true := hd 17 (by decide)
       obtain rfl := f17 h17
       refine GO.at hs ?_
       refine GO.on rfl rfl rfl rfl ?_
       refine GO.quo rfl rfl rfl (by decide) rfl ?_
       refine GO.back ?_
       refine GO.fin (fun a hs => ?_)
       exact ⟨_, _, _, _, _, _, _, _, _, _, _, _, _, _, _, _, _, _, (.int .i64 (w64 ((region.getD 1 0).tdiv 4))), _, _, _, _, _, _, _, _, _, _, _, _, _, _, _, _, _, by exact hs.setAt 18 rfl, HS, f0, f1, f2, f3, f4, f5, f6, f7, f8, f9, f10, f11, f12, f13, f14, f15, f16, f17, fun _ => rfl, f19, f20, f21, f22, f23, f24, f25, f26, f27, f28, f29, f30, f31, f32, f33, f34, f35⟩
      | 19, _ =>
       have h14 : b 14 = true := hd 14 (by decide)
       obtain rfl := f14 h14
       refine GO.at hs ?_
       refine GO.on rfl rfl rfl rfl ?_
       refine GO.move rfl rfl rfl ?_
       refine GO.back ?_
       refine GO.fin (fun a hs => ?_)
       exact ⟨_, _, _, _, _, _, _, _, _, _, _, _, _, _, _, _, _, _, _, (.slice A_region region.length c_region), _, _, _, _, _, _, _, _, _, _, _, _, _, _, _, _, by exact hs.setAt 19 rfl, HS, f0, f1, f2, f3, f4, f5, f6, f7, f8, f9, f10, f11, f12, f13, f14, f15, f16, f17, f18, fun _ => rfl, f20, f21, f22, f23, f24, f25, f26, f27, f28, f29, f30, f31, f32, f33, f34, f35⟩
      | 20, _ =>
       have h14 : b 14 = true := hd 14 (by decide)
       obtain rfl := f14 h14
       have h19 : b 19 = true := hd 19 (by decide)
       obtain rfl := f19 h19
       refine GO.at hs ?_
       refine GO.on rfl rfl rfl rfl ?_
       refine GO.ix rfl rfl rfl Try.underlying43 sz2 (h_region _ HS).2.2.1 c11.1 c11.2 rfl ?_
       refine GO.back ?_
       refine GO.fin (fun a hs => ?_)
       exact ⟨_, _, _, _, _, _, _, _, _, _, _, _, _, _, _, _, _, _, _, _, (.pointer (some (ea A_region (2 * 1)))), _, _, _, _, _, _, _, _, _, _, _, _, _, _, _, by exact hs.setAt 20 rfl, HS, f0, f1, f2, f3, f4, f5, f6, f7, f8, f9, f10, f11, f12, f13, f14, f15, f16, f17, f18, f19, fun _ => rfl, f21, f22, f23, f24, f25, f26, f27, f28, f29, f30, f31, f32, f33, f34, f35⟩
      | 21, _ =>
       have h14 : b 14 = true := hd 14 (by decide)
       obtain rfl := f14 h14
       have h20 : b 20 = true := hd 20 (by decide)
       obtain rfl := f20 h20
       refine GO.at hs ?_
       refine GO.on rfl rfl rfl rfl ?_
       refine GO.ldRd (T := (TInt .i64)) (n := 2) (o := 0) HS h_region rfl rfl (getD_some (d := 0) (ltN c11)) rfl rfl na2 rfl ?_
       refine GO.back ?_
       refine GO.fin (fun a hs => ?_)
       exact ⟨_, _, _, _, _, _, _, _, _, _, _, _, _, _, _, _, _, _, _, _, _, (.int .i64 (region.getD 2 0)), _, _, _, _, _, _, _, _, _, _, _, _, _, _, by exact hs.setAt 21 rfl, HS, f0, f1, f2, f3, f4, f5, f6, f7, f8, f9, f10, f11, f12, f13, f14, f15, f16, f17, f18, f19, f20, fun _ => rfl, f22, f23, f24, f25, f26, f27, f28, f29, f30, f31, f32, f33, f34, f35⟩
      | 22, _ =>
       have h14 : b 14 = true := hd 14 (by decide)
       obtain rfl := f14 h14
       have h21 : b 21 = true := hd 21 (by decide)
       obtain rfl := f21 h21
       refine GO.at hs ?_
       refine GO.on rfl rfl rfl rfl ?_
       refine GO.quo rfl rfl rfl (by decide) rfl ?_
       refine GO.back ?_
       refine GO.fin (fun a hs => ?_)
       exact ⟨_, _, _, _, _, _, _, _, _, _, _, _, _, _, _, _, _, _, _, _, _, _, (.int .i64 (w64 ((region.getD 2 0).tdiv 4))), _, _, _, _, _, _, _, _, _, _, _, _, _, by exact hs.setAt 22 rfl, HS, f0, f1, f2, f3, f4, f5, f6, f7, f8, f9, f10, f11, f12, f13, f14, f15, f16, f17, f18, f19, f20, f21, fun _ => rfl, f23, f24, f25, f26, f27, f28, f29, f30, f31, f32, f33, f34, f35⟩
      | 23, _ =>
       have h14 : b 14 = true := hd 14 (by decide)
       obtain rfl := f14 h14
       have h18 : b 18 = true := hd 18 (by decide)
       obtain rfl := f18 h18
       have h22 : b 22 = true := hd 22 (by decide)
       obtain rfl := f22 h22
       refine GO.at hs ?_
       refine GO.on rfl rfl rfl rfl ?_
       refine GO.eql rfl rfl rfl rfl ?_
       refine GO.back ?_
       refine GO.fin (fun a hs => ?_)
       exact ⟨_, _, _, _, _, _, _, _, _, _, _, _, _, _, _, _, _, _, _, _, _, _, _, (.bool (decide (w64 ((region.getD 1 0).tdiv 4) = w64 ((region.getD 2 0).tdiv 4)))), _, _, _, _, _, _, _, _, _, _, _, _, by exact hs.setAt 23 rfl, HS, f0, f1, f2, f3, f4, f5, f6, f7, f8, f9, f10, f11, f12, f13, f14, f15, f16, f17, f18, f19, f20, f21, f22, fun _ => rfl, f24, f25, f26, f27, f28, f29, f30, f31, f32, f33, f34, f35⟩
      | 24, _ =>
       have h14 : b 14 = true := hd 14 (by decide)
       obtain rfl := f14 h14
       have h23 : b 23 = true := hd 23 (by decide)
       obtain rfl := f23 h23
       refine GO.at hs ?_
       refine GO.pickF rfl rfl rfl rfl rfl ?_
       refine GO.fin (fun a hs => ?_)
       exact ⟨_, _, _, _, _, _, _, _, _, _, _, _, _, _, _, _, _, _, _, _, _, _, _, _, (.bool (decide (w64 ((region.getD 1 0).tdiv 4) = w64 ((region.getD 2 0).tdiv 4)))), _, _, _, _, _, _, _, _, _, _, _, by exact hs.setAt 24 rfl, HS, f0, f1, f2, f3, f4, f5, f6, f7, f8, f9, f10, f11, f12, f13, f14, f15, f16, f17, f18, f19, f20, f21, f22, f23, fun _ => rfl, f25, f26, f27, f28, f29, f30, f31, f32, f33, f34, f35⟩
      | 25, _ =>
       have h24 : b 24 = true := hd 24 (by decide)
       obtain rfl := f24 h24
       refine GO.at hs ?_
       refine GO.move rfl rfl rfl ?_
       refine GO.known (t := 34) rfl (decide_eq_false c12) ?_
       refine GO.fin (fun a hs => ?_)
       exact ⟨_, _, _, _, _, _, _, _, _, _, _, _, _, _, _, _, _, _, _, _, _, _, _, _, _, (.bool false), _, _, _, _, _, _, _, _, _, _, hs.weak ⟨rfl, rfl, rfl, rfl, rfl, rfl, rfl, rfl, rfl, rfl, rfl, rfl, rfl, rfl, rfl, rfl, rfl, rfl, rfl, rfl, rfl, rfl, rfl, rfl, rfl, rfl, rfl, rfl, rfl, rfl, rfl, rfl, rfl, rfl, rfl, rfl, rfl, trivial⟩, HS, f0, f1, f2, f3, f4, f5, f6, f7, f8, f9, f10, f11, f12, f13, f14, f15, f16, f17, f18, f19, f20, f21, f22, f23, f24, fun _ => rfl, f26, f27, f28, f29, f30, f31, f32, f33, f34, f35⟩
      | 26, _ =>
       have h25 : b 25 = true := hd 25 (by decide)
       obtain rfl := f25 h25
       refine GO.at hs ?_
       refine GO.on rfl rfl rfl rfl ?_
       refine GO.move rfl rfl rfl ?_
       refine GO.back ?_
       refine GO.fin (fun a hs => ?_)
       exact ⟨_, _, _, _, _, _, _, _, _, _, _, _, _, _, _, _, _, _, _, _, _, _, _, _, _, _, (.slice A_region region.length c_region), _, _, _, _, _, _, _, _, _, by exact hs.setAt 26 rfl, HS, f0, f1, f2, f3, f4, f5, f6, f7, f8, f9, f10, f11, f12, f13, f14, f15, f16, f17, f18, f19, f20, f21, f22, f23, f24, f25, fun _ => rfl, f27, f28, f29, f30, f31, f32, f33, f34, f35⟩
      | 27, _ =>
       have h25 : b 25 = true := hd 25 (by decide)
       obtain rfl := f25 h25
       have h26 : b 26 = true := hd 26 (by decide)
       obtain rfl := f26 h26
       refine GO.at hs ?_
       refine GO.on rfl rfl rfl rfl ?_
       refine GO.ix rfl rfl rfl Try.underlying43 sz2 (h_region _ HS).2.2.1 c11.1 c11.2 rfl ?_
       refine GO.back ?_
       refine GO.fin (fun a hs => ?_)
       exact ⟨_, _, _, _, _, _, _, _, _, _, _, _, _, _, _, _, _, _, _, _, _, _, _, _, _, _, _, (.pointer (some (ea A_region (2 * 1)))), _, _, _, _, _, _, _, _, by exact hs.setAt 27 rfl, HS, f0, f1, f2, f3, f4, f5, f6, f7, f8, f9, f10, f11, f12, f13, f14, f15, f16, f17, f18, f19, f20, f21, f22, f23, f24, f25, f26, fun _ => rfl, f28, f29, f30, f31, f32, f33, f34, f35⟩
      | 28, _ =>
       have h25 : b 25 = true := hd 25 (by decide)
       obtain rfl := f25 h25
       have h27 : b 27 = true := hd 27 (by decide)
       obtain rfl := f27 h27
       refine GO.at hs ?_
       refine GO.on rfl rfl rfl rfl ?_
       refine GO.ldRd (T := (TInt .i64)) (n := 2) (o := 0) HS h_region rfl rfl (getD_some (d := 0) (ltN c11)) rfl rfl na2 rfl ?_
       refine GO.back ?_
       refine GO.fin (fun a hs => ?_)
       exact ⟨_, _, _, _, _, _, _, _, _, _, _, _, _, _, _, _, _, _, _, _, _, _, _, _, _, _, _, _, (.int .i64 (region.getD 2 0)), _, _, _, _, _, _, _, by exact hs.setAt 28 rfl, HS, f0, f1, f2, f3, f4, f5, f6, f7, f8, f9, f10, f11, f12, f13, f14, f15, f16, f17, f18, f19, f20, f21, f22, f23, f24, f25, f26, f27, fun _ => rfl, f29, f30, f31, f32, f33, f34, f35⟩
      | 29, _ =>
       have h25 : b 25 = true := hd 25 (by decide)
       obtain rfl := f25 h25
       have h28 : b 28 = true := hd 28 (by decide)
       obtain rfl := f28 h28
       refine GO.at hs ?_
       refine GO.on rfl rfl rfl rfl ?_
       refine GO.quo rfl rfl rfl (by decide) rfl ?_
       refine GO.back ?_
       refine GO.fin (fun a hs => ?_)
       exact ⟨_, _, _, _, _, _, _, _, _, _, _, _, _, _, _, _, _, _, _, _, _, _, _, _, _, _, _, _, _, (.int .i64 (w64 ((region.getD 2 0).tdiv 4))), _, _, _, _, _, _, by exact hs.setAt 29 rfl, HS, f0, f1, f2, f3, f4, f5, f6, f7, f8, f9, f10, f11, f12, f13, f14, f15, f16, f17, f18, f19, f20, f21, f22, f23, f24, f25, f26, f27, f28, fun _ => rfl, f30, f31, f32, f33, f34, f35⟩
      | 30, _ =>
       have h25 : b 25 = true := hd 25 (by decide)
       obtain rfl := f25 h25
       refine GO.at hs ?_
       refine GO.on rfl rfl rfl rfl ?_
       refine GO.move rfl rfl rfl ?_
       refine GO.back ?_
       refine GO.fin (fun a hs => ?_)
       exact ⟨_, _, _, _, _, _, _, _, _, _, _, _, _, _, _, _, _, _, _, _, _, _, _, _, _, _, _, _, _, _, (.slice A_region region.length c_region), _, _, _, _, _, by exact hs.setAt 30 rfl, HS, f0, f1, f2, f3, f4, f5, f6, f7, f8, f9, f10, f11, f12, f13, f14, f15, f16, f17, f18, f19, f20, f21, f22, f23, f24, f25, f26, f27, f28, f29, fun _ => rfl, f31, f32, f33, f34, f35⟩
      | 31, _ =>
       have h25 : b 25 = true := hd 25 (by decide)
       obtain rfl := f25 h25
       have h30 : b 30 = true := hd 30 (by decide)
       obtain rfl := f30 h30
       refine GO.at hs ?_
       refine GO.on rfl rfl rfl rfl ?_
       refine GO.ix rfl rfl rfl Try.underlying43 sz2 (h_region _ HS).2.2.1 c8.1 c8.2 rfl ?_
       refine GO.back ?_
       refine GO.fin (fun a hs => ?_)
       exact ⟨_, _, _, _, _, _, _, _, _, _, _, _, _, _, _, _, _, _, _, _, _, _, _, _, _, _, _, _, _, _, _, (.pointer (some (ea A_region (0 * 1)))), _, _, _, _, by exact hs.setAt 31 rfl, HS, f0, f1, f2, f3, f4, f5, f6, f7, f8, f9, f10, f11, f12, f13, f14, f15, f16, f17, f18, f19, f20, f21, f22, f23, f24, f25, f26, f27, f28, f29, f30, fun _ => rfl, f32, f33, f34, f35⟩
      | 32, _ =>
       have h25 : b 25 = true := hd 25 (by decide)
       obtain rfl := f25 h25
       have h31 : b 31 = true := hd 31 (by decide)
       obtain rfl := f31 h31
       refine GO.at hs ?_
       refine GO.on rfl rfl rfl rfl ?_
       refine GO.ldRd (T := (TInt .i64)) (n := 0) (o := 0) HS h_region rfl rfl (getD_some (d := 0) (ltN c8)) rfl rfl na2 rfl ?_
       refine GO.back ?_
       refine GO.fin (fun a hs => ?_)
       exact ⟨_, _, _, _, _, _, _, _, _, _, _, _, _, _, _, _, _, _, _, _, _, _, _, _, _, _, _, _, _, _, _, _, (.int .i64 (region.getD 0 0)), _, _, _, by exact hs.setAt 32 rfl, HS, f0, f1, f2, f3, f4, f5, f6, f7, f8, f9, f10, f11, f12, f13, f14, f15, f16, f17, f18, f19, f20, f21, f22, f23, f24, f25, f26, f27, f28, f29, f30, f31, fun _ => rfl, f33, f34, f35⟩
      | 33, _ =>
       have h25 : b 25 = true := hd 25 (by decide)
       obtain rfl := f25 h25
       have h32 : b 32 = true := hd 32 (by decide)
       obtain rfl := f32 h32
       refine GO.at hs ?_
       refine GO.on rfl rfl rfl rfl ?_
       refine GO.quo rfl rfl rfl (by decide) rfl ?_
       refine GO.back ?_
       refine GO.fin (fun a hs => ?_)
       exact ⟨_, _, _, _, _, _, _, _, _, _, _, _, _, _, _, _, _, _, _, _, _, _, _, _, _, _, _, _, _, _, _, _, _, (.int .i64 (w64 ((region.getD 0 0).tdiv 4))), _, _, by exact hs.setAt 33 rfl, HS, f0, f1, f2, f3, f4, f5, f6, f7, f8, f9, f10, f11, f12, f13, f14, f15, f16, f17, f18, f19, f20, f21, f22, f23, f24, f25, f26, f27, f28, f29, f30, f31, f32, fun _ => rfl, f34, f35⟩
      | 34, _ =>
       have h25 : b 25 = true := hd 25 (by decide)
       obtain rfl := f25 h25
       have h29 : b 29 = true := hd 29 (by decide)
       obtain rfl := f29 h29
       have h33 : b 33 = true := hd 33 (by decide)
       obtain rfl := f33 h33
       refine GO.at hs ?_
       refine GO.on rfl rfl rfl rfl ?_
       refine GO.eql rfl rfl rfl rfl ?_
       refine GO.back ?_
       refine GO.fin (fun a hs => ?_)
       exact ⟨_, _, _, _, _, _, _, _, _, _, _, _, _, _, _, _, _, _, _, _, _, _, _, _, _, _, _, _, _, _, _, _, _, _, (.bool (decide (w64 ((region.getD 2 0).tdiv 4) = w64 ((region.getD 0 0).tdiv 4)))), _, by exact hs.setAt 34 rfl, HS, f0, f1, f2, f3, f4, f5, f6, f7, f8, f9, f10, f11, f12, f13, f14, f15, f16, f17, f18, f19, f20, f21, f22, f23, f24, f25, f26, f27, f28, f29, f30, f31, f32, f33, fun _ => rfl, f35⟩
      | 35, _ =>
       have h25 : b 25 = true := hd 25 (by decide)
       obtain rfl := f25 h25
       have h34 : b 34 = true := hd 34 (by decide)
       obtain rfl := f34 h34
       refine GO.at hs ?_
       refine GO.pickF rfl rfl rfl rfl rfl ?_
       refine GO.fin (fun a hs => ?_)
       exact ⟨_, _, _, _, _, _, _, _, _, _, _, _, _, _, _, _, _, _, _, _, _, _, _, _, _, _, _, _, _, _, _, _, _, _, _, (.bool (decide (w64 ((region.getD 2 0).tdiv 4) = w64 ((region.getD 0 0).tdiv 4)))), by exact hs.setAt 35 rfl, HS, f0, f1, f2, f3, f4, f5, f6, f7, f8, f9, f10, f11, f12, f13, f14, f15, f16, f17, f18, f19, f20, f21, f22, f23, f24, f25, f26, f27, f28, f29, f30, f31, f32, f33, f34, fun _ => rfl⟩
      | k + 36, hj => exact absurd hj (Nat.not_lt.2 (Nat.le_add_left 36 k))
     ·
      intro b a w hall
      refine exI fun Y73_0 => exI fun Y74_1 => exI fun Y75_2 => exI fun Y76_3 => exI fun Y77_4 => exI fun Y78_5 => exI fun Y79_6 => exI fun Y80_7 => exI fun Y81_8 => exI fun Y82_9 => exI fun Y83_10 => exI fun Y84_11 => exI fun Y85_12 => exI fun Y86_13 => exI fun Y87_14 => exI fun Y88_15 => exI fun Y89_16 => exI fun Y90_17 => exI fun Y91_18 => exI fun Y92_19 => exI fun Y93_20 => exI fun Y94_21 => exI fun Y95_22 => exI fun Y96_23 => exI fun Y97_24 => exI fun Y98_25 => exI fun Y99_26 => exI fun Y100_27 => exI fun Y101_28 => exI fun Y102_29 => exI fun Y103_30 => exI fun Y104_31 => exI fun Y105_32 => exI fun Y106_33 => exI fun Y107_34 => exI fun Y108_35 => anI fun hs => anI fun HS => anI fun f0 => anI fun f1 => anI fun f2 => anI fun f3 => anI fun f4 => anI fun f5 => anI fun f6 => anI fun f7 => anI fun f8 => anI fun f9 => anI fun f10 => anI fun f11 => anI fun f12 => anI fun f13 => anI fun f14 => anI fun f15 => anI fun f16 => anI fun f17 => anI fun f18 => anI fun f19 => anI fun f20 => anI fun f21 => anI fun f22 => anI fun f23 => anI fun f24 => anI fun f25 => anI fun f26 => anI fun f27 => anI fun f28 => anI fun f29 => anI fun f30 => anI fun f31 => anI fun f32 => anI fun f33 => anI fun f34 => fun f35 => ?_
      obtain rfl := f0 (hall 0 (by decide))
      obtain rfl := f1 (hall 1 (by decide))
      obtain rfl := f2 (hall 2 (by decide))
      obtain rfl := f3 (hall 3 (by decide))
      obtain rfl := f4 (hall 4 (by decide))
      obtain rfl := f5 (hall 5 (by decide))
      obtain rfl := f6 (hall 6 (by decide))
      obtain rfl := f7 (hall 7 (by decide))
      obtain rfl := f8 (hall 8 (by decide))
      obtain rfl := f9 (hall 9 (by decide))
      obtain rfl := f10 (hall 10 (by decide))
      obtain rfl := f11 (hall 11 (by decide))
      obtain rfl := f12 (hall 12 (by decide))
      obtain rfl := f13 (hall 13 (by decide))
      obtain rfl := f14 (hall 14 (by decide))
      obtain rfl := f15 (hall 15 (by decide))
      obtain rfl := f16 (hall 16 (by decide))
      obtain rfl := f17 (hall 17 (by decide))
      obtain rfl := f18 (hall 18 (by decide))
      obtain rfl := f19 (hall 19 (by decide))
      obtain rfl := f20 (hall 20 (by decide))
      obtain rfl := f21 (hall 21 (by decide))
      obtain rfl := f22 (hall 22 (by decide))
      obtain rfl := f23 (hall 23 (by decide))
      obtain rfl := f24 (hall 24 (by decide))
      obtain rfl := f25 (hall 25 (by decide))
      obtain rfl := f26 (hall 26 (by decide))
      obtain rfl := f27 (hall 27 (by decide))
      obtain rfl := f28 (hall 28 (by decide))
      obtain rfl := f29 (hall 29 (by decide))
      obtain rfl := f30 (hall 30 (by decide))
      obtain rfl := f31 (hall 31 (by decide))
      obtain rfl := f32 (hall 32 (by decide))
      obtain rfl := f33 (hall 33 (by decide))
      obtain rfl := f34 (hall 34 (by decide))
      obtain rfl := f35 (hall 35 (by decide))
      refine G.at hs ?_
      rcases ite_elim H with ⟨c13, H⟩ | ⟨c13, H⟩
      ·
       refine G.yesB rfl (decide_eq_true c13) ?_
       refine G.seq ?_
       refine G.region ?_
       refine GO.assign rfl rfl rfl ?_
       refine GO.nil ?_
       obtain rfl := Option.some.inj H
       exact G.ret1 _ Try.func124 rfl rfl ⟨rfl, HS⟩
      ·
       refine G.noB rfl (decide_eq_false c13) ?_
       refine G.skip ?_
       refine G.seq ?_
       refine G.region ?_
       refine GO.assign rfl rfl rfl ?_
       refine GO.assign rfl rfl rfl ?_
       refine GO.nil ?_
       refine G.seq ?_
       refine G.seq ?_
       refine G.region ?_
       refine GO.move rfl rfl rfl ?_
       refine GO.lenS rfl rfl Try.underlying43 rfl ?_
       refine GO.move rfl rfl rfl ?_
       refine GO.nil ?_
       refine G.block ?_
       refine G.loop ?_
       refine G.name (fun k_l1 hk_l1 => ?_)
       have at_l1 : ∀ m_l1, m_l1 ≤ K → ∀ (upper_31 : Bool) (lower_32 : Bool) (x33 : Int) (w : World), impl_isTriangle.l1 K m_l1 region upper_31 lower_32 x33 = some r1 → St w0 w (L) → G Try.prog 124 85 [(0, .slice A_region region.length c_region), (3, .bool upper_31), (4, .bool lower_32), (45, .slice A_region region.length c_region), (46, .int .i64 (region.length : Int)), (47, .int .i64 x33)] k_l1 w (impl_isTriangle.post w0 L region A_region c_region r1) := by
        intro m_l1
        induction m_l1 using Nat.strongRecOn with
        | _ m_l1 ih_l1 =>
         intro hm_l1 upper_31 lower_32 x33 w H HS
         cases m_l1 with
         | zero => rw [impl_isTriangle.l1] at H; cases H
         | succ n_l1 =>
          rw [impl_isTriangle.l1] at H
          subst hk_l1
          refine G.seq ?_
          refine G.region ?_
          refine GO.lss rfl rfl rfl rfl ?_
          refine GO.nil ?_
          refine G.seq ?_
          rcases ite_elim H with ⟨c55, H⟩ | ⟨c55, H⟩
          ·
           refine G.yesB rfl (decide_eq_true c55) ?_
           refine G.skip ?_
           refine G.seq ?_
           refine G.block ?_
           refine G.seq ?_
           obtain ⟨c56, H⟩ := ite_none H
           refine G.region ?_
           refine GO.move rfl rfl rfl ?_
           refine GO.ix rfl rfl rfl Try.underlying43 sz2 (h_region _ HS).2.2.1 c56.1 c56.2 rfl ?_
           refine GO.ldRd (T := (TInt .i64)) (n := x33.toNat) (o := 0) HS h_region rfl rfl (getD_some (d := 0) (ltN c56)) rfl rfl na2 rfl ?_
           refine GO.assign rfl rfl rfl ?_
           refine GO.assign rfl rfl rfl ?_
           refine GO.nil ?_
           refine G.seq ?_
           obtain ⟨t57, h58, H⟩ := Option.bind_eq_some_iff.1 H
           obtain ⟨c61, H⟩ := ite_none H
           obtain ⟨t62, h63, H⟩ := Option.bind_eq_some_iff.1 H
           refine G.regionAny mixed (by decide) (fun b a w => ∃ (Y109_0 : Value) (Y110_1 : Value) (Y111_2 : Value) (Y112_3 : Value) (Y113_4 : Value) (Y114_5 : Value) (Y115_6 : Value) (Y116_7 : Value) (Y117_8 : Value) (Y118_9 : Value) (Y119_10 : Value) (Y120_11 : Value) (Y121_12 : Value) (Y122_13 : Value), Sat 85 [(7, Y121_12), (8, Y122_13), (52, Y109_0), (53, Y110_1), (54, Y111_2), (55, Y112_3), (56, Y113_4), (57, Y114_5), (58, Y115_6), (59, Y116_7), (60, Y117_8), (61, Y118_9), (62, Y119_10), (63, Y120_11), (0, .slice A_region region.length c_region), (3, .bool upper_31), (4, .bool lower_32), (5, .int .i64 x33), (6, .int .i64 (region.getD x33.toNat 0)), (45, .slice A_region region.length c_region), (46, .int .i64 (region.length : Int)), (47, .int .i64 x33)] a ∧ St w0 w (L) ∧ (b 12 = true → Y121_12 = (.bool t57)) ∧ (b 13 = true → Y122_13 = (.bool t62)) ∧ (b 0 = true → Y109_0 = (.int .i64 (region.getD x33.toNat 0))) ∧ (b 1 = true → Y110_1 = (.int .i64 (w64 ((region.getD x33.toNat 0) + 1)))) ∧ (b 2 = true → Y111_2 = (.int .i64 ((w64 ((region.getD x33.toNat 0) + 1)).tmod 4))) ∧ (b 3 = true → Y112_3 = (.bool t57)) ∧ (b 4 = true → Y113_4 = (.slice A_region region.length c_region)) ∧ (b 5 = true → Y114_5 = (.int .i64 x33)) ∧ (b 6 = true → Y115_6 = (.int .i64 (w64 (x33 + 1)))) ∧ (b 7 = true → Y116_7 = (.int .i64 ((w64 (x33 + 1)).tmod 3))) ∧ (b 8 = true → Y117_8 = (.pointer (some (ea A_region ((((w64 (x33 + 1)).tmod 3).toNat) * 1))))) ∧ (b 9 = true → Y118_9 = (.int .i64 (region.getD (((w64 (x33 + 1)).tmod 3).toNat) 0))) ∧ (b 10 = true → Y119_10 = (.int .i64 ((region.getD (((w64 (x33 + 1)).tmod 3).toNat) 0).tmod 4))) ∧ (b 11 = true → Y120_11 = (.bool t62))) ?_ ?_ ?_
           ·
            intro a hs
            obtain ⟨Y121_12, hs⟩ := hs.ext (d := 7) rfl
            obtain ⟨Y122_13, hs⟩ := hs.ext (d := 8) rfl
            obtain ⟨Y109_0, hs⟩ := hs.ext (d := 52) rfl
            obtain ⟨Y110_1, hs⟩ := hs.ext (d := 53) rfl
            obtain ⟨Y111_2, hs⟩ := hs.ext (d := 54) rfl
            obtain ⟨Y112_3, hs⟩ := hs.ext (d := 55) rfl
            obtain ⟨Y113_4, hs⟩ := hs.ext (d := 56) rfl
            obtain ⟨Y114_5, hs⟩ := hs.ext (d := 57) rfl
            obtain ⟨Y115_6, hs⟩ := hs.ext (d := 58) rfl
            obtain ⟨Y116_7, hs⟩ := hs.ext (d := 59) rfl
            obtain ⟨Y117_8, hs⟩ := hs.ext (d := 60) rfl
            obtain ⟨Y118_9, hs⟩ := hs.ext (d := 61) rfl
            obtain ⟨Y119_10, hs⟩ := hs.ext (d := 62) rfl
            obtain ⟨Y120_11, hs⟩ := hs.ext (d := 63) rfl
            exact ⟨Y109_0, Y110_1, Y111_2, Y112_3, Y113_4, Y114_5, Y115_6, Y116_7, Y117_8, Y118_9, Y119_10, Y120_11, Y121_12, Y122_13, hs.weak ⟨rfl, rfl, rfl, rfl, rfl, rfl, rfl, rfl, rfl, rfl, rfl, rfl, rfl, rfl, rfl, rfl, rfl, rfl, rfl, rfl, rfl, rfl, trivial⟩, (HS.drew.pick 0 []), fun h => Bool.noConfusion h, fun h => Bool.noConfusion h, fun h => Bool.noConfusion h, fun h => Bool.noConfusion h, fun h => Bool.noConfusion h, fun h => Bool.noConfusion h, fun h => Bool.noConfusion h, fun h => Bool.noConfusion h, fun h => Bool.noConfusion h, fun h => Bool.noConfusion h, fun h => Bool.noConfusion h, fun h => Bool.noConfusion h, fun h => Bool.noConfusion h, fun h => Bool.noConfusion h⟩
           ·
            intro j hj b a w
            refine exI fun Y109_0 => exI fun Y110_1 => exI fun Y111_2 => exI fun Y112_3 => exI fun Y113_4 => exI fun Y114_5 => exI fun Y115_6 => exI fun Y116_7 => exI fun Y117_8 => exI fun Y118_9 => exI fun Y119_10 => exI fun Y120_11 => exI fun Y121_12 => exI fun Y122_13 => anI fun hs => anI fun HS => anI fun f12 => anI fun f13 => anI fun f0 => anI fun f1 => anI fun f2 => anI fun f3 => anI fun f4 => anI fun f5 => anI fun f6 => anI fun f7 => anI fun f8 => anI fun f9 => anI fun f10 => fun f11 hb hd hcl => ?_
            match j, hj with
            | 0, _ =>
             refine GO.at hs ?_
             refine GO.move rfl rfl rfl ?_
             refine GO.fin (fun a hs => ?_)
             exact ⟨(.int .i64 (region.getD x33.toNat 0)), _, _, _, _, _, _, _, _, _, _, _, _, _, by exact hs.setAt 2 rfl, HS, f12, f13, fun _ => rfl, f1, f2, f3, f4, f5, f6, f7, f8, f9, f10, f11⟩
            | 1, _ =>
             have h0 : b 0 = true := hd 0 (by decide)
             obtain rfl := f0 h0
             refine GO.at hs ?_
             refine GO.add rfl rfl rfl rfl ?_
             refine GO.fin (fun a hs => ?_)
             exact ⟨_, (.int .i64 (w64 ((region.getD x33.toNat 0) + 1))), _, _, _, _, _, _, _, _, _, _, _, _, by exact hs.setAt 3 rfl, HS, f12, f13, f0, fun _ => rfl, f2, f3, f4, f5, f6, f7, f8, f9, f10, f11⟩
            | 2, _ =>
             have h1 : b 1 = true := hd 1 (by decide)
             obtain rfl := f1 h1
             refine GO.at hs ?_
             refine GO.rem rfl rfl rfl (by decide) rfl ?_
             refine GO.fin (fun a hs => ?_)
             exact ⟨_, _, (.int .i64 ((w64 ((region.getD x33.toNat 0) + 1)).tmod 4)), _, _, _, _, _, _, _, _, _, _, _, by exact hs.setAt 4 rfl, HS, f12, f13, f0, f1, fun _ => rfl, f3, f4, f5, f6, f7, f8, f9, f10, f11⟩
            | 3, _ =>
             have h2 : b 2 = true := hd 2 (by decide)
             obtain rfl := f2 h2
             refine GO.at hs ?_
             refine GO.fn rfl Try.func126 fok126.1 fok126.2 rfl rfl (impl_isUpper.calls HS  h58) (fun _ wd59 ⟨h60, HS⟩ => ⟨_, h60, ?_⟩)
             refine GO.fin (fun a hs => ?_)
             exact ⟨_, _, _, (.bool t57), _, _, _, _, _, _, _, _, _, _, by exact hs.setAt 5 rfl, HS, f12, f13, f0, f1, f2, fun _ => rfl, f4, f5, f6, f7, f8, f9, f10, f11⟩
            | 4, _ =>
             refine GO.at hs ?_
             refine GO.move rfl rfl rfl ?_
             refine GO.fin (fun a hs => ?_)
             exact ⟨_, _, _, _, (.slice A_region region.length c_region), _, _, _, _, _, _, _, _, _, by exact hs.setAt 6 rfl, HS, f12, f13, f0, f1, f2, f3, fun _ => rfl, f5, f6, f7, f8, f9, f10, f11⟩
            | 5, _ =>
             refine GO.at hs ?_
             refine GO.move rfl rfl rfl ?_
             refine GO.fin (fun a hs => ?_)
             exact ⟨_, _, _, _, _, (.int .i64 x33), _, _, _, _, _, _, _, _, by exact hs.setAt 7 rfl, HS, f12, f13, f0, f1, f2, f3, f4, fun _ => rfl, f6, f7, f8, f9, f10, f11⟩
            | 6, _ =>
             have h5 : b 5 = true := hd 5 (by decide)
             obtain rfl := f5 h5
             refine GO.at hs ?_
             refine GO.add rfl rfl rfl rfl ?_
             refine GO.fin (fun a hs => ?_)
             exact ⟨_, _, _, _, _, _, (.int .i64 (w64 (x33 + 1))), _, _, _, _, _, _, _, by exact hs.setAt 8 rfl, HS, f12, f13, f0, f1, f2, f3, f4, f5, fun _ => rfl, f7, f8, f9, f10, f11⟩
            | 7, _ =>
             have h6 : b 6 = true := hd 6 (by decide)
             obtain rfl := f6 h6
             refine GO.at hs ?_
             refine GO.rem rfl rfl rfl (by decide) rfl ?_
             refine GO.fin (fun a hs => ?_)
             exact ⟨_, _, _, _, _, _, _, (.int .i64 ((w64 (x33 + 1)).tmod 3)), _, _, _, _, _, _, by exact hs.setAt 9 rfl, HS, f12, f13, f0, f1, f2, f3, f4, f5, f6, fun _ => rfl, f8, f9, f10, f11⟩
            | 8, _ =>
             have h4 : b 4 = true := hd 4 (by decide)
             obtain rfl := f4 h4
             have h7 : b 7 = true := hd 7 (by decide)
             obtain rfl := f7 h7
             refine GO.at hs ?_
             refine GO.ix rfl rfl rfl Try.underlying43 sz2 (h_region _ HS).2.2.1 c61.1 c61.2 rfl ?_
             refine GO.fin (fun a hs => ?_)
             exact ⟨_, _, _, _, _, _, _, _, (.pointer (some (ea A_region ((((w64 (x33 + 1)).tmod 3).toNat) * 1)))), _, _, _, _, _, by exact hs.setAt 10 rfl, HS, f12, f13, f0, f1, f2, f3, f4, f5, f6, f7, fun _ => rfl, f9, f10, f11⟩
            | 9, _ =>
             have h8 : b 8 = true := hd 8 (by decide)
             obtain rfl := f8 h8
             refine GO.at hs ?_
             refine GO.ldRd (T := (TInt .i64)) (n := ((w64 (x33 + 1)).tmod 3).toNat) (o := 0) HS h_region rfl rfl (getD_some (d := 0) (ltN c61)) rfl rfl na2 rfl ?_
             refine GO.fin (fun a hs => ?_)
             exact ⟨_, _, _, _, _, _, _, _, _, (.int .i64 (region.getD (((w64 (x33 + 1)).tmod 3).toNat) 0)), _, _, _, _, by exact hs.setAt 11 rfl, HS, f12, f13, f0, f1, f2, f3, f4, f5, f6, f7, f8, fun _ => rfl, f10, f11⟩
            | 10, _ =>
             have h9 : b 9 = true := hd 9 (by decide)
             obtain rfl := f9 h9
             refine GO.at hs ?_
             refine GO.rem rfl rfl rfl (by decide) rfl ?_
             refine GO.fin (fun a hs => ?_)
             exact ⟨_, _, _, _, _, _, _, _, _, _, (.int .i64 ((region.getD (((w64 (x33 + 1)).tmod 3).toNat) 0).tmod 4)), _, _, _, by exact hs.setAt 12 rfl, HS, f12, f13, f0, f1, f2, f3, f4, f5, f6, f7, f8, f9, fun _ => rfl, f11⟩
            | 11, _ =>
             have h10 : b 10 = true := hd 10 (by decide)
             obtain rfl := f10 h10
             refine GO.at hs ?_
             refine GO.fn rfl Try.func126 fok126.1 fok126.2 rfl rfl (impl_isUpper.calls HS  h63) (fun _ wd64 ⟨h65, HS⟩ => ⟨_, h65, ?_⟩)
             refine GO.fin (fun a hs => ?_)
             exact ⟨_, _, _, _, _, _, _, _, _, _, _, (.bool t62), _, _, by exact hs.setAt 13 rfl, HS, f12, f13, f0, f1, f2, f3, f4, f5, f6, f7, f8, f9, f10, fun _ => rfl⟩
            | 12, _ =>
             have h3 : b 3 = true := hd 3 (by decide)
             obtain rfl := f3 h3
             refine GO.at hs ?_
             refine GO.assign rfl rfl rfl ?_
             refine GO.fin (fun a hs => ?_)
             exact ⟨_, _, _, _, _, _, _, _, _, _, _, _, (.bool t57), _, by exact hs.setAt 0 rfl, HS, fun _ => rfl, f13, f0, f1, f2, f3, f4, f5, f6, f7, f8, f9, f10, f11⟩
            | 13, _ =>
             have h11 : b 11 = true := hd 11 (by decide)
             obtain rfl := f11 h11
             refine GO.at hs ?_
             refine GO.assign rfl rfl rfl ?_
             refine GO.fin (fun a hs => ?_)
             exact ⟨_, _, _, _, _, _, _, _, _, _, _, _, _, (.bool t62), by exact hs.setAt 1 rfl, HS, f12, fun _ => rfl, f0, f1, f2, f3, f4, f5, f6, f7, f8, f9, f10, f11⟩
            | k + 14, hj => exact absurd hj (Nat.not_lt.2 (Nat.le_add_left 14 k))
           ·
            intro b a w hall
            refine exI fun Y109_0 => exI fun Y110_1 => exI fun Y111_2 => exI fun Y112_3 => exI fun Y113_4 => exI fun Y114_5 => exI fun Y115_6 => exI fun Y116_7 => exI fun Y117_8 => exI fun Y118_9 => exI fun Y119_10 => exI fun Y120_11 => exI fun Y121_12 => exI fun Y122_13 => anI fun hs => anI fun HS => anI fun f12 => anI fun f13 => anI fun f0 => anI fun f1 => anI fun f2 => anI fun f3 => anI fun f4 => anI fun f5 => anI fun f6 => anI fun f7 => anI fun f8 => anI fun f9 => anI fun f10 => fun f11 => ?_
            obtain rfl := f12 (hall 12 (by decide))
            obtain rfl := f13 (hall 13 (by decide))
            obtain rfl := f0 (hall 0 (by decide))
            obtain rfl := f1 (hall 1 (by decide))
            obtain rfl := f2 (hall 2 (by decide))
            obtain rfl := f3 (hall 3 (by decide))
            obtain rfl := f4 (hall 4 (by decide))
            obtain rfl := f5 (hall 5 (by decide))
            obtain rfl := f6 (hall 6 (by decide))
            obtain rfl := f7 (hall 7 (by decide))
            obtain rfl := f8 (hall 8 (by decide))
            obtain rfl := f9 (hall 9 (by decide))
            obtain rfl := f10 (hall 10 (by decide))
            obtain rfl := f11 (hall 11 (by decide))
            refine G.at hs ?_
            refine G.seq ?_
            refine G.nameT (fun k_j4 hk_j4 => ?_)
            have at_j4 : ∀ m_j4, m_j4 ≤ n_l1 → ∀ (upper_70 : Bool) (w : World), impl_isTriangle.j4 K m_j4 region lower_32 x33 t57 t62 upper_70 = some r1 → St w0 w (L) → G Try.prog 124 85 [(0, .slice A_region region.length c_region), (3, .bool upper_70), (4, .bool lower_32), (7, .bool t57), (8, .bool t62), (45, .slice A_region region.length c_region), (46, .int .i64 (region.length : Int)), (47, .int .i64 x33)] k_j4 w (impl_isTriangle.post w0 L region A_region c_region r1) := by
             intro m_j4 hm_j4 upper_70 w H HS
             cases m_j4 with
             | zero => rw [impl_isTriangle.j4] at H; cases H
             | succ n_j4 =>
              rw [impl_isTriangle.j4] at H
              subst hk_j4
              rcases ite_elim H with ⟨c71, H⟩ | ⟨c71, H⟩
              ·
               refine G.region ?_
               refine GO.move rfl rfl rfl ?_
               refine GO.move rfl rfl rfl ?_
               refine GO.known (t := 72) rfl c71 ?_
               refine GO.off rfl rfl rfl rfl rfl rfl ?_
               refine GO.off rfl rfl rfl rfl rfl rfl ?_
               refine GO.off rfl rfl rfl rfl rfl rfl ?_
               refine GO.offU rfl rfl rfl rfl rfl rfl ?_
               refine GO.offU rfl rfl rfl rfl rfl rfl ?_
               refine GO.off rfl rfl rfl rfl rfl rfl ?_
               refine GO.pickT rfl rfl rfl rfl rfl ?_
               refine GO.assign rfl rfl rfl ?_
               refine GO.nil ?_
               refine G.blockEnd ?_
               refine G.region ?_
               refine GO.add rfl rfl rfl rfl ?_
               refine GO.move rfl rfl rfl ?_
               refine GO.nil ?_
               refine G.again ?_
               refine G.weak ?_ (ih_l1 n_j4 (Nat.lt_succ_of_le (Nat.le_of_succ_le hm_j4)) (Nat.le_trans (Nat.le_of_succ_le hm_j4) (Nat.le_of_succ_le hm_l1)) _ _ _ _ H HS)
               exact ⟨rfl, rfl, rfl, rfl, rfl, rfl, trivial⟩
              ·
               rcases ite_elim H with ⟨c72, H⟩ | ⟨c72, H⟩
               ·
                refine G.region ?_
                refine GO.move rfl rfl rfl ?_
                refine GO.move rfl rfl rfl ?_
                refine GO.known (t := 72) rfl (bnot_of c71) ?_
                refine GO.on rfl rfl rfl rfl ?_
                refine GO.move rfl rfl rfl ?_
                refine GO.back ?_
                refine GO.on rfl rfl rfl rfl ?_
                refine GO.not rfl rfl rfl ?_
                refine GO.back ?_
                refine GO.on rfl rfl rfl rfl ?_
                refine GO.move rfl rfl rfl ?_
                refine GO.back ?_
                refine GO.known (t := 75) rfl (congrArg Bool.not c72) ?_
                refine GO.off rfl rfl rfl rfl rfl rfl ?_
                refine GO.off rfl rfl rfl rfl rfl rfl ?_
                refine GO.on rfl rfl rfl rfl ?_
                refine GO.pickF rfl rfl rfl rfl rfl ?_
                refine GO.back ?_
                refine GO.pickF rfl rfl rfl rfl rfl ?_
                refine GO.assign rfl rfl rfl ?_
                refine GO.nil ?_
                refine G.blockEnd ?_
                refine G.region ?_
                refine GO.add rfl rfl rfl rfl ?_
                refine GO.move rfl rfl rfl ?_
                refine GO.nil ?_
                refine G.again ?_
                refine G.weak ?_ (ih_l1 n_j4 (Nat.lt_succ_of_le (Nat.le_of_succ_le hm_j4)) (Nat.le_trans (Nat.le_of_succ_le hm_j4) (Nat.le_of_succ_le hm_l1)) _ _ _ _ H HS)
                exact ⟨rfl, rfl, rfl, rfl, rfl, rfl, trivial⟩
               ·
                refine G.region ?_
                refine GO.move rfl rfl rfl ?_
                refine GO.move rfl rfl rfl ?_
                refine GO.known (t := 72) rfl (bnot_of c71) ?_
                refine GO.on rfl rfl rfl rfl ?_
                refine GO.move rfl rfl rfl ?_
                refine GO.back ?_
                refine GO.on rfl rfl rfl rfl ?_
                refine GO.not rfl rfl rfl ?_
                refine GO.back ?_
                refine GO.on rfl rfl rfl rfl ?_
                refine GO.move rfl rfl rfl ?_
                refine GO.back ?_
                refine GO.known (t := 75) rfl (congrArg Bool.not (bnot_of c72)) ?_
                refine GO.on rfl rfl rfl rfl ?_
                refine GO.move rfl rfl rfl ?_
                refine GO.back ?_
                refine GO.on rfl rfl rfl rfl ?_
                refine GO.not rfl rfl rfl ?_
                refine GO.back ?_
                refine GO.on rfl rfl rfl rfl ?_
                refine GO.pickT rfl rfl rfl rfl rfl ?_
                refine GO.back ?_
                refine GO.pickF rfl rfl rfl rfl rfl ?_
                refine GO.assign rfl rfl rfl ?_
                refine GO.nil ?_
                refine G.blockEnd ?_
                refine G.region ?_
                refine GO.add rfl rfl rfl rfl ?_
                refine GO.move rfl rfl rfl ?_
                refine GO.nil ?_
                refine G.again ?_
                refine G.weak ?_ (ih_l1 n_j4 (Nat.lt_succ_of_le (Nat.le_of_succ_le hm_j4)) (Nat.le_trans (Nat.le_of_succ_le hm_j4) (Nat.le_of_succ_le hm_l1)) _ _ _ _ H HS)
                exact ⟨rfl, rfl, rfl, rfl, rfl, rfl, trivial⟩
            rcases ite_elim H with ⟨c73, H⟩ | ⟨c73, H⟩
            ·
             refine G.region ?_
             refine GO.move rfl rfl rfl ?_
             refine GO.move rfl rfl rfl ?_
             refine GO.known (t := 65) rfl c73 ?_
             refine GO.off rfl rfl rfl rfl rfl rfl ?_
             refine GO.off rfl rfl rfl rfl rfl rfl ?_
             refine GO.offU rfl rfl rfl rfl rfl rfl ?_
             refine GO.off rfl rfl rfl rfl rfl rfl ?_
             refine GO.pickT rfl rfl rfl rfl rfl ?_
             refine GO.assign rfl rfl rfl ?_
             refine GO.nil ?_
             refine G.weak ?_ (at_j4 n_l1 (Nat.le_refl _) _ _ H HS)
             exact ⟨rfl, rfl, rfl, rfl, rfl, rfl, rfl, rfl, trivial⟩
            ·
             rcases ite_elim H with ⟨c74, H⟩ | ⟨c74, H⟩
             ·
              refine G.region ?_
              refine GO.move rfl rfl rfl ?_
              refine GO.move rfl rfl rfl ?_
              refine GO.known (t := 65) rfl (bnot_of c73) ?_
              refine GO.on rfl rfl rfl rfl ?_
              refine GO.move rfl rfl rfl ?_
              refine GO.back ?_
              refine GO.on rfl rfl rfl rfl ?_
              refine GO.move rfl rfl rfl ?_
              refine GO.back ?_
              refine GO.known (t := 67) rfl c74 ?_
              refine GO.on rfl rfl rfl rfl ?_
              refine GO.move rfl rfl rfl ?_
              refine GO.back ?_
              refine GO.on rfl rfl rfl rfl ?_
              refine GO.pickT rfl rfl rfl rfl rfl ?_
              refine GO.back ?_
              refine GO.pickF rfl rfl rfl rfl rfl ?_
              refine GO.assign rfl rfl rfl ?_
              refine GO.nil ?_
              refine G.weak ?_ (at_j4 n_l1 (Nat.le_refl _) _ _ H HS)
              exact ⟨rfl, rfl, rfl, rfl, rfl, rfl, rfl, rfl, trivial⟩
             ·
              refine G.region ?_
              refine GO.move rfl rfl rfl ?_
              refine GO.move rfl rfl rfl ?_
              refine GO.known (t := 65) rfl (bnot_of c73) ?_
              refine GO.on rfl rfl rfl rfl ?_
              refine GO.move rfl rfl rfl ?_
              refine GO.back ?_
              refine GO.on rfl rfl rfl rfl ?_
              refine GO.move rfl rfl rfl ?_
              refine GO.back ?_
              refine GO.known (t := 67) rfl (bnot_of c74) ?_
              refine GO.off rfl rfl rfl rfl rfl rfl ?_
              refine GO.on rfl rfl rfl rfl ?_
              refine GO.pickF rfl rfl rfl rfl rfl ?_
              refine GO.back ?_
              refine GO.pickF rfl rfl rfl rfl rfl ?_
              refine GO.assign rfl rfl rfl ?_
              refine GO.nil ?_
              refine G.weak ?_ (at_j4 n_l1 (Nat.le_refl _) _ _ H HS)
              exact ⟨rfl, rfl, rfl, rfl, rfl, rfl, rfl, rfl, trivial⟩
          ·
           refine G.noB rfl (decide_eq_false c55) ?_
           refine G.exit rfl ?_
           refine G.seq ?_
           rcases ite_elim H with ⟨c75, H⟩ | ⟨c75, H⟩
           ·
            refine G.region ?_
            refine GO.move rfl rfl rfl ?_
            refine GO.move rfl rfl rfl ?_
            refine GO.known (t := 82) rfl c75 ?_
            refine GO.on rfl rfl rfl rfl ?_
            refine GO.move rfl rfl rfl ?_
            refine GO.back ?_
            refine GO.pickT rfl rfl rfl rfl rfl ?_
            refine GO.assign rfl rfl rfl ?_
            refine GO.nil ?_
            obtain rfl := Option.some.inj H
            exact G.ret1 _ Try.func124 rfl rfl ⟨rfl, HS⟩
           ·
            refine G.region ?_
            refine GO.move rfl rfl rfl ?_
            refine GO.move rfl rfl rfl ?_
            refine GO.known (t := 82) rfl (bnot_of c75) ?_
            refine GO.off rfl rfl rfl rfl rfl rfl ?_
            refine GO.pickF rfl rfl rfl rfl rfl ?_
            refine GO.assign rfl rfl rfl ?_
            refine GO.nil ?_
            obtain rfl := Option.some.inj H
            exact G.ret1 _ Try.func124 rfl rfl ⟨rfl, HS⟩
       refine G.weak ?_ (at_l1 K (Nat.le_refl _) _ _ _ _ H HS)
       exact ⟨rfl, rfl, rfl, rfl, rfl, rfl, trivial⟩
  ·
   refine G.regionAny mixed (by decide) (fun b a w => ∃ (Y123_0 : Value) (Y124_1 : Value) (Y125_2 : Value) (Y126_3 : Value) (Y127_4 : Value) (Y128_5 : Value) (Y129_6 : Value) (Y130_7 : Value) (Y131_8 : Value) (Y132_9 : Value) (Y133_10 : Value) (Y134_11 : Value) (Y135_12 : Value) (Y136_13 : Value) (Y137_14 : Value) (Y138_15 : Value) (Y139_16 : Value) (Y140_17 : Value) (Y141_18 : Value) (Y142_19 : Value) (Y143_20 : Value) (Y144_21 : Value) (Y145_22 : Value) (Y146_23 : Value) (Y147_24 : Value) (Y148_25 : Value) (Y149_26 : Value) (Y150_27 : Value) (Y151_28 : Value) (Y152_29 : Value) (Y153_30 : Value) (Y154_31 : Value) (Y155_32 : Value) (Y156_33 : Value) (Y157_34 : Value) (Y158_35 : Value), Sat 85 [(9, Y123_0), (10, Y124_1), (11, Y125_2), (12, Y126_3), (13, Y127_4), (14, Y128_5), (15, Y129_6), (16, Y130_7), (17, Y131_8), (18, Y132_9), (19, Y133_10), (20, Y134_11), (21, Y135_12), (22, Y136_13), (23, Y137_14), (24, Y138_15), (25, Y139_16), (26, Y140_17), (27, Y141_18), (28, Y142_19), (29, Y143_20), (30, Y144_21), (31, Y145_22), (32, Y146_23), (33, Y147_24), (34, Y148_25), (35, Y149_26), (36, Y150_27), (37, Y151_28), (38, Y152_29), (39, Y153_30), (40, Y154_31), (41, Y155_32), (42, Y156_33), (43, Y157_34), (44, Y158_35), (0, .slice A_region region.length c_region)] a ∧ St w0 w (L) ∧ (b 0 = true → Y123_0 = (.slice A_region region.length c_region)) ∧ (b 1 = true → Y124_1 = (.int .i64 (region.length : Int))) ∧ (b 2 = true → Y125_2 = (.bool (!(decide ((region.length : Int) = 3))))) ∧ (b 3 = true → Y126_3 = (.bool true)) ∧ (b 4 = true → Y127_4 = (undef)) ∧ (b 5 = true → Y128_5 = (undef)) ∧ (b 6 = true → Y129_6 = (undef)) ∧ (b 7 = true → Y130_7 = (undef)) ∧ (b 8 = true → Y131_8 = (undef)) ∧ (b 9 = true → Y132_9 = (undef)) ∧ (b 10 = true → Y133_10 = (undef)) ∧ (b 11 = true → Y134_11 = (undef)) ∧ (b 12 = true → Y135_12 = (undef)) ∧ (b 13 = true → Y136_13 = (.bool true)) ∧ (b 14 = true → Y137_14 = (.bool true)) ∧ (b 15 = true → Y138_15 = (undef)) ∧ (b 16 = true → Y139_16 = (undef)) ∧ (b 17 = true → Y140_17 = (undef)) ∧ (b 18 = true → Y141_18 = (undef)) ∧ (b 19 = true → Y142_19 = (undef)) ∧ (b 20 = true → Y143_20 = (undef)) ∧ (b 21 = true → Y144_21 = (undef)) ∧ (b 22 = true → Y145_22 = (undef)) ∧ (b 23 = true → Y146_23 = (undef)) ∧ (b 24 = true → Y147_24 = (.bool true)) ∧ (b 25 = true → Y148_25 = (.bool true)) ∧ (b 26 = true → Y149_26 = (undef)) ∧ (b 27 = true → Y150_27 = (undef)) ∧ (b 28 = true → Y151_28 = (undef)) ∧ (b 29 = true → Y152_29 = (undef)) ∧ (b 30 = true → Y153_30 = (undef)) ∧ (b 31 = true → Y154_31 = (undef)) ∧ (b 32 = true → Y155_32 = (undef)) ∧ (b 33 = true → Y156_33 = (undef)) ∧ (b 34 = true → Y157_34 = (undef)) ∧ (b 35 = true → Y158_35 = (.bool true))) ?_ ?_ ?_
   ·
    intro a hs
    obtain ⟨Y123_0, hs⟩ := hs.ext (d := 9) rfl
    obtain ⟨Y124_1, hs⟩ := hs.ext (d := 10) rfl
    obtain ⟨Y125_2, hs⟩ := hs.ext (d := 11) rfl
    obtain ⟨Y126_3, hs⟩ := hs.ext (d := 12) rfl
    obtain ⟨Y127_4, hs⟩ := hs.ext (d := 13) rfl
    obtain ⟨Y128_5, hs⟩ := hs.ext (d := 14) rfl
    obtain ⟨Y129_6, hs⟩ := hs.ext (d := 15) rfl
    obtain ⟨Y130_7, hs⟩ := hs.ext (d := 16) rfl
    obtain ⟨Y131_8, hs⟩ := hs.ext (d := 17) rfl
    obtain ⟨Y132_9, hs⟩ := hs.ext (d := 18) rfl
    obtain ⟨Y133_10, hs⟩ := hs.ext (d := 19) rfl
    obtain ⟨Y134_11, hs⟩ := hs.ext (d := 20) rfl
    obtain ⟨Y135_12, hs⟩ := hs.ext (d := 21) rfl
    obtain ⟨Y136_13, hs⟩ := hs.ext (d := 22) rfl
    obtain ⟨Y137_14, hs⟩ := hs.ext (d := 23) rfl
    obtain ⟨Y138_15, hs⟩ := hs.ext (d := 24) rfl
    obtain ⟨Y139_16, hs⟩ := hs.ext (d := 25) rfl
    obtain ⟨Y140_17, hs⟩ := hs.ext (d := 26) rfl
    obtain ⟨Y141_18, hs⟩ := hs.ext (d := 27) rfl
    obtain ⟨Y142_19, hs⟩ := hs.ext (d := 28) rfl
    obtain ⟨Y143_20, hs⟩ := hs.ext (d := 29) rfl
    obtain ⟨Y144_21, hs⟩ := hs.ext (d := 30) rfl
    obtain ⟨Y145_22, hs⟩ := hs.ext (d := 31) rfl
    obtain ⟨Y146_23, hs⟩ := hs.ext (d := 32) rfl
    obtain ⟨Y147_24, hs⟩ := hs.ext (d := 33) rfl
    obtain ⟨Y148_25, hs⟩ := hs.ext (d := 34) rfl
    obtain ⟨Y149_26, hs⟩ := hs.ext (d := 35) rfl
    obtain ⟨Y150_27, hs⟩ := hs.ext (d := 36) rfl
    obtain ⟨Y151_28, hs⟩ := hs.ext (d := 37) rfl
    obtain ⟨Y152_29, hs⟩ := hs.ext (d := 38) rfl
    obtain ⟨Y153_30, hs⟩ := hs.ext (d := 39) rfl
    obtain ⟨Y154_31, hs⟩ := hs.ext (d := 40) rfl
    obtain ⟨Y155_32, hs⟩ := hs.ext (d := 41) rfl
    obtain ⟨Y156_33, hs⟩ := hs.ext (d := 42) rfl
    obtain ⟨Y157_34, hs⟩ := hs.ext (d := 43) rfl
    obtain ⟨Y158_35, hs⟩ := hs.ext (d := 44) rfl
    exact ⟨Y123_0, Y124_1, Y125_2, Y126_3, Y127_4, Y128_5, Y129_6, Y130_7, Y131_8, Y132_9, Y133_10, Y134_11, Y135_12, Y136_13, Y137_14, Y138_15, Y139_16, Y140_17, Y141_18, Y142_19, Y143_20, Y144_21, Y145_22, Y146_23, Y147_24, Y148_25, Y149_26, Y150_27, Y151_28, Y152_29, Y153_30, Y154_31, Y155_32, Y156_33, Y157_34, Y158_35, hs.weak ⟨rfl, rfl, rfl, rfl, rfl, rfl, rfl, rfl, rfl, rfl, rfl, rfl, rfl, rfl, rfl, rfl, rfl, rfl, rfl, rfl, rfl, rfl, rfl, rfl, rfl, rfl, rfl, rfl, rfl, rfl, rfl, rfl, rfl, rfl, rfl, rfl, rfl, trivial⟩, (HS.drew.pick 0 []), fun h => Bool.noConfusion h, fun h => Bool.noConfusion h, fun h => Bool.noConfusion h, fun h => Bool.noConfusion h, fun h => Bool.noConfusion h, fun h => Bool.noConfusion h, fun h => Bool.noConfusion h, fun h => Bool.noConfusion h, fun h => Bool.noConfusion h, fun h => Bool.noConfusion h, fun h => Bool.noConfusion h, fun h => Bool.noConfusion h, fun h => Bool.noConfusion h, fun h => Bool.noConfusion h, fun h => Bool.noConfusion h, fun h => Bool.noConfusion h, fun h => Bool.noConfusion h, fun h => Bool.noConfusion h, fun h => Bool.noConfusion h, fun h => Bool.noConfusion h, fun h => Bool.noConfusion h, fun h => Bool.noConfusion h, fun h => Bool.noConfusion h, fun h => Bool.noConfusion h, fun h => Bool.noConfusion h, fun h => Bool.noConfusion h, fun h => Bool.noConfusion h, fun h => Bool.noConfusion h, fun h => Bool.noConfusion h, fun h => Bool.noConfusion h, fun h => Bool.noConfusion h, fun h => Bool.noConfusion h, fun h => Bool.noConfusion h, fun h => Bool.noConfusion h, fun h => Bool.noConfusion h, fun h => Bool.noConfusion h⟩
   ·
    intro j hj b a w
    refine exI fun Y123_0 => exI fun Y124_1 => exI fun Y125_2 => exI fun Y126_3 => exI fun Y127_4 => exI fun Y128_5 => exI fun Y129_6 => exI fun Y130_7 => exI fun Y131_8 => exI fun Y132_9 => exI fun Y133_10 => exI fun Y134_11 => exI fun Y135_12 => exI fun Y136_13 => exI fun Y137_14 => exI fun Y138_15 => exI fun Y139_16 => exI fun Y140_17 => exI fun Y141_18 => exI fun Y142_19 => exI fun Y143_20 => exI fun Y144_21 => exI fun Y145_22 => exI fun Y146_23 => exI fun Y147_24 => exI fun Y148_25 => exI fun Y149_26 => exI fun Y150_27 => exI fun Y151_28 => exI fun Y152_29 => exI fun Y153_30 => exI fun Y154_31 => exI fun Y155_32 => exI fun Y156_33 => exI fun Y157_34 => exI fun Y158_35 => anI fun hs => anI fun HS => anI fun f0 => anI fun f1 => anI fun f2 => anI fun f3 => anI fun f4 => anI fun f5 => anI fun f6 => anI fun f7 => anI fun f8 => anI fun f9 => anI fun f10 => anI fun f11 => anI fun f12 => anI fun f13 => anI fun f14 => anI fun f15 => anI fun f16 => anI fun f17 => anI fun f18 => anI fun f19 => anI fun f20 => anI fun f21 => anI fun f22 => anI fun f23 => anI fun f24 => anI fun f25 => anI fun f26 => anI fun f27 => anI fun f28 => anI fun f29 => anI fun f30 => anI fun f31 => anI fun f32 => anI fun f33 => anI fun f34 => fun f35 hb hd hcl => ?_
    match j, hj with
    | 0, _ =>
     refine GO.at hs ?_
     refine GO.move rfl rfl rfl ?_
     refine GO.fin (fun a hs => ?_)
     exact ⟨(.slice A_region region.length c_region), _, _, _, _, _, _, _, _, _, _, _, _, _, _, _, _, _, _, _, _, _, _, _, _, _, _, _, _, _, _, _, _, _, _, _, by exact hs.setAt 0 rfl, HS, fun _ => rfl, f1, f2, f3, f4, f5, f6, f7, f8, f9, f10, f11, f12, f13, f14, f15, f16, f17, f18, f19, f20, f21, f22, f23, f24, f25, f26, f27, f28, f29, f30, f31, f32, f33, f34, f35⟩
    | 1, _ =>
     have h0 : b 0 = true := hd 0 (by decide)
     obtain rfl := f0 h0
     refine GO.at hs ?_
     refine GO.lenS rfl rfl Try.underlying43 rfl ?_
     refine GO.fin (fun a hs => ?_)
     exact ⟨_, (.int .i64 (region.length : Int)), _, _, _, _, _, _, _, _, _, _, _, _, _, _, _, _, _, _, _, _, _, _, _, _, _, _, _, _, _, _, _, _, _, _, by exact hs.setAt 1 rfl, HS, f0, fun _ => rfl, f2, f3, f4, f5, f6, f7, f8, f9, f10, f11, f12, f13, f14, f15, f16, f17, f18, f19, f20, f21, f22, f23, f24, f25, f26, f27, f28, f29, f30, f31, f32, f33, f34, f35⟩
    | 2, _ =>
     have h1 : b 1 = true := hd 1 (by decide)
     obtain rfl := f1 h1
     refine GO.at hs ?_
     refine GO.neq rfl rfl rfl rfl ?_
     refine GO.fin (fun a hs => ?_)
     exact ⟨_, _, (.bool (!(decide ((region.length : Int) = 3)))), _, _, _, _, _, _, _, _, _, _, _, _, _, _, _, _, _, _, _, _, _, _, _, _, _, _, _, _, _, _, _, _, _, by exact hs.setAt 2 rfl, HS, f0, f1, fun _ => rfl, f3, f4, f5, f6, f7, f8, f9, f10, f11, f12, f13, f14, f15, f16, f17, f18, f19, f20, f21, f22, f23, f24, f25, f26, f27, f28, f29, f30, f31, f32, f33, f34, f35⟩
    | 3, _ =>
     have h2 : b 2 = true := hd 2 (by decide)
     obtain rfl := f2 h2
     refine GO.at hs ?_
     refine GO.move rfl rfl rfl ?_
     refine GO.known (t := 12) rfl (congrArg Bool.not (decide_eq_false c7)) ?_
     refine GO.fin (fun a hs => ?_)
     exact ⟨_, _, _, (.bool true), _, _, _, _, _, _, _, _, _, _, _, _, _, _, _, _, _, _, _, _, _, _, _, _, _, _, _, _, _, _, _, _, hs.weak ⟨rfl, rfl, rfl, rfl, rfl, rfl, rfl, rfl, rfl, rfl, rfl, rfl, rfl, rfl, rfl, rfl, rfl, rfl, rfl, rfl, rfl, rfl, rfl, rfl, rfl, rfl, rfl, rfl, rfl, rfl, rfl, rfl, rfl, rfl, rfl, rfl, rfl, trivial⟩, HS, f0, f1, f2, fun _ => rfl, f4, f5, f6, f7, f8, f9, f10, f11, f12, f13, f14, f15, f16, f17, f18, f19, f20, f21, f22, f23, f24, f25, f26, f27, f28, f29, f30, f31, f32, f33, f34, f35⟩
    | 4, _ =>
     have h3 : b 3 = true := hd 3 (by decide)
     obtain rfl := f3 h3
     refine GO.at hs ?_
     refine GO.off rfl rfl rfl rfl rfl rfl ?_
     refine GO.fin (fun a hs => ?_)
     exact ⟨_, _, _, _, (undef), _, _, _, _, _, _, _, _, _, _, _, _, _, _, _, _, _, _, _, _, _, _, _, _, _, _, _, _, _, _, _, by exact hs.setAt 4 rfl, HS, f0, f1, f2, f3, fun _ => rfl, f5, f6, f7, f8, f9, f10, f11, f12, f13, f14, f15, f16, f17, f18, f19, f20, f21, f22, f23, f24, f25, f26, f27, f28, f29, f30, f31, f32, f33, f34, f35⟩
    | 5, _ =>
     have h3 : b 3 = true := hd 3 (by decide)
     obtain rfl := f3 h3
     have h4 : b 4 = true := hd 4 (by decide)
     obtain rfl := f4 h4
     refine GO.at hs ?_
     refine GO.off rfl rfl rfl rfl rfl rfl ?_
     refine GO.fin (fun a hs => ?_)
     exact ⟨_, _, _, _, _, (undef), _, _, _, _, _, _, _, _, _, _, _, _, _, _, _, _, _, _, _, _, _, _, _, _, _, _, _, _, _, _, by exact hs.setAt 5 rfl, HS, f0, f1, f2, f3, f4, fun _ => rfl, f6, f7, f8, f9, f10, f11, f12, f13, f14, f15, f16, f17, f18, f19, f20, f21, f22, f23, f24, f25, f26, f27, f28, f29, f30, f31, f32, f33, f34, f35⟩
    | 6, _ =>
     have h3 : b 3 = true := hd 3 (by decide)
     obtain rfl := f3 h3
     have h5 : b 5 = true := hd 5 (by decide)
     obtain rfl := f5 h5
     refine GO.at hs ?_
     refine GO.off rfl rfl rfl rfl rfl rfl ?_
     refine GO.fin (fun a hs => ?_)
     exact ⟨_, _, _, _, _, _, (undef), _, _, _, _, _, _, _, _, _, _, _, _, _, _, _, _, _, _, _, _, _, _, _, _, _, _, _, _, _, by exact hs.setAt 6 rfl, HS, f0, f1, f2, f3, f4, f5, fun _ => rfl, f7, f8, f9, f10, f11, f12, f13, f14, f15, f16, f17, f18, f19, f20, f21, f22, f23, f24, f25, f26, f27, f28, f29, f30, f31, f32, f33, f34, f35⟩
    | 7, _ =>
     have h3 : b 3 = true := hd 3 (by decide)
     obtain rfl := f3 h3
     have h6 : b 6 = true := hd 6 (by decide)
     obtain rfl := f6 h6
     refine GO.at hs ?_
     refine GO.off rfl rfl rfl rfl rfl rfl ?_
     refine GO.fin (fun a hs => ?_)
     exact ⟨_, _, _, _, _, _, _, (undef), _, _, _, _, _, _, _, _, _, _, _, _, _, _, _, _, _, _, _, _, _, _, _, _, _, _, _, _, by exact hs.setAt 7 rfl, HS, f0, f1, f2, f3, f4, f5, f6, fun _ => rfl, f8, f9, f10, f11, f12, f13, f14, f15, f16, f17, f18, f19, f20, f21, f22, f23, f24, f25, f26, f27, f28, f29, f30, f31, f32, f33, f34, f35⟩
    | 8, _ =>
     have h3 : b 3 = true := hd 3 (by decide)
     obtain rfl := f3 h3
     refine GO.at hs ?_
     refine GO.off rfl rfl rfl rfl rfl rfl ?_
     refine GO.fin (fun a hs => ?_)
     exact ⟨_, _, _, _, _, _, _, _, (undef), _, _, _, _, _, _, _, _, _, _, _, _, _, _, _, _, _, _, _, _, _, _, _, _, _, _, _, by exact hs.setAt 8 rfl, HS, f0, f1, f2, f3, f4, f5, f6, f7, fun _ => rfl, f9, f10, f11, f12, f13, f14, f15, f16, f17, f18, f19, f20, f21, f22, f23, f24, f25, f26, f27, f28, f29, f30, f31, f32, f33, f34, f35⟩
    | 9, _ =>
     have h3 : b 3 = true := hd 3 (by decide)
     obtain rfl := f3 h3
     have h8 : b 8 = true := hd 8 (by decide)
     obtain rfl := f8 h8
     refine GO.at hs ?_
     refine GO.off rfl rfl rfl rfl rfl rfl ?_
     refine GO.fin (fun a hs => ?_)
     exact ⟨_, _, _, _, _, _, _, _, _, (undef), _, _, _, _, _, _, _, _, _, _, _, _, _, _, _, _, _, _, _, _, _, _, _, _, _, _, by exact hs.setAt 9 rfl, HS, f0, f1, f2, f3, f4, f5, f6, f7, f8, fun _ => rfl, f10, f11, f12, f13, f14, f15, f16, f17, f18, f19, f20, f21, f22, f23, f24, f25, f26, f27, f28, f29, f30, f31, f32, f33, f34, f35⟩
    | 10, _ =>
     have h3 : b 3 = true := hd 3 (by decide)
     obtain rfl := f3 h3
     have h9 : b 9 = true := hd 9 (by decide)
     obtain rfl := f9 h9
     refine GO.at hs ?_
     refine GO.off rfl rfl rfl rfl rfl rfl ?_
     refine GO.fin (fun a hs => ?_)
     exact ⟨_, _, _, _, _, _, _, _, _, _, (undef), _, _, _, _, _, _, _, _, _, _, _, _, _, _, _, _, _, _, _, _, _, _, _, _, _, by exact hs.setAt 10 rfl, HS, f0, f1, f2, f3, f4, f5, f6, f7, f8, f9, fun _ => rfl, f11, f12, f13, f14, f15, f16, f17, f18, f19, f20, f21, f22, f23, f24, f25, f26, f27, f28, f29, f30, f31, f32, f33, f34, f35⟩
    | 11, _ =>
     have h3 : b 3 = true := hd 3 (by decide)
     obtain rfl := f3 h3
     have h10 : b 10 = true := hd 10 (by decide)
     obtain rfl := f10 h10
     refine GO.at hs ?_
     refine GO.off rfl rfl rfl rfl rfl rfl ?_
     refine GO.fin (fun a hs => ?_)
     exact ⟨_, _, _, _, _, _, _, _, _, _, _, (undef), _, _, _, _, _, _, _, _, _, _, _, _, _, _, _, _, _, _, _, _, _, _, _, _, by exact hs.setAt 11 rfl, HS, f0, f1, f2, f3, f4, f5, f6, f7, f8, f9, f10, fun _ => rfl, f12, f13, f14, f15, f16, f17, f18, f19, f20, f21, f22, f23, f24, f25, f26, f27, f28, f29, f30, f31, f32, f33, f34, f35⟩
    | 12, _ =>
     have h3 : b 3 = true := hd 3 (by decide)
     obtain rfl := f3 h3
     have h7 : b 7 = true := hd 7 (by decide)
     obtain rfl := f7 h7
     have h11 : b 11 = true := hd 11 (by decide)
     obtain rfl := f11 h11
     refine GO.at hs ?_
     refine GO.off rfl rfl rfl rfl rfl rfl ?_
     refine GO.fin (fun a hs => ?_)
     exact ⟨_, _, _, _, _, _, _, _, _, _, _, _, (undef), _, _, _, _, _, _, _, _, _, _, _, _, _, _, _, _, _, _, _, _, _, _, _, by exact hs.setAt 12 rfl, HS, f0, f1, f2, f3, f4, f5, f6, f7, f8, f9, f10, f11, fun _ => rfl, f13, f14, f15, f16, f17, f18, f19, f20, f21, f22, f23, f24, f25, f26, f27, f28, f29, f30, f31, f32, f33, f34, f35⟩
    | 13, _ =>
     have h3 : b 3 = true := hd 3 (by decide)
     obtain rfl := f3 h3
     have h12 : b 12 = true := hd 12 (by decide)
     obtain rfl := f12 h12
     refine GO.at hs ?_
     refine GO.pickT rfl rfl rfl rfl rfl ?_
     refine GO.fin (fun a hs => ?_)
     exact ⟨_, _, _, _, _, _, _, _, _, _, _, _, _, (.bool true), _, _, _, _, _, _, _, _, _, _, _, _, _, _, _, _, _, _, _, _, _, _, by exact hs.setAt 13 rfl, HS, f0, f1, f2, f3, f4, f5, f6, f7, f8, f9, f10, f11, f12, fun _ => rfl, f14, f15, f16, f17, f18, f19, f20, f21, f22, f23, f24, f25, f26, f27, f28, f29, f30, f31, f32, f33, f34, f35⟩
    | 14, _ =>
     have h13 : b 13 = true := hd 13 (by decide)
     obtain rfl := f13 h13
     refine GO.at hs ?_
     refine GO.move rfl rfl rfl ?_
     refine GO.fin (fun a hs => ?_)
     exact ⟨_, _, _, _, _, _, _, _, _, _, _, _, _, _, (.bool true), _, _, _, _, _, _, _, _, _, _, _, _, _, _, _, _, _, _, _, _, _, by exact hs.setAt 14 rfl, HS, f0, f1, f2, f3, f4, f5, f6, f7, f8, f9, f10, f11, f12, f13, fun _ => rfl, f15, f16, f17, f18, f19, f20, f21, f22, f23, f24, f25, f26, f27, f28, f29, f30, f31, f32, f33, f34, f35⟩
    | 15, _ =>
     have h14 : b 14 = true := hd 14 (by decide)
     obtain rfl := f14 h14
     refine GO.at hs ?_
     refine GO.off rfl rfl rfl rfl rfl rfl ?_
     refine GO.fin (fun a hs => ?_)
     exact ⟨_, _, _, _, _, _, _, _, _, _, _, _, _, _, _, (undef), _, _, _, _, _, _, _, _, _, _, _, _, _, _, _, _, _, _, _, _, by exact hs.setAt 15 rfl, HS, f0, f1, f2, f3, f4, f5, f6, f7, f8, f9, f10, f11, f12, f13, f14, fun _ => rfl, f16, f17, f18, f19, f20, f21, f22, f23, f24, f25, f26, f27, f28, f29, f30, f31, f32, f33, f34, f35⟩
    | 16, _ =>
     have h14 : b 14 = true := hd 14 (by decide)
     obtain rfl := f14 h14
     have h15 : b 15 = true := hd 15 (by decide)
     obtain rfl := f15 h15
     refine GO.at hs ?_
     refine GO.off rfl rfl rfl rfl rfl rfl ?_
     refine GO.fin (fun a hs => ?_)
     exact ⟨_, _, _, _, _, _, _, _, _, _, _, _, _, _, _, _, (undef), _, _, _, _, _, _, _, _, _, _, _, _, _, _, _, _, _, _, _, by exact hs.setAt 16 rfl, HS, f0, f1, f2, f3, f4, f5, f6, f7, f8, f9, f10, f11, f12, f13, f14, f15, fun _ => rfl, f17, f18, f19, f20, f21, f22, f23, f24, f25, f26, f27, f28, f29, f30, f31, f32, f33, f34, f35⟩
    | 17, _ =>
     have h14 : b 14 = true := hd 14 (by decide)
     obtain rfl := f14 h14
     have h16 : b 16 = true := hd 16 (by decide)
     obtain rfl := f16 h16
     refine GO.at hs ?_
     refine GO.off rfl rfl rfl rfl rfl rfl ?_
     refine GO.fin (fun a hs => ?_)
     exact ⟨_, _, _, _, _, _, _, _, _, _, _, _, _, _, _, _, _, (undef), _, _, _, _, _, _, _, _, _, _, _, _, _, _, _, _, _, _, by exact hs.setAt 17 rfl, HS, f0, f1, f2, f3, f4, f5, f6, f7, f8, f9, f10, f11, f12, f13, f14, f15, f16, fun _ => rfl, f18, f19, f20, f21, f22, f23, f24, f25, f26, f27, f28, f29, f30, f31, f32, f33, f34, f35⟩
    | 18, _ =>
     have h14 : b 14 = true := hd 14 (by decide)
     obtain rfl := f14 h14
     have h17 : b 17 = true := hd 17 (by decide)
     obtain rfl := f17 h17
     refine GO.at hs ?_
     refine GO.off rfl rfl rfl rfl rfl rfl ?_
     refine GO.fin (fun a hs => ?_)
     exact ⟨_, _, _, _, _, _, _, _, _, _, _, _, _, _, _, _, _, _, (undef), _, _, _, _, _, _, _, _, _, _, _, _, _, _, _, _, _, by exact hs.setAt 18 rfl, HS, f0, f1, f2, f3, f4, f5, f6, f7, f8, f9, f10, f11, f12, f13, f14, f15, f16, f17, fun _ => rfl, f19, f20, f21, f22, f23, f24, f25, f26, f27, f28, f29, f30, f31, f32, f33, f34, f35⟩
    | 19, _ =>
     have h14 : b 14 = true := hd 14 (by decide)
     obtain rfl := f14 h14
     refine GO.at hs ?_
     refine GO.off rfl rfl rfl rfl rfl rfl ?_
     refine GO.fin (fun a hs => ?_)
     exact ⟨_, _, _, _, _, _, _, _, _, _, _, _, _, _, _, _, _, _, _, (undef), _, _, _, _, _, _, _, _, _, _, _, _, _, _, _, _, by exact hs.setAt 19 rfl, HS, f0, f1, f2, f3, f4, f5, f6, f7, f8, f9, f10, f11, f12, f13, f14, f15, f16, f17, f18, fun _ => rfl, f20, f21, f22, f23, f24, f25, f26, f27, f28, f29, f30, f31, f32, f33, f34, f35⟩
    | 20, _ =>
     have h14 : b 14 = true := hd 14 (by decide)
     obtain rfl := f14 h14
     have h19 : b 19 = true := hd 19 (by decide)
     obtain rfl := f19 h19
     refine GO.at hs ?_
     refine GO.off rfl rfl rfl rfl rfl rfl ?_
     refine GO.fin (fun a hs => ?_)
     exact ⟨_, _, _, _, _, _, _, _, _, _, _, _, _, _, _, _, _, _, _, _, (undef), _, _, _, _, _, _, _, _, _, _, _, _, _, _, _, by exact hs.setAt 20 rfl, HS, f0, f1, f2, f3, f4, f5, f6, f7, f8, f9, f10, f11, f12, f13, f14, f15, f16, f17, f18, f19, fun _ => rfl, f21, f22, f23, f24, f25, f26, f27, f28, f29, f30, f31, f32, f33, f34, f35⟩
    | 21, _ =>
     have h14 : b 14 = true := hd 14 (by decide)
     obtain rfl := f14 h14
     have h20 : b 20 = true := hd 20 (by decide)
     obtain rfl := f20 h20
     refine GO.at hs ?_
     refine GO.off rfl rfl rfl rfl rfl rfl ?_
     refine GO.fin (fun a hs => ?_)
     exact ⟨_, _, _, _, _, _, _, _, _, _, _, _, _, _, _, _, _, _, _, _, _, (undef), _, _, _, _, _, _, _, _, _, _, _, _, _, _, by exact hs.setAt 21 rfl, HS, f0, f1, f2, f3, f4, f5, f6, f7, f8, f9, f10, f11, f12, f13, f14, f15, f16, f17, f18, f19, f20, fun _ => rfl, f22, f23, f24, f25, f26, f27, f28, f29, f30, f31, f32, f33, f34, f35⟩
    | 22, _ =>
     have h14 : b 14 = true := hd 14 (by decide)
     obtain rfl := f14 h14
     have h21 : b 21 = true := hd 21 (by decide)
     obtain rfl := f21 h21
     refine GO.at hs ?_
     refine GO.off rfl rfl rfl rfl rfl rfl ?_
     refine GO.fin (fun a hs => ?_)
     exact ⟨_, _, _, _, _, _, _, _, _, _, _, _, _, _, _, _, _, _, _, _, _, _, (undef), _, _, _, _, _, _, _, _, _, _, _, _, _, by exact hs.setAt 22 rfl, HS, f0, f1, f2, f3, f4, f5, f6, f7, f8, f9, f10, f11, f12, f13, f14, f15, f16, f17, f18, f19, f20, f21, fun _ => rfl, f23, f24, f25, f26, f27, f28, f29, f30, f31, f32, f33, f34, f35⟩
    | 23, _ =>
     have h14 : b 14 = true := hd 14 (by decide)
     obtain rfl := f14 h14
     have h18 : b 18 = true := hd 18 (by decide)
     obtain rfl := f18 h18
     have h22 : b 22 = true := hd 22 (by decide)
     obtain rfl := f22 h22
     refine GO.at hs ?_
     refine GO.off rfl rfl rfl rfl rfl rfl ?_
     refine GO.fin (fun a hs => ?_)
     exact ⟨_, _, _, _, _, _, _, _, _, _, _, _, _, _, _, _, _, _, _, _, _, _, _, (undef), _, _, _, _, _, _, _, _, _, _, _, _, by exact hs.setAt 23 rfl, HS, f0, f1, f2, f3, f4, f5, f6, f7, f8, f9, f10, f11, f12, f13, f14, f15, f16, f17, f18, f19, f20, f21, f22, fun _ => rfl, f24, f25, f26, f27, f28, f29, f30, f31, f32, f33, f34, f35⟩
    | 24, _ =>
     have h14 : b 14 = true := hd 14 (by decide)
     obtain rfl := f14 h14
     have h23 : b 23 = true := hd 23 (by decide)
     obtain rfl := f23 h23
     refine GO.at hs ?_
     refine GO.pickT rfl rfl rfl rfl rfl ?_
     refine GO.fin (fun a hs => ?_)
     exact ⟨_, _, _, _, _, _, _, _, _, _, _, _, _, _, _, _, _, _, _, _, _, _, _, _, (.bool true), _, _, _, _, _, _, _, _, _, _, _, by exact hs.setAt 24 rfl, HS, f0, f1, f2, f3, f4, f5, f6, f7, f8, f9, f10, f11, f12, f13, f14, f15, f16, f17, f18, f19, f20, f21, f22, f23, fun _ => rfl, f25, f26, f27, f28, f29, f30, f31, f32, f33, f34, f35⟩
    | 25, _ =>
     have h24 : b 24 = true := hd 24 (by decide)
     obtain rfl := f24 h24
     refine GO.at hs ?_
     refine GO.move rfl rfl rfl ?_
     refine GO.fin (fun a hs => ?_)
     exact ⟨_, _, _, _, _, _, _, _, _, _, _, _, _, _, _, _, _, _, _, _, _, _, _, _, _, (.bool true), _, _, _, _, _, _, _, _, _, _, by exact hs.setAt 25 rfl, HS, f0, f1, f2, f3, f4, f5, f6, f7, f8, f9, f10, f11, f12, f13, f14, f15, f16, f17, f18, f19, f20, f21, f22, f23, f24, fun _ => rfl, f26, f27, f28, f29, f30, f31, f32, f33, f34, f35⟩
    | 26, _ =>
     have h25 : b 25 = true := hd 25 (by decide)
     obtain rfl := f25 h25
     refine GO.at hs ?_
     refine GO.off rfl rfl rfl rfl rfl rfl ?_
     refine GO.fin (fun a hs => ?_)
     exact ⟨_, _, _, _, _, _, _, _, _, _, _, _, _, _, _, _, _, _, _, _, _, _, _, _, _, _, (undef), _, _, _, _, _, _, _, _, _, by exact hs.setAt 26 rfl, HS, f0, f1, f2, f3, f4, f5, f6, f7, f8, f9, f10, f11, f12, f13, f14, f15, f16, f17, f18, f19, f20, f21, f22, f23, f24, f25, fun _ => rfl, f27, f28, f29, f30, f31, f32, f33, f34, f35⟩
    | 27, _ =>
     have h25 : b 25 = true := hd 25 (by decide)
     obtain rfl := f25 h25
     have h26 : b 26 = true := hd 26 (by decide)
     obtain rfl := f26 h26
     refine GO.at hs ?_
     refine GO.off rfl rfl rfl rfl rfl rfl ?_
     refine GO.fin (fun a hs => ?_)
     exact ⟨_, _, _, _, _, _, _, _, _, _, _, _, _, _, _, _, _, _, _, _, _, _, _, _, _, _, _, (undef), _, _, _, _, _, _, _, _, by exact hs.setAt 27 rfl, HS, f0, f1, f2, f3, f4, f5, f6, f7, f8, f9, f10, f11, f12, f13, f14, f15, f16, f17, f18, f19, f20, f21, f22, f23, f24, f25, f26, fun _ => rfl, f28, f29, f30, f31, f32, f33, f34, f35⟩
    | 28, _ =>
     have h25 : b 25 = true := hd 25 (by decide)
     obtain rfl := f25 h25
     have h27 : b 27 = true := hd 27 (by decide)
     obtain rfl := f27 h27
     refine GO.at hs ?_
     refine GO.off rfl rfl rfl rfl rfl rfl ?_
     refine GO.fin (fun a hs => ?_)
     exact ⟨_, _, _, _, _, _, _, _, _, _, _, _, _, _, _, _, _, _, _, _, _, _, _, _, _, _, _, _, (undef), _, _, _, _, _, _, _, by exact hs.setAt 28 rfl, HS, f0, f1, f2, f3, f4, f5, f6, f7, f8, f9, f10, f11, f12, f13, f14, f15, f16, f17, f18, f19, f20, f21, f22, f23, f24, f25, f26, f27, fun _ => rfl, f29, f30, f31, f32, f33, f34, f35⟩
    | 29, _ =>
     have h25 : b 25 = true := hd 25 (by decide)
     obtain rfl := f25 h25
     have h28 : b 28 = true := hd 28 (by decide)
     obtain rfl := f28 h28
     refine GO.at hs ?_
     refine GO.off rfl rfl rfl rfl rfl rfl ?_
     refine GO.fin (fun a hs => ?_)
     exact ⟨_, _, _, _, _, _, _, _, _, _, _, _, _, _, _, _, _, _, _, _, _, _, _, _, _, _, _, _, _, (undef), _, _, _, _, _, _, by exact hs.setAt 29 rfl, HS, f0, f1, f2, f3, f4, f5, f6, f7, f8, f9, f10, f11, f12, f13, f14, f15, f16, f17, f18, f19, f20, f21, f22, f23, f24, f25, f26, f27, f28, fun _ => rfl, f30, f31, f32, f33, f34, f35⟩
    | 30, _ =>
     have h25 : b 25 = true := hd 25 (by decide)
     obtain rfl := f25 h25
     refine GO.at hs ?_
     refine GO.off rfl rfl rfl rfl rfl rfl ?_
     refine GO.fin (fun a hs => ?_)
     exact ⟨_, _, _, _, _, _, _, _, _, _, _, _, _, _, _, _, _, _, _, _, _, _, _, _, _, _, _, _, _, _, (undef), _, _, _, _, _, by exact hs.setAt 30 rfl, HS, f0, f1, f2, f3, f4, f5, f6, f7, f8, f9, f10, f11, f12, f13, f14, f15, f16, f17, f18, f19, f20, f21, f22, f23, f24, f25, f26, f27, f28, f29, fun _ => rfl, f31, f32, f33, f34, f35⟩
    | 31, _ =>
     have h25 : b 25 = true := hd 25 (by decide)
     obtain rfl := f25 h25
     have h30 : b 30 = true := hd 30 (by decide)
     obtain rfl := f30 h30
     refine GO.at hs ?_
     refine GO.off rfl rfl rfl rfl rfl rfl ?_
     refine GO.fin (fun a hs => ?_)
     exact ⟨_, _, _, _, _, _, _, _, _, _, _, _, _, _, _, _, _, _, _, _, _, _, _, _, _, _, _, _, _, _, _, (undef), _, _, _, _, by exact hs.setAt 31 rfl, HS, f0, f1, f2, f3, f4, f5, f6, f7, f8, f9, f10, f11, f12, f13, f14, f15, f16, f17, f18, f19, f20, f21, f22, f23, f24, f25, f26, f27, f28, f29, f30, fun _ => rfl, f32, f33, f34, f35⟩
    | 32, _ =>
     have h25 : b 25 = true := hd 25 (by decide)
     obtain rfl := f25 h25
     have h31 : b 31 = true := hd 31 (by decide)
     obtain rfl := f31 h31
     refine GO.at hs ?_
     refine GO.off rfl rfl rfl rfl rfl rfl ?_
     refine GO.fin (fun a hs => ?_)
     exact ⟨_, _, _, _, _, _, _, _, _, _, _, _, _, _, _, _, _, _, _, _, _, _, _, _, _, _, _, _, _, _, _, _, (undef), _, _, _, by exact hs.setAt 32 rfl, HS, f0, f1, f2, f3, f4, f5, f6, f7, f8, f9, f10, f11, f12, f13, f14, f15, f16, f17, f18, f19, f20, f21, f22, f23, f24, f25, f26, f27, f28, f29, f30, f31, fun _ => rfl, f33, f34, f35⟩
    | 33, _ =>
     have h25 : b 25 = true := hd 25 (by decide)
     obtain rfl := f25 h25
     have h32 : b 32 = true := hd 32 (by decide)
     obtain rfl := f32 h32
     refine GO.at hs ?_
     refine GO.off rfl rfl rfl rfl rfl rfl ?_
     refine GO.fin (fun a hs => ?_)
     exact ⟨_, _, _, _, _, _, _, _, _, _, _, _, _, _, _, _, _, _, _, _, _, _, _, _, _, _, _, _, _, _, _, _, _, (undef), _, _, by exact hs.setAt 33 rfl, HS, f0, f1, f2, f3, f4, f5, f6, f7, f8, f9, f10, f11, f12, f13, f14, f15, f16, f17, f18, f19, f20, f21, f22, f23, f24, f25, f26, f27, f28, f29, f30, f31, f32, fun _ => rfl, f34, f35⟩
    | 34, _ =>
     have h25 : b 25 = true := hd 25 (by decide)
     obtain rfl := f25 h25
     have h29 : b 29 = true := hd 29 (by decide)
     obtain rfl := f29 h29
     have h33 : b 33 = true := hd 33 (by decide)
     obtain rfl := f33 h33
     refine GO.at hs ?_
     refine GO.off rfl rfl rfl rfl rfl rfl ?_
     refine GO.fin (fun a hs => ?_)
     exact ⟨_, _, _, _, _, _, _, _, _, _, _, _, _, _, _, _, _, _, _, _, _, _, _, _, _, _, _, _, _, _, _, _, _, _, (undef), _, by exact hs.setAt 34 rfl, HS, f0, f1, f2, f3, f4, f5, f6, f7, f8, f9, f10, f11, f12, f13, f14, f15, f16, f17, f18, f19, f20, f21, f22, f23, f24, f25, f26, f27, f28, f29, f30, f31, f32, f33, fun _ => rfl, f35⟩
    | 35, _ =>
     have h25 : b 25 = true := hd 25 (by decide)
     obtain rfl := f25 h25
     have h34 : b 34 = true := hd 34 (by decide)
     obtain rfl := f34 h34
     refine GO.at hs ?_
     refine GO.pickT rfl rfl rfl rfl rfl ?_
     refine GO.fin (fun a hs => ?_)
     exact ⟨_, _, _, _, _, _, _, _, _, _, _, _, _, _, _, _, _, _, _, _, _, _, _, _, _, _, _, _, _, _, _, _, _, _, _, (.bool true), by exact hs.setAt 35 rfl, HS, f0, f1, f2, f3, f4, f5, f6, f7, f8, f9, f10, f11, f12, f13, f14, f15, f16, f17, f18, f19, f20, f21, f22, f23, f24, f25, f26, f27, f28, f29, f30, f31, f32, f33, f34, fun _ => rfl⟩
    | k + 36, hj => exact absurd hj (Nat.not_lt.2 (Nat.le_add_left 36 k))
   ·
    intro b a w hall
    refine exI fun Y123_0 => exI fun Y124_1 => exI fun Y125_2 => exI fun Y126_3 => exI fun Y127_4 => exI fun Y128_5 => exI fun Y129_6 => exI fun Y130_7 => exI fun Y131_8 => exI fun Y132_9 => exI fun Y133_10 => exI fun Y134_11 => exI fun Y135_12 => exI fun Y136_13 => exI fun Y137_14 => exI fun Y138_15 => exI fun Y139_16 => exI fun Y140_17 => exI fun Y141_18 => exI fun Y142_19 => exI fun Y143_20 => exI fun Y144_21 => exI fun Y145_22 => exI fun Y146_23 => exI fun Y147_24 => exI fun Y148_25 => exI fun Y149_26 => exI fun Y150_27 => exI fun Y151_28 => exI fun Y152_29 => exI fun Y153_30 => exI fun Y154_31 => exI fun Y155_32 => exI fun Y156_33 => exI fun Y157_34 => exI fun Y158_35 => anI fun hs => anI fun HS => anI fun f0 => anI fun f1 => anI fun f2 => anI fun f3 => anI fun f4 => anI fun f5 => anI fun f6 => anI fun f7 => anI fun f8 => anI fun f9 => anI fun f10 => anI fun f11 => anI fun f12 => anI fun f13 => anI fun f14 => anI fun f15 => anI fun f16 => anI fun f17 => anI fun f18 => anI fun f19 => anI fun f20 => anI fun f21 => anI fun f22 => anI fun f23 => anI fun f24 => anI fun f25 => anI fun f26 => anI fun f27 => anI fun f28 => anI fun f29 => anI fun f30 => anI fun f31 => anI fun f32 => anI fun f33 => anI fun f34 => fun f35 => ?_
    obtain rfl := f0 (hall 0 (by decide))
    obtain rfl := f1 (hall 1 (by decide))
    obtain rfl := f2 (hall 2 (by decide))
    obtain rfl := f3 (hall 3 (by decide))
    obtain rfl := f4 (hall 4 (by decide))
    obtain rfl := f5 (hall 5 (by decide))
    obtain rfl := f6 (hall 6 (by decide))
    obtain rfl := f7 (hall 7 (by decide))
    obtain rfl := f8 (hall 8 (by decide))
    obtain rfl := f9 (hall 9 (by decide))
    obtain rfl := f10 (hall 10 (by decide))
    obtain rfl := f11 (hall 11 (by decide))
    obtain rfl := f12 (hall 12 (by decide))
    obtain rfl := f13 (hall 13 (by decide))
    obtain rfl := f14 (hall 14 (by decide))
    obtain rfl := f15 (hall 15 (by decide))
    obtain rfl := f16 (hall 16 (by decide))
    obtain rfl := f17 (hall 17 (by decide))
    obtain rfl := f18 (hall 18 (by decide))
    obtain rfl := f19 (hall 19 (by decide))
    obtain rfl := f20 (hall 20 (by decide))
    obtain rfl := f21 (hall 21 (by decide))
    obtain rfl := f22 (hall 22 (by decide))
    obtain rfl := f23 (hall 23 (by decide))
    obtain rfl := f24 (hall 24 (by decide))
    obtain rfl := f25 (hall 25 (by decide))
    obtain rfl := f26 (hall 26 (by decide))
    obtain rfl := f27 (hall 27 (by decide))
    obtain rfl := f28 (hall 28 (by decide))
    obtain rfl := f29 (hall 29 (by decide))
    obtain rfl := f30 (hall 30 (by decide))
    obtain rfl := f31 (hall 31 (by decide))
    obtain rfl := f32 (hall 32 (by decide))
    obtain rfl := f33 (hall 33 (by decide))
    obtain rfl := f34 (hall 34 (by decide))
    obtain rfl := f35 (hall 35 (by decide))
    refine G.at hs ?_
    refine G.yesB rfl rfl ?_
    refine G.seq ?_
    refine G.region ?_
    refine GO.assign rfl rfl rfl ?_
    refine GO.nil ?_
    obtain rfl := Option.some.inj H
    exact G.ret1 _ Try.func124 rfl rfl ⟨rfl, HS⟩

set_option maxRecDepth 20000 in
set_option maxHeartbeats 40000000 in
theorem impl_Diagram_triangles_fn1.calls {w0 w : World} {L : List HObj} {K : Nat} {region : List Int} {A_region : Option Addr} {c_region : Nat} {r1 : Bool} (HS : St w0 w (L)) (h_region : RdIn w0 L (TInt .i64) A_region c_region (fun _ => ()) region) (H : impl_Diagram_triangles_fn1.f K region = some r1) :
    Calls Try.prog 123 #[.slice A_region region.length c_region] w (impl_Diagram_triangles_fn1.post w0 L region A_region c_region r1) := by
  unfold impl_Diagram_triangles_fn1.f at H
  refine Calls.of_G Try.func123 rfl rfl rfl ?_
  refine G.seq ?_
  refine G.region ?_
  refine GO.assign rfl rfl rfl ?_
  refine GO.nil ?_
  refine G.seq ?_
  obtain ⟨t1, h2, H⟩ := Option.bind_eq_some_iff.1 H
  refine G.region ?_
  refine GO.move rfl rfl rfl ?_
  refine GO.fn rfl Try.func124 fok124.1 fok124.2 rfl rfl (impl_isTriangle.calls HS h_region h2) (fun _ wd3 ⟨h4, HS⟩ => ⟨_, h4, ?_⟩)
  refine GO.not rfl rfl rfl ?_
  refine GO.assign rfl rfl rfl ?_
  refine GO.nil ?_
  obtain rfl := Option.some.inj H
  exact G.ret1 _ Try.func123 rfl rfl ⟨rfl, HS⟩

set_option maxRecDepth 20000 in
set_option maxHeartbeats 40000000 in
theorem slices_IndexFunc_int64_int64_123.calls {w0 w : World} {L : List HObj} {K : Nat} {s : List (List Int)} {A_s : Option Addr} {c_s : Nat} {y_s : Nat → (Ty.slice 2 (TInt .i64)).Lay} {r1 : Int} (HS : St w0 w (L)) (h_s : RdIn w0 L (Ty.slice 2 (TInt .i64)) A_s c_s y_s s) (H : slices_IndexFunc_int64_int64_123.f K s = some r1) :
    Calls Try.prog 73 #[.slice A_s s.length c_s, .func (.func 123) #[] #[]] w (slices_IndexFunc_int64_int64_123.post w0 L s A_s c_s y_s r1) := by
  unfold slices_IndexFunc_int64_int64_123.f at H
  refine Calls.of_G Try.func73 rfl rfl rfl ?_
  refine G.seq ?_
  refine G.region ?_
  refine GO.assign rfl rfl rfl ?_
  refine GO.nil ?_
  refine G.seq ?_
  refine G.seq ?_
  refine G.region ?_
  refine GO.move rfl rfl rfl ?_
  refine GO.lenS rfl rfl Try.underlying42 rfl ?_
  refine GO.move rfl rfl rfl ?_
  refine GO.nil ?_
  refine G.block ?_
  refine G.loop ?_
  refine G.name (fun k_l1 hk_l1 => ?_)
  have at_l1 : ∀ m_l1, m_l1 ≤ K → ∀ (x8 : Int) (w : World), slices_IndexFunc_int64_int64_123.l1 K m_l1 s x8 = some r1 → St w0 w (L) → G Try.prog 73 19 [(0, .slice A_s s.length c_s), (1, .func (.func 123) #[] #[]), (7, .int .i64 (s.length : Int)), (8, .int .i64 x8)] k_l1 w (slices_IndexFunc_int64_int64_123.post w0 L s A_s c_s y_s r1) := by
   intro m_l1
   induction m_l1 using Nat.strongRecOn with
   | _ m_l1 ih_l1 =>
    intro hm_l1 x8 w H HS
    cases m_l1 with
    | zero => rw [slices_IndexFunc_int64_int64_123.l1] at H; cases H
    | succ n_l1 =>
     rw [slices_IndexFunc_int64_int64_123.l1] at H
     subst hk_l1
     refine G.seq ?_
     refine G.region ?_
     refine GO.lss rfl rfl rfl rfl ?_
     refine GO.nil ?_
     refine G.seq ?_
     rcases ite_elim H with ⟨c16, H⟩ | ⟨c16, H⟩
     ·
      refine G.yesB rfl (decide_eq_true c16) ?_
      refine G.skip ?_
      refine G.seq ?_
      refine G.block ?_
      refine G.seq ?_
      refine G.region ?_
      refine GO.move rfl rfl rfl ?_
      refine GO.assign rfl rfl rfl ?_
      refine GO.nil ?_
      refine G.seq ?_
      obtain ⟨c17, H⟩ := ite_none H
      obtain ⟨t18, h19, H⟩ := Option.bind_eq_some_iff.1 H
      refine G.region ?_
      refine GO.move rfl rfl rfl ?_
      refine GO.move rfl rfl rfl ?_
      refine GO.move rfl rfl rfl ?_
      refine GO.ix rfl rfl rfl Try.underlying42 sz43 (h_s _ HS).2.2.1 c17.1 c17.2 rfl ?_
      refine GO.ldRd (T := (Ty.slice 2 (TInt .i64))) (n := x8.toNat) (o := 0) HS h_s rfl rfl (getD_some (d := []) (ltN c17)) rfl rfl na43 rfl ?_
      refine GO.clo rfl rfl Try.func123 fok123.1 fok123.2 rfl rfl (impl_Diagram_triangles_fn1.calls HS (RdIn.elem h_s c17.1 c17.2) h19) (fun _ wd20 ⟨h21, HS⟩ => ⟨_, h21, ?_⟩)
      refine GO.nil ?_
      rcases ite_elim H with ⟨c22, H⟩ | ⟨c22, H⟩
      ·
       refine G.yesB rfl c22 ?_
       refine G.seq ?_
       refine G.region ?_
       refine GO.move rfl rfl rfl ?_
       refine GO.assign rfl rfl rfl ?_
       refine GO.nil ?_
       obtain rfl := Option.some.inj H
       exact G.ret1 _ Try.func73 rfl rfl ⟨rfl, HS⟩
      ·
       refine G.noB rfl (bnot_of c22) ?_
       refine G.skip ?_
       refine G.blockEnd ?_
       refine G.region ?_
       refine GO.add rfl rfl rfl rfl ?_
       refine GO.move rfl rfl rfl ?_
       refine GO.nil ?_
       refine G.again ?_
       refine G.weak ?_ (ih_l1 n_l1 (Nat.lt_succ_of_le (Nat.le_refl _)) (Nat.le_of_succ_le hm_l1) _ _ H HS)
       exact ⟨rfl, rfl, rfl, rfl, trivial⟩
     ·
      refine G.noB rfl (decide_eq_false c16) ?_
      refine G.exit rfl ?_
      refine G.seq ?_
      refine G.region ?_
      refine GO.assign rfl rfl rfl ?_
      refine GO.nil ?_
      obtain rfl := Option.some.inj H
      exact G.ret1 _ Try.func73 rfl rfl ⟨rfl, HS⟩
  refine G.weak ?_ (at_l1 K (Nat.le_refl _) _ _ H HS)
  exact ⟨rfl, rfl, rfl, rfl, trivial⟩

set_option maxRecDepth 20000 in
set_option maxHeartbeats 40000000 in
theorem slices_DeleteFunc_int64_int64_123.calls {w0 w : World} {L : List HObj} {K : Nat} {s : List (List Int)} {A_s : Option Addr} {c_s : Nat} {y_s : Nat → (Ty.slice 2 (TInt .i64)).Lay} {r1 : List (List Int)} (HS : St w0 w (Own (Ty.slice 2 (TInt .i64)) 43 A_s c_s y_s s :: L)) (H : slices_DeleteFunc_int64_int64_123.f K s = some r1) :
    Calls Try.prog 122 #[.slice A_s s.length c_s, .func (.func 123) #[] #[]] w (slices_DeleteFunc_int64_int64_123.post w0 L s A_s c_s y_s r1) := by
  unfold slices_DeleteFunc_int64_int64_123.f at H
  refine Calls.of_G Try.func122 rfl rfl rfl ?_
  refine G.seq ?_
  refine G.region ?_
  refine GO.assign rfl rfl rfl ?_
  refine GO.nil ?_
  refine G.seq ?_
  obtain ⟨t1, h2, H⟩ := Option.bind_eq_some_iff.1 H
  refine G.region ?_
  refine GO.move rfl rfl rfl ?_
  refine GO.move rfl rfl rfl ?_
  refine GO.fn rfl Try.func73 fok73.1 fok73.2 rfl rfl (slices_IndexFunc_int64_int64_123.calls HS (RdIn.own (j := 0) rfl) h2) (fun _ wd3 ⟨h4, HS⟩ => ⟨_, h4, ?_⟩)
  refine GO.assign rfl rfl rfl ?_
  refine GO.nil ?_
  refine G.seq ?_
  refine G.seq ?_
  refine G.region ?_
  refine GO.move rfl rfl rfl ?_
  refine GO.eql rfl rfl rfl rfl ?_
  refine GO.nil ?_
  rcases ite_elim H with ⟨c5, H⟩ | ⟨c5, H⟩
  ·
   refine G.yesB rfl (decide_eq_true c5) ?_
   refine G.seq ?_
   refine G.region ?_
   refine GO.move rfl rfl rfl ?_
   refine GO.assign rfl rfl rfl ?_
   refine GO.nil ?_
   obtain rfl := Option.some.inj H
   exact G.ret1 _ Try.func122 rfl rfl ⟨_, _, _, rfl, HS⟩
  ·
   refine G.noB rfl (decide_eq_false c5) ?_
   refine G.skip ?_
   refine G.seq ?_
   refine G.seq ?_
   refine G.region ?_
   refine GO.move rfl rfl rfl ?_
   refine GO.add rfl rfl rfl rfl ?_
   refine GO.assign rfl rfl rfl ?_
   refine GO.nil ?_
   refine G.block ?_
   refine G.loop ?_
   replace HS := HS.split
   refine G.len (t := 0) (m := (allRows s.length).length) rfl (allRows_length _).symm ?_
   refine G.name (fun k_l1 hk_l1 => ?_)
   have at_l1 : ∀ m_l1, m_l1 ≤ K → ∀ (x22 : List (Option Nat)) (i_23 : Int) (j_24 : Int) (w : World), slices_DeleteFunc_int64_int64_123.l1 K m_l1 s x22 i_23 j_24 = some r1 → St w0 w (Own (TIdx y_s s) 43 A_s c_s (fun _ => ()) x22 :: Rows_ (TInt .i64) 2 y_s s :: L) → G Try.prog 122 42 [(0, .slice A_s x22.length c_s), (1, .func (.func 123) #[] #[]), (5, .int .i64 i_23), (6, .int .i64 j_24)] k_l1 w (slices_DeleteFunc_int64_int64_123.post w0 L s A_s c_s y_s r1) := by
    intro m_l1
    induction m_l1 using Nat.strongRecOn with
    | _ m_l1 ih_l1 =>
     intro hm_l1 x22 i_23 j_24 w H HS
     cases m_l1 with
     | zero => rw [slices_DeleteFunc_int64_int64_123.l1] at H; cases H
     | succ n_l1 =>
      rw [slices_DeleteFunc_int64_int64_123.l1] at H
      subst hk_l1
      refine G.seq ?_
      refine G.seq ?_
      refine G.region ?_
      refine GO.move rfl rfl rfl ?_
      refine GO.move rfl rfl rfl ?_
      refine GO.lenS rfl rfl Try.underlying42 rfl ?_
      refine GO.lss rfl rfl rfl rfl ?_
      refine GO.nil ?_
      rcases ite_elim H with ⟨c41, H⟩ | ⟨c41, H⟩
      ·
       refine G.yesB rfl (decide_eq_true c41) ?_
       refine G.skip ?_
       refine G.seq ?_
       refine G.block ?_
       refine G.seq ?_
       obtain ⟨c42, H⟩ := ite_none H
       obtain ⟨i43, h44, H⟩ := Option.bind_eq_some_iff.1 H
       obtain ⟨c45, H⟩ := ite_none H
       refine G.region ?_
       refine GO.move rfl rfl rfl ?_
       refine GO.move rfl rfl rfl ?_
       refine GO.ix rfl rfl rfl Try.underlying42 sz43 ((RdIn.own (j := 0) rfl) _ HS).2.2.1 c42.1 c42.2 rfl ?_
       refine GO.ldRd (T := (TIdx y_s s)) (n := j_24.toNat) (o := 0) HS (RdIn.own (j := 0) rfl) rfl rfl (getD_eq (ltN c42) h44) rfl rfl na43 rfl ?_
       refine GO.assign rfl rfl rfl ?_
       refine GO.nil ?_
       refine G.seq ?_
       obtain ⟨t46, h47, H⟩ := Option.bind_eq_some_iff.1 H
       refine G.region ?_
       refine GO.move rfl rfl rfl ?_
       refine GO.move rfl rfl rfl ?_
       refine GO.clo rfl rfl Try.func123 fok123.1 fok123.2 rfl rfl (impl_Diagram_triangles_fn1.calls HS (RdIn.rows (j := 1) rfl c45) h47) (fun _ wd48 ⟨h49, HS⟩ => ⟨_, h49, ?_⟩)
       refine GO.not rfl rfl rfl ?_
       refine GO.nil ?_
       rcases ite_elim H with ⟨c50, H⟩ | ⟨c50, H⟩
       ·
        refine G.noB rfl (congrArg Bool.not c50) ?_
        refine G.skip ?_
        refine G.blockEnd ?_
        refine G.region ?_
        refine GO.move rfl rfl rfl ?_
        refine GO.add rfl rfl rfl rfl ?_
        refine GO.assign rfl rfl rfl ?_
        refine GO.nil ?_
        refine G.again ?_
        refine G.weak ?_ (ih_l1 n_l1 (Nat.lt_succ_of_le (Nat.le_refl _)) (Nat.le_of_succ_le hm_l1) _ _ _ _ H HS)
        exact ⟨rfl, rfl, rfl, rfl, trivial⟩
       ·
        refine G.yesB rfl (congrArg Bool.not (bnot_of c50)) ?_
        refine G.seq ?_
        obtain ⟨c51, H⟩ := ite_none H
        refine G.region ?_
        refine GO.move rfl rfl rfl ?_
        refine GO.move rfl rfl rfl ?_
        refine GO.move rfl rfl rfl ?_
        refine GO.ix rfl rfl rfl Try.underlying42 sz43 ((RdIn.own (j := 0) rfl) _ HS).2.2.1 c51.1 c51.2 rfl ?_
        refine GO.stRow (T := (TIdx y_s s)) (j := 0) (n := i_23.toNat) (o := 0) (vs := [.slice ((y_s i43).A) (s.getD i43 []).length ((y_s i43).c)]) (some i43) HS rfl flat_flat rfl rfl rfl rfl (htN na43 rfl) rfl (getD_some (d := none) (ltN c51)) rfl rfl ?_; intro wd52 HS
        refine GO.nil ?_
        refine G.len (t := 0) (m := (x22.set i_23.toNat (some i43)).length) rfl (by simp only [List.length_set] <;> rfl) ?_
        refine G.region ?_
        refine GO.move rfl rfl rfl ?_
        refine GO.add rfl rfl rfl rfl ?_
        refine GO.assign rfl rfl rfl ?_
        refine GO.nil ?_
        refine G.blockEnd ?_
        refine G.region ?_
        refine GO.move rfl rfl rfl ?_
        refine GO.add rfl rfl rfl rfl ?_
        refine GO.assign rfl rfl rfl ?_
        refine GO.nil ?_
        refine G.again ?_
        refine G.weak ?_ (ih_l1 n_l1 (Nat.lt_succ_of_le (Nat.le_refl _)) (Nat.le_of_succ_le hm_l1) _ _ _ _ H HS)
        exact ⟨rfl, rfl, rfl, rfl, trivial⟩
      ·
       refine G.noB rfl (decide_eq_false c41) ?_
       refine G.exit rfl ?_
       refine G.seq ?_
       obtain ⟨c53, H⟩ := ite_none H
       have h55 := over_lenR (xs := x22) (z := none) (cutN (leN c53) (Nat.le_refl _))
       refine G.region ?_
       refine GO.move rfl rfl rfl ?_
       refine GO.move rfl rfl rfl ?_
       refine GO.slL (T := (TIdx y_s s)) HS (RdIn.own (j := 0) rfl) rfl rfl rfl Try.underlying42 sz43 c53.1 c53.2 rfl ?_
       refine GO.clearC (T := (TIdx y_s s)) (j := 0) (l := i_23.toNat) none () HS rfl flat_flat rfl rfl Try.underlying42 zr43 rfl rfl (cutC (Nat.le_refl _) ((RdIn.own (j := 0) rfl) _ HS).1) (cutN (leN c53) (Nat.le_refl _)) (fun _ => rfl) ?_; intro wd54 HS
       refine GO.nil ?_
       refine G.len (t := 0) (m := (over x22 i_23.toNat (List.replicate ((x22.take x22.length).drop i_23.toNat).length none)).length) rfl (by simp only [List.length_set, h55] <;> rfl) ?_
       refine G.seq ?_
       obtain ⟨c56, H⟩ := ite_none H
       refine G.region ?_
       refine GO.move rfl rfl rfl ?_
       refine GO.move rfl rfl rfl ?_
       refine GO.slH (T := (TIdx y_s s)) HS (RdIn.own (j := 0) rfl) rfl rfl rfl Try.underlying42 sz43 c56.1 c56.2 rfl ?_
       refine GO.assign rfl rfl rfl ?_
       refine GO.nil ?_
       obtain ⟨r57, h58, H⟩ := Option.bind_eq_some_iff.1 H
       obtain ⟨y59, h60, HS⟩ := St.unsplit (A' := (cutA A_s 0 c_s 1)) (c' := (c_s - 0)) HS (leN c56) h58 (cutA_zero _ _ _) rfl
       refine G.len (t := 4) (m := r57.length) rfl (by rw [h60, List.drop_zero, List.length_take]; exact Nat.min_eq_left (leN c56)) ?_
       obtain rfl := Option.some.inj H
       exact G.ret1 _ Try.func122 rfl rfl ⟨_, _, _, rfl, HS⟩
   refine G.weak ?_ (at_l1 K (Nat.le_refl _) _ _ _ _ H HS)
   exact ⟨rfl, rfl, rfl, rfl, trivial⟩

set_option maxRecDepth 20000 in
set_option maxHeartbeats 40000000 in
theorem impl_Diagram_triangles.calls {w0 w : World} {L : List HObj} {K : Nat} {d_Crossings : List GCrossing} {d_Circles : Int} {a_from : List GEnd} {a_to : List GEnd} {A_d_Crossings : Option Addr} {c_d_Crossings : Nat} {A_a_from : Option Addr} {c_a_from : Nat} {A_a_to : Option Addr} {c_a_to : Nat} {r1 : List (List Int)} (HS : St w0 w (L)) (h_d_Crossings : RdIn w0 L T_GCrossing A_d_Crossings c_d_Crossings (fun _ => ()) d_Crossings) (h_a_from : RdIn w0 L T_GEnd A_a_from c_a_from (fun _ => ()) a_from) (h_a_to : RdIn w0 L T_GEnd A_a_to c_a_to (fun _ => ()) a_to) (H : impl_Diagram_triangles.f K d_Crossings d_Circles a_from a_to = some r1) :
    Calls Try.prog 72 #[.agg [.slice A_d_Crossings d_Crossings.length c_d_Crossings, .int .i64 d_Circles].toArray, .agg [.slice A_a_from a_from.length c_a_from, .slice A_a_to a_to.length c_a_to].toArray] w (impl_Diagram_triangles.post w0 L d_Crossings d_Circles a_from a_to A_d_Crossings c_d_Crossings A_a_from c_a_from A_a_to c_a_to r1) := by
  unfold impl_Diagram_triangles.f at H
  refine Calls.of_G Try.func72 rfl rfl rfl ?_
  refine G.seq ?_
  refine G.region ?_
  refine GO.box (cs := [.slice A_d_Crossings d_Crossings.length c_d_Crossings, .int .i64 d_Circles]) HS rfl rfl rfl rfl ?_; intro b1 wd2 HS
  refine GO.box (cs := [.slice A_a_from a_from.length c_a_from, .slice A_a_to a_to.length c_a_to]) HS rfl rfl rfl rfl ?_; intro b3 wd4 HS
  refine GO.assign rfl rfl rfl ?_
  refine GO.nil ?_
  refine G.seq ?_
  obtain ⟨t5, h6, H⟩ := Option.bind_eq_some_iff.1 H
  obtain ⟨t12, h13, H⟩ := Option.bind_eq_some_iff.1 H
  refine G.region ?_
  refine GO.ldBoxA (j := 1) ([.slice A_d_Crossings d_Crossings.length c_d_Crossings, .int .i64 d_Circles]) HS rfl rfl rfl rfl ag28 rfl ?_
  refine GO.ldBoxA (j := 0) ([.slice A_a_from a_from.length c_a_from, .slice A_a_to a_to.length c_a_to]) HS rfl rfl rfl rfl ag63 rfl ?_
  refine GO.fn rfl Try.func111 fok111.1 fok111.2 rfl rfl (impl_Diagram_regions.calls HS (RdIn.drop 2 h_d_Crossings) (RdIn.drop 2 h_a_from) (RdIn.drop 2 h_a_to) h6) (fun _ wd10 ⟨A7, c8, y9, h11, HS⟩ => ⟨_, h11, ?_⟩)
  replace HS := HS.pick 3 [0, 1, 2]
  refine GO.fn rfl Try.func122 fok122.1 fok122.2 rfl rfl (slices_DeleteFunc_int64_int64_123.calls HS  h13) (fun _ wd17 ⟨A14, c15, y16, h18, HS⟩ => ⟨_, h18, ?_⟩)
  refine GO.assign rfl rfl rfl ?_
  refine GO.nil ?_
  obtain rfl := Option.some.inj H
  exact G.ret1 _ Try.func72 rfl rfl ⟨_, _, _, rfl, (HS.pick 3 [0])⟩

set_option maxRecDepth 20000 in
set_option maxHeartbeats 40000000 in
theorem impl_SlideTriangle_fn1_free.calls {w0 w : World} {L : List HObj} {region : List Int} {v0_2 : Int} {A_region : Option Addr} {c_region : Nat} {b_v0 : Nat} {r1 : Bool} (HS : St w0 w (Box b_v0 2 [.int .i64 v0_2] :: L)) (h_region : RdIn w0 L (TInt .i64) A_region c_region (fun _ => ()) region) (H : impl_SlideTriangle_fn1_free.f region v0_2 = some r1) :
    Calls Try.prog 74 #[.slice A_region region.length c_region, .pointer (some ⟨b_v0, 0, none⟩)] w (impl_SlideTriangle_fn1_free.post w0 L region v0_2 A_region c_region b_v0 r1) := by
  unfold impl_SlideTriangle_fn1_free.f at H
  refine Calls.of_G Try.func74 rfl rfl rfl ?_
  refine G.seq ?_
  refine G.region ?_
  refine GO.assign rfl rfl rfl ?_
  refine GO.nil ?_
  refine G.seq ?_
  obtain ⟨c1, H⟩ := ite_none H
  refine G.regionAny mixed (by decide) (fun b a w => ∃ (Y1_0 : Value) (Y2_1 : Value) (Y3_2 : Value) (Y4_3 : Value) (Y5_4 : Value) (Y6_5 : Value), Sat 9 [(3, Y6_5), (4, Y1_0), (5, Y2_1), (6, Y3_2), (7, Y4_3), (8, Y5_4), (0, .slice A_region region.length c_region), (1, .pointer (some ⟨b_v0, 0, none⟩))] a ∧ St w0 w (Box b_v0 2 [.int .i64 v0_2] :: L) ∧ (b 5 = true → Y6_5 = (.bool (decide (region.getD 0 0 = v0_2)))) ∧ (b 0 = true → Y1_0 = (.slice A_region region.length c_region)) ∧ (b 1 = true → Y2_1 = (.pointer (some (ea A_region (0 * 1))))) ∧ (b 2 = true → Y3_2 = (.int .i64 (region.getD 0 0))) ∧ (b 3 = true → Y4_3 = (.int .i64 v0_2)) ∧ (b 4 = true → Y5_4 = (.bool (decide (region.getD 0 0 = v0_2))))) ?_ ?_ ?_
  ·
   intro a hs
   obtain ⟨Y6_5, hs⟩ := hs.ext (d := 3) rfl
   obtain ⟨Y1_0, hs⟩ := hs.ext (d := 4) rfl
   obtain ⟨Y2_1, hs⟩ := hs.ext (d := 5) rfl
   obtain ⟨Y3_2, hs⟩ := hs.ext (d := 6) rfl
   obtain ⟨Y4_3, hs⟩ := hs.ext (d := 7) rfl
   obtain ⟨Y5_4, hs⟩ := hs.ext (d := 8) rfl
   exact ⟨Y1_0, Y2_1, Y3_2, Y4_3, Y5_4, Y6_5, hs.weak ⟨rfl, rfl, rfl, rfl, rfl, rfl, rfl, rfl, trivial⟩, (HS.drew.pick 1 [0]), fun h => Bool.noConfusion h, fun h => Bool.noConfusion h, fun h => Bool.noConfusion h, fun h => Bool.noConfusion h, fun h => Bool.noConfusion h, fun h => Bool.noConfusion h⟩
  ·
   intro j hj b a w
   refine exI fun Y1_0 => exI fun Y2_1 => exI fun Y3_2 => exI fun Y4_3 => exI fun Y5_4 => exI fun Y6_5 => anI fun hs => anI fun HS => anI fun f5 => anI fun f0 => anI fun f1 => anI fun f2 => anI fun f3 => fun f4 hb hd hcl => ?_
   match j, hj with
   | 0, _ =>
    refine GO.at hs ?_
    refine GO.move rfl rfl rfl ?_
    refine GO.fin (fun a hs => ?_)
    exact ⟨(.slice A_region region.length c_region), _, _, _, _, _, by exact hs.setAt 1 rfl, HS, f5, fun _ => rfl, f1, f2, f3, f4⟩
   | 1, _ =>
    have h0 : b 0 = true := hd 0 (by decide)
    obtain rfl := f0 h0
    refine GO.at hs ?_
    refine GO.ix rfl rfl rfl Try.underlying43 sz2 ((RdIn.drop 1 h_region) _ HS).2.2.1 c1.1 c1.2 rfl ?_
    refine GO.fin (fun a hs => ?_)
    exact ⟨_, (.pointer (some (ea A_region (0 * 1)))), _, _, _, _, by exact hs.setAt 2 rfl, HS, f5, f0, fun _ => rfl, f2, f3, f4⟩
   | 2, _ =>
    have h1 : b 1 = true := hd 1 (by decide)
    obtain rfl := f1 h1
    refine GO.at hs ?_
    refine GO.ldRd (T := (TInt .i64)) (n := 0) (o := 0) HS (RdIn.drop 1 h_region) rfl rfl (getD_some (d := 0) (ltN c1)) rfl rfl na2 rfl ?_
    refine GO.fin (fun a hs => ?_)
    exact ⟨_, _, (.int .i64 (region.getD 0 0)), _, _, _, by exact hs.setAt 3 rfl, HS, f5, f0, f1, fun _ => rfl, f3, f4⟩
   | 3, _ =>
    refine GO.at hs ?_
    refine GO.ldBox (j := 0) HS rfl rfl rfl rfl na2 rfl ?_
    refine GO.fin (fun a hs => ?_)
    exact ⟨_, _, _, (.int .i64 v0_2), _, _, by exact hs.setAt 4 rfl, HS, f5, f0, f1, f2, fun _ => rfl, f4⟩
   | 4, _ =>
    have h2 : b 2 = true := hd 2 (by decide)
    obtain rfl := f2 h2
    have h3 : b 3 = true := hd 3 (by decide)
    obtain rfl := f3 h3
    refine GO.at hs ?_
    refine GO.eql rfl rfl rfl rfl ?_
    refine GO.fin (fun a hs => ?_)
    exact ⟨_, _, _, _, (.bool (decide (region.getD 0 0 = v0_2))), _, by exact hs.setAt 5 rfl, HS, f5, f0, f1, f2, f3, fun _ => rfl⟩
   | 5, _ =>
    have h4 : b 4 = true := hd 4 (by decide)
    obtain rfl := f4 h4
    refine GO.at hs ?_
    refine GO.assign rfl rfl rfl ?_
    refine GO.fin (fun a hs => ?_)
    exact ⟨_, _, _, _, _, (.bool (decide (region.getD 0 0 = v0_2))), by exact hs.setAt 0 rfl, HS, fun _ => rfl, f0, f1, f2, f3, f4⟩
   | k + 6, hj => exact absurd hj (Nat.not_lt.2 (Nat.le_add_left 6 k))
  ·
   intro b a w hall
   refine exI fun Y1_0 => exI fun Y2_1 => exI fun Y3_2 => exI fun Y4_3 => exI fun Y5_4 => exI fun Y6_5 => anI fun hs => anI fun HS => anI fun f5 => anI fun f0 => anI fun f1 => anI fun f2 => anI fun f3 => fun f4 => ?_
   obtain rfl := f5 (hall 5 (by decide))
   obtain rfl := f0 (hall 0 (by decide))
   obtain rfl := f1 (hall 1 (by decide))
   obtain rfl := f2 (hall 2 (by decide))
   obtain rfl := f3 (hall 3 (by decide))
   obtain rfl := f4 (hall 4 (by decide))
   refine G.at hs ?_
   obtain rfl := Option.some.inj H
   exact G.ret1 _ Try.func74 rfl rfl ⟨rfl, HS⟩

set_option maxRecDepth 20000 in
set_option maxHeartbeats 40000000 in
theorem slices_IndexFunc_int64_int64_74.calls {w0 w : World} {L : List HObj} {K : Nat} {s : List (List Int)} {cap_2 : Int} {A_s : Option Addr} {c_s : Nat} {y_s : Nat → (Ty.slice 2 (TInt .i64)).Lay} {b_cap : Nat} {r1 : Int} (HS : St w0 w (Box b_cap 2 [.int .i64 cap_2] :: L)) (h_s : RdIn w0 L (Ty.slice 2 (TInt .i64)) A_s c_s y_s s) (H : slices_IndexFunc_int64_int64_74.f K s cap_2 = some r1) :
    Calls Try.prog 73 #[.slice A_s s.length c_s, .func (.func 74) #[] #[.pointer (some ⟨b_cap, 0, none⟩)]] w (slices_IndexFunc_int64_int64_74.post w0 L s cap_2 A_s c_s y_s b_cap r1) := by
  unfold slices_IndexFunc_int64_int64_74.f at H
  refine Calls.of_G Try.func73 rfl rfl rfl ?_
  refine G.seq ?_
  refine G.region ?_
  refine GO.assign rfl rfl rfl ?_
  refine GO.nil ?_
  refine G.seq ?_
  refine G.seq ?_
  refine G.region ?_
  refine GO.move rfl rfl rfl ?_
  refine GO.lenS rfl rfl Try.underlying42 rfl ?_
  refine GO.move rfl rfl rfl ?_
  refine GO.nil ?_
  refine G.block ?_
  refine G.loop ?_
  refine G.name (fun k_l1 hk_l1 => ?_)
  have at_l1 : ∀ m_l1, m_l1 ≤ K → ∀ (x8 : Int) (w : World), slices_IndexFunc_int64_int64_74.l1 K m_l1 s cap_2 x8 = some r1 → St w0 w (Box b_cap 2 [.int .i64 cap_2] :: L) → G Try.prog 73 19 [(0, .slice A_s s.length c_s), (1, .func (.func 74) #[] #[.pointer (some ⟨b_cap, 0, none⟩)]), (7, .int .i64 (s.length : Int)), (8, .int .i64 x8)] k_l1 w (slices_IndexFunc_int64_int64_74.post w0 L s cap_2 A_s c_s y_s b_cap r1) := by
   intro m_l1
   induction m_l1 using Nat.strongRecOn with
   | _ m_l1 ih_l1 =>
    intro hm_l1 x8 w H HS
    cases m_l1 with
    | zero => rw [slices_IndexFunc_int64_int64_74.l1] at H; cases H
    | succ n_l1 =>
     rw [slices_IndexFunc_int64_int64_74.l1] at H
     subst hk_l1
     refine G.seq ?_
     refine G.region ?_
     refine GO.lss rfl rfl rfl rfl ?_
     refine GO.nil ?_
     refine G.seq ?_
     rcases ite_elim H with ⟨c16, H⟩ | ⟨c16, H⟩
     ·
      refine G.yesB rfl (decide_eq_true c16) ?_
      refine G.skip ?_
      refine G.seq ?_
      refine G.block ?_
      refine G.seq ?_
      refine G.region ?_
      refine GO.move rfl rfl rfl ?_
      refine GO.assign rfl rfl rfl ?_
      refine GO.nil ?_
      refine G.seq ?_
      obtain ⟨c17, H⟩ := ite_none H
      obtain ⟨t18, h19, H⟩ := Option.bind_eq_some_iff.1 H
      refine G.region ?_
      refine GO.move rfl rfl rfl ?_
      refine GO.move rfl rfl rfl ?_
      refine GO.move rfl rfl rfl ?_
      refine GO.ix rfl rfl rfl Try.underlying42 sz43 ((RdIn.drop 1 h_s) _ HS).2.2.1 c17.1 c17.2 rfl ?_
      refine GO.ldRd (T := (Ty.slice 2 (TInt .i64))) (n := x8.toNat) (o := 0) HS (RdIn.drop 1 h_s) rfl rfl (getD_some (d := []) (ltN c17)) rfl rfl na43 rfl ?_
      replace HS := HS.pick 1 [0]
      refine GO.clo rfl rfl Try.func74 fok74.1 fok74.2 rfl rfl (impl_SlideTriangle_fn1_free.calls HS (RdIn.elem h_s c17.1 c17.2) h19) (fun _ wd20 ⟨h21, HS⟩ => ⟨_, h21, ?_⟩)
      refine GO.nil ?_
      rcases ite_elim H with ⟨c22, H⟩ | ⟨c22, H⟩
      ·
       refine G.yesB rfl c22 ?_
       refine G.seq ?_
       refine G.region ?_
       refine GO.move rfl rfl rfl ?_
       refine GO.assign rfl rfl rfl ?_
       refine GO.nil ?_
       obtain rfl := Option.some.inj H
       exact G.ret1 _ Try.func73 rfl rfl ⟨rfl, HS⟩
      ·
       refine G.noB rfl (bnot_of c22) ?_
       refine G.skip ?_
       refine G.blockEnd ?_
       refine G.region ?_
       refine GO.add rfl rfl rfl rfl ?_
       refine GO.move rfl rfl rfl ?_
       refine GO.nil ?_
       refine G.again ?_
       refine G.weak ?_ (ih_l1 n_l1 (Nat.lt_succ_of_le (Nat.le_refl _)) (Nat.le_of_succ_le hm_l1) _ _ H HS)
       exact ⟨rfl, rfl, rfl, rfl, trivial⟩
     ·
      refine G.noB rfl (decide_eq_false c16) ?_
      refine G.exit rfl ?_
      refine G.seq ?_
      refine G.region ?_
      refine GO.assign rfl rfl rfl ?_
      refine GO.nil ?_
      obtain rfl := Option.some.inj H
      exact G.ret1 _ Try.func73 rfl rfl ⟨rfl, HS⟩
  refine G.weak ?_ (at_l1 K (Nat.le_refl _) _ _ H HS)
  exact ⟨rfl, rfl, rfl, rfl, trivial⟩

set_option maxRecDepth 20000 in
set_option maxHeartbeats 40000000 in
theorem slices_Clone_impl_Crossing_impl_Crossing.calls {w0 w : World} {L : List HObj} {s : List GCrossing} {A_s : Option Addr} {c_s : Nat} {r1 : List GCrossing} (HS : St w0 w (L)) (h_s : RdIn w0 L T_GCrossing A_s c_s (fun _ => ()) s) (H : slices_Clone_impl_Crossing_impl_Crossing.f s = some r1) :
    Calls Try.prog 112 #[.slice A_s s.length c_s] w (slices_Clone_impl_Crossing_impl_Crossing.post w0 L s A_s c_s r1) := by
  unfold slices_Clone_impl_Crossing_impl_Crossing.f at H
  refine Calls.of_G Try.func112 rfl rfl rfl ?_
  refine G.seq ?_
  refine G.region ?_
  refine GO.assign rfl rfl rfl ?_
  refine GO.nil ?_
  refine G.seq ?_
  refine G.seq ?_
  refine G.region ?_
  refine GO.move rfl rfl rfl ?_
  refine GO.eqNil rfl rfl rfl Try.underlying26 rfl ?_
  refine GO.nil ?_
  rcases Decidable.em (A_s.isNone = true) with c1 | c1
  ·
   obtain rfl := nil_of_none h_s HS c1
   refine G.yesB rfl c1 ?_
   refine G.seq ?_
   refine G.region ?_
   refine GO.assign rfl rfl rfl ?_
   refine GO.nil ?_
   replace HS := HS.nilRow T_GCrossing 58 (fun _ => ())
   replace H : some ([] : List GCrossing) = some r1 := H
   obtain rfl := Option.some.inj H
   exact G.ret1 _ Try.func112 rfl rfl ⟨_, _, rfl, HS⟩
  ·
   refine G.noB rfl (bnot_of c1) ?_
   refine G.skip ?_
   refine G.seq ?_
   obtain ⟨c7, H⟩ := ite_none H
   refine G.region ?_
   refine GO.buildS (el := 58) ([]) HS rfl rfl (fun _ => by kernel_rfl) rfl ?_; intro b2 wd3 HS
   refine GO.move rfl rfl rfl ?_
   replace HS := HS.boxRow (T := T_GCrossing) (j := 0) rfl flat_flat (fun _ => ()) ([] : List GCrossing) rfl (bndL rfl)
   refine GO.lenC (t := 5) (m := ([] : List GCrossing).length) (c' := ([] : List GCrossing).length) rfl rfl rfl ?_
   refine GO.appS (T := T_GCrossing) (j := 0) HS rfl (RdIn.drop 1 h_s) flat_flat rfl rfl rfl Try.underlying26 inf58 rfl rfl rfl c7 rfl (fun _ => rfl) ?_; intro A5 c6 wd4 HS
   refine GO.assign rfl rfl rfl ?_
   refine GO.nil ?_
   obtain rfl := Option.some.inj H
   exact G.ret1 _ Try.func112 rfl rfl ⟨_, _, rfl, HS⟩

set_option maxRecDepth 20000 in
set_option maxHeartbeats 40000000 in
theorem impl_copyDiagram.calls {w0 w : World} {L : List HObj} {d_Crossings : List GCrossing} {d_Circles : Int} {A_d_Crossings : Option Addr} {c_d_Crossings : Nat} {r1 : List GCrossing} {r2 : Int} (HS : St w0 w (L)) (h_d_Crossings : RdIn w0 L T_GCrossing A_d_Crossings c_d_Crossings (fun _ => ()) d_Crossings) (H : impl_copyDiagram.f d_Crossings d_Circles = some (r1, r2)) :
    Calls Try.prog 49 #[.agg [.slice A_d_Crossings d_Crossings.length c_d_Crossings, .int .i64 d_Circles].toArray] w (impl_copyDiagram.post w0 L d_Crossings d_Circles A_d_Crossings c_d_Crossings r1 r2) := by
  unfold impl_copyDiagram.f at H
  refine Calls.of_G Try.func49 rfl rfl rfl ?_
  refine G.seq ?_
  refine G.region ?_
  refine GO.box (cs := [.slice A_d_Crossings d_Crossings.length c_d_Crossings, .int .i64 d_Circles]) HS rfl rfl rfl rfl ?_; intro b1 wd2 HS
  refine GO.alloc HS rfl zr28 rfl rfl ?_; intro b3 wd4 HS
  refine GO.nil ?_
  refine G.seq ?_
  obtain ⟨t5, h6, H⟩ := Option.bind_eq_some_iff.1 H
  refine G.region ?_
  refine GO.fld (⟨b1, 0, none⟩) rfl rfl fl28_0 rfl rfl ?_
  refine GO.ldBox (j := 1) HS rfl rfl rfl rfl na26 rfl ?_
  refine GO.fn rfl Try.func112 fok112.1 fok112.2 rfl rfl (slices_Clone_impl_Crossing_impl_Crossing.calls HS (RdIn.drop 2 h_d_Crossings) h6) (fun _ wd9 ⟨A7, c8, h10, HS⟩ => ⟨_, h10, ?_⟩)
  refine GO.fld (⟨b1, 0, none⟩) rfl rfl fl28_0 rfl rfl ?_
  refine GO.stBox (j := 2) (vs := [.slice A7 t5.length c8]) ([.slice A7 t5.length c8, .int .i64 d_Circles]) HS rfl rfl rfl rfl rfl (htN na26 rfl) rfl rfl rfl ?_; intro wd11 HS
  refine GO.nil ?_
  refine G.seq ?_
  refine G.region ?_
  refine GO.ldBoxA (j := 2) ([.slice A7 t5.length c8, .int .i64 d_Circles]) HS rfl rfl rfl rfl ag28 rfl ?_
  refine GO.stBox (j := 1) (vs := [.slice A7 t5.length c8, .int .i64 d_Circles]) ([.slice A7 t5.length c8, .int .i64 d_Circles]) HS rfl rfl rfl rfl rfl (htA ag28) rfl rfl rfl ?_; intro wd12 HS
  refine GO.nil ?_
  obtain ⟨rfl, rfl⟩ := some2 H
  exact G.ret1 _ Try.func49 rfl (Res1.boxA (j := 1) (vs := [.slice A7 t5.length c8, .int .i64 d_Circles]) HS rfl rfl rfl ag28) ⟨_, _, rfl, (HS.pick 3 [0])⟩

set_option maxRecDepth 20000 in
set_option maxHeartbeats 40000000 in
theorem impl_passOf.calls {w0 w : World} {L : List HObj} {e_crossing : Int} {e_position : Int} {r1 : Int} (HS : St w0 w (L)) (H : impl_passOf.f e_crossing e_position = some r1) :
    Calls Try.prog 77 #[.agg [.int .i64 e_crossing, .int .i64 e_position].toArray] w (impl_passOf.post w0 L e_crossing e_position r1) := by
  unfold impl_passOf.f at H
  refine Calls.of_G Try.func77 rfl rfl rfl ?_
  refine G.seq ?_
  refine G.region ?_
  refine GO.box (cs := [.int .i64 e_crossing, .int .i64 e_position]) HS rfl rfl rfl rfl ?_; intro b1 wd2 HS
  refine GO.assign rfl rfl rfl ?_
  refine GO.nil ?_
  refine G.seq ?_
  refine G.seq ?_
  obtain ⟨t3, h4, H⟩ := Option.bind_eq_some_iff.1 H
  refine G.region ?_
  refine GO.fld (⟨b1, 1, none⟩) rfl rfl fl68_1 rfl rfl ?_
  refine GO.ldBox (j := 0) HS rfl rfl rfl rfl na2 rfl ?_
  refine GO.fn rfl Try.func126 fok126.1 fok126.2 rfl rfl (impl_isUpper.calls HS  h4) (fun _ wd5 ⟨h6, HS⟩ => ⟨_, h6, ?_⟩)
  refine GO.nil ?_
  rcases ite_elim H with ⟨c7, H⟩ | ⟨c7, H⟩
  ·
   refine G.yesB rfl c7 ?_
   refine G.seq ?_
   refine G.region ?_
   refine GO.fld (⟨b1, 0, none⟩) rfl rfl fl68_0 rfl rfl ?_
   refine GO.ldBox (j := 0) HS rfl rfl rfl rfl na2 rfl ?_
   refine GO.add rfl rfl rfl rfl ?_
   refine GO.assign rfl rfl rfl ?_
   refine GO.nil ?_
   obtain rfl := Option.some.inj H
   exact G.ret1 _ Try.func77 rfl rfl ⟨rfl, (HS.pick 1 [])⟩
  ·
   refine G.noB rfl (bnot_of c7) ?_
   refine G.skip ?_
   refine G.seq ?_
   refine G.region ?_
   refine GO.fld (⟨b1, 0, none⟩) rfl rfl fl68_0 rfl rfl ?_
   refine GO.ldBox (j := 0) HS rfl rfl rfl rfl na2 rfl ?_
   refine GO.add rfl rfl rfl rfl ?_
   refine GO.neg rfl rfl rfl ?_
   refine GO.assign rfl rfl rfl ?_
   refine GO.nil ?_
   obtain rfl := Option.some.inj H
   exact G.ret1 _ Try.func77 rfl rfl ⟨rfl, (HS.pick 1 [])⟩

set_option maxRecDepth 20000 in
set_option maxHeartbeats 40000000 in
theorem impl_abs.calls {w0 w : World} {L : List HObj} {x : Int} {r1 : Int} (HS : St w0 w (L)) (H : impl_abs.f x = some r1) :
    Calls Try.prog 125 #[.int .i64 x] w (impl_abs.post w0 L x r1) := by
  unfold impl_abs.f at H
  refine Calls.of_G Try.func125 rfl rfl rfl ?_
  refine G.seq ?_
  refine G.region ?_
  refine GO.assign rfl rfl rfl ?_
  refine GO.nil ?_
  refine G.seq ?_
  refine G.seq ?_
  refine G.region ?_
  refine GO.move rfl rfl rfl ?_
  refine GO.lss rfl rfl rfl rfl ?_
  refine GO.nil ?_
  rcases ite_elim H with ⟨c1, H⟩ | ⟨c1, H⟩
  ·
   refine G.yesB rfl (decide_eq_true c1) ?_
   refine G.seq ?_
   refine G.region ?_
   refine GO.move rfl rfl rfl ?_
   refine GO.neg rfl rfl rfl ?_
   refine GO.assign rfl rfl rfl ?_
   refine GO.nil ?_
   obtain rfl := Option.some.inj H
   exact G.ret1 _ Try.func125 rfl rfl ⟨rfl, HS⟩
  ·
   refine G.noB rfl (decide_eq_false c1) ?_
   refine G.skip ?_
   refine G.seq ?_
   refine G.region ?_
   refine GO.move rfl rfl rfl ?_
   refine GO.assign rfl rfl rfl ?_
   refine GO.nil ?_
   obtain rfl := Option.some.inj H
   exact G.ret1 _ Try.func125 rfl rfl ⟨rfl, HS⟩

end Go.Proofs.Ytdafmbaeiefacaa
