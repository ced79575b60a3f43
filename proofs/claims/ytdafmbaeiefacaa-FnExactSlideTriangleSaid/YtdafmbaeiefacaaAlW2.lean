/-
  The walks through the functions: a call comes to what its list function says.
-/
import Derived.Test.YtdafmbaeiefacaaAlF
import Derived.Test.YtdafmbaeiefacaaAlW1
set_option linter.unusedVariables false
set_option linter.unusedSimpArgs false
namespace Go.Proofs.Ytdafmbaeiefacaa
open Go.RowKit
set_option maxRecDepth 20000 in
set_option maxHeartbeats 40000000 in
theorem spec_l27Triangle.calls {w0 w : World} {L : List HObj} {K : Nat} {r : List Int} {A_r : Option Addr} {c_r : Nat} {r1 : Bool} (HS : St w0 w (L)) (h_r : RdIn w0 L (TInt .i64) A_r c_r (fun _ => ()) r) (H : spec_l27Triangle.f K r = some r1) :
    Calls Try.prog 69 #[.slice A_r r.length c_r] w (spec_l27Triangle.post w0 L r A_r c_r r1) := by
  unfold spec_l27Triangle.f at H
  refine Calls.of_G Try.func69 rfl rfl rfl ?_
  refine G.seq ?_
  refine G.region ?_
  refine GO.assign rfl rfl rfl ?_
  refine GO.nil ?_
  refine G.seq ?_
  refine G.seq ?_
  rcases ite_elim H with ⟨c7, H⟩ | ⟨c7, H⟩
  ·
   obtain ⟨c8, H⟩ := ite_none H
   obtain ⟨c9, H⟩ := ite_none H
   rcases ite_elim H with ⟨c10, H⟩ | ⟨c10, H⟩
   ·
    refine G.regionAny mixed (by decide) (fun b a w => ∃ (Y1_0 : Value) (Y2_1 : Value) (Y3_2 : Value) (Y4_3 : Value) (Y5_4 : Value) (Y6_5 : Value) (Y7_6 : Value) (Y8_7 : Value) (Y9_8 : Value) (Y10_9 : Value) (Y11_10 : Value) (Y12_11 : Value) (Y13_12 : Value) (Y14_13 : Value) (Y15_14 : Value) (Y16_15 : Value) (Y17_16 : Value) (Y18_17 : Value) (Y19_18 : Value) (Y20_19 : Value) (Y21_20 : Value) (Y22_21 : Value) (Y23_22 : Value) (Y24_23 : Value) (Y25_24 : Value) (Y26_25 : Value) (Y27_26 : Value) (Y28_27 : Value) (Y29_28 : Value) (Y30_29 : Value) (Y31_30 : Value) (Y32_31 : Value) (Y33_32 : Value) (Y34_33 : Value) (Y35_34 : Value) (Y36_35 : Value), Sat 48 [(4, Y1_0), (5, Y2_1), (6, Y3_2), (7, Y4_3), (8, Y5_4), (9, Y6_5), (10, Y7_6), (11, Y8_7), (12, Y9_8), (13, Y10_9), (14, Y11_10), (15, Y12_11), (16, Y13_12), (17, Y14_13), (18, Y15_14), (19, Y16_15), (20, Y17_16), (21, Y18_17), (22, Y19_18), (23, Y20_19), (24, Y21_20), (25, Y22_21), (26, Y23_22), (27, Y24_23), (28, Y25_24), (29, Y26_25), (30, Y27_26), (31, Y28_27), (32, Y29_28), (33, Y30_29), (34, Y31_30), (35, Y32_31), (36, Y33_32), (37, Y34_33), (38, Y35_34), (39, Y36_35), (0, .slice A_r r.length c_r)] a ∧ St w0 w (L) ∧ (b 0 = true → Y1_0 = (.slice A_r r.length c_r)) ∧ (b 1 = true → Y2_1 = (.int .i64 (r.length : Int))) ∧ (b 2 = true → Y3_2 = (.bool (!(decide ((r.length : Int) = 3))))) ∧ (b 3 = true → Y4_3 = (.bool false)) ∧ (b 4 = true → Y5_4 = (.slice A_r r.length c_r)) ∧ (b 5 = true → Y6_5 = (.pointer (some (ea A_r (0 * 1))))) ∧ (b 6 = true → Y7_6 = (.int .i64 (r.getD 0 0))) ∧ (b 7 = true → Y8_7 = (.int .i64 (w64 ((r.getD 0 0).tdiv 4)))) ∧ (b 8 = true → Y9_8 = (.slice A_r r.length c_r)) ∧ (b 9 = true → Y10_9 = (.pointer (some (ea A_r (1 * 1))))) ∧ (b 10 = true → Y11_10 = (.int .i64 (r.getD 1 0))) ∧ (b 11 = true → Y12_11 = (.int .i64 (w64 ((r.getD 1 0).tdiv 4)))) ∧ (b 12 = true → Y13_12 = (.bool (decide (w64 ((r.getD 0 0).tdiv 4) = w64 ((r.getD 1 0).tdiv 4))))) ∧ (b 13 = true → Y14_13 = (.bool (decide (w64 ((r.getD 0 0).tdiv 4) = w64 ((r.getD 1 0).tdiv 4))))) ∧ (b 14 = true → Y15_14 = (.bool true)) ∧ (b 15 = true → Y16_15 = (undef)) ∧ (b 16 = true → Y17_16 = (undef)) ∧ (b 17 = true → Y18_17 = (undef)) ∧ (b 18 = true → Y19_18 = (undef)) ∧ (b 19 = true → Y20_19 = (undef)) ∧ (b 20 = true → Y21_20 = (undef)) ∧ (b 21 = true → Y22_21 = (undef)) ∧ (b 22 = true → Y23_22 = (undef)) ∧ (b 23 = true → Y24_23 = (undef)) ∧ (b 24 = true → Y25_24 = (.bool true)) ∧ (b 25 = true → Y26_25 = (.bool true)) ∧ (b 26 = true → Y27_26 = (undef)) ∧ (b 27 = true → Y28_27 = (undef)) ∧ (b 28 = true → Y29_28 = (undef)) ∧ (b 29 = true → Y30_29 = (undef)) ∧ (b 30 = true → Y31_30 = (undef)) ∧ (b 31 = true → Y32_31 = (undef)) ∧ (b 32 = true → Y33_32 = (undef)) ∧ (b 33 = true → Y34_33 = (undef)) ∧ (b 34 = true → Y35_34 = (undef)) ∧ (b 35 = true → Y36_35 = (.bool true))) ?_ ?_ ?_
    ·
     intro a hs
     obtain ⟨Y1_0, hs⟩ := hs.ext (d := 4) rfl
     obtain ⟨Y2_1, hs⟩ := hs.ext (d := 5) rfl
     obtain ⟨Y3_2, hs⟩ := hs.ext (d := 6) rfl
     obtain ⟨Y4_3, hs⟩ := hs.ext (d := 7) rfl
     obtain ⟨Y5_4, hs⟩ := hs.ext (d := 8) rfl
     obtain ⟨Y6_5, hs⟩ := hs.ext (d := 9) rfl
     obtain ⟨Y7_6, hs⟩ := hs.ext (d := 10) rfl
     obtain ⟨Y8_7, hs⟩ := hs.ext (d := 11) rfl
     obtain ⟨Y9_8, hs⟩ := hs.ext (d := 12) rfl
     obtain ⟨Y10_9, hs⟩ := hs.ext (d := 13) rfl
     obtain ⟨Y11_10, hs⟩ := hs.ext (d := 14) rfl
     obtain ⟨Y12_11, hs⟩ := hs.ext (d := 15) rfl
     obtain ⟨Y13_12, hs⟩ := hs.ext (d := 16) rfl
     obtain ⟨Y14_13, hs⟩ := hs.ext (d := 17) rfl
     obtain ⟨Y15_14, hs⟩ := hs.ext (d := 18) rfl
     obtain ⟨Y16_15, hs⟩ := hs.ext (d := 19) rfl
     obtain ⟨Y17_16, hs⟩ := hs.ext (d := 20) rfl
     obtain ⟨Y18_17, hs⟩ := hs.ext (d := 21) rfl
     obtain ⟨Y19_18, hs⟩ := hs.ext (d := 22) rfl
     obtain ⟨Y20_19, hs⟩ := hs.ext (d := 23) rfl
     obtain ⟨Y21_20, hs⟩ := hs.ext (d := 24) rfl
     obtain ⟨Y22_21, hs⟩ := hs.ext (d := 25) rfl
     obtain ⟨Y23_22, hs⟩ := hs.ext (d := 26) rfl
     obtain ⟨Y24_23, hs⟩ := hs.ext (d := 27) rfl
     obtain ⟨Y25_24, hs⟩ := hs.ext (d := 28) rfl
     obtain ⟨Y26_25, hs⟩ := hs.ext (d := 29) rfl
     obtain ⟨Y27_26, hs⟩ := hs.ext (d := 30) rfl
     obtain ⟨Y28_27, hs⟩ := hs.ext (d := 31) rfl
     obtain ⟨Y29_28, hs⟩ := hs.ext (d := 32) rfl
     obtain ⟨Y30_29, hs⟩ := hs.ext (d := 33) rfl
     obtain ⟨Y31_30, hs⟩ := hs.ext (d := 34) rfl
     obtain ⟨Y32_31, hs⟩ := hs.ext (d := 35) rfl
     obtain ⟨Y33_32, hs⟩ := hs.ext (d := 36) rfl
     obtain ⟨Y34_33, hs⟩ := hs.ext (d := 37) rfl
     obtain ⟨Y35_34, hs⟩ := hs.ext (d := 38) rfl
     obtain ⟨Y36_35, hs⟩ := hs.ext (d := 39) rfl
     exact ⟨Y1_0, Y2_1, Y3_2, Y4_3, Y5_4, Y6_5, Y7_6, Y8_7, Y9_8, Y10_9, Y11_10, Y12_11, Y13_12, Y14_13, Y15_14, Y16_15, Y17_16, Y18_17, Y19_18, Y20_19, Y21_20, Y22_21, Y23_22, Y24_23, Y25_24, Y26_25, Y27_26, Y28_27, Y29_28, Y30_29, Y31_30, Y32_31, Y33_32, Y34_33, Y35_34, Y36_35, hs.weak ⟨rfl, rfl, rfl, rfl, rfl, rfl, rfl, rfl, rfl, rfl, rfl, rfl, rfl, rfl, rfl, rfl, rfl, rfl, rfl, rfl, rfl, rfl, rfl, rfl, rfl, rfl, rfl, rfl, rfl, rfl, rfl, rfl, rfl, rfl, rfl, rfl, rfl, trivial⟩, (HS.drew.pick 0 []), fun h => Bool.noConfusion h, fun h => Bool.noConfusion h, fun h => Bool.noConfusion h, fun h => Bool.noConfusion h, fun h => Bool.noConfusion h, fun h => Bool.noConfusion h, fun h => Bool.noConfusion h, fun h => Bool.noConfusion h, fun h => Bool.noConfusion h, fun h => Bool.noConfusion h, fun h => Bool.noConfusion h, fun h => Bool.noConfusion h, fun h => Bool.noConfusion h, fun h => Bool.noConfusion h, fun h => Bool.noConfusion h, fun h => Bool.noConfusion h, fun h => Bool.noConfusion h, fun h => Bool.noConfusion h, fun h => Bool.noConfusion h, fun h => Bool.noConfusion h, fun h => Bool.noConfusion h, fun h => Bool.noConfusion h, fun h => Bool.noConfusion h, fun h => Bool.noConfusion h, fun h => Bool.noConfusion h, fun h => Bool.noConfusion h, fun h => Bool.noConfusion h, fun h => Bool.noConfusion h, fun h => Bool.noConfusion h, fun h => Bool.noConfusion h, fun h => Bool.noConfusion h, fun h => Bool.noConfusion h, fun h => Bool.noConfusion h, fun h => Bool.noConfusion h, fun h => Bool.noConfusion h, fun h => Bool.noConfusion h⟩
    ·
     intro j hj b a w
     refine exI fun Y1_0 => exI fun Y2_1 => exI fun Y3_2 => exI fun Y4_3 => exI fun Y5_4 => exI fun Y6_5 => exI fun Y7_6 => exI fun Y8_7 => exI fun Y9_8 => exI fun Y10_9 => exI fun Y11_10 => exI fun Y12_11 => exI fun Y13_12 => exI fun Y14_13 => exI fun Y15_14 => exI fun Y16_15 => exI fun Y17_16 => exI fun Y18_17 => exI fun Y19_18 => exI fun Y20_19 => exI fun Y21_20 => exI fun Y22_21 => exI fun Y23_22 => exI fun Y24_23 => exI fun Y25_24 => exI fun Y26_25 => exI fun Y27_26 => exI fun Y28_27 => exI fun Y29_28 => exI fun Y30_29 => exI fun Y31_30 => exI fun Y32_31 => exI fun Y33_32 => exI fun Y34_33 => exI fun Y35_34 => exI fun Y36_35 => anI fun hs => anI fun HS => anI fun f0 => anI fun f1 => anI fun f2 => anI fun f3 => anI fun f4 => anI fun f5 => anI fun f6 => anI fun f7 => anI fun f8 => anI fun f9 => anI fun f10 => anI fun f11 => anI fun f12 => anI fun f13 => anI fun f14 => anI fun f15 => anI fun f16 => anI fun f17 => anI fun f18 => anI fun f19 => anI fun f20 => anI fun f21 => anI fun f22 => anI fun f23 => anI fun f24 => anI fun f25 => anI fun f26 => anI fun f27 => anI fun f28 => anI fun f29 => anI fun f30 => anI fun f31 => anI fun f32 => anI fun f33 => anI fun f34 => fun f35 hb hd hcl => ?_
     match j, hj with
     | 0, _ =>
      refine GO.at hs ?_
      refine GO.move rfl rfl rfl ?_
      refine GO.fin (fun a hs => ?_)
      exact ⟨(.slice A_r r.length c_r), _, _, _, _, _, _, _, _, _, _, _, _, _, _, _, _, _, _, _, _, _, _, _, _, _, _, _, _, _, _, _, _, _, _, _, by exact hs.setAt 0 rfl, HS, fun _ => rfl, f1, f2, f3, f4, f5, f6, f7, f8, f9, f10, f11, f12, f13, f14, f15, f16, f17, f18, f19, f20, f21, f22, f23, f24, f25, f26, f27, f28, f29, f30, f31, f32, f33, f34, f35⟩
     | 1, _ =>
      have h0 : b 0 = true := hd 0 (by decide)
      obtain rfl := f0 h0
      refine GO.at hs ?_
      refine GO.lenS rfl rfl Try.underlying43 rfl ?_
      refine GO.fin (fun a hs => ?_)
      exact ⟨_, (.int .i64 (r.length : Int)), _, _, _, _, _, _, _, _, _, _, _, _, _, _, _, _, _, _, _, _, _, _, _, _, _, _, _, _, _, _, _, _, _, _, by exact hs.setAt 1 rfl, HS, f0, fun _ => rfl, f2, f3, f4, f5, f6, f7, f8, f9, f10, f11, f12, f13, f14, f15, f16, f17, f18, f19, f20, f21, f22, f23, f24, f25, f26, f27, f28, f29, f30, f31, f32, f33, f34, f35⟩
     | 2, _ =>
      have h1 : b 1 = true := hd 1 (by decide)
      obtain rfl := f1 h1
      refine GO.at hs ?_
      refine GO.neq rfl rfl rfl rfl ?_
      refine GO.fin (fun a hs => ?_)
      exact ⟨_, _, (.bool (!(decide ((r.length : Int) = 3)))), _, _, _, _, _, _, _, _, _, _, _, _, _, _, _, _, _, _, _, _, _, _, _, _, _, _, _, _, _, _, _, _, _, by exact hs.setAt 2 rfl, HS, f0, f1, fun _ => rfl, f3, f4, f5, f6, f7, f8, f9, f10, f11, f12, f13, f14, f15, f16, f17, f18, f19, f20, f21, f22, f23, f24, f25, f26, f27, f28, f29, f30, f31, f32, f33, f34, f35⟩
     | 3, _ =>
      have h2 : b 2 = true := hd 2 (by decide)
      obtain rfl := f2 h2
      refine GO.at hs ?_
      refine GO.move rfl rfl rfl ?_
      refine GO.known (t := 7) rfl (congrArg Bool.not (decide_eq_true c7)) ?_
      refine GO.fin (fun a hs => ?_)
      exact ⟨_, _, _, (.bool false), _, _, _, _, _, _, _, _, _, _, _, _, _, _, _, _, _, _, _, _, _, _, _, _, _, _, _, _, _, _, _, _, hs.weak ⟨rfl, rfl, rfl, rfl, rfl, rfl, rfl, rfl, rfl, rfl, rfl, rfl, rfl, rfl, rfl, rfl, rfl, rfl, rfl, rfl, rfl, rfl, rfl, rfl, rfl, rfl, rfl, rfl, rfl, rfl, rfl, rfl, rfl, rfl, rfl, rfl, rfl, trivial⟩, HS, f0, f1, f2, fun _ => rfl, f4, f5, f6, f7, f8, f9, f10, f11, f12, f13, f14, f15, f16, f17, f18, f19, f20, f21, f22, f23, f24, f25, f26, f27, f28, f29, f30, f31, f32, f33, f34, f35⟩
     | 4, _ =>
      have h3 : b 3 = true := hd 3 (by decide)
      obtain rfl := f3 h3
      refine GO.at hs ?_
      refine GO.on rfl rfl rfl rfl ?_
      refine GO.move rfl rfl rfl ?_
      refine GO.back ?_
      refine GO.fin (fun a hs => ?_)
      exact ⟨_, _, _, _, (.slice A_r r.length c_r), _, _, _, _, _, _, _, _, _, _, _, _, _, _, _, _, _, _, _, _, _, _, _, _, _, _, _, _, _, _, _, by exact hs.setAt 4 rfl, HS, f0, f1, f2, f3, fun _ => rfl, f5, f6, f7, f8, f9, f10, f11, f12, f13, f14, f15, f16, f17, f18, f19, f20, f21, f22, f23, f24, f25, f26, f27, f28, f29, f30, f31, f32, f33, f34, f35⟩
     | 5, _ =>
      have h3 : b 3 = true := hd 3 (by decide)
      obtain rfl := f3 h3
      have h4 : b 4 = true := hd 4 (by decide)
      obtain rfl := f4 h4
      refine GO.at hs ?_
      refine GO.on rfl rfl rfl rfl ?_
      refine GO.ix rfl rfl rfl Try.underlying43 sz2 (h_r _ HS).2.2.1 c8.1 c8.2 rfl ?_
      refine GO.back ?_
      refine GO.fin (fun a hs => ?_)
      exact ⟨_, _, _, _, _, (.pointer (some (ea A_r (0 * 1)))), _, _, _, _, _, _, _, _, _, _, _, _, _, _, _, _, _, _, _, _, _, _, _, _, _, _, _, _, _, _, by exact hs.setAt 5 rfl, HS, f0, f1, f2, f3, f4, fun _ => rfl, f6, f7, f8, f9, f10, f11, f12, f13, f14, f15, f16, f17, f18, f19, f20, f21, f22, f23, f24, f25, f26, f27, f28, f29, f30, f31, f32, f33, f34, f35⟩
     | 6, _ =>
      have h3 : b 3 = true := hd 3 (by decide)
      obtain rfl := f3 h3
      have h5 : b 5 = true := hd 5 (by decide)
      obtain rfl := f5 h5
      refine GO.at hs ?_
      refine GO.on rfl rfl rfl rfl ?_
      refine GO.ldRd (T := (TInt .i64)) (n := 0) (o := 0) HS h_r rfl rfl (getD_some (d := 0) (ltN c8)) rfl rfl na2 rfl ?_
      refine GO.back ?_
      refine GO.fin (fun a hs => ?_)
      exact ⟨_, _, _, _, _, _, (.int .i64 (r.getD 0 0)), _, _, _, _, _, _, _, _, _, _, _, _, _, _, _, _, _, _, _, _, _, _, _, _, _, _, _, _, _, by exact hs.setAt 6 rfl, HS, f0, f1, f2, f3, f4, f5, fun _ => rfl, f7, f8, f9, f10, f11, f12, f13, f14, f15, f16, f17, f18, f19, f20, f21, f22, f23, f24, f25, f26, f27, f28, f29, f30, f31, f32, f33, f34, f35⟩
     | 7, _ =>
      have h3 : b 3 = true := hd 3 (by decide)
      obtain rfl := f3 h3
      have h6 : b 6 = true := hd 6 (by decide)
      obtain rfl := f6 h6
      refine GO.at hs ?_
      refine GO.on rfl rfl rfl rfl ?_
      refine GO.quo rfl rfl rfl (by decide) rfl ?_
      refine GO.back ?_
      refine GO.fin (fun a hs => ?_)
      exact ⟨_, _, _, _, _, _, _, (.int .i64 (w64 ((r.getD 0 0).tdiv 4))), _, _, _, _, _, _, _, _, _, _, _, _, _, _, _, _, _, _, _, _, _, _, _, _, _, _, _, _, by exact hs.setAt 7 rfl, HS, f0, f1, f2, f3, f4, f5, f6, fun _ => rfl, f8, f9, f10, f11, f12, f13, f14, f15, f16, f17, f18, f19, f20, f21, f22, f23, f24, f25, f26, f27, f28, f29, f30, f31, f32, f33, f34, f35⟩
     | 8, _ =>
      have h3 : b 3 = true := hd 3 (by decide)
      obtain rfl := f3 h3
      refine GO.at hs ?_
      refine GO.on rfl rfl rfl rfl ?_
      refine GO.move rfl rfl rfl ?_
      refine GO.back ?_
      refine GO.fin (fun a hs => ?_)
      exact ⟨_, _, _, _, _, _, _, _, (.slice A_r r.length c_r), _, _, _, _, _, _, _, _, _, _, _, _, _, _, _, _, _, _, _, _, _, _, _, _, _, _, _, by exact hs.setAt 8 rfl, HS, f0, f1, f2, f3, f4, f5, f6, f7, fun _ => rfl, f9, f10, f11, f12, f13, f14, f15, f16, f17, f18, f19, f20, f21, f22, f23, f24, f25, f26, f27, f28, f29, f30, f31, f32, f33, f34, f35⟩
     | 9, _ =>
      have h3 : b 3 = true := hd 3 (by decide)
      obtain rfl := f3 h3
      have h8 : b 8 = true := hd 8 (by decide)
      obtain rfl := f8 h8
      refine GO.at hs ?_
      refine GO.on rfl rfl rfl rfl ?_
      refine GO.ix rfl rfl rfl Try.underlying43 sz2 (h_r _ HS).2.2.1 c9.1 c9.2 rfl ?_
      refine GO.back ?_
      refine GO.fin (fun a hs => ?_)
      exact ⟨_, _, _, _, _, _, _, _, _, (.pointer (some (ea A_r (1 * 1)))), _, _, _, _, _, _, _, _, _, _, _, _, _, _, _, _, _, _, _, _, _, _, _, _, _, _, by exact hs.setAt 9 rfl, HS, f0, f1, f2, f3, f4, f5, f6, f7, f8, fun _ => rfl, f10, f11, f12, f13, f14, f15, f16, f17, f18, f19, f20, f21, f22, f23, f24, f25, f26, f27, f28, f29, f30, f31, f32, f33, f34, f35⟩
     | 10, _ =>
      have h3 : b 3 = true := hd 3 (by decide)
      obtain rfl := f3 h3
      have h9 : b 9 = true := hd 9 (by decide)
      obtain rfl := f9 h9
      refine GO.at hs ?_
      refine GO.on rfl rfl rfl rfl ?_
      refine GO.ldRd (T := (TInt .i64)) (n := 1) (o := 0) HS h_r rfl rfl (getD_some (d := 0) (ltN c9)) rfl rfl na2 rfl ?_
      refine GO.back ?_
      refine GO.fin (fun a hs => ?_)
      exact ⟨_, _, _, _, _, _, _, _, _, _, (.int .i64 (r.getD 1 0)), _, _, _, _, _, _, _, _, _, _, _, _, _, _, _, _, _, _, _, _, _, _, _, _, _, by exact hs.setAt 10 rfl, HS, f0, f1, f2, f3, f4, f5, f6, f7, f8, f9, fun _ => rfl, f11, f12, f13, f14, f15, f16, f17, f18, f19, f20, f21, f22, f23, f24, f25, f26, f27, f28, f29, f30, f31, f32, f33, f34, f35⟩
     | 11, _ =>
      have h3 : b 3 = true := hd 3 (by decide)
      obtain rfl := f3 h3
      have h10 : b 10 = true := hd 10 (by decide)
      obtain rfl := f10 h10
      refine GO.at hs ?_
      refine GO.on rfl rfl rfl rfl ?_
      refine GO.quo rfl rfl rfl (by decide) rfl ?_
      refine GO.back ?_
      refine GO.fin (fun a hs => ?_)
      exact ⟨_, _, _, _, _, _, _, _, _, _, _, (.int .i64 (w64 ((r.getD 1 0).tdiv 4))), _, _, _, _, _, _, _, _, _, _, _, _, _, _, _, _, _, _, _, _, _, _, _, _, by exact hs.setAt 11 rfl, HS, f0, f1, f2, f3, f4, f5, f6, f7, f8, f9, f10, fun _ => rfl, f12, f13, f14, f15, f16, f17, f18, f19, f20, f21, f22, f23, f24, f25, f26, f27, f28, f29, f30, f31, f32, f33, f34, f35⟩
     | 12, _ =>
      have h3 : b 3 = true := hd 3 (by decide)
      obtain rfl := f3 h3
      have h7 : b 7 = true := hd 7 (by decide)
      obtain rfl := f7 h7
      have h11 : b 11 = true := hd 11 (by decide)
      obtain rfl := f11 h11
      refine GO.at hs ?_
      refine GO.on rfl rfl rfl rfl ?_
      refine GO.eql rfl rfl rfl rfl ?_
      refine GO.back ?_
      refine GO.fin (fun a hs => ?_)
      exact ⟨_, _, _, _, _, _, _, _, _, _, _, _, (.bool (decide (w64 ((r.getD 0 0).tdiv 4) = w64 ((r.getD 1 0).tdiv 4)))), _, _, _, _, _, _, _, _, _, _, _, _, _, _, _, _, _, _, _, _, _, _, _, by exact hs.setAt 12 rfl, HS, f0, f1, f2, f3, f4, f5, f6, f7, f8, f9, f10, f11, fun _ => rfl, f13, f14, f15, f16, f17, f18, f19, f20, f21, f22, f23, f24, f25, f26, f27, f28, f29, f30, f31, f32, f33, f34, f35⟩
     | 13, _ =>
      have h3 : b 3 = true := hd 3 (by decide)
      obtain rfl := f3 h3
      have h12 : b 12 = true := hd 12 (by decide)
      obtain rfl := f12 h12
      refine GO.at hs ?_
      refine GO.pickF rfl rfl rfl rfl rfl ?_
      refine GO.fin (fun a hs => ?_)
      exact ⟨_, _, _, _, _, _, _, _, _, _, _, _, _, (.bool (decide (w64 ((r.getD 0 0).tdiv 4) = w64 ((r.getD 1 0).tdiv 4)))), _, _, _, _, _, _, _, _, _, _, _, _, _, _, _, _, _, _, _, _, _, _, by exact hs.setAt 13 rfl, HS, f0, f1, f2, f3, f4, f5, f6, f7, f8, f9, f10, f11, f12, fun _ => rfl, f14, f15, f16, f17, f18, f19, f20, f21, f22, f23, f24, f25, f26, f27, f28, f29, f30, f31, f32, f33, f34, f35⟩
     | 14, _ =>
      have h13 : b 13 = true := hd 13 (by decide)
      obtain rfl := f13 h13
      refine GO.at hs ?_
      refine GO.move rfl rfl rfl ?_
      refine GO.known (t := 18) rfl (decide_eq_true c10) ?_
      refine GO.fin (fun a hs => ?_)
      exact ⟨_, _, _, _, _, _, _, _, _, _, _, _, _, _, (.bool true), _, _, _, _, _, _, _, _, _, _, _, _, _, _, _, _, _, _, _, _, _, hs.weak ⟨rfl, rfl, rfl, rfl, rfl, rfl, rfl, rfl, rfl, rfl, rfl, rfl, rfl, rfl, rfl, rfl, rfl, rfl, rfl, rfl, rfl, rfl, rfl, rfl, rfl, rfl, rfl, rfl, rfl, rfl, rfl, rfl, rfl, rfl, rfl, rfl, rfl, trivial⟩, HS, f0, f1, f2, f3, f4, f5, f6, f7, f8, f9, f10, f11, f12, f13, fun _ => rfl, f15, f16, f17, f18, f19, f20, f21, f22, f23, f24, f25, f26, f27, f28, f29, f30, f31, f32, f33, f34, f35⟩
     | 15, _ =>
      have h14 : b 14 = true := hd 14 (by decide)
      obtain rfl := f14 h14
      refine GO.at hs ?_
      refine GO.off rfl rfl rfl rfl rfl rfl ?_
      refine GO.fin (fun a hs => ?_)
      exact ⟨_, _, _, _, _, _, _, _, _, _, _, _, _, _, _, (undef), _, _, _, _, _, _, _, _, _, _, _, _, _, _, _, _, _, _, _, _, by exact hs.setAt 15 rfl, HS, f0, f1, f2, f3, f4, f5, f6, f7, f8, f9, f10, f11, f12, f13, f14, fun _ => rfl, f16, f17, f18, f19, f20, f21, f22, f23, f24, f25, f26, f27, f28, f29, f30, f31, f32, f33, f34, f35⟩
     | 16, _ =>
      have h14 : b 14 = true := hd 14 (by decide)
      obtain rfl := f14 h14
      have h15 : b 15 = true := hd 15 (by decide)
      obtain rfl := f15 h15
      refine GO.at hs ?_
      refine GO.off rfl rfl rfl rfl rfl rfl ?_
      refine GO.fin (fun a hs => ?_)
      exact ⟨_, _, _, _, _, _, _, _, _, _, _, _, _, _, _, _, (undef), _, _, _, _, _, _, _, _, _, _, _, _, _, _, _, _, _, _, _, by exact hs.setAt 16 rfl, HS, f0, f1, f2, f3, f4, f5, f6, f7, f8, f9, f10, f11, f12, f13, f14, f15, fun _ => rfl, f17, f18, f19, f20, f21, f22, f23, f24, f25, f26, f27, f28, f29, f30, f31, f32, f33, f34, f35⟩
     | 17, _ =>
      have h14 : b 14 = true := hd 14 (by decide)
      obtain rfl := f14 h14
      have h16 : b 16 = true := hd 16 (by decide)
      obtain rfl := f16 h16
      refine GO.at hs ?_
      refine GO.off rfl rfl rfl rfl rfl rfl ?_
      refine GO.fin (fun a hs => ?_)
      exact ⟨_, _, _, _, _, _, _, _, _, _, _, _, _, _, _, _, _, (undef), _, _, _, _, _, _, _, _, _, _, _, _, _, _, _, _, _, _, by exact hs.setAt 17 rfl, HS, f0, f1, f2, f3, f4, f5, f6, f7, f8, f9, f10, f11, f12, f13, f14, f15, f16, fun _ => rfl, f18, f19, f20, f21, f22, f23, f24, f25, f26, f27, f28, f29, f30, f31, f32, f33, f34, f35⟩
     | 18, _ =>
      have h14 : b 14 = true := hd 14 (by decide)
      obtain rfl := f14 h14
      have h17 : b 17 = true := hd 17 (by decide)
      obtain rfl := f17 h17
      refine GO.at hs ?_
      refine GO.off rfl rfl rfl rfl rfl rfl ?_
      refine GO.fin (fun a hs => ?_)
      exact ⟨_, _, _, _, _, _, _, _, _, _, _, _, _, _, _, _, _, _, (undef), _, _, _, _, _, _, _, _, _, _, _, _, _, _, _, _, _, by exact hs.setAt 18 rfl, HS, f0, f1, f2, f3, f4, f5, f6, f7, f8, f9, f10, f11, f12, f13, f14, f15, f16, f17, fun _ => rfl, f19, f20, f21, f22, f23, f24, f25, f26, f27, f28, f29, f30, f31, f32, f33, f34, f35⟩
     | 19, _ =>
      have h14 : b 14 = true := hd 14 (by decide)
      obtain rfl := f14 h14
      refine GO.at hs ?_
      refine GO.off rfl rfl rfl rfl rfl rfl ?_
      refine GO.fin (fun a hs => ?_)
      exact ⟨_, _, _, _, _, _, _, _, _, _, _, _, _, _, _, _, _, _, _, (undef), _, _, _, _, _, _, _, _, _, _, _, _, _, _, _, _, by exact hs.setAt 19 rfl, HS, f0, f1, f2, f3, f4, f5, f6, f7, f8, f9, f10, f11, f12, f13, f14, f15, f16, f17, f18, fun _ => rfl, f20, f21, f22, f23, f24, f25, f26, f27, f28, f29, f30, f31, f32, f33, f34, f35⟩
     | 20, _ =>
      have h14 : b 14 = true := hd 14 (by decide)
      obtain rfl := f14 h14
      have h19 : b 19 = true := hd 19 (by decide)
      obtain rfl := f19 h19
      refine GO.at hs ?_
      refine GO.off rfl rfl rfl rfl rfl rfl ?_
      refine GO.fin (fun a hs => ?_)
      exact ⟨_, _, _, _, _, _, _, _, _, _, _, _, _, _, _, _, _, _, _, _, (undef), _, _, _, _, _, _, _, _, _, _, _, _, _, _, _, by exact hs.setAt 20 rfl, HS, f0, f1, f2, f3, f4, f5, f6, f7, f8, f9, f10, f11, f12, f13, f14, f15, f16, f17, f18, f19, fun _ => rfl, f21, f22, f23, f24, f25, f26, f27, f28, f29, f30, f31, f32, f33, f34, f35⟩
     | 21, _ =>
      have h14 : b 14 = true := hd 14 (by decide)
      obtain rfl := f14 h14
      have h20 : b 20 = true := hd 20 (by decide)
      obtain rfl := f20 h20
      refine GO.at hs ?_
      refine GO.off rfl rfl rfl rfl rfl rfl ?_
      refine GO.fin (fun a hs => ?_)
      exact ⟨_, _, _, _, _, _, _, _, _, _, _, _, _, _, _, _, _, _, _, _, _, (undef), _, _, _, _, _, _, _, _, _, _, _, _, _, _, by exact hs.setAt 21 rfl, HS, f0, f1, f2, f3, f4, f5, f6, f7, f8, f9, f10, f11, f12, f13, f14, f15, f16, f17, f18, f19, f20, fun _ => rfl, f22, f23, f24, f25, f26, f27, f28, f29, f30, f31, f32, f33, f34, f35⟩
     | 22, _ =>
      have h14 : b 14 = true := hd 14 (by decide)
      obtain rfl := f14 h14
      have h21 : b 21 = true := hd 21 (by decide)
      obtain rfl := f21 h21
      refine GO.at hs ?_
      refine GO.off rfl rfl rfl rfl rfl rfl ?_
      refine GO.fin (fun a hs => ?_)
      exact ⟨_, _, _, _, _, _, _, _, _, _, _, _, _, _, _, _, _, _, _, _, _, _, (undef), _, _, _, _, _, _, _, _, _, _, _, _, _, by exact hs.setAt 22 rfl, HS, f0, f1, f2, f3, f4, f5, f6, f7, f8, f9, f10, f11, f12, f13, f14, f15, f16, f17, f18, f19, f20, f21, fun _ => rfl, f23, f24, f25, f26, f27, f28, f29, f30, f31, f32, f33, f34, f35⟩
     | 23, _ =>
      have h14 : b 14 = true := hd 14 (by decide)
      obtain rfl := f14 h14
      have h18 : b 18 = true := hd 18 (by decide)
      obtain rfl := f18 h18
      have h22 : b 22 = true := hd 22 (by decide)
      obtain rfl := f22 h22
      refine GO.at hs ?_
      refine GO.off rfl rfl rfl rfl rfl rfl ?_
      refine GO.fin (fun a hs => ?_)
      exact ⟨_, _, _, _, _, _, _, _, _, _, _, _, _, _, _, _, _, _, _, _, _, _, _, (undef), _, _, _, _, _, _, _, _, _, _, _, _, by exact hs.setAt 23 rfl, HS, f0, f1, f2, f3, f4, f5, f6, f7, f8, f9, f10, f11, f12, f13, f14, f15, f16, f17, f18, f19, f20, f21, f22, fun _ => rfl, f24, f25, f26, f27, f28, f29, f30, f31, f32, f33, f34, f35⟩
     | 24, _ =>
      have h14 : b 14 = true := hd 14 (by decide)
      obtain rfl := f14 h14
      have h23 : b 23 = true := hd 23 (by decide)
      obtain rfl := f23 h23
      refine GO.at hs ?_
      refine GO.pickT rfl rfl rfl rfl rfl ?_
      refine GO.fin (fun a hs => ?_)
      exact ⟨_, _, _, _, _, _, _, _, _, _, _, _, _, _, _, _, _, _, _, _, _, _, _, _, (.bool true), _, _, _, _, _, _, _, _, _, _, _, by exact hs.setAt 24 rfl, HS, f0, f1, f2, f3, f4, f5, f6, f7, f8, f9, f10, f11, f12, f13, f14, f15, f16, f17, f18, f19, f20, f21, f22, f23, fun _ => rfl, f25, f26, f27, f28, f29, f30, f31, f32, f33, f34, f35⟩
     | 25, _ =>
      have h24 : b 24 = true := hd 24 (by decide)
      obtain rfl := f24 h24
      refine GO.at hs ?_
      refine GO.move rfl rfl rfl ?_
      refine GO.fin (fun a hs => ?_)
      exact ⟨_, _, _, _, _, _, _, _, _, _, _, _, _, _, _, _, _, _, _, _, _, _, _, _, _, (.bool true), _, _, _, _, _, _, _, _, _, _, by exact hs.setAt 25 rfl, HS, f0, f1, f2, f3, f4, f5, f6, f7, f8, f9, f10, f11, f12, f13, f14, f15, f16, f17, f18, f19, f20, f21, f22, f23, f24, fun _ => rfl, f26, f27, f28, f29, f30, f31, f32, f33, f34, f35⟩
     | 26, _ =>
      have h25 : b 25 = true := hd 25 (by decide)
      obtain rfl := f25 h25
      refine GO.at hs ?_
      refine GO.off rfl rfl rfl rfl rfl rfl ?_
      refine GO.fin (fun a hs => ?_)
      exact ⟨_, _, _, _, _, _, _, _, _, _, _, _, _, _, _, _, _, _, _, _, _, _, _, _, _, _, (undef), _, _, _, _, _, _, _, _, _, by exact hs.setAt 26 rfl, HS, f0, f1, f2, f3, f4, f5, f6, f7, f8, f9, f10, f11, f12, f13, f14, f15, f16, f17, f18, f19, f20, f21, f22, f23, f24, f25, fun _ => rfl, f27, f28, f29, f30, f31, f32, f33, f34, f35⟩
     | 27, _ =>
      have h25 : b 25 = true := hd 25 (by decide)
      obtain rfl := f25 h25
      have h26 : b 26 = true := hd 26 (by decide)
      obtain rfl := f26 h26
      refine GO.at hs ?_
      refine GO.off rfl rfl rfl rfl rfl rfl ?_
      refine GO.fin (fun a hs => ?_)
      exact ⟨_, _, _, _, _, _, _, _, _, _, _, _, _, _, _, _, _, _, _, _, _, _, _, _, _, _, _, (undef), _, _, _, _, _, _, _, _, by exact hs.setAt 27 rfl, HS, f0, f1, f2, f3, f4, f5, f6, f7, f8, f9, f10, f11, f12, f13, f14, f15, f16, f17, f18, f19, f20, f21, f22, f23, f24, f25, f26, fun _ => rfl, f28, f29, f30, f31, f32, f33, f34, f35⟩
     | 28, _ =>
      have h25 : b 25 = true := hd 25 (by decide)
      obtain rfl := f25 h25
      have h27 : b 27 = true := hd 27 (by decide)
      obtain rfl := f27 h27
      refine GO.at hs ?_
      refine GO.off rfl rfl rfl rfl rfl rfl ?_
      refine GO.fin (fun a hs => ?_)
      exact ⟨_, _, _, _, _, _, _, _, _, _, _, _, _, _, _, _, _, _, _, _, _, _, _, _, _, _, _, _, (undef), _, _, _, _, _, _, _, by exact hs.setAt 28 rfl, HS, f0, f1, f2, f3, f4, f5, f6, f7, f8, f9, f10, f11, f12, f13, f14, f15, f16, f17, f18, f19, f20, f21, f22, f23, f24, f25, f26, f27, fun _ => rfl, f29, f30, f31, f32, f33, f34, f35⟩
     | 29, _ =>
      have h25 : b 25 = true := hd 25 (by decide)
      obtain rfl := f25 h25
      have h28 : b 28 = true := hd 28 (by decide)
      obtain rfl := f28 h28
      refine GO.at hs ?_
      refine GO.off rfl rfl rfl rfl rfl rfl ?_
      refine GO.fin (fun a hs => ?_)
      exact ⟨_, _, _, _, _, _, _, _, _, _, _, _, _, _, _, _, _, _, _, _, _, _, _, _, _, _, _, _, _, (undef), _, _, _, _, _, _, by exact hs.setAt 29 rfl, HS, f0, f1, f2, f3, f4, f5, f6, f7, f8, f9, f10, f11, f12, f13, f14, f15, f16, f17, f18, f19, f20, f21, f22, f23, f24, f25, f26, f27, f28, fun _ => rfl, f30, f31, f32, f33, f34, f35⟩
     | 30, _ =>
      have h25 : b 25 = true := hd 25 (by decide)
      obtain rfl := f25 h25
      refine GO.at hs ?_
      refine GO.off rfl rfl rfl rfl rfl rfl ?_
      refine GO.fin (fun a hs => ?_)
      exact ⟨_, _, _, _, _, _, _, _, _, _, _, _, _, _, _, _, _, _, _, _, _, _, _, _, _, _, _, _, _, _, (undef), _, _, _, _, _, by exact hs.setAt 30 rfl, HS, f0, f1, f2, f3, f4, f5, f6, f7, f8, f9, f10, f11, f12, f13, f14, f15, f16, f17, f18, f19, f20, f21, f22, f23, f24, f25, f26, f27, f28, f29, fun _ => rfl, f31, f32, f33, f34, f35⟩
     | 31, _ =>
      have h25 : b 25 = true := hd 25 (by decide)
      obtain rfl := f25 h25
      have h30 : b 30 = true := hd 30 (by decide)
      obtain rfl := f30 h30
      refine GO.at hs ?_
      refine GO.off rfl rfl rfl rfl rfl rfl ?_
      refine GO.fin (fun a hs => ?_)
      exact ⟨_, _, _, _, _, _, _, _, _, _, _, _, _, _, _, _, _, _, _, _, _, _, _, _, _, _, _, _, _, _, _, (undef), _, _, _, _, by exact hs.setAt 31 rfl, HS, f0, f1, f2, f3, f4, f5, f6, f7, f8, f9, f10, f11, f12, f13, f14, f15, f16, f17, f18, f19, f20, f21, f22, f23, f24, f25, f26, f27, f28, f29, f30, fun _ => rfl, f32, f33, f34, f35⟩
     | 32, _ =>
      have h25 : b 25 = true := hd 25 (by decide)
      obtain rfl := f25 h25
      have h31 : b 31 = true := hd 31 (by decide)
      obtain rfl := f31 h31
      refine GO.at hs ?_
      refine GO.off rfl rfl rfl rfl rfl rfl ?_
      refine GO.fin (fun a hs => ?_)
      exact ⟨_, _, _, _, _, _, _, _, _, _, _, _, _, _, _, _, _, _, _, _, _, _, _, _, _, _, _, _, _, _, _, _, (undef), _, _, _, by exact hs.setAt 32 rfl, HS, f0, f1, f2, f3, f4, f5, f6, f7, f8, f9, f10, f11, f12, f13, f14, f15, f16, f17, f18, f19, f20, f21, f22, f23, f24, f25, f26, f27, f28, f29, f30, f31, fun _ => rfl, f33, f34, f35⟩
     | 33, _ =>
      have h25 : b 25 = true := hd 25 (by decide)
      obtain rfl := f25 h25
      have h32 : b 32 = true := hd 32 (by decide)
      obtain rfl := f32 h32
      refine GO.at hs ?_
      refine GO.off rfl rfl rfl rfl rfl rfl ?_
      refine GO.fin (fun a hs => ?_)
      exact ⟨_, _, _, _, _, _, _, _, _, _, _, _, _, _, _, _, _, _, _, _, _, _, _, _, _, _, _, _, _, _, _, _, _, (undef), _, _, by exact hs.setAt 33 rfl, HS, f0, f1, f2, f3, f4, f5, f6, f7, f8, f9, f10, f11, f12, f13, f14, f15, f16, f17, f18, f19, f20, f21, f22, f23, f24, f25, f26, f27, f28, f29, f30, f31, f32, fun _ => rfl, f34, f35⟩
     | 34, _ =>
      have h25 : b 25 = true := hd 25 (by decide)
      obtain rfl := f25 h25
      have h29 : b 29 = true := hd 29 (by decide)
      obtain rfl := f29 h29
      have h33 : b 33 = true := hd 33 (by decide)
      obtain rfl := f33 h33
      refine GO.at hs ?_
      refine GO.off rfl rfl rfl rfl rfl rfl ?_
      refine GO.fin (fun a hs => ?_)
      exact ⟨_, _, _, _, _, _, _, _, _, _, _, _, _, _, _, _, _, _, _, _, _, _, _, _, _, _, _, _, _, _, _, _, _, _, (undef), _, by exact hs.setAt 34 rfl, HS, f0, f1, f2, f3, f4, f5, f6, f7, f8, f9, f10, f11, f12, f13, f14, f15, f16, f17, f18, f19, f20, f21, f22, f23, f24, f25, f26, f27, f28, f29, f30, f31, f32, f33, fun _ => rfl, f35⟩
     | 35, _ =>
      have h25 : b 25 = true := hd 25 (by decide)
      obtain rfl := f25 h25
      have h34 : b 34 = true := hd 34 (by decide)
      obtain rfl := f34 h34
      refine GO.at hs ?_
      refine GO.pickT rfl rfl rfl rfl rfl ?_
      refine GO.fin (fun a hs => ?_)
      exact ⟨_, _, _, _, _, _, _, _, _, _, _, _, _, _, _, _, _, _, _, _, _, _, _, _, _, _, _, _, _, _, _, _, _, _, _, (.bool true), by exact hs.setAt 35 rfl, HS, f0, f1, f2, f3, f4, f5, f6, f7, f8, f9, f10, f11, f12, f13, f14, f15, f16, f17, f18, f19, f20, f21, f22, f23, f24, f25, f26, f27, f28, f29, f30, f31, f32, f33, f34, fun _ => rfl⟩
     | k + 36, hj => exact absurd hj (Nat.not_lt.2 (Nat.le_add_left 36 k))
    ·
     intro b a w hall
     refine exI fun Y1_0 => exI fun Y2_1 => exI fun Y3_2 => exI fun Y4_3 => exI fun Y5_4 => exI fun Y6_5 => exI fun Y7_6 => exI fun Y8_7 => exI fun Y9_8 => exI fun Y10_9 => exI fun Y11_10 => exI fun Y12_11 => exI fun Y13_12 => exI fun Y14_13 => exI fun Y15_14 => exI fun Y16_15 => exI fun Y17_16 => exI fun Y18_17 => exI fun Y19_18 => exI fun Y20_19 => exI fun Y21_20 => exI fun Y22_21 => exI fun Y23_22 => exI fun Y24_23 => exI fun Y25_24 => exI fun Y26_25 => exI fun Y27_26 => exI fun Y28_27 => exI fun Y29_28 => exI fun Y30_29 => exI fun Y31_30 => exI fun Y32_31 => exI fun Y33_32 => exI fun Y34_33 => exI fun Y35_34 => exI fun Y36_35 => anI fun hs => anI fun HS => anI fun f0 => anI fun f1 => anI fun f2 => anI fun f3 => anI fun f4 => anI fun f5 => anI fun f6 => anI fun f7 => anI fun f8 => anI fun f9 => anI fun f10 => anI fun f11 => anI fun f12 => anI fun f13 => anI fun f14 => anI fun f15 => anI fun f16 => anI fun f17 => anI fun f18 => anI fun f19 => anI fun f20 => anI fun f21 => anI fun f22 => anI fun f23 => anI fun f24 => anI fun f25 => anI fun f26 => anI fun f27 => anI fun f28 => anI fun f29 => anI fun f30 => anI fun f31 => anI fun f32 => anI fun f33 => anI fun f34 => fun f35 => ?_
     obtain rfl := f0 (hall 0 (by decide))
     obtain rfl := f1 (hall 1 (by decide))
     obtain rfl := f2 (hall 2 (by decide))
     obtain rfl := f3 (hall 3 (by decide))
     obtain rfl := f4 (hall 4 (by decide))
     obtain rfl := f5 (hall 5 (by decide))
     obtain rfl := f6 (hall 6 (by decide))
     obtain rfl := f7 (hall 7 (by decide))
     obtain rfl := f8 (hall 8 (by decide))
     obtain rfl := f9 (hall 9 (by decide))
     obtain rfl := f10 (hall 10 (by decide))
     obtain rfl := f11 (hall 11 (by decide))
     obtain rfl := f12 (hall 12 (by decide))
     obtain rfl := f13 (hall 13 (by decide))
     obtain rfl := f14 (hall 14 (by decide))
     obtain rfl := f15 (hall 15 (by decide))
     obtain rfl := f16 (hall 16 (by decide))
     obtain rfl := f17 (hall 17 (by decide))
     obtain rfl := f18 (hall 18 (by decide))
     obtain rfl := f19 (hall 19 (by decide))
     obtain rfl := f20 (hall 20 (by decide))
     obtain rfl := f21 (hall 21 (by decide))
     obtain rfl := f22 (hall 22 (by decide))
     obtain rfl := f23 (hall 23 (by decide))
     obtain rfl := f24 (hall 24 (by decide))
     obtain rfl := f25 (hall 25 (by decide))
     obtain rfl := f26 (hall 26 (by decide))
     obtain rfl := f27 (hall 27 (by decide))
     obtain rfl := f28 (hall 28 (by decide))
     obtain rfl := f29 (hall 29 (by decide))
     obtain rfl := f30 (hall 30 (by decide))
     obtain rfl := f31 (hall 31 (by decide))
     obtain rfl := f32 (hall 32 (by decide))
     obtain rfl := f33 (hall 33 (by decide))
     obtain rfl := f34 (hall 34 (by decide))
     obtain rfl := f35 (hall 35 (by decide))
     refine G.at hs ?_
     refine G.yesB rfl rfl ?_
     refine G.seq ?_
     refine G.region ?_
     refine GO.assign rfl rfl rfl ?_
     refine GO.nil ?_
     obtain rfl := Option.some.inj H
     exact G.ret1 _ Try.func69 rfl rfl ⟨rfl, HS⟩
   ·
    obtain ⟨c11, H⟩ := ite_none H
    rcases ite_elim H with ⟨c12, H⟩ | ⟨c12, H⟩
    ·
     refine G.regionAny mixed (by decide) (fun b a w => ∃ (Y37_0 : Value) (Y38_1 : Value) (Y39_2 : Value) (Y40_3 : Value) (Y41_4 : Value) (Y42_5 : Value) (Y43_6 : Value) (Y44_7 : Value) (Y45_8 : Value) (Y46_9 : Value) (Y47_10 : Value) (Y48_11 : Value) (Y49_12 : Value) (Y50_13 : Value) (Y51_14 : Value) (Y52_15 : Value) (Y53_16 : Value) (Y54_17 : Value) (Y55_18 : Value) (Y56_19 : Value) (Y57_20 : Value) (Y58_21 : Value) (Y59_22 : Value) (Y60_23 : Value) (Y61_24 : Value) (Y62_25 : Value) (Y63_26 : Value) (Y64_27 : Value) (Y65_28 : Value) (Y66_29 : Value) (Y67_30 : Value) (Y68_31 : Value) (Y69_32 : Value) (Y70_33 : Value) (Y71_34 : Value) (Y72_35 : Value), Sat 48 [(4, Y37_0), (5, Y38_1), (6, Y39_2), (7, Y40_3), (8, Y41_4), (9, Y42_5), (10, Y43_6), (11, Y44_7), (12, Y45_8), (13, Y46_9), (14, Y47_10), (15, Y48_11), (16, Y49_12), (17, Y50_13), (18, Y51_14), (19, Y52_15), (20, Y53_16), (21, Y54_17), (22, Y55_18), (23, Y56_19), (24, Y57_20), (25, Y58_21), (26, Y59_22), (27, Y60_23), (28, Y61_24), (29, Y62_25), (30, Y63_26), (31, Y64_27), (32, Y65_28), (33, Y66_29), (34, Y67_30), (35, Y68_31), (36, Y69_32), (37, Y70_33), (38, Y71_34), (39, Y72_35), (0, .slice A_r r.length c_r)] a ∧ St w0 w (L) ∧ (b 0 = true → Y37_0 = (.slice A_r r.length c_r)) ∧ (b 1 = true → Y38_1 = (.int .i64 (r.length : Int))) ∧ (b 2 = true → Y39_2 = (.bool (!(decide ((r.length : Int) = 3))))) ∧ (b 3 = true → Y40_3 = (.bool false)) ∧ (b 4 = true → Y41_4 = (.slice A_r r.length c_r)) ∧ (b 5 = true → Y42_5 = (.pointer (some (ea A_r (0 * 1))))) ∧ (b 6 = true → Y43_6 = (.int .i64 (r.getD 0 0))) ∧ (b 7 = true → Y44_7 = (.int .i64 (w64 ((r.getD 0 0).tdiv 4)))) ∧ (b 8 = true → Y45_8 = (.slice A_r r.length c_r)) ∧ (b 9 = true → Y46_9 = (.pointer (some (ea A_r (1 * 1))))) ∧ (b 10 = true → Y47_10 = (.int .i64 (r.getD 1 0))) ∧ (b 11 = true → Y48_11 = (.int .i64 (w64 ((r.getD 1 0).tdiv 4)))) ∧ (b 12 = true → Y49_12 = (.bool (decide (w64 ((r.getD 0 0).tdiv 4) = w64 ((r.getD 1 0).tdiv 4))))) ∧ (b 13 = true → Y50_13 = (.bool (decide (w64 ((r.getD 0 0).tdiv 4) = w64 ((r.getD 1 0).tdiv 4))))) ∧ (b 14 = true → Y51_14 = (.bool false)) ∧ (b 15 = true → Y52_15 = (.slice A_r r.length c_r)) ∧ (b 16 = true → Y53_16 = (.pointer (some (ea A_r (0 * 1))))) ∧ (b 17 = true → Y54_17 = (.int .i64 (r.getD 0 0))) ∧ (b 18 = true → Y55_18 = (.int .i64 (w64 ((r.getD 0 0).tdiv 4)))) ∧ (b 19 = true → Y56_19 = (.slice A_r r.length c_r)) ∧ (b 20 = true → Y57_20 = (.pointer (some (ea A_r (2 * 1))))) ∧ (b 21 = true → Y58_21 = (.int .i64 (r.getD 2 0))) ∧ (b 22 = true → Y59_22 = (.int .i64 (w64 ((r.getD 2 0).tdiv 4)))) ∧ (b 23 = true → Y60_23 = (.bool (decide (w64 ((r.getD 0 0).tdiv 4) = w64 ((r.getD 2 0).tdiv 4))))) ∧ (b 24 = true → Y61_24 = (.bool (decide (w64 ((r.getD 0 0).tdiv 4) = w64 ((r.getD 2 0).tdiv 4))))) ∧ (b 25 = true → Y62_25 = (.bool true)) ∧ (b 26 = true → Y63_26 = (undef)) ∧ (b 27 = true → Y64_27 = (undef)) ∧ (b 28 = true → Y65_28 = (undef)) ∧ (b 29 = true → Y66_29 = (undef)) ∧ (b 30 = true → Y67_30 = (undef)) ∧ (b 31 = true → Y68_31 = (undef)) ∧ (b 32 = true → Y69_32 = (undef)) ∧ (b 33 = true → Y70_33 = (undef)) ∧ (b 34 = true → Y71_34 = (undef)) ∧ (b 35 = true → Y72_35 = (.bool true))) ?_ ?_ ?_
     ·
      intro a hs
      obtain ⟨Y37_0, hs⟩ := hs.ext (d := 4) rfl
      obtain ⟨Y38_1, hs⟩ := hs.ext (d := 5) rfl
      obtain ⟨Y39_2, hs⟩ := hs.ext (d := 6) rfl
      obtain ⟨Y40_3, hs⟩ := hs.ext (d := 7) rfl
      obtain ⟨Y41_4, hs⟩ := hs.ext (d := 8) rfl
      obtain ⟨Y42_5, hs⟩ := hs.ext (d := 9) rfl
      obtain ⟨Y43_6, hs⟩ := hs.ext (d := 10) rfl
      obtain ⟨Y44_7, hs⟩ := hs.ext (d := 11) rfl
      obtain ⟨Y45_8, hs⟩ := hs.ext (d := 12) rfl
      obtain ⟨Y46_9, hs⟩ := hs.ext (d := 13) rfl
      obtain ⟨Y47_10, hs⟩ := hs.ext (d := 14) rfl
      obtain ⟨Y48_11, hs⟩ := hs.ext (d := 15) rfl
      obtain ⟨Y49_12, hs⟩ := hs.ext (d := 16) rfl
      obtain ⟨Y50_13, hs⟩ := hs.ext (d := 17) rfl
      obtain ⟨Y51_14, hs⟩ := hs.ext (d := 18) rfl
      obtain ⟨Y52_15, hs⟩ := hs.ext (d := 19) rfl
      obtain ⟨Y53_16, hs⟩ := hs.ext (d := 20) rfl
      obtain ⟨Y54_17, hs⟩ := hs.ext (d := 21) rfl
      obtain ⟨Y55_18, hs⟩ := hs.ext (d := 22) rfl
      obtain ⟨Y56_19, hs⟩ := hs.ext (d := 23) rfl
      obtain ⟨Y57_20, hs⟩ := hs.ext (d := 24) rfl
      obtain ⟨Y58_21, hs⟩ := hs.ext (d := 25) rfl
      obtain ⟨Y59_22, hs⟩ := hs.ext (d := 26) rfl
      obtain ⟨Y60_23, hs⟩ := hs.ext (d := 27) rfl
      obtain ⟨Y61_24, hs⟩ := hs.ext (d := 28) rfl
      obtain ⟨Y62_25, hs⟩ := hs.ext (d := 29) rfl
      obtain ⟨Y63_26, hs⟩ := hs.ext (d := 30) rfl
      obtain ⟨Y64_27, hs⟩ := hs.ext (d := 31) rfl
      obtain ⟨Y65_28, hs⟩ := hs.ext (d := 32) rfl
      obtain ⟨Y66_29, hs⟩ := hs.ext (d := 33) rfl
      obtain ⟨Y67_30, hs⟩ := hs.ext (d := 34) rfl
      obtain ⟨Y68_31, hs⟩ := hs.ext (d := 35) rfl
      obtain ⟨Y69_32, hs⟩ := hs.ext (d := 36) rfl
      obtain ⟨Y70_33, hs⟩ := hs.ext (d := 37) rfl
      obtain ⟨Y71_34, hs⟩ := hs.ext (d := 38) rfl
      obtain ⟨Y72_35, hs⟩ := hs.ext (d := 39) rfl
      exact ⟨Y37_0, Y38_1, Y39_2, Y40_3, Y41_4, Y42_5, Y43_6, Y44_7, Y45_8, Y46_9, Y47_10, Y48_11, Y49_12, Y50_13, Y51_14, Y52_15, Y53_16, Y54_17, Y55_18, Y56_19, Y57_20, Y58_21, Y59_22, Y60_23, Y61_24, Y62_25, Y63_26, Y64_27, Y65_28, Y66_29, Y67_30, Y68_31, Y69_32, Y70_33, Y71_34, Y72_35, hs.weak ⟨rfl, rfl, rfl, rfl, rfl, rfl, rfl, rfl, rfl, rfl, rfl, rfl, rfl, rfl, rfl, rfl, rfl, rfl, rfl, rfl, rfl, rfl, rfl, rfl, rfl, rfl, rfl, rfl, rfl, rfl, rfl, rfl, rfl, rfl, rfl, rfl, rfl, trivial⟩, (HS.drew.pick 0 []), fun h => Bool.noConfusion h, fun h => Bool.noConfusion h, fun h => Bool.noConfusion h, fun h => Bool.noConfusion h, fun h => Bool.noConfusion h, fun h => Bool.noConfusion h, fun h => Bool.noConfusion h, fun h => Bool.noConfusion h, fun h => Bool.noConfusion h, fun h => Bool.noConfusion h, fun h => Bool.noConfusion h, fun h => Bool.noConfusion h, fun h => Bool.noConfusion h, fun h => Bool.noConfusion h, fun h => Bool.noConfusion h, fun h => Bool.noConfusion h, fun h => Bool.noConfusion h, fun h => Bool.noConfusion h, fun h => Bool.noConfusion h, fun h => Bool.noConfusion h, fun h => Bool.noConfusion h, fun h => Bool.noConfusion h, fun h => Bool.noConfusion h, fun h => Bool.noConfusion h, fun h => Bool.noConfusion h, fun h => Bool.noConfusion h, fun h => Bool.noConfusion h, fun h => Bool.noConfusion h, fun h => Bool.noConfusion h, fun h => Bool.noConfusion h, fun h => Bool.noConfusion h, fun h => Bool.noConfusion h, fun h => Bool.noConfusion h, fun h => Bool.noConfusion h, fun h => Bool.noConfusion h, fun h => Bool.noConfusion h⟩
     ·
      intro j hj b a w
      refine exI fun Y37_0 => exI fun Y38_1 => exI fun Y39_2 => exI fun Y40_3 => exI fun Y41_4 => exI fun Y42_5 => exI fun Y43_6 => exI fun Y44_7 => exI fun Y45_8 => exI fun Y46_9 => exI fun Y47_10 => exI fun Y48_11 => exI fun Y49_12 => exI fun Y50_13 => exI fun Y51_14 => exI fun Y52_15 => exI fun Y53_16 => exI fun Y54_17 => exI fun Y55_18 => exI fun Y56_19 => exI fun Y57_20 => exI fun Y58_21 => exI fun Y59_22 => exI fun Y60_23 => exI fun Y61_24 => exI fun Y62_25 => exI fun Y63_26 => exI fun Y64_27 => exI fun Y65_28 => exI fun Y66_29 => exI fun Y67_30 => exI fun Y68_31 => exI fun Y69_32 => exI fun Y70_33 => exI fun Y71_34 => exI fun Y72_35 => anI fun hs => anI fun HS => anI fun f0 => anI fun f1 => anI fun f2 => anI fun f3 => anI fun f4 => anI fun f5 => anI fun f6 => anI fun f7 => anI fun f8 => anI fun f9 => anI fun f10 => anI fun f11 => anI fun f12 => anI fun f13 => anI fun f14 => anI fun f15 => anI fun f16 => anI fun f17 => anI fun f18 => anI fun f19 => anI fun f20 => anI fun f21 => anI fun f22 => anI fun f23 => anI fun f24 => anI fun f25 => anI fun f26 => anI fun f27 => anI fun f28 => anI fun f29 => anI fun f30 => anI fun f31 => anI fun f32 => anI fun f33 => anI fun f34 => fun f35 hb hd hcl => ?_
      match j, hj with
      | 0, _ =>
       refine GO.at hs ?_
       refine GO.move rfl rfl rfl ?_
       refine GO.fin (fun a hs => ?_)
       exact ⟨(.slice A_r r.length c_r), _, _, _, _, _, _, _, _, _, _, _, _, _, _, _, _, _, _, _, _, _, _, _, _, _, _, _, _, _, _, _, _, _, _, _, by exact hs.setAt 0 rfl, HS, fun _ => rfl, f1, f2, f3, f4, f5, f6, f7, f8, f9, f10, f11, f12, f13, f14, f15, f16, f17, f18, f19, f20, f21, f22, f23, f24, f25, f26, f27, f28, f29, f30, f31, f32, f33, f34, f35⟩
      | 1, _ =>
       have h0 : b 0 = true := hd 0 (by decide)
       obtain rfl := f0 h0
       refine GO.at hs ?_
       refine GO.lenS rfl rfl Try.underlying43 rfl ?_
       refine GO.fin (fun a hs => ?_)
       exact ⟨_, (.int .i64 (r.length : Int)), _, _, _, _, _, _, _, _, _, _, _, _, _, _, _, _, _, _, _, _, _, _, _, _, _, _, _, _, _, _, _, _, _, _, by exact hs.setAt 1 rfl, HS, f0, fun _ => rfl, f2, f3, f4, f5, f6, f7, f8, f9, f10, f11, f12, f13, f14, f15, f16, f17, f18, f19, f20, f21, f22, f23, f24, f25, f26, f27, f28, f29, f30, f31, f32, f33, f34, f35⟩
      | 2, _ =>
       have h1 : b 1 = true := hd 1 (by decide)
       obtain rfl := f1 h1
       refine GO.at hs ?_
       refine GO.neq rfl rfl rfl rfl ?_
       refine GO.fin (fun a hs => ?_)
       exact ⟨_, _, (.bool (!(decide ((r.length : Int) = 3)))), _, _, _, _, _, _, _, _, _, _, _, _, _, _, _, _, _, _, _, _, _, _, _, _, _, _, _, _, _, _, _, _, _, by exact hs.setAt 2 rfl, HS, f0, f1, fun _ => rfl, f3, f4, f5, f6, f7, f8, f9, f10, f11, f12, f13, f14, f15, f16, f17, f18, f19, f20, f21, f22, f23, f24, f25, f26, f27, f28, f29, f30, f31, f32, f33, f34, f35⟩
      | 3, _ =>
       have h2 : b 2 = true := hd 2 (by decide)
       obtain rfl := f2 h2
       refine GO.at hs ?_
       refine GO.move rfl rfl rfl ?_
       refine GO.known (t := 7) rfl (congrArg Bool.not (decide_eq_true c7)) ?_
       refine GO.fin (fun a hs => ?_)
       exact ⟨_, _, _, (.bool false), _, _, _, _, _, _, _, _, _, _, _, _, _, _, _, _, _, _, _, _, _, _, _, _, _, _, _, _, _, _, _, _, hs.weak ⟨rfl, rfl, rfl, rfl, rfl, rfl, rfl, rfl, rfl, rfl, rfl, rfl, rfl, rfl, rfl, rfl, rfl, rfl, rfl, rfl, rfl, rfl, rfl, rfl, rfl, rfl, rfl, rfl, rfl, rfl, rfl, rfl, rfl, rfl, rfl, rfl, rfl, trivial⟩, HS, f0, f1, f2, fun _ => rfl, f4, f5, f6, f7, f8, f9, f10, f11, f12, f13, f14, f15, f16, f17, f18, f19, f20, f21, f22, f23, f24, f25, f26, f27, f28, f29, f30, f31, f32, f33, f34, f35⟩
      | 4, _ =>
       have h3 : b 3 = true := hd 3 (by decide)
       obtain rfl := f3 h3
       refine GO.at hs ?_
       refine GO.on rfl rfl rfl rfl ?_
       refine GO.move rfl rfl rfl ?_
       refine GO.back ?_
       refine GO.fin (fun a hs => ?_)
       exact ⟨_, _, _, _, (.slice A_r r.length c_r), _, _, _, _, _, _, _, _, _, _, _, _, _, _, _, _, _, _, _, _, _, _, _, _, _, _, _, _, _, _, _, by exact hs.setAt 4 rfl, HS, f0, f1, f2, f3, fun _ => rfl, f5, f6, f7, f8, f9, f10, f11, f12, f13, f14, f15, f16, f17, f18, f19, f20, f21, f22, f23, f24, f25, f26, f27, f28, f29, f30, f31, f32, f33, f34, f35⟩
      | 5, _ =>
       have h3 : b 3 = true := hd 3 (by decide)
       obtain rfl := f3 h3
       have h4 : b 4 = true := hd 4 (by decide)
       obtain rfl := f4 h4
       refine GO.at hs ?_
       refine GO.on rfl rfl rfl rfl ?_
       refine GO.ix rfl rfl rfl Try.underlying43 sz2 (h_r _ HS).2.2.1 c8.1 c8.2 rfl ?_
       refine GO.back ?_
       refine GO.fin (fun a hs => ?_)
       exact ⟨_, _, _, _, _, (.pointer (some (ea A_r (0 * 1)))), _, _, _, _, _, _, _, _, _, _, _, _, _, _, _, _, _, _, _, _, _, _, _, _, _, _, _, _, _, _, by exact hs.setAt 5 rfl, HS, f0, f1, f2, f3, f4, fun _ => rfl, f6, f7, f8, f9, f10, f11, f12, f13, f14, f15, f16, f17, f18, f19, f20, f21, f22, f23, f24, f25, f26, f27, f28, f29, f30, f31, f32, f33, f34, f35⟩
      | 6, _ =>
       have h3 : b 3 = true := hd 3 (by decide)
       obtain rfl := f3 h3
       have h5 : b 5 = true := hd 5 (by decide)
       obtain rfl := f5 h5
       refine GO.at hs ?_
       refine GO.on rfl rfl rfl rfl ?_
       refine GO.ldRd (T := (TInt .i64)) (n := 0) (o := 0) HS h_r rfl rfl (getD_some (d := 0) (ltN c8)) rfl rfl na2 rfl ?_
       refine GO.back ?_
       refine GO.fin (fun a hs => ?_)
       exact ⟨_, _, _, _, _, _, (.int .i64 (r.getD 0 0)), _, _, _, _, _, _, _, _, _, _, _, _, _, _, _, _, _, _, _, _, _, _, _, _, _, _, _, _, _, by exact hs.setAt 6 rfl, HS, f0, f1, f2, f3, f4, f5, fun _ => rfl, f7, f8, f9, f10, f11, f12, f13, f14, f15, f16, f17, f18, f19, f20, f21, f22, f23, f24, f25, f26, f27, f28, f29, f30, f31, f32, f33, f34, f35⟩
      | 7, _ =>
       have h3 : b 3 = true := hd 3 (by decide)
       obtain rfl := f3 h3
       have h6 : b 6 = true := hd 6 (by decide)
       obtain rfl := f6 h6
       refine GO.at hs ?_
       refine GO.on rfl rfl rfl rfl ?_
       refine GO.quo rfl rfl rfl (by decide) rfl ?_
       refine GO.back ?_
       refine GO.fin (fun a hs => ?_)
       exact ⟨_, _, _, _, _, _, _, (.int .i64 (w64 ((r.getD 0 0).tdiv 4))), _, _, _, _, _, _, _, _, _, _, _, _, _, _, _, _, _, _, _, _, _, _, _, _, _, _, _, _, by exact hs.setAt 7 rfl, HS, f0, f1, f2, f3, f4, f5, f6, fun _ => rfl, f8, f9, f10, f11, f12, f13, f14, f15, f16, f17, f18, f19, f20, f21, f22, f23, f24, f25, f26, f27, f28, f29, f30, f31, f32, f33, f34, f35⟩
      | 8, _ =>
       have h3 : b 3 = true := hd 3 (by decide)
       obtain rfl := f3 h3
       refine GO.at hs ?_
       refine GO.on rfl rfl rfl rfl ?_
       refine GO.move rfl rfl rfl ?_
       refine GO.back ?_
       refine GO.fin (fun a hs => ?_)
       exact ⟨_, _, _, _, _, _, _, _, (.slice A_r r.length c_r), _, _, _, _, _, _, _, _, _, _, _, _, _, _, _, _, _, _, _, _, _, _, _, _, _, _, _, by exact hs.setAt 8 rfl, HS, f0, f1, f2, f3, f4, f5, f6, f7, fun _ => rfl, f9, f10, f11, f12, f13, f14, f15, f16, f17, f18, f19, f20, f21, f22, f23, f24, f25, f26, f27, f28, f29, f30, f31, f32, f33, f34, f35⟩
      | 9, _ =>
       have h3 : b 3 = true := hd 3 (by decide)
       obtain rfl := f3 h3
       have h8 : b 8 = true := hd 8 (by decide)
       obtain rfl := f8 h8
       refine GO.at hs ?_
       refine GO.on rfl rfl rfl rfl ?_
       refine GO.ix rfl rfl rfl Try.underlying43 sz2 (h_r _ HS).2.2.1 c9.1 c9.2 rfl ?_
       refine GO.back ?_
       refine GO.fin (fun a hs => ?_)
       exact ⟨_, _, _, _, _, _, _, _, _, (.pointer (some (ea A_r (1 * 1)))), _, _, _, _, _, _, _, _, _, _, _, _, _, _, _, _, _, _, _, _, _, _, _, _, _, _, by exact hs.setAt 9 rfl, HS, f0, f1, f2, f3, f4, f5, f6, f7, f8, fun _ => rfl, f10, f11, f12, f13, f14, f15, f16, f17, f18, f19, f20, f21, f22, f23, f24, f25, f26, f27, f28, f29, f30, f31, f32, f33, f34, f35⟩
      | 10, _ =>
       have h3 : b 3 = true := hd 3 (by decide)
       obtain rfl := f3 h3
       have h9 : b 9 = true := hd 9 (by decide)
       obtain rfl := f9 h9
       refine GO.at hs ?_
       refine GO.on rfl rfl rfl rfl ?_
       refine GO.ldRd (T := (TInt .i64)) (n := 1) (o := 0) HS h_r rfl rfl (getD_some (d := 0) (ltN c9)) rfl rfl na2 rfl ?_
       refine GO.back ?_
       refine GO.fin (fun a hs => ?_)
       exact ⟨_, _, _, _, _, _, _, _, _, _, (.int .i64 (r.getD 1 0)), _, _, _, _, _, _, _, _, _, _, _, _, _, _, _, _, _, _, _, _, _, _, _, _, _, by exact hs.setAt 10 rfl, HS, f0, f1, f2, f3, f4, f5, f6, f7, f8, f9, fun _ => rfl, f11, f12, f13, f14, f15, f16, f17, f18, f19, f20, f21, f22, f23, f24, f25, f26, f27, f28, f29, f30, f31, f32, f33, f34, f35⟩
      | 11, _ =>
       have h3 : b 3 = true := hd 3 (by decide)
       obtain rfl := f3 h3
       have h10 : b 10 = true := hd 10 (by decide)
       obtain rfl := f10 h10
       refine GO.at hs ?_
       refine GO.on rfl rfl rfl rfl ?_
       refine GO.quo rfl rfl rfl (by decide) rfl ?_
       refine GO.back ?_
       refine GO.fin (fun a hs => ?_)
       exact ⟨_, _, _, _, _, _, _, _, _, _, _, (.int .i64 (w64 ((r.getD 1 0).tdiv 4))), _, _, _, _, _, _, _, _, _, _, _, _, _, _, _, _, _, _, _, _, _, _, _, _, by exact hs.setAt 11 rfl, HS, f0, f1, f2, f3, f4, f5, f6, f7, f8, f9, f10, fun _ => rfl, f12, f13, f14, f15, f16, f17, f18, f19, f20, f21, f22, f23, f24, f25, f26, f27, f28, f29, f30, f31, f32, f33, f34, f35⟩
      | 12, _ =>
       have h3 : b 3 = true := hd 3 (by decide)
       obtain rfl := f3 h3
       have h7 : b 7 = true := hd 7 (by decide)
       obtain rfl := f7 h7
       have h11 : b 11 = true := hd 11 (by decide)
       obtain rfl := f11 h11
       refine GO.at hs ?_
       refine GO.on rfl rfl rfl rfl ?_
       refine GO.eql rfl rfl rfl rfl ?_
       refine GO.back ?_
       refine GO.fin (fun a hs => ?_)
       exact ⟨_, _, _, _, _, _, _, _, _, _, _, _, (.bool (decide (w64 ((r.getD 0 0).tdiv 4) = w64 ((r.getD 1 0).tdiv 4)))), _, _, _, _, _, _, _, _, _, _, _, _, _, _, _, _, _, _, _, _, _, _, _, by exact hs.setAt 12 rfl, HS, f0, f1, f2, f3, f4, f5, f6, f7, f8, f9, f10, f11, fun _ => rfl, f13, f14, f15, f16, f17, f18, f19, f20, f21, f22, f23, f24, f25, f26, f27, f28, f29, f30, f31, f32, f33, f34, f35⟩
      | 13, _ =>
       have h3 : b 3 = true := hd 3 (by decide)
       obtain rfl := f3 h3
       have h12 : b 12 = true := hd 12 (by decide)
       obtain rfl := f12 h12
       refine GO.at hs ?_
       refine GO.pickF rfl rfl rfl rfl rfl ?_
       refine GO.fin (fun a hs => ?_)
       exact ⟨_, _, _, _, _, _, _, _, _, _, _, _, _, (.bool (decide (w64 ((r.getD 0 0).tdiv 4) = w64 ((r.getD 1 0).tdiv 4)))), _, _, _, _, _, _, _, _, _, _, _, _, _, _, _, _, _, _, _, _, _, _, by exact hs.setAt 13 rfl, HS, f0, f1, f2, f3, f4, f5, f6, f7, f8, f9, f10, f11, f12, fun _ => rfl, f14, f15, f16, f17, f18, f19, f20, f21, f22, f23, f24, f25, f26, f27, f28, f29, f30, f31, f32, f33, f34, f35⟩
      | 14, _ =>
       have h13 : b 13 = true := hd 13 (by decide)
       obtain rfl := f13 h13
       refine GO.at hs ?_
       refine GO.move rfl rfl rfl ?_
       refine GO.known (t := 18) rfl (decide_eq_false c10) ?_
       refine GO.fin (fun a hs => ?_)
       exact ⟨_, _, _, _, _, _, _, _, _, _, _, _, _, _, (.bool false), _, _, _, _, _, _, _, _, _, _, _, _, _, _, _, _, _, _, _, _, _, hs.weak ⟨rfl, rfl, rfl, rfl, rfl, rfl, rfl, rfl, rfl, rfl, rfl, rfl, rfl, rfl, rfl, rfl, rfl, rfl, rfl, rfl, rfl, rfl, rfl, rfl, rfl, rfl, rfl, rfl, rfl, rfl, rfl, rfl, rfl, rfl, rfl, rfl, rfl, trivial⟩, HS, f0, f1, f2, f3, f4, f5, f6, f7, f8, f9, f10, f11, f12, f13, fun _ => rfl, f15, f16, f17, f18, f19, f20, f21, f22, f23, f24, f25, f26, f27, f28, f29, f30, f31, f32, f33, f34, f35⟩
      | 15, _ =>
       have h14 : b 14 = true := hd 14 (by decide)
       obtain rfl := f14 h14
       refine GO.at hs ?_
       refine GO.on rfl rfl rfl rfl ?_
       refine GO.move rfl rfl rfl ?_
       refine GO.back ?_
       refine GO.fin (fun a hs => ?_)
       exact ⟨_, _, _, _, _, _, _, _, _, _, _, _, _, _, _, (.slice A_r r.length c_r), _, _, _, _, _, _, _, _, _, _, _, _, _, _, _, _, _, _, _, _, by exact hs.setAt 15 rfl, HS, f0, f1, f2, f3, f4, f5, f6, f7, f8, f9, f10, f11, f12, f13, f14, fun _ => rfl, f16, f17, f18, f19, f20, f21, f22, f23, f24, f25, f26, f27, f28, f29, f30, f31, f32, f33, f34, f35⟩
      | 16, _ =>
       have h14 : b 14 = true := hd 14 (by decide)
       obtain rfl := f14 h14
       have h15 : b 15 = true := hd 15 (by decide)
       obtain rfl := f15 h15
       refine GO.at hs ?_
       refine GO.on rfl rfl rfl rfl ?_
       refine GO.ix rfl rfl rfl Try.underlying43 sz2 (h_r _ HS).2.2.1 c8.1 c8.2 rfl ?_
       refine GO.back ?_
       refine GO.fin (fun a hs => ?_)
       exact ⟨_, _, _, _, _, _, _, _, _, _, _, _, _, _, _, _, (.pointer (some (ea A_r (0 * 1)))), _, _, _, _, _, _, _, _, _, _, _, _, _, _, _, _, _, _, _, by exact hs.setAt 16 rfl, HS, f0, f1, f2, f3, f4, f5, f6, f7, f8, f9, f10, f11, f12, f13, f14, f15, fun _ => rfl, f17, f18, f19, f20, f21, f22, f23, f24, f25, f26, f27, f28, f29, f30, f31, f32, f33, f34, f35⟩
      | 17, _ =>
       have h14 : b 14 = true := hd 14 (by decide)
       obtain rfl := f14 h14
       have h16 : b 16 = true := hd 16 (by decide)
       obtain rfl := f16 h16
       refine GO.at hs ?_
       refine GO.on rfl rfl rfl rfl ?_
       refine GO.ldRd (T := (TInt .i64)) (n := 0) (o := 0) HS h_r rfl rfl (getD_some (d := 0) (ltN c8)) rfl rfl na2 rfl ?_
       refine GO.back ?_
       refine GO.fin (fun a hs => ?_)
       exact ⟨_, _, _, _, _, _, _, _, _, _, _, _, _, _, _, _, _, (.int .i64 (r.getD 0 0)), _, _, _, _, _, _, _, _, _, _, _, _, _, _, _, _, _, _, by exact hs.setAt 17 rfl, HS, f0, f1, f2, f3, f4, f5, f6, f7, f8, f9, f10, f11, f12, f13, f14, f15, f16, fun _ => rfl, f18, f19, f20, f21, f22, f23, f24, f25, f26, f27, f28, f29, f30, f31, f32, f33, f34, f35⟩
      | 18, _ =>
       have h14 : b 14 = true := hd 14 (by decide)
       obtain rfl := f14 h14
       have h17 : b 17 = true := hd 17 (by decide)
       obtain rfl := f17 h17
       refine GO.at hs ?_
       refine GO.on rfl rfl rfl rfl ?_
       refine GO.quo rfl rfl rfl (by decide) rfl ?_
       refine GO.back ?_
       refine GO.fin (fun a hs => ?_)
       exact ⟨_, _, _, _, _, _, _, _, _, _, _, _, _, _, _, _, _, _, (.int .i64 (w64 ((r.getD 0 0).tdiv 4))), _, _, _, _, _, _, _, _, _, _, _, _, _, _, _, _, _, by exact hs.setAt 18 rfl, HS, f0, f1, f2, f3, f4, f5, f6, f7, f8, f9, f10, f11, f12, f13, f14, f15, f16, f17, fun _ => rfl, f19, f20, f21, f22, f23, f24, f25, f26, f27, f28, f29, f30, f31, f32, f33, f34, f35⟩
      | 19, _ =>
       have h14 : b 14 = true := hd 14 (by decide)
       obtain rfl := f14 h14
       refine GO.at hs ?_
       refine GO.on rfl rfl rfl rfl ?_
       refine GO.move rfl rfl rfl ?_
       refine GO.back ?_
       refine GO.fin (fun a hs => ?_)
       exact ⟨_, _, _, _, _, _, _, _, _, _, _, _, _, _, _, _, _, _, _, (.slice A_r r.length c_r), _, _, _, _, _, _, _, _, _, _, _, _, _, _, _, _, by exact hs.setAt 19 rfl, HS, f0, f1, f2, f3, f4, f5, f6, f7, f8, f9, f10, f11, f12, f13, f14, f15, f16, f17, f18, fun _ => rfl, f20, f21, f22, f23, f24, f25, f26, f27, f28, f29, f30, f31, f32, f33, f34, f35⟩
      | 20, _ =>
       have h14 : b 14 = true := hd 14 (by decide)
       obtain rfl := f14 h14
       have h19 : b 19 = true := hd 19 (by decide)
       obtain rfl := f19 h19
       refine GO.at hs ?_
       refine GO.on rfl rfl rfl rfl ?_
       refine GO.ix rfl rfl rfl Try.underlying43 sz2 (h_r _ HS).2.2.1 c11.1 c11.2 rfl ?_
       refine GO.back ?_
       refine GO.fin (fun a hs => ?_)
       exact ⟨_, _, _, _, _, _, _, _, _, _, _, _, _, _, _, _, _, _, _, _, (.pointer (some (ea A_r (2 * 1)))), _, _, _, _, _, _, _, _, _, _, _, _, _, _, _, by exact hs.setAt 20 rfl, HS, f0, f1, f2, f3, f4, f5, f6, f7, f8, f9, f10, f11, f12, f13, f14, f15, f16, f17, f18, f19, fun _ => rfl, f21, f22, f23, f24, f25, f26, f27, f28, f29, f30, f31, f32, f33, f34, f35⟩
      | 21, _ =>
       have h14 : b 14 = true := hd 14 (by decide)
       obtain rfl := f14 h14
       have h20 : b 20 = true := hd 20 (by decide)
       obtain rfl := f20 h20
       refine GO.at hs ?_
       refine GO.on rfl rfl rfl rfl ?_
       refine GO.ldRd (T := (TInt .i64)) (n := 2) (o := 0) HS h_r rfl rfl (getD_some (d := 0) (ltN c11)) rfl rfl na2 rfl ?_
       refine GO.back ?_
       refine GO.fin (fun a hs => ?_)
       exact ⟨_, _, _, _, _, _, _, _, _, _, _, _, _, _, _, _, _, _, _, _, _, (.int .i64 (r.getD 2 0)), _, _, _, _, _, _, _, _, _, _, _, _, _, _, by exact hs.setAt 21 rfl, HS, f0, f1, f2, f3, f4, f5, f6, f7, f8, f9, f10, f11, f12, f13, f14, f15, f16, f17, f18, f19, f20, fun _ => rfl, f22, f23, f24, f25, f26, f27, f28, f29, f30, f31, f32, f33, f34, f35⟩
      | 22, _ =>
       have h14 : b 14 = true := hd 14 (by decide)
       obtain rfl := f14 h14
       have h21 : b 21 = true := hd 21 (by decide)
       obtain rfl := f21 h21
       refine GO.at hs ?_
       refine GO.on rfl rfl rfl rfl ?_
       refine GO.quo rfl rfl rfl (by decide) rfl ?_
       refine GO.back ?_
       refine GO.fin (fun a hs => ?_)
       exact ⟨_, _, _, _, _, _, _, _, _, _, _, _, _, _, _, _, _, _, _, _, _, _, (.int .i64 (w64 ((r.getD 2 0).tdiv 4))), _, _, _, _, _, _, _, _, _, _, _, _, _, by exact hs.setAt 22 rfl, HS, f0, f1, f2, f3, f4, f5, f6, f7, f8, f9, f10, f11, f12, f13, f14, f15, f16, f17, f18, f19, f20, f21, fun _ => rfl, f23, f24, f25, f26, f27, f28, f29, f30, f31, f32, f33, f34, f35⟩
      | 23, _ =>
       have h14 : b 14 = true := hd 14 (by decide)
       obtain rfl := f14 h14
       have h18 : b 18 = true := hd 18 (by decide)
       obtain rfl := f18 h18
       have h22 : b 22 = true := hd 22 (by decide)
       obtain rfl := f22 h22
       refine GO.at hs ?_
       refine GO.on rfl rfl rfl rfl ?_
       refine GO.eql rfl rfl rfl rfl ?_
       refine GO.back ?_
       refine GO.fin (fun a hs => ?_)
       exact ⟨_, _, _, _, _, _, _, _, _, _, _, _, _, _, _, _, _, _, _, _, _, _, _, (.bool (decide (w64 ((r.getD 0 0).tdiv 4) = w64 ((r.getD 2 0).tdiv 4)))), _, _, _, _, _, _, _, _, _, _, _, _, by exact hs.setAt 23 rfl, HS, f0, f1, f2, f3, f4, f5, f6, f7, f8, f9, f10, f11, f12, f13, f14, f15, f16, f17, f18, f19, f20, f21, f22, fun _ => rfl, f24, f25, f26, f27, f28, f29, f30, f31, f32, f33, f34, f35⟩
      | 24, _ =>
       have h14 : b 14 = true := hd 14 (by decide)
       obtain rfl := f14 h14
       have h23 : b 23 = true := hd 23 (by decide)
       obtain rfl := f23 h23
       refine GO.at hs ?_
       refine GO.pickF rfl rfl rfl rfl rfl ?_
       refine GO.fin (fun a hs => ?_)
       exact ⟨_, _, _, _, _, _, _, _, _, _, _, _, _, _, _, _, _, _, _, _, _, _, _, _, (.bool (decide (w64 ((r.getD 0 0).tdiv 4) = w64 ((r.getD 2 0).tdiv 4)))), _, _, _, _, _, _, _, _, _, _, _, by exact hs.setAt 24 rfl, HS, f0, f1, f2, f3, f4, f5, f6, f7, f8, f9, f10, f11, f12, f13, f14, f15, f16, f17, f18, f19, f20, f21, f22, f23, fun _ => rfl, f25, f26, f27, f28, f29, f30, f31, f32, f33, f34, f35⟩
      | 25, _ =>
       have h24 : b 24 = true := hd 24 (by decide)
       obtain rfl := f24 h24
       refine GO.at hs ?_
       refine GO.move rfl rfl rfl ?_
       refine GO.known (t := 29) rfl (decide_eq_true c12) ?_
       refine GO.fin (fun a hs => ?_)
       exact ⟨_, _, _, _, _, _, _, _, _, _, _, _, _, _, _, _, _, _, _, _, _, _, _, _, _, (.bool true), _, _, _, _, _, _, _, _, _, _, hs.weak ⟨rfl, rfl, rfl, rfl, rfl, rfl, rfl, rfl, rfl, rfl, rfl, rfl, rfl, rfl, rfl, rfl, rfl, rfl, rfl, rfl, rfl, rfl, rfl, rfl, rfl, rfl, rfl, rfl, rfl, rfl, rfl, rfl, rfl, rfl, rfl, rfl, rfl, trivial⟩, HS, f0, f1, f2, f3, f4, f5, f6, f7, f8, f9, f10, f11, f12, f13, f14, f15, f16, f17, f18, f19, f20, f21, f22, f23, f24, fun _ => rfl, f26, f27, f28, f29, f30, f31, f32, f33, f34, f35⟩
      | 26, _ =>
       have h25 : b 25 = true := hd 25 (by decide)
       obtain rfl := f25 h25
       refine GO.at hs ?_
       refine GO.off rfl rfl rfl rfl rfl rfl ?_
       refine GO.fin (fun a hs => ?_)
       exact ⟨_, _, _, _, _, _, _, _, _, _, _, _, _, _, _, _, _, _, _, _, _, _, _, _, _, _, (undef), _, _, _, _, _, _, _, _, _, by exact hs.setAt 26 rfl, HS, f0, f1, f2, f3, f4, f5, f6, f7, f8, f9, f10, f11, f12, f13, f14, f15, f16, f17, f18, f19, f20, f21, f22, f23, f24, f25, fun _ => rfl, f27, f28, f29, f30, f31, f32, f33, f34, f35⟩
      | 27, _ =>
       have h25 : b 25 = true := hd 25 (by decide)
       obtain rfl := f25 h25
       have h26 : b 26 = true := hd 26 (by decide)
       obtain rfl := f26 h26
       refine GO.at hs ?_
       refine GO.off rfl rfl rfl rfl rfl rfl ?_
       refine GO.fin (fun a hs => ?_)
       exact ⟨_, _, _, _, _, _, _, _, _, _, _, _, _, _, _, _, _, _, _, _, _, _, _, _, _, _, _, (undef), _, _, _, _, _, _, _, _, by exact hs.setAt 27 rfl, HS, f0, f1, f2, f3, f4, f5, f6, f7, f8, f9, f10, f11, f12, f13, f14, f15, f16, f17, f18, f19, f20, f21, f22, f23, f24, f25, f26, fun _ => rfl, f28, f29, f30, f31, f32, f33, f34, f35⟩
      | 28, _ =>
       have h25 : b 25 = true := hd 25 (by decide)
       obtain rfl := f25 h25
       have h27 : b 27 = true := hd 27 (by decide)
       obtain rfl := f27 h27
       refine GO.at hs ?_
       refine GO.off rfl rfl rfl rfl rfl rfl ?_
       refine GO.fin (fun a hs => ?_)
       exact ⟨_, _, _, _, _, _, _, _, _, _, _, _, _, _, _, _, _, _, _, _, _, _, _, _, _, _, _, _, (undef), _, _, _, _, _, _, _, by exact hs.setAt 28 rfl, HS, f0, f1, f2, f3, f4, f5, f6, f7, f8, f9, f10, f11, f12, f13, f14, f15, f16, f17, f18, f19, f20, f21, f22, f23, f24, f25, f26, f27, fun _ => rfl, f29, f30, f31, f32, f33, f34, f35⟩
      | 29, _ =>
       have h25 : b 25 = true := hd 25 (by decide)
       obtain rfl := f25 h25
       have h28 : b 28 = true := hd 28 (by decide)
       obtain rfl := f28 h28
       refine GO.at hs ?_
       refine GO.off rfl rfl rfl rfl rfl rfl ?_
       refine GO.fin (fun a hs => ?_)
       exact ⟨_, _, _, _, _, _, _, _, _, _, _, _, _, _, _, _, _, _, _, _, _, _, _, _, _, _, _, _, _, (undef), _, _, _, _, _, _, by exact hs.setAt 29 rfl, HS, f0, f1, f2, f3, f4, f5, f6, f7, f8, f9, f10, f11, f12, f13, f14, f15, f16, f17, f18, f19, f20, f21, f22, f23, f24, f25, f26, f27, f28, fun _ => rfl, f30, f31, f32, f33, f34, f35⟩
      | 30, _ =>
       have h25 : b 25 = true := hd 25 (by decide)
       obtain rfl := f25 h25
       refine GO.at hs ?_
       refine GO.off rfl rfl rfl rfl rfl rfl ?_
       refine GO.fin (fun a hs => ?_)
       exact ⟨_, _, _, _, _, _, _, _, _, _, _, _, _, _, _, _, _, _, _, _, _, _, _, _, _, _, _, _, _, _, (undef), _, _, _, _, _, by exact hs.setAt 30 rfl, HS, f0, f1, f2, f3, f4, f5, f6, f7, f8, f9, f10, f11, f12, f13, f14, f15, f16, f17, f18, f19, f20, f21, f22, f23, f24, f25, f26, f27, f28, f29, fun _ => rfl, f31, f32, f33, f34, f35⟩
      | 31, _ =>
       have h25 : b 25 = true := hd 25 (by decide)
       obtain rfl := f25 h25
       have h30 : b 30 = true := hd 30 (by decide)
       obtain rfl := f30 h30
       refine GO.at hs ?_
       refine GO.off rfl rfl rfl rfl rfl rfl ?_
       refine GO.fin (fun a hs => ?_)
       exact ⟨_, _, _, _, _, _, _, _, _, _, _, _, _, _, _, _, _, _, _, _, _, _, _, _, _, _, _, _, _, _, _, (undef), _, _, _, _, by exact hs.setAt 31 rfl, HS, f0, f1, f2, f3, f4, f5, f6, f7, f8, f9, f10, f11, f12, f13, f14, f15, f16, f17, f18, f19, f20, f21, f22, f23, f24, f25, f26, f27, f28, f29, f30, fun _ => rfl, f32, f33, f34, f35⟩
      | 32, _ =>
       have h25 : b 25 = true := hd 25 (by decide)
       obtain rfl := f25 h25
       have h31 : b 31 = true := hd 31 (by decide)
       obtain rfl := f31 h31
       refine GO.at hs ?_
       refine GO.off rfl rfl rfl rfl rfl rfl ?_
       refine GO.fin (fun a hs => ?_)
       exact ⟨_, _, _, _, _, _, _, _, _, _, _, _, _, _, _, _, _, _, _, _, _, _, _, _, _, _, _, _, _, _, _, _, (undef), _, _, _, by exact hs.setAt 32 rfl, HS, f0, f1, f2, f3, f4, f5, f6, f7, f8, f9, f10, f11, f12, f13, f14, f15, f16, f17, f18, f19, f20, f21, f22, f23, f24, f25, f26, f27, f28, f29, f30, f31, fun _ => rfl, f33, f34, f35⟩
      | 33, _ =>
       have h25 : b 25 = true := hd 25 (by decide)
       obtain rfl := f25 h25
       have h32 : b 32 = true := hd 32 (by decide)
       obtain rfl := f32 h32
       refine GO.at hs ?_
       refine GO.off rfl rfl rfl rfl rfl rfl ?_
       refine GO.fin (fun a hs => ?_)
       exact ⟨_, _, _, _, _, _, _, _, _, _, _, _, _, _, _, _, _, _, _, _, _, _, _, _, _, _, _, _, _, _, _, _, _, (undef), _, _, by exact hs.setAt 33 rfl, HS, f0, f1, f2, f3, f4, f5, f6, f7, f8, f9, f10, f11, f12, f13, f14, f15, f16, f17, f18, f19, f20, f21, f22, f23, f24, f25, f26, f27, f28, f29, f30, f31, f32, fun _ => rfl, f34, f35⟩
      | 34, _ =>
       have h25 : b 25 = true := hd 25 (by decide)
       obtain rfl := f25 h25
       have h29 : b 29 = true := hd 29 (by decide)
       obtain rfl := f29 h29
       have h33 : b 33 = true := hd 33 (by decide)
       obtain rfl := f33 h33
       refine GO.at hs ?_
       refine GO.off rfl rfl rfl rfl rfl rfl ?_
       refine GO.fin (fun a hs => ?_)
       exact ⟨_, _, _, _, _, _, _, _, _, _, _, _, _, _, _, _, _, _, _, _, _, _, _, _, _, _, _, _, _, _, _, _, _, _, (undef), _, by exact hs.setAt 34 rfl, HS, f0, f1, f2, f3, f4, f5, f6, f7, f8, f9, f10, f11, f12, f13, f14, f15, f16, f17, f18, f19, f20, f21, f22, f23, f24, f25, f26, f27, f28, f29, f30, f31, f32, f33, fun _ => rfl, f35⟩
      | 35, _ =>
       have h25 : b 25 = true := hd 25 (by decide)
       obtain rfl := f25 h25
       have h34 : b 34 = true := hd 34 (by decide)
       obtain rfl := f34 h34
       refine GO.at hs ?_
       refine GO.pickT rfl rfl rfl rfl rfl ?_
       refine GO.fin (fun a hs => ?_)
       exact ⟨_, _, _, _, _, _, _, _, _, _, _, _, _, _, _, _, _, _, _, _, _, _, _, _, _, _, _, _, _, _, _, _, _, _, _, (.bool true), by exact hs.setAt 35 rfl, HS, f0, f1, f2, f3, f4, f5, f6, f7, f8, f9, f10, f11, f12, f13, f14, f15, f16, f17, f18, f19, f20, f21, f22, f23, f24, f25, f26, f27, f28, f29, f30, f31, f32, f33, f34, fun _ => rfl⟩
      | k + 36, hj => exact absurd hj (Nat.not_lt.2 (Nat.le_add_left 36 k))
     ·
      intro b a w hall
      refine exI fun Y37_0 => exI fun Y38_1 => exI fun Y39_2 => exI fun Y40_3 => exI fun Y41_4 => exI fun Y42_5 => exI fun Y43_6 => exI fun Y44_7 => exI fun Y45_8 => exI fun Y46_9 => exI fun Y47_10 => exI fun Y48_11 => exI fun Y49_12 => exI fun Y50_13 => exI fun Y51_14 => exI fun Y52_15 => exI fun Y53_16 => exI fun Y54_17 => exI fun Y55_18 => exI fun Y56_19 => exI fun Y57_20 => exI fun Y58_21 => exI fun Y59_22 => exI fun Y60_23 => exI fun Y61_24 => exI fun Y62_25 => exI fun Y63_26 => exI fun Y64_27 => exI fun Y65_28 => exI fun Y66_29 => exI fun Y67_30 => exI fun Y68_31 => exI fun Y69_32 => exI fun Y70_33 => exI fun Y71_34 => exI fun Y72_35 => anI fun hs => anI fun HS => anI fun f0 => anI fun f1 => anI fun f2 => anI fun f3 => anI fun f4 => anI fun f5 => anI fun f6 => anI fun f7 => anI fun f8 => anI fun f9 => anI fun f10 => anI fun f11 => anI fun f12 => anI fun f13 => anI fun f14 => anI fun f15 => anI fun f16 => anI fun f17 => anI fun f18 => anI fun f19 => anI fun f20 => anI fun f21 => anI fun f22 => anI fun f23 => anI fun f24 => anI fun f25 => anI fun f26 => anI fun f27 => anI fun f28 => anI fun f29 => anI fun f30 => anI fun f31 => anI fun f32 => anI fun f33 => anI fun f34 => fun f35 => ?_
      obtain rfl := f0 (hall 0 (by decide))
      obtain rfl := f1 (hall 1 (by decide))
      obtain rfl := f2 (hall 2 (by decide))
      obtain rfl := f3 (hall 3 (by decide))
      obtain rfl := f4 (hall 4 (by decide))
      obtain rfl := f5 (hall 5 (by decide))
      obtain rfl := f6 (hall 6 (by decide))
      obtain rfl := f7 (hall 7 (by decide))
      obtain rfl := f8 (hall 8 (by decide))
      obtain rfl := f9 (hall 9 (by decide))
      obtain rfl := f10 (hall 10 (by decide))
      obtain rfl := f11 (hall 11 (by decide))
      obtain rfl := f12 (hall 12 (by decide))
      obtain rfl := f13 (hall 13 (by decide))
      obtain rfl := f14 (hall 14 (by decide))
      obtain rfl := f15 (hall 15 (by decide))
      obtain rfl := f16 (hall 16 (by decide))
      obtain rfl := f17 (hall 17 (by decide))
      obtain rfl := f18 (hall 18 (by decide))
      obtain rfl := f19 (hall 19 (by decide))
      obtain rfl := f20 (hall 20 (by decide))
      obtain rfl := f21 (hall 21 (by decide))
      obtain rfl := f22 (hall 22 (by decide))
      obtain rfl := f23 (hall 23 (by decide))
      obtain rfl := f24 (hall 24 (by decide))
      obtain rfl := f25 (hall 25 (by decide))
      obtain rfl := f26 (hall 26 (by decide))
      obtain rfl := f27 (hall 27 (by decide))
      obtain rfl := f28 (hall 28 (by decide))
      obtain rfl := f29 (hall 29 (by decide))
      obtain rfl := f30 (hall 30 (by decide))
      obtain rfl := f31 (hall 31 (by decide))
      obtain rfl := f32 (hall 32 (by decide))
      obtain rfl := f33 (hall 33 (by decide))
      obtain rfl := f34 (hall 34 (by decide))
      obtain rfl := f35 (hall 35 (by decide))
      refine G.at hs ?_
      refine G.yesB rfl rfl ?_
      refine G.seq ?_
      refine G.region ?_
      refine GO.assign rfl rfl rfl ?_
      refine GO.nil ?_
      obtain rfl := Option.some.inj H
      exact G.ret1 _ Try.func69 rfl rfl ⟨rfl, HS⟩
    ·
     refine G.regionAny mixed (by decide) (fun b a w => ∃ (Y73_0 : Value) (Y74_1 : Value) (Y75_2 : Value) (Y76_3 : Value) (Y77_4 : Value) (Y78_5 : Value) (Y79_6 : Value) (Y80_7 : Value) (Y81_8 : Value) (Y82_9 : Value) (Y83_10 : Value) (Y84_11 : Value) (Y85_12 : Value) (Y86_13 : Value) (Y87_14 : Value) (Y88_15 : Value) (Y89_16 : Value) (Y90_17 : Value) (Y91_18 : Value) (Y92_19 : Value) (Y93_20 : Value) (Y94_21 : Value) (Y95_22 : Value) (Y96_23 : Value) (Y97_24 : Value) (Y98_25 : Value) (Y99_26 : Value) (Y100_27 : Value) (Y101_28 : Value) (Y102_29 : Value) (Y103_30 : Value) (Y104_31 : Value) (Y105_32 : Value) (Y106_33 : Value) (Y107_34 : Value) (Y108_35 : Value), Sat 48 [(4, Y73_0), (5, Y74_1), (6, Y75_2), (7, Y76_3), (8, Y77_4), (9, Y78_5), (10, Y79_6), (11, Y80_7), (12, Y81_8), (13, Y82_9), (14, Y83_10), (15, Y84_11), (16, Y85_12), (17, Y86_13), (18, Y87_14), (19, Y88_15), (20, Y89_16), (21, Y90_17), (22, Y91_18), (23, Y92_19), (24, Y93_20), (25, Y94_21), (26, Y95_22), (27, Y96_23), (28, Y97_24), (29, Y98_25), (30, Y99_26), (31, Y100_27), (32, Y101_28), (33, Y102_29), (34, Y103_30), (35, Y104_31), (36, Y105_32), (37, Y106_33), (38, Y107_34), (39, Y108_35), (0, .slice A_r r.length c_r)] a ∧ St w0 w (L) ∧ (b 0 = true → Y73_0 = (.slice A_r r.length c_r)) ∧ (b 1 = true → Y74_1 = (.int .i64 (r.length : Int))) ∧ (b 2 = true → Y75_2 = (.bool (!(decide ((r.length : Int) = 3))))) ∧ (b 3 = true → Y76_3 = (.bool false)) ∧ (b 4 = true → Y77_4 = (.slice A_r r.length c_r)) ∧ (b 5 = true → Y78_5 = (.pointer (some (ea A_r (0 * 1))))) ∧ (b 6 = true → Y79_6 = (.int .i64 (r.getD 0 0))) ∧ (b 7 = true → Y80_7 = (.int .i64 (w64 ((r.getD 0 0).tdiv 4)))) ∧ (b 8 = true → Y81_8 = (.slice A_r r.length c_r)) ∧ (b 9 = true → Y82_9 = (.pointer (some (ea A_r (1 * 1))))) ∧ (b 10 = true → Y83_10 = (.int .i64 (r.getD 1 0))) ∧ (b 11 = true → Y84_11 = (.int .i64 (w64 ((r.getD 1 0).tdiv 4)))) ∧ (b 12 = true → Y85_12 = (.bool (decide (w64 ((r.getD 0 0).tdiv 4) = w64 ((r.getD 1 0).tdiv 4))))) ∧ (b 13 = true → Y86_13 = (.bool (decide (w64 ((r.getD 0 0).tdiv 4) = w64 ((r.getD 1 0).tdiv 4))))) ∧ (b 14 = true → Y87_14 = (.bool false)) ∧ (b 15 = true → Y88_15 = (.slice A_r r.length c_r)) ∧ (b 16 = true → Y89_16 = (.pointer (some (ea A_r (0 * 1))))) ∧ (b 17 = true → Y90_17 = (.int .i64 (r.getD 0 0))) ∧ (b 18 = true → Y91_18 = (.int .i64 (w64 ((r.getD 0 0).tdiv 4)))) ∧ (b 19 = true → Y92_19 = (.slice A_r r.length c_r)) ∧ (b 20 = true → Y93_20 = (.pointer (some (ea A_r (2 * 1))))) ∧ (b 21 = true → Y94_21 = (.int .i64 (r.getD 2 0))) ∧ (b 22 = true → Y95_22 = (.int .i64 (w64 ((r.getD 2 0).tdiv 4)))) ∧ (b 23 = true → Y96_23 = (.bool (decide (w64 ((r.getD 0 0).tdiv 4) = w64 ((r.getD 2 0).tdiv 4))))) ∧ (b 24 = true → Y97_24 = (.bool (decide (w64 ((r.getD 0 0).tdiv 4) = w64 ((r.getD 2 0).tdiv 4))))) ∧ (b 25 = true → Y98_25 = (.bool false)) ∧ (b 26 = true → Y99_26 = (.slice A_r r.length c_r)) ∧ (b 27 = true → Y100_27 = (.pointer (some (ea A_r (1 * 1))))) ∧ (b 28 = true → Y101_28 = (.int .i64 (r.getD 1 0))) ∧ (b 29 = true → Y102_29 = (.int .i64 (w64 ((r.getD 1 0).tdiv 4)))) ∧ (b 30 = true → Y103_30 = (.slice A_r r.length c_r)) ∧ (b 31 = true → Y104_31 = (.pointer (some (ea A_r (2 * 1))))) ∧ (b 32 = true → Y105_32 = (.int .i64 (r.getD 2 0))) ∧ (b 33 = true → Y106_33 = (.int .i64 (w64 ((r.getD 2 0).tdiv 4)))) ∧ (b 34 = true → Y107_34 = (.bool (decide (w64 ((r.getD 1 0).tdiv 4) = w64 ((r.getD 2 0).tdiv 4))))) ∧ (b 35 = true → Y108_35 = (.bool (decide (w64 ((r.getD 1 0).tdiv 4) = w64 ((r.getD 2 0).tdiv 4)))))) ?_ ?_ ?_
     ·
      intro a hs
      obtain ⟨Y73_0, hs⟩ := hs.ext (d := 4) rfl
      obtain ⟨Y74_1, hs⟩ := hs.ext (d := 5) rfl
      obtain ⟨Y75_2, hs⟩ := hs.ext (d := 6) rfl
      obtain ⟨Y76_3, hs⟩ := hs.ext (d := 7) rfl
      obtain ⟨Y77_4, hs⟩ := hs.ext (d := 8) rfl
      obtain ⟨Y78_5, hs⟩ := hs.ext (d := 9) rfl
      obtain ⟨Y79_6, hs⟩ := hs.ext (d := 10) rfl
      obtain ⟨Y80_7, hs⟩ := hs.ext (d := 11) rfl
      obtain ⟨Y81_8, hs⟩ := hs.ext (d := 12) rfl
      obtain ⟨Y82_9, hs⟩ := hs.ext (d := 13) rfl
      obtain ⟨Y83_10, hs⟩ := hs.ext (d := 14) rfl
      obtain ⟨Y84_11, hs⟩ := hs.ext (d := 15) rfl
      obtain ⟨Y85_12, hs⟩ := hs.ext (d := 16) rfl
      obtain ⟨Y86_13, hs⟩ := hs.ext (d := 17) rfl
      obtain ⟨Y87_14, hs⟩ := hs.ext (d := 18) rfl
      obtain ⟨Y88_15, hs⟩ := hs.ext (d := 19) rfl
      obtain ⟨Y89_16, hs⟩ := hs.ext (d := 20) rfl
      obtain ⟨Y90_17, hs⟩ := hs.ext (d := 21) rfl
      obtain ⟨Y91_18, hs⟩ := hs.ext (d := 22) rfl
      obtain ⟨Y92_19, hs⟩ := hs.ext (d := 23) rfl
      obtain ⟨Y93_20, hs⟩ := hs.ext (d := 24) rfl
      obtain ⟨Y94_21, hs⟩ := hs.ext (d := 25) rfl
      obtain ⟨Y95_22, hs⟩ := hs.ext (d := 26) rfl
      obtain ⟨Y96_23, hs⟩ := hs.ext (d := 27) rfl
      obtain ⟨Y97_24, hs⟩ := hs.ext (d := 28) rfl
      obtain ⟨Y98_25, hs⟩ := hs.ext (d := 29) rfl
      obtain ⟨Y99_26, hs⟩ := hs.ext (d := 30) rfl
      obtain ⟨Y100_27, hs⟩ := hs.ext (d := 31) rfl
      obtain ⟨Y101_28, hs⟩ := hs.ext (d := 32) rfl
      obtain ⟨Y102_29, hs⟩ := hs.ext (d := 33) rfl
      obtain ⟨Y103_30, hs⟩ := hs.ext (d := 34) rfl
      obtain ⟨Y104_31, hs⟩ := hs.ext (d := 35) rfl
      obtain ⟨Y105_32, hs⟩ := hs.ext (d := 36) rfl
      obtain ⟨Y106_33, hs⟩ := hs.ext (d := 37) rfl
      obtain ⟨Y107_34, hs⟩ := hs.ext (d := 38) rfl
      obtain ⟨Y108_35, hs⟩ := hs.ext (d := 39) rfl
      exact ⟨Y73_0, Y74_1, Y75_2, Y76_3, Y77_4, Y78_5, Y79_6, Y80_7, Y81_8, Y82_9, Y83_10, Y84_11, Y85_12, Y86_13, Y87_14, Y88_15, Y89_16, Y90_17, Y91_18, Y92_19, Y93_20, Y94_21, Y95_22, Y96_23, Y97_24, Y98_25, Y99_26, Y100_27, Y101_28, Y102_29, Y103_30, Y104_31, Y105_32, Y106_33, Y107_34, Y108_35, hs.weak ⟨rfl, rfl, rfl, rfl, rfl, rfl, rfl, rfl, rfl, rfl, rfl, rfl, rfl, rfl, rfl, rfl, rfl, rfl, rfl, rfl, rfl, rfl, rfl, rfl, rfl, rfl, rfl, rfl, rfl, rfl, rfl, rfl, rfl, rfl, rfl, rfl, rfl, trivial⟩, (HS.drew.pick 0 []), fun h => Bool.noConfusion h, fun h => Bool.noConfusion h, fun h => Bool.noConfusion h, fun h => Bool.noConfusion h, fun h => Bool.noConfusion h, fun h => Bool.noConfusion h, fun h => Bool.noConfusion h, fun h => Bool.noConfusion h, fun h => Bool.noConfusion h, fun h => Bool.noConfusion h, fun h => Bool.noConfusion h, fun h => Bool.noConfusion h, fun h => Bool.noConfusion h, fun h => Bool.noConfusion h, fun h => Bool.noConfusion h, fun h => Bool.noConfusion h, fun h => Bool.noConfusion h, fun h => Bool.noConfusion h, fun h => Bool.noConfusion h, fun h => Bool.noConfusion h, fun h => Bool.noConfusion h, fun h => Bool.noConfusion h, fun h => Bool.noConfusion h, fun h => Bool.noConfusion h, fun h => Bool.noConfusion h, fun h => Bool.noConfusion h, fun h => Bool.noConfusion h, fun h => Bool.noConfusion h, fun h => Bool.noConfusion h, fun h => Bool.noConfusion h, fun h => Bool.noConfusion h, fun h => Bool.noConfusion h, fun h => Bool.noConfusion h, fun h => Bool.noConfusion h, fun h => Bool.noConfusion h, fun h => Bool.noConfusion h⟩
     ·
      intro j hj b a w
      refine exI fun Y73_0 => exI fun Y74_1 => exI fun Y75_2 => exI fun Y76_3 => exI fun Y77_4 => exI fun Y78_5 => exI fun Y79_6 => exI fun Y80_7 => exI fun Y81_8 => exI fun Y82_9 => exI fun Y83_10 => exI fun Y84_11 => exI fun Y85_12 => exI fun Y86_13 => exI fun Y87_14 => exI fun Y88_15 => exI fun Y89_16 => exI fun Y90_17 => exI fun Y91_18 => exI fun Y92_19 => exI fun Y93_20 => exI fun Y94_21 => exI fun Y95_22 => exI fun Y96_23 => exI fun Y97_24 => exI fun Y98_25 => exI fun Y99_26 => exI fun Y100_27 => exI fun Y101_28 => exI fun Y102_29 => exI fun Y103_30 => exI fun Y104_31 => exI fun Y105_32 => exI fun Y106_33 => exI fun Y107_34 => exI fun Y108_35 => anI fun hs => anI fun HS => anI fun f0 => anI fun f1 => anI fun f2 => anI fun f3 => anI fun f4 => anI fun f5 => anI fun f6 => anI fun f7 => anI fun f8 => anI fun f9 => anI fun f10 => anI fun f11 => anI fun f12 => anI fun f13 => anI fun f14 => anI fun f15 => anI fun f16 => anI fun f17 => anI fun f18 => anI fun f19 => anI fun f20 => anI fun f21 => anI fun f22 => anI fun f23 => anI fun f24 => anI fun f25 => anI fun f26 => anI fun f27 => anI fun f28 => anI fun f29 => anI fun f30 => anI fun f31 => anI fun f32 => anI fun f33 => anI fun f34 => fun f35 hb hd hcl => ?_
      match j, hj with
      | 0, _ =>
       refine GO.at hs ?_
       refine GO.move rfl rfl rfl ?_
       refine GO.fin (fun a hs => ?_)
       exact ⟨(.slice A_r r.length c_r), _, _, _, _, _, _, _, _, _, _, _, _, _, _, _, _, _, _, _, _, _, _, _, _, _, _, _, _, _, _, _, _, _, _, _, by exact hs.setAt 0 rfl, HS, fun _ => rfl, f1, f2, f3, f4, f5, f6, f7, f8, f9, f10, f11, f12, f13, f14, f15, f16, f17, f18, f19, f20, f21, f22, f23, f24, f25, f26, f27, f28, f29, f30, f31, f32, f33, f34, f35⟩
      | 1, _ =>
       have h0 : b 0 = true := hd 0 (by decide)
       obtain rfl := f0 h0
       refine GO.at hs ?_
       refine GO.lenS rfl rfl Try.underlying43 rfl ?_
       refine GO.fin (fun a hs => ?_)
       exact ⟨_, (.int .i64 (r.length : Int)), _, _, _, _, _, _, _, _, _, _, _, _, _, _, _, _, _, _, _, _, _, _, _, _, _, _, _, _, _, _, _, _, _, _, by exact hs.setAt 1 rfl, HS, f0, fun _ => rfl, f2, f3, f4, f5, f6, f7, f8, f9, f10, f11, f12, f13, f14, f15, f16, f17, f18, f19, f20, f21, f22, f23, f24, f25, f26, f27, f28, f29, f30, f31, f32, f33, f34, f35⟩
      | 2, _ =>
       have h1 : b 1 = true := hd 1 (by decide)
       obtain rfl := f1 h1
       refine GO.at hs ?_
       refine GO.neq rfl rfl rfl rfl ?_
       refine GO.fin (fun a hs => ?_)
       exact ⟨_, _, (.bool (!(decide ((r.length : Int) = 3)))), _, _, _, _, _, _, _, _, _, _, _, _, _, _, _, _, _, _, _, _, _, _, _, _, _, _, _, _, _, _, _, _, _, by exact hs.setAt 2 rfl, HS, f0, f1, fun _ => rfl, f3, f4, f5, f6, f7, f8, f9, f10, f11, f12, f13, f14, f15, f16, f17, f18, f19, f20, f21, f22, f23, f24, f25, f26, f27, f28, f29, f30, f31, f32, f33, f34, f35⟩
      | 3, _ =>
       have h2 : b 2 = true := hd 2 (by decide)
       obtain rfl := f2 h2
       refine GO.at hs ?_
       refine GO.move rfl rfl rfl ?_
       refine GO.known (t := 7) rfl (congrArg Bool.not (decide_eq_true c7)) ?_
       refine GO.fin (fun a hs => ?_)
       exact ⟨_, _, _, (.bool false), _, _, _, _, _, _, _, _, _, _, _, _, _, _, _, _, _, _, _, _, _, _, _, _, _, _, _, _, _, _, _, _, hs.weak ⟨rfl, rfl, rfl, rfl, rfl, rfl, rfl, rfl, rfl, rfl, rfl, rfl, rfl, rfl, rfl, rfl, rfl, rfl, rfl, rfl, rfl, rfl, rfl, rfl, rfl, rfl, rfl, rfl, rfl, rfl, rfl, rfl, rfl, rfl, rfl, rfl, rfl, trivial⟩, HS, f0, f1, f2, fun _ => rfl, f4, f5, f6, f7, f8, f9, f10, f11, f12, f13, f14, f15, f16, f17, f18, f19, f20, f21, f22, f23, f24, f25, f26, f27, f28, f29, f30, f31, f32, f33, f34, f35⟩
      | 4, _ =>
       have h3 : b 3 = true := hd 3 (by decide)
       obtain rfl := f3 h3
       refine GO.at hs ?_
       refine GO.on rfl rfl rfl rfl ?_
       refine GO.move rfl rfl rfl ?_
       refine GO.back ?_
       refine GO.fin (fun a hs => ?_)
       exact ⟨_, _, _, _, (.slice A_r r.length c_r), _, _, _, _, _, _, _, _, _, _, _, _, _, _, _, _, _, _, _, _, _, _, _, _, _, _, _, _, _, _, _, by exact hs.setAt 4 rfl, HS, f0, f1, f2, f3, fun _ => rfl, f5, f6, f7, f8, f9, f10, f11, f12, f13, f14, f15, f16, f17, f18, f19, f20, f21, f22, f23, f24, f25, f26, f27, f28, f29, f30, f31, f32, f33, f34, f35⟩
      | 5, _ =>
       have h3 : b 3 = true := hd 3 (by decide)
       obtain rfl := f3 h3
       have h4 : b 4 = true := hd 4 (by decide)
       obtain rfl := f4 h4
       refine GO.at hs ?_
       refine GO.on rfl rfl rfl rfl ?_
       refine GO.ix rfl rfl rfl Try.underlying43 sz2 (h_r _ HS).2.2.1 c8.1 c8.2 rfl ?_
       refine GO.back ?_
       refine GO.fin (fun a hs => ?_)
       exact ⟨_, _, _, _, _, (.pointer (some (ea A_r (0 * 1)))), _, _, _, _, _, _, _, _, _, _, _, _, _, _, _, _, _, _, _, _, _, _, _, _, _, _, _, _, _, _, by exact hs.setAt 5 rfl, HS, f0, f1, f2, f3, f4, fun _ => rfl, f6, f7, f8, f9, f10, f11, f12, f13, f14, f15, f16, f17, f18, f19, f20, f21, f22, f23, f24, f25, f26, f27, f28, f29, f30, f31, f32, f33, f34, f35⟩
      | 6, _ =>
       have h3 : b 3 = true := hd 3 (by decide)
       obtain rfl := f3 h3
       have h5 : b 5 = true := hd 5 (by decide)
       obtain rfl := f5 h5
       refine GO.at hs ?_
       refine GO.on rfl rfl rfl rfl ?_
       refine GO.ldRd (T := (TInt .i64)) (n := 0) (o := 0) HS h_r rfl rfl (getD_some (d := 0) (ltN c8)) rfl rfl na2 rfl ?_
       refine GO.back ?_
       refine GO.fin (fun a hs => ?_)
       exact ⟨_, _, _, _, _, _, (.int .i64 (r.getD 0 0)), _, _, _, _, _, _, _, _, _, _, _, _, _, _, _, _, _, _, _, _, _, _, _, _, _, _, _, _, _, by exact hs.setAt 6 rfl, HS, f0, f1, f2, f3, f4, f5, fun _ => rfl, f7, f8, f9, f10, f11, f12, f13, f14, f15, f16, f17, f18, f19, f20, f21, f22, f23, f24, f25, f26, f27, f28, f29, f30, f31, f32, f33, f34, f35⟩
      | 7, _ =>
       have h3 : b 3 = true := hd 3 (by decide)
       obtain rfl := f3 h3
       have h6 : b 6 = true := hd 6 (by decide)
       obtain rfl := f6 h6
       refine GO.at hs ?_
       refine GO.on rfl rfl rfl rfl ?_
       refine GO.quo rfl rfl rfl (by decide) rfl ?_
       refine GO.back ?_
       refine GO.fin (fun a hs => ?_)
       exact ⟨_, _, _, _, _, _, _, (.int .i64 (w64 ((r.getD 0 0).tdiv 4))), _, _, _, _, _, _, _, _, _, _, _, _, _, _, _, _, _, _, _, _, _, _, _, _, _, _, _, _, by exact hs.setAt 7 rfl, HS, f0, f1, f2, f3, f4, f5, f6, fun _ => rfl, f8, f9, f10, f11, f12, f13, f14, f15, f16, f17, f18, f19, f20, f21, f22, f23, f24, f25, f26, f27, f28, f29, f30, f31, f32, f33, f34, f35⟩
      | 8, _ =>
       have h3 : b 3 = true := hd 3 (by decide)
       obtain rfl := f3 h3
       refine GO.at hs ?_
       refine GO.on rfl rfl rfl rfl ?_
       refine GO.move rfl rfl rfl ?_
       refine GO.back ?_
       refine GO.fin (fun a hs => ?_)
       exact ⟨_, _, _, _, _, _, _, _, (.slice A_r r.length c_r), _, _, _, _, _, _, _, _, _, _, _, _, _, _, _, _, _, _, _, _, _, _, _, _, _, _, _, by exact hs.setAt 8 rfl, HS, f0, f1, f2, f3, f4, f5, f6, f7, fun _ => rfl, f9, f10, f11, f12, f13, f14, f15, f16, f17, f18, f19, f20, f21, f22, f23, f24, f25, f26, f27, f28, f29, f30, f31, f32, f33, f34, f35⟩
      | 9, _ =>
       have h3 : b 3 = true := hd 3 (by decide)
       obtain rfl := f3 h3
       have h8 : b 8 = true := hd 8 (by decide)
       obtain rfl := f8 h8
       refine GO.at hs ?_
       refine GO.on rfl rfl rfl rfl ?_
       refine GO.ix rfl rfl rfl Try.underlying43 sz2 (h_r _ HS).2.2.1 c9.1 c9.2 rfl ?_
       refine GO.back ?_
       refine GO.fin (fun a hs => ?_)
       exact ⟨_, _, _, _, _, _, _, _, _, (.pointer (some (ea A_r (1 * 1)))), _, _, _, _, _, _, _, _, _, _, _, _, _, _, _, _, _, _, _, _, _, _, _, _, _, _, by exact hs.setAt 9 rfl, HS, f0, f1, f2, f3, f4, f5, f6, f7, f8, fun _ => rfl, f10, f11, f12, f13, f14, f15, f16, f17, f18, f19, f20, f21, f22, f23, f24, f25, f26, f27, f28, f29, f30, f31, f32, f33, f34, f35⟩
      | 10, _ =>
       have h3 : b 3 = true := hd 3 (by decide)
       obtain rfl := f3 h3
       have h9 : b 9 = true := hd 9 (by decide)
       obtain rfl := f9 h9
       refine GO.at hs ?_
       refine GO.on rfl rfl rfl rfl ?_
       refine GO.ldRd (T := (TInt .i64)) (n := 1) (o := 0) HS h_r rfl rfl (getD_some (d := 0) (ltN c9)) rfl rfl na2 rfl ?_
       refine GO.back ?_
       refine GO.fin (fun a hs => ?_)
       exact ⟨_, _, _, _, _, _, _, _, _, _, (.int .i64 (r.getD 1 0)), _, _, _, _, _, _, _, _, _, _, _, _, _, _, _, _, _, _, _, _, _, _, _, _, _, by exact hs.setAt 10 rfl, HS, f0, f1, f2, f3, f4, f5, f6, f7, f8, f9, fun _ => rfl, f11, f12, f13, f14, f15, f16, f17, f18, f19, f20, f21, f22, f23, f24, f25, f26, f27, f28, f29, f30, f31, f32, f33, f34, f35⟩
      | 11, _ =>
       have h3 : b 3 = true := hd 3 (by decide)
       obtain rfl := f3 h3
       have h10 : b 10 = true := hd 10 (by decide)
       obtain rfl := f10 h10
       refine GO.at hs ?_
       refine GO.on rfl rfl rfl rfl ?_
       refine GO.quo rfl rfl rfl (by decide) rfl ?_
       refine GO.back ?_
       refine GO.fin (fun a hs => ?_)
       exact ⟨_, _, _, _, _, _, _, _, _, _, _, (.int .i64 (w64 ((r.getD 1 0).tdiv 4))), _, _, _, _, _, _, _, _, _, _, _, _, _, _, _, _, _, _, _, _, _, _, _, _, by exact hs.setAt 11 rfl, HS, f0, f1, f2, f3, f4, f5, f6, f7, f8, f9, f10, fun _ => rfl, f12, f13, f14, f15, f16, f17, f18, f19, f20, f21, f22, f23, f24, f25, f26, f27, f28, f29, f30, f31, f32, f33, f34, f35⟩
      | 12, _ =>
       have h3 : b 3 = true := hd 3 (by decide)
       obtain rfl := f3 h3
       have h7 : b 7 = true := hd 7 (by decide)
       obtain rfl := f7 h7
       have h11 : b 11 = true := hd 11 (by decide)
       obtain rfl := f11 h11
       refine GO.at hs ?_
       refine GO.on rfl rfl rfl rfl ?_
       refine GO.eql rfl rfl rfl rfl ?_
       refine GO.back ?_
       refine GO.fin (fun a hs => ?_)
       exact ⟨_, _, _, _, _, _, _, _, _, _, _, _, (.bool (decide (w64 ((r.getD 0 0).tdiv 4) = w64 ((r.getD 1 0).tdiv 4)))), _, _, _, _, _, _, _, _, _, _, _, _, _, _, _, _, _, _, _, _, _, _, _, by exact hs.setAt 12 rfl, HS, f0, f1, f2, f3, f4, f5, f6, f7, f8, f9, f10, f11, fun _ => rfl, f13, f14, f15, f16, f17, f18, f19, f20, f21, f22, f23, f24, f25, f26, f27, f28, f29, f30, f31, f32, f33, f34, f35⟩
      | 13, _ =>
       have h3 : b 3 = true := hd 3 (by decide)
       obtain rfl := f3 h3
       have h12 : b 12 = true := hd 12 (by decide)
       obtain rfl := f12 h12
       refine GO.at hs ?_
       refine GO.pickF rfl rfl rfl rfl rfl ?_
       refine GO.fin (fun a hs => ?_)
       exact ⟨_, _, _, _, _, _, _, _, _, _, _, _, _, (.bool (decide (w64 ((r.getD 0 0).tdiv 4) = w64 ((r.getD 1 0).tdiv 4)))), _, _, _, _, _, _, _, _, _, _, _, _, _, _, _, _, _, _, _, _, _, _, by exact hs.setAt 13 rfl, HS, f0, f1, f2, f3, f4, f5, f6, f7, f8, f9, f10, f11, f12, fun _ => rfl, f14, f15, f16, f17, f18, f19, f20, f21, f22, f23, f24, f25, f26, f27, f28, f29, f30, f31, f32, f33, f34, f35⟩
      | 14, _ =>
       have h13 : b 13 = true := hd 13 (by decide)
       obtain rfl := f13 h13
       refine GO.at hs ?_
       refine GO.move rfl rfl rfl ?_
       refine GO.known (t := 18) rfl (decide_eq_false c10) ?_
       refine GO.fin (fun a hs => ?_)
       exact ⟨_, _, _, _, _, _, _, _, _, _, _, _, _, _, (.bool false), _, _, _, _, _, _, _, _, _, _, _, _, _, _, _, _, _, _, _, _, _, hs.weak ⟨rfl, rfl, rfl, rfl, rfl, rfl, rfl, rfl, rfl, rfl, rfl, rfl, rfl, rfl, rfl, rfl, rfl, rfl, rfl, rfl, rfl, rfl, rfl, rfl, rfl, rfl, rfl, rfl, rfl, rfl, rfl, rfl, rfl, rfl, rfl, rfl, rfl, trivial⟩, HS, f0, f1, f2, f3, f4, f5, f6, f7, f8, f9, f10, f11, f12, f13, fun _ => rfl, f15, f16, f17, f18, f19, f20, f21, f22, f23, f24, f25, f26, f27, f28, f29, f30, f31, f32, f33, f34, f35⟩
      | 15, _ =>
       have h14 : b 14 = true := hd 14 (by decide)
       obtain rfl := f14 h14
       refine GO.at hs ?_
       refine GO.on rfl rfl rfl rfl ?_
       refine GO.move rfl rfl rfl ?_
       refine GO.back ?_
       refine GO.fin (fun a hs => ?_)
       exact ⟨_, _, _, _, _, _, _, _, _, _, _, _, _, _, _, (.slice A_r r.length c_r), _, _, _, _, _, _, _, _, _, _, _, _, _, _, _, _, _, _, _, _, by exact hs.setAt 15 rfl, HS, f0, f1, f2, f3, f4, f5, f6, f7, f8, f9, f10, f11, f12, f13, f14, fun _ => rfl, f16, f17, f18, f19, f20, f21, f22, f23, f24, f25, f26, f27, f28, f29, f30, f31, f32, f33, f34, f35⟩
      | 16, _ =>
       have h14 : b 14 = true := hd 14 (by decide)
       obtain rfl := f14 h14
       have h15 : b 15 = true := hd 15 (by decide)
       obtain rfl := f15 h15
       refine GO.at hs ?_
       refine GO.on rfl rfl rfl rfl ?_
       refine GO.ix rfl rfl rfl Try.underlying43 sz2 (h_r _ HS).2.2.1 c8.1 c8.2 rfl ?_
       refine GO.back ?_
       refine GO.fin (fun a hs => ?_)
       exact ⟨_, _, _, _, _, _, _, _, _, _, _, _, _, _, _, _, (.pointer (some (ea A_r (0 * 1)))), _, _, _, _, _, _, _, _, _, _, _, _, _, _, _, _, _, _, _, by exact hs.setAt 16 rfl, HS, f0, f1, f2, f3, f4, f5, f6, f7, f8, f9, f10, f11, f12, f13, f14, f15, fun _ => rfl, f17, f18, f19, f20, f21, f22, f23, f24, f25, f26, f27, f28, f29, f30, f31, f32, f33, f34, f35⟩
      | 17, _ =>
       have h14 : b 14 = true := hd 14 (by decide)
       obtain rfl := f14 h14
       have h16 : b 16 = true := hd 16 (by decide)
       obtain rfl := f16 h16
       refine GO.at hs ?_
       refine GO.on rfl rfl rfl rfl ?_
       refine GO.ldRd (T := (TInt .i64)) (n := 0) (o := 0) HS h_r rfl rfl (getD_some (d := 0) (ltN c8)) rfl rfl na2 rfl ?_
       refine GO.back ?_
       refine GO.fin (fun a hs => ?_)
       exact ⟨_, _, _, _, _, _, _, _, _, _, _, _, _, _, _, _, _, (.int .i64 (r.getD 0 0)), _, _, _, _, _, _, _, _, _, _, _, _, _, _, _, _, _, _, by exact hs.setAt 17 rfl, HS, f0, f1, f2, f3, f4, f5, f6, f7, f8, f9, f10, f11, f12, f13, f14, f15, f16, fun _ => rfl, f18, f19, f20, f21, f22, f23, f24, f25, f26, f27, f28, f29, f30, f31, f32, f33, f34, f35⟩
      | 18, _ =>
       have h14 : b 14 = true := hd 14 (by decide)
       obtain rfl := f14 h14
       have h17 : b 17 = true := hd 17 (by decide)
       obtain rfl := f17 h17
       refine GO.at hs ?_
       refine GO.on rfl rfl rfl rfl ?_
       refine GO.quo rfl rfl rfl (by decide) rfl ?_
       refine GO.back ?_
       refine GO.fin (fun a hs => ?_)
       exact ⟨_, _, _, _, _, _, _, _, _, _, _, _, _, _, _, _, _, _, (.int .i64 (w64 ((r.getD 0 0).tdiv 4))), _, _, _, _, _, _, _, _, _, _, _, _, _, _, _, _, _, by exact hs.setAt 18 rfl, HS, f0, f1, f2, f3, f4, f5, f6, f7, f8, f9, f10, f11, f12, f13, f14, f15, f16, f17, fun _ => rfl, f19, f20, f21, f22, f23, f24, f25, f26, f27, f28, f29, f30, f31, f32, f33, f34, f35⟩
      | 19, _ =>
       have h14 : b 14 = true := hd 14 (by decide)
       obtain rfl := f14 h14
       refine GO.at hs ?_
       refine GO.on rfl rfl rfl rfl ?_
       refine GO.move rfl rfl rfl ?_
       refine GO.back ?_
       refine GO.fin (fun a hs => ?_)
       exact ⟨_, _, _, _, _, _, _, _, _, _, _, _, _, _, _, _, _, _, _, (.slice A_r r.length c_r), _, _, _, _, _, _, _, _, _, _, _, _, _, _, _, _, by exact hs.setAt 19 rfl, HS, f0, f1, f2, f3, f4, f5, f6, f7, f8, f9, f10, f11, f12, f13, f14, f15, f16, f17, f18, fun _ => rfl, f20, f21, f22, f23, f24, f25, f26, f27, f28, f29, f30, f31, f32, f33, f34, f35⟩
      | 20, _ =>
       have h14 : b 14 = true := hd 14 (by decide)
       obtain rfl := f14 h14
       have h19 : b 19 = true := hd 19 (by decide)
       obtain rfl := f19 h19
       refine GO.at hs ?_
       refine GO.on rfl rfl rfl rfl ?_
       refine GO.ix rfl rfl rfl Try.underlying43 sz2 (h_r _ HS).2.2.1 c11.1 c11.2 rfl ?_
       refine GO.back ?_
       refine GO.fin (fun a hs => ?_)
       exact ⟨_, _, _, _, _, _, _, _, _, _, _, _, _, _, _, _, _, _, _, _, (.pointer (some (ea A_r (2 * 1)))), _, _, _, _, _, _, _, _, _, _, _, _, _, _, _, by exact hs.setAt 20 rfl, HS, f0, f1, f2, f3, f4, f5, f6, f7, f8, f9, f10, f11, f12, f13, f14, f15, f16, f17, f18, f19, fun _ => rfl, f21, f22, f23, f24, f25, f26, f27, f28, f29, f30, f31, f32, f33, f34, f35⟩
      | 21, _ =>
       have h14 : b 14 = true := hd 14 (by decide)
       obtain rfl := f14 h14
       have h20 : b 20 = true := hd 20 (by decide)
       obtain rfl := f20 h20
       refine GO.at hs ?_
       refine GO.on rfl rfl rfl rfl ?_
       refine GO.ldRd (T := (TInt .i64)) (n := 2) (o := 0) HS h_r rfl rfl (getD_some (d := 0) (ltN c11)) rfl rfl na2 rfl ?_
       refine GO.back ?_
       refine GO.fin (fun a hs => ?_)
       exact ⟨_, _, _, _, _, _, _, _, _, _, _, _, _, _, _, _, _, _, _, _, _, (.int .i64 (r.getD 2 0)), _, _, _, _, _, _, _, _, _, _, _, _, _, _, by exact hs.setAt 21 rfl, HS, f0, f1, f2, f3, f4, f5, f6, f7, f8, f9, f10, f11, f12, f13, f14, f15, f16, f17, f18, f19, f20, fun _ => rfl, f22, f23, f24, f25, f26, f27, f28, f29, f30, f31, f32, f33, f34, f35⟩
      | 22, _ =>
       have h14 : b 14 = true := hd 14 (by decide)
       obtain rfl := f14 h14
       have h21 : b 21 = true := hd 21 (by decide)
       obtain rfl := f21 h21
       refine GO.at hs ?_
       refine GO.on rfl rfl rfl rfl ?_
       refine GO.quo rfl rfl rfl (by decide) rfl ?_
       refine GO.back ?_
       refine GO.fin (fun a hs => ?_)
       exact ⟨_, _, _, _, _, _, _, _, _, _, _, _, _, _, _, _, _, _, _, _, _, _, (.int .i64 (w64 ((r.getD 2 0).tdiv 4))), _, _, _, _, _, _, _, _, _, _, _, _, _, by exact hs.setAt 22 rfl, HS, f0, f1, f2, f3, f4, f5, f6, f7, f8, f9, f10, f11, f12, f13, f14, f15, f16, f17, f18, f19, f20, f21, fun _ => rfl, f23, f24, f25, f26, f27, f28, f29, f30, f31, f32, f33, f34, f35⟩
      | 23, _ =>
       have h14 : b 14 = true := hd 14 (by decide)
       obtain rfl := f14 h14
       have h18 : b 18 = true := hd 18 (by decide)
       obtain rfl := f18 h18
       have h22 : b 22 = true := hd 22 (by decide)
       obtain rfl := f22 h22
       refine GO.at hs ?_
       refine GO.on rfl rfl rfl rfl ?_
       refine GO.eql rfl rfl rfl rfl ?_
       refine GO.back ?_
       refine GO.fin (fun a hs => ?_)
       exact ⟨_, _, _, _, _, _, _, _, _, _, _, _, _, _, _, _, _, _, _, _, _, _, _, (.bool (decide (w64 ((r.getD 0 0).tdiv 4) = w64 ((r.getD 2 0).tdiv 4)))), _, _, _, _, _, _, _, _, _, _, _, _, by exact hs.setAt 23 rfl, HS, f0, f1, f2, f3, f4, f5, f6, f7, f8, f9, f10, f11, f12, f13, f14, f15, f16, f17, f18, f19, f20, f21, f22, fun _ => rfl, f24, f25, f26, f27, f28, f29, f30, f31, f32, f33, f34, f35⟩
      | 24, _ =>
       have h14 : b 14 = true := hd 14 (by decide)
       obtain rfl := f14 h14
       have h23 : b 23 = true := hd 23 (by decide)
       obtain rfl := f23 h23
       refine GO.at hs ?_
       refine GO.pickF rfl rfl rfl rfl rfl ?_
       refine GO.fin (fun a hs => ?_)
       exact ⟨_, _, _, _, _, _, _, _, _, _, _, _, _, _, _, _, _, _, _, _, _, _, _, _, (.bool (decide (w64 ((r.getD 0 0).tdiv 4) = w64 ((r.getD 2 0).tdiv 4)))), _, _, _, _, _, _, _, _, _, _, _, by exact hs.setAt 24 rfl, HS, f0, f1, f2, f3, f4, f5, f6, f7, f8, f9, f10, f11, f12, f13, f14, f15, f16, f17, f18, f19, f20, f21, f22, f23, fun _ => rfl, f25, f26, f27, f28, f29, f30, f31, f32, f33, f34, f35⟩
      | 25, _ =>
       have h24 : b 24 = true := hd 24 (by decide)
       obtain rfl := f24 h24
       refine GO.at hs ?_
       refine GO.move rfl rfl rfl ?_
       refine GO.known (t := 29) rfl (decide_eq_false c12) ?_
       refine GO.fin (fun a hs => ?_)
       exact ⟨_, _, _, _, _, _, _, _, _, _, _, _, _, _, _, _, _, _, _, _, _, _, _, _, _, (.bool false), _, _, _, _, _, _, _, _, _, _, hs.weak ⟨rfl, rfl, rfl, rfl, rfl, rfl, rfl, rfl, rfl, rfl, rfl, rfl, rfl, rfl, rfl, rfl, rfl, rfl, rfl, rfl, rfl, rfl, rfl, rfl, rfl, rfl, rfl, rfl, rfl, rfl, rfl, rfl, rfl, rfl, rfl, rfl, rfl, trivial⟩, HS, f0, f1, f2, f3, f4, f5, f6, f7, f8, f9, f10, f11, f12, f13, f14, f15, f16, f17, f18, f19, f20, f21, f22, f23, f24, fun _ => rfl, f26, f27, f28, f29, f30, f31, f32, f33, f34, f35⟩
      | 26, _ =>
       have h25 : b 25 = true := hd 25 (by decide)
       obtain rfl := f25 h25
       refine GO.at hs ?_
       refine GO.on rfl rfl rfl rfl ?_
       refine GO.move rfl rfl rfl ?_
       refine GO.back ?_
       refine GO.fin (fun a hs => ?_)
       exact ⟨_, _, _, _, _, _, _, _, _, _, _, _, _, _, _, _, _, _, _, _, _, _, _, _, _, _, (.slice A_r r.length c_r), _, _, _, _, _, _, _, _, _, by exact hs.setAt 26 rfl, HS, f0, f1, f2, f3, f4, f5, f6, f7, f8, f9, f10, f11, f12, f13, f14, f15, f16, f17, f18, f19, f20, f21, f22, f23, f24, f25, fun _ => rfl, f27, f28, f29, f30, f31, f32, f33, f34, f35⟩
      | 27, _ =>
       have h25 : b 25 = true := hd 25 (by decide)
       obtain rfl := f25 h25
       have h26 : b 26 = true := hd 26 (by decide)
       obtain rfl := f26 h26
       refine GO.at hs ?_
       refine GO.on rfl rfl rfl rfl ?_
       refine GO.ix rfl rfl rfl Try.underlying43 sz2 (h_r _ HS).2.2.1 c9.1 c9.2 rfl ?_
       refine GO.back ?_
       refine GO.fin (fun a hs => ?_)
       exact ⟨_, _, _, _, _, _, _, _, _, _, _, _, _, _, _, _, _, _, _, _, _, _, _, _, _, _, _, (.pointer (some (ea A_r (1 * 1)))), _, _, _, _, _, _, _, _, by exact hs.setAt 27 rfl, HS, f0, f1, f2, f3, f4, f5, f6, f7, f8, f9, f10, f11, f12, f13, f14, f15, f16, f17, f18, f19, f20, f21, f22, f23, f24, f25, f26, fun _ => rfl, f28, f29, f30, f31, f32, f33, f34, f35⟩
      | 28, _ =>
       have h25 : b 25 = true := hd 25 (by decide)
       obtain rfl := f25 h25
       have h27 : b 27 = true := hd 27 (by decide)
       obtain rfl := f27 h27
       refine GO.at hs ?_
       refine GO.on rfl rfl rfl rfl ?_
       refine GO.ldRd (T := (TInt .i64)) (n := 1) (o := 0) HS h_r rfl rfl (getD_some (d := 0) (ltN c9)) rfl rfl na2 rfl ?_
       refine GO.back ?_
       refine GO.fin (fun a hs => ?_)
       exact ⟨_, _, _, _, _, _, _, _, _, _, _, _, _, _, _, _, _, _, _, _, _, _, _, _, _, _, _, _, (.int .i64 (r.getD 1 0)), _, _, _, _, _, _, _, by exact hs.setAt 28 rfl, HS, f0, f1, f2, f3, f4, f5, f6, f7, f8, f9, f10, f11, f12, f13, f14, f15, f16, f17, f18, f19, f20, f21, f22, f23, f24, f25, f26, f27, fun _ => rfl, f29, f30, f31, f32, f33, f34, f35⟩
      | 29, _ =>
       have h25 : b 25 = true := hd 25 (by decide)
       obtain rfl := f25 h25
       have h28 : b 28 = true := hd 28 (by decide)
       obtain rfl := f28 h28
       refine GO.at hs ?_
       refine GO.on rfl rfl rfl rfl ?_
       refine GO.quo rfl rfl rfl (by decide) rfl ?_
       refine GO.back ?_
       refine GO.fin (fun a hs => ?_)
       exact ⟨_, _, _, _, _, _, _, _, _, _, _, _, _, _, _, _, _, _, _, _, _, _, _, _, _, _, _, _, _, (.int .i64 (w64 ((r.getD 1 0).tdiv 4))), _, _, _, _, _, _, by exact hs.setAt 29 rfl, HS, f0, f1, f2, f3, f4, f5, f6, f7, f8, f9, f10, f11, f12, f13, f14, f15, f16, f17, f18, f19, f20, f21, f22, f23, f24, f25, f26, f27, f28, fun _ => rfl, f30, f31, f32, f33, f34, f35⟩
      | 30, _ =>
       have h25 : b 25 = true := hd 25 (by decide)
       obtain rfl := f25 h25
       refine GO.at hs ?_
       refine GO.on rfl rfl rfl rfl ?_
       refine GO.move rfl rfl rfl ?_
       refine GO.back ?_
       refine GO.fin (fun a hs => ?_)
       exact ⟨_, _, _, _, _, _, _, _, _, _, _, _, _, _, _, _, _, _, _, _, _, _, _, _, _, _, _, _, _, _, (.slice A_r r.length c_r), _, _, _, _, _, by exact hs.setAt 30 rfl, HS, f0, f1, f2, f3, f4, f5, f6, f7, f8, f9, f10, f11, f12, f13, f14, f15, f16, f17, f18, f19, f20, f21, f22, f23, f24, f25, f26, f27, f28, f29, fun _ => rfl, f31, f32, f33, f34, f35⟩
      | 31, _ =>
       have h25 : b 25 = true := hd 25 (by decide)
       obtain rfl := f25 h25
       have h30 : b 30 = true := hd 30 (by decide)
       obtain rfl := f30 h30
       refine GO.at hs ?_
       refine GO.on rfl rfl rfl rfl ?_
       refine GO.ix rfl rfl rfl Try.underlying43 sz2 (h_r _ HS).2.2.1 c11.1 c11.2 rfl ?_
       refine GO.back ?_
       refine GO.fin (fun a hs => ?_)
       exact ⟨_, _, _, _, _, _, _, _, _, _, _, _, _, _, _, _, _, _, _, _, _, _, _, _, _, _, _, _, _, _, _, (.pointer (some (ea A_r (2 * 1)))), _, _, _, _, by exact hs.setAt 31 rfl, HS, f0, f1, f2, f3, f4, f5, f6, f7, f8, f9, f10, f11, f12, f13, f14, f15, f16, f17, f18, f19, f20, f21, f22, f23, f24, f25, f26, f27, f28, f29, f30, fun _ => rfl, f32, f33, f34, f35⟩
      | 32, _ =>
       have h25 : b 25 = true := hd 25 (by decide)
       obtain rfl := f25 h25
       have h31 : b 31 = true := hd 31 (by decide)
       obtain rfl := f31 h31
       refine GO.at hs ?_
       refine GO.on rfl rfl rfl rfl ?_
       refine GO.ldRd (T := (TInt .i64)) (n := 2) (o := 0) HS h_r rfl rfl (getD_some (d := 0) (ltN c11)) rfl rfl na2 rfl ?_
       refine GO.back ?_
       refine GO.fin (fun a hs => ?_)
       exact ⟨_, _, _, _, _, _, _, _, _, _, _, _, _, _, _, _, _, _, _, _, _, _, _, _, _, _, _, _, _, _, _, _, (.int .i64 (r.getD 2 0)), _, _, _, by exact hs.setAt 32 rfl, HS, f0, f1, f2, f3, f4, f5, f6, f7, f8, f9, f10, f11, f12, f13, f14, f15, f16, f17, f18, f19, f20, f21, f22, f23, f24, f25, f26, f27, f28, f29, f30, f31, fun _ => rfl, f33, f34, f35⟩
      | 33, _ =>
       have h25 : b 25 = true := hd 25 (by decide)
       obtain rfl := f25 h25
       have h32 : b 32 = true := hd 32 (by decide)
       obtain rfl := f32 h32
       refine GO.at hs ?_
       refine GO.on rfl rfl rfl rfl ?_
       refine GO.quo rfl rfl rfl (by decide) rfl ?_
       refine GO.back ?_
       refine GO.fin (fun a hs => ?_)
       exact ⟨_, _, _, _, _, _, _, _, _, _, _, _, _, _, _, _, _, _, _, _, _, _, _, _, _, _, _, _, _, _, _, _, _, (.int .i64 (w64 ((r.getD 2 0).tdiv 4))), _, _, by exact hs.setAt 33 rfl, HS, f0, f1, f2, f3, f4, f5, f6, f7, f8, f9, f10, f11, f12, f13, f14, f15, f16, f17, f18, f19, f20, f21, f22, f23, f24, f25, f26, f27, f28, f29, f30, f31, f32, fun _ => rfl, f34, f35⟩
      | 34, _ =>
       have h25 : b 25 = true := hd 25 (by decide)
       obtain rfl := f25 h25
       have h29 : b 29 = true := hd 29 (by decide)
       obtain rfl := f29 h29
       have h33 : b 33 = true := hd 33 (by decide)
       obtain rfl := f33 h33
       refine GO.at hs ?_
       refine GO.on rfl rfl rfl rfl ?_
       refine GO.eql rfl rfl rfl rfl ?_
       refine GO.back ?_
       refine GO.fin (fun a hs => ?_)
       exact ⟨_, _, _, _, _, _, _, _, _, _, _, _, _, _, _, _, _, _, _, _, _, _, _, _, _, _, _, _, _, _, _, _, _, _, (.bool (decide (w64 ((r.getD 1 0).tdiv 4) = w64 ((r.getD 2 0).tdiv 4)))), _, by exact hs.setAt 34 rfl, HS, f0, f1, f2, f3, f4, f5, f6, f7, f8, f9, f10, f11, f12, f13, f14, f15, f16, f17, f18, f19, f20, f21, f22, f23, f24, f25, f26, f27, f28, f29, f30, f31, f32, f33, fun _ => rfl, f35⟩
      | 35, _ =>
       have h25 : b 25 = true := hd 25 (by decide)
       obtain rfl := f25 h25
       have h34 : b 34 = true := hd 34 (by decide)
       obtain rfl := f34 h34
       refine GO.at hs ?_
       refine GO.pickF rfl rfl rfl rfl rfl ?_
       refine GO.fin (fun a hs => ?_)
       exact ⟨_, _, _, _, _, _, _, _, _, _, _, _, _, _, _, _, _, _, _, _, _, _, _, _, _, _, _, _, _, _, _, _, _, _, _, (.bool (decide (w64 ((r.getD 1 0).tdiv 4) = w64 ((r.getD 2 0).tdiv 4)))), by exact hs.setAt 35 rfl, HS, f0, f1, f2, f3, f4, f5, f6, f7, f8, f9, f10, f11, f12, f13, f14, f15, f16, f17, f18, f19, f20, f21, f22, f23, f24, f25, f26, f27, f28, f29, f30, f31, f32, f33, f34, fun _ => rfl⟩
      | k + 36, hj => exact absurd hj (Nat.not_lt.2 (Nat.le_add_left 36 k))
     ·
      intro b a w hall
      refine exI fun Y73_0 => exI fun Y74_1 => exI fun Y75_2 => exI fun Y76_3 => exI fun Y77_4 => exI fun Y78_5 => exI fun Y79_6 => exI fun Y80_7 => exI fun Y81_8 => exI fun Y82_9 => exI fun Y83_10 => exI fun Y84_11 => exI fun Y85_12 => exI fun Y86_13 => exI fun Y87_14 => exI fun Y88_15 => exI fun Y89_16 => exI fun Y90_17 => exI fun Y91_18 => exI fun Y92_19 => exI fun Y93_20 => exI fun Y94_21 => exI fun Y95_22 => exI fun Y96_23 => exI fun Y97_24 => exI fun Y98_25 => exI fun Y99_26 => exI fun Y100_27 => exI fun Y101_28 => exI fun Y102_29 => exI fun Y103_30 => exI fun Y104_31 => exI fun Y105_32 => exI fun Y106_33 => exI fun Y107_34 => exI fun Y108_35 => anI fun hs => anI fun HS => anI fun f0 => anI fun f1 => anI fun f2 => anI fun f3 => anI fun f4 => anI fun f5 => anI fun f6 => anI fun f7 => anI fun f8 => anI fun f9 => anI fun f10 => anI fun f11 => anI fun f12 => anI fun f13 => anI fun f14 => anI fun f15 => anI fun f16 => anI fun f17 => anI fun f18 => anI fun f19 => anI fun f20 => anI fun f21 => anI fun f22 => anI fun f23 => anI fun f24 => anI fun f25 => anI fun f26 => anI fun f27 => anI fun f28 => anI fun f29 => anI fun f30 => anI fun f31 => anI fun f32 => anI fun f33 => anI fun f34 => fun f35 => ?_
      obtain rfl := f0 (hall 0 (by decide))
      obtain rfl := f1 (hall 1 (by decide))
      obtain rfl := f2 (hall 2 (by decide))
      obtain rfl := f3 (hall 3 (by decide))
      obtain rfl := f4 (hall 4 (by decide))
      obtain rfl := f5 (hall 5 (by decide))
      obtain rfl := f6 (hall 6 (by decide))
      obtain rfl := f7 (hall 7 (by decide))
      obtain rfl := f8 (hall 8 (by decide))
      obtain rfl := f9 (hall 9 (by decide))
      obtain rfl := f10 (hall 10 (by decide))
      obtain rfl := f11 (hall 11 (by decide))
      obtain rfl := f12 (hall 12 (by decide))
      obtain rfl := f13 (hall 13 (by decide))
      obtain rfl := f14 (hall 14 (by decide))
      obtain rfl := f15 (hall 15 (by decide))
      obtain rfl := f16 (hall 16 (by decide))
      obtain rfl := f17 (hall 17 (by decide))
      obtain rfl := f18 (hall 18 (by decide))
      obtain rfl := f19 (hall 19 (by decide))
      obtain rfl := f20 (hall 20 (by decide))
      obtain rfl := f21 (hall 21 (by decide))
      obtain rfl := f22 (hall 22 (by decide))
      obtain rfl := f23 (hall 23 (by decide))
      obtain rfl := f24 (hall 24 (by decide))
      obtain rfl := f25 (hall 25 (by decide))
      obtain rfl := f26 (hall 26 (by decide))
      obtain rfl := f27 (hall 27 (by decide))
      obtain rfl := f28 (hall 28 (by decide))
      obtain rfl := f29 (hall 29 (by decide))
      obtain rfl := f30 (hall 30 (by decide))
      obtain rfl := f31 (hall 31 (by decide))
      obtain rfl := f32 (hall 32 (by decide))
      obtain rfl := f33 (hall 33 (by decide))
      obtain rfl := f34 (hall 34 (by decide))
      obtain rfl := f35 (hall 35 (by decide))
      refine G.at hs ?_
      rcases ite_elim H with ⟨c13, H⟩ | ⟨c13, H⟩
      ·
       refine G.yesB rfl (decide_eq_true c13) ?_
       refine G.seq ?_
       refine G.region ?_
       refine GO.assign rfl rfl rfl ?_
       refine GO.nil ?_
       obtain rfl := Option.some.inj H
       exact G.ret1 _ Try.func69 rfl rfl ⟨rfl, HS⟩
      ·
       refine G.noB rfl (decide_eq_false c13) ?_
       refine G.skip ?_
       refine G.seq ?_
       obtain ⟨t14, h15, H⟩ := Option.bind_eq_some_iff.1 H
       refine G.region ?_
       refine GO.move rfl rfl rfl ?_
       refine GO.fn rfl Try.func120 fok120.1 fok120.2 rfl rfl (spec_l27Edges.calls HS h_r h15) (fun _ wd19 ⟨A16, c17, y18, h20, HS⟩ => ⟨_, h20, ?_⟩)
       refine GO.assign rfl rfl rfl ?_
       refine GO.nil ?_
       refine G.seq ?_
       obtain ⟨t21, h22, H⟩ := Option.bind_eq_some_iff.1 H
       rcases ite_elim H with ⟨c25, H⟩ | ⟨c25, H⟩
       ·
        obtain ⟨t26, h27, H⟩ := Option.bind_eq_some_iff.1 H
        refine G.region ?_
        refine GO.move rfl rfl rfl ?_
        refine GO.fn rfl Try.func121 fok121.1 fok121.2 rfl rfl (spec_l27Pure.calls HS (RdIn.own (j := 0) rfl) h22) (fun _ wd23 ⟨h24, HS⟩ => ⟨_, h24, ?_⟩)
        refine GO.move rfl rfl rfl ?_
        refine GO.known (t := 44) rfl c25 ?_
        refine GO.on rfl rfl rfl rfl ?_
        refine GO.move rfl rfl rfl ?_
        refine GO.back ?_
        refine GO.on rfl rfl rfl rfl ?_
        refine GO.fn rfl Try.func121 fok121.1 fok121.2 rfl rfl (spec_l27Pure.calls HS (RdIn.own (j := 0) rfl) h27) (fun _ wd28 ⟨h29, HS⟩ => ⟨_, h29, ?_⟩)
        refine GO.back ?_
        refine GO.pickT rfl rfl rfl rfl rfl ?_
        refine GO.assign rfl rfl rfl ?_
        refine GO.nil ?_
        obtain rfl := Option.some.inj H
        exact G.ret1 _ Try.func69 rfl rfl ⟨rfl, (HS.pick 1 [])⟩
       ·
        refine G.region ?_
        refine GO.move rfl rfl rfl ?_
        refine GO.fn rfl Try.func121 fok121.1 fok121.2 rfl rfl (spec_l27Pure.calls HS (RdIn.own (j := 0) rfl) h22) (fun _ wd23 ⟨h24, HS⟩ => ⟨_, h24, ?_⟩)
        refine GO.move rfl rfl rfl ?_
        refine GO.known (t := 44) rfl (bnot_of c25) ?_
        refine GO.off rfl rfl rfl rfl rfl rfl ?_
        refine GO.off rfl rfl rfl rfl rfl rfl ?_
        refine GO.pickF rfl rfl rfl rfl rfl ?_
        refine GO.assign rfl rfl rfl ?_
        refine GO.nil ?_
        obtain rfl := Option.some.inj H
        exact G.ret1 _ Try.func69 rfl rfl ⟨rfl, (HS.pick 1 [])⟩
  ·
   refine G.regionAny mixed (by decide) (fun b a w => ∃ (Y109_0 : Value) (Y110_1 : Value) (Y111_2 : Value) (Y112_3 : Value) (Y113_4 : Value) (Y114_5 : Value) (Y115_6 : Value) (Y116_7 : Value) (Y117_8 : Value) (Y118_9 : Value) (Y119_10 : Value) (Y120_11 : Value) (Y121_12 : Value) (Y122_13 : Value) (Y123_14 : Value) (Y124_15 : Value) (Y125_16 : Value) (Y126_17 : Value) (Y127_18 : Value) (Y128_19 : Value) (Y129_20 : Value) (Y130_21 : Value) (Y131_22 : Value) (Y132_23 : Value) (Y133_24 : Value) (Y134_25 : Value) (Y135_26 : Value) (Y136_27 : Value) (Y137_28 : Value) (Y138_29 : Value) (Y139_30 : Value) (Y140_31 : Value) (Y141_32 : Value) (Y142_33 : Value) (Y143_34 : Value) (Y144_35 : Value), Sat 48 [(4, Y109_0), (5, Y110_1), (6, Y111_2), (7, Y112_3), (8, Y113_4), (9, Y114_5), (10, Y115_6), (11, Y116_7), (12, Y117_8), (13, Y118_9), (14, Y119_10), (15, Y120_11), (16, Y121_12), (17, Y122_13), (18, Y123_14), (19, Y124_15), (20, Y125_16), (21, Y126_17), (22, Y127_18), (23, Y128_19), (24, Y129_20), (25, Y130_21), (26, Y131_22), (27, Y132_23), (28, Y133_24), (29, Y134_25), (30, Y135_26), (31, Y136_27), (32, Y137_28), (33, Y138_29), (34, Y139_30), (35, Y140_31), (36, Y141_32), (37, Y142_33), (38, Y143_34), (39, Y144_35), (0, .slice A_r r.length c_r)] a ∧ St w0 w (L) ∧ (b 0 = true → Y109_0 = (.slice A_r r.length c_r)) ∧ (b 1 = true → Y110_1 = (.int .i64 (r.length : Int))) ∧ (b 2 = true → Y111_2 = (.bool (!(decide ((r.length : Int) = 3))))) ∧ (b 3 = true → Y112_3 = (.bool true)) ∧ (b 4 = true → Y113_4 = (undef)) ∧ (b 5 = true → Y114_5 = (undef)) ∧ (b 6 = true → Y115_6 = (undef)) ∧ (b 7 = true → Y116_7 = (undef)) ∧ (b 8 = true → Y117_8 = (undef)) ∧ (b 9 = true → Y118_9 = (undef)) ∧ (b 10 = true → Y119_10 = (undef)) ∧ (b 11 = true → Y120_11 = (undef)) ∧ (b 12 = true → Y121_12 = (undef)) ∧ (b 13 = true → Y122_13 = (.bool true)) ∧ (b 14 = true → Y123_14 = (.bool true)) ∧ (b 15 = true → Y124_15 = (undef)) ∧ (b 16 = true → Y125_16 = (undef)) ∧ (b 17 = true → Y126_17 = (undef)) ∧ (b 18 = true → Y127_18 = (undef)) ∧ (b 19 = true → Y128_19 = (undef)) ∧ (b 20 = true → Y129_20 = (undef)) ∧ (b 21 = true → Y130_21 = (undef)) ∧ (b 22 = true → Y131_22 = (undef)) ∧ (b 23 = true → Y132_23 = (undef)) ∧ (b 24 = true → Y133_24 = (.bool true)) ∧ (b 25 = true → Y134_25 = (.bool true)) ∧ (b 26 = true → Y135_26 = (undef)) ∧ (b 27 = true → Y136_27 = (undef)) ∧ (b 28 = true → Y137_28 = (undef)) ∧ (b 29 = true → Y138_29 = (undef)) ∧ (b 30 = true → Y139_30 = (undef)) ∧ (b 31 = true → Y140_31 = (undef)) ∧ (b 32 = true → Y141_32 = (undef)) ∧ (b 33 = true → Y142_33 = (undef)) ∧ (b 34 = true → Y143_34 = (undef)) ∧ (b 35 = true → Y144_35 = (.bool true))) ?_ ?_ ?_
   ·
    intro a hs
    obtain ⟨Y109_0, hs⟩ := hs.ext (d := 4) rfl
    obtain ⟨Y110_1, hs⟩ := hs.ext (d := 5) rfl
    obtain ⟨Y111_2, hs⟩ := hs.ext (d := 6) rfl
    obtain ⟨Y112_3, hs⟩ := hs.ext (d := 7) rfl
    obtain ⟨Y113_4, hs⟩ := hs.ext (d := 8) rfl
    obtain ⟨Y114_5, hs⟩ := hs.ext (d := 9) rfl
    obtain ⟨Y115_6, hs⟩ := hs.ext (d := 10) rfl
    obtain ⟨Y116_7, hs⟩ := hs.ext (d := 11) rfl
    obtain ⟨Y117_8, hs⟩ := hs.ext (d := 12) rfl
    obtain ⟨Y118_9, hs⟩ := hs.ext (d := 13) rfl
    obtain ⟨Y119_10, hs⟩ := hs.ext (d := 14) rfl
    obtain ⟨Y120_11, hs⟩ := hs.ext (d := 15) rfl
    obtain ⟨Y121_12, hs⟩ := hs.ext (d := 16) rfl
    obtain ⟨Y122_13, hs⟩ := hs.ext (d := 17) rfl
    obtain ⟨Y123_14, hs⟩ := hs.ext (d := 18) rfl
    obtain ⟨Y124_15, hs⟩ := hs.ext (d := 19) rfl
    obtain ⟨Y125_16, hs⟩ := hs.ext (d := 20) rfl
    obtain ⟨Y126_17, hs⟩ := hs.ext (d := 21) rfl
    obtain ⟨Y127_18, hs⟩ := hs.ext (d := 22) rfl
    obtain ⟨Y128_19, hs⟩ := hs.ext (d := 23) rfl
    obtain ⟨Y129_20, hs⟩ := hs.ext (d := 24) rfl
    obtain ⟨Y130_21, hs⟩ := hs.ext (d := 25) rfl
    obtain ⟨Y131_22, hs⟩ := hs.ext (d := 26) rfl
    obtain ⟨Y132_23, hs⟩ := hs.ext (d := 27) rfl
    obtain ⟨Y133_24, hs⟩ := hs.ext (d := 28) rfl
    obtain ⟨Y134_25, hs⟩ := hs.ext (d := 29) rfl
    obtain ⟨Y135_26, hs⟩ := hs.ext (d := 30) rfl
    obtain ⟨Y136_27, hs⟩ := hs.ext (d := 31) rfl
    obtain ⟨Y137_28, hs⟩ := hs.ext (d := 32) rfl
    obtain ⟨Y138_29, hs⟩ := hs.ext (d := 33) rfl
    obtain ⟨Y139_30, hs⟩ := hs.ext (d := 34) rfl
    obtain ⟨Y140_31, hs⟩ := hs.ext (d := 35) rfl
    obtain ⟨Y141_32, hs⟩ := hs.ext (d := 36) rfl
    obtain ⟨Y142_33, hs⟩ := hs.ext (d := 37) rfl
    obtain ⟨Y143_34, hs⟩ := hs.ext (d := 38) rfl
    obtain ⟨Y144_35, hs⟩ := hs.ext (d := 39) rfl
    exact ⟨Y109_0, Y110_1, Y111_2, Y112_3, Y113_4, Y114_5, Y115_6, Y116_7, Y117_8, Y118_9, Y119_10, Y120_11, Y121_12, Y122_13, Y123_14, Y124_15, Y125_16, Y126_17, Y127_18, Y128_19, Y129_20, Y130_21, Y131_22, Y132_23, Y133_24, Y134_25, Y135_26, Y136_27, Y137_28, Y138_29, Y139_30, Y140_31, Y141_32, Y142_33, Y143_34, Y144_35, hs.weak ⟨rfl, rfl, rfl, rfl, rfl, rfl, rfl, rfl, rfl, rfl, rfl, rfl, rfl, rfl, rfl, rfl, rfl, rfl, rfl, rfl, rfl, rfl, rfl, rfl, rfl, rfl, rfl, rfl, rfl, rfl, rfl, rfl, rfl, rfl, rfl, rfl, rfl, trivial⟩, (HS.drew.pick 0 []), fun h => Bool.noConfusion h, fun h => Bool.noConfusion h, fun h => Bool.noConfusion h, fun h => Bool.noConfusion h, fun h => Bool.noConfusion h, fun h => Bool.noConfusion h, fun h => Bool.noConfusion h, fun h => Bool.noConfusion h, fun h => Bool.noConfusion h, fun h => Bool.noConfusion h, fun h => Bool.noConfusion h, fun h => Bool.noConfusion h, fun h => Bool.noConfusion h, fun h => Bool.noConfusion h, fun h => Bool.noConfusion h, fun h => Bool.noConfusion h, fun h => Bool.noConfusion h, fun h => Bool.noConfusion h, fun h => Bool.noConfusion h, fun h => Bool.noConfusion h, fun h => Bool.noConfusion h, fun h => Bool.noConfusion h, fun h => Bool.noConfusion h, fun h => Bool.noConfusion h, fun h => Bool.noConfusion h, fun h => Bool.noConfusion h, fun h => Bool.noConfusion h, fun h => Bool.noConfusion h, fun h => Bool.noConfusion h, fun h => Bool.noConfusion h, fun h => Bool.noConfusion h, fun h => Bool.noConfusion h, fun h => Bool.noConfusion h, fun h => Bool.noConfusion h, fun h => Bool.noConfusion h, fun h => Bool.noConfusion h⟩
   ·
    intro j hj b a w
    refine exI fun Y109_0 => exI fun Y110_1 => exI fun Y111_2 => exI fun Y112_3 => exI fun Y113_4 => exI fun Y114_5 => exI fun Y115_6 => exI fun Y116_7 => exI fun Y117_8 => exI fun Y118_9 => exI fun Y119_10 => exI fun Y120_11 => exI fun Y121_12 => exI fun Y122_13 => exI fun Y123_14 => exI fun Y124_15 => exI fun Y125_16 => exI fun Y126_17 => exI fun Y127_18 => exI fun Y128_19 => exI fun Y129_20 => exI fun Y130_21 => exI fun Y131_22 => exI fun Y132_23 => exI fun Y133_24 => exI fun Y134_25 => exI fun Y135_26 => exI fun Y136_27 => exI fun Y137_28 => exI fun Y138_29 => exI fun Y139_30 => exI fun Y140_31 => exI fun Y141_32 => exI fun Y142_33 => exI fun Y143_34 => exI fun Y144_35 => anI fun hs => anI fun HS => anI fun f0 => anI fun f1 => anI fun f2 => anI fun f3 => anI fun f4 => anI fun f5 => anI fun f6 => anI fun f7 => anI fun f8 => anI fun f9 => anI fun f10 => anI fun f11 => anI fun f12 => anI fun f13 => anI fun f14 => anI fun f15 => anI fun f16 => anI fun f17 => anI fun f18 => anI fun f19 => anI fun f20 => anI fun f21 => anI fun f22 => anI fun f23 => anI fun f24 => anI fun f25 => anI fun f26 => anI fun f27 => anI fun f28 => anI fun f29 => anI fun f30 => anI fun f31 => anI fun f32 => anI fun f33 => anI fun f34 => fun f35 hb hd hcl => ?_
    match j, hj with
    | 0, _ =>
     refine GO.at hs ?_
     refine GO.move rfl rfl rfl ?_
     refine GO.fin (fun a hs => ?_)
     exact ⟨(.slice A_r r.length c_r), _, _, _, _, _, _, _, _, _, _, _, _, _, _, _, _, _, _, _, _, _, _, _, _, _, _, _, _, _, _, _, _, _, _, _, by exact hs.setAt 0 rfl, HS, fun _ => rfl, f1, f2, f3, f4, f5, f6, f7, f8, f9, f10, f11, f12, f13, f14, f15, f16, f17, f18, f19, f20, f21, f22, f23, f24, f25, f26, f27, f28, f29, f30, f31, f32, f33, f34, f35⟩
    | 1, _ =>
     have h0 : b 0 = true := hd 0 (by decide)
     obtain rfl := f0 h0
     refine GO.at hs ?_
     refine GO.lenS rfl rfl Try.underlying43 rfl ?_
     refine GO.fin (fun a hs => ?_)
     exact ⟨_, (.int .i64 (r.length : Int)), _, _, _, _, _, _, _, _, _, _, _, _, _, _, _, _, _, _, _, _, _, _, _, _, _, _, _, _, _, _, _, _, _, _, by exact hs.setAt 1 rfl, HS, f0, fun _ => rfl, f2, f3, f4, f5, f6, f7, f8, f9, f10, f11, f12, f13, f14, f15, f16, f17, f18, f19, f20, f21, f22, f23, f24, f25, f26, f27, f28, f29, f30, f31, f32, f33, f34, f35⟩
    | 2, _ =>
     have h1 : b 1 = true := hd 1 (by decide)
     obtain rfl := f1 h1
     refine GO.at hs ?_
     refine GO.neq rfl rfl rfl rfl ?_
     refine GO.fin (fun a hs => ?_)
     exact ⟨_, _, (.bool (!(decide ((r.length : Int) = 3)))), _, _, _, _, _, _, _, _, _, _, _, _, _, _, _, _, _, _, _, _, _, _, _, _, _, _, _, _, _, _, _, _, _, by exact hs.setAt 2 rfl, HS, f0, f1, fun _ => rfl, f3, f4, f5, f6, f7, f8, f9, f10, f11, f12, f13, f14, f15, f16, f17, f18, f19, f20, f21, f22, f23, f24, f25, f26, f27, f28, f29, f30, f31, f32, f33, f34, f35⟩
    | 3, _ =>
     have h2 : b 2 = true := hd 2 (by decide)
     obtain rfl := f2 h2
     refine GO.at hs ?_
     refine GO.move rfl rfl rfl ?_
     refine GO.known (t := 7) rfl (congrArg Bool.not (decide_eq_false c7)) ?_
     refine GO.fin (fun a hs => ?_)
     exact ⟨_, _, _, (.bool true), _, _, _, _, _, _, _, _, _, _, _, _, _, _, _, _, _, _, _, _, _, _, _, _, _, _, _, _, _, _, _, _, hs.weak ⟨rfl, rfl, rfl, rfl, rfl, rfl, rfl, rfl, rfl, rfl, rfl, rfl, rfl, rfl, rfl, rfl, rfl, rfl, rfl, rfl, rfl, rfl, rfl, rfl, rfl, rfl, rfl, rfl, rfl, rfl, rfl, rfl, rfl, rfl, rfl, rfl, rfl, trivial⟩, HS, f0, f1, f2, fun _ => rfl, f4, f5, f6, f7, f8, f9, f10, f11, f12, f13, f14, f15, f16, f17, f18, f19, f20, f21, f22, f23, f24, f25, f26, f27, f28, f29, f30, f31, f32, f33, f34, f35⟩
    | 4, _ =>
     have h3 : b 3 = true := hd 3 (by decide)
     obtain rfl := f3 h3
     refine GO.at hs ?_
     refine GO.off rfl rfl rfl rfl rfl rfl ?_
     refine GO.fin (fun a hs => ?_)
     exact ⟨_, _, _, _, (undef), _, _, _, _, _, _, _, _, _, _, _, _, _, _, _, _, _, _, _, _, _, _, _, _, _, _, _, _, _, _, _, by exact hs.setAt 4 rfl, HS, f0, f1, f2, f3, fun _ => rfl, f5, f6, f7, f8, f9, f10, f11, f12, f13, f14, f15, f16, f17, f18, f19, f20, f21, f22, f23, f24, f25, f26, f27, f28, f29, f30, f31, f32, f33, f34, f35⟩
    | 5, _ =>
     have h3 : b 3 = true := hd 3 (by decide)
     obtain rfl := f3 h3
     have h4 : b 4 = true := hd 4 (by decide)
     obtain rfl := f4 h4
     refine GO.at hs ?_
     refine GO.off rfl rfl rfl rfl rfl rfl ?_
     refine GO.fin (fun a hs => ?_)
     exact ⟨_, _, _, _, _, (undef), _, _, _, _, _, _, _, _, _, _, _, _, _, _, _, _, _, _, _, _, _, _, _, _, _, _, _, _, _, _, by exact hs.setAt 5 rfl, HS, f0, f1, f2, f3, f4, fun _ => rfl, f6, f7, f8, f9, f10, f11, f12, f13, f14, f15, f16, f17, f18, f19, f20, f21, f22, f23, f24, f25, f26, f27, f28, f29, f30, f31, f32, f33, f34, f35⟩
    | 6, _ =>
     have h3 : b 3 = true := hd 3 (by decide)
     obtain rfl := f3 h3
     have h5 : b 5 = true := hd 5 (by decide)
     obtain rfl := f5 h5
     refine GO.at hs ?_
     refine GO.off rfl rfl rfl rfl rfl rfl ?_
     refine GO.fin (fun a hs => ?_)
     exact ⟨_, _, _, _, _, _, (undef), _, _, _, _, _, _, _, _, _, _, _, _, _, _, _, _, _, _, _, _, _, _, _, _, _, _, _, _, _, by exact hs.setAt 6 rfl, HS, f0, f1, f2, f3, f4, f5, fun _ => rfl, f7, f8, f9, f10, f11, f12, f13, f14, f15, f16, f17, f18, f19, f20, f21, f22, f23, f24, f25, f26, f27, f28, f29, f30, f31, f32, f33, f34, f35⟩
    | 7, _ =>
     have h3 : b 3 = true := hd 3 (by decide)
     obtain rfl := f3 h3
     have h6 : b 6 = true := hd 6 (by decide)
     obtain rfl := f6 h6
     refine GO.at hs ?_
     refine GO.off rfl rfl rfl rfl rfl rfl ?_
     refine GO.fin (fun a hs => ?_)
     exact ⟨_, _, _, _, _, _, _, (undef), _, _, _, _, _, _, _, _, _, _, _, _, _, _, _, _, _, _, _, _, _, _, _, _, _, _, _, _, by exact hs.setAt 7 rfl, HS, f0, f1, f2, f3, f4, f5, f6, fun _ => rfl, f8, f9, f10, f11, f12, f13, f14, f15, f16, f17, f18, f19, f20, f21, f22, f23, f24, f25, f26, f27, f28, f29, f30, f31, f32, f33, f34, f35⟩
    | 8, _ =>
     have h3 : b 3 = true := hd 3 (by decide)
     obtain rfl := f3 h3
     refine GO.at hs ?_
     refine GO.off rfl rfl rfl rfl rfl rfl ?_
     refine GO.fin (fun a hs => ?_)
     exact ⟨_, _, _, _, _, _, _, _, (undef), _, _, _, _, _, _, _, _, _, _, _, _, _, _, _, _, _, _, _, _, _, _, _, _, _, _, _, by exact hs.setAt 8 rfl, HS, f0, f1, f2, f3, f4, f5, f6, f7, fun _ => rfl, f9, f10, f11, f12, f13, f14, f15, f16, f17, f18, f19, f20, f21, f22, f23, f24, f25, f26, f27, f28, f29, f30, f31, f32, f33, f34, f35⟩
    | 9, _ =>
     have h3 : b 3 = true := hd 3 (by decide)
     obtain rfl := f3 h3
     have h8 : b 8 = true := hd 8 (by decide)
     obtain rfl := f8 h8
     refine GO.at hs ?_
     refine GO.off rfl rfl rfl rfl rfl rfl ?_
     refine GO.fin (fun a hs => ?_)
     exact ⟨_, _, _, _, _, _, _, _, _, (undef), _, _, _, _, _, _, _, _, _, _, _, _, _, _, _, _, _, _, _, _, _, _, _, _, _, _, by exact hs.setAt 9 rfl, HS, f0, f1, f2, f3, f4, f5, f6, f7, f8, fun _ => rfl, f10, f11, f12, f13, f14, f15, f16, f17, f18, f19, f20, f21, f22, f23, f24, f25, f26, f27, f28, f29, f30, f31, f32, f33, f34, f35⟩
    | 10, _ =>
     have h3 : b 3 = true := hd 3 (by decide)
     obtain rfl := f3 h3
     have h9 : b 9 = true := hd 9 (by decide)
     obtain rfl := f9 h9
     refine GO.at hs ?_
     refine GO.off rfl rfl rfl rfl rfl rfl ?_
     refine GO.fin (fun a hs => ?_)
     exact ⟨_, _, _, _, _, _, _, _, _, _, (undef), _, _, _, _, _, _, _, _, _, _, _, _, _, _, _, _, _, _, _, _, _, _, _, _, _, by exact hs.setAt 10 rfl, HS, f0, f1, f2, f3, f4, f5, f6, f7, f8, f9, fun _ => rfl, f11, f12, f13, f14, f15, f16, f17, f18, f19, f20, f21, f22, f23, f24, f25, f26, f27, f28, f29, f30, f31, f32, f33, f34, f35⟩
    | 11, _ =>
     have h3 : b 3 = true := hd 3 (by decide)
     obtain rfl := f3 h3
     have h10 : b 10 = true := hd 10 (by decide)
     obtain rfl := f10 h10
     refine GO.at hs ?_
     refine GO.off rfl rfl rfl rfl rfl rfl ?_
     refine GO.fin (fun a hs => ?_)
     exact ⟨_, _, _, _, _, _, _, _, _, _, _, (undef), _, _, _, _, _, _, _, _, _, _, _, _, _, _, _, _, _, _, _, _, _, _, _, _, by exact hs.setAt 11 rfl, HS, f0, f1, f2, f3, f4, f5, f6, f7, f8, f9, f10, fun _ => rfl, f12, f13, f14, f15, f16, f17, f18, f19, f20, f21, f22, f23, f24, f25, f26, f27, f28, f29, f30, f31, f32, f33, f34, f35⟩
    | 12, _ =>
     have h3 : b 3 = true := hd 3 (by decide)
     obtain rfl := f3 h3
     have h7 : b 7 = true := hd 7 (by decide)
     obtain rfl := f7 h7
     have h11 : b 11 = true := hd 11 (by decide)
     obtain rfl := f11 h11
     refine GO.at hs ?_
     refine GO.off rfl rfl rfl rfl rfl rfl ?_
     refine GO.fin (fun a hs => ?_)
     exact ⟨_, _, _, _, _, _, _, _, _, _, _, _, (undef), _, _, _, _, _, _, _, _, _, _, _, _, _, _, _, _, _, _, _, _, _, _, _, by exact hs.setAt 12 rfl, HS, f0, f1, f2, f3, f4, f5, f6, f7, f8, f9, f10, f11, fun _ => rfl, f13, f14, f15, f16, f17, f18, f19, f20, f21, f22, f23, f24, f25, f26, f27, f28, f29, f30, f31, f32, f33, f34, f35⟩
    | 13, _ =>
     have h3 : b 3 = true := hd 3 (by decide)
     obtain rfl := f3 h3
     have h12 : b 12 = true := hd 12 (by decide)
     obtain rfl := f12 h12
     refine GO.at hs ?_
     refine GO.pickT rfl rfl rfl rfl rfl ?_
     refine GO.fin (fun a hs => ?_)
     exact ⟨_, _, _, _, _, _, _, _, _, _, _, _, _, (.bool true), _, _, _, _, _, _, _, _, _, _, _, _, _, _, _, _, _, _, _, _, _, _, by exact hs.setAt 13 rfl, HS, f0, f1, f2, f3, f4, f5, f6, f7, f8, f9, f10, f11, f12, fun _ => rfl, f14, f15, f16, f17, f18, f19, f20, f21, f22, f23, f24, f25, f26, f27, f28, f29, f30, f31, f32, f33, f34, f35⟩
    | 14, _ =>
     have h13 : b 13 = true := hd 13 (by decide)
     obtain rfl := f13 h13
     refine GO.at hs ?_
     refine GO.move rfl rfl rfl ?_
     refine GO.fin (fun a hs => ?_)
     exact ⟨_, _, _, _, _, _, _, _, _, _, _, _, _, _, (.bool true), _, _, _, _, _, _, _, _, _, _, _, _, _, _, _, _, _, _, _, _, _, by exact hs.setAt 14 rfl, HS, f0, f1, f2, f3, f4, f5, f6, f7, f8, f9, f10, f11, f12, f13, fun _ => rfl, f15, f16, f17, f18, f19, f20, f21, f22, f23, f24, f25, f26, f27, f28, f29, f30, f31, f32, f33, f34, f35⟩
    | 15, _ =>
     have h14 : b 14 = true := hd 14 (by decide)
     obtain rfl := f14 h14
     refine GO.at hs ?_
     refine GO.off rfl rfl rfl rfl rfl rfl ?_
     refine GO.fin (fun a hs => ?_)
     exact ⟨_, _, _, _, _, _, _, _, _, _, _, _, _, _, _, (undef), _, _, _, _, _, _, _, _, _, _, _, _, _, _, _, _, _, _, _, _, by exact hs.setAt 15 rfl, HS, f0, f1, f2, f3, f4, f5, f6, f7, f8, f9, f10, f11, f12, f13, f14, fun _ => rfl, f16, f17, f18, f19, f20, f21, f22, f23, f24, f25, f26, f27, f28, f29, f30, f31, f32, f33, f34, f35⟩
    | 16, _ =>
     have h14 : b 14 = true := hd 14 (by decide)
     obtain rfl := f14 h14
     have h15 : b 15 = true := hd 15 (by decide)
     obtain rfl := f15 h15
     refine GO.at hs ?_
     refine GO.off rfl rfl rfl rfl rfl rfl ?_
     refine GO.fin (fun a hs => ?_)
     exact ⟨_, _, _, _, _, _, _, _, _, _, _, _, _, _, _, _, (undef), _, _, _, _, _, _, _, _, _, _, _, _, _, _, _, _, _, _, _, by exact hs.setAt 16 rfl, HS, f0, f1, f2, f3, f4, f5, f6, f7, f8, f9, f10, f11, f12, f13, f14, f15, fun _ => rfl, f17, f18, f19, f20, f21, f22, f23, f24, f25, f26, f27, f28, f29, f30, f31, f32, f33, f34, f35⟩
    | 17, _ =>
     have h14 : b 14 = true := hd 14 (by decide)
     obtain rfl := f14 h14
     have h16 : b 16 = true := hd 16 (by decide)
     obtain rfl := f16 h16
     refine GO.at hs ?_
     refine GO.off rfl rfl rfl rfl rfl rfl ?_
     refine GO.fin (fun a hs => ?_)
     exact ⟨_, _, _, _, _, _, _, _, _, _, _, _, _, _, _, _, _, (undef), _, _, _, _, _, _, _, _, _, _, _, _, _, _, _, _, _, _, by exact hs.setAt 17 rfl, HS, f0, f1, f2, f3, f4, f5, f6, f7, f8, f9, f10, f11, f12, f13, f14, f15, f16, fun _ => rfl, f18, f19, f20, f21, f22, f23, f24, f25, f26, f27, f28, f29, f30, f31, f32, f33, f34, f35⟩
    | 18, _ =>
     have h14 : b 14 = true := hd 14 (by decide)
     obtain rfl := f14 h14
     have h17 : b 17 = true := hd 17 (by decide)
     obtain rfl := f17 h17
     refine GO.at hs ?_
     refine GO.off rfl rfl rfl rfl rfl rfl ?_
     refine GO.fin (fun a hs => ?_)
     exact ⟨_, _, _, _, _, _, _, _, _, _, _, _, _, _, _, _, _, _, (undef), _, _, _, _, _, _, _, _, _, _, _, _, _, _, _, _, _, by exact hs.setAt 18 rfl, HS, f0, f1, f2, f3, f4, f5, f6, f7, f8, f9, f10, f11, f12, f13, f14, f15, f16, f17, fun _ => rfl, f19, f20, f21, f22, f23, f24, f25, f26, f27, f28, f29, f30, f31, f32, f33, f34, f35⟩
    | 19, _ =>
     have h14 : b 14 = true := hd 14 (by decide)
     obtain rfl := f14 h14
     refine GO.at hs ?_
     refine GO.off rfl rfl rfl rfl rfl rfl ?_
     refine GO.fin (fun a hs => ?_)
     exact ⟨_, _, _, _, _, _, _, _, _, _, _, _, _, _, _, _, _, _, _, (undef), _, _, _, _, _, _, _, _, _, _, _, _, _, _, _, _, by exact hs.setAt 19 rfl, HS, f0, f1, f2, f3, f4, f5, f6, f7, f8, f9, f10, f11, f12, f13, f14, f15, f16, f17, f18, fun _ => rfl, f20, f21, f22, f23, f24, f25, f26, f27, f28, f29, f30, f31, f32, f33, f34, f35⟩
    | 20, _ =>
     have h14 : b 14 = true := hd 14 (by decide)
     obtain rfl := f14 h14
     have h19 : b 19 = true := hd 19 (by decide)
     obtain rfl := f19 h19
     refine GO.at hs ?_
     refine GO.off rfl rfl rfl rfl rfl rfl ?_
     refine GO.fin (fun a hs => ?_)
     exact ⟨_, _, _, _, _, _, _, _, _, _, _, _, _, _, _, _, _, _, _, _, (undef), _, _, _, _, _, _, _, _, _, _, _, _, _, _, _, by exact hs.setAt 20 rfl, HS, f0, f1, f2, f3, f4, f5, f6, f7, f8, f9, f10, f11, f12, f13, f14, f15, f16, f17, f18, f19, fun _ => rfl, f21, f22, f23, f24, f25, f26, f27, f28, f29, f30, f31, f32, f33, f34, f35⟩
    | 21, _ =>
     have h14 : b 14 = true := hd 14 (by decide)
     obtain rfl := f14 h14
     have h20 : b 20 = true := hd 20 (by decide)
     obtain rfl := f20 h20
     refine GO.at hs ?_
     refine GO.off rfl rfl rfl rfl rfl rfl ?_
     refine GO.fin (fun a hs => ?_)
     exact ⟨_, _, _, _, _, _, _, _, _, _, _, _, _, _, _, _, _, _, _, _, _, (undef), _, _, _, _, _, _, _, _, _, _, _, _, _, _, by exact hs.setAt 21 rfl, HS, f0, f1, f2, f3, f4, f5, f6, f7, f8, f9, f10, f11, f12, f13, f14, f15, f16, f17, f18, f19, f20, fun _ => rfl, f22, f23, f24, f25, f26, f27, f28, f29, f30, f31, f32, f33, f34, f35⟩
    | 22, _ =>
     have h14 : b 14 = true := hd 14 (by decide)
     obtain rfl := f14 h14
     have h21 : b 21 = true := hd 21 (by decide)
     obtain rfl := f21 h21
     refine GO.at hs ?_
     refine GO.off rfl rfl rfl rfl rfl rfl ?_
     refine GO.fin (fun a hs => ?_)
     exact ⟨_, _, _, _, _, _, _, _, _, _, _, _, _, _, _, _, _, _, _, _, _, _, (undef), _, _, _, _, _, _, _, _, _, _, _, _, _, by exact hs.setAt 22 rfl, HS, f0, f1, f2, f3, f4, f5, f6, f7, f8, f9, f10, f11, f12, f13, f14, f15, f16, f17, f18, f19, f20, f21, fun _ => rfl, f23, f24, f25, f26, f27, f28, f29, f30, f31, f32, f33, f34, f35⟩
    | 23, _ =>
     have h14 : b 14 = true := hd 14 (by decide)
     obtain rfl := f14 h14
     have h18 : b 18 = true := hd 18 (by decide)
     obtain rfl := f18 h18
     have h22 : b 22 = true := hd 22 (by decide)
     obtain rfl := f22 h22
     refine GO.at hs ?_
     refine GO.off rfl rfl rfl rfl rfl rfl ?_
     refine GO.fin (fun a hs => ?_)
     exact ⟨_, _, _, _, _, _, _, _, _, _, _, _, _, _, _, _, _, _, _, _, _, _, _, (undef), _, _, _, _, _, _, _, _, _, _, _, _, by exact hs.setAt 23 rfl, HS, f0, f1, f2, f3, f4, f5, f6, f7, f8, f9, f10, f11, f12, f13, f14, f15, f16, f17, f18, f19, f20, f21, f22, fun _ => rfl, f24, f25, f26, f27, f28, f29, f30, f31, f32, f33, f34, f35⟩
    | 24, _ =>
     have h14 : b 14 = true := hd 14 (by decide)
     obtain rfl := f14 h14
     have h23 : b 23 = true := hd 23 (by decide)
     obtain rfl := f23 h23
     refine GO.at hs ?_
     refine GO.pickT rfl rfl rfl rfl rfl ?_
     refine GO.fin (fun a hs => ?_)
     exact ⟨_, _, _, _, _, _, _, _, _, _, _, _, _, _, _, _, _, _, _, _, _, _, _, _, (.bool true), _, _, _, _, _, _, _, _, _, _, _, by exact hs.setAt 24 rfl, HS, f0, f1, f2, f3, f4, f5, f6, f7, f8, f9, f10, f11, f12, f13, f14, f15, f16, f17, f18, f19, f20, f21, f22, f23, fun _ => rfl, f25, f26, f27, f28, f29, f30, f31, f32, f33, f34, f35⟩
    | 25, _ =>
     have h24 : b 24 = true := hd 24 (by decide)
     obtain rfl := f24 h24
     refine GO.at hs ?_
     refine GO.move rfl rfl rfl ?_
     refine GO.fin (fun a hs => ?_)
     exact ⟨_, _, _, _, _, _, _, _, _, _, _, _, _, _, _, _, _, _, _, _, _, _, _, _, _, (.bool true), _, _, _, _, _, _, _, _, _, _, by exact hs.setAt 25 rfl, HS, f0, f1, f2, f3, f4, f5, f6, f7, f8, f9, f10, f11, f12, f13, f14, f15, f16, f17, f18, f19, f20, f21, f22, f23, f24, fun _ => rfl, f26, f27, f28, f29, f30, f31, f32, f33, f34, f35⟩
    | 26, _ =>
     have h25 : b 25 = true := hd 25 (by decide)
     obtain rfl := f25 h25
     refine GO.at hs ?_
     refine GO.off rfl rfl rfl rfl rfl rfl ?_
     refine GO.fin (fun a hs => ?_)
     exact ⟨_, _, _, _, _, _, _, _, _, _, _, _, _, _, _, _, _, _, _, _, _, _, _, _, _, _, (undef), _, _, _, _, _, _, _, _, _, by exact hs.setAt 26 rfl, HS, f0, f1, f2, f3, f4, f5, f6, f7, f8, f9, f10, f11, f12, f13, f14, f15, f16, f17, f18, f19, f20, f21, f22, f23, f24, f25, fun _ => rfl, f27, f28, f29, f30, f31, f32, f33, f34, f35⟩
    | 27, _ =>
     have h25 : b 25 = true := hd 25 (by decide)
     obtain rfl := f25 h25
     have h26 : b 26 = true := hd 26 (by decide)
     obtain rfl := f26 h26
     refine GO.at hs ?_
     refine GO.off rfl rfl rfl rfl rfl rfl ?_
     refine GO.fin (fun a hs => ?_)
     exact ⟨_, _, _, _, _, _, _, _, _, _, _, _, _, _, _, _, _, _, _, _, _, _, _, _, _, _, _, (undef), _, _, _, _, _, _, _, _, by exact hs.setAt 27 rfl, HS, f0, f1, f2, f3, f4, f5, f6, f7, f8, f9, f10, f11, f12, f13, f14, f15, f16, f17, f18, f19, f20, f21, f22, f23, f24, f25, f26, fun _ => rfl, f28, f29, f30, f31, f32, f33, f34, f35⟩
    | 28, _ =>
     have h25 : b 25 = true := hd 25 (by decide)
     obtain rfl := f25 h25
     have h27 : b 27 = true := hd 27 (by decide)
     obtain rfl := f27 h27
     refine GO.at hs ?_
     refine GO.off rfl rfl rfl rfl rfl rfl ?_
     refine GO.fin (fun a hs => ?_)
     exact ⟨_, _, _, _, _, _, _, _, _, _, _, _, _, _, _, _, _, _, _, _, _, _, _, _, _, _, _, _, (undef), _, _, _, _, _, _, _, by exact hs.setAt 28 rfl, HS, f0, f1, f2, f3, f4, f5, f6, f7, f8, f9, f10, f11, f12, f13, f14, f15, f16, f17, f18, f19, f20, f21, f22, f23, f24, f25, f26, f27, fun _ => rfl, f29, f30, f31, f32, f33, f34, f35⟩
    | 29, _ =>
     have h25 : b 25 = true := hd 25 (by decide)
     obtain rfl := f25 h25
     have h28 : b 28 = true := hd 28 (by decide)
     obtain rfl := f28 h28
     refine GO.at hs ?_
     refine GO.off rfl rfl rfl rfl rfl rfl ?_
     refine GO.fin (fun a hs => ?_)
     exact ⟨_, _, _, _, _, _, _, _, _, _, _, _, _, _, _, _, _, _, _, _, _, _, _, _, _, _, _, _, _, (undef), _, _, _, _, _, _, by exact hs.setAt 29 rfl, HS, f0, f1, f2, f3, f4, f5, f6, f7, f8, f9, f10, f11, f12, f13, f14, f15, f16, f17, f18, f19, f20, f21, f22, f23, f24, f25, f26, f27, f28, fun _ => rfl, f30, f31, f32, f33, f34, f35⟩
    | 30, _ =>
     have h25 : b 25 = true := hd 25 (by decide)
     obtain rfl := f25 h25
     refine GO.at hs ?_
     refine GO.off rfl rfl rfl rfl rfl rfl ?_
     refine GO.fin (fun a hs => ?_)
     exact ⟨_, _, _, _, _, _, _, _, _, _, _, _, _, _, _, _, _, _, _, _, _, _, _, _, _, _, _, _, _, _, (undef), _, _, _, _, _, by exact hs.setAt 30 rfl, HS, f0, f1, f2, f3, f4, f5, f6, f7, f8, f9, f10, f11, f12, f13, f14, f15, f16, f17, f18, f19, f20, f21, f22, f23, f24, f25, f26, f27, f28, f29, fun _ => rfl, f31, f32, f33, f34, f35⟩
    | 31, _ =>
     have h25 : b 25 = true := hd 25 (by decide)
     obtain rfl := f25 h25
     have h30 : b 30 = true := hd 30 (by decide)
     obtain rfl := f30 h30
     refine GO.at hs ?_
     refine GO.off rfl rfl rfl rfl rfl rfl ?_
     refine GO.fin (fun a hs => ?_)
     exact ⟨_, _, _, _, _, _, _, _, _, _, _, _, _, _, _, _, _, _, _, _, _, _, _, _, _, _, _, _, _, _, _, (undef), _, _, _, _, by exact hs.setAt 31 rfl, HS, f0, f1, f2, f3, f4, f5, f6, f7, f8, f9, f10, f11, f12, f13, f14, f15, f16, f17, f18, f19, f20, f21, f22, f23, f24, f25, f26, f27, f28, f29, f30, fun _ => rfl, f32, f33, f34, f35⟩
    | 32, _ =>
     have h25 : b 25 = true := hd 25 (by decide)
     obtain rfl := f25 h25
     have h31 : b 31 = true := hd 31 (by decide)
     obtain rfl := f31 h31
     refine GO.at hs ?_
     refine GO.off rfl rfl rfl rfl rfl rfl ?_
     refine GO.fin (fun a hs => ?_)
     exact ⟨_, _, _, _, _, _, _, _, _, _, _, _, _, _, _, _, _, _, _, _, _, _, _, _, _, _, _, _, _, _, _, _, (undef), _, _, _, by exact hs.setAt 32 rfl, HS, f0, f1, f2, f3, f4, f5, f6, f7, f8, f9, f10, f11, f12, f13, f14, f15, f16, f17, f18, f19, f20, f21, f22, f23, f24, f25, f26, f27, f28, f29, f30, f31, fun _ => rfl, f33, f34, f35⟩
    | 33, _ =>
     have h25 : b 25 = true := hd 25 (by decide)
     obtain rfl := f25 h25
     have h32 : b 32 = true := hd 32 (by decide)
     obtain rfl := f32 h32
     refine GO.at hs ?_
     refine GO.off rfl rfl rfl rfl rfl rfl ?_
     refine GO.fin (fun a hs => ?_)
     exact ⟨_, _, _, _, _, _, _, _, _, _, _, _, _, _, _, _, _, _, _, _, _, _, _, _, _, _, _, _, _, _, _, _, _, (undef), _, _, by exact hs.setAt 33 rfl, HS, f0, f1, f2, f3, f4, f5, f6, f7, f8, f9, f10, f11, f12, f13, f14, f15, f16, f17, f18, f19, f20, f21, f22, f23, f24, f25, f26, f27, f28, f29, f30, f31, f32, fun _ => rfl, f34, f35⟩
    | 34, _ =>
     have h25 : b 25 = true := hd 25 (by decide)
     obtain rfl := f25 h25
     have h29 : b 29 = true := hd 29 (by decide)
     obtain rfl := f29 h29
     have h33 : b 33 = true := hd 33 (by decide)
     obtain rfl := f33 h33
     refine GO.at hs ?_
     refine GO.off rfl rfl rfl rfl rfl rfl ?_
     refine GO.fin (fun a hs => ?_)
     exact ⟨_, _, _, _, _, _, _, _, _, _, _, _, _, _, _, _, _, _, _, _, _, _, _, _, _, _, _, _, _, _, _, _, _, _, (undef), _, by exact hs.setAt 34 rfl, HS, f0, f1, f2, f3, f4, f5, f6, f7, f8, f9, f10, f11, f12, f13, f14, f15, f16, f17, f18, f19, f20, f21, f22, f23, f24, f25, f26, f27, f28, f29, f30, f31, f32, f33, fun _ => rfl, f35⟩
    | 35, _ =>
     have h25 : b 25 = true := hd 25 (by decide)
     obtain rfl := f25 h25
     have h34 : b 34 = true := hd 34 (by decide)
     obtain rfl := f34 h34
     refine GO.at hs ?_
     refine GO.pickT rfl rfl rfl rfl rfl ?_
     refine GO.fin (fun a hs => ?_)
     exact ⟨_, _, _, _, _, _, _, _, _, _, _, _, _, _, _, _, _, _, _, _, _, _, _, _, _, _, _, _, _, _, _, _, _, _, _, (.bool true), by exact hs.setAt 35 rfl, HS, f0, f1, f2, f3, f4, f5, f6, f7, f8, f9, f10, f11, f12, f13, f14, f15, f16, f17, f18, f19, f20, f21, f22, f23, f24, f25, f26, f27, f28, f29, f30, f31, f32, f33, f34, fun _ => rfl⟩
    | k + 36, hj => exact absurd hj (Nat.not_lt.2 (Nat.le_add_left 36 k))
   ·
    intro b a w hall
    refine exI fun Y109_0 => exI fun Y110_1 => exI fun Y111_2 => exI fun Y112_3 => exI fun Y113_4 => exI fun Y114_5 => exI fun Y115_6 => exI fun Y116_7 => exI fun Y117_8 => exI fun Y118_9 => exI fun Y119_10 => exI fun Y120_11 => exI fun Y121_12 => exI fun Y122_13 => exI fun Y123_14 => exI fun Y124_15 => exI fun Y125_16 => exI fun Y126_17 => exI fun Y127_18 => exI fun Y128_19 => exI fun Y129_20 => exI fun Y130_21 => exI fun Y131_22 => exI fun Y132_23 => exI fun Y133_24 => exI fun Y134_25 => exI fun Y135_26 => exI fun Y136_27 => exI fun Y137_28 => exI fun Y138_29 => exI fun Y139_30 => exI fun Y140_31 => exI fun Y141_32 => exI fun Y142_33 => exI fun Y143_34 => exI fun Y144_35 => anI fun hs => anI fun HS => anI fun f0 => anI fun f1 => anI fun f2 => anI fun f3 => anI fun f4 => anI fun f5 => anI fun f6 => anI fun f7 => anI fun f8 => anI fun f9 => anI fun f10 => anI fun f11 => anI fun f12 => anI fun f13 => anI fun f14 => anI fun f15 => anI fun f16 => anI fun f17 => anI fun f18 => anI fun f19 => anI fun f20 => anI fun f21 => anI fun f22 => anI fun f23 => anI fun f24 => anI fun f25 => anI fun f26 => anI fun f27 => anI fun f28 => anI fun f29 => anI fun f30 => anI fun f31 => anI fun f32 => anI fun f33 => anI fun f34 => fun f35 => ?_
    obtain rfl := f0 (hall 0 (by decide))
    obtain rfl := f1 (hall 1 (by decide))
    obtain rfl := f2 (hall 2 (by decide))
    obtain rfl := f3 (hall 3 (by decide))
    obtain rfl := f4 (hall 4 (by decide))
    obtain rfl := f5 (hall 5 (by decide))
    obtain rfl := f6 (hall 6 (by decide))
    obtain rfl := f7 (hall 7 (by decide))
    obtain rfl := f8 (hall 8 (by decide))
    obtain rfl := f9 (hall 9 (by decide))
    obtain rfl := f10 (hall 10 (by decide))
    obtain rfl := f11 (hall 11 (by decide))
    obtain rfl := f12 (hall 12 (by decide))
    obtain rfl := f13 (hall 13 (by decide))
    obtain rfl := f14 (hall 14 (by decide))
    obtain rfl := f15 (hall 15 (by decide))
    obtain rfl := f16 (hall 16 (by decide))
    obtain rfl := f17 (hall 17 (by decide))
    obtain rfl := f18 (hall 18 (by decide))
    obtain rfl := f19 (hall 19 (by decide))
    obtain rfl := f20 (hall 20 (by decide))
    obtain rfl := f21 (hall 21 (by decide))
    obtain rfl := f22 (hall 22 (by decide))
    obtain rfl := f23 (hall 23 (by decide))
    obtain rfl := f24 (hall 24 (by decide))
    obtain rfl := f25 (hall 25 (by decide))
    obtain rfl := f26 (hall 26 (by decide))
    obtain rfl := f27 (hall 27 (by decide))
    obtain rfl := f28 (hall 28 (by decide))
    obtain rfl := f29 (hall 29 (by decide))
    obtain rfl := f30 (hall 30 (by decide))
    obtain rfl := f31 (hall 31 (by decide))
    obtain rfl := f32 (hall 32 (by decide))
    obtain rfl := f33 (hall 33 (by decide))
    obtain rfl := f34 (hall 34 (by decide))
    obtain rfl := f35 (hall 35 (by decide))
    refine G.at hs ?_
    refine G.yesB rfl rfl ?_
    refine G.seq ?_
    refine G.region ?_
    refine GO.assign rfl rfl rfl ?_
    refine GO.nil ?_
    obtain rfl := Option.some.inj H
    exact G.ret1 _ Try.func69 rfl rfl ⟨rfl, HS⟩

set_option maxRecDepth 20000 in
set_option maxHeartbeats 40000000 in
theorem spec_l27Side.calls {w0 w : World} {L : List HObj} {d_Crossings : List GCrossing} {d_Circles : Int} {corner : Int} {A_d_Crossings : Option Addr} {c_d_Crossings : Nat} {r1 : Int} (HS : St w0 w (L)) (h_d_Crossings : RdIn w0 L T_GCrossing A_d_Crossings c_d_Crossings (fun _ => ()) d_Crossings) (H : spec_l27Side.f d_Crossings d_Circles corner = some r1) :
    Calls Try.prog 71 #[.agg [.slice A_d_Crossings d_Crossings.length c_d_Crossings, .int .i64 d_Circles].toArray, .int .i64 corner] w (spec_l27Side.post w0 L d_Crossings d_Circles corner A_d_Crossings c_d_Crossings r1) := by
  unfold spec_l27Side.f at H
  refine Calls.of_G Try.func71 rfl rfl rfl ?_
  refine G.seq ?_
  refine G.region ?_
  refine GO.box (cs := [.slice A_d_Crossings d_Crossings.length c_d_Crossings, .int .i64 d_Circles]) HS rfl rfl rfl rfl ?_; intro b1 wd2 HS
  refine GO.assign rfl rfl rfl ?_
  refine GO.nil ?_
  refine G.seq ?_
  obtain ⟨c3, H⟩ := ite_none H
  obtain ⟨e4, h5, H⟩ := bnd_elim H
  refine G.region ?_
  refine GO.fld (⟨b1, 0, none⟩) rfl rfl fl28_0 rfl rfl ?_
  refine GO.ldBox (j := 0) HS rfl rfl rfl rfl na26 rfl ?_
  refine GO.move rfl rfl rfl ?_
  refine GO.quo rfl rfl rfl (by decide) rfl ?_
  refine GO.ix rfl rfl rfl Try.underlying26 sz58 ((RdIn.drop 1 h_d_Crossings) _ HS).2.2.1 c3.1 c3.2 rfl ?_
  refine GO.ldRdA (T := T_GCrossing) (n := (w64 (corner.tdiv 4)).toNat) HS (RdIn.drop 1 h_d_Crossings) rfl rfl (getD_eq (ltN c3) h5) ag58 rfl ?_
  refine GO.move rfl rfl rfl ?_
  refine GO.rem rfl rfl rfl (by decide) rfl ?_
  refine GO.add rfl rfl rfl rfl ?_
  refine GO.rem rfl rfl rfl (by decide) rfl ?_
  refine GO.alloc HS rfl zr58 rfl rfl ?_; intro b6 wd7 HS
  refine GO.stBox (j := 0) (vs := [.int .i64 e4.A, .int .i64 e4.B, .int .i64 e4.C, .int .i64 e4.D, .int .i64 e4.Sign]) ([.int .i64 e4.A, .int .i64 e4.B, .int .i64 e4.C, .int .i64 e4.D, .int .i64 e4.Sign]) HS rfl rfl rfl rfl rfl (htA ag58) rfl rfl rfl ?_; intro wd8 HS
  refine GO.assign rfl rfl rfl ?_
  refine GO.nil ?_
  refine G.seq ?_
  refine G.seq ?_
  obtain ⟨t9, h10, H⟩ := Option.bind_eq_some_iff.1 H
  refine G.region ?_
  refine GO.ldBoxA (j := 0) ([.int .i64 e4.A, .int .i64 e4.B, .int .i64 e4.C, .int .i64 e4.D, .int .i64 e4.Sign]) HS rfl rfl rfl rfl ag58 rfl ?_
  refine GO.move rfl rfl rfl ?_
  refine GO.fn rfl Try.func106 fok106.1 fok106.2 rfl rfl (spec_l25Enters.calls HS  h10) (fun _ wd11 ⟨h12, HS⟩ => ⟨_, h12, ?_⟩)
  refine GO.nil ?_
  rcases ite_elim H with ⟨c13, H⟩ | ⟨c13, H⟩
  ·
   refine G.yesB rfl c13 ?_
   refine G.seq ?_
   obtain ⟨t14, h15, H⟩ := Option.bind_eq_some_iff.1 H
   refine G.region ?_
   refine GO.ldBoxA (j := 0) ([.int .i64 e4.A, .int .i64 e4.B, .int .i64 e4.C, .int .i64 e4.D, .int .i64 e4.Sign]) HS rfl rfl rfl rfl ag58 rfl ?_
   refine GO.move rfl rfl rfl ?_
   refine GO.fn rfl Try.func105 fok105.1 fok105.2 rfl rfl (spec_l25End.calls HS  h15) (fun _ wd16 ⟨h17, HS⟩ => ⟨_, h17, ?_⟩)
   refine GO.mul rfl rfl rfl rfl ?_
   refine GO.assign rfl rfl rfl ?_
   refine GO.nil ?_
   obtain rfl := Option.some.inj H
   exact G.ret1 _ Try.func71 rfl rfl ⟨rfl, (HS.pick 2 [])⟩
  ·
   refine G.noB rfl (bnot_of c13) ?_
   refine G.skip ?_
   refine G.seq ?_
   obtain ⟨t18, h19, H⟩ := Option.bind_eq_some_iff.1 H
   refine G.region ?_
   refine GO.ldBoxA (j := 0) ([.int .i64 e4.A, .int .i64 e4.B, .int .i64 e4.C, .int .i64 e4.D, .int .i64 e4.Sign]) HS rfl rfl rfl rfl ag58 rfl ?_
   refine GO.move rfl rfl rfl ?_
   refine GO.fn rfl Try.func105 fok105.1 fok105.2 rfl rfl (spec_l25End.calls HS  h19) (fun _ wd20 ⟨h21, HS⟩ => ⟨_, h21, ?_⟩)
   refine GO.mul rfl rfl rfl rfl ?_
   refine GO.add rfl rfl rfl rfl ?_
   refine GO.assign rfl rfl rfl ?_
   refine GO.nil ?_
   obtain rfl := Option.some.inj H
   exact G.ret1 _ Try.func71 rfl rfl ⟨rfl, (HS.pick 2 [])⟩

set_option maxRecDepth 20000 in
set_option maxHeartbeats 40000000 in
theorem spec_l25With.calls {w0 w : World} {L : List HObj} {x_A : Int} {x_B : Int} {x_C : Int} {x_D : Int} {x_Sign : Int} {p : Int} {a_ : Int} {r1 : Int} {r2 : Int} {r3 : Int} {r4 : Int} {r5 : Int} (HS : St w0 w (L)) (H : spec_l25With.f x_A x_B x_C x_D x_Sign p a_ = some (r1, r2, r3, r4, r5)) :
    Calls Try.prog 43 #[.agg [.int .i64 x_A, .int .i64 x_B, .int .i64 x_C, .int .i64 x_D, .int .i64 x_Sign].toArray, .int .i64 p, .int .i64 a_] w (spec_l25With.post w0 L x_A x_B x_C x_D x_Sign p a_ r1 r2 r3 r4 r5) := by
  unfold spec_l25With.f at H
  refine Calls.of_G Try.func43 rfl rfl rfl ?_
  refine G.seq ?_
  refine G.region ?_
  refine GO.box (cs := [.int .i64 x_A, .int .i64 x_B, .int .i64 x_C, .int .i64 x_D, .int .i64 x_Sign]) HS rfl rfl rfl rfl ?_; intro b1 wd2 HS
  refine GO.alloc HS rfl zr58 rfl rfl ?_; intro b3 wd4 HS
  refine GO.nil ?_
  refine G.seq ?_
  refine G.seq ?_
  refine G.region ?_
  refine GO.move rfl rfl rfl ?_
  refine GO.nil ?_
  refine G.block ?_
  refine G.seq ?_
  refine G.region ?_
  refine GO.eql rfl rfl rfl rfl ?_
  refine GO.assign rfl rfl rfl ?_
  refine GO.nil ?_
  rcases ite_elim H with ⟨c5, H⟩ | ⟨c5, H⟩
  ·
   refine G.yesB rfl (decide_eq_true c5) ?_
   refine G.region ?_
   refine GO.move rfl rfl rfl ?_
   refine GO.fld (⟨b1, 0, none⟩) rfl rfl fl58_0 rfl rfl ?_
   refine GO.stBox (j := 1) (vs := [.int .i64 a_]) ([.int .i64 a_, .int .i64 x_B, .int .i64 x_C, .int .i64 x_D, .int .i64 x_Sign]) HS rfl rfl rfl rfl rfl (htN na2 rfl) rfl rfl rfl ?_; intro wd6 HS
   refine GO.nil ?_
   refine G.blockEnd ?_
   refine G.seq ?_
   refine G.region ?_
   refine GO.ldBoxA (j := 1) ([.int .i64 a_, .int .i64 x_B, .int .i64 x_C, .int .i64 x_D, .int .i64 x_Sign]) HS rfl rfl rfl rfl ag58 rfl ?_
   refine GO.stBox (j := 0) (vs := [.int .i64 a_, .int .i64 x_B, .int .i64 x_C, .int .i64 x_D, .int .i64 x_Sign]) ([.int .i64 a_, .int .i64 x_B, .int .i64 x_C, .int .i64 x_D, .int .i64 x_Sign]) HS rfl rfl rfl rfl rfl (htA ag58) rfl rfl rfl ?_; intro wd7 HS
   refine GO.nil ?_
   obtain ⟨rfl, rfl, rfl, rfl, rfl⟩ := some5 H
   exact G.ret1 _ Try.func43 rfl (Res1.boxA (j := 0) (vs := [.int .i64 a_, .int .i64 x_B, .int .i64 x_C, .int .i64 x_D, .int .i64 x_Sign]) HS rfl rfl rfl ag58) ⟨rfl, (HS.pick 2 [])⟩
  ·
   refine G.noB rfl (decide_eq_false c5) ?_
   refine G.seq ?_
   refine G.region ?_
   refine GO.eql rfl rfl rfl rfl ?_
   refine GO.assign rfl rfl rfl ?_
   refine GO.nil ?_
   rcases ite_elim H with ⟨c8, H⟩ | ⟨c8, H⟩
   ·
    refine G.yesB rfl (decide_eq_true c8) ?_
    refine G.region ?_
    refine GO.move rfl rfl rfl ?_
    refine GO.fld (⟨b1, 1, none⟩) rfl rfl fl58_1 rfl rfl ?_
    refine GO.stBox (j := 1) (vs := [.int .i64 a_]) ([.int .i64 x_A, .int .i64 a_, .int .i64 x_C, .int .i64 x_D, .int .i64 x_Sign]) HS rfl rfl rfl rfl rfl (htN na2 rfl) rfl rfl rfl ?_; intro wd9 HS
    refine GO.nil ?_
    refine G.blockEnd ?_
    refine G.seq ?_
    refine G.region ?_
    refine GO.ldBoxA (j := 1) ([.int .i64 x_A, .int .i64 a_, .int .i64 x_C, .int .i64 x_D, .int .i64 x_Sign]) HS rfl rfl rfl rfl ag58 rfl ?_
    refine GO.stBox (j := 0) (vs := [.int .i64 x_A, .int .i64 a_, .int .i64 x_C, .int .i64 x_D, .int .i64 x_Sign]) ([.int .i64 x_A, .int .i64 a_, .int .i64 x_C, .int .i64 x_D, .int .i64 x_Sign]) HS rfl rfl rfl rfl rfl (htA ag58) rfl rfl rfl ?_; intro wd10 HS
    refine GO.nil ?_
    obtain ⟨rfl, rfl, rfl, rfl, rfl⟩ := some5 H
    exact G.ret1 _ Try.func43 rfl (Res1.boxA (j := 0) (vs := [.int .i64 x_A, .int .i64 a_, .int .i64 x_C, .int .i64 x_D, .int .i64 x_Sign]) HS rfl rfl rfl ag58) ⟨rfl, (HS.pick 2 [])⟩
   ·
    refine G.noB rfl (decide_eq_false c8) ?_
    refine G.seq ?_
    refine G.region ?_
    refine GO.eql rfl rfl rfl rfl ?_
    refine GO.assign rfl rfl rfl ?_
    refine GO.nil ?_
    rcases ite_elim H with ⟨c11, H⟩ | ⟨c11, H⟩
    ·
     refine G.yesB rfl (decide_eq_true c11) ?_
     refine G.region ?_
     refine GO.move rfl rfl rfl ?_
     refine GO.fld (⟨b1, 2, none⟩) rfl rfl fl58_2 rfl rfl ?_
     refine GO.stBox (j := 1) (vs := [.int .i64 a_]) ([.int .i64 x_A, .int .i64 x_B, .int .i64 a_, .int .i64 x_D, .int .i64 x_Sign]) HS rfl rfl rfl rfl rfl (htN na2 rfl) rfl rfl rfl ?_; intro wd12 HS
     refine GO.nil ?_
     refine G.blockEnd ?_
     refine G.seq ?_
     refine G.region ?_
     refine GO.ldBoxA (j := 1) ([.int .i64 x_A, .int .i64 x_B, .int .i64 a_, .int .i64 x_D, .int .i64 x_Sign]) HS rfl rfl rfl rfl ag58 rfl ?_
     refine GO.stBox (j := 0) (vs := [.int .i64 x_A, .int .i64 x_B, .int .i64 a_, .int .i64 x_D, .int .i64 x_Sign]) ([.int .i64 x_A, .int .i64 x_B, .int .i64 a_, .int .i64 x_D, .int .i64 x_Sign]) HS rfl rfl rfl rfl rfl (htA ag58) rfl rfl rfl ?_; intro wd13 HS
     refine GO.nil ?_
     obtain ⟨rfl, rfl, rfl, rfl, rfl⟩ := some5 H
     exact G.ret1 _ Try.func43 rfl (Res1.boxA (j := 0) (vs := [.int .i64 x_A, .int .i64 x_B, .int .i64 a_, .int .i64 x_D, .int .i64 x_Sign]) HS rfl rfl rfl ag58) ⟨rfl, (HS.pick 2 [])⟩
    ·
     refine G.noB rfl (decide_eq_false c11) ?_
     refine G.region ?_
     refine GO.move rfl rfl rfl ?_
     refine GO.fld (⟨b1, 3, none⟩) rfl rfl fl58_3 rfl rfl ?_
     refine GO.stBox (j := 1) (vs := [.int .i64 a_]) ([.int .i64 x_A, .int .i64 x_B, .int .i64 x_C, .int .i64 a_, .int .i64 x_Sign]) HS rfl rfl rfl rfl rfl (htN na2 rfl) rfl rfl rfl ?_; intro wd14 HS
     refine GO.nil ?_
     refine G.blockEnd ?_
     refine G.seq ?_
     refine G.region ?_
     refine GO.ldBoxA (j := 1) ([.int .i64 x_A, .int .i64 x_B, .int .i64 x_C, .int .i64 a_, .int .i64 x_Sign]) HS rfl rfl rfl rfl ag58 rfl ?_
     refine GO.stBox (j := 0) (vs := [.int .i64 x_A, .int .i64 x_B, .int .i64 x_C, .int .i64 a_, .int .i64 x_Sign]) ([.int .i64 x_A, .int .i64 x_B, .int .i64 x_C, .int .i64 a_, .int .i64 x_Sign]) HS rfl rfl rfl rfl rfl (htA ag58) rfl rfl rfl ?_; intro wd15 HS
     refine GO.nil ?_
     obtain ⟨rfl, rfl, rfl, rfl, rfl⟩ := some5 H
     exact G.ret1 _ Try.func43 rfl (Res1.boxA (j := 0) (vs := [.int .i64 x_A, .int .i64 x_B, .int .i64 x_C, .int .i64 a_, .int .i64 x_Sign]) HS rfl rfl rfl ag58) ⟨rfl, (HS.pick 2 [])⟩

set_option maxRecDepth 20000 in
set_option maxHeartbeats 40000000 in
theorem spec_l27Slide.calls {w0 w : World} {L : List HObj} {K : Nat} {d_Crossings : List GCrossing} {d_Circles : Int} {list : List GCrossing} {e_ : Int} {A_d_Crossings : Option Addr} {c_d_Crossings : Nat} {A_list : Option Addr} {c_list : Nat} {r1 : List GCrossing} (HS : St w0 w (Own T_GCrossing 58 A_list c_list (fun _ => ()) list :: L)) (h_d_Crossings : RdIn w0 L T_GCrossing A_d_Crossings c_d_Crossings (fun _ => ()) d_Crossings) (H : spec_l27Slide.f K d_Crossings d_Circles list e_ = some r1) :
    Calls Try.prog 70 #[.agg [.slice A_d_Crossings d_Crossings.length c_d_Crossings, .int .i64 d_Circles].toArray, .slice A_list list.length c_list, .int .i64 e_] w (spec_l27Slide.post w0 L d_Crossings d_Circles list e_ A_d_Crossings c_d_Crossings A_list c_list r1) := by
  unfold spec_l27Slide.f at H
  refine Calls.of_G Try.func70 rfl rfl rfl ?_
  refine G.seq ?_
  refine G.region ?_
  refine GO.box (cs := [.slice A_d_Crossings d_Crossings.length c_d_Crossings, .int .i64 d_Circles]) HS rfl rfl rfl rfl ?_; intro b1 wd2 HS
  refine GO.nil ?_
  refine G.seq ?_
  obtain ⟨t3, t4, h5, H⟩ := bind2_elim H
  refine G.region ?_
  refine GO.ldBoxA (j := 0) ([.slice A_d_Crossings d_Crossings.length c_d_Crossings, .int .i64 d_Circles]) HS rfl rfl rfl rfl ag28 rfl ?_
  refine GO.move rfl rfl rfl ?_
  refine GO.fn rfl Try.func42 fok42.1 fok42.2 rfl rfl (spec_l25Place.calls HS (RdIn.drop 2 h_d_Crossings) h5) (fun _ wd6 ⟨h7, HS⟩ => ⟨_, h7, ?_⟩)
  refine GO.move rfl rfl rfl ?_
  refine GO.extract rfl rfl rfl rfl ?_
  refine GO.extract rfl rfl rfl rfl ?_
  refine GO.assign rfl rfl rfl ?_
  refine GO.assign rfl rfl rfl ?_
  refine GO.nil ?_
  refine G.seq ?_
  obtain ⟨t8, t9, h10, H⟩ := bind2_elim H
  refine G.region ?_
  refine GO.ldBoxA (j := 0) ([.slice A_d_Crossings d_Crossings.length c_d_Crossings, .int .i64 d_Circles]) HS rfl rfl rfl rfl ag28 rfl ?_
  refine GO.move rfl rfl rfl ?_
  refine GO.fn rfl Try.func42 fok42.1 fok42.2 rfl rfl (spec_l25Place.calls HS (RdIn.drop 2 h_d_Crossings) h10) (fun _ wd11 ⟨h12, HS⟩ => ⟨_, h12, ?_⟩)
  refine GO.move rfl rfl rfl ?_
  refine GO.extract rfl rfl rfl rfl ?_
  refine GO.extract rfl rfl rfl rfl ?_
  refine GO.assign rfl rfl rfl ?_
  refine GO.assign rfl rfl rfl ?_
  refine GO.nil ?_
  refine G.seq ?_
  obtain ⟨c13, H⟩ := ite_none H
  obtain ⟨e14, h15, H⟩ := bnd_elim H
  obtain ⟨t16, h17, H⟩ := Option.bind_eq_some_iff.1 H
  obtain ⟨c20, H⟩ := ite_none H
  obtain ⟨e21, h22, H⟩ := bnd_elim H
  obtain ⟨t23, h24, H⟩ := Option.bind_eq_some_iff.1 H
  refine G.regionAny mixed (by decide) (fun b a w => ∃ (Y1_0 : Value) (Y2_1 : Value) (Y3_2 : Value) (Y4_3 : Value) (Y5_4 : Value) (Y6_5 : Value) (Y7_6 : Value) (Y8_7 : Value) (Y9_8 : Value) (Y10_9 : Value) (Y11_10 : Value) (Y12_11 : Value) (Y13_12 : Value) (Y14_13 : Value) (Y15_14 : Value) (Y16_15 : Value) (Y17_16 : Value) (Y18_17 : Value) (Y19_18 : Value) (Y20_19 : Value), Sat 72 [(10, Y19_18), (11, Y20_19), (24, Y1_0), (25, Y2_1), (26, Y3_2), (27, Y4_3), (28, Y5_4), (29, Y6_5), (30, Y7_6), (31, Y8_7), (32, Y9_8), (33, Y10_9), (34, Y11_10), (35, Y12_11), (36, Y13_12), (37, Y14_13), (38, Y15_14), (39, Y16_15), (40, Y17_16), (41, Y18_17), (1, .slice A_list list.length c_list), (2, .int .i64 e_), (3, .pointer (some ⟨b1, 0, none⟩)), (6, .int .i64 t3), (7, .int .i64 t4), (8, .int .i64 t8), (9, .int .i64 t9)] a ∧ St w0 w (Box b1 28 [.slice A_d_Crossings d_Crossings.length c_d_Crossings, .int .i64 d_Circles] :: Own T_GCrossing 58 A_list c_list (fun _ => ()) list :: L) ∧ (b 18 = true → Y19_18 = (.int .i64 t16)) ∧ (b 19 = true → Y20_19 = (.int .i64 t23)) ∧ (b 0 = true → Y1_0 = (.pointer (some ⟨b1, 0, none⟩))) ∧ (b 1 = true → Y2_1 = (.slice A_d_Crossings d_Crossings.length c_d_Crossings)) ∧ (b 2 = true → Y3_2 = (.int .i64 t3)) ∧ (b 3 = true → Y4_3 = (.pointer (some (ea A_d_Crossings (t3.toNat * 5))))) ∧ (b 4 = true → Y5_4 = (.agg [.int .i64 e14.A, .int .i64 e14.B, .int .i64 e14.C, .int .i64 e14.D, .int .i64 e14.Sign].toArray)) ∧ (b 5 = true → Y6_5 = (.int .i64 t4)) ∧ (b 6 = true → Y7_6 = (.int .i64 (w64 (t4 + 2)))) ∧ (b 7 = true → Y8_7 = (.int .i64 ((w64 (t4 + 2)).tmod 4))) ∧ (b 8 = true → Y9_8 = (.int .i64 t16)) ∧ (b 9 = true → Y10_9 = (.pointer (some ⟨b1, 0, none⟩))) ∧ (b 10 = true → Y11_10 = (.slice A_d_Crossings d_Crossings.length c_d_Crossings)) ∧ (b 11 = true → Y12_11 = (.int .i64 t8)) ∧ (b 12 = true → Y13_12 = (.pointer (some (ea A_d_Crossings (t8.toNat * 5))))) ∧ (b 13 = true → Y14_13 = (.agg [.int .i64 e21.A, .int .i64 e21.B, .int .i64 e21.C, .int .i64 e21.D, .int .i64 e21.Sign].toArray)) ∧ (b 14 = true → Y15_14 = (.int .i64 t9)) ∧ (b 15 = true → Y16_15 = (.int .i64 (w64 (t9 + 2)))) ∧ (b 16 = true → Y17_16 = (.int .i64 ((w64 (t9 + 2)).tmod 4))) ∧ (b 17 = true → Y18_17 = (.int .i64 t23))) ?_ ?_ ?_
  ·
   intro a hs
   obtain ⟨Y19_18, hs⟩ := hs.ext (d := 10) rfl
   obtain ⟨Y20_19, hs⟩ := hs.ext (d := 11) rfl
   obtain ⟨Y1_0, hs⟩ := hs.ext (d := 24) rfl
   obtain ⟨Y2_1, hs⟩ := hs.ext (d := 25) rfl
   obtain ⟨Y3_2, hs⟩ := hs.ext (d := 26) rfl
   obtain ⟨Y4_3, hs⟩ := hs.ext (d := 27) rfl
   obtain ⟨Y5_4, hs⟩ := hs.ext (d := 28) rfl
   obtain ⟨Y6_5, hs⟩ := hs.ext (d := 29) rfl
   obtain ⟨Y7_6, hs⟩ := hs.ext (d := 30) rfl
   obtain ⟨Y8_7, hs⟩ := hs.ext (d := 31) rfl
   obtain ⟨Y9_8, hs⟩ := hs.ext (d := 32) rfl
   obtain ⟨Y10_9, hs⟩ := hs.ext (d := 33) rfl
   obtain ⟨Y11_10, hs⟩ := hs.ext (d := 34) rfl
   obtain ⟨Y12_11, hs⟩ := hs.ext (d := 35) rfl
   obtain ⟨Y13_12, hs⟩ := hs.ext (d := 36) rfl
   obtain ⟨Y14_13, hs⟩ := hs.ext (d := 37) rfl
   obtain ⟨Y15_14, hs⟩ := hs.ext (d := 38) rfl
   obtain ⟨Y16_15, hs⟩ := hs.ext (d := 39) rfl
   obtain ⟨Y17_16, hs⟩ := hs.ext (d := 40) rfl
   obtain ⟨Y18_17, hs⟩ := hs.ext (d := 41) rfl
   exact ⟨Y1_0, Y2_1, Y3_2, Y4_3, Y5_4, Y6_5, Y7_6, Y8_7, Y9_8, Y10_9, Y11_10, Y12_11, Y13_12, Y14_13, Y15_14, Y16_15, Y17_16, Y18_17, Y19_18, Y20_19, hs.weak ⟨rfl, rfl, rfl, rfl, rfl, rfl, rfl, rfl, rfl, rfl, rfl, rfl, rfl, rfl, rfl, rfl, rfl, rfl, rfl, rfl, rfl, rfl, rfl, rfl, rfl, rfl, rfl, trivial⟩, (HS.drew.pick 2 [0, 1]), fun h => Bool.noConfusion h, fun h => Bool.noConfusion h, fun h => Bool.noConfusion h, fun h => Bool.noConfusion h, fun h => Bool.noConfusion h, fun h => Bool.noConfusion h, fun h => Bool.noConfusion h, fun h => Bool.noConfusion h, fun h => Bool.noConfusion h, fun h => Bool.noConfusion h, fun h => Bool.noConfusion h, fun h => Bool.noConfusion h, fun h => Bool.noConfusion h, fun h => Bool.noConfusion h, fun h => Bool.noConfusion h, fun h => Bool.noConfusion h, fun h => Bool.noConfusion h, fun h => Bool.noConfusion h, fun h => Bool.noConfusion h, fun h => Bool.noConfusion h⟩
  ·
   intro j hj b a w
   refine exI fun Y1_0 => exI fun Y2_1 => exI fun Y3_2 => exI fun Y4_3 => exI fun Y5_4 => exI fun Y6_5 => exI fun Y7_6 => exI fun Y8_7 => exI fun Y9_8 => exI fun Y10_9 => exI fun Y11_10 => exI fun Y12_11 => exI fun Y13_12 => exI fun Y14_13 => exI fun Y15_14 => exI fun Y16_15 => exI fun Y17_16 => exI fun Y18_17 => exI fun Y19_18 => exI fun Y20_19 => anI fun hs => anI fun HS => anI fun f18 => anI fun f19 => anI fun f0 => anI fun f1 => anI fun f2 => anI fun f3 => anI fun f4 => anI fun f5 => anI fun f6 => anI fun f7 => anI fun f8 => anI fun f9 => anI fun f10 => anI fun f11 => anI fun f12 => anI fun f13 => anI fun f14 => anI fun f15 => anI fun f16 => fun f17 hb hd hcl => ?_
   match j, hj with
   | 0, _ =>
    refine GO.at hs ?_
    refine GO.fld (⟨b1, 0, none⟩) rfl rfl fl28_0 rfl rfl ?_
    refine GO.fin (fun a hs => ?_)
    exact ⟨(.pointer (some ⟨b1, 0, none⟩)), _, _, _, _, _, _, _, _, _, _, _, _, _, _, _, _, _, _, _, by exact hs.setAt 2 rfl, HS, f18, f19, fun _ => rfl, f1, f2, f3, f4, f5, f6, f7, f8, f9, f10, f11, f12, f13, f14, f15, f16, f17⟩
   | 1, _ =>
    have h0 : b 0 = true := hd 0 (by decide)
    obtain rfl := f0 h0
    refine GO.at hs ?_
    refine GO.ldBox (j := 0) HS rfl rfl rfl rfl na26 rfl ?_
    refine GO.fin (fun a hs => ?_)
    exact ⟨_, (.slice A_d_Crossings d_Crossings.length c_d_Crossings), _, _, _, _, _, _, _, _, _, _, _, _, _, _, _, _, _, _, by exact hs.setAt 3 rfl, HS, f18, f19, f0, fun _ => rfl, f2, f3, f4, f5, f6, f7, f8, f9, f10, f11, f12, f13, f14, f15, f16, f17⟩
   | 2, _ =>
    refine GO.at hs ?_
    refine GO.move rfl rfl rfl ?_
    refine GO.fin (fun a hs => ?_)
    exact ⟨_, _, (.int .i64 t3), _, _, _, _, _, _, _, _, _, _, _, _, _, _, _, _, _, by exact hs.setAt 4 rfl, HS, f18, f19, f0, f1, fun _ => rfl, f3, f4, f5, f6, f7, f8, f9, f10, f11, f12, f13, f14, f15, f16, f17⟩
   | 3, _ =>
    have h1 : b 1 = true := hd 1 (by decide)
    obtain rfl := f1 h1
    have h2 : b 2 = true := hd 2 (by decide)
    obtain rfl := f2 h2
    refine GO.at hs ?_
    refine GO.ix rfl rfl rfl Try.underlying26 sz58 ((RdIn.drop 2 h_d_Crossings) _ HS).2.2.1 c13.1 c13.2 rfl ?_
    refine GO.fin (fun a hs => ?_)
    exact ⟨_, _, _, (.pointer (some (ea A_d_Crossings (t3.toNat * 5)))), _, _, _, _, _, _, _, _, _, _, _, _, _, _, _, _, by exact hs.setAt 5 rfl, HS, f18, f19, f0, f1, f2, fun _ => rfl, f4, f5, f6, f7, f8, f9, f10, f11, f12, f13, f14, f15, f16, f17⟩
   | 4, _ =>
    have h3 : b 3 = true := hd 3 (by decide)
    obtain rfl := f3 h3
    refine GO.at hs ?_
    refine GO.ldRdA (T := T_GCrossing) (n := t3.toNat) HS (RdIn.drop 2 h_d_Crossings) rfl rfl (getD_eq (ltN c13) h15) ag58 rfl ?_
    refine GO.fin (fun a hs => ?_)
    exact ⟨_, _, _, _, (.agg [.int .i64 e14.A, .int .i64 e14.B, .int .i64 e14.C, .int .i64 e14.D, .int .i64 e14.Sign].toArray), _, _, _, _, _, _, _, _, _, _, _, _, _, _, _, by exact hs.setAt 6 rfl, HS, f18, f19, f0, f1, f2, f3, fun _ => rfl, f5, f6, f7, f8, f9, f10, f11, f12, f13, f14, f15, f16, f17⟩
   | 5, _ =>
    refine GO.at hs ?_
    refine GO.move rfl rfl rfl ?_
    refine GO.fin (fun a hs => ?_)
    exact ⟨_, _, _, _, _, (.int .i64 t4), _, _, _, _, _, _, _, _, _, _, _, _, _, _, by exact hs.setAt 7 rfl, HS, f18, f19, f0, f1, f2, f3, f4, fun _ => rfl, f6, f7, f8, f9, f10, f11, f12, f13, f14, f15, f16, f17⟩
   | 6, _ =>
    have h5 : b 5 = true := hd 5 (by decide)
    obtain rfl := f5 h5
    refine GO.at hs ?_
    refine GO.add rfl rfl rfl rfl ?_
    refine GO.fin (fun a hs => ?_)
    exact ⟨_, _, _, _, _, _, (.int .i64 (w64 (t4 + 2))), _, _, _, _, _, _, _, _, _, _, _, _, _, by exact hs.setAt 8 rfl, HS, f18, f19, f0, f1, f2, f3, f4, f5, fun _ => rfl, f7, f8, f9, f10, f11, f12, f13, f14, f15, f16, f17⟩
   | 7, _ =>
    have h6 : b 6 = true := hd 6 (by decide)
    obtain rfl := f6 h6
    refine GO.at hs ?_
    refine GO.rem rfl rfl rfl (by decide) rfl ?_
    refine GO.fin (fun a hs => ?_)
    exact ⟨_, _, _, _, _, _, _, (.int .i64 ((w64 (t4 + 2)).tmod 4)), _, _, _, _, _, _, _, _, _, _, _, _, by exact hs.setAt 9 rfl, HS, f18, f19, f0, f1, f2, f3, f4, f5, f6, fun _ => rfl, f8, f9, f10, f11, f12, f13, f14, f15, f16, f17⟩
   | 8, _ =>
    have h4 : b 4 = true := hd 4 (by decide)
    obtain rfl := f4 h4
    have h7 : b 7 = true := hd 7 (by decide)
    obtain rfl := f7 h7
    refine GO.at hs ?_
    refine GO.fn rfl Try.func105 fok105.1 fok105.2 rfl rfl (spec_l25End.calls HS  h17) (fun _ wd18 ⟨h19, HS⟩ => ⟨_, h19, ?_⟩)
    refine GO.fin (fun a hs => ?_)
    exact ⟨_, _, _, _, _, _, _, _, (.int .i64 t16), _, _, _, _, _, _, _, _, _, _, _, by exact hs.setAt 10 rfl, HS, f18, f19, f0, f1, f2, f3, f4, f5, f6, f7, fun _ => rfl, f9, f10, f11, f12, f13, f14, f15, f16, f17⟩
   | 9, _ =>
    refine GO.at hs ?_
    refine GO.fld (⟨b1, 0, none⟩) rfl rfl fl28_0 rfl rfl ?_
    refine GO.fin (fun a hs => ?_)
    exact ⟨_, _, _, _, _, _, _, _, _, (.pointer (some ⟨b1, 0, none⟩)), _, _, _, _, _, _, _, _, _, _, by exact hs.setAt 11 rfl, HS, f18, f19, f0, f1, f2, f3, f4, f5, f6, f7, f8, fun _ => rfl, f10, f11, f12, f13, f14, f15, f16, f17⟩
   | 10, _ =>
    have h9 : b 9 = true := hd 9 (by decide)
    obtain rfl := f9 h9
    refine GO.at hs ?_
    refine GO.ldBox (j := 0) HS rfl rfl rfl rfl na26 rfl ?_
    refine GO.fin (fun a hs => ?_)
    exact ⟨_, _, _, _, _, _, _, _, _, _, (.slice A_d_Crossings d_Crossings.length c_d_Crossings), _, _, _, _, _, _, _, _, _, by exact hs.setAt 12 rfl, HS, f18, f19, f0, f1, f2, f3, f4, f5, f6, f7, f8, f9, fun _ => rfl, f11, f12, f13, f14, f15, f16, f17⟩
   | 11, _ =>
    refine GO.at hs ?_
    refine GO.move rfl rfl rfl ?_
    refine GO.fin (fun a hs => ?_)
    exact ⟨_, _, _, _, _, _, _, _, _, _, _, (.int .i64 t8), _, _, _, _, _, _, _, _, by exact hs.setAt 13 rfl, HS, f18, f19, f0, f1, f2, f3, f4, f5, f6, f7, f8, f9, f10, fun _ => rfl, f12, f13, f14, f15, f16, f17⟩
   | 12, _ =>
    have h10 : b 10 = true := hd 10 (by decide)
    obtain rfl := f10 h10
    have h11 : b 11 = true := hd 11 (by decide)
    obtain rfl := f11 h11
    refine GO.at hs ?_
    refine GO.ix rfl rfl rfl Try.underlying26 sz58 ((RdIn.drop 2 h_d_Crossings) _ HS).2.2.1 c20.1 c20.2 rfl ?_
    refine GO.fin (fun a hs => ?_)
    exact ⟨_, _, _, _, _, _, _, _, _, _, _, _, (.pointer (some (ea A_d_Crossings (t8.toNat * 5)))), _, _, _, _, _, _, _, by exact hs.setAt 14 rfl, HS, f18, f19, f0, f1, f2, f3, f4, f5, f6, f7, f8, f9, f10, f11, fun _ => rfl, f13, f14, f15, f16, f17⟩
   | 13, _ =>
    have h12 : b 12 = true := hd 12 (by decide)
    obtain rfl := f12 h12
    refine GO.at hs ?_
    refine GO.ldRdA (T := T_GCrossing) (n := t8.toNat) HS (RdIn.drop 2 h_d_Crossings) rfl rfl (getD_eq (ltN c20) h22) ag58 rfl ?_
    refine GO.fin (fun a hs => ?_)
    exact ⟨_, _, _, _, _, _, _, _, _, _, _, _, _, (.agg [.int .i64 e21.A, .int .i64 e21.B, .int .i64 e21.C, .int .i64 e21.D, .int .i64 e21.Sign].toArray), _, _, _, _, _, _, by exact hs.setAt 15 rfl, HS, f18, f19, f0, f1, f2, f3, f4, f5, f6, f7, f8, f9, f10, f11, f12, fun _ => rfl, f14, f15, f16, f17⟩
   | 14, _ =>
    refine GO.at hs ?_
    refine GO.move rfl rfl rfl ?_
    refine GO.fin (fun a hs => ?_)
    exact ⟨_, _, _, _, _, _, _, _, _, _, _, _, _, _, (.int .i64 t9), _, _, _, _, _, by exact hs.setAt 16 rfl, HS, f18, f19, f0, f1, f2, f3, f4, f5, f6, f7, f8, f9, f10, f11, f12, f13, fun _ => rfl, f15, f16, f17⟩
   | 15, _ =>
    have h14 : b 14 = true := hd 14 (by decide)
    obtain rfl := f14 h14
    refine GO.at hs ?_
    refine GO.add rfl rfl rfl rfl ?_
    refine GO.fin (fun a hs => ?_)
    exact ⟨_, _, _, _, _, _, _, _, _, _, _, _, _, _, _, (.int .i64 (w64 (t9 + 2))), _, _, _, _, by exact hs.setAt 17 rfl, HS, f18, f19, f0, f1, f2, f3, f4, f5, f6, f7, f8, f9, f10, f11, f12, f13, f14, fun _ => rfl, f16, f17⟩
   | 16, _ =>
    have h15 : b 15 = true := hd 15 (by decide)
    obtain rfl := f15 h15
    refine GO.at hs ?_
    refine GO.rem rfl rfl rfl (by decide) rfl ?_
    refine GO.fin (fun a hs => ?_)
    exact ⟨_, _, _, _, _, _, _, _, _, _, _, _, _, _, _, _, (.int .i64 ((w64 (t9 + 2)).tmod 4)), _, _, _, by exact hs.setAt 18 rfl, HS, f18, f19, f0, f1, f2, f3, f4, f5, f6, f7, f8, f9, f10, f11, f12, f13, f14, f15, fun _ => rfl, f17⟩
   | 17, _ =>
    have h13 : b 13 = true := hd 13 (by decide)
    obtain rfl := f13 h13
    have h16 : b 16 = true := hd 16 (by decide)
    obtain rfl := f16 h16
    refine GO.at hs ?_
    refine GO.fn rfl Try.func105 fok105.1 fok105.2 rfl rfl (spec_l25End.calls HS  h24) (fun _ wd25 ⟨h26, HS⟩ => ⟨_, h26, ?_⟩)
    refine GO.fin (fun a hs => ?_)
    exact ⟨_, _, _, _, _, _, _, _, _, _, _, _, _, _, _, _, _, (.int .i64 t23), _, _, by exact hs.setAt 19 rfl, HS, f18, f19, f0, f1, f2, f3, f4, f5, f6, f7, f8, f9, f10, f11, f12, f13, f14, f15, f16, fun _ => rfl⟩
   | 18, _ =>
    have h8 : b 8 = true := hd 8 (by decide)
    obtain rfl := f8 h8
    refine GO.at hs ?_
    refine GO.assign rfl rfl rfl ?_
    refine GO.fin (fun a hs => ?_)
    exact ⟨_, _, _, _, _, _, _, _, _, _, _, _, _, _, _, _, _, _, (.int .i64 t16), _, by exact hs.setAt 0 rfl, HS, fun _ => rfl, f19, f0, f1, f2, f3, f4, f5, f6, f7, f8, f9, f10, f11, f12, f13, f14, f15, f16, f17⟩
   | 19, _ =>
    have h17 : b 17 = true := hd 17 (by decide)
    obtain rfl := f17 h17
    refine GO.at hs ?_
    refine GO.assign rfl rfl rfl ?_
    refine GO.fin (fun a hs => ?_)
    exact ⟨_, _, _, _, _, _, _, _, _, _, _, _, _, _, _, _, _, _, _, (.int .i64 t23), by exact hs.setAt 1 rfl, HS, f18, fun _ => rfl, f0, f1, f2, f3, f4, f5, f6, f7, f8, f9, f10, f11, f12, f13, f14, f15, f16, f17⟩
   | k + 20, hj => exact absurd hj (Nat.not_lt.2 (Nat.le_add_left 20 k))
  ·
   intro b a w hall
   refine exI fun Y1_0 => exI fun Y2_1 => exI fun Y3_2 => exI fun Y4_3 => exI fun Y5_4 => exI fun Y6_5 => exI fun Y7_6 => exI fun Y8_7 => exI fun Y9_8 => exI fun Y10_9 => exI fun Y11_10 => exI fun Y12_11 => exI fun Y13_12 => exI fun Y14_13 => exI fun Y15_14 => exI fun Y16_15 => exI fun Y17_16 => exI fun Y18_17 => exI fun Y19_18 => exI fun Y20_19 => anI fun hs => anI fun HS => anI fun f18 => anI fun f19 => anI fun f0 => anI fun f1 => anI fun f2 => anI fun f3 => anI fun f4 => anI fun f5 => anI fun f6 => anI fun f7 => anI fun f8 => anI fun f9 => anI fun f10 => anI fun f11 => anI fun f12 => anI fun f13 => anI fun f14 => anI fun f15 => anI fun f16 => fun f17 => ?_
   obtain rfl := f18 (hall 18 (by decide))
   obtain rfl := f19 (hall 19 (by decide))
   obtain rfl := f0 (hall 0 (by decide))
   obtain rfl := f1 (hall 1 (by decide))
   obtain rfl := f2 (hall 2 (by decide))
   obtain rfl := f3 (hall 3 (by decide))
   obtain rfl := f4 (hall 4 (by decide))
   obtain rfl := f5 (hall 5 (by decide))
   obtain rfl := f6 (hall 6 (by decide))
   obtain rfl := f7 (hall 7 (by decide))
   obtain rfl := f8 (hall 8 (by decide))
   obtain rfl := f9 (hall 9 (by decide))
   obtain rfl := f10 (hall 10 (by decide))
   obtain rfl := f11 (hall 11 (by decide))
   obtain rfl := f12 (hall 12 (by decide))
   obtain rfl := f13 (hall 13 (by decide))
   obtain rfl := f14 (hall 14 (by decide))
   obtain rfl := f15 (hall 15 (by decide))
   obtain rfl := f16 (hall 16 (by decide))
   obtain rfl := f17 (hall 17 (by decide))
   refine G.at hs ?_
   refine G.seq ?_
   obtain ⟨c27, H⟩ := ite_none H
   obtain ⟨e28, h29, H⟩ := bnd_elim H
   obtain ⟨t30, t31, t32, t33, t34, h35, H⟩ := bind5_elim H
   obtain ⟨t38, t39, t40, t41, t42, h43, H⟩ := bind5_elim H
   refine G.region ?_
   refine GO.move rfl rfl rfl ?_
   refine GO.move rfl rfl rfl ?_
   refine GO.move rfl rfl rfl ?_
   refine GO.move rfl rfl rfl ?_
   refine GO.ix rfl rfl rfl Try.underlying26 sz58 ((RdIn.own (j := 1) rfl) _ HS).2.2.1 c27.1 c27.2 rfl ?_
   refine GO.ldRdA (T := T_GCrossing) (n := t8.toNat) HS (RdIn.own (j := 1) rfl) rfl rfl (getD_eq (ltN c27) h29) ag58 rfl ?_
   refine GO.move rfl rfl rfl ?_
   refine GO.move rfl rfl rfl ?_
   refine GO.fn rfl Try.func43 fok43.1 fok43.2 rfl rfl (spec_l25With.calls HS  h35) (fun _ wd36 ⟨h37, HS⟩ => ⟨_, h37, ?_⟩)
   refine GO.move rfl rfl rfl ?_
   refine GO.add rfl rfl rfl rfl ?_
   refine GO.rem rfl rfl rfl (by decide) rfl ?_
   refine GO.move rfl rfl rfl ?_
   refine GO.fn rfl Try.func43 fok43.1 fok43.2 rfl rfl (spec_l25With.calls HS  h43) (fun _ wd44 ⟨h45, HS⟩ => ⟨_, h45, ?_⟩)
   refine GO.ix rfl rfl rfl Try.underlying26 sz58 ((RdIn.own (j := 1) rfl) _ HS).2.2.1 c27.1 c27.2 rfl ?_
   refine GO.stRow (T := T_GCrossing) (j := 1) (n := t8.toNat) (o := 0) (vs := [.int .i64 t38, .int .i64 t39, .int .i64 t40, .int .i64 t41, .int .i64 t42]) (⟨t38, t39, t40, t41, t42⟩ : GCrossing) HS rfl flat_flat rfl rfl rfl rfl (htA ag58) rfl (getD_some (d := z_GCrossing) (ltN c27)) rfl rfl ?_; intro wd46 HS
   refine GO.nil ?_
   refine G.len (t := 1) (m := (list.set t8.toNat (⟨t38, t39, t40, t41, t42⟩ : GCrossing)).length) rfl (by simp only [List.length_set] <;> rfl) ?_
   obtain ⟨c47, H⟩ := ite_none H
   obtain ⟨e48, h49, H⟩ := bnd_elim H
   obtain ⟨t50, t51, t52, t53, t54, h55, H⟩ := bind5_elim H
   obtain ⟨t58, t59, t60, t61, t62, h63, H⟩ := bind5_elim H
   refine G.region ?_
   refine GO.move rfl rfl rfl ?_
   refine GO.move rfl rfl rfl ?_
   refine GO.move rfl rfl rfl ?_
   refine GO.move rfl rfl rfl ?_
   refine GO.ix rfl rfl rfl Try.underlying26 sz58 ((RdIn.own (j := 1) rfl) _ HS).2.2.1 c47.1 c47.2 rfl ?_
   refine GO.ldRdA (T := T_GCrossing) (n := t3.toNat) HS (RdIn.own (j := 1) rfl) rfl rfl (getD_eq (ltN c47) h49) ag58 rfl ?_
   refine GO.move rfl rfl rfl ?_
   refine GO.add rfl rfl rfl rfl ?_
   refine GO.rem rfl rfl rfl (by decide) rfl ?_
   refine GO.move rfl rfl rfl ?_
   refine GO.fn rfl Try.func43 fok43.1 fok43.2 rfl rfl (spec_l25With.calls HS  h55) (fun _ wd56 ⟨h57, HS⟩ => ⟨_, h57, ?_⟩)
   refine GO.move rfl rfl rfl ?_
   refine GO.move rfl rfl rfl ?_
   refine GO.fn rfl Try.func43 fok43.1 fok43.2 rfl rfl (spec_l25With.calls HS  h63) (fun _ wd64 ⟨h65, HS⟩ => ⟨_, h65, ?_⟩)
   refine GO.ix rfl rfl rfl Try.underlying26 sz58 ((RdIn.own (j := 1) rfl) _ HS).2.2.1 c47.1 c47.2 rfl ?_
   refine GO.stRow (T := T_GCrossing) (j := 1) (n := t3.toNat) (o := 0) (vs := [.int .i64 t58, .int .i64 t59, .int .i64 t60, .int .i64 t61, .int .i64 t62]) (⟨t58, t59, t60, t61, t62⟩ : GCrossing) HS rfl flat_flat rfl rfl rfl rfl (htA ag58) rfl (getD_some (d := z_GCrossing) (ltN c47)) rfl rfl ?_; intro wd66 HS
   refine GO.nil ?_
   obtain rfl := Option.some.inj H
   exact G.end0 Try.func70 rfl ⟨rfl, (HS.pick 2 [1])⟩

set_option maxRecDepth 20000 in
set_option maxHeartbeats 40000000 in
theorem spec_SlideTriangle.calls {w0 w : World} {L : List HObj} {K : Nat} {d_Crossings : List GCrossing} {d_Circles : Int} {corner : Int} {A_d_Crossings : Option Addr} {c_d_Crossings : Nat} {r1 : List GCrossing} {r2 : Int} {r3 : Int} (HS : St w0 w (L)) (h_d_Crossings : RdIn w0 L T_GCrossing A_d_Crossings c_d_Crossings (fun _ => ()) d_Crossings) (H : spec_SlideTriangle.f K d_Crossings d_Circles corner = some (r1, r2, r3)) :
    Calls Try.prog 25 #[.agg [.slice A_d_Crossings d_Crossings.length c_d_Crossings, .int .i64 d_Circles].toArray, .int .i64 corner] w (spec_SlideTriangle.post w0 L d_Crossings d_Circles corner A_d_Crossings c_d_Crossings r1 r2 r3) := by
  unfold spec_SlideTriangle.f at H
  refine Calls.of_G Try.func25 rfl rfl rfl ?_
  refine G.seq ?_
  refine G.region ?_
  refine GO.box (cs := [.slice A_d_Crossings d_Crossings.length c_d_Crossings, .int .i64 d_Circles]) HS rfl rfl rfl rfl ?_; intro b1 wd2 HS
  refine GO.alloc HS rfl zr28 rfl rfl ?_; intro b3 wd4 HS
  refine GO.assign rfl rfl rfl ?_
  refine GO.nil ?_
  refine G.seq ?_
  refine G.seq ?_
  obtain ⟨t5, h6, H⟩ := Option.bind_eq_some_iff.1 H
  refine G.region ?_
  refine GO.ldBoxA (j := 1) ([.slice A_d_Crossings d_Crossings.length c_d_Crossings, .int .i64 d_Circles]) HS rfl rfl rfl rfl ag28 rfl ?_
  refine GO.fn rfl Try.func40 fok40.1 fok40.2 rfl rfl (spec_IsDiagram.calls HS (RdIn.drop 2 h_d_Crossings) h6) (fun _ wd7 ⟨h8, HS⟩ => ⟨_, h8, ?_⟩)
  refine GO.not rfl rfl rfl ?_
  refine GO.nil ?_
  rcases ite_elim H with ⟨c9, H⟩ | ⟨c9, H⟩
  ·
   refine G.noB rfl (congrArg Bool.not c9) ?_
   refine G.skip ?_
   refine G.seq ?_
   obtain ⟨t10, h11, H⟩ := Option.bind_eq_some_iff.1 H
   refine G.region ?_
   refine GO.ldBoxA (j := 1) ([.slice A_d_Crossings d_Crossings.length c_d_Crossings, .int .i64 d_Circles]) HS rfl rfl rfl rfl ag28 rfl ?_
   refine GO.fn rfl Try.func68 fok68.1 fok68.2 rfl rfl (spec_l25Regions.calls HS (RdIn.drop 2 h_d_Crossings) h11) (fun _ wd15 ⟨A12, c13, y14, h16, HS⟩ => ⟨_, h16, ?_⟩)
   refine GO.assign rfl rfl rfl ?_
   refine GO.nil ?_
   refine G.seq ?_
   refine G.seq ?_
   refine G.region ?_
   refine GO.assign rfl rfl rfl ?_
   refine GO.nil ?_
   refine G.block ?_
   refine G.loop ?_
   refine G.name (fun k_l1 hk_l1 => ?_)
   have at_l1 : ∀ m_l1, m_l1 ≤ K → ∀ (i_74 : Int) (w : World), spec_SlideTriangle.l1 K m_l1 d_Crossings d_Circles corner t10 i_74 = some (r1, r2, r3) → St w0 w (Box b1 28 [.slice A_d_Crossings d_Crossings.length c_d_Crossings, .int .i64 d_Circles] :: Box b3 28 [.slice none 0 0, .int .i64 0] :: Own (Ty.slice 2 (TInt .i64)) 43 A12 c13 y14 t10 :: L) → G Try.prog 25 60 [(1, .int .i64 corner), (2, .pointer (some ⟨b1, 0, none⟩)), (4, .pointer (some ⟨b3, 0, none⟩)), (6, .slice A12 t10.length c13), (7, .int .i64 i_74)] k_l1 w (spec_SlideTriangle.post w0 L d_Crossings d_Circles corner A_d_Crossings c_d_Crossings r1 r2 r3) := by
    intro m_l1
    induction m_l1 using Nat.strongRecOn with
    | _ m_l1 ih_l1 =>
     intro hm_l1 i_74 w H HS
     cases m_l1 with
     | zero => rw [spec_SlideTriangle.l1] at H; cases H
     | succ n_l1 =>
      rw [spec_SlideTriangle.l1] at H
      subst hk_l1
      refine G.seq ?_
      refine G.seq ?_
      refine G.region ?_
      refine GO.move rfl rfl rfl ?_
      refine GO.move rfl rfl rfl ?_
      refine GO.lenS rfl rfl Try.underlying42 rfl ?_
      refine GO.lss rfl rfl rfl rfl ?_
      refine GO.nil ?_
      rcases ite_elim H with ⟨c132, H⟩ | ⟨c132, H⟩
      ·
       refine G.yesB rfl (decide_eq_true c132) ?_
       refine G.skip ?_
       refine G.seq ?_
       refine G.block ?_
       refine G.seq ?_
       obtain ⟨c133, H⟩ := ite_none H
       refine G.region ?_
       refine GO.move rfl rfl rfl ?_
       refine GO.move rfl rfl rfl ?_
       refine GO.ix rfl rfl rfl Try.underlying42 sz43 ((RdIn.own (j := 2) rfl) _ HS).2.2.1 c133.1 c133.2 rfl ?_
       refine GO.ldRd (T := (Ty.slice 2 (TInt .i64))) (n := i_74.toNat) (o := 0) HS (RdIn.own (j := 2) rfl) rfl rfl (getD_some (d := []) (ltN c133)) rfl rfl na43 rfl ?_
       refine GO.assign rfl rfl rfl ?_
       refine GO.nil ?_
       refine G.seq ?_
       refine G.seq ?_
       obtain ⟨c140, H⟩ := ite_none H
       rcases ite_elim H with ⟨c141, H⟩ | ⟨c141, H⟩
       ·
        obtain ⟨t142, h143, H⟩ := Option.bind_eq_some_iff.1 H
        refine G.region ?_
        refine GO.move rfl rfl rfl ?_
        refine GO.ix rfl rfl rfl Try.underlying43 sz2 ((RdIn.elem (RdIn.own (j := 2) rfl) c133.1 c133.2) _ HS).2.2.1 c140.1 c140.2 rfl ?_
        refine GO.ldRd (T := (TInt .i64)) (n := 0) (o := 0) HS (RdIn.elem (RdIn.own (j := 2) rfl) c133.1 c133.2) rfl rfl (getD_some (d := 0) (ltN c140)) rfl rfl na2 rfl ?_
        refine GO.move rfl rfl rfl ?_
        refine GO.neq rfl rfl rfl rfl ?_
        refine GO.move rfl rfl rfl ?_
        refine GO.known (t := 32) rfl (congrArg Bool.not (decide_eq_true c141)) ?_
        refine GO.on rfl rfl rfl rfl ?_
        refine GO.move rfl rfl rfl ?_
        refine GO.back ?_
        refine GO.on rfl rfl rfl rfl ?_
        refine GO.fn rfl Try.func69 fok69.1 fok69.2 rfl rfl (spec_l27Triangle.calls HS (RdIn.elem (RdIn.own (j := 2) rfl) c133.1 c133.2) h143) (fun _ wd144 ⟨h145, HS⟩ => ⟨_, h145, ?_⟩)
        refine GO.back ?_
        refine GO.on rfl rfl rfl rfl ?_
        refine GO.not rfl rfl rfl ?_
        refine GO.back ?_
        refine GO.pickF rfl rfl rfl rfl rfl ?_
        refine GO.nil ?_
        rcases ite_elim H with ⟨c146, H⟩ | ⟨c146, H⟩
        ·
         refine G.noB rfl (congrArg Bool.not c146) ?_
         refine G.skip ?_
         refine G.seq ?_
         obtain ⟨c152, H⟩ := ite_none H
         refine G.region ?_
         refine GO.buildS (el := 58) ([]) HS rfl rfl (fun _ => by kernel_rfl) rfl ?_; intro b147 wd148 HS
         refine GO.fld (⟨b1, 0, none⟩) rfl rfl fl28_0 rfl rfl ?_
         refine GO.ldBox (j := 1) HS rfl rfl rfl rfl na26 rfl ?_
         replace HS := HS.boxRow (T := T_GCrossing) (j := 0) rfl flat_flat (fun _ => ()) ([] : List GCrossing) rfl (bndL rfl)
         refine GO.lenC (t := 37) (m := ([] : List GCrossing).length) (c' := ([] : List GCrossing).length) rfl rfl rfl ?_
         refine GO.appS (T := T_GCrossing) (j := 0) HS rfl (RdIn.drop 4 h_d_Crossings) flat_flat rfl rfl rfl Try.underlying26 inf58 rfl rfl rfl c152 rfl (fun _ => rfl) ?_; intro A150 c151 wd149 HS
         refine GO.assign rfl rfl rfl ?_
         refine GO.nil ?_
         refine G.seq ?_
         refine G.seq ?_
         refine G.region ?_
         refine GO.assign rfl rfl rfl ?_
         refine GO.nil ?_
         refine G.block ?_
         refine G.loop ?_
         refine G.name (fun k_l4 hk_l4 => ?_)
         have at_l4 : ∀ m_l4, m_l4 ≤ n_l1 → ∀ (list_162 : List GCrossing) (k_163 : Int) (w : World), spec_SlideTriangle.l4 K m_l4 d_Crossings d_Circles t10 i_74 list_162 k_163 = some (r1, r2, r3) → St w0 w (Box b1 28 [.slice A_d_Crossings d_Crossings.length c_d_Crossings, .int .i64 d_Circles] :: Box b3 28 [.slice none 0 0, .int .i64 0] :: Own (Ty.slice 2 (TInt .i64)) 43 A12 c13 y14 t10 :: Own T_GCrossing 58 A150 c151 (fun _ => ()) list_162 :: L) → G Try.prog 25 60 [(2, .pointer (some ⟨b1, 0, none⟩)), (4, .pointer (some ⟨b3, 0, none⟩)), (8, .slice ((y14 i_74.toNat).A) (t10.getD i_74.toNat []).length ((y14 i_74.toNat).c)), (9, .slice A150 list_162.length c151), (10, .int .i64 k_163)] k_l4 w (spec_SlideTriangle.post w0 L d_Crossings d_Circles corner A_d_Crossings c_d_Crossings r1 r2 r3) := by
          intro m_l4
          induction m_l4 using Nat.strongRecOn with
          | _ m_l4 ih_l4 =>
           intro hm_l4 list_162 k_163 w H HS
           cases m_l4 with
           | zero => rw [spec_SlideTriangle.l4] at H; cases H
           | succ n_l4 =>
            rw [spec_SlideTriangle.l4] at H
            subst hk_l4
            refine G.seq ?_
            refine G.seq ?_
            refine G.region ?_
            refine GO.move rfl rfl rfl ?_
            refine GO.lss rfl rfl rfl rfl ?_
            refine GO.nil ?_
            rcases ite_elim H with ⟨c176, H⟩ | ⟨c176, H⟩
            ·
             refine G.yesB rfl (decide_eq_true c176) ?_
             refine G.skip ?_
             refine G.seq ?_
             refine G.block ?_
             obtain ⟨c177, H⟩ := ite_none H
             obtain ⟨t178, h179, H⟩ := Option.bind_eq_some_iff.1 H
             obtain ⟨t182, h183, H⟩ := Option.bind_eq_some_iff.1 H
             obtain ⟨c184, H⟩ := ite_none H
             refine G.regionAny mixed (by decide) (fun b a w => ∃ (Y1_0 : Value) (Y2_1 : Value) (Y3_2 : Value) (Y4_3 : Value) (Y5_4 : Value) (Y6_5 : Value) (Y7_6 : Value) (Y8_7 : Value) (Y9_8 : Value) (Y10_9 : Value) (O11_21 : HObj), Sat 60 [(45, Y1_0), (46, Y2_1), (47, Y3_2), (48, Y4_3), (49, Y5_4), (50, Y6_5), (51, Y7_6), (52, Y8_7), (53, Y9_8), (54, Y10_9), (2, .pointer (some ⟨b1, 0, none⟩)), (4, .pointer (some ⟨b3, 0, none⟩)), (8, .slice ((y14 i_74.toNat).A) (t10.getD i_74.toNat []).length ((y14 i_74.toNat).c)), (9, .slice A150 list_162.length c151), (10, .int .i64 k_163)] a ∧ St w0 w (Box b1 28 [.slice A_d_Crossings d_Crossings.length c_d_Crossings, .int .i64 d_Circles] :: Box b3 28 [.slice none 0 0, .int .i64 0] :: Own (Ty.slice 2 (TInt .i64)) 43 A12 c13 y14 t10 :: O11_21 :: L) ∧ (b 0 = true → Y1_0 = (.agg [.slice A_d_Crossings d_Crossings.length c_d_Crossings, .int .i64 d_Circles].toArray)) ∧ (b 1 = true → Y2_1 = (.slice A150 list_162.length c151)) ∧ (b 2 = true → Y3_2 = (.agg [.slice A_d_Crossings d_Crossings.length c_d_Crossings, .int .i64 d_Circles].toArray)) ∧ (b 3 = true → Y4_3 = (.slice ((y14 i_74.toNat).A) (t10.getD i_74.toNat []).length ((y14 i_74.toNat).c))) ∧ (b 4 = true → Y5_4 = (.int .i64 k_163)) ∧ (b 5 = true → Y6_5 = (.pointer (some (ea ((y14 i_74.toNat).A) (k_163.toNat * 1))))) ∧ (b 6 = true → Y7_6 = (.int .i64 ((t10.getD i_74.toNat []).getD k_163.toNat 0))) ∧ (b 7 = true → Y8_7 = (.int .i64 t178)) ∧ (b 8 = true → Y9_8 = (.int .i64 (w64 (t178.tdiv 2)))) ∧ (b 9 = true → Y10_9 = (.tuple #[])) ∧ (b 9 = false → O11_21 = Own T_GCrossing 58 A150 c151 (fun _ => ()) list_162) ∧ (b 9 = true → O11_21 = Own T_GCrossing 58 A150 c151 (fun _ => ()) t182)) ?_ ?_ ?_
             ·
              intro a hs
              obtain ⟨Y1_0, hs⟩ := hs.ext (d := 45) rfl
              obtain ⟨Y2_1, hs⟩ := hs.ext (d := 46) rfl
              obtain ⟨Y3_2, hs⟩ := hs.ext (d := 47) rfl
              obtain ⟨Y4_3, hs⟩ := hs.ext (d := 48) rfl
              obtain ⟨Y5_4, hs⟩ := hs.ext (d := 49) rfl
              obtain ⟨Y6_5, hs⟩ := hs.ext (d := 50) rfl
              obtain ⟨Y7_6, hs⟩ := hs.ext (d := 51) rfl
              obtain ⟨Y8_7, hs⟩ := hs.ext (d := 52) rfl
              obtain ⟨Y9_8, hs⟩ := hs.ext (d := 53) rfl
              obtain ⟨Y10_9, hs⟩ := hs.ext (d := 54) rfl
              exact ⟨Y1_0, Y2_1, Y3_2, Y4_3, Y5_4, Y6_5, Y7_6, Y8_7, Y9_8, Y10_9, Own T_GCrossing 58 A150 c151 (fun _ => ()) list_162, hs.weak ⟨rfl, rfl, rfl, rfl, rfl, rfl, rfl, rfl, rfl, rfl, rfl, rfl, rfl, rfl, rfl, trivial⟩, (HS.drew.pick 4 [0, 1, 2, 3]), fun h => Bool.noConfusion h, fun h => Bool.noConfusion h, fun h => Bool.noConfusion h, fun h => Bool.noConfusion h, fun h => Bool.noConfusion h, fun h => Bool.noConfusion h, fun h => Bool.noConfusion h, fun h => Bool.noConfusion h, fun h => Bool.noConfusion h, fun h => Bool.noConfusion h, fun _ => rfl, fun h => Bool.noConfusion h⟩
             ·
              intro j hj b a w
              refine exI fun Y1_0 => exI fun Y2_1 => exI fun Y3_2 => exI fun Y4_3 => exI fun Y5_4 => exI fun Y6_5 => exI fun Y7_6 => exI fun Y8_7 => exI fun Y9_8 => exI fun Y10_9 => exI fun O11_21 => anI fun hs => anI fun HS => anI fun f0 => anI fun f1 => anI fun f2 => anI fun f3 => anI fun f4 => anI fun f5 => anI fun f6 => anI fun f7 => anI fun f8 => anI fun f9 => anI fun o21_0 => fun o21_1 hb hd hcl => ?_
              match j, hj with
              | 0, _ =>
               refine GO.at hs ?_
               refine GO.ldBoxA (j := 0) ([.slice A_d_Crossings d_Crossings.length c_d_Crossings, .int .i64 d_Circles]) HS rfl rfl rfl rfl ag28 rfl ?_
               refine GO.fin (fun a hs => ?_)
               exact ⟨(.agg [.slice A_d_Crossings d_Crossings.length c_d_Crossings, .int .i64 d_Circles].toArray), _, _, _, _, _, _, _, _, _, _, by exact hs.setAt 0 rfl, HS, fun _ => rfl, f1, f2, f3, f4, f5, f6, f7, f8, f9, o21_0, o21_1⟩
              | 1, _ =>
               refine GO.at hs ?_
               refine GO.move rfl rfl rfl ?_
               refine GO.fin (fun a hs => ?_)
               exact ⟨_, (.slice A150 list_162.length c151), _, _, _, _, _, _, _, _, _, by exact hs.setAt 1 rfl, HS, f0, fun _ => rfl, f2, f3, f4, f5, f6, f7, f8, f9, o21_0, o21_1⟩
              | 2, _ =>
               refine GO.at hs ?_
               refine GO.ldBoxA (j := 0) ([.slice A_d_Crossings d_Crossings.length c_d_Crossings, .int .i64 d_Circles]) HS rfl rfl rfl rfl ag28 rfl ?_
               refine GO.fin (fun a hs => ?_)
               exact ⟨_, _, (.agg [.slice A_d_Crossings d_Crossings.length c_d_Crossings, .int .i64 d_Circles].toArray), _, _, _, _, _, _, _, _, by exact hs.setAt 2 rfl, HS, f0, f1, fun _ => rfl, f3, f4, f5, f6, f7, f8, f9, o21_0, o21_1⟩
              | 3, _ =>
               refine GO.at hs ?_
               refine GO.move rfl rfl rfl ?_
               refine GO.fin (fun a hs => ?_)
               exact ⟨_, _, _, (.slice ((y14 i_74.toNat).A) (t10.getD i_74.toNat []).length ((y14 i_74.toNat).c)), _, _, _, _, _, _, _, by exact hs.setAt 3 rfl, HS, f0, f1, f2, fun _ => rfl, f4, f5, f6, f7, f8, f9, o21_0, o21_1⟩
              | 4, _ =>
               refine GO.at hs ?_
               refine GO.move rfl rfl rfl ?_
               refine GO.fin (fun a hs => ?_)
               exact ⟨_, _, _, _, (.int .i64 k_163), _, _, _, _, _, _, by exact hs.setAt 4 rfl, HS, f0, f1, f2, f3, fun _ => rfl, f5, f6, f7, f8, f9, o21_0, o21_1⟩
              | 5, _ =>
               have h3 : b 3 = true := hd 3 (by decide)
               obtain rfl := f3 h3
               have h4 : b 4 = true := hd 4 (by decide)
               obtain rfl := f4 h4
               refine GO.at hs ?_
               refine GO.ix rfl rfl rfl Try.underlying43 sz2 ((RdIn.elem (RdIn.own (j := 2) rfl) c133.1 c133.2) _ HS).2.2.1 c177.1 c177.2 rfl ?_
               refine GO.fin (fun a hs => ?_)
               exact ⟨_, _, _, _, _, (.pointer (some (ea ((y14 i_74.toNat).A) (k_163.toNat * 1)))), _, _, _, _, _, by exact hs.setAt 5 rfl, HS, f0, f1, f2, f3, f4, fun _ => rfl, f6, f7, f8, f9, o21_0, o21_1⟩
              | 6, _ =>
               have h5 : b 5 = true := hd 5 (by decide)
               obtain rfl := f5 h5
               refine GO.at hs ?_
               refine GO.ldRd (T := (TInt .i64)) (n := k_163.toNat) (o := 0) HS (RdIn.elem (RdIn.own (j := 2) rfl) c133.1 c133.2) rfl rfl (getD_some (d := 0) (ltN c177)) rfl rfl na2 rfl ?_
               refine GO.fin (fun a hs => ?_)
               exact ⟨_, _, _, _, _, _, (.int .i64 ((t10.getD i_74.toNat []).getD k_163.toNat 0)), _, _, _, _, by exact hs.setAt 6 rfl, HS, f0, f1, f2, f3, f4, f5, fun _ => rfl, f7, f8, f9, o21_0, o21_1⟩
              | 7, _ =>
               have h2 : b 2 = true := hd 2 (by decide)
               obtain rfl := f2 h2
               have h6 : b 6 = true := hd 6 (by decide)
               obtain rfl := f6 h6
               refine GO.at hs ?_
               refine GO.fn rfl Try.func71 fok71.1 fok71.2 rfl rfl (spec_l27Side.calls HS (RdIn.drop 4 h_d_Crossings) h179) (fun _ wd180 ⟨h181, HS⟩ => ⟨_, h181, ?_⟩)
               refine GO.fin (fun a hs => ?_)
               exact ⟨_, _, _, _, _, _, _, (.int .i64 t178), _, _, _, by exact hs.setAt 7 rfl, HS, f0, f1, f2, f3, f4, f5, f6, fun _ => rfl, f8, f9, o21_0, o21_1⟩
              | 8, _ =>
               have h7 : b 7 = true := hd 7 (by decide)
               obtain rfl := f7 h7
               refine GO.at hs ?_
               refine GO.quo rfl rfl rfl (by decide) rfl ?_
               refine GO.fin (fun a hs => ?_)
               exact ⟨_, _, _, _, _, _, _, _, (.int .i64 (w64 (t178.tdiv 2))), _, _, by exact hs.setAt 8 rfl, HS, f0, f1, f2, f3, f4, f5, f6, f7, fun _ => rfl, f9, o21_0, o21_1⟩
              | 9, _ =>
               have h0 : b 0 = true := hd 0 (by decide)
               obtain rfl := f0 h0
               have h1 : b 1 = true := hd 1 (by decide)
               obtain rfl := f1 h1
               have h8 : b 8 = true := hd 8 (by decide)
               obtain rfl := f8 h8
               obtain rfl := o21_0 hb
               refine GO.at hs ?_
               replace HS := HS.pick 4 [3, 0, 1, 2]
               refine GO.fn rfl Try.func70 fok70.1 fok70.2 rfl rfl (spec_l27Slide.calls HS (RdIn.drop 3 h_d_Crossings) h183) (fun _ wd185 ⟨h186, HS⟩ => ⟨_, h186, ?_⟩)
               refine GO.fin (fun a hs => ?_)
               exact ⟨_, _, _, _, _, _, _, _, _, (.tuple #[]), Own T_GCrossing 58 A150 c151 (fun _ => ()) t182, by exact hs.setAt 9 rfl, HS.pick 4 [1, 2, 3, 0], f0, f1, f2, f3, f4, f5, f6, f7, f8, fun _ => rfl, fun h => Bool.noConfusion h, fun _ => rfl⟩
              | k + 10, hj => exact absurd hj (Nat.not_lt.2 (Nat.le_add_left 10 k))
             ·
              intro b a w hall
              refine exI fun Y1_0 => exI fun Y2_1 => exI fun Y3_2 => exI fun Y4_3 => exI fun Y5_4 => exI fun Y6_5 => exI fun Y7_6 => exI fun Y8_7 => exI fun Y9_8 => exI fun Y10_9 => exI fun O11_21 => anI fun hs => anI fun HS => anI fun f0 => anI fun f1 => anI fun f2 => anI fun f3 => anI fun f4 => anI fun f5 => anI fun f6 => anI fun f7 => anI fun f8 => anI fun f9 => anI fun o21_0 => fun o21_1 => ?_
              obtain rfl := f0 (hall 0 (by decide))
              obtain rfl := f1 (hall 1 (by decide))
              obtain rfl := f2 (hall 2 (by decide))
              obtain rfl := f3 (hall 3 (by decide))
              obtain rfl := f4 (hall 4 (by decide))
              obtain rfl := f5 (hall 5 (by decide))
              obtain rfl := f6 (hall 6 (by decide))
              obtain rfl := f7 (hall 7 (by decide))
              obtain rfl := f8 (hall 8 (by decide))
              obtain rfl := f9 (hall 9 (by decide))
              obtain rfl := o21_1 (hall 9 (by decide))
              refine G.at hs ?_
              refine G.len (t := 9) (m := t182.length) rfl (by simp only [List.length_set, c184] <;> rfl) ?_
              refine G.blockEnd ?_
              refine G.region ?_
              refine GO.move rfl rfl rfl ?_
              refine GO.add rfl rfl rfl rfl ?_
              refine GO.assign rfl rfl rfl ?_
              refine GO.nil ?_
              refine G.again ?_
              refine G.weak ?_ (ih_l4 n_l4 (Nat.lt_succ_of_le (Nat.le_refl _)) (Nat.le_of_succ_le hm_l4) _ _ _ H HS)
              exact ⟨rfl, rfl, rfl, rfl, rfl, trivial⟩
            ·
             refine G.noB rfl (decide_eq_false c176) ?_
             refine G.exit rfl ?_
             refine G.seq ?_
             refine G.region ?_
             refine GO.move rfl rfl rfl ?_
             refine GO.fld (⟨b1, 1, none⟩) rfl rfl fl28_1 rfl rfl ?_
             refine GO.ldBox (j := 0) HS rfl rfl rfl rfl na2 rfl ?_
             refine GO.buildV (.agg [.slice A150 list_162.length c151, .int .i64 d_Circles].toArray) rfl rfl (fun _ => by kernel_rfl) rfl ?_
             refine GO.stBox (j := 1) (vs := [.slice A150 list_162.length c151, .int .i64 d_Circles]) ([.slice A150 list_162.length c151, .int .i64 d_Circles]) HS rfl rfl rfl rfl rfl (htA ag28) rfl rfl rfl ?_; intro wd187 HS
             refine GO.assign rfl rfl rfl ?_
             refine GO.nil ?_
             obtain ⟨rfl, rfl, rfl⟩ := some3 H
             exact G.ret2 _ _ Try.func25 rfl (Res1.boxA (j := 1) (vs := [.slice A150 list_162.length c151, .int .i64 d_Circles]) HS rfl rfl rfl ag28) rfl ⟨_, _, rfl, (HS.pick 4 [3])⟩
         refine G.weak ?_ (at_l4 n_l1 (Nat.le_refl _) _ _ _ H (HS.pick 4 [1, 2, 3, 0]))
         exact ⟨rfl, rfl, rfl, rfl, rfl, trivial⟩
        ·
         refine G.yesB rfl (congrArg Bool.not (bnot_of c146)) ?_
         refine G.exit rfl ?_
         refine G.region ?_
         refine GO.move rfl rfl rfl ?_
         refine GO.add rfl rfl rfl rfl ?_
         refine GO.assign rfl rfl rfl ?_
         refine GO.nil ?_
         refine G.again ?_
         refine G.weak ?_ (ih_l1 n_l1 (Nat.lt_succ_of_le (Nat.le_refl _)) (Nat.le_of_succ_le hm_l1) _ _ H HS)
         exact ⟨rfl, rfl, rfl, rfl, rfl, trivial⟩
       ·
        refine G.region ?_
        refine GO.move rfl rfl rfl ?_
        refine GO.ix rfl rfl rfl Try.underlying43 sz2 ((RdIn.elem (RdIn.own (j := 2) rfl) c133.1 c133.2) _ HS).2.2.1 c140.1 c140.2 rfl ?_
        refine GO.ldRd (T := (TInt .i64)) (n := 0) (o := 0) HS (RdIn.elem (RdIn.own (j := 2) rfl) c133.1 c133.2) rfl rfl (getD_some (d := 0) (ltN c140)) rfl rfl na2 rfl ?_
        refine GO.move rfl rfl rfl ?_
        refine GO.neq rfl rfl rfl rfl ?_
        refine GO.move rfl rfl rfl ?_
        refine GO.known (t := 32) rfl (congrArg Bool.not (decide_eq_false c141)) ?_
        refine GO.off rfl rfl rfl rfl rfl rfl ?_
        refine GO.off rfl rfl rfl rfl rfl rfl ?_
        refine GO.off rfl rfl rfl rfl rfl rfl ?_
        refine GO.pickT rfl rfl rfl rfl rfl ?_
        refine GO.nil ?_
        refine G.yesB rfl rfl ?_
        refine G.exit rfl ?_
        refine G.region ?_
        refine GO.move rfl rfl rfl ?_
        refine GO.add rfl rfl rfl rfl ?_
        refine GO.assign rfl rfl rfl ?_
        refine GO.nil ?_
        refine G.again ?_
        refine G.weak ?_ (ih_l1 n_l1 (Nat.lt_succ_of_le (Nat.le_refl _)) (Nat.le_of_succ_le hm_l1) _ _ H HS)
        exact ⟨rfl, rfl, rfl, rfl, rfl, trivial⟩
      ·
       refine G.noB rfl (decide_eq_false c132) ?_
       refine G.exit rfl ?_
       refine G.seq ?_
       refine G.region ?_
       refine GO.buildV (.agg [.slice none 0 0, .int .i64 0].toArray) rfl rfl (fun _ => by kernel_rfl) rfl ?_
       refine GO.stBox (j := 1) (vs := [.slice none 0 0, .int .i64 0]) ([.slice none 0 0, .int .i64 0]) HS rfl rfl rfl rfl rfl (htA ag28) rfl rfl rfl ?_; intro wd188 HS
       refine GO.assign rfl rfl rfl ?_
       refine GO.nil ?_
       replace HS := HS.nilRow T_GCrossing 58 (fun _ => ())
       obtain ⟨rfl, rfl, rfl⟩ := some3 H
       exact G.ret2 _ _ Try.func25 rfl (Res1.boxA (j := 2) (vs := [.slice none 0 0, .int .i64 0]) HS rfl rfl rfl ag28) rfl ⟨_, _, rfl, (HS.pick 4 [0])⟩
   refine G.weak ?_ (at_l1 K (Nat.le_refl _) _ _ H (HS.pick 3 [2, 1, 0]))
   exact ⟨rfl, rfl, rfl, rfl, rfl, trivial⟩
  ·
   refine G.yesB rfl (congrArg Bool.not (bnot_of c9)) ?_
   refine G.seq ?_
   refine G.region ?_
   refine GO.buildV (.agg [.slice none 0 0, .int .i64 0].toArray) rfl rfl (fun _ => by kernel_rfl) rfl ?_
   refine GO.stBox (j := 0) (vs := [.slice none 0 0, .int .i64 0]) ([.slice none 0 0, .int .i64 0]) HS rfl rfl rfl rfl rfl (htA ag28) rfl rfl rfl ?_; intro wd189 HS
   refine GO.assign rfl rfl rfl ?_
   refine GO.nil ?_
   replace HS := HS.nilRow T_GCrossing 58 (fun _ => ())
   obtain ⟨rfl, rfl, rfl⟩ := some3 H
   exact G.ret2 _ _ Try.func25 rfl (Res1.boxA (j := 1) (vs := [.slice none 0 0, .int .i64 0]) HS rfl rfl rfl ag28) rfl ⟨_, _, rfl, (HS.pick 3 [0])⟩

set_option maxRecDepth 20000 in
set_option maxHeartbeats 40000000 in
theorem impl_size_impl_Crossing.calls {w0 w : World} {L : List HObj} {list : List GCrossing} {A_list : Option Addr} {c_list : Nat} {r1 : Int} (HS : St w0 w (L)) (h_list : RdIn w0 L T_GCrossing A_list c_list (fun _ => ()) list) (H : impl_size_impl_Crossing.f list = some r1) :
    Calls Try.prog 56 #[.slice A_list list.length c_list] w (impl_size_impl_Crossing.post w0 L list A_list c_list r1) := by
  unfold impl_size_impl_Crossing.f at H
  refine Calls.of_G Try.func56 rfl rfl rfl ?_
  refine G.seq ?_
  refine G.region ?_
  refine GO.assign rfl rfl rfl ?_
  refine GO.nil ?_
  refine G.seq ?_
  refine G.region ?_
  refine GO.move rfl rfl rfl ?_
  refine GO.lenS rfl rfl Try.underlying26 rfl ?_
  refine GO.assign rfl rfl rfl ?_
  refine GO.nil ?_
  obtain rfl := Option.some.inj H
  exact G.ret1 _ Try.func56 rfl rfl ⟨rfl, HS⟩

end Go.Proofs.Ytdafmbaeiefacaa
