/-
  The walks through the functions: a call comes to what its list function says.
-/
import Derived.Test.YtdafmbaeiefacaaAkW2
set_option linter.unusedVariables false
set_option linter.unusedSimpArgs false
namespace Go.Proofs.Ytdafmbaeiefacaa
open Go.RowKit
set_option maxRecDepth 20000 in
set_option maxHeartbeats 4000000 in
theorem impl_Diagram_drawing.calls {w0 w : World} {L : List HObj} {K : Nat} {d_Crossings : List GCrossing} {d_Circles : Int} {A_d_Crossings : Option Addr} {c_d_Crossings : Nat} {r1 : List GEnd} {r2 : List GEnd} {r3 : Bool} (HS : St w0 w (L)) (h_d_Crossings : RdIn w0 L T_GCrossing A_d_Crossings c_d_Crossings (fun _ => ()) d_Crossings) (H : impl_Diagram_drawing.f K d_Crossings d_Circles = some (r1, r2, r3)) :
    Calls Try.prog 45 #[.agg [.slice A_d_Crossings d_Crossings.length c_d_Crossings, .int .i64 d_Circles].toArray] w (impl_Diagram_drawing.post w0 L d_Crossings d_Circles A_d_Crossings c_d_Crossings r1 r2 r3) := by
  unfold impl_Diagram_drawing.f at H
  refine Calls.of_G Try.func45 rfl rfl rfl ?_
  refine G.seq ?_
  refine G.region ?_
  refine GO.box (cs := [.slice A_d_Crossings d_Crossings.length c_d_Crossings, .int .i64 d_Circles]) HS rfl rfl rfl rfl ?_; intro b1 wd2 HS
  refine GO.alloc HS rfl zr63 rfl rfl ?_; intro b3 wd4 HS
  refine GO.assign rfl rfl rfl ?_
  refine GO.nil ?_
  refine G.seq ?_
  obtain ⟨t5, h6, H⟩ := Option.bind_eq_some_iff.1 H
  refine G.region ?_
  refine GO.fld (⟨b1, 0, none⟩) rfl rfl fl28_0 rfl rfl ?_
  refine GO.ldBox (j := 1) HS rfl rfl rfl rfl na26 rfl ?_
  refine GO.fn rfl Try.func56 fok56.1 fok56.2 rfl rfl (impl_size_impl_Crossing.calls HS (RdIn.drop 2 h_d_Crossings) h6) (fun _ wd7 ⟨h8, HS⟩ => ⟨_, h8, ?_⟩)
  refine GO.assign rfl rfl rfl ?_
  refine GO.nil ?_
  refine G.seq ?_
  refine G.seq ?_
  rcases ite_elim H with ⟨c19, H⟩ | ⟨c19, H⟩
  ·
   refine G.region ?_
   refine GO.move rfl rfl rfl ?_
   refine GO.gtr rfl rfl rfl rfl ?_
   refine GO.move rfl rfl rfl ?_
   refine GO.known (t := 12) rfl (decide_eq_true c19) ?_
   refine GO.off rfl rfl rfl rfl rfl rfl ?_
   refine GO.off rfl rfl rfl rfl rfl rfl ?_
   refine GO.off rfl rfl rfl rfl rfl rfl ?_
   refine GO.off rfl rfl rfl rfl rfl rfl ?_
   refine GO.pickT rfl rfl rfl rfl rfl ?_
   refine GO.move rfl rfl rfl ?_
   refine GO.off rfl rfl rfl rfl rfl rfl ?_
   refine GO.off rfl rfl rfl rfl rfl rfl ?_
   refine GO.off rfl rfl rfl rfl rfl rfl ?_
   refine GO.pickT rfl rfl rfl rfl rfl ?_
   refine GO.nil ?_
   refine G.yesB rfl rfl ?_
   refine G.seq ?_
   refine G.region ?_
   refine GO.buildV (.agg [.slice none 0 0, .slice none 0 0].toArray) rfl rfl (fun _ => by kernel_rfl) rfl ?_
   refine GO.stBox (j := 0) (vs := [.slice none 0 0, .slice none 0 0]) ([.slice none 0 0, .slice none 0 0]) HS rfl rfl rfl rfl rfl (htA ag63) rfl rfl rfl ?_; intro wd20 HS
   refine GO.assign rfl rfl rfl ?_
   refine GO.nil ?_
   replace HS := HS.nilRow T_GEnd 68 (fun _ => ())
   replace HS := HS.nilRow T_GEnd 68 (fun _ => ())
   obtain ⟨rfl, rfl, rfl⟩ := some3 H
   exact G.ret2 _ _ Try.func45 rfl (Res1.boxA (j := 2) (vs := [.slice none 0 0, .slice none 0 0]) HS rfl rfl rfl ag63) rfl ⟨_, _, _, _, rfl, (HS.pick 4 [1, 0])⟩
  ·
   obtain ⟨t21, h22, H⟩ := Option.bind_eq_some_iff.1 H
   rcases ite_elim H with ⟨c25, H⟩ | ⟨c25, H⟩
   ·
    obtain ⟨t26, h27, H⟩ := Option.bind_eq_some_iff.1 H
    refine G.region ?_
    refine GO.move rfl rfl rfl ?_
    refine GO.gtr rfl rfl rfl rfl ?_
    refine GO.move rfl rfl rfl ?_
    refine GO.known (t := 12) rfl (decide_eq_false c19) ?_
    refine GO.on rfl rfl rfl rfl ?_
    refine GO.fld (⟨b1, 1, none⟩) rfl rfl fl28_1 rfl rfl ?_
    refine GO.back ?_
    refine GO.on rfl rfl rfl rfl ?_
    refine GO.ldBox (j := 1) HS rfl rfl rfl rfl na2 rfl ?_
    refine GO.back ?_
    refine GO.on rfl rfl rfl rfl ?_
    refine GO.fn rfl Try.func47 fok47.1 fok47.2 rfl rfl (impl_inRange.calls HS  h22) (fun _ wd23 ⟨h24, HS⟩ => ⟨_, h24, ?_⟩)
    refine GO.back ?_
    refine GO.on rfl rfl rfl rfl ?_
    refine GO.not rfl rfl rfl ?_
    refine GO.back ?_
    refine GO.pickF rfl rfl rfl rfl rfl ?_
    refine GO.move rfl rfl rfl ?_
    refine GO.known (t := 18) rfl (congrArg Bool.not c25) ?_
    refine GO.on rfl rfl rfl rfl ?_
    refine GO.fld (⟨b1, 0, none⟩) rfl rfl fl28_0 rfl rfl ?_
    refine GO.back ?_
    refine GO.on rfl rfl rfl rfl ?_
    refine GO.ldBox (j := 1) HS rfl rfl rfl rfl na26 rfl ?_
    refine GO.back ?_
    refine GO.on rfl rfl rfl rfl ?_
    refine GO.fn rfl Try.func108 fok108.1 fok108.2 rfl rfl (slices_ContainsFunc_impl_Crossing_impl_Crossing_109.calls HS (RdIn.drop 2 h_d_Crossings) h27) (fun _ wd28 ⟨h29, HS⟩ => ⟨_, h29, ?_⟩)
    refine GO.back ?_
    refine GO.pickF rfl rfl rfl rfl rfl ?_
    refine GO.nil ?_
    rcases ite_elim H with ⟨c30, H⟩ | ⟨c30, H⟩
    ·
     refine G.yesB rfl c30 ?_
     refine G.seq ?_
     refine G.region ?_
     refine GO.buildV (.agg [.slice none 0 0, .slice none 0 0].toArray) rfl rfl (fun _ => by kernel_rfl) rfl ?_
     refine GO.stBox (j := 0) (vs := [.slice none 0 0, .slice none 0 0]) ([.slice none 0 0, .slice none 0 0]) HS rfl rfl rfl rfl rfl (htA ag63) rfl rfl rfl ?_; intro wd31 HS
     refine GO.assign rfl rfl rfl ?_
     refine GO.nil ?_
     replace HS := HS.nilRow T_GEnd 68 (fun _ => ())
     replace HS := HS.nilRow T_GEnd 68 (fun _ => ())
     obtain ⟨rfl, rfl, rfl⟩ := some3 H
     exact G.ret2 _ _ Try.func45 rfl (Res1.boxA (j := 2) (vs := [.slice none 0 0, .slice none 0 0]) HS rfl rfl rfl ag63) rfl ⟨_, _, _, _, rfl, (HS.pick 4 [1, 0])⟩
    ·
     refine G.noB rfl (bnot_of c30) ?_
     refine G.skip ?_
     refine G.seq ?_
     obtain ⟨t32, t33, t34, h35, H⟩ := bind3_elim H
     refine G.region ?_
     refine GO.ldBoxA (j := 1) ([.slice A_d_Crossings d_Crossings.length c_d_Crossings, .int .i64 d_Circles]) HS rfl rfl rfl rfl ag28 rfl ?_
     refine GO.fn rfl Try.func58 fok58.1 fok58.2 rfl rfl (impl_Diagram_arrows.calls HS (RdIn.drop 2 h_d_Crossings) h35) (fun _ wd40 ⟨A36, c37, A38, c39, h41, HS⟩ => ⟨_, h41, ?_⟩)
     refine GO.move rfl rfl rfl ?_
     refine GO.extract rfl rfl rfl rfl ?_
     refine GO.extract rfl rfl rfl rfl ?_
     refine GO.alloc HS rfl zr63 rfl rfl ?_; intro b42 wd43 HS
     refine GO.stBox (j := 0) (vs := [.slice A36 t32.length c37, .slice A38 t33.length c39]) ([.slice A36 t32.length c37, .slice A38 t33.length c39]) HS rfl rfl rfl rfl rfl (htA ag63) rfl rfl rfl ?_; intro wd44 HS
     refine GO.assign rfl rfl rfl ?_
     refine GO.nil ?_
     refine G.seq ?_
     refine G.seq ?_
     rcases ite_elim H with ⟨c67, H⟩ | ⟨c67, H⟩
     ·
      obtain ⟨t68, h69, H⟩ := Option.bind_eq_some_iff.1 H
      obtain ⟨t75, h76, H⟩ := Option.bind_eq_some_iff.1 H
      obtain ⟨t79, h80, H⟩ := Option.bind_eq_some_iff.1 H
      obtain ⟨t85, h86, H⟩ := Option.bind_eq_some_iff.1 H
      refine G.regionAny mixed (by decide) (fun b a w => ∃ (Y1_0 : Value) (Y2_1 : Value) (Y3_2 : Value) (Y4_3 : Value) (Y5_4 : Value) (Y6_5 : Value) (Y7_6 : Value) (Y8_7 : Value) (Y9_8 : Value) (Y10_9 : Value) (Y11_10 : Value) (Y12_11 : Value) (Y13_12 : Value) (Y14_13 : Value) (Y15_14 : Value) (Y16_15 : Value) (A70 : Option Addr) (c71 : Nat) (y72 : Nat → (Ty.slice 2 (TInt .i64)).Lay) (A81 : Option Addr) (c82 : Nat) (O17_12 : HObj) (O18_13 : HObj), Sat 47 [(29, Y1_0), (30, Y2_1), (31, Y3_2), (32, Y4_3), (33, Y5_4), (34, Y6_5), (35, Y7_6), (36, Y8_7), (37, Y9_8), (38, Y10_9), (39, Y11_10), (40, Y12_11), (41, Y13_12), (42, Y14_13), (43, Y15_14), (44, Y16_15), (1, .pointer (some ⟨b1, 0, none⟩)), (2, .pointer (some ⟨b3, 0, none⟩)), (4, .int .i64 t5), (5, .pointer (some ⟨b42, 0, none⟩)), (6, .bool t34)] a ∧ St w0 w (Box b42 63 [.slice A36 t32.length c37, .slice A38 t33.length c39] :: Own T_GEnd 68 A36 c37 (fun _ => ()) t32 :: Own T_GEnd 68 A38 c39 (fun _ => ()) t33 :: Box b3 63 [.slice none 0 0, .slice none 0 0] :: Box b1 28 [.slice A_d_Crossings d_Crossings.length c_d_Crossings, .int .i64 d_Circles] :: O17_12 :: O18_13 :: L) ∧ (b 0 = true → Y1_0 = (.bool t34)) ∧ (b 1 = true → Y2_1 = (.bool (!t34))) ∧ (b 2 = true → Y3_2 = (.bool false)) ∧ (b 3 = true → Y4_3 = (.agg [.slice A_d_Crossings d_Crossings.length c_d_Crossings, .int .i64 d_Circles].toArray)) ∧ (b 4 = true → Y5_4 = (.agg [.slice A36 t32.length c37, .slice A38 t33.length c39].toArray)) ∧ (b 5 = true → Y6_5 = (.slice A70 t68.length c71)) ∧ (b 6 = true → Y7_6 = (.int .i64 t75)) ∧ (b 7 = true → Y8_7 = (.int .i64 t5)) ∧ (b 8 = true → Y9_8 = (.agg [.slice A_d_Crossings d_Crossings.length c_d_Crossings, .int .i64 d_Circles].toArray)) ∧ (b 9 = true → Y10_9 = (.agg [.slice A36 t32.length c37, .slice A38 t33.length c39].toArray)) ∧ (b 10 = true → Y11_10 = (.slice A81 t79.length c82)) ∧ (b 11 = true → Y12_11 = (.int .i64 t85)) ∧ (b 12 = true → Y13_12 = (.int .i64 (w64 (2 * t85)))) ∧ (b 13 = true → Y14_13 = (.int .i64 (w64 (t5 + (w64 (2 * t85)))))) ∧ (b 14 = true → Y15_14 = (.bool (!(decide (t75 = w64 (t5 + (w64 (2 * t85)))))))) ∧ (b 15 = true → Y16_15 = (.bool (!(decide (t75 = w64 (t5 + (w64 (2 * t85)))))))) ∧ (b 5 = true → O17_12 = Own (Ty.slice 2 (TInt .i64)) 43 A70 c71 y72 t68) ∧ (b 10 = true → O18_13 = Own (TInt .i64) 2 A81 c82 (fun _ => ()) t79)) ?_ ?_ ?_
      ·
       intro a hs
       obtain ⟨Y1_0, hs⟩ := hs.ext (d := 29) rfl
       obtain ⟨Y2_1, hs⟩ := hs.ext (d := 30) rfl
       obtain ⟨Y3_2, hs⟩ := hs.ext (d := 31) rfl
       obtain ⟨Y4_3, hs⟩ := hs.ext (d := 32) rfl
       obtain ⟨Y5_4, hs⟩ := hs.ext (d := 33) rfl
       obtain ⟨Y6_5, hs⟩ := hs.ext (d := 34) rfl
       obtain ⟨Y7_6, hs⟩ := hs.ext (d := 35) rfl
       obtain ⟨Y8_7, hs⟩ := hs.ext (d := 36) rfl
       obtain ⟨Y9_8, hs⟩ := hs.ext (d := 37) rfl
       obtain ⟨Y10_9, hs⟩ := hs.ext (d := 38) rfl
       obtain ⟨Y11_10, hs⟩ := hs.ext (d := 39) rfl
       obtain ⟨Y12_11, hs⟩ := hs.ext (d := 40) rfl
       obtain ⟨Y13_12, hs⟩ := hs.ext (d := 41) rfl
       obtain ⟨Y14_13, hs⟩ := hs.ext (d := 42) rfl
       obtain ⟨Y15_14, hs⟩ := hs.ext (d := 43) rfl
       obtain ⟨Y16_15, hs⟩ := hs.ext (d := 44) rfl
       exact ⟨Y1_0, Y2_1, Y3_2, Y4_3, Y5_4, Y6_5, Y7_6, Y8_7, Y9_8, Y10_9, Y11_10, Y12_11, Y13_12, Y14_13, Y15_14, Y16_15, none, 0, (fun _ => ⟨none, 0, fun _ => ()⟩), none, 0, Emp, Emp, hs.weak ⟨rfl, rfl, rfl, rfl, rfl, rfl, rfl, rfl, rfl, rfl, rfl, rfl, rfl, rfl, rfl, rfl, rfl, rfl, rfl, rfl, rfl, trivial⟩, (HS.drew.emp.emp.pick 7 [2, 3, 4, 5, 6, 1, 0]), fun h => Bool.noConfusion h, fun h => Bool.noConfusion h, fun h => Bool.noConfusion h, fun h => Bool.noConfusion h, fun h => Bool.noConfusion h, fun h => Bool.noConfusion h, fun h => Bool.noConfusion h, fun h => Bool.noConfusion h, fun h => Bool.noConfusion h, fun h => Bool.noConfusion h, fun h => Bool.noConfusion h, fun h => Bool.noConfusion h, fun h => Bool.noConfusion h, fun h => Bool.noConfusion h, fun h => Bool.noConfusion h, fun h => Bool.noConfusion h, fun h => Bool.noConfusion h, fun h => Bool.noConfusion h⟩
      ·
       intro j hj b a w hI hb hd hcl
       match j, hj with
       | 0, _ =>
        obtain ⟨Y1_0, Y2_1, Y3_2, Y4_3, Y5_4, Y6_5, Y7_6, Y8_7, Y9_8, Y10_9, Y11_10, Y12_11, Y13_12, Y14_13, Y15_14, Y16_15, A70, c71, y72, A81, c82, O17_12, O18_13, hs, HS, f0, f1, f2, f3, f4, f5, f6, f7, f8, f9, f10, f11, f12, f13, f14, f15, o12_0, o13_0⟩ := hI
        refine GO.at hs ?_
        refine GO.move rfl rfl rfl ?_
        refine GO.fin (fun a hs => ?_)
        exact ⟨(.bool t34), _, _, _, _, _, _, _, _, _, _, _, _, _, _, _, A70, c71, y72, A81, c82, _, _, hs.weak ⟨rfl, rfl, rfl, rfl, rfl, rfl, rfl, rfl, rfl, rfl, rfl, rfl, rfl, rfl, rfl, rfl, rfl, rfl, rfl, rfl, rfl, trivial⟩, HS.pick 7 [0, 1, 2, 3, 4, 5, 6], fun _ => rfl, f1, f2, f3, f4, f5, f6, f7, f8, f9, f10, f11, f12, f13, f14, f15, o12_0, o13_0⟩
       | 1, _ =>
        obtain ⟨Y1_0, Y2_1, Y3_2, Y4_3, Y5_4, Y6_5, Y7_6, Y8_7, Y9_8, Y10_9, Y11_10, Y12_11, Y13_12, Y14_13, Y15_14, Y16_15, A70, c71, y72, A81, c82, O17_12, O18_13, hs, HS, f0, f1, f2, f3, f4, f5, f6, f7, f8, f9, f10, f11, f12, f13, f14, f15, o12_0, o13_0⟩ := hI
        have h0 : b 0 = true := hd 0 (by decide)
        obtain rfl := f0 h0
        refine GO.at hs ?_
        refine GO.not rfl rfl rfl ?_
        refine GO.fin (fun a hs => ?_)
        exact ⟨_, (.bool (!t34)), _, _, _, _, _, _, _, _, _, _, _, _, _, _, A70, c71, y72, A81, c82, _, _, hs.weak ⟨rfl, rfl, rfl, rfl, rfl, rfl, rfl, rfl, rfl, rfl, rfl, rfl, rfl, rfl, rfl, rfl, rfl, rfl, rfl, rfl, rfl, trivial⟩, HS.pick 7 [0, 1, 2, 3, 4, 5, 6], f0, fun _ => rfl, f2, f3, f4, f5, f6, f7, f8, f9, f10, f11, f12, f13, f14, f15, o12_0, o13_0⟩
       | 2, _ =>
        obtain ⟨Y1_0, Y2_1, Y3_2, Y4_3, Y5_4, Y6_5, Y7_6, Y8_7, Y9_8, Y10_9, Y11_10, Y12_11, Y13_12, Y14_13, Y15_14, Y16_15, A70, c71, y72, A81, c82, O17_12, O18_13, hs, HS, f0, f1, f2, f3, f4, f5, f6, f7, f8, f9, f10, f11, f12, f13, f14, f15, o12_0, o13_0⟩ := hI
        have h1 : b 1 = true := hd 1 (by decide)
        obtain rfl := f1 h1
        refine GO.at hs ?_
        refine GO.move rfl rfl rfl ?_
        refine GO.known (t := 31) rfl (congrArg Bool.not c67) ?_
        refine GO.fin (fun a hs => ?_)
        exact ⟨_, _, (.bool false), _, _, _, _, _, _, _, _, _, _, _, _, _, A70, c71, y72, A81, c82, _, _, hs.weak ⟨rfl, rfl, rfl, rfl, rfl, rfl, rfl, rfl, rfl, rfl, rfl, rfl, rfl, rfl, rfl, rfl, rfl, rfl, rfl, rfl, rfl, trivial⟩, HS.pick 7 [0, 1, 2, 3, 4, 5, 6], f0, f1, fun _ => rfl, f3, f4, f5, f6, f7, f8, f9, f10, f11, f12, f13, f14, f15, o12_0, o13_0⟩
       | 3, _ =>
        obtain ⟨Y1_0, Y2_1, Y3_2, Y4_3, Y5_4, Y6_5, Y7_6, Y8_7, Y9_8, Y10_9, Y11_10, Y12_11, Y13_12, Y14_13, Y15_14, Y16_15, A70, c71, y72, A81, c82, O17_12, O18_13, hs, HS, f0, f1, f2, f3, f4, f5, f6, f7, f8, f9, f10, f11, f12, f13, f14, f15, o12_0, o13_0⟩ := hI
        have h2 : b 2 = true := hd 2 (by decide)
        obtain rfl := f2 h2
        refine GO.at hs ?_
        refine GO.on rfl rfl rfl rfl ?_
        refine GO.ldBoxA (j := 4) ([.slice A_d_Crossings d_Crossings.length c_d_Crossings, .int .i64 d_Circles]) HS rfl rfl rfl rfl ag28 rfl ?_
        refine GO.back ?_
        refine GO.fin (fun a hs => ?_)
        exact ⟨_, _, _, (.agg [.slice A_d_Crossings d_Crossings.length c_d_Crossings, .int .i64 d_Circles].toArray), _, _, _, _, _, _, _, _, _, _, _, _, A70, c71, y72, A81, c82, _, _, hs.weak ⟨rfl, rfl, rfl, rfl, rfl, rfl, rfl, rfl, rfl, rfl, rfl, rfl, rfl, rfl, rfl, rfl, rfl, rfl, rfl, rfl, rfl, trivial⟩, HS.pick 7 [0, 1, 2, 3, 4, 5, 6], f0, f1, f2, fun _ => rfl, f4, f5, f6, f7, f8, f9, f10, f11, f12, f13, f14, f15, o12_0, o13_0⟩
       | 4, _ =>
        obtain ⟨Y1_0, Y2_1, Y3_2, Y4_3, Y5_4, Y6_5, Y7_6, Y8_7, Y9_8, Y10_9, Y11_10, Y12_11, Y13_12, Y14_13, Y15_14, Y16_15, A70, c71, y72, A81, c82, O17_12, O18_13, hs, HS, f0, f1, f2, f3, f4, f5, f6, f7, f8, f9, f10, f11, f12, f13, f14, f15, o12_0, o13_0⟩ := hI
        have h2 : b 2 = true := hd 2 (by decide)
        obtain rfl := f2 h2
        refine GO.at hs ?_
        refine GO.on rfl rfl rfl rfl ?_
        refine GO.ldBoxA (j := 0) ([.slice A36 t32.length c37, .slice A38 t33.length c39]) HS rfl rfl rfl rfl ag63 rfl ?_
        refine GO.back ?_
        refine GO.fin (fun a hs => ?_)
        exact ⟨_, _, _, _, (.agg [.slice A36 t32.length c37, .slice A38 t33.length c39].toArray), _, _, _, _, _, _, _, _, _, _, _, A70, c71, y72, A81, c82, _, _, hs.weak ⟨rfl, rfl, rfl, rfl, rfl, rfl, rfl, rfl, rfl, rfl, rfl, rfl, rfl, rfl, rfl, rfl, rfl, rfl, rfl, rfl, rfl, trivial⟩, HS.pick 7 [0, 1, 2, 3, 4, 5, 6], f0, f1, f2, f3, fun _ => rfl, f5, f6, f7, f8, f9, f10, f11, f12, f13, f14, f15, o12_0, o13_0⟩
       | 5, _ =>
        obtain ⟨Y1_0, Y2_1, Y3_2, Y4_3, Y5_4, Y6_5, Y7_6, Y8_7, Y9_8, Y10_9, Y11_10, Y12_11, Y13_12, Y14_13, Y15_14, Y16_15, A70, c71, y72, A81, c82, O17_12, O18_13, hs, HS, f0, f1, f2, f3, f4, f5, f6, f7, f8, f9, f10, f11, f12, f13, f14, f15, o12_0, o13_0⟩ := hI
        have h2 : b 2 = true := hd 2 (by decide)
        obtain rfl := f2 h2
        have h3 : b 3 = true := hd 3 (by decide)
        obtain rfl := f3 h3
        have h4 : b 4 = true := hd 4 (by decide)
        obtain rfl := f4 h4
        refine GO.at hs ?_
        refine GO.on rfl rfl rfl rfl ?_
        refine GO.fn rfl Try.func111 fok111.1 fok111.2 rfl rfl (impl_Diagram_regions.calls HS (RdIn.drop 7 h_d_Crossings) (RdIn.own (j := 1) rfl) (RdIn.own (j := 2) rfl) h69) (fun _ wd73 ⟨A70, c71, y72, h74, HS⟩ => ⟨_, h74, ?_⟩)
        refine GO.back ?_
        refine GO.fin (fun a hs => ?_)
        exact ⟨_, _, _, _, _, (.slice A70 t68.length c71), _, _, _, _, _, _, _, _, _, _, A70, c71, y72, A81, c82, Own (Ty.slice 2 (TInt .i64)) 43 A70 c71 y72 t68, _, hs.weak ⟨rfl, rfl, rfl, rfl, rfl, rfl, rfl, rfl, rfl, rfl, rfl, rfl, rfl, rfl, rfl, rfl, rfl, rfl, rfl, rfl, rfl, trivial⟩, HS.pick 8 [1, 2, 3, 4, 5, 0, 7], f0, f1, f2, f3, f4, fun _ => rfl, f6, f7, f8, f9, f10, f11, f12, f13, f14, f15, fun _ => rfl, o13_0⟩
       | 6, _ =>
        obtain ⟨Y1_0, Y2_1, Y3_2, Y4_3, Y5_4, Y6_5, Y7_6, Y8_7, Y9_8, Y10_9, Y11_10, Y12_11, Y13_12, Y14_13, Y15_14, Y16_15, A70, c71, y72, A81, c82, O17_12, O18_13, hs, HS, f0, f1, f2, f3, f4, f5, f6, f7, f8, f9, f10, f11, f12, f13, f14, f15, o12_0, o13_0⟩ := hI
        have h2 : b 2 = true := hd 2 (by decide)
        obtain rfl := f2 h2
        have h5 : b 5 = true := hd 5 (by decide)
        obtain rfl := f5 h5
        obtain rfl := o12_0 h5
        refine GO.at hs ?_
        refine GO.on rfl rfl rfl rfl ?_
        refine GO.fn rfl Try.func110 fok110.1 fok110.2 rfl rfl (impl_size_int64.calls HS (RdIn.own (j := 5) rfl) h76) (fun _ wd77 ⟨h78, HS⟩ => ⟨_, h78, ?_⟩)
        refine GO.back ?_
        refine GO.fin (fun a hs => ?_)
        exact ⟨_, _, _, _, _, _, (.int .i64 t75), _, _, _, _, _, _, _, _, _, A70, c71, y72, A81, c82, _, _, hs.weak ⟨rfl, rfl, rfl, rfl, rfl, rfl, rfl, rfl, rfl, rfl, rfl, rfl, rfl, rfl, rfl, rfl, rfl, rfl, rfl, rfl, rfl, trivial⟩, HS.pick 7 [0, 1, 2, 3, 4, 5, 6], f0, f1, f2, f3, f4, f5, fun _ => rfl, f7, f8, f9, f10, f11, f12, f13, f14, f15, o12_0, o13_0⟩
       | 7, _ =>
        obtain ⟨Y1_0, Y2_1, Y3_2, Y4_3, Y5_4, Y6_5, Y7_6, Y8_7, Y9_8, Y10_9, Y11_10, Y12_11, Y13_12, Y14_13, Y15_14, Y16_15, A70, c71, y72, A81, c82, O17_12, O18_13, hs, HS, f0, f1, f2, f3, f4, f5, f6, f7, f8, f9, f10, f11, f12, f13, f14, f15, o12_0, o13_0⟩ := hI
        have h2 : b 2 = true := hd 2 (by decide)
        obtain rfl := f2 h2
        refine GO.at hs ?_
        refine GO.on rfl rfl rfl rfl ?_
        refine GO.move rfl rfl rfl ?_
        refine GO.back ?_
        refine GO.fin (fun a hs => ?_)
        exact ⟨_, _, _, _, _, _, _, (.int .i64 t5), _, _, _, _, _, _, _, _, A70, c71, y72, A81, c82, _, _, hs.weak ⟨rfl, rfl, rfl, rfl, rfl, rfl, rfl, rfl, rfl, rfl, rfl, rfl, rfl, rfl, rfl, rfl, rfl, rfl, rfl, rfl, rfl, trivial⟩, HS.pick 7 [0, 1, 2, 3, 4, 5, 6], f0, f1, f2, f3, f4, f5, f6, fun _ => rfl, f8, f9, f10, f11, f12, f13, f14, f15, o12_0, o13_0⟩
       | 8, _ =>
        obtain ⟨Y1_0, Y2_1, Y3_2, Y4_3, Y5_4, Y6_5, Y7_6, Y8_7, Y9_8, Y10_9, Y11_10, Y12_11, Y13_12, Y14_13, Y15_14, Y16_15, A70, c71, y72, A81, c82, O17_12, O18_13, hs, HS, f0, f1, f2, f3, f4, f5, f6, f7, f8, f9, f10, f11, f12, f13, f14, f15, o12_0, o13_0⟩ := hI
        have h2 : b 2 = true := hd 2 (by decide)
        obtain rfl := f2 h2
        refine GO.at hs ?_
        refine GO.on rfl rfl rfl rfl ?_
        refine GO.ldBoxA (j := 4) ([.slice A_d_Crossings d_Crossings.length c_d_Crossings, .int .i64 d_Circles]) HS rfl rfl rfl rfl ag28 rfl ?_
        refine GO.back ?_
        refine GO.fin (fun a hs => ?_)
        exact ⟨_, _, _, _, _, _, _, _, (.agg [.slice A_d_Crossings d_Crossings.length c_d_Crossings, .int .i64 d_Circles].toArray), _, _, _, _, _, _, _, A70, c71, y72, A81, c82, _, _, hs.weak ⟨rfl, rfl, rfl, rfl, rfl, rfl, rfl, rfl, rfl, rfl, rfl, rfl, rfl, rfl, rfl, rfl, rfl, rfl, rfl, rfl, rfl, trivial⟩, HS.pick 7 [0, 1, 2, 3, 4, 5, 6], f0, f1, f2, f3, f4, f5, f6, f7, fun _ => rfl, f9, f10, f11, f12, f13, f14, f15, o12_0, o13_0⟩
       | 9, _ =>
        obtain ⟨Y1_0, Y2_1, Y3_2, Y4_3, Y5_4, Y6_5, Y7_6, Y8_7, Y9_8, Y10_9, Y11_10, Y12_11, Y13_12, Y14_13, Y15_14, Y16_15, A70, c71, y72, A81, c82, O17_12, O18_13, hs, HS, f0, f1, f2, f3, f4, f5, f6, f7, f8, f9, f10, f11, f12, f13, f14, f15, o12_0, o13_0⟩ := hI
        have h2 : b 2 = true := hd 2 (by decide)
        obtain rfl := f2 h2
        refine GO.at hs ?_
        refine GO.on rfl rfl rfl rfl ?_
        refine GO.ldBoxA (j := 0) ([.slice A36 t32.length c37, .slice A38 t33.length c39]) HS rfl rfl rfl rfl ag63 rfl ?_
        refine GO.back ?_
        refine GO.fin (fun a hs => ?_)
        exact ⟨_, _, _, _, _, _, _, _, _, (.agg [.slice A36 t32.length c37, .slice A38 t33.length c39].toArray), _, _, _, _, _, _, A70, c71, y72, A81, c82, _, _, hs.weak ⟨rfl, rfl, rfl, rfl, rfl, rfl, rfl, rfl, rfl, rfl, rfl, rfl, rfl, rfl, rfl, rfl, rfl, rfl, rfl, rfl, rfl, trivial⟩, HS.pick 7 [0, 1, 2, 3, 4, 5, 6], f0, f1, f2, f3, f4, f5, f6, f7, f8, fun _ => rfl, f10, f11, f12, f13, f14, f15, o12_0, o13_0⟩
       | 10, _ =>
        obtain ⟨Y1_0, Y2_1, Y3_2, Y4_3, Y5_4, Y6_5, Y7_6, Y8_7, Y9_8, Y10_9, Y11_10, Y12_11, Y13_12, Y14_13, Y15_14, Y16_15, A70, c71, y72, A81, c82, O17_12, O18_13, hs, HS, f0, f1, f2, f3, f4, f5, f6, f7, f8, f9, f10, f11, f12, f13, f14, f15, o12_0, o13_0⟩ := hI
        have h2 : b 2 = true := hd 2 (by decide)
        obtain rfl := f2 h2
        have h8 : b 8 = true := hd 8 (by decide)
        obtain rfl := f8 h8
        have h9 : b 9 = true := hd 9 (by decide)
        obtain rfl := f9 h9
        refine GO.at hs ?_
        refine GO.on rfl rfl rfl rfl ?_
        refine GO.fn rfl Try.func85 fok85.1 fok85.2 rfl rfl (impl_Diagram_parts.calls HS (RdIn.drop 7 h_d_Crossings) (RdIn.own (j := 1) rfl) (RdIn.own (j := 2) rfl) h80) (fun _ wd83 ⟨A81, c82, h84, HS⟩ => ⟨_, h84, ?_⟩)
        refine GO.back ?_
        refine GO.fin (fun a hs => ?_)
        exact ⟨_, _, _, _, _, _, _, _, _, _, (.slice A81 t79.length c82), _, _, _, _, _, A70, c71, y72, A81, c82, _, Own (TInt .i64) 2 A81 c82 (fun _ => ()) t79, hs.weak ⟨rfl, rfl, rfl, rfl, rfl, rfl, rfl, rfl, rfl, rfl, rfl, rfl, rfl, rfl, rfl, rfl, rfl, rfl, rfl, rfl, rfl, trivial⟩, HS.pick 8 [1, 2, 3, 4, 5, 6, 0], f0, f1, f2, f3, f4, f5, f6, f7, f8, f9, fun _ => rfl, f11, f12, f13, f14, f15, o12_0, fun _ => rfl⟩
       | 11, _ =>
        obtain ⟨Y1_0, Y2_1, Y3_2, Y4_3, Y5_4, Y6_5, Y7_6, Y8_7, Y9_8, Y10_9, Y11_10, Y12_11, Y13_12, Y14_13, Y15_14, Y16_15, A70, c71, y72, A81, c82, O17_12, O18_13, hs, HS, f0, f1, f2, f3, f4, f5, f6, f7, f8, f9, f10, f11, f12, f13, f14, f15, o12_0, o13_0⟩ := hI
        have h2 : b 2 = true := hd 2 (by decide)
        obtain rfl := f2 h2
        have h10 : b 10 = true := hd 10 (by decide)
        obtain rfl := f10 h10
        obtain rfl := o13_0 h10
        refine GO.at hs ?_
        refine GO.on rfl rfl rfl rfl ?_
        refine GO.fn rfl Try.func84 fok84.1 fok84.2 rfl rfl (impl_classCount.calls HS (RdIn.own (j := 6) rfl) h86) (fun _ wd87 ⟨h88, HS⟩ => ⟨_, h88, ?_⟩)
        refine GO.back ?_
        refine GO.fin (fun a hs => ?_)
        exact ⟨_, _, _, _, _, _, _, _, _, _, _, (.int .i64 t85), _, _, _, _, A70, c71, y72, A81, c82, _, _, hs.weak ⟨rfl, rfl, rfl, rfl, rfl, rfl, rfl, rfl, rfl, rfl, rfl, rfl, rfl, rfl, rfl, rfl, rfl, rfl, rfl, rfl, rfl, trivial⟩, HS.pick 7 [0, 1, 2, 3, 4, 5, 6], f0, f1, f2, f3, f4, f5, f6, f7, f8, f9, f10, fun _ => rfl, f12, f13, f14, f15, o12_0, o13_0⟩
       | 12, _ =>
        obtain ⟨Y1_0, Y2_1, Y3_2, Y4_3, Y5_4, Y6_5, Y7_6, Y8_7, Y9_8, Y10_9, Y11_10, Y12_11, Y13_12, Y14_13, Y15_14, Y16_15, A70, c71, y72, A81, c82, O17_12, O18_13, hs, HS, f0, f1, f2, f3, f4, f5, f6, f7, f8, f9, f10, f11, f12, f13, f14, f15, o12_0, o13_0⟩ := hI
        have h2 : b 2 = true := hd 2 (by decide)
        obtain rfl := f2 h2
        have h11 : b 11 = true := hd 11 (by decide)
        obtain rfl := f11 h11
        refine GO.at hs ?_
        refine GO.on rfl rfl rfl rfl ?_
        refine GO.mul rfl rfl rfl rfl ?_
        refine GO.back ?_
        refine GO.fin (fun a hs => ?_)
        exact ⟨_, _, _, _, _, _, _, _, _, _, _, _, (.int .i64 (w64 (2 * t85))), _, _, _, A70, c71, y72, A81, c82, _, _, hs.weak ⟨rfl, rfl, rfl, rfl, rfl, rfl, rfl, rfl, rfl, rfl, rfl, rfl, rfl, rfl, rfl, rfl, rfl, rfl, rfl, rfl, rfl, trivial⟩, HS.pick 7 [0, 1, 2, 3, 4, 5, 6], f0, f1, f2, f3, f4, f5, f6, f7, f8, f9, f10, f11, fun _ => rfl, f13, f14, f15, o12_0, o13_0⟩
       | 13, _ =>
        obtain ⟨Y1_0, Y2_1, Y3_2, Y4_3, Y5_4, Y6_5, Y7_6, Y8_7, Y9_8, Y10_9, Y11_10, Y12_11, Y13_12, Y14_13, Y15_14, Y16_15, A70, c71, y72, A81, c82, O17_12, O18_13, hs, HS, f0, f1, f2, f3, f4, f5, f6, f7, f8, f9, f10, f11, f12, f13, f14, f15, o12_0, o13_0⟩ := hI
        have h2 : b 2 = true := hd 2 (by decide)
        obtain rfl := f2 h2
        have h7 : b 7 = true := hd 7 (by decide)
        obtain rfl := f7 h7
        have h12 : b 12 = true := hd 12 (by decide)
        obtain rfl := f12 h12
        refine GO.at hs ?_
        refine GO.on rfl rfl rfl rfl ?_
        refine GO.add rfl rfl rfl rfl ?_
        refine GO.back ?_
        refine GO.fin (fun a hs => ?_)
        exact ⟨_, _, _, _, _, _, _, _, _, _, _, _, _, (.int .i64 (w64 (t5 + (w64 (2 * t85))))), _, _, A70, c71, y72, A81, c82, _, _, hs.weak ⟨rfl, rfl, rfl, rfl, rfl, rfl, rfl, rfl, rfl, rfl, rfl, rfl, rfl, rfl, rfl, rfl, rfl, rfl, rfl, rfl, rfl, trivial⟩, HS.pick 7 [0, 1, 2, 3, 4, 5, 6], f0, f1, f2, f3, f4, f5, f6, f7, f8, f9, f10, f11, f12, fun _ => rfl, f14, f15, o12_0, o13_0⟩
       | 14, _ =>
        obtain ⟨Y1_0, Y2_1, Y3_2, Y4_3, Y5_4, Y6_5, Y7_6, Y8_7, Y9_8, Y10_9, Y11_10, Y12_11, Y13_12, Y14_13, Y15_14, Y16_15, A70, c71, y72, A81, c82, O17_12, O18_13, hs, HS, f0, f1, f2, f3, f4, f5, f6, f7, f8, f9, f10, f11, f12, f13, f14, f15, o12_0, o13_0⟩ := hI
        have h2 : b 2 = true := hd 2 (by decide)
        obtain rfl := f2 h2
        have h6 : b 6 = true := hd 6 (by decide)
        obtain rfl := f6 h6
        have h13 : b 13 = true := hd 13 (by decide)
        obtain rfl := f13 h13
        refine GO.at hs ?_
        refine GO.on rfl rfl rfl rfl ?_
        refine GO.neq rfl rfl rfl rfl ?_
        refine GO.back ?_
        refine GO.fin (fun a hs => ?_)
        exact ⟨_, _, _, _, _, _, _, _, _, _, _, _, _, _, (.bool (!(decide (t75 = w64 (t5 + (w64 (2 * t85))))))), _, A70, c71, y72, A81, c82, _, _, hs.weak ⟨rfl, rfl, rfl, rfl, rfl, rfl, rfl, rfl, rfl, rfl, rfl, rfl, rfl, rfl, rfl, rfl, rfl, rfl, rfl, rfl, rfl, trivial⟩, HS.pick 7 [0, 1, 2, 3, 4, 5, 6], f0, f1, f2, f3, f4, f5, f6, f7, f8, f9, f10, f11, f12, f13, fun _ => rfl, f15, o12_0, o13_0⟩
       | 15, _ =>
        obtain ⟨Y1_0, Y2_1, Y3_2, Y4_3, Y5_4, Y6_5, Y7_6, Y8_7, Y9_8, Y10_9, Y11_10, Y12_11, Y13_12, Y14_13, Y15_14, Y16_15, A70, c71, y72, A81, c82, O17_12, O18_13, hs, HS, f0, f1, f2, f3, f4, f5, f6, f7, f8, f9, f10, f11, f12, f13, f14, f15, o12_0, o13_0⟩ := hI
        have h2 : b 2 = true := hd 2 (by decide)
        obtain rfl := f2 h2
        have h14 : b 14 = true := hd 14 (by decide)
        obtain rfl := f14 h14
        refine GO.at hs ?_
        refine GO.pickF rfl rfl rfl rfl rfl ?_
        refine GO.fin (fun a hs => ?_)
        exact ⟨_, _, _, _, _, _, _, _, _, _, _, _, _, _, _, (.bool (!(decide (t75 = w64 (t5 + (w64 (2 * t85))))))), A70, c71, y72, A81, c82, _, _, hs.weak ⟨rfl, rfl, rfl, rfl, rfl, rfl, rfl, rfl, rfl, rfl, rfl, rfl, rfl, rfl, rfl, rfl, rfl, rfl, rfl, rfl, rfl, trivial⟩, HS.pick 7 [0, 1, 2, 3, 4, 5, 6], f0, f1, f2, f3, f4, f5, f6, f7, f8, f9, f10, f11, f12, f13, f14, fun _ => rfl, o12_0, o13_0⟩
       | k + 16, hj => exact absurd hj (Nat.not_lt.2 (Nat.le_add_left 16 k))
      ·
       intro b a w hall hI
       obtain ⟨Y1_0, Y2_1, Y3_2, Y4_3, Y5_4, Y6_5, Y7_6, Y8_7, Y9_8, Y10_9, Y11_10, Y12_11, Y13_12, Y14_13, Y15_14, Y16_15, A70, c71, y72, A81, c82, O17_12, O18_13, hs, HS, f0, f1, f2, f3, f4, f5, f6, f7, f8, f9, f10, f11, f12, f13, f14, f15, o12_0, o13_0⟩ := hI
       obtain rfl := f0 (hall 0 (by decide))
       obtain rfl := f1 (hall 1 (by decide))
       obtain rfl := f2 (hall 2 (by decide))
       obtain rfl := f3 (hall 3 (by decide))
       obtain rfl := f4 (hall 4 (by decide))
       obtain rfl := f5 (hall 5 (by decide))
       obtain rfl := f6 (hall 6 (by decide))
       obtain rfl := f7 (hall 7 (by decide))
       obtain rfl := f8 (hall 8 (by decide))
       obtain rfl := f9 (hall 9 (by decide))
       obtain rfl := f10 (hall 10 (by decide))
       obtain rfl := f11 (hall 11 (by decide))
       obtain rfl := f12 (hall 12 (by decide))
       obtain rfl := f13 (hall 13 (by decide))
       obtain rfl := f14 (hall 14 (by decide))
       obtain rfl := f15 (hall 15 (by decide))
       obtain rfl := o12_0 (hall 5 (by decide))
       obtain rfl := o13_0 (hall 10 (by decide))
       refine G.at hs ?_
       rcases ite_elim H with ⟨c89, H⟩ | ⟨c89, H⟩
       ·
        refine G.noB rfl (congrArg Bool.not (decide_eq_true c89)) ?_
        refine G.skip ?_
        refine G.seq ?_
        refine G.region ?_
        refine GO.ldBoxA (j := 0) ([.slice A36 t32.length c37, .slice A38 t33.length c39]) HS rfl rfl rfl rfl ag63 rfl ?_
        refine GO.stBox (j := 3) (vs := [.slice A36 t32.length c37, .slice A38 t33.length c39]) ([.slice A36 t32.length c37, .slice A38 t33.length c39]) HS rfl rfl rfl rfl rfl (htA ag63) rfl rfl rfl ?_; intro wd90 HS
        refine GO.assign rfl rfl rfl ?_
        refine GO.nil ?_
        obtain ⟨rfl, rfl, rfl⟩ := some3 H
        exact G.ret2 _ _ Try.func45 rfl (Res1.boxA (j := 3) (vs := [.slice A36 t32.length c37, .slice A38 t33.length c39]) HS rfl rfl rfl ag63) rfl ⟨_, _, _, _, rfl, (HS.pick 7 [1, 2])⟩
       ·
        refine G.yesB rfl (congrArg Bool.not (decide_eq_false c89)) ?_
        refine G.seq ?_
        refine G.region ?_
        refine GO.buildV (.agg [.slice none 0 0, .slice none 0 0].toArray) rfl rfl (fun _ => by kernel_rfl) rfl ?_
        refine GO.stBox (j := 3) (vs := [.slice none 0 0, .slice none 0 0]) ([.slice none 0 0, .slice none 0 0]) HS rfl rfl rfl rfl rfl (htA ag63) rfl rfl rfl ?_; intro wd91 HS
        refine GO.assign rfl rfl rfl ?_
        refine GO.nil ?_
        replace HS := HS.nilRow T_GEnd 68 (fun _ => ())
        replace HS := HS.nilRow T_GEnd 68 (fun _ => ())
        obtain ⟨rfl, rfl, rfl⟩ := some3 H
        exact G.ret2 _ _ Try.func45 rfl (Res1.boxA (j := 5) (vs := [.slice none 0 0, .slice none 0 0]) HS rfl rfl rfl ag63) rfl ⟨_, _, _, _, rfl, (HS.pick 9 [1, 0])⟩
     ·
      refine G.regionAny mixed (by decide) (fun b a w => ∃ (Y19_0 : Value) (Y20_1 : Value) (Y21_2 : Value) (Y22_3 : Value) (Y23_4 : Value) (Y24_5 : Value) (Y25_6 : Value) (Y26_7 : Value) (Y27_8 : Value) (Y28_9 : Value) (Y29_10 : Value) (Y30_11 : Value) (Y31_12 : Value) (Y32_13 : Value) (Y33_14 : Value) (Y34_15 : Value), Sat 47 [(29, Y19_0), (30, Y20_1), (31, Y21_2), (32, Y22_3), (33, Y23_4), (34, Y24_5), (35, Y25_6), (36, Y26_7), (37, Y27_8), (38, Y28_9), (39, Y29_10), (40, Y30_11), (41, Y31_12), (42, Y32_13), (43, Y33_14), (44, Y34_15), (1, .pointer (some ⟨b1, 0, none⟩)), (2, .pointer (some ⟨b3, 0, none⟩)), (4, .int .i64 t5), (5, .pointer (some ⟨b42, 0, none⟩)), (6, .bool t34)] a ∧ St w0 w (Box b42 63 [.slice A36 t32.length c37, .slice A38 t33.length c39] :: Own T_GEnd 68 A36 c37 (fun _ => ()) t32 :: Own T_GEnd 68 A38 c39 (fun _ => ()) t33 :: Box b3 63 [.slice none 0 0, .slice none 0 0] :: Box b1 28 [.slice A_d_Crossings d_Crossings.length c_d_Crossings, .int .i64 d_Circles] :: L) ∧ (b 0 = true → Y19_0 = (.bool t34)) ∧ (b 1 = true → Y20_1 = (.bool (!t34))) ∧ (b 2 = true → Y21_2 = (.bool true)) ∧ (b 3 = true → Y22_3 = (undef)) ∧ (b 4 = true → Y23_4 = (undef)) ∧ (b 5 = true → Y24_5 = (undef)) ∧ (b 6 = true → Y25_6 = (undef)) ∧ (b 7 = true → Y26_7 = (undef)) ∧ (b 8 = true → Y27_8 = (undef)) ∧ (b 9 = true → Y28_9 = (undef)) ∧ (b 10 = true → Y29_10 = (undef)) ∧ (b 11 = true → Y30_11 = (undef)) ∧ (b 12 = true → Y31_12 = (undef)) ∧ (b 13 = true → Y32_13 = (undef)) ∧ (b 14 = true → Y33_14 = (undef)) ∧ (b 15 = true → Y34_15 = (.bool true))) ?_ ?_ ?_
      ·
       intro a hs
       obtain ⟨Y19_0, hs⟩ := hs.ext (d := 29) rfl
       obtain ⟨Y20_1, hs⟩ := hs.ext (d := 30) rfl
       obtain ⟨Y21_2, hs⟩ := hs.ext (d := 31) rfl
       obtain ⟨Y22_3, hs⟩ := hs.ext (d := 32) rfl
       obtain ⟨Y23_4, hs⟩ := hs.ext (d := 33) rfl
       obtain ⟨Y24_5, hs⟩ := hs.ext (d := 34) rfl
       obtain ⟨Y25_6, hs⟩ := hs.ext (d := 35) rfl
       obtain ⟨Y26_7, hs⟩ := hs.ext (d := 36) rfl
       obtain ⟨Y27_8, hs⟩ := hs.ext (d := 37) rfl
       obtain ⟨Y28_9, hs⟩ := hs.ext (d := 38) rfl
       obtain ⟨Y29_10, hs⟩ := hs.ext (d := 39) rfl
       obtain ⟨Y30_11, hs⟩ := hs.ext (d := 40) rfl
       obtain ⟨Y31_12, hs⟩ := hs.ext (d := 41) rfl
       obtain ⟨Y32_13, hs⟩ := hs.ext (d := 42) rfl
       obtain ⟨Y33_14, hs⟩ := hs.ext (d := 43) rfl
       obtain ⟨Y34_15, hs⟩ := hs.ext (d := 44) rfl
       exact ⟨Y19_0, Y20_1, Y21_2, Y22_3, Y23_4, Y24_5, Y25_6, Y26_7, Y27_8, Y28_9, Y29_10, Y30_11, Y31_12, Y32_13, Y33_14, Y34_15, hs.weak ⟨rfl, rfl, rfl, rfl, rfl, rfl, rfl, rfl, rfl, rfl, rfl, rfl, rfl, rfl, rfl, rfl, rfl, rfl, rfl, rfl, rfl, trivial⟩, (HS.drew.pick 5 [0, 1, 2, 3, 4]), fun h => Bool.noConfusion h, fun h => Bool.noConfusion h, fun h => Bool.noConfusion h, fun h => Bool.noConfusion h, fun h => Bool.noConfusion h, fun h => Bool.noConfusion h, fun h => Bool.noConfusion h, fun h => Bool.noConfusion h, fun h => Bool.noConfusion h, fun h => Bool.noConfusion h, fun h => Bool.noConfusion h, fun h => Bool.noConfusion h, fun h => Bool.noConfusion h, fun h => Bool.noConfusion h, fun h => Bool.noConfusion h, fun h => Bool.noConfusion h⟩
      ·
       intro j hj b a w hI hb hd hcl
       match j, hj with
       | 0, _ =>
        obtain ⟨Y19_0, Y20_1, Y21_2, Y22_3, Y23_4, Y24_5, Y25_6, Y26_7, Y27_8, Y28_9, Y29_10, Y30_11, Y31_12, Y32_13, Y33_14, Y34_15, hs, HS, f0, f1, f2, f3, f4, f5, f6, f7, f8, f9, f10, f11, f12, f13, f14, f15⟩ := hI
        refine GO.at hs ?_
        refine GO.move rfl rfl rfl ?_
        refine GO.fin (fun a hs => ?_)
        exact ⟨(.bool t34), _, _, _, _, _, _, _, _, _, _, _, _, _, _, _, hs.weak ⟨rfl, rfl, rfl, rfl, rfl, rfl, rfl, rfl, rfl, rfl, rfl, rfl, rfl, rfl, rfl, rfl, rfl, rfl, rfl, rfl, rfl, trivial⟩, HS.pick 5 [0, 1, 2, 3, 4], fun _ => rfl, f1, f2, f3, f4, f5, f6, f7, f8, f9, f10, f11, f12, f13, f14, f15⟩
       | 1, _ =>
        obtain ⟨Y19_0, Y20_1, Y21_2, Y22_3, Y23_4, Y24_5, Y25_6, Y26_7, Y27_8, Y28_9, Y29_10, Y30_11, Y31_12, Y32_13, Y33_14, Y34_15, hs, HS, f0, f1, f2, f3, f4, f5, f6, f7, f8, f9, f10, f11, f12, f13, f14, f15⟩ := hI
        have h0 : b 0 = true := hd 0 (by decide)
        obtain rfl := f0 h0
        refine GO.at hs ?_
        refine GO.not rfl rfl rfl ?_
        refine GO.fin (fun a hs => ?_)
        exact ⟨_, (.bool (!t34)), _, _, _, _, _, _, _, _, _, _, _, _, _, _, hs.weak ⟨rfl, rfl, rfl, rfl, rfl, rfl, rfl, rfl, rfl, rfl, rfl, rfl, rfl, rfl, rfl, rfl, rfl, rfl, rfl, rfl, rfl, trivial⟩, HS.pick 5 [0, 1, 2, 3, 4], f0, fun _ => rfl, f2, f3, f4, f5, f6, f7, f8, f9, f10, f11, f12, f13, f14, f15⟩
       | 2, _ =>
        obtain ⟨Y19_0, Y20_1, Y21_2, Y22_3, Y23_4, Y24_5, Y25_6, Y26_7, Y27_8, Y28_9, Y29_10, Y30_11, Y31_12, Y32_13, Y33_14, Y34_15, hs, HS, f0, f1, f2, f3, f4, f5, f6, f7, f8, f9, f10, f11, f12, f13, f14, f15⟩ := hI
        have h1 : b 1 = true := hd 1 (by decide)
        obtain rfl := f1 h1
        refine GO.at hs ?_
        refine GO.move rfl rfl rfl ?_
        refine GO.known (t := 31) rfl (congrArg Bool.not (bnot_of c67)) ?_
        refine GO.fin (fun a hs => ?_)
        exact ⟨_, _, (.bool true), _, _, _, _, _, _, _, _, _, _, _, _, _, hs.weak ⟨rfl, rfl, rfl, rfl, rfl, rfl, rfl, rfl, rfl, rfl, rfl, rfl, rfl, rfl, rfl, rfl, rfl, rfl, rfl, rfl, rfl, trivial⟩, HS.pick 5 [0, 1, 2, 3, 4], f0, f1, fun _ => rfl, f3, f4, f5, f6, f7, f8, f9, f10, f11, f12, f13, f14, f15⟩
       | 3, _ =>
        obtain ⟨Y19_0, Y20_1, Y21_2, Y22_3, Y23_4, Y24_5, Y25_6, Y26_7, Y27_8, Y28_9, Y29_10, Y30_11, Y31_12, Y32_13, Y33_14, Y34_15, hs, HS, f0, f1, f2, f3, f4, f5, f6, f7, f8, f9, f10, f11, f12, f13, f14, f15⟩ := hI
        have h2 : b 2 = true := hd 2 (by decide)
        obtain rfl := f2 h2
        refine GO.at hs ?_
        refine GO.off rfl rfl rfl rfl rfl rfl ?_
        refine GO.fin (fun a hs => ?_)
        exact ⟨_, _, _, (undef), _, _, _, _, _, _, _, _, _, _, _, _, hs.weak ⟨rfl, rfl, rfl, rfl, rfl, rfl, rfl, rfl, rfl, rfl, rfl, rfl, rfl, rfl, rfl, rfl, rfl, rfl, rfl, rfl, rfl, trivial⟩, HS.pick 5 [0, 1, 2, 3, 4], f0, f1, f2, fun _ => rfl, f4, f5, f6, f7, f8, f9, f10, f11, f12, f13, f14, f15⟩
       | 4, _ =>
        obtain ⟨Y19_0, Y20_1, Y21_2, Y22_3, Y23_4, Y24_5, Y25_6, Y26_7, Y27_8, Y28_9, Y29_10, Y30_11, Y31_12, Y32_13, Y33_14, Y34_15, hs, HS, f0, f1, f2, f3, f4, f5, f6, f7, f8, f9, f10, f11, f12, f13, f14, f15⟩ := hI
        have h2 : b 2 = true := hd 2 (by decide)
        obtain rfl := f2 h2
        refine GO.at hs ?_
        refine GO.off rfl rfl rfl rfl rfl rfl ?_
        refine GO.fin (fun a hs => ?_)
        exact ⟨_, _, _, _, (undef), _, _, _, _, _, _, _, _, _, _, _, hs.weak ⟨rfl, rfl, rfl, rfl, rfl, rfl, rfl, rfl, rfl, rfl, rfl, rfl, rfl, rfl, rfl, rfl, rfl, rfl, rfl, rfl, rfl, trivial⟩, HS.pick 5 [0, 1, 2, 3, 4], f0, f1, f2, f3, fun _ => rfl, f5, f6, f7, f8, f9, f10, f11, f12, f13, f14, f15⟩
       | 5, _ =>
        obtain ⟨Y19_0, Y20_1, Y21_2, Y22_3, Y23_4, Y24_5, Y25_6, Y26_7, Y27_8, Y28_9, Y29_10, Y30_11, Y31_12, Y32_13, Y33_14, Y34_15, hs, HS, f0, f1, f2, f3, f4, f5, f6, f7, f8, f9, f10, f11, f12, f13, f14, f15⟩ := hI
        have h2 : b 2 = true := hd 2 (by decide)
        obtain rfl := f2 h2
        have h3 : b 3 = true := hd 3 (by decide)
        obtain rfl := f3 h3
        have h4 : b 4 = true := hd 4 (by decide)
        obtain rfl := f4 h4
        refine GO.at hs ?_
        refine GO.off rfl rfl rfl rfl rfl rfl ?_
        refine GO.fin (fun a hs => ?_)
        exact ⟨_, _, _, _, _, (undef), _, _, _, _, _, _, _, _, _, _, hs.weak ⟨rfl, rfl, rfl, rfl, rfl, rfl, rfl, rfl, rfl, rfl, rfl, rfl, rfl, rfl, rfl, rfl, rfl, rfl, rfl, rfl, rfl, trivial⟩, HS.pick 5 [0, 1, 2, 3, 4], f0, f1, f2, f3, f4, fun _ => rfl, f6, f7, f8, f9, f10, f11, f12, f13, f14, f15⟩
       | 6, _ =>
        obtain ⟨Y19_0, Y20_1, Y21_2, Y22_3, Y23_4, Y24_5, Y25_6, Y26_7, Y27_8, Y28_9, Y29_10, Y30_11, Y31_12, Y32_13, Y33_14, Y34_15, hs, HS, f0, f1, f2, f3, f4, f5, f6, f7, f8, f9, f10, f11, f12, f13, f14, f15⟩ := hI
        have h2 : b 2 = true := hd 2 (by decide)
        obtain rfl := f2 h2
        have h5 : b 5 = true := hd 5 (by decide)
        obtain rfl := f5 h5
        refine GO.at hs ?_
        refine GO.off rfl rfl rfl rfl rfl rfl ?_
        refine GO.fin (fun a hs => ?_)
        exact ⟨_, _, _, _, _, _, (undef), _, _, _, _, _, _, _, _, _, hs.weak ⟨rfl, rfl, rfl, rfl, rfl, rfl, rfl, rfl, rfl, rfl, rfl, rfl, rfl, rfl, rfl, rfl, rfl, rfl, rfl, rfl, rfl, trivial⟩, HS.pick 5 [0, 1, 2, 3, 4], f0, f1, f2, f3, f4, f5, fun _ => rfl, f7, f8, f9, f10, f11, f12, f13, f14, f15⟩
       | 7, _ =>
        obtain ⟨Y19_0, Y20_1, Y21_2, Y22_3, Y23_4, Y24_5, Y25_6, Y26_7, Y27_8, Y28_9, Y29_10, Y30_11, Y31_12, Y32_13, Y33_14, Y34_15, hs, HS, f0, f1, f2, f3, f4, f5, f6, f7, f8, f9, f10, f11, f12, f13, f14, f15⟩ := hI
        have h2 : b 2 = true := hd 2 (by decide)
        obtain rfl := f2 h2
        refine GO.at hs ?_
        refine GO.off rfl rfl rfl rfl rfl rfl ?_
        refine GO.fin (fun a hs => ?_)
        exact ⟨_, _, _, _, _, _, _, (undef), _, _, _, _, _, _, _, _, hs.weak ⟨rfl, rfl, rfl, rfl, rfl, rfl, rfl, rfl, rfl, rfl, rfl, rfl, rfl, rfl, rfl, rfl, rfl, rfl, rfl, rfl, rfl, trivial⟩, HS.pick 5 [0, 1, 2, 3, 4], f0, f1, f2, f3, f4, f5, f6, fun _ => rfl, f8, f9, f10, f11, f12, f13, f14, f15⟩
       | 8, _ =>
        obtain ⟨Y19_0, Y20_1, Y21_2, Y22_3, Y23_4, Y24_5, Y25_6, Y26_7, Y27_8, Y28_9, Y29_10, Y30_11, Y31_12, Y32_13, Y33_14, Y34_15, hs, HS, f0, f1, f2, f3, f4, f5, f6, f7, f8, f9, f10, f11, f12, f13, f14, f15⟩ := hI
        have h2 : b 2 = true := hd 2 (by decide)
        obtain rfl := f2 h2
        refine GO.at hs ?_
        refine GO.off rfl rfl rfl rfl rfl rfl ?_
        refine GO.fin (fun a hs => ?_)
        exact ⟨_, _, _, _, _, _, _, _, (undef), _, _, _, _, _, _, _, hs.weak ⟨rfl, rfl, rfl, rfl, rfl, rfl, rfl, rfl, rfl, rfl, rfl, rfl, rfl, rfl, rfl, rfl, rfl, rfl, rfl, rfl, rfl, trivial⟩, HS.pick 5 [0, 1, 2, 3, 4], f0, f1, f2, f3, f4, f5, f6, f7, fun _ => rfl, f9, f10, f11, f12, f13, f14, f15⟩
       | 9, _ =>
        obtain ⟨Y19_0, Y20_1, Y21_2, Y22_3, Y23_4, Y24_5, Y25_6, Y26_7, Y27_8, Y28_9, Y29_10, Y30_11, Y31_12, Y32_13, Y33_14, Y34_15, hs, HS, f0, f1, f2, f3, f4, f5, f6, f7, f8, f9, f10, f11, f12, f13, f14, f15⟩ := hI
        have h2 : b 2 = true := hd 2 (by decide)
        obtain rfl := f2 h2
        refine GO.at hs ?_
        refine GO.off rfl rfl rfl rfl rfl rfl ?_
        refine GO.fin (fun a hs => ?_)
        exact ⟨_, _, _, _, _, _, _, _, _, (undef), _, _, _, _, _, _, hs.weak ⟨rfl, rfl, rfl, rfl, rfl, rfl, rfl, rfl, rfl, rfl, rfl, rfl, rfl, rfl, rfl, rfl, rfl, rfl, rfl, rfl, rfl, trivial⟩, HS.pick 5 [0, 1, 2, 3, 4], f0, f1, f2, f3, f4, f5, f6, f7, f8, fun _ => rfl, f10, f11, f12, f13, f14, f15⟩
       | 10, _ =>
        obtain ⟨Y19_0, Y20_1, Y21_2, Y22_3, Y23_4, Y24_5, Y25_6, Y26_7, Y27_8, Y28_9, Y29_10, Y30_11, Y31_12, Y32_13, Y33_14, Y34_15, hs, HS, f0, f1, f2, f3, f4, f5, f6, f7, f8, f9, f10, f11, f12, f13, f14, f15⟩ := hI
        have h2 : b 2 = true := hd 2 (by decide)
        obtain rfl := f2 h2
        have h8 : b 8 = true := hd 8 (by decide)
        obtain rfl := f8 h8
        have h9 : b 9 = true := hd 9 (by decide)
        obtain rfl := f9 h9
        refine GO.at hs ?_
        refine GO.off rfl rfl rfl rfl rfl rfl ?_
        refine GO.fin (fun a hs => ?_)
        exact ⟨_, _, _, _, _, _, _, _, _, _, (undef), _, _, _, _, _, hs.weak ⟨rfl, rfl, rfl, rfl, rfl, rfl, rfl, rfl, rfl, rfl, rfl, rfl, rfl, rfl, rfl, rfl, rfl, rfl, rfl, rfl, rfl, trivial⟩, HS.pick 5 [0, 1, 2, 3, 4], f0, f1, f2, f3, f4, f5, f6, f7, f8, f9, fun _ => rfl, f11, f12, f13, f14, f15⟩
       | 11, _ =>
        obtain ⟨Y19_0, Y20_1, Y21_2, Y22_3, Y23_4, Y24_5, Y25_6, Y26_7, Y27_8, Y28_9, Y29_10, Y30_11, Y31_12, Y32_13, Y33_14, Y34_15, hs, HS, f0, f1, f2, f3, f4, f5, f6, f7, f8, f9, f10, f11, f12, f13, f14, f15⟩ := hI
        have h2 : b 2 = true := hd 2 (by decide)
        obtain rfl := f2 h2
        have h10 : b 10 = true := hd 10 (by decide)
        obtain rfl := f10 h10
        refine GO.at hs ?_
        refine GO.off rfl rfl rfl rfl rfl rfl ?_
        refine GO.fin (fun a hs => ?_)
        exact ⟨_, _, _, _, _, _, _, _, _, _, _, (undef), _, _, _, _, hs.weak ⟨rfl, rfl, rfl, rfl, rfl, rfl, rfl, rfl, rfl, rfl, rfl, rfl, rfl, rfl, rfl, rfl, rfl, rfl, rfl, rfl, rfl, trivial⟩, HS.pick 5 [0, 1, 2, 3, 4], f0, f1, f2, f3, f4, f5, f6, f7, f8, f9, f10, fun _ => rfl, f12, f13, f14, f15⟩
       | 12, _ =>
        obtain ⟨Y19_0, Y20_1, Y21_2, Y22_3, Y23_4, Y24_5, Y25_6, Y26_7, Y27_8, Y28_9, Y29_10, Y30_11, Y31_12, Y32_13, Y33_14, Y34_15, hs, HS, f0, f1, f2, f3, f4, f5, f6, f7, f8, f9, f10, f11, f12, f13, f14, f15⟩ := hI
        have h2 : b 2 = true := hd 2 (by decide)
        obtain rfl := f2 h2
        have h11 : b 11 = true := hd 11 (by decide)
        obtain rfl := f11 h11
        refine GO.at hs ?_
        refine GO.off rfl rfl rfl rfl rfl rfl ?_
        refine GO.fin (fun a hs => ?_)
        exact ⟨_, _, _, _, _, _, _, _, _, _, _, _, (undef), _, _, _, hs.weak ⟨rfl, rfl, rfl, rfl, rfl, rfl, rfl, rfl, rfl, rfl, rfl, rfl, rfl, rfl, rfl, rfl, rfl, rfl, rfl, rfl, rfl, trivial⟩, HS.pick 5 [0, 1, 2, 3, 4], f0, f1, f2, f3, f4, f5, f6, f7, f8, f9, f10, f11, fun _ => rfl, f13, f14, f15⟩
       | 13, _ =>
        obtain ⟨Y19_0, Y20_1, Y21_2, Y22_3, Y23_4, Y24_5, Y25_6, Y26_7, Y27_8, Y28_9, Y29_10, Y30_11, Y31_12, Y32_13, Y33_14, Y34_15, hs, HS, f0, f1, f2, f3, f4, f5, f6, f7, f8, f9, f10, f11, f12, f13, f14, f15⟩ := hI
        have h2 : b 2 = true := hd 2 (by decide)
        obtain rfl := f2 h2
        have h7 : b 7 = true := hd 7 (by decide)
        obtain rfl := f7 h7
        have h12 : b 12 = true := hd 12 (by decide)
        obtain rfl := f12 h12
        refine GO.at hs ?_
        refine GO.off rfl rfl rfl rfl rfl rfl ?_
        refine GO.fin (fun a hs => ?_)
        exact ⟨_, _, _, _, _, _, _, _, _, _, _, _, _, (undef), _, _, hs.weak ⟨rfl, rfl, rfl, rfl, rfl, rfl, rfl, rfl, rfl, rfl, rfl, rfl, rfl, rfl, rfl, rfl, rfl, rfl, rfl, rfl, rfl, trivial⟩, HS.pick 5 [0, 1, 2, 3, 4], f0, f1, f2, f3, f4, f5, f6, f7, f8, f9, f10, f11, f12, fun _ => rfl, f14, f15⟩
       | 14, _ =>
        obtain ⟨Y19_0, Y20_1, Y21_2, Y22_3, Y23_4, Y24_5, Y25_6, Y26_7, Y27_8, Y28_9, Y29_10, Y30_11, Y31_12, Y32_13, Y33_14, Y34_15, hs, HS, f0, f1, f2, f3, f4, f5, f6, f7, f8, f9, f10, f11, f12, f13, f14, f15⟩ := hI
        have h2 : b 2 = true := hd 2 (by decide)
        obtain rfl := f2 h2
        have h6 : b 6 = true := hd 6 (by decide)
        obtain rfl := f6 h6
        have h13 : b 13 = true := hd 13 (by decide)
        obtain rfl := f13 h13
        refine GO.at hs ?_
        refine GO.off rfl rfl rfl rfl rfl rfl ?_
        refine GO.fin (fun a hs => ?_)
        exact ⟨_, _, _, _, _, _, _, _, _, _, _, _, _, _, (undef), _, hs.weak ⟨rfl, rfl, rfl, rfl, rfl, rfl, rfl, rfl, rfl, rfl, rfl, rfl, rfl, rfl, rfl, rfl, rfl, rfl, rfl, rfl, rfl, trivial⟩, HS.pick 5 [0, 1, 2, 3, 4], f0, f1, f2, f3, f4, f5, f6, f7, f8, f9, f10, f11, f12, f13, fun _ => rfl, f15⟩
       | 15, _ =>
        obtain ⟨Y19_0, Y20_1, Y21_2, Y22_3, Y23_4, Y24_5, Y25_6, Y26_7, Y27_8, Y28_9, Y29_10, Y30_11, Y31_12, Y32_13, Y33_14, Y34_15, hs, HS, f0, f1, f2, f3, f4, f5, f6, f7, f8, f9, f10, f11, f12, f13, f14, f15⟩ := hI
        have h2 : b 2 = true := hd 2 (by decide)
        obtain rfl := f2 h2
        have h14 : b 14 = true := hd 14 (by decide)
        obtain rfl := f14 h14
        refine GO.at hs ?_
        refine GO.pickT rfl rfl rfl rfl rfl ?_
        refine GO.fin (fun a hs => ?_)
        exact ⟨_, _, _, _, _, _, _, _, _, _, _, _, _, _, _, (.bool true), hs.weak ⟨rfl, rfl, rfl, rfl, rfl, rfl, rfl, rfl, rfl, rfl, rfl, rfl, rfl, rfl, rfl, rfl, rfl, rfl, rfl, rfl, rfl, trivial⟩, HS.pick 5 [0, 1, 2, 3, 4], f0, f1, f2, f3, f4, f5, f6, f7, f8, f9, f10, f11, f12, f13, f14, fun _ => rfl⟩
       | k + 16, hj => exact absurd hj (Nat.not_lt.2 (Nat.le_add_left 16 k))
      ·
       intro b a w hall hI
       obtain ⟨Y19_0, Y20_1, Y21_2, Y22_3, Y23_4, Y24_5, Y25_6, Y26_7, Y27_8, Y28_9, Y29_10, Y30_11, Y31_12, Y32_13, Y33_14, Y34_15, hs, HS, f0, f1, f2, f3, f4, f5, f6, f7, f8, f9, f10, f11, f12, f13, f14, f15⟩ := hI
       obtain rfl := f0 (hall 0 (by decide))
       obtain rfl := f1 (hall 1 (by decide))
       obtain rfl := f2 (hall 2 (by decide))
       obtain rfl := f3 (hall 3 (by decide))
       obtain rfl := f4 (hall 4 (by decide))
       obtain rfl := f5 (hall 5 (by decide))
       obtain rfl := f6 (hall 6 (by decide))
       obtain rfl := f7 (hall 7 (by decide))
       obtain rfl := f8 (hall 8 (by decide))
       obtain rfl := f9 (hall 9 (by decide))
       obtain rfl := f10 (hall 10 (by decide))
       obtain rfl := f11 (hall 11 (by decide))
       obtain rfl := f12 (hall 12 (by decide))
       obtain rfl := f13 (hall 13 (by decide))
       obtain rfl := f14 (hall 14 (by decide))
       obtain rfl := f15 (hall 15 (by decide))
       refine G.at hs ?_
       refine G.yesB rfl rfl ?_
       refine G.seq ?_
       refine G.region ?_
       refine GO.buildV (.agg [.slice none 0 0, .slice none 0 0].toArray) rfl rfl (fun _ => by kernel_rfl) rfl ?_
       refine GO.stBox (j := 3) (vs := [.slice none 0 0, .slice none 0 0]) ([.slice none 0 0, .slice none 0 0]) HS rfl rfl rfl rfl rfl (htA ag63) rfl rfl rfl ?_; intro wd92 HS
       refine GO.assign rfl rfl rfl ?_
       refine GO.nil ?_
       replace HS := HS.nilRow T_GEnd 68 (fun _ => ())
       replace HS := HS.nilRow T_GEnd 68 (fun _ => ())
       obtain ⟨rfl, rfl, rfl⟩ := some3 H
       exact G.ret2 _ _ Try.func45 rfl (Res1.boxA (j := 5) (vs := [.slice none 0 0, .slice none 0 0]) HS rfl rfl rfl ag63) rfl ⟨_, _, _, _, rfl, (HS.pick 7 [1, 0])⟩
   ·
    refine G.region ?_
    refine GO.move rfl rfl rfl ?_
    refine GO.gtr rfl rfl rfl rfl ?_
    refine GO.move rfl rfl rfl ?_
    refine GO.known (t := 12) rfl (decide_eq_false c19) ?_
    refine GO.on rfl rfl rfl rfl ?_
    refine GO.fld (⟨b1, 1, none⟩) rfl rfl fl28_1 rfl rfl ?_
    refine GO.back ?_
    refine GO.on rfl rfl rfl rfl ?_
    refine GO.ldBox (j := 1) HS rfl rfl rfl rfl na2 rfl ?_
    refine GO.back ?_
    refine GO.on rfl rfl rfl rfl ?_
    refine GO.fn rfl Try.func47 fok47.1 fok47.2 rfl rfl (impl_inRange.calls HS  h22) (fun _ wd23 ⟨h24, HS⟩ => ⟨_, h24, ?_⟩)
    refine GO.back ?_
    refine GO.on rfl rfl rfl rfl ?_
    refine GO.not rfl rfl rfl ?_
    refine GO.back ?_
    refine GO.pickF rfl rfl rfl rfl rfl ?_
    refine GO.move rfl rfl rfl ?_
    refine GO.known (t := 18) rfl (congrArg Bool.not (bnot_of c25)) ?_
    refine GO.off rfl rfl rfl rfl rfl rfl ?_
    refine GO.off rfl rfl rfl rfl rfl rfl ?_
    refine GO.off rfl rfl rfl rfl rfl rfl ?_
    refine GO.pickT rfl rfl rfl rfl rfl ?_
    refine GO.nil ?_
    refine G.yesB rfl rfl ?_
    refine G.seq ?_
    refine G.region ?_
    refine GO.buildV (.agg [.slice none 0 0, .slice none 0 0].toArray) rfl rfl (fun _ => by kernel_rfl) rfl ?_
    refine GO.stBox (j := 0) (vs := [.slice none 0 0, .slice none 0 0]) ([.slice none 0 0, .slice none 0 0]) HS rfl rfl rfl rfl rfl (htA ag63) rfl rfl rfl ?_; intro wd93 HS
    refine GO.assign rfl rfl rfl ?_
    refine GO.nil ?_
    replace HS := HS.nilRow T_GEnd 68 (fun _ => ())
    replace HS := HS.nilRow T_GEnd 68 (fun _ => ())
    obtain ⟨rfl, rfl, rfl⟩ := some3 H
    exact G.ret2 _ _ Try.func45 rfl (Res1.boxA (j := 2) (vs := [.slice none 0 0, .slice none 0 0]) HS rfl rfl rfl ag63) rfl ⟨_, _, _, _, rfl, (HS.pick 4 [1, 0])⟩

set_option maxRecDepth 20000 in
set_option maxHeartbeats 4000000 in
theorem slices_Clone_impl_Crossing_impl_Crossing.calls {w0 w : World} {L : List HObj} {s : List GCrossing} {A_s : Option Addr} {c_s : Nat} {r1 : List GCrossing} (HS : St w0 w (L)) (h_s : RdIn w0 L T_GCrossing A_s c_s (fun _ => ()) s) (H : slices_Clone_impl_Crossing_impl_Crossing.f s = some r1) :
    Calls Try.prog 112 #[.slice A_s s.length c_s] w (slices_Clone_impl_Crossing_impl_Crossing.post w0 L s A_s c_s r1) := by
  unfold slices_Clone_impl_Crossing_impl_Crossing.f at H
  refine Calls.of_G Try.func112 rfl rfl rfl ?_
  refine G.seq ?_
  refine G.region ?_
  refine GO.assign rfl rfl rfl ?_
  refine GO.nil ?_
  refine G.seq ?_
  refine G.seq ?_
  refine G.region ?_
  refine GO.move rfl rfl rfl ?_
  refine GO.eqNil rfl rfl rfl Try.underlying26 rfl ?_
  refine GO.nil ?_
  rcases Decidable.em (A_s.isNone = true) with c1 | c1
  ·
   obtain rfl := nil_of_none h_s HS c1
   refine G.yesB rfl c1 ?_
   refine G.seq ?_
   refine G.region ?_
   refine GO.assign rfl rfl rfl ?_
   refine GO.nil ?_
   replace HS := HS.nilRow T_GCrossing 58 (fun _ => ())
   replace H : some ([] : List GCrossing) = some r1 := H
   obtain rfl := Option.some.inj H
   exact G.ret1 _ Try.func112 rfl rfl ⟨_, _, rfl, HS⟩
  ·
   refine G.noB rfl (bnot_of c1) ?_
   refine G.skip ?_
   refine G.seq ?_
   obtain ⟨c7, H⟩ := ite_none H
   refine G.region ?_
   refine GO.buildS (el := 58) ([]) HS rfl rfl (fun _ => by kernel_rfl) rfl ?_; intro b2 wd3 HS
   refine GO.move rfl rfl rfl ?_
   replace HS := HS.boxRow (T := T_GCrossing) (j := 0) rfl flat_flat (fun _ => ()) ([] : List GCrossing) rfl (bndL rfl)
   refine GO.lenC (t := 5) (m := ([] : List GCrossing).length) (c' := ([] : List GCrossing).length) rfl rfl rfl ?_
   refine GO.appS (T := T_GCrossing) (j := 0) HS rfl (RdIn.drop 1 h_s) flat_flat rfl rfl rfl Try.underlying26 inf58 rfl rfl rfl c7 rfl (fun _ => rfl) ?_; intro A5 c6 wd4 HS
   refine GO.assign rfl rfl rfl ?_
   refine GO.nil ?_
   obtain rfl := Option.some.inj H
   exact G.ret1 _ Try.func112 rfl rfl ⟨_, _, rfl, HS⟩

set_option maxRecDepth 20000 in
set_option maxHeartbeats 4000000 in
theorem impl_copyDiagram.calls {w0 w : World} {L : List HObj} {d_Crossings : List GCrossing} {d_Circles : Int} {A_d_Crossings : Option Addr} {c_d_Crossings : Nat} {r1 : List GCrossing} {r2 : Int} (HS : St w0 w (L)) (h_d_Crossings : RdIn w0 L T_GCrossing A_d_Crossings c_d_Crossings (fun _ => ()) d_Crossings) (H : impl_copyDiagram.f d_Crossings d_Circles = some (r1, r2)) :
    Calls Try.prog 49 #[.agg [.slice A_d_Crossings d_Crossings.length c_d_Crossings, .int .i64 d_Circles].toArray] w (impl_copyDiagram.post w0 L d_Crossings d_Circles A_d_Crossings c_d_Crossings r1 r2) := by
  unfold impl_copyDiagram.f at H
  refine Calls.of_G Try.func49 rfl rfl rfl ?_
  refine G.seq ?_
  refine G.region ?_
  refine GO.box (cs := [.slice A_d_Crossings d_Crossings.length c_d_Crossings, .int .i64 d_Circles]) HS rfl rfl rfl rfl ?_; intro b1 wd2 HS
  refine GO.alloc HS rfl zr28 rfl rfl ?_; intro b3 wd4 HS
  refine GO.nil ?_
  refine G.seq ?_
  obtain ⟨t5, h6, H⟩ := Option.bind_eq_some_iff.1 H
  refine G.region ?_
  refine GO.fld (⟨b1, 0, none⟩) rfl rfl fl28_0 rfl rfl ?_
  refine GO.ldBox (j := 1) HS rfl rfl rfl rfl na26 rfl ?_
  refine GO.fn rfl Try.func112 fok112.1 fok112.2 rfl rfl (slices_Clone_impl_Crossing_impl_Crossing.calls HS (RdIn.drop 2 h_d_Crossings) h6) (fun _ wd9 ⟨A7, c8, h10, HS⟩ => ⟨_, h10, ?_⟩)
  refine GO.fld (⟨b1, 0, none⟩) rfl rfl fl28_0 rfl rfl ?_
  refine GO.stBox (j := 2) (vs := [.slice A7 t5.length c8]) ([.slice A7 t5.length c8, .int .i64 d_Circles]) HS rfl rfl rfl rfl rfl (htN na26 rfl) rfl rfl rfl ?_; intro wd11 HS
  refine GO.nil ?_
  refine G.seq ?_
  refine G.region ?_
  refine GO.ldBoxA (j := 2) ([.slice A7 t5.length c8, .int .i64 d_Circles]) HS rfl rfl rfl rfl ag28 rfl ?_
  refine GO.stBox (j := 1) (vs := [.slice A7 t5.length c8, .int .i64 d_Circles]) ([.slice A7 t5.length c8, .int .i64 d_Circles]) HS rfl rfl rfl rfl rfl (htA ag28) rfl rfl rfl ?_; intro wd12 HS
  refine GO.nil ?_
  obtain ⟨rfl, rfl⟩ := some2 H
  exact G.ret1 _ Try.func49 rfl (Res1.boxA (j := 1) (vs := [.slice A7 t5.length c8, .int .i64 d_Circles]) HS rfl rfl rfl ag28) ⟨_, _, rfl, (HS.pick 3 [0])⟩

set_option maxRecDepth 20000 in
set_option maxHeartbeats 4000000 in
theorem impl_crossingOf.calls {w0 w : World} {L : List HObj} {ends_0 : Int} {ends_1 : Int} {ends_2 : Int} {ends_3 : Int} {sign : Int} {r1 : Int} {r2 : Int} {r3 : Int} {r4 : Int} {r5 : Int} (HS : St w0 w (L)) (H : impl_crossingOf.f ends_0 ends_1 ends_2 ends_3 sign = some (r1, r2, r3, r4, r5)) :
    Calls Try.prog 113 #[.agg [.int .i64 ends_0, .int .i64 ends_1, .int .i64 ends_2, .int .i64 ends_3].toArray, .int .i64 sign] w (impl_crossingOf.post w0 L ends_0 ends_1 ends_2 ends_3 sign r1 r2 r3 r4 r5) := by
  unfold impl_crossingOf.f at H
  refine Calls.of_G Try.func113 rfl rfl rfl ?_
  refine G.seq ?_
  refine G.region ?_
  refine GO.box (cs := [.int .i64 ends_0, .int .i64 ends_1, .int .i64 ends_2, .int .i64 ends_3]) HS rfl rfl rfl rfl ?_; intro b1 wd2 HS
  refine GO.alloc HS rfl zr58 rfl rfl ?_; intro b3 wd4 HS
  refine GO.nil ?_
  refine G.seq ?_
  refine G.region ?_
  refine GO.ixP 0 rfl rfl rfl rfl Try.underlying93 sz2 rfl rfl ?_
  refine GO.ldBox (j := 1) HS rfl rfl rfl rfl na2 rfl ?_
  refine GO.ixP 1 rfl rfl rfl rfl Try.underlying93 sz2 rfl rfl ?_
  refine GO.ldBox (j := 1) HS rfl rfl rfl rfl na2 rfl ?_
  refine GO.ixP 2 rfl rfl rfl rfl Try.underlying93 sz2 rfl rfl ?_
  refine GO.ldBox (j := 1) HS rfl rfl rfl rfl na2 rfl ?_
  refine GO.ixP 3 rfl rfl rfl rfl Try.underlying93 sz2 rfl rfl ?_
  refine GO.ldBox (j := 1) HS rfl rfl rfl rfl na2 rfl ?_
  refine GO.move rfl rfl rfl ?_
  refine GO.buildV (.agg [.int .i64 ends_0, .int .i64 ends_1, .int .i64 ends_2, .int .i64 ends_3, .int .i64 sign].toArray) rfl rfl (fun _ => by kernel_rfl) rfl ?_
  refine GO.stBox (j := 0) (vs := [.int .i64 ends_0, .int .i64 ends_1, .int .i64 ends_2, .int .i64 ends_3, .int .i64 sign]) ([.int .i64 ends_0, .int .i64 ends_1, .int .i64 ends_2, .int .i64 ends_3, .int .i64 sign]) HS rfl rfl rfl rfl rfl (htA ag58) rfl rfl rfl ?_; intro wd5 HS
  refine GO.nil ?_
  obtain ⟨rfl, rfl, rfl, rfl, rfl⟩ := some5 H
  exact G.ret1 _ Try.func113 rfl (Res1.boxA (j := 0) (vs := [.int .i64 ends_0, .int .i64 ends_1, .int .i64 ends_2, .int .i64 ends_3, .int .i64 sign]) HS rfl rfl rfl ag58) ⟨rfl, (HS.pick 2 [])⟩

set_option maxRecDepth 20000 in
set_option maxHeartbeats 4000000 in
theorem impl_Diagram_set.calls {w0 w : World} {L : List HObj} {d_Crossings : List GCrossing} {d_Circles : Int} {e_crossing : Int} {e_position : Int} {arc : Int} {A_d_Crossings : Option Addr} {c_d_Crossings : Nat} {r1 : List GCrossing} (HS : St w0 w (Own T_GCrossing 58 A_d_Crossings c_d_Crossings (fun _ => ()) d_Crossings :: L)) (H : impl_Diagram_set.f d_Crossings d_Circles e_crossing e_position arc = some r1) :
    Calls Try.prog 50 #[.agg [.slice A_d_Crossings d_Crossings.length c_d_Crossings, .int .i64 d_Circles].toArray, .agg [.int .i64 e_crossing, .int .i64 e_position].toArray, .int .i64 arc] w (impl_Diagram_set.post w0 L d_Crossings d_Circles e_crossing e_position arc A_d_Crossings c_d_Crossings r1) := by
  unfold impl_Diagram_set.f at H
  refine Calls.of_G Try.func50 rfl rfl rfl ?_
  refine G.seq ?_
  refine G.region ?_
  refine GO.box (cs := [.slice A_d_Crossings d_Crossings.length c_d_Crossings, .int .i64 d_Circles]) HS rfl rfl rfl rfl ?_; intro b1 wd2 HS
  refine GO.box (cs := [.int .i64 e_crossing, .int .i64 e_position]) HS rfl rfl rfl rfl ?_; intro b3 wd4 HS
  refine GO.nil ?_
  refine G.seq ?_
  obtain ⟨c5, H⟩ := ite_none H
  obtain ⟨e6, h7, H⟩ := bnd_elim H
  refine G.region ?_
  refine GO.fld (⟨b1, 0, none⟩) rfl rfl fl28_0 rfl rfl ?_
  refine GO.ldBox (j := 1) HS rfl rfl rfl rfl na26 rfl ?_
  refine GO.fld (⟨b3, 0, none⟩) rfl rfl fl68_0 rfl rfl ?_
  refine GO.ldBox (j := 0) HS rfl rfl rfl rfl na2 rfl ?_
  refine GO.ix rfl rfl rfl Try.underlying26 sz58 ((RdIn.own (j := 2) rfl) _ HS).2.2.1 c5.1 c5.2 rfl ?_
  refine GO.ldRdA (T := T_GCrossing) (n := e_crossing.toNat) HS (RdIn.own (j := 2) rfl) rfl rfl (getD_eq (ltN c5) h7) ag58 rfl ?_
  refine GO.alloc HS rfl zr58 rfl rfl ?_; intro b8 wd9 HS
  refine GO.stBox (j := 0) (vs := [.int .i64 e6.A, .int .i64 e6.B, .int .i64 e6.C, .int .i64 e6.D, .int .i64 e6.Sign]) ([.int .i64 e6.A, .int .i64 e6.B, .int .i64 e6.C, .int .i64 e6.D, .int .i64 e6.Sign]) HS rfl rfl rfl rfl rfl (htA ag58) rfl rfl rfl ?_; intro wd10 HS
  refine GO.nil ?_
  refine G.seq ?_
  obtain ⟨t11, t12, t13, t14, h15, H⟩ := bind4_elim H
  refine G.region ?_
  refine GO.ldBoxA (j := 0) ([.int .i64 e6.A, .int .i64 e6.B, .int .i64 e6.C, .int .i64 e6.D, .int .i64 e6.Sign]) HS rfl rfl rfl rfl ag58 rfl ?_
  refine GO.fn rfl Try.func75 fok75.1 fok75.2 rfl rfl (impl_Crossing_ends.calls HS  h15) (fun _ wd16 ⟨h17, HS⟩ => ⟨_, h17, ?_⟩)
  refine GO.alloc HS rfl zr93 rfl rfl ?_; intro b18 wd19 HS
  refine GO.stBox (j := 0) (vs := [.int .i64 t11, .int .i64 t12, .int .i64 t13, .int .i64 t14]) ([.int .i64 t11, .int .i64 t12, .int .i64 t13, .int .i64 t14]) HS rfl rfl rfl rfl rfl (htA ag93) rfl rfl rfl ?_; intro wd20 HS
  refine GO.nil ?_
  refine G.seq ?_
  rcases ite_elim H with ⟨c21, H⟩ | ⟨c21, H⟩
  ·
   refine G.region ?_
   refine GO.fld (⟨b3, 1, none⟩) rfl rfl fl68_1 rfl rfl ?_
   refine GO.ldBox (j := 2) HS rfl rfl rfl rfl na2 rfl ?_
   refine GO.move rfl rfl rfl ?_
   refine GO.ixP 0 rfl rfl rfl c21 Try.underlying93 sz2 rfl rfl ?_
   refine GO.stBox (j := 0) (vs := [.int .i64 arc]) ([.int .i64 arc, .int .i64 t12, .int .i64 t13, .int .i64 t14]) HS rfl rfl rfl rfl rfl (htN na2 rfl) rfl rfl rfl ?_; intro wd22 HS
   refine GO.nil ?_
   obtain ⟨t23, t24, t25, t26, t27, h28, H⟩ := bind5_elim H
   refine G.regionAny mixed (by decide) (fun b a w => ∃ (Y1_0 : Value) (Y2_1 : Value) (Y3_2 : Value) (Y4_3 : Value) (Y5_4 : Value) (Y6_5 : Value) (Y7_6 : Value) (Y8_7 : Value) (Y9_8 : Value) (O10_1 : HObj), Sat 29 [(20, Y1_0), (21, Y2_1), (22, Y3_2), (23, Y4_3), (24, Y5_4), (25, Y6_5), (26, Y7_6), (27, Y8_7), (28, Y9_8), (3, .pointer (some ⟨b1, 0, none⟩)), (4, .pointer (some ⟨b3, 0, none⟩)), (6, .pointer (some ⟨b8, 0, none⟩)), (7, .pointer (some ⟨b18, 0, none⟩))] a ∧ St w0 w (Box b18 93 [.int .i64 arc, .int .i64 t12, .int .i64 t13, .int .i64 t14] :: Box b8 58 [.int .i64 e6.A, .int .i64 e6.B, .int .i64 e6.C, .int .i64 e6.D, .int .i64 e6.Sign] :: Box b3 68 [.int .i64 e_crossing, .int .i64 e_position] :: Box b1 28 [.slice A_d_Crossings d_Crossings.length c_d_Crossings, .int .i64 d_Circles] :: O10_1 :: L) ∧ (b 0 = true → Y1_0 = (.pointer (some ⟨b1, 0, none⟩))) ∧ (b 1 = true → Y2_1 = (.slice A_d_Crossings d_Crossings.length c_d_Crossings)) ∧ (b 2 = true → Y3_2 = (.pointer (some ⟨b3, 0, none⟩))) ∧ (b 3 = true → Y4_3 = (.int .i64 e_crossing)) ∧ (b 4 = true → Y5_4 = (.agg [.int .i64 arc, .int .i64 t12, .int .i64 t13, .int .i64 t14].toArray)) ∧ (b 5 = true → Y6_5 = (.pointer (some ⟨b8, 4, none⟩))) ∧ (b 6 = true → Y7_6 = (.int .i64 e6.Sign)) ∧ (b 7 = true → Y8_7 = (.agg [.int .i64 t23, .int .i64 t24, .int .i64 t25, .int .i64 t26, .int .i64 t27].toArray)) ∧ (b 8 = true → Y9_8 = (.pointer (some (ea A_d_Crossings (e_crossing.toNat * 5))))) ∧ (b 9 = false → O10_1 = Own T_GCrossing 58 A_d_Crossings c_d_Crossings (fun _ => ()) d_Crossings) ∧ (b 9 = true → O10_1 = Own T_GCrossing 58 A_d_Crossings c_d_Crossings (fun _ => ()) (d_Crossings.set e_crossing.toNat (⟨t23, t24, t25, t26, t27⟩ : GCrossing)))) ?_ ?_ ?_
   ·
    intro a hs
    obtain ⟨Y1_0, hs⟩ := hs.ext (d := 20) rfl
    obtain ⟨Y2_1, hs⟩ := hs.ext (d := 21) rfl
    obtain ⟨Y3_2, hs⟩ := hs.ext (d := 22) rfl
    obtain ⟨Y4_3, hs⟩ := hs.ext (d := 23) rfl
    obtain ⟨Y5_4, hs⟩ := hs.ext (d := 24) rfl
    obtain ⟨Y6_5, hs⟩ := hs.ext (d := 25) rfl
    obtain ⟨Y7_6, hs⟩ := hs.ext (d := 26) rfl
    obtain ⟨Y8_7, hs⟩ := hs.ext (d := 27) rfl
    obtain ⟨Y9_8, hs⟩ := hs.ext (d := 28) rfl
    exact ⟨Y1_0, Y2_1, Y3_2, Y4_3, Y5_4, Y6_5, Y7_6, Y8_7, Y9_8, Own T_GCrossing 58 A_d_Crossings c_d_Crossings (fun _ => ()) d_Crossings, hs.weak ⟨rfl, rfl, rfl, rfl, rfl, rfl, rfl, rfl, rfl, rfl, rfl, rfl, rfl, trivial⟩, (HS.drew.pick 5 [0, 1, 2, 3, 4]), fun h => Bool.noConfusion h, fun h => Bool.noConfusion h, fun h => Bool.noConfusion h, fun h => Bool.noConfusion h, fun h => Bool.noConfusion h, fun h => Bool.noConfusion h, fun h => Bool.noConfusion h, fun h => Bool.noConfusion h, fun h => Bool.noConfusion h, fun _ => rfl, fun h => Bool.noConfusion h⟩
   ·
    intro j hj b a w hI hb hd hcl
    match j, hj with
    | 0, _ =>
     obtain ⟨Y1_0, Y2_1, Y3_2, Y4_3, Y5_4, Y6_5, Y7_6, Y8_7, Y9_8, O10_1, hs, HS, f0, f1, f2, f3, f4, f5, f6, f7, f8, o1_0, o1_1⟩ := hI
     refine GO.at hs ?_
     refine GO.fld (⟨b1, 0, none⟩) rfl rfl fl28_0 rfl rfl ?_
     refine GO.fin (fun a hs => ?_)
     exact ⟨(.pointer (some ⟨b1, 0, none⟩)), _, _, _, _, _, _, _, _, _, hs.weak ⟨rfl, rfl, rfl, rfl, rfl, rfl, rfl, rfl, rfl, rfl, rfl, rfl, rfl, trivial⟩, HS.pick 5 [0, 1, 2, 3, 4], fun _ => rfl, f1, f2, f3, f4, f5, f6, f7, f8, o1_0, o1_1⟩
    | 1, _ =>
     obtain ⟨Y1_0, Y2_1, Y3_2, Y4_3, Y5_4, Y6_5, Y7_6, Y8_7, Y9_8, O10_1, hs, HS, f0, f1, f2, f3, f4, f5, f6, f7, f8, o1_0, o1_1⟩ := hI
     have h0 : b 0 = true := hd 0 (by decide)
     obtain rfl := f0 h0
     refine GO.at hs ?_
     refine GO.ldBox (j := 3) HS rfl rfl rfl rfl na26 rfl ?_
     refine GO.fin (fun a hs => ?_)
     exact ⟨_, (.slice A_d_Crossings d_Crossings.length c_d_Crossings), _, _, _, _, _, _, _, _, hs.weak ⟨rfl, rfl, rfl, rfl, rfl, rfl, rfl, rfl, rfl, rfl, rfl, rfl, rfl, trivial⟩, HS.pick 5 [0, 1, 2, 3, 4], f0, fun _ => rfl, f2, f3, f4, f5, f6, f7, f8, o1_0, o1_1⟩
    | 2, _ =>
     obtain ⟨Y1_0, Y2_1, Y3_2, Y4_3, Y5_4, Y6_5, Y7_6, Y8_7, Y9_8, O10_1, hs, HS, f0, f1, f2, f3, f4, f5, f6, f7, f8, o1_0, o1_1⟩ := hI
     refine GO.at hs ?_
     refine GO.fld (⟨b3, 0, none⟩) rfl rfl fl68_0 rfl rfl ?_
     refine GO.fin (fun a hs => ?_)
     exact ⟨_, _, (.pointer (some ⟨b3, 0, none⟩)), _, _, _, _, _, _, _, hs.weak ⟨rfl, rfl, rfl, rfl, rfl, rfl, rfl, rfl, rfl, rfl, rfl, rfl, rfl, trivial⟩, HS.pick 5 [0, 1, 2, 3, 4], f0, f1, fun _ => rfl, f3, f4, f5, f6, f7, f8, o1_0, o1_1⟩
    | 3, _ =>
     obtain ⟨Y1_0, Y2_1, Y3_2, Y4_3, Y5_4, Y6_5, Y7_6, Y8_7, Y9_8, O10_1, hs, HS, f0, f1, f2, f3, f4, f5, f6, f7, f8, o1_0, o1_1⟩ := hI
     have h2 : b 2 = true := hd 2 (by decide)
     obtain rfl := f2 h2
     refine GO.at hs ?_
     refine GO.ldBox (j := 2) HS rfl rfl rfl rfl na2 rfl ?_
     refine GO.fin (fun a hs => ?_)
     exact ⟨_, _, _, (.int .i64 e_crossing), _, _, _, _, _, _, hs.weak ⟨rfl, rfl, rfl, rfl, rfl, rfl, rfl, rfl, rfl, rfl, rfl, rfl, rfl, trivial⟩, HS.pick 5 [0, 1, 2, 3, 4], f0, f1, f2, fun _ => rfl, f4, f5, f6, f7, f8, o1_0, o1_1⟩
    | 4, _ =>
     obtain ⟨Y1_0, Y2_1, Y3_2, Y4_3, Y5_4, Y6_5, Y7_6, Y8_7, Y9_8, O10_1, hs, HS, f0, f1, f2, f3, f4, f5, f6, f7, f8, o1_0, o1_1⟩ := hI
     refine GO.at hs ?_
     refine GO.ldBoxA (j := 0) ([.int .i64 arc, .int .i64 t12, .int .i64 t13, .int .i64 t14]) HS rfl rfl rfl rfl ag93 rfl ?_
     refine GO.fin (fun a hs => ?_)
     exact ⟨_, _, _, _, (.agg [.int .i64 arc, .int .i64 t12, .int .i64 t13, .int .i64 t14].toArray), _, _, _, _, _, hs.weak ⟨rfl, rfl, rfl, rfl, rfl, rfl, rfl, rfl, rfl, rfl, rfl, rfl, rfl, trivial⟩, HS.pick 5 [0, 1, 2, 3, 4], f0, f1, f2, f3, fun _ => rfl, f5, f6, f7, f8, o1_0, o1_1⟩
    | 5, _ =>
     obtain ⟨Y1_0, Y2_1, Y3_2, Y4_3, Y5_4, Y6_5, Y7_6, Y8_7, Y9_8, O10_1, hs, HS, f0, f1, f2, f3, f4, f5, f6, f7, f8, o1_0, o1_1⟩ := hI
     refine GO.at hs ?_
     refine GO.fld (⟨b8, 4, none⟩) rfl rfl fl58_4 rfl rfl ?_
     refine GO.fin (fun a hs => ?_)
     exact ⟨_, _, _, _, _, (.pointer (some ⟨b8, 4, none⟩)), _, _, _, _, hs.weak ⟨rfl, rfl, rfl, rfl, rfl, rfl, rfl, rfl, rfl, rfl, rfl, rfl, rfl, trivial⟩, HS.pick 5 [0, 1, 2, 3, 4], f0, f1, f2, f3, f4, fun _ => rfl, f6, f7, f8, o1_0, o1_1⟩
    | 6, _ =>
     obtain ⟨Y1_0, Y2_1, Y3_2, Y4_3, Y5_4, Y6_5, Y7_6, Y8_7, Y9_8, O10_1, hs, HS, f0, f1, f2, f3, f4, f5, f6, f7, f8, o1_0, o1_1⟩ := hI
     have h5 : b 5 = true := hd 5 (by decide)
     obtain rfl := f5 h5
     refine GO.at hs ?_
     refine GO.ldBox (j := 1) HS rfl rfl rfl rfl na2 rfl ?_
     refine GO.fin (fun a hs => ?_)
     exact ⟨_, _, _, _, _, _, (.int .i64 e6.Sign), _, _, _, hs.weak ⟨rfl, rfl, rfl, rfl, rfl, rfl, rfl, rfl, rfl, rfl, rfl, rfl, rfl, trivial⟩, HS.pick 5 [0, 1, 2, 3, 4], f0, f1, f2, f3, f4, f5, fun _ => rfl, f7, f8, o1_0, o1_1⟩
    | 7, _ =>
     obtain ⟨Y1_0, Y2_1, Y3_2, Y4_3, Y5_4, Y6_5, Y7_6, Y8_7, Y9_8, O10_1, hs, HS, f0, f1, f2, f3, f4, f5, f6, f7, f8, o1_0, o1_1⟩ := hI
     have h4 : b 4 = true := hd 4 (by decide)
     obtain rfl := f4 h4
     have h6 : b 6 = true := hd 6 (by decide)
     obtain rfl := f6 h6
     refine GO.at hs ?_
     refine GO.fn rfl Try.func113 fok113.1 fok113.2 rfl rfl (impl_crossingOf.calls HS  h28) (fun _ wd29 ⟨h30, HS⟩ => ⟨_, h30, ?_⟩)
     refine GO.fin (fun a hs => ?_)
     exact ⟨_, _, _, _, _, _, _, (.agg [.int .i64 t23, .int .i64 t24, .int .i64 t25, .int .i64 t26, .int .i64 t27].toArray), _, _, hs.weak ⟨rfl, rfl, rfl, rfl, rfl, rfl, rfl, rfl, rfl, rfl, rfl, rfl, rfl, trivial⟩, HS.pick 5 [0, 1, 2, 3, 4], f0, f1, f2, f3, f4, f5, f6, fun _ => rfl, f8, o1_0, o1_1⟩
    | 8, _ =>
     obtain ⟨Y1_0, Y2_1, Y3_2, Y4_3, Y5_4, Y6_5, Y7_6, Y8_7, Y9_8, O10_1, hs, HS, f0, f1, f2, f3, f4, f5, f6, f7, f8, o1_0, o1_1⟩ := hI
     have h1 : b 1 = true := hd 1 (by decide)
     obtain rfl := f1 h1
     have h3 : b 3 = true := hd 3 (by decide)
     obtain rfl := f3 h3
     have d9 : b 9 = false := bfalse (fun hh => hcl 9 (by decide) (hh) 8 (by decide)) hb
     obtain rfl := o1_0 d9
     refine GO.at hs ?_
     refine GO.ix rfl rfl rfl Try.underlying26 sz58 ((RdIn.own (j := 4) rfl) _ HS).2.2.1 c5.1 c5.2 rfl ?_
     refine GO.fin (fun a hs => ?_)
     exact ⟨_, _, _, _, _, _, _, _, (.pointer (some (ea A_d_Crossings (e_crossing.toNat * 5)))), _, hs.weak ⟨rfl, rfl, rfl, rfl, rfl, rfl, rfl, rfl, rfl, rfl, rfl, rfl, rfl, trivial⟩, HS.pick 5 [0, 1, 2, 3, 4], f0, f1, f2, f3, f4, f5, f6, f7, fun _ => rfl, o1_0, o1_1⟩
    | 9, _ =>
     obtain ⟨Y1_0, Y2_1, Y3_2, Y4_3, Y5_4, Y6_5, Y7_6, Y8_7, Y9_8, O10_1, hs, HS, f0, f1, f2, f3, f4, f5, f6, f7, f8, o1_0, o1_1⟩ := hI
     have h7 : b 7 = true := hd 7 (by decide)
     obtain rfl := f7 h7
     have h8 : b 8 = true := hd 8 (by decide)
     obtain rfl := f8 h8
     obtain rfl := o1_0 hb
     refine GO.at hs ?_
     refine GO.stRow (T := T_GCrossing) (j := 4) (n := e_crossing.toNat) (o := 0) (vs := [.int .i64 t23, .int .i64 t24, .int .i64 t25, .int .i64 t26, .int .i64 t27]) (⟨t23, t24, t25, t26, t27⟩ : GCrossing) HS rfl flat_flat rfl rfl rfl rfl (htA ag58) rfl (getD_some (d := z_GCrossing) (ltN c5)) rfl rfl ?_; intro wd31 HS
     refine GO.fin (fun a hs => ?_)
     exact ⟨_, _, _, _, _, _, _, _, _, Own T_GCrossing 58 A_d_Crossings c_d_Crossings (fun _ => ()) (d_Crossings.set e_crossing.toNat (⟨t23, t24, t25, t26, t27⟩ : GCrossing)), hs.weak ⟨rfl, rfl, rfl, rfl, rfl, rfl, rfl, rfl, rfl, rfl, rfl, rfl, rfl, trivial⟩, HS.pick 5 [0, 1, 2, 3, 4], f0, f1, f2, f3, f4, f5, f6, f7, f8, fun h => Bool.noConfusion h, fun _ => rfl⟩
    | k + 10, hj => exact absurd hj (Nat.not_lt.2 (Nat.le_add_left 10 k))
   ·
    intro b a w hall hI
    obtain ⟨Y1_0, Y2_1, Y3_2, Y4_3, Y5_4, Y6_5, Y7_6, Y8_7, Y9_8, O10_1, hs, HS, f0, f1, f2, f3, f4, f5, f6, f7, f8, o1_0, o1_1⟩ := hI
    obtain rfl := f0 (hall 0 (by decide))
    obtain rfl := f1 (hall 1 (by decide))
    obtain rfl := f2 (hall 2 (by decide))
    obtain rfl := f3 (hall 3 (by decide))
    obtain rfl := f4 (hall 4 (by decide))
    obtain rfl := f5 (hall 5 (by decide))
    obtain rfl := f6 (hall 6 (by decide))
    obtain rfl := f7 (hall 7 (by decide))
    obtain rfl := f8 (hall 8 (by decide))
    obtain rfl := o1_1 (hall 9 (by decide))
    refine G.at hs ?_
    replace HS := HS.boxEq (j := 3) (cs' := [.slice A_d_Crossings (d_Crossings.set e_crossing.toNat (⟨t23, t24, t25, t26, t27⟩ : GCrossing)).length c_d_Crossings, .int .i64 d_Circles]) rfl (by simp only [List.length_set] <;> rfl)
    obtain rfl := Option.some.inj H
    exact G.end0 Try.func50 rfl ⟨rfl, (HS.pick 5 [4])⟩
  ·
   rcases ite_elim H with ⟨c32, H⟩ | ⟨c32, H⟩
   ·
    refine G.region ?_
    refine GO.fld (⟨b3, 1, none⟩) rfl rfl fl68_1 rfl rfl ?_
    refine GO.ldBox (j := 2) HS rfl rfl rfl rfl na2 rfl ?_
    refine GO.move rfl rfl rfl ?_
    refine GO.ixP 1 rfl rfl rfl c32 Try.underlying93 sz2 rfl rfl ?_
    refine GO.stBox (j := 0) (vs := [.int .i64 arc]) ([.int .i64 t11, .int .i64 arc, .int .i64 t13, .int .i64 t14]) HS rfl rfl rfl rfl rfl (htN na2 rfl) rfl rfl rfl ?_; intro wd33 HS
    refine GO.nil ?_
    obtain ⟨t34, t35, t36, t37, t38, h39, H⟩ := bind5_elim H
    refine G.regionAny mixed (by decide) (fun b a w => ∃ (Y11_0 : Value) (Y12_1 : Value) (Y13_2 : Value) (Y14_3 : Value) (Y15_4 : Value) (Y16_5 : Value) (Y17_6 : Value) (Y18_7 : Value) (Y19_8 : Value) (O20_1 : HObj), Sat 29 [(20, Y11_0), (21, Y12_1), (22, Y13_2), (23, Y14_3), (24, Y15_4), (25, Y16_5), (26, Y17_6), (27, Y18_7), (28, Y19_8), (3, .pointer (some ⟨b1, 0, none⟩)), (4, .pointer (some ⟨b3, 0, none⟩)), (6, .pointer (some ⟨b8, 0, none⟩)), (7, .pointer (some ⟨b18, 0, none⟩))] a ∧ St w0 w (Box b18 93 [.int .i64 t11, .int .i64 arc, .int .i64 t13, .int .i64 t14] :: Box b8 58 [.int .i64 e6.A, .int .i64 e6.B, .int .i64 e6.C, .int .i64 e6.D, .int .i64 e6.Sign] :: Box b3 68 [.int .i64 e_crossing, .int .i64 e_position] :: Box b1 28 [.slice A_d_Crossings d_Crossings.length c_d_Crossings, .int .i64 d_Circles] :: O20_1 :: L) ∧ (b 0 = true → Y11_0 = (.pointer (some ⟨b1, 0, none⟩))) ∧ (b 1 = true → Y12_1 = (.slice A_d_Crossings d_Crossings.length c_d_Crossings)) ∧ (b 2 = true → Y13_2 = (.pointer (some ⟨b3, 0, none⟩))) ∧ (b 3 = true → Y14_3 = (.int .i64 e_crossing)) ∧ (b 4 = true → Y15_4 = (.agg [.int .i64 t11, .int .i64 arc, .int .i64 t13, .int .i64 t14].toArray)) ∧ (b 5 = true → Y16_5 = (.pointer (some ⟨b8, 4, none⟩))) ∧ (b 6 = true → Y17_6 = (.int .i64 e6.Sign)) ∧ (b 7 = true → Y18_7 = (.agg [.int .i64 t34, .int .i64 t35, .int .i64 t36, .int .i64 t37, .int .i64 t38].toArray)) ∧ (b 8 = true → Y19_8 = (.pointer (some (ea A_d_Crossings (e_crossing.toNat * 5))))) ∧ (b 9 = false → O20_1 = Own T_GCrossing 58 A_d_Crossings c_d_Crossings (fun _ => ()) d_Crossings) ∧ (b 9 = true → O20_1 = Own T_GCrossing 58 A_d_Crossings c_d_Crossings (fun _ => ()) (d_Crossings.set e_crossing.toNat (⟨t34, t35, t36, t37, t38⟩ : GCrossing)))) ?_ ?_ ?_
    ·
     intro a hs
     obtain ⟨Y11_0, hs⟩ := hs.ext (d := 20) rfl
     obtain ⟨Y12_1, hs⟩ := hs.ext (d := 21) rfl
     obtain ⟨Y13_2, hs⟩ := hs.ext (d := 22) rfl
     obtain ⟨Y14_3, hs⟩ := hs.ext (d := 23) rfl
     obtain ⟨Y15_4, hs⟩ := hs.ext (d := 24) rfl
     obtain ⟨Y16_5, hs⟩ := hs.ext (d := 25) rfl
     obtain ⟨Y17_6, hs⟩ := hs.ext (d := 26) rfl
     obtain ⟨Y18_7, hs⟩ := hs.ext (d := 27) rfl
     obtain ⟨Y19_8, hs⟩ := hs.ext (d := 28) rfl
     exact ⟨Y11_0, Y12_1, Y13_2, Y14_3, Y15_4, Y16_5, Y17_6, Y18_7, Y19_8, Own T_GCrossing 58 A_d_Crossings c_d_Crossings (fun _ => ()) d_Crossings, hs.weak ⟨rfl, rfl, rfl, rfl, rfl, rfl, rfl, rfl, rfl, rfl, rfl, rfl, rfl, trivial⟩, (HS.drew.pick 5 [0, 1, 2, 3, 4]), fun h => Bool.noConfusion h, fun h => Bool.noConfusion h, fun h => Bool.noConfusion h, fun h => Bool.noConfusion h, fun h => Bool.noConfusion h, fun h => Bool.noConfusion h, fun h => Bool.noConfusion h, fun h => Bool.noConfusion h, fun h => Bool.noConfusion h, fun _ => rfl, fun h => Bool.noConfusion h⟩
    ·
     intro j hj b a w hI hb hd hcl
     match j, hj with
     | 0, _ =>
      obtain ⟨Y11_0, Y12_1, Y13_2, Y14_3, Y15_4, Y16_5, Y17_6, Y18_7, Y19_8, O20_1, hs, HS, f0, f1, f2, f3, f4, f5, f6, f7, f8, o1_0, o1_1⟩ := hI
      refine GO.at hs ?_
      refine GO.fld (⟨b1, 0, none⟩) rfl rfl fl28_0 rfl rfl ?_
      refine GO.fin (fun a hs => ?_)
      exact ⟨(.pointer (some ⟨b1, 0, none⟩)), _, _, _, _, _, _, _, _, _, hs.weak ⟨rfl, rfl, rfl, rfl, rfl, rfl, rfl, rfl, rfl, rfl, rfl, rfl, rfl, trivial⟩, HS.pick 5 [0, 1, 2, 3, 4], fun _ => rfl, f1, f2, f3, f4, f5, f6, f7, f8, o1_0, o1_1⟩
     | 1, _ =>
      obtain ⟨Y11_0, Y12_1, Y13_2, Y14_3, Y15_4, Y16_5, Y17_6, Y18_7, Y19_8, O20_1, hs, HS, f0, f1, f2, f3, f4, f5, f6, f7, f8, o1_0, o1_1⟩ := hI
      have h0 : b 0 = true := hd 0 (by decide)
      obtain rfl := f0 h0
      refine GO.at hs ?_
      refine GO.ldBox (j := 3) HS rfl rfl rfl rfl na26 rfl ?_
      refine GO.fin (fun a hs => ?_)
      exact ⟨_, (.slice A_d_Crossings d_Crossings.length c_d_Crossings), _, _, _, _, _, _, _, _, hs.weak ⟨rfl, rfl, rfl, rfl, rfl, rfl, rfl, rfl, rfl, rfl, rfl, rfl, rfl, trivial⟩, HS.pick 5 [0, 1, 2, 3, 4], f0, fun _ => rfl, f2, f3, f4, f5, f6, f7, f8, o1_0, o1_1⟩
     | 2, _ =>
      obtain ⟨Y11_0, Y12_1, Y13_2, Y14_3, Y15_4, Y16_5, Y17_6, Y18_7, Y19_8, O20_1, hs, HS, f0, f1, f2, f3, f4, f5, f6, f7, f8, o1_0, o1_1⟩ := hI
      refine GO.at hs ?_
      refine GO.fld (⟨b3, 0, none⟩) rfl rfl fl68_0 rfl rfl ?_
      refine GO.fin (fun a hs => ?_)
      exact ⟨_, _, (.pointer (some ⟨b3, 0, none⟩)), _, _, _, _, _, _, _, hs.weak ⟨rfl, rfl, rfl, rfl, rfl, rfl, rfl, rfl, rfl, rfl, rfl, rfl, rfl, trivial⟩, HS.pick 5 [0, 1, 2, 3, 4], f0, f1, fun _ => rfl, f3, f4, f5, f6, f7, f8, o1_0, o1_1⟩
     | 3, _ =>
      obtain ⟨Y11_0, Y12_1, Y13_2, Y14_3, Y15_4, Y16_5, Y17_6, Y18_7, Y19_8, O20_1, hs, HS, f0, f1, f2, f3, f4, f5, f6, f7, f8, o1_0, o1_1⟩ := hI
      have h2 : b 2 = true := hd 2 (by decide)
      obtain rfl := f2 h2
      refine GO.at hs ?_
      refine GO.ldBox (j := 2) HS rfl rfl rfl rfl na2 rfl ?_
      refine GO.fin (fun a hs => ?_)
      exact ⟨_, _, _, (.int .i64 e_crossing), _, _, _, _, _, _, hs.weak ⟨rfl, rfl, rfl, rfl, rfl, rfl, rfl, rfl, rfl, rfl, rfl, rfl, rfl, trivial⟩, HS.pick 5 [0, 1, 2, 3, 4], f0, f1, f2, fun _ => rfl, f4, f5, f6, f7, f8, o1_0, o1_1⟩
     | 4, _ =>
      obtain ⟨Y11_0, Y12_1, Y13_2, Y14_3, Y15_4, Y16_5, Y17_6, Y18_7, Y19_8, O20_1, hs, HS, f0, f1, f2, f3, f4, f5, f6, f7, f8, o1_0, o1_1⟩ := hI
      refine GO.at hs ?_
      refine GO.ldBoxA (j := 0) ([.int .i64 t11, .int .i64 arc, .int .i64 t13, .int .i64 t14]) HS rfl rfl rfl rfl ag93 rfl ?_
      refine GO.fin (fun a hs => ?_)
      exact ⟨_, _, _, _, (.agg [.int .i64 t11, .int .i64 arc, .int .i64 t13, .int .i64 t14].toArray), _, _, _, _, _, hs.weak ⟨rfl, rfl, rfl, rfl, rfl, rfl, rfl, rfl, rfl, rfl, rfl, rfl, rfl, trivial⟩, HS.pick 5 [0, 1, 2, 3, 4], f0, f1, f2, f3, fun _ => rfl, f5, f6, f7, f8, o1_0, o1_1⟩
     | 5, _ =>
      obtain ⟨Y11_0, Y12_1, Y13_2, Y14_3, Y15_4, Y16_5, Y17_6, Y18_7, Y19_8, O20_1, hs, HS, f0, f1, f2, f3, f4, f5, f6, f7, f8, o1_0, o1_1⟩ := hI
      refine GO.at hs ?_
      refine GO.fld (⟨b8, 4, none⟩) rfl rfl fl58_4 rfl rfl ?_
      refine GO.fin (fun a hs => ?_)
      exact ⟨_, _, _, _, _, (.pointer (some ⟨b8, 4, none⟩)), _, _, _, _, hs.weak ⟨rfl, rfl, rfl, rfl, rfl, rfl, rfl, rfl, rfl, rfl, rfl, rfl, rfl, trivial⟩, HS.pick 5 [0, 1, 2, 3, 4], f0, f1, f2, f3, f4, fun _ => rfl, f6, f7, f8, o1_0, o1_1⟩
     | 6, _ =>
      obtain ⟨Y11_0, Y12_1, Y13_2, Y14_3, Y15_4, Y16_5, Y17_6, Y18_7, Y19_8, O20_1, hs, HS, f0, f1, f2, f3, f4, f5, f6, f7, f8, o1_0, o1_1⟩ := hI
      have h5 : b 5 = true := hd 5 (by decide)
      obtain rfl := f5 h5
      refine GO.at hs ?_
      refine GO.ldBox (j := 1) HS rfl rfl rfl rfl na2 rfl ?_
      refine GO.fin (fun a hs => ?_)
      exact ⟨_, _, _, _, _, _, (.int .i64 e6.Sign), _, _, _, hs.weak ⟨rfl, rfl, rfl, rfl, rfl, rfl, rfl, rfl, rfl, rfl, rfl, rfl, rfl, trivial⟩, HS.pick 5 [0, 1, 2, 3, 4], f0, f1, f2, f3, f4, f5, fun _ => rfl, f7, f8, o1_0, o1_1⟩
     | 7, _ =>
      obtain ⟨Y11_0, Y12_1, Y13_2, Y14_3, Y15_4, Y16_5, Y17_6, Y18_7, Y19_8, O20_1, hs, HS, f0, f1, f2, f3, f4, f5, f6, f7, f8, o1_0, o1_1⟩ := hI
      have h4 : b 4 = true := hd 4 (by decide)
      obtain rfl := f4 h4
      have h6 : b 6 = true := hd 6 (by decide)
      obtain rfl := f6 h6
      refine GO.at hs ?_
      refine GO.fn rfl Try.func113 fok113.1 fok113.2 rfl rfl (impl_crossingOf.calls HS  h39) (fun _ wd40 ⟨h41, HS⟩ => ⟨_, h41, ?_⟩)
      refine GO.fin (fun a hs => ?_)
      exact ⟨_, _, _, _, _, _, _, (.agg [.int .i64 t34, .int .i64 t35, .int .i64 t36, .int .i64 t37, .int .i64 t38].toArray), _, _, hs.weak ⟨rfl, rfl, rfl, rfl, rfl, rfl, rfl, rfl, rfl, rfl, rfl, rfl, rfl, trivial⟩, HS.pick 5 [0, 1, 2, 3, 4], f0, f1, f2, f3, f4, f5, f6, fun _ => rfl, f8, o1_0, o1_1⟩
     | 8, _ =>
      obtain ⟨Y11_0, Y12_1, Y13_2, Y14_3, Y15_4, Y16_5, Y17_6, Y18_7, Y19_8, O20_1, hs, HS, f0, f1, f2, f3, f4, f5, f6, f7, f8, o1_0, o1_1⟩ := hI
      have h1 : b 1 = true := hd 1 (by decide)
      obtain rfl := f1 h1
      have h3 : b 3 = true := hd 3 (by decide)
      obtain rfl := f3 h3
      have d9 : b 9 = false := bfalse (fun hh => hcl 9 (by decide) (hh) 8 (by decide)) hb
      obtain rfl := o1_0 d9
      refine GO.at hs ?_
      refine GO.ix rfl rfl rfl Try.underlying26 sz58 ((RdIn.own (j := 4) rfl) _ HS).2.2.1 c5.1 c5.2 rfl ?_
      refine GO.fin (fun a hs => ?_)
      exact ⟨_, _, _, _, _, _, _, _, (.pointer (some (ea A_d_Crossings (e_crossing.toNat * 5)))), _, hs.weak ⟨rfl, rfl, rfl, rfl, rfl, rfl, rfl, rfl, rfl, rfl, rfl, rfl, rfl, trivial⟩, HS.pick 5 [0, 1, 2, 3, 4], f0, f1, f2, f3, f4, f5, f6, f7, fun _ => rfl, o1_0, o1_1⟩
     | 9, _ =>
      obtain ⟨Y11_0, Y12_1, Y13_2, Y14_3, Y15_4, Y16_5, Y17_6, Y18_7, Y19_8, O20_1, hs, HS, f0, f1, f2, f3, f4, f5, f6, f7, f8, o1_0, o1_1⟩ := hI
      have h7 : b 7 = true := hd 7 (by decide)
      obtain rfl := f7 h7
      have h8 : b 8 = true := hd 8 (by decide)
      obtain rfl := f8 h8
      obtain rfl := o1_0 hb
      refine GO.at hs ?_
      refine GO.stRow (T := T_GCrossing) (j := 4) (n := e_crossing.toNat) (o := 0) (vs := [.int .i64 t34, .int .i64 t35, .int .i64 t36, .int .i64 t37, .int .i64 t38]) (⟨t34, t35, t36, t37, t38⟩ : GCrossing) HS rfl flat_flat rfl rfl rfl rfl (htA ag58) rfl (getD_some (d := z_GCrossing) (ltN c5)) rfl rfl ?_; intro wd42 HS
      refine GO.fin (fun a hs => ?_)
      exact ⟨_, _, _, _, _, _, _, _, _, Own T_GCrossing 58 A_d_Crossings c_d_Crossings (fun _ => ()) (d_Crossings.set e_crossing.toNat (⟨t34, t35, t36, t37, t38⟩ : GCrossing)), hs.weak ⟨rfl, rfl, rfl, rfl, rfl, rfl, rfl, rfl, rfl, rfl, rfl, rfl, rfl, trivial⟩, HS.pick 5 [0, 1, 2, 3, 4], f0, f1, f2, f3, f4, f5, f6, f7, f8, fun h => Bool.noConfusion h, fun _ => rfl⟩
     | k + 10, hj => exact absurd hj (Nat.not_lt.2 (Nat.le_add_left 10 k))
    ·
     intro b a w hall hI
     obtain ⟨Y11_0, Y12_1, Y13_2, Y14_3, Y15_4, Y16_5, Y17_6, Y18_7, Y19_8, O20_1, hs, HS, f0, f1, f2, f3, f4, f5, f6, f7, f8, o1_0, o1_1⟩ := hI
     obtain rfl := f0 (hall 0 (by decide))
     obtain rfl := f1 (hall 1 (by decide))
     obtain rfl := f2 (hall 2 (by decide))
     obtain rfl := f3 (hall 3 (by decide))
     obtain rfl := f4 (hall 4 (by decide))
     obtain rfl := f5 (hall 5 (by decide))
     obtain rfl := f6 (hall 6 (by decide))
     obtain rfl := f7 (hall 7 (by decide))
     obtain rfl := f8 (hall 8 (by decide))
     obtain rfl := o1_1 (hall 9 (by decide))
     refine G.at hs ?_
     replace HS := HS.boxEq (j := 3) (cs' := [.slice A_d_Crossings (d_Crossings.set e_crossing.toNat (⟨t34, t35, t36, t37, t38⟩ : GCrossing)).length c_d_Crossings, .int .i64 d_Circles]) rfl (by simp only [List.length_set] <;> rfl)
     obtain rfl := Option.some.inj H
     exact G.end0 Try.func50 rfl ⟨rfl, (HS.pick 5 [4])⟩
   ·
    rcases ite_elim H with ⟨c43, H⟩ | ⟨c43, H⟩
    ·
     refine G.region ?_
     refine GO.fld (⟨b3, 1, none⟩) rfl rfl fl68_1 rfl rfl ?_
     refine GO.ldBox (j := 2) HS rfl rfl rfl rfl na2 rfl ?_
     refine GO.move rfl rfl rfl ?_
     refine GO.ixP 2 rfl rfl rfl c43 Try.underlying93 sz2 rfl rfl ?_
     refine GO.stBox (j := 0) (vs := [.int .i64 arc]) ([.int .i64 t11, .int .i64 t12, .int .i64 arc, .int .i64 t14]) HS rfl rfl rfl rfl rfl (htN na2 rfl) rfl rfl rfl ?_; intro wd44 HS
     refine GO.nil ?_
     obtain ⟨t45, t46, t47, t48, t49, h50, H⟩ := bind5_elim H
     refine G.regionAny mixed (by decide) (fun b a w => ∃ (Y21_0 : Value) (Y22_1 : Value) (Y23_2 : Value) (Y24_3 : Value) (Y25_4 : Value) (Y26_5 : Value) (Y27_6 : Value) (Y28_7 : Value) (Y29_8 : Value) (O30_1 : HObj), Sat 29 [(20, Y21_0), (21, Y22_1), (22, Y23_2), (23, Y24_3), (24, Y25_4), (25, Y26_5), (26, Y27_6), (27, Y28_7), (28, Y29_8), (3, .pointer (some ⟨b1, 0, none⟩)), (4, .pointer (some ⟨b3, 0, none⟩)), (6, .pointer (some ⟨b8, 0, none⟩)), (7, .pointer (some ⟨b18, 0, none⟩))] a ∧ St w0 w (Box b18 93 [.int .i64 t11, .int .i64 t12, .int .i64 arc, .int .i64 t14] :: Box b8 58 [.int .i64 e6.A, .int .i64 e6.B, .int .i64 e6.C, .int .i64 e6.D, .int .i64 e6.Sign] :: Box b3 68 [.int .i64 e_crossing, .int .i64 e_position] :: Box b1 28 [.slice A_d_Crossings d_Crossings.length c_d_Crossings, .int .i64 d_Circles] :: O30_1 :: L) ∧ (b 0 = true → Y21_0 = (.pointer (some ⟨b1, 0, none⟩))) ∧ (b 1 = true → Y22_1 = (.slice A_d_Crossings d_Crossings.length c_d_Crossings)) ∧ (b 2 = true → Y23_2 = (.pointer (some ⟨b3, 0, none⟩))) ∧ (b 3 = true → Y24_3 = (.int .i64 e_crossing)) ∧ (b 4 = true → Y25_4 = (.agg [.int .i64 t11, .int .i64 t12, .int .i64 arc, .int .i64 t14].toArray)) ∧ (b 5 = true → Y26_5 = (.pointer (some ⟨b8, 4, none⟩))) ∧ (b 6 = true → Y27_6 = (.int .i64 e6.Sign)) ∧ (b 7 = true → Y28_7 = (.agg [.int .i64 t45, .int .i64 t46, .int .i64 t47, .int .i64 t48, .int .i64 t49].toArray)) ∧ (b 8 = true → Y29_8 = (.pointer (some (ea A_d_Crossings (e_crossing.toNat * 5))))) ∧ (b 9 = false → O30_1 = Own T_GCrossing 58 A_d_Crossings c_d_Crossings (fun _ => ()) d_Crossings) ∧ (b 9 = true → O30_1 = Own T_GCrossing 58 A_d_Crossings c_d_Crossings (fun _ => ()) (d_Crossings.set e_crossing.toNat (⟨t45, t46, t47, t48, t49⟩ : GCrossing)))) ?_ ?_ ?_
     ·
      intro a hs
      obtain ⟨Y21_0, hs⟩ := hs.ext (d := 20) rfl
      obtain ⟨Y22_1, hs⟩ := hs.ext (d := 21) rfl
      obtain ⟨Y23_2, hs⟩ := hs.ext (d := 22) rfl
      obtain ⟨Y24_3, hs⟩ := hs.ext (d := 23) rfl
      obtain ⟨Y25_4, hs⟩ := hs.ext (d := 24) rfl
      obtain ⟨Y26_5, hs⟩ := hs.ext (d := 25) rfl
      obtain ⟨Y27_6, hs⟩ := hs.ext (d := 26) rfl
      obtain ⟨Y28_7, hs⟩ := hs.ext (d := 27) rfl
      obtain ⟨Y29_8, hs⟩ := hs.ext (d := 28) rfl
      exact ⟨Y21_0, Y22_1, Y23_2, Y24_3, Y25_4, Y26_5, Y27_6, Y28_7, Y29_8, Own T_GCrossing 58 A_d_Crossings c_d_Crossings (fun _ => ()) d_Crossings, hs.weak ⟨rfl, rfl, rfl, rfl, rfl, rfl, rfl, rfl, rfl, rfl, rfl, rfl, rfl, trivial⟩, (HS.drew.pick 5 [0, 1, 2, 3, 4]), fun h => Bool.noConfusion h, fun h => Bool.noConfusion h, fun h => Bool.noConfusion h, fun h => Bool.noConfusion h, fun h => Bool.noConfusion h, fun h => Bool.noConfusion h, fun h => Bool.noConfusion h, fun h => Bool.noConfusion h, fun h => Bool.noConfusion h, fun _ => rfl, fun h => Bool.noConfusion h⟩
     ·
      intro j hj b a w hI hb hd hcl
      match j, hj with
      | 0, _ =>
       obtain ⟨Y21_0, Y22_1, Y23_2, Y24_3, Y25_4, Y26_5, Y27_6, Y28_7, Y29_8, O30_1, hs, HS, f0, f1, f2, f3, f4, f5, f6, f7, f8, o1_0, o1_1⟩ := hI
       refine GO.at hs ?_
       refine GO.fld (⟨b1, 0, none⟩) rfl rfl fl28_0 rfl rfl ?_
       refine GO.fin (fun a hs => ?_)
       exact ⟨(.pointer (some ⟨b1, 0, none⟩)), _, _, _, _, _, _, _, _, _, hs.weak ⟨rfl, rfl, rfl, rfl, rfl, rfl, rfl, rfl, rfl, rfl, rfl, rfl, rfl, trivial⟩, HS.pick 5 [0, 1, 2, 3, 4], fun _ => rfl, f1, f2, f3, f4, f5, f6, f7, f8, o1_0, o1_1⟩
      | 1, _ =>
       obtain ⟨Y21_0, Y22_1, Y23_2, Y24_3, Y25_4, Y26_5, Y27_6, Y28_7, Y29_8, O30_1, hs, HS, f0, f1, f2, f3, f4, f5, f6, f7, f8, o1_0, o1_1⟩ := hI
       have h0 : b 0 = true := hd 0 (by decide)
       obtain rfl := f0 h0
       refine GO.at hs ?_
       refine GO.ldBox (j := 3) HS rfl rfl rfl rfl na26 rfl ?_
       refine GO.fin (fun a hs => ?_)
       exact ⟨_, (.slice A_d_Crossings d_Crossings.length c_d_Crossings), _, _, _, _, _, _, _, _, hs.weak ⟨rfl, rfl, rfl, rfl, rfl, rfl, rfl, rfl, rfl, rfl, rfl, rfl, rfl, trivial⟩, HS.pick 5 [0, 1, 2, 3, 4], f0, fun _ => rfl, f2, f3, f4, f5, f6, f7, f8, o1_0, o1_1⟩
      | 2, _ =>
       obtain ⟨Y21_0, Y22_1, Y23_2, Y24_3, Y25_4, Y26_5, Y27_6, Y28_7, Y29_8, O30_1, hs, HS, f0, f1, f2, f3, f4, f5, f6, f7, f8, o1_0, o1_1⟩ := hI
       refine GO.at hs ?_
       refine GO.fld (⟨b3, 0, none⟩) rfl rfl fl68_0 rfl rfl ?_
       refine GO.fin (fun a hs => ?_)
       exact ⟨_, _, (.pointer (some ⟨b3, 0, none⟩)), _, _, _, _, _, _, _, hs.weak ⟨rfl, rfl, rfl, rfl, rfl, rfl, rfl, rfl, rfl, rfl, rfl, rfl, rfl, trivial⟩, HS.pick 5 [0, 1, 2, 3, 4], f0, f1, fun _ => rfl, f3, f4, f5, f6, f7, f8, o1_0, o1_1⟩
      | 3, _ =>
       obtain ⟨Y21_0, Y22_1, Y23_2, Y24_3, Y25_4, Y26_5, Y27_6, Y28_7, Y29_8, O30_1, hs, HS, f0, f1, f2, f3, f4, f5, f6, f7, f8, o1_0, o1_1⟩ := hI
       have h2 : b 2 = true := hd 2 (by decide)
       obtain rfl := f2 h2
       refine GO.at hs ?_
       refine GO.ldBox (j := 2) HS rfl rfl rfl rfl na2 rfl ?_
       refine GO.fin (fun a hs => ?_)
       exact ⟨_, _, _, (.int .i64 e_crossing), _, _, _, _, _, _, hs.weak ⟨rfl, rfl, rfl, rfl, rfl, rfl, rfl, rfl, rfl, rfl, rfl, rfl, rfl, trivial⟩, HS.pick 5 [0, 1, 2, 3, 4], f0, f1, f2, fun _ => rfl, f4, f5, f6, f7, f8, o1_0, o1_1⟩
      | 4, _ =>
       obtain ⟨Y21_0, Y22_1, Y23_2, Y24_3, Y25_4, Y26_5, Y27_6, Y28_7, Y29_8, O30_1, hs, HS, f0, f1, f2, f3, f4, f5, f6, f7, f8, o1_0, o1_1⟩ := hI
       refine GO.at hs ?_
       refine GO.ldBoxA (j := 0) ([.int .i64 t11, .int .i64 t12, .int .i64 arc, .int .i64 t14]) HS rfl rfl rfl rfl ag93 rfl ?_
       refine GO.fin (fun a hs => ?_)
       exact ⟨_, _, _, _, (.agg [.int .i64 t11, .int .i64 t12, .int .i64 arc, .int .i64 t14].toArray), _, _, _, _, _, hs.weak ⟨rfl, rfl, rfl, rfl, rfl, rfl, rfl, rfl, rfl, rfl, rfl, rfl, rfl, trivial⟩, HS.pick 5 [0, 1, 2, 3, 4], f0, f1, f2, f3, fun _ => rfl, f5, f6, f7, f8, o1_0, o1_1⟩
      | 5, _ =>
       obtain ⟨Y21_0, Y22_1, Y23_2, Y24_3, Y25_4, Y26_5, Y27_6, Y28_7, Y29_8, O30_1, hs, HS, f0, f1, f2, f3, f4, f5, f6, f7, f8, o1_0, o1_1⟩ := hI
       refine GO.at hs ?_
       refine GO.fld (⟨b8, 4, none⟩) rfl rfl fl58_4 rfl rfl ?_
       refine GO.fin (fun a hs => ?_)
       exact ⟨_, _, _, _, _, (.pointer (some ⟨b8, 4, none⟩)), _, _, _, _, hs.weak ⟨rfl, rfl, rfl, rfl, rfl, rfl, rfl, rfl, rfl, rfl, rfl, rfl, rfl, trivial⟩, HS.pick 5 [0, 1, 2, 3, 4], f0, f1, f2, f3, f4, fun _ => rfl, f6, f7, f8, o1_0, o1_1⟩
      | 6, _ =>
       obtain ⟨Y21_0, Y22_1, Y23_2, Y24_3, Y25_4, Y26_5, Y27_6, Y28_7, Y29_8, O30_1, hs, HS, f0, f1, f2, f3, f4, f5, f6, f7, f8, o1_0, o1_1⟩ := hI
       have h5 : b 5 = true := hd 5 (by decide)
       obtain rfl := f5 h5
       refine GO.at hs ?_
       refine GO.ldBox (j := 1) HS rfl rfl rfl rfl na2 rfl ?_
       refine GO.fin (fun a hs => ?_)
       exact ⟨_, _, _, _, _, _, (.int .i64 e6.Sign), _, _, _, hs.weak ⟨rfl, rfl, rfl, rfl, rfl, rfl, rfl, rfl, rfl, rfl, rfl, rfl, rfl, trivial⟩, HS.pick 5 [0, 1, 2, 3, 4], f0, f1, f2, f3, f4, f5, fun _ => rfl, f7, f8, o1_0, o1_1⟩
      | 7, _ =>
       obtain ⟨Y21_0, Y22_1, Y23_2, Y24_3, Y25_4, Y26_5, Y27_6, Y28_7, Y29_8, O30_1, hs, HS, f0, f1, f2, f3, f4, f5, f6, f7, f8, o1_0, o1_1⟩ := hI
       have h4 : b 4 = true := hd 4 (by decide)
       obtain rfl := f4 h4
       have h6 : b 6 = true := hd 6 (by decide)
       obtain rfl := f6 h6
       refine GO.at hs ?_
       refine GO.fn rfl Try.func113 fok113.1 fok113.2 rfl rfl (impl_crossingOf.calls HS  h50) (fun _ wd51 ⟨h52, HS⟩ => ⟨_, h52, ?_⟩)
       refine GO.fin (fun a hs => ?_)
       exact ⟨_, _, _, _, _, _, _, (.agg [.int .i64 t45, .int .i64 t46, .int .i64 t47, .int .i64 t48, .int .i64 t49].toArray), _, _, hs.weak ⟨rfl, rfl, rfl, rfl, rfl, rfl, rfl, rfl, rfl, rfl, rfl, rfl, rfl, trivial⟩, HS.pick 5 [0, 1, 2, 3, 4], f0, f1, f2, f3, f4, f5, f6, fun _ => rfl, f8, o1_0, o1_1⟩
      | 8, _ =>
       obtain ⟨Y21_0, Y22_1, Y23_2, Y24_3, Y25_4, Y26_5, Y27_6, Y28_7, Y29_8, O30_1, hs, HS, f0, f1, f2, f3, f4, f5, f6, f7, f8, o1_0, o1_1⟩ := hI
       have h1 : b 1 = true := hd 1 (by decide)
       obtain rfl := f1 h1
       have h3 : b 3 = true := hd 3 (by decide)
       obtain rfl := f3 h3
       have d9 : b 9 = false := bfalse (fun hh => hcl 9 (by decide) (hh) 8 (by decide)) hb
       obtain rfl := o1_0 d9
       refine GO.at hs ?_
       refine GO.ix rfl rfl rfl Try.underlying26 sz58 ((RdIn.own (j := 4) rfl) _ HS).2.2.1 c5.1 c5.2 rfl ?_
       refine GO.fin (fun a hs => ?_)
       exact ⟨_, _, _, _, _, _, _, _, (.pointer (some (ea A_d_Crossings (e_crossing.toNat * 5)))), _, hs.weak ⟨rfl, rfl, rfl, rfl, rfl, rfl, rfl, rfl, rfl, rfl, rfl, rfl, rfl, trivial⟩, HS.pick 5 [0, 1, 2, 3, 4], f0, f1, f2, f3, f4, f5, f6, f7, fun _ => rfl, o1_0, o1_1⟩
      | 9, _ =>
       obtain ⟨Y21_0, Y22_1, Y23_2, Y24_3, Y25_4, Y26_5, Y27_6, Y28_7, Y29_8, O30_1, hs, HS, f0, f1, f2, f3, f4, f5, f6, f7, f8, o1_0, o1_1⟩ := hI
       have h7 : b 7 = true := hd 7 (by decide)
       obtain rfl := f7 h7
       have h8 : b 8 = true := hd 8 (by decide)
       obtain rfl := f8 h8
       obtain rfl := o1_0 hb
       refine GO.at hs ?_
       refine GO.stRow (T := T_GCrossing) (j := 4) (n := e_crossing.toNat) (o := 0) (vs := [.int .i64 t45, .int .i64 t46, .int .i64 t47, .int .i64 t48, .int .i64 t49]) (⟨t45, t46, t47, t48, t49⟩ : GCrossing) HS rfl flat_flat rfl rfl rfl rfl (htA ag58) rfl (getD_some (d := z_GCrossing) (ltN c5)) rfl rfl ?_; intro wd53 HS
       refine GO.fin (fun a hs => ?_)
       exact ⟨_, _, _, _, _, _, _, _, _, Own T_GCrossing 58 A_d_Crossings c_d_Crossings (fun _ => ()) (d_Crossings.set e_crossing.toNat (⟨t45, t46, t47, t48, t49⟩ : GCrossing)), hs.weak ⟨rfl, rfl, rfl, rfl, rfl, rfl, rfl, rfl, rfl, rfl, rfl, rfl, rfl, trivial⟩, HS.pick 5 [0, 1, 2, 3, 4], f0, f1, f2, f3, f4, f5, f6, f7, f8, fun h => Bool.noConfusion h, fun _ => rfl⟩
      | k + 10, hj => exact absurd hj (Nat.not_lt.2 (Nat.le_add_left 10 k))
     ·
      intro b a w hall hI
      obtain ⟨Y21_0, Y22_1, Y23_2, Y24_3, Y25_4, Y26_5, Y27_6, Y28_7, Y29_8, O30_1, hs, HS, f0, f1, f2, f3, f4, f5, f6, f7, f8, o1_0, o1_1⟩ := hI
      obtain rfl := f0 (hall 0 (by decide))
      obtain rfl := f1 (hall 1 (by decide))
      obtain rfl := f2 (hall 2 (by decide))
      obtain rfl := f3 (hall 3 (by decide))
      obtain rfl := f4 (hall 4 (by decide))
      obtain rfl := f5 (hall 5 (by decide))
      obtain rfl := f6 (hall 6 (by decide))
      obtain rfl := f7 (hall 7 (by decide))
      obtain rfl := f8 (hall 8 (by decide))
      obtain rfl := o1_1 (hall 9 (by decide))
      refine G.at hs ?_
      replace HS := HS.boxEq (j := 3) (cs' := [.slice A_d_Crossings (d_Crossings.set e_crossing.toNat (⟨t45, t46, t47, t48, t49⟩ : GCrossing)).length c_d_Crossings, .int .i64 d_Circles]) rfl (by simp only [List.length_set] <;> rfl)
      obtain rfl := Option.some.inj H
      exact G.end0 Try.func50 rfl ⟨rfl, (HS.pick 5 [4])⟩
    ·
     rcases ite_elim H with ⟨c54, H⟩ | ⟨c54, H⟩
     ·
      refine G.region ?_
      refine GO.fld (⟨b3, 1, none⟩) rfl rfl fl68_1 rfl rfl ?_
      refine GO.ldBox (j := 2) HS rfl rfl rfl rfl na2 rfl ?_
      refine GO.move rfl rfl rfl ?_
      refine GO.ixP 3 rfl rfl rfl c54 Try.underlying93 sz2 rfl rfl ?_
      refine GO.stBox (j := 0) (vs := [.int .i64 arc]) ([.int .i64 t11, .int .i64 t12, .int .i64 t13, .int .i64 arc]) HS rfl rfl rfl rfl rfl (htN na2 rfl) rfl rfl rfl ?_; intro wd55 HS
      refine GO.nil ?_
      obtain ⟨t56, t57, t58, t59, t60, h61, H⟩ := bind5_elim H
      refine G.regionAny mixed (by decide) (fun b a w => ∃ (Y31_0 : Value) (Y32_1 : Value) (Y33_2 : Value) (Y34_3 : Value) (Y35_4 : Value) (Y36_5 : Value) (Y37_6 : Value) (Y38_7 : Value) (Y39_8 : Value) (O40_1 : HObj), Sat 29 [(20, Y31_0), (21, Y32_1), (22, Y33_2), (23, Y34_3), (24, Y35_4), (25, Y36_5), (26, Y37_6), (27, Y38_7), (28, Y39_8), (3, .pointer (some ⟨b1, 0, none⟩)), (4, .pointer (some ⟨b3, 0, none⟩)), (6, .pointer (some ⟨b8, 0, none⟩)), (7, .pointer (some ⟨b18, 0, none⟩))] a ∧ St w0 w (Box b18 93 [.int .i64 t11, .int .i64 t12, .int .i64 t13, .int .i64 arc] :: Box b8 58 [.int .i64 e6.A, .int .i64 e6.B, .int .i64 e6.C, .int .i64 e6.D, .int .i64 e6.Sign] :: Box b3 68 [.int .i64 e_crossing, .int .i64 e_position] :: Box b1 28 [.slice A_d_Crossings d_Crossings.length c_d_Crossings, .int .i64 d_Circles] :: O40_1 :: L) ∧ (b 0 = true → Y31_0 = (.pointer (some ⟨b1, 0, none⟩))) ∧ (b 1 = true → Y32_1 = (.slice A_d_Crossings d_Crossings.length c_d_Crossings)) ∧ (b 2 = true → Y33_2 = (.pointer (some ⟨b3, 0, none⟩))) ∧ (b 3 = true → Y34_3 = (.int .i64 e_crossing)) ∧ (b 4 = true → Y35_4 = (.agg [.int .i64 t11, .int .i64 t12, .int .i64 t13, .int .i64 arc].toArray)) ∧ (b 5 = true → Y36_5 = (.pointer (some ⟨b8, 4, none⟩))) ∧ (b 6 = true → Y37_6 = (.int .i64 e6.Sign)) ∧ (b 7 = true → Y38_7 = (.agg [.int .i64 t56, .int .i64 t57, .int .i64 t58, .int .i64 t59, .int .i64 t60].toArray)) ∧ (b 8 = true → Y39_8 = (.pointer (some (ea A_d_Crossings (e_crossing.toNat * 5))))) ∧ (b 9 = false → O40_1 = Own T_GCrossing 58 A_d_Crossings c_d_Crossings (fun _ => ()) d_Crossings) ∧ (b 9 = true → O40_1 = Own T_GCrossing 58 A_d_Crossings c_d_Crossings (fun _ => ()) (d_Crossings.set e_crossing.toNat (⟨t56, t57, t58, t59, t60⟩ : GCrossing)))) ?_ ?_ ?_
      ·
       intro a hs
       obtain ⟨Y31_0, hs⟩ := hs.ext (d := 20) rfl
       obtain ⟨Y32_1, hs⟩ := hs.ext (d := 21) rfl
       obtain ⟨Y33_2, hs⟩ := hs.ext (d := 22) rfl
       obtain ⟨Y34_3, hs⟩ := hs.ext (d := 23) rfl
       obtain ⟨Y35_4, hs⟩ := hs.ext (d := 24) rfl
       obtain ⟨Y36_5, hs⟩ := hs.ext (d := 25) rfl
       obtain ⟨Y37_6, hs⟩ := hs.ext (d := 26) rfl
       obtain ⟨Y38_7, hs⟩ := hs.ext (d := 27) rfl
       obtain ⟨Y39_8, hs⟩ := hs.ext (d := 28) rfl
       exact ⟨Y31_0, Y32_1, Y33_2, Y34_3, Y35_4, Y36_5, Y37_6, Y38_7, Y39_8, Own T_GCrossing 58 A_d_Crossings c_d_Crossings (fun _ => ()) d_Crossings, hs.weak ⟨rfl, rfl, rfl, rfl, rfl, rfl, rfl, rfl, rfl, rfl, rfl, rfl, rfl, trivial⟩, (HS.drew.pick 5 [0, 1, 2, 3, 4]), fun h => Bool.noConfusion h, fun h => Bool.noConfusion h, fun h => Bool.noConfusion h, fun h => Bool.noConfusion h, fun h => Bool.noConfusion h, fun h => Bool.noConfusion h, fun h => Bool.noConfusion h, fun h => Bool.noConfusion h, fun h => Bool.noConfusion h, fun _ => rfl, fun h => Bool.noConfusion h⟩
      ·
       intro j hj b a w hI hb hd hcl
       match j, hj with
       | 0, _ =>
        obtain ⟨Y31_0, Y32_1, Y33_2, Y34_3, Y35_4, Y36_5, Y37_6, Y38_7, Y39_8, O40_1, hs, HS, f0, f1, f2, f3, f4, f5, f6, f7, f8, o1_0, o1_1⟩ := hI
        refine GO.at hs ?_
        refine GO.fld (⟨b1, 0, none⟩) rfl rfl fl28_0 rfl rfl ?_
        refine GO.fin (fun a hs => ?_)
        exact ⟨(.pointer (some ⟨b1, 0, none⟩)), _, _, _, _, _, _, _, _, _, hs.weak ⟨rfl, rfl, rfl, rfl, rfl, rfl, rfl, rfl, rfl, rfl, rfl, rfl, rfl, trivial⟩, HS.pick 5 [0, 1, 2, 3, 4], fun _ => rfl, f1, f2, f3, f4, f5, f6, f7, f8, o1_0, o1_1⟩
       | 1, _ =>
        obtain ⟨Y31_0, Y32_1, Y33_2, Y34_3, Y35_4, Y36_5, Y37_6, Y38_7, Y39_8, O40_1, hs, HS, f0, f1, f2, f3, f4, f5, f6, f7, f8, o1_0, o1_1⟩ := hI
        have h0 : b 0 = true := hd 0 (by decide)
        obtain rfl := f0 h0
        refine GO.at hs ?_
        refine GO.ldBox (j := 3) HS rfl rfl rfl rfl na26 rfl ?_
        refine GO.fin (fun a hs => ?_)
        exact ⟨_, (.slice A_d_Crossings d_Crossings.length c_d_Crossings), _, _, _, _, _, _, _, _, hs.weak ⟨rfl, rfl, rfl, rfl, rfl, rfl, rfl, rfl, rfl, rfl, rfl, rfl, rfl, trivial⟩, HS.pick 5 [0, 1, 2, 3, 4], f0, fun _ => rfl, f2, f3, f4, f5, f6, f7, f8, o1_0, o1_1⟩
       | 2, _ =>
        obtain ⟨Y31_0, Y32_1, Y33_2, Y34_3, Y35_4, Y36_5, Y37_6, Y38_7, Y39_8, O40_1, hs, HS, f0, f1, f2, f3, f4, f5, f6, f7, f8, o1_0, o1_1⟩ := hI
        refine GO.at hs ?_
        refine GO.fld (⟨b3, 0, none⟩) rfl rfl fl68_0 rfl rfl ?_
        refine GO.fin (fun a hs => ?_)
        exact ⟨_, _, (.pointer (some ⟨b3, 0, none⟩)), _, _, _, _, _, _, _, hs.weak ⟨rfl, rfl, rfl, rfl, rfl, rfl, rfl, rfl, rfl, rfl, rfl, rfl, rfl, trivial⟩, HS.pick 5 [0, 1, 2, 3, 4], f0, f1, fun _ => rfl, f3, f4, f5, f6, f7, f8, o1_0, o1_1⟩
       | 3, _ =>
        obtain ⟨Y31_0, Y32_1, Y33_2, Y34_3, Y35_4, Y36_5, Y37_6, Y38_7, Y39_8, O40_1, hs, HS, f0, f1, f2, f3, f4, f5, f6, f7, f8, o1_0, o1_1⟩ := hI
        have h2 : b 2 = true := hd 2 (by decide)
        obtain rfl := f2 h2
        refine GO.at hs ?_
        refine GO.ldBox (j := 2) HS rfl rfl rfl rfl na2 rfl ?_
        refine GO.fin (fun a hs => ?_)
        exact ⟨_, _, _, (.int .i64 e_crossing), _, _, _, _, _, _, hs.weak ⟨rfl, rfl, rfl, rfl, rfl, rfl, rfl, rfl, rfl, rfl, rfl, rfl, rfl, trivial⟩, HS.pick 5 [0, 1, 2, 3, 4], f0, f1, f2, fun _ => rfl, f4, f5, f6, f7, f8, o1_0, o1_1⟩
       | 4, _ =>
        obtain ⟨Y31_0, Y32_1, Y33_2, Y34_3, Y35_4, Y36_5, Y37_6, Y38_7, Y39_8, O40_1, hs, HS, f0, f1, f2, f3, f4, f5, f6, f7, f8, o1_0, o1_1⟩ := hI
        refine GO.at hs ?_
        refine GO.ldBoxA (j := 0) ([.int .i64 t11, .int .i64 t12, .int .i64 t13, .int .i64 arc]) HS rfl rfl rfl rfl ag93 rfl ?_
        refine GO.fin (fun a hs => ?_)
        exact ⟨_, _, _, _, (.agg [.int .i64 t11, .int .i64 t12, .int .i64 t13, .int .i64 arc].toArray), _, _, _, _, _, hs.weak ⟨rfl, rfl, rfl, rfl, rfl, rfl, rfl, rfl, rfl, rfl, rfl, rfl, rfl, trivial⟩, HS.pick 5 [0, 1, 2, 3, 4], f0, f1, f2, f3, fun _ => rfl, f5, f6, f7, f8, o1_0, o1_1⟩
       | 5, _ =>
        obtain ⟨Y31_0, Y32_1, Y33_2, Y34_3, Y35_4, Y36_5, Y37_6, Y38_7, Y39_8, O40_1, hs, HS, f0, f1, f2, f3, f4, f5, f6, f7, f8, o1_0, o1_1⟩ := hI
        refine GO.at hs ?_
        refine GO.fld (⟨b8, 4, none⟩) rfl rfl fl58_4 rfl rfl ?_
        refine GO.fin (fun a hs => ?_)
        exact ⟨_, _, _, _, _, (.pointer (some ⟨b8, 4, none⟩)), _, _, _, _, hs.weak ⟨rfl, rfl, rfl, rfl, rfl, rfl, rfl, rfl, rfl, rfl, rfl, rfl, rfl, trivial⟩, HS.pick 5 [0, 1, 2, 3, 4], f0, f1, f2, f3, f4, fun _ => rfl, f6, f7, f8, o1_0, o1_1⟩
       | 6, _ =>
        obtain ⟨Y31_0, Y32_1, Y33_2, Y34_3, Y35_4, Y36_5, Y37_6, Y38_7, Y39_8, O40_1, hs, HS, f0, f1, f2, f3, f4, f5, f6, f7, f8, o1_0, o1_1⟩ := hI
        have h5 : b 5 = true := hd 5 (by decide)
        obtain rfl := f5 h5
        refine GO.at hs ?_
        refine GO.ldBox (j := 1) HS rfl rfl rfl rfl na2 rfl ?_
        refine GO.fin (fun a hs => ?_)
        exact ⟨_, _, _, _, _, _, (.int .i64 e6.Sign), _, _, _, hs.weak ⟨rfl, rfl, rfl, rfl, rfl, rfl, rfl, rfl, rfl, rfl, rfl, rfl, rfl, trivial⟩, HS.pick 5 [0, 1, 2, 3, 4], f0, f1, f2, f3, f4, f5, fun _ => rfl, f7, f8, o1_0, o1_1⟩
       | 7, _ =>
        obtain ⟨Y31_0, Y32_1, Y33_2, Y34_3, Y35_4, Y36_5, Y37_6, Y38_7, Y39_8, O40_1, hs, HS, f0, f1, f2, f3, f4, f5, f6, f7, f8, o1_0, o1_1⟩ := hI
        have h4 : b 4 = true := hd 4 (by decide)
        obtain rfl := f4 h4
        have h6 : b 6 = true := hd 6 (by decide)
        obtain rfl := f6 h6
        refine GO.at hs ?_
        refine GO.fn rfl Try.func113 fok113.1 fok113.2 rfl rfl (impl_crossingOf.calls HS  h61) (fun _ wd62 ⟨h63, HS⟩ => ⟨_, h63, ?_⟩)
        refine GO.fin (fun a hs => ?_)
        exact ⟨_, _, _, _, _, _, _, (.agg [.int .i64 t56, .int .i64 t57, .int .i64 t58, .int .i64 t59, .int .i64 t60].toArray), _, _, hs.weak ⟨rfl, rfl, rfl, rfl, rfl, rfl, rfl, rfl, rfl, rfl, rfl, rfl, rfl, trivial⟩, HS.pick 5 [0, 1, 2, 3, 4], f0, f1, f2, f3, f4, f5, f6, fun _ => rfl, f8, o1_0, o1_1⟩
       | 8, _ =>
        obtain ⟨Y31_0, Y32_1, Y33_2, Y34_3, Y35_4, Y36_5, Y37_6, Y38_7, Y39_8, O40_1, hs, HS, f0, f1, f2, f3, f4, f5, f6, f7, f8, o1_0, o1_1⟩ := hI
        have h1 : b 1 = true := hd 1 (by decide)
        obtain rfl := f1 h1
        have h3 : b 3 = true := hd 3 (by decide)
        obtain rfl := f3 h3
        have d9 : b 9 = false := bfalse (fun hh => hcl 9 (by decide) (hh) 8 (by decide)) hb
        obtain rfl := o1_0 d9
        refine GO.at hs ?_
        refine GO.ix rfl rfl rfl Try.underlying26 sz58 ((RdIn.own (j := 4) rfl) _ HS).2.2.1 c5.1 c5.2 rfl ?_
        refine GO.fin (fun a hs => ?_)
        exact ⟨_, _, _, _, _, _, _, _, (.pointer (some (ea A_d_Crossings (e_crossing.toNat * 5)))), _, hs.weak ⟨rfl, rfl, rfl, rfl, rfl, rfl, rfl, rfl, rfl, rfl, rfl, rfl, rfl, trivial⟩, HS.pick 5 [0, 1, 2, 3, 4], f0, f1, f2, f3, f4, f5, f6, f7, fun _ => rfl, o1_0, o1_1⟩
       | 9, _ =>
        obtain ⟨Y31_0, Y32_1, Y33_2, Y34_3, Y35_4, Y36_5, Y37_6, Y38_7, Y39_8, O40_1, hs, HS, f0, f1, f2, f3, f4, f5, f6, f7, f8, o1_0, o1_1⟩ := hI
        have h7 : b 7 = true := hd 7 (by decide)
        obtain rfl := f7 h7
        have h8 : b 8 = true := hd 8 (by decide)
        obtain rfl := f8 h8
        obtain rfl := o1_0 hb
        refine GO.at hs ?_
        refine GO.stRow (T := T_GCrossing) (j := 4) (n := e_crossing.toNat) (o := 0) (vs := [.int .i64 t56, .int .i64 t57, .int .i64 t58, .int .i64 t59, .int .i64 t60]) (⟨t56, t57, t58, t59, t60⟩ : GCrossing) HS rfl flat_flat rfl rfl rfl rfl (htA ag58) rfl (getD_some (d := z_GCrossing) (ltN c5)) rfl rfl ?_; intro wd64 HS
        refine GO.fin (fun a hs => ?_)
        exact ⟨_, _, _, _, _, _, _, _, _, Own T_GCrossing 58 A_d_Crossings c_d_Crossings (fun _ => ()) (d_Crossings.set e_crossing.toNat (⟨t56, t57, t58, t59, t60⟩ : GCrossing)), hs.weak ⟨rfl, rfl, rfl, rfl, rfl, rfl, rfl, rfl, rfl, rfl, rfl, rfl, rfl, trivial⟩, HS.pick 5 [0, 1, 2, 3, 4], f0, f1, f2, f3, f4, f5, f6, f7, f8, fun h => Bool.noConfusion h, fun _ => rfl⟩
       | k + 10, hj => exact absurd hj (Nat.not_lt.2 (Nat.le_add_left 10 k))
      ·
       intro b a w hall hI
       obtain ⟨Y31_0, Y32_1, Y33_2, Y34_3, Y35_4, Y36_5, Y37_6, Y38_7, Y39_8, O40_1, hs, HS, f0, f1, f2, f3, f4, f5, f6, f7, f8, o1_0, o1_1⟩ := hI
       obtain rfl := f0 (hall 0 (by decide))
       obtain rfl := f1 (hall 1 (by decide))
       obtain rfl := f2 (hall 2 (by decide))
       obtain rfl := f3 (hall 3 (by decide))
       obtain rfl := f4 (hall 4 (by decide))
       obtain rfl := f5 (hall 5 (by decide))
       obtain rfl := f6 (hall 6 (by decide))
       obtain rfl := f7 (hall 7 (by decide))
       obtain rfl := f8 (hall 8 (by decide))
       obtain rfl := o1_1 (hall 9 (by decide))
       refine G.at hs ?_
       replace HS := HS.boxEq (j := 3) (cs' := [.slice A_d_Crossings (d_Crossings.set e_crossing.toNat (⟨t56, t57, t58, t59, t60⟩ : GCrossing)).length c_d_Crossings, .int .i64 d_Circles]) rfl (by simp only [List.length_set] <;> rfl)
       obtain rfl := Option.some.inj H
       exact G.end0 Try.func50 rfl ⟨rfl, (HS.pick 5 [4])⟩
     ·
      cases H

set_option maxRecDepth 20000 in
set_option maxHeartbeats 4000000 in
theorem impl_AddKink.calls {w0 w : World} {L : List HObj} {K : Nat} {d_Crossings : List GCrossing} {d_Circles : Int} {a_ : Int} {v : Int} {A_d_Crossings : Option Addr} {c_d_Crossings : Nat} {r1 : List GCrossing} {r2 : Int} {r3 : Int} (HS : St w0 w (L)) (h_d_Crossings : RdIn w0 L T_GCrossing A_d_Crossings c_d_Crossings (fun _ => ()) d_Crossings) (H : impl_AddKink.f K d_Crossings d_Circles a_ v = some (r1, r2, r3)) :
    Calls Try.prog 15 #[.agg [.slice A_d_Crossings d_Crossings.length c_d_Crossings, .int .i64 d_Circles].toArray, .int .i64 a_, .int .i64 v] w (impl_AddKink.post w0 L d_Crossings d_Circles a_ v A_d_Crossings c_d_Crossings r1 r2 r3) := by
  unfold impl_AddKink.f at H
  refine Calls.of_G Try.func15 rfl rfl rfl ?_
  refine G.seq ?_
  refine G.region ?_
  refine GO.box (cs := [.slice A_d_Crossings d_Crossings.length c_d_Crossings, .int .i64 d_Circles]) HS rfl rfl rfl rfl ?_; intro b1 wd2 HS
  refine GO.alloc HS rfl zr28 rfl rfl ?_; intro b3 wd4 HS
  refine GO.assign rfl rfl rfl ?_
  refine GO.nil ?_
  refine G.seq ?_
  obtain ⟨t5, t6, t7, h8, H⟩ := bind3_elim H
  refine G.region ?_
  refine GO.ldBoxA (j := 1) ([.slice A_d_Crossings d_Crossings.length c_d_Crossings, .int .i64 d_Circles]) HS rfl rfl rfl rfl ag28 rfl ?_
  refine GO.fn rfl Try.func45 fok45.1 fok45.2 rfl rfl (impl_Diagram_drawing.calls HS (RdIn.drop 2 h_d_Crossings) h8) (fun _ wd13 ⟨A9, c10, A11, c12, h14, HS⟩ => ⟨_, h14, ?_⟩)
  refine GO.move rfl rfl rfl ?_
  refine GO.extract rfl rfl rfl rfl ?_
  refine GO.extract rfl rfl rfl rfl ?_
  refine GO.alloc HS rfl zr63 rfl rfl ?_; intro b15 wd16 HS
  refine GO.stBox (j := 0) (vs := [.slice A9 t5.length c10, .slice A11 t6.length c12]) ([.slice A9 t5.length c10, .slice A11 t6.length c12]) HS rfl rfl rfl rfl rfl (htA ag63) rfl rfl rfl ?_; intro wd17 HS
  refine GO.assign rfl rfl rfl ?_
  refine GO.nil ?_
  refine G.seq ?_
  refine G.block ?_
  refine G.seq ?_
  refine G.region ?_
  refine GO.move rfl rfl rfl ?_
  refine GO.not rfl rfl rfl ?_
  refine GO.assign rfl rfl rfl ?_
  refine GO.nil ?_
  rcases ite_elim H with ⟨c18, H⟩ | ⟨c18, H⟩
  ·
   refine G.noB rfl (congrArg Bool.not c18) ?_
   refine G.seq ?_
   obtain ⟨t19, h20, H⟩ := Option.bind_eq_some_iff.1 H
   refine G.region ?_
   refine GO.fld (⟨b15, 1, none⟩) rfl rfl fl63_1 rfl rfl ?_
   refine GO.ldBox (j := 0) HS rfl rfl rfl rfl na61 rfl ?_
   refine GO.move rfl rfl rfl ?_
   refine GO.fn rfl Try.func46 fok46.1 fok46.2 rfl rfl (impl_hasIndex_impl_end.calls HS (RdIn.own (j := 2) rfl) h20) (fun _ wd21 ⟨h22, HS⟩ => ⟨_, h22, ?_⟩)
   refine GO.not rfl rfl rfl ?_
   refine GO.assign rfl rfl rfl ?_
   refine GO.nil ?_
   rcases ite_elim H with ⟨c23, H⟩ | ⟨c23, H⟩
   ·
    refine G.noB rfl (congrArg Bool.not c23) ?_
    refine G.seq ?_
    obtain ⟨t24, h25, H⟩ := Option.bind_eq_some_iff.1 H
    refine G.region ?_
    refine GO.move rfl rfl rfl ?_
    refine GO.fn rfl Try.func47 fok47.1 fok47.2 rfl rfl (impl_inRange.calls HS  h25) (fun _ wd26 ⟨h27, HS⟩ => ⟨_, h27, ?_⟩)
    refine GO.not rfl rfl rfl ?_
    refine GO.assign rfl rfl rfl ?_
    refine GO.nil ?_
    rcases ite_elim H with ⟨c28, H⟩ | ⟨c28, H⟩
    ·
     refine G.noB rfl (congrArg Bool.not c28) ?_
     refine G.seq ?_
     refine G.region ?_
     refine GO.fld (⟨b1, 0, none⟩) rfl rfl fl28_0 rfl rfl ?_
     refine GO.ldBox (j := 4) HS rfl rfl rfl rfl na26 rfl ?_
     refine GO.lenS rfl rfl Try.underlying26 rfl ?_
     refine GO.eql rfl rfl rfl rfl ?_
     refine GO.assign rfl rfl rfl ?_
     refine GO.nil ?_
     rcases ite_elim H with ⟨c29, H⟩ | ⟨c29, H⟩
     ·
      refine G.yesB rfl (decide_eq_true c29) ?_
      refine G.seq ?_
      refine G.region ?_
      refine GO.buildV (.agg [.slice none 0 0, .int .i64 0].toArray) rfl rfl (fun _ => by kernel_rfl) rfl ?_
      refine GO.stBox (j := 3) (vs := [.slice none 0 0, .int .i64 0]) ([.slice none 0 0, .int .i64 0]) HS rfl rfl rfl rfl rfl (htA ag28) rfl rfl rfl ?_; intro wd30 HS
      refine GO.assign rfl rfl rfl ?_
      refine GO.nil ?_
      replace HS := HS.nilRow T_GCrossing 58 (fun _ => ())
      obtain ⟨rfl, rfl, rfl⟩ := some3 H
      exact G.ret2 _ _ Try.func15 rfl (Res1.boxA (j := 4) (vs := [.slice none 0 0, .int .i64 0]) HS rfl rfl rfl ag28) rfl ⟨_, _, rfl, (HS.pick 6 [0])⟩
     ·
      refine G.noB rfl (decide_eq_false c29) ?_
      refine G.skip ?_
      refine G.blockEnd ?_
      refine G.seq ?_
      obtain ⟨t31, h32, H⟩ := Option.bind_eq_some_iff.1 H
      refine G.region ?_
      refine GO.fld (⟨b15, 1, none⟩) rfl rfl fl63_1 rfl rfl ?_
      refine GO.ldBox (j := 0) HS rfl rfl rfl rfl na61 rfl ?_
      refine GO.fn rfl Try.func48 fok48.1 fok48.2 rfl rfl (impl_size_impl_end.calls HS (RdIn.own (j := 2) rfl) h32) (fun _ wd33 ⟨h34, HS⟩ => ⟨_, h34, ?_⟩)
      refine GO.assign rfl rfl rfl ?_
      refine GO.nil ?_
      refine G.seq ?_
      refine G.region ?_
      refine GO.move rfl rfl rfl ?_
      refine GO.add rfl rfl rfl rfl ?_
      refine GO.assign rfl rfl rfl ?_
      refine GO.nil ?_
      refine G.seq ?_
      obtain ⟨t35, t36, h37, H⟩ := bind2_elim H
      refine G.region ?_
      refine GO.ldBoxA (j := 4) ([.slice A_d_Crossings d_Crossings.length c_d_Crossings, .int .i64 d_Circles]) HS rfl rfl rfl rfl ag28 rfl ?_
      refine GO.fn rfl Try.func49 fok49.1 fok49.2 rfl rfl (impl_copyDiagram.calls HS (RdIn.drop 5 h_d_Crossings) h37) (fun _ wd40 ⟨A38, c39, h41, HS⟩ => ⟨_, h41, ?_⟩)
      refine GO.alloc HS rfl zr28 rfl rfl ?_; intro b42 wd43 HS
      refine GO.stBox (j := 0) (vs := [.slice A38 t35.length c39, .int .i64 t36]) ([.slice A38 t35.length c39, .int .i64 t36]) HS rfl rfl rfl rfl rfl (htA ag28) rfl rfl rfl ?_; intro wd44 HS
      refine GO.nil ?_
      refine G.seq ?_
      obtain ⟨c45, H⟩ := ite_none H
      obtain ⟨e46, h47, H⟩ := bnd_elim H
      obtain ⟨t48, h49, H⟩ := Option.bind_eq_some_iff.1 H
      obtain ⟨c50, H⟩ := ite_none H
      refine G.regionAny mixed (by decide) (fun b a w => ∃ (Y1_0 : Value) (Y2_1 : Value) (Y3_2 : Value) (Y4_3 : Value) (Y5_4 : Value) (Y6_5 : Value) (Y7_6 : Value) (Y8_7 : Value) (O9_7 : HObj), Sat 86 [(48, Y1_0), (49, Y2_1), (50, Y3_2), (51, Y4_3), (52, Y5_4), (53, Y6_5), (54, Y7_6), (55, Y8_7), (1, .int .i64 a_), (2, .int .i64 v), (6, .pointer (some ⟨b3, 0, none⟩)), (8, .pointer (some ⟨b15, 0, none⟩)), (10, .int .i64 t31), (11, .int .i64 (w64 (t31 + 1))), (12, .pointer (some ⟨b42, 0, none⟩))] a ∧ St w0 w (Box b42 28 [.slice A38 t35.length c39, .int .i64 t36] :: O9_7 :: Box b15 63 [.slice A9 t5.length c10, .slice A11 t6.length c12] :: Own T_GEnd 68 A9 c10 (fun _ => ()) t5 :: Own T_GEnd 68 A11 c12 (fun _ => ()) t6 :: Box b3 28 [.slice none 0 0, .int .i64 0] :: Box b1 28 [.slice A_d_Crossings d_Crossings.length c_d_Crossings, .int .i64 d_Circles] :: L) ∧ (b 0 = true → Y1_0 = (.agg [.slice A38 t35.length c39, .int .i64 t36].toArray)) ∧ (b 1 = true → Y2_1 = (.pointer (some ⟨b15, 1, none⟩))) ∧ (b 2 = true → Y3_2 = (.slice A11 t6.length c12)) ∧ (b 3 = true → Y4_3 = (.int .i64 a_)) ∧ (b 4 = true → Y5_4 = (.pointer (some (ea A11 (a_.toNat * 2))))) ∧ (b 5 = true → Y6_5 = (.agg [.int .i64 e46.crossing, .int .i64 e46.position].toArray)) ∧ (b 6 = true → Y7_6 = (.int .i64 (w64 (t31 + 1)))) ∧ (b 7 = true → Y8_7 = (.tuple #[])) ∧ (b 7 = false → O9_7 = Own T_GCrossing 58 A38 c39 (fun _ => ()) t35) ∧ (b 7 = true → O9_7 = Own T_GCrossing 58 A38 c39 (fun _ => ()) t48)) ?_ ?_ ?_
      ·
       intro a hs
       obtain ⟨Y1_0, hs⟩ := hs.ext (d := 48) rfl
       obtain ⟨Y2_1, hs⟩ := hs.ext (d := 49) rfl
       obtain ⟨Y3_2, hs⟩ := hs.ext (d := 50) rfl
       obtain ⟨Y4_3, hs⟩ := hs.ext (d := 51) rfl
       obtain ⟨Y5_4, hs⟩ := hs.ext (d := 52) rfl
       obtain ⟨Y6_5, hs⟩ := hs.ext (d := 53) rfl
       obtain ⟨Y7_6, hs⟩ := hs.ext (d := 54) rfl
       obtain ⟨Y8_7, hs⟩ := hs.ext (d := 55) rfl
       exact ⟨Y1_0, Y2_1, Y3_2, Y4_3, Y5_4, Y6_5, Y7_6, Y8_7, Own T_GCrossing 58 A38 c39 (fun _ => ()) t35, hs.weak ⟨rfl, rfl, rfl, rfl, rfl, rfl, rfl, rfl, rfl, rfl, rfl, rfl, rfl, rfl, rfl, trivial⟩, (HS.drew.pick 7 [0, 1, 2, 3, 4, 5, 6]), fun h => Bool.noConfusion h, fun h => Bool.noConfusion h, fun h => Bool.noConfusion h, fun h => Bool.noConfusion h, fun h => Bool.noConfusion h, fun h => Bool.noConfusion h, fun h => Bool.noConfusion h, fun h => Bool.noConfusion h, fun _ => rfl, fun h => Bool.noConfusion h⟩
      ·
       intro j hj b a w hI hb hd hcl
       match j, hj with
       | 0, _ =>
        obtain ⟨Y1_0, Y2_1, Y3_2, Y4_3, Y5_4, Y6_5, Y7_6, Y8_7, O9_7, hs, HS, f0, f1, f2, f3, f4, f5, f6, f7, o7_0, o7_1⟩ := hI
        refine GO.at hs ?_
        refine GO.ldBoxA (j := 0) ([.slice A38 t35.length c39, .int .i64 t36]) HS rfl rfl rfl rfl ag28 rfl ?_
        refine GO.fin (fun a hs => ?_)
        exact ⟨(.agg [.slice A38 t35.length c39, .int .i64 t36].toArray), _, _, _, _, _, _, _, _, hs.weak ⟨rfl, rfl, rfl, rfl, rfl, rfl, rfl, rfl, rfl, rfl, rfl, rfl, rfl, rfl, rfl, trivial⟩, HS.pick 7 [0, 1, 2, 3, 4, 5, 6], fun _ => rfl, f1, f2, f3, f4, f5, f6, f7, o7_0, o7_1⟩
       | 1, _ =>
        obtain ⟨Y1_0, Y2_1, Y3_2, Y4_3, Y5_4, Y6_5, Y7_6, Y8_7, O9_7, hs, HS, f0, f1, f2, f3, f4, f5, f6, f7, o7_0, o7_1⟩ := hI
        refine GO.at hs ?_
        refine GO.fld (⟨b15, 1, none⟩) rfl rfl fl63_1 rfl rfl ?_
        refine GO.fin (fun a hs => ?_)
        exact ⟨_, (.pointer (some ⟨b15, 1, none⟩)), _, _, _, _, _, _, _, hs.weak ⟨rfl, rfl, rfl, rfl, rfl, rfl, rfl, rfl, rfl, rfl, rfl, rfl, rfl, rfl, rfl, trivial⟩, HS.pick 7 [0, 1, 2, 3, 4, 5, 6], f0, fun _ => rfl, f2, f3, f4, f5, f6, f7, o7_0, o7_1⟩
       | 2, _ =>
        obtain ⟨Y1_0, Y2_1, Y3_2, Y4_3, Y5_4, Y6_5, Y7_6, Y8_7, O9_7, hs, HS, f0, f1, f2, f3, f4, f5, f6, f7, o7_0, o7_1⟩ := hI
        have h1 : b 1 = true := hd 1 (by decide)
        obtain rfl := f1 h1
        refine GO.at hs ?_
        refine GO.ldBox (j := 2) HS rfl rfl rfl rfl na61 rfl ?_
        refine GO.fin (fun a hs => ?_)
        exact ⟨_, _, (.slice A11 t6.length c12), _, _, _, _, _, _, hs.weak ⟨rfl, rfl, rfl, rfl, rfl, rfl, rfl, rfl, rfl, rfl, rfl, rfl, rfl, rfl, rfl, trivial⟩, HS.pick 7 [0, 1, 2, 3, 4, 5, 6], f0, f1, fun _ => rfl, f3, f4, f5, f6, f7, o7_0, o7_1⟩
       | 3, _ =>
        obtain ⟨Y1_0, Y2_1, Y3_2, Y4_3, Y5_4, Y6_5, Y7_6, Y8_7, O9_7, hs, HS, f0, f1, f2, f3, f4, f5, f6, f7, o7_0, o7_1⟩ := hI
        refine GO.at hs ?_
        refine GO.move rfl rfl rfl ?_
        refine GO.fin (fun a hs => ?_)
        exact ⟨_, _, _, (.int .i64 a_), _, _, _, _, _, hs.weak ⟨rfl, rfl, rfl, rfl, rfl, rfl, rfl, rfl, rfl, rfl, rfl, rfl, rfl, rfl, rfl, trivial⟩, HS.pick 7 [0, 1, 2, 3, 4, 5, 6], f0, f1, f2, fun _ => rfl, f4, f5, f6, f7, o7_0, o7_1⟩
       | 4, _ =>
        obtain ⟨Y1_0, Y2_1, Y3_2, Y4_3, Y5_4, Y6_5, Y7_6, Y8_7, O9_7, hs, HS, f0, f1, f2, f3, f4, f5, f6, f7, o7_0, o7_1⟩ := hI
        have h2 : b 2 = true := hd 2 (by decide)
        obtain rfl := f2 h2
        have h3 : b 3 = true := hd 3 (by decide)
        obtain rfl := f3 h3
        refine GO.at hs ?_
        refine GO.ix rfl rfl rfl Try.underlying61 sz68 ((RdIn.own (j := 4) rfl) _ HS).2.2.1 c45.1 c45.2 rfl ?_
        refine GO.fin (fun a hs => ?_)
        exact ⟨_, _, _, _, (.pointer (some (ea A11 (a_.toNat * 2)))), _, _, _, _, hs.weak ⟨rfl, rfl, rfl, rfl, rfl, rfl, rfl, rfl, rfl, rfl, rfl, rfl, rfl, rfl, rfl, trivial⟩, HS.pick 7 [0, 1, 2, 3, 4, 5, 6], f0, f1, f2, f3, fun _ => rfl, f5, f6, f7, o7_0, o7_1⟩
       | 5, _ =>
        obtain ⟨Y1_0, Y2_1, Y3_2, Y4_3, Y5_4, Y6_5, Y7_6, Y8_7, O9_7, hs, HS, f0, f1, f2, f3, f4, f5, f6, f7, o7_0, o7_1⟩ := hI
        have h4 : b 4 = true := hd 4 (by decide)
        obtain rfl := f4 h4
        refine GO.at hs ?_
        refine GO.ldRdA (T := T_GEnd) (n := a_.toNat) HS (RdIn.own (j := 4) rfl) rfl rfl (getD_eq (ltN c45) h47) ag68 rfl ?_
        refine GO.fin (fun a hs => ?_)
        exact ⟨_, _, _, _, _, (.agg [.int .i64 e46.crossing, .int .i64 e46.position].toArray), _, _, _, hs.weak ⟨rfl, rfl, rfl, rfl, rfl, rfl, rfl, rfl, rfl, rfl, rfl, rfl, rfl, rfl, rfl, trivial⟩, HS.pick 7 [0, 1, 2, 3, 4, 5, 6], f0, f1, f2, f3, f4, fun _ => rfl, f6, f7, o7_0, o7_1⟩
       | 6, _ =>
        obtain ⟨Y1_0, Y2_1, Y3_2, Y4_3, Y5_4, Y6_5, Y7_6, Y8_7, O9_7, hs, HS, f0, f1, f2, f3, f4, f5, f6, f7, o7_0, o7_1⟩ := hI
        refine GO.at hs ?_
        refine GO.move rfl rfl rfl ?_
        refine GO.fin (fun a hs => ?_)
        exact ⟨_, _, _, _, _, _, (.int .i64 (w64 (t31 + 1))), _, _, hs.weak ⟨rfl, rfl, rfl, rfl, rfl, rfl, rfl, rfl, rfl, rfl, rfl, rfl, rfl, rfl, rfl, trivial⟩, HS.pick 7 [0, 1, 2, 3, 4, 5, 6], f0, f1, f2, f3, f4, f5, fun _ => rfl, f7, o7_0, o7_1⟩
       | 7, _ =>
        obtain ⟨Y1_0, Y2_1, Y3_2, Y4_3, Y5_4, Y6_5, Y7_6, Y8_7, O9_7, hs, HS, f0, f1, f2, f3, f4, f5, f6, f7, o7_0, o7_1⟩ := hI
        have h0 : b 0 = true := hd 0 (by decide)
        obtain rfl := f0 h0
        have h5 : b 5 = true := hd 5 (by decide)
        obtain rfl := f5 h5
        have h6 : b 6 = true := hd 6 (by decide)
        obtain rfl := f6 h6
        obtain rfl := o7_0 hb
        refine GO.at hs ?_
        replace HS := HS.pick 7 [1, 0, 2, 3, 4, 5, 6]
        refine GO.fn rfl Try.func50 fok50.1 fok50.2 rfl rfl (impl_Diagram_set.calls HS  h49) (fun _ wd51 ⟨h52, HS⟩ => ⟨_, h52, ?_⟩)
        refine GO.fin (fun a hs => ?_)
        exact ⟨_, _, _, _, _, _, _, (.tuple #[]), Own T_GCrossing 58 A38 c39 (fun _ => ()) t48, hs.weak ⟨rfl, rfl, rfl, rfl, rfl, rfl, rfl, rfl, rfl, rfl, rfl, rfl, rfl, rfl, rfl, trivial⟩, HS.pick 7 [1, 0, 2, 3, 4, 5, 6], f0, f1, f2, f3, f4, f5, f6, fun _ => rfl, fun h => Bool.noConfusion h, fun _ => rfl⟩
       | k + 8, hj => exact absurd hj (Nat.not_lt.2 (Nat.le_add_left 8 k))
      ·
       intro b a w hall hI
       obtain ⟨Y1_0, Y2_1, Y3_2, Y4_3, Y5_4, Y6_5, Y7_6, Y8_7, O9_7, hs, HS, f0, f1, f2, f3, f4, f5, f6, f7, o7_0, o7_1⟩ := hI
       obtain rfl := f0 (hall 0 (by decide))
       obtain rfl := f1 (hall 1 (by decide))
       obtain rfl := f2 (hall 2 (by decide))
       obtain rfl := f3 (hall 3 (by decide))
       obtain rfl := f4 (hall 4 (by decide))
       obtain rfl := f5 (hall 5 (by decide))
       obtain rfl := f6 (hall 6 (by decide))
       obtain rfl := f7 (hall 7 (by decide))
       obtain rfl := o7_1 (hall 7 (by decide))
       refine G.at hs ?_
       replace HS := HS.boxEq (j := 0) (cs' := [.slice A38 t48.length c39, .int .i64 t36]) rfl (by simp only [List.length_set, c50] <;> rfl)
       refine G.seq ?_
       refine G.region ?_
       refine GO.move rfl rfl rfl ?_
       refine GO.move rfl rfl rfl ?_
       refine GO.move rfl rfl rfl ?_
       refine GO.move rfl rfl rfl ?_
       refine GO.buildV (.agg [.int .i64 a_, .int .i64 (w64 (t31 + 1)), .int .i64 t31, .int .i64 t31, .int .i64 1].toArray) rfl rfl (fun _ => by kernel_rfl) rfl ?_
       refine GO.move rfl rfl rfl ?_
       refine GO.move rfl rfl rfl ?_
       refine GO.move rfl rfl rfl ?_
       refine GO.move rfl rfl rfl ?_
       refine GO.buildV (.agg [.int .i64 a_, .int .i64 t31, .int .i64 t31, .int .i64 (w64 (t31 + 1)), .int .i64 (-1)].toArray) rfl rfl (fun _ => by kernel_rfl) rfl ?_
       refine GO.move rfl rfl rfl ?_
       refine GO.move rfl rfl rfl ?_
       refine GO.move rfl rfl rfl ?_
       refine GO.move rfl rfl rfl ?_
       refine GO.buildV (.agg [.int .i64 t31, .int .i64 t31, .int .i64 (w64 (t31 + 1)), .int .i64 a_, .int .i64 1].toArray) rfl rfl (fun _ => by kernel_rfl) rfl ?_
       refine GO.move rfl rfl rfl ?_
       refine GO.move rfl rfl rfl ?_
       refine GO.move rfl rfl rfl ?_
       refine GO.move rfl rfl rfl ?_
       refine GO.buildV (.agg [.int .i64 t31, .int .i64 a_, .int .i64 (w64 (t31 + 1)), .int .i64 t31, .int .i64 (-1)].toArray) rfl rfl (fun _ => by kernel_rfl) rfl ?_
       refine GO.buildV (.agg [.int .i64 a_, .int .i64 (w64 (t31 + 1)), .int .i64 t31, .int .i64 t31, .int .i64 1, .int .i64 a_, .int .i64 t31, .int .i64 t31, .int .i64 (w64 (t31 + 1)), .int .i64 (-1), .int .i64 t31, .int .i64 t31, .int .i64 (w64 (t31 + 1)), .int .i64 a_, .int .i64 1, .int .i64 t31, .int .i64 a_, .int .i64 (w64 (t31 + 1)), .int .i64 t31, .int .i64 (-1)].toArray) rfl rfl (fun _ => by kernel_rfl) rfl ?_
       refine GO.alloc HS rfl zr72 rfl rfl ?_; intro b53 wd54 HS
       refine GO.stBox (j := 0) (vs := [.int .i64 a_, .int .i64 (w64 (t31 + 1)), .int .i64 t31, .int .i64 t31, .int .i64 1, .int .i64 a_, .int .i64 t31, .int .i64 t31, .int .i64 (w64 (t31 + 1)), .int .i64 (-1), .int .i64 t31, .int .i64 t31, .int .i64 (w64 (t31 + 1)), .int .i64 a_, .int .i64 1, .int .i64 t31, .int .i64 a_, .int .i64 (w64 (t31 + 1)), .int .i64 t31, .int .i64 (-1)]) ([.int .i64 a_, .int .i64 (w64 (t31 + 1)), .int .i64 t31, .int .i64 t31, .int .i64 1, .int .i64 a_, .int .i64 t31, .int .i64 t31, .int .i64 (w64 (t31 + 1)), .int .i64 (-1), .int .i64 t31, .int .i64 t31, .int .i64 (w64 (t31 + 1)), .int .i64 a_, .int .i64 1, .int .i64 t31, .int .i64 a_, .int .i64 (w64 (t31 + 1)), .int .i64 t31, .int .i64 (-1)]) HS rfl rfl rfl rfl rfl (htA ag72) rfl rfl rfl ?_; intro wd55 HS
       refine GO.nil ?_
       refine G.seq ?_
       rcases ite_elim H with ⟨c56, H⟩ | ⟨c56, H⟩
       ·
        obtain ⟨c62, H⟩ := ite_none H
        refine G.regionAny mixed (by decide) (fun b a w => ∃ (Y10_0 : Value) (Y11_1 : Value) (Y12_2 : Value) (Y13_3 : Value) (Y14_4 : Value) (Y15_5 : Value) (Y16_6 : Value) (Y17_7 : Value) (b57 : Nat) (A60 : Option Addr) (c61 : Nat) (O18_8 : HObj) (O20_7 : HObj) (O19_10 : HObj), Sat 86 [(77, Y10_0), (78, Y11_1), (79, Y12_2), (80, Y13_3), (81, Y14_4), (82, Y15_5), (83, Y16_6), (84, Y17_7), (2, .int .i64 v), (6, .pointer (some ⟨b3, 0, none⟩)), (12, .pointer (some ⟨b42, 0, none⟩)), (13, .pointer (some ⟨b53, 0, none⟩))] a ∧ St w0 w (Box b53 72 [.int .i64 a_, .int .i64 (w64 (t31 + 1)), .int .i64 t31, .int .i64 t31, .int .i64 1, .int .i64 a_, .int .i64 t31, .int .i64 t31, .int .i64 (w64 (t31 + 1)), .int .i64 (-1), .int .i64 t31, .int .i64 t31, .int .i64 (w64 (t31 + 1)), .int .i64 a_, .int .i64 1, .int .i64 t31, .int .i64 a_, .int .i64 (w64 (t31 + 1)), .int .i64 t31, .int .i64 (-1)] :: O18_8 :: O20_7 :: Box b15 63 [.slice A9 t5.length c10, .slice A11 t6.length c12] :: Own T_GEnd 68 A9 c10 (fun _ => ()) t5 :: Own T_GEnd 68 A11 c12 (fun _ => ()) t6 :: Box b3 28 [.slice none 0 0, .int .i64 0] :: Box b1 28 [.slice A_d_Crossings d_Crossings.length c_d_Crossings, .int .i64 d_Circles] :: O19_10 :: L) ∧ (b 0 = true → Y10_0 = (.pointer (some ⟨b42, 0, none⟩))) ∧ (b 1 = true → Y11_1 = (.slice A38 t48.length c39)) ∧ (b 2 = true → Y12_2 = (.int .i64 v)) ∧ (b 3 = true → Y13_3 = (.pointer (some ⟨b53, 0, none⟩))) ∧ (b 4 = true → Y14_4 = (.agg [.int .i64 a_, .int .i64 (w64 (t31 + 1)), .int .i64 t31, .int .i64 t31, .int .i64 1].toArray)) ∧ (b 5 = true → Y15_5 = (.slice (some ⟨b57, 0, none⟩) 1 1)) ∧ (b 6 = true → Y16_6 = (.slice A60 (t48 ++ [(⟨a_, w64 (t31 + 1), t31, t31, 1⟩ : GCrossing)]).length c61)) ∧ (b 7 = true → Y17_7 = (.pointer (some ⟨b42, 0, none⟩))) ∧ (b 8 = false → O18_8 = Box b42 28 [.slice A38 t48.length c39, .int .i64 t36]) ∧ (b 8 = true → O18_8 = Box b42 28 [.slice A60 (t48 ++ [(⟨a_, w64 (t31 + 1), t31, t31, 1⟩ : GCrossing)]).length c61, .int .i64 t36]) ∧ (b 6 = false → O20_7 = Own T_GCrossing 58 A38 c39 (fun _ => ()) t48) ∧ (b 6 = true → O20_7 = Own T_GCrossing 58 A60 c61 (fun _ => ()) (t48 ++ [(⟨a_, w64 (t31 + 1), t31, t31, 1⟩ : GCrossing)])) ∧ (b 5 = true → O19_10 = Box b57 58 [.int .i64 a_, .int .i64 (w64 (t31 + 1)), .int .i64 t31, .int .i64 t31, .int .i64 1])) ?_ ?_ ?_
        ·
         intro a hs
         obtain ⟨Y10_0, hs⟩ := hs.ext (d := 77) rfl
         obtain ⟨Y11_1, hs⟩ := hs.ext (d := 78) rfl
         obtain ⟨Y12_2, hs⟩ := hs.ext (d := 79) rfl
         obtain ⟨Y13_3, hs⟩ := hs.ext (d := 80) rfl
         obtain ⟨Y14_4, hs⟩ := hs.ext (d := 81) rfl
         obtain ⟨Y15_5, hs⟩ := hs.ext (d := 82) rfl
         obtain ⟨Y16_6, hs⟩ := hs.ext (d := 83) rfl
         obtain ⟨Y17_7, hs⟩ := hs.ext (d := 84) rfl
         exact ⟨Y10_0, Y11_1, Y12_2, Y13_3, Y14_4, Y15_5, Y16_6, Y17_7, 0, none, 0, Box b42 28 [.slice A38 t48.length c39, .int .i64 t36], Own T_GCrossing 58 A38 c39 (fun _ => ()) t48, Emp, hs.weak ⟨rfl, rfl, rfl, rfl, rfl, rfl, rfl, rfl, rfl, rfl, rfl, rfl, trivial⟩, (HS.drew.emp.pick 9 [1, 2, 3, 4, 5, 6, 7, 8, 0]), fun h => Bool.noConfusion h, fun h => Bool.noConfusion h, fun h => Bool.noConfusion h, fun h => Bool.noConfusion h, fun h => Bool.noConfusion h, fun h => Bool.noConfusion h, fun h => Bool.noConfusion h, fun h => Bool.noConfusion h, fun _ => rfl, fun h => Bool.noConfusion h, fun _ => rfl, fun h => Bool.noConfusion h, fun h => Bool.noConfusion h⟩
        ·
         intro j hj b a w hI hb hd hcl
         match j, hj with
         | 0, _ =>
          obtain ⟨Y10_0, Y11_1, Y12_2, Y13_3, Y14_4, Y15_5, Y16_6, Y17_7, b57, A60, c61, O18_8, O20_7, O19_10, hs, HS, f0, f1, f2, f3, f4, f5, f6, f7, o8_0, o8_1, o7_0, o7_1, o10_0⟩ := hI
          refine GO.at hs ?_
          refine GO.fld (⟨b42, 0, none⟩) rfl rfl fl28_0 rfl rfl ?_
          refine GO.fin (fun a hs => ?_)
          exact ⟨(.pointer (some ⟨b42, 0, none⟩)), _, _, _, _, _, _, _, b57, A60, c61, _, _, _, hs.weak ⟨rfl, rfl, rfl, rfl, rfl, rfl, rfl, rfl, rfl, rfl, rfl, rfl, trivial⟩, HS.pick 9 [0, 1, 2, 3, 4, 5, 6, 7, 8], fun _ => rfl, f1, f2, f3, f4, f5, f6, f7, o8_0, o8_1, o7_0, o7_1, o10_0⟩
         | 1, _ =>
          obtain ⟨Y10_0, Y11_1, Y12_2, Y13_3, Y14_4, Y15_5, Y16_6, Y17_7, b57, A60, c61, O18_8, O20_7, O19_10, hs, HS, f0, f1, f2, f3, f4, f5, f6, f7, o8_0, o8_1, o7_0, o7_1, o10_0⟩ := hI
          have h0 : b 0 = true := hd 0 (by decide)
          obtain rfl := f0 h0
          have d8 : b 8 = false := bfalse (fun hh => hcl 8 (by decide) (hh) 1 (by decide)) hb
          obtain rfl := o8_0 d8
          refine GO.at hs ?_
          refine GO.ldBox (j := 1) HS rfl rfl rfl rfl na26 rfl ?_
          refine GO.fin (fun a hs => ?_)
          exact ⟨_, (.slice A38 t48.length c39), _, _, _, _, _, _, b57, A60, c61, _, _, _, hs.weak ⟨rfl, rfl, rfl, rfl, rfl, rfl, rfl, rfl, rfl, rfl, rfl, rfl, trivial⟩, HS.pick 9 [0, 1, 2, 3, 4, 5, 6, 7, 8], f0, fun _ => rfl, f2, f3, f4, f5, f6, f7, o8_0, o8_1, o7_0, o7_1, o10_0⟩
         | 2, _ =>
          obtain ⟨Y10_0, Y11_1, Y12_2, Y13_3, Y14_4, Y15_5, Y16_6, Y17_7, b57, A60, c61, O18_8, O20_7, O19_10, hs, HS, f0, f1, f2, f3, f4, f5, f6, f7, o8_0, o8_1, o7_0, o7_1, o10_0⟩ := hI
          refine GO.at hs ?_
          refine GO.move rfl rfl rfl ?_
          refine GO.fin (fun a hs => ?_)
          exact ⟨_, _, (.int .i64 v), _, _, _, _, _, b57, A60, c61, _, _, _, hs.weak ⟨rfl, rfl, rfl, rfl, rfl, rfl, rfl, rfl, rfl, rfl, rfl, rfl, trivial⟩, HS.pick 9 [0, 1, 2, 3, 4, 5, 6, 7, 8], f0, f1, fun _ => rfl, f3, f4, f5, f6, f7, o8_0, o8_1, o7_0, o7_1, o10_0⟩
         | 3, _ =>
          obtain ⟨Y10_0, Y11_1, Y12_2, Y13_3, Y14_4, Y15_5, Y16_6, Y17_7, b57, A60, c61, O18_8, O20_7, O19_10, hs, HS, f0, f1, f2, f3, f4, f5, f6, f7, o8_0, o8_1, o7_0, o7_1, o10_0⟩ := hI
          have h2 : b 2 = true := hd 2 (by decide)
          obtain rfl := f2 h2
          refine GO.at hs ?_
          refine GO.ixP 0 rfl rfl rfl c56 Try.underlying72 sz58 rfl rfl ?_
          refine GO.fin (fun a hs => ?_)
          exact ⟨_, _, _, (.pointer (some ⟨b53, 0, none⟩)), _, _, _, _, b57, A60, c61, _, _, _, hs.weak ⟨rfl, rfl, rfl, rfl, rfl, rfl, rfl, rfl, rfl, rfl, rfl, rfl, trivial⟩, HS.pick 9 [0, 1, 2, 3, 4, 5, 6, 7, 8], f0, f1, f2, fun _ => rfl, f4, f5, f6, f7, o8_0, o8_1, o7_0, o7_1, o10_0⟩
         | 4, _ =>
          obtain ⟨Y10_0, Y11_1, Y12_2, Y13_3, Y14_4, Y15_5, Y16_6, Y17_7, b57, A60, c61, O18_8, O20_7, O19_10, hs, HS, f0, f1, f2, f3, f4, f5, f6, f7, o8_0, o8_1, o7_0, o7_1, o10_0⟩ := hI
          have h3 : b 3 = true := hd 3 (by decide)
          obtain rfl := f3 h3
          refine GO.at hs ?_
          refine GO.ldBoxA (j := 0) ([.int .i64 a_, .int .i64 (w64 (t31 + 1)), .int .i64 t31, .int .i64 t31, .int .i64 1]) HS rfl rfl rfl rfl ag58 rfl ?_
          refine GO.fin (fun a hs => ?_)
          exact ⟨_, _, _, _, (.agg [.int .i64 a_, .int .i64 (w64 (t31 + 1)), .int .i64 t31, .int .i64 t31, .int .i64 1].toArray), _, _, _, b57, A60, c61, _, _, _, hs.weak ⟨rfl, rfl, rfl, rfl, rfl, rfl, rfl, rfl, rfl, rfl, rfl, rfl, trivial⟩, HS.pick 9 [0, 1, 2, 3, 4, 5, 6, 7, 8], f0, f1, f2, f3, fun _ => rfl, f5, f6, f7, o8_0, o8_1, o7_0, o7_1, o10_0⟩
         | 5, _ =>
          obtain ⟨Y10_0, Y11_1, Y12_2, Y13_3, Y14_4, Y15_5, Y16_6, Y17_7, b57, A60, c61, O18_8, O20_7, O19_10, hs, HS, f0, f1, f2, f3, f4, f5, f6, f7, o8_0, o8_1, o7_0, o7_1, o10_0⟩ := hI
          have h4 : b 4 = true := hd 4 (by decide)
          obtain rfl := f4 h4
          refine GO.at hs ?_
          refine GO.buildS (el := 58) ([.int .i64 a_, .int .i64 (w64 (t31 + 1)), .int .i64 t31, .int .i64 t31, .int .i64 1]) HS rfl rfl (fun _ => by kernel_rfl) rfl ?_; intro b57 wd58 HS
          refine GO.fin (fun a hs => ?_)
          exact ⟨_, _, _, _, _, (.slice (some ⟨b57, 0, none⟩) 1 1), _, _, b57, A60, c61, _, _, Box b57 58 [.int .i64 a_, .int .i64 (w64 (t31 + 1)), .int .i64 t31, .int .i64 t31, .int .i64 1], hs.weak ⟨rfl, rfl, rfl, rfl, rfl, rfl, rfl, rfl, rfl, rfl, rfl, rfl, trivial⟩, HS.pick 10 [1, 2, 3, 4, 5, 6, 7, 8, 0], f0, f1, f2, f3, f4, fun _ => rfl, f6, f7, o8_0, o8_1, o7_0, o7_1, fun _ => rfl⟩
         | 6, _ =>
          obtain ⟨Y10_0, Y11_1, Y12_2, Y13_3, Y14_4, Y15_5, Y16_6, Y17_7, b57, A60, c61, O18_8, O20_7, O19_10, hs, HS, f0, f1, f2, f3, f4, f5, f6, f7, o8_0, o8_1, o7_0, o7_1, o10_0⟩ := hI
          have h1 : b 1 = true := hd 1 (by decide)
          obtain rfl := f1 h1
          have h5 : b 5 = true := hd 5 (by decide)
          obtain rfl := f5 h5
          obtain rfl := o10_0 h5
          obtain rfl := o7_0 hb
          refine GO.at hs ?_
          refine GO.app1 (T := T_GCrossing) (j := 2) (jb := 8) (⟨a_, w64 (t31 + 1), t31, t31, 1⟩ : GCrossing) HS rfl rfl flat_flat rfl rfl rfl Try.underlying26 inf58 rfl rfl rfl c62 rfl ?_; intro A60 c61 wd59 HS
          refine GO.fin (fun a hs => ?_)
          exact ⟨_, _, _, _, _, _, (.slice A60 (t48 ++ [(⟨a_, w64 (t31 + 1), t31, t31, 1⟩ : GCrossing)]).length c61), _, b57, A60, c61, _, Own T_GCrossing 58 A60 c61 (fun _ => ()) (t48 ++ [(⟨a_, w64 (t31 + 1), t31, t31, 1⟩ : GCrossing)]), _, hs.weak ⟨rfl, rfl, rfl, rfl, rfl, rfl, rfl, rfl, rfl, rfl, rfl, rfl, trivial⟩, HS.pick 9 [0, 1, 2, 3, 4, 5, 6, 7, 8], f0, f1, f2, f3, f4, f5, fun _ => rfl, f7, o8_0, fun hh => (Bool.noConfusion ((hcl 8 (by decide) hh 6 (by decide)).symm.trans hb)), fun h => Bool.noConfusion h, fun _ => rfl, o10_0⟩
         | 7, _ =>
          obtain ⟨Y10_0, Y11_1, Y12_2, Y13_3, Y14_4, Y15_5, Y16_6, Y17_7, b57, A60, c61, O18_8, O20_7, O19_10, hs, HS, f0, f1, f2, f3, f4, f5, f6, f7, o8_0, o8_1, o7_0, o7_1, o10_0⟩ := hI
          refine GO.at hs ?_
          refine GO.fld (⟨b42, 0, none⟩) rfl rfl fl28_0 rfl rfl ?_
          refine GO.fin (fun a hs => ?_)
          exact ⟨_, _, _, _, _, _, _, (.pointer (some ⟨b42, 0, none⟩)), b57, A60, c61, _, _, _, hs.weak ⟨rfl, rfl, rfl, rfl, rfl, rfl, rfl, rfl, rfl, rfl, rfl, rfl, trivial⟩, HS.pick 9 [0, 1, 2, 3, 4, 5, 6, 7, 8], f0, f1, f2, f3, f4, f5, f6, fun _ => rfl, o8_0, o8_1, o7_0, o7_1, o10_0⟩
         | 8, _ =>
          obtain ⟨Y10_0, Y11_1, Y12_2, Y13_3, Y14_4, Y15_5, Y16_6, Y17_7, b57, A60, c61, O18_8, O20_7, O19_10, hs, HS, f0, f1, f2, f3, f4, f5, f6, f7, o8_0, o8_1, o7_0, o7_1, o10_0⟩ := hI
          have h6 : b 6 = true := hd 6 (by decide)
          obtain rfl := f6 h6
          have h7 : b 7 = true := hd 7 (by decide)
          obtain rfl := f7 h7
          obtain rfl := o8_0 hb
          refine GO.at hs ?_
          refine GO.stBox (j := 1) (vs := [.slice A60 (t48 ++ [(⟨a_, w64 (t31 + 1), t31, t31, 1⟩ : GCrossing)]).length c61]) ([.slice A60 (t48 ++ [(⟨a_, w64 (t31 + 1), t31, t31, 1⟩ : GCrossing)]).length c61, .int .i64 t36]) HS rfl rfl rfl rfl rfl (htN na26 rfl) rfl rfl rfl ?_; intro wd63 HS
          refine GO.fin (fun a hs => ?_)
          exact ⟨_, _, _, _, _, _, _, _, b57, A60, c61, Box b42 28 [.slice A60 (t48 ++ [(⟨a_, w64 (t31 + 1), t31, t31, 1⟩ : GCrossing)]).length c61, .int .i64 t36], _, _, hs.weak ⟨rfl, rfl, rfl, rfl, rfl, rfl, rfl, rfl, rfl, rfl, rfl, rfl, trivial⟩, HS.pick 9 [0, 1, 2, 3, 4, 5, 6, 7, 8], f0, f1, f2, f3, f4, f5, f6, f7, fun h => Bool.noConfusion h, fun _ => rfl, o7_0, o7_1, o10_0⟩
         | k + 9, hj => exact absurd hj (Nat.not_lt.2 (Nat.le_add_left 9 k))
        ·
         intro b a w hall hI
         obtain ⟨Y10_0, Y11_1, Y12_2, Y13_3, Y14_4, Y15_5, Y16_6, Y17_7, b57, A60, c61, O18_8, O20_7, O19_10, hs, HS, f0, f1, f2, f3, f4, f5, f6, f7, o8_0, o8_1, o7_0, o7_1, o10_0⟩ := hI
         obtain rfl := f0 (hall 0 (by decide))
         obtain rfl := f1 (hall 1 (by decide))
         obtain rfl := f2 (hall 2 (by decide))
         obtain rfl := f3 (hall 3 (by decide))
         obtain rfl := f4 (hall 4 (by decide))
         obtain rfl := f5 (hall 5 (by decide))
         obtain rfl := f6 (hall 6 (by decide))
         obtain rfl := f7 (hall 7 (by decide))
         obtain rfl := o8_1 (hall 8 (by decide))
         obtain rfl := o7_1 (hall 6 (by decide))
         obtain rfl := o10_0 (hall 5 (by decide))
         refine G.at hs ?_
         refine G.seq ?_
         refine G.region ?_
         refine GO.ldBoxA (j := 1) ([.slice A60 (t48 ++ [(⟨a_, w64 (t31 + 1), t31, t31, 1⟩ : GCrossing)]).length c61, .int .i64 t36]) HS rfl rfl rfl rfl ag28 rfl ?_
         refine GO.stBox (j := 6) (vs := [.slice A60 (t48 ++ [(⟨a_, w64 (t31 + 1), t31, t31, 1⟩ : GCrossing)]).length c61, .int .i64 t36]) ([.slice A60 (t48 ++ [(⟨a_, w64 (t31 + 1), t31, t31, 1⟩ : GCrossing)]).length c61, .int .i64 t36]) HS rfl rfl rfl rfl rfl (htA ag28) rfl rfl rfl ?_; intro wd64 HS
         refine GO.assign rfl rfl rfl ?_
         refine GO.nil ?_
         obtain ⟨rfl, rfl, rfl⟩ := some3 H
         exact G.ret2 _ _ Try.func15 rfl (Res1.boxA (j := 6) (vs := [.slice A60 (t48 ++ [(⟨a_, w64 (t31 + 1), t31, t31, 1⟩ : GCrossing)]).length c61, .int .i64 t36]) HS rfl rfl rfl ag28) rfl ⟨_, _, rfl, (HS.pick 9 [2])⟩
       ·
        rcases ite_elim H with ⟨c65, H⟩ | ⟨c65, H⟩
        ·
         obtain ⟨c71, H⟩ := ite_none H
         refine G.regionAny mixed (by decide) (fun b a w => ∃ (Y21_0 : Value) (Y22_1 : Value) (Y23_2 : Value) (Y24_3 : Value) (Y25_4 : Value) (Y26_5 : Value) (Y27_6 : Value) (Y28_7 : Value) (b66 : Nat) (A69 : Option Addr) (c70 : Nat) (O29_8 : HObj) (O31_7 : HObj) (O30_11 : HObj), Sat 86 [(77, Y21_0), (78, Y22_1), (79, Y23_2), (80, Y24_3), (81, Y25_4), (82, Y26_5), (83, Y27_6), (84, Y28_7), (2, .int .i64 v), (6, .pointer (some ⟨b3, 0, none⟩)), (12, .pointer (some ⟨b42, 0, none⟩)), (13, .pointer (some ⟨b53, 0, none⟩))] a ∧ St w0 w (Box b53 72 [.int .i64 a_, .int .i64 (w64 (t31 + 1)), .int .i64 t31, .int .i64 t31, .int .i64 1, .int .i64 a_, .int .i64 t31, .int .i64 t31, .int .i64 (w64 (t31 + 1)), .int .i64 (-1), .int .i64 t31, .int .i64 t31, .int .i64 (w64 (t31 + 1)), .int .i64 a_, .int .i64 1, .int .i64 t31, .int .i64 a_, .int .i64 (w64 (t31 + 1)), .int .i64 t31, .int .i64 (-1)] :: O29_8 :: O31_7 :: Box b15 63 [.slice A9 t5.length c10, .slice A11 t6.length c12] :: Own T_GEnd 68 A9 c10 (fun _ => ()) t5 :: Own T_GEnd 68 A11 c12 (fun _ => ()) t6 :: Box b3 28 [.slice none 0 0, .int .i64 0] :: Box b1 28 [.slice A_d_Crossings d_Crossings.length c_d_Crossings, .int .i64 d_Circles] :: O30_11 :: L) ∧ (b 0 = true → Y21_0 = (.pointer (some ⟨b42, 0, none⟩))) ∧ (b 1 = true → Y22_1 = (.slice A38 t48.length c39)) ∧ (b 2 = true → Y23_2 = (.int .i64 v)) ∧ (b 3 = true → Y24_3 = (.pointer (some ⟨b53, 5, none⟩))) ∧ (b 4 = true → Y25_4 = (.agg [.int .i64 a_, .int .i64 t31, .int .i64 t31, .int .i64 (w64 (t31 + 1)), .int .i64 (-1)].toArray)) ∧ (b 5 = true → Y26_5 = (.slice (some ⟨b66, 0, none⟩) 1 1)) ∧ (b 6 = true → Y27_6 = (.slice A69 (t48 ++ [(⟨a_, t31, t31, w64 (t31 + 1), (-1)⟩ : GCrossing)]).length c70)) ∧ (b 7 = true → Y28_7 = (.pointer (some ⟨b42, 0, none⟩))) ∧ (b 8 = false → O29_8 = Box b42 28 [.slice A38 t48.length c39, .int .i64 t36]) ∧ (b 8 = true → O29_8 = Box b42 28 [.slice A69 (t48 ++ [(⟨a_, t31, t31, w64 (t31 + 1), (-1)⟩ : GCrossing)]).length c70, .int .i64 t36]) ∧ (b 6 = false → O31_7 = Own T_GCrossing 58 A38 c39 (fun _ => ()) t48) ∧ (b 6 = true → O31_7 = Own T_GCrossing 58 A69 c70 (fun _ => ()) (t48 ++ [(⟨a_, t31, t31, w64 (t31 + 1), (-1)⟩ : GCrossing)])) ∧ (b 5 = true → O30_11 = Box b66 58 [.int .i64 a_, .int .i64 t31, .int .i64 t31, .int .i64 (w64 (t31 + 1)), .int .i64 (-1)])) ?_ ?_ ?_
         ·
          intro a hs
          obtain ⟨Y21_0, hs⟩ := hs.ext (d := 77) rfl
          obtain ⟨Y22_1, hs⟩ := hs.ext (d := 78) rfl
          obtain ⟨Y23_2, hs⟩ := hs.ext (d := 79) rfl
          obtain ⟨Y24_3, hs⟩ := hs.ext (d := 80) rfl
          obtain ⟨Y25_4, hs⟩ := hs.ext (d := 81) rfl
          obtain ⟨Y26_5, hs⟩ := hs.ext (d := 82) rfl
          obtain ⟨Y27_6, hs⟩ := hs.ext (d := 83) rfl
          obtain ⟨Y28_7, hs⟩ := hs.ext (d := 84) rfl
          exact ⟨Y21_0, Y22_1, Y23_2, Y24_3, Y25_4, Y26_5, Y27_6, Y28_7, 0, none, 0, Box b42 28 [.slice A38 t48.length c39, .int .i64 t36], Own T_GCrossing 58 A38 c39 (fun _ => ()) t48, Emp, hs.weak ⟨rfl, rfl, rfl, rfl, rfl, rfl, rfl, rfl, rfl, rfl, rfl, rfl, trivial⟩, (HS.drew.emp.pick 9 [1, 2, 3, 4, 5, 6, 7, 8, 0]), fun h => Bool.noConfusion h, fun h => Bool.noConfusion h, fun h => Bool.noConfusion h, fun h => Bool.noConfusion h, fun h => Bool.noConfusion h, fun h => Bool.noConfusion h, fun h => Bool.noConfusion h, fun h => Bool.noConfusion h, fun _ => rfl, fun h => Bool.noConfusion h, fun _ => rfl, fun h => Bool.noConfusion h, fun h => Bool.noConfusion h⟩
         ·
          intro j hj b a w hI hb hd hcl
          match j, hj with
          | 0, _ =>
           obtain ⟨Y21_0, Y22_1, Y23_2, Y24_3, Y25_4, Y26_5, Y27_6, Y28_7, b66, A69, c70, O29_8, O31_7, O30_11, hs, HS, f0, f1, f2, f3, f4, f5, f6, f7, o8_0, o8_1, o7_0, o7_1, o11_0⟩ := hI
           refine GO.at hs ?_
           refine GO.fld (⟨b42, 0, none⟩) rfl rfl fl28_0 rfl rfl ?_
           refine GO.fin (fun a hs => ?_)
           exact ⟨(.pointer (some ⟨b42, 0, none⟩)), _, _, _, _, _, _, _, b66, A69, c70, _, _, _, hs.weak ⟨rfl, rfl, rfl, rfl, rfl, rfl, rfl, rfl, rfl, rfl, rfl, rfl, trivial⟩, HS.pick 9 [0, 1, 2, 3, 4, 5, 6, 7, 8], fun _ => rfl, f1, f2, f3, f4, f5, f6, f7, o8_0, o8_1, o7_0, o7_1, o11_0⟩
          | 1, _ =>
           obtain ⟨Y21_0, Y22_1, Y23_2, Y24_3, Y25_4, Y26_5, Y27_6, Y28_7, b66, A69, c70, O29_8, O31_7, O30_11, hs, HS, f0, f1, f2, f3, f4, f5, f6, f7, o8_0, o8_1, o7_0, o7_1, o11_0⟩ := hI
           have h0 : b 0 = true := hd 0 (by decide)
           obtain rfl := f0 h0
           have d8 : b 8 = false := bfalse (fun hh => hcl 8 (by decide) (hh) 1 (by decide)) hb
           obtain rfl := o8_0 d8
           refine GO.at hs ?_
           refine GO.ldBox (j := 1) HS rfl rfl rfl rfl na26 rfl ?_
           refine GO.fin (fun a hs => ?_)
           exact ⟨_, (.slice A38 t48.length c39), _, _, _, _, _, _, b66, A69, c70, _, _, _, hs.weak ⟨rfl, rfl, rfl, rfl, rfl, rfl, rfl, rfl, rfl, rfl, rfl, rfl, trivial⟩, HS.pick 9 [0, 1, 2, 3, 4, 5, 6, 7, 8], f0, fun _ => rfl, f2, f3, f4, f5, f6, f7, o8_0, o8_1, o7_0, o7_1, o11_0⟩
          | 2, _ =>
           obtain ⟨Y21_0, Y22_1, Y23_2, Y24_3, Y25_4, Y26_5, Y27_6, Y28_7, b66, A69, c70, O29_8, O31_7, O30_11, hs, HS, f0, f1, f2, f3, f4, f5, f6, f7, o8_0, o8_1, o7_0, o7_1, o11_0⟩ := hI
           refine GO.at hs ?_
           refine GO.move rfl rfl rfl ?_
           refine GO.fin (fun a hs => ?_)
           exact ⟨_, _, (.int .i64 v), _, _, _, _, _, b66, A69, c70, _, _, _, hs.weak ⟨rfl, rfl, rfl, rfl, rfl, rfl, rfl, rfl, rfl, rfl, rfl, rfl, trivial⟩, HS.pick 9 [0, 1, 2, 3, 4, 5, 6, 7, 8], f0, f1, fun _ => rfl, f3, f4, f5, f6, f7, o8_0, o8_1, o7_0, o7_1, o11_0⟩
          | 3, _ =>
           obtain ⟨Y21_0, Y22_1, Y23_2, Y24_3, Y25_4, Y26_5, Y27_6, Y28_7, b66, A69, c70, O29_8, O31_7, O30_11, hs, HS, f0, f1, f2, f3, f4, f5, f6, f7, o8_0, o8_1, o7_0, o7_1, o11_0⟩ := hI
           have h2 : b 2 = true := hd 2 (by decide)
           obtain rfl := f2 h2
           refine GO.at hs ?_
           refine GO.ixP 1 rfl rfl rfl c65 Try.underlying72 sz58 rfl rfl ?_
           refine GO.fin (fun a hs => ?_)
           exact ⟨_, _, _, (.pointer (some ⟨b53, 5, none⟩)), _, _, _, _, b66, A69, c70, _, _, _, hs.weak ⟨rfl, rfl, rfl, rfl, rfl, rfl, rfl, rfl, rfl, rfl, rfl, rfl, trivial⟩, HS.pick 9 [0, 1, 2, 3, 4, 5, 6, 7, 8], f0, f1, f2, fun _ => rfl, f4, f5, f6, f7, o8_0, o8_1, o7_0, o7_1, o11_0⟩
          | 4, _ =>
           obtain ⟨Y21_0, Y22_1, Y23_2, Y24_3, Y25_4, Y26_5, Y27_6, Y28_7, b66, A69, c70, O29_8, O31_7, O30_11, hs, HS, f0, f1, f2, f3, f4, f5, f6, f7, o8_0, o8_1, o7_0, o7_1, o11_0⟩ := hI
           have h3 : b 3 = true := hd 3 (by decide)
           obtain rfl := f3 h3
           refine GO.at hs ?_
           refine GO.ldBoxA (j := 0) ([.int .i64 a_, .int .i64 t31, .int .i64 t31, .int .i64 (w64 (t31 + 1)), .int .i64 (-1)]) HS rfl rfl rfl rfl ag58 rfl ?_
           refine GO.fin (fun a hs => ?_)
           exact ⟨_, _, _, _, (.agg [.int .i64 a_, .int .i64 t31, .int .i64 t31, .int .i64 (w64 (t31 + 1)), .int .i64 (-1)].toArray), _, _, _, b66, A69, c70, _, _, _, hs.weak ⟨rfl, rfl, rfl, rfl, rfl, rfl, rfl, rfl, rfl, rfl, rfl, rfl, trivial⟩, HS.pick 9 [0, 1, 2, 3, 4, 5, 6, 7, 8], f0, f1, f2, f3, fun _ => rfl, f5, f6, f7, o8_0, o8_1, o7_0, o7_1, o11_0⟩
          | 5, _ =>
           obtain ⟨Y21_0, Y22_1, Y23_2, Y24_3, Y25_4, Y26_5, Y27_6, Y28_7, b66, A69, c70, O29_8, O31_7, O30_11, hs, HS, f0, f1, f2, f3, f4, f5, f6, f7, o8_0, o8_1, o7_0, o7_1, o11_0⟩ := hI
           have h4 : b 4 = true := hd 4 (by decide)
           obtain rfl := f4 h4
           refine GO.at hs ?_
           refine GO.buildS (el := 58) ([.int .i64 a_, .int .i64 t31, .int .i64 t31, .int .i64 (w64 (t31 + 1)), .int .i64 (-1)]) HS rfl rfl (fun _ => by kernel_rfl) rfl ?_; intro b66 wd67 HS
           refine GO.fin (fun a hs => ?_)
           exact ⟨_, _, _, _, _, (.slice (some ⟨b66, 0, none⟩) 1 1), _, _, b66, A69, c70, _, _, Box b66 58 [.int .i64 a_, .int .i64 t31, .int .i64 t31, .int .i64 (w64 (t31 + 1)), .int .i64 (-1)], hs.weak ⟨rfl, rfl, rfl, rfl, rfl, rfl, rfl, rfl, rfl, rfl, rfl, rfl, trivial⟩, HS.pick 10 [1, 2, 3, 4, 5, 6, 7, 8, 0], f0, f1, f2, f3, f4, fun _ => rfl, f6, f7, o8_0, o8_1, o7_0, o7_1, fun _ => rfl⟩
          | 6, _ =>
           obtain ⟨Y21_0, Y22_1, Y23_2, Y24_3, Y25_4, Y26_5, Y27_6, Y28_7, b66, A69, c70, O29_8, O31_7, O30_11, hs, HS, f0, f1, f2, f3, f4, f5, f6, f7, o8_0, o8_1, o7_0, o7_1, o11_0⟩ := hI
           have h1 : b 1 = true := hd 1 (by decide)
           obtain rfl := f1 h1
           have h5 : b 5 = true := hd 5 (by decide)
           obtain rfl := f5 h5
           obtain rfl := o11_0 h5
           obtain rfl := o7_0 hb
           refine GO.at hs ?_
           refine GO.app1 (T := T_GCrossing) (j := 2) (jb := 8) (⟨a_, t31, t31, w64 (t31 + 1), (-1)⟩ : GCrossing) HS rfl rfl flat_flat rfl rfl rfl Try.underlying26 inf58 rfl rfl rfl c71 rfl ?_; intro A69 c70 wd68 HS
           refine GO.fin (fun a hs => ?_)
           exact ⟨_, _, _, _, _, _, (.slice A69 (t48 ++ [(⟨a_, t31, t31, w64 (t31 + 1), (-1)⟩ : GCrossing)]).length c70), _, b66, A69, c70, _, Own T_GCrossing 58 A69 c70 (fun _ => ()) (t48 ++ [(⟨a_, t31, t31, w64 (t31 + 1), (-1)⟩ : GCrossing)]), _, hs.weak ⟨rfl, rfl, rfl, rfl, rfl, rfl, rfl, rfl, rfl, rfl, rfl, rfl, trivial⟩, HS.pick 9 [0, 1, 2, 3, 4, 5, 6, 7, 8], f0, f1, f2, f3, f4, f5, fun _ => rfl, f7, o8_0, fun hh => (Bool.noConfusion ((hcl 8 (by decide) hh 6 (by decide)).symm.trans hb)), fun h => Bool.noConfusion h, fun _ => rfl, o11_0⟩
          | 7, _ =>
           obtain ⟨Y21_0, Y22_1, Y23_2, Y24_3, Y25_4, Y26_5, Y27_6, Y28_7, b66, A69, c70, O29_8, O31_7, O30_11, hs, HS, f0, f1, f2, f3, f4, f5, f6, f7, o8_0, o8_1, o7_0, o7_1, o11_0⟩ := hI
           refine GO.at hs ?_
           refine GO.fld (⟨b42, 0, none⟩) rfl rfl fl28_0 rfl rfl ?_
           refine GO.fin (fun a hs => ?_)
           exact ⟨_, _, _, _, _, _, _, (.pointer (some ⟨b42, 0, none⟩)), b66, A69, c70, _, _, _, hs.weak ⟨rfl, rfl, rfl, rfl, rfl, rfl, rfl, rfl, rfl, rfl, rfl, rfl, trivial⟩, HS.pick 9 [0, 1, 2, 3, 4, 5, 6, 7, 8], f0, f1, f2, f3, f4, f5, f6, fun _ => rfl, o8_0, o8_1, o7_0, o7_1, o11_0⟩
          | 8, _ =>
           obtain ⟨Y21_0, Y22_1, Y23_2, Y24_3, Y25_4, Y26_5, Y27_6, Y28_7, b66, A69, c70, O29_8, O31_7, O30_11, hs, HS, f0, f1, f2, f3, f4, f5, f6, f7, o8_0, o8_1, o7_0, o7_1, o11_0⟩ := hI
           have h6 : b 6 = true := hd 6 (by decide)
           obtain rfl := f6 h6
           have h7 : b 7 = true := hd 7 (by decide)
           obtain rfl := f7 h7
           obtain rfl := o8_0 hb
           refine GO.at hs ?_
           refine GO.stBox (j := 1) (vs := [.slice A69 (t48 ++ [(⟨a_, t31, t31, w64 (t31 + 1), (-1)⟩ : GCrossing)]).length c70]) ([.slice A69 (t48 ++ [(⟨a_, t31, t31, w64 (t31 + 1), (-1)⟩ : GCrossing)]).length c70, .int .i64 t36]) HS rfl rfl rfl rfl rfl (htN na26 rfl) rfl rfl rfl ?_; intro wd72 HS
           refine GO.fin (fun a hs => ?_)
           exact ⟨_, _, _, _, _, _, _, _, b66, A69, c70, Box b42 28 [.slice A69 (t48 ++ [(⟨a_, t31, t31, w64 (t31 + 1), (-1)⟩ : GCrossing)]).length c70, .int .i64 t36], _, _, hs.weak ⟨rfl, rfl, rfl, rfl, rfl, rfl, rfl, rfl, rfl, rfl, rfl, rfl, trivial⟩, HS.pick 9 [0, 1, 2, 3, 4, 5, 6, 7, 8], f0, f1, f2, f3, f4, f5, f6, f7, fun h => Bool.noConfusion h, fun _ => rfl, o7_0, o7_1, o11_0⟩
          | k + 9, hj => exact absurd hj (Nat.not_lt.2 (Nat.le_add_left 9 k))
         ·
          intro b a w hall hI
          obtain ⟨Y21_0, Y22_1, Y23_2, Y24_3, Y25_4, Y26_5, Y27_6, Y28_7, b66, A69, c70, O29_8, O31_7, O30_11, hs, HS, f0, f1, f2, f3, f4, f5, f6, f7, o8_0, o8_1, o7_0, o7_1, o11_0⟩ := hI
          obtain rfl := f0 (hall 0 (by decide))
          obtain rfl := f1 (hall 1 (by decide))
          obtain rfl := f2 (hall 2 (by decide))
          obtain rfl := f3 (hall 3 (by decide))
          obtain rfl := f4 (hall 4 (by decide))
          obtain rfl := f5 (hall 5 (by decide))
          obtain rfl := f6 (hall 6 (by decide))
          obtain rfl := f7 (hall 7 (by decide))
          obtain rfl := o8_1 (hall 8 (by decide))
          obtain rfl := o7_1 (hall 6 (by decide))
          obtain rfl := o11_0 (hall 5 (by decide))
          refine G.at hs ?_
          refine G.seq ?_
          refine G.region ?_
          refine GO.ldBoxA (j := 1) ([.slice A69 (t48 ++ [(⟨a_, t31, t31, w64 (t31 + 1), (-1)⟩ : GCrossing)]).length c70, .int .i64 t36]) HS rfl rfl rfl rfl ag28 rfl ?_
          refine GO.stBox (j := 6) (vs := [.slice A69 (t48 ++ [(⟨a_, t31, t31, w64 (t31 + 1), (-1)⟩ : GCrossing)]).length c70, .int .i64 t36]) ([.slice A69 (t48 ++ [(⟨a_, t31, t31, w64 (t31 + 1), (-1)⟩ : GCrossing)]).length c70, .int .i64 t36]) HS rfl rfl rfl rfl rfl (htA ag28) rfl rfl rfl ?_; intro wd73 HS
          refine GO.assign rfl rfl rfl ?_
          refine GO.nil ?_
          obtain ⟨rfl, rfl, rfl⟩ := some3 H
          exact G.ret2 _ _ Try.func15 rfl (Res1.boxA (j := 6) (vs := [.slice A69 (t48 ++ [(⟨a_, t31, t31, w64 (t31 + 1), (-1)⟩ : GCrossing)]).length c70, .int .i64 t36]) HS rfl rfl rfl ag28) rfl ⟨_, _, rfl, (HS.pick 9 [2])⟩
        ·
         rcases ite_elim H with ⟨c74, H⟩ | ⟨c74, H⟩
         ·
          obtain ⟨c80, H⟩ := ite_none H
          refine G.regionAny mixed (by decide) (fun b a w => ∃ (Y32_0 : Value) (Y33_1 : Value) (Y34_2 : Value) (Y35_3 : Value) (Y36_4 : Value) (Y37_5 : Value) (Y38_6 : Value) (Y39_7 : Value) (b75 : Nat) (A78 : Option Addr) (c79 : Nat) (O40_8 : HObj) (O42_7 : HObj) (O41_12 : HObj), Sat 86 [(77, Y32_0), (78, Y33_1), (79, Y34_2), (80, Y35_3), (81, Y36_4), (82, Y37_5), (83, Y38_6), (84, Y39_7), (2, .int .i64 v), (6, .pointer (some ⟨b3, 0, none⟩)), (12, .pointer (some ⟨b42, 0, none⟩)), (13, .pointer (some ⟨b53, 0, none⟩))] a ∧ St w0 w (Box b53 72 [.int .i64 a_, .int .i64 (w64 (t31 + 1)), .int .i64 t31, .int .i64 t31, .int .i64 1, .int .i64 a_, .int .i64 t31, .int .i64 t31, .int .i64 (w64 (t31 + 1)), .int .i64 (-1), .int .i64 t31, .int .i64 t31, .int .i64 (w64 (t31 + 1)), .int .i64 a_, .int .i64 1, .int .i64 t31, .int .i64 a_, .int .i64 (w64 (t31 + 1)), .int .i64 t31, .int .i64 (-1)] :: O40_8 :: O42_7 :: Box b15 63 [.slice A9 t5.length c10, .slice A11 t6.length c12] :: Own T_GEnd 68 A9 c10 (fun _ => ()) t5 :: Own T_GEnd 68 A11 c12 (fun _ => ()) t6 :: Box b3 28 [.slice none 0 0, .int .i64 0] :: Box b1 28 [.slice A_d_Crossings d_Crossings.length c_d_Crossings, .int .i64 d_Circles] :: O41_12 :: L) ∧ (b 0 = true → Y32_0 = (.pointer (some ⟨b42, 0, none⟩))) ∧ (b 1 = true → Y33_1 = (.slice A38 t48.length c39)) ∧ (b 2 = true → Y34_2 = (.int .i64 v)) ∧ (b 3 = true → Y35_3 = (.pointer (some ⟨b53, 10, none⟩))) ∧ (b 4 = true → Y36_4 = (.agg [.int .i64 t31, .int .i64 t31, .int .i64 (w64 (t31 + 1)), .int .i64 a_, .int .i64 1].toArray)) ∧ (b 5 = true → Y37_5 = (.slice (some ⟨b75, 0, none⟩) 1 1)) ∧ (b 6 = true → Y38_6 = (.slice A78 (t48 ++ [(⟨t31, t31, w64 (t31 + 1), a_, 1⟩ : GCrossing)]).length c79)) ∧ (b 7 = true → Y39_7 = (.pointer (some ⟨b42, 0, none⟩))) ∧ (b 8 = false → O40_8 = Box b42 28 [.slice A38 t48.length c39, .int .i64 t36]) ∧ (b 8 = true → O40_8 = Box b42 28 [.slice A78 (t48 ++ [(⟨t31, t31, w64 (t31 + 1), a_, 1⟩ : GCrossing)]).length c79, .int .i64 t36]) ∧ (b 6 = false → O42_7 = Own T_GCrossing 58 A38 c39 (fun _ => ()) t48) ∧ (b 6 = true → O42_7 = Own T_GCrossing 58 A78 c79 (fun _ => ()) (t48 ++ [(⟨t31, t31, w64 (t31 + 1), a_, 1⟩ : GCrossing)])) ∧ (b 5 = true → O41_12 = Box b75 58 [.int .i64 t31, .int .i64 t31, .int .i64 (w64 (t31 + 1)), .int .i64 a_, .int .i64 1])) ?_ ?_ ?_
          ·
           intro a hs
           obtain ⟨Y32_0, hs⟩ := hs.ext (d := 77) rfl
           obtain ⟨Y33_1, hs⟩ := hs.ext (d := 78) rfl
           obtain ⟨Y34_2, hs⟩ := hs.ext (d := 79) rfl
           obtain ⟨Y35_3, hs⟩ := hs.ext (d := 80) rfl
           obtain ⟨Y36_4, hs⟩ := hs.ext (d := 81) rfl
           obtain ⟨Y37_5, hs⟩ := hs.ext (d := 82) rfl
           obtain ⟨Y38_6, hs⟩ := hs.ext (d := 83) rfl
           obtain ⟨Y39_7, hs⟩ := hs.ext (d := 84) rfl
           exact ⟨Y32_0, Y33_1, Y34_2, Y35_3, Y36_4, Y37_5, Y38_6, Y39_7, 0, none, 0, Box b42 28 [.slice A38 t48.length c39, .int .i64 t36], Own T_GCrossing 58 A38 c39 (fun _ => ()) t48, Emp, hs.weak ⟨rfl, rfl, rfl, rfl, rfl, rfl, rfl, rfl, rfl, rfl, rfl, rfl, trivial⟩, (HS.drew.emp.pick 9 [1, 2, 3, 4, 5, 6, 7, 8, 0]), fun h => Bool.noConfusion h, fun h => Bool.noConfusion h, fun h => Bool.noConfusion h, fun h => Bool.noConfusion h, fun h => Bool.noConfusion h, fun h => Bool.noConfusion h, fun h => Bool.noConfusion h, fun h => Bool.noConfusion h, fun _ => rfl, fun h => Bool.noConfusion h, fun _ => rfl, fun h => Bool.noConfusion h, fun h => Bool.noConfusion h⟩
          ·
           intro j hj b a w hI hb hd hcl
           match j, hj with
           | 0, _ =>
            obtain ⟨Y32_0, Y33_1, Y34_2, Y35_3, Y36_4, Y37_5, Y38_6, Y39_7, b75, A78, c79, O40_8, O42_7, O41_12, hs, HS, f0, f1, f2, f3, f4, f5, f6, f7, o8_0, o8_1, o7_0, o7_1, o12_0⟩ := hI
            refine GO.at hs ?_
            refine GO.fld (⟨b42, 0, none⟩) rfl rfl fl28_0 rfl rfl ?_
            refine GO.fin (fun a hs => ?_)
            exact ⟨(.pointer (some ⟨b42, 0, none⟩)), _, _, _, _, _, _, _, b75, A78, c79, _, _, _, hs.weak ⟨rfl, rfl, rfl, rfl, rfl, rfl, rfl, rfl, rfl, rfl, rfl, rfl, trivial⟩, HS.pick 9 [0, 1, 2, 3, 4, 5, 6, 7, 8], fun _ => rfl, f1, f2, f3, f4, f5, f6, f7, o8_0, o8_1, o7_0, o7_1, o12_0⟩
           | 1, _ =>
            obtain ⟨Y32_0, Y33_1, Y34_2, Y35_3, Y36_4, Y37_5, Y38_6, Y39_7, b75, A78, c79, O40_8, O42_7, O41_12, hs, HS, f0, f1, f2, f3, f4, f5, f6, f7, o8_0, o8_1, o7_0, o7_1, o12_0⟩ := hI
            have h0 : b 0 = true := hd 0 (by decide)
            obtain rfl := f0 h0
            have d8 : b 8 = false := bfalse (fun hh => hcl 8 (by decide) (hh) 1 (by decide)) hb
            obtain rfl := o8_0 d8
            refine GO.at hs ?_
            refine GO.ldBox (j := 1) HS rfl rfl rfl rfl na26 rfl ?_
            refine GO.fin (fun a hs => ?_)
            exact ⟨_, (.slice A38 t48.length c39), _, _, _, _, _, _, b75, A78, c79, _, _, _, hs.weak ⟨rfl, rfl, rfl, rfl, rfl, rfl, rfl, rfl, rfl, rfl, rfl, rfl, trivial⟩, HS.pick 9 [0, 1, 2, 3, 4, 5, 6, 7, 8], f0, fun _ => rfl, f2, f3, f4, f5, f6, f7, o8_0, o8_1, o7_0, o7_1, o12_0⟩
           | 2, _ =>
            obtain ⟨Y32_0, Y33_1, Y34_2, Y35_3, Y36_4, Y37_5, Y38_6, Y39_7, b75, A78, c79, O40_8, O42_7, O41_12, hs, HS, f0, f1, f2, f3, f4, f5, f6, f7, o8_0, o8_1, o7_0, o7_1, o12_0⟩ := hI
            refine GO.at hs ?_
            refine GO.move rfl rfl rfl ?_
            refine GO.fin (fun a hs => ?_)
            exact ⟨_, _, (.int .i64 v), _, _, _, _, _, b75, A78, c79, _, _, _, hs.weak ⟨rfl, rfl, rfl, rfl, rfl, rfl, rfl, rfl, rfl, rfl, rfl, rfl, trivial⟩, HS.pick 9 [0, 1, 2, 3, 4, 5, 6, 7, 8], f0, f1, fun _ => rfl, f3, f4, f5, f6, f7, o8_0, o8_1, o7_0, o7_1, o12_0⟩
           | 3, _ =>
            obtain ⟨Y32_0, Y33_1, Y34_2, Y35_3, Y36_4, Y37_5, Y38_6, Y39_7, b75, A78, c79, O40_8, O42_7, O41_12, hs, HS, f0, f1, f2, f3, f4, f5, f6, f7, o8_0, o8_1, o7_0, o7_1, o12_0⟩ := hI
            have h2 : b 2 = true := hd 2 (by decide)
            obtain rfl := f2 h2
            refine GO.at hs ?_
            refine GO.ixP 2 rfl rfl rfl c74 Try.underlying72 sz58 rfl rfl ?_
            refine GO.fin (fun a hs => ?_)
            exact ⟨_, _, _, (.pointer (some ⟨b53, 10, none⟩)), _, _, _, _, b75, A78, c79, _, _, _, hs.weak ⟨rfl, rfl, rfl, rfl, rfl, rfl, rfl, rfl, rfl, rfl, rfl, rfl, trivial⟩, HS.pick 9 [0, 1, 2, 3, 4, 5, 6, 7, 8], f0, f1, f2, fun _ => rfl, f4, f5, f6, f7, o8_0, o8_1, o7_0, o7_1, o12_0⟩
           | 4, _ =>
            obtain ⟨Y32_0, Y33_1, Y34_2, Y35_3, Y36_4, Y37_5, Y38_6, Y39_7, b75, A78, c79, O40_8, O42_7, O41_12, hs, HS, f0, f1, f2, f3, f4, f5, f6, f7, o8_0, o8_1, o7_0, o7_1, o12_0⟩ := hI
            have h3 : b 3 = true := hd 3 (by decide)
            obtain rfl := f3 h3
            refine GO.at hs ?_
            refine GO.ldBoxA (j := 0) ([.int .i64 t31, .int .i64 t31, .int .i64 (w64 (t31 + 1)), .int .i64 a_, .int .i64 1]) HS rfl rfl rfl rfl ag58 rfl ?_
            refine GO.fin (fun a hs => ?_)
            exact ⟨_, _, _, _, (.agg [.int .i64 t31, .int .i64 t31, .int .i64 (w64 (t31 + 1)), .int .i64 a_, .int .i64 1].toArray), _, _, _, b75, A78, c79, _, _, _, hs.weak ⟨rfl, rfl, rfl, rfl, rfl, rfl, rfl, rfl, rfl, rfl, rfl, rfl, trivial⟩, HS.pick 9 [0, 1, 2, 3, 4, 5, 6, 7, 8], f0, f1, f2, f3, fun _ => rfl, f5, f6, f7, o8_0, o8_1, o7_0, o7_1, o12_0⟩
           | 5, _ =>
            obtain ⟨Y32_0, Y33_1, Y34_2, Y35_3, Y36_4, Y37_5, Y38_6, Y39_7, b75, A78, c79, O40_8, O42_7, O41_12, hs, HS, f0, f1, f2, f3, f4, f5, f6, f7, o8_0, o8_1, o7_0, o7_1, o12_0⟩ := hI
            have h4 : b 4 = true := hd 4 (by decide)
            obtain rfl := f4 h4
            refine GO.at hs ?_
            refine GO.buildS (el := 58) ([.int .i64 t31, .int .i64 t31, .int .i64 (w64 (t31 + 1)), .int .i64 a_, .int .i64 1]) HS rfl rfl (fun _ => by kernel_rfl) rfl ?_; intro b75 wd76 HS
            refine GO.fin (fun a hs => ?_)
            exact ⟨_, _, _, _, _, (.slice (some ⟨b75, 0, none⟩) 1 1), _, _, b75, A78, c79, _, _, Box b75 58 [.int .i64 t31, .int .i64 t31, .int .i64 (w64 (t31 + 1)), .int .i64 a_, .int .i64 1], hs.weak ⟨rfl, rfl, rfl, rfl, rfl, rfl, rfl, rfl, rfl, rfl, rfl, rfl, trivial⟩, HS.pick 10 [1, 2, 3, 4, 5, 6, 7, 8, 0], f0, f1, f2, f3, f4, fun _ => rfl, f6, f7, o8_0, o8_1, o7_0, o7_1, fun _ => rfl⟩
           | 6, _ =>
            obtain ⟨Y32_0, Y33_1, Y34_2, Y35_3, Y36_4, Y37_5, Y38_6, Y39_7, b75, A78, c79, O40_8, O42_7, O41_12, hs, HS, f0, f1, f2, f3, f4, f5, f6, f7, o8_0, o8_1, o7_0, o7_1, o12_0⟩ := hI
            have h1 : b 1 = true := hd 1 (by decide)
            obtain rfl := f1 h1
            have h5 : b 5 = true := hd 5 (by decide)
            obtain rfl := f5 h5
            obtain rfl := o12_0 h5
            obtain rfl := o7_0 hb
            refine GO.at hs ?_
            refine GO.app1 (T := T_GCrossing) (j := 2) (jb := 8) (⟨t31, t31, w64 (t31 + 1), a_, 1⟩ : GCrossing) HS rfl rfl flat_flat rfl rfl rfl Try.underlying26 inf58 rfl rfl rfl c80 rfl ?_; intro A78 c79 wd77 HS
            refine GO.fin (fun a hs => ?_)
            exact ⟨_, _, _, _, _, _, (.slice A78 (t48 ++ [(⟨t31, t31, w64 (t31 + 1), a_, 1⟩ : GCrossing)]).length c79), _, b75, A78, c79, _, Own T_GCrossing 58 A78 c79 (fun _ => ()) (t48 ++ [(⟨t31, t31, w64 (t31 + 1), a_, 1⟩ : GCrossing)]), _, hs.weak ⟨rfl, rfl, rfl, rfl, rfl, rfl, rfl, rfl, rfl, rfl, rfl, rfl, trivial⟩, HS.pick 9 [0, 1, 2, 3, 4, 5, 6, 7, 8], f0, f1, f2, f3, f4, f5, fun _ => rfl, f7, o8_0, fun hh => (Bool.noConfusion ((hcl 8 (by decide) hh 6 (by decide)).symm.trans hb)), fun h => Bool.noConfusion h, fun _ => rfl, o12_0⟩
           | 7, _ =>
            obtain ⟨Y32_0, Y33_1, Y34_2, Y35_3, Y36_4, Y37_5, Y38_6, Y39_7, b75, A78, c79, O40_8, O42_7, O41_12, hs, HS, f0, f1, f2, f3, f4, f5, f6, f7, o8_0, o8_1, o7_0, o7_1, o12_0⟩ := hI
            refine GO.at hs ?_
            refine GO.fld (⟨b42, 0, none⟩) rfl rfl fl28_0 rfl rfl ?_
            refine GO.fin (fun a hs => ?_)
            exact ⟨_, _, _, _, _, _, _, (.pointer (some ⟨b42, 0, none⟩)), b75, A78, c79, _, _, _, hs.weak ⟨rfl, rfl, rfl, rfl, rfl, rfl, rfl, rfl, rfl, rfl, rfl, rfl, trivial⟩, HS.pick 9 [0, 1, 2, 3, 4, 5, 6, 7, 8], f0, f1, f2, f3, f4, f5, f6, fun _ => rfl, o8_0, o8_1, o7_0, o7_1, o12_0⟩
           | 8, _ =>
            obtain ⟨Y32_0, Y33_1, Y34_2, Y35_3, Y36_4, Y37_5, Y38_6, Y39_7, b75, A78, c79, O40_8, O42_7, O41_12, hs, HS, f0, f1, f2, f3, f4, f5, f6, f7, o8_0, o8_1, o7_0, o7_1, o12_0⟩ := hI
            have h6 : b 6 = true := hd 6 (by decide)
            obtain rfl := f6 h6
            have h7 : b 7 = true := hd 7 (by decide)
            obtain rfl := f7 h7
            obtain rfl := o8_0 hb
            refine GO.at hs ?_
            refine GO.stBox (j := 1) (vs := [.slice A78 (t48 ++ [(⟨t31, t31, w64 (t31 + 1), a_, 1⟩ : GCrossing)]).length c79]) ([.slice A78 (t48 ++ [(⟨t31, t31, w64 (t31 + 1), a_, 1⟩ : GCrossing)]).length c79, .int .i64 t36]) HS rfl rfl rfl rfl rfl (htN na26 rfl) rfl rfl rfl ?_; intro wd81 HS
            refine GO.fin (fun a hs => ?_)
            exact ⟨_, _, _, _, _, _, _, _, b75, A78, c79, Box b42 28 [.slice A78 (t48 ++ [(⟨t31, t31, w64 (t31 + 1), a_, 1⟩ : GCrossing)]).length c79, .int .i64 t36], _, _, hs.weak ⟨rfl, rfl, rfl, rfl, rfl, rfl, rfl, rfl, rfl, rfl, rfl, rfl, trivial⟩, HS.pick 9 [0, 1, 2, 3, 4, 5, 6, 7, 8], f0, f1, f2, f3, f4, f5, f6, f7, fun h => Bool.noConfusion h, fun _ => rfl, o7_0, o7_1, o12_0⟩
           | k + 9, hj => exact absurd hj (Nat.not_lt.2 (Nat.le_add_left 9 k))
          ·
           intro b a w hall hI
           obtain ⟨Y32_0, Y33_1, Y34_2, Y35_3, Y36_4, Y37_5, Y38_6, Y39_7, b75, A78, c79, O40_8, O42_7, O41_12, hs, HS, f0, f1, f2, f3, f4, f5, f6, f7, o8_0, o8_1, o7_0, o7_1, o12_0⟩ := hI
           obtain rfl := f0 (hall 0 (by decide))
           obtain rfl := f1 (hall 1 (by decide))
           obtain rfl := f2 (hall 2 (by decide))
           obtain rfl := f3 (hall 3 (by decide))
           obtain rfl := f4 (hall 4 (by decide))
           obtain rfl := f5 (hall 5 (by decide))
           obtain rfl := f6 (hall 6 (by decide))
           obtain rfl := f7 (hall 7 (by decide))
           obtain rfl := o8_1 (hall 8 (by decide))
           obtain rfl := o7_1 (hall 6 (by decide))
           obtain rfl := o12_0 (hall 5 (by decide))
           refine G.at hs ?_
           refine G.seq ?_
           refine G.region ?_
           refine GO.ldBoxA (j := 1) ([.slice A78 (t48 ++ [(⟨t31, t31, w64 (t31 + 1), a_, 1⟩ : GCrossing)]).length c79, .int .i64 t36]) HS rfl rfl rfl rfl ag28 rfl ?_
           refine GO.stBox (j := 6) (vs := [.slice A78 (t48 ++ [(⟨t31, t31, w64 (t31 + 1), a_, 1⟩ : GCrossing)]).length c79, .int .i64 t36]) ([.slice A78 (t48 ++ [(⟨t31, t31, w64 (t31 + 1), a_, 1⟩ : GCrossing)]).length c79, .int .i64 t36]) HS rfl rfl rfl rfl rfl (htA ag28) rfl rfl rfl ?_; intro wd82 HS
           refine GO.assign rfl rfl rfl ?_
           refine GO.nil ?_
           obtain ⟨rfl, rfl, rfl⟩ := some3 H
           exact G.ret2 _ _ Try.func15 rfl (Res1.boxA (j := 6) (vs := [.slice A78 (t48 ++ [(⟨t31, t31, w64 (t31 + 1), a_, 1⟩ : GCrossing)]).length c79, .int .i64 t36]) HS rfl rfl rfl ag28) rfl ⟨_, _, rfl, (HS.pick 9 [2])⟩
         ·
          rcases ite_elim H with ⟨c83, H⟩ | ⟨c83, H⟩
          ·
           obtain ⟨c89, H⟩ := ite_none H
           refine G.regionAny mixed (by decide) (fun b a w => ∃ (Y43_0 : Value) (Y44_1 : Value) (Y45_2 : Value) (Y46_3 : Value) (Y47_4 : Value) (Y48_5 : Value) (Y49_6 : Value) (Y50_7 : Value) (b84 : Nat) (A87 : Option Addr) (c88 : Nat) (O51_8 : HObj) (O53_7 : HObj) (O52_13 : HObj), Sat 86 [(77, Y43_0), (78, Y44_1), (79, Y45_2), (80, Y46_3), (81, Y47_4), (82, Y48_5), (83, Y49_6), (84, Y50_7), (2, .int .i64 v), (6, .pointer (some ⟨b3, 0, none⟩)), (12, .pointer (some ⟨b42, 0, none⟩)), (13, .pointer (some ⟨b53, 0, none⟩))] a ∧ St w0 w (Box b53 72 [.int .i64 a_, .int .i64 (w64 (t31 + 1)), .int .i64 t31, .int .i64 t31, .int .i64 1, .int .i64 a_, .int .i64 t31, .int .i64 t31, .int .i64 (w64 (t31 + 1)), .int .i64 (-1), .int .i64 t31, .int .i64 t31, .int .i64 (w64 (t31 + 1)), .int .i64 a_, .int .i64 1, .int .i64 t31, .int .i64 a_, .int .i64 (w64 (t31 + 1)), .int .i64 t31, .int .i64 (-1)] :: O51_8 :: O53_7 :: Box b15 63 [.slice A9 t5.length c10, .slice A11 t6.length c12] :: Own T_GEnd 68 A9 c10 (fun _ => ()) t5 :: Own T_GEnd 68 A11 c12 (fun _ => ()) t6 :: Box b3 28 [.slice none 0 0, .int .i64 0] :: Box b1 28 [.slice A_d_Crossings d_Crossings.length c_d_Crossings, .int .i64 d_Circles] :: O52_13 :: L) ∧ (b 0 = true → Y43_0 = (.pointer (some ⟨b42, 0, none⟩))) ∧ (b 1 = true → Y44_1 = (.slice A38 t48.length c39)) ∧ (b 2 = true → Y45_2 = (.int .i64 v)) ∧ (b 3 = true → Y46_3 = (.pointer (some ⟨b53, 15, none⟩))) ∧ (b 4 = true → Y47_4 = (.agg [.int .i64 t31, .int .i64 a_, .int .i64 (w64 (t31 + 1)), .int .i64 t31, .int .i64 (-1)].toArray)) ∧ (b 5 = true → Y48_5 = (.slice (some ⟨b84, 0, none⟩) 1 1)) ∧ (b 6 = true → Y49_6 = (.slice A87 (t48 ++ [(⟨t31, a_, w64 (t31 + 1), t31, (-1)⟩ : GCrossing)]).length c88)) ∧ (b 7 = true → Y50_7 = (.pointer (some ⟨b42, 0, none⟩))) ∧ (b 8 = false → O51_8 = Box b42 28 [.slice A38 t48.length c39, .int .i64 t36]) ∧ (b 8 = true → O51_8 = Box b42 28 [.slice A87 (t48 ++ [(⟨t31, a_, w64 (t31 + 1), t31, (-1)⟩ : GCrossing)]).length c88, .int .i64 t36]) ∧ (b 6 = false → O53_7 = Own T_GCrossing 58 A38 c39 (fun _ => ()) t48) ∧ (b 6 = true → O53_7 = Own T_GCrossing 58 A87 c88 (fun _ => ()) (t48 ++ [(⟨t31, a_, w64 (t31 + 1), t31, (-1)⟩ : GCrossing)])) ∧ (b 5 = true → O52_13 = Box b84 58 [.int .i64 t31, .int .i64 a_, .int .i64 (w64 (t31 + 1)), .int .i64 t31, .int .i64 (-1)])) ?_ ?_ ?_
           ·
            intro a hs
            obtain ⟨Y43_0, hs⟩ := hs.ext (d := 77) rfl
            obtain ⟨Y44_1, hs⟩ := hs.ext (d := 78) rfl
            obtain ⟨Y45_2, hs⟩ := hs.ext (d := 79) rfl
            obtain ⟨Y46_3, hs⟩ := hs.ext (d := 80) rfl
            obtain ⟨Y47_4, hs⟩ := hs.ext (d := 81) rfl
            obtain ⟨Y48_5, hs⟩ := hs.ext (d := 82) rfl
            obtain ⟨Y49_6, hs⟩ := hs.ext (d := 83) rfl
            obtain ⟨Y50_7, hs⟩ := hs.ext (d := 84) rfl
            exact ⟨Y43_0, Y44_1, Y45_2, Y46_3, Y47_4, Y48_5, Y49_6, Y50_7, 0, none, 0, Box b42 28 [.slice A38 t48.length c39, .int .i64 t36], Own T_GCrossing 58 A38 c39 (fun _ => ()) t48, Emp, hs.weak ⟨rfl, rfl, rfl, rfl, rfl, rfl, rfl, rfl, rfl, rfl, rfl, rfl, trivial⟩, (HS.drew.emp.pick 9 [1, 2, 3, 4, 5, 6, 7, 8, 0]), fun h => Bool.noConfusion h, fun h => Bool.noConfusion h, fun h => Bool.noConfusion h, fun h => Bool.noConfusion h, fun h => Bool.noConfusion h, fun h => Bool.noConfusion h, fun h => Bool.noConfusion h, fun h => Bool.noConfusion h, fun _ => rfl, fun h => Bool.noConfusion h, fun _ => rfl, fun h => Bool.noConfusion h, fun h => Bool.noConfusion h⟩
           ·
            intro j hj b a w hI hb hd hcl
            match j, hj with
            | 0, _ =>
             obtain ⟨Y43_0, Y44_1, Y45_2, Y46_3, Y47_4, Y48_5, Y49_6, Y50_7, b84, A87, c88, O51_8, O53_7, O52_13, hs, HS, f0, f1, f2, f3, f4, f5, f6, f7, o8_0, o8_1, o7_0, o7_1, o13_0⟩ := hI
             refine GO.at hs ?_
             refine GO.fld (⟨b42, 0, none⟩) rfl rfl fl28_0 rfl rfl ?_
             refine GO.fin (fun a hs => ?_)
             exact ⟨(.pointer (some ⟨b42, 0, none⟩)), _, _, _, _, _, _, _, b84, A87, c88, _, _, _, hs.weak ⟨rfl, rfl, rfl, rfl, rfl, rfl, rfl, rfl, rfl, rfl, rfl, rfl, trivial⟩, HS.pick 9 [0, 1, 2, 3, 4, 5, 6, 7, 8], fun _ => rfl, f1, f2, f3, f4, f5, f6, f7, o8_0, o8_1, o7_0, o7_1, o13_0⟩
            | 1, _ =>
             obtain ⟨Y43_0, Y44_1, Y45_2, Y46_3, Y47_4, Y48_5, Y49_6, Y50_7, b84, A87, c88, O51_8, O53_7, O52_13, hs, HS, f0, f1, f2, f3, f4, f5, f6, f7, o8_0, o8_1, o7_0, o7_1, o13_0⟩ := hI
             have h0 : b 0 = true := hd 0 (by decide)
             obtain rfl := f0 h0
             have d8 : b 8 = false := bfalse (fun hh => hcl 8 (by decide) (hh) 1 (by decide)) hb
             obtain rfl := o8_0 d8
             refine GO.at hs ?_
             refine GO.ldBox (j := 1) HS rfl rfl rfl rfl na26 rfl ?_
             refine GO.fin (fun a hs => ?_)
             exact ⟨_, (.slice A38 t48.length c39), _, _, _, _, _, _, b84, A87, c88, _, _, _, hs.weak ⟨rfl, rfl, rfl, rfl, rfl, rfl, rfl, rfl, rfl, rfl, rfl, rfl, trivial⟩, HS.pick 9 [0, 1, 2, 3, 4, 5, 6, 7, 8], f0, fun _ => rfl, f2, f3, f4, f5, f6, f7, o8_0, o8_1, o7_0, o7_1, o13_0⟩
            | 2, _ =>
             obtain ⟨Y43_0, Y44_1, Y45_2, Y46_3, Y47_4, Y48_5, Y49_6, Y50_7, b84, A87, c88, O51_8, O53_7, O52_13, hs, HS, f0, f1, f2, f3, f4, f5, f6, f7, o8_0, o8_1, o7_0, o7_1, o13_0⟩ := hI
             refine GO.at hs ?_
             refine GO.move rfl rfl rfl ?_
             refine GO.fin (fun a hs => ?_)
             exact ⟨_, _, (.int .i64 v), _, _, _, _, _, b84, A87, c88, _, _, _, hs.weak ⟨rfl, rfl, rfl, rfl, rfl, rfl, rfl, rfl, rfl, rfl, rfl, rfl, trivial⟩, HS.pick 9 [0, 1, 2, 3, 4, 5, 6, 7, 8], f0, f1, fun _ => rfl, f3, f4, f5, f6, f7, o8_0, o8_1, o7_0, o7_1, o13_0⟩
            | 3, _ =>
             obtain ⟨Y43_0, Y44_1, Y45_2, Y46_3, Y47_4, Y48_5, Y49_6, Y50_7, b84, A87, c88, O51_8, O53_7, O52_13, hs, HS, f0, f1, f2, f3, f4, f5, f6, f7, o8_0, o8_1, o7_0, o7_1, o13_0⟩ := hI
             have h2 : b 2 = true := hd 2 (by decide)
             obtain rfl := f2 h2
             refine GO.at hs ?_
             refine GO.ixP 3 rfl rfl rfl c83 Try.underlying72 sz58 rfl rfl ?_
             refine GO.fin (fun a hs => ?_)
             exact ⟨_, _, _, (.pointer (some ⟨b53, 15, none⟩)), _, _, _, _, b84, A87, c88, _, _, _, hs.weak ⟨rfl, rfl, rfl, rfl, rfl, rfl, rfl, rfl, rfl, rfl, rfl, rfl, trivial⟩, HS.pick 9 [0, 1, 2, 3, 4, 5, 6, 7, 8], f0, f1, f2, fun _ => rfl, f4, f5, f6, f7, o8_0, o8_1, o7_0, o7_1, o13_0⟩
            | 4, _ =>
             obtain ⟨Y43_0, Y44_1, Y45_2, Y46_3, Y47_4, Y48_5, Y49_6, Y50_7, b84, A87, c88, O51_8, O53_7, O52_13, hs, HS, f0, f1, f2, f3, f4, f5, f6, f7, o8_0, o8_1, o7_0, o7_1, o13_0⟩ := hI
             have h3 : b 3 = true := hd 3 (by decide)
             obtain rfl := f3 h3
             refine GO.at hs ?_
             refine GO.ldBoxA (j := 0) ([.int .i64 t31, .int .i64 a_, .int .i64 (w64 (t31 + 1)), .int .i64 t31, .int .i64 (-1)]) HS rfl rfl rfl rfl ag58 rfl ?_
             refine GO.fin (fun a hs => ?_)
             exact ⟨_, _, _, _, (.agg [.int .i64 t31, .int .i64 a_, .int .i64 (w64 (t31 + 1)), .int .i64 t31, .int .i64 (-1)].toArray), _, _, _, b84, A87, c88, _, _, _, hs.weak ⟨rfl, rfl, rfl, rfl, rfl, rfl, rfl, rfl, rfl, rfl, rfl, rfl, trivial⟩, HS.pick 9 [0, 1, 2, 3, 4, 5, 6, 7, 8], f0, f1, f2, f3, fun _ => rfl, f5, f6, f7, o8_0, o8_1, o7_0, o7_1, o13_0⟩
            | 5, _ =>
             obtain ⟨Y43_0, Y44_1, Y45_2, Y46_3, Y47_4, Y48_5, Y49_6, Y50_7, b84, A87, c88, O51_8, O53_7, O52_13, hs, HS, f0, f1, f2, f3, f4, f5, f6, f7, o8_0, o8_1, o7_0, o7_1, o13_0⟩ := hI
             have h4 : b 4 = true := hd 4 (by decide)
             obtain rfl := f4 h4
             refine GO.at hs ?_
             refine GO.buildS (el := 58) ([.int .i64 t31, .int .i64 a_, .int .i64 (w64 (t31 + 1)), .int .i64 t31, .int .i64 (-1)]) HS rfl rfl (fun _ => by kernel_rfl) rfl ?_; intro b84 wd85 HS
             refine GO.fin (fun a hs => ?_)
             exact ⟨_, _, _, _, _, (.slice (some ⟨b84, 0, none⟩) 1 1), _, _, b84, A87, c88, _, _, Box b84 58 [.int .i64 t31, .int .i64 a_, .int .i64 (w64 (t31 + 1)), .int .i64 t31, .int .i64 (-1)], hs.weak ⟨rfl, rfl, rfl, rfl, rfl, rfl, rfl, rfl, rfl, rfl, rfl, rfl, trivial⟩, HS.pick 10 [1, 2, 3, 4, 5, 6, 7, 8, 0], f0, f1, f2, f3, f4, fun _ => rfl, f6, f7, o8_0, o8_1, o7_0, o7_1, fun _ => rfl⟩
            | 6, _ =>
             obtain ⟨Y43_0, Y44_1, Y45_2, Y46_3, Y47_4, Y48_5, Y49_6, Y50_7, b84, A87, c88, O51_8, O53_7, O52_13, hs, HS, f0, f1, f2, f3, f4, f5, f6, f7, o8_0, o8_1, o7_0, o7_1, o13_0⟩ := hI
             have h1 : b 1 = true := hd 1 (by decide)
             obtain rfl := f1 h1
             have h5 : b 5 = true := hd 5 (by decide)
             obtain rfl := f5 h5
             obtain rfl := o13_0 h5
             obtain rfl := o7_0 hb
             refine GO.at hs ?_
             refine GO.app1 (T := T_GCrossing) (j := 2) (jb := 8) (⟨t31, a_, w64 (t31 + 1), t31, (-1)⟩ : GCrossing) HS rfl rfl flat_flat rfl rfl rfl Try.underlying26 inf58 rfl rfl rfl c89 rfl ?_; intro A87 c88 wd86 HS
             refine GO.fin (fun a hs => ?_)
             exact ⟨_, _, _, _, _, _, (.slice A87 (t48 ++ [(⟨t31, a_, w64 (t31 + 1), t31, (-1)⟩ : GCrossing)]).length c88), _, b84, A87, c88, _, Own T_GCrossing 58 A87 c88 (fun _ => ()) (t48 ++ [(⟨t31, a_, w64 (t31 + 1), t31, (-1)⟩ : GCrossing)]), _, hs.weak ⟨rfl, rfl, rfl, rfl, rfl, rfl, rfl, rfl, rfl, rfl, rfl, rfl, trivial⟩, HS.pick 9 [0, 1, 2, 3, 4, 5, 6, 7, 8], f0, f1, f2, f3, f4, f5, fun _ => rfl, f7, o8_0, fun hh => (Bool.noConfusion ((hcl 8 (by decide) hh 6 (by decide)).symm.trans hb)), fun h => Bool.noConfusion h, fun _ => rfl, o13_0⟩
            | 7, _ =>
             obtain ⟨Y43_0, Y44_1, Y45_2, Y46_3, Y47_4, Y48_5, Y49_6, Y50_7, b84, A87, c88, O51_8, O53_7, O52_13, hs, HS, f0, f1, f2, f3, f4, f5, f6, f7, o8_0, o8_1, o7_0, o7_1, o13_0⟩ := hI
             refine GO.at hs ?_
             refine GO.fld (⟨b42, 0, none⟩) rfl rfl fl28_0 rfl rfl ?_
             refine GO.fin (fun a hs => ?_)
             exact ⟨_, _, _, _, _, _, _, (.pointer (some ⟨b42, 0, none⟩)), b84, A87, c88, _, _, _, hs.weak ⟨rfl, rfl, rfl, rfl, rfl, rfl, rfl, rfl, rfl, rfl, rfl, rfl, trivial⟩, HS.pick 9 [0, 1, 2, 3, 4, 5, 6, 7, 8], f0, f1, f2, f3, f4, f5, f6, fun _ => rfl, o8_0, o8_1, o7_0, o7_1, o13_0⟩
            | 8, _ =>
             obtain ⟨Y43_0, Y44_1, Y45_2, Y46_3, Y47_4, Y48_5, Y49_6, Y50_7, b84, A87, c88, O51_8, O53_7, O52_13, hs, HS, f0, f1, f2, f3, f4, f5, f6, f7, o8_0, o8_1, o7_0, o7_1, o13_0⟩ := hI
             have h6 : b 6 = true := hd 6 (by decide)
             obtain rfl := f6 h6
             have h7 : b 7 = true := hd 7 (by decide)
             obtain rfl := f7 h7
             obtain rfl := o8_0 hb
             refine GO.at hs ?_
             refine GO.stBox (j := 1) (vs := [.slice A87 (t48 ++ [(⟨t31, a_, w64 (t31 + 1), t31, (-1)⟩ : GCrossing)]).length c88]) ([.slice A87 (t48 ++ [(⟨t31, a_, w64 (t31 + 1), t31, (-1)⟩ : GCrossing)]).length c88, .int .i64 t36]) HS rfl rfl rfl rfl rfl (htN na26 rfl) rfl rfl rfl ?_; intro wd90 HS
             refine GO.fin (fun a hs => ?_)
             exact ⟨_, _, _, _, _, _, _, _, b84, A87, c88, Box b42 28 [.slice A87 (t48 ++ [(⟨t31, a_, w64 (t31 + 1), t31, (-1)⟩ : GCrossing)]).length c88, .int .i64 t36], _, _, hs.weak ⟨rfl, rfl, rfl, rfl, rfl, rfl, rfl, rfl, rfl, rfl, rfl, rfl, trivial⟩, HS.pick 9 [0, 1, 2, 3, 4, 5, 6, 7, 8], f0, f1, f2, f3, f4, f5, f6, f7, fun h => Bool.noConfusion h, fun _ => rfl, o7_0, o7_1, o13_0⟩
            | k + 9, hj => exact absurd hj (Nat.not_lt.2 (Nat.le_add_left 9 k))
           ·
            intro b a w hall hI
            obtain ⟨Y43_0, Y44_1, Y45_2, Y46_3, Y47_4, Y48_5, Y49_6, Y50_7, b84, A87, c88, O51_8, O53_7, O52_13, hs, HS, f0, f1, f2, f3, f4, f5, f6, f7, o8_0, o8_1, o7_0, o7_1, o13_0⟩ := hI
            obtain rfl := f0 (hall 0 (by decide))
            obtain rfl := f1 (hall 1 (by decide))
            obtain rfl := f2 (hall 2 (by decide))
            obtain rfl := f3 (hall 3 (by decide))
            obtain rfl := f4 (hall 4 (by decide))
            obtain rfl := f5 (hall 5 (by decide))
            obtain rfl := f6 (hall 6 (by decide))
            obtain rfl := f7 (hall 7 (by decide))
            obtain rfl := o8_1 (hall 8 (by decide))
            obtain rfl := o7_1 (hall 6 (by decide))
            obtain rfl := o13_0 (hall 5 (by decide))
            refine G.at hs ?_
            refine G.seq ?_
            refine G.region ?_
            refine GO.ldBoxA (j := 1) ([.slice A87 (t48 ++ [(⟨t31, a_, w64 (t31 + 1), t31, (-1)⟩ : GCrossing)]).length c88, .int .i64 t36]) HS rfl rfl rfl rfl ag28 rfl ?_
            refine GO.stBox (j := 6) (vs := [.slice A87 (t48 ++ [(⟨t31, a_, w64 (t31 + 1), t31, (-1)⟩ : GCrossing)]).length c88, .int .i64 t36]) ([.slice A87 (t48 ++ [(⟨t31, a_, w64 (t31 + 1), t31, (-1)⟩ : GCrossing)]).length c88, .int .i64 t36]) HS rfl rfl rfl rfl rfl (htA ag28) rfl rfl rfl ?_; intro wd91 HS
            refine GO.assign rfl rfl rfl ?_
            refine GO.nil ?_
            obtain ⟨rfl, rfl, rfl⟩ := some3 H
            exact G.ret2 _ _ Try.func15 rfl (Res1.boxA (j := 6) (vs := [.slice A87 (t48 ++ [(⟨t31, a_, w64 (t31 + 1), t31, (-1)⟩ : GCrossing)]).length c88, .int .i64 t36]) HS rfl rfl rfl ag28) rfl ⟨_, _, rfl, (HS.pick 9 [2])⟩
          ·
           cases H
    ·
     refine G.yesB rfl (congrArg Bool.not (bnot_of c28)) ?_
     refine G.seq ?_
     refine G.region ?_
     refine GO.buildV (.agg [.slice none 0 0, .int .i64 0].toArray) rfl rfl (fun _ => by kernel_rfl) rfl ?_
     refine GO.stBox (j := 3) (vs := [.slice none 0 0, .int .i64 0]) ([.slice none 0 0, .int .i64 0]) HS rfl rfl rfl rfl rfl (htA ag28) rfl rfl rfl ?_; intro wd92 HS
     refine GO.assign rfl rfl rfl ?_
     refine GO.nil ?_
     replace HS := HS.nilRow T_GCrossing 58 (fun _ => ())
     obtain ⟨rfl, rfl, rfl⟩ := some3 H
     exact G.ret2 _ _ Try.func15 rfl (Res1.boxA (j := 4) (vs := [.slice none 0 0, .int .i64 0]) HS rfl rfl rfl ag28) rfl ⟨_, _, rfl, (HS.pick 6 [0])⟩
   ·
    refine G.yesB rfl (congrArg Bool.not (bnot_of c23)) ?_
    refine G.seq ?_
    refine G.region ?_
    refine GO.buildV (.agg [.slice none 0 0, .int .i64 0].toArray) rfl rfl (fun _ => by kernel_rfl) rfl ?_
    refine GO.stBox (j := 3) (vs := [.slice none 0 0, .int .i64 0]) ([.slice none 0 0, .int .i64 0]) HS rfl rfl rfl rfl rfl (htA ag28) rfl rfl rfl ?_; intro wd93 HS
    refine GO.assign rfl rfl rfl ?_
    refine GO.nil ?_
    replace HS := HS.nilRow T_GCrossing 58 (fun _ => ())
    obtain ⟨rfl, rfl, rfl⟩ := some3 H
    exact G.ret2 _ _ Try.func15 rfl (Res1.boxA (j := 4) (vs := [.slice none 0 0, .int .i64 0]) HS rfl rfl rfl ag28) rfl ⟨_, _, rfl, (HS.pick 6 [0])⟩
  ·
   refine G.yesB rfl (congrArg Bool.not (bnot_of c18)) ?_
   refine G.seq ?_
   refine G.region ?_
   refine GO.buildV (.agg [.slice none 0 0, .int .i64 0].toArray) rfl rfl (fun _ => by kernel_rfl) rfl ?_
   refine GO.stBox (j := 3) (vs := [.slice none 0 0, .int .i64 0]) ([.slice none 0 0, .int .i64 0]) HS rfl rfl rfl rfl rfl (htA ag28) rfl rfl rfl ?_; intro wd94 HS
   refine GO.assign rfl rfl rfl ?_
   refine GO.nil ?_
   replace HS := HS.nilRow T_GCrossing 58 (fun _ => ())
   obtain ⟨rfl, rfl, rfl⟩ := some3 H
   exact G.ret2 _ _ Try.func15 rfl (Res1.boxA (j := 4) (vs := [.slice none 0 0, .int .i64 0]) HS rfl rfl rfl ag28) rfl ⟨_, _, rfl, (HS.pick 6 [0])⟩

set_option maxRecDepth 20000 in
set_option maxHeartbeats 4000000 in
theorem laws_eqCrossing.calls {w0 w : World} {L : List HObj} {a_A : Int} {a_B : Int} {a_C : Int} {a_D : Int} {a_Sign : Int} {b_A : Int} {b_B : Int} {b_C : Int} {b_D : Int} {b_Sign : Int} {r1 : Bool} (HS : St w0 w (L)) (H : laws_eqCrossing.f a_A a_B a_C a_D a_Sign b_A b_B b_C b_D b_Sign = some r1) :
    Calls Try.prog 114 #[.agg [.int .i64 a_A, .int .i64 a_B, .int .i64 a_C, .int .i64 a_D, .int .i64 a_Sign].toArray, .agg [.int .i64 b_A, .int .i64 b_B, .int .i64 b_C, .int .i64 b_D, .int .i64 b_Sign].toArray] w (laws_eqCrossing.post w0 L a_A a_B a_C a_D a_Sign b_A b_B b_C b_D b_Sign r1) := by
  unfold laws_eqCrossing.f at H
  refine Calls.of_G Try.func114 rfl rfl rfl ?_
  refine G.seq ?_
  refine G.region ?_
  refine GO.box (cs := [.int .i64 a_A, .int .i64 a_B, .int .i64 a_C, .int .i64 a_D, .int .i64 a_Sign]) HS rfl rfl rfl rfl ?_; intro b1 wd2 HS
  refine GO.box (cs := [.int .i64 b_A, .int .i64 b_B, .int .i64 b_C, .int .i64 b_D, .int .i64 b_Sign]) HS rfl rfl rfl rfl ?_; intro b3 wd4 HS
  refine GO.assign rfl rfl rfl ?_
  refine GO.nil ?_
  refine G.seq ?_
  refine G.seq ?_
  refine G.region ?_
  refine GO.fld (⟨b1, 0, none⟩) rfl rfl fl58_0 rfl rfl ?_
  refine GO.ldBox (j := 1) HS rfl rfl rfl rfl na2 rfl ?_
  refine GO.fld (⟨b3, 0, none⟩) rfl rfl fl58_0 rfl rfl ?_
  refine GO.ldBox (j := 0) HS rfl rfl rfl rfl na2 rfl ?_
  refine GO.neq rfl rfl rfl rfl ?_
  refine GO.nil ?_
  rcases ite_elim H with ⟨c5, H⟩ | ⟨c5, H⟩
  ·
   refine G.noB rfl (congrArg Bool.not (decide_eq_true c5)) ?_
   refine G.skip ?_
   refine G.seq ?_
   refine G.seq ?_
   refine G.region ?_
   refine GO.fld (⟨b1, 1, none⟩) rfl rfl fl58_1 rfl rfl ?_
   refine GO.ldBox (j := 1) HS rfl rfl rfl rfl na2 rfl ?_
   refine GO.fld (⟨b3, 1, none⟩) rfl rfl fl58_1 rfl rfl ?_
   refine GO.ldBox (j := 0) HS rfl rfl rfl rfl na2 rfl ?_
   refine GO.neq rfl rfl rfl rfl ?_
   refine GO.nil ?_
   rcases ite_elim H with ⟨c6, H⟩ | ⟨c6, H⟩
   ·
    refine G.noB rfl (congrArg Bool.not (decide_eq_true c6)) ?_
    refine G.skip ?_
    refine G.seq ?_
    refine G.seq ?_
    refine G.region ?_
    refine GO.fld (⟨b1, 2, none⟩) rfl rfl fl58_2 rfl rfl ?_
    refine GO.ldBox (j := 1) HS rfl rfl rfl rfl na2 rfl ?_
    refine GO.fld (⟨b3, 2, none⟩) rfl rfl fl58_2 rfl rfl ?_
    refine GO.ldBox (j := 0) HS rfl rfl rfl rfl na2 rfl ?_
    refine GO.neq rfl rfl rfl rfl ?_
    refine GO.nil ?_
    rcases ite_elim H with ⟨c7, H⟩ | ⟨c7, H⟩
    ·
     refine G.noB rfl (congrArg Bool.not (decide_eq_true c7)) ?_
     refine G.skip ?_
     refine G.seq ?_
     refine G.seq ?_
     refine G.region ?_
     refine GO.fld (⟨b1, 3, none⟩) rfl rfl fl58_3 rfl rfl ?_
     refine GO.ldBox (j := 1) HS rfl rfl rfl rfl na2 rfl ?_
     refine GO.fld (⟨b3, 3, none⟩) rfl rfl fl58_3 rfl rfl ?_
     refine GO.ldBox (j := 0) HS rfl rfl rfl rfl na2 rfl ?_
     refine GO.neq rfl rfl rfl rfl ?_
     refine GO.nil ?_
     rcases ite_elim H with ⟨c8, H⟩ | ⟨c8, H⟩
     ·
      refine G.noB rfl (congrArg Bool.not (decide_eq_true c8)) ?_
      refine G.skip ?_
      refine G.seq ?_
      refine G.seq ?_
      refine G.region ?_
      refine GO.fld (⟨b1, 4, none⟩) rfl rfl fl58_4 rfl rfl ?_
      refine GO.ldBox (j := 1) HS rfl rfl rfl rfl na2 rfl ?_
      refine GO.fld (⟨b3, 4, none⟩) rfl rfl fl58_4 rfl rfl ?_
      refine GO.ldBox (j := 0) HS rfl rfl rfl rfl na2 rfl ?_
      refine GO.neq rfl rfl rfl rfl ?_
      refine GO.nil ?_
      rcases ite_elim H with ⟨c9, H⟩ | ⟨c9, H⟩
      ·
       refine G.noB rfl (congrArg Bool.not (decide_eq_true c9)) ?_
       refine G.skip ?_
       refine G.seq ?_
       refine G.region ?_
       refine GO.assign rfl rfl rfl ?_
       refine GO.nil ?_
       obtain rfl := Option.some.inj H
       exact G.ret1 _ Try.func114 rfl rfl ⟨rfl, (HS.pick 2 [])⟩
      ·
       refine G.yesB rfl (congrArg Bool.not (decide_eq_false c9)) ?_
       refine G.seq ?_
       refine G.region ?_
       refine GO.assign rfl rfl rfl ?_
       refine GO.nil ?_
       obtain rfl := Option.some.inj H
       exact G.ret1 _ Try.func114 rfl rfl ⟨rfl, (HS.pick 2 [])⟩
     ·
      refine G.yesB rfl (congrArg Bool.not (decide_eq_false c8)) ?_
      refine G.seq ?_
      refine G.region ?_
      refine GO.assign rfl rfl rfl ?_
      refine GO.nil ?_
      obtain rfl := Option.some.inj H
      exact G.ret1 _ Try.func114 rfl rfl ⟨rfl, (HS.pick 2 [])⟩
    ·
     refine G.yesB rfl (congrArg Bool.not (decide_eq_false c7)) ?_
     refine G.seq ?_
     refine G.region ?_
     refine GO.assign rfl rfl rfl ?_
     refine GO.nil ?_
     obtain rfl := Option.some.inj H
     exact G.ret1 _ Try.func114 rfl rfl ⟨rfl, (HS.pick 2 [])⟩
   ·
    refine G.yesB rfl (congrArg Bool.not (decide_eq_false c6)) ?_
    refine G.seq ?_
    refine G.region ?_
    refine GO.assign rfl rfl rfl ?_
    refine GO.nil ?_
    obtain rfl := Option.some.inj H
    exact G.ret1 _ Try.func114 rfl rfl ⟨rfl, (HS.pick 2 [])⟩
  ·
   refine G.yesB rfl (congrArg Bool.not (decide_eq_false c5)) ?_
   refine G.seq ?_
   refine G.region ?_
   refine GO.assign rfl rfl rfl ?_
   refine GO.nil ?_
   obtain rfl := Option.some.inj H
   exact G.ret1 _ Try.func114 rfl rfl ⟨rfl, (HS.pick 2 [])⟩

set_option maxRecDepth 20000 in
set_option maxHeartbeats 4000000 in
theorem laws_eqCrossingS.calls {w0 w : World} {L : List HObj} {K : Nat} {a_ : List GCrossing} {b_ : List GCrossing} {A_a_ : Option Addr} {c_a_ : Nat} {A_b_ : Option Addr} {c_b_ : Nat} {r1 : Bool} (HS : St w0 w (L)) (h_a_ : RdIn w0 L T_GCrossing A_a_ c_a_ (fun _ => ()) a_) (h_b_ : RdIn w0 L T_GCrossing A_b_ c_b_ (fun _ => ()) b_) (H : laws_eqCrossingS.f K a_ b_ = some r1) :
    Calls Try.prog 51 #[.slice A_a_ a_.length c_a_, .slice A_b_ b_.length c_b_] w (laws_eqCrossingS.post w0 L a_ b_ A_a_ c_a_ A_b_ c_b_ r1) := by
  unfold laws_eqCrossingS.f at H
  refine Calls.of_G Try.func51 rfl rfl rfl ?_
  refine G.seq ?_
  refine G.region ?_
  refine GO.assign rfl rfl rfl ?_
  refine GO.nil ?_
  refine G.seq ?_
  refine G.seq ?_
  refine G.region ?_
  refine GO.move rfl rfl rfl ?_
  refine GO.lenS rfl rfl Try.underlying26 rfl ?_
  refine GO.move rfl rfl rfl ?_
  refine GO.lenS rfl rfl Try.underlying26 rfl ?_
  refine GO.neq rfl rfl rfl rfl ?_
  refine GO.nil ?_
  rcases ite_elim H with ⟨c1, H⟩ | ⟨c1, H⟩
  ·
   refine G.noB rfl (congrArg Bool.not (decide_eq_true c1)) ?_
   refine G.skip ?_
   refine G.seq ?_
   refine G.seq ?_
   refine G.region ?_
   refine GO.assign rfl rfl rfl ?_
   refine GO.nil ?_
   refine G.block ?_
   refine G.loop ?_
   refine G.name (fun k_l1 hk_l1 => ?_)
   have at_l1 : ∀ m_l1, m_l1 ≤ K → ∀ (i_14 : Int) (w : World), laws_eqCrossingS.l1 K m_l1 a_ b_ i_14 = some r1 → St w0 w (L) → G Try.prog 51 27 [(0, .slice A_a_ a_.length c_a_), (1, .slice A_b_ b_.length c_b_), (5, .int .i64 i_14)] k_l1 w (laws_eqCrossingS.post w0 L a_ b_ A_a_ c_a_ A_b_ c_b_ r1) := by
    intro m_l1
    induction m_l1 using Nat.strongRecOn with
    | _ m_l1 ih_l1 =>
     intro hm_l1 i_14 w H HS
     cases m_l1 with
     | zero => rw [laws_eqCrossingS.l1] at H; cases H
     | succ n_l1 =>
      rw [laws_eqCrossingS.l1] at H
      subst hk_l1
      refine G.seq ?_
      refine G.seq ?_
      refine G.region ?_
      refine GO.move rfl rfl rfl ?_
      refine GO.move rfl rfl rfl ?_
      refine GO.lenS rfl rfl Try.underlying26 rfl ?_
      refine GO.lss rfl rfl rfl rfl ?_
      refine GO.nil ?_
      rcases ite_elim H with ⟨c27, H⟩ | ⟨c27, H⟩
      ·
       refine G.yesB rfl (decide_eq_true c27) ?_
       refine G.skip ?_
       refine G.seq ?_
       refine G.block ?_
       refine G.seq ?_
       obtain ⟨c28, H⟩ := ite_none H
       obtain ⟨e29, h30, H⟩ := bnd_elim H
       obtain ⟨c31, H⟩ := ite_none H
       obtain ⟨e32, h33, H⟩ := bnd_elim H
       obtain ⟨t34, h35, H⟩ := Option.bind_eq_some_iff.1 H
       refine G.regionAny mixed (by decide) (fun b a w => ∃ (Y1_0 : Value) (Y2_1 : Value) (Y3_2 : Value) (Y4_3 : Value) (Y5_4 : Value) (Y6_5 : Value) (Y7_6 : Value) (Y8_7 : Value) (Y9_8 : Value) (Y10_9 : Value), Sat 27 [(17, Y1_0), (18, Y2_1), (19, Y3_2), (20, Y4_3), (21, Y5_4), (22, Y6_5), (23, Y7_6), (24, Y8_7), (25, Y9_8), (26, Y10_9), (0, .slice A_a_ a_.length c_a_), (1, .slice A_b_ b_.length c_b_), (5, .int .i64 i_14)] a ∧ St w0 w (L) ∧ (b 0 = true → Y1_0 = (.slice A_a_ a_.length c_a_)) ∧ (b 1 = true → Y2_1 = (.int .i64 i_14)) ∧ (b 2 = true → Y3_2 = (.pointer (some (ea A_a_ (i_14.toNat * 5))))) ∧ (b 3 = true → Y4_3 = (.agg [.int .i64 e29.A, .int .i64 e29.B, .int .i64 e29.C, .int .i64 e29.D, .int .i64 e29.Sign].toArray)) ∧ (b 4 = true → Y5_4 = (.slice A_b_ b_.length c_b_)) ∧ (b 5 = true → Y6_5 = (.int .i64 i_14)) ∧ (b 6 = true → Y7_6 = (.pointer (some (ea A_b_ (i_14.toNat * 5))))) ∧ (b 7 = true → Y8_7 = (.agg [.int .i64 e32.A, .int .i64 e32.B, .int .i64 e32.C, .int .i64 e32.D, .int .i64 e32.Sign].toArray)) ∧ (b 8 = true → Y9_8 = (.bool t34)) ∧ (b 9 = true → Y10_9 = (.bool (!t34)))) ?_ ?_ ?_
       ·
        intro a hs
        obtain ⟨Y1_0, hs⟩ := hs.ext (d := 17) rfl
        obtain ⟨Y2_1, hs⟩ := hs.ext (d := 18) rfl
        obtain ⟨Y3_2, hs⟩ := hs.ext (d := 19) rfl
        obtain ⟨Y4_3, hs⟩ := hs.ext (d := 20) rfl
        obtain ⟨Y5_4, hs⟩ := hs.ext (d := 21) rfl
        obtain ⟨Y6_5, hs⟩ := hs.ext (d := 22) rfl
        obtain ⟨Y7_6, hs⟩ := hs.ext (d := 23) rfl
        obtain ⟨Y8_7, hs⟩ := hs.ext (d := 24) rfl
        obtain ⟨Y9_8, hs⟩ := hs.ext (d := 25) rfl
        obtain ⟨Y10_9, hs⟩ := hs.ext (d := 26) rfl
        exact ⟨Y1_0, Y2_1, Y3_2, Y4_3, Y5_4, Y6_5, Y7_6, Y8_7, Y9_8, Y10_9, hs.weak ⟨rfl, rfl, rfl, rfl, rfl, rfl, rfl, rfl, rfl, rfl, rfl, rfl, rfl, trivial⟩, (HS.drew.pick 0 []), fun h => Bool.noConfusion h, fun h => Bool.noConfusion h, fun h => Bool.noConfusion h, fun h => Bool.noConfusion h, fun h => Bool.noConfusion h, fun h => Bool.noConfusion h, fun h => Bool.noConfusion h, fun h => Bool.noConfusion h, fun h => Bool.noConfusion h, fun h => Bool.noConfusion h⟩
       ·
        intro j hj b a w hI hb hd hcl
        match j, hj with
        | 0, _ =>
         obtain ⟨Y1_0, Y2_1, Y3_2, Y4_3, Y5_4, Y6_5, Y7_6, Y8_7, Y9_8, Y10_9, hs, HS, f0, f1, f2, f3, f4, f5, f6, f7, f8, f9⟩ := hI
         refine GO.at hs ?_
         refine GO.move rfl rfl rfl ?_
         refine GO.fin (fun a hs => ?_)
         exact ⟨(.slice A_a_ a_.length c_a_), _, _, _, _, _, _, _, _, _, hs.weak ⟨rfl, rfl, rfl, rfl, rfl, rfl, rfl, rfl, rfl, rfl, rfl, rfl, rfl, trivial⟩, HS.pick 0 [], fun _ => rfl, f1, f2, f3, f4, f5, f6, f7, f8, f9⟩
        | 1, _ =>
         obtain ⟨Y1_0, Y2_1, Y3_2, Y4_3, Y5_4, Y6_5, Y7_6, Y8_7, Y9_8, Y10_9, hs, HS, f0, f1, f2, f3, f4, f5, f6, f7, f8, f9⟩ := hI
         refine GO.at hs ?_
         refine GO.move rfl rfl rfl ?_
         refine GO.fin (fun a hs => ?_)
         exact ⟨_, (.int .i64 i_14), _, _, _, _, _, _, _, _, hs.weak ⟨rfl, rfl, rfl, rfl, rfl, rfl, rfl, rfl, rfl, rfl, rfl, rfl, rfl, trivial⟩, HS.pick 0 [], f0, fun _ => rfl, f2, f3, f4, f5, f6, f7, f8, f9⟩
        | 2, _ =>
         obtain ⟨Y1_0, Y2_1, Y3_2, Y4_3, Y5_4, Y6_5, Y7_6, Y8_7, Y9_8, Y10_9, hs, HS, f0, f1, f2, f3, f4, f5, f6, f7, f8, f9⟩ := hI
         have h0 : b 0 = true := hd 0 (by decide)
         obtain rfl := f0 h0
         have h1 : b 1 = true := hd 1 (by decide)
         obtain rfl := f1 h1
         refine GO.at hs ?_
         refine GO.ix rfl rfl rfl Try.underlying26 sz58 (h_a_ _ HS).2.2.1 c28.1 c28.2 rfl ?_
         refine GO.fin (fun a hs => ?_)
         exact ⟨_, _, (.pointer (some (ea A_a_ (i_14.toNat * 5)))), _, _, _, _, _, _, _, hs.weak ⟨rfl, rfl, rfl, rfl, rfl, rfl, rfl, rfl, rfl, rfl, rfl, rfl, rfl, trivial⟩, HS.pick 0 [], f0, f1, fun _ => rfl, f3, f4, f5, f6, f7, f8, f9⟩
        | 3, _ =>
         obtain ⟨Y1_0, Y2_1, Y3_2, Y4_3, Y5_4, Y6_5, Y7_6, Y8_7, Y9_8, Y10_9, hs, HS, f0, f1, f2, f3, f4, f5, f6, f7, f8, f9⟩ := hI
         have h2 : b 2 = true := hd 2 (by decide)
         obtain rfl := f2 h2
         refine GO.at hs ?_
         refine GO.ldRdA (T := T_GCrossing) (n := i_14.toNat) HS h_a_ rfl rfl (getD_eq (ltN c28) h30) ag58 rfl ?_
         refine GO.fin (fun a hs => ?_)
         exact ⟨_, _, _, (.agg [.int .i64 e29.A, .int .i64 e29.B, .int .i64 e29.C, .int .i64 e29.D, .int .i64 e29.Sign].toArray), _, _, _, _, _, _, hs.weak ⟨rfl, rfl, rfl, rfl, rfl, rfl, rfl, rfl, rfl, rfl, rfl, rfl, rfl, trivial⟩, HS.pick 0 [], f0, f1, f2, fun _ => rfl, f4, f5, f6, f7, f8, f9⟩
        | 4, _ =>
         obtain ⟨Y1_0, Y2_1, Y3_2, Y4_3, Y5_4, Y6_5, Y7_6, Y8_7, Y9_8, Y10_9, hs, HS, f0, f1, f2, f3, f4, f5, f6, f7, f8, f9⟩ := hI
         refine GO.at hs ?_
         refine GO.move rfl rfl rfl ?_
         refine GO.fin (fun a hs => ?_)
         exact ⟨_, _, _, _, (.slice A_b_ b_.length c_b_), _, _, _, _, _, hs.weak ⟨rfl, rfl, rfl, rfl, rfl, rfl, rfl, rfl, rfl, rfl, rfl, rfl, rfl, trivial⟩, HS.pick 0 [], f0, f1, f2, f3, fun _ => rfl, f5, f6, f7, f8, f9⟩
        | 5, _ =>
         obtain ⟨Y1_0, Y2_1, Y3_2, Y4_3, Y5_4, Y6_5, Y7_6, Y8_7, Y9_8, Y10_9, hs, HS, f0, f1, f2, f3, f4, f5, f6, f7, f8, f9⟩ := hI
         refine GO.at hs ?_
         refine GO.move rfl rfl rfl ?_
         refine GO.fin (fun a hs => ?_)
         exact ⟨_, _, _, _, _, (.int .i64 i_14), _, _, _, _, hs.weak ⟨rfl, rfl, rfl, rfl, rfl, rfl, rfl, rfl, rfl, rfl, rfl, rfl, rfl, trivial⟩, HS.pick 0 [], f0, f1, f2, f3, f4, fun _ => rfl, f6, f7, f8, f9⟩
        | 6, _ =>
         obtain ⟨Y1_0, Y2_1, Y3_2, Y4_3, Y5_4, Y6_5, Y7_6, Y8_7, Y9_8, Y10_9, hs, HS, f0, f1, f2, f3, f4, f5, f6, f7, f8, f9⟩ := hI
         have h4 : b 4 = true := hd 4 (by decide)
         obtain rfl := f4 h4
         have h5 : b 5 = true := hd 5 (by decide)
         obtain rfl := f5 h5
         refine GO.at hs ?_
         refine GO.ix rfl rfl rfl Try.underlying26 sz58 (h_b_ _ HS).2.2.1 c31.1 c31.2 rfl ?_
         refine GO.fin (fun a hs => ?_)
         exact ⟨_, _, _, _, _, _, (.pointer (some (ea A_b_ (i_14.toNat * 5)))), _, _, _, hs.weak ⟨rfl, rfl, rfl, rfl, rfl, rfl, rfl, rfl, rfl, rfl, rfl, rfl, rfl, trivial⟩, HS.pick 0 [], f0, f1, f2, f3, f4, f5, fun _ => rfl, f7, f8, f9⟩
        | 7, _ =>
         obtain ⟨Y1_0, Y2_1, Y3_2, Y4_3, Y5_4, Y6_5, Y7_6, Y8_7, Y9_8, Y10_9, hs, HS, f0, f1, f2, f3, f4, f5, f6, f7, f8, f9⟩ := hI
         have h6 : b 6 = true := hd 6 (by decide)
         obtain rfl := f6 h6
         refine GO.at hs ?_
         refine GO.ldRdA (T := T_GCrossing) (n := i_14.toNat) HS h_b_ rfl rfl (getD_eq (ltN c31) h33) ag58 rfl ?_
         refine GO.fin (fun a hs => ?_)
         exact ⟨_, _, _, _, _, _, _, (.agg [.int .i64 e32.A, .int .i64 e32.B, .int .i64 e32.C, .int .i64 e32.D, .int .i64 e32.Sign].toArray), _, _, hs.weak ⟨rfl, rfl, rfl, rfl, rfl, rfl, rfl, rfl, rfl, rfl, rfl, rfl, rfl, trivial⟩, HS.pick 0 [], f0, f1, f2, f3, f4, f5, f6, fun _ => rfl, f8, f9⟩
        | 8, _ =>
         obtain ⟨Y1_0, Y2_1, Y3_2, Y4_3, Y5_4, Y6_5, Y7_6, Y8_7, Y9_8, Y10_9, hs, HS, f0, f1, f2, f3, f4, f5, f6, f7, f8, f9⟩ := hI
         have h3 : b 3 = true := hd 3 (by decide)
         obtain rfl := f3 h3
         have h7 : b 7 = true := hd 7 (by decide)
         obtain rfl := f7 h7
         refine GO.at hs ?_
         refine GO.fn rfl Try.func114 fok114.1 fok114.2 rfl rfl (laws_eqCrossing.calls HS  h35) (fun _ wd36 ⟨h37, HS⟩ => ⟨_, h37, ?_⟩)
         refine GO.fin (fun a hs => ?_)
         exact ⟨_, _, _, _, _, _, _, _, (.bool t34), _, hs.weak ⟨rfl, rfl, rfl, rfl, rfl, rfl, rfl, rfl, rfl, rfl, rfl, rfl, rfl, trivial⟩, HS.pick 0 [], f0, f1, f2, f3, f4, f5, f6, f7, fun _ => rfl, f9⟩
        | 9, _ =>
         obtain ⟨Y1_0, Y2_1, Y3_2, Y4_3, Y5_4, Y6_5, Y7_6, Y8_7, Y9_8, Y10_9, hs, HS, f0, f1, f2, f3, f4, f5, f6, f7, f8, f9⟩ := hI
         have h8 : b 8 = true := hd 8 (by decide)
         obtain rfl := f8 h8
         refine GO.at hs ?_
         refine GO.not rfl rfl rfl ?_
         refine GO.fin (fun a hs => ?_)
         exact ⟨_, _, _, _, _, _, _, _, _, (.bool (!t34)), hs.weak ⟨rfl, rfl, rfl, rfl, rfl, rfl, rfl, rfl, rfl, rfl, rfl, rfl, rfl, trivial⟩, HS.pick 0 [], f0, f1, f2, f3, f4, f5, f6, f7, f8, fun _ => rfl⟩
        | k + 10, hj => exact absurd hj (Nat.not_lt.2 (Nat.le_add_left 10 k))
       ·
        intro b a w hall hI
        obtain ⟨Y1_0, Y2_1, Y3_2, Y4_3, Y5_4, Y6_5, Y7_6, Y8_7, Y9_8, Y10_9, hs, HS, f0, f1, f2, f3, f4, f5, f6, f7, f8, f9⟩ := hI
        obtain rfl := f0 (hall 0 (by decide))
        obtain rfl := f1 (hall 1 (by decide))
        obtain rfl := f2 (hall 2 (by decide))
        obtain rfl := f3 (hall 3 (by decide))
        obtain rfl := f4 (hall 4 (by decide))
        obtain rfl := f5 (hall 5 (by decide))
        obtain rfl := f6 (hall 6 (by decide))
        obtain rfl := f7 (hall 7 (by decide))
        obtain rfl := f8 (hall 8 (by decide))
        obtain rfl := f9 (hall 9 (by decide))
        refine G.at hs ?_
        rcases ite_elim H with ⟨c38, H⟩ | ⟨c38, H⟩
        ·
         refine G.noB rfl (congrArg Bool.not c38) ?_
         refine G.skip ?_
         refine G.blockEnd ?_
         refine G.region ?_
         refine GO.move rfl rfl rfl ?_
         refine GO.add rfl rfl rfl rfl ?_
         refine GO.assign rfl rfl rfl ?_
         refine GO.nil ?_
         refine G.again ?_
         refine G.weak ?_ (ih_l1 n_l1 (Nat.lt_succ_of_le (Nat.le_refl _)) (Nat.le_of_succ_le hm_l1) _ _ H HS)
         exact ⟨rfl, rfl, rfl, trivial⟩
        ·
         refine G.yesB rfl (congrArg Bool.not (bnot_of c38)) ?_
         refine G.seq ?_
         refine G.region ?_
         refine GO.assign rfl rfl rfl ?_
         refine GO.nil ?_
         obtain rfl := Option.some.inj H
         exact G.ret1 _ Try.func51 rfl rfl ⟨rfl, HS⟩
      ·
       refine G.noB rfl (decide_eq_false c27) ?_
       refine G.exit rfl ?_
       refine G.seq ?_
       refine G.region ?_
       refine GO.assign rfl rfl rfl ?_
       refine GO.nil ?_
       obtain rfl := Option.some.inj H
       exact G.ret1 _ Try.func51 rfl rfl ⟨rfl, HS⟩
   refine G.weak ?_ (at_l1 K (Nat.le_refl _) _ _ H HS)
   exact ⟨rfl, rfl, rfl, trivial⟩
  ·
   refine G.yesB rfl (congrArg Bool.not (decide_eq_false c1)) ?_
   refine G.seq ?_
   refine G.region ?_
   refine GO.assign rfl rfl rfl ?_
   refine GO.nil ?_
   obtain rfl := Option.some.inj H
   exact G.ret1 _ Try.func51 rfl rfl ⟨rfl, HS⟩

end Go.Proofs.Ytdafmbaeiefacaa
