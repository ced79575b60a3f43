/-
  The walks through the functions: a call comes to what its list function says.
-/
import Derived.Test.YtdafmbaeiefacaaAlF
import Derived.Test.YtdafmbaeiefacaaAlW1
import Derived.Test.YtdafmbaeiefacaaAlW2
import Derived.Test.YtdafmbaeiefacaaAlW3
import Derived.Test.YtdafmbaeiefacaaAlW4
import Derived.Test.YtdafmbaeiefacaaAlW12
set_option linter.unusedVariables false
set_option linter.unusedSimpArgs false
namespace Go.Proofs.Ytdafmbaeiefacaa
open Go.RowKit
set_option maxRecDepth 20000 in
set_option maxHeartbeats 40000000 in
theorem impl_AddBigon.calls {w0 w : World} {L : List HObj} {K : Nat} {t_Crossings : List GCrossing} {t_Circles : Int} {o : Int} {A : Int} {A_t_Crossings : Option Addr} {c_t_Crossings : Nat} {r1 : List GCrossing} {r2 : Int} {r3 : Int} (HS : St w0 w (L)) (h_t_Crossings : RdIn w0 L T_GCrossing A_t_Crossings c_t_Crossings (fun _ => ()) t_Crossings) (H : impl_AddBigon.f K t_Crossings t_Circles o A = some (r1, r2, r3)) :
    Calls Try.prog 22 #[.agg [.slice A_t_Crossings t_Crossings.length c_t_Crossings, .int .i64 t_Circles].toArray, .int .i64 o, .int .i64 A] w (impl_AddBigon.post w0 L t_Crossings t_Circles o A A_t_Crossings c_t_Crossings r1 r2 r3) := by
  unfold impl_AddBigon.f at H
  refine Calls.of_G Try.func22 rfl rfl rfl ?_
  refine G.seq ?_
  refine G.region ?_
  refine GO.box (cs := [.slice A_t_Crossings t_Crossings.length c_t_Crossings, .int .i64 t_Circles]) HS rfl rfl rfl rfl ?_; intro b1 wd2 HS
  refine GO.alloc HS rfl zr28 rfl rfl ?_; intro b3 wd4 HS
  refine GO.assign rfl rfl rfl ?_
  refine GO.nil ?_
  refine G.seq ?_
  obtain ⟨t5, t6, t7, h8, H⟩ := bind3_elim H
  refine G.region ?_
  refine GO.ldBoxA (j := 1) ([.slice A_t_Crossings t_Crossings.length c_t_Crossings, .int .i64 t_Circles]) HS rfl rfl rfl rfl ag28 rfl ?_
  refine GO.fn rfl Try.func45 fok45.1 fok45.2 rfl rfl (impl_Diagram_drawing.calls HS (RdIn.drop 2 h_t_Crossings) h8) (fun _ wd13 ⟨A9, c10, A11, c12, h14, HS⟩ => ⟨_, h14, ?_⟩)
  refine GO.move rfl rfl rfl ?_
  refine GO.extract rfl rfl rfl rfl ?_
  refine GO.extract rfl rfl rfl rfl ?_
  refine GO.alloc HS rfl zr63 rfl rfl ?_; intro b15 wd16 HS
  refine GO.stBox (j := 0) (vs := [.slice A9 t5.length c10, .slice A11 t6.length c12]) ([.slice A9 t5.length c10, .slice A11 t6.length c12]) HS rfl rfl rfl rfl rfl (htA ag63) rfl rfl rfl ?_; intro wd17 HS
  refine GO.assign rfl rfl rfl ?_
  refine GO.nil ?_
  refine G.seq ?_
  refine G.seq ?_
  refine G.region ?_
  refine GO.move rfl rfl rfl ?_
  refine GO.not rfl rfl rfl ?_
  refine GO.nil ?_
  rcases ite_elim H with ⟨c18, H⟩ | ⟨c18, H⟩
  ·
   refine G.noB rfl (congrArg Bool.not c18) ?_
   refine G.skip ?_
   refine G.seq ?_
   obtain ⟨t19, h20, H⟩ := Option.bind_eq_some_iff.1 H
   refine G.region ?_
   refine GO.ldBoxA (j := 4) ([.slice A_t_Crossings t_Crossings.length c_t_Crossings, .int .i64 t_Circles]) HS rfl rfl rfl rfl ag28 rfl ?_
   refine GO.ldBoxA (j := 0) ([.slice A9 t5.length c10, .slice A11 t6.length c12]) HS rfl rfl rfl rfl ag63 rfl ?_
   refine GO.fn rfl Try.func61 fok61.1 fok61.2 rfl rfl (impl_Diagram_sides.calls HS (RdIn.drop 5 h_t_Crossings) (RdIn.own (j := 1) rfl) (RdIn.own (j := 2) rfl) h20) (fun _ wd23 ⟨A21, c22, h24, HS⟩ => ⟨_, h24, ?_⟩)
   refine GO.assign rfl rfl rfl ?_
   refine GO.nil ?_
   refine G.seq ?_
   refine G.block ?_
   refine G.seq ?_
   obtain ⟨t34, h35, H⟩ := Option.bind_eq_some_iff.1 H
   rcases ite_elim H with ⟨c38, H⟩ | ⟨c38, H⟩
   ·
    obtain ⟨t39, h40, H⟩ := Option.bind_eq_some_iff.1 H
    refine G.region ?_
    refine GO.move rfl rfl rfl ?_
    refine GO.move rfl rfl rfl ?_
    refine GO.fn rfl Try.func62 fok62.1 fok62.2 rfl rfl (impl_hasIndex_int64.calls HS (RdIn.own (j := 0) rfl) h35) (fun _ wd36 ⟨h37, HS⟩ => ⟨_, h37, ?_⟩)
    refine GO.not rfl rfl rfl ?_
    refine GO.move rfl rfl rfl ?_
    refine GO.known (t := 32) rfl (congrArg Bool.not c38) ?_
    refine GO.on rfl rfl rfl rfl ?_
    refine GO.move rfl rfl rfl ?_
    refine GO.back ?_
    refine GO.on rfl rfl rfl rfl ?_
    refine GO.move rfl rfl rfl ?_
    refine GO.back ?_
    refine GO.on rfl rfl rfl rfl ?_
    refine GO.fn rfl Try.func62 fok62.1 fok62.2 rfl rfl (impl_hasIndex_int64.calls HS (RdIn.own (j := 0) rfl) h40) (fun _ wd41 ⟨h42, HS⟩ => ⟨_, h42, ?_⟩)
    refine GO.back ?_
    refine GO.on rfl rfl rfl rfl ?_
    refine GO.not rfl rfl rfl ?_
    refine GO.back ?_
    refine GO.pickF rfl rfl rfl rfl rfl ?_
    refine GO.assign rfl rfl rfl ?_
    refine GO.nil ?_
    rcases ite_elim H with ⟨c43, H⟩ | ⟨c43, H⟩
    ·
     refine G.noB rfl (congrArg Bool.not c43) ?_
     refine G.seq ?_
     rcases ite_elim H with ⟨c47, H⟩ | ⟨c47, H⟩
     ·
      refine G.regionAny mixed (by decide) (fun b a w => ∃ (Y1_0 : Value) (Y2_1 : Value) (Y3_2 : Value) (Y4_3 : Value) (Y5_4 : Value) (Y6_5 : Value) (Y7_6 : Value) (Y8_7 : Value) (Y9_8 : Value) (Y10_9 : Value) (Y11_10 : Value) (Y12_11 : Value) (Y13_12 : Value) (Y14_13 : Value) (Y15_14 : Value) (Y16_15 : Value) (Y17_16 : Value), Sat 144 [(39, Y17_16), (40, Y1_0), (41, Y2_1), (42, Y3_2), (43, Y4_3), (44, Y5_4), (45, Y6_5), (46, Y7_6), (47, Y8_7), (48, Y9_8), (49, Y10_9), (50, Y11_10), (51, Y12_11), (52, Y13_12), (53, Y14_13), (54, Y15_14), (55, Y16_15), (1, .int .i64 o), (2, .int .i64 A), (3, .pointer (some ⟨b1, 0, none⟩)), (6, .pointer (some ⟨b3, 0, none⟩)), (8, .pointer (some ⟨b15, 0, none⟩)), (10, .slice A21 t19.length c22)] a ∧ St w0 w (Own (TInt .i64) 2 A21 c22 (fun _ => ()) t19 :: Box b15 63 [.slice A9 t5.length c10, .slice A11 t6.length c12] :: Own T_GEnd 68 A9 c10 (fun _ => ()) t5 :: Own T_GEnd 68 A11 c12 (fun _ => ()) t6 :: Box b3 28 [.slice none 0 0, .int .i64 0] :: Box b1 28 [.slice A_t_Crossings t_Crossings.length c_t_Crossings, .int .i64 t_Circles] :: L) ∧ (b 16 = true → Y17_16 = (.bool true)) ∧ (b 0 = true → Y1_0 = (.int .i64 o)) ∧ (b 1 = true → Y2_1 = (.int .i64 (w64 (o.tdiv 2)))) ∧ (b 2 = true → Y3_2 = (.int .i64 A)) ∧ (b 3 = true → Y4_3 = (.int .i64 (w64 (A.tdiv 2)))) ∧ (b 4 = true → Y5_4 = (.bool (decide (w64 (o.tdiv 2) = w64 (A.tdiv 2))))) ∧ (b 5 = true → Y6_5 = (.bool true)) ∧ (b 6 = true → Y7_6 = (undef)) ∧ (b 7 = true → Y8_7 = (undef)) ∧ (b 8 = true → Y9_8 = (undef)) ∧ (b 9 = true → Y10_9 = (undef)) ∧ (b 10 = true → Y11_10 = (undef)) ∧ (b 11 = true → Y12_11 = (undef)) ∧ (b 12 = true → Y13_12 = (undef)) ∧ (b 13 = true → Y14_13 = (undef)) ∧ (b 14 = true → Y15_14 = (undef)) ∧ (b 15 = true → Y16_15 = (.bool true))) ?_ ?_ ?_
      ·
       intro a hs
       obtain ⟨Y17_16, hs⟩ := hs.ext (d := 39) rfl
       obtain ⟨Y1_0, hs⟩ := hs.ext (d := 40) rfl
       obtain ⟨Y2_1, hs⟩ := hs.ext (d := 41) rfl
       obtain ⟨Y3_2, hs⟩ := hs.ext (d := 42) rfl
       obtain ⟨Y4_3, hs⟩ := hs.ext (d := 43) rfl
       obtain ⟨Y5_4, hs⟩ := hs.ext (d := 44) rfl
       obtain ⟨Y6_5, hs⟩ := hs.ext (d := 45) rfl
       obtain ⟨Y7_6, hs⟩ := hs.ext (d := 46) rfl
       obtain ⟨Y8_7, hs⟩ := hs.ext (d := 47) rfl
       obtain ⟨Y9_8, hs⟩ := hs.ext (d := 48) rfl
       obtain ⟨Y10_9, hs⟩ := hs.ext (d := 49) rfl
       obtain ⟨Y11_10, hs⟩ := hs.ext (d := 50) rfl
       obtain ⟨Y12_11, hs⟩ := hs.ext (d := 51) rfl
       obtain ⟨Y13_12, hs⟩ := hs.ext (d := 52) rfl
       obtain ⟨Y14_13, hs⟩ := hs.ext (d := 53) rfl
       obtain ⟨Y15_14, hs⟩ := hs.ext (d := 54) rfl
       obtain ⟨Y16_15, hs⟩ := hs.ext (d := 55) rfl
       exact ⟨Y1_0, Y2_1, Y3_2, Y4_3, Y5_4, Y6_5, Y7_6, Y8_7, Y9_8, Y10_9, Y11_10, Y12_11, Y13_12, Y14_13, Y15_14, Y16_15, Y17_16, hs.weak ⟨rfl, rfl, rfl, rfl, rfl, rfl, rfl, rfl, rfl, rfl, rfl, rfl, rfl, rfl, rfl, rfl, rfl, rfl, rfl, rfl, rfl, rfl, rfl, trivial⟩, (HS.drew.pick 6 [0, 1, 2, 3, 4, 5]), fun h => Bool.noConfusion h, fun h => Bool.noConfusion h, fun h => Bool.noConfusion h, fun h => Bool.noConfusion h, fun h => Bool.noConfusion h, fun h => Bool.noConfusion h, fun h => Bool.noConfusion h, fun h => Bool.noConfusion h, fun h => Bool.noConfusion h, fun h => Bool.noConfusion h, fun h => Bool.noConfusion h, fun h => Bool.noConfusion h, fun h => Bool.noConfusion h, fun h => Bool.noConfusion h, fun h => Bool.noConfusion h, fun h => Bool.noConfusion h, fun h => Bool.noConfusion h⟩
      ·
       intro j hj b a w
       refine exI fun Y1_0 => exI fun Y2_1 => exI fun Y3_2 => exI fun Y4_3 => exI fun Y5_4 => exI fun Y6_5 => exI fun Y7_6 => exI fun Y8_7 => exI fun Y9_8 => exI fun Y10_9 => exI fun Y11_10 => exI fun Y12_11 => exI fun Y13_12 => exI fun Y14_13 => exI fun Y15_14 => exI fun Y16_15 => exI fun Y17_16 => anI fun hs => anI fun HS => anI fun f16 => anI fun f0 => anI fun f1 => anI fun f2 => anI fun f3 => anI fun f4 => anI fun f5 => anI fun f6 => anI fun f7 => anI fun f8 => anI fun f9 => anI fun f10 => anI fun f11 => anI fun f12 => anI fun f13 => anI fun f14 => fun f15 hb hd hcl => ?_
       match j, hj with
       | 0, _ =>
        refine GO.at hs ?_
        refine GO.move rfl rfl rfl ?_
        refine GO.fin (fun a hs => ?_)
        exact ⟨(.int .i64 o), _, _, _, _, _, _, _, _, _, _, _, _, _, _, _, _, hs.weak ⟨rfl, rfl, rfl, rfl, rfl, rfl, rfl, rfl, rfl, rfl, rfl, rfl, rfl, rfl, rfl, rfl, rfl, rfl, rfl, rfl, rfl, rfl, rfl, trivial⟩, HS.pick 6 [0, 1, 2, 3, 4, 5], f16, fun _ => rfl, f1, f2, f3, f4, f5, f6, f7, f8, f9, f10, f11, f12, f13, f14, f15⟩
       | 1, _ =>
        have h0 : b 0 = true := hd 0 (by decide)
        obtain rfl := f0 h0
        refine GO.at hs ?_
        refine GO.quo rfl rfl rfl (by decide) rfl ?_
        refine GO.fin (fun a hs => ?_)
        exact ⟨_, (.int .i64 (w64 (o.tdiv 2))), _, _, _, _, _, _, _, _, _, _, _, _, _, _, _, hs.weak ⟨rfl, rfl, rfl, rfl, rfl, rfl, rfl, rfl, rfl, rfl, rfl, rfl, rfl, rfl, rfl, rfl, rfl, rfl, rfl, rfl, rfl, rfl, rfl, trivial⟩, HS.pick 6 [0, 1, 2, 3, 4, 5], f16, f0, fun _ => rfl, f2, f3, f4, f5, f6, f7, f8, f9, f10, f11, f12, f13, f14, f15⟩
       | 2, _ =>
        refine GO.at hs ?_
        refine GO.move rfl rfl rfl ?_
        refine GO.fin (fun a hs => ?_)
        exact ⟨_, _, (.int .i64 A), _, _, _, _, _, _, _, _, _, _, _, _, _, _, hs.weak ⟨rfl, rfl, rfl, rfl, rfl, rfl, rfl, rfl, rfl, rfl, rfl, rfl, rfl, rfl, rfl, rfl, rfl, rfl, rfl, rfl, rfl, rfl, rfl, trivial⟩, HS.pick 6 [0, 1, 2, 3, 4, 5], f16, f0, f1, fun _ => rfl, f3, f4, f5, f6, f7, f8, f9, f10, f11, f12, f13, f14, f15⟩
       | 3, _ =>
        have h2 : b 2 = true := hd 2 (by decide)
        obtain rfl := f2 h2
        refine GO.at hs ?_
        refine GO.quo rfl rfl rfl (by decide) rfl ?_
        refine GO.fin (fun a hs => ?_)
        exact ⟨_, _, _, (.int .i64 (w64 (A.tdiv 2))), _, _, _, _, _, _, _, _, _, _, _, _, _, hs.weak ⟨rfl, rfl, rfl, rfl, rfl, rfl, rfl, rfl, rfl, rfl, rfl, rfl, rfl, rfl, rfl, rfl, rfl, rfl, rfl, rfl, rfl, rfl, rfl, trivial⟩, HS.pick 6 [0, 1, 2, 3, 4, 5], f16, f0, f1, f2, fun _ => rfl, f4, f5, f6, f7, f8, f9, f10, f11, f12, f13, f14, f15⟩
       | 4, _ =>
        have h1 : b 1 = true := hd 1 (by decide)
        obtain rfl := f1 h1
        have h3 : b 3 = true := hd 3 (by decide)
        obtain rfl := f3 h3
        refine GO.at hs ?_
        refine GO.eql rfl rfl rfl rfl ?_
        refine GO.fin (fun a hs => ?_)
        exact ⟨_, _, _, _, (.bool (decide (w64 (o.tdiv 2) = w64 (A.tdiv 2)))), _, _, _, _, _, _, _, _, _, _, _, _, hs.weak ⟨rfl, rfl, rfl, rfl, rfl, rfl, rfl, rfl, rfl, rfl, rfl, rfl, rfl, rfl, rfl, rfl, rfl, rfl, rfl, rfl, rfl, rfl, rfl, trivial⟩, HS.pick 6 [0, 1, 2, 3, 4, 5], f16, f0, f1, f2, f3, fun _ => rfl, f5, f6, f7, f8, f9, f10, f11, f12, f13, f14, f15⟩
       | 5, _ =>
        have h4 : b 4 = true := hd 4 (by decide)
        obtain rfl := f4 h4
        refine GO.at hs ?_
        refine GO.move rfl rfl rfl ?_
        refine GO.known (t := 45) rfl (decide_eq_true c47) ?_
        refine GO.fin (fun a hs => ?_)
        exact ⟨_, _, _, _, _, (.bool true), _, _, _, _, _, _, _, _, _, _, _, hs.weak ⟨rfl, rfl, rfl, rfl, rfl, rfl, rfl, rfl, rfl, rfl, rfl, rfl, rfl, rfl, rfl, rfl, rfl, rfl, rfl, rfl, rfl, rfl, rfl, trivial⟩, HS.pick 6 [0, 1, 2, 3, 4, 5], f16, f0, f1, f2, f3, f4, fun _ => rfl, f6, f7, f8, f9, f10, f11, f12, f13, f14, f15⟩
       | 6, _ =>
        have h5 : b 5 = true := hd 5 (by decide)
        obtain rfl := f5 h5
        refine GO.at hs ?_
        refine GO.off rfl rfl rfl rfl rfl rfl ?_
        refine GO.fin (fun a hs => ?_)
        exact ⟨_, _, _, _, _, _, (undef), _, _, _, _, _, _, _, _, _, _, hs.weak ⟨rfl, rfl, rfl, rfl, rfl, rfl, rfl, rfl, rfl, rfl, rfl, rfl, rfl, rfl, rfl, rfl, rfl, rfl, rfl, rfl, rfl, rfl, rfl, trivial⟩, HS.pick 6 [0, 1, 2, 3, 4, 5], f16, f0, f1, f2, f3, f4, f5, fun _ => rfl, f7, f8, f9, f10, f11, f12, f13, f14, f15⟩
       | 7, _ =>
        have h5 : b 5 = true := hd 5 (by decide)
        obtain rfl := f5 h5
        refine GO.at hs ?_
        refine GO.off rfl rfl rfl rfl rfl rfl ?_
        refine GO.fin (fun a hs => ?_)
        exact ⟨_, _, _, _, _, _, _, (undef), _, _, _, _, _, _, _, _, _, hs.weak ⟨rfl, rfl, rfl, rfl, rfl, rfl, rfl, rfl, rfl, rfl, rfl, rfl, rfl, rfl, rfl, rfl, rfl, rfl, rfl, rfl, rfl, rfl, rfl, trivial⟩, HS.pick 6 [0, 1, 2, 3, 4, 5], f16, f0, f1, f2, f3, f4, f5, f6, fun _ => rfl, f8, f9, f10, f11, f12, f13, f14, f15⟩
       | 8, _ =>
        have h5 : b 5 = true := hd 5 (by decide)
        obtain rfl := f5 h5
        have h6 : b 6 = true := hd 6 (by decide)
        obtain rfl := f6 h6
        have h7 : b 7 = true := hd 7 (by decide)
        obtain rfl := f7 h7
        refine GO.at hs ?_
        refine GO.off rfl rfl rfl rfl rfl rfl ?_
        refine GO.fin (fun a hs => ?_)
        exact ⟨_, _, _, _, _, _, _, _, (undef), _, _, _, _, _, _, _, _, hs.weak ⟨rfl, rfl, rfl, rfl, rfl, rfl, rfl, rfl, rfl, rfl, rfl, rfl, rfl, rfl, rfl, rfl, rfl, rfl, rfl, rfl, rfl, rfl, rfl, trivial⟩, HS.pick 6 [0, 1, 2, 3, 4, 5], f16, f0, f1, f2, f3, f4, f5, f6, f7, fun _ => rfl, f9, f10, f11, f12, f13, f14, f15⟩
       | 9, _ =>
        have h5 : b 5 = true := hd 5 (by decide)
        obtain rfl := f5 h5
        have h8 : b 8 = true := hd 8 (by decide)
        obtain rfl := f8 h8
        refine GO.at hs ?_
        refine GO.off rfl rfl rfl rfl rfl rfl ?_
        refine GO.fin (fun a hs => ?_)
        exact ⟨_, _, _, _, _, _, _, _, _, (undef), _, _, _, _, _, _, _, hs.weak ⟨rfl, rfl, rfl, rfl, rfl, rfl, rfl, rfl, rfl, rfl, rfl, rfl, rfl, rfl, rfl, rfl, rfl, rfl, rfl, rfl, rfl, rfl, rfl, trivial⟩, HS.pick 6 [0, 1, 2, 3, 4, 5], f16, f0, f1, f2, f3, f4, f5, f6, f7, f8, fun _ => rfl, f10, f11, f12, f13, f14, f15⟩
       | 10, _ =>
        have h5 : b 5 = true := hd 5 (by decide)
        obtain rfl := f5 h5
        refine GO.at hs ?_
        refine GO.off rfl rfl rfl rfl rfl rfl ?_
        refine GO.fin (fun a hs => ?_)
        exact ⟨_, _, _, _, _, _, _, _, _, _, (undef), _, _, _, _, _, _, hs.weak ⟨rfl, rfl, rfl, rfl, rfl, rfl, rfl, rfl, rfl, rfl, rfl, rfl, rfl, rfl, rfl, rfl, rfl, rfl, rfl, rfl, rfl, rfl, rfl, trivial⟩, HS.pick 6 [0, 1, 2, 3, 4, 5], f16, f0, f1, f2, f3, f4, f5, f6, f7, f8, f9, fun _ => rfl, f11, f12, f13, f14, f15⟩
       | 11, _ =>
        have h5 : b 5 = true := hd 5 (by decide)
        obtain rfl := f5 h5
        refine GO.at hs ?_
        refine GO.off rfl rfl rfl rfl rfl rfl ?_
        refine GO.fin (fun a hs => ?_)
        exact ⟨_, _, _, _, _, _, _, _, _, _, _, (undef), _, _, _, _, _, hs.weak ⟨rfl, rfl, rfl, rfl, rfl, rfl, rfl, rfl, rfl, rfl, rfl, rfl, rfl, rfl, rfl, rfl, rfl, rfl, rfl, rfl, rfl, rfl, rfl, trivial⟩, HS.pick 6 [0, 1, 2, 3, 4, 5], f16, f0, f1, f2, f3, f4, f5, f6, f7, f8, f9, f10, fun _ => rfl, f12, f13, f14, f15⟩
       | 12, _ =>
        have h5 : b 5 = true := hd 5 (by decide)
        obtain rfl := f5 h5
        have h10 : b 10 = true := hd 10 (by decide)
        obtain rfl := f10 h10
        have h11 : b 11 = true := hd 11 (by decide)
        obtain rfl := f11 h11
        refine GO.at hs ?_
        refine GO.off rfl rfl rfl rfl rfl rfl ?_
        refine GO.fin (fun a hs => ?_)
        exact ⟨_, _, _, _, _, _, _, _, _, _, _, _, (undef), _, _, _, _, hs.weak ⟨rfl, rfl, rfl, rfl, rfl, rfl, rfl, rfl, rfl, rfl, rfl, rfl, rfl, rfl, rfl, rfl, rfl, rfl, rfl, rfl, rfl, rfl, rfl, trivial⟩, HS.pick 6 [0, 1, 2, 3, 4, 5], f16, f0, f1, f2, f3, f4, f5, f6, f7, f8, f9, f10, f11, fun _ => rfl, f13, f14, f15⟩
       | 13, _ =>
        have h5 : b 5 = true := hd 5 (by decide)
        obtain rfl := f5 h5
        have h12 : b 12 = true := hd 12 (by decide)
        obtain rfl := f12 h12
        refine GO.at hs ?_
        refine GO.off rfl rfl rfl rfl rfl rfl ?_
        refine GO.fin (fun a hs => ?_)
        exact ⟨_, _, _, _, _, _, _, _, _, _, _, _, _, (undef), _, _, _, hs.weak ⟨rfl, rfl, rfl, rfl, rfl, rfl, rfl, rfl, rfl, rfl, rfl, rfl, rfl, rfl, rfl, rfl, rfl, rfl, rfl, rfl, rfl, rfl, rfl, trivial⟩, HS.pick 6 [0, 1, 2, 3, 4, 5], f16, f0, f1, f2, f3, f4, f5, f6, f7, f8, f9, f10, f11, f12, fun _ => rfl, f14, f15⟩
       | 14, _ =>
        have h5 : b 5 = true := hd 5 (by decide)
        obtain rfl := f5 h5
        have h9 : b 9 = true := hd 9 (by decide)
        obtain rfl := f9 h9
        have h13 : b 13 = true := hd 13 (by decide)
        obtain rfl := f13 h13
        refine GO.at hs ?_
        refine GO.off rfl rfl rfl rfl rfl rfl ?_
        refine GO.fin (fun a hs => ?_)
        exact ⟨_, _, _, _, _, _, _, _, _, _, _, _, _, _, (undef), _, _, hs.weak ⟨rfl, rfl, rfl, rfl, rfl, rfl, rfl, rfl, rfl, rfl, rfl, rfl, rfl, rfl, rfl, rfl, rfl, rfl, rfl, rfl, rfl, rfl, rfl, trivial⟩, HS.pick 6 [0, 1, 2, 3, 4, 5], f16, f0, f1, f2, f3, f4, f5, f6, f7, f8, f9, f10, f11, f12, f13, fun _ => rfl, f15⟩
       | 15, _ =>
        have h5 : b 5 = true := hd 5 (by decide)
        obtain rfl := f5 h5
        have h14 : b 14 = true := hd 14 (by decide)
        obtain rfl := f14 h14
        refine GO.at hs ?_
        refine GO.pickT rfl rfl rfl rfl rfl ?_
        refine GO.fin (fun a hs => ?_)
        exact ⟨_, _, _, _, _, _, _, _, _, _, _, _, _, _, _, (.bool true), _, hs.weak ⟨rfl, rfl, rfl, rfl, rfl, rfl, rfl, rfl, rfl, rfl, rfl, rfl, rfl, rfl, rfl, rfl, rfl, rfl, rfl, rfl, rfl, rfl, rfl, trivial⟩, HS.pick 6 [0, 1, 2, 3, 4, 5], f16, f0, f1, f2, f3, f4, f5, f6, f7, f8, f9, f10, f11, f12, f13, f14, fun _ => rfl⟩
       | 16, _ =>
        have h15 : b 15 = true := hd 15 (by decide)
        obtain rfl := f15 h15
        refine GO.at hs ?_
        refine GO.assign rfl rfl rfl ?_
        refine GO.fin (fun a hs => ?_)
        exact ⟨_, _, _, _, _, _, _, _, _, _, _, _, _, _, _, _, (.bool true), hs.weak ⟨rfl, rfl, rfl, rfl, rfl, rfl, rfl, rfl, rfl, rfl, rfl, rfl, rfl, rfl, rfl, rfl, rfl, rfl, rfl, rfl, rfl, rfl, rfl, trivial⟩, HS.pick 6 [0, 1, 2, 3, 4, 5], fun _ => rfl, f0, f1, f2, f3, f4, f5, f6, f7, f8, f9, f10, f11, f12, f13, f14, f15⟩
       | k + 17, hj => exact absurd hj (Nat.not_lt.2 (Nat.le_add_left 17 k))
      ·
       intro b a w hall
       refine exI fun Y1_0 => exI fun Y2_1 => exI fun Y3_2 => exI fun Y4_3 => exI fun Y5_4 => exI fun Y6_5 => exI fun Y7_6 => exI fun Y8_7 => exI fun Y9_8 => exI fun Y10_9 => exI fun Y11_10 => exI fun Y12_11 => exI fun Y13_12 => exI fun Y14_13 => exI fun Y15_14 => exI fun Y16_15 => exI fun Y17_16 => anI fun hs => anI fun HS => anI fun f16 => anI fun f0 => anI fun f1 => anI fun f2 => anI fun f3 => anI fun f4 => anI fun f5 => anI fun f6 => anI fun f7 => anI fun f8 => anI fun f9 => anI fun f10 => anI fun f11 => anI fun f12 => anI fun f13 => anI fun f14 => fun f15 => ?_
       obtain rfl := f16 (hall 16 (by decide))
       obtain rfl := f0 (hall 0 (by decide))
       obtain rfl := f1 (hall 1 (by decide))
       obtain rfl := f2 (hall 2 (by decide))
       obtain rfl := f3 (hall 3 (by decide))
       obtain rfl := f4 (hall 4 (by decide))
       obtain rfl := f5 (hall 5 (by decide))
       obtain rfl := f6 (hall 6 (by decide))
       obtain rfl := f7 (hall 7 (by decide))
       obtain rfl := f8 (hall 8 (by decide))
       obtain rfl := f9 (hall 9 (by decide))
       obtain rfl := f10 (hall 10 (by decide))
       obtain rfl := f11 (hall 11 (by decide))
       obtain rfl := f12 (hall 12 (by decide))
       obtain rfl := f13 (hall 13 (by decide))
       obtain rfl := f14 (hall 14 (by decide))
       obtain rfl := f15 (hall 15 (by decide))
       refine G.at hs ?_
       refine G.yesB rfl rfl ?_
       refine G.seq ?_
       refine G.region ?_
       refine GO.buildV (.agg [.slice none 0 0, .int .i64 0].toArray) rfl rfl (fun _ => by kernel_rfl) rfl ?_
       refine GO.stBox (j := 4) (vs := [.slice none 0 0, .int .i64 0]) ([.slice none 0 0, .int .i64 0]) HS rfl rfl rfl rfl rfl (htA ag28) rfl rfl rfl ?_; intro wd48 HS
       refine GO.assign rfl rfl rfl ?_
       refine GO.nil ?_
       replace HS := HS.nilRow T_GCrossing 58 (fun _ => ())
       obtain ⟨rfl, rfl, rfl⟩ := some3 H
       exact G.ret2 _ _ Try.func22 rfl (Res1.boxA (j := 5) (vs := [.slice none 0 0, .int .i64 0]) HS rfl rfl rfl ag28) rfl ⟨_, _, rfl, (HS.pick 7 [0])⟩
     ·
      obtain ⟨c49, H⟩ := ite_none H
      obtain ⟨c50, H⟩ := ite_none H
      refine G.regionAny mixed (by decide) (fun b a w => ∃ (Y18_0 : Value) (Y19_1 : Value) (Y20_2 : Value) (Y21_3 : Value) (Y22_4 : Value) (Y23_5 : Value) (Y24_6 : Value) (Y25_7 : Value) (Y26_8 : Value) (Y27_9 : Value) (Y28_10 : Value) (Y29_11 : Value) (Y30_12 : Value) (Y31_13 : Value) (Y32_14 : Value) (Y33_15 : Value) (Y34_16 : Value), Sat 144 [(39, Y34_16), (40, Y18_0), (41, Y19_1), (42, Y20_2), (43, Y21_3), (44, Y22_4), (45, Y23_5), (46, Y24_6), (47, Y25_7), (48, Y26_8), (49, Y27_9), (50, Y28_10), (51, Y29_11), (52, Y30_12), (53, Y31_13), (54, Y32_14), (55, Y33_15), (1, .int .i64 o), (2, .int .i64 A), (3, .pointer (some ⟨b1, 0, none⟩)), (6, .pointer (some ⟨b3, 0, none⟩)), (8, .pointer (some ⟨b15, 0, none⟩)), (10, .slice A21 t19.length c22)] a ∧ St w0 w (Own (TInt .i64) 2 A21 c22 (fun _ => ()) t19 :: Box b15 63 [.slice A9 t5.length c10, .slice A11 t6.length c12] :: Own T_GEnd 68 A9 c10 (fun _ => ()) t5 :: Own T_GEnd 68 A11 c12 (fun _ => ()) t6 :: Box b3 28 [.slice none 0 0, .int .i64 0] :: Box b1 28 [.slice A_t_Crossings t_Crossings.length c_t_Crossings, .int .i64 t_Circles] :: L) ∧ (b 16 = true → Y34_16 = (.bool (!(decide (t19.getD o.toNat 0 = t19.getD A.toNat 0))))) ∧ (b 0 = true → Y18_0 = (.int .i64 o)) ∧ (b 1 = true → Y19_1 = (.int .i64 (w64 (o.tdiv 2)))) ∧ (b 2 = true → Y20_2 = (.int .i64 A)) ∧ (b 3 = true → Y21_3 = (.int .i64 (w64 (A.tdiv 2)))) ∧ (b 4 = true → Y22_4 = (.bool (decide (w64 (o.tdiv 2) = w64 (A.tdiv 2))))) ∧ (b 5 = true → Y23_5 = (.bool false)) ∧ (b 6 = true → Y24_6 = (.slice A21 t19.length c22)) ∧ (b 7 = true → Y25_7 = (.int .i64 o)) ∧ (b 8 = true → Y26_8 = (.pointer (some (ea A21 (o.toNat * 1))))) ∧ (b 9 = true → Y27_9 = (.int .i64 (t19.getD o.toNat 0))) ∧ (b 10 = true → Y28_10 = (.slice A21 t19.length c22)) ∧ (b 11 = true → Y29_11 = (.int .i64 A)) ∧ (b 12 = true → Y30_12 = (.pointer (some (ea A21 (A.toNat * 1))))) ∧ (b 13 = true → Y31_13 = (.int .i64 (t19.getD A.toNat 0))) ∧ (b 14 = true → Y32_14 = (.bool (!(decide (t19.getD o.toNat 0 = t19.getD A.toNat 0))))) ∧ (b 15 = true → Y33_15 = (.bool (!(decide (t19.getD o.toNat 0 = t19.getD A.toNat 0)))))) ?_ ?_ ?_
      ·
       intro a hs
       obtain ⟨Y34_16, hs⟩ := hs.ext (d := 39) rfl
       obtain ⟨Y18_0, hs⟩ := hs.ext (d := 40) rfl
       obtain ⟨Y19_1, hs⟩ := hs.ext (d := 41) rfl
       obtain ⟨Y20_2, hs⟩ := hs.ext (d := 42) rfl
       obtain ⟨Y21_3, hs⟩ := hs.ext (d := 43) rfl
       obtain ⟨Y22_4, hs⟩ := hs.ext (d := 44) rfl
       obtain ⟨Y23_5, hs⟩ := hs.ext (d := 45) rfl
       obtain ⟨Y24_6, hs⟩ := hs.ext (d := 46) rfl
       obtain ⟨Y25_7, hs⟩ := hs.ext (d := 47) rfl
       obtain ⟨Y26_8, hs⟩ := hs.ext (d := 48) rfl
       obtain ⟨Y27_9, hs⟩ := hs.ext (d := 49) rfl
       obtain ⟨Y28_10, hs⟩ := hs.ext (d := 50) rfl
       obtain ⟨Y29_11, hs⟩ := hs.ext (d := 51) rfl
       obtain ⟨Y30_12, hs⟩ := hs.ext (d := 52) rfl
       obtain ⟨Y31_13, hs⟩ := hs.ext (d := 53) rfl
       obtain ⟨Y32_14, hs⟩ := hs.ext (d := 54) rfl
       obtain ⟨Y33_15, hs⟩ := hs.ext (d := 55) rfl
       exact ⟨Y18_0, Y19_1, Y20_2, Y21_3, Y22_4, Y23_5, Y24_6, Y25_7, Y26_8, Y27_9, Y28_10, Y29_11, Y30_12, Y31_13, Y32_14, Y33_15, Y34_16, hs.weak ⟨rfl, rfl, rfl, rfl, rfl, rfl, rfl, rfl, rfl, rfl, rfl, rfl, rfl, rfl, rfl, rfl, rfl, rfl, rfl, rfl, rfl, rfl, rfl, trivial⟩, (HS.drew.pick 6 [0, 1, 2, 3, 4, 5]), fun h => Bool.noConfusion h, fun h => Bool.noConfusion h, fun h => Bool.noConfusion h, fun h => Bool.noConfusion h, fun h => Bool.noConfusion h, fun h => Bool.noConfusion h, fun h => Bool.noConfusion h, fun h => Bool.noConfusion h, fun h => Bool.noConfusion h, fun h => Bool.noConfusion h, fun h => Bool.noConfusion h, fun h => Bool.noConfusion h, fun h => Bool.noConfusion h, fun h => Bool.noConfusion h, fun h => Bool.noConfusion h, fun h => Bool.noConfusion h, fun h => Bool.noConfusion h⟩
      ·
       intro j hj b a w
       refine exI fun Y18_0 => exI fun Y19_1 => exI fun Y20_2 => exI fun Y21_3 => exI fun Y22_4 => exI fun Y23_5 => exI fun Y24_6 => exI fun Y25_7 => exI fun Y26_8 => exI fun Y27_9 => exI fun Y28_10 => exI fun Y29_11 => exI fun Y30_12 => exI fun Y31_13 => exI fun Y32_14 => exI fun Y33_15 => exI fun Y34_16 => anI fun hs => anI fun HS => anI fun f16 => anI fun f0 => anI fun f1 => anI fun f2 => anI fun f3 => anI fun f4 => anI fun f5 => anI fun f6 => anI fun f7 => anI fun f8 => anI fun f9 => anI fun f10 => anI fun f11 => anI fun f12 => anI fun f13 => anI fun f14 => fun f15 hb hd hcl => ?_
       match j, hj with
       | 0, _ =>
        refine GO.at hs ?_
        refine GO.move rfl rfl rfl ?_
        refine GO.fin (fun a hs => ?_)
        exact ⟨(.int .i64 o), _, _, _, _, _, _, _, _, _, _, _, _, _, _, _, _, hs.weak ⟨rfl, rfl, rfl, rfl, rfl, rfl, rfl, rfl, rfl, rfl, rfl, rfl, rfl, rfl, rfl, rfl, rfl, rfl, rfl, rfl, rfl, rfl, rfl, trivial⟩, HS.pick 6 [0, 1, 2, 3, 4, 5], f16, fun _ => rfl, f1, f2, f3, f4, f5, f6, f7, f8, f9, f10, f11, f12, f13, f14, f15⟩
       | 1, _ =>
        have h0 : b 0 = true := hd 0 (by decide)
        obtain rfl := f0 h0
        refine GO.at hs ?_
        refine GO.quo rfl rfl rfl (by decide) rfl ?_
        refine GO.fin (fun a hs => ?_)
        exact ⟨_, (.int .i64 (w64 (o.tdiv 2))), _, _, _, _, _, _, _, _, _, _, _, _, _, _, _, hs.weak ⟨rfl, rfl, rfl, rfl, rfl, rfl, rfl, rfl, rfl, rfl, rfl, rfl, rfl, rfl, rfl, rfl, rfl, rfl, rfl, rfl, rfl, rfl, rfl, trivial⟩, HS.pick 6 [0, 1, 2, 3, 4, 5], f16, f0, fun _ => rfl, f2, f3, f4, f5, f6, f7, f8, f9, f10, f11, f12, f13, f14, f15⟩
       | 2, _ =>
        refine GO.at hs ?_
        refine GO.move rfl rfl rfl ?_
        refine GO.fin (fun a hs => ?_)
        exact ⟨_, _, (.int .i64 A), _, _, _, _, _, _, _, _, _, _, _, _, _, _, hs.weak ⟨rfl, rfl, rfl, rfl, rfl, rfl, rfl, rfl, rfl, rfl, rfl, rfl, rfl, rfl, rfl, rfl, rfl, rfl, rfl, rfl, rfl, rfl, rfl, trivial⟩, HS.pick 6 [0, 1, 2, 3, 4, 5], f16, f0, f1, fun _ => rfl, f3, f4, f5, f6, f7, f8, f9, f10, f11, f12, f13, f14, f15⟩
       | 3, _ =>
        have h2 : b 2 = true := hd 2 (by decide)
        obtain rfl := f2 h2
        refine GO.at hs ?_
        refine GO.quo rfl rfl rfl (by decide) rfl ?_
        refine GO.fin (fun a hs => ?_)
        exact ⟨_, _, _, (.int .i64 (w64 (A.tdiv 2))), _, _, _, _, _, _, _, _, _, _, _, _, _, hs.weak ⟨rfl, rfl, rfl, rfl, rfl, rfl, rfl, rfl, rfl, rfl, rfl, rfl, rfl, rfl, rfl, rfl, rfl, rfl, rfl, rfl, rfl, rfl, rfl, trivial⟩, HS.pick 6 [0, 1, 2, 3, 4, 5], f16, f0, f1, f2, fun _ => rfl, f4, f5, f6, f7, f8, f9, f10, f11, f12, f13, f14, f15⟩
       | 4, _ =>
        have h1 : b 1 = true := hd 1 (by decide)
        obtain rfl := f1 h1
        have h3 : b 3 = true := hd 3 (by decide)
        obtain rfl := f3 h3
        refine GO.at hs ?_
        refine GO.eql rfl rfl rfl rfl ?_
        refine GO.fin (fun a hs => ?_)
        exact ⟨_, _, _, _, (.bool (decide (w64 (o.tdiv 2) = w64 (A.tdiv 2)))), _, _, _, _, _, _, _, _, _, _, _, _, hs.weak ⟨rfl, rfl, rfl, rfl, rfl, rfl, rfl, rfl, rfl, rfl, rfl, rfl, rfl, rfl, rfl, rfl, rfl, rfl, rfl, rfl, rfl, rfl, rfl, trivial⟩, HS.pick 6 [0, 1, 2, 3, 4, 5], f16, f0, f1, f2, f3, fun _ => rfl, f5, f6, f7, f8, f9, f10, f11, f12, f13, f14, f15⟩
       | 5, _ =>
        have h4 : b 4 = true := hd 4 (by decide)
        obtain rfl := f4 h4
        refine GO.at hs ?_
        refine GO.move rfl rfl rfl ?_
        refine GO.known (t := 45) rfl (decide_eq_false c47) ?_
        refine GO.fin (fun a hs => ?_)
        exact ⟨_, _, _, _, _, (.bool false), _, _, _, _, _, _, _, _, _, _, _, hs.weak ⟨rfl, rfl, rfl, rfl, rfl, rfl, rfl, rfl, rfl, rfl, rfl, rfl, rfl, rfl, rfl, rfl, rfl, rfl, rfl, rfl, rfl, rfl, rfl, trivial⟩, HS.pick 6 [0, 1, 2, 3, 4, 5], f16, f0, f1, f2, f3, f4, fun _ => rfl, f6, f7, f8, f9, f10, f11, f12, f13, f14, f15⟩
       | 6, _ =>
        have h5 : b 5 = true := hd 5 (by decide)
        obtain rfl := f5 h5
        refine GO.at hs ?_
        refine GO.on rfl rfl rfl rfl ?_
        refine GO.move rfl rfl rfl ?_
        refine GO.back ?_
        refine GO.fin (fun a hs => ?_)
        exact ⟨_, _, _, _, _, _, (.slice A21 t19.length c22), _, _, _, _, _, _, _, _, _, _, hs.weak ⟨rfl, rfl, rfl, rfl, rfl, rfl, rfl, rfl, rfl, rfl, rfl, rfl, rfl, rfl, rfl, rfl, rfl, rfl, rfl, rfl, rfl, rfl, rfl, trivial⟩, HS.pick 6 [0, 1, 2, 3, 4, 5], f16, f0, f1, f2, f3, f4, f5, fun _ => rfl, f7, f8, f9, f10, f11, f12, f13, f14, f15⟩
       | 7, _ =>
        have h5 : b 5 = true := hd 5 (by decide)
        obtain rfl := f5 h5
        refine GO.at hs ?_
        refine GO.on rfl rfl rfl rfl ?_
        refine GO.move rfl rfl rfl ?_
        refine GO.back ?_
        refine GO.fin (fun a hs => ?_)
        exact ⟨_, _, _, _, _, _, _, (.int .i64 o), _, _, _, _, _, _, _, _, _, hs.weak ⟨rfl, rfl, rfl, rfl, rfl, rfl, rfl, rfl, rfl, rfl, rfl, rfl, rfl, rfl, rfl, rfl, rfl, rfl, rfl, rfl, rfl, rfl, rfl, trivial⟩, HS.pick 6 [0, 1, 2, 3, 4, 5], f16, f0, f1, f2, f3, f4, f5, f6, fun _ => rfl, f8, f9, f10, f11, f12, f13, f14, f15⟩
       | 8, _ =>
        have h5 : b 5 = true := hd 5 (by decide)
        obtain rfl := f5 h5
        have h6 : b 6 = true := hd 6 (by decide)
        obtain rfl := f6 h6
        have h7 : b 7 = true := hd 7 (by decide)
        obtain rfl := f7 h7
        refine GO.at hs ?_
        refine GO.on rfl rfl rfl rfl ?_
        refine GO.ix rfl rfl rfl Try.underlying43 sz2 ((RdIn.own (j := 0) rfl) _ HS).2.2.1 c49.1 c49.2 rfl ?_
        refine GO.back ?_
        refine GO.fin (fun a hs => ?_)
        exact ⟨_, _, _, _, _, _, _, _, (.pointer (some (ea A21 (o.toNat * 1)))), _, _, _, _, _, _, _, _, hs.weak ⟨rfl, rfl, rfl, rfl, rfl, rfl, rfl, rfl, rfl, rfl, rfl, rfl, rfl, rfl, rfl, rfl, rfl, rfl, rfl, rfl, rfl, rfl, rfl, trivial⟩, HS.pick 6 [0, 1, 2, 3, 4, 5], f16, f0, f1, f2, f3, f4, f5, f6, f7, fun _ => rfl, f9, f10, f11, f12, f13, f14, f15⟩
       | 9, _ =>
        have h5 : b 5 = true := hd 5 (by decide)
        obtain rfl := f5 h5
        have h8 : b 8 = true := hd 8 (by decide)
        obtain rfl := f8 h8
        refine GO.at hs ?_
        refine GO.on rfl rfl rfl rfl ?_
        refine GO.ldRd (T := (TInt .i64)) (n := o.toNat) (o := 0) HS (RdIn.own (j := 0) rfl) rfl rfl (getD_some (d := 0) (ltN c49)) rfl rfl na2 rfl ?_
        refine GO.back ?_
        refine GO.fin (fun a hs => ?_)
        exact ⟨_, _, _, _, _, _, _, _, _, (.int .i64 (t19.getD o.toNat 0)), _, _, _, _, _, _, _, hs.weak ⟨rfl, rfl, rfl, rfl, rfl, rfl, rfl, rfl, rfl, rfl, rfl, rfl, rfl, rfl, rfl, rfl, rfl, rfl, rfl, rfl, rfl, rfl, rfl, trivial⟩, HS.pick 6 [0, 1, 2, 3, 4, 5], f16, f0, f1, f2, f3, f4, f5, f6, f7, f8, fun _ => rfl, f10, f11, f12, f13, f14, f15⟩
       | 10, _ =>
        have h5 : b 5 = true := hd 5 (by decide)
        obtain rfl := f5 h5
        refine GO.at hs ?_
        refine GO.on rfl rfl rfl rfl ?_
        refine GO.move rfl rfl rfl ?_
        refine GO.back ?_
        refine GO.fin (fun a hs => ?_)
        exact ⟨_, _, _, _, _, _, _, _, _, _, (.slice A21 t19.length c22), _, _, _, _, _, _, hs.weak ⟨rfl, rfl, rfl, rfl, rfl, rfl, rfl, rfl, rfl, rfl, rfl, rfl, rfl, rfl, rfl, rfl, rfl, rfl, rfl, rfl, rfl, rfl, rfl, trivial⟩, HS.pick 6 [0, 1, 2, 3, 4, 5], f16, f0, f1, f2, f3, f4, f5, f6, f7, f8, f9, fun _ => rfl, f11, f12, f13, f14, f15⟩
       | 11, _ =>
        have h5 : b 5 = true := hd 5 (by decide)
        obtain rfl := f5 h5
        refine GO.at hs ?_
        refine GO.on rfl rfl rfl rfl ?_
        refine GO.move rfl rfl rfl ?_
        refine GO.back ?_
        refine GO.fin (fun a hs => ?_)
        exact ⟨_, _, _, _, _, _, _, _, _, _, _, (.int .i64 A), _, _, _, _, _, hs.weak ⟨rfl, rfl, rfl, rfl, rfl, rfl, rfl, rfl, rfl, rfl, rfl, rfl, rfl, rfl, rfl, rfl, rfl, rfl, rfl, rfl, rfl, rfl, rfl, trivial⟩, HS.pick 6 [0, 1, 2, 3, 4, 5], f16, f0, f1, f2, f3, f4, f5, f6, f7, f8, f9, f10, fun _ => rfl, f12, f13, f14, f15⟩
       | 12, _ =>
        have h5 : b 5 = true := hd 5 (by decide)
        obtain rfl := f5 h5
        have h10 : b 10 = true := hd 10 (by decide)
        obtain rfl := f10 h10
        have h11 : b 11 = true := hd 11 (by decide)
        obtain rfl := f11 h11
        refine GO.at hs ?_
        refine GO.on rfl rfl rfl rfl ?_
        refine GO.ix rfl rfl rfl Try.underlying43 sz2 ((RdIn.own (j := 0) rfl) _ HS).2.2.1 c50.1 c50.2 rfl ?_
        refine GO.back ?_
        refine GO.fin (fun a hs => ?_)
        exact ⟨_, _, _, _, _, _, _, _, _, _, _, _, (.pointer (some (ea A21 (A.toNat * 1)))), _, _, _, _, hs.weak ⟨rfl, rfl, rfl, rfl, rfl, rfl, rfl, rfl, rfl, rfl, rfl, rfl, rfl, rfl, rfl, rfl, rfl, rfl, rfl, rfl, rfl, rfl, rfl, trivial⟩, HS.pick 6 [0, 1, 2, 3, 4, 5], f16, f0, f1, f2, f3, f4, f5, f6, f7, f8, f9, f10, f11, fun _ => rfl, f13, f14, f15⟩
       | 13, _ =>
        have h5 : b 5 = true := hd 5 (by decide)
        obtain rfl := f5 h5
        have h12 : b 12 = true := hd 12 (by decide)
        obtain rfl := f12 h12
        refine GO.at hs ?_
        refine GO.on rfl rfl rfl rfl ?_
        refine GO.ldRd (T := (TInt .i64)) (n := A.toNat) (o := 0) HS (RdIn.own (j := 0) rfl) rfl rfl (getD_some (d := 0) (ltN c50)) rfl rfl na2 rfl ?_
        refine GO.back ?_
        refine GO.fin (fun a hs => ?_)
        exact ⟨_, _, _, _, _, _, _, _, _, _, _, _, _, (.int .i64 (t19.getD A.toNat 0)), _, _, _, hs.weak ⟨rfl, rfl, rfl, rfl, rfl, rfl, rfl, rfl, rfl, rfl, rfl, rfl, rfl, rfl, rfl, rfl, rfl, rfl, rfl, rfl, rfl, rfl, rfl, trivial⟩, HS.pick 6 [0, 1, 2, 3, 4, 5], f16, f0, f1, f2, f3, f4, f5, f6, f7, f8, f9, f10, f11, f12, fun _ => rfl, f14, f15⟩
       | 14, _ =>
        have h5 : b 5 = true := hd 5 (by decide)
        obtain rfl := f5 h5
        have h9 : b 9 = true := hd 9 (by decide)
        obtain rfl := f9 h9
        have h13 : b 13 = true := hd 13 (by decide)
        obtain rfl := f13 h13
        refine GO.at hs ?_
        refine GO.on rfl rfl rfl rfl ?_
        refine GO.neq rfl rfl rfl rfl ?_
        refine GO.back ?_
        refine GO.fin (fun a hs => ?_)
        exact ⟨_, _, _, _, _, _, _, _, _, _, _, _, _, _, (.bool (!(decide (t19.getD o.toNat 0 = t19.getD A.toNat 0)))), _, _, hs.weak ⟨rfl, rfl, rfl, rfl, rfl, rfl, rfl, rfl, rfl, rfl, rfl, rfl, rfl, rfl, rfl, rfl, rfl, rfl, rfl, rfl, rfl, rfl, rfl, trivial⟩, HS.pick 6 [0, 1, 2, 3, 4, 5], f16, f0, f1, f2, f3, f4, f5, f6, f7, f8, f9, f10, f11, f12, f13, fun _ => rfl, f15⟩
       | 15, _ =>
        have h5 : b 5 = true := hd 5 (by decide)
        obtain rfl := f5 h5
        have h14 : b 14 = true := hd 14 (by decide)
        obtain rfl := f14 h14
        refine GO.at hs ?_
        refine GO.pickF rfl rfl rfl rfl rfl ?_
        refine GO.fin (fun a hs => ?_)
        exact ⟨_, _, _, _, _, _, _, _, _, _, _, _, _, _, _, (.bool (!(decide (t19.getD o.toNat 0 = t19.getD A.toNat 0)))), _, hs.weak ⟨rfl, rfl, rfl, rfl, rfl, rfl, rfl, rfl, rfl, rfl, rfl, rfl, rfl, rfl, rfl, rfl, rfl, rfl, rfl, rfl, rfl, rfl, rfl, trivial⟩, HS.pick 6 [0, 1, 2, 3, 4, 5], f16, f0, f1, f2, f3, f4, f5, f6, f7, f8, f9, f10, f11, f12, f13, f14, fun _ => rfl⟩
       | 16, _ =>
        have h15 : b 15 = true := hd 15 (by decide)
        obtain rfl := f15 h15
        refine GO.at hs ?_
        refine GO.assign rfl rfl rfl ?_
        refine GO.fin (fun a hs => ?_)
        exact ⟨_, _, _, _, _, _, _, _, _, _, _, _, _, _, _, _, (.bool (!(decide (t19.getD o.toNat 0 = t19.getD A.toNat 0)))), hs.weak ⟨rfl, rfl, rfl, rfl, rfl, rfl, rfl, rfl, rfl, rfl, rfl, rfl, rfl, rfl, rfl, rfl, rfl, rfl, rfl, rfl, rfl, rfl, rfl, trivial⟩, HS.pick 6 [0, 1, 2, 3, 4, 5], fun _ => rfl, f0, f1, f2, f3, f4, f5, f6, f7, f8, f9, f10, f11, f12, f13, f14, f15⟩
       | k + 17, hj => exact absurd hj (Nat.not_lt.2 (Nat.le_add_left 17 k))
      ·
       intro b a w hall
       refine exI fun Y18_0 => exI fun Y19_1 => exI fun Y20_2 => exI fun Y21_3 => exI fun Y22_4 => exI fun Y23_5 => exI fun Y24_6 => exI fun Y25_7 => exI fun Y26_8 => exI fun Y27_9 => exI fun Y28_10 => exI fun Y29_11 => exI fun Y30_12 => exI fun Y31_13 => exI fun Y32_14 => exI fun Y33_15 => exI fun Y34_16 => anI fun hs => anI fun HS => anI fun f16 => anI fun f0 => anI fun f1 => anI fun f2 => anI fun f3 => anI fun f4 => anI fun f5 => anI fun f6 => anI fun f7 => anI fun f8 => anI fun f9 => anI fun f10 => anI fun f11 => anI fun f12 => anI fun f13 => anI fun f14 => fun f15 => ?_
       obtain rfl := f16 (hall 16 (by decide))
       obtain rfl := f0 (hall 0 (by decide))
       obtain rfl := f1 (hall 1 (by decide))
       obtain rfl := f2 (hall 2 (by decide))
       obtain rfl := f3 (hall 3 (by decide))
       obtain rfl := f4 (hall 4 (by decide))
       obtain rfl := f5 (hall 5 (by decide))
       obtain rfl := f6 (hall 6 (by decide))
       obtain rfl := f7 (hall 7 (by decide))
       obtain rfl := f8 (hall 8 (by decide))
       obtain rfl := f9 (hall 9 (by decide))
       obtain rfl := f10 (hall 10 (by decide))
       obtain rfl := f11 (hall 11 (by decide))
       obtain rfl := f12 (hall 12 (by decide))
       obtain rfl := f13 (hall 13 (by decide))
       obtain rfl := f14 (hall 14 (by decide))
       obtain rfl := f15 (hall 15 (by decide))
       refine G.at hs ?_
       rcases ite_elim H with ⟨c51, H⟩ | ⟨c51, H⟩
       ·
        refine G.noB rfl (congrArg Bool.not (decide_eq_true c51)) ?_
        refine G.seq ?_
        refine G.region ?_
        refine GO.fld (⟨b1, 0, none⟩) rfl rfl fl28_0 rfl rfl ?_
        refine GO.ldBox (j := 5) HS rfl rfl rfl rfl na26 rfl ?_
        refine GO.lenS rfl rfl Try.underlying26 rfl ?_
        refine GO.gtr rfl rfl rfl rfl ?_
        refine GO.assign rfl rfl rfl ?_
        refine GO.nil ?_
        rcases ite_elim H with ⟨c52, H⟩ | ⟨c52, H⟩
        ·
         refine G.yesB rfl (decide_eq_true c52) ?_
         refine G.seq ?_
         refine G.region ?_
         refine GO.buildV (.agg [.slice none 0 0, .int .i64 0].toArray) rfl rfl (fun _ => by kernel_rfl) rfl ?_
         refine GO.stBox (j := 4) (vs := [.slice none 0 0, .int .i64 0]) ([.slice none 0 0, .int .i64 0]) HS rfl rfl rfl rfl rfl (htA ag28) rfl rfl rfl ?_; intro wd53 HS
         refine GO.assign rfl rfl rfl ?_
         refine GO.nil ?_
         replace HS := HS.nilRow T_GCrossing 58 (fun _ => ())
         obtain ⟨rfl, rfl, rfl⟩ := some3 H
         exact G.ret2 _ _ Try.func22 rfl (Res1.boxA (j := 5) (vs := [.slice none 0 0, .int .i64 0]) HS rfl rfl rfl ag28) rfl ⟨_, _, rfl, (HS.pick 7 [0])⟩
        ·
         refine G.noB rfl (decide_eq_false c52) ?_
         refine G.skip ?_
         refine G.blockEnd ?_
         refine G.seq ?_
         obtain ⟨t54, h55, H⟩ := Option.bind_eq_some_iff.1 H
         refine G.region ?_
         refine GO.move rfl rfl rfl ?_
         refine GO.quo rfl rfl rfl (by decide) rfl ?_
         refine GO.move rfl rfl rfl ?_
         refine GO.quo rfl rfl rfl (by decide) rfl ?_
         refine GO.fld (⟨b15, 1, none⟩) rfl rfl fl63_1 rfl rfl ?_
         refine GO.ldBox (j := 1) HS rfl rfl rfl rfl na61 rfl ?_
         refine GO.fn rfl Try.func48 fok48.1 fok48.2 rfl rfl (impl_size_impl_end.calls HS (RdIn.own (j := 3) rfl) h55) (fun _ wd56 ⟨h57, HS⟩ => ⟨_, h57, ?_⟩)
         refine GO.assign rfl rfl rfl ?_
         refine GO.assign rfl rfl rfl ?_
         refine GO.assign rfl rfl rfl ?_
         refine GO.nil ?_
         refine G.seq ?_
         obtain ⟨t58, t59, h60, H⟩ := bind2_elim H
         refine G.region ?_
         refine GO.ldBoxA (j := 5) ([.slice A_t_Crossings t_Crossings.length c_t_Crossings, .int .i64 t_Circles]) HS rfl rfl rfl rfl ag28 rfl ?_
         refine GO.fn rfl Try.func49 fok49.1 fok49.2 rfl rfl (impl_copyDiagram.calls HS (RdIn.drop 6 h_t_Crossings) h60) (fun _ wd63 ⟨A61, c62, h64, HS⟩ => ⟨_, h64, ?_⟩)
         refine GO.alloc HS rfl zr28 rfl rfl ?_; intro b65 wd66 HS
         refine GO.stBox (j := 0) (vs := [.slice A61 t58.length c62, .int .i64 t59]) ([.slice A61 t58.length c62, .int .i64 t59]) HS rfl rfl rfl rfl rfl (htA ag28) rfl rfl rfl ?_; intro wd67 HS
         refine GO.nil ?_
         refine G.seq ?_
         obtain ⟨c68, H⟩ := ite_none H
         obtain ⟨e69, h70, H⟩ := bnd_elim H
         obtain ⟨t71, h72, H⟩ := Option.bind_eq_some_iff.1 H
         obtain ⟨c73, H⟩ := ite_none H
         refine G.regionAny mixed (by decide) (fun b a w => ∃ (Y35_0 : Value) (Y36_1 : Value) (Y37_2 : Value) (Y38_3 : Value) (Y39_4 : Value) (Y40_5 : Value) (Y41_6 : Value) (Y42_7 : Value) (Y43_8 : Value) (O44_9 : HObj), Sat 144 [(72, Y35_0), (73, Y36_1), (74, Y37_2), (75, Y38_3), (76, Y39_4), (77, Y40_5), (78, Y41_6), (79, Y42_7), (80, Y43_8), (1, .int .i64 o), (2, .int .i64 A), (6, .pointer (some ⟨b3, 0, none⟩)), (8, .pointer (some ⟨b15, 0, none⟩)), (11, .int .i64 (w64 (o.tdiv 2))), (12, .int .i64 (w64 (A.tdiv 2))), (13, .int .i64 t54), (14, .pointer (some ⟨b65, 0, none⟩))] a ∧ St w0 w (Box b65 28 [.slice A61 t58.length c62, .int .i64 t59] :: O44_9 :: Own (TInt .i64) 2 A21 c22 (fun _ => ()) t19 :: Box b15 63 [.slice A9 t5.length c10, .slice A11 t6.length c12] :: Own T_GEnd 68 A9 c10 (fun _ => ()) t5 :: Own T_GEnd 68 A11 c12 (fun _ => ()) t6 :: Box b3 28 [.slice none 0 0, .int .i64 0] :: Box b1 28 [.slice A_t_Crossings t_Crossings.length c_t_Crossings, .int .i64 t_Circles] :: L) ∧ (b 0 = true → Y35_0 = (.agg [.slice A61 t58.length c62, .int .i64 t59].toArray)) ∧ (b 1 = true → Y36_1 = (.pointer (some ⟨b15, 1, none⟩))) ∧ (b 2 = true → Y37_2 = (.slice A11 t6.length c12)) ∧ (b 3 = true → Y38_3 = (.int .i64 (w64 (o.tdiv 2)))) ∧ (b 4 = true → Y39_4 = (.pointer (some (ea A11 (((w64 (o.tdiv 2)).toNat) * 2))))) ∧ (b 5 = true → Y40_5 = (.agg [.int .i64 e69.crossing, .int .i64 e69.position].toArray)) ∧ (b 6 = true → Y41_6 = (.int .i64 t54)) ∧ (b 7 = true → Y42_7 = (.int .i64 (w64 (t54 + 1)))) ∧ (b 8 = true → Y43_8 = (.tuple #[])) ∧ (b 8 = false → O44_9 = Own T_GCrossing 58 A61 c62 (fun _ => ()) t58) ∧ (b 8 = true → O44_9 = Own T_GCrossing 58 A61 c62 (fun _ => ()) t71)) ?_ ?_ ?_
         ·
          intro a hs
          obtain ⟨Y35_0, hs⟩ := hs.ext (d := 72) rfl
          obtain ⟨Y36_1, hs⟩ := hs.ext (d := 73) rfl
          obtain ⟨Y37_2, hs⟩ := hs.ext (d := 74) rfl
          obtain ⟨Y38_3, hs⟩ := hs.ext (d := 75) rfl
          obtain ⟨Y39_4, hs⟩ := hs.ext (d := 76) rfl
          obtain ⟨Y40_5, hs⟩ := hs.ext (d := 77) rfl
          obtain ⟨Y41_6, hs⟩ := hs.ext (d := 78) rfl
          obtain ⟨Y42_7, hs⟩ := hs.ext (d := 79) rfl
          obtain ⟨Y43_8, hs⟩ := hs.ext (d := 80) rfl
          exact ⟨Y35_0, Y36_1, Y37_2, Y38_3, Y39_4, Y40_5, Y41_6, Y42_7, Y43_8, Own T_GCrossing 58 A61 c62 (fun _ => ()) t58, hs.weak ⟨rfl, rfl, rfl, rfl, rfl, rfl, rfl, rfl, rfl, rfl, rfl, rfl, rfl, rfl, rfl, rfl, rfl, trivial⟩, (HS.drew.pick 8 [0, 1, 2, 3, 4, 5, 6, 7]), fun h => Bool.noConfusion h, fun h => Bool.noConfusion h, fun h => Bool.noConfusion h, fun h => Bool.noConfusion h, fun h => Bool.noConfusion h, fun h => Bool.noConfusion h, fun h => Bool.noConfusion h, fun h => Bool.noConfusion h, fun h => Bool.noConfusion h, fun _ => rfl, fun h => Bool.noConfusion h⟩
         ·
          intro j hj b a w
          refine exI fun Y35_0 => exI fun Y36_1 => exI fun Y37_2 => exI fun Y38_3 => exI fun Y39_4 => exI fun Y40_5 => exI fun Y41_6 => exI fun Y42_7 => exI fun Y43_8 => exI fun O44_9 => anI fun hs => anI fun HS => anI fun f0 => anI fun f1 => anI fun f2 => anI fun f3 => anI fun f4 => anI fun f5 => anI fun f6 => anI fun f7 => anI fun f8 => anI fun o9_0 => fun o9_1 hb hd hcl => ?_
          match j, hj with
          | 0, _ =>
           refine GO.at hs ?_
           refine GO.ldBoxA (j := 0) ([.slice A61 t58.length c62, .int .i64 t59]) HS rfl rfl rfl rfl ag28 rfl ?_
           refine GO.fin (fun a hs => ?_)
           exact ⟨(.agg [.slice A61 t58.length c62, .int .i64 t59].toArray), _, _, _, _, _, _, _, _, _, hs.weak ⟨rfl, rfl, rfl, rfl, rfl, rfl, rfl, rfl, rfl, rfl, rfl, rfl, rfl, rfl, rfl, rfl, rfl, trivial⟩, HS.pick 8 [0, 1, 2, 3, 4, 5, 6, 7], fun _ => rfl, f1, f2, f3, f4, f5, f6, f7, f8, o9_0, o9_1⟩
          | 1, _ =>
           refine GO.at hs ?_
           refine GO.fld (⟨b15, 1, none⟩) rfl rfl fl63_1 rfl rfl ?_
           refine GO.fin (fun a hs => ?_)
           exact ⟨_, (.pointer (some ⟨b15, 1, none⟩)), _, _, _, _, _, _, _, _, hs.weak ⟨rfl, rfl, rfl, rfl, rfl, rfl, rfl, rfl, rfl, rfl, rfl, rfl, rfl, rfl, rfl, rfl, rfl, trivial⟩, HS.pick 8 [0, 1, 2, 3, 4, 5, 6, 7], f0, fun _ => rfl, f2, f3, f4, f5, f6, f7, f8, o9_0, o9_1⟩
          | 2, _ =>
           have h1 : b 1 = true := hd 1 (by decide)
           obtain rfl := f1 h1
           refine GO.at hs ?_
           refine GO.ldBox (j := 3) HS rfl rfl rfl rfl na61 rfl ?_
           refine GO.fin (fun a hs => ?_)
           exact ⟨_, _, (.slice A11 t6.length c12), _, _, _, _, _, _, _, hs.weak ⟨rfl, rfl, rfl, rfl, rfl, rfl, rfl, rfl, rfl, rfl, rfl, rfl, rfl, rfl, rfl, rfl, rfl, trivial⟩, HS.pick 8 [0, 1, 2, 3, 4, 5, 6, 7], f0, f1, fun _ => rfl, f3, f4, f5, f6, f7, f8, o9_0, o9_1⟩
          | 3, _ =>
           refine GO.at hs ?_
           refine GO.move rfl rfl rfl ?_
           refine GO.fin (fun a hs => ?_)
           exact ⟨_, _, _, (.int .i64 (w64 (o.tdiv 2))), _, _, _, _, _, _, hs.weak ⟨rfl, rfl, rfl, rfl, rfl, rfl, rfl, rfl, rfl, rfl, rfl, rfl, rfl, rfl, rfl, rfl, rfl, trivial⟩, HS.pick 8 [0, 1, 2, 3, 4, 5, 6, 7], f0, f1, f2, fun _ => rfl, f4, f5, f6, f7, f8, o9_0, o9_1⟩
          | 4, _ =>
           have h2 : b 2 = true := hd 2 (by decide)
           obtain rfl := f2 h2
           have h3 : b 3 = true := hd 3 (by decide)
           obtain rfl := f3 h3
           refine GO.at hs ?_
           refine GO.ix rfl rfl rfl Try.underlying61 sz68 ((RdIn.own (j := 5) rfl) _ HS).2.2.1 c68.1 c68.2 rfl ?_
           refine GO.fin (fun a hs => ?_)
           exact ⟨_, _, _, _, (.pointer (some (ea A11 (((w64 (o.tdiv 2)).toNat) * 2)))), _, _, _, _, _, hs.weak ⟨rfl, rfl, rfl, rfl, rfl, rfl, rfl, rfl, rfl, rfl, rfl, rfl, rfl, rfl, rfl, rfl, rfl, trivial⟩, HS.pick 8 [0, 1, 2, 3, 4, 5, 6, 7], f0, f1, f2, f3, fun _ => rfl, f5, f6, f7, f8, o9_0, o9_1⟩
          | 5, _ =>
           have h4 : b 4 = true := hd 4 (by decide)
           obtain rfl := f4 h4
           refine GO.at hs ?_
           refine GO.ldRdA (T := T_GEnd) (n := (w64 (o.tdiv 2)).toNat) HS (RdIn.own (j := 5) rfl) rfl rfl (getD_eq (ltN c68) h70) ag68 rfl ?_
           refine GO.fin (fun a hs => ?_)
           exact ⟨_, _, _, _, _, (.agg [.int .i64 e69.crossing, .int .i64 e69.position].toArray), _, _, _, _, hs.weak ⟨rfl, rfl, rfl, rfl, rfl, rfl, rfl, rfl, rfl, rfl, rfl, rfl, rfl, rfl, rfl, rfl, rfl, trivial⟩, HS.pick 8 [0, 1, 2, 3, 4, 5, 6, 7], f0, f1, f2, f3, f4, fun _ => rfl, f6, f7, f8, o9_0, o9_1⟩
          | 6, _ =>
           refine GO.at hs ?_
           refine GO.move rfl rfl rfl ?_
           refine GO.fin (fun a hs => ?_)
           exact ⟨_, _, _, _, _, _, (.int .i64 t54), _, _, _, hs.weak ⟨rfl, rfl, rfl, rfl, rfl, rfl, rfl, rfl, rfl, rfl, rfl, rfl, rfl, rfl, rfl, rfl, rfl, trivial⟩, HS.pick 8 [0, 1, 2, 3, 4, 5, 6, 7], f0, f1, f2, f3, f4, f5, fun _ => rfl, f7, f8, o9_0, o9_1⟩
          | 7, _ =>
           have h6 : b 6 = true := hd 6 (by decide)
           obtain rfl := f6 h6
           refine GO.at hs ?_
           refine GO.add rfl rfl rfl rfl ?_
           refine GO.fin (fun a hs => ?_)
           exact ⟨_, _, _, _, _, _, _, (.int .i64 (w64 (t54 + 1))), _, _, hs.weak ⟨rfl, rfl, rfl, rfl, rfl, rfl, rfl, rfl, rfl, rfl, rfl, rfl, rfl, rfl, rfl, rfl, rfl, trivial⟩, HS.pick 8 [0, 1, 2, 3, 4, 5, 6, 7], f0, f1, f2, f3, f4, f5, f6, fun _ => rfl, f8, o9_0, o9_1⟩
          | 8, _ =>
           have h0 : b 0 = true := hd 0 (by decide)
           obtain rfl := f0 h0
           have h5 : b 5 = true := hd 5 (by decide)
           obtain rfl := f5 h5
           have h7 : b 7 = true := hd 7 (by decide)
           obtain rfl := f7 h7
           obtain rfl := o9_0 hb
           refine GO.at hs ?_
           replace HS := HS.pick 8 [1, 0, 2, 3, 4, 5, 6, 7]
           refine GO.fn rfl Try.func50 fok50.1 fok50.2 rfl rfl (impl_Diagram_set.calls HS  h72) (fun _ wd74 ⟨h75, HS⟩ => ⟨_, h75, ?_⟩)
           refine GO.fin (fun a hs => ?_)
           exact ⟨_, _, _, _, _, _, _, _, (.tuple #[]), Own T_GCrossing 58 A61 c62 (fun _ => ()) t71, hs.weak ⟨rfl, rfl, rfl, rfl, rfl, rfl, rfl, rfl, rfl, rfl, rfl, rfl, rfl, rfl, rfl, rfl, rfl, trivial⟩, HS.pick 8 [1, 0, 2, 3, 4, 5, 6, 7], f0, f1, f2, f3, f4, f5, f6, f7, fun _ => rfl, fun h => Bool.noConfusion h, fun _ => rfl⟩
          | k + 9, hj => exact absurd hj (Nat.not_lt.2 (Nat.le_add_left 9 k))
         ·
          intro b a w hall
          refine exI fun Y35_0 => exI fun Y36_1 => exI fun Y37_2 => exI fun Y38_3 => exI fun Y39_4 => exI fun Y40_5 => exI fun Y41_6 => exI fun Y42_7 => exI fun Y43_8 => exI fun O44_9 => anI fun hs => anI fun HS => anI fun f0 => anI fun f1 => anI fun f2 => anI fun f3 => anI fun f4 => anI fun f5 => anI fun f6 => anI fun f7 => anI fun f8 => anI fun o9_0 => fun o9_1 => ?_
          obtain rfl := f0 (hall 0 (by decide))
          obtain rfl := f1 (hall 1 (by decide))
          obtain rfl := f2 (hall 2 (by decide))
          obtain rfl := f3 (hall 3 (by decide))
          obtain rfl := f4 (hall 4 (by decide))
          obtain rfl := f5 (hall 5 (by decide))
          obtain rfl := f6 (hall 6 (by decide))
          obtain rfl := f7 (hall 7 (by decide))
          obtain rfl := f8 (hall 8 (by decide))
          obtain rfl := o9_1 (hall 8 (by decide))
          refine G.at hs ?_
          replace HS := HS.boxEq (j := 0) (cs' := [.slice A61 t71.length c62, .int .i64 t59]) rfl (by simp only [List.length_set, c73] <;> rfl)
          refine G.seq ?_
          obtain ⟨c76, H⟩ := ite_none H
          obtain ⟨e77, h78, H⟩ := bnd_elim H
          obtain ⟨t79, h80, H⟩ := Option.bind_eq_some_iff.1 H
          obtain ⟨c81, H⟩ := ite_none H
          refine G.regionAny mixed (by decide) (fun b a w => ∃ (Y45_0 : Value) (Y46_1 : Value) (Y47_2 : Value) (Y48_3 : Value) (Y49_4 : Value) (Y50_5 : Value) (Y51_6 : Value) (Y52_7 : Value) (Y53_8 : Value) (O54_9 : HObj), Sat 144 [(81, Y45_0), (82, Y46_1), (83, Y47_2), (84, Y48_3), (85, Y49_4), (86, Y50_5), (87, Y51_6), (88, Y52_7), (89, Y53_8), (1, .int .i64 o), (2, .int .i64 A), (6, .pointer (some ⟨b3, 0, none⟩)), (8, .pointer (some ⟨b15, 0, none⟩)), (11, .int .i64 (w64 (o.tdiv 2))), (12, .int .i64 (w64 (A.tdiv 2))), (13, .int .i64 t54), (14, .pointer (some ⟨b65, 0, none⟩))] a ∧ St w0 w (Box b65 28 [.slice A61 t71.length c62, .int .i64 t59] :: O54_9 :: Own (TInt .i64) 2 A21 c22 (fun _ => ()) t19 :: Box b15 63 [.slice A9 t5.length c10, .slice A11 t6.length c12] :: Own T_GEnd 68 A9 c10 (fun _ => ()) t5 :: Own T_GEnd 68 A11 c12 (fun _ => ()) t6 :: Box b3 28 [.slice none 0 0, .int .i64 0] :: Box b1 28 [.slice A_t_Crossings t_Crossings.length c_t_Crossings, .int .i64 t_Circles] :: L) ∧ (b 0 = true → Y45_0 = (.agg [.slice A61 t71.length c62, .int .i64 t59].toArray)) ∧ (b 1 = true → Y46_1 = (.pointer (some ⟨b15, 1, none⟩))) ∧ (b 2 = true → Y47_2 = (.slice A11 t6.length c12)) ∧ (b 3 = true → Y48_3 = (.int .i64 (w64 (A.tdiv 2)))) ∧ (b 4 = true → Y49_4 = (.pointer (some (ea A11 (((w64 (A.tdiv 2)).toNat) * 2))))) ∧ (b 5 = true → Y50_5 = (.agg [.int .i64 e77.crossing, .int .i64 e77.position].toArray)) ∧ (b 6 = true → Y51_6 = (.int .i64 t54)) ∧ (b 7 = true → Y52_7 = (.int .i64 (w64 (t54 + 3)))) ∧ (b 8 = true → Y53_8 = (.tuple #[])) ∧ (b 8 = false → O54_9 = Own T_GCrossing 58 A61 c62 (fun _ => ()) t71) ∧ (b 8 = true → O54_9 = Own T_GCrossing 58 A61 c62 (fun _ => ()) t79)) ?_ ?_ ?_
          ·
           intro a hs
           obtain ⟨Y45_0, hs⟩ := hs.ext (d := 81) rfl
           obtain ⟨Y46_1, hs⟩ := hs.ext (d := 82) rfl
           obtain ⟨Y47_2, hs⟩ := hs.ext (d := 83) rfl
           obtain ⟨Y48_3, hs⟩ := hs.ext (d := 84) rfl
           obtain ⟨Y49_4, hs⟩ := hs.ext (d := 85) rfl
           obtain ⟨Y50_5, hs⟩ := hs.ext (d := 86) rfl
           obtain ⟨Y51_6, hs⟩ := hs.ext (d := 87) rfl
           obtain ⟨Y52_7, hs⟩ := hs.ext (d := 88) rfl
           obtain ⟨Y53_8, hs⟩ := hs.ext (d := 89) rfl
           exact ⟨Y45_0, Y46_1, Y47_2, Y48_3, Y49_4, Y50_5, Y51_6, Y52_7, Y53_8, Own T_GCrossing 58 A61 c62 (fun _ => ()) t71, hs.weak ⟨rfl, rfl, rfl, rfl, rfl, rfl, rfl, rfl, rfl, rfl, rfl, rfl, rfl, rfl, rfl, rfl, rfl, trivial⟩, (HS.drew.pick 8 [0, 1, 2, 3, 4, 5, 6, 7]), fun h => Bool.noConfusion h, fun h => Bool.noConfusion h, fun h => Bool.noConfusion h, fun h => Bool.noConfusion h, fun h => Bool.noConfusion h, fun h => Bool.noConfusion h, fun h => Bool.noConfusion h, fun h => Bool.noConfusion h, fun h => Bool.noConfusion h, fun _ => rfl, fun h => Bool.noConfusion h⟩
          ·
           intro j hj b a w
           refine exI fun Y45_0 => exI fun Y46_1 => exI fun Y47_2 => exI fun Y48_3 => exI fun Y49_4 => exI fun Y50_5 => exI fun Y51_6 => exI fun Y52_7 => exI fun Y53_8 => exI fun O54_9 => anI fun hs => anI fun HS => anI fun f0 => anI fun f1 => anI fun f2 => anI fun f3 => anI fun f4 => anI fun f5 => anI fun f6 => anI fun f7 => anI fun f8 => anI fun o9_0 => fun o9_1 hb hd hcl => ?_
           match j, hj with
           | 0, _ =>
            refine GO.at hs ?_
            refine GO.ldBoxA (j := 0) ([.slice A61 t71.length c62, .int .i64 t59]) HS rfl rfl rfl rfl ag28 rfl ?_
            refine GO.fin (fun a hs => ?_)
            exact ⟨(.agg [.slice A61 t71.length c62, .int .i64 t59].toArray), _, _, _, _, _, _, _, _, _, hs.weak ⟨rfl, rfl, rfl, rfl, rfl, rfl, rfl, rfl, rfl, rfl, rfl, rfl, rfl, rfl, rfl, rfl, rfl, trivial⟩, HS.pick 8 [0, 1, 2, 3, 4, 5, 6, 7], fun _ => rfl, f1, f2, f3, f4, f5, f6, f7, f8, o9_0, o9_1⟩
           | 1, _ =>
            refine GO.at hs ?_
            refine GO.fld (⟨b15, 1, none⟩) rfl rfl fl63_1 rfl rfl ?_
            refine GO.fin (fun a hs => ?_)
            exact ⟨_, (.pointer (some ⟨b15, 1, none⟩)), _, _, _, _, _, _, _, _, hs.weak ⟨rfl, rfl, rfl, rfl, rfl, rfl, rfl, rfl, rfl, rfl, rfl, rfl, rfl, rfl, rfl, rfl, rfl, trivial⟩, HS.pick 8 [0, 1, 2, 3, 4, 5, 6, 7], f0, fun _ => rfl, f2, f3, f4, f5, f6, f7, f8, o9_0, o9_1⟩
           | 2, _ =>
            have h1 : b 1 = true := hd 1 (by decide)
            obtain rfl := f1 h1
            refine GO.at hs ?_
            refine GO.ldBox (j := 3) HS rfl rfl rfl rfl na61 rfl ?_
            refine GO.fin (fun a hs => ?_)
            exact ⟨_, _, (.slice A11 t6.length c12), _, _, _, _, _, _, _, hs.weak ⟨rfl, rfl, rfl, rfl, rfl, rfl, rfl, rfl, rfl, rfl, rfl, rfl, rfl, rfl, rfl, rfl, rfl, trivial⟩, HS.pick 8 [0, 1, 2, 3, 4, 5, 6, 7], f0, f1, fun _ => rfl, f3, f4, f5, f6, f7, f8, o9_0, o9_1⟩
           | 3, _ =>
            refine GO.at hs ?_
            refine GO.move rfl rfl rfl ?_
            refine GO.fin (fun a hs => ?_)
            exact ⟨_, _, _, (.int .i64 (w64 (A.tdiv 2))), _, _, _, _, _, _, hs.weak ⟨rfl, rfl, rfl, rfl, rfl, rfl, rfl, rfl, rfl, rfl, rfl, rfl, rfl, rfl, rfl, rfl, rfl, trivial⟩, HS.pick 8 [0, 1, 2, 3, 4, 5, 6, 7], f0, f1, f2, fun _ => rfl, f4, f5, f6, f7, f8, o9_0, o9_1⟩
           | 4, _ =>
            have h2 : b 2 = true := hd 2 (by decide)
            obtain rfl := f2 h2
            have h3 : b 3 = true := hd 3 (by decide)
            obtain rfl := f3 h3
            refine GO.at hs ?_
            refine GO.ix rfl rfl rfl Try.underlying61 sz68 ((RdIn.own (j := 5) rfl) _ HS).2.2.1 c76.1 c76.2 rfl ?_
            refine GO.fin (fun a hs => ?_)
            exact ⟨_, _, _, _, (.pointer (some (ea A11 (((w64 (A.tdiv 2)).toNat) * 2)))), _, _, _, _, _, hs.weak ⟨rfl, rfl, rfl, rfl, rfl, rfl, rfl, rfl, rfl, rfl, rfl, rfl, rfl, rfl, rfl, rfl, rfl, trivial⟩, HS.pick 8 [0, 1, 2, 3, 4, 5, 6, 7], f0, f1, f2, f3, fun _ => rfl, f5, f6, f7, f8, o9_0, o9_1⟩
           | 5, _ =>
            have h4 : b 4 = true := hd 4 (by decide)
            obtain rfl := f4 h4
            refine GO.at hs ?_
            refine GO.ldRdA (T := T_GEnd) (n := (w64 (A.tdiv 2)).toNat) HS (RdIn.own (j := 5) rfl) rfl rfl (getD_eq (ltN c76) h78) ag68 rfl ?_
            refine GO.fin (fun a hs => ?_)
            exact ⟨_, _, _, _, _, (.agg [.int .i64 e77.crossing, .int .i64 e77.position].toArray), _, _, _, _, hs.weak ⟨rfl, rfl, rfl, rfl, rfl, rfl, rfl, rfl, rfl, rfl, rfl, rfl, rfl, rfl, rfl, rfl, rfl, trivial⟩, HS.pick 8 [0, 1, 2, 3, 4, 5, 6, 7], f0, f1, f2, f3, f4, fun _ => rfl, f6, f7, f8, o9_0, o9_1⟩
           | 6, _ =>
            refine GO.at hs ?_
            refine GO.move rfl rfl rfl ?_
            refine GO.fin (fun a hs => ?_)
            exact ⟨_, _, _, _, _, _, (.int .i64 t54), _, _, _, hs.weak ⟨rfl, rfl, rfl, rfl, rfl, rfl, rfl, rfl, rfl, rfl, rfl, rfl, rfl, rfl, rfl, rfl, rfl, trivial⟩, HS.pick 8 [0, 1, 2, 3, 4, 5, 6, 7], f0, f1, f2, f3, f4, f5, fun _ => rfl, f7, f8, o9_0, o9_1⟩
           | 7, _ =>
            have h6 : b 6 = true := hd 6 (by decide)
            obtain rfl := f6 h6
            refine GO.at hs ?_
            refine GO.add rfl rfl rfl rfl ?_
            refine GO.fin (fun a hs => ?_)
            exact ⟨_, _, _, _, _, _, _, (.int .i64 (w64 (t54 + 3))), _, _, hs.weak ⟨rfl, rfl, rfl, rfl, rfl, rfl, rfl, rfl, rfl, rfl, rfl, rfl, rfl, rfl, rfl, rfl, rfl, trivial⟩, HS.pick 8 [0, 1, 2, 3, 4, 5, 6, 7], f0, f1, f2, f3, f4, f5, f6, fun _ => rfl, f8, o9_0, o9_1⟩
           | 8, _ =>
            have h0 : b 0 = true := hd 0 (by decide)
            obtain rfl := f0 h0
            have h5 : b 5 = true := hd 5 (by decide)
            obtain rfl := f5 h5
            have h7 : b 7 = true := hd 7 (by decide)
            obtain rfl := f7 h7
            obtain rfl := o9_0 hb
            refine GO.at hs ?_
            replace HS := HS.pick 8 [1, 0, 2, 3, 4, 5, 6, 7]
            refine GO.fn rfl Try.func50 fok50.1 fok50.2 rfl rfl (impl_Diagram_set.calls HS  h80) (fun _ wd82 ⟨h83, HS⟩ => ⟨_, h83, ?_⟩)
            refine GO.fin (fun a hs => ?_)
            exact ⟨_, _, _, _, _, _, _, _, (.tuple #[]), Own T_GCrossing 58 A61 c62 (fun _ => ()) t79, hs.weak ⟨rfl, rfl, rfl, rfl, rfl, rfl, rfl, rfl, rfl, rfl, rfl, rfl, rfl, rfl, rfl, rfl, rfl, trivial⟩, HS.pick 8 [1, 0, 2, 3, 4, 5, 6, 7], f0, f1, f2, f3, f4, f5, f6, f7, fun _ => rfl, fun h => Bool.noConfusion h, fun _ => rfl⟩
           | k + 9, hj => exact absurd hj (Nat.not_lt.2 (Nat.le_add_left 9 k))
          ·
           intro b a w hall
           refine exI fun Y45_0 => exI fun Y46_1 => exI fun Y47_2 => exI fun Y48_3 => exI fun Y49_4 => exI fun Y50_5 => exI fun Y51_6 => exI fun Y52_7 => exI fun Y53_8 => exI fun O54_9 => anI fun hs => anI fun HS => anI fun f0 => anI fun f1 => anI fun f2 => anI fun f3 => anI fun f4 => anI fun f5 => anI fun f6 => anI fun f7 => anI fun f8 => anI fun o9_0 => fun o9_1 => ?_
           obtain rfl := f0 (hall 0 (by decide))
           obtain rfl := f1 (hall 1 (by decide))
           obtain rfl := f2 (hall 2 (by decide))
           obtain rfl := f3 (hall 3 (by decide))
           obtain rfl := f4 (hall 4 (by decide))
           obtain rfl := f5 (hall 5 (by decide))
           obtain rfl := f6 (hall 6 (by decide))
           obtain rfl := f7 (hall 7 (by decide))
           obtain rfl := f8 (hall 8 (by decide))
           obtain rfl := o9_1 (hall 8 (by decide))
           refine G.at hs ?_
           replace HS := HS.boxEq (j := 0) (cs' := [.slice A61 t79.length c62, .int .i64 t59]) rfl (by simp only [List.length_set, c81] <;> rfl)
           refine G.seq ?_
           refine G.region ?_
           refine GO.move rfl rfl rfl ?_
           refine GO.rem rfl rfl rfl (by decide) rfl ?_
           refine GO.mul rfl rfl rfl rfl ?_
           refine GO.sub rfl rfl rfl rfl ?_
           refine GO.assign rfl rfl rfl ?_
           refine GO.nil ?_
           refine G.seq ?_
           refine G.seq ?_
           refine G.region ?_
           refine GO.move rfl rfl rfl ?_
           refine GO.rem rfl rfl rfl (by decide) rfl ?_
           refine GO.move rfl rfl rfl ?_
           refine GO.rem rfl rfl rfl (by decide) rfl ?_
           refine GO.neq rfl rfl rfl rfl ?_
           refine GO.nil ?_
           rcases ite_elim H with ⟨c84, H⟩ | ⟨c84, H⟩
           ·
            refine G.noB rfl (congrArg Bool.not (decide_eq_true c84)) ?_
            obtain ⟨t85, t86, t87, t88, t89, h90, H⟩ := bind5_elim H
            obtain ⟨t93, t94, t95, t96, t97, h98, H⟩ := bind5_elim H
            obtain ⟨c106, H⟩ := ite_none H
            refine G.regionAny mixed (by decide) (fun b a w => ∃ (Y55_0 : Value) (Y56_1 : Value) (Y57_2 : Value) (Y58_3 : Value) (Y59_4 : Value) (Y60_5 : Value) (Y61_6 : Value) (Y62_7 : Value) (Y63_8 : Value) (Y64_9 : Value) (Y65_10 : Value) (Y66_11 : Value) (Y67_12 : Value) (Y68_13 : Value) (Y69_14 : Value) (Y70_15 : Value) (Y71_16 : Value) (Y72_17 : Value) (Y73_18 : Value) (Y74_19 : Value) (Y75_20 : Value) (Y76_21 : Value) (b101 : Nat) (A104 : Option Addr) (c105 : Nat) (O78_10 : HObj) (O77_9 : HObj) (O79_11 : HObj), Sat 144 [(121, Y55_0), (122, Y56_1), (123, Y57_2), (124, Y58_3), (125, Y59_4), (126, Y60_5), (127, Y61_6), (128, Y62_7), (129, Y63_8), (130, Y64_9), (131, Y65_10), (132, Y66_11), (133, Y67_12), (134, Y68_13), (135, Y69_14), (136, Y70_15), (137, Y71_16), (138, Y72_17), (139, Y73_18), (140, Y74_19), (141, Y75_20), (142, Y76_21), (6, .pointer (some ⟨b3, 0, none⟩)), (11, .int .i64 (w64 (o.tdiv 2))), (12, .int .i64 (w64 (A.tdiv 2))), (13, .int .i64 t54), (14, .pointer (some ⟨b65, 0, none⟩)), (15, .int .i64 (w64 (1 - (w64 (2 * (A.tmod 2))))))] a ∧ St w0 w (O78_10 :: O77_9 :: Own (TInt .i64) 2 A21 c22 (fun _ => ()) t19 :: Box b15 63 [.slice A9 t5.length c10, .slice A11 t6.length c12] :: Own T_GEnd 68 A9 c10 (fun _ => ()) t5 :: Own T_GEnd 68 A11 c12 (fun _ => ()) t6 :: Box b3 28 [.slice none 0 0, .int .i64 0] :: Box b1 28 [.slice A_t_Crossings t_Crossings.length c_t_Crossings, .int .i64 t_Circles] :: O79_11 :: L) ∧ (b 0 = true → Y55_0 = (.pointer (some ⟨b65, 0, none⟩))) ∧ (b 1 = true → Y56_1 = (.slice A61 t79.length c62)) ∧ (b 2 = true → Y57_2 = (.int .i64 t54)) ∧ (b 3 = true → Y58_3 = (.int .i64 (w64 (t54 + 2)))) ∧ (b 4 = true → Y59_4 = (.int .i64 t54)) ∧ (b 5 = true → Y60_5 = (.int .i64 (w64 (t54 + 3)))) ∧ (b 6 = true → Y61_6 = (.int .i64 (w64 (o.tdiv 2)))) ∧ (b 7 = true → Y62_7 = (.int .i64 t54)) ∧ (b 8 = true → Y63_8 = (.int .i64 (w64 (1 - (w64 (2 * (A.tmod 2))))))) ∧ (b 9 = true → Y64_9 = (.agg [.int .i64 t85, .int .i64 t86, .int .i64 t87, .int .i64 t88, .int .i64 t89].toArray)) ∧ (b 10 = true → Y65_10 = (.int .i64 (w64 (A.tdiv 2)))) ∧ (b 11 = true → Y66_11 = (.int .i64 t54)) ∧ (b 12 = true → Y67_12 = (.int .i64 (w64 (t54 + 2)))) ∧ (b 13 = true → Y68_13 = (.int .i64 t54)) ∧ (b 14 = true → Y69_14 = (.int .i64 t54)) ∧ (b 15 = true → Y70_15 = (.int .i64 (w64 (t54 + 1)))) ∧ (b 16 = true → Y71_16 = (.int .i64 (w64 (1 - (w64 (2 * (A.tmod 2))))))) ∧ (b 17 = true → Y72_17 = (.int .i64 (w64 (0 - (w64 (1 - (w64 (2 * (A.tmod 2))))))))) ∧ (b 18 = true → Y73_18 = (.agg [.int .i64 t93, .int .i64 t94, .int .i64 t95, .int .i64 t96, .int .i64 t97].toArray)) ∧ (b 19 = true → Y74_19 = (.slice (some ⟨b101, 0, none⟩) 2 2)) ∧ (b 20 = true → Y75_20 = (.slice A104 (t79 ++ ([(⟨t85, t86, t87, t88, t89⟩ : GCrossing), (⟨t93, t94, t95, t96, t97⟩ : GCrossing)] : List GCrossing)).length c105)) ∧ (b 21 = true → Y76_21 = (.pointer (some ⟨b65, 0, none⟩))) ∧ (b 22 = false → O78_10 = Box b65 28 [.slice A61 t79.length c62, .int .i64 t59]) ∧ (b 22 = true → O78_10 = Box b65 28 [.slice A104 (t79 ++ ([(⟨t85, t86, t87, t88, t89⟩ : GCrossing), (⟨t93, t94, t95, t96, t97⟩ : GCrossing)] : List GCrossing)).length c105, .int .i64 t59]) ∧ (b 20 = false → O77_9 = Own T_GCrossing 58 A61 c62 (fun _ => ()) t79) ∧ (b 20 = true → O77_9 = Own T_GCrossing 58 A104 c105 (fun _ => ()) (t79 ++ ([(⟨t85, t86, t87, t88, t89⟩ : GCrossing), (⟨t93, t94, t95, t96, t97⟩ : GCrossing)] : List GCrossing))) ∧ (b 19 = true → b 20 = false → O79_11 = Box b101 58 [.int .i64 t85, .int .i64 t86, .int .i64 t87, .int .i64 t88, .int .i64 t89, .int .i64 t93, .int .i64 t94, .int .i64 t95, .int .i64 t96, .int .i64 t97]) ∧ (b 20 = true → O79_11 = Own T_GCrossing 58 (some ⟨b101, 0, none⟩) (([(⟨t85, t86, t87, t88, t89⟩ : GCrossing), (⟨t93, t94, t95, t96, t97⟩ : GCrossing)] : List GCrossing).length) (fun _ => ()) ([(⟨t85, t86, t87, t88, t89⟩ : GCrossing), (⟨t93, t94, t95, t96, t97⟩ : GCrossing)] : List GCrossing))) ?_ ?_ ?_
            ·
             intro a hs
             obtain ⟨Y55_0, hs⟩ := hs.ext (d := 121) rfl
             obtain ⟨Y56_1, hs⟩ := hs.ext (d := 122) rfl
             obtain ⟨Y57_2, hs⟩ := hs.ext (d := 123) rfl
             obtain ⟨Y58_3, hs⟩ := hs.ext (d := 124) rfl
             obtain ⟨Y59_4, hs⟩ := hs.ext (d := 125) rfl
             obtain ⟨Y60_5, hs⟩ := hs.ext (d := 126) rfl
             obtain ⟨Y61_6, hs⟩ := hs.ext (d := 127) rfl
             obtain ⟨Y62_7, hs⟩ := hs.ext (d := 128) rfl
             obtain ⟨Y63_8, hs⟩ := hs.ext (d := 129) rfl
             obtain ⟨Y64_9, hs⟩ := hs.ext (d := 130) rfl
             obtain ⟨Y65_10, hs⟩ := hs.ext (d := 131) rfl
             obtain ⟨Y66_11, hs⟩ := hs.ext (d := 132) rfl
             obtain ⟨Y67_12, hs⟩ := hs.ext (d := 133) rfl
             obtain ⟨Y68_13, hs⟩ := hs.ext (d := 134) rfl
             obtain ⟨Y69_14, hs⟩ := hs.ext (d := 135) rfl
             obtain ⟨Y70_15, hs⟩ := hs.ext (d := 136) rfl
             obtain ⟨Y71_16, hs⟩ := hs.ext (d := 137) rfl
             obtain ⟨Y72_17, hs⟩ := hs.ext (d := 138) rfl
             obtain ⟨Y73_18, hs⟩ := hs.ext (d := 139) rfl
             obtain ⟨Y74_19, hs⟩ := hs.ext (d := 140) rfl
             obtain ⟨Y75_20, hs⟩ := hs.ext (d := 141) rfl
             obtain ⟨Y76_21, hs⟩ := hs.ext (d := 142) rfl
             exact ⟨Y55_0, Y56_1, Y57_2, Y58_3, Y59_4, Y60_5, Y61_6, Y62_7, Y63_8, Y64_9, Y65_10, Y66_11, Y67_12, Y68_13, Y69_14, Y70_15, Y71_16, Y72_17, Y73_18, Y74_19, Y75_20, Y76_21, 0, none, 0, Box b65 28 [.slice A61 t79.length c62, .int .i64 t59], Own T_GCrossing 58 A61 c62 (fun _ => ()) t79, Emp, hs.weak ⟨rfl, rfl, rfl, rfl, rfl, rfl, rfl, rfl, rfl, rfl, rfl, rfl, rfl, rfl, rfl, rfl, rfl, rfl, rfl, rfl, rfl, rfl, rfl, rfl, rfl, rfl, rfl, rfl, trivial⟩, (HS.drew.emp.pick 9 [1, 2, 3, 4, 5, 6, 7, 8, 0]), fun h => Bool.noConfusion h, fun h => Bool.noConfusion h, fun h => Bool.noConfusion h, fun h => Bool.noConfusion h, fun h => Bool.noConfusion h, fun h => Bool.noConfusion h, fun h => Bool.noConfusion h, fun h => Bool.noConfusion h, fun h => Bool.noConfusion h, fun h => Bool.noConfusion h, fun h => Bool.noConfusion h, fun h => Bool.noConfusion h, fun h => Bool.noConfusion h, fun h => Bool.noConfusion h, fun h => Bool.noConfusion h, fun h => Bool.noConfusion h, fun h => Bool.noConfusion h, fun h => Bool.noConfusion h, fun h => Bool.noConfusion h, fun h => Bool.noConfusion h, fun h => Bool.noConfusion h, fun h => Bool.noConfusion h, fun _ => rfl, fun h => Bool.noConfusion h, fun _ => rfl, fun h => Bool.noConfusion h, fun h => Bool.noConfusion h, fun h => Bool.noConfusion h⟩
            ·
             intro j hj b a w
             refine exI fun Y55_0 => exI fun Y56_1 => exI fun Y57_2 => exI fun Y58_3 => exI fun Y59_4 => exI fun Y60_5 => exI fun Y61_6 => exI fun Y62_7 => exI fun Y63_8 => exI fun Y64_9 => exI fun Y65_10 => exI fun Y66_11 => exI fun Y67_12 => exI fun Y68_13 => exI fun Y69_14 => exI fun Y70_15 => exI fun Y71_16 => exI fun Y72_17 => exI fun Y73_18 => exI fun Y74_19 => exI fun Y75_20 => exI fun Y76_21 => exI fun b101 => exI fun A104 => exI fun c105 => exI fun O78_10 => exI fun O77_9 => exI fun O79_11 => anI fun hs => anI fun HS => anI fun f0 => anI fun f1 => anI fun f2 => anI fun f3 => anI fun f4 => anI fun f5 => anI fun f6 => anI fun f7 => anI fun f8 => anI fun f9 => anI fun f10 => anI fun f11 => anI fun f12 => anI fun f13 => anI fun f14 => anI fun f15 => anI fun f16 => anI fun f17 => anI fun f18 => anI fun f19 => anI fun f20 => anI fun f21 => anI fun o10_0 => anI fun o10_1 => anI fun o9_0 => anI fun o9_1 => anI fun o11_0 => fun o11_1 hb hd hcl => ?_
             match j, hj with
             | 0, _ =>
              refine GO.at hs ?_
              refine GO.fld (⟨b65, 0, none⟩) rfl rfl fl28_0 rfl rfl ?_
              refine GO.fin (fun a hs => ?_)
              exact ⟨(.pointer (some ⟨b65, 0, none⟩)), _, _, _, _, _, _, _, _, _, _, _, _, _, _, _, _, _, _, _, _, _, b101, A104, c105, _, _, _, hs.weak ⟨rfl, rfl, rfl, rfl, rfl, rfl, rfl, rfl, rfl, rfl, rfl, rfl, rfl, rfl, rfl, rfl, rfl, rfl, rfl, rfl, rfl, rfl, rfl, rfl, rfl, rfl, rfl, rfl, trivial⟩, HS.pick 9 [0, 1, 2, 3, 4, 5, 6, 7, 8], fun _ => rfl, f1, f2, f3, f4, f5, f6, f7, f8, f9, f10, f11, f12, f13, f14, f15, f16, f17, f18, f19, f20, f21, o10_0, o10_1, o9_0, o9_1, o11_0, o11_1⟩
             | 1, _ =>
              have h0 : b 0 = true := hd 0 (by decide)
              obtain rfl := f0 h0
              have d22 : b 22 = false := bfalse (fun hh => hcl 22 (by decide) (hh) 1 (by decide)) hb
              obtain rfl := o10_0 d22
              refine GO.at hs ?_
              refine GO.ldBox (j := 0) HS rfl rfl rfl rfl na26 rfl ?_
              refine GO.fin (fun a hs => ?_)
              exact ⟨_, (.slice A61 t79.length c62), _, _, _, _, _, _, _, _, _, _, _, _, _, _, _, _, _, _, _, _, b101, A104, c105, _, _, _, hs.weak ⟨rfl, rfl, rfl, rfl, rfl, rfl, rfl, rfl, rfl, rfl, rfl, rfl, rfl, rfl, rfl, rfl, rfl, rfl, rfl, rfl, rfl, rfl, rfl, rfl, rfl, rfl, rfl, rfl, trivial⟩, HS.pick 9 [0, 1, 2, 3, 4, 5, 6, 7, 8], f0, fun _ => rfl, f2, f3, f4, f5, f6, f7, f8, f9, f10, f11, f12, f13, f14, f15, f16, f17, f18, f19, f20, f21, o10_0, o10_1, o9_0, o9_1, o11_0, o11_1⟩
             | 2, _ =>
              refine GO.at hs ?_
              refine GO.move rfl rfl rfl ?_
              refine GO.fin (fun a hs => ?_)
              exact ⟨_, _, (.int .i64 t54), _, _, _, _, _, _, _, _, _, _, _, _, _, _, _, _, _, _, _, b101, A104, c105, _, _, _, hs.weak ⟨rfl, rfl, rfl, rfl, rfl, rfl, rfl, rfl, rfl, rfl, rfl, rfl, rfl, rfl, rfl, rfl, rfl, rfl, rfl, rfl, rfl, rfl, rfl, rfl, rfl, rfl, rfl, rfl, trivial⟩, HS.pick 9 [0, 1, 2, 3, 4, 5, 6, 7, 8], f0, f1, fun _ => rfl, f3, f4, f5, f6, f7, f8, f9, f10, f11, f12, f13, f14, f15, f16, f17, f18, f19, f20, f21, o10_0, o10_1, o9_0, o9_1, o11_0, o11_1⟩
             | 3, _ =>
              have h2 : b 2 = true := hd 2 (by decide)
              obtain rfl := f2 h2
              refine GO.at hs ?_
              refine GO.add rfl rfl rfl rfl ?_
              refine GO.fin (fun a hs => ?_)
              exact ⟨_, _, _, (.int .i64 (w64 (t54 + 2))), _, _, _, _, _, _, _, _, _, _, _, _, _, _, _, _, _, _, b101, A104, c105, _, _, _, hs.weak ⟨rfl, rfl, rfl, rfl, rfl, rfl, rfl, rfl, rfl, rfl, rfl, rfl, rfl, rfl, rfl, rfl, rfl, rfl, rfl, rfl, rfl, rfl, rfl, rfl, rfl, rfl, rfl, rfl, trivial⟩, HS.pick 9 [0, 1, 2, 3, 4, 5, 6, 7, 8], f0, f1, f2, fun _ => rfl, f4, f5, f6, f7, f8, f9, f10, f11, f12, f13, f14, f15, f16, f17, f18, f19, f20, f21, o10_0, o10_1, o9_0, o9_1, o11_0, o11_1⟩
             | 4, _ =>
              refine GO.at hs ?_
              refine GO.move rfl rfl rfl ?_
              refine GO.fin (fun a hs => ?_)
              exact ⟨_, _, _, _, (.int .i64 t54), _, _, _, _, _, _, _, _, _, _, _, _, _, _, _, _, _, b101, A104, c105, _, _, _, hs.weak ⟨rfl, rfl, rfl, rfl, rfl, rfl, rfl, rfl, rfl, rfl, rfl, rfl, rfl, rfl, rfl, rfl, rfl, rfl, rfl, rfl, rfl, rfl, rfl, rfl, rfl, rfl, rfl, rfl, trivial⟩, HS.pick 9 [0, 1, 2, 3, 4, 5, 6, 7, 8], f0, f1, f2, f3, fun _ => rfl, f5, f6, f7, f8, f9, f10, f11, f12, f13, f14, f15, f16, f17, f18, f19, f20, f21, o10_0, o10_1, o9_0, o9_1, o11_0, o11_1⟩
             | 5, _ =>
              have h4 : b 4 = true := hd 4 (by decide)
              obtain rfl := f4 h4
              refine GO.at hs ?_
              refine GO.add rfl rfl rfl rfl ?_
              refine GO.fin (fun a hs => ?_)
              exact ⟨_, _, _, _, _, (.int .i64 (w64 (t54 + 3))), _, _, _, _, _, _, _, _, _, _, _, _, _, _, _, _, b101, A104, c105, _, _, _, hs.weak ⟨rfl, rfl, rfl, rfl, rfl, rfl, rfl, rfl, rfl, rfl, rfl, rfl, rfl, rfl, rfl, rfl, rfl, rfl, rfl, rfl, rfl, rfl, rfl, rfl, rfl, rfl, rfl, rfl, trivial⟩, HS.pick 9 [0, 1, 2, 3, 4, 5, 6, 7, 8], f0, f1, f2, f3, f4, fun _ => rfl, f6, f7, f8, f9, f10, f11, f12, f13, f14, f15, f16, f17, f18, f19, f20, f21, o10_0, o10_1, o9_0, o9_1, o11_0, o11_1⟩
             | 6, _ =>
              refine GO.at hs ?_
              refine GO.move rfl rfl rfl ?_
              refine GO.fin (fun a hs => ?_)
              exact ⟨_, _, _, _, _, _, (.int .i64 (w64 (o.tdiv 2))), _, _, _, _, _, _, _, _, _, _, _, _, _, _, _, b101, A104, c105, _, _, _, hs.weak ⟨rfl, rfl, rfl, rfl, rfl, rfl, rfl, rfl, rfl, rfl, rfl, rfl, rfl, rfl, rfl, rfl, rfl, rfl, rfl, rfl, rfl, rfl, rfl, rfl, rfl, rfl, rfl, rfl, trivial⟩, HS.pick 9 [0, 1, 2, 3, 4, 5, 6, 7, 8], f0, f1, f2, f3, f4, f5, fun _ => rfl, f7, f8, f9, f10, f11, f12, f13, f14, f15, f16, f17, f18, f19, f20, f21, o10_0, o10_1, o9_0, o9_1, o11_0, o11_1⟩
             | 7, _ =>
              refine GO.at hs ?_
              refine GO.move rfl rfl rfl ?_
              refine GO.fin (fun a hs => ?_)
              exact ⟨_, _, _, _, _, _, _, (.int .i64 t54), _, _, _, _, _, _, _, _, _, _, _, _, _, _, b101, A104, c105, _, _, _, hs.weak ⟨rfl, rfl, rfl, rfl, rfl, rfl, rfl, rfl, rfl, rfl, rfl, rfl, rfl, rfl, rfl, rfl, rfl, rfl, rfl, rfl, rfl, rfl, rfl, rfl, rfl, rfl, rfl, rfl, trivial⟩, HS.pick 9 [0, 1, 2, 3, 4, 5, 6, 7, 8], f0, f1, f2, f3, f4, f5, f6, fun _ => rfl, f8, f9, f10, f11, f12, f13, f14, f15, f16, f17, f18, f19, f20, f21, o10_0, o10_1, o9_0, o9_1, o11_0, o11_1⟩
             | 8, _ =>
              refine GO.at hs ?_
              refine GO.move rfl rfl rfl ?_
              refine GO.fin (fun a hs => ?_)
              exact ⟨_, _, _, _, _, _, _, _, (.int .i64 (w64 (1 - (w64 (2 * (A.tmod 2)))))), _, _, _, _, _, _, _, _, _, _, _, _, _, b101, A104, c105, _, _, _, hs.weak ⟨rfl, rfl, rfl, rfl, rfl, rfl, rfl, rfl, rfl, rfl, rfl, rfl, rfl, rfl, rfl, rfl, rfl, rfl, rfl, rfl, rfl, rfl, rfl, rfl, rfl, rfl, rfl, rfl, trivial⟩, HS.pick 9 [0, 1, 2, 3, 4, 5, 6, 7, 8], f0, f1, f2, f3, f4, f5, f6, f7, fun _ => rfl, f9, f10, f11, f12, f13, f14, f15, f16, f17, f18, f19, f20, f21, o10_0, o10_1, o9_0, o9_1, o11_0, o11_1⟩
             | 9, _ =>
              have h3 : b 3 = true := hd 3 (by decide)
              obtain rfl := f3 h3
              have h5 : b 5 = true := hd 5 (by decide)
              obtain rfl := f5 h5
              have h6 : b 6 = true := hd 6 (by decide)
              obtain rfl := f6 h6
              have h7 : b 7 = true := hd 7 (by decide)
              obtain rfl := f7 h7
              have h8 : b 8 = true := hd 8 (by decide)
              obtain rfl := f8 h8
              refine GO.at hs ?_
              refine GO.fn rfl Try.func63 fok63.1 fok63.2 rfl rfl (impl_crossed.calls HS  h90) (fun _ wd91 ⟨h92, HS⟩ => ⟨_, h92, ?_⟩)
              refine GO.fin (fun a hs => ?_)
              exact ⟨_, _, _, _, _, _, _, _, _, (.agg [.int .i64 t85, .int .i64 t86, .int .i64 t87, .int .i64 t88, .int .i64 t89].toArray), _, _, _, _, _, _, _, _, _, _, _, _, b101, A104, c105, _, _, _, hs.weak ⟨rfl, rfl, rfl, rfl, rfl, rfl, rfl, rfl, rfl, rfl, rfl, rfl, rfl, rfl, rfl, rfl, rfl, rfl, rfl, rfl, rfl, rfl, rfl, rfl, rfl, rfl, rfl, rfl, trivial⟩, HS.pick 9 [0, 1, 2, 3, 4, 5, 6, 7, 8], f0, f1, f2, f3, f4, f5, f6, f7, f8, fun _ => rfl, f10, f11, f12, f13, f14, f15, f16, f17, f18, f19, f20, f21, o10_0, o10_1, o9_0, o9_1, o11_0, o11_1⟩
             | 10, _ =>
              refine GO.at hs ?_
              refine GO.move rfl rfl rfl ?_
              refine GO.fin (fun a hs => ?_)
              exact ⟨_, _, _, _, _, _, _, _, _, _, (.int .i64 (w64 (A.tdiv 2))), _, _, _, _, _, _, _, _, _, _, _, b101, A104, c105, _, _, _, hs.weak ⟨rfl, rfl, rfl, rfl, rfl, rfl, rfl, rfl, rfl, rfl, rfl, rfl, rfl, rfl, rfl, rfl, rfl, rfl, rfl, rfl, rfl, rfl, rfl, rfl, rfl, rfl, rfl, rfl, trivial⟩, HS.pick 9 [0, 1, 2, 3, 4, 5, 6, 7, 8], f0, f1, f2, f3, f4, f5, f6, f7, f8, f9, fun _ => rfl, f11, f12, f13, f14, f15, f16, f17, f18, f19, f20, f21, o10_0, o10_1, o9_0, o9_1, o11_0, o11_1⟩
             | 11, _ =>
              refine GO.at hs ?_
              refine GO.move rfl rfl rfl ?_
              refine GO.fin (fun a hs => ?_)
              exact ⟨_, _, _, _, _, _, _, _, _, _, _, (.int .i64 t54), _, _, _, _, _, _, _, _, _, _, b101, A104, c105, _, _, _, hs.weak ⟨rfl, rfl, rfl, rfl, rfl, rfl, rfl, rfl, rfl, rfl, rfl, rfl, rfl, rfl, rfl, rfl, rfl, rfl, rfl, rfl, rfl, rfl, rfl, rfl, rfl, rfl, rfl, rfl, trivial⟩, HS.pick 9 [0, 1, 2, 3, 4, 5, 6, 7, 8], f0, f1, f2, f3, f4, f5, f6, f7, f8, f9, f10, fun _ => rfl, f12, f13, f14, f15, f16, f17, f18, f19, f20, f21, o10_0, o10_1, o9_0, o9_1, o11_0, o11_1⟩
             | 12, _ =>
              have h11 : b 11 = true := hd 11 (by decide)
              obtain rfl := f11 h11
              refine GO.at hs ?_
              refine GO.add rfl rfl rfl rfl ?_
              refine GO.fin (fun a hs => ?_)
              exact ⟨_, _, _, _, _, _, _, _, _, _, _, _, (.int .i64 (w64 (t54 + 2))), _, _, _, _, _, _, _, _, _, b101, A104, c105, _, _, _, hs.weak ⟨rfl, rfl, rfl, rfl, rfl, rfl, rfl, rfl, rfl, rfl, rfl, rfl, rfl, rfl, rfl, rfl, rfl, rfl, rfl, rfl, rfl, rfl, rfl, rfl, rfl, rfl, rfl, rfl, trivial⟩, HS.pick 9 [0, 1, 2, 3, 4, 5, 6, 7, 8], f0, f1, f2, f3, f4, f5, f6, f7, f8, f9, f10, f11, fun _ => rfl, f13, f14, f15, f16, f17, f18, f19, f20, f21, o10_0, o10_1, o9_0, o9_1, o11_0, o11_1⟩
             | 13, _ =>
              refine GO.at hs ?_
              refine GO.move rfl rfl rfl ?_
              refine GO.fin (fun a hs => ?_)
              exact ⟨_, _, _, _, _, _, _, _, _, _, _, _, _, (.int .i64 t54), _, _, _, _, _, _, _, _, b101, A104, c105, _, _, _, hs.weak ⟨rfl, rfl, rfl, rfl, rfl, rfl, rfl, rfl, rfl, rfl, rfl, rfl, rfl, rfl, rfl, rfl, rfl, rfl, rfl, rfl, rfl, rfl, rfl, rfl, rfl, rfl, rfl, rfl, trivial⟩, HS.pick 9 [0, 1, 2, 3, 4, 5, 6, 7, 8], f0, f1, f2, f3, f4, f5, f6, f7, f8, f9, f10, f11, f12, fun _ => rfl, f14, f15, f16, f17, f18, f19, f20, f21, o10_0, o10_1, o9_0, o9_1, o11_0, o11_1⟩
             | 14, _ =>
              refine GO.at hs ?_
              refine GO.move rfl rfl rfl ?_
              refine GO.fin (fun a hs => ?_)
              exact ⟨_, _, _, _, _, _, _, _, _, _, _, _, _, _, (.int .i64 t54), _, _, _, _, _, _, _, b101, A104, c105, _, _, _, hs.weak ⟨rfl, rfl, rfl, rfl, rfl, rfl, rfl, rfl, rfl, rfl, rfl, rfl, rfl, rfl, rfl, rfl, rfl, rfl, rfl, rfl, rfl, rfl, rfl, rfl, rfl, rfl, rfl, rfl, trivial⟩, HS.pick 9 [0, 1, 2, 3, 4, 5, 6, 7, 8], f0, f1, f2, f3, f4, f5, f6, f7, f8, f9, f10, f11, f12, f13, fun _ => rfl, f15, f16, f17, f18, f19, f20, f21, o10_0, o10_1, o9_0, o9_1, o11_0, o11_1⟩
             | 15, _ =>
              have h14 : b 14 = true := hd 14 (by decide)
              obtain rfl := f14 h14
              refine GO.at hs ?_
              refine GO.add rfl rfl rfl rfl ?_
              refine GO.fin (fun a hs => ?_)
              exact ⟨_, _, _, _, _, _, _, _, _, _, _, _, _, _, _, (.int .i64 (w64 (t54 + 1))), _, _, _, _, _, _, b101, A104, c105, _, _, _, hs.weak ⟨rfl, rfl, rfl, rfl, rfl, rfl, rfl, rfl, rfl, rfl, rfl, rfl, rfl, rfl, rfl, rfl, rfl, rfl, rfl, rfl, rfl, rfl, rfl, rfl, rfl, rfl, rfl, rfl, trivial⟩, HS.pick 9 [0, 1, 2, 3, 4, 5, 6, 7, 8], f0, f1, f2, f3, f4, f5, f6, f7, f8, f9, f10, f11, f12, f13, f14, fun _ => rfl, f16, f17, f18, f19, f20, f21, o10_0, o10_1, o9_0, o9_1, o11_0, o11_1⟩
             | 16, _ =>
              refine GO.at hs ?_
              refine GO.move rfl rfl rfl ?_
              refine GO.fin (fun a hs => ?_)
              exact ⟨_, _, _, _, _, _, _, _, _, _, _, _, _, _, _, _, (.int .i64 (w64 (1 - (w64 (2 * (A.tmod 2)))))), _, _, _, _, _, b101, A104, c105, _, _, _, hs.weak ⟨rfl, rfl, rfl, rfl, rfl, rfl, rfl, rfl, rfl, rfl, rfl, rfl, rfl, rfl, rfl, rfl, rfl, rfl, rfl, rfl, rfl, rfl, rfl, rfl, rfl, rfl, rfl, rfl, trivial⟩, HS.pick 9 [0, 1, 2, 3, 4, 5, 6, 7, 8], f0, f1, f2, f3, f4, f5, f6, f7, f8, f9, f10, f11, f12, f13, f14, f15, fun _ => rfl, f17, f18, f19, f20, f21, o10_0, o10_1, o9_0, o9_1, o11_0, o11_1⟩
             | 17, _ =>
              have h16 : b 16 = true := hd 16 (by decide)
              obtain rfl := f16 h16
              refine GO.at hs ?_
              refine GO.neg rfl rfl rfl ?_
              refine GO.fin (fun a hs => ?_)
              exact ⟨_, _, _, _, _, _, _, _, _, _, _, _, _, _, _, _, _, (.int .i64 (w64 (0 - (w64 (1 - (w64 (2 * (A.tmod 2)))))))), _, _, _, _, b101, A104, c105, _, _, _, hs.weak ⟨rfl, rfl, rfl, rfl, rfl, rfl, rfl, rfl, rfl, rfl, rfl, rfl, rfl, rfl, rfl, rfl, rfl, rfl, rfl, rfl, rfl, rfl, rfl, rfl, rfl, rfl, rfl, rfl, trivial⟩, HS.pick 9 [0, 1, 2, 3, 4, 5, 6, 7, 8], f0, f1, f2, f3, f4, f5, f6, f7, f8, f9, f10, f11, f12, f13, f14, f15, f16, fun _ => rfl, f18, f19, f20, f21, o10_0, o10_1, o9_0, o9_1, o11_0, o11_1⟩
             | 18, _ =>
              have h10 : b 10 = true := hd 10 (by decide)
              obtain rfl := f10 h10
              have h12 : b 12 = true := hd 12 (by decide)
              obtain rfl := f12 h12
              have h13 : b 13 = true := hd 13 (by decide)
              obtain rfl := f13 h13
              have h15 : b 15 = true := hd 15 (by decide)
              obtain rfl := f15 h15
              have h17 : b 17 = true := hd 17 (by decide)
              obtain rfl := f17 h17
              refine GO.at hs ?_
              refine GO.fn rfl Try.func63 fok63.1 fok63.2 rfl rfl (impl_crossed.calls HS  h98) (fun _ wd99 ⟨h100, HS⟩ => ⟨_, h100, ?_⟩)
              refine GO.fin (fun a hs => ?_)
              exact ⟨_, _, _, _, _, _, _, _, _, _, _, _, _, _, _, _, _, _, (.agg [.int .i64 t93, .int .i64 t94, .int .i64 t95, .int .i64 t96, .int .i64 t97].toArray), _, _, _, b101, A104, c105, _, _, _, hs.weak ⟨rfl, rfl, rfl, rfl, rfl, rfl, rfl, rfl, rfl, rfl, rfl, rfl, rfl, rfl, rfl, rfl, rfl, rfl, rfl, rfl, rfl, rfl, rfl, rfl, rfl, rfl, rfl, rfl, trivial⟩, HS.pick 9 [0, 1, 2, 3, 4, 5, 6, 7, 8], f0, f1, f2, f3, f4, f5, f6, f7, f8, f9, f10, f11, f12, f13, f14, f15, f16, f17, fun _ => rfl, f19, f20, f21, o10_0, o10_1, o9_0, o9_1, o11_0, o11_1⟩
             | 19, _ =>
              have h9 : b 9 = true := hd 9 (by decide)
              obtain rfl := f9 h9
              have h18 : b 18 = true := hd 18 (by decide)
              obtain rfl := f18 h18
              refine GO.at hs ?_
              refine GO.buildS (el := 58) ([.int .i64 t85, .int .i64 t86, .int .i64 t87, .int .i64 t88, .int .i64 t89, .int .i64 t93, .int .i64 t94, .int .i64 t95, .int .i64 t96, .int .i64 t97]) HS rfl rfl (fun _ => by kernel_rfl) rfl ?_; intro b101 wd102 HS
              refine GO.fin (fun a hs => ?_)
              exact ⟨_, _, _, _, _, _, _, _, _, _, _, _, _, _, _, _, _, _, _, (.slice (some ⟨b101, 0, none⟩) 2 2), _, _, b101, A104, c105, _, _, Box b101 58 [.int .i64 t85, .int .i64 t86, .int .i64 t87, .int .i64 t88, .int .i64 t89, .int .i64 t93, .int .i64 t94, .int .i64 t95, .int .i64 t96, .int .i64 t97], hs.weak ⟨rfl, rfl, rfl, rfl, rfl, rfl, rfl, rfl, rfl, rfl, rfl, rfl, rfl, rfl, rfl, rfl, rfl, rfl, rfl, rfl, rfl, rfl, rfl, rfl, rfl, rfl, rfl, rfl, trivial⟩, HS.pick 10 [1, 2, 3, 4, 5, 6, 7, 8, 0], f0, f1, f2, f3, f4, f5, f6, f7, f8, f9, f10, f11, f12, f13, f14, f15, f16, f17, f18, fun _ => rfl, f20, f21, o10_0, o10_1, o9_0, o9_1, fun _ _ => rfl, fun hh => (Bool.noConfusion ((hcl 20 (by decide) hh 19 (by decide)).symm.trans hb))⟩
             | 20, _ =>
              have h1 : b 1 = true := hd 1 (by decide)
              obtain rfl := f1 h1
              have h19 : b 19 = true := hd 19 (by decide)
              obtain rfl := f19 h19
              obtain rfl := o11_0 h19 hb
              obtain rfl := o9_0 hb
              refine GO.at hs ?_
              replace HS := HS.boxRow (T := T_GCrossing) (j := 8) rfl flat_flat (fun _ => ()) ([(⟨t85, t86, t87, t88, t89⟩ : GCrossing), (⟨t93, t94, t95, t96, t97⟩ : GCrossing)] : List GCrossing) rfl (bndL rfl)
              refine GO.lenC (t := 140) (m := ([(⟨t85, t86, t87, t88, t89⟩ : GCrossing), (⟨t93, t94, t95, t96, t97⟩ : GCrossing)] : List GCrossing).length) (c' := ([(⟨t85, t86, t87, t88, t89⟩ : GCrossing), (⟨t93, t94, t95, t96, t97⟩ : GCrossing)] : List GCrossing).length) rfl rfl rfl ?_
              refine GO.appS (T := T_GCrossing) (j := 1) HS rfl (RdIn.own (j := 8) rfl) flat_flat rfl rfl rfl Try.underlying26 inf58 rfl rfl rfl c106 rfl (fun _ => rfl) ?_; intro A104 c105 wd103 HS
              refine GO.fin (fun a hs => ?_)
              exact ⟨_, _, _, _, _, _, _, _, _, _, _, _, _, _, _, _, _, _, _, _, (.slice A104 (t79 ++ ([(⟨t85, t86, t87, t88, t89⟩ : GCrossing), (⟨t93, t94, t95, t96, t97⟩ : GCrossing)] : List GCrossing)).length c105), _, b101, A104, c105, _, Own T_GCrossing 58 A104 c105 (fun _ => ()) (t79 ++ ([(⟨t85, t86, t87, t88, t89⟩ : GCrossing), (⟨t93, t94, t95, t96, t97⟩ : GCrossing)] : List GCrossing)), Own T_GCrossing 58 (some ⟨b101, 0, none⟩) (([(⟨t85, t86, t87, t88, t89⟩ : GCrossing), (⟨t93, t94, t95, t96, t97⟩ : GCrossing)] : List GCrossing).length) (fun _ => ()) ([(⟨t85, t86, t87, t88, t89⟩ : GCrossing), (⟨t93, t94, t95, t96, t97⟩ : GCrossing)] : List GCrossing), hs.weak ⟨rfl, rfl, rfl, rfl, rfl, rfl, rfl, rfl, rfl, rfl, rfl, rfl, rfl, rfl, rfl, rfl, rfl, rfl, rfl, rfl, rfl, rfl, rfl, rfl, rfl, rfl, rfl, rfl, trivial⟩, HS.pick 9 [0, 1, 2, 3, 4, 5, 6, 7, 8], f0, f1, f2, f3, f4, f5, f6, f7, f8, f9, f10, f11, f12, f13, f14, f15, f16, f17, f18, f19, fun _ => rfl, f21, o10_0, fun hh => (Bool.noConfusion ((hcl 22 (by decide) hh 20 (by decide)).symm.trans hb)), fun h => Bool.noConfusion h, fun _ => rfl, fun _ h => Bool.noConfusion h, fun _ => rfl⟩
             | 21, _ =>
              refine GO.at hs ?_
              refine GO.fld (⟨b65, 0, none⟩) rfl rfl fl28_0 rfl rfl ?_
              refine GO.fin (fun a hs => ?_)
              exact ⟨_, _, _, _, _, _, _, _, _, _, _, _, _, _, _, _, _, _, _, _, _, (.pointer (some ⟨b65, 0, none⟩)), b101, A104, c105, _, _, _, hs.weak ⟨rfl, rfl, rfl, rfl, rfl, rfl, rfl, rfl, rfl, rfl, rfl, rfl, rfl, rfl, rfl, rfl, rfl, rfl, rfl, rfl, rfl, rfl, rfl, rfl, rfl, rfl, rfl, rfl, trivial⟩, HS.pick 9 [0, 1, 2, 3, 4, 5, 6, 7, 8], f0, f1, f2, f3, f4, f5, f6, f7, f8, f9, f10, f11, f12, f13, f14, f15, f16, f17, f18, f19, f20, fun _ => rfl, o10_0, o10_1, o9_0, o9_1, o11_0, o11_1⟩
             | 22, _ =>
              have h20 : b 20 = true := hd 20 (by decide)
              obtain rfl := f20 h20
              have h21 : b 21 = true := hd 21 (by decide)
              obtain rfl := f21 h21
              obtain rfl := o10_0 hb
              refine GO.at hs ?_
              refine GO.stBox (j := 0) (vs := [.slice A104 (t79 ++ ([(⟨t85, t86, t87, t88, t89⟩ : GCrossing), (⟨t93, t94, t95, t96, t97⟩ : GCrossing)] : List GCrossing)).length c105]) ([.slice A104 (t79 ++ ([(⟨t85, t86, t87, t88, t89⟩ : GCrossing), (⟨t93, t94, t95, t96, t97⟩ : GCrossing)] : List GCrossing)).length c105, .int .i64 t59]) HS rfl rfl rfl rfl rfl (htN na26 rfl) rfl rfl rfl ?_; intro wd107 HS
              refine GO.fin (fun a hs => ?_)
              exact ⟨_, _, _, _, _, _, _, _, _, _, _, _, _, _, _, _, _, _, _, _, _, _, b101, A104, c105, Box b65 28 [.slice A104 (t79 ++ ([(⟨t85, t86, t87, t88, t89⟩ : GCrossing), (⟨t93, t94, t95, t96, t97⟩ : GCrossing)] : List GCrossing)).length c105, .int .i64 t59], _, _, hs.weak ⟨rfl, rfl, rfl, rfl, rfl, rfl, rfl, rfl, rfl, rfl, rfl, rfl, rfl, rfl, rfl, rfl, rfl, rfl, rfl, rfl, rfl, rfl, rfl, rfl, rfl, rfl, rfl, rfl, trivial⟩, HS.pick 9 [0, 1, 2, 3, 4, 5, 6, 7, 8], f0, f1, f2, f3, f4, f5, f6, f7, f8, f9, f10, f11, f12, f13, f14, f15, f16, f17, f18, f19, f20, f21, fun h => Bool.noConfusion h, fun _ => rfl, o9_0, o9_1, o11_0, o11_1⟩
             | k + 23, hj => exact absurd hj (Nat.not_lt.2 (Nat.le_add_left 23 k))
            ·
             intro b a w hall
             refine exI fun Y55_0 => exI fun Y56_1 => exI fun Y57_2 => exI fun Y58_3 => exI fun Y59_4 => exI fun Y60_5 => exI fun Y61_6 => exI fun Y62_7 => exI fun Y63_8 => exI fun Y64_9 => exI fun Y65_10 => exI fun Y66_11 => exI fun Y67_12 => exI fun Y68_13 => exI fun Y69_14 => exI fun Y70_15 => exI fun Y71_16 => exI fun Y72_17 => exI fun Y73_18 => exI fun Y74_19 => exI fun Y75_20 => exI fun Y76_21 => exI fun b101 => exI fun A104 => exI fun c105 => exI fun O78_10 => exI fun O77_9 => exI fun O79_11 => anI fun hs => anI fun HS => anI fun f0 => anI fun f1 => anI fun f2 => anI fun f3 => anI fun f4 => anI fun f5 => anI fun f6 => anI fun f7 => anI fun f8 => anI fun f9 => anI fun f10 => anI fun f11 => anI fun f12 => anI fun f13 => anI fun f14 => anI fun f15 => anI fun f16 => anI fun f17 => anI fun f18 => anI fun f19 => anI fun f20 => anI fun f21 => anI fun o10_0 => anI fun o10_1 => anI fun o9_0 => anI fun o9_1 => anI fun o11_0 => fun o11_1 => ?_
             obtain rfl := f0 (hall 0 (by decide))
             obtain rfl := f1 (hall 1 (by decide))
             obtain rfl := f2 (hall 2 (by decide))
             obtain rfl := f3 (hall 3 (by decide))
             obtain rfl := f4 (hall 4 (by decide))
             obtain rfl := f5 (hall 5 (by decide))
             obtain rfl := f6 (hall 6 (by decide))
             obtain rfl := f7 (hall 7 (by decide))
             obtain rfl := f8 (hall 8 (by decide))
             obtain rfl := f9 (hall 9 (by decide))
             obtain rfl := f10 (hall 10 (by decide))
             obtain rfl := f11 (hall 11 (by decide))
             obtain rfl := f12 (hall 12 (by decide))
             obtain rfl := f13 (hall 13 (by decide))
             obtain rfl := f14 (hall 14 (by decide))
             obtain rfl := f15 (hall 15 (by decide))
             obtain rfl := f16 (hall 16 (by decide))
             obtain rfl := f17 (hall 17 (by decide))
             obtain rfl := f18 (hall 18 (by decide))
             obtain rfl := f19 (hall 19 (by decide))
             obtain rfl := f20 (hall 20 (by decide))
             obtain rfl := f21 (hall 21 (by decide))
             obtain rfl := o10_1 (hall 22 (by decide))
             obtain rfl := o9_1 (hall 20 (by decide))
             obtain rfl := o11_1 (hall 20 (by decide))
             refine G.at hs ?_
             refine G.seq ?_
             refine G.region ?_
             refine GO.ldBoxA (j := 0) ([.slice A104 (t79 ++ ([(⟨t85, t86, t87, t88, t89⟩ : GCrossing), (⟨t93, t94, t95, t96, t97⟩ : GCrossing)] : List GCrossing)).length c105, .int .i64 t59]) HS rfl rfl rfl rfl ag28 rfl ?_
             refine GO.stBox (j := 6) (vs := [.slice A104 (t79 ++ ([(⟨t85, t86, t87, t88, t89⟩ : GCrossing), (⟨t93, t94, t95, t96, t97⟩ : GCrossing)] : List GCrossing)).length c105, .int .i64 t59]) ([.slice A104 (t79 ++ ([(⟨t85, t86, t87, t88, t89⟩ : GCrossing), (⟨t93, t94, t95, t96, t97⟩ : GCrossing)] : List GCrossing)).length c105, .int .i64 t59]) HS rfl rfl rfl rfl rfl (htA ag28) rfl rfl rfl ?_; intro wd108 HS
             refine GO.assign rfl rfl rfl ?_
             refine GO.nil ?_
             obtain ⟨rfl, rfl, rfl⟩ := some3 H
             exact G.ret2 _ _ Try.func22 rfl (Res1.boxA (j := 6) (vs := [.slice A104 (t79 ++ ([(⟨t85, t86, t87, t88, t89⟩ : GCrossing), (⟨t93, t94, t95, t96, t97⟩ : GCrossing)] : List GCrossing)).length c105, .int .i64 t59]) HS rfl rfl rfl ag28) rfl ⟨_, _, rfl, (HS.pick 9 [1])⟩
           ·
            refine G.yesB rfl (congrArg Bool.not (decide_eq_false c84)) ?_
            obtain ⟨t109, t110, t111, t112, t113, h114, H⟩ := bind5_elim H
            obtain ⟨t117, t118, t119, t120, t121, h122, H⟩ := bind5_elim H
            obtain ⟨c130, H⟩ := ite_none H
            refine G.regionAny mixed (by decide) (fun b a w => ∃ (Y80_0 : Value) (Y81_1 : Value) (Y82_2 : Value) (Y83_3 : Value) (Y84_4 : Value) (Y85_5 : Value) (Y86_6 : Value) (Y87_7 : Value) (Y88_8 : Value) (Y89_9 : Value) (Y90_10 : Value) (Y91_11 : Value) (Y92_12 : Value) (Y93_13 : Value) (Y94_14 : Value) (Y95_15 : Value) (Y96_16 : Value) (Y97_17 : Value) (Y98_18 : Value) (Y99_19 : Value) (Y100_20 : Value) (Y101_21 : Value) (b125 : Nat) (A128 : Option Addr) (c129 : Nat) (O103_10 : HObj) (O102_9 : HObj) (O104_12 : HObj), Sat 144 [(99, Y80_0), (100, Y81_1), (101, Y82_2), (102, Y83_3), (103, Y84_4), (104, Y85_5), (105, Y86_6), (106, Y87_7), (107, Y88_8), (108, Y89_9), (109, Y90_10), (110, Y91_11), (111, Y92_12), (112, Y93_13), (113, Y94_14), (114, Y95_15), (115, Y96_16), (116, Y97_17), (117, Y98_18), (118, Y99_19), (119, Y100_20), (120, Y101_21), (6, .pointer (some ⟨b3, 0, none⟩)), (11, .int .i64 (w64 (o.tdiv 2))), (12, .int .i64 (w64 (A.tdiv 2))), (13, .int .i64 t54), (14, .pointer (some ⟨b65, 0, none⟩)), (15, .int .i64 (w64 (1 - (w64 (2 * (A.tmod 2))))))] a ∧ St w0 w (O103_10 :: O102_9 :: Own (TInt .i64) 2 A21 c22 (fun _ => ()) t19 :: Box b15 63 [.slice A9 t5.length c10, .slice A11 t6.length c12] :: Own T_GEnd 68 A9 c10 (fun _ => ()) t5 :: Own T_GEnd 68 A11 c12 (fun _ => ()) t6 :: Box b3 28 [.slice none 0 0, .int .i64 0] :: Box b1 28 [.slice A_t_Crossings t_Crossings.length c_t_Crossings, .int .i64 t_Circles] :: O104_12 :: L) ∧ (b 0 = true → Y80_0 = (.pointer (some ⟨b65, 0, none⟩))) ∧ (b 1 = true → Y81_1 = (.slice A61 t79.length c62)) ∧ (b 2 = true → Y82_2 = (.int .i64 (w64 (A.tdiv 2)))) ∧ (b 3 = true → Y83_3 = (.int .i64 t54)) ∧ (b 4 = true → Y84_4 = (.int .i64 (w64 (t54 + 2)))) ∧ (b 5 = true → Y85_5 = (.int .i64 (w64 (o.tdiv 2)))) ∧ (b 6 = true → Y86_6 = (.int .i64 t54)) ∧ (b 7 = true → Y87_7 = (.int .i64 (w64 (1 - (w64 (2 * (A.tmod 2))))))) ∧ (b 8 = true → Y88_8 = (.agg [.int .i64 t109, .int .i64 t110, .int .i64 t111, .int .i64 t112, .int .i64 t113].toArray)) ∧ (b 9 = true → Y89_9 = (.int .i64 t54)) ∧ (b 10 = true → Y90_10 = (.int .i64 (w64 (t54 + 2)))) ∧ (b 11 = true → Y91_11 = (.int .i64 t54)) ∧ (b 12 = true → Y92_12 = (.int .i64 (w64 (t54 + 3)))) ∧ (b 13 = true → Y93_13 = (.int .i64 t54)) ∧ (b 14 = true → Y94_14 = (.int .i64 t54)) ∧ (b 15 = true → Y95_15 = (.int .i64 (w64 (t54 + 1)))) ∧ (b 16 = true → Y96_16 = (.int .i64 (w64 (1 - (w64 (2 * (A.tmod 2))))))) ∧ (b 17 = true → Y97_17 = (.int .i64 (w64 (0 - (w64 (1 - (w64 (2 * (A.tmod 2))))))))) ∧ (b 18 = true → Y98_18 = (.agg [.int .i64 t117, .int .i64 t118, .int .i64 t119, .int .i64 t120, .int .i64 t121].toArray)) ∧ (b 19 = true → Y99_19 = (.slice (some ⟨b125, 0, none⟩) 2 2)) ∧ (b 20 = true → Y100_20 = (.slice A128 (t79 ++ ([(⟨t109, t110, t111, t112, t113⟩ : GCrossing), (⟨t117, t118, t119, t120, t121⟩ : GCrossing)] : List GCrossing)).length c129)) ∧ (b 21 = true → Y101_21 = (.pointer (some ⟨b65, 0, none⟩))) ∧ (b 22 = false → O103_10 = Box b65 28 [.slice A61 t79.length c62, .int .i64 t59]) ∧ (b 22 = true → O103_10 = Box b65 28 [.slice A128 (t79 ++ ([(⟨t109, t110, t111, t112, t113⟩ : GCrossing), (⟨t117, t118, t119, t120, t121⟩ : GCrossing)] : List GCrossing)).length c129, .int .i64 t59]) ∧ (b 20 = false → O102_9 = Own T_GCrossing 58 A61 c62 (fun _ => ()) t79) ∧ (b 20 = true → O102_9 = Own T_GCrossing 58 A128 c129 (fun _ => ()) (t79 ++ ([(⟨t109, t110, t111, t112, t113⟩ : GCrossing), (⟨t117, t118, t119, t120, t121⟩ : GCrossing)] : List GCrossing))) ∧ (b 19 = true → b 20 = false → O104_12 = Box b125 58 [.int .i64 t109, .int .i64 t110, .int .i64 t111, .int .i64 t112, .int .i64 t113, .int .i64 t117, .int .i64 t118, .int .i64 t119, .int .i64 t120, .int .i64 t121]) ∧ (b 20 = true → O104_12 = Own T_GCrossing 58 (some ⟨b125, 0, none⟩) (([(⟨t109, t110, t111, t112, t113⟩ : GCrossing), (⟨t117, t118, t119, t120, t121⟩ : GCrossing)] : List GCrossing).length) (fun _ => ()) ([(⟨t109, t110, t111, t112, t113⟩ : GCrossing), (⟨t117, t118, t119, t120, t121⟩ : GCrossing)] : List GCrossing))) ?_ ?_ ?_
            ·
             intro a hs
             obtain ⟨Y80_0, hs⟩ := hs.ext (d := 99) rfl
             obtain ⟨Y81_1, hs⟩ := hs.ext (d := 100) rfl
             obtain ⟨Y82_2, hs⟩ := hs.ext (d := 101) rfl
             obtain ⟨Y83_3, hs⟩ := hs.ext (d := 102) rfl
             obtain ⟨Y84_4, hs⟩ := hs.ext (d := 103) rfl
             obtain ⟨Y85_5, hs⟩ := hs.ext (d := 104) rfl
             obtain ⟨Y86_6, hs⟩ := hs.ext (d := 105) rfl
             obtain ⟨Y87_7, hs⟩ := hs.ext (d := 106) rfl
             obtain ⟨Y88_8, hs⟩ := hs.ext (d := 107) rfl
             obtain ⟨Y89_9, hs⟩ := hs.ext (d := 108) rfl
             obtain ⟨Y90_10, hs⟩ := hs.ext (d := 109) rfl
             obtain ⟨Y91_11, hs⟩ := hs.ext (d := 110) rfl
             obtain ⟨Y92_12, hs⟩ := hs.ext (d := 111) rfl
             obtain ⟨Y93_13, hs⟩ := hs.ext (d := 112) rfl
             obtain ⟨Y94_14, hs⟩ := hs.ext (d := 113) rfl
             obtain ⟨Y95_15, hs⟩ := hs.ext (d := 114) rfl
             obtain ⟨Y96_16, hs⟩ := hs.ext (d := 115) rfl
             obtain ⟨Y97_17, hs⟩ := hs.ext (d := 116) rfl
             obtain ⟨Y98_18, hs⟩ := hs.ext (d := 117) rfl
             obtain ⟨Y99_19, hs⟩ := hs.ext (d := 118) rfl
             obtain ⟨Y100_20, hs⟩ := hs.ext (d := 119) rfl
             obtain ⟨Y101_21, hs⟩ := hs.ext (d := 120) rfl
             exact ⟨Y80_0, Y81_1, Y82_2, Y83_3, Y84_4, Y85_5, Y86_6, Y87_7, Y88_8, Y89_9, Y90_10, Y91_11, Y92_12, Y93_13, Y94_14, Y95_15, Y96_16, Y97_17, Y98_18, Y99_19, Y100_20, Y101_21, 0, none, 0, Box b65 28 [.slice A61 t79.length c62, .int .i64 t59], Own T_GCrossing 58 A61 c62 (fun _ => ()) t79, Emp, hs.weak ⟨rfl, rfl, rfl, rfl, rfl, rfl, rfl, rfl, rfl, rfl, rfl, rfl, rfl, rfl, rfl, rfl, rfl, rfl, rfl, rfl, rfl, rfl, rfl, rfl, rfl, rfl, rfl, rfl, trivial⟩, (HS.drew.emp.pick 9 [1, 2, 3, 4, 5, 6, 7, 8, 0]), fun h => Bool.noConfusion h, fun h => Bool.noConfusion h, fun h => Bool.noConfusion h, fun h => Bool.noConfusion h, fun h => Bool.noConfusion h, fun h => Bool.noConfusion h, fun h => Bool.noConfusion h, fun h => Bool.noConfusion h, fun h => Bool.noConfusion h, fun h => Bool.noConfusion h, fun h => Bool.noConfusion h, fun h => Bool.noConfusion h, fun h => Bool.noConfusion h, fun h => Bool.noConfusion h, fun h => Bool.noConfusion h, fun h => Bool.noConfusion h, fun h => Bool.noConfusion h, fun h => Bool.noConfusion h, fun h => Bool.noConfusion h, fun h => Bool.noConfusion h, fun h => Bool.noConfusion h, fun h => Bool.noConfusion h, fun _ => rfl, fun h => Bool.noConfusion h, fun _ => rfl, fun h => Bool.noConfusion h, fun h => Bool.noConfusion h, fun h => Bool.noConfusion h⟩
            ·
             intro j hj b a w
             refine exI fun Y80_0 => exI fun Y81_1 => exI fun Y82_2 => exI fun Y83_3 => exI fun Y84_4 => exI fun Y85_5 => exI fun Y86_6 => exI fun Y87_7 => exI fun Y88_8 => exI fun Y89_9 => exI fun Y90_10 => exI fun Y91_11 => exI fun Y92_12 => exI fun Y93_13 => exI fun Y94_14 => exI fun Y95_15 => exI fun Y96_16 => exI fun Y97_17 => exI fun Y98_18 => exI fun Y99_19 => exI fun Y100_20 => exI fun Y101_21 => exI fun b125 => exI fun A128 => exI fun c129 => exI fun O103_10 => exI fun O102_9 => exI fun O104_12 => anI fun hs => anI fun HS => anI fun f0 => anI fun f1 => anI fun f2 => anI fun f3 => anI fun f4 => anI fun f5 => anI fun f6 => anI fun f7 => anI fun f8 => anI fun f9 => anI fun f10 => anI fun f11 => anI fun f12 => anI fun f13 => anI fun f14 => anI fun f15 => anI fun f16 => anI fun f17 => anI fun f18 => anI fun f19 => anI fun f20 => anI fun f21 => anI fun o10_0 => anI fun o10_1 => anI fun o9_0 => anI fun o9_1 => anI fun o12_0 => fun o12_1 hb hd hcl => ?_
             match j, hj with
             | 0, _ =>
              refine GO.at hs ?_
              refine GO.fld (⟨b65, 0, none⟩) rfl rfl fl28_0 rfl rfl ?_
              refine GO.fin (fun a hs => ?_)
              exact ⟨(.pointer (some ⟨b65, 0, none⟩)), _, _, _, _, _, _, _, _, _, _, _, _, _, _, _, _, _, _, _, _, _, b125, A128, c129, _, _, _, hs.weak ⟨rfl, rfl, rfl, rfl, rfl, rfl, rfl, rfl, rfl, rfl, rfl, rfl, rfl, rfl, rfl, rfl, rfl, rfl, rfl, rfl, rfl, rfl, rfl, rfl, rfl, rfl, rfl, rfl, trivial⟩, HS.pick 9 [0, 1, 2, 3, 4, 5, 6, 7, 8], fun _ => rfl, f1, f2, f3, f4, f5, f6, f7, f8, f9, f10, f11, f12, f13, f14, f15, f16, f17, f18, f19, f20, f21, o10_0, o10_1, o9_0, o9_1, o12_0, o12_1⟩
             | 1, _ =>
              have h0 : b 0 = true := hd 0 (by decide)
              obtain rfl := f0 h0
              have d22 : b 22 = false := bfalse (fun hh => hcl 22 (by decide) (hh) 1 (by decide)) hb
              obtain rfl := o10_0 d22
              refine GO.at hs ?_
              refine GO.ldBox (j := 0) HS rfl rfl rfl rfl na26 rfl ?_
              refine GO.fin (fun a hs => ?_)
              exact ⟨_, (.slice A61 t79.length c62), _, _, _, _, _, _, _, _, _, _, _, _, _, _, _, _, _, _, _, _, b125, A128, c129, _, _, _, hs.weak ⟨rfl, rfl, rfl, rfl, rfl, rfl, rfl, rfl, rfl, rfl, rfl, rfl, rfl, rfl, rfl, rfl, rfl, rfl, rfl, rfl, rfl, rfl, rfl, rfl, rfl, rfl, rfl, rfl, trivial⟩, HS.pick 9 [0, 1, 2, 3, 4, 5, 6, 7, 8], f0, fun _ => rfl, f2, f3, f4, f5, f6, f7, f8, f9, f10, f11, f12, f13, f14, f15, f16, f17, f18, f19, f20, f21, o10_0, o10_1, o9_0, o9_1, o12_0, o12_1⟩
             | 2, _ =>
              refine GO.at hs ?_
              refine GO.move rfl rfl rfl ?_
              refine GO.fin (fun a hs => ?_)
              exact ⟨_, _, (.int .i64 (w64 (A.tdiv 2))), _, _, _, _, _, _, _, _, _, _, _, _, _, _, _, _, _, _, _, b125, A128, c129, _, _, _, hs.weak ⟨rfl, rfl, rfl, rfl, rfl, rfl, rfl, rfl, rfl, rfl, rfl, rfl, rfl, rfl, rfl, rfl, rfl, rfl, rfl, rfl, rfl, rfl, rfl, rfl, rfl, rfl, rfl, rfl, trivial⟩, HS.pick 9 [0, 1, 2, 3, 4, 5, 6, 7, 8], f0, f1, fun _ => rfl, f3, f4, f5, f6, f7, f8, f9, f10, f11, f12, f13, f14, f15, f16, f17, f18, f19, f20, f21, o10_0, o10_1, o9_0, o9_1, o12_0, o12_1⟩
             | 3, _ =>
              refine GO.at hs ?_
              refine GO.move rfl rfl rfl ?_
              refine GO.fin (fun a hs => ?_)
              exact ⟨_, _, _, (.int .i64 t54), _, _, _, _, _, _, _, _, _, _, _, _, _, _, _, _, _, _, b125, A128, c129, _, _, _, hs.weak ⟨rfl, rfl, rfl, rfl, rfl, rfl, rfl, rfl, rfl, rfl, rfl, rfl, rfl, rfl, rfl, rfl, rfl, rfl, rfl, rfl, rfl, rfl, rfl, rfl, rfl, rfl, rfl, rfl, trivial⟩, HS.pick 9 [0, 1, 2, 3, 4, 5, 6, 7, 8], f0, f1, f2, fun _ => rfl, f4, f5, f6, f7, f8, f9, f10, f11, f12, f13, f14, f15, f16, f17, f18, f19, f20, f21, o10_0, o10_1, o9_0, o9_1, o12_0, o12_1⟩
             | 4, _ =>
              have h3 : b 3 = true := hd 3 (by decide)
              obtain rfl := f3 h3
              refine GO.at hs ?_
              refine GO.add rfl rfl rfl rfl ?_
              refine GO.fin (fun a hs => ?_)
              exact ⟨_, _, _, _, (.int .i64 (w64 (t54 + 2))), _, _, _, _, _, _, _, _, _, _, _, _, _, _, _, _, _, b125, A128, c129, _, _, _, hs.weak ⟨rfl, rfl, rfl, rfl, rfl, rfl, rfl, rfl, rfl, rfl, rfl, rfl, rfl, rfl, rfl, rfl, rfl, rfl, rfl, rfl, rfl, rfl, rfl, rfl, rfl, rfl, rfl, rfl, trivial⟩, HS.pick 9 [0, 1, 2, 3, 4, 5, 6, 7, 8], f0, f1, f2, f3, fun _ => rfl, f5, f6, f7, f8, f9, f10, f11, f12, f13, f14, f15, f16, f17, f18, f19, f20, f21, o10_0, o10_1, o9_0, o9_1, o12_0, o12_1⟩
             | 5, _ =>
              refine GO.at hs ?_
              refine GO.move rfl rfl rfl ?_
              refine GO.fin (fun a hs => ?_)
              exact ⟨_, _, _, _, _, (.int .i64 (w64 (o.tdiv 2))), _, _, _, _, _, _, _, _, _, _, _, _, _, _, _, _, b125, A128, c129, _, _, _, hs.weak ⟨rfl, rfl, rfl, rfl, rfl, rfl, rfl, rfl, rfl, rfl, rfl, rfl, rfl, rfl, rfl, rfl, rfl, rfl, rfl, rfl, rfl, rfl, rfl, rfl, rfl, rfl, rfl, rfl, trivial⟩, HS.pick 9 [0, 1, 2, 3, 4, 5, 6, 7, 8], f0, f1, f2, f3, f4, fun _ => rfl, f6, f7, f8, f9, f10, f11, f12, f13, f14, f15, f16, f17, f18, f19, f20, f21, o10_0, o10_1, o9_0, o9_1, o12_0, o12_1⟩
             | 6, _ =>
              refine GO.at hs ?_
              refine GO.move rfl rfl rfl ?_
              refine GO.fin (fun a hs => ?_)
              exact ⟨_, _, _, _, _, _, (.int .i64 t54), _, _, _, _, _, _, _, _, _, _, _, _, _, _, _, b125, A128, c129, _, _, _, hs.weak ⟨rfl, rfl, rfl, rfl, rfl, rfl, rfl, rfl, rfl, rfl, rfl, rfl, rfl, rfl, rfl, rfl, rfl, rfl, rfl, rfl, rfl, rfl, rfl, rfl, rfl, rfl, rfl, rfl, trivial⟩, HS.pick 9 [0, 1, 2, 3, 4, 5, 6, 7, 8], f0, f1, f2, f3, f4, f5, fun _ => rfl, f7, f8, f9, f10, f11, f12, f13, f14, f15, f16, f17, f18, f19, f20, f21, o10_0, o10_1, o9_0, o9_1, o12_0, o12_1⟩
             | 7, _ =>
              refine GO.at hs ?_
              refine GO.move rfl rfl rfl ?_
              refine GO.fin (fun a hs => ?_)
              exact ⟨_, _, _, _, _, _, _, (.int .i64 (w64 (1 - (w64 (2 * (A.tmod 2)))))), _, _, _, _, _, _, _, _, _, _, _, _, _, _, b125, A128, c129, _, _, _, hs.weak ⟨rfl, rfl, rfl, rfl, rfl, rfl, rfl, rfl, rfl, rfl, rfl, rfl, rfl, rfl, rfl, rfl, rfl, rfl, rfl, rfl, rfl, rfl, rfl, rfl, rfl, rfl, rfl, rfl, trivial⟩, HS.pick 9 [0, 1, 2, 3, 4, 5, 6, 7, 8], f0, f1, f2, f3, f4, f5, f6, fun _ => rfl, f8, f9, f10, f11, f12, f13, f14, f15, f16, f17, f18, f19, f20, f21, o10_0, o10_1, o9_0, o9_1, o12_0, o12_1⟩
             | 8, _ =>
              have h2 : b 2 = true := hd 2 (by decide)
              obtain rfl := f2 h2
              have h4 : b 4 = true := hd 4 (by decide)
              obtain rfl := f4 h4
              have h5 : b 5 = true := hd 5 (by decide)
              obtain rfl := f5 h5
              have h6 : b 6 = true := hd 6 (by decide)
              obtain rfl := f6 h6
              have h7 : b 7 = true := hd 7 (by decide)
              obtain rfl := f7 h7
              refine GO.at hs ?_
              refine GO.fn rfl Try.func63 fok63.1 fok63.2 rfl rfl (impl_crossed.calls HS  h114) (fun _ wd115 ⟨h116, HS⟩ => ⟨_, h116, ?_⟩)
              refine GO.fin (fun a hs => ?_)
              exact ⟨_, _, _, _, _, _, _, _, (.agg [.int .i64 t109, .int .i64 t110, .int .i64 t111, .int .i64 t112, .int .i64 t113].toArray), _, _, _, _, _, _, _, _, _, _, _, _, _, b125, A128, c129, _, _, _, hs.weak ⟨rfl, rfl, rfl, rfl, rfl, rfl, rfl, rfl, rfl, rfl, rfl, rfl, rfl, rfl, rfl, rfl, rfl, rfl, rfl, rfl, rfl, rfl, rfl, rfl, rfl, rfl, rfl, rfl, trivial⟩, HS.pick 9 [0, 1, 2, 3, 4, 5, 6, 7, 8], f0, f1, f2, f3, f4, f5, f6, f7, fun _ => rfl, f9, f10, f11, f12, f13, f14, f15, f16, f17, f18, f19, f20, f21, o10_0, o10_1, o9_0, o9_1, o12_0, o12_1⟩
             | 9, _ =>
              refine GO.at hs ?_
              refine GO.move rfl rfl rfl ?_
              refine GO.fin (fun a hs => ?_)
              exact ⟨_, _, _, _, _, _, _, _, _, (.int .i64 t54), _, _, _, _, _, _, _, _, _, _, _, _, b125, A128, c129, _, _, _, hs.weak ⟨rfl, rfl, rfl, rfl, rfl, rfl, rfl, rfl, rfl, rfl, rfl, rfl, rfl, rfl, rfl, rfl, rfl, rfl, rfl, rfl, rfl, rfl, rfl, rfl, rfl, rfl, rfl, rfl, trivial⟩, HS.pick 9 [0, 1, 2, 3, 4, 5, 6, 7, 8], f0, f1, f2, f3, f4, f5, f6, f7, f8, fun _ => rfl, f10, f11, f12, f13, f14, f15, f16, f17, f18, f19, f20, f21, o10_0, o10_1, o9_0, o9_1, o12_0, o12_1⟩
             | 10, _ =>
              have h9 : b 9 = true := hd 9 (by decide)
              obtain rfl := f9 h9
              refine GO.at hs ?_
              refine GO.add rfl rfl rfl rfl ?_
              refine GO.fin (fun a hs => ?_)
              exact ⟨_, _, _, _, _, _, _, _, _, _, (.int .i64 (w64 (t54 + 2))), _, _, _, _, _, _, _, _, _, _, _, b125, A128, c129, _, _, _, hs.weak ⟨rfl, rfl, rfl, rfl, rfl, rfl, rfl, rfl, rfl, rfl, rfl, rfl, rfl, rfl, rfl, rfl, rfl, rfl, rfl, rfl, rfl, rfl, rfl, rfl, rfl, rfl, rfl, rfl, trivial⟩, HS.pick 9 [0, 1, 2, 3, 4, 5, 6, 7, 8], f0, f1, f2, f3, f4, f5, f6, f7, f8, f9, fun _ => rfl, f11, f12, f13, f14, f15, f16, f17, f18, f19, f20, f21, o10_0, o10_1, o9_0, o9_1, o12_0, o12_1⟩
             | 11, _ =>
              refine GO.at hs ?_
              refine GO.move rfl rfl rfl ?_
              refine GO.fin (fun a hs => ?_)
              exact ⟨_, _, _, _, _, _, _, _, _, _, _, (.int .i64 t54), _, _, _, _, _, _, _, _, _, _, b125, A128, c129, _, _, _, hs.weak ⟨rfl, rfl, rfl, rfl, rfl, rfl, rfl, rfl, rfl, rfl, rfl, rfl, rfl, rfl, rfl, rfl, rfl, rfl, rfl, rfl, rfl, rfl, rfl, rfl, rfl, rfl, rfl, rfl, trivial⟩, HS.pick 9 [0, 1, 2, 3, 4, 5, 6, 7, 8], f0, f1, f2, f3, f4, f5, f6, f7, f8, f9, f10, fun _ => rfl, f12, f13, f14, f15, f16, f17, f18, f19, f20, f21, o10_0, o10_1, o9_0, o9_1, o12_0, o12_1⟩
             | 12, _ =>
              have h11 : b 11 = true := hd 11 (by decide)
              obtain rfl := f11 h11
              refine GO.at hs ?_
              refine GO.add rfl rfl rfl rfl ?_
              refine GO.fin (fun a hs => ?_)
              exact ⟨_, _, _, _, _, _, _, _, _, _, _, _, (.int .i64 (w64 (t54 + 3))), _, _, _, _, _, _, _, _, _, b125, A128, c129, _, _, _, hs.weak ⟨rfl, rfl, rfl, rfl, rfl, rfl, rfl, rfl, rfl, rfl, rfl, rfl, rfl, rfl, rfl, rfl, rfl, rfl, rfl, rfl, rfl, rfl, rfl, rfl, rfl, rfl, rfl, rfl, trivial⟩, HS.pick 9 [0, 1, 2, 3, 4, 5, 6, 7, 8], f0, f1, f2, f3, f4, f5, f6, f7, f8, f9, f10, f11, fun _ => rfl, f13, f14, f15, f16, f17, f18, f19, f20, f21, o10_0, o10_1, o9_0, o9_1, o12_0, o12_1⟩
             | 13, _ =>
              refine GO.at hs ?_
              refine GO.move rfl rfl rfl ?_
              refine GO.fin (fun a hs => ?_)
              exact ⟨_, _, _, _, _, _, _, _, _, _, _, _, _, (.int .i64 t54), _, _, _, _, _, _, _, _, b125, A128, c129, _, _, _, hs.weak ⟨rfl, rfl, rfl, rfl, rfl, rfl, rfl, rfl, rfl, rfl, rfl, rfl, rfl, rfl, rfl, rfl, rfl, rfl, rfl, rfl, rfl, rfl, rfl, rfl, rfl, rfl, rfl, rfl, trivial⟩, HS.pick 9 [0, 1, 2, 3, 4, 5, 6, 7, 8], f0, f1, f2, f3, f4, f5, f6, f7, f8, f9, f10, f11, f12, fun _ => rfl, f14, f15, f16, f17, f18, f19, f20, f21, o10_0, o10_1, o9_0, o9_1, o12_0, o12_1⟩
             | 14, _ =>
              refine GO.at hs ?_
              refine GO.move rfl rfl rfl ?_
              refine GO.fin (fun a hs => ?_)
              exact ⟨_, _, _, _, _, _, _, _, _, _, _, _, _, _, (.int .i64 t54), _, _, _, _, _, _, _, b125, A128, c129, _, _, _, hs.weak ⟨rfl, rfl, rfl, rfl, rfl, rfl, rfl, rfl, rfl, rfl, rfl, rfl, rfl, rfl, rfl, rfl, rfl, rfl, rfl, rfl, rfl, rfl, rfl, rfl, rfl, rfl, rfl, rfl, trivial⟩, HS.pick 9 [0, 1, 2, 3, 4, 5, 6, 7, 8], f0, f1, f2, f3, f4, f5, f6, f7, f8, f9, f10, f11, f12, f13, fun _ => rfl, f15, f16, f17, f18, f19, f20, f21, o10_0, o10_1, o9_0, o9_1, o12_0, o12_1⟩
             | 15, _ =>
              have h14 : b 14 = true := hd 14 (by decide)
              obtain rfl := f14 h14
              refine GO.at hs ?_
              refine GO.add rfl rfl rfl rfl ?_
              refine GO.fin (fun a hs => ?_)
              exact ⟨_, _, _, _, _, _, _, _, _, _, _, _, _, _, _, (.int .i64 (w64 (t54 + 1))), _, _, _, _, _, _, b125, A128, c129, _, _, _, hs.weak ⟨rfl, rfl, rfl, rfl, rfl, rfl, rfl, rfl, rfl, rfl, rfl, rfl, rfl, rfl, rfl, rfl, rfl, rfl, rfl, rfl, rfl, rfl, rfl, rfl, rfl, rfl, rfl, rfl, trivial⟩, HS.pick 9 [0, 1, 2, 3, 4, 5, 6, 7, 8], f0, f1, f2, f3, f4, f5, f6, f7, f8, f9, f10, f11, f12, f13, f14, fun _ => rfl, f16, f17, f18, f19, f20, f21, o10_0, o10_1, o9_0, o9_1, o12_0, o12_1⟩
             | 16, _ =>
              refine GO.at hs ?_
              refine GO.move rfl rfl rfl ?_
              refine GO.fin (fun a hs => ?_)
              exact ⟨_, _, _, _, _, _, _, _, _, _, _, _, _, _, _, _, (.int .i64 (w64 (1 - (w64 (2 * (A.tmod 2)))))), _, _, _, _, _, b125, A128, c129, _, _, _, hs.weak ⟨rfl, rfl, rfl, rfl, rfl, rfl, rfl, rfl, rfl, rfl, rfl, rfl, rfl, rfl, rfl, rfl, rfl, rfl, rfl, rfl, rfl, rfl, rfl, rfl, rfl, rfl, rfl, rfl, trivial⟩, HS.pick 9 [0, 1, 2, 3, 4, 5, 6, 7, 8], f0, f1, f2, f3, f4, f5, f6, f7, f8, f9, f10, f11, f12, f13, f14, f15, fun _ => rfl, f17, f18, f19, f20, f21, o10_0, o10_1, o9_0, o9_1, o12_0, o12_1⟩
             | 17, _ =>
              have h16 : b 16 = true := hd 16 (by decide)
              obtain rfl := f16 h16
              refine GO.at hs ?_
              refine GO.neg rfl rfl rfl ?_
              refine GO.fin (fun a hs => ?_)
              exact ⟨_, _, _, _, _, _, _, _, _, _, _, _, _, _, _, _, _, (.int .i64 (w64 (0 - (w64 (1 - (w64 (2 * (A.tmod 2)))))))), _, _, _, _, b125, A128, c129, _, _, _, hs.weak ⟨rfl, rfl, rfl, rfl, rfl, rfl, rfl, rfl, rfl, rfl, rfl, rfl, rfl, rfl, rfl, rfl, rfl, rfl, rfl, rfl, rfl, rfl, rfl, rfl, rfl, rfl, rfl, rfl, trivial⟩, HS.pick 9 [0, 1, 2, 3, 4, 5, 6, 7, 8], f0, f1, f2, f3, f4, f5, f6, f7, f8, f9, f10, f11, f12, f13, f14, f15, f16, fun _ => rfl, f18, f19, f20, f21, o10_0, o10_1, o9_0, o9_1, o12_0, o12_1⟩
             | 18, _ =>
              have h10 : b 10 = true := hd 10 (by decide)
              obtain rfl := f10 h10
              have h12 : b 12 = true := hd 12 (by decide)
              obtain rfl := f12 h12
              have h13 : b 13 = true := hd 13 (by decide)
              obtain rfl := f13 h13
              have h15 : b 15 = true := hd 15 (by decide)
              obtain rfl := f15 h15
              have h17 : b 17 = true := hd 17 (by decide)
              obtain rfl := f17 h17
              refine GO.at hs ?_
              refine GO.fn rfl Try.func63 fok63.1 fok63.2 rfl rfl (impl_crossed.calls HS  h122) (fun _ wd123 ⟨h124, HS⟩ => ⟨_, h124, ?_⟩)
              refine GO.fin (fun a hs => ?_)
              exact ⟨_, _, _, _, _, _, _, _, _, _, _, _, _, _, _, _, _, _, (.agg [.int .i64 t117, .int .i64 t118, .int .i64 t119, .int .i64 t120, .int .i64 t121].toArray), _, _, _, b125, A128, c129, _, _, _, hs.weak ⟨rfl, rfl, rfl, rfl, rfl, rfl, rfl, rfl, rfl, rfl, rfl, rfl, rfl, rfl, rfl, rfl, rfl, rfl, rfl, rfl, rfl, rfl, rfl, rfl, rfl, rfl, rfl, rfl, trivial⟩, HS.pick 9 [0, 1, 2, 3, 4, 5, 6, 7, 8], f0, f1, f2, f3, f4, f5, f6, f7, f8, f9, f10, f11, f12, f13, f14, f15, f16, f17, fun _ => rfl, f19, f20, f21, o10_0, o10_1, o9_0, o9_1, o12_0, o12_1⟩
             | 19, _ =>
              have h8 : b 8 = true := hd 8 (by decide)
              obtain rfl := f8 h8
              have h18 : b 18 = true := hd 18 (by decide)
              obtain rfl := f18 h18
              refine GO.at hs ?_
              refine GO.buildS (el := 58) ([.int .i64 t109, .int .i64 t110, .int .i64 t111, .int .i64 t112, .int .i64 t113, .int .i64 t117, .int .i64 t118, .int .i64 t119, .int .i64 t120, .int .i64 t121]) HS rfl rfl (fun _ => by kernel_rfl) rfl ?_; intro b125 wd126 HS
              refine GO.fin (fun a hs => ?_)
              exact ⟨_, _, _, _, _, _, _, _, _, _, _, _, _, _, _, _, _, _, _, (.slice (some ⟨b125, 0, none⟩) 2 2), _, _, b125, A128, c129, _, _, Box b125 58 [.int .i64 t109, .int .i64 t110, .int .i64 t111, .int .i64 t112, .int .i64 t113, .int .i64 t117, .int .i64 t118, .int .i64 t119, .int .i64 t120, .int .i64 t121], hs.weak ⟨rfl, rfl, rfl, rfl, rfl, rfl, rfl, rfl, rfl, rfl, rfl, rfl, rfl, rfl, rfl, rfl, rfl, rfl, rfl, rfl, rfl, rfl, rfl, rfl, rfl, rfl, rfl, rfl, trivial⟩, HS.pick 10 [1, 2, 3, 4, 5, 6, 7, 8, 0], f0, f1, f2, f3, f4, f5, f6, f7, f8, f9, f10, f11, f12, f13, f14, f15, f16, f17, f18, fun _ => rfl, f20, f21, o10_0, o10_1, o9_0, o9_1, fun _ _ => rfl, fun hh => (Bool.noConfusion ((hcl 20 (by decide) hh 19 (by decide)).symm.trans hb))⟩
             | 20, _ =>
              have h1 : b 1 = true := hd 1 (by decide)
              obtain rfl := f1 h1
              have h19 : b 19 = true := hd 19 (by decide)
              obtain rfl := f19 h19
              obtain rfl := o12_0 h19 hb
              obtain rfl := o9_0 hb
              refine GO.at hs ?_
              replace HS := HS.boxRow (T := T_GCrossing) (j := 8) rfl flat_flat (fun _ => ()) ([(⟨t109, t110, t111, t112, t113⟩ : GCrossing), (⟨t117, t118, t119, t120, t121⟩ : GCrossing)] : List GCrossing) rfl (bndL rfl)
              refine GO.lenC (t := 118) (m := ([(⟨t109, t110, t111, t112, t113⟩ : GCrossing), (⟨t117, t118, t119, t120, t121⟩ : GCrossing)] : List GCrossing).length) (c' := ([(⟨t109, t110, t111, t112, t113⟩ : GCrossing), (⟨t117, t118, t119, t120, t121⟩ : GCrossing)] : List GCrossing).length) rfl rfl rfl ?_
              refine GO.appS (T := T_GCrossing) (j := 1) HS rfl (RdIn.own (j := 8) rfl) flat_flat rfl rfl rfl Try.underlying26 inf58 rfl rfl rfl c130 rfl (fun _ => rfl) ?_; intro A128 c129 wd127 HS
              refine GO.fin (fun a hs => ?_)
              exact ⟨_, _, _, _, _, _, _, _, _, _, _, _, _, _, _, _, _, _, _, _, (.slice A128 (t79 ++ ([(⟨t109, t110, t111, t112, t113⟩ : GCrossing), (⟨t117, t118, t119, t120, t121⟩ : GCrossing)] : List GCrossing)).length c129), _, b125, A128, c129, _, Own T_GCrossing 58 A128 c129 (fun _ => ()) (t79 ++ ([(⟨t109, t110, t111, t112, t113⟩ : GCrossing), (⟨t117, t118, t119, t120, t121⟩ : GCrossing)] : List GCrossing)), Own T_GCrossing 58 (some ⟨b125, 0, none⟩) (([(⟨t109, t110, t111, t112, t113⟩ : GCrossing), (⟨t117, t118, t119, t120, t121⟩ : GCrossing)] : List GCrossing).length) (fun _ => ()) ([(⟨t109, t110, t111, t112, t113⟩ : GCrossing), (⟨t117, t118, t119, t120, t121⟩ : GCrossing)] : List GCrossing), hs.weak ⟨rfl, rfl, rfl, rfl, rfl, rfl, rfl, rfl, rfl, rfl, rfl, rfl, rfl, rfl, rfl, rfl, rfl, rfl, rfl, rfl, rfl, rfl, rfl, rfl, rfl, rfl, rfl, rfl, trivial⟩, HS.pick 9 [0, 1, 2, 3, 4, 5, 6, 7, 8], f0, f1, f2, f3, f4, f5, f6, f7, f8, f9, f10, f11, f12, f13, f14, f15, f16, f17, f18, f19, fun _ => rfl, f21, o10_0, fun hh => (Bool.noConfusion ((hcl 22 (by decide) hh 20 (by decide)).symm.trans hb)), fun h => Bool.noConfusion h, fun _ => rfl, fun _ h => Bool.noConfusion h, fun _ => rfl⟩
             | 21, _ =>
              refine GO.at hs ?_
              refine GO.fld (⟨b65, 0, none⟩) rfl rfl fl28_0 rfl rfl ?_
              refine GO.fin (fun a hs => ?_)
              exact ⟨_, _, _, _, _, _, _, _, _, _, _, _, _, _, _, _, _, _, _, _, _, (.pointer (some ⟨b65, 0, none⟩)), b125, A128, c129, _, _, _, hs.weak ⟨rfl, rfl, rfl, rfl, rfl, rfl, rfl, rfl, rfl, rfl, rfl, rfl, rfl, rfl, rfl, rfl, rfl, rfl, rfl, rfl, rfl, rfl, rfl, rfl, rfl, rfl, rfl, rfl, trivial⟩, HS.pick 9 [0, 1, 2, 3, 4, 5, 6, 7, 8], f0, f1, f2, f3, f4, f5, f6, f7, f8, f9, f10, f11, f12, f13, f14, f15, f16, f17, f18, f19, f20, fun _ => rfl, o10_0, o10_1, o9_0, o9_1, o12_0, o12_1⟩
             | 22, _ =>
              have h20 : b 20 = true := hd 20 (by decide)
              obtain rfl := f20 h20
              have h21 : b 21 = true := hd 21 (by decide)
              obtain rfl := f21 h21
              obtain rfl := o10_0 hb
              refine GO.at hs ?_
              refine GO.stBox (j := 0) (vs := [.slice A128 (t79 ++ ([(⟨t109, t110, t111, t112, t113⟩ : GCrossing), (⟨t117, t118, t119, t120, t121⟩ : GCrossing)] : List GCrossing)).length c129]) ([.slice A128 (t79 ++ ([(⟨t109, t110, t111, t112, t113⟩ : GCrossing), (⟨t117, t118, t119, t120, t121⟩ : GCrossing)] : List GCrossing)).length c129, .int .i64 t59]) HS rfl rfl rfl rfl rfl (htN na26 rfl) rfl rfl rfl ?_; intro wd131 HS
              refine GO.fin (fun a hs => ?_)
              exact ⟨_, _, _, _, _, _, _, _, _, _, _, _, _, _, _, _, _, _, _, _, _, _, b125, A128, c129, Box b65 28 [.slice A128 (t79 ++ ([(⟨t109, t110, t111, t112, t113⟩ : GCrossing), (⟨t117, t118, t119, t120, t121⟩ : GCrossing)] : List GCrossing)).length c129, .int .i64 t59], _, _, hs.weak ⟨rfl, rfl, rfl, rfl, rfl, rfl, rfl, rfl, rfl, rfl, rfl, rfl, rfl, rfl, rfl, rfl, rfl, rfl, rfl, rfl, rfl, rfl, rfl, rfl, rfl, rfl, rfl, rfl, trivial⟩, HS.pick 9 [0, 1, 2, 3, 4, 5, 6, 7, 8], f0, f1, f2, f3, f4, f5, f6, f7, f8, f9, f10, f11, f12, f13, f14, f15, f16, f17, f18, f19, f20, f21, fun h => Bool.noConfusion h, fun _ => rfl, o9_0, o9_1, o12_0, o12_1⟩
             | k + 23, hj => exact absurd hj (Nat.not_lt.2 (Nat.le_add_left 23 k))
            ·
             intro b a w hall
             refine exI fun Y80_0 => exI fun Y81_1 => exI fun Y82_2 => exI fun Y83_3 => exI fun Y84_4 => exI fun Y85_5 => exI fun Y86_6 => exI fun Y87_7 => exI fun Y88_8 => exI fun Y89_9 => exI fun Y90_10 => exI fun Y91_11 => exI fun Y92_12 => exI fun Y93_13 => exI fun Y94_14 => exI fun Y95_15 => exI fun Y96_16 => exI fun Y97_17 => exI fun Y98_18 => exI fun Y99_19 => exI fun Y100_20 => exI fun Y101_21 => exI fun b125 => exI fun A128 => exI fun c129 => exI fun O103_10 => exI fun O102_9 => exI fun O104_12 => anI fun hs => anI fun HS => anI fun f0 => anI fun f1 => anI fun f2 => anI fun f3 => anI fun f4 => anI fun f5 => anI fun f6 => anI fun f7 => anI fun f8 => anI fun f9 => anI fun f10 => anI fun f11 => anI fun f12 => anI fun f13 => anI fun f14 => anI fun f15 => anI fun f16 => anI fun f17 => anI fun f18 => anI fun f19 => anI fun f20 => anI fun f21 => anI fun o10_0 => anI fun o10_1 => anI fun o9_0 => anI fun o9_1 => anI fun o12_0 => fun o12_1 => ?_
             obtain rfl := f0 (hall 0 (by decide))
             obtain rfl := f1 (hall 1 (by decide))
             obtain rfl := f2 (hall 2 (by decide))
             obtain rfl := f3 (hall 3 (by decide))
             obtain rfl := f4 (hall 4 (by decide))
             obtain rfl := f5 (hall 5 (by decide))
             obtain rfl := f6 (hall 6 (by decide))
             obtain rfl := f7 (hall 7 (by decide))
             obtain rfl := f8 (hall 8 (by decide))
             obtain rfl := f9 (hall 9 (by decide))
             obtain rfl := f10 (hall 10 (by decide))
             obtain rfl := f11 (hall 11 (by decide))
             obtain rfl := f12 (hall 12 (by decide))
             obtain rfl := f13 (hall 13 (by decide))
             obtain rfl := f14 (hall 14 (by decide))
             obtain rfl := f15 (hall 15 (by decide))
             obtain rfl := f16 (hall 16 (by decide))
             obtain rfl := f17 (hall 17 (by decide))
             obtain rfl := f18 (hall 18 (by decide))
             obtain rfl := f19 (hall 19 (by decide))
             obtain rfl := f20 (hall 20 (by decide))
             obtain rfl := f21 (hall 21 (by decide))
             obtain rfl := o10_1 (hall 22 (by decide))
             obtain rfl := o9_1 (hall 20 (by decide))
             obtain rfl := o12_1 (hall 20 (by decide))
             refine G.at hs ?_
             refine G.seq ?_
             refine G.region ?_
             refine GO.ldBoxA (j := 0) ([.slice A128 (t79 ++ ([(⟨t109, t110, t111, t112, t113⟩ : GCrossing), (⟨t117, t118, t119, t120, t121⟩ : GCrossing)] : List GCrossing)).length c129, .int .i64 t59]) HS rfl rfl rfl rfl ag28 rfl ?_
             refine GO.stBox (j := 6) (vs := [.slice A128 (t79 ++ ([(⟨t109, t110, t111, t112, t113⟩ : GCrossing), (⟨t117, t118, t119, t120, t121⟩ : GCrossing)] : List GCrossing)).length c129, .int .i64 t59]) ([.slice A128 (t79 ++ ([(⟨t109, t110, t111, t112, t113⟩ : GCrossing), (⟨t117, t118, t119, t120, t121⟩ : GCrossing)] : List GCrossing)).length c129, .int .i64 t59]) HS rfl rfl rfl rfl rfl (htA ag28) rfl rfl rfl ?_; intro wd132 HS
             refine GO.assign rfl rfl rfl ?_
             refine GO.nil ?_
             obtain ⟨rfl, rfl, rfl⟩ := some3 H
             exact G.ret2 _ _ Try.func22 rfl (Res1.boxA (j := 6) (vs := [.slice A128 (t79 ++ ([(⟨t109, t110, t111, t112, t113⟩ : GCrossing), (⟨t117, t118, t119, t120, t121⟩ : GCrossing)] : List GCrossing)).length c129, .int .i64 t59]) HS rfl rfl rfl ag28) rfl ⟨_, _, rfl, (HS.pick 9 [1])⟩
       ·
        refine G.yesB rfl (congrArg Bool.not (decide_eq_false c51)) ?_
        refine G.seq ?_
        refine G.region ?_
        refine GO.buildV (.agg [.slice none 0 0, .int .i64 0].toArray) rfl rfl (fun _ => by kernel_rfl) rfl ?_
        refine GO.stBox (j := 4) (vs := [.slice none 0 0, .int .i64 0]) ([.slice none 0 0, .int .i64 0]) HS rfl rfl rfl rfl rfl (htA ag28) rfl rfl rfl ?_; intro wd133 HS
        refine GO.assign rfl rfl rfl ?_
        refine GO.nil ?_
        replace HS := HS.nilRow T_GCrossing 58 (fun _ => ())
        obtain ⟨rfl, rfl, rfl⟩ := some3 H
        exact G.ret2 _ _ Try.func22 rfl (Res1.boxA (j := 5) (vs := [.slice none 0 0, .int .i64 0]) HS rfl rfl rfl ag28) rfl ⟨_, _, rfl, (HS.pick 7 [0])⟩
    ·
     refine G.yesB rfl (congrArg Bool.not (bnot_of c43)) ?_
     refine G.seq ?_
     refine G.region ?_
     refine GO.buildV (.agg [.slice none 0 0, .int .i64 0].toArray) rfl rfl (fun _ => by kernel_rfl) rfl ?_
     refine GO.stBox (j := 4) (vs := [.slice none 0 0, .int .i64 0]) ([.slice none 0 0, .int .i64 0]) HS rfl rfl rfl rfl rfl (htA ag28) rfl rfl rfl ?_; intro wd134 HS
     refine GO.assign rfl rfl rfl ?_
     refine GO.nil ?_
     replace HS := HS.nilRow T_GCrossing 58 (fun _ => ())
     obtain ⟨rfl, rfl, rfl⟩ := some3 H
     exact G.ret2 _ _ Try.func22 rfl (Res1.boxA (j := 5) (vs := [.slice none 0 0, .int .i64 0]) HS rfl rfl rfl ag28) rfl ⟨_, _, rfl, (HS.pick 7 [0])⟩
   ·
    refine G.region ?_
    refine GO.move rfl rfl rfl ?_
    refine GO.move rfl rfl rfl ?_
    refine GO.fn rfl Try.func62 fok62.1 fok62.2 rfl rfl (impl_hasIndex_int64.calls HS (RdIn.own (j := 0) rfl) h35) (fun _ wd36 ⟨h37, HS⟩ => ⟨_, h37, ?_⟩)
    refine GO.not rfl rfl rfl ?_
    refine GO.move rfl rfl rfl ?_
    refine GO.known (t := 32) rfl (congrArg Bool.not (bnot_of c38)) ?_
    refine GO.off rfl rfl rfl rfl rfl rfl ?_
    refine GO.off rfl rfl rfl rfl rfl rfl ?_
    refine GO.off rfl rfl rfl rfl rfl rfl ?_
    refine GO.off rfl rfl rfl rfl rfl rfl ?_
    refine GO.pickT rfl rfl rfl rfl rfl ?_
    refine GO.assign rfl rfl rfl ?_
    refine GO.nil ?_
    refine G.yesB rfl rfl ?_
    refine G.seq ?_
    refine G.region ?_
    refine GO.buildV (.agg [.slice none 0 0, .int .i64 0].toArray) rfl rfl (fun _ => by kernel_rfl) rfl ?_
    refine GO.stBox (j := 4) (vs := [.slice none 0 0, .int .i64 0]) ([.slice none 0 0, .int .i64 0]) HS rfl rfl rfl rfl rfl (htA ag28) rfl rfl rfl ?_; intro wd135 HS
    refine GO.assign rfl rfl rfl ?_
    refine GO.nil ?_
    replace HS := HS.nilRow T_GCrossing 58 (fun _ => ())
    obtain ⟨rfl, rfl, rfl⟩ := some3 H
    exact G.ret2 _ _ Try.func22 rfl (Res1.boxA (j := 5) (vs := [.slice none 0 0, .int .i64 0]) HS rfl rfl rfl ag28) rfl ⟨_, _, rfl, (HS.pick 7 [0])⟩
  ·
   refine G.yesB rfl (congrArg Bool.not (bnot_of c18)) ?_
   refine G.seq ?_
   refine G.region ?_
   refine GO.buildV (.agg [.slice none 0 0, .int .i64 0].toArray) rfl rfl (fun _ => by kernel_rfl) rfl ?_
   refine GO.stBox (j := 3) (vs := [.slice none 0 0, .int .i64 0]) ([.slice none 0 0, .int .i64 0]) HS rfl rfl rfl rfl rfl (htA ag28) rfl rfl rfl ?_; intro wd136 HS
   refine GO.assign rfl rfl rfl ?_
   refine GO.nil ?_
   replace HS := HS.nilRow T_GCrossing 58 (fun _ => ())
   obtain ⟨rfl, rfl, rfl⟩ := some3 H
   exact G.ret2 _ _ Try.func22 rfl (Res1.boxA (j := 4) (vs := [.slice none 0 0, .int .i64 0]) HS rfl rfl rfl ag28) rfl ⟨_, _, rfl, (HS.pick 6 [0])⟩

set_option maxRecDepth 20000 in
set_option maxHeartbeats 40000000 in
theorem laws_FnExactAddBigon.calls {w0 w : World} {L : List HObj} {K : Nat} {aD_Crossings : List GCrossing} {aD_Circles : Int} {aI : Int} {aJ : Int} {A_aD_Crossings : Option Addr} {c_aD_Crossings : Nat} {r1 : Bool} (HS : St w0 w (L)) (h_aD_Crossings : RdIn w0 L T_GCrossing A_aD_Crossings c_aD_Crossings (fun _ => ()) aD_Crossings) (H : laws_FnExactAddBigon.f K aD_Crossings aD_Circles aI aJ = some r1) :
    Calls Try.prog 5 #[.agg [.slice A_aD_Crossings aD_Crossings.length c_aD_Crossings, .int .i64 aD_Circles].toArray, .int .i64 aI, .int .i64 aJ] w (laws_FnExactAddBigon.post w0 L aD_Crossings aD_Circles aI aJ A_aD_Crossings c_aD_Crossings r1) := by
  unfold laws_FnExactAddBigon.f at H
  refine Calls.of_G Try.func5 rfl rfl rfl ?_
  refine G.seq ?_
  refine G.region ?_
  refine GO.box (cs := [.slice A_aD_Crossings aD_Crossings.length c_aD_Crossings, .int .i64 aD_Circles]) HS rfl rfl rfl rfl ?_; intro b1 wd2 HS
  refine GO.assign rfl rfl rfl ?_
  refine GO.nil ?_
  refine G.seq ?_
  refine G.region ?_
  refine GO.assign rfl rfl rfl ?_
  refine GO.nil ?_
  refine G.seq ?_
  obtain ⟨t3, h4, H⟩ := Option.bind_eq_some_iff.1 H
  refine G.region ?_
  refine GO.ldBoxA (j := 0) ([.slice A_aD_Crossings aD_Crossings.length c_aD_Crossings, .int .i64 aD_Circles]) HS rfl rfl rfl rfl ag24 rfl ?_
  refine GO.move rfl rfl rfl ?_
  refine GO.fn rfl Try.func12 fok12.1 fok12.2 rfl rfl (laws_szDiagram.calls HS (RdIn.drop 1 h_aD_Crossings) h4) (fun _ wd5 ⟨h6, HS⟩ => ⟨_, h6, ?_⟩)
  refine GO.assign rfl rfl rfl ?_
  refine GO.nil ?_
  refine G.seq ?_
  refine G.seq ?_
  refine G.region ?_
  refine GO.move rfl rfl rfl ?_
  refine GO.lss rfl rfl rfl rfl ?_
  refine GO.nil ?_
  rcases ite_elim H with ⟨c7, H⟩ | ⟨c7, H⟩
  ·
   refine G.yesB rfl (decide_eq_true c7) ?_
   refine G.seq ?_
   refine G.region ?_
   refine GO.assign rfl rfl rfl ?_
   refine GO.nil ?_
   obtain rfl := Option.some.inj H
   exact G.ret1 _ Try.func5 rfl rfl ⟨rfl, (HS.pick 1 [])⟩
  ·
   refine G.noB rfl (decide_eq_false c7) ?_
   refine G.skip ?_
   refine G.seq ?_
   obtain ⟨t8, t9, h10, H⟩ := bind2_elim H
   obtain ⟨t15, t16, t17, h18, H⟩ := bind3_elim H
   refine G.region ?_
   refine GO.ldBoxA (j := 0) ([.slice A_aD_Crossings aD_Crossings.length c_aD_Crossings, .int .i64 aD_Circles]) HS rfl rfl rfl rfl ag24 rfl ?_
   refine GO.fn rfl Try.func14 fok14.1 fok14.2 rfl rfl (laws_toDiagram.calls HS (RdIn.drop 1 h_aD_Crossings) h10) (fun _ wd13 ⟨A11, c12, h14, HS⟩ => ⟨_, h14, ?_⟩)
   refine GO.move rfl rfl rfl ?_
   refine GO.move rfl rfl rfl ?_
   refine GO.fn rfl Try.func21 fok21.1 fok21.2 rfl rfl (spec_AddBigon.calls HS (RdIn.own (j := 0) rfl) h18) (fun _ wd21 ⟨A19, c20, h22, HS⟩ => ⟨_, h22, ?_⟩)
   refine GO.move rfl rfl rfl ?_
   refine GO.extract rfl rfl rfl rfl ?_
   refine GO.extract rfl rfl rfl rfl ?_
   refine GO.alloc HS rfl zr28 rfl rfl ?_; intro b23 wd24 HS
   refine GO.stBox (j := 0) (vs := [.slice A19 t15.length c20, .int .i64 t16]) ([.slice A19 t15.length c20, .int .i64 t16]) HS rfl rfl rfl rfl rfl (htA ag28) rfl rfl rfl ?_; intro wd25 HS
   refine GO.assign rfl rfl rfl ?_
   refine GO.nil ?_
   refine G.seq ?_
   obtain ⟨t26, t27, h28, H⟩ := bind2_elim H
   refine G.region ?_
   refine GO.ldBoxA (j := 3) ([.slice A_aD_Crossings aD_Crossings.length c_aD_Crossings, .int .i64 aD_Circles]) HS rfl rfl rfl rfl ag24 rfl ?_
   refine GO.fn rfl Try.func14 fok14.1 fok14.2 rfl rfl (laws_toDiagram.calls HS (RdIn.drop 4 h_aD_Crossings) h28) (fun _ wd31 ⟨A29, c30, h32, HS⟩ => ⟨_, h32, ?_⟩)
   refine GO.alloc HS rfl zr28 rfl rfl ?_; intro b33 wd34 HS
   refine GO.stBox (j := 0) (vs := [.slice A29 t26.length c30, .int .i64 t27]) ([.slice A29 t26.length c30, .int .i64 t27]) HS rfl rfl rfl rfl rfl (htA ag28) rfl rfl rfl ?_; intro wd35 HS
   refine GO.nil ?_
   refine G.seq ?_
   obtain ⟨t36, t37, t38, h39, H⟩ := bind3_elim H
   refine G.region ?_
   refine GO.ldBoxA (j := 0) ([.slice A29 t26.length c30, .int .i64 t27]) HS rfl rfl rfl rfl ag28 rfl ?_
   refine GO.move rfl rfl rfl ?_
   refine GO.move rfl rfl rfl ?_
   refine GO.fn rfl Try.func22 fok22.1 fok22.2 rfl rfl (impl_AddBigon.calls HS (RdIn.own (j := 1) rfl) h39) (fun _ wd42 ⟨A40, c41, h43, HS⟩ => ⟨_, h43, ?_⟩)
   refine GO.move rfl rfl rfl ?_
   refine GO.extract rfl rfl rfl rfl ?_
   refine GO.extract rfl rfl rfl rfl ?_
   refine GO.alloc HS rfl zr28 rfl rfl ?_; intro b44 wd45 HS
   refine GO.stBox (j := 0) (vs := [.slice A40 t36.length c41, .int .i64 t37]) ([.slice A40 t36.length c41, .int .i64 t37]) HS rfl rfl rfl rfl rfl (htA ag28) rfl rfl rfl ?_; intro wd46 HS
   refine GO.assign rfl rfl rfl ?_
   refine GO.nil ?_
   refine G.seq ?_
   refine G.seq ?_
   obtain ⟨t52, h53, H⟩ := Option.bind_eq_some_iff.1 H
   rcases ite_elim H with ⟨c56, H⟩ | ⟨c56, H⟩
   ·
    refine G.region ?_
    refine GO.ldBoxA (j := 0) ([.slice A40 t36.length c41, .int .i64 t37]) HS rfl rfl rfl rfl ag28 rfl ?_
    refine GO.ldBoxA (j := 4) ([.slice A19 t15.length c20, .int .i64 t16]) HS rfl rfl rfl rfl ag28 rfl ?_
    refine GO.fn rfl Try.func16 fok16.1 fok16.2 rfl rfl (laws_eqDiagram.calls HS (RdIn.own (j := 1) rfl) (RdIn.own (j := 5) rfl) h53) (fun _ wd54 ⟨h55, HS⟩ => ⟨_, h55, ?_⟩)
    refine GO.not rfl rfl rfl ?_
    refine GO.move rfl rfl rfl ?_
    refine GO.known (t := 44) rfl (congrArg Bool.not c56) ?_
    refine GO.on rfl rfl rfl rfl ?_
    refine GO.move rfl rfl rfl ?_
    refine GO.back ?_
    refine GO.on rfl rfl rfl rfl ?_
    refine GO.move rfl rfl rfl ?_
    refine GO.back ?_
    refine GO.on rfl rfl rfl rfl ?_
    refine GO.neq rfl rfl rfl rfl ?_
    refine GO.back ?_
    refine GO.pickF rfl rfl rfl rfl rfl ?_
    refine GO.nil ?_
    rcases ite_elim H with ⟨c57, H⟩ | ⟨c57, H⟩
    ·
     refine G.noB rfl (congrArg Bool.not (decide_eq_true c57)) ?_
     refine G.skip ?_
     refine G.seq ?_
     refine G.seq ?_
     obtain ⟨t58, t59, h60, H⟩ := bind2_elim H
     obtain ⟨t65, h66, H⟩ := Option.bind_eq_some_iff.1 H
     refine G.regionAny mixed (by decide) (fun b a w => ∃ (Y1_0 : Value) (Y2_1 : Value) (Y3_2 : Value) (Y4_3 : Value) (Y5_4 : Value) (A61 : Option Addr) (c62 : Nat) (O6_9 : HObj), Sat 106 [(49, Y1_0), (50, Y2_1), (51, Y3_2), (52, Y4_3), (53, Y5_4), (1, .int .i64 aI), (2, .int .i64 aJ), (3, .pointer (some ⟨b1, 0, none⟩)), (8, .pointer (some ⟨b23, 0, none⟩)), (9, .int .i64 t17), (10, .pointer (some ⟨b33, 0, none⟩)), (11, .pointer (some ⟨b44, 0, none⟩)), (12, .int .i64 t38)] a ∧ St w0 w (Box b44 28 [.slice A40 t36.length c41, .int .i64 t37] :: Own T_GCrossing 58 A40 c41 (fun _ => ()) t36 :: Box b33 28 [.slice A29 t26.length c30, .int .i64 t27] :: Own T_GCrossing 58 A29 c30 (fun _ => ()) t26 :: Box b23 28 [.slice A19 t15.length c20, .int .i64 t16] :: Own T_GCrossing 58 A19 c20 (fun _ => ()) t15 :: Own T_GCrossing 58 A11 c12 (fun _ => ()) t8 :: Box b1 24 [.slice A_aD_Crossings aD_Crossings.length c_aD_Crossings, .int .i64 aD_Circles] :: O6_9 :: L) ∧ (b 0 = true → Y1_0 = (.agg [.slice A29 t26.length c30, .int .i64 t27].toArray)) ∧ (b 1 = true → Y2_1 = (.agg [.slice A_aD_Crossings aD_Crossings.length c_aD_Crossings, .int .i64 aD_Circles].toArray)) ∧ (b 2 = true → Y3_2 = (.agg [.slice A61 t58.length c62, .int .i64 t59].toArray)) ∧ (b 3 = true → Y4_3 = (.bool t65)) ∧ (b 4 = true → Y5_4 = (.bool (!t65))) ∧ (b 2 = true → O6_9 = Own T_GCrossing 58 A61 c62 (fun _ => ()) t58)) ?_ ?_ ?_
     ·
      intro a hs
      obtain ⟨Y1_0, hs⟩ := hs.ext (d := 49) rfl
      obtain ⟨Y2_1, hs⟩ := hs.ext (d := 50) rfl
      obtain ⟨Y3_2, hs⟩ := hs.ext (d := 51) rfl
      obtain ⟨Y4_3, hs⟩ := hs.ext (d := 52) rfl
      obtain ⟨Y5_4, hs⟩ := hs.ext (d := 53) rfl
      exact ⟨Y1_0, Y2_1, Y3_2, Y4_3, Y5_4, none, 0, Emp, hs.weak ⟨rfl, rfl, rfl, rfl, rfl, rfl, rfl, rfl, rfl, rfl, rfl, rfl, rfl, trivial⟩, (HS.drew.emp.pick 9 [1, 2, 3, 4, 5, 6, 7, 8, 0]), fun h => Bool.noConfusion h, fun h => Bool.noConfusion h, fun h => Bool.noConfusion h, fun h => Bool.noConfusion h, fun h => Bool.noConfusion h, fun h => Bool.noConfusion h⟩
     ·
      intro j hj b a w
      refine exI fun Y1_0 => exI fun Y2_1 => exI fun Y3_2 => exI fun Y4_3 => exI fun Y5_4 => exI fun A61 => exI fun c62 => exI fun O6_9 => anI fun hs => anI fun HS => anI fun f0 => anI fun f1 => anI fun f2 => anI fun f3 => anI fun f4 => fun o9_0 hb hd hcl => ?_
      match j, hj with
      | 0, _ =>
       refine GO.at hs ?_
       refine GO.ldBoxA (j := 2) ([.slice A29 t26.length c30, .int .i64 t27]) HS rfl rfl rfl rfl ag28 rfl ?_
       refine GO.fin (fun a hs => ?_)
       exact ⟨(.agg [.slice A29 t26.length c30, .int .i64 t27].toArray), _, _, _, _, A61, c62, _, hs.weak ⟨rfl, rfl, rfl, rfl, rfl, rfl, rfl, rfl, rfl, rfl, rfl, rfl, rfl, trivial⟩, HS.pick 9 [0, 1, 2, 3, 4, 5, 6, 7, 8], fun _ => rfl, f1, f2, f3, f4, o9_0⟩
      | 1, _ =>
       refine GO.at hs ?_
       refine GO.ldBoxA (j := 7) ([.slice A_aD_Crossings aD_Crossings.length c_aD_Crossings, .int .i64 aD_Circles]) HS rfl rfl rfl rfl ag24 rfl ?_
       refine GO.fin (fun a hs => ?_)
       exact ⟨_, (.agg [.slice A_aD_Crossings aD_Crossings.length c_aD_Crossings, .int .i64 aD_Circles].toArray), _, _, _, A61, c62, _, hs.weak ⟨rfl, rfl, rfl, rfl, rfl, rfl, rfl, rfl, rfl, rfl, rfl, rfl, rfl, trivial⟩, HS.pick 9 [0, 1, 2, 3, 4, 5, 6, 7, 8], f0, fun _ => rfl, f2, f3, f4, o9_0⟩
      | 2, _ =>
       have h1 : b 1 = true := hd 1 (by decide)
       obtain rfl := f1 h1
       refine GO.at hs ?_
       refine GO.fn rfl Try.func14 fok14.1 fok14.2 rfl rfl (laws_toDiagram.calls HS (RdIn.drop 9 h_aD_Crossings) h60) (fun _ wd63 ⟨A61, c62, h64, HS⟩ => ⟨_, h64, ?_⟩)
       refine GO.fin (fun a hs => ?_)
       exact ⟨_, _, (.agg [.slice A61 t58.length c62, .int .i64 t59].toArray), _, _, A61, c62, Own T_GCrossing 58 A61 c62 (fun _ => ()) t58, hs.weak ⟨rfl, rfl, rfl, rfl, rfl, rfl, rfl, rfl, rfl, rfl, rfl, rfl, rfl, trivial⟩, HS.pick 10 [1, 2, 3, 4, 5, 6, 7, 8, 0], f0, f1, fun _ => rfl, f3, f4, fun _ => rfl⟩
      | 3, _ =>
       have h0 : b 0 = true := hd 0 (by decide)
       obtain rfl := f0 h0
       have h2 : b 2 = true := hd 2 (by decide)
       obtain rfl := f2 h2
       obtain rfl := o9_0 h2
       refine GO.at hs ?_
       refine GO.fn rfl Try.func16 fok16.1 fok16.2 rfl rfl (laws_eqDiagram.calls HS (RdIn.own (j := 3) rfl) (RdIn.own (j := 8) rfl) h66) (fun _ wd67 ⟨h68, HS⟩ => ⟨_, h68, ?_⟩)
       refine GO.fin (fun a hs => ?_)
       exact ⟨_, _, _, (.bool t65), _, A61, c62, _, hs.weak ⟨rfl, rfl, rfl, rfl, rfl, rfl, rfl, rfl, rfl, rfl, rfl, rfl, rfl, trivial⟩, HS.pick 9 [0, 1, 2, 3, 4, 5, 6, 7, 8], f0, f1, f2, fun _ => rfl, f4, o9_0⟩
      | 4, _ =>
       have h3 : b 3 = true := hd 3 (by decide)
       obtain rfl := f3 h3
       refine GO.at hs ?_
       refine GO.not rfl rfl rfl ?_
       refine GO.fin (fun a hs => ?_)
       exact ⟨_, _, _, _, (.bool (!t65)), A61, c62, _, hs.weak ⟨rfl, rfl, rfl, rfl, rfl, rfl, rfl, rfl, rfl, rfl, rfl, rfl, rfl, trivial⟩, HS.pick 9 [0, 1, 2, 3, 4, 5, 6, 7, 8], f0, f1, f2, f3, fun _ => rfl, o9_0⟩
      | k + 5, hj => exact absurd hj (Nat.not_lt.2 (Nat.le_add_left 5 k))
     ·
      intro b a w hall
      refine exI fun Y1_0 => exI fun Y2_1 => exI fun Y3_2 => exI fun Y4_3 => exI fun Y5_4 => exI fun A61 => exI fun c62 => exI fun O6_9 => anI fun hs => anI fun HS => anI fun f0 => anI fun f1 => anI fun f2 => anI fun f3 => anI fun f4 => fun o9_0 => ?_
      obtain rfl := f0 (hall 0 (by decide))
      obtain rfl := f1 (hall 1 (by decide))
      obtain rfl := f2 (hall 2 (by decide))
      obtain rfl := f3 (hall 3 (by decide))
      obtain rfl := f4 (hall 4 (by decide))
      obtain rfl := o9_0 (hall 2 (by decide))
      refine G.at hs ?_
      rcases ite_elim H with ⟨c69, H⟩ | ⟨c69, H⟩
      ·
       refine G.noB rfl (congrArg Bool.not c69) ?_
       refine G.skip ?_
       refine G.seq ?_
       refine G.region ?_
       refine GO.assign rfl rfl rfl ?_
       refine GO.nil ?_
       refine G.seq ?_
       obtain ⟨t70, t71, h72, H⟩ := bind2_elim H
       obtain ⟨c73, H⟩ := ite_none H
       refine G.region ?_
       refine GO.ldBoxA (j := 2) ([.slice A29 t26.length c30, .int .i64 t27]) HS rfl rfl rfl rfl ag28 rfl ?_
       refine GO.move rfl rfl rfl ?_
       replace HS := HS.pick 9 [3, 0, 1, 2, 4, 5, 6, 7, 8]
       refine GO.fn rfl Try.func17 fok17.1 fok17.2 rfl rfl (laws_markDiagram.calls HS  h72) (fun _ wd74 ⟨h75, HS⟩ => ⟨_, h75, ?_⟩)
       refine GO.assign rfl rfl rfl ?_
       refine GO.nil ?_
       replace HS := HS.boxEq (j := 3) (cs' := [.slice A29 t71.length c30, .int .i64 t27]) rfl (by simp only [List.length_set, c73] <;> rfl)
       refine G.seq ?_
       refine G.seq ?_
       rcases ite_elim H with ⟨c82, H⟩ | ⟨c82, H⟩
       ·
        refine G.region ?_
        refine GO.move rfl rfl rfl ?_
        refine GO.lss rfl rfl rfl rfl ?_
        refine GO.move rfl rfl rfl ?_
        refine GO.known (t := 59) rfl (decide_eq_true c82) ?_
        refine GO.off rfl rfl rfl rfl rfl rfl ?_
        refine GO.off rfl rfl rfl rfl rfl rfl ?_
        refine GO.off rfl rfl rfl rfl rfl rfl ?_
        refine GO.off rfl rfl rfl rfl rfl rfl ?_
        refine GO.pickT rfl rfl rfl rfl rfl ?_
        refine GO.move rfl rfl rfl ?_
        refine GO.off rfl rfl rfl rfl rfl rfl ?_
        refine GO.off rfl rfl rfl rfl rfl rfl ?_
        refine GO.off rfl rfl rfl rfl rfl rfl ?_
        refine GO.pickT rfl rfl rfl rfl rfl ?_
        refine GO.nil ?_
        refine G.yesB rfl rfl ?_
        refine G.seq ?_
        refine G.region ?_
        refine GO.assign rfl rfl rfl ?_
        refine GO.nil ?_
        obtain rfl := Option.some.inj H
        exact G.ret1 _ Try.func5 rfl rfl ⟨rfl, (HS.pick 9 [])⟩
       ·
        obtain ⟨t83, h84, H⟩ := Option.bind_eq_some_iff.1 H
        rcases ite_elim H with ⟨c87, H⟩ | ⟨c87, H⟩
        ·
         refine G.region ?_
         refine GO.move rfl rfl rfl ?_
         refine GO.lss rfl rfl rfl rfl ?_
         refine GO.move rfl rfl rfl ?_
         refine GO.known (t := 59) rfl (decide_eq_false c82) ?_
         refine GO.on rfl rfl rfl rfl ?_
         refine GO.ldBoxA (j := 1) ([.slice A40 t36.length c41, .int .i64 t37]) HS rfl rfl rfl rfl ag28 rfl ?_
         refine GO.back ?_
         refine GO.on rfl rfl rfl rfl ?_
         refine GO.ldBoxA (j := 4) ([.slice A19 t15.length c20, .int .i64 t16]) HS rfl rfl rfl rfl ag28 rfl ?_
         refine GO.back ?_
         refine GO.on rfl rfl rfl rfl ?_
         refine GO.fn rfl Try.func16 fok16.1 fok16.2 rfl rfl (laws_eqDiagram.calls HS (RdIn.own (j := 2) rfl) (RdIn.own (j := 5) rfl) h84) (fun _ wd85 ⟨h86, HS⟩ => ⟨_, h86, ?_⟩)
         refine GO.back ?_
         refine GO.on rfl rfl rfl rfl ?_
         refine GO.not rfl rfl rfl ?_
         refine GO.back ?_
         refine GO.pickF rfl rfl rfl rfl rfl ?_
         refine GO.move rfl rfl rfl ?_
         refine GO.known (t := 65) rfl (congrArg Bool.not c87) ?_
         refine GO.on rfl rfl rfl rfl ?_
         refine GO.move rfl rfl rfl ?_
         refine GO.back ?_
         refine GO.on rfl rfl rfl rfl ?_
         refine GO.move rfl rfl rfl ?_
         refine GO.back ?_
         refine GO.on rfl rfl rfl rfl ?_
         refine GO.neq rfl rfl rfl rfl ?_
         refine GO.back ?_
         refine GO.pickF rfl rfl rfl rfl rfl ?_
         refine GO.nil ?_
         refine G.noB rfl (congrArg Bool.not (decide_eq_true c57)) ?_
         refine G.skip ?_
         refine G.seq ?_
         refine G.region ?_
         refine GO.assign rfl rfl rfl ?_
         refine GO.nil ?_
         refine G.seq ?_
         obtain ⟨t88, t89, h90, H⟩ := bind2_elim H
         obtain ⟨c91, H⟩ := ite_none H
         refine G.region ?_
         refine GO.ldBoxA (j := 1) ([.slice A40 t36.length c41, .int .i64 t37]) HS rfl rfl rfl rfl ag28 rfl ?_
         refine GO.move rfl rfl rfl ?_
         replace HS := HS.pick 9 [2, 0, 1, 3, 4, 5, 6, 7, 8]
         refine GO.fn rfl Try.func17 fok17.1 fok17.2 rfl rfl (laws_markDiagram.calls HS  h90) (fun _ wd92 ⟨h93, HS⟩ => ⟨_, h93, ?_⟩)
         refine GO.assign rfl rfl rfl ?_
         refine GO.nil ?_
         replace HS := HS.boxEq (j := 2) (cs' := [.slice A40 t89.length c41, .int .i64 t37]) rfl (by simp only [List.length_set, c91] <;> rfl)
         refine G.seq ?_
         refine G.region ?_
         refine GO.assign rfl rfl rfl ?_
         refine GO.nil ?_
         refine G.seq ?_
         obtain ⟨t94, h95, H⟩ := Option.bind_eq_some_iff.1 H
         refine G.region ?_
         refine GO.ldBoxA (j := 2) ([.slice A40 t89.length c41, .int .i64 t37]) HS rfl rfl rfl rfl ag28 rfl ?_
         refine GO.move rfl rfl rfl ?_
         refine GO.fn rfl Try.func18 fok18.1 fok18.2 rfl rfl (laws_heldDiagram.calls HS (RdIn.own (j := 0) rfl) h95) (fun _ wd96 ⟨h97, HS⟩ => ⟨_, h97, ?_⟩)
         refine GO.assign rfl rfl rfl ?_
         refine GO.nil ?_
         refine G.seq ?_
         refine G.seq ?_
         refine G.region ?_
         refine GO.move rfl rfl rfl ?_
         refine GO.lss rfl rfl rfl rfl ?_
         refine GO.nil ?_
         rcases ite_elim H with ⟨c98, H⟩ | ⟨c98, H⟩
         ·
          refine G.yesB rfl (decide_eq_true c98) ?_
          refine G.seq ?_
          refine G.region ?_
          refine GO.assign rfl rfl rfl ?_
          refine GO.nil ?_
          obtain rfl := Option.some.inj H
          exact G.ret1 _ Try.func5 rfl rfl ⟨rfl, (HS.pick 9 [])⟩
         ·
          refine G.noB rfl (decide_eq_false c98) ?_
          refine G.skip ?_
          refine G.seq ?_
          refine G.seq ?_
          refine G.region ?_
          refine GO.move rfl rfl rfl ?_
          refine GO.move rfl rfl rfl ?_
          refine GO.neq rfl rfl rfl rfl ?_
          refine GO.nil ?_
          rcases ite_elim H with ⟨c99, H⟩ | ⟨c99, H⟩
          ·
           refine G.noB rfl (congrArg Bool.not (decide_eq_true c99)) ?_
           refine G.skip ?_
           refine G.seq ?_
           obtain ⟨t100, t101, h102, H⟩ := bind2_elim H
           obtain ⟨t107, t108, t109, h110, H⟩ := bind3_elim H
           refine G.region ?_
           refine GO.ldBoxA (j := 7) ([.slice A_aD_Crossings aD_Crossings.length c_aD_Crossings, .int .i64 aD_Circles]) HS rfl rfl rfl rfl ag24 rfl ?_
           refine GO.fn rfl Try.func14 fok14.1 fok14.2 rfl rfl (laws_toDiagram.calls HS (RdIn.drop 9 h_aD_Crossings) h102) (fun _ wd105 ⟨A103, c104, h106, HS⟩ => ⟨_, h106, ?_⟩)
           refine GO.move rfl rfl rfl ?_
           refine GO.move rfl rfl rfl ?_
           refine GO.fn rfl Try.func22 fok22.1 fok22.2 rfl rfl (impl_AddBigon.calls HS (RdIn.own (j := 0) rfl) h110) (fun _ wd113 ⟨A111, c112, h114, HS⟩ => ⟨_, h114, ?_⟩)
           refine GO.move rfl rfl rfl ?_
           refine GO.extract rfl rfl rfl rfl ?_
           refine GO.extract rfl rfl rfl rfl ?_
           refine GO.alloc HS rfl zr28 rfl rfl ?_; intro b115 wd116 HS
           refine GO.stBox (j := 0) (vs := [.slice A111 t107.length c112, .int .i64 t108]) ([.slice A111 t107.length c112, .int .i64 t108]) HS rfl rfl rfl rfl rfl (htA ag28) rfl rfl rfl ?_; intro wd117 HS
           refine GO.assign rfl rfl rfl ?_
           refine GO.nil ?_
           refine G.seq ?_
           refine G.seq ?_
           obtain ⟨t123, h124, H⟩ := Option.bind_eq_some_iff.1 H
           rcases ite_elim H with ⟨c127, H⟩ | ⟨c127, H⟩
           ·
            refine G.region ?_
            refine GO.ldBoxA (j := 0) ([.slice A111 t107.length c112, .int .i64 t108]) HS rfl rfl rfl rfl ag28 rfl ?_
            refine GO.ldBoxA (j := 7) ([.slice A19 t15.length c20, .int .i64 t16]) HS rfl rfl rfl rfl ag28 rfl ?_
            refine GO.fn rfl Try.func16 fok16.1 fok16.2 rfl rfl (laws_eqDiagram.calls HS (RdIn.own (j := 1) rfl) (RdIn.own (j := 8) rfl) h124) (fun _ wd125 ⟨h126, HS⟩ => ⟨_, h126, ?_⟩)
            refine GO.not rfl rfl rfl ?_
            refine GO.move rfl rfl rfl ?_
            refine GO.known (t := 93) rfl (congrArg Bool.not c127) ?_
            refine GO.on rfl rfl rfl rfl ?_
            refine GO.move rfl rfl rfl ?_
            refine GO.back ?_
            refine GO.on rfl rfl rfl rfl ?_
            refine GO.move rfl rfl rfl ?_
            refine GO.back ?_
            refine GO.on rfl rfl rfl rfl ?_
            refine GO.neq rfl rfl rfl rfl ?_
            refine GO.back ?_
            refine GO.pickF rfl rfl rfl rfl rfl ?_
            refine GO.nil ?_
            rcases ite_elim H with ⟨c128, H⟩ | ⟨c128, H⟩
            ·
             refine G.noB rfl (congrArg Bool.not (decide_eq_true c128)) ?_
             refine G.skip ?_
             refine G.seq ?_
             refine G.region ?_
             refine GO.assign rfl rfl rfl ?_
             refine GO.nil ?_
             refine G.seq ?_
             obtain ⟨t129, h130, H⟩ := Option.bind_eq_some_iff.1 H
             refine G.region ?_
             refine GO.ldBoxA (j := 5) ([.slice A40 t89.length c41, .int .i64 t37]) HS rfl rfl rfl rfl ag28 rfl ?_
             refine GO.move rfl rfl rfl ?_
             refine GO.fn rfl Try.func18 fok18.1 fok18.2 rfl rfl (laws_heldDiagram.calls HS (RdIn.own (j := 3) rfl) h130) (fun _ wd131 ⟨h132, HS⟩ => ⟨_, h132, ?_⟩)
             refine GO.assign rfl rfl rfl ?_
             refine GO.nil ?_
             refine G.seq ?_
             refine G.seq ?_
             refine G.region ?_
             refine GO.move rfl rfl rfl ?_
             refine GO.lss rfl rfl rfl rfl ?_
             refine GO.nil ?_
             rcases ite_elim H with ⟨c133, H⟩ | ⟨c133, H⟩
             ·
              refine G.yesB rfl (decide_eq_true c133) ?_
              refine G.seq ?_
              refine G.region ?_
              refine GO.assign rfl rfl rfl ?_
              refine GO.nil ?_
              obtain rfl := Option.some.inj H
              exact G.ret1 _ Try.func5 rfl rfl ⟨rfl, (HS.pick 12 [])⟩
             ·
              refine G.noB rfl (decide_eq_false c133) ?_
              refine G.skip ?_
              refine G.seq ?_
              refine G.seq ?_
              refine G.region ?_
              refine GO.move rfl rfl rfl ?_
              refine GO.move rfl rfl rfl ?_
              refine GO.neq rfl rfl rfl rfl ?_
              refine GO.nil ?_
              rcases ite_elim H with ⟨c134, H⟩ | ⟨c134, H⟩
              ·
               refine G.noB rfl (congrArg Bool.not (decide_eq_true c134)) ?_
               refine G.skip ?_
               refine G.seq ?_
               refine G.region ?_
               refine GO.assign rfl rfl rfl ?_
               refine GO.nil ?_
               obtain rfl := Option.some.inj H
               exact G.ret1 _ Try.func5 rfl rfl ⟨rfl, (HS.pick 12 [])⟩
              ·
               refine G.yesB rfl (congrArg Bool.not (decide_eq_false c134)) ?_
               refine G.seq ?_
               refine G.region ?_
               refine GO.assign rfl rfl rfl ?_
               refine GO.nil ?_
               obtain rfl := Option.some.inj H
               exact G.ret1 _ Try.func5 rfl rfl ⟨rfl, (HS.pick 12 [])⟩
            ·
             refine G.yesB rfl (congrArg Bool.not (decide_eq_false c128)) ?_
             refine G.seq ?_
             refine G.region ?_
             refine GO.assign rfl rfl rfl ?_
             refine GO.nil ?_
             obtain rfl := Option.some.inj H
             exact G.ret1 _ Try.func5 rfl rfl ⟨rfl, (HS.pick 12 [])⟩
           ·
            refine G.region ?_
            refine GO.ldBoxA (j := 0) ([.slice A111 t107.length c112, .int .i64 t108]) HS rfl rfl rfl rfl ag28 rfl ?_
            refine GO.ldBoxA (j := 7) ([.slice A19 t15.length c20, .int .i64 t16]) HS rfl rfl rfl rfl ag28 rfl ?_
            refine GO.fn rfl Try.func16 fok16.1 fok16.2 rfl rfl (laws_eqDiagram.calls HS (RdIn.own (j := 1) rfl) (RdIn.own (j := 8) rfl) h124) (fun _ wd125 ⟨h126, HS⟩ => ⟨_, h126, ?_⟩)
            refine GO.not rfl rfl rfl ?_
            refine GO.move rfl rfl rfl ?_
            refine GO.known (t := 93) rfl (congrArg Bool.not (bnot_of c127)) ?_
            refine GO.off rfl rfl rfl rfl rfl rfl ?_
            refine GO.off rfl rfl rfl rfl rfl rfl ?_
            refine GO.off rfl rfl rfl rfl rfl rfl ?_
            refine GO.pickT rfl rfl rfl rfl rfl ?_
            refine GO.nil ?_
            refine G.yesB rfl rfl ?_
            refine G.seq ?_
            refine G.region ?_
            refine GO.assign rfl rfl rfl ?_
            refine GO.nil ?_
            obtain rfl := Option.some.inj H
            exact G.ret1 _ Try.func5 rfl rfl ⟨rfl, (HS.pick 12 [])⟩
          ·
           refine G.yesB rfl (congrArg Bool.not (decide_eq_false c99)) ?_
           refine G.seq ?_
           refine G.region ?_
           refine GO.assign rfl rfl rfl ?_
           refine GO.nil ?_
           obtain rfl := Option.some.inj H
           exact G.ret1 _ Try.func5 rfl rfl ⟨rfl, (HS.pick 9 [])⟩
        ·
         refine G.region ?_
         refine GO.move rfl rfl rfl ?_
         refine GO.lss rfl rfl rfl rfl ?_
         refine GO.move rfl rfl rfl ?_
         refine GO.known (t := 59) rfl (decide_eq_false c82) ?_
         refine GO.on rfl rfl rfl rfl ?_
         refine GO.ldBoxA (j := 1) ([.slice A40 t36.length c41, .int .i64 t37]) HS rfl rfl rfl rfl ag28 rfl ?_
         refine GO.back ?_
         refine GO.on rfl rfl rfl rfl ?_
         refine GO.ldBoxA (j := 4) ([.slice A19 t15.length c20, .int .i64 t16]) HS rfl rfl rfl rfl ag28 rfl ?_
         refine GO.back ?_
         refine GO.on rfl rfl rfl rfl ?_
         refine GO.fn rfl Try.func16 fok16.1 fok16.2 rfl rfl (laws_eqDiagram.calls HS (RdIn.own (j := 2) rfl) (RdIn.own (j := 5) rfl) h84) (fun _ wd85 ⟨h86, HS⟩ => ⟨_, h86, ?_⟩)
         refine GO.back ?_
         refine GO.on rfl rfl rfl rfl ?_
         refine GO.not rfl rfl rfl ?_
         refine GO.back ?_
         refine GO.pickF rfl rfl rfl rfl rfl ?_
         refine GO.move rfl rfl rfl ?_
         refine GO.known (t := 65) rfl (congrArg Bool.not (bnot_of c87)) ?_
         refine GO.off rfl rfl rfl rfl rfl rfl ?_
         refine GO.off rfl rfl rfl rfl rfl rfl ?_
         refine GO.off rfl rfl rfl rfl rfl rfl ?_
         refine GO.pickT rfl rfl rfl rfl rfl ?_
         refine GO.nil ?_
         refine G.yesB rfl rfl ?_
         refine G.seq ?_
         refine G.region ?_
         refine GO.assign rfl rfl rfl ?_
         refine GO.nil ?_
         obtain rfl := Option.some.inj H
         exact G.ret1 _ Try.func5 rfl rfl ⟨rfl, (HS.pick 9 [])⟩
      ·
       refine G.yesB rfl (congrArg Bool.not (bnot_of c69)) ?_
       refine G.seq ?_
       refine G.region ?_
       refine GO.assign rfl rfl rfl ?_
       refine GO.nil ?_
       obtain rfl := Option.some.inj H
       exact G.ret1 _ Try.func5 rfl rfl ⟨rfl, (HS.pick 9 [])⟩
    ·
     refine G.yesB rfl (congrArg Bool.not (decide_eq_false c57)) ?_
     refine G.seq ?_
     refine G.region ?_
     refine GO.assign rfl rfl rfl ?_
     refine GO.nil ?_
     obtain rfl := Option.some.inj H
     exact G.ret1 _ Try.func5 rfl rfl ⟨rfl, (HS.pick 8 [])⟩
   ·
    refine G.region ?_
    refine GO.ldBoxA (j := 0) ([.slice A40 t36.length c41, .int .i64 t37]) HS rfl rfl rfl rfl ag28 rfl ?_
    refine GO.ldBoxA (j := 4) ([.slice A19 t15.length c20, .int .i64 t16]) HS rfl rfl rfl rfl ag28 rfl ?_
    refine GO.fn rfl Try.func16 fok16.1 fok16.2 rfl rfl (laws_eqDiagram.calls HS (RdIn.own (j := 1) rfl) (RdIn.own (j := 5) rfl) h53) (fun _ wd54 ⟨h55, HS⟩ => ⟨_, h55, ?_⟩)
    refine GO.not rfl rfl rfl ?_
    refine GO.move rfl rfl rfl ?_
    refine GO.known (t := 44) rfl (congrArg Bool.not (bnot_of c56)) ?_
    refine GO.off rfl rfl rfl rfl rfl rfl ?_
    refine GO.off rfl rfl rfl rfl rfl rfl ?_
    refine GO.off rfl rfl rfl rfl rfl rfl ?_
    refine GO.pickT rfl rfl rfl rfl rfl ?_
    refine GO.nil ?_
    refine G.yesB rfl rfl ?_
    refine G.seq ?_
    refine G.region ?_
    refine GO.assign rfl rfl rfl ?_
    refine GO.nil ?_
    obtain rfl := Option.some.inj H
    exact G.ret1 _ Try.func5 rfl rfl ⟨rfl, (HS.pick 8 [])⟩

end Go.Proofs.Ytdafmbaeiefacaa
