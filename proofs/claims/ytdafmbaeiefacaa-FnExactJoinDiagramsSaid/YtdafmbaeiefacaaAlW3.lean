/-
  The walks through the functions: a call comes to what its list function says.
-/
import Derived.Test.YtdafmbaeiefacaaAlF
import Derived.Test.YtdafmbaeiefacaaAlW1
import Derived.Test.YtdafmbaeiefacaaAlW2
set_option linter.unusedVariables false
set_option linter.unusedSimpArgs false
namespace Go.Proofs.Ytdafmbaeiefacaa
open Go.RowKit
set_option maxRecDepth 20000 in
set_option maxHeartbeats 40000000 in
theorem impl_Diagram_set.calls {w0 w : World} {L : List HObj} {d_Crossings : List GCrossing} {d_Circles : Int} {e_crossing : Int} {e_position : Int} {arc : Int} {A_d_Crossings : Option Addr} {c_d_Crossings : Nat} {r1 : List GCrossing} (HS : St w0 w (Own T_GCrossing 58 A_d_Crossings c_d_Crossings (fun _ => ()) d_Crossings :: L)) (H : impl_Diagram_set.f d_Crossings d_Circles e_crossing e_position arc = some r1) :
    Calls Try.prog 50 #[.agg [.slice A_d_Crossings d_Crossings.length c_d_Crossings, .int .i64 d_Circles].toArray, .agg [.int .i64 e_crossing, .int .i64 e_position].toArray, .int .i64 arc] w (impl_Diagram_set.post w0 L d_Crossings d_Circles e_crossing e_position arc A_d_Crossings c_d_Crossings r1) := by
  unfold impl_Diagram_set.f at H
  refine Calls.of_G Try.func50 rfl rfl rfl ?_
  refine G.seq ?_
  refine G.region ?_
  refine GO.box (cs := [.slice A_d_Crossings d_Crossings.length c_d_Crossings, .int .i64 d_Circles]) HS rfl rfl rfl rfl ?_; intro b1 wd2 HS
  refine GO.box (cs := [.int .i64 e_crossing, .int .i64 e_position]) HS rfl rfl rfl rfl ?_; intro b3 wd4 HS
  refine GO.nil ?_
  refine G.seq ?_
  obtain ⟨c5, H⟩ := ite_none H
  obtain ⟨e6, h7, H⟩ := bnd_elim H
  refine G.region ?_
  refine GO.fld (⟨b1, 0, none⟩) rfl rfl fl28_0 rfl rfl ?_
  refine GO.ldBox (j := 1) HS rfl rfl rfl rfl na26 rfl ?_
  refine GO.fld (⟨b3, 0, none⟩) rfl rfl fl68_0 rfl rfl ?_
  refine GO.ldBox (j := 0) HS rfl rfl rfl rfl na2 rfl ?_
  refine GO.ix rfl rfl rfl Try.underlying26 sz58 ((RdIn.own (j := 2) rfl) _ HS).2.2.1 c5.1 c5.2 rfl ?_
  refine GO.ldRdA (T := T_GCrossing) (n := e_crossing.toNat) HS (RdIn.own (j := 2) rfl) rfl rfl (getD_eq (ltN c5) h7) ag58 rfl ?_
  refine GO.alloc HS rfl zr58 rfl rfl ?_; intro b8 wd9 HS
  refine GO.stBox (j := 0) (vs := [.int .i64 e6.A, .int .i64 e6.B, .int .i64 e6.C, .int .i64 e6.D, .int .i64 e6.Sign]) ([.int .i64 e6.A, .int .i64 e6.B, .int .i64 e6.C, .int .i64 e6.D, .int .i64 e6.Sign]) HS rfl rfl rfl rfl rfl (htA ag58) rfl rfl rfl ?_; intro wd10 HS
  refine GO.nil ?_
  refine G.seq ?_
  obtain ⟨t11, t12, t13, t14, h15, H⟩ := bind4_elim H
  refine G.region ?_
  refine GO.ldBoxA (j := 0) ([.int .i64 e6.A, .int .i64 e6.B, .int .i64 e6.C, .int .i64 e6.D, .int .i64 e6.Sign]) HS rfl rfl rfl rfl ag58 rfl ?_
  refine GO.fn rfl Try.func75 fok75.1 fok75.2 rfl rfl (impl_Crossing_ends.calls HS  h15) (fun _ wd16 ⟨h17, HS⟩ => ⟨_, h17, ?_⟩)
  refine GO.alloc HS rfl zr93 rfl rfl ?_; intro b18 wd19 HS
  refine GO.stBox (j := 0) (vs := [.int .i64 t11, .int .i64 t12, .int .i64 t13, .int .i64 t14]) ([.int .i64 t11, .int .i64 t12, .int .i64 t13, .int .i64 t14]) HS rfl rfl rfl rfl rfl (htA ag93) rfl rfl rfl ?_; intro wd20 HS
  refine GO.nil ?_
  refine G.seq ?_
  rcases ite_elim H with ⟨c21, H⟩ | ⟨c21, H⟩
  ·
   refine G.region ?_
   refine GO.fld (⟨b3, 1, none⟩) rfl rfl fl68_1 rfl rfl ?_
   refine GO.ldBox (j := 2) HS rfl rfl rfl rfl na2 rfl ?_
   refine GO.move rfl rfl rfl ?_
   refine GO.ixP 0 rfl rfl rfl c21 Try.underlying93 sz2 rfl rfl ?_
   refine GO.stBox (j := 0) (vs := [.int .i64 arc]) ([.int .i64 arc, .int .i64 t12, .int .i64 t13, .int .i64 t14]) HS rfl rfl rfl rfl rfl (htN na2 rfl) rfl rfl rfl ?_; intro wd22 HS
   refine GO.nil ?_
   obtain ⟨t23, t24, t25, t26, t27, h28, H⟩ := bind5_elim H
   refine G.regionAny mixed (by decide) (fun b a w => ∃ (Y1_0 : Value) (Y2_1 : Value) (Y3_2 : Value) (Y4_3 : Value) (Y5_4 : Value) (Y6_5 : Value) (Y7_6 : Value) (Y8_7 : Value) (Y9_8 : Value) (O10_1 : HObj), Sat 29 [(20, Y1_0), (21, Y2_1), (22, Y3_2), (23, Y4_3), (24, Y5_4), (25, Y6_5), (26, Y7_6), (27, Y8_7), (28, Y9_8), (3, .pointer (some ⟨b1, 0, none⟩)), (4, .pointer (some ⟨b3, 0, none⟩)), (6, .pointer (some ⟨b8, 0, none⟩)), (7, .pointer (some ⟨b18, 0, none⟩))] a ∧ St w0 w (Box b18 93 [.int .i64 arc, .int .i64 t12, .int .i64 t13, .int .i64 t14] :: Box b8 58 [.int .i64 e6.A, .int .i64 e6.B, .int .i64 e6.C, .int .i64 e6.D, .int .i64 e6.Sign] :: Box b3 68 [.int .i64 e_crossing, .int .i64 e_position] :: Box b1 28 [.slice A_d_Crossings d_Crossings.length c_d_Crossings, .int .i64 d_Circles] :: O10_1 :: L) ∧ (b 0 = true → Y1_0 = (.pointer (some ⟨b1, 0, none⟩))) ∧ (b 1 = true → Y2_1 = (.slice A_d_Crossings d_Crossings.length c_d_Crossings)) ∧ (b 2 = true → Y3_2 = (.pointer (some ⟨b3, 0, none⟩))) ∧ (b 3 = true → Y4_3 = (.int .i64 e_crossing)) ∧ (b 4 = true → Y5_4 = (.agg [.int .i64 arc, .int .i64 t12, .int .i64 t13, .int .i64 t14].toArray)) ∧ (b 5 = true → Y6_5 = (.pointer (some ⟨b8, 4, none⟩))) ∧ (b 6 = true → Y7_6 = (.int .i64 e6.Sign)) ∧ (b 7 = true → Y8_7 = (.agg [.int .i64 t23, .int .i64 t24, .int .i64 t25, .int .i64 t26, .int .i64 t27].toArray)) ∧ (b 8 = true → Y9_8 = (.pointer (some (ea A_d_Crossings (e_crossing.toNat * 5))))) ∧ (b 9 = false → O10_1 = Own T_GCrossing 58 A_d_Crossings c_d_Crossings (fun _ => ()) d_Crossings) ∧ (b 9 = true → O10_1 = Own T_GCrossing 58 A_d_Crossings c_d_Crossings (fun _ => ()) (d_Crossings.set e_crossing.toNat (⟨t23, t24, t25, t26, t27⟩ : GCrossing)))) ?_ ?_ ?_
   ·
    intro a hs
    obtain ⟨Y1_0, hs⟩ := hs.ext (d := 20) rfl
    obtain ⟨Y2_1, hs⟩ := hs.ext (d := 21) rfl
    obtain ⟨Y3_2, hs⟩ := hs.ext (d := 22) rfl
    obtain ⟨Y4_3, hs⟩ := hs.ext (d := 23) rfl
    obtain ⟨Y5_4, hs⟩ := hs.ext (d := 24) rfl
    obtain ⟨Y6_5, hs⟩ := hs.ext (d := 25) rfl
    obtain ⟨Y7_6, hs⟩ := hs.ext (d := 26) rfl
    obtain ⟨Y8_7, hs⟩ := hs.ext (d := 27) rfl
    obtain ⟨Y9_8, hs⟩ := hs.ext (d := 28) rfl
    exact ⟨Y1_0, Y2_1, Y3_2, Y4_3, Y5_4, Y6_5, Y7_6, Y8_7, Y9_8, Own T_GCrossing 58 A_d_Crossings c_d_Crossings (fun _ => ()) d_Crossings, hs.weak ⟨rfl, rfl, rfl, rfl, rfl, rfl, rfl, rfl, rfl, rfl, rfl, rfl, rfl, trivial⟩, (HS.drew.pk 5 [0, 1, 2, 3, 4] rfl), fun h => Bool.noConfusion h, fun h => Bool.noConfusion h, fun h => Bool.noConfusion h, fun h => Bool.noConfusion h, fun h => Bool.noConfusion h, fun h => Bool.noConfusion h, fun h => Bool.noConfusion h, fun h => Bool.noConfusion h, fun h => Bool.noConfusion h, fun _ => rfl, fun h => Bool.noConfusion h⟩
   ·
    intro j hj b a w
    refine exI fun Y1_0 => exI fun Y2_1 => exI fun Y3_2 => exI fun Y4_3 => exI fun Y5_4 => exI fun Y6_5 => exI fun Y7_6 => exI fun Y8_7 => exI fun Y9_8 => exI fun O10_1 => anI fun hs => anI fun HS => anI fun f0 => anI fun f1 => anI fun f2 => anI fun f3 => anI fun f4 => anI fun f5 => anI fun f6 => anI fun f7 => anI fun f8 => anI fun o1_0 => fun o1_1 hb hd hcl => ?_
    match j, hj with
    | 0, _ =>
     refine GO.at hs ?_
     refine GO.fld (⟨b1, 0, none⟩) rfl rfl fl28_0 rfl rfl ?_
     refine GO.fin (fun a hs => ?_)
     exact ⟨(.pointer (some ⟨b1, 0, none⟩)), _, _, _, _, _, _, _, _, _, by exact hs.setAt 0 rfl, HS, fun _ => rfl, f1, f2, f3, f4, f5, f6, f7, f8, o1_0, o1_1⟩
    | 1, _ =>
     have hb0 : b 0 = true := hd 0 (by decide)
     obtain rfl := f0 hb0
     refine GO.at hs ?_
     refine GO.ldBox (j := 3) HS rfl rfl rfl rfl na26 rfl ?_
     refine GO.fin (fun a hs => ?_)
     exact ⟨_, (.slice A_d_Crossings d_Crossings.length c_d_Crossings), _, _, _, _, _, _, _, _, by exact hs.setAt 1 rfl, HS, f0, fun _ => rfl, f2, f3, f4, f5, f6, f7, f8, o1_0, o1_1⟩
    | 2, _ =>
     refine GO.at hs ?_
     refine GO.fld (⟨b3, 0, none⟩) rfl rfl fl68_0 rfl rfl ?_
     refine GO.fin (fun a hs => ?_)
     exact ⟨_, _, (.pointer (some ⟨b3, 0, none⟩)), _, _, _, _, _, _, _, by exact hs.setAt 2 rfl, HS, f0, f1, fun _ => rfl, f3, f4, f5, f6, f7, f8, o1_0, o1_1⟩
    | 3, _ =>
     have hb2 : b 2 = true := hd 2 (by decide)
     obtain rfl := f2 hb2
     refine GO.at hs ?_
     refine GO.ldBox (j := 2) HS rfl rfl rfl rfl na2 rfl ?_
     refine GO.fin (fun a hs => ?_)
     exact ⟨_, _, _, (.int .i64 e_crossing), _, _, _, _, _, _, by exact hs.setAt 3 rfl, HS, f0, f1, f2, fun _ => rfl, f4, f5, f6, f7, f8, o1_0, o1_1⟩
    | 4, _ =>
     refine GO.at hs ?_
     refine GO.ldBoxA (j := 0) ([.int .i64 arc, .int .i64 t12, .int .i64 t13, .int .i64 t14]) HS rfl rfl rfl rfl ag93 rfl ?_
     refine GO.fin (fun a hs => ?_)
     exact ⟨_, _, _, _, (.agg [.int .i64 arc, .int .i64 t12, .int .i64 t13, .int .i64 t14].toArray), _, _, _, _, _, by exact hs.setAt 4 rfl, HS, f0, f1, f2, f3, fun _ => rfl, f5, f6, f7, f8, o1_0, o1_1⟩
    | 5, _ =>
     refine GO.at hs ?_
     refine GO.fld (⟨b8, 4, none⟩) rfl rfl fl58_4 rfl rfl ?_
     refine GO.fin (fun a hs => ?_)
     exact ⟨_, _, _, _, _, (.pointer (some ⟨b8, 4, none⟩)), _, _, _, _, by exact hs.setAt 5 rfl, HS, f0, f1, f2, f3, f4, fun _ => rfl, f6, f7, f8, o1_0, o1_1⟩
    | 6, _ =>
     have hb5 : b 5 = true := hd 5 (by decide)
     obtain rfl := f5 hb5
     refine GO.at hs ?_
     refine GO.ldBox (j := 1) HS rfl rfl rfl rfl na2 rfl ?_
     refine GO.fin (fun a hs => ?_)
     exact ⟨_, _, _, _, _, _, (.int .i64 e6.Sign), _, _, _, by exact hs.setAt 6 rfl, HS, f0, f1, f2, f3, f4, f5, fun _ => rfl, f7, f8, o1_0, o1_1⟩
    | 7, _ =>
     have hb4 : b 4 = true := hd 4 (by decide)
     obtain rfl := f4 hb4
     have hb6 : b 6 = true := hd 6 (by decide)
     obtain rfl := f6 hb6
     refine GO.at hs ?_
     refine GO.fn rfl Try.func113 fok113.1 fok113.2 rfl rfl (impl_crossingOf.calls HS  h28) (fun _ wd29 ⟨h30, HS⟩ => ⟨_, h30, ?_⟩)
     refine GO.fin (fun a hs => ?_)
     exact ⟨_, _, _, _, _, _, _, (.agg [.int .i64 t23, .int .i64 t24, .int .i64 t25, .int .i64 t26, .int .i64 t27].toArray), _, _, by exact hs.setAt 7 rfl, HS, f0, f1, f2, f3, f4, f5, f6, fun _ => rfl, f8, o1_0, o1_1⟩
    | 8, _ =>
     have hb1 : b 1 = true := hd 1 (by decide)
     obtain rfl := f1 hb1
     have hb3 : b 3 = true := hd 3 (by decide)
     obtain rfl := f3 hb3
     have d9 : b 9 = false := bfalse (fun hh => hcl 9 (by decide) (hh) 8 (by decide)) hb
     obtain rfl := o1_0 d9
     refine GO.at hs ?_
     refine GO.ix rfl rfl rfl Try.underlying26 sz58 ((RdIn.own (j := 4) rfl) _ HS).2.2.1 c5.1 c5.2 rfl ?_
     refine GO.fin (fun a hs => ?_)
     exact ⟨_, _, _, _, _, _, _, _, (.pointer (some (ea A_d_Crossings (e_crossing.toNat * 5)))), _, by exact hs.setAt 8 rfl, HS, f0, f1, f2, f3, f4, f5, f6, f7, fun _ => rfl, o1_0, o1_1⟩
    | 9, _ =>
     have hb7 : b 7 = true := hd 7 (by decide)
     obtain rfl := f7 hb7
     have hb8 : b 8 = true := hd 8 (by decide)
     obtain rfl := f8 hb8
     obtain rfl := o1_0 hb
     refine GO.at hs ?_
     refine GO.stRow (T := T_GCrossing) (j := 4) (n := e_crossing.toNat) (o := 0) (vs := [.int .i64 t23, .int .i64 t24, .int .i64 t25, .int .i64 t26, .int .i64 t27]) (⟨t23, t24, t25, t26, t27⟩ : GCrossing) HS rfl flat_flat rfl rfl rfl rfl (htA ag58) rfl (getD_some (d := z_GCrossing) (ltN c5)) rfl rfl ?_; intro wd31 HS
     refine GO.fin (fun a hs => ?_)
     exact ⟨_, _, _, _, _, _, _, _, _, Own T_GCrossing 58 A_d_Crossings c_d_Crossings (fun _ => ()) (d_Crossings.set e_crossing.toNat (⟨t23, t24, t25, t26, t27⟩ : GCrossing)), hs, HS, f0, f1, f2, f3, f4, f5, f6, f7, f8, fun h => Bool.noConfusion h, fun _ => rfl⟩
    | k + 10, hj => exact absurd hj (Nat.not_lt.2 (Nat.le_add_left 10 k))
   ·
    intro b a w hall
    refine exI fun Y1_0 => exI fun Y2_1 => exI fun Y3_2 => exI fun Y4_3 => exI fun Y5_4 => exI fun Y6_5 => exI fun Y7_6 => exI fun Y8_7 => exI fun Y9_8 => exI fun O10_1 => anI fun hs => anI fun HS => anI fun f0 => anI fun f1 => anI fun f2 => anI fun f3 => anI fun f4 => anI fun f5 => anI fun f6 => anI fun f7 => anI fun f8 => anI fun o1_0 => fun o1_1 => ?_
    obtain rfl := f0 (hall 0 (by decide))
    obtain rfl := f1 (hall 1 (by decide))
    obtain rfl := f2 (hall 2 (by decide))
    obtain rfl := f3 (hall 3 (by decide))
    obtain rfl := f4 (hall 4 (by decide))
    obtain rfl := f5 (hall 5 (by decide))
    obtain rfl := f6 (hall 6 (by decide))
    obtain rfl := f7 (hall 7 (by decide))
    obtain rfl := f8 (hall 8 (by decide))
    obtain rfl := o1_1 (hall 9 (by decide))
    refine G.at hs ?_
    replace HS := HS.boxEq (j := 3) (cs' := [.slice A_d_Crossings (d_Crossings.set e_crossing.toNat (⟨t23, t24, t25, t26, t27⟩ : GCrossing)).length c_d_Crossings, .int .i64 d_Circles]) rfl (by simp only [List.length_set] <;> rfl)
    obtain rfl := Option.some.inj H
    exact G.end0 Try.func50 rfl ⟨rfl, (HS.pk 5 [4] rfl)⟩
  ·
   rcases ite_elim H with ⟨c32, H⟩ | ⟨c32, H⟩
   ·
    refine G.region ?_
    refine GO.fld (⟨b3, 1, none⟩) rfl rfl fl68_1 rfl rfl ?_
    refine GO.ldBox (j := 2) HS rfl rfl rfl rfl na2 rfl ?_
    refine GO.move rfl rfl rfl ?_
    refine GO.ixP 1 rfl rfl rfl c32 Try.underlying93 sz2 rfl rfl ?_
    refine GO.stBox (j := 0) (vs := [.int .i64 arc]) ([.int .i64 t11, .int .i64 arc, .int .i64 t13, .int .i64 t14]) HS rfl rfl rfl rfl rfl (htN na2 rfl) rfl rfl rfl ?_; intro wd33 HS
    refine GO.nil ?_
    obtain ⟨t34, t35, t36, t37, t38, h39, H⟩ := bind5_elim H
    refine G.regionAny mixed (by decide) (fun b a w => ∃ (Y11_0 : Value) (Y12_1 : Value) (Y13_2 : Value) (Y14_3 : Value) (Y15_4 : Value) (Y16_5 : Value) (Y17_6 : Value) (Y18_7 : Value) (Y19_8 : Value) (O20_1 : HObj), Sat 29 [(20, Y11_0), (21, Y12_1), (22, Y13_2), (23, Y14_3), (24, Y15_4), (25, Y16_5), (26, Y17_6), (27, Y18_7), (28, Y19_8), (3, .pointer (some ⟨b1, 0, none⟩)), (4, .pointer (some ⟨b3, 0, none⟩)), (6, .pointer (some ⟨b8, 0, none⟩)), (7, .pointer (some ⟨b18, 0, none⟩))] a ∧ St w0 w (Box b18 93 [.int .i64 t11, .int .i64 arc, .int .i64 t13, .int .i64 t14] :: Box b8 58 [.int .i64 e6.A, .int .i64 e6.B, .int .i64 e6.C, .int .i64 e6.D, .int .i64 e6.Sign] :: Box b3 68 [.int .i64 e_crossing, .int .i64 e_position] :: Box b1 28 [.slice A_d_Crossings d_Crossings.length c_d_Crossings, .int .i64 d_Circles] :: O20_1 :: L) ∧ (b 0 = true → Y11_0 = (.pointer (some ⟨b1, 0, none⟩))) ∧ (b 1 = true → Y12_1 = (.slice A_d_Crossings d_Crossings.length c_d_Crossings)) ∧ (b 2 = true → Y13_2 = (.pointer (some ⟨b3, 0, none⟩))) ∧ (b 3 = true → Y14_3 = (.int .i64 e_crossing)) ∧ (b 4 = true → Y15_4 = (.agg [.int .i64 t11, .int .i64 arc, .int .i64 t13, .int .i64 t14].toArray)) ∧ (b 5 = true → Y16_5 = (.pointer (some ⟨b8, 4, none⟩))) ∧ (b 6 = true → Y17_6 = (.int .i64 e6.Sign)) ∧ (b 7 = true → Y18_7 = (.agg [.int .i64 t34, .int .i64 t35, .int .i64 t36, .int .i64 t37, .int .i64 t38].toArray)) ∧ (b 8 = true → Y19_8 = (.pointer (some (ea A_d_Crossings (e_crossing.toNat * 5))))) ∧ (b 9 = false → O20_1 = Own T_GCrossing 58 A_d_Crossings c_d_Crossings (fun _ => ()) d_Crossings) ∧ (b 9 = true → O20_1 = Own T_GCrossing 58 A_d_Crossings c_d_Crossings (fun _ => ()) (d_Crossings.set e_crossing.toNat (⟨t34, t35, t36, t37, t38⟩ : GCrossing)))) ?_ ?_ ?_
    ·
     intro a hs
     obtain ⟨Y11_0, hs⟩ := hs.ext (d := 20) rfl
     obtain ⟨Y12_1, hs⟩ := hs.ext (d := 21) rfl
     obtain ⟨Y13_2, hs⟩ := hs.ext (d := 22) rfl
     obtain ⟨Y14_3, hs⟩ := hs.ext (d := 23) rfl
     obtain ⟨Y15_4, hs⟩ := hs.ext (d := 24) rfl
     obtain ⟨Y16_5, hs⟩ := hs.ext (d := 25) rfl
     obtain ⟨Y17_6, hs⟩ := hs.ext (d := 26) rfl
     obtain ⟨Y18_7, hs⟩ := hs.ext (d := 27) rfl
     obtain ⟨Y19_8, hs⟩ := hs.ext (d := 28) rfl
     exact ⟨Y11_0, Y12_1, Y13_2, Y14_3, Y15_4, Y16_5, Y17_6, Y18_7, Y19_8, Own T_GCrossing 58 A_d_Crossings c_d_Crossings (fun _ => ()) d_Crossings, hs.weak ⟨rfl, rfl, rfl, rfl, rfl, rfl, rfl, rfl, rfl, rfl, rfl, rfl, rfl, trivial⟩, (HS.drew.pk 5 [0, 1, 2, 3, 4] rfl), fun h => Bool.noConfusion h, fun h => Bool.noConfusion h, fun h => Bool.noConfusion h, fun h => Bool.noConfusion h, fun h => Bool.noConfusion h, fun h => Bool.noConfusion h, fun h => Bool.noConfusion h, fun h => Bool.noConfusion h, fun h => Bool.noConfusion h, fun _ => rfl, fun h => Bool.noConfusion h⟩
    ·
     intro j hj b a w
     refine exI fun Y11_0 => exI fun Y12_1 => exI fun Y13_2 => exI fun Y14_3 => exI fun Y15_4 => exI fun Y16_5 => exI fun Y17_6 => exI fun Y18_7 => exI fun Y19_8 => exI fun O20_1 => anI fun hs => anI fun HS => anI fun f0 => anI fun f1 => anI fun f2 => anI fun f3 => anI fun f4 => anI fun f5 => anI fun f6 => anI fun f7 => anI fun f8 => anI fun o1_0 => fun o1_1 hb hd hcl => ?_
     match j, hj with
     | 0, _ =>
      refine GO.at hs ?_
      refine GO.fld (⟨b1, 0, none⟩) rfl rfl fl28_0 rfl rfl ?_
      refine GO.fin (fun a hs => ?_)
      exact ⟨(.pointer (some ⟨b1, 0, none⟩)), _, _, _, _, _, _, _, _, _, by exact hs.setAt 0 rfl, HS, fun _ => rfl, f1, f2, f3, f4, f5, f6, f7, f8, o1_0, o1_1⟩
     | 1, _ =>
      have hb0 : b 0 = true := hd 0 (by decide)
      obtain rfl := f0 hb0
      refine GO.at hs ?_
      refine GO.ldBox (j := 3) HS rfl rfl rfl rfl na26 rfl ?_
      refine GO.fin (fun a hs => ?_)
      exact ⟨_, (.slice A_d_Crossings d_Crossings.length c_d_Crossings), _, _, _, _, _, _, _, _, by exact hs.setAt 1 rfl, HS, f0, fun _ => rfl, f2, f3, f4, f5, f6, f7, f8, o1_0, o1_1⟩
     | 2, _ =>
      refine GO.at hs ?_
      refine GO.fld (⟨b3, 0, none⟩) rfl rfl fl68_0 rfl rfl ?_
      refine GO.fin (fun a hs => ?_)
      exact ⟨_, _, (.pointer (some ⟨b3, 0, none⟩)), _, _, _, _, _, _, _, by exact hs.setAt 2 rfl, HS, f0, f1, fun _ => rfl, f3, f4, f5, f6, f7, f8, o1_0, o1_1⟩
     | 3, _ =>
      have hb2 : b 2 = true := hd 2 (by decide)
      obtain rfl := f2 hb2
      refine GO.at hs ?_
      refine GO.ldBox (j := 2) HS rfl rfl rfl rfl na2 rfl ?_
      refine GO.fin (fun a hs => ?_)
      exact ⟨_, _, _, (.int .i64 e_crossing), _, _, _, _, _, _, by exact hs.setAt 3 rfl, HS, f0, f1, f2, fun _ => rfl, f4, f5, f6, f7, f8, o1_0, o1_1⟩
     | 4, _ =>
      refine GO.at hs ?_
      refine GO.ldBoxA (j := 0) ([.int .i64 t11, .int .i64 arc, .int .i64 t13, .int .i64 t14]) HS rfl rfl rfl rfl ag93 rfl ?_
      refine GO.fin (fun a hs => ?_)
      exact ⟨_, _, _, _, (.agg [.int .i64 t11, .int .i64 arc, .int .i64 t13, .int .i64 t14].toArray), _, _, _, _, _, by exact hs.setAt 4 rfl, HS, f0, f1, f2, f3, fun _ => rfl, f5, f6, f7, f8, o1_0, o1_1⟩
     | 5, _ =>
      refine GO.at hs ?_
      refine GO.fld (⟨b8, 4, none⟩) rfl rfl fl58_4 rfl rfl ?_
      refine GO.fin (fun a hs => ?_)
      exact ⟨_, _, _, _, _, (.pointer (some ⟨b8, 4, none⟩)), _, _, _, _, by exact hs.setAt 5 rfl, HS, f0, f1, f2, f3, f4, fun _ => rfl, f6, f7, f8, o1_0, o1_1⟩
     | 6, _ =>
      have hb5 : b 5 = true := hd 5 (by decide)
      obtain rfl := f5 hb5
      refine GO.at hs ?_
      refine GO.ldBox (j := 1) HS rfl rfl rfl rfl na2 rfl ?_
      refine GO.fin (fun a hs => ?_)
      exact ⟨_, _, _, _, _, _, (.int .i64 e6.Sign), _, _, _, by exact hs.setAt 6 rfl, HS, f0, f1, f2, f3, f4, f5, fun _ => rfl, f7, f8, o1_0, o1_1⟩
     | 7, _ =>
      have hb4 : b 4 = true := hd 4 (by decide)
      obtain rfl := f4 hb4
      have hb6 : b 6 = true := hd 6 (by decide)
      obtain rfl := f6 hb6
      refine GO.at hs ?_
      refine GO.fn rfl Try.func113 fok113.1 fok113.2 rfl rfl (impl_crossingOf.calls HS  h39) (fun _ wd40 ⟨h41, HS⟩ => ⟨_, h41, ?_⟩)
      refine GO.fin (fun a hs => ?_)
      exact ⟨_, _, _, _, _, _, _, (.agg [.int .i64 t34, .int .i64 t35, .int .i64 t36, .int .i64 t37, .int .i64 t38].toArray), _, _, by exact hs.setAt 7 rfl, HS, f0, f1, f2, f3, f4, f5, f6, fun _ => rfl, f8, o1_0, o1_1⟩
     | 8, _ =>
      have hb1 : b 1 = true := hd 1 (by decide)
      obtain rfl := f1 hb1
      have hb3 : b 3 = true := hd 3 (by decide)
      obtain rfl := f3 hb3
      have d9 : b 9 = false := bfalse (fun hh => hcl 9 (by decide) (hh) 8 (by decide)) hb
      obtain rfl := o1_0 d9
      refine GO.at hs ?_
      refine GO.ix rfl rfl rfl Try.underlying26 sz58 ((RdIn.own (j := 4) rfl) _ HS).2.2.1 c5.1 c5.2 rfl ?_
      refine GO.fin (fun a hs => ?_)
      exact ⟨_, _, _, _, _, _, _, _, (.pointer (some (ea A_d_Crossings (e_crossing.toNat * 5)))), _, by exact hs.setAt 8 rfl, HS, f0, f1, f2, f3, f4, f5, f6, f7, fun _ => rfl, o1_0, o1_1⟩
     | 9, _ =>
      have hb7 : b 7 = true := hd 7 (by decide)
      obtain rfl := f7 hb7
      have hb8 : b 8 = true := hd 8 (by decide)
      obtain rfl := f8 hb8
      obtain rfl := o1_0 hb
      refine GO.at hs ?_
      refine GO.stRow (T := T_GCrossing) (j := 4) (n := e_crossing.toNat) (o := 0) (vs := [.int .i64 t34, .int .i64 t35, .int .i64 t36, .int .i64 t37, .int .i64 t38]) (⟨t34, t35, t36, t37, t38⟩ : GCrossing) HS rfl flat_flat rfl rfl rfl rfl (htA ag58) rfl (getD_some (d := z_GCrossing) (ltN c5)) rfl rfl ?_; intro wd42 HS
      refine GO.fin (fun a hs => ?_)
      exact ⟨_, _, _, _, _, _, _, _, _, Own T_GCrossing 58 A_d_Crossings c_d_Crossings (fun _ => ()) (d_Crossings.set e_crossing.toNat (⟨t34, t35, t36, t37, t38⟩ : GCrossing)), hs, HS, f0, f1, f2, f3, f4, f5, f6, f7, f8, fun h => Bool.noConfusion h, fun _ => rfl⟩
     | k + 10, hj => exact absurd hj (Nat.not_lt.2 (Nat.le_add_left 10 k))
    ·
     intro b a w hall
     refine exI fun Y11_0 => exI fun Y12_1 => exI fun Y13_2 => exI fun Y14_3 => exI fun Y15_4 => exI fun Y16_5 => exI fun Y17_6 => exI fun Y18_7 => exI fun Y19_8 => exI fun O20_1 => anI fun hs => anI fun HS => anI fun f0 => anI fun f1 => anI fun f2 => anI fun f3 => anI fun f4 => anI fun f5 => anI fun f6 => anI fun f7 => anI fun f8 => anI fun o1_0 => fun o1_1 => ?_
     obtain rfl := f0 (hall 0 (by decide))
     obtain rfl := f1 (hall 1 (by decide))
     obtain rfl := f2 (hall 2 (by decide))
     obtain rfl := f3 (hall 3 (by decide))
     obtain rfl := f4 (hall 4 (by decide))
     obtain rfl := f5 (hall 5 (by decide))
     obtain rfl := f6 (hall 6 (by decide))
     obtain rfl := f7 (hall 7 (by decide))
     obtain rfl := f8 (hall 8 (by decide))
     obtain rfl := o1_1 (hall 9 (by decide))
     refine G.at hs ?_
     replace HS := HS.boxEq (j := 3) (cs' := [.slice A_d_Crossings (d_Crossings.set e_crossing.toNat (⟨t34, t35, t36, t37, t38⟩ : GCrossing)).length c_d_Crossings, .int .i64 d_Circles]) rfl (by simp only [List.length_set] <;> rfl)
     obtain rfl := Option.some.inj H
     exact G.end0 Try.func50 rfl ⟨rfl, (HS.pk 5 [4] rfl)⟩
   ·
    rcases ite_elim H with ⟨c43, H⟩ | ⟨c43, H⟩
    ·
     refine G.region ?_
     refine GO.fld (⟨b3, 1, none⟩) rfl rfl fl68_1 rfl rfl ?_
     refine GO.ldBox (j := 2) HS rfl rfl rfl rfl na2 rfl ?_
     refine GO.move rfl rfl rfl ?_
     refine GO.ixP 2 rfl rfl rfl c43 Try.underlying93 sz2 rfl rfl ?_
     refine GO.stBox (j := 0) (vs := [.int .i64 arc]) ([.int .i64 t11, .int .i64 t12, .int .i64 arc, .int .i64 t14]) HS rfl rfl rfl rfl rfl (htN na2 rfl) rfl rfl rfl ?_; intro wd44 HS
     refine GO.nil ?_
     obtain ⟨t45, t46, t47, t48, t49, h50, H⟩ := bind5_elim H
     refine G.regionAny mixed (by decide) (fun b a w => ∃ (Y21_0 : Value) (Y22_1 : Value) (Y23_2 : Value) (Y24_3 : Value) (Y25_4 : Value) (Y26_5 : Value) (Y27_6 : Value) (Y28_7 : Value) (Y29_8 : Value) (O30_1 : HObj), Sat 29 [(20, Y21_0), (21, Y22_1), (22, Y23_2), (23, Y24_3), (24, Y25_4), (25, Y26_5), (26, Y27_6), (27, Y28_7), (28, Y29_8), (3, .pointer (some ⟨b1, 0, none⟩)), (4, .pointer (some ⟨b3, 0, none⟩)), (6, .pointer (some ⟨b8, 0, none⟩)), (7, .pointer (some ⟨b18, 0, none⟩))] a ∧ St w0 w (Box b18 93 [.int .i64 t11, .int .i64 t12, .int .i64 arc, .int .i64 t14] :: Box b8 58 [.int .i64 e6.A, .int .i64 e6.B, .int .i64 e6.C, .int .i64 e6.D, .int .i64 e6.Sign] :: Box b3 68 [.int .i64 e_crossing, .int .i64 e_position] :: Box b1 28 [.slice A_d_Crossings d_Crossings.length c_d_Crossings, .int .i64 d_Circles] :: O30_1 :: L) ∧ (b 0 = true → Y21_0 = (.pointer (some ⟨b1, 0, none⟩))) ∧ (b 1 = true → Y22_1 = (.slice A_d_Crossings d_Crossings.length c_d_Crossings)) ∧ (b 2 = true → Y23_2 = (.pointer (some ⟨b3, 0, none⟩))) ∧ (b 3 = true → Y24_3 = (.int .i64 e_crossing)) ∧ (b 4 = true → Y25_4 = (.agg [.int .i64 t11, .int .i64 t12, .int .i64 arc, .int .i64 t14].toArray)) ∧ (b 5 = true → Y26_5 = (.pointer (some ⟨b8, 4, none⟩))) ∧ (b 6 = true → Y27_6 = (.int .i64 e6.Sign)) ∧ (b 7 = true → Y28_7 = (.agg [.int .i64 t45, .int .i64 t46, .int .i64 t47, .int .i64 t48, .int .i64 t49].toArray)) ∧ (b 8 = true → Y29_8 = (.pointer (some (ea A_d_Crossings (e_crossing.toNat * 5))))) ∧ (b 9 = false → O30_1 = Own T_GCrossing 58 A_d_Crossings c_d_Crossings (fun _ => ()) d_Crossings) ∧ (b 9 = true → O30_1 = Own T_GCrossing 58 A_d_Crossings c_d_Crossings (fun _ => ()) (d_Crossings.set e_crossing.toNat (⟨t45, t46, t47, t48, t49⟩ : GCrossing)))) ?_ ?_ ?_
     ·
      intro a hs
      obtain ⟨Y21_0, hs⟩ := hs.ext (d := 20) rfl
      obtain ⟨Y22_1, hs⟩ := hs.ext (d := 21) rfl
      obtain ⟨Y23_2, hs⟩ := hs.ext (d := 22) rfl
      obtain ⟨Y24_3, hs⟩ := hs.ext (d := 23) rfl
      obtain ⟨Y25_4, hs⟩ := hs.ext (d := 24) rfl
      obtain ⟨Y26_5, hs⟩ := hs.ext (d := 25) rfl
      obtain ⟨Y27_6, hs⟩ := hs.ext (d := 26) rfl
      obtain ⟨Y28_7, hs⟩ := hs.ext (d := 27) rfl
      obtain ⟨Y29_8, hs⟩ := hs.ext (d := 28) rfl
      exact ⟨Y21_0, Y22_1, Y23_2, Y24_3, Y25_4, Y26_5, Y27_6, Y28_7, Y29_8, Own T_GCrossing 58 A_d_Crossings c_d_Crossings (fun _ => ()) d_Crossings, hs.weak ⟨rfl, rfl, rfl, rfl, rfl, rfl, rfl, rfl, rfl, rfl, rfl, rfl, rfl, trivial⟩, (HS.drew.pk 5 [0, 1, 2, 3, 4] rfl), fun h => Bool.noConfusion h, fun h => Bool.noConfusion h, fun h => Bool.noConfusion h, fun h => Bool.noConfusion h, fun h => Bool.noConfusion h, fun h => Bool.noConfusion h, fun h => Bool.noConfusion h, fun h => Bool.noConfusion h, fun h => Bool.noConfusion h, fun _ => rfl, fun h => Bool.noConfusion h⟩
     ·
      intro j hj b a w
      refine exI fun Y21_0 => exI fun Y22_1 => exI fun Y23_2 => exI fun Y24_3 => exI fun Y25_4 => exI fun Y26_5 => exI fun Y27_6 => exI fun Y28_7 => exI fun Y29_8 => exI fun O30_1 => anI fun hs => anI fun HS => anI fun f0 => anI fun f1 => anI fun f2 => anI fun f3 => anI fun f4 => anI fun f5 => anI fun f6 => anI fun f7 => anI fun f8 => anI fun o1_0 => fun o1_1 hb hd hcl => ?_
      match j, hj with
      | 0, _ =>
       refine GO.at hs ?_
       refine GO.fld (⟨b1, 0, none⟩) rfl rfl fl28_0 rfl rfl ?_
       refine GO.fin (fun a hs => ?_)
       exact ⟨(.pointer (some ⟨b1, 0, none⟩)), _, _, _, _, _, _, _, _, _, by exact hs.setAt 0 rfl, HS, fun _ => rfl, f1, f2, f3, f4, f5, f6, f7, f8, o1_0, o1_1⟩
      | 1, _ =>
       have hb0 : b 0 = true := hd 0 (by decide)
       obtain rfl := f0 hb0
       refine GO.at hs ?_
       refine GO.ldBox (j := 3) HS rfl rfl rfl rfl na26 rfl ?_
       refine GO.fin (fun a hs => ?_)
       exact ⟨_, (.slice A_d_Crossings d_Crossings.length c_d_Crossings), _, _, _, _, _, _, _, _, by exact hs.setAt 1 rfl, HS, f0, fun _ => rfl, f2, f3, f4, f5, f6, f7, f8, o1_0, o1_1⟩
      | 2, _ =>
       refine GO.at hs ?_
       refine GO.fld (⟨b3, 0, none⟩) rfl rfl fl68_0 rfl rfl ?_
       refine GO.fin (fun a hs => ?_)
       exact ⟨_, _, (.pointer (some ⟨b3, 0, none⟩)), _, _, _, _, _, _, _, by exact hs.setAt 2 rfl, HS, f0, f1, fun _ => rfl, f3, f4, f5, f6, f7, f8, o1_0, o1_1⟩
      | 3, _ =>
       have hb2 : b 2 = true := hd 2 (by decide)
       obtain rfl := f2 hb2
       refine GO.at hs ?_
       refine GO.ldBox (j := 2) HS rfl rfl rfl rfl na2 rfl ?_
       refine GO.fin (fun a hs => ?_)
       exact ⟨_, _, _, (.int .i64 e_crossing), _, _, _, _, _, _, by exact hs.setAt 3 rfl, HS, f0, f1, f2, fun _ => rfl, f4, f5, f6, f7, f8, o1_0, o1_1⟩
      | 4, _ =>
       refine GO.at hs ?_
       refine GO.ldBoxA (j := 0) ([.int .i64 t11, .int .i64 t12, .int .i64 arc, .int .i64 t14]) HS rfl rfl rfl rfl ag93 rfl ?_
       refine GO.fin (fun a hs => ?_)
       exact ⟨_, _, _, _, (.agg [.int .i64 t11, .int .i64 t12, .int .i64 arc, .int .i64 t14].toArray), _, _, _, _, _, by exact hs.setAt 4 rfl, HS, f0, f1, f2, f3, fun _ => rfl, f5, f6, f7, f8, o1_0, o1_1⟩
      | 5, _ =>
       refine GO.at hs ?_
       refine GO.fld (⟨b8, 4, none⟩) rfl rfl fl58_4 rfl rfl ?_
       refine GO.fin (fun a hs => ?_)
       exact ⟨_, _, _, _, _, (.pointer (some ⟨b8, 4, none⟩)), _, _, _, _, by exact hs.setAt 5 rfl, HS, f0, f1, f2, f3, f4, fun _ => rfl, f6, f7, f8, o1_0, o1_1⟩
      | 6, _ =>
       have hb5 : b 5 = true := hd 5 (by decide)
       obtain rfl := f5 hb5
       refine GO.at hs ?_
       refine GO.ldBox (j := 1) HS rfl rfl rfl rfl na2 rfl ?_
       refine GO.fin (fun a hs => ?_)
       exact ⟨_, _, _, _, _, _, (.int .i64 e6.Sign), _, _, _, by exact hs.setAt 6 rfl, HS, f0, f1, f2, f3, f4, f5, fun _ => rfl, f7, f8, o1_0, o1_1⟩
      | 7, _ =>
       have hb4 : b 4 = true := hd 4 (by decide)
       obtain rfl := f4 hb4
       have hb6 : b 6 = true := hd 6 (by decide)
       obtain rfl := f6 hb6
       refine GO.at hs ?_
       refine GO.fn rfl Try.func113 fok113.1 fok113.2 rfl rfl (impl_crossingOf.calls HS  h50) (fun _ wd51 ⟨h52, HS⟩ => ⟨_, h52, ?_⟩)
       refine GO.fin (fun a hs => ?_)
       exact ⟨_, _, _, _, _, _, _, (.agg [.int .i64 t45, .int .i64 t46, .int .i64 t47, .int .i64 t48, .int .i64 t49].toArray), _, _, by exact hs.setAt 7 rfl, HS, f0, f1, f2, f3, f4, f5, f6, fun _ => rfl, f8, o1_0, o1_1⟩
      | 8, _ =>
       have hb1 : b 1 = true := hd 1 (by decide)
       obtain rfl := f1 hb1
       have hb3 : b 3 = true := hd 3 (by decide)
       obtain rfl := f3 hb3
       have d9 : b 9 = false := bfalse (fun hh => hcl 9 (by decide) (hh) 8 (by decide)) hb
       obtain rfl := o1_0 d9
       refine GO.at hs ?_
       refine GO.ix rfl rfl rfl Try.underlying26 sz58 ((RdIn.own (j := 4) rfl) _ HS).2.2.1 c5.1 c5.2 rfl ?_
       refine GO.fin (fun a hs => ?_)
       exact ⟨_, _, _, _, _, _, _, _, (.pointer (some (ea A_d_Crossings (e_crossing.toNat * 5)))), _, by exact hs.setAt 8 rfl, HS, f0, f1, f2, f3, f4, f5, f6, f7, fun _ => rfl, o1_0, o1_1⟩
      | 9, _ =>
       have hb7 : b 7 = true := hd 7 (by decide)
       obtain rfl := f7 hb7
       have hb8 : b 8 = true := hd 8 (by decide)
       obtain rfl := f8 hb8
       obtain rfl := o1_0 hb
       refine GO.at hs ?_
       refine GO.stRow (T := T_GCrossing) (j := 4) (n := e_crossing.toNat) (o := 0) (vs := [.int .i64 t45, .int .i64 t46, .int .i64 t47, .int .i64 t48, .int .i64 t49]) (⟨t45, t46, t47, t48, t49⟩ : GCrossing) HS rfl flat_flat rfl rfl rfl rfl (htA ag58) rfl (getD_some (d := z_GCrossing) (ltN c5)) rfl rfl ?_; intro wd53 HS
       refine GO.fin (fun a hs => ?_)
       exact ⟨_, _, _, _, _, _, _, _, _, Own T_GCrossing 58 A_d_Crossings c_d_Crossings (fun _ => ()) (d_Crossings.set e_crossing.toNat (⟨t45, t46, t47, t48, t49⟩ : GCrossing)), hs, HS, f0, f1, f2, f3, f4, f5, f6, f7, f8, fun h => Bool.noConfusion h, fun _ => rfl⟩
      | k + 10, hj => exact absurd hj (Nat.not_lt.2 (Nat.le_add_left 10 k))
     ·
      intro b a w hall
      refine exI fun Y21_0 => exI fun Y22_1 => exI fun Y23_2 => exI fun Y24_3 => exI fun Y25_4 => exI fun Y26_5 => exI fun Y27_6 => exI fun Y28_7 => exI fun Y29_8 => exI fun O30_1 => anI fun hs => anI fun HS => anI fun f0 => anI fun f1 => anI fun f2 => anI fun f3 => anI fun f4 => anI fun f5 => anI fun f6 => anI fun f7 => anI fun f8 => anI fun o1_0 => fun o1_1 => ?_
      obtain rfl := f0 (hall 0 (by decide))
      obtain rfl := f1 (hall 1 (by decide))
      obtain rfl := f2 (hall 2 (by decide))
      obtain rfl := f3 (hall 3 (by decide))
      obtain rfl := f4 (hall 4 (by decide))
      obtain rfl := f5 (hall 5 (by decide))
      obtain rfl := f6 (hall 6 (by decide))
      obtain rfl := f7 (hall 7 (by decide))
      obtain rfl := f8 (hall 8 (by decide))
      obtain rfl := o1_1 (hall 9 (by decide))
      refine G.at hs ?_
      replace HS := HS.boxEq (j := 3) (cs' := [.slice A_d_Crossings (d_Crossings.set e_crossing.toNat (⟨t45, t46, t47, t48, t49⟩ : GCrossing)).length c_d_Crossings, .int .i64 d_Circles]) rfl (by simp only [List.length_set] <;> rfl)
      obtain rfl := Option.some.inj H
      exact G.end0 Try.func50 rfl ⟨rfl, (HS.pk 5 [4] rfl)⟩
    ·
     rcases ite_elim H with ⟨c54, H⟩ | ⟨c54, H⟩
     ·
      refine G.region ?_
      refine GO.fld (⟨b3, 1, none⟩) rfl rfl fl68_1 rfl rfl ?_
      refine GO.ldBox (j := 2) HS rfl rfl rfl rfl na2 rfl ?_
      refine GO.move rfl rfl rfl ?_
      refine GO.ixP 3 rfl rfl rfl c54 Try.underlying93 sz2 rfl rfl ?_
      refine GO.stBox (j := 0) (vs := [.int .i64 arc]) ([.int .i64 t11, .int .i64 t12, .int .i64 t13, .int .i64 arc]) HS rfl rfl rfl rfl rfl (htN na2 rfl) rfl rfl rfl ?_; intro wd55 HS
      refine GO.nil ?_
      obtain ⟨t56, t57, t58, t59, t60, h61, H⟩ := bind5_elim H
      refine G.regionAny mixed (by decide) (fun b a w => ∃ (Y31_0 : Value) (Y32_1 : Value) (Y33_2 : Value) (Y34_3 : Value) (Y35_4 : Value) (Y36_5 : Value) (Y37_6 : Value) (Y38_7 : Value) (Y39_8 : Value) (O40_1 : HObj), Sat 29 [(20, Y31_0), (21, Y32_1), (22, Y33_2), (23, Y34_3), (24, Y35_4), (25, Y36_5), (26, Y37_6), (27, Y38_7), (28, Y39_8), (3, .pointer (some ⟨b1, 0, none⟩)), (4, .pointer (some ⟨b3, 0, none⟩)), (6, .pointer (some ⟨b8, 0, none⟩)), (7, .pointer (some ⟨b18, 0, none⟩))] a ∧ St w0 w (Box b18 93 [.int .i64 t11, .int .i64 t12, .int .i64 t13, .int .i64 arc] :: Box b8 58 [.int .i64 e6.A, .int .i64 e6.B, .int .i64 e6.C, .int .i64 e6.D, .int .i64 e6.Sign] :: Box b3 68 [.int .i64 e_crossing, .int .i64 e_position] :: Box b1 28 [.slice A_d_Crossings d_Crossings.length c_d_Crossings, .int .i64 d_Circles] :: O40_1 :: L) ∧ (b 0 = true → Y31_0 = (.pointer (some ⟨b1, 0, none⟩))) ∧ (b 1 = true → Y32_1 = (.slice A_d_Crossings d_Crossings.length c_d_Crossings)) ∧ (b 2 = true → Y33_2 = (.pointer (some ⟨b3, 0, none⟩))) ∧ (b 3 = true → Y34_3 = (.int .i64 e_crossing)) ∧ (b 4 = true → Y35_4 = (.agg [.int .i64 t11, .int .i64 t12, .int .i64 t13, .int .i64 arc].toArray)) ∧ (b 5 = true → Y36_5 = (.pointer (some ⟨b8, 4, none⟩))) ∧ (b 6 = true → Y37_6 = (.int .i64 e6.Sign)) ∧ (b 7 = true → Y38_7 = (.agg [.int .i64 t56, .int .i64 t57, .int .i64 t58, .int .i64 t59, .int .i64 t60].toArray)) ∧ (b 8 = true → Y39_8 = (.pointer (some (ea A_d_Crossings (e_crossing.toNat * 5))))) ∧ (b 9 = false → O40_1 = Own T_GCrossing 58 A_d_Crossings c_d_Crossings (fun _ => ()) d_Crossings) ∧ (b 9 = true → O40_1 = Own T_GCrossing 58 A_d_Crossings c_d_Crossings (fun _ => ()) (d_Crossings.set e_crossing.toNat (⟨t56, t57, t58, t59, t60⟩ : GCrossing)))) ?_ ?_ ?_
      ·
       intro a hs
       obtain ⟨Y31_0, hs⟩ := hs.ext (d := 20) rfl
       obtain ⟨Y32_1, hs⟩ := hs.ext (d := 21) rfl
       obtain ⟨Y33_2, hs⟩ := hs.ext (d := 22) rfl
       obtain ⟨Y34_3, hs⟩ := hs.ext (d := 23) rfl
       obtain ⟨Y35_4, hs⟩ := hs.ext (d := 24) rfl
       obtain ⟨Y36_5, hs⟩ := hs.ext (d := 25) rfl
       obtain ⟨Y37_6, hs⟩ := hs.ext (d := 26) rfl
       obtain ⟨Y38_7, hs⟩ := hs.ext (d := 27) rfl
       obtain ⟨Y39_8, hs⟩ := hs.ext (d := 28) rfl
       exact ⟨Y31_0, Y32_1, Y33_2, Y34_3, Y35_4, Y36_5, Y37_6, Y38_7, Y39_8, Own T_GCrossing 58 A_d_Crossings c_d_Crossings (fun _ => ()) d_Crossings, hs.weak ⟨rfl, rfl, rfl, rfl, rfl, rfl, rfl, rfl, rfl, rfl, rfl, rfl, rfl, trivial⟩, (HS.drew.pk 5 [0, 1, 2, 3, 4] rfl), fun h => Bool.noConfusion h, fun h => Bool.noConfusion h, fun h => Bool.noConfusion h, fun h => Bool.noConfusion h, fun h => Bool.noConfusion h, fun h => Bool.noConfusion h, fun h => Bool.noConfusion h, fun h => Bool.noConfusion h, fun h => Bool.noConfusion h, fun _ => rfl, fun h => Bool.noConfusion h⟩
      ·
       intro j hj b a w
       refine exI fun Y31_0 => exI fun Y32_1 => exI fun Y33_2 => exI fun Y34_3 => exI fun Y35_4 => exI fun Y36_5 => exI fun Y37_6 => exI fun Y38_7 => exI fun Y39_8 => exI fun O40_1 => anI fun hs => anI fun HS => anI fun f0 => anI fun f1 => anI fun f2 => anI fun f3 => anI fun f4 => anI fun f5 => anI fun f6 => anI fun f7 => anI fun f8 => anI fun o1_0 => fun o1_1 hb hd hcl => ?_
       match j, hj with
       | 0, _ =>
        refine GO.at hs ?_
        refine GO.fld (⟨b1, 0, none⟩) rfl rfl fl28_0 rfl rfl ?_
        refine GO.fin (fun a hs => ?_)
        exact ⟨(.pointer (some ⟨b1, 0, none⟩)), _, _, _, _, _, _, _, _, _, by exact hs.setAt 0 rfl, HS, fun _ => rfl, f1, f2, f3, f4, f5, f6, f7, f8, o1_0, o1_1⟩
       | 1, _ =>
        have hb0 : b 0 = true := hd 0 (by decide)
        obtain rfl := f0 hb0
        refine GO.at hs ?_
        refine GO.ldBox (j := 3) HS rfl rfl rfl rfl na26 rfl ?_
        refine GO.fin (fun a hs => ?_)
        exact ⟨_, (.slice A_d_Crossings d_Crossings.length c_d_Crossings), _, _, _, _, _, _, _, _, by exact hs.setAt 1 rfl, HS, f0, fun _ => rfl, f2, f3, f4, f5, f6, f7, f8, o1_0, o1_1⟩
       | 2, _ =>
        refine GO.at hs ?_
        refine GO.fld (⟨b3, 0, none⟩) rfl rfl fl68_0 rfl rfl ?_
        refine GO.fin (fun a hs => ?_)
        exact ⟨_, _, (.pointer (some ⟨b3, 0, none⟩)), _, _, _, _, _, _, _, by exact hs.setAt 2 rfl, HS, f0, f1, fun _ => rfl, f3, f4, f5, f6, f7, f8, o1_0, o1_1⟩
       | 3, _ =>
        have hb2 : b 2 = true := hd 2 (by decide)
        obtain rfl := f2 hb2
        refine GO.at hs ?_
        refine GO.ldBox (j := 2) HS rfl rfl rfl rfl na2 rfl ?_
        refine GO.fin (fun a hs => ?_)
        exact ⟨_, _, _, (.int .i64 e_crossing), _, _, _, _, _, _, by exact hs.setAt 3 rfl, HS, f0, f1, f2, fun _ => rfl, f4, f5, f6, f7, f8, o1_0, o1_1⟩
       | 4, _ =>
        refine GO.at hs ?_
        refine GO.ldBoxA (j := 0) ([.int .i64 t11, .int .i64 t12, .int .i64 t13, .int .i64 arc]) HS rfl rfl rfl rfl ag93 rfl ?_
        refine GO.fin (fun a hs => ?_)
        exact ⟨_, _, _, _, (.agg [.int .i64 t11, .int .i64 t12, .int .i64 t13, .int .i64 arc].toArray), _, _, _, _, _, by exact hs.setAt 4 rfl, HS, f0, f1, f2, f3, fun _ => rfl, f5, f6, f7, f8, o1_0, o1_1⟩
       | 5, _ =>
        refine GO.at hs ?_
        refine GO.fld (⟨b8, 4, none⟩) rfl rfl fl58_4 rfl rfl ?_
        refine GO.fin (fun a hs => ?_)
        exact ⟨_, _, _, _, _, (.pointer (some ⟨b8, 4, none⟩)), _, _, _, _, by exact hs.setAt 5 rfl, HS, f0, f1, f2, f3, f4, fun _ => rfl, f6, f7, f8, o1_0, o1_1⟩
       | 6, _ =>
        have hb5 : b 5 = true := hd 5 (by decide)
        obtain rfl := f5 hb5
        refine GO.at hs ?_
        refine GO.ldBox (j := 1) HS rfl rfl rfl rfl na2 rfl ?_
        refine GO.fin (fun a hs => ?_)
        exact ⟨_, _, _, _, _, _, (.int .i64 e6.Sign), _, _, _, by exact hs.setAt 6 rfl, HS, f0, f1, f2, f3, f4, f5, fun _ => rfl, f7, f8, o1_0, o1_1⟩
       | 7, _ =>
        have hb4 : b 4 = true := hd 4 (by decide)
        obtain rfl := f4 hb4
        have hb6 : b 6 = true := hd 6 (by decide)
        obtain rfl := f6 hb6
        refine GO.at hs ?_
        refine GO.fn rfl Try.func113 fok113.1 fok113.2 rfl rfl (impl_crossingOf.calls HS  h61) (fun _ wd62 ⟨h63, HS⟩ => ⟨_, h63, ?_⟩)
        refine GO.fin (fun a hs => ?_)
        exact ⟨_, _, _, _, _, _, _, (.agg [.int .i64 t56, .int .i64 t57, .int .i64 t58, .int .i64 t59, .int .i64 t60].toArray), _, _, by exact hs.setAt 7 rfl, HS, f0, f1, f2, f3, f4, f5, f6, fun _ => rfl, f8, o1_0, o1_1⟩
       | 8, _ =>
        have hb1 : b 1 = true := hd 1 (by decide)
        obtain rfl := f1 hb1
        have hb3 : b 3 = true := hd 3 (by decide)
        obtain rfl := f3 hb3
        have d9 : b 9 = false := bfalse (fun hh => hcl 9 (by decide) (hh) 8 (by decide)) hb
        obtain rfl := o1_0 d9
        refine GO.at hs ?_
        refine GO.ix rfl rfl rfl Try.underlying26 sz58 ((RdIn.own (j := 4) rfl) _ HS).2.2.1 c5.1 c5.2 rfl ?_
        refine GO.fin (fun a hs => ?_)
        exact ⟨_, _, _, _, _, _, _, _, (.pointer (some (ea A_d_Crossings (e_crossing.toNat * 5)))), _, by exact hs.setAt 8 rfl, HS, f0, f1, f2, f3, f4, f5, f6, f7, fun _ => rfl, o1_0, o1_1⟩
       | 9, _ =>
        have hb7 : b 7 = true := hd 7 (by decide)
        obtain rfl := f7 hb7
        have hb8 : b 8 = true := hd 8 (by decide)
        obtain rfl := f8 hb8
        obtain rfl := o1_0 hb
        refine GO.at hs ?_
        refine GO.stRow (T := T_GCrossing) (j := 4) (n := e_crossing.toNat) (o := 0) (vs := [.int .i64 t56, .int .i64 t57, .int .i64 t58, .int .i64 t59, .int .i64 t60]) (⟨t56, t57, t58, t59, t60⟩ : GCrossing) HS rfl flat_flat rfl rfl rfl rfl (htA ag58) rfl (getD_some (d := z_GCrossing) (ltN c5)) rfl rfl ?_; intro wd64 HS
        refine GO.fin (fun a hs => ?_)
        exact ⟨_, _, _, _, _, _, _, _, _, Own T_GCrossing 58 A_d_Crossings c_d_Crossings (fun _ => ()) (d_Crossings.set e_crossing.toNat (⟨t56, t57, t58, t59, t60⟩ : GCrossing)), hs, HS, f0, f1, f2, f3, f4, f5, f6, f7, f8, fun h => Bool.noConfusion h, fun _ => rfl⟩
       | k + 10, hj => exact absurd hj (Nat.not_lt.2 (Nat.le_add_left 10 k))
      ·
       intro b a w hall
       refine exI fun Y31_0 => exI fun Y32_1 => exI fun Y33_2 => exI fun Y34_3 => exI fun Y35_4 => exI fun Y36_5 => exI fun Y37_6 => exI fun Y38_7 => exI fun Y39_8 => exI fun O40_1 => anI fun hs => anI fun HS => anI fun f0 => anI fun f1 => anI fun f2 => anI fun f3 => anI fun f4 => anI fun f5 => anI fun f6 => anI fun f7 => anI fun f8 => anI fun o1_0 => fun o1_1 => ?_
       obtain rfl := f0 (hall 0 (by decide))
       obtain rfl := f1 (hall 1 (by decide))
       obtain rfl := f2 (hall 2 (by decide))
       obtain rfl := f3 (hall 3 (by decide))
       obtain rfl := f4 (hall 4 (by decide))
       obtain rfl := f5 (hall 5 (by decide))
       obtain rfl := f6 (hall 6 (by decide))
       obtain rfl := f7 (hall 7 (by decide))
       obtain rfl := f8 (hall 8 (by decide))
       obtain rfl := o1_1 (hall 9 (by decide))
       refine G.at hs ?_
       replace HS := HS.boxEq (j := 3) (cs' := [.slice A_d_Crossings (d_Crossings.set e_crossing.toNat (⟨t56, t57, t58, t59, t60⟩ : GCrossing)).length c_d_Crossings, .int .i64 d_Circles]) rfl (by simp only [List.length_set] <;> rfl)
       obtain rfl := Option.some.inj H
       exact G.end0 Try.func50 rfl ⟨rfl, (HS.pk 5 [4] rfl)⟩
     ·
      cases H

set_option maxRecDepth 20000 in
set_option maxHeartbeats 40000000 in
theorem impl_JoinDiagrams.calls {w0 w : World} {L : List HObj} {K : Nat} {d_Crossings : List GCrossing} {d_Circles : Int} {a_ : Int} {e_Crossings : List GCrossing} {e_Circles : Int} {b_ : Int} {A_d_Crossings : Option Addr} {c_d_Crossings : Nat} {A_e_Crossings : Option Addr} {c_e_Crossings : Nat} {r1 : List GCrossing} {r2 : Int} {r3 : Int} (HS : St w0 w (L)) (h_d_Crossings : RdIn w0 L T_GCrossing A_d_Crossings c_d_Crossings (fun _ => ()) d_Crossings) (h_e_Crossings : RdIn w0 L T_GCrossing A_e_Crossings c_e_Crossings (fun _ => ()) e_Crossings) (H : impl_JoinDiagrams.f K d_Crossings d_Circles a_ e_Crossings e_Circles b_ = some (r1, r2, r3)) :
    Calls Try.prog 20 #[.agg [.slice A_d_Crossings d_Crossings.length c_d_Crossings, .int .i64 d_Circles].toArray, .int .i64 a_, .agg [.slice A_e_Crossings e_Crossings.length c_e_Crossings, .int .i64 e_Circles].toArray, .int .i64 b_] w (impl_JoinDiagrams.post w0 L d_Crossings d_Circles a_ e_Crossings e_Circles b_ A_d_Crossings c_d_Crossings A_e_Crossings c_e_Crossings r1 r2 r3) := by
  unfold impl_JoinDiagrams.f at H
  refine Calls.of_G Try.func20 rfl rfl rfl ?_
  refine G.seq ?_
  refine G.region ?_
  refine GO.box (cs := [.slice A_d_Crossings d_Crossings.length c_d_Crossings, .int .i64 d_Circles]) HS rfl rfl rfl rfl ?_; intro b1 wd2 HS
  refine GO.box (cs := [.slice A_e_Crossings e_Crossings.length c_e_Crossings, .int .i64 e_Circles]) HS rfl rfl rfl rfl ?_; intro b3 wd4 HS
  refine GO.alloc HS rfl zr28 rfl rfl ?_; intro b5 wd6 HS
  refine GO.assign rfl rfl rfl ?_
  refine GO.nil ?_
  refine G.seq ?_
  obtain ⟨t7, h8, H⟩ := Option.bind_eq_some_iff.1 H
  refine G.region ?_
  refine GO.ldBoxA (j := 2) ([.slice A_d_Crossings d_Crossings.length c_d_Crossings, .int .i64 d_Circles]) HS rfl rfl rfl rfl ag28 rfl ?_
  refine GO.ldBoxA (j := 1) ([.slice A_e_Crossings e_Crossings.length c_e_Crossings, .int .i64 e_Circles]) HS rfl rfl rfl rfl ag28 rfl ?_
  refine GO.fn rfl Try.func55 fok55.1 fok55.2 rfl rfl (impl_besideCode.calls HS (RdIn.drop 3 h_d_Crossings) (RdIn.drop 3 h_e_Crossings) h8) (fun _ wd9 ⟨h10, HS⟩ => ⟨_, h10, ?_⟩)
  refine GO.assign rfl rfl rfl ?_
  refine GO.nil ?_
  refine G.seq ?_
  refine G.block ?_
  refine G.seq ?_
  refine G.region ?_
  refine GO.move rfl rfl rfl ?_
  refine GO.neq rfl rfl rfl rfl ?_
  refine GO.assign rfl rfl rfl ?_
  refine GO.nil ?_
  rcases ite_elim H with ⟨c11, H⟩ | ⟨c11, H⟩
  ·
   refine G.noB rfl (congrArg Bool.not (decide_eq_true c11)) ?_
   refine G.seq ?_
   obtain ⟨t29, h30, H⟩ := Option.bind_eq_some_iff.1 H
   obtain ⟨t33, h34, H⟩ := Option.bind_eq_some_iff.1 H
   rcases ite_elim H with ⟨c37, H⟩ | ⟨c37, H⟩
   ·
    obtain ⟨t38, h39, H⟩ := Option.bind_eq_some_iff.1 H
    obtain ⟨t42, h43, H⟩ := Option.bind_eq_some_iff.1 H
    refine G.region ?_
    refine GO.move rfl rfl rfl ?_
    refine GO.fld (⟨b1, 0, none⟩) rfl rfl fl28_0 rfl rfl ?_
    refine GO.ldBox (j := 2) HS rfl rfl rfl rfl na26 rfl ?_
    refine GO.fn rfl Try.func56 fok56.1 fok56.2 rfl rfl (impl_size_impl_Crossing.calls HS (RdIn.drop 3 h_d_Crossings) h30) (fun _ wd31 ⟨h32, HS⟩ => ⟨_, h32, ?_⟩)
    refine GO.mul rfl rfl rfl rfl ?_
    refine GO.sub rfl rfl rfl rfl ?_
    refine GO.fn rfl Try.func47 fok47.1 fok47.2 rfl rfl (impl_inRange.calls HS  h34) (fun _ wd35 ⟨h36, HS⟩ => ⟨_, h36, ?_⟩)
    refine GO.not rfl rfl rfl ?_
    refine GO.move rfl rfl rfl ?_
    refine GO.known (t := 31) rfl (congrArg Bool.not c37) ?_
    refine GO.on rfl rfl rfl rfl ?_
    refine GO.move rfl rfl rfl ?_
    refine GO.back ?_
    refine GO.on rfl rfl rfl rfl ?_
    refine GO.fld (⟨b3, 0, none⟩) rfl rfl fl28_0 rfl rfl ?_
    refine GO.back ?_
    refine GO.on rfl rfl rfl rfl ?_
    refine GO.ldBox (j := 1) HS rfl rfl rfl rfl na26 rfl ?_
    refine GO.back ?_
    refine GO.on rfl rfl rfl rfl ?_
    refine GO.fn rfl Try.func56 fok56.1 fok56.2 rfl rfl (impl_size_impl_Crossing.calls HS (RdIn.drop 3 h_e_Crossings) h39) (fun _ wd40 ⟨h41, HS⟩ => ⟨_, h41, ?_⟩)
    refine GO.back ?_
    refine GO.on rfl rfl rfl rfl ?_
    refine GO.mul rfl rfl rfl rfl ?_
    refine GO.back ?_
    refine GO.on rfl rfl rfl rfl ?_
    refine GO.sub rfl rfl rfl rfl ?_
    refine GO.back ?_
    refine GO.on rfl rfl rfl rfl ?_
    refine GO.fn rfl Try.func47 fok47.1 fok47.2 rfl rfl (impl_inRange.calls HS  h43) (fun _ wd44 ⟨h45, HS⟩ => ⟨_, h45, ?_⟩)
    refine GO.back ?_
    refine GO.on rfl rfl rfl rfl ?_
    refine GO.not rfl rfl rfl ?_
    refine GO.back ?_
    refine GO.pickF rfl rfl rfl rfl rfl ?_
    refine GO.assign rfl rfl rfl ?_
    refine GO.nil ?_
    rcases ite_elim H with ⟨c46, H⟩ | ⟨c46, H⟩
    ·
     refine G.noB rfl (congrArg Bool.not c46) ?_
     refine G.skip ?_
     refine G.blockEnd ?_
     refine G.seq ?_
     obtain ⟨t47, t48, h49, H⟩ := bind2_elim H
     refine G.region ?_
     refine GO.ldBoxA (j := 2) ([.slice A_d_Crossings d_Crossings.length c_d_Crossings, .int .i64 d_Circles]) HS rfl rfl rfl rfl ag28 rfl ?_
     refine GO.ldBoxA (j := 1) ([.slice A_e_Crossings e_Crossings.length c_e_Crossings, .int .i64 e_Circles]) HS rfl rfl rfl rfl ag28 rfl ?_
     refine GO.fn rfl Try.func57 fok57.1 fok57.2 rfl rfl (impl_beside.calls HS (RdIn.drop 3 h_d_Crossings) (RdIn.drop 3 h_e_Crossings) h49) (fun _ wd52 ⟨A50, c51, h53, HS⟩ => ⟨_, h53, ?_⟩)
     refine GO.alloc HS rfl zr28 rfl rfl ?_; intro b54 wd55 HS
     refine GO.stBox (j := 0) (vs := [.slice A50 t47.length c51, .int .i64 t48]) ([.slice A50 t47.length c51, .int .i64 t48]) HS rfl rfl rfl rfl rfl (htA ag28) rfl rfl rfl ?_; intro wd56 HS
     refine GO.nil ?_
     refine G.seq ?_
     obtain ⟨t57, h58, H⟩ := Option.bind_eq_some_iff.1 H
     refine G.region ?_
     refine GO.move rfl rfl rfl ?_
     refine GO.fld (⟨b1, 0, none⟩) rfl rfl fl28_0 rfl rfl ?_
     refine GO.ldBox (j := 4) HS rfl rfl rfl rfl na26 rfl ?_
     refine GO.fn rfl Try.func56 fok56.1 fok56.2 rfl rfl (impl_size_impl_Crossing.calls HS (RdIn.drop 5 h_d_Crossings) h58) (fun _ wd59 ⟨h60, HS⟩ => ⟨_, h60, ?_⟩)
     refine GO.mul rfl rfl rfl rfl ?_
     refine GO.add rfl rfl rfl rfl ?_
     refine GO.assign rfl rfl rfl ?_
     refine GO.nil ?_
     refine G.seq ?_
     obtain ⟨t61, t62, t63, h64, H⟩ := bind3_elim H
     refine G.region ?_
     refine GO.ldBoxA (j := 0) ([.slice A50 t47.length c51, .int .i64 t48]) HS rfl rfl rfl rfl ag28 rfl ?_
     refine GO.fn rfl Try.func58 fok58.1 fok58.2 rfl rfl (impl_Diagram_arrows.calls HS (RdIn.own (j := 1) rfl) h64) (fun _ wd69 ⟨A65, c66, A67, c68, h70, HS⟩ => ⟨_, h70, ?_⟩)
     refine GO.move rfl rfl rfl ?_
     refine GO.extract rfl rfl rfl rfl ?_
     refine GO.extract rfl rfl rfl rfl ?_
     refine GO.alloc HS rfl zr63 rfl rfl ?_; intro b71 wd72 HS
     refine GO.stBox (j := 0) (vs := [.slice A65 t61.length c66, .slice A67 t62.length c68]) ([.slice A65 t61.length c66, .slice A67 t62.length c68]) HS rfl rfl rfl rfl rfl (htA ag63) rfl rfl rfl ?_; intro wd73 HS
     refine GO.assign rfl rfl rfl ?_
     refine GO.nil ?_
     refine G.seq ?_
     obtain ⟨c74, H⟩ := ite_none H
     obtain ⟨e75, h76, H⟩ := bnd_elim H
     obtain ⟨t77, h78, H⟩ := Option.bind_eq_some_iff.1 H
     obtain ⟨c79, H⟩ := ite_none H
     refine G.regionAny mixed (by decide) (fun b a w => ∃ (Y1_0 : Value) (Y2_1 : Value) (Y3_2 : Value) (Y4_3 : Value) (Y5_4 : Value) (Y6_5 : Value) (Y7_6 : Value) (Y8_7 : Value) (O9_4 : HObj), Sat 73 [(56, Y1_0), (57, Y2_1), (58, Y3_2), (59, Y4_3), (60, Y5_4), (61, Y6_5), (62, Y7_6), (63, Y8_7), (1, .int .i64 a_), (3, .int .i64 (w64 (b_ + (w64 (2 * t57))))), (8, .pointer (some ⟨b5, 0, none⟩)), (11, .pointer (some ⟨b54, 0, none⟩)), (12, .pointer (some ⟨b71, 0, none⟩))] a ∧ St w0 w (Box b71 63 [.slice A65 t61.length c66, .slice A67 t62.length c68] :: Own T_GEnd 68 A65 c66 (fun _ => ()) t61 :: Own T_GEnd 68 A67 c68 (fun _ => ()) t62 :: Box b54 28 [.slice A50 t47.length c51, .int .i64 t48] :: O9_4 :: Box b5 28 [.slice none 0 0, .int .i64 0] :: Box b3 28 [.slice A_e_Crossings e_Crossings.length c_e_Crossings, .int .i64 e_Circles] :: Box b1 28 [.slice A_d_Crossings d_Crossings.length c_d_Crossings, .int .i64 d_Circles] :: L) ∧ (b 0 = true → Y1_0 = (.agg [.slice A50 t47.length c51, .int .i64 t48].toArray)) ∧ (b 1 = true → Y2_1 = (.pointer (some ⟨b71, 1, none⟩))) ∧ (b 2 = true → Y3_2 = (.slice A67 t62.length c68)) ∧ (b 3 = true → Y4_3 = (.int .i64 a_)) ∧ (b 4 = true → Y5_4 = (.pointer (some (ea A67 (a_.toNat * 2))))) ∧ (b 5 = true → Y6_5 = (.agg [.int .i64 e75.crossing, .int .i64 e75.position].toArray)) ∧ (b 6 = true → Y7_6 = (.int .i64 (w64 (b_ + (w64 (2 * t57)))))) ∧ (b 7 = true → Y8_7 = (.tuple #[])) ∧ (b 7 = false → O9_4 = Own T_GCrossing 58 A50 c51 (fun _ => ()) t47) ∧ (b 7 = true → O9_4 = Own T_GCrossing 58 A50 c51 (fun _ => ()) t77)) ?_ ?_ ?_
     ·
      intro a hs
      obtain ⟨Y1_0, hs⟩ := hs.ext (d := 56) rfl
      obtain ⟨Y2_1, hs⟩ := hs.ext (d := 57) rfl
      obtain ⟨Y3_2, hs⟩ := hs.ext (d := 58) rfl
      obtain ⟨Y4_3, hs⟩ := hs.ext (d := 59) rfl
      obtain ⟨Y5_4, hs⟩ := hs.ext (d := 60) rfl
      obtain ⟨Y6_5, hs⟩ := hs.ext (d := 61) rfl
      obtain ⟨Y7_6, hs⟩ := hs.ext (d := 62) rfl
      obtain ⟨Y8_7, hs⟩ := hs.ext (d := 63) rfl
      exact ⟨Y1_0, Y2_1, Y3_2, Y4_3, Y5_4, Y6_5, Y7_6, Y8_7, Own T_GCrossing 58 A50 c51 (fun _ => ()) t47, hs.weak ⟨rfl, rfl, rfl, rfl, rfl, rfl, rfl, rfl, rfl, rfl, rfl, rfl, rfl, trivial⟩, (HS.drew.pk 8 [0, 1, 2, 3, 4, 5, 6, 7] rfl), fun h => Bool.noConfusion h, fun h => Bool.noConfusion h, fun h => Bool.noConfusion h, fun h => Bool.noConfusion h, fun h => Bool.noConfusion h, fun h => Bool.noConfusion h, fun h => Bool.noConfusion h, fun h => Bool.noConfusion h, fun _ => rfl, fun h => Bool.noConfusion h⟩
     ·
      intro j hj b a w
      refine exI fun Y1_0 => exI fun Y2_1 => exI fun Y3_2 => exI fun Y4_3 => exI fun Y5_4 => exI fun Y6_5 => exI fun Y7_6 => exI fun Y8_7 => exI fun O9_4 => anI fun hs => anI fun HS => anI fun f0 => anI fun f1 => anI fun f2 => anI fun f3 => anI fun f4 => anI fun f5 => anI fun f6 => anI fun f7 => anI fun o4_0 => fun o4_1 hb hd hcl => ?_
      match j, hj with
      | 0, _ =>
       refine GO.at hs ?_
       refine GO.ldBoxA (j := 3) ([.slice A50 t47.length c51, .int .i64 t48]) HS rfl rfl rfl rfl ag28 rfl ?_
       refine GO.fin (fun a hs => ?_)
       exact ⟨(.agg [.slice A50 t47.length c51, .int .i64 t48].toArray), _, _, _, _, _, _, _, _, by exact hs.setAt 0 rfl, HS, fun _ => rfl, f1, f2, f3, f4, f5, f6, f7, o4_0, o4_1⟩
      | 1, _ =>
       refine GO.at hs ?_
       refine GO.fld (⟨b71, 1, none⟩) rfl rfl fl63_1 rfl rfl ?_
       refine GO.fin (fun a hs => ?_)
       exact ⟨_, (.pointer (some ⟨b71, 1, none⟩)), _, _, _, _, _, _, _, by exact hs.setAt 1 rfl, HS, f0, fun _ => rfl, f2, f3, f4, f5, f6, f7, o4_0, o4_1⟩
      | 2, _ =>
       have hb1 : b 1 = true := hd 1 (by decide)
       obtain rfl := f1 hb1
       refine GO.at hs ?_
       refine GO.ldBox (j := 0) HS rfl rfl rfl rfl na61 rfl ?_
       refine GO.fin (fun a hs => ?_)
       exact ⟨_, _, (.slice A67 t62.length c68), _, _, _, _, _, _, by exact hs.setAt 2 rfl, HS, f0, f1, fun _ => rfl, f3, f4, f5, f6, f7, o4_0, o4_1⟩
      | 3, _ =>
       refine GO.at hs ?_
       refine GO.move rfl rfl rfl ?_
       refine GO.fin (fun a hs => ?_)
       exact ⟨_, _, _, (.int .i64 a_), _, _, _, _, _, by exact hs.setAt 3 rfl, HS, f0, f1, f2, fun _ => rfl, f4, f5, f6, f7, o4_0, o4_1⟩
      | 4, _ =>
       have hb2 : b 2 = true := hd 2 (by decide)
       obtain rfl := f2 hb2
       have hb3 : b 3 = true := hd 3 (by decide)
       obtain rfl := f3 hb3
       refine GO.at hs ?_
       refine GO.ix rfl rfl rfl Try.underlying61 sz68 ((RdIn.own (j := 2) rfl) _ HS).2.2.1 c74.1 c74.2 rfl ?_
       refine GO.fin (fun a hs => ?_)
       exact ⟨_, _, _, _, (.pointer (some (ea A67 (a_.toNat * 2)))), _, _, _, _, by exact hs.setAt 4 rfl, HS, f0, f1, f2, f3, fun _ => rfl, f5, f6, f7, o4_0, o4_1⟩
      | 5, _ =>
       have hb4 : b 4 = true := hd 4 (by decide)
       obtain rfl := f4 hb4
       refine GO.at hs ?_
       refine GO.ldRdA (T := T_GEnd) (n := a_.toNat) HS (RdIn.own (j := 2) rfl) rfl rfl (getD_eq (ltN c74) h76) ag68 rfl ?_
       refine GO.fin (fun a hs => ?_)
       exact ⟨_, _, _, _, _, (.agg [.int .i64 e75.crossing, .int .i64 e75.position].toArray), _, _, _, by exact hs.setAt 5 rfl, HS, f0, f1, f2, f3, f4, fun _ => rfl, f6, f7, o4_0, o4_1⟩
      | 6, _ =>
       refine GO.at hs ?_
       refine GO.move rfl rfl rfl ?_
       refine GO.fin (fun a hs => ?_)
       exact ⟨_, _, _, _, _, _, (.int .i64 (w64 (b_ + (w64 (2 * t57))))), _, _, by exact hs.setAt 6 rfl, HS, f0, f1, f2, f3, f4, f5, fun _ => rfl, f7, o4_0, o4_1⟩
      | 7, _ =>
       have hb0 : b 0 = true := hd 0 (by decide)
       obtain rfl := f0 hb0
       have hb5 : b 5 = true := hd 5 (by decide)
       obtain rfl := f5 hb5
       have hb6 : b 6 = true := hd 6 (by decide)
       obtain rfl := f6 hb6
       obtain rfl := o4_0 hb
       refine GO.at hs ?_
       replace HS := HS.pk 8 [4, 0, 1, 2, 3, 5, 6, 7] rfl
       refine GO.fn rfl Try.func50 fok50.1 fok50.2 rfl rfl (impl_Diagram_set.calls HS  h78) (fun _ wd80 ⟨h81, HS⟩ => ⟨_, h81, ?_⟩)
       refine GO.fin (fun a hs => ?_)
       exact ⟨_, _, _, _, _, _, _, (.tuple #[]), Own T_GCrossing 58 A50 c51 (fun _ => ()) t77, by exact hs.setAt 7 rfl, HS.pk 8 [1, 2, 3, 4, 0, 5, 6, 7] rfl, f0, f1, f2, f3, f4, f5, f6, fun _ => rfl, fun h => Bool.noConfusion h, fun _ => rfl⟩
      | k + 8, hj => exact absurd hj (Nat.not_lt.2 (Nat.le_add_left 8 k))
     ·
      intro b a w hall
      refine exI fun Y1_0 => exI fun Y2_1 => exI fun Y3_2 => exI fun Y4_3 => exI fun Y5_4 => exI fun Y6_5 => exI fun Y7_6 => exI fun Y8_7 => exI fun O9_4 => anI fun hs => anI fun HS => anI fun f0 => anI fun f1 => anI fun f2 => anI fun f3 => anI fun f4 => anI fun f5 => anI fun f6 => anI fun f7 => anI fun o4_0 => fun o4_1 => ?_
      obtain rfl := f0 (hall 0 (by decide))
      obtain rfl := f1 (hall 1 (by decide))
      obtain rfl := f2 (hall 2 (by decide))
      obtain rfl := f3 (hall 3 (by decide))
      obtain rfl := f4 (hall 4 (by decide))
      obtain rfl := f5 (hall 5 (by decide))
      obtain rfl := f6 (hall 6 (by decide))
      obtain rfl := f7 (hall 7 (by decide))
      obtain rfl := o4_1 (hall 7 (by decide))
      refine G.at hs ?_
      replace HS := HS.boxEq (j := 3) (cs' := [.slice A50 t77.length c51, .int .i64 t48]) rfl (by simp only [List.length_set, c79] <;> rfl)
      refine G.seq ?_
      obtain ⟨c82, H⟩ := ite_none H
      obtain ⟨e83, h84, H⟩ := bnd_elim H
      obtain ⟨t85, h86, H⟩ := Option.bind_eq_some_iff.1 H
      obtain ⟨c87, H⟩ := ite_none H
      refine G.regionAny mixed (by decide) (fun b a w => ∃ (Y10_0 : Value) (Y11_1 : Value) (Y12_2 : Value) (Y13_3 : Value) (Y14_4 : Value) (Y15_5 : Value) (Y16_6 : Value) (Y17_7 : Value) (O18_4 : HObj), Sat 73 [(64, Y10_0), (65, Y11_1), (66, Y12_2), (67, Y13_3), (68, Y14_4), (69, Y15_5), (70, Y16_6), (71, Y17_7), (1, .int .i64 a_), (3, .int .i64 (w64 (b_ + (w64 (2 * t57))))), (8, .pointer (some ⟨b5, 0, none⟩)), (11, .pointer (some ⟨b54, 0, none⟩)), (12, .pointer (some ⟨b71, 0, none⟩))] a ∧ St w0 w (Box b71 63 [.slice A65 t61.length c66, .slice A67 t62.length c68] :: Own T_GEnd 68 A65 c66 (fun _ => ()) t61 :: Own T_GEnd 68 A67 c68 (fun _ => ()) t62 :: Box b54 28 [.slice A50 t77.length c51, .int .i64 t48] :: O18_4 :: Box b5 28 [.slice none 0 0, .int .i64 0] :: Box b3 28 [.slice A_e_Crossings e_Crossings.length c_e_Crossings, .int .i64 e_Circles] :: Box b1 28 [.slice A_d_Crossings d_Crossings.length c_d_Crossings, .int .i64 d_Circles] :: L) ∧ (b 0 = true → Y10_0 = (.agg [.slice A50 t77.length c51, .int .i64 t48].toArray)) ∧ (b 1 = true → Y11_1 = (.pointer (some ⟨b71, 1, none⟩))) ∧ (b 2 = true → Y12_2 = (.slice A67 t62.length c68)) ∧ (b 3 = true → Y13_3 = (.int .i64 (w64 (b_ + (w64 (2 * t57)))))) ∧ (b 4 = true → Y14_4 = (.pointer (some (ea A67 (((w64 (b_ + (w64 (2 * t57)))).toNat) * 2))))) ∧ (b 5 = true → Y15_5 = (.agg [.int .i64 e83.crossing, .int .i64 e83.position].toArray)) ∧ (b 6 = true → Y16_6 = (.int .i64 a_)) ∧ (b 7 = true → Y17_7 = (.tuple #[])) ∧ (b 7 = false → O18_4 = Own T_GCrossing 58 A50 c51 (fun _ => ()) t77) ∧ (b 7 = true → O18_4 = Own T_GCrossing 58 A50 c51 (fun _ => ()) t85)) ?_ ?_ ?_
      ·
       intro a hs
       obtain ⟨Y10_0, hs⟩ := hs.ext (d := 64) rfl
       obtain ⟨Y11_1, hs⟩ := hs.ext (d := 65) rfl
       obtain ⟨Y12_2, hs⟩ := hs.ext (d := 66) rfl
       obtain ⟨Y13_3, hs⟩ := hs.ext (d := 67) rfl
       obtain ⟨Y14_4, hs⟩ := hs.ext (d := 68) rfl
       obtain ⟨Y15_5, hs⟩ := hs.ext (d := 69) rfl
       obtain ⟨Y16_6, hs⟩ := hs.ext (d := 70) rfl
       obtain ⟨Y17_7, hs⟩ := hs.ext (d := 71) rfl
       exact ⟨Y10_0, Y11_1, Y12_2, Y13_3, Y14_4, Y15_5, Y16_6, Y17_7, Own T_GCrossing 58 A50 c51 (fun _ => ()) t77, hs.weak ⟨rfl, rfl, rfl, rfl, rfl, rfl, rfl, rfl, rfl, rfl, rfl, rfl, rfl, trivial⟩, (HS.drew.pk 8 [0, 1, 2, 3, 4, 5, 6, 7] rfl), fun h => Bool.noConfusion h, fun h => Bool.noConfusion h, fun h => Bool.noConfusion h, fun h => Bool.noConfusion h, fun h => Bool.noConfusion h, fun h => Bool.noConfusion h, fun h => Bool.noConfusion h, fun h => Bool.noConfusion h, fun _ => rfl, fun h => Bool.noConfusion h⟩
      ·
       intro j hj b a w
       refine exI fun Y10_0 => exI fun Y11_1 => exI fun Y12_2 => exI fun Y13_3 => exI fun Y14_4 => exI fun Y15_5 => exI fun Y16_6 => exI fun Y17_7 => exI fun O18_4 => anI fun hs => anI fun HS => anI fun f0 => anI fun f1 => anI fun f2 => anI fun f3 => anI fun f4 => anI fun f5 => anI fun f6 => anI fun f7 => anI fun o4_0 => fun o4_1 hb hd hcl => ?_
       match j, hj with
       | 0, _ =>
        refine GO.at hs ?_
        refine GO.ldBoxA (j := 3) ([.slice A50 t77.length c51, .int .i64 t48]) HS rfl rfl rfl rfl ag28 rfl ?_
        refine GO.fin (fun a hs => ?_)
        exact ⟨(.agg [.slice A50 t77.length c51, .int .i64 t48].toArray), _, _, _, _, _, _, _, _, by exact hs.setAt 0 rfl, HS, fun _ => rfl, f1, f2, f3, f4, f5, f6, f7, o4_0, o4_1⟩
       | 1, _ =>
        refine GO.at hs ?_
        refine GO.fld (⟨b71, 1, none⟩) rfl rfl fl63_1 rfl rfl ?_
        refine GO.fin (fun a hs => ?_)
        exact ⟨_, (.pointer (some ⟨b71, 1, none⟩)), _, _, _, _, _, _, _, by exact hs.setAt 1 rfl, HS, f0, fun _ => rfl, f2, f3, f4, f5, f6, f7, o4_0, o4_1⟩
       | 2, _ =>
        have hb1 : b 1 = true := hd 1 (by decide)
        obtain rfl := f1 hb1
        refine GO.at hs ?_
        refine GO.ldBox (j := 0) HS rfl rfl rfl rfl na61 rfl ?_
        refine GO.fin (fun a hs => ?_)
        exact ⟨_, _, (.slice A67 t62.length c68), _, _, _, _, _, _, by exact hs.setAt 2 rfl, HS, f0, f1, fun _ => rfl, f3, f4, f5, f6, f7, o4_0, o4_1⟩
       | 3, _ =>
        refine GO.at hs ?_
        refine GO.move rfl rfl rfl ?_
        refine GO.fin (fun a hs => ?_)
        exact ⟨_, _, _, (.int .i64 (w64 (b_ + (w64 (2 * t57))))), _, _, _, _, _, by exact hs.setAt 3 rfl, HS, f0, f1, f2, fun _ => rfl, f4, f5, f6, f7, o4_0, o4_1⟩
       | 4, _ =>
        have hb2 : b 2 = true := hd 2 (by decide)
        obtain rfl := f2 hb2
        have hb3 : b 3 = true := hd 3 (by decide)
        obtain rfl := f3 hb3
        refine GO.at hs ?_
        refine GO.ix rfl rfl rfl Try.underlying61 sz68 ((RdIn.own (j := 2) rfl) _ HS).2.2.1 c82.1 c82.2 rfl ?_
        refine GO.fin (fun a hs => ?_)
        exact ⟨_, _, _, _, (.pointer (some (ea A67 (((w64 (b_ + (w64 (2 * t57)))).toNat) * 2)))), _, _, _, _, by exact hs.setAt 4 rfl, HS, f0, f1, f2, f3, fun _ => rfl, f5, f6, f7, o4_0, o4_1⟩
       | 5, _ =>
        have hb4 : b 4 = true := hd 4 (by decide)
        obtain rfl := f4 hb4
        refine GO.at hs ?_
        refine GO.ldRdA (T := T_GEnd) (n := (w64 (b_ + (w64 (2 * t57)))).toNat) HS (RdIn.own (j := 2) rfl) rfl rfl (getD_eq (ltN c82) h84) ag68 rfl ?_
        refine GO.fin (fun a hs => ?_)
        exact ⟨_, _, _, _, _, (.agg [.int .i64 e83.crossing, .int .i64 e83.position].toArray), _, _, _, by exact hs.setAt 5 rfl, HS, f0, f1, f2, f3, f4, fun _ => rfl, f6, f7, o4_0, o4_1⟩
       | 6, _ =>
        refine GO.at hs ?_
        refine GO.move rfl rfl rfl ?_
        refine GO.fin (fun a hs => ?_)
        exact ⟨_, _, _, _, _, _, (.int .i64 a_), _, _, by exact hs.setAt 6 rfl, HS, f0, f1, f2, f3, f4, f5, fun _ => rfl, f7, o4_0, o4_1⟩
       | 7, _ =>
        have hb0 : b 0 = true := hd 0 (by decide)
        obtain rfl := f0 hb0
        have hb5 : b 5 = true := hd 5 (by decide)
        obtain rfl := f5 hb5
        have hb6 : b 6 = true := hd 6 (by decide)
        obtain rfl := f6 hb6
        obtain rfl := o4_0 hb
        refine GO.at hs ?_
        replace HS := HS.pk 8 [4, 0, 1, 2, 3, 5, 6, 7] rfl
        refine GO.fn rfl Try.func50 fok50.1 fok50.2 rfl rfl (impl_Diagram_set.calls HS  h86) (fun _ wd88 ⟨h89, HS⟩ => ⟨_, h89, ?_⟩)
        refine GO.fin (fun a hs => ?_)
        exact ⟨_, _, _, _, _, _, _, (.tuple #[]), Own T_GCrossing 58 A50 c51 (fun _ => ()) t85, by exact hs.setAt 7 rfl, HS.pk 8 [1, 2, 3, 4, 0, 5, 6, 7] rfl, f0, f1, f2, f3, f4, f5, f6, fun _ => rfl, fun h => Bool.noConfusion h, fun _ => rfl⟩
       | k + 8, hj => exact absurd hj (Nat.not_lt.2 (Nat.le_add_left 8 k))
      ·
       intro b a w hall
       refine exI fun Y10_0 => exI fun Y11_1 => exI fun Y12_2 => exI fun Y13_3 => exI fun Y14_4 => exI fun Y15_5 => exI fun Y16_6 => exI fun Y17_7 => exI fun O18_4 => anI fun hs => anI fun HS => anI fun f0 => anI fun f1 => anI fun f2 => anI fun f3 => anI fun f4 => anI fun f5 => anI fun f6 => anI fun f7 => anI fun o4_0 => fun o4_1 => ?_
       obtain rfl := f0 (hall 0 (by decide))
       obtain rfl := f1 (hall 1 (by decide))
       obtain rfl := f2 (hall 2 (by decide))
       obtain rfl := f3 (hall 3 (by decide))
       obtain rfl := f4 (hall 4 (by decide))
       obtain rfl := f5 (hall 5 (by decide))
       obtain rfl := f6 (hall 6 (by decide))
       obtain rfl := f7 (hall 7 (by decide))
       obtain rfl := o4_1 (hall 7 (by decide))
       refine G.at hs ?_
       replace HS := HS.boxEq (j := 3) (cs' := [.slice A50 t85.length c51, .int .i64 t48]) rfl (by simp only [List.length_set, c87] <;> rfl)
       refine G.seq ?_
       refine G.region ?_
       refine GO.ldBoxA (j := 3) ([.slice A50 t85.length c51, .int .i64 t48]) HS rfl rfl rfl rfl ag28 rfl ?_
       refine GO.stBox (j := 5) (vs := [.slice A50 t85.length c51, .int .i64 t48]) ([.slice A50 t85.length c51, .int .i64 t48]) HS rfl rfl rfl rfl rfl (htA ag28) rfl rfl rfl ?_; intro wd90 HS
       refine GO.assign rfl rfl rfl ?_
       refine GO.nil ?_
       obtain ⟨rfl, rfl, rfl⟩ := some3 H
       exact G.ret2 _ _ Try.func20 rfl (Res1.boxA (j := 5) (vs := [.slice A50 t85.length c51, .int .i64 t48]) HS rfl rfl rfl ag28) rfl ⟨_, _, rfl, (HS.pk 8 [4] rfl)⟩
    ·
     refine G.yesB rfl (congrArg Bool.not (bnot_of c46)) ?_
     refine G.seq ?_
     refine G.region ?_
     refine GO.buildV (.agg [.slice none 0 0, .int .i64 0].toArray) rfl rfl (fun _ => by kernel_rfl) rfl ?_
     refine GO.stBox (j := 0) (vs := [.slice none 0 0, .int .i64 0]) ([.slice none 0 0, .int .i64 0]) HS rfl rfl rfl rfl rfl (htA ag28) rfl rfl rfl ?_; intro wd91 HS
     refine GO.assign rfl rfl rfl ?_
     refine GO.nil ?_
     replace HS := HS.nilRow T_GCrossing 58 (fun _ => ())
     obtain ⟨rfl, rfl, rfl⟩ := some3 H
     exact G.ret2 _ _ Try.func20 rfl (Res1.boxA (j := 1) (vs := [.slice none 0 0, .int .i64 0]) HS rfl rfl rfl ag28) rfl ⟨_, _, rfl, (HS.pk 4 [0] rfl)⟩
   ·
    refine G.region ?_
    refine GO.move rfl rfl rfl ?_
    refine GO.fld (⟨b1, 0, none⟩) rfl rfl fl28_0 rfl rfl ?_
    refine GO.ldBox (j := 2) HS rfl rfl rfl rfl na26 rfl ?_
    refine GO.fn rfl Try.func56 fok56.1 fok56.2 rfl rfl (impl_size_impl_Crossing.calls HS (RdIn.drop 3 h_d_Crossings) h30) (fun _ wd31 ⟨h32, HS⟩ => ⟨_, h32, ?_⟩)
    refine GO.mul rfl rfl rfl rfl ?_
    refine GO.sub rfl rfl rfl rfl ?_
    refine GO.fn rfl Try.func47 fok47.1 fok47.2 rfl rfl (impl_inRange.calls HS  h34) (fun _ wd35 ⟨h36, HS⟩ => ⟨_, h36, ?_⟩)
    refine GO.not rfl rfl rfl ?_
    refine GO.move rfl rfl rfl ?_
    refine GO.known (t := 31) rfl (congrArg Bool.not (bnot_of c37)) ?_
    refine GO.off rfl rfl rfl rfl rfl rfl ?_
    refine GO.off rfl rfl rfl rfl rfl rfl ?_
    refine GO.off rfl rfl rfl rfl rfl rfl ?_
    refine GO.off rfl rfl rfl rfl rfl rfl ?_
    refine GO.off rfl rfl rfl rfl rfl rfl ?_
    refine GO.off rfl rfl rfl rfl rfl rfl ?_
    refine GO.off rfl rfl rfl rfl rfl rfl ?_
    refine GO.off rfl rfl rfl rfl rfl rfl ?_
    refine GO.pickT rfl rfl rfl rfl rfl ?_
    refine GO.assign rfl rfl rfl ?_
    refine GO.nil ?_
    refine G.yesB rfl rfl ?_
    refine G.seq ?_
    refine G.region ?_
    refine GO.buildV (.agg [.slice none 0 0, .int .i64 0].toArray) rfl rfl (fun _ => by kernel_rfl) rfl ?_
    refine GO.stBox (j := 0) (vs := [.slice none 0 0, .int .i64 0]) ([.slice none 0 0, .int .i64 0]) HS rfl rfl rfl rfl rfl (htA ag28) rfl rfl rfl ?_; intro wd92 HS
    refine GO.assign rfl rfl rfl ?_
    refine GO.nil ?_
    replace HS := HS.nilRow T_GCrossing 58 (fun _ => ())
    obtain ⟨rfl, rfl, rfl⟩ := some3 H
    exact G.ret2 _ _ Try.func20 rfl (Res1.boxA (j := 1) (vs := [.slice none 0 0, .int .i64 0]) HS rfl rfl rfl ag28) rfl ⟨_, _, rfl, (HS.pk 4 [0] rfl)⟩
  ·
   refine G.yesB rfl (congrArg Bool.not (decide_eq_false c11)) ?_
   refine G.seq ?_
   refine G.region ?_
   refine GO.buildV (.agg [.slice none 0 0, .int .i64 0].toArray) rfl rfl (fun _ => by kernel_rfl) rfl ?_
   refine GO.move rfl rfl rfl ?_
   refine GO.stBox (j := 0) (vs := [.slice none 0 0, .int .i64 0]) ([.slice none 0 0, .int .i64 0]) HS rfl rfl rfl rfl rfl (htA ag28) rfl rfl rfl ?_; intro wd93 HS
   refine GO.assign rfl rfl rfl ?_
   refine GO.nil ?_
   replace HS := HS.nilRow T_GCrossing 58 (fun _ => ())
   obtain ⟨rfl, rfl, rfl⟩ := some3 H
   exact G.ret2 _ _ Try.func20 rfl (Res1.boxA (j := 1) (vs := [.slice none 0 0, .int .i64 0]) HS rfl rfl rfl ag28) rfl ⟨_, _, rfl, (HS.pk 4 [0] rfl)⟩

set_option maxRecDepth 20000 in
set_option maxHeartbeats 40000000 in
theorem laws_eqCrossing.calls {w0 w : World} {L : List HObj} {a_A : Int} {a_B : Int} {a_C : Int} {a_D : Int} {a_Sign : Int} {b_A : Int} {b_B : Int} {b_C : Int} {b_D : Int} {b_Sign : Int} {r1 : Bool} (HS : St w0 w (L)) (H : laws_eqCrossing.f a_A a_B a_C a_D a_Sign b_A b_B b_C b_D b_Sign = some r1) :
    Calls Try.prog 114 #[.agg [.int .i64 a_A, .int .i64 a_B, .int .i64 a_C, .int .i64 a_D, .int .i64 a_Sign].toArray, .agg [.int .i64 b_A, .int .i64 b_B, .int .i64 b_C, .int .i64 b_D, .int .i64 b_Sign].toArray] w (laws_eqCrossing.post w0 L a_A a_B a_C a_D a_Sign b_A b_B b_C b_D b_Sign r1) := by
  unfold laws_eqCrossing.f at H
  refine Calls.of_G Try.func114 rfl rfl rfl ?_
  refine G.seq ?_
  refine G.region ?_
  refine GO.box (cs := [.int .i64 a_A, .int .i64 a_B, .int .i64 a_C, .int .i64 a_D, .int .i64 a_Sign]) HS rfl rfl rfl rfl ?_; intro b1 wd2 HS
  refine GO.box (cs := [.int .i64 b_A, .int .i64 b_B, .int .i64 b_C, .int .i64 b_D, .int .i64 b_Sign]) HS rfl rfl rfl rfl ?_; intro b3 wd4 HS
  refine GO.assign rfl rfl rfl ?_
  refine GO.nil ?_
  refine G.seq ?_
  refine G.seq ?_
  refine G.region ?_
  refine GO.fld (⟨b1, 0, none⟩) rfl rfl fl58_0 rfl rfl ?_
  refine GO.ldBox (j := 1) HS rfl rfl rfl rfl na2 rfl ?_
  refine GO.fld (⟨b3, 0, none⟩) rfl rfl fl58_0 rfl rfl ?_
  refine GO.ldBox (j := 0) HS rfl rfl rfl rfl na2 rfl ?_
  refine GO.neq rfl rfl rfl rfl ?_
  refine GO.nil ?_
  rcases ite_elim H with ⟨c5, H⟩ | ⟨c5, H⟩
  ·
   refine G.noB rfl (congrArg Bool.not (decide_eq_true c5)) ?_
   refine G.skip ?_
   refine G.seq ?_
   refine G.seq ?_
   refine G.region ?_
   refine GO.fld (⟨b1, 1, none⟩) rfl rfl fl58_1 rfl rfl ?_
   refine GO.ldBox (j := 1) HS rfl rfl rfl rfl na2 rfl ?_
   refine GO.fld (⟨b3, 1, none⟩) rfl rfl fl58_1 rfl rfl ?_
   refine GO.ldBox (j := 0) HS rfl rfl rfl rfl na2 rfl ?_
   refine GO.neq rfl rfl rfl rfl ?_
   refine GO.nil ?_
   rcases ite_elim H with ⟨c6, H⟩ | ⟨c6, H⟩
   ·
    refine G.noB rfl (congrArg Bool.not (decide_eq_true c6)) ?_
    refine G.skip ?_
    refine G.seq ?_
    refine G.seq ?_
    refine G.region ?_
    refine GO.fld (⟨b1, 2, none⟩) rfl rfl fl58_2 rfl rfl ?_
    refine GO.ldBox (j := 1) HS rfl rfl rfl rfl na2 rfl ?_
    refine GO.fld (⟨b3, 2, none⟩) rfl rfl fl58_2 rfl rfl ?_
    refine GO.ldBox (j := 0) HS rfl rfl rfl rfl na2 rfl ?_
    refine GO.neq rfl rfl rfl rfl ?_
    refine GO.nil ?_
    rcases ite_elim H with ⟨c7, H⟩ | ⟨c7, H⟩
    ·
     refine G.noB rfl (congrArg Bool.not (decide_eq_true c7)) ?_
     refine G.skip ?_
     refine G.seq ?_
     refine G.seq ?_
     refine G.region ?_
     refine GO.fld (⟨b1, 3, none⟩) rfl rfl fl58_3 rfl rfl ?_
     refine GO.ldBox (j := 1) HS rfl rfl rfl rfl na2 rfl ?_
     refine GO.fld (⟨b3, 3, none⟩) rfl rfl fl58_3 rfl rfl ?_
     refine GO.ldBox (j := 0) HS rfl rfl rfl rfl na2 rfl ?_
     refine GO.neq rfl rfl rfl rfl ?_
     refine GO.nil ?_
     rcases ite_elim H with ⟨c8, H⟩ | ⟨c8, H⟩
     ·
      refine G.noB rfl (congrArg Bool.not (decide_eq_true c8)) ?_
      refine G.skip ?_
      refine G.seq ?_
      refine G.seq ?_
      refine G.region ?_
      refine GO.fld (⟨b1, 4, none⟩) rfl rfl fl58_4 rfl rfl ?_
      refine GO.ldBox (j := 1) HS rfl rfl rfl rfl na2 rfl ?_
      refine GO.fld (⟨b3, 4, none⟩) rfl rfl fl58_4 rfl rfl ?_
      refine GO.ldBox (j := 0) HS rfl rfl rfl rfl na2 rfl ?_
      refine GO.neq rfl rfl rfl rfl ?_
      refine GO.nil ?_
      rcases ite_elim H with ⟨c9, H⟩ | ⟨c9, H⟩
      ·
       refine G.noB rfl (congrArg Bool.not (decide_eq_true c9)) ?_
       refine G.skip ?_
       refine G.seq ?_
       refine G.region ?_
       refine GO.assign rfl rfl rfl ?_
       refine GO.nil ?_
       obtain rfl := Option.some.inj H
       exact G.ret1 _ Try.func114 rfl rfl ⟨rfl, (HS.pk 2 [] rfl)⟩
      ·
       refine G.yesB rfl (congrArg Bool.not (decide_eq_false c9)) ?_
       refine G.seq ?_
       refine G.region ?_
       refine GO.assign rfl rfl rfl ?_
       refine GO.nil ?_
       obtain rfl := Option.some.inj H
       exact G.ret1 _ Try.func114 rfl rfl ⟨rfl, (HS.pk 2 [] rfl)⟩
     ·
      refine G.yesB rfl (congrArg Bool.not (decide_eq_false c8)) ?_
      refine G.seq ?_
      refine G.region ?_
      refine GO.assign rfl rfl rfl ?_
      refine GO.nil ?_
      obtain rfl := Option.some.inj H
      exact G.ret1 _ Try.func114 rfl rfl ⟨rfl, (HS.pk 2 [] rfl)⟩
    ·
     refine G.yesB rfl (congrArg Bool.not (decide_eq_false c7)) ?_
     refine G.seq ?_
     refine G.region ?_
     refine GO.assign rfl rfl rfl ?_
     refine GO.nil ?_
     obtain rfl := Option.some.inj H
     exact G.ret1 _ Try.func114 rfl rfl ⟨rfl, (HS.pk 2 [] rfl)⟩
   ·
    refine G.yesB rfl (congrArg Bool.not (decide_eq_false c6)) ?_
    refine G.seq ?_
    refine G.region ?_
    refine GO.assign rfl rfl rfl ?_
    refine GO.nil ?_
    obtain rfl := Option.some.inj H
    exact G.ret1 _ Try.func114 rfl rfl ⟨rfl, (HS.pk 2 [] rfl)⟩
  ·
   refine G.yesB rfl (congrArg Bool.not (decide_eq_false c5)) ?_
   refine G.seq ?_
   refine G.region ?_
   refine GO.assign rfl rfl rfl ?_
   refine GO.nil ?_
   obtain rfl := Option.some.inj H
   exact G.ret1 _ Try.func114 rfl rfl ⟨rfl, (HS.pk 2 [] rfl)⟩

set_option maxRecDepth 20000 in
set_option maxHeartbeats 40000000 in
theorem laws_eqCrossingS.calls {w0 w : World} {L : List HObj} {K : Nat} {a_ : List GCrossing} {b_ : List GCrossing} {A_a_ : Option Addr} {c_a_ : Nat} {A_b_ : Option Addr} {c_b_ : Nat} {r1 : Bool} (HS : St w0 w (L)) (h_a_ : RdIn w0 L T_GCrossing A_a_ c_a_ (fun _ => ()) a_) (h_b_ : RdIn w0 L T_GCrossing A_b_ c_b_ (fun _ => ()) b_) (H : laws_eqCrossingS.f K a_ b_ = some r1) :
    Calls Try.prog 51 #[.slice A_a_ a_.length c_a_, .slice A_b_ b_.length c_b_] w (laws_eqCrossingS.post w0 L a_ b_ A_a_ c_a_ A_b_ c_b_ r1) := by
  unfold laws_eqCrossingS.f at H
  refine Calls.of_G Try.func51 rfl rfl rfl ?_
  refine G.seq ?_
  refine G.region ?_
  refine GO.assign rfl rfl rfl ?_
  refine GO.nil ?_
  refine G.seq ?_
  refine G.seq ?_
  refine G.region ?_
  refine GO.move rfl rfl rfl ?_
  refine GO.lenS rfl rfl Try.underlying26 rfl ?_
  refine GO.move rfl rfl rfl ?_
  refine GO.lenS rfl rfl Try.underlying26 rfl ?_
  refine GO.neq rfl rfl rfl rfl ?_
  refine GO.nil ?_
  rcases ite_elim H with ⟨c1, H⟩ | ⟨c1, H⟩
  ·
   refine G.noB rfl (congrArg Bool.not (decide_eq_true c1)) ?_
   refine G.skip ?_
   refine G.seq ?_
   refine G.seq ?_
   refine G.region ?_
   refine GO.assign rfl rfl rfl ?_
   refine GO.nil ?_
   refine G.block ?_
   refine G.loop ?_
   refine G.name (fun k_l1 hk_l1 => ?_)
   have at_l1 : ∀ m_l1, m_l1 ≤ K → ∀ (i_14 : Int) (w : World), laws_eqCrossingS.l1 K m_l1 a_ b_ i_14 = some r1 → St w0 w (L) → G Try.prog 51 27 [(0, .slice A_a_ a_.length c_a_), (1, .slice A_b_ b_.length c_b_), (5, .int .i64 i_14)] k_l1 w (laws_eqCrossingS.post w0 L a_ b_ A_a_ c_a_ A_b_ c_b_ r1) := by
    intro m_l1
    induction m_l1 using Nat.strongRecOn with
    | _ m_l1 ih_l1 =>
     intro hm_l1 i_14 w H HS
     cases m_l1 with
     | zero => rw [laws_eqCrossingS.l1] at H; cases H
     | succ n_l1 =>
      rw [laws_eqCrossingS.l1] at H
      subst hk_l1
      refine G.seq ?_
      refine G.seq ?_
      refine G.region ?_
      refine GO.move rfl rfl rfl ?_
      refine GO.move rfl rfl rfl ?_
      refine GO.lenS rfl rfl Try.underlying26 rfl ?_
      refine GO.lss rfl rfl rfl rfl ?_
      refine GO.nil ?_
      rcases ite_elim H with ⟨c27, H⟩ | ⟨c27, H⟩
      ·
       refine G.yesB rfl (decide_eq_true c27) ?_
       refine G.skip ?_
       refine G.seq ?_
       refine G.block ?_
       refine G.seq ?_
       obtain ⟨c28, H⟩ := ite_none H
       obtain ⟨e29, h30, H⟩ := bnd_elim H
       obtain ⟨c31, H⟩ := ite_none H
       obtain ⟨e32, h33, H⟩ := bnd_elim H
       obtain ⟨t34, h35, H⟩ := Option.bind_eq_some_iff.1 H
       refine G.regionAny mixed (by decide) (fun b a w => ∃ (Y1_0 : Value) (Y2_1 : Value) (Y3_2 : Value) (Y4_3 : Value) (Y5_4 : Value) (Y6_5 : Value) (Y7_6 : Value) (Y8_7 : Value) (Y9_8 : Value) (Y10_9 : Value), Sat 27 [(17, Y1_0), (18, Y2_1), (19, Y3_2), (20, Y4_3), (21, Y5_4), (22, Y6_5), (23, Y7_6), (24, Y8_7), (25, Y9_8), (26, Y10_9), (0, .slice A_a_ a_.length c_a_), (1, .slice A_b_ b_.length c_b_), (5, .int .i64 i_14)] a ∧ St w0 w (L) ∧ (b 0 = true → Y1_0 = (.slice A_a_ a_.length c_a_)) ∧ (b 1 = true → Y2_1 = (.int .i64 i_14)) ∧ (b 2 = true → Y3_2 = (.pointer (some (ea A_a_ (i_14.toNat * 5))))) ∧ (b 3 = true → Y4_3 = (.agg [.int .i64 e29.A, .int .i64 e29.B, .int .i64 e29.C, .int .i64 e29.D, .int .i64 e29.Sign].toArray)) ∧ (b 4 = true → Y5_4 = (.slice A_b_ b_.length c_b_)) ∧ (b 5 = true → Y6_5 = (.int .i64 i_14)) ∧ (b 6 = true → Y7_6 = (.pointer (some (ea A_b_ (i_14.toNat * 5))))) ∧ (b 7 = true → Y8_7 = (.agg [.int .i64 e32.A, .int .i64 e32.B, .int .i64 e32.C, .int .i64 e32.D, .int .i64 e32.Sign].toArray)) ∧ (b 8 = true → Y9_8 = (.bool t34)) ∧ (b 9 = true → Y10_9 = (.bool (!t34)))) ?_ ?_ ?_
       ·
        intro a hs
        obtain ⟨Y1_0, hs⟩ := hs.ext (d := 17) rfl
        obtain ⟨Y2_1, hs⟩ := hs.ext (d := 18) rfl
        obtain ⟨Y3_2, hs⟩ := hs.ext (d := 19) rfl
        obtain ⟨Y4_3, hs⟩ := hs.ext (d := 20) rfl
        obtain ⟨Y5_4, hs⟩ := hs.ext (d := 21) rfl
        obtain ⟨Y6_5, hs⟩ := hs.ext (d := 22) rfl
        obtain ⟨Y7_6, hs⟩ := hs.ext (d := 23) rfl
        obtain ⟨Y8_7, hs⟩ := hs.ext (d := 24) rfl
        obtain ⟨Y9_8, hs⟩ := hs.ext (d := 25) rfl
        obtain ⟨Y10_9, hs⟩ := hs.ext (d := 26) rfl
        exact ⟨Y1_0, Y2_1, Y3_2, Y4_3, Y5_4, Y6_5, Y7_6, Y8_7, Y9_8, Y10_9, hs.weak ⟨rfl, rfl, rfl, rfl, rfl, rfl, rfl, rfl, rfl, rfl, rfl, rfl, rfl, trivial⟩, (HS.drew.pk 0 [] rfl), fun h => Bool.noConfusion h, fun h => Bool.noConfusion h, fun h => Bool.noConfusion h, fun h => Bool.noConfusion h, fun h => Bool.noConfusion h, fun h => Bool.noConfusion h, fun h => Bool.noConfusion h, fun h => Bool.noConfusion h, fun h => Bool.noConfusion h, fun h => Bool.noConfusion h⟩
       ·
        intro j hj b a w
        refine exI fun Y1_0 => exI fun Y2_1 => exI fun Y3_2 => exI fun Y4_3 => exI fun Y5_4 => exI fun Y6_5 => exI fun Y7_6 => exI fun Y8_7 => exI fun Y9_8 => exI fun Y10_9 => anI fun hs => anI fun HS => anI fun f0 => anI fun f1 => anI fun f2 => anI fun f3 => anI fun f4 => anI fun f5 => anI fun f6 => anI fun f7 => anI fun f8 => fun f9 hb hd hcl => ?_
        match j, hj with
        | 0, _ =>
         refine GO.at hs ?_
         refine GO.move rfl rfl rfl ?_
         refine GO.fin (fun a hs => ?_)
         exact ⟨(.slice A_a_ a_.length c_a_), _, _, _, _, _, _, _, _, _, by exact hs.setAt 0 rfl, HS, fun _ => rfl, f1, f2, f3, f4, f5, f6, f7, f8, f9⟩
        | 1, _ =>
         refine GO.at hs ?_
         refine GO.move rfl rfl rfl ?_
         refine GO.fin (fun a hs => ?_)
         exact ⟨_, (.int .i64 i_14), _, _, _, _, _, _, _, _, by exact hs.setAt 1 rfl, HS, f0, fun _ => rfl, f2, f3, f4, f5, f6, f7, f8, f9⟩
        | 2, _ =>
         have hb0 : b 0 = true := hd 0 (by decide)
         obtain rfl := f0 hb0
         have hb1 : b 1 = true := hd 1 (by decide)
         obtain rfl := f1 hb1
         refine GO.at hs ?_
         refine GO.ix rfl rfl rfl Try.underlying26 sz58 (h_a_ _ HS).2.2.1 c28.1 c28.2 rfl ?_
         refine GO.fin (fun a hs => ?_)
         exact ⟨_, _, (.pointer (some (ea A_a_ (i_14.toNat * 5)))), _, _, _, _, _, _, _, by exact hs.setAt 2 rfl, HS, f0, f1, fun _ => rfl, f3, f4, f5, f6, f7, f8, f9⟩
        | 3, _ =>
         have hb2 : b 2 = true := hd 2 (by decide)
         obtain rfl := f2 hb2
         refine GO.at hs ?_
         refine GO.ldRdA (T := T_GCrossing) (n := i_14.toNat) HS h_a_ rfl rfl (getD_eq (ltN c28) h30) ag58 rfl ?_
         refine GO.fin (fun a hs => ?_)
         exact ⟨_, _, _, (.agg [.int .i64 e29.A, .int .i64 e29.B, .int .i64 e29.C, .int .i64 e29.D, .int .i64 e29.Sign].toArray), _, _, _, _, _, _, by exact hs.setAt 3 rfl, HS, f0, f1, f2, fun _ => rfl, f4, f5, f6, f7, f8, f9⟩
        | 4, _ =>
         refine GO.at hs ?_
         refine GO.move rfl rfl rfl ?_
         refine GO.fin (fun a hs => ?_)
         exact ⟨_, _, _, _, (.slice A_b_ b_.length c_b_), _, _, _, _, _, by exact hs.setAt 4 rfl, HS, f0, f1, f2, f3, fun _ => rfl, f5, f6, f7, f8, f9⟩
        | 5, _ =>
         refine GO.at hs ?_
         refine GO.move rfl rfl rfl ?_
         refine GO.fin (fun a hs => ?_)
         exact ⟨_, _, _, _, _, (.int .i64 i_14), _, _, _, _, by exact hs.setAt 5 rfl, HS, f0, f1, f2, f3, f4, fun _ => rfl, f6, f7, f8, f9⟩
        | 6, _ =>
         have hb4 : b 4 = true := hd 4 (by decide)
         obtain rfl := f4 hb4
         have hb5 : b 5 = true := hd 5 (by decide)
         obtain rfl := f5 hb5
         refine GO.at hs ?_
         refine GO.ix rfl rfl rfl Try.underlying26 sz58 (h_b_ _ HS).2.2.1 c31.1 c31.2 rfl ?_
         refine GO.fin (fun a hs => ?_)
         exact ⟨_, _, _, _, _, _, (.pointer (some (ea A_b_ (i_14.toNat * 5)))), _, _, _, by exact hs.setAt 6 rfl, HS, f0, f1, f2, f3, f4, f5, fun _ => rfl, f7, f8, f9⟩
        | 7, _ =>
         have hb6 : b 6 = true := hd 6 (by decide)
         obtain rfl := f6 hb6
         refine GO.at hs ?_
         refine GO.ldRdA (T := T_GCrossing) (n := i_14.toNat) HS h_b_ rfl rfl (getD_eq (ltN c31) h33) ag58 rfl ?_
         refine GO.fin (fun a hs => ?_)
         exact ⟨_, _, _, _, _, _, _, (.agg [.int .i64 e32.A, .int .i64 e32.B, .int .i64 e32.C, .int .i64 e32.D, .int .i64 e32.Sign].toArray), _, _, by exact hs.setAt 7 rfl, HS, f0, f1, f2, f3, f4, f5, f6, fun _ => rfl, f8, f9⟩
        | 8, _ =>
         have hb3 : b 3 = true := hd 3 (by decide)
         obtain rfl := f3 hb3
         have hb7 : b 7 = true := hd 7 (by decide)
         obtain rfl := f7 hb7
         refine GO.at hs ?_
         refine GO.fn rfl Try.func114 fok114.1 fok114.2 rfl rfl (laws_eqCrossing.calls HS  h35) (fun _ wd36 ⟨h37, HS⟩ => ⟨_, h37, ?_⟩)
         refine GO.fin (fun a hs => ?_)
         exact ⟨_, _, _, _, _, _, _, _, (.bool t34), _, by exact hs.setAt 8 rfl, HS, f0, f1, f2, f3, f4, f5, f6, f7, fun _ => rfl, f9⟩
        | 9, _ =>
         have hb8 : b 8 = true := hd 8 (by decide)
         obtain rfl := f8 hb8
         refine GO.at hs ?_
         refine GO.not rfl rfl rfl ?_
         refine GO.fin (fun a hs => ?_)
         exact ⟨_, _, _, _, _, _, _, _, _, (.bool (!t34)), by exact hs.setAt 9 rfl, HS, f0, f1, f2, f3, f4, f5, f6, f7, f8, fun _ => rfl⟩
        | k + 10, hj => exact absurd hj (Nat.not_lt.2 (Nat.le_add_left 10 k))
       ·
        intro b a w hall
        refine exI fun Y1_0 => exI fun Y2_1 => exI fun Y3_2 => exI fun Y4_3 => exI fun Y5_4 => exI fun Y6_5 => exI fun Y7_6 => exI fun Y8_7 => exI fun Y9_8 => exI fun Y10_9 => anI fun hs => anI fun HS => anI fun f0 => anI fun f1 => anI fun f2 => anI fun f3 => anI fun f4 => anI fun f5 => anI fun f6 => anI fun f7 => anI fun f8 => fun f9 => ?_
        obtain rfl := f0 (hall 0 (by decide))
        obtain rfl := f1 (hall 1 (by decide))
        obtain rfl := f2 (hall 2 (by decide))
        obtain rfl := f3 (hall 3 (by decide))
        obtain rfl := f4 (hall 4 (by decide))
        obtain rfl := f5 (hall 5 (by decide))
        obtain rfl := f6 (hall 6 (by decide))
        obtain rfl := f7 (hall 7 (by decide))
        obtain rfl := f8 (hall 8 (by decide))
        obtain rfl := f9 (hall 9 (by decide))
        refine G.at hs ?_
        rcases ite_elim H with ⟨c38, H⟩ | ⟨c38, H⟩
        ·
         refine G.noB rfl (congrArg Bool.not c38) ?_
         refine G.skip ?_
         refine G.blockEnd ?_
         refine G.region ?_
         refine GO.move rfl rfl rfl ?_
         refine GO.add rfl rfl rfl rfl ?_
         refine GO.assign rfl rfl rfl ?_
         refine GO.nil ?_
         refine G.again ?_
         refine G.weak ?_ (ih_l1 n_l1 (Nat.lt_succ_of_le (Nat.le_refl _)) (Nat.le_of_succ_le hm_l1) _ _ H HS)
         exact ⟨rfl, rfl, rfl, trivial⟩
        ·
         refine G.yesB rfl (congrArg Bool.not (bnot_of c38)) ?_
         refine G.seq ?_
         refine G.region ?_
         refine GO.assign rfl rfl rfl ?_
         refine GO.nil ?_
         obtain rfl := Option.some.inj H
         exact G.ret1 _ Try.func51 rfl rfl ⟨rfl, HS⟩
      ·
       refine G.noB rfl (decide_eq_false c27) ?_
       refine G.exit rfl ?_
       refine G.seq ?_
       refine G.region ?_
       refine GO.assign rfl rfl rfl ?_
       refine GO.nil ?_
       obtain rfl := Option.some.inj H
       exact G.ret1 _ Try.func51 rfl rfl ⟨rfl, HS⟩
   refine G.weak ?_ (at_l1 K (Nat.le_refl _) _ _ H HS)
   exact ⟨rfl, rfl, rfl, trivial⟩
  ·
   refine G.yesB rfl (congrArg Bool.not (decide_eq_false c1)) ?_
   refine G.seq ?_
   refine G.region ?_
   refine GO.assign rfl rfl rfl ?_
   refine GO.nil ?_
   obtain rfl := Option.some.inj H
   exact G.ret1 _ Try.func51 rfl rfl ⟨rfl, HS⟩

set_option maxRecDepth 20000 in
set_option maxHeartbeats 40000000 in
theorem laws_eqDiagram.calls {w0 w : World} {L : List HObj} {K : Nat} {a_Crossings : List GCrossing} {a_Circles : Int} {b_Crossings : List GCrossing} {b_Circles : Int} {A_a_Crossings : Option Addr} {c_a_Crossings : Nat} {A_b_Crossings : Option Addr} {c_b_Crossings : Nat} {r1 : Bool} (HS : St w0 w (L)) (h_a_Crossings : RdIn w0 L T_GCrossing A_a_Crossings c_a_Crossings (fun _ => ()) a_Crossings) (h_b_Crossings : RdIn w0 L T_GCrossing A_b_Crossings c_b_Crossings (fun _ => ()) b_Crossings) (H : laws_eqDiagram.f K a_Crossings a_Circles b_Crossings b_Circles = some r1) :
    Calls Try.prog 16 #[.agg [.slice A_a_Crossings a_Crossings.length c_a_Crossings, .int .i64 a_Circles].toArray, .agg [.slice A_b_Crossings b_Crossings.length c_b_Crossings, .int .i64 b_Circles].toArray] w (laws_eqDiagram.post w0 L a_Crossings a_Circles b_Crossings b_Circles A_a_Crossings c_a_Crossings A_b_Crossings c_b_Crossings r1) := by
  unfold laws_eqDiagram.f at H
  refine Calls.of_G Try.func16 rfl rfl rfl ?_
  refine G.seq ?_
  refine G.region ?_
  refine GO.box (cs := [.slice A_a_Crossings a_Crossings.length c_a_Crossings, .int .i64 a_Circles]) HS rfl rfl rfl rfl ?_; intro b1 wd2 HS
  refine GO.box (cs := [.slice A_b_Crossings b_Crossings.length c_b_Crossings, .int .i64 b_Circles]) HS rfl rfl rfl rfl ?_; intro b3 wd4 HS
  refine GO.assign rfl rfl rfl ?_
  refine GO.nil ?_
  refine G.seq ?_
  refine G.seq ?_
  obtain ⟨t5, h6, H⟩ := Option.bind_eq_some_iff.1 H
  refine G.region ?_
  refine GO.fld (⟨b1, 0, none⟩) rfl rfl fl28_0 rfl rfl ?_
  refine GO.ldBox (j := 1) HS rfl rfl rfl rfl na26 rfl ?_
  refine GO.fld (⟨b3, 0, none⟩) rfl rfl fl28_0 rfl rfl ?_
  refine GO.ldBox (j := 0) HS rfl rfl rfl rfl na26 rfl ?_
  refine GO.fn rfl Try.func51 fok51.1 fok51.2 rfl rfl (laws_eqCrossingS.calls HS (RdIn.drop 2 h_a_Crossings) (RdIn.drop 2 h_b_Crossings) h6) (fun _ wd7 ⟨h8, HS⟩ => ⟨_, h8, ?_⟩)
  refine GO.not rfl rfl rfl ?_
  refine GO.nil ?_
  rcases ite_elim H with ⟨c9, H⟩ | ⟨c9, H⟩
  ·
   refine G.noB rfl (congrArg Bool.not c9) ?_
   refine G.skip ?_
   refine G.seq ?_
   refine G.seq ?_
   refine G.region ?_
   refine GO.fld (⟨b1, 1, none⟩) rfl rfl fl28_1 rfl rfl ?_
   refine GO.ldBox (j := 1) HS rfl rfl rfl rfl na2 rfl ?_
   refine GO.fld (⟨b3, 1, none⟩) rfl rfl fl28_1 rfl rfl ?_
   refine GO.ldBox (j := 0) HS rfl rfl rfl rfl na2 rfl ?_
   refine GO.neq rfl rfl rfl rfl ?_
   refine GO.nil ?_
   rcases ite_elim H with ⟨c10, H⟩ | ⟨c10, H⟩
   ·
    refine G.noB rfl (congrArg Bool.not (decide_eq_true c10)) ?_
    refine G.skip ?_
    refine G.seq ?_
    refine G.region ?_
    refine GO.assign rfl rfl rfl ?_
    refine GO.nil ?_
    obtain rfl := Option.some.inj H
    exact G.ret1 _ Try.func16 rfl rfl ⟨rfl, (HS.pk 2 [] rfl)⟩
   ·
    refine G.yesB rfl (congrArg Bool.not (decide_eq_false c10)) ?_
    refine G.seq ?_
    refine G.region ?_
    refine GO.assign rfl rfl rfl ?_
    refine GO.nil ?_
    obtain rfl := Option.some.inj H
    exact G.ret1 _ Try.func16 rfl rfl ⟨rfl, (HS.pk 2 [] rfl)⟩
  ·
   refine G.yesB rfl (congrArg Bool.not (bnot_of c9)) ?_
   refine G.seq ?_
   refine G.region ?_
   refine GO.assign rfl rfl rfl ?_
   refine GO.nil ?_
   obtain rfl := Option.some.inj H
   exact G.ret1 _ Try.func16 rfl rfl ⟨rfl, (HS.pk 2 [] rfl)⟩

set_option maxRecDepth 20000 in
set_option maxHeartbeats 40000000 in
theorem laws_markCrossingS.calls {w0 w : World} {L : List HObj} {K : Nat} {a_ : List GCrossing} {k_ : Int} {A_a_ : Option Addr} {c_a_ : Nat} {r1 : Int} {r2 : List GCrossing} (HS : St w0 w (Own T_GCrossing 58 A_a_ c_a_ (fun _ => ()) a_ :: L)) (H : laws_markCrossingS.f K a_ k_ = some (r1, r2)) :
    Calls Try.prog 52 #[.slice A_a_ a_.length c_a_, .int .i64 k_] w (laws_markCrossingS.post w0 L a_ k_ A_a_ c_a_ r1 r2) := by
  unfold laws_markCrossingS.f at H
  refine Calls.of_G Try.func52 rfl rfl rfl ?_
  refine G.seq ?_
  refine G.region ?_
  refine GO.assign rfl rfl rfl ?_
  refine GO.nil ?_
  refine G.seq ?_
  refine G.seq ?_
  refine G.region ?_
  refine GO.assign rfl rfl rfl ?_
  refine GO.nil ?_
  refine G.block ?_
  refine G.loop ?_
  refine G.name (fun k_l1 hk_l1 => ?_)
  have at_l1 : ∀ m_l1, m_l1 ≤ K → ∀ (x22 : List GCrossing) (k_23 : Int) (i_24 : Int) (w : World), laws_markCrossingS.l1 K m_l1 x22 k_23 i_24 = some (r1, r2) → St w0 w (Own T_GCrossing 58 A_a_ c_a_ (fun _ => ()) x22 :: L) → G Try.prog 52 48 [(0, .slice A_a_ x22.length c_a_), (1, .int .i64 k_23), (5, .int .i64 i_24)] k_l1 w (laws_markCrossingS.post w0 L a_ k_ A_a_ c_a_ r1 r2) := by
   intro m_l1
   induction m_l1 using Nat.strongRecOn with
   | _ m_l1 ih_l1 =>
    intro hm_l1 x22 k_23 i_24 w H HS
    cases m_l1 with
    | zero => rw [laws_markCrossingS.l1] at H; cases H
    | succ n_l1 =>
     rw [laws_markCrossingS.l1] at H
     subst hk_l1
     refine G.seq ?_
     refine G.seq ?_
     refine G.region ?_
     refine GO.move rfl rfl rfl ?_
     refine GO.move rfl rfl rfl ?_
     refine GO.lenS rfl rfl Try.underlying26 rfl ?_
     refine GO.lss rfl rfl rfl rfl ?_
     refine GO.nil ?_
     rcases ite_elim H with ⟨c46, H⟩ | ⟨c46, H⟩
     ·
      refine G.yesB rfl (decide_eq_true c46) ?_
      refine G.skip ?_
      refine G.seq ?_
      refine G.block ?_
      refine G.seq ?_
      obtain ⟨c47, H⟩ := ite_none H
      obtain ⟨e49, h50, H⟩ := bnd_elim H
      refine G.region ?_
      refine GO.move rfl rfl rfl ?_
      refine GO.move rfl rfl rfl ?_
      refine GO.move rfl rfl rfl ?_
      refine GO.ix rfl rfl rfl Try.underlying26 sz58 ((RdIn.own (j := 0) rfl) _ HS).2.2.1 c47.1 c47.2 rfl ?_
      refine GO.fld (ea A_a_ (i_24.toNat * 5)) rfl rfl fl58_0 rfl rfl ?_
      refine GO.stRow (T := T_GCrossing) (j := 0) (n := i_24.toNat) (o := 0) (vs := [.int .i64 k_23]) ({ e49 with A := k_23 }) HS rfl flat_flat rfl rfl rfl rfl (htN na2 rfl) rfl (getD_eq (ltN c47) h50) rfl rfl ?_; intro wd48 HS
      refine GO.nil ?_
      refine G.len (t := 0) (m := (x22.set i_24.toNat ({ e49 with A := k_23 })).length) rfl (by simp only [List.length_set] <;> rfl) ?_
      refine G.seq ?_
      refine G.region ?_
      refine GO.move rfl rfl rfl ?_
      refine GO.add rfl rfl rfl rfl ?_
      refine GO.assign rfl rfl rfl ?_
      refine GO.nil ?_
      refine G.seq ?_
      obtain ⟨c51, H⟩ := ite_none H
      obtain ⟨e53, h54, H⟩ := bnd_elim H
      refine G.region ?_
      refine GO.move rfl rfl rfl ?_
      refine GO.move rfl rfl rfl ?_
      refine GO.move rfl rfl rfl ?_
      refine GO.ix rfl rfl rfl Try.underlying26 sz58 ((RdIn.own (j := 0) rfl) _ HS).2.2.1 c51.1 c51.2 rfl ?_
      refine GO.fld (ea A_a_ (i_24.toNat * 5 + 1)) rfl rfl fl58_1 (ea_add _ _ _) rfl ?_
      refine GO.stRow (T := T_GCrossing) (j := 0) (n := i_24.toNat) (o := 1) (vs := [.int .i64 (w64 (k_23 + 1))]) ({ e53 with B := w64 (k_23 + 1) }) HS rfl flat_flat rfl rfl rfl rfl (htN na2 rfl) rfl (getD_eq (ltN c51) h54) rfl rfl ?_; intro wd52 HS
      refine GO.nil ?_
      refine G.len (t := 0) (m := ((x22.set i_24.toNat ({ e49 with A := k_23 })).set i_24.toNat ({ e53 with B := w64 (k_23 + 1) })).length) rfl (by simp only [List.length_set] <;> rfl) ?_
      refine G.seq ?_
      refine G.region ?_
      refine GO.move rfl rfl rfl ?_
      refine GO.add rfl rfl rfl rfl ?_
      refine GO.assign rfl rfl rfl ?_
      refine GO.nil ?_
      refine G.seq ?_
      obtain ⟨c55, H⟩ := ite_none H
      obtain ⟨e57, h58, H⟩ := bnd_elim H
      refine G.region ?_
      refine GO.move rfl rfl rfl ?_
      refine GO.move rfl rfl rfl ?_
      refine GO.move rfl rfl rfl ?_
      refine GO.ix rfl rfl rfl Try.underlying26 sz58 ((RdIn.own (j := 0) rfl) _ HS).2.2.1 c55.1 c55.2 rfl ?_
      refine GO.fld (ea A_a_ (i_24.toNat * 5 + 2)) rfl rfl fl58_2 (ea_add _ _ _) rfl ?_
      refine GO.stRow (T := T_GCrossing) (j := 0) (n := i_24.toNat) (o := 2) (vs := [.int .i64 (w64 ((w64 (k_23 + 1)) + 1))]) ({ e57 with C := w64 ((w64 (k_23 + 1)) + 1) }) HS rfl flat_flat rfl rfl rfl rfl (htN na2 rfl) rfl (getD_eq (ltN c55) h58) rfl rfl ?_; intro wd56 HS
      refine GO.nil ?_
      refine G.len (t := 0) (m := (((x22.set i_24.toNat ({ e49 with A := k_23 })).set i_24.toNat ({ e53 with B := w64 (k_23 + 1) })).set i_24.toNat ({ e57 with C := w64 ((w64 (k_23 + 1)) + 1) })).length) rfl (by simp only [List.length_set] <;> rfl) ?_
      refine G.seq ?_
      refine G.region ?_
      refine GO.move rfl rfl rfl ?_
      refine GO.add rfl rfl rfl rfl ?_
      refine GO.assign rfl rfl rfl ?_
      refine GO.nil ?_
      refine G.seq ?_
      obtain ⟨c59, H⟩ := ite_none H
      obtain ⟨e61, h62, H⟩ := bnd_elim H
      refine G.region ?_
      refine GO.move rfl rfl rfl ?_
      refine GO.move rfl rfl rfl ?_
      refine GO.move rfl rfl rfl ?_
      refine GO.ix rfl rfl rfl Try.underlying26 sz58 ((RdIn.own (j := 0) rfl) _ HS).2.2.1 c59.1 c59.2 rfl ?_
      refine GO.fld (ea A_a_ (i_24.toNat * 5 + 3)) rfl rfl fl58_3 (ea_add _ _ _) rfl ?_
      refine GO.stRow (T := T_GCrossing) (j := 0) (n := i_24.toNat) (o := 3) (vs := [.int .i64 (w64 ((w64 ((w64 (k_23 + 1)) + 1)) + 1))]) ({ e61 with D := w64 ((w64 ((w64 (k_23 + 1)) + 1)) + 1) }) HS rfl flat_flat rfl rfl rfl rfl (htN na2 rfl) rfl (getD_eq (ltN c59) h62) rfl rfl ?_; intro wd60 HS
      refine GO.nil ?_
      refine G.len (t := 0) (m := ((((x22.set i_24.toNat ({ e49 with A := k_23 })).set i_24.toNat ({ e53 with B := w64 (k_23 + 1) })).set i_24.toNat ({ e57 with C := w64 ((w64 (k_23 + 1)) + 1) })).set i_24.toNat ({ e61 with D := w64 ((w64 ((w64 (k_23 + 1)) + 1)) + 1) })).length) rfl (by simp only [List.length_set] <;> rfl) ?_
      refine G.seq ?_
      refine G.region ?_
      refine GO.move rfl rfl rfl ?_
      refine GO.add rfl rfl rfl rfl ?_
      refine GO.assign rfl rfl rfl ?_
      refine GO.nil ?_
      refine G.seq ?_
      obtain ⟨c63, H⟩ := ite_none H
      obtain ⟨e65, h66, H⟩ := bnd_elim H
      refine G.region ?_
      refine GO.move rfl rfl rfl ?_
      refine GO.move rfl rfl rfl ?_
      refine GO.move rfl rfl rfl ?_
      refine GO.ix rfl rfl rfl Try.underlying26 sz58 ((RdIn.own (j := 0) rfl) _ HS).2.2.1 c63.1 c63.2 rfl ?_
      refine GO.fld (ea A_a_ (i_24.toNat * 5 + 4)) rfl rfl fl58_4 (ea_add _ _ _) rfl ?_
      refine GO.stRow (T := T_GCrossing) (j := 0) (n := i_24.toNat) (o := 4) (vs := [.int .i64 (w64 ((w64 ((w64 ((w64 (k_23 + 1)) + 1)) + 1)) + 1))]) ({ e65 with Sign := w64 ((w64 ((w64 ((w64 (k_23 + 1)) + 1)) + 1)) + 1) }) HS rfl flat_flat rfl rfl rfl rfl (htN na2 rfl) rfl (getD_eq (ltN c63) h66) rfl rfl ?_; intro wd64 HS
      refine GO.nil ?_
      refine G.len (t := 0) (m := (((((x22.set i_24.toNat ({ e49 with A := k_23 })).set i_24.toNat ({ e53 with B := w64 (k_23 + 1) })).set i_24.toNat ({ e57 with C := w64 ((w64 (k_23 + 1)) + 1) })).set i_24.toNat ({ e61 with D := w64 ((w64 ((w64 (k_23 + 1)) + 1)) + 1) })).set i_24.toNat ({ e65 with Sign := w64 ((w64 ((w64 ((w64 (k_23 + 1)) + 1)) + 1)) + 1) })).length) rfl (by simp only [List.length_set] <;> rfl) ?_
      refine G.region ?_
      refine GO.move rfl rfl rfl ?_
      refine GO.add rfl rfl rfl rfl ?_
      refine GO.assign rfl rfl rfl ?_
      refine GO.nil ?_
      refine G.blockEnd ?_
      refine G.region ?_
      refine GO.move rfl rfl rfl ?_
      refine GO.add rfl rfl rfl rfl ?_
      refine GO.assign rfl rfl rfl ?_
      refine GO.nil ?_
      refine G.again ?_
      refine G.weak ?_ (ih_l1 n_l1 (Nat.lt_succ_of_le (Nat.le_refl _)) (Nat.le_of_succ_le hm_l1) _ _ _ _ H HS)
      exact ⟨rfl, rfl, rfl, trivial⟩
     ·
      refine G.noB rfl (decide_eq_false c46) ?_
      refine G.exit rfl ?_
      refine G.seq ?_
      refine G.region ?_
      refine GO.move rfl rfl rfl ?_
      refine GO.assign rfl rfl rfl ?_
      refine GO.nil ?_
      obtain ⟨rfl, rfl⟩ := some2 H
      exact G.ret1 _ Try.func52 rfl rfl ⟨rfl, HS⟩
  refine G.weak ?_ (at_l1 K (Nat.le_refl _) _ _ _ _ H HS)
  exact ⟨rfl, rfl, rfl, trivial⟩

set_option maxRecDepth 20000 in
set_option maxHeartbeats 40000000 in
theorem laws_markDiagram.calls {w0 w : World} {L : List HObj} {K : Nat} {a_Crossings : List GCrossing} {a_Circles : Int} {k_ : Int} {A_a_Crossings : Option Addr} {c_a_Crossings : Nat} {r1 : Int} {r2 : List GCrossing} (HS : St w0 w (Own T_GCrossing 58 A_a_Crossings c_a_Crossings (fun _ => ()) a_Crossings :: L)) (H : laws_markDiagram.f K a_Crossings a_Circles k_ = some (r1, r2)) :
    Calls Try.prog 17 #[.agg [.slice A_a_Crossings a_Crossings.length c_a_Crossings, .int .i64 a_Circles].toArray, .int .i64 k_] w (laws_markDiagram.post w0 L a_Crossings a_Circles k_ A_a_Crossings c_a_Crossings r1 r2) := by
  unfold laws_markDiagram.f at H
  refine Calls.of_G Try.func17 rfl rfl rfl ?_
  refine G.seq ?_
  refine G.region ?_
  refine GO.box (cs := [.slice A_a_Crossings a_Crossings.length c_a_Crossings, .int .i64 a_Circles]) HS rfl rfl rfl rfl ?_; intro b1 wd2 HS
  refine GO.assign rfl rfl rfl ?_
  refine GO.nil ?_
  refine G.seq ?_
  obtain ⟨t3, t4, h5, H⟩ := bind2_elim H
  obtain ⟨c6, H⟩ := ite_none H
  refine G.region ?_
  refine GO.fld (⟨b1, 0, none⟩) rfl rfl fl28_0 rfl rfl ?_
  refine GO.ldBox (j := 0) HS rfl rfl rfl rfl na26 rfl ?_
  refine GO.move rfl rfl rfl ?_
  replace HS := HS.pk 2 [1, 0] rfl
  refine GO.fn rfl Try.func52 fok52.1 fok52.2 rfl rfl (laws_markCrossingS.calls HS  h5) (fun _ wd7 ⟨h8, HS⟩ => ⟨_, h8, ?_⟩)
  refine GO.assign rfl rfl rfl ?_
  refine GO.nil ?_
  replace HS := HS.boxEq (j := 1) (cs' := [.slice A_a_Crossings t4.length c_a_Crossings, .int .i64 a_Circles]) rfl (by simp only [List.length_set, c6] <;> rfl)
  refine G.seq ?_
  refine G.region ?_
  refine GO.move rfl rfl rfl ?_
  refine GO.assign rfl rfl rfl ?_
  refine GO.nil ?_
  obtain ⟨rfl, rfl⟩ := some2 H
  exact G.ret1 _ Try.func17 rfl rfl ⟨rfl, (HS.pk 2 [0] rfl)⟩

set_option maxRecDepth 20000 in
set_option maxHeartbeats 40000000 in
theorem laws_heldCrossingS.calls {w0 w : World} {L : List HObj} {K : Nat} {a_ : List GCrossing} {k_ : Int} {A_a_ : Option Addr} {c_a_ : Nat} {r1 : Int} (HS : St w0 w (L)) (h_a_ : RdIn w0 L T_GCrossing A_a_ c_a_ (fun _ => ()) a_) (H : laws_heldCrossingS.f K a_ k_ = some r1) :
    Calls Try.prog 53 #[.slice A_a_ a_.length c_a_, .int .i64 k_] w (laws_heldCrossingS.post w0 L a_ k_ A_a_ c_a_ r1) := by
  unfold laws_heldCrossingS.f at H
  refine Calls.of_G Try.func53 rfl rfl rfl ?_
  refine G.seq ?_
  refine G.region ?_
  refine GO.assign rfl rfl rfl ?_
  refine GO.nil ?_
  refine G.seq ?_
  refine G.seq ?_
  refine G.region ?_
  refine GO.assign rfl rfl rfl ?_
  refine GO.nil ?_
  refine G.block ?_
  refine G.loop ?_
  refine G.name (fun k_l1 hk_l1 => ?_)
  have at_l1 : ∀ m_l1, m_l1 ≤ K → ∀ (k_10 : Int) (i_11 : Int) (w : World), laws_heldCrossingS.l1 K m_l1 a_ k_10 i_11 = some r1 → St w0 w (L) → G Try.prog 53 58 [(0, .slice A_a_ a_.length c_a_), (1, .int .i64 k_10), (5, .int .i64 i_11)] k_l1 w (laws_heldCrossingS.post w0 L a_ k_ A_a_ c_a_ r1) := by
   intro m_l1
   induction m_l1 using Nat.strongRecOn with
   | _ m_l1 ih_l1 =>
    intro hm_l1 k_10 i_11 w H HS
    cases m_l1 with
    | zero => rw [laws_heldCrossingS.l1] at H; cases H
    | succ n_l1 =>
     rw [laws_heldCrossingS.l1] at H
     subst hk_l1
     refine G.seq ?_
     refine G.seq ?_
     refine G.region ?_
     refine GO.move rfl rfl rfl ?_
     refine GO.move rfl rfl rfl ?_
     refine GO.lenS rfl rfl Try.underlying26 rfl ?_
     refine GO.lss rfl rfl rfl rfl ?_
     refine GO.nil ?_
     rcases ite_elim H with ⟨c21, H⟩ | ⟨c21, H⟩
     ·
      refine G.yesB rfl (decide_eq_true c21) ?_
      refine G.skip ?_
      refine G.seq ?_
      refine G.block ?_
      refine G.seq ?_
      refine G.seq ?_
      obtain ⟨c22, H⟩ := ite_none H
      obtain ⟨e23, h24, H⟩ := bnd_elim H
      refine G.region ?_
      refine GO.move rfl rfl rfl ?_
      refine GO.move rfl rfl rfl ?_
      refine GO.ix rfl rfl rfl Try.underlying26 sz58 (h_a_ _ HS).2.2.1 c22.1 c22.2 rfl ?_
      refine GO.fld (ea A_a_ (i_11.toNat * 5)) rfl rfl fl58_0 rfl rfl ?_
      refine GO.ldRd (T := T_GCrossing) (n := i_11.toNat) (o := 0) HS h_a_ rfl rfl (getD_eq (ltN c22) h24) rfl rfl na2 rfl ?_
      refine GO.move rfl rfl rfl ?_
      refine GO.neq rfl rfl rfl rfl ?_
      refine GO.nil ?_
      rcases ite_elim H with ⟨c25, H⟩ | ⟨c25, H⟩
      ·
       refine G.noB rfl (congrArg Bool.not (decide_eq_true c25)) ?_
       refine G.skip ?_
       refine G.seq ?_
       refine G.region ?_
       refine GO.move rfl rfl rfl ?_
       refine GO.add rfl rfl rfl rfl ?_
       refine GO.assign rfl rfl rfl ?_
       refine GO.nil ?_
       refine G.seq ?_
       refine G.seq ?_
       refine G.region ?_
       refine GO.move rfl rfl rfl ?_
       refine GO.move rfl rfl rfl ?_
       refine GO.ix rfl rfl rfl Try.underlying26 sz58 (h_a_ _ HS).2.2.1 c22.1 c22.2 rfl ?_
       refine GO.fld (ea A_a_ (i_11.toNat * 5 + 1)) rfl rfl fl58_1 (ea_add _ _ _) rfl ?_
       refine GO.ldRd (T := T_GCrossing) (n := i_11.toNat) (o := 1) HS h_a_ rfl rfl (getD_eq (ltN c22) h24) rfl rfl na2 rfl ?_
       refine GO.move rfl rfl rfl ?_
       refine GO.neq rfl rfl rfl rfl ?_
       refine GO.nil ?_
       rcases ite_elim H with ⟨c26, H⟩ | ⟨c26, H⟩
       ·
        refine G.noB rfl (congrArg Bool.not (decide_eq_true c26)) ?_
        refine G.skip ?_
        refine G.seq ?_
        refine G.region ?_
        refine GO.move rfl rfl rfl ?_
        refine GO.add rfl rfl rfl rfl ?_
        refine GO.assign rfl rfl rfl ?_
        refine GO.nil ?_
        refine G.seq ?_
        refine G.seq ?_
        refine G.region ?_
        refine GO.move rfl rfl rfl ?_
        refine GO.move rfl rfl rfl ?_
        refine GO.ix rfl rfl rfl Try.underlying26 sz58 (h_a_ _ HS).2.2.1 c22.1 c22.2 rfl ?_
        refine GO.fld (ea A_a_ (i_11.toNat * 5 + 2)) rfl rfl fl58_2 (ea_add _ _ _) rfl ?_
        refine GO.ldRd (T := T_GCrossing) (n := i_11.toNat) (o := 2) HS h_a_ rfl rfl (getD_eq (ltN c22) h24) rfl rfl na2 rfl ?_
        refine GO.move rfl rfl rfl ?_
        refine GO.neq rfl rfl rfl rfl ?_
        refine GO.nil ?_
        rcases ite_elim H with ⟨c27, H⟩ | ⟨c27, H⟩
        ·
         refine G.noB rfl (congrArg Bool.not (decide_eq_true c27)) ?_
         refine G.skip ?_
         refine G.seq ?_
         refine G.region ?_
         refine GO.move rfl rfl rfl ?_
         refine GO.add rfl rfl rfl rfl ?_
         refine GO.assign rfl rfl rfl ?_
         refine GO.nil ?_
         refine G.seq ?_
         refine G.seq ?_
         refine G.region ?_
         refine GO.move rfl rfl rfl ?_
         refine GO.move rfl rfl rfl ?_
         refine GO.ix rfl rfl rfl Try.underlying26 sz58 (h_a_ _ HS).2.2.1 c22.1 c22.2 rfl ?_
         refine GO.fld (ea A_a_ (i_11.toNat * 5 + 3)) rfl rfl fl58_3 (ea_add _ _ _) rfl ?_
         refine GO.ldRd (T := T_GCrossing) (n := i_11.toNat) (o := 3) HS h_a_ rfl rfl (getD_eq (ltN c22) h24) rfl rfl na2 rfl ?_
         refine GO.move rfl rfl rfl ?_
         refine GO.neq rfl rfl rfl rfl ?_
         refine GO.nil ?_
         rcases ite_elim H with ⟨c28, H⟩ | ⟨c28, H⟩
         ·
          refine G.noB rfl (congrArg Bool.not (decide_eq_true c28)) ?_
          refine G.skip ?_
          refine G.seq ?_
          refine G.region ?_
          refine GO.move rfl rfl rfl ?_
          refine GO.add rfl rfl rfl rfl ?_
          refine GO.assign rfl rfl rfl ?_
          refine GO.nil ?_
          refine G.seq ?_
          refine G.seq ?_
          refine G.region ?_
          refine GO.move rfl rfl rfl ?_
          refine GO.move rfl rfl rfl ?_
          refine GO.ix rfl rfl rfl Try.underlying26 sz58 (h_a_ _ HS).2.2.1 c22.1 c22.2 rfl ?_
          refine GO.fld (ea A_a_ (i_11.toNat * 5 + 4)) rfl rfl fl58_4 (ea_add _ _ _) rfl ?_
          refine GO.ldRd (T := T_GCrossing) (n := i_11.toNat) (o := 4) HS h_a_ rfl rfl (getD_eq (ltN c22) h24) rfl rfl na2 rfl ?_
          refine GO.move rfl rfl rfl ?_
          refine GO.neq rfl rfl rfl rfl ?_
          refine GO.nil ?_
          rcases ite_elim H with ⟨c29, H⟩ | ⟨c29, H⟩
          ·
           refine G.noB rfl (congrArg Bool.not (decide_eq_true c29)) ?_
           refine G.skip ?_
           refine G.region ?_
           refine GO.move rfl rfl rfl ?_
           refine GO.add rfl rfl rfl rfl ?_
           refine GO.assign rfl rfl rfl ?_
           refine GO.nil ?_
           refine G.blockEnd ?_
           refine G.region ?_
           refine GO.move rfl rfl rfl ?_
           refine GO.add rfl rfl rfl rfl ?_
           refine GO.assign rfl rfl rfl ?_
           refine GO.nil ?_
           refine G.again ?_
           refine G.weak ?_ (ih_l1 n_l1 (Nat.lt_succ_of_le (Nat.le_refl _)) (Nat.le_of_succ_le hm_l1) _ _ _ H HS)
           exact ⟨rfl, rfl, rfl, trivial⟩
          ·
           refine G.yesB rfl (congrArg Bool.not (decide_eq_false c29)) ?_
           refine G.seq ?_
           refine G.region ?_
           refine GO.assign rfl rfl rfl ?_
           refine GO.nil ?_
           obtain rfl := Option.some.inj H
           exact G.ret1 _ Try.func53 rfl rfl ⟨rfl, HS⟩
         ·
          refine G.yesB rfl (congrArg Bool.not (decide_eq_false c28)) ?_
          refine G.seq ?_
          refine G.region ?_
          refine GO.assign rfl rfl rfl ?_
          refine GO.nil ?_
          obtain rfl := Option.some.inj H
          exact G.ret1 _ Try.func53 rfl rfl ⟨rfl, HS⟩
        ·
         refine G.yesB rfl (congrArg Bool.not (decide_eq_false c27)) ?_
         refine G.seq ?_
         refine G.region ?_
         refine GO.assign rfl rfl rfl ?_
         refine GO.nil ?_
         obtain rfl := Option.some.inj H
         exact G.ret1 _ Try.func53 rfl rfl ⟨rfl, HS⟩
       ·
        refine G.yesB rfl (congrArg Bool.not (decide_eq_false c26)) ?_
        refine G.seq ?_
        refine G.region ?_
        refine GO.assign rfl rfl rfl ?_
        refine GO.nil ?_
        obtain rfl := Option.some.inj H
        exact G.ret1 _ Try.func53 rfl rfl ⟨rfl, HS⟩
      ·
       refine G.yesB rfl (congrArg Bool.not (decide_eq_false c25)) ?_
       refine G.seq ?_
       refine G.region ?_
       refine GO.assign rfl rfl rfl ?_
       refine GO.nil ?_
       obtain rfl := Option.some.inj H
       exact G.ret1 _ Try.func53 rfl rfl ⟨rfl, HS⟩
     ·
      refine G.noB rfl (decide_eq_false c21) ?_
      refine G.exit rfl ?_
      refine G.seq ?_
      refine G.region ?_
      refine GO.move rfl rfl rfl ?_
      refine GO.assign rfl rfl rfl ?_
      refine GO.nil ?_
      obtain rfl := Option.some.inj H
      exact G.ret1 _ Try.func53 rfl rfl ⟨rfl, HS⟩
  refine G.weak ?_ (at_l1 K (Nat.le_refl _) _ _ _ H HS)
  exact ⟨rfl, rfl, rfl, trivial⟩

set_option maxRecDepth 20000 in
set_option maxHeartbeats 40000000 in
theorem laws_heldDiagram.calls {w0 w : World} {L : List HObj} {K : Nat} {a_Crossings : List GCrossing} {a_Circles : Int} {k_ : Int} {A_a_Crossings : Option Addr} {c_a_Crossings : Nat} {r1 : Int} (HS : St w0 w (L)) (h_a_Crossings : RdIn w0 L T_GCrossing A_a_Crossings c_a_Crossings (fun _ => ()) a_Crossings) (H : laws_heldDiagram.f K a_Crossings a_Circles k_ = some r1) :
    Calls Try.prog 18 #[.agg [.slice A_a_Crossings a_Crossings.length c_a_Crossings, .int .i64 a_Circles].toArray, .int .i64 k_] w (laws_heldDiagram.post w0 L a_Crossings a_Circles k_ A_a_Crossings c_a_Crossings r1) := by
  unfold laws_heldDiagram.f at H
  refine Calls.of_G Try.func18 rfl rfl rfl ?_
  refine G.seq ?_
  refine G.region ?_
  refine GO.box (cs := [.slice A_a_Crossings a_Crossings.length c_a_Crossings, .int .i64 a_Circles]) HS rfl rfl rfl rfl ?_; intro b1 wd2 HS
  refine GO.assign rfl rfl rfl ?_
  refine GO.nil ?_
  refine G.seq ?_
  obtain ⟨t3, h4, H⟩ := Option.bind_eq_some_iff.1 H
  refine G.region ?_
  refine GO.fld (⟨b1, 0, none⟩) rfl rfl fl28_0 rfl rfl ?_
  refine GO.ldBox (j := 0) HS rfl rfl rfl rfl na26 rfl ?_
  refine GO.move rfl rfl rfl ?_
  refine GO.fn rfl Try.func53 fok53.1 fok53.2 rfl rfl (laws_heldCrossingS.calls HS (RdIn.drop 1 h_a_Crossings) h4) (fun _ wd5 ⟨h6, HS⟩ => ⟨_, h6, ?_⟩)
  refine GO.assign rfl rfl rfl ?_
  refine GO.nil ?_
  refine G.seq ?_
  refine G.seq ?_
  refine G.region ?_
  refine GO.move rfl rfl rfl ?_
  refine GO.lss rfl rfl rfl rfl ?_
  refine GO.nil ?_
  rcases ite_elim H with ⟨c7, H⟩ | ⟨c7, H⟩
  ·
   refine G.yesB rfl (decide_eq_true c7) ?_
   refine G.seq ?_
   refine G.region ?_
   refine GO.assign rfl rfl rfl ?_
   refine GO.nil ?_
   obtain rfl := Option.some.inj H
   exact G.ret1 _ Try.func18 rfl rfl ⟨rfl, (HS.pk 1 [] rfl)⟩
  ·
   refine G.noB rfl (decide_eq_false c7) ?_
   refine G.skip ?_
   refine G.seq ?_
   refine G.region ?_
   refine GO.move rfl rfl rfl ?_
   refine GO.assign rfl rfl rfl ?_
   refine GO.nil ?_
   obtain rfl := Option.some.inj H
   exact G.ret1 _ Try.func18 rfl rfl ⟨rfl, (HS.pk 1 [] rfl)⟩

set_option maxRecDepth 20000 in
set_option maxHeartbeats 40000000 in
theorem laws_FnExactJoinDiagrams.calls {w0 w : World} {L : List HObj} {K : Nat} {aD_Crossings : List GCrossing} {aD_Circles : Int} {aA : Int} {aE_Crossings : List GCrossing} {aE_Circles : Int} {aB : Int} {A_aD_Crossings : Option Addr} {c_aD_Crossings : Nat} {A_aE_Crossings : Option Addr} {c_aE_Crossings : Nat} {r1 : Bool} (HS : St w0 w (L)) (h_aD_Crossings : RdIn w0 L T_GCrossing A_aD_Crossings c_aD_Crossings (fun _ => ()) aD_Crossings) (h_aE_Crossings : RdIn w0 L T_GCrossing A_aE_Crossings c_aE_Crossings (fun _ => ()) aE_Crossings) (H : laws_FnExactJoinDiagrams.f K aD_Crossings aD_Circles aA aE_Crossings aE_Circles aB = some r1) :
    Calls Try.prog 4 #[.agg [.slice A_aD_Crossings aD_Crossings.length c_aD_Crossings, .int .i64 aD_Circles].toArray, .int .i64 aA, .agg [.slice A_aE_Crossings aE_Crossings.length c_aE_Crossings, .int .i64 aE_Circles].toArray, .int .i64 aB] w (laws_FnExactJoinDiagrams.post w0 L aD_Crossings aD_Circles aA aE_Crossings aE_Circles aB A_aD_Crossings c_aD_Crossings A_aE_Crossings c_aE_Crossings r1) := by
  unfold laws_FnExactJoinDiagrams.f at H
  refine Calls.of_G Try.func4 rfl rfl rfl ?_
  refine G.seq ?_
  refine G.region ?_
  refine GO.box (cs := [.slice A_aD_Crossings aD_Crossings.length c_aD_Crossings, .int .i64 aD_Circles]) HS rfl rfl rfl rfl ?_; intro b1 wd2 HS
  refine GO.box (cs := [.slice A_aE_Crossings aE_Crossings.length c_aE_Crossings, .int .i64 aE_Circles]) HS rfl rfl rfl rfl ?_; intro b3 wd4 HS
  refine GO.assign rfl rfl rfl ?_
  refine GO.nil ?_
  refine G.seq ?_
  refine G.region ?_
  refine GO.assign rfl rfl rfl ?_
  refine GO.nil ?_
  refine G.seq ?_
  obtain ⟨t5, h6, H⟩ := Option.bind_eq_some_iff.1 H
  refine G.region ?_
  refine GO.ldBoxA (j := 1) ([.slice A_aD_Crossings aD_Crossings.length c_aD_Crossings, .int .i64 aD_Circles]) HS rfl rfl rfl rfl ag24 rfl ?_
  refine GO.move rfl rfl rfl ?_
  refine GO.fn rfl Try.func12 fok12.1 fok12.2 rfl rfl (laws_szDiagram.calls HS (RdIn.drop 2 h_aD_Crossings) h6) (fun _ wd7 ⟨h8, HS⟩ => ⟨_, h8, ?_⟩)
  refine GO.assign rfl rfl rfl ?_
  refine GO.nil ?_
  refine G.seq ?_
  refine G.seq ?_
  refine G.region ?_
  refine GO.move rfl rfl rfl ?_
  refine GO.lss rfl rfl rfl rfl ?_
  refine GO.nil ?_
  rcases ite_elim H with ⟨c9, H⟩ | ⟨c9, H⟩
  ·
   refine G.yesB rfl (decide_eq_true c9) ?_
   refine G.seq ?_
   refine G.region ?_
   refine GO.assign rfl rfl rfl ?_
   refine GO.nil ?_
   obtain rfl := Option.some.inj H
   exact G.ret1 _ Try.func4 rfl rfl ⟨rfl, (HS.pk 2 [] rfl)⟩
  ·
   refine G.noB rfl (decide_eq_false c9) ?_
   refine G.skip ?_
   refine G.seq ?_
   obtain ⟨t10, h11, H⟩ := Option.bind_eq_some_iff.1 H
   refine G.region ?_
   refine GO.ldBoxA (j := 0) ([.slice A_aE_Crossings aE_Crossings.length c_aE_Crossings, .int .i64 aE_Circles]) HS rfl rfl rfl rfl ag24 rfl ?_
   refine GO.move rfl rfl rfl ?_
   refine GO.fn rfl Try.func12 fok12.1 fok12.2 rfl rfl (laws_szDiagram.calls HS (RdIn.drop 2 h_aE_Crossings) h11) (fun _ wd12 ⟨h13, HS⟩ => ⟨_, h13, ?_⟩)
   refine GO.assign rfl rfl rfl ?_
   refine GO.nil ?_
   refine G.seq ?_
   refine G.seq ?_
   refine G.region ?_
   refine GO.move rfl rfl rfl ?_
   refine GO.lss rfl rfl rfl rfl ?_
   refine GO.nil ?_
   rcases ite_elim H with ⟨c14, H⟩ | ⟨c14, H⟩
   ·
    refine G.yesB rfl (decide_eq_true c14) ?_
    refine G.seq ?_
    refine G.region ?_
    refine GO.assign rfl rfl rfl ?_
    refine GO.nil ?_
    obtain rfl := Option.some.inj H
    exact G.ret1 _ Try.func4 rfl rfl ⟨rfl, (HS.pk 2 [] rfl)⟩
   ·
    refine G.noB rfl (decide_eq_false c14) ?_
    refine G.skip ?_
    refine G.seq ?_
    obtain ⟨t15, t16, h17, H⟩ := bind2_elim H
    obtain ⟨t22, t23, h24, H⟩ := bind2_elim H
    obtain ⟨t29, t30, t31, h32, H⟩ := bind3_elim H
    refine G.regionAny mixed (by decide) (fun b a w => ∃ (Y1_0 : Value) (Y2_1 : Value) (Y3_2 : Value) (Y4_3 : Value) (Y5_4 : Value) (Y6_5 : Value) (Y7_6 : Value) (Y8_7 : Value) (Y9_8 : Value) (Y10_9 : Value) (Y11_10 : Value) (Y12_12 : Value) (A18 : Option Addr) (c19 : Nat) (A25 : Option Addr) (c26 : Nat) (A33 : Option Addr) (c34 : Nat) (b37 : Nat) (O13_3 : HObj) (O14_4 : HObj) (O15_5 : HObj) (O16_6 : HObj), Sat 129 [(10, Y11_10), (11, Y12_12), (31, Y8_7), (32, Y1_0), (33, Y2_1), (34, Y3_2), (35, Y4_3), (36, Y5_4), (37, Y6_5), (38, Y7_6), (39, Y9_8), (40, Y10_9), (1, .int .i64 aA), (3, .int .i64 aB), (4, .pointer (some ⟨b1, 0, none⟩)), (6, .pointer (some ⟨b3, 0, none⟩))] a ∧ St w0 w (Box b3 24 [.slice A_aE_Crossings aE_Crossings.length c_aE_Crossings, .int .i64 aE_Circles] :: Box b1 24 [.slice A_aD_Crossings aD_Crossings.length c_aD_Crossings, .int .i64 aD_Circles] :: O13_3 :: O14_4 :: O15_5 :: O16_6 :: L) ∧ (b 10 = true → Y11_10 = (.pointer (some ⟨b37, 0, none⟩))) ∧ (b 12 = true → Y12_12 = (.int .i64 t31)) ∧ (b 7 = true → Y8_7 = (.tuple #[.agg [.slice A33 t29.length c34, .int .i64 t30].toArray, .int .i64 t31])) ∧ (b 0 = true → Y1_0 = (.agg [.slice A_aD_Crossings aD_Crossings.length c_aD_Crossings, .int .i64 aD_Circles].toArray)) ∧ (b 1 = true → Y2_1 = (.agg [.slice A18 t15.length c19, .int .i64 t16].toArray)) ∧ (b 2 = true → Y3_2 = (.int .i64 aA)) ∧ (b 3 = true → Y4_3 = (.agg [.slice A_aE_Crossings aE_Crossings.length c_aE_Crossings, .int .i64 aE_Circles].toArray)) ∧ (b 4 = true → Y5_4 = (.agg [.slice A25 t22.length c26, .int .i64 t23].toArray)) ∧ (b 5 = true → Y6_5 = (.int .i64 aB)) ∧ (b 6 = true → Y7_6 = (.tuple #[.agg [.slice A33 t29.length c34, .int .i64 t30].toArray, .int .i64 t31])) ∧ (b 8 = true → Y9_8 = (.agg [.slice A33 t29.length c34, .int .i64 t30].toArray)) ∧ (b 9 = true → Y10_9 = (.int .i64 t31)) ∧ (b 1 = true → O13_3 = Own T_GCrossing 58 A18 c19 (fun _ => ()) t15) ∧ (b 4 = true → O14_4 = Own T_GCrossing 58 A25 c26 (fun _ => ()) t22) ∧ (b 6 = true → O15_5 = Own T_GCrossing 58 A33 c34 (fun _ => ()) t29) ∧ (b 10 = true → b 11 = false → O16_6 = Box b37 28 [.slice none 0 0, .int .i64 0]) ∧ (b 11 = true → O16_6 = Box b37 28 [.slice A33 t29.length c34, .int .i64 t30])) ?_ ?_ ?_
    ·
     intro a hs
     obtain ⟨Y11_10, hs⟩ := hs.ext (d := 10) rfl
     obtain ⟨Y12_12, hs⟩ := hs.ext (d := 11) rfl
     obtain ⟨Y8_7, hs⟩ := hs.ext (d := 31) rfl
     obtain ⟨Y1_0, hs⟩ := hs.ext (d := 32) rfl
     obtain ⟨Y2_1, hs⟩ := hs.ext (d := 33) rfl
     obtain ⟨Y3_2, hs⟩ := hs.ext (d := 34) rfl
     obtain ⟨Y4_3, hs⟩ := hs.ext (d := 35) rfl
     obtain ⟨Y5_4, hs⟩ := hs.ext (d := 36) rfl
     obtain ⟨Y6_5, hs⟩ := hs.ext (d := 37) rfl
     obtain ⟨Y7_6, hs⟩ := hs.ext (d := 38) rfl
     obtain ⟨Y9_8, hs⟩ := hs.ext (d := 39) rfl
     obtain ⟨Y10_9, hs⟩ := hs.ext (d := 40) rfl
     exact ⟨Y1_0, Y2_1, Y3_2, Y4_3, Y5_4, Y6_5, Y7_6, Y8_7, Y9_8, Y10_9, Y11_10, Y12_12, none, 0, none, 0, none, 0, 0, Emp, Emp, Emp, Emp, hs.weak ⟨rfl, rfl, rfl, rfl, rfl, rfl, rfl, rfl, rfl, rfl, rfl, rfl, rfl, rfl, rfl, rfl, trivial⟩, (HS.drew.emp.emp.emp.emp.pk 6 [4, 5, 3, 2, 1, 0] rfl), fun h => Bool.noConfusion h, fun h => Bool.noConfusion h, fun h => Bool.noConfusion h, fun h => Bool.noConfusion h, fun h => Bool.noConfusion h, fun h => Bool.noConfusion h, fun h => Bool.noConfusion h, fun h => Bool.noConfusion h, fun h => Bool.noConfusion h, fun h => Bool.noConfusion h, fun h => Bool.noConfusion h, fun h => Bool.noConfusion h, fun h => Bool.noConfusion h, fun h => Bool.noConfusion h, fun h => Bool.noConfusion h, fun h => Bool.noConfusion h, fun h => Bool.noConfusion h⟩
    ·
     intro j hj b a w
     refine exI fun Y1_0 => exI fun Y2_1 => exI fun Y3_2 => exI fun Y4_3 => exI fun Y5_4 => exI fun Y6_5 => exI fun Y7_6 => exI fun Y8_7 => exI fun Y9_8 => exI fun Y10_9 => exI fun Y11_10 => exI fun Y12_12 => exI fun A18 => exI fun c19 => exI fun A25 => exI fun c26 => exI fun A33 => exI fun c34 => exI fun b37 => exI fun O13_3 => exI fun O14_4 => exI fun O15_5 => exI fun O16_6 => anI fun hs => anI fun HS => anI fun f10 => anI fun f12 => anI fun f7 => anI fun f0 => anI fun f1 => anI fun f2 => anI fun f3 => anI fun f4 => anI fun f5 => anI fun f6 => anI fun f8 => anI fun f9 => anI fun o3_0 => anI fun o4_0 => anI fun o5_0 => anI fun o6_0 => fun o6_1 hb hd hcl => ?_
     match j, hj with
     | 0, _ =>
      refine GO.at hs ?_
      refine GO.ldBoxA (j := 1) ([.slice A_aD_Crossings aD_Crossings.length c_aD_Crossings, .int .i64 aD_Circles]) HS rfl rfl rfl rfl ag24 rfl ?_
      refine GO.fin (fun a hs => ?_)
      exact ⟨(.agg [.slice A_aD_Crossings aD_Crossings.length c_aD_Crossings, .int .i64 aD_Circles].toArray), _, _, _, _, _, _, _, _, _, _, _, A18, c19, A25, c26, A33, c34, b37, _, _, _, _, by exact hs.setAt 3 rfl, HS, f10, f12, f7, fun _ => rfl, f1, f2, f3, f4, f5, f6, f8, f9, o3_0, o4_0, o5_0, o6_0, o6_1⟩
     | 1, _ =>
      have hb0 : b 0 = true := hd 0 (by decide)
      obtain rfl := f0 hb0
      refine GO.at hs ?_
      refine GO.fn rfl Try.func14 fok14.1 fok14.2 rfl rfl (laws_toDiagram.calls HS (RdIn.drop 6 h_aD_Crossings) h17) (fun _ wd20 ⟨A18, c19, h21, HS⟩ => ⟨_, h21, ?_⟩)
      refine GO.fin (fun a hs => ?_)
      exact ⟨_, (.agg [.slice A18 t15.length c19, .int .i64 t16].toArray), _, _, _, _, _, _, _, _, _, _, A18, c19, A25, c26, A33, c34, b37, Own T_GCrossing 58 A18 c19 (fun _ => ()) t15, _, _, _, by exact hs.setAt 4 rfl, HS.pk 7 [1, 2, 0, 4, 5, 6] rfl, f10, f12, f7, f0, fun _ => rfl, f2, f3, f4, f5, f6, f8, f9, fun _ => rfl, o4_0, o5_0, o6_0, o6_1⟩
     | 2, _ =>
      refine GO.at hs ?_
      refine GO.move rfl rfl rfl ?_
      refine GO.fin (fun a hs => ?_)
      exact ⟨_, _, (.int .i64 aA), _, _, _, _, _, _, _, _, _, A18, c19, A25, c26, A33, c34, b37, _, _, _, _, by exact hs.setAt 5 rfl, HS, f10, f12, f7, f0, f1, fun _ => rfl, f3, f4, f5, f6, f8, f9, o3_0, o4_0, o5_0, o6_0, o6_1⟩
     | 3, _ =>
      refine GO.at hs ?_
      refine GO.ldBoxA (j := 0) ([.slice A_aE_Crossings aE_Crossings.length c_aE_Crossings, .int .i64 aE_Circles]) HS rfl rfl rfl rfl ag24 rfl ?_
      refine GO.fin (fun a hs => ?_)
      exact ⟨_, _, _, (.agg [.slice A_aE_Crossings aE_Crossings.length c_aE_Crossings, .int .i64 aE_Circles].toArray), _, _, _, _, _, _, _, _, A18, c19, A25, c26, A33, c34, b37, _, _, _, _, by exact hs.setAt 6 rfl, HS, f10, f12, f7, f0, f1, f2, fun _ => rfl, f4, f5, f6, f8, f9, o3_0, o4_0, o5_0, o6_0, o6_1⟩
     | 4, _ =>
      have hb3 : b 3 = true := hd 3 (by decide)
      obtain rfl := f3 hb3
      refine GO.at hs ?_
      refine GO.fn rfl Try.func14 fok14.1 fok14.2 rfl rfl (laws_toDiagram.calls HS (RdIn.drop 6 h_aE_Crossings) h24) (fun _ wd27 ⟨A25, c26, h28, HS⟩ => ⟨_, h28, ?_⟩)
      refine GO.fin (fun a hs => ?_)
      exact ⟨_, _, _, _, (.agg [.slice A25 t22.length c26, .int .i64 t23].toArray), _, _, _, _, _, _, _, A18, c19, A25, c26, A33, c34, b37, _, Own T_GCrossing 58 A25 c26 (fun _ => ()) t22, _, _, by exact hs.setAt 7 rfl, HS.pk 7 [1, 2, 3, 0, 5, 6] rfl, f10, f12, f7, f0, f1, f2, f3, fun _ => rfl, f5, f6, f8, f9, o3_0, fun _ => rfl, o5_0, o6_0, o6_1⟩
     | 5, _ =>
      refine GO.at hs ?_
      refine GO.move rfl rfl rfl ?_
      refine GO.fin (fun a hs => ?_)
      exact ⟨_, _, _, _, _, (.int .i64 aB), _, _, _, _, _, _, A18, c19, A25, c26, A33, c34, b37, _, _, _, _, by exact hs.setAt 8 rfl, HS, f10, f12, f7, f0, f1, f2, f3, f4, fun _ => rfl, f6, f8, f9, o3_0, o4_0, o5_0, o6_0, o6_1⟩
     | 6, _ =>
      have hb1 : b 1 = true := hd 1 (by decide)
      obtain rfl := f1 hb1
      have hb2 : b 2 = true := hd 2 (by decide)
      obtain rfl := f2 hb2
      have hb4 : b 4 = true := hd 4 (by decide)
      obtain rfl := f4 hb4
      have hb5 : b 5 = true := hd 5 (by decide)
      obtain rfl := f5 hb5
      obtain rfl := o3_0 hb1
      obtain rfl := o4_0 hb4
      refine GO.at hs ?_
      refine GO.fn rfl Try.func19 fok19.1 fok19.2 rfl rfl (spec_JoinDiagrams.calls HS (RdIn.own (j := 2) rfl) (RdIn.own (j := 3) rfl) h32) (fun _ wd35 ⟨A33, c34, h36, HS⟩ => ⟨_, h36, ?_⟩)
      refine GO.fin (fun a hs => ?_)
      exact ⟨_, _, _, _, _, _, (.tuple #[.agg [.slice A33 t29.length c34, .int .i64 t30].toArray, .int .i64 t31]), _, _, _, _, _, A18, c19, A25, c26, A33, c34, b37, _, _, Own T_GCrossing 58 A33 c34 (fun _ => ()) t29, _, by exact hs.setAt 9 rfl, HS.pk 7 [1, 2, 3, 4, 0, 6] rfl, f10, f12, fun hh => (Bool.noConfusion ((hcl 7 (by decide) hh 6 (by decide)).symm.trans hb)), f0, f1, f2, f3, f4, f5, fun _ => rfl, fun hh => (Bool.noConfusion ((hcl 7 (by decide) (hcl 8 (by decide) hh 7 (by decide)) 6 (by decide)).symm.trans hb)), f9, o3_0, o4_0, fun _ => rfl, o6_0, fun hh => (Bool.noConfusion ((hcl 11 (by decide) hh 6 (by decide)).symm.trans hb))⟩
     | 7, _ =>
      have hb6 : b 6 = true := hd 6 (by decide)
      obtain rfl := f6 hb6
      refine GO.at hs ?_
      refine GO.move rfl rfl rfl ?_
      refine GO.fin (fun a hs => ?_)
      exact ⟨_, _, _, _, _, _, _, (.tuple #[.agg [.slice A33 t29.length c34, .int .i64 t30].toArray, .int .i64 t31]), _, _, _, _, A18, c19, A25, c26, A33, c34, b37, _, _, _, _, by exact hs.setAt 2 rfl, HS, f10, f12, fun _ => rfl, f0, f1, f2, f3, f4, f5, f6, f8, f9, o3_0, o4_0, o5_0, o6_0, o6_1⟩
     | 8, _ =>
      have hb7 : b 7 = true := hd 7 (by decide)
      obtain rfl := f7 hb7
      refine GO.at hs ?_
      refine GO.extract rfl rfl rfl rfl ?_
      refine GO.fin (fun a hs => ?_)
      exact ⟨_, _, _, _, _, _, _, _, (.agg [.slice A33 t29.length c34, .int .i64 t30].toArray), _, _, _, A18, c19, A25, c26, A33, c34, b37, _, _, _, _, by exact hs.setAt 10 rfl, HS, f10, f12, f7, f0, f1, f2, f3, f4, f5, f6, fun _ => rfl, f9, o3_0, o4_0, o5_0, o6_0, o6_1⟩
     | 9, _ =>
      have hb7 : b 7 = true := hd 7 (by decide)
      obtain rfl := f7 hb7
      refine GO.at hs ?_
      refine GO.extract rfl rfl rfl rfl ?_
      refine GO.fin (fun a hs => ?_)
      exact ⟨_, _, _, _, _, _, _, _, _, (.int .i64 t31), _, _, A18, c19, A25, c26, A33, c34, b37, _, _, _, _, by exact hs.setAt 11 rfl, HS, f10, f12, f7, f0, f1, f2, f3, f4, f5, f6, f8, fun _ => rfl, o3_0, o4_0, o5_0, o6_0, o6_1⟩
     | 10, _ =>
      refine GO.at hs ?_
      refine GO.alloc HS rfl zr28 rfl rfl ?_; intro b37 wd38 HS
      refine GO.fin (fun a hs => ?_)
      exact ⟨_, _, _, _, _, _, _, _, _, _, (.pointer (some ⟨b37, 0, none⟩)), _, A18, c19, A25, c26, A33, c34, b37, _, _, _, Box b37 28 [.slice none 0 0, .int .i64 0], by exact hs.setAt 0 rfl, HS.pk 7 [1, 2, 3, 4, 5, 0] rfl, fun _ => rfl, f12, f7, f0, f1, f2, f3, f4, f5, f6, f8, f9, o3_0, o4_0, o5_0, fun _ _ => rfl, fun hh => (Bool.noConfusion ((hcl 11 (by decide) hh 10 (by decide)).symm.trans hb))⟩
     | 11, _ =>
      have hb10 : b 10 = true := hd 10 (by decide)
      obtain rfl := f10 hb10
      have hb8 : b 8 = true := hd 8 (by decide)
      obtain rfl := f8 hb8
      obtain rfl := o6_0 hb10 hb
      refine GO.at hs ?_
      refine GO.stBox (j := 5) (vs := [.slice A33 t29.length c34, .int .i64 t30]) ([.slice A33 t29.length c34, .int .i64 t30]) HS rfl rfl rfl rfl rfl (htA ag28) rfl rfl rfl ?_; intro wd39 HS
      refine GO.fin (fun a hs => ?_)
      exact ⟨_, _, _, _, _, _, _, _, _, _, _, _, A18, c19, A25, c26, A33, c34, b37, _, _, _, Box b37 28 [.slice A33 t29.length c34, .int .i64 t30], hs, HS, f10, f12, f7, f0, f1, f2, f3, f4, f5, f6, f8, f9, o3_0, o4_0, o5_0, fun _ h => Bool.noConfusion h, fun _ => rfl⟩
     | 12, _ =>
      have hb9 : b 9 = true := hd 9 (by decide)
      obtain rfl := f9 hb9
      refine GO.at hs ?_
      refine GO.assign rfl rfl rfl ?_
      refine GO.fin (fun a hs => ?_)
      exact ⟨_, _, _, _, _, _, _, _, _, _, _, (.int .i64 t31), A18, c19, A25, c26, A33, c34, b37, _, _, _, _, by exact hs.setAt 1 rfl, HS, f10, fun _ => rfl, f7, f0, f1, f2, f3, f4, f5, f6, f8, f9, o3_0, o4_0, o5_0, o6_0, o6_1⟩
     | k + 13, hj => exact absurd hj (Nat.not_lt.2 (Nat.le_add_left 13 k))
    ·
     intro b a w hall
     refine exI fun Y1_0 => exI fun Y2_1 => exI fun Y3_2 => exI fun Y4_3 => exI fun Y5_4 => exI fun Y6_5 => exI fun Y7_6 => exI fun Y8_7 => exI fun Y9_8 => exI fun Y10_9 => exI fun Y11_10 => exI fun Y12_12 => exI fun A18 => exI fun c19 => exI fun A25 => exI fun c26 => exI fun A33 => exI fun c34 => exI fun b37 => exI fun O13_3 => exI fun O14_4 => exI fun O15_5 => exI fun O16_6 => anI fun hs => anI fun HS => anI fun f10 => anI fun f12 => anI fun f7 => anI fun f0 => anI fun f1 => anI fun f2 => anI fun f3 => anI fun f4 => anI fun f5 => anI fun f6 => anI fun f8 => anI fun f9 => anI fun o3_0 => anI fun o4_0 => anI fun o5_0 => anI fun o6_0 => fun o6_1 => ?_
     obtain rfl := f10 (hall 10 (by decide))
     obtain rfl := f12 (hall 12 (by decide))
     obtain rfl := f7 (hall 7 (by decide))
     obtain rfl := f0 (hall 0 (by decide))
     obtain rfl := f1 (hall 1 (by decide))
     obtain rfl := f2 (hall 2 (by decide))
     obtain rfl := f3 (hall 3 (by decide))
     obtain rfl := f4 (hall 4 (by decide))
     obtain rfl := f5 (hall 5 (by decide))
     obtain rfl := f6 (hall 6 (by decide))
     obtain rfl := f8 (hall 8 (by decide))
     obtain rfl := f9 (hall 9 (by decide))
     obtain rfl := o3_0 (hall 1 (by decide))
     obtain rfl := o4_0 (hall 4 (by decide))
     obtain rfl := o5_0 (hall 6 (by decide))
     obtain rfl := o6_1 (hall 11 (by decide))
     refine G.at hs ?_
     refine G.seq ?_
     obtain ⟨t40, t41, h42, H⟩ := bind2_elim H
     refine G.region ?_
     refine GO.ldBoxA (j := 1) ([.slice A_aD_Crossings aD_Crossings.length c_aD_Crossings, .int .i64 aD_Circles]) HS rfl rfl rfl rfl ag24 rfl ?_
     refine GO.fn rfl Try.func14 fok14.1 fok14.2 rfl rfl (laws_toDiagram.calls HS (RdIn.drop 6 h_aD_Crossings) h42) (fun _ wd45 ⟨A43, c44, h46, HS⟩ => ⟨_, h46, ?_⟩)
     refine GO.alloc HS rfl zr28 rfl rfl ?_; intro b47 wd48 HS
     refine GO.stBox (j := 0) (vs := [.slice A43 t40.length c44, .int .i64 t41]) ([.slice A43 t40.length c44, .int .i64 t41]) HS rfl rfl rfl rfl rfl (htA ag28) rfl rfl rfl ?_; intro wd49 HS
     refine GO.nil ?_
     refine G.seq ?_
     obtain ⟨t50, t51, h52, H⟩ := bind2_elim H
     refine G.region ?_
     refine GO.ldBoxA (j := 2) ([.slice A_aE_Crossings aE_Crossings.length c_aE_Crossings, .int .i64 aE_Circles]) HS rfl rfl rfl rfl ag24 rfl ?_
     refine GO.fn rfl Try.func14 fok14.1 fok14.2 rfl rfl (laws_toDiagram.calls HS (RdIn.drop 8 h_aE_Crossings) h52) (fun _ wd55 ⟨A53, c54, h56, HS⟩ => ⟨_, h56, ?_⟩)
     refine GO.alloc HS rfl zr28 rfl rfl ?_; intro b57 wd58 HS
     refine GO.stBox (j := 0) (vs := [.slice A53 t50.length c54, .int .i64 t51]) ([.slice A53 t50.length c54, .int .i64 t51]) HS rfl rfl rfl rfl rfl (htA ag28) rfl rfl rfl ?_; intro wd59 HS
     refine GO.nil ?_
     refine G.seq ?_
     obtain ⟨t60, t61, t62, h63, H⟩ := bind3_elim H
     refine G.region ?_
     refine GO.ldBoxA (j := 2) ([.slice A43 t40.length c44, .int .i64 t41]) HS rfl rfl rfl rfl ag28 rfl ?_
     refine GO.move rfl rfl rfl ?_
     refine GO.ldBoxA (j := 0) ([.slice A53 t50.length c54, .int .i64 t51]) HS rfl rfl rfl rfl ag28 rfl ?_
     refine GO.move rfl rfl rfl ?_
     refine GO.fn rfl Try.func20 fok20.1 fok20.2 rfl rfl (impl_JoinDiagrams.calls HS (RdIn.own (j := 3) rfl) (RdIn.own (j := 1) rfl) h63) (fun _ wd66 ⟨A64, c65, h67, HS⟩ => ⟨_, h67, ?_⟩)
     refine GO.move rfl rfl rfl ?_
     refine GO.extract rfl rfl rfl rfl ?_
     refine GO.extract rfl rfl rfl rfl ?_
     refine GO.alloc HS rfl zr28 rfl rfl ?_; intro b68 wd69 HS
     refine GO.stBox (j := 0) (vs := [.slice A64 t60.length c65, .int .i64 t61]) ([.slice A64 t60.length c65, .int .i64 t61]) HS rfl rfl rfl rfl rfl (htA ag28) rfl rfl rfl ?_; intro wd70 HS
     refine GO.assign rfl rfl rfl ?_
     refine GO.nil ?_
     refine G.seq ?_
     refine G.seq ?_
     obtain ⟨t76, h77, H⟩ := Option.bind_eq_some_iff.1 H
     rcases ite_elim H with ⟨c80, H⟩ | ⟨c80, H⟩
     ·
      refine G.region ?_
      refine GO.ldBoxA (j := 0) ([.slice A64 t60.length c65, .int .i64 t61]) HS rfl rfl rfl rfl ag28 rfl ?_
      refine GO.ldBoxA (j := 11) ([.slice A33 t29.length c34, .int .i64 t30]) HS rfl rfl rfl rfl ag28 rfl ?_
      refine GO.fn rfl Try.func16 fok16.1 fok16.2 rfl rfl (laws_eqDiagram.calls HS (RdIn.own (j := 1) rfl) (RdIn.own (j := 10) rfl) h77) (fun _ wd78 ⟨h79, HS⟩ => ⟨_, h79, ?_⟩)
      refine GO.not rfl rfl rfl ?_
      refine GO.move rfl rfl rfl ?_
      refine GO.known (t := 57) rfl (congrArg Bool.not c80) ?_
      refine GO.on rfl rfl rfl rfl ?_
      refine GO.move rfl rfl rfl ?_
      refine GO.back ?_
      refine GO.on rfl rfl rfl rfl ?_
      refine GO.move rfl rfl rfl ?_
      refine GO.back ?_
      refine GO.on rfl rfl rfl rfl ?_
      refine GO.neq rfl rfl rfl rfl ?_
      refine GO.back ?_
      refine GO.pickF rfl rfl rfl rfl rfl ?_
      refine GO.nil ?_
      rcases ite_elim H with ⟨c81, H⟩ | ⟨c81, H⟩
      ·
       refine G.noB rfl (congrArg Bool.not (decide_eq_true c81)) ?_
       refine G.skip ?_
       refine G.seq ?_
       refine G.seq ?_
       obtain ⟨t82, t83, h84, H⟩ := bind2_elim H
       obtain ⟨t89, h90, H⟩ := Option.bind_eq_some_iff.1 H
       refine G.regionAny mixed (by decide) (fun b a w => ∃ (Y17_0 : Value) (Y18_1 : Value) (Y19_2 : Value) (Y20_3 : Value) (Y21_4 : Value) (A85 : Option Addr) (c86 : Nat) (O22_13 : HObj), Sat 129 [(62, Y17_0), (63, Y18_1), (64, Y19_2), (65, Y20_3), (66, Y21_4), (1, .int .i64 aA), (3, .int .i64 aB), (4, .pointer (some ⟨b1, 0, none⟩)), (6, .pointer (some ⟨b3, 0, none⟩)), (10, .pointer (some ⟨b37, 0, none⟩)), (11, .int .i64 t31), (12, .pointer (some ⟨b47, 0, none⟩)), (13, .pointer (some ⟨b57, 0, none⟩)), (14, .pointer (some ⟨b68, 0, none⟩)), (15, .int .i64 t62)] a ∧ St w0 w (Box b68 28 [.slice A64 t60.length c65, .int .i64 t61] :: Own T_GCrossing 58 A64 c65 (fun _ => ()) t60 :: Box b57 28 [.slice A53 t50.length c54, .int .i64 t51] :: Own T_GCrossing 58 A53 c54 (fun _ => ()) t50 :: Box b47 28 [.slice A43 t40.length c44, .int .i64 t41] :: Own T_GCrossing 58 A43 c44 (fun _ => ()) t40 :: Box b3 24 [.slice A_aE_Crossings aE_Crossings.length c_aE_Crossings, .int .i64 aE_Circles] :: Box b1 24 [.slice A_aD_Crossings aD_Crossings.length c_aD_Crossings, .int .i64 aD_Circles] :: Own T_GCrossing 58 A18 c19 (fun _ => ()) t15 :: Own T_GCrossing 58 A25 c26 (fun _ => ()) t22 :: Own T_GCrossing 58 A33 c34 (fun _ => ()) t29 :: Box b37 28 [.slice A33 t29.length c34, .int .i64 t30] :: O22_13 :: L) ∧ (b 0 = true → Y17_0 = (.agg [.slice A43 t40.length c44, .int .i64 t41].toArray)) ∧ (b 1 = true → Y18_1 = (.agg [.slice A_aD_Crossings aD_Crossings.length c_aD_Crossings, .int .i64 aD_Circles].toArray)) ∧ (b 2 = true → Y19_2 = (.agg [.slice A85 t82.length c86, .int .i64 t83].toArray)) ∧ (b 3 = true → Y20_3 = (.bool t89)) ∧ (b 4 = true → Y21_4 = (.bool (!t89))) ∧ (b 2 = true → O22_13 = Own T_GCrossing 58 A85 c86 (fun _ => ()) t82)) ?_ ?_ ?_
       ·
        intro a hs
        obtain ⟨Y17_0, hs⟩ := hs.ext (d := 62) rfl
        obtain ⟨Y18_1, hs⟩ := hs.ext (d := 63) rfl
        obtain ⟨Y19_2, hs⟩ := hs.ext (d := 64) rfl
        obtain ⟨Y20_3, hs⟩ := hs.ext (d := 65) rfl
        obtain ⟨Y21_4, hs⟩ := hs.ext (d := 66) rfl
        exact ⟨Y17_0, Y18_1, Y19_2, Y20_3, Y21_4, none, 0, Emp, hs.weak ⟨rfl, rfl, rfl, rfl, rfl, rfl, rfl, rfl, rfl, rfl, rfl, rfl, rfl, rfl, rfl, trivial⟩, (HS.drew.emp.pk 13 [1, 2, 3, 4, 5, 6, 7, 8, 9, 10, 11, 12, 0] rfl), fun h => Bool.noConfusion h, fun h => Bool.noConfusion h, fun h => Bool.noConfusion h, fun h => Bool.noConfusion h, fun h => Bool.noConfusion h, fun h => Bool.noConfusion h⟩
       ·
        intro j hj b a w
        refine exI fun Y17_0 => exI fun Y18_1 => exI fun Y19_2 => exI fun Y20_3 => exI fun Y21_4 => exI fun A85 => exI fun c86 => exI fun O22_13 => anI fun hs => anI fun HS => anI fun f0 => anI fun f1 => anI fun f2 => anI fun f3 => anI fun f4 => fun o13_0 hb hd hcl => ?_
        match j, hj with
        | 0, _ =>
         refine GO.at hs ?_
         refine GO.ldBoxA (j := 4) ([.slice A43 t40.length c44, .int .i64 t41]) HS rfl rfl rfl rfl ag28 rfl ?_
         refine GO.fin (fun a hs => ?_)
         exact ⟨(.agg [.slice A43 t40.length c44, .int .i64 t41].toArray), _, _, _, _, A85, c86, _, by exact hs.setAt 0 rfl, HS, fun _ => rfl, f1, f2, f3, f4, o13_0⟩
        | 1, _ =>
         refine GO.at hs ?_
         refine GO.ldBoxA (j := 7) ([.slice A_aD_Crossings aD_Crossings.length c_aD_Crossings, .int .i64 aD_Circles]) HS rfl rfl rfl rfl ag24 rfl ?_
         refine GO.fin (fun a hs => ?_)
         exact ⟨_, (.agg [.slice A_aD_Crossings aD_Crossings.length c_aD_Crossings, .int .i64 aD_Circles].toArray), _, _, _, A85, c86, _, by exact hs.setAt 1 rfl, HS, f0, fun _ => rfl, f2, f3, f4, o13_0⟩
        | 2, _ =>
         have hb1 : b 1 = true := hd 1 (by decide)
         obtain rfl := f1 hb1
         refine GO.at hs ?_
         refine GO.fn rfl Try.func14 fok14.1 fok14.2 rfl rfl (laws_toDiagram.calls HS (RdIn.drop 13 h_aD_Crossings) h84) (fun _ wd87 ⟨A85, c86, h88, HS⟩ => ⟨_, h88, ?_⟩)
         refine GO.fin (fun a hs => ?_)
         exact ⟨_, _, (.agg [.slice A85 t82.length c86, .int .i64 t83].toArray), _, _, A85, c86, Own T_GCrossing 58 A85 c86 (fun _ => ()) t82, by exact hs.setAt 2 rfl, HS.pk 14 [1, 2, 3, 4, 5, 6, 7, 8, 9, 10, 11, 12, 0] rfl, f0, f1, fun _ => rfl, f3, f4, fun _ => rfl⟩
        | 3, _ =>
         have hb0 : b 0 = true := hd 0 (by decide)
         obtain rfl := f0 hb0
         have hb2 : b 2 = true := hd 2 (by decide)
         obtain rfl := f2 hb2
         obtain rfl := o13_0 hb2
         refine GO.at hs ?_
         refine GO.fn rfl Try.func16 fok16.1 fok16.2 rfl rfl (laws_eqDiagram.calls HS (RdIn.own (j := 5) rfl) (RdIn.own (j := 12) rfl) h90) (fun _ wd91 ⟨h92, HS⟩ => ⟨_, h92, ?_⟩)
         refine GO.fin (fun a hs => ?_)
         exact ⟨_, _, _, (.bool t89), _, A85, c86, _, by exact hs.setAt 3 rfl, HS, f0, f1, f2, fun _ => rfl, f4, o13_0⟩
        | 4, _ =>
         have hb3 : b 3 = true := hd 3 (by decide)
         obtain rfl := f3 hb3
         refine GO.at hs ?_
         refine GO.not rfl rfl rfl ?_
         refine GO.fin (fun a hs => ?_)
         exact ⟨_, _, _, _, (.bool (!t89)), A85, c86, _, by exact hs.setAt 4 rfl, HS, f0, f1, f2, f3, fun _ => rfl, o13_0⟩
        | k + 5, hj => exact absurd hj (Nat.not_lt.2 (Nat.le_add_left 5 k))
       ·
        intro b a w hall
        refine exI fun Y17_0 => exI fun Y18_1 => exI fun Y19_2 => exI fun Y20_3 => exI fun Y21_4 => exI fun A85 => exI fun c86 => exI fun O22_13 => anI fun hs => anI fun HS => anI fun f0 => anI fun f1 => anI fun f2 => anI fun f3 => anI fun f4 => fun o13_0 => ?_
        obtain rfl := f0 (hall 0 (by decide))
        obtain rfl := f1 (hall 1 (by decide))
        obtain rfl := f2 (hall 2 (by decide))
        obtain rfl := f3 (hall 3 (by decide))
        obtain rfl := f4 (hall 4 (by decide))
        obtain rfl := o13_0 (hall 2 (by decide))
        refine G.at hs ?_
        rcases ite_elim H with ⟨c93, H⟩ | ⟨c93, H⟩
        ·
         refine G.noB rfl (congrArg Bool.not c93) ?_
         refine G.skip ?_
         refine G.seq ?_
         refine G.seq ?_
         obtain ⟨t94, t95, h96, H⟩ := bind2_elim H
         obtain ⟨t101, h102, H⟩ := Option.bind_eq_some_iff.1 H
         refine G.regionAny mixed (by decide) (fun b a w => ∃ (Y23_0 : Value) (Y24_1 : Value) (Y25_2 : Value) (Y26_3 : Value) (Y27_4 : Value) (A97 : Option Addr) (c98 : Nat) (O28_14 : HObj), Sat 129 [(67, Y23_0), (68, Y24_1), (69, Y25_2), (70, Y26_3), (71, Y27_4), (1, .int .i64 aA), (3, .int .i64 aB), (4, .pointer (some ⟨b1, 0, none⟩)), (6, .pointer (some ⟨b3, 0, none⟩)), (10, .pointer (some ⟨b37, 0, none⟩)), (11, .int .i64 t31), (12, .pointer (some ⟨b47, 0, none⟩)), (13, .pointer (some ⟨b57, 0, none⟩)), (14, .pointer (some ⟨b68, 0, none⟩)), (15, .int .i64 t62)] a ∧ St w0 w (Box b68 28 [.slice A64 t60.length c65, .int .i64 t61] :: Own T_GCrossing 58 A64 c65 (fun _ => ()) t60 :: Box b57 28 [.slice A53 t50.length c54, .int .i64 t51] :: Own T_GCrossing 58 A53 c54 (fun _ => ()) t50 :: Box b47 28 [.slice A43 t40.length c44, .int .i64 t41] :: Own T_GCrossing 58 A43 c44 (fun _ => ()) t40 :: Box b3 24 [.slice A_aE_Crossings aE_Crossings.length c_aE_Crossings, .int .i64 aE_Circles] :: Box b1 24 [.slice A_aD_Crossings aD_Crossings.length c_aD_Crossings, .int .i64 aD_Circles] :: Own T_GCrossing 58 A18 c19 (fun _ => ()) t15 :: Own T_GCrossing 58 A25 c26 (fun _ => ()) t22 :: Own T_GCrossing 58 A33 c34 (fun _ => ()) t29 :: Box b37 28 [.slice A33 t29.length c34, .int .i64 t30] :: Own T_GCrossing 58 A85 c86 (fun _ => ()) t82 :: O28_14 :: L) ∧ (b 0 = true → Y23_0 = (.agg [.slice A53 t50.length c54, .int .i64 t51].toArray)) ∧ (b 1 = true → Y24_1 = (.agg [.slice A_aE_Crossings aE_Crossings.length c_aE_Crossings, .int .i64 aE_Circles].toArray)) ∧ (b 2 = true → Y25_2 = (.agg [.slice A97 t94.length c98, .int .i64 t95].toArray)) ∧ (b 3 = true → Y26_3 = (.bool t101)) ∧ (b 4 = true → Y27_4 = (.bool (!t101))) ∧ (b 2 = true → O28_14 = Own T_GCrossing 58 A97 c98 (fun _ => ()) t94)) ?_ ?_ ?_
         ·
          intro a hs
          obtain ⟨Y23_0, hs⟩ := hs.ext (d := 67) rfl
          obtain ⟨Y24_1, hs⟩ := hs.ext (d := 68) rfl
          obtain ⟨Y25_2, hs⟩ := hs.ext (d := 69) rfl
          obtain ⟨Y26_3, hs⟩ := hs.ext (d := 70) rfl
          obtain ⟨Y27_4, hs⟩ := hs.ext (d := 71) rfl
          exact ⟨Y23_0, Y24_1, Y25_2, Y26_3, Y27_4, none, 0, Emp, hs.weak ⟨rfl, rfl, rfl, rfl, rfl, rfl, rfl, rfl, rfl, rfl, rfl, rfl, rfl, rfl, rfl, trivial⟩, (HS.drew.emp.pk 14 [1, 2, 3, 4, 5, 6, 7, 8, 9, 10, 11, 12, 13, 0] rfl), fun h => Bool.noConfusion h, fun h => Bool.noConfusion h, fun h => Bool.noConfusion h, fun h => Bool.noConfusion h, fun h => Bool.noConfusion h, fun h => Bool.noConfusion h⟩
         ·
          intro j hj b a w
          refine exI fun Y23_0 => exI fun Y24_1 => exI fun Y25_2 => exI fun Y26_3 => exI fun Y27_4 => exI fun A97 => exI fun c98 => exI fun O28_14 => anI fun hs => anI fun HS => anI fun f0 => anI fun f1 => anI fun f2 => anI fun f3 => anI fun f4 => fun o14_0 hb hd hcl => ?_
          match j, hj with
          | 0, _ =>
           refine GO.at hs ?_
           refine GO.ldBoxA (j := 2) ([.slice A53 t50.length c54, .int .i64 t51]) HS rfl rfl rfl rfl ag28 rfl ?_
           refine GO.fin (fun a hs => ?_)
           exact ⟨(.agg [.slice A53 t50.length c54, .int .i64 t51].toArray), _, _, _, _, A97, c98, _, by exact hs.setAt 0 rfl, HS, fun _ => rfl, f1, f2, f3, f4, o14_0⟩
          | 1, _ =>
           refine GO.at hs ?_
           refine GO.ldBoxA (j := 6) ([.slice A_aE_Crossings aE_Crossings.length c_aE_Crossings, .int .i64 aE_Circles]) HS rfl rfl rfl rfl ag24 rfl ?_
           refine GO.fin (fun a hs => ?_)
           exact ⟨_, (.agg [.slice A_aE_Crossings aE_Crossings.length c_aE_Crossings, .int .i64 aE_Circles].toArray), _, _, _, A97, c98, _, by exact hs.setAt 1 rfl, HS, f0, fun _ => rfl, f2, f3, f4, o14_0⟩
          | 2, _ =>
           have hb1 : b 1 = true := hd 1 (by decide)
           obtain rfl := f1 hb1
           refine GO.at hs ?_
           refine GO.fn rfl Try.func14 fok14.1 fok14.2 rfl rfl (laws_toDiagram.calls HS (RdIn.drop 14 h_aE_Crossings) h96) (fun _ wd99 ⟨A97, c98, h100, HS⟩ => ⟨_, h100, ?_⟩)
           refine GO.fin (fun a hs => ?_)
           exact ⟨_, _, (.agg [.slice A97 t94.length c98, .int .i64 t95].toArray), _, _, A97, c98, Own T_GCrossing 58 A97 c98 (fun _ => ()) t94, by exact hs.setAt 2 rfl, HS.pk 15 [1, 2, 3, 4, 5, 6, 7, 8, 9, 10, 11, 12, 13, 0] rfl, f0, f1, fun _ => rfl, f3, f4, fun _ => rfl⟩
          | 3, _ =>
           have hb0 : b 0 = true := hd 0 (by decide)
           obtain rfl := f0 hb0
           have hb2 : b 2 = true := hd 2 (by decide)
           obtain rfl := f2 hb2
           obtain rfl := o14_0 hb2
           refine GO.at hs ?_
           refine GO.fn rfl Try.func16 fok16.1 fok16.2 rfl rfl (laws_eqDiagram.calls HS (RdIn.own (j := 3) rfl) (RdIn.own (j := 13) rfl) h102) (fun _ wd103 ⟨h104, HS⟩ => ⟨_, h104, ?_⟩)
           refine GO.fin (fun a hs => ?_)
           exact ⟨_, _, _, (.bool t101), _, A97, c98, _, by exact hs.setAt 3 rfl, HS, f0, f1, f2, fun _ => rfl, f4, o14_0⟩
          | 4, _ =>
           have hb3 : b 3 = true := hd 3 (by decide)
           obtain rfl := f3 hb3
           refine GO.at hs ?_
           refine GO.not rfl rfl rfl ?_
           refine GO.fin (fun a hs => ?_)
           exact ⟨_, _, _, _, (.bool (!t101)), A97, c98, _, by exact hs.setAt 4 rfl, HS, f0, f1, f2, f3, fun _ => rfl, o14_0⟩
          | k + 5, hj => exact absurd hj (Nat.not_lt.2 (Nat.le_add_left 5 k))
         ·
          intro b a w hall
          refine exI fun Y23_0 => exI fun Y24_1 => exI fun Y25_2 => exI fun Y26_3 => exI fun Y27_4 => exI fun A97 => exI fun c98 => exI fun O28_14 => anI fun hs => anI fun HS => anI fun f0 => anI fun f1 => anI fun f2 => anI fun f3 => anI fun f4 => fun o14_0 => ?_
          obtain rfl := f0 (hall 0 (by decide))
          obtain rfl := f1 (hall 1 (by decide))
          obtain rfl := f2 (hall 2 (by decide))
          obtain rfl := f3 (hall 3 (by decide))
          obtain rfl := f4 (hall 4 (by decide))
          obtain rfl := o14_0 (hall 2 (by decide))
          refine G.at hs ?_
          rcases ite_elim H with ⟨c105, H⟩ | ⟨c105, H⟩
          ·
           refine G.noB rfl (congrArg Bool.not c105) ?_
           refine G.skip ?_
           refine G.seq ?_
           refine G.region ?_
           refine GO.assign rfl rfl rfl ?_
           refine GO.nil ?_
           refine G.seq ?_
           obtain ⟨t106, t107, h108, H⟩ := bind2_elim H
           obtain ⟨c109, H⟩ := ite_none H
           refine G.region ?_
           refine GO.ldBoxA (j := 4) ([.slice A43 t40.length c44, .int .i64 t41]) HS rfl rfl rfl rfl ag28 rfl ?_
           refine GO.move rfl rfl rfl ?_
           replace HS := HS.pk 14 [5, 0, 1, 2, 3, 4, 6, 7, 8, 9, 10, 11, 12, 13] rfl
           refine GO.fn rfl Try.func17 fok17.1 fok17.2 rfl rfl (laws_markDiagram.calls HS  h108) (fun _ wd110 ⟨h111, HS⟩ => ⟨_, h111, ?_⟩)
           refine GO.assign rfl rfl rfl ?_
           refine GO.nil ?_
           replace HS := HS.boxEq (j := 5) (cs' := [.slice A43 t107.length c44, .int .i64 t41]) rfl (by simp only [List.length_set, c109] <;> rfl)
           refine G.seq ?_
           obtain ⟨t112, t113, h114, H⟩ := bind2_elim H
           obtain ⟨c115, H⟩ := ite_none H
           refine G.region ?_
           refine GO.ldBoxA (j := 3) ([.slice A53 t50.length c54, .int .i64 t51]) HS rfl rfl rfl rfl ag28 rfl ?_
           refine GO.move rfl rfl rfl ?_
           replace HS := HS.pk 14 [4, 0, 1, 2, 3, 5, 6, 7, 8, 9, 10, 11, 12, 13] rfl
           refine GO.fn rfl Try.func17 fok17.1 fok17.2 rfl rfl (laws_markDiagram.calls HS  h114) (fun _ wd116 ⟨h117, HS⟩ => ⟨_, h117, ?_⟩)
           refine GO.assign rfl rfl rfl ?_
           refine GO.nil ?_
           replace HS := HS.boxEq (j := 4) (cs' := [.slice A53 t113.length c54, .int .i64 t51]) rfl (by simp only [List.length_set, c115] <;> rfl)
           refine G.seq ?_
           refine G.seq ?_
           rcases ite_elim H with ⟨c124, H⟩ | ⟨c124, H⟩
           ·
            refine G.region ?_
            refine GO.move rfl rfl rfl ?_
            refine GO.lss rfl rfl rfl rfl ?_
            refine GO.move rfl rfl rfl ?_
            refine GO.known (t := 80) rfl (decide_eq_true c124) ?_
            refine GO.off rfl rfl rfl rfl rfl rfl ?_
            refine GO.off rfl rfl rfl rfl rfl rfl ?_
            refine GO.off rfl rfl rfl rfl rfl rfl ?_
            refine GO.off rfl rfl rfl rfl rfl rfl ?_
            refine GO.pickT rfl rfl rfl rfl rfl ?_
            refine GO.move rfl rfl rfl ?_
            refine GO.off rfl rfl rfl rfl rfl rfl ?_
            refine GO.off rfl rfl rfl rfl rfl rfl ?_
            refine GO.off rfl rfl rfl rfl rfl rfl ?_
            refine GO.pickT rfl rfl rfl rfl rfl ?_
            refine GO.nil ?_
            refine G.yesB rfl rfl ?_
            refine G.seq ?_
            refine G.region ?_
            refine GO.assign rfl rfl rfl ?_
            refine GO.nil ?_
            obtain rfl := Option.some.inj H
            exact G.ret1 _ Try.func4 rfl rfl ⟨rfl, (HS.pk 14 [] rfl)⟩
           ·
            obtain ⟨t125, h126, H⟩ := Option.bind_eq_some_iff.1 H
            rcases ite_elim H with ⟨c129, H⟩ | ⟨c129, H⟩
            ·
             refine G.region ?_
             refine GO.move rfl rfl rfl ?_
             refine GO.lss rfl rfl rfl rfl ?_
             refine GO.move rfl rfl rfl ?_
             refine GO.known (t := 80) rfl (decide_eq_false c124) ?_
             refine GO.on rfl rfl rfl rfl ?_
             refine GO.ldBoxA (j := 2) ([.slice A64 t60.length c65, .int .i64 t61]) HS rfl rfl rfl rfl ag28 rfl ?_
             refine GO.back ?_
             refine GO.on rfl rfl rfl rfl ?_
             refine GO.ldBoxA (j := 11) ([.slice A33 t29.length c34, .int .i64 t30]) HS rfl rfl rfl rfl ag28 rfl ?_
             refine GO.back ?_
             refine GO.on rfl rfl rfl rfl ?_
             refine GO.fn rfl Try.func16 fok16.1 fok16.2 rfl rfl (laws_eqDiagram.calls HS (RdIn.own (j := 3) rfl) (RdIn.own (j := 10) rfl) h126) (fun _ wd127 ⟨h128, HS⟩ => ⟨_, h128, ?_⟩)
             refine GO.back ?_
             refine GO.on rfl rfl rfl rfl ?_
             refine GO.not rfl rfl rfl ?_
             refine GO.back ?_
             refine GO.pickF rfl rfl rfl rfl rfl ?_
             refine GO.move rfl rfl rfl ?_
             refine GO.known (t := 86) rfl (congrArg Bool.not c129) ?_
             refine GO.on rfl rfl rfl rfl ?_
             refine GO.move rfl rfl rfl ?_
             refine GO.back ?_
             refine GO.on rfl rfl rfl rfl ?_
             refine GO.move rfl rfl rfl ?_
             refine GO.back ?_
             refine GO.on rfl rfl rfl rfl ?_
             refine GO.neq rfl rfl rfl rfl ?_
             refine GO.back ?_
             refine GO.pickF rfl rfl rfl rfl rfl ?_
             refine GO.nil ?_
             refine G.noB rfl (congrArg Bool.not (decide_eq_true c81)) ?_
             refine G.skip ?_
             refine G.seq ?_
             refine G.region ?_
             refine GO.assign rfl rfl rfl ?_
             refine GO.nil ?_
             refine G.seq ?_
             obtain ⟨t130, t131, h132, H⟩ := bind2_elim H
             obtain ⟨c133, H⟩ := ite_none H
             refine G.region ?_
             refine GO.ldBoxA (j := 2) ([.slice A64 t60.length c65, .int .i64 t61]) HS rfl rfl rfl rfl ag28 rfl ?_
             refine GO.move rfl rfl rfl ?_
             replace HS := HS.pk 14 [3, 0, 1, 2, 4, 5, 6, 7, 8, 9, 10, 11, 12, 13] rfl
             refine GO.fn rfl Try.func17 fok17.1 fok17.2 rfl rfl (laws_markDiagram.calls HS  h132) (fun _ wd134 ⟨h135, HS⟩ => ⟨_, h135, ?_⟩)
             refine GO.assign rfl rfl rfl ?_
             refine GO.nil ?_
             replace HS := HS.boxEq (j := 3) (cs' := [.slice A64 t131.length c65, .int .i64 t61]) rfl (by simp only [List.length_set, c133] <;> rfl)
             refine G.seq ?_
             refine G.region ?_
             refine GO.assign rfl rfl rfl ?_
             refine GO.nil ?_
             refine G.seq ?_
             obtain ⟨t136, h137, H⟩ := Option.bind_eq_some_iff.1 H
             refine G.region ?_
             refine GO.ldBoxA (j := 3) ([.slice A64 t131.length c65, .int .i64 t61]) HS rfl rfl rfl rfl ag28 rfl ?_
             refine GO.move rfl rfl rfl ?_
             refine GO.fn rfl Try.func18 fok18.1 fok18.2 rfl rfl (laws_heldDiagram.calls HS (RdIn.own (j := 0) rfl) h137) (fun _ wd138 ⟨h139, HS⟩ => ⟨_, h139, ?_⟩)
             refine GO.assign rfl rfl rfl ?_
             refine GO.nil ?_
             refine G.seq ?_
             refine G.seq ?_
             refine G.region ?_
             refine GO.move rfl rfl rfl ?_
             refine GO.lss rfl rfl rfl rfl ?_
             refine GO.nil ?_
             rcases ite_elim H with ⟨c140, H⟩ | ⟨c140, H⟩
             ·
              refine G.yesB rfl (decide_eq_true c140) ?_
              refine G.seq ?_
              refine G.region ?_
              refine GO.assign rfl rfl rfl ?_
              refine GO.nil ?_
              obtain rfl := Option.some.inj H
              exact G.ret1 _ Try.func4 rfl rfl ⟨rfl, (HS.pk 14 [] rfl)⟩
             ·
              refine G.noB rfl (decide_eq_false c140) ?_
              refine G.skip ?_
              refine G.seq ?_
              refine G.seq ?_
              refine G.region ?_
              refine GO.move rfl rfl rfl ?_
              refine GO.move rfl rfl rfl ?_
              refine GO.neq rfl rfl rfl rfl ?_
              refine GO.nil ?_
              rcases ite_elim H with ⟨c141, H⟩ | ⟨c141, H⟩
              ·
               refine G.noB rfl (congrArg Bool.not (decide_eq_true c141)) ?_
               refine G.skip ?_
               refine G.seq ?_
               obtain ⟨t142, t143, h144, H⟩ := bind2_elim H
               obtain ⟨t149, t150, h151, H⟩ := bind2_elim H
               obtain ⟨t156, t157, t158, h159, H⟩ := bind3_elim H
               refine G.regionAny mixed (by decide) (fun b a w => ∃ (Y29_0 : Value) (Y30_1 : Value) (Y31_2 : Value) (Y32_3 : Value) (Y33_4 : Value) (Y34_5 : Value) (Y35_6 : Value) (Y36_7 : Value) (Y37_8 : Value) (Y38_9 : Value) (Y39_10 : Value) (Y40_12 : Value) (A145 : Option Addr) (c146 : Nat) (A152 : Option Addr) (c153 : Nat) (A160 : Option Addr) (c161 : Nat) (b164 : Nat) (O44_15 : HObj) (O41_16 : HObj) (O42_17 : HObj) (O43_18 : HObj), Sat 129 [(19, Y39_10), (20, Y40_12), (102, Y36_7), (103, Y29_0), (104, Y30_1), (105, Y31_2), (106, Y32_3), (107, Y33_4), (108, Y34_5), (109, Y35_6), (110, Y37_8), (111, Y38_9), (1, .int .i64 aA), (3, .int .i64 aB), (4, .pointer (some ⟨b1, 0, none⟩)), (6, .pointer (some ⟨b3, 0, none⟩)), (10, .pointer (some ⟨b37, 0, none⟩)), (11, .int .i64 t31), (14, .pointer (some ⟨b68, 0, none⟩)), (17, .int .i64 t130)] a ∧ St w0 w (Own T_GCrossing 58 A64 c65 (fun _ => ()) t131 :: Own T_GCrossing 58 A53 c54 (fun _ => ()) t113 :: Own T_GCrossing 58 A43 c44 (fun _ => ()) t107 :: Box b68 28 [.slice A64 t131.length c65, .int .i64 t61] :: Box b57 28 [.slice A53 t113.length c54, .int .i64 t51] :: Box b47 28 [.slice A43 t107.length c44, .int .i64 t41] :: Box b3 24 [.slice A_aE_Crossings aE_Crossings.length c_aE_Crossings, .int .i64 aE_Circles] :: Box b1 24 [.slice A_aD_Crossings aD_Crossings.length c_aD_Crossings, .int .i64 aD_Circles] :: Own T_GCrossing 58 A18 c19 (fun _ => ()) t15 :: Own T_GCrossing 58 A25 c26 (fun _ => ()) t22 :: Own T_GCrossing 58 A33 c34 (fun _ => ()) t29 :: Box b37 28 [.slice A33 t29.length c34, .int .i64 t30] :: Own T_GCrossing 58 A85 c86 (fun _ => ()) t82 :: Own T_GCrossing 58 A97 c98 (fun _ => ()) t94 :: O44_15 :: O41_16 :: O42_17 :: O43_18 :: L) ∧ (b 10 = true → Y39_10 = (.pointer (some ⟨b164, 0, none⟩))) ∧ (b 12 = true → Y40_12 = (.int .i64 t158)) ∧ (b 7 = true → Y36_7 = (.tuple #[.agg [.slice A160 t156.length c161, .int .i64 t157].toArray, .int .i64 t158])) ∧ (b 0 = true → Y29_0 = (.agg [.slice A_aD_Crossings aD_Crossings.length c_aD_Crossings, .int .i64 aD_Circles].toArray)) ∧ (b 1 = true → Y30_1 = (.agg [.slice A145 t142.length c146, .int .i64 t143].toArray)) ∧ (b 2 = true → Y31_2 = (.int .i64 aA)) ∧ (b 3 = true → Y32_3 = (.agg [.slice A_aE_Crossings aE_Crossings.length c_aE_Crossings, .int .i64 aE_Circles].toArray)) ∧ (b 4 = true → Y33_4 = (.agg [.slice A152 t149.length c153, .int .i64 t150].toArray)) ∧ (b 5 = true → Y34_5 = (.int .i64 aB)) ∧ (b 6 = true → Y35_6 = (.tuple #[.agg [.slice A160 t156.length c161, .int .i64 t157].toArray, .int .i64 t158])) ∧ (b 8 = true → Y37_8 = (.agg [.slice A160 t156.length c161, .int .i64 t157].toArray)) ∧ (b 9 = true → Y38_9 = (.int .i64 t158)) ∧ (b 1 = true → O44_15 = Own T_GCrossing 58 A145 c146 (fun _ => ()) t142) ∧ (b 4 = true → O41_16 = Own T_GCrossing 58 A152 c153 (fun _ => ()) t149) ∧ (b 6 = true → O42_17 = Own T_GCrossing 58 A160 c161 (fun _ => ()) t156) ∧ (b 10 = true → b 11 = false → O43_18 = Box b164 28 [.slice none 0 0, .int .i64 0]) ∧ (b 11 = true → O43_18 = Box b164 28 [.slice A160 t156.length c161, .int .i64 t157])) ?_ ?_ ?_
               ·
                intro a hs
                obtain ⟨Y39_10, hs⟩ := hs.ext (d := 19) rfl
                obtain ⟨Y40_12, hs⟩ := hs.ext (d := 20) rfl
                obtain ⟨Y36_7, hs⟩ := hs.ext (d := 102) rfl
                obtain ⟨Y29_0, hs⟩ := hs.ext (d := 103) rfl
                obtain ⟨Y30_1, hs⟩ := hs.ext (d := 104) rfl
                obtain ⟨Y31_2, hs⟩ := hs.ext (d := 105) rfl
                obtain ⟨Y32_3, hs⟩ := hs.ext (d := 106) rfl
                obtain ⟨Y33_4, hs⟩ := hs.ext (d := 107) rfl
                obtain ⟨Y34_5, hs⟩ := hs.ext (d := 108) rfl
                obtain ⟨Y35_6, hs⟩ := hs.ext (d := 109) rfl
                obtain ⟨Y37_8, hs⟩ := hs.ext (d := 110) rfl
                obtain ⟨Y38_9, hs⟩ := hs.ext (d := 111) rfl
                exact ⟨Y29_0, Y30_1, Y31_2, Y32_3, Y33_4, Y34_5, Y35_6, Y36_7, Y37_8, Y38_9, Y39_10, Y40_12, none, 0, none, 0, none, 0, 0, Emp, Emp, Emp, Emp, hs.weak ⟨rfl, rfl, rfl, rfl, rfl, rfl, rfl, rfl, rfl, rfl, rfl, rfl, rfl, rfl, rfl, rfl, rfl, rfl, rfl, rfl, trivial⟩, (HS.drew.emp.emp.emp.emp.pk 18 [4, 5, 6, 7, 8, 9, 10, 11, 12, 13, 14, 15, 16, 17, 3, 2, 1, 0] rfl), fun h => Bool.noConfusion h, fun h => Bool.noConfusion h, fun h => Bool.noConfusion h, fun h => Bool.noConfusion h, fun h => Bool.noConfusion h, fun h => Bool.noConfusion h, fun h => Bool.noConfusion h, fun h => Bool.noConfusion h, fun h => Bool.noConfusion h, fun h => Bool.noConfusion h, fun h => Bool.noConfusion h, fun h => Bool.noConfusion h, fun h => Bool.noConfusion h, fun h => Bool.noConfusion h, fun h => Bool.noConfusion h, fun h => Bool.noConfusion h, fun h => Bool.noConfusion h⟩
               ·
                intro j hj b a w
                refine exI fun Y29_0 => exI fun Y30_1 => exI fun Y31_2 => exI fun Y32_3 => exI fun Y33_4 => exI fun Y34_5 => exI fun Y35_6 => exI fun Y36_7 => exI fun Y37_8 => exI fun Y38_9 => exI fun Y39_10 => exI fun Y40_12 => exI fun A145 => exI fun c146 => exI fun A152 => exI fun c153 => exI fun A160 => exI fun c161 => exI fun b164 => exI fun O44_15 => exI fun O41_16 => exI fun O42_17 => exI fun O43_18 => anI fun hs => anI fun HS => anI fun f10 => anI fun f12 => anI fun f7 => anI fun f0 => anI fun f1 => anI fun f2 => anI fun f3 => anI fun f4 => anI fun f5 => anI fun f6 => anI fun f8 => anI fun f9 => anI fun o15_0 => anI fun o16_0 => anI fun o17_0 => anI fun o18_0 => fun o18_1 hb hd hcl => ?_
                match j, hj with
                | 0, _ =>
                 refine GO.at hs ?_
                 refine GO.ldBoxA (j := 7) ([.slice A_aD_Crossings aD_Crossings.length c_aD_Crossings, .int .i64 aD_Circles]) HS rfl rfl rfl rfl ag24 rfl ?_
                 refine GO.fin (fun a hs => ?_)
                 exact ⟨(.agg [.slice A_aD_Crossings aD_Crossings.length c_aD_Crossings, .int .i64 aD_Circles].toArray), _, _, _, _, _, _, _, _, _, _, _, A145, c146, A152, c153, A160, c161, b164, _, _, _, _, by exact hs.setAt 3 rfl, HS, f10, f12, f7, fun _ => rfl, f1, f2, f3, f4, f5, f6, f8, f9, o15_0, o16_0, o17_0, o18_0, o18_1⟩
                | 1, _ =>
                 have hb0 : b 0 = true := hd 0 (by decide)
                 obtain rfl := f0 hb0
                 refine GO.at hs ?_
                 refine GO.fn rfl Try.func14 fok14.1 fok14.2 rfl rfl (laws_toDiagram.calls HS (RdIn.drop 18 h_aD_Crossings) h144) (fun _ wd147 ⟨A145, c146, h148, HS⟩ => ⟨_, h148, ?_⟩)
                 refine GO.fin (fun a hs => ?_)
                 exact ⟨_, (.agg [.slice A145 t142.length c146, .int .i64 t143].toArray), _, _, _, _, _, _, _, _, _, _, A145, c146, A152, c153, A160, c161, b164, Own T_GCrossing 58 A145 c146 (fun _ => ()) t142, _, _, _, by exact hs.setAt 4 rfl, HS.pk 19 [1, 2, 3, 4, 5, 6, 7, 8, 9, 10, 11, 12, 13, 14, 0, 16, 17, 18] rfl, f10, f12, f7, f0, fun _ => rfl, f2, f3, f4, f5, f6, f8, f9, fun _ => rfl, o16_0, o17_0, o18_0, o18_1⟩
                | 2, _ =>
                 refine GO.at hs ?_
                 refine GO.move rfl rfl rfl ?_
                 refine GO.fin (fun a hs => ?_)
                 exact ⟨_, _, (.int .i64 aA), _, _, _, _, _, _, _, _, _, A145, c146, A152, c153, A160, c161, b164, _, _, _, _, by exact hs.setAt 5 rfl, HS, f10, f12, f7, f0, f1, fun _ => rfl, f3, f4, f5, f6, f8, f9, o15_0, o16_0, o17_0, o18_0, o18_1⟩
                | 3, _ =>
                 refine GO.at hs ?_
                 refine GO.ldBoxA (j := 6) ([.slice A_aE_Crossings aE_Crossings.length c_aE_Crossings, .int .i64 aE_Circles]) HS rfl rfl rfl rfl ag24 rfl ?_
                 refine GO.fin (fun a hs => ?_)
                 exact ⟨_, _, _, (.agg [.slice A_aE_Crossings aE_Crossings.length c_aE_Crossings, .int .i64 aE_Circles].toArray), _, _, _, _, _, _, _, _, A145, c146, A152, c153, A160, c161, b164, _, _, _, _, by exact hs.setAt 6 rfl, HS, f10, f12, f7, f0, f1, f2, fun _ => rfl, f4, f5, f6, f8, f9, o15_0, o16_0, o17_0, o18_0, o18_1⟩
                | 4, _ =>
                 have hb3 : b 3 = true := hd 3 (by decide)
                 obtain rfl := f3 hb3
                 refine GO.at hs ?_
                 refine GO.fn rfl Try.func14 fok14.1 fok14.2 rfl rfl (laws_toDiagram.calls HS (RdIn.drop 18 h_aE_Crossings) h151) (fun _ wd154 ⟨A152, c153, h155, HS⟩ => ⟨_, h155, ?_⟩)
                 refine GO.fin (fun a hs => ?_)
                 exact ⟨_, _, _, _, (.agg [.slice A152 t149.length c153, .int .i64 t150].toArray), _, _, _, _, _, _, _, A145, c146, A152, c153, A160, c161, b164, _, Own T_GCrossing 58 A152 c153 (fun _ => ()) t149, _, _, by exact hs.setAt 7 rfl, HS.pk 19 [1, 2, 3, 4, 5, 6, 7, 8, 9, 10, 11, 12, 13, 14, 15, 0, 17, 18] rfl, f10, f12, f7, f0, f1, f2, f3, fun _ => rfl, f5, f6, f8, f9, o15_0, fun _ => rfl, o17_0, o18_0, o18_1⟩
                | 5, _ =>
                 refine GO.at hs ?_
                 refine GO.move rfl rfl rfl ?_
                 refine GO.fin (fun a hs => ?_)
                 exact ⟨_, _, _, _, _, (.int .i64 aB), _, _, _, _, _, _, A145, c146, A152, c153, A160, c161, b164, _, _, _, _, by exact hs.setAt 8 rfl, HS, f10, f12, f7, f0, f1, f2, f3, f4, fun _ => rfl, f6, f8, f9, o15_0, o16_0, o17_0, o18_0, o18_1⟩
                | 6, _ =>
                 have hb1 : b 1 = true := hd 1 (by decide)
                 obtain rfl := f1 hb1
                 have hb2 : b 2 = true := hd 2 (by decide)
                 obtain rfl := f2 hb2
                 have hb4 : b 4 = true := hd 4 (by decide)
                 obtain rfl := f4 hb4
                 have hb5 : b 5 = true := hd 5 (by decide)
                 obtain rfl := f5 hb5
                 obtain rfl := o15_0 hb1
                 obtain rfl := o16_0 hb4
                 refine GO.at hs ?_
                 refine GO.fn rfl Try.func20 fok20.1 fok20.2 rfl rfl (impl_JoinDiagrams.calls HS (RdIn.own (j := 14) rfl) (RdIn.own (j := 15) rfl) h159) (fun _ wd162 ⟨A160, c161, h163, HS⟩ => ⟨_, h163, ?_⟩)
                 refine GO.fin (fun a hs => ?_)
                 exact ⟨_, _, _, _, _, _, (.tuple #[.agg [.slice A160 t156.length c161, .int .i64 t157].toArray, .int .i64 t158]), _, _, _, _, _, A145, c146, A152, c153, A160, c161, b164, _, _, Own T_GCrossing 58 A160 c161 (fun _ => ()) t156, _, by exact hs.setAt 9 rfl, HS.pk 19 [1, 2, 3, 4, 5, 6, 7, 8, 9, 10, 11, 12, 13, 14, 15, 16, 0, 18] rfl, f10, f12, fun hh => (Bool.noConfusion ((hcl 7 (by decide) hh 6 (by decide)).symm.trans hb)), f0, f1, f2, f3, f4, f5, fun _ => rfl, fun hh => (Bool.noConfusion ((hcl 7 (by decide) (hcl 8 (by decide) hh 7 (by decide)) 6 (by decide)).symm.trans hb)), f9, o15_0, o16_0, fun _ => rfl, o18_0, fun hh => (Bool.noConfusion ((hcl 11 (by decide) hh 6 (by decide)).symm.trans hb))⟩
                | 7, _ =>
                 have hb6 : b 6 = true := hd 6 (by decide)
                 obtain rfl := f6 hb6
                 refine GO.at hs ?_
                 refine GO.move rfl rfl rfl ?_
                 refine GO.fin (fun a hs => ?_)
                 exact ⟨_, _, _, _, _, _, _, (.tuple #[.agg [.slice A160 t156.length c161, .int .i64 t157].toArray, .int .i64 t158]), _, _, _, _, A145, c146, A152, c153, A160, c161, b164, _, _, _, _, by exact hs.setAt 2 rfl, HS, f10, f12, fun _ => rfl, f0, f1, f2, f3, f4, f5, f6, f8, f9, o15_0, o16_0, o17_0, o18_0, o18_1⟩
                | 8, _ =>
                 have hb7 : b 7 = true := hd 7 (by decide)
                 obtain rfl := f7 hb7
                 refine GO.at hs ?_
                 refine GO.extract rfl rfl rfl rfl ?_
                 refine GO.fin (fun a hs => ?_)
                 exact ⟨_, _, _, _, _, _, _, _, (.agg [.slice A160 t156.length c161, .int .i64 t157].toArray), _, _, _, A145, c146, A152, c153, A160, c161, b164, _, _, _, _, by exact hs.setAt 10 rfl, HS, f10, f12, f7, f0, f1, f2, f3, f4, f5, f6, fun _ => rfl, f9, o15_0, o16_0, o17_0, o18_0, o18_1⟩
                | 9, _ =>
                 have hb7 : b 7 = true := hd 7 (by decide)
                 obtain rfl := f7 hb7
                 refine GO.at hs ?_
                 refine GO.extract rfl rfl rfl rfl ?_
                 refine GO.fin (fun a hs => ?_)
                 exact ⟨_, _, _, _, _, _, _, _, _, (.int .i64 t158), _, _, A145, c146, A152, c153, A160, c161, b164, _, _, _, _, by exact hs.setAt 11 rfl, HS, f10, f12, f7, f0, f1, f2, f3, f4, f5, f6, f8, fun _ => rfl, o15_0, o16_0, o17_0, o18_0, o18_1⟩
                | 10, _ =>
                 refine GO.at hs ?_
                 refine GO.alloc HS rfl zr28 rfl rfl ?_; intro b164 wd165 HS
                 refine GO.fin (fun a hs => ?_)
                 exact ⟨_, _, _, _, _, _, _, _, _, _, (.pointer (some ⟨b164, 0, none⟩)), _, A145, c146, A152, c153, A160, c161, b164, _, _, _, Box b164 28 [.slice none 0 0, .int .i64 0], by exact hs.setAt 0 rfl, HS.pk 19 [1, 2, 3, 4, 5, 6, 7, 8, 9, 10, 11, 12, 13, 14, 15, 16, 17, 0] rfl, fun _ => rfl, f12, f7, f0, f1, f2, f3, f4, f5, f6, f8, f9, o15_0, o16_0, o17_0, fun _ _ => rfl, fun hh => (Bool.noConfusion ((hcl 11 (by decide) hh 10 (by decide)).symm.trans hb))⟩
                | 11, _ =>
                 have hb10 : b 10 = true := hd 10 (by decide)
                 obtain rfl := f10 hb10
                 have hb8 : b 8 = true := hd 8 (by decide)
                 obtain rfl := f8 hb8
                 obtain rfl := o18_0 hb10 hb
                 refine GO.at hs ?_
                 refine GO.stBox (j := 17) (vs := [.slice A160 t156.length c161, .int .i64 t157]) ([.slice A160 t156.length c161, .int .i64 t157]) HS rfl rfl rfl rfl rfl (htA ag28) rfl rfl rfl ?_; intro wd166 HS
                 refine GO.fin (fun a hs => ?_)
                 exact ⟨_, _, _, _, _, _, _, _, _, _, _, _, A145, c146, A152, c153, A160, c161, b164, _, _, _, Box b164 28 [.slice A160 t156.length c161, .int .i64 t157], hs, HS, f10, f12, f7, f0, f1, f2, f3, f4, f5, f6, f8, f9, o15_0, o16_0, o17_0, fun _ h => Bool.noConfusion h, fun _ => rfl⟩
                | 12, _ =>
                 have hb9 : b 9 = true := hd 9 (by decide)
                 obtain rfl := f9 hb9
                 refine GO.at hs ?_
                 refine GO.assign rfl rfl rfl ?_
                 refine GO.fin (fun a hs => ?_)
                 exact ⟨_, _, _, _, _, _, _, _, _, _, _, (.int .i64 t158), A145, c146, A152, c153, A160, c161, b164, _, _, _, _, by exact hs.setAt 1 rfl, HS, f10, fun _ => rfl, f7, f0, f1, f2, f3, f4, f5, f6, f8, f9, o15_0, o16_0, o17_0, o18_0, o18_1⟩
                | k + 13, hj => exact absurd hj (Nat.not_lt.2 (Nat.le_add_left 13 k))
               ·
                intro b a w hall
                refine exI fun Y29_0 => exI fun Y30_1 => exI fun Y31_2 => exI fun Y32_3 => exI fun Y33_4 => exI fun Y34_5 => exI fun Y35_6 => exI fun Y36_7 => exI fun Y37_8 => exI fun Y38_9 => exI fun Y39_10 => exI fun Y40_12 => exI fun A145 => exI fun c146 => exI fun A152 => exI fun c153 => exI fun A160 => exI fun c161 => exI fun b164 => exI fun O44_15 => exI fun O41_16 => exI fun O42_17 => exI fun O43_18 => anI fun hs => anI fun HS => anI fun f10 => anI fun f12 => anI fun f7 => anI fun f0 => anI fun f1 => anI fun f2 => anI fun f3 => anI fun f4 => anI fun f5 => anI fun f6 => anI fun f8 => anI fun f9 => anI fun o15_0 => anI fun o16_0 => anI fun o17_0 => anI fun o18_0 => fun o18_1 => ?_
                obtain rfl := f10 (hall 10 (by decide))
                obtain rfl := f12 (hall 12 (by decide))
                obtain rfl := f7 (hall 7 (by decide))
                obtain rfl := f0 (hall 0 (by decide))
                obtain rfl := f1 (hall 1 (by decide))
                obtain rfl := f2 (hall 2 (by decide))
                obtain rfl := f3 (hall 3 (by decide))
                obtain rfl := f4 (hall 4 (by decide))
                obtain rfl := f5 (hall 5 (by decide))
                obtain rfl := f6 (hall 6 (by decide))
                obtain rfl := f8 (hall 8 (by decide))
                obtain rfl := f9 (hall 9 (by decide))
                obtain rfl := o15_0 (hall 1 (by decide))
                obtain rfl := o16_0 (hall 4 (by decide))
                obtain rfl := o17_0 (hall 6 (by decide))
                obtain rfl := o18_1 (hall 11 (by decide))
                refine G.at hs ?_
                refine G.seq ?_
                refine G.seq ?_
                obtain ⟨t172, h173, H⟩ := Option.bind_eq_some_iff.1 H
                rcases ite_elim H with ⟨c176, H⟩ | ⟨c176, H⟩
                ·
                 refine G.region ?_
                 refine GO.ldBoxA (j := 17) ([.slice A160 t156.length c161, .int .i64 t157]) HS rfl rfl rfl rfl ag28 rfl ?_
                 refine GO.ldBoxA (j := 11) ([.slice A33 t29.length c34, .int .i64 t30]) HS rfl rfl rfl rfl ag28 rfl ?_
                 refine GO.fn rfl Try.func16 fok16.1 fok16.2 rfl rfl (laws_eqDiagram.calls HS (RdIn.own (j := 16) rfl) (RdIn.own (j := 10) rfl) h173) (fun _ wd174 ⟨h175, HS⟩ => ⟨_, h175, ?_⟩)
                 refine GO.not rfl rfl rfl ?_
                 refine GO.move rfl rfl rfl ?_
                 refine GO.known (t := 116) rfl (congrArg Bool.not c176) ?_
                 refine GO.on rfl rfl rfl rfl ?_
                 refine GO.move rfl rfl rfl ?_
                 refine GO.back ?_
                 refine GO.on rfl rfl rfl rfl ?_
                 refine GO.move rfl rfl rfl ?_
                 refine GO.back ?_
                 refine GO.on rfl rfl rfl rfl ?_
                 refine GO.neq rfl rfl rfl rfl ?_
                 refine GO.back ?_
                 refine GO.pickF rfl rfl rfl rfl rfl ?_
                 refine GO.nil ?_
                 rcases ite_elim H with ⟨c177, H⟩ | ⟨c177, H⟩
                 ·
                  refine G.noB rfl (congrArg Bool.not (decide_eq_true c177)) ?_
                  refine G.skip ?_
                  refine G.seq ?_
                  refine G.region ?_
                  refine GO.assign rfl rfl rfl ?_
                  refine GO.nil ?_
                  refine G.seq ?_
                  obtain ⟨t178, h179, H⟩ := Option.bind_eq_some_iff.1 H
                  refine G.region ?_
                  refine GO.ldBoxA (j := 3) ([.slice A64 t131.length c65, .int .i64 t61]) HS rfl rfl rfl rfl ag28 rfl ?_
                  refine GO.move rfl rfl rfl ?_
                  refine GO.fn rfl Try.func18 fok18.1 fok18.2 rfl rfl (laws_heldDiagram.calls HS (RdIn.own (j := 0) rfl) h179) (fun _ wd180 ⟨h181, HS⟩ => ⟨_, h181, ?_⟩)
                  refine GO.assign rfl rfl rfl ?_
                  refine GO.nil ?_
                  refine G.seq ?_
                  refine G.seq ?_
                  refine G.region ?_
                  refine GO.move rfl rfl rfl ?_
                  refine GO.lss rfl rfl rfl rfl ?_
                  refine GO.nil ?_
                  rcases ite_elim H with ⟨c182, H⟩ | ⟨c182, H⟩
                  ·
                   refine G.yesB rfl (decide_eq_true c182) ?_
                   refine G.seq ?_
                   refine G.region ?_
                   refine GO.assign rfl rfl rfl ?_
                   refine GO.nil ?_
                   obtain rfl := Option.some.inj H
                   exact G.ret1 _ Try.func4 rfl rfl ⟨rfl, (HS.pk 18 [] rfl)⟩
                  ·
                   refine G.noB rfl (decide_eq_false c182) ?_
                   refine G.skip ?_
                   refine G.seq ?_
                   refine G.seq ?_
                   refine G.region ?_
                   refine GO.move rfl rfl rfl ?_
                   refine GO.move rfl rfl rfl ?_
                   refine GO.neq rfl rfl rfl rfl ?_
                   refine GO.nil ?_
                   rcases ite_elim H with ⟨c183, H⟩ | ⟨c183, H⟩
                   ·
                    refine G.noB rfl (congrArg Bool.not (decide_eq_true c183)) ?_
                    refine G.skip ?_
                    refine G.seq ?_
                    refine G.region ?_
                    refine GO.assign rfl rfl rfl ?_
                    refine GO.nil ?_
                    obtain rfl := Option.some.inj H
                    exact G.ret1 _ Try.func4 rfl rfl ⟨rfl, (HS.pk 18 [] rfl)⟩
                   ·
                    refine G.yesB rfl (congrArg Bool.not (decide_eq_false c183)) ?_
                    refine G.seq ?_
                    refine G.region ?_
                    refine GO.assign rfl rfl rfl ?_
                    refine GO.nil ?_
                    obtain rfl := Option.some.inj H
                    exact G.ret1 _ Try.func4 rfl rfl ⟨rfl, (HS.pk 18 [] rfl)⟩
                 ·
                  refine G.yesB rfl (congrArg Bool.not (decide_eq_false c177)) ?_
                  refine G.seq ?_
                  refine G.region ?_
                  refine GO.assign rfl rfl rfl ?_
                  refine GO.nil ?_
                  obtain rfl := Option.some.inj H
                  exact G.ret1 _ Try.func4 rfl rfl ⟨rfl, (HS.pk 18 [] rfl)⟩
                ·
                 refine G.region ?_
                 refine GO.ldBoxA (j := 17) ([.slice A160 t156.length c161, .int .i64 t157]) HS rfl rfl rfl rfl ag28 rfl ?_
                 refine GO.ldBoxA (j := 11) ([.slice A33 t29.length c34, .int .i64 t30]) HS rfl rfl rfl rfl ag28 rfl ?_
                 refine GO.fn rfl Try.func16 fok16.1 fok16.2 rfl rfl (laws_eqDiagram.calls HS (RdIn.own (j := 16) rfl) (RdIn.own (j := 10) rfl) h173) (fun _ wd174 ⟨h175, HS⟩ => ⟨_, h175, ?_⟩)
                 refine GO.not rfl rfl rfl ?_
                 refine GO.move rfl rfl rfl ?_
                 refine GO.known (t := 116) rfl (congrArg Bool.not (bnot_of c176)) ?_
                 refine GO.off rfl rfl rfl rfl rfl rfl ?_
                 refine GO.off rfl rfl rfl rfl rfl rfl ?_
                 refine GO.off rfl rfl rfl rfl rfl rfl ?_
                 refine GO.pickT rfl rfl rfl rfl rfl ?_
                 refine GO.nil ?_
                 refine G.yesB rfl rfl ?_
                 refine G.seq ?_
                 refine G.region ?_
                 refine GO.assign rfl rfl rfl ?_
                 refine GO.nil ?_
                 obtain rfl := Option.some.inj H
                 exact G.ret1 _ Try.func4 rfl rfl ⟨rfl, (HS.pk 18 [] rfl)⟩
              ·
               refine G.yesB rfl (congrArg Bool.not (decide_eq_false c141)) ?_
               refine G.seq ?_
               refine G.region ?_
               refine GO.assign rfl rfl rfl ?_
               refine GO.nil ?_
               obtain rfl := Option.some.inj H
               exact G.ret1 _ Try.func4 rfl rfl ⟨rfl, (HS.pk 14 [] rfl)⟩
            ·
             refine G.region ?_
             refine GO.move rfl rfl rfl ?_
             refine GO.lss rfl rfl rfl rfl ?_
             refine GO.move rfl rfl rfl ?_
             refine GO.known (t := 80) rfl (decide_eq_false c124) ?_
             refine GO.on rfl rfl rfl rfl ?_
             refine GO.ldBoxA (j := 2) ([.slice A64 t60.length c65, .int .i64 t61]) HS rfl rfl rfl rfl ag28 rfl ?_
             refine GO.back ?_
             refine GO.on rfl rfl rfl rfl ?_
             refine GO.ldBoxA (j := 11) ([.slice A33 t29.length c34, .int .i64 t30]) HS rfl rfl rfl rfl ag28 rfl ?_
             refine GO.back ?_
             refine GO.on rfl rfl rfl rfl ?_
             refine GO.fn rfl Try.func16 fok16.1 fok16.2 rfl rfl (laws_eqDiagram.calls HS (RdIn.own (j := 3) rfl) (RdIn.own (j := 10) rfl) h126) (fun _ wd127 ⟨h128, HS⟩ => ⟨_, h128, ?_⟩)
             refine GO.back ?_
             refine GO.on rfl rfl rfl rfl ?_
             refine GO.not rfl rfl rfl ?_
             refine GO.back ?_
             refine GO.pickF rfl rfl rfl rfl rfl ?_
             refine GO.move rfl rfl rfl ?_
             refine GO.known (t := 86) rfl (congrArg Bool.not (bnot_of c129)) ?_
             refine GO.off rfl rfl rfl rfl rfl rfl ?_
             refine GO.off rfl rfl rfl rfl rfl rfl ?_
             refine GO.off rfl rfl rfl rfl rfl rfl ?_
             refine GO.pickT rfl rfl rfl rfl rfl ?_
             refine GO.nil ?_
             refine G.yesB rfl rfl ?_
             refine G.seq ?_
             refine G.region ?_
             refine GO.assign rfl rfl rfl ?_
             refine GO.nil ?_
             obtain rfl := Option.some.inj H
             exact G.ret1 _ Try.func4 rfl rfl ⟨rfl, (HS.pk 14 [] rfl)⟩
          ·
           refine G.yesB rfl (congrArg Bool.not (bnot_of c105)) ?_
           refine G.seq ?_
           refine G.region ?_
           refine GO.assign rfl rfl rfl ?_
           refine GO.nil ?_
           obtain rfl := Option.some.inj H
           exact G.ret1 _ Try.func4 rfl rfl ⟨rfl, (HS.pk 14 [] rfl)⟩
        ·
         refine G.yesB rfl (congrArg Bool.not (bnot_of c93)) ?_
         refine G.seq ?_
         refine G.region ?_
         refine GO.assign rfl rfl rfl ?_
         refine GO.nil ?_
         obtain rfl := Option.some.inj H
         exact G.ret1 _ Try.func4 rfl rfl ⟨rfl, (HS.pk 13 [] rfl)⟩
      ·
       refine G.yesB rfl (congrArg Bool.not (decide_eq_false c81)) ?_
       refine G.seq ?_
       refine G.region ?_
       refine GO.assign rfl rfl rfl ?_
       refine GO.nil ?_
       obtain rfl := Option.some.inj H
       exact G.ret1 _ Try.func4 rfl rfl ⟨rfl, (HS.pk 12 [] rfl)⟩
     ·
      refine G.region ?_
      refine GO.ldBoxA (j := 0) ([.slice A64 t60.length c65, .int .i64 t61]) HS rfl rfl rfl rfl ag28 rfl ?_
      refine GO.ldBoxA (j := 11) ([.slice A33 t29.length c34, .int .i64 t30]) HS rfl rfl rfl rfl ag28 rfl ?_
      refine GO.fn rfl Try.func16 fok16.1 fok16.2 rfl rfl (laws_eqDiagram.calls HS (RdIn.own (j := 1) rfl) (RdIn.own (j := 10) rfl) h77) (fun _ wd78 ⟨h79, HS⟩ => ⟨_, h79, ?_⟩)
      refine GO.not rfl rfl rfl ?_
      refine GO.move rfl rfl rfl ?_
      refine GO.known (t := 57) rfl (congrArg Bool.not (bnot_of c80)) ?_
      refine GO.off rfl rfl rfl rfl rfl rfl ?_
      refine GO.off rfl rfl rfl rfl rfl rfl ?_
      refine GO.off rfl rfl rfl rfl rfl rfl ?_
      refine GO.pickT rfl rfl rfl rfl rfl ?_
      refine GO.nil ?_
      refine G.yesB rfl rfl ?_
      refine G.seq ?_
      refine G.region ?_
      refine GO.assign rfl rfl rfl ?_
      refine GO.nil ?_
      obtain rfl := Option.some.inj H
      exact G.ret1 _ Try.func4 rfl rfl ⟨rfl, (HS.pk 12 [] rfl)⟩

end Go.Proofs.Ytdafmbaeiefacaa
