/-
  The walks through the functions: a call comes to what its list function says.
-/
import Derived.Test.YtdafmbaeiefacaaAlF
import Derived.Test.YtdafmbaeiefacaaAlW1
import Derived.Test.YtdafmbaeiefacaaAlW2
import Derived.Test.YtdafmbaeiefacaaAlW3
import Derived.Test.YtdafmbaeiefacaaAlW4
set_option linter.unusedVariables false
set_option linter.unusedSimpArgs false
namespace Go.Proofs.Ytdafmbaeiefacaa
open Go.RowKit
set_option maxRecDepth 20000 in
set_option maxHeartbeats 40000000 in
theorem impl_crossingOf.calls {w0 w : World} {L : List HObj} {ends_0 : Int} {ends_1 : Int} {ends_2 : Int} {ends_3 : Int} {sign : Int} {r1 : Int} {r2 : Int} {r3 : Int} {r4 : Int} {r5 : Int} (HS : St w0 w (L)) (H : impl_crossingOf.f ends_0 ends_1 ends_2 ends_3 sign = some (r1, r2, r3, r4, r5)) :
    Calls Try.prog 113 #[.agg [.int .i64 ends_0, .int .i64 ends_1, .int .i64 ends_2, .int .i64 ends_3].toArray, .int .i64 sign] w (impl_crossingOf.post w0 L ends_0 ends_1 ends_2 ends_3 sign r1 r2 r3 r4 r5) := by
  unfold impl_crossingOf.f at H
  refine Calls.of_G Try.func113 rfl rfl rfl ?_
  refine G.seq ?_
  refine G.region ?_
  refine GO.box (cs := [.int .i64 ends_0, .int .i64 ends_1, .int .i64 ends_2, .int .i64 ends_3]) HS rfl rfl rfl rfl ?_; intro b1 wd2 HS
  refine GO.alloc HS rfl zr58 rfl rfl ?_; intro b3 wd4 HS
  refine GO.nil ?_
  refine G.seq ?_
  refine G.region ?_
  refine GO.ixP 0 rfl rfl rfl rfl Try.underlying93 sz2 rfl rfl ?_
  refine GO.ldBox (j := 1) HS rfl rfl rfl rfl na2 rfl ?_
  refine GO.ixP 1 rfl rfl rfl rfl Try.underlying93 sz2 rfl rfl ?_
  refine GO.ldBox (j := 1) HS rfl rfl rfl rfl na2 rfl ?_
  refine GO.ixP 2 rfl rfl rfl rfl Try.underlying93 sz2 rfl rfl ?_
  refine GO.ldBox (j := 1) HS rfl rfl rfl rfl na2 rfl ?_
  refine GO.ixP 3 rfl rfl rfl rfl Try.underlying93 sz2 rfl rfl ?_
  refine GO.ldBox (j := 1) HS rfl rfl rfl rfl na2 rfl ?_
  refine GO.move rfl rfl rfl ?_
  refine GO.buildV (.agg [.int .i64 ends_0, .int .i64 ends_1, .int .i64 ends_2, .int .i64 ends_3, .int .i64 sign].toArray) rfl rfl (fun _ => by kernel_rfl) rfl ?_
  refine GO.stBox (j := 0) (vs := [.int .i64 ends_0, .int .i64 ends_1, .int .i64 ends_2, .int .i64 ends_3, .int .i64 sign]) ([.int .i64 ends_0, .int .i64 ends_1, .int .i64 ends_2, .int .i64 ends_3, .int .i64 sign]) HS rfl rfl rfl rfl rfl (htA ag58) rfl rfl rfl ?_; intro wd5 HS
  refine GO.nil ?_
  obtain ⟨rfl, rfl, rfl, rfl, rfl⟩ := some5 H
  exact G.ret1 _ Try.func113 rfl (Res1.boxA (j := 0) (vs := [.int .i64 ends_0, .int .i64 ends_1, .int .i64 ends_2, .int .i64 ends_3, .int .i64 sign]) HS rfl rfl rfl ag58) ⟨rfl, (HS.pick 2 [])⟩

set_option maxRecDepth 20000 in
set_option maxHeartbeats 40000000 in
theorem impl_Diagram_set.calls {w0 w : World} {L : List HObj} {d_Crossings : List GCrossing} {d_Circles : Int} {e_crossing : Int} {e_position : Int} {arc : Int} {A_d_Crossings : Option Addr} {c_d_Crossings : Nat} {r1 : List GCrossing} (HS : St w0 w (Own T_GCrossing 58 A_d_Crossings c_d_Crossings (fun _ => ()) d_Crossings :: L)) (H : impl_Diagram_set.f d_Crossings d_Circles e_crossing e_position arc = some r1) :
    Calls Try.prog 50 #[.agg [.slice A_d_Crossings d_Crossings.length c_d_Crossings, .int .i64 d_Circles].toArray, .agg [.int .i64 e_crossing, .int .i64 e_position].toArray, .int .i64 arc] w (impl_Diagram_set.post w0 L d_Crossings d_Circles e_crossing e_position arc A_d_Crossings c_d_Crossings r1) := by
  unfold impl_Diagram_set.f at H
  refine Calls.of_G Try.func50 rfl rfl rfl ?_
  refine G.seq ?_
  refine G.region ?_
  refine GO.box (cs := [.slice A_d_Crossings d_Crossings.length c_d_Crossings, .int .i64 d_Circles]) HS rfl rfl rfl rfl ?_; intro b1 wd2 HS
  refine GO.box (cs := [.int .i64 e_crossing, .int .i64 e_position]) HS rfl rfl rfl rfl ?_; intro b3 wd4 HS
  refine GO.nil ?_
  refine G.seq ?_
  obtain ⟨c5, H⟩ := ite_none H
  obtain ⟨e6, h7, H⟩ := bnd_elim H
  refine G.region ?_
  refine GO.fld (⟨b1, 0, none⟩) rfl rfl fl28_0 rfl rfl ?_
  refine GO.ldBox (j := 1) HS rfl rfl rfl rfl na26 rfl ?_
  refine GO.fld (⟨b3, 0, none⟩) rfl rfl fl68_0 rfl rfl ?_
  refine GO.ldBox (j := 0) HS rfl rfl rfl rfl na2 rfl ?_
  refine GO.ix rfl rfl rfl Try.underlying26 sz58 ((RdIn.own (j := 2) rfl) _ HS).2.2.1 c5.1 c5.2 rfl ?_
  refine GO.ldRdA (T := T_GCrossing) (n := e_crossing.toNat) HS (RdIn.own (j := 2) rfl) rfl rfl (getD_eq (ltN c5) h7) ag58 rfl ?_
  refine GO.alloc HS rfl zr58 rfl rfl ?_; intro b8 wd9 HS
  refine GO.stBox (j := 0) (vs := [.int .i64 e6.A, .int .i64 e6.B, .int .i64 e6.C, .int .i64 e6.D, .int .i64 e6.Sign]) ([.int .i64 e6.A, .int .i64 e6.B, .int .i64 e6.C, .int .i64 e6.D, .int .i64 e6.Sign]) HS rfl rfl rfl rfl rfl (htA ag58) rfl rfl rfl ?_; intro wd10 HS
  refine GO.nil ?_
  refine G.seq ?_
  obtain ⟨t11, t12, t13, t14, h15, H⟩ := bind4_elim H
  refine G.region ?_
  refine GO.ldBoxA (j := 0) ([.int .i64 e6.A, .int .i64 e6.B, .int .i64 e6.C, .int .i64 e6.D, .int .i64 e6.Sign]) HS rfl rfl rfl rfl ag58 rfl ?_
  refine GO.fn rfl Try.func75 fok75.1 fok75.2 rfl rfl (impl_Crossing_ends.calls HS  h15) (fun _ wd16 ⟨h17, HS⟩ => ⟨_, h17, ?_⟩)
  refine GO.alloc HS rfl zr93 rfl rfl ?_; intro b18 wd19 HS
  refine GO.stBox (j := 0) (vs := [.int .i64 t11, .int .i64 t12, .int .i64 t13, .int .i64 t14]) ([.int .i64 t11, .int .i64 t12, .int .i64 t13, .int .i64 t14]) HS rfl rfl rfl rfl rfl (htA ag93) rfl rfl rfl ?_; intro wd20 HS
  refine GO.nil ?_
  refine G.seq ?_
  rcases ite_elim H with ⟨c21, H⟩ | ⟨c21, H⟩
  ·
   refine G.region ?_
   refine GO.fld (⟨b3, 1, none⟩) rfl rfl fl68_1 rfl rfl ?_
   refine GO.ldBox (j := 2) HS rfl rfl rfl rfl na2 rfl ?_
   refine GO.move rfl rfl rfl ?_
   refine GO.ixP 0 rfl rfl rfl c21 Try.underlying93 sz2 rfl rfl ?_
   refine GO.stBox (j := 0) (vs := [.int .i64 arc]) ([.int .i64 arc, .int .i64 t12, .int .i64 t13, .int .i64 t14]) HS rfl rfl rfl rfl rfl (htN na2 rfl) rfl rfl rfl ?_; intro wd22 HS
   refine GO.nil ?_
   obtain ⟨t23, t24, t25, t26, t27, h28, H⟩ := bind5_elim H
   refine G.regionAny mixed (by decide) (fun b a w => ∃ (Y1_0 : Value) (Y2_1 : Value) (Y3_2 : Value) (Y4_3 : Value) (Y5_4 : Value) (Y6_5 : Value) (Y7_6 : Value) (Y8_7 : Value) (Y9_8 : Value) (O10_1 : HObj), Sat 29 [(20, Y1_0), (21, Y2_1), (22, Y3_2), (23, Y4_3), (24, Y5_4), (25, Y6_5), (26, Y7_6), (27, Y8_7), (28, Y9_8), (3, .pointer (some ⟨b1, 0, none⟩)), (4, .pointer (some ⟨b3, 0, none⟩)), (6, .pointer (some ⟨b8, 0, none⟩)), (7, .pointer (some ⟨b18, 0, none⟩))] a ∧ St w0 w (Box b18 93 [.int .i64 arc, .int .i64 t12, .int .i64 t13, .int .i64 t14] :: Box b8 58 [.int .i64 e6.A, .int .i64 e6.B, .int .i64 e6.C, .int .i64 e6.D, .int .i64 e6.Sign] :: Box b3 68 [.int .i64 e_crossing, .int .i64 e_position] :: Box b1 28 [.slice A_d_Crossings d_Crossings.length c_d_Crossings, .int .i64 d_Circles] :: O10_1 :: L) ∧ (b 0 = true → Y1_0 = (.pointer (some ⟨b1, 0, none⟩))) ∧ (b 1 = true → Y2_1 = (.slice A_d_Crossings d_Crossings.length c_d_Crossings)) ∧ (b 2 = true → Y3_2 = (.pointer (some ⟨b3, 0, none⟩))) ∧ (b 3 = true → Y4_3 = (.int .i64 e_crossing)) ∧ (b 4 = true → Y5_4 = (.agg [.int .i64 arc, .int .i64 t12, .int .i64 t13, .int .i64 t14].toArray)) ∧ (b 5 = true → Y6_5 = (.pointer (some ⟨b8, 4, none⟩))) ∧ (b 6 = true → Y7_6 = (.int .i64 e6.Sign)) ∧ (b 7 = true → Y8_7 = (.agg [.int .i64 t23, .int .i64 t24, .int .i64 t25, .int .i64 t26, .int .i64 t27].toArray)) ∧ (b 8 = true → Y9_8 = (.pointer (some (ea A_d_Crossings (e_crossing.toNat * 5))))) ∧ (b 9 = false → O10_1 = Own T_GCrossing 58 A_d_Crossings c_d_Crossings (fun _ => ()) d_Crossings) ∧ (b 9 = true → O10_1 = Own T_GCrossing 58 A_d_Crossings c_d_Crossings (fun _ => ()) (d_Crossings.set e_crossing.toNat (⟨t23, t24, t25, t26, t27⟩ : GCrossing)))) ?_ ?_ ?_
   ·
    intro a hs
    obtain ⟨Y1_0, hs⟩ := hs.ext (d := 20) rfl
    obtain ⟨Y2_1, hs⟩ := hs.ext (d := 21) rfl
    obtain ⟨Y3_2, hs⟩ := hs.ext (d := 22) rfl
    obtain ⟨Y4_3, hs⟩ := hs.ext (d := 23) rfl
    obtain ⟨Y5_4, hs⟩ := hs.ext (d := 24) rfl
    obtain ⟨Y6_5, hs⟩ := hs.ext (d := 25) rfl
    obtain ⟨Y7_6, hs⟩ := hs.ext (d := 26) rfl
    obtain ⟨Y8_7, hs⟩ := hs.ext (d := 27) rfl
    obtain ⟨Y9_8, hs⟩ := hs.ext (d := 28) rfl
    exact ⟨Y1_0, Y2_1, Y3_2, Y4_3, Y5_4, Y6_5, Y7_6, Y8_7, Y9_8, Own T_GCrossing 58 A_d_Crossings c_d_Crossings (fun _ => ()) d_Crossings, hs.weak ⟨rfl, rfl, rfl, rfl, rfl, rfl, rfl, rfl, rfl, rfl, rfl, rfl, rfl, trivial⟩, (HS.drew.pick 5 [0, 1, 2, 3, 4]), fun h => Bool.noConfusion h, fun h => Bool.noConfusion h, fun h => Bool.noConfusion h, fun h => Bool.noConfusion h, fun h => Bool.noConfusion h, fun h => Bool.noConfusion h, fun h => Bool.noConfusion h, fun h => Bool.noConfusion h, fun h => Bool.noConfusion h, fun _ => rfl, fun h => Bool.noConfusion h⟩
   ·
    intro j hj b a w
    refine exI fun Y1_0 => exI fun Y2_1 => exI fun Y3_2 => exI fun Y4_3 => exI fun Y5_4 => exI fun Y6_5 => exI fun Y7_6 => exI fun Y8_7 => exI fun Y9_8 => exI fun O10_1 => anI fun hs => anI fun HS => anI fun f0 => anI fun f1 => anI fun f2 => anI fun f3 => anI fun f4 => anI fun f5 => anI fun f6 => anI fun f7 => anI fun f8 => anI fun o1_0 => fun o1_1 hb hd hcl => ?_
    match j, hj with
    | 0, _ =>
     refine GO.at hs ?_
     refine GO.fld (⟨b1, 0, none⟩) rfl rfl fl28_0 rfl rfl ?_
     refine GO.fin (fun a hs => ?_)
     exact ⟨(.pointer (some ⟨b1, 0, none⟩)), _, _, _, _, _, _, _, _, _, by exact hs.setAt 0 rfl, HS, fun _ => rfl, f1, f2, f3, f4, f5, f6, f7, f8, o1_0, o1_1⟩
    | 1, _ =>
     have h0 : b 0 = true := hd 0 (by decide)
     obtain rfl := f0 h0
     refine GO.at hs ?_
     refine GO.ldBox (j := 3) HS rfl rfl rfl rfl na26 rfl ?_
     refine GO.fin (fun a hs => ?_)
     exact ⟨_, (.slice A_d_Crossings d_Crossings.length c_d_Crossings), _, _, _, _, _, _, _, _, by exact hs.setAt 1 rfl, HS, f0, fun _ => rfl, f2, f3, f4, f5, f6, f7, f8, o1_0, o1_1⟩
    | 2, _ =>
     refine GO.at hs ?_
     refine GO.fld (⟨b3, 0, none⟩) rfl rfl fl68_0 rfl rfl ?_
     refine GO.fin (fun a hs => ?_)
     exact ⟨_, _, (.pointer (some ⟨b3, 0, none⟩)), _, _, _, _, _, _, _, by exact hs.setAt 2 rfl, HS, f0, f1, fun _ => rfl, f3, f4, f5, f6, f7, f8, o1_0, o1_1⟩
    | 3, _ =>
     have h2 : b 2 = true := hd 2 (by decide)
     obtain rfl := f2 h2
     refine GO.at hs ?_
     refine GO.ldBox (j := 2) HS rfl rfl rfl rfl na2 rfl ?_
     refine GO.fin (fun a hs => ?_)
     exact ⟨_, _, _, (.int .i64 e_crossing), _, _, _, _, _, _, by exact hs.setAt 3 rfl, HS, f0, f1, f2, fun _ => rfl, f4, f5, f6, f7, f8, o1_0, o1_1⟩
    | 4, _ =>
     refine GO.at hs ?_
     refine GO.ldBoxA (j := 0) ([.int .i64 arc, .int .i64 t12, .int .i64 t13, .int .i64 t14]) HS rfl rfl rfl rfl ag93 rfl ?_
     refine GO.fin (fun a hs => ?_)
     exact ⟨_, _, _, _, (.agg [.int .i64 arc, .int .i64 t12, .int .i64 t13, .int .i64 t14].toArray), _, _, _, _, _, by exact hs.setAt 4 rfl, HS, f0, f1, f2, f3, fun _ => rfl, f5, f6, f7, f8, o1_0, o1_1⟩
    | 5, _ =>
     refine GO.at hs ?_
     refine GO.fld (⟨b8, 4, none⟩) rfl rfl fl58_4 rfl rfl ?_
     refine GO.fin (fun a hs => ?_)
     exact ⟨_, _, _, _, _, (.pointer (some ⟨b8, 4, none⟩)), _, _, _, _, by exact hs.setAt 5 rfl, HS, f0, f1, f2, f3, f4, fun _ => rfl, f6, f7, f8, o1_0, o1_1⟩
    | 6, _ =>
     have h5 : b 5 = true := hd 5 (by decide)
     obtain rfl := f5 h5
     refine GO.at hs ?_
     refine GO.ldBox (j := 1) HS rfl rfl rfl rfl na2 rfl ?_
     refine GO.fin (fun a hs => ?_)
     exact ⟨_, _, _, _, _, _, (.int .i64 e6.Sign), _, _, _, by exact hs.setAt 6 rfl, HS, f0, f1, f2, f3, f4, f5, fun _ => rfl, f7, f8, o1_0, o1_1⟩
    | 7, _ =>
     have h4 : b 4 = true := hd 4 (by decide)
     obtain rfl := f4 h4
     have h6 : b 6 = true := hd 6 (by decide)
     obtain rfl := f6 h6
     refine GO.at hs ?_
     refine GO.fn rfl Try.func113 fok113.1 fok113.2 rfl rfl (impl_crossingOf.calls HS  h28) (fun _ wd29 ⟨h30, HS⟩ => ⟨_, h30, ?_⟩)
     refine GO.fin (fun a hs => ?_)
     exact ⟨_, _, _, _, _, _, _, (.agg [.int .i64 t23, .int .i64 t24, .int .i64 t25, .int .i64 t26, .int .i64 t27].toArray), _, _, by exact hs.setAt 7 rfl, HS, f0, f1, f2, f3, f4, f5, f6, fun _ => rfl, f8, o1_0, o1_1⟩
    | 8, _ =>
     have h1 : b 1 = true := hd 1 (by decide)
     obtain rfl := f1 h1
     have h3 : b 3 = true := hd 3 (by decide)
     obtain rfl := f3 h3
     have d9 : b 9 = false := bfalse (fun hh => hcl 9 (by decide) (hh) 8 (by decide)) hb
     obtain rfl := o1_0 d9
     refine GO.at hs ?_
     refine GO.ix rfl rfl rfl Try.underlying26 sz58 ((RdIn.own (j := 4) rfl) _ HS).2.2.1 c5.1 c5.2 rfl ?_
     refine GO.fin (fun a hs => ?_)
     exact ⟨_, _, _, _, _, _, _, _, (.pointer (some (ea A_d_Crossings (e_crossing.toNat * 5)))), _, by exact hs.setAt 8 rfl, HS, f0, f1, f2, f3, f4, f5, f6, f7, fun _ => rfl, o1_0, o1_1⟩
    | 9, _ =>
     have h7 : b 7 = true := hd 7 (by decide)
     obtain rfl := f7 h7
     have h8 : b 8 = true := hd 8 (by decide)
     obtain rfl := f8 h8
     obtain rfl := o1_0 hb
     refine GO.at hs ?_
     refine GO.stRow (T := T_GCrossing) (j := 4) (n := e_crossing.toNat) (o := 0) (vs := [.int .i64 t23, .int .i64 t24, .int .i64 t25, .int .i64 t26, .int .i64 t27]) (⟨t23, t24, t25, t26, t27⟩ : GCrossing) HS rfl flat_flat rfl rfl rfl rfl (htA ag58) rfl (getD_some (d := z_GCrossing) (ltN c5)) rfl rfl ?_; intro wd31 HS
     refine GO.fin (fun a hs => ?_)
     exact ⟨_, _, _, _, _, _, _, _, _, Own T_GCrossing 58 A_d_Crossings c_d_Crossings (fun _ => ()) (d_Crossings.set e_crossing.toNat (⟨t23, t24, t25, t26, t27⟩ : GCrossing)), hs, HS, f0, f1, f2, f3, f4, f5, f6, f7, f8, fun h => Bool.noConfusion h, fun _ => rfl⟩
    | k + 10, hj => exact absurd hj (Nat.not_lt.2 (Nat.le_add_left 10 k))
   ·
    intro b a w hall
    refine exI fun Y1_0 => exI fun Y2_1 => exI fun Y3_2 => exI fun Y4_3 => exI fun Y5_4 => exI fun Y6_5 => exI fun Y7_6 => exI fun Y8_7 => exI fun Y9_8 => exI fun O10_1 => anI fun hs => anI fun HS => anI fun f0 => anI fun f1 => anI fun f2 => anI fun f3 => anI fun f4 => anI fun f5 => anI fun f6 => anI fun f7 => anI fun f8 => anI fun o1_0 => fun o1_1 => ?_
    obtain rfl := f0 (hall 0 (by decide))
    obtain rfl := f1 (hall 1 (by decide))
    obtain rfl := f2 (hall 2 (by decide))
    obtain rfl := f3 (hall 3 (by decide))
    obtain rfl := f4 (hall 4 (by decide))
    obtain rfl := f5 (hall 5 (by decide))
    obtain rfl := f6 (hall 6 (by decide))
    obtain rfl := f7 (hall 7 (by decide))
    obtain rfl := f8 (hall 8 (by decide))
    obtain rfl := o1_1 (hall 9 (by decide))
    refine G.at hs ?_
    replace HS := HS.boxEq (j := 3) (cs' := [.slice A_d_Crossings (d_Crossings.set e_crossing.toNat (⟨t23, t24, t25, t26, t27⟩ : GCrossing)).length c_d_Crossings, .int .i64 d_Circles]) rfl (by simp only [List.length_set] <;> rfl)
    obtain rfl := Option.some.inj H
    exact G.end0 Try.func50 rfl ⟨rfl, (HS.pick 5 [4])⟩
  ·
   rcases ite_elim H with ⟨c32, H⟩ | ⟨c32, H⟩
   ·
    refine G.region ?_
    refine GO.fld (⟨b3, 1, none⟩) rfl rfl fl68_1 rfl rfl ?_
    refine GO.ldBox (j := 2) HS rfl rfl rfl rfl na2 rfl ?_
    refine GO.move rfl rfl rfl ?_
    refine GO.ixP 1 rfl rfl rfl c32 Try.underlying93 sz2 rfl rfl ?_
    refine GO.stBox (j := 0) (vs := [.int .i64 arc]) ([.int .i64 t11, .int .i64 arc, .int .i64 t13, .int .i64 t14]) HS rfl rfl rfl rfl rfl (htN na2 rfl) rfl rfl rfl ?_; intro wd33 HS
    refine GO.nil ?_
    obtain ⟨t34, t35, t36, t37, t38, h39, H⟩ := bind5_elim H
    refine G.regionAny mixed (by decide) (fun b a w => ∃ (Y11_0 : Value) (Y12_1 : Value) (Y13_2 : Value) (Y14_3 : Value) (Y15_4 : Value) (Y16_5 : Value) (Y17_6 : Value) (Y18_7 : Value) (Y19_8 : Value) (O20_1 : HObj), Sat 29 [(20, Y11_0), (21, Y12_1), (22, Y13_2), (23, Y14_3), (24, Y15_4), (25, Y16_5), (26, Y17_6), (27, Y18_7), (28, Y19_8), (3, .pointer (some ⟨b1, 0, none⟩)), (4, .pointer (some ⟨b3, 0, none⟩)), (6, .pointer (some ⟨b8, 0, none⟩)), (7, .pointer (some ⟨b18, 0, none⟩))] a ∧ St w0 w (Box b18 93 [.int .i64 t11, .int .i64 arc, .int .i64 t13, .int .i64 t14] :: Box b8 58 [.int .i64 e6.A, .int .i64 e6.B, .int .i64 e6.C, .int .i64 e6.D, .int .i64 e6.Sign] :: Box b3 68 [.int .i64 e_crossing, .int .i64 e_position] :: Box b1 28 [.slice A_d_Crossings d_Crossings.length c_d_Crossings, .int .i64 d_Circles] :: O20_1 :: L) ∧ (b 0 = true → Y11_0 = (.pointer (some ⟨b1, 0, none⟩))) ∧ (b 1 = true → Y12_1 = (.slice A_d_Crossings d_Crossings.length c_d_Crossings)) ∧ (b 2 = true → Y13_2 = (.pointer (some ⟨b3, 0, none⟩))) ∧ (b 3 = true → Y14_3 = (.int .i64 e_crossing)) ∧ (b 4 = true → Y15_4 = (.agg [.int .i64 t11, .int .i64 arc, .int .i64 t13, .int .i64 t14].toArray)) ∧ (b 5 = true → Y16_5 = (.pointer (some ⟨b8, 4, none⟩))) ∧ (b 6 = true → Y17_6 = (.int .i64 e6.Sign)) ∧ (b 7 = true → Y18_7 = (.agg [.int .i64 t34, .int .i64 t35, .int .i64 t36, .int .i64 t37, .int .i64 t38].toArray)) ∧ (b 8 = true → Y19_8 = (.pointer (some (ea A_d_Crossings (e_crossing.toNat * 5))))) ∧ (b 9 = false → O20_1 = Own T_GCrossing 58 A_d_Crossings c_d_Crossings (fun _ => ()) d_Crossings) ∧ (b 9 = true → O20_1 = Own T_GCrossing 58 A_d_Crossings c_d_Crossings (fun _ => ()) (d_Crossings.set e_crossing.toNat (⟨t34, t35, t36, t37, t38⟩ : GCrossing)))) ?_ ?_ ?_
    ·
     intro a hs
     obtain ⟨Y11_0, hs⟩ := hs.ext (d := 20) rfl
     obtain ⟨Y12_1, hs⟩ := hs.ext (d := 21) rfl
     obtain ⟨Y13_2, hs⟩ := hs.ext (d := 22) rfl
     obtain ⟨Y14_3, hs⟩ := hs.ext (d := 23) rfl
     obtain ⟨Y15_4, hs⟩ := hs.ext (d := 24) rfl
     obtain ⟨Y16_5, hs⟩ := hs.ext (d := 25) rfl
     obtain ⟨Y17_6, hs⟩ := hs.ext (d := 26) rfl
     obtain ⟨Y18_7, hs⟩ := hs.ext (d := 27) rfl
     obtain ⟨Y19_8, hs⟩ := hs.ext (d := 28) rfl
     exact ⟨Y11_0, Y12_1, Y13_2, Y14_3, Y15_4, Y16_5, Y17_6, Y18_7, Y19_8, Own T_GCrossing 58 A_d_Crossings c_d_Crossings (fun _ => ()) d_Crossings, hs.weak ⟨rfl, rfl, rfl, rfl, rfl, rfl, rfl, rfl, rfl, rfl, rfl, rfl, rfl, trivial⟩, (HS.drew.pick 5 [0, 1, 2, 3, 4]), fun h => Bool.noConfusion h, fun h => Bool.noConfusion h, fun h => Bool.noConfusion h, fun h => Bool.noConfusion h, fun h => Bool.noConfusion h, fun h => Bool.noConfusion h, fun h => Bool.noConfusion h, fun h => Bool.noConfusion h, fun h => Bool.noConfusion h, fun _ => rfl, fun h => Bool.noConfusion h⟩
    ·
     intro j hj b a w
     refine exI fun Y11_0 => exI fun Y12_1 => exI fun Y13_2 => exI fun Y14_3 => exI fun Y15_4 => exI fun Y16_5 => exI fun Y17_6 => exI fun Y18_7 => exI fun Y19_8 => exI fun O20_1 => anI fun hs => anI fun HS => anI fun f0 => anI fun f1 => anI fun f2 => anI fun f3 => anI fun f4 => anI fun f5 => anI fun f6 => anI fun f7 => anI fun f8 => anI fun o1_0 => fun o1_1 hb hd hcl => ?_
     match j, hj with
     | 0, _ =>
      refine GO.at hs ?_
      refine GO.fld (⟨b1, 0, none⟩) rfl rfl fl28_0 rfl rfl ?_
      refine GO.fin (fun a hs => ?_)
      exact ⟨(.pointer (some ⟨b1, 0, none⟩)), _, _, _, _, _, _, _, _, _, by exact hs.setAt 0 rfl, HS, fun _ => rfl, f1, f2, f3, f4, f5, f6, f7, f8, o1_0, o1_1⟩
     | 1, _ =>
      have h0 : b 0 = true := hd 0 (by decide)
      obtain rfl := f0 h0
      refine GO.at hs ?_
      refine GO.ldBox (j := 3) HS rfl rfl rfl rfl na26 rfl ?_
      refine GO.fin (fun a hs => ?_)
      exact ⟨_, (.slice A_d_Crossings d_Crossings.length c_d_Crossings), _, _, _, _, _, _, _, _, by exact hs.setAt 1 rfl, HS, f0, fun _ => rfl, f2, f3, f4, f5, f6, f7, f8, o1_0, o1_1⟩
     | 2, _ =>
      refine GO.at hs ?_
      refine GO.fld (⟨b3, 0, none⟩) rfl rfl fl68_0 rfl rfl ?_
      refine GO.fin (fun a hs => ?_)
      exact ⟨_, _, (.pointer (some ⟨b3, 0, none⟩)), _, _, _, _, _, _, _, by exact hs.setAt 2 rfl, HS, f0, f1, fun _ => rfl, f3, f4, f5, f6, f7, f8, o1_0, o1_1⟩
     | 3, _ =>
      have h2 : b 2 = true := hd 2 (by decide)
      obtain rfl := f2 h2
      refine GO.at hs ?_
      refine GO.ldBox (j := 2) HS rfl rfl rfl rfl na2 rfl ?_
      refine GO.fin (fun a hs => ?_)
      exact ⟨_, _, _, (.int .i64 e_crossing), _, _, _, _, _, _, by exact hs.setAt 3 rfl, HS, f0, f1, f2, fun _ => rfl, f4, f5, f6, f7, f8, o1_0, o1_1⟩
     | 4, _ =>
      refine GO.at hs ?_
      refine GO.ldBoxA (j := 0) ([.int .i64 t11, .int .i64 arc, .int .i64 t13, .int .i64 t14]) HS rfl rfl rfl rfl ag93 rfl ?_
      refine GO.fin (fun a hs => ?_)
      exact ⟨_, _, _, _, (.agg [.int .i64 t11, .int .i64 arc, .int .i64 t13, .int .i64 t14].toArray), _, _, _, _, _, by exact hs.setAt 4 rfl, HS, f0, f1, f2, f3, fun _ => rfl, f5, f6, f7, f8, o1_0, o1_1⟩
     | 5, _ =>
      refine GO.at hs ?_
      refine GO.fld (⟨b8, 4, none⟩) rfl rfl fl58_4 rfl rfl ?_
      refine GO.fin (fun a hs => ?_)
      exact ⟨_, _, _, _, _, (.pointer (some ⟨b8, 4, none⟩)), _, _, _, _, by exact hs.setAt 5 rfl, HS, f0, f1, f2, f3, f4, fun _ => rfl, f6, f7, f8, o1_0, o1_1⟩
     | 6, _ =>
      have h5 : b 5 = true := hd 5 (by decide)
      obtain rfl := f5 h5
      refine GO.at hs ?_
      refine GO.ldBox (j := 1) HS rfl rfl rfl rfl na2 rfl ?_
      refine GO.fin (fun a hs => ?_)
      exact ⟨_, _, _, _, _, _, (.int .i64 e6.Sign), _, _, _, by exact hs.setAt 6 rfl, HS, f0, f1, f2, f3, f4, f5, fun _ => rfl, f7, f8, o1_0, o1_1⟩
     | 7, _ =>
      have h4 : b 4 = true := hd 4 (by decide)
      obtain rfl := f4 h4
      have h6 : b 6 = true := hd 6 (by decide)
      obtain rfl := f6 h6
      refine GO.at hs ?_
      refine GO.fn rfl Try.func113 fok113.1 fok113.2 rfl rfl (impl_crossingOf.calls HS  h39) (fun _ wd40 ⟨h41, HS⟩ => ⟨_, h41, ?_⟩)
      refine GO.fin (fun a hs => ?_)
      exact ⟨_, _, _, _, _, _, _, (.agg [.int .i64 t34, .int .i64 t35, .int .i64 t36, .int .i64 t37, .int .i64 t38].toArray), _, _, by exact hs.setAt 7 rfl, HS, f0, f1, f2, f3, f4, f5, f6, fun _ => rfl, f8, o1_0, o1_1⟩
     | 8, _ =>
      have h1 : b 1 = true := hd 1 (by decide)
      obtain rfl := f1 h1
      have h3 : b 3 = true := hd 3 (by decide)
      obtain rfl := f3 h3
      have d9 : b 9 = false := bfalse (fun hh => hcl 9 (by decide) (hh) 8 (by decide)) hb
      obtain rfl := o1_0 d9
      refine GO.at hs ?_
      refine GO.ix rfl rfl rfl Try.underlying26 sz58 ((RdIn.own (j := 4) rfl) _ HS).2.2.1 c5.1 c5.2 rfl ?_
      refine GO.fin (fun a hs => ?_)
      exact ⟨_, _, _, _, _, _, _, _, (.pointer (some (ea A_d_Crossings (e_crossing.toNat * 5)))), _, by exact hs.setAt 8 rfl, HS, f0, f1, f2, f3, f4, f5, f6, f7, fun _ => rfl, o1_0, o1_1⟩
     | 9, _ =>
      have h7 : b 7 = true := hd 7 (by decide)
      obtain rfl := f7 h7
      have h8 : b 8 = true := hd 8 (by decide)
      obtain rfl := f8 h8
      obtain rfl := o1_0 hb
      refine GO.at hs ?_
      refine GO.stRow (T := T_GCrossing) (j := 4) (n := e_crossing.toNat) (o := 0) (vs := [.int .i64 t34, .int .i64 t35, .int .i64 t36, .int .i64 t37, .int .i64 t38]) (⟨t34, t35, t36, t37, t38⟩ : GCrossing) HS rfl flat_flat rfl rfl rfl rfl (htA ag58) rfl (getD_some (d := z_GCrossing) (ltN c5)) rfl rfl ?_; intro wd42 HS
      refine GO.fin (fun a hs => ?_)
      exact ⟨_, _, _, _, _, _, _, _, _, Own T_GCrossing 58 A_d_Crossings c_d_Crossings (fun _ => ()) (d_Crossings.set e_crossing.toNat (⟨t34, t35, t36, t37, t38⟩ : GCrossing)), hs, HS, f0, f1, f2, f3, f4, f5, f6, f7, f8, fun h => Bool.noConfusion h, fun _ => rfl⟩
     | k + 10, hj => exact absurd hj (Nat.not_lt.2 (Nat.le_add_left 10 k))
    ·
     intro b a w hall
     refine exI fun Y11_0 => exI fun Y12_1 => exI fun Y13_2 => exI fun Y14_3 => exI fun Y15_4 => exI fun Y16_5 => exI fun Y17_6 => exI fun Y18_7 => exI fun Y19_8 => exI fun O20_1 => anI fun hs => anI fun HS => anI fun f0 => anI fun f1 => anI fun f2 => anI fun f3 => anI fun f4 => anI fun f5 => anI fun f6 => anI fun f7 => anI fun f8 => anI fun o1_0 => fun o1_1 => ?_
     obtain rfl := f0 (hall 0 (by decide))
     obtain rfl := f1 (hall 1 (by decide))
     obtain rfl := f2 (hall 2 (by decide))
     obtain rfl := f3 (hall 3 (by decide))
     obtain rfl := f4 (hall 4 (by decide))
     obtain rfl := f5 (hall 5 (by decide))
     obtain rfl := f6 (hall 6 (by decide))
     obtain rfl := f7 (hall 7 (by decide))
     obtain rfl := f8 (hall 8 (by decide))
     obtain rfl := o1_1 (hall 9 (by decide))
     refine G.at hs ?_
     replace HS := HS.boxEq (j := 3) (cs' := [.slice A_d_Crossings (d_Crossings.set e_crossing.toNat (⟨t34, t35, t36, t37, t38⟩ : GCrossing)).length c_d_Crossings, .int .i64 d_Circles]) rfl (by simp only [List.length_set] <;> rfl)
     obtain rfl := Option.some.inj H
     exact G.end0 Try.func50 rfl ⟨rfl, (HS.pick 5 [4])⟩
   ·
    rcases ite_elim H with ⟨c43, H⟩ | ⟨c43, H⟩
    ·
     refine G.region ?_
     refine GO.fld (⟨b3, 1, none⟩) rfl rfl fl68_1 rfl rfl ?_
     refine GO.ldBox (j := 2) HS rfl rfl rfl rfl na2 rfl ?_
     refine GO.move rfl rfl rfl ?_
     refine GO.ixP 2 rfl rfl rfl c43 Try.underlying93 sz2 rfl rfl ?_
     refine GO.stBox (j := 0) (vs := [.int .i64 arc]) ([.int .i64 t11, .int .i64 t12, .int .i64 arc, .int .i64 t14]) HS rfl rfl rfl rfl rfl (htN na2 rfl) rfl rfl rfl ?_; intro wd44 HS
     refine GO.nil ?_
     obtain ⟨t45, t46, t47, t48, t49, h50, H⟩ := bind5_elim H
     refine G.regionAny mixed (by decide) (fun b a w => ∃ (Y21_0 : Value) (Y22_1 : Value) (Y23_2 : Value) (Y24_3 : Value) (Y25_4 : Value) (Y26_5 : Value) (Y27_6 : Value) (Y28_7 : Value) (Y29_8 : Value) (O30_1 : HObj), Sat 29 [(20, Y21_0), (21, Y22_1), (22, Y23_2), (23, Y24_3), (24, Y25_4), (25, Y26_5), (26, Y27_6), (27, Y28_7), (28, Y29_8), (3, .pointer (some ⟨b1, 0, none⟩)), (4, .pointer (some ⟨b3, 0, none⟩)), (6, .pointer (some ⟨b8, 0, none⟩)), (7, .pointer (some ⟨b18, 0, none⟩))] a ∧ St w0 w (Box b18 93 [.int .i64 t11, .int .i64 t12, .int .i64 arc, .int .i64 t14] :: Box b8 58 [.int .i64 e6.A, .int .i64 e6.B, .int .i64 e6.C, .int .i64 e6.D, .int .i64 e6.Sign] :: Box b3 68 [.int .i64 e_crossing, .int .i64 e_position] :: Box b1 28 [.slice A_d_Crossings d_Crossings.length c_d_Crossings, .int .i64 d_Circles] :: O30_1 :: L) ∧ (b 0 = true → Y21_0 = (.pointer (some ⟨b1, 0, none⟩))) ∧ (b 1 = true → Y22_1 = (.slice A_d_Crossings d_Crossings.length c_d_Crossings)) ∧ (b 2 = true → Y23_2 = (.pointer (some ⟨b3, 0, none⟩))) ∧ (b 3 = true → Y24_3 = (.int .i64 e_crossing)) ∧ (b 4 = true → Y25_4 = (.agg [.int .i64 t11, .int .i64 t12, .int .i64 arc, .int .i64 t14].toArray)) ∧ (b 5 = true → Y26_5 = (.pointer (some ⟨b8, 4, none⟩))) ∧ (b 6 = true → Y27_6 = (.int .i64 e6.Sign)) ∧ (b 7 = true → Y28_7 = (.agg [.int .i64 t45, .int .i64 t46, .int .i64 t47, .int .i64 t48, .int .i64 t49].toArray)) ∧ (b 8 = true → Y29_8 = (.pointer (some (ea A_d_Crossings (e_crossing.toNat * 5))))) ∧ (b 9 = false → O30_1 = Own T_GCrossing 58 A_d_Crossings c_d_Crossings (fun _ => ()) d_Crossings) ∧ (b 9 = true → O30_1 = Own T_GCrossing 58 A_d_Crossings c_d_Crossings (fun _ => ()) (d_Crossings.set e_crossing.toNat (⟨t45, t46, t47, t48, t49⟩ : GCrossing)))) ?_ ?_ ?_
     ·
      intro a hs
      obtain ⟨Y21_0, hs⟩ := hs.ext (d := 20) rfl
      obtain ⟨Y22_1, hs⟩ := hs.ext (d := 21) rfl
      obtain ⟨Y23_2, hs⟩ := hs.ext (d := 22) rfl
      obtain ⟨Y24_3, hs⟩ := hs.ext (d := 23) rfl
      obtain ⟨Y25_4, hs⟩ := hs.ext (d := 24) rfl
      obtain ⟨Y26_5, hs⟩ := hs.ext (d := 25) rfl
      obtain ⟨Y27_6, hs⟩ := hs.ext (d := 26) rfl
      obtain ⟨Y28_7, hs⟩ := hs.ext (d := 27) rfl
      obtain ⟨Y29_8, hs⟩ := hs.ext (d := 28) rfl
      exact ⟨Y21_0, Y22_1, Y23_2, Y24_3, Y25_4, Y26_5, Y27_6, Y28_7, Y29_8, Own T_GCrossing 58 A_d_Crossings c_d_Crossings (fun _ => ()) d_Crossings, hs.weak ⟨rfl, rfl, rfl, rfl, rfl, rfl, rfl, rfl, rfl, rfl, rfl, rfl, rfl, trivial⟩, (HS.drew.pick 5 [0, 1, 2, 3, 4]), fun h => Bool.noConfusion h, fun h => Bool.noConfusion h, fun h => Bool.noConfusion h, fun h => Bool.noConfusion h, fun h => Bool.noConfusion h, fun h => Bool.noConfusion h, fun h => Bool.noConfusion h, fun h => Bool.noConfusion h, fun h => Bool.noConfusion h, fun _ => rfl, fun h => Bool.noConfusion h⟩
     ·
      intro j hj b a w
      refine exI fun Y21_0 => exI fun Y22_1 => exI fun Y23_2 => exI fun Y24_3 => exI fun Y25_4 => exI fun Y26_5 => exI fun Y27_6 => exI fun Y28_7 => exI fun Y29_8 => exI fun O30_1 => anI fun hs => anI fun HS => anI fun f0 => anI fun f1 => anI fun f2 => anI fun f3 => anI fun f4 => anI fun f5 => anI fun f6 => anI fun f7 => anI fun f8 => anI fun o1_0 => fun o1_1 hb hd hcl => ?_
      match j, hj with
      | 0, _ =>
       refine GO.at hs ?_
       refine GO.fld (⟨b1, 0, none⟩) rfl rfl fl28_0 rfl rfl ?_
       refine GO.fin (fun a hs => ?_)
       exact ⟨(.pointer (some ⟨b1, 0, none⟩)), _, _, _, _, _, _, _, _, _, by exact hs.setAt 0 rfl, HS, fun _ => rfl, f1, f2, f3, f4, f5, f6, f7, f8, o1_0, o1_1⟩
      | 1, _ =>
       have h0 : b 0 = true := hd 0 (by decide)
       obtain rfl := f0 h0
       refine GO.at hs ?_
       refine GO.ldBox (j := 3) HS rfl rfl rfl rfl na26 rfl ?_
       refine GO.fin (fun a hs => ?_)
       exact ⟨_, (.slice A_d_Crossings d_Crossings.length c_d_Crossings), _, _, _, _, _, _, _, _, by exact hs.setAt 1 rfl, HS, f0, fun _ => rfl, f2, f3, f4, f5, f6, f7, f8, o1_0, o1_1⟩
      | 2, _ =>
       refine GO.at hs ?_
       refine GO.fld (⟨b3, 0, none⟩) rfl rfl fl68_0 rfl rfl ?_
       refine GO.fin (fun a hs => ?_)
       exact ⟨_, _, (.pointer (some ⟨b3, 0, none⟩)), _, _, _, _, _, _, _, by exact hs.setAt 2 rfl, HS, f0, f1, fun _ => rfl, f3, f4, f5, f6, f7, f8, o1_0, o1_1⟩
      | 3, _ =>
       have h2 : b 2 = true := hd 2 (by decide)
       obtain rfl := f2 h2
       refine GO.at hs ?_
       refine GO.ldBox (j := 2) HS rfl rfl rfl rfl na2 rfl ?_
       refine GO.fin (fun a hs => ?_)
       exact ⟨_, _, _, (.int .i64 e_crossing), _, _, _, _, _, _, by exact hs.setAt 3 rfl, HS, f0, f1, f2, fun _ => rfl, f4, f5, f6, f7, f8, o1_0, o1_1⟩
      | 4, _ =>
       refine GO.at hs ?_
       refine GO.ldBoxA (j := 0) ([.int .i64 t11, .int .i64 t12, .int .i64 arc, .int .i64 t14]) HS rfl rfl rfl rfl ag93 rfl ?_
       refine GO.fin (fun a hs => ?_)
       exact ⟨_, _, _, _, (.agg [.int .i64 t11, .int .i64 t12, .int .i64 arc, .int .i64 t14].toArray), _, _, _, _, _, by exact hs.setAt 4 rfl, HS, f0, f1, f2, f3, fun _ => rfl, f5, f6, f7, f8, o1_0, o1_1⟩
      | 5, _ =>
       refine GO.at hs ?_
       refine GO.fld (⟨b8, 4, none⟩) rfl rfl fl58_4 rfl rfl ?_
       refine GO.fin (fun a hs => ?_)
       exact ⟨_, _, _, _, _, (.pointer (some ⟨b8, 4, none⟩)), _, _, _, _, by exact hs.setAt 5 rfl, HS, f0, f1, f2, f3, f4, fun _ => rfl, f6, f7, f8, o1_0, o1_1⟩
      | 6, _ =>
       have h5 : b 5 = true := hd 5 (by decide)
       obtain rfl := f5 h5
       refine GO.at hs ?_
       refine GO.ldBox (j := 1) HS rfl rfl rfl rfl na2 rfl ?_
       refine GO.fin (fun a hs => ?_)
       exact ⟨_, _, _, _, _, _, (.int .i64 e6.Sign), _, _, _, by exact hs.setAt 6 rfl, HS, f0, f1, f2, f3, f4, f5, fun _ => rfl, f7, f8, o1_0, o1_1⟩
      | 7, _ =>
       have h4 : b 4 = true := hd 4 (by decide)
       obtain rfl := f4 h4
       have h6 : b 6 = true := hd 6 (by decide)
       obtain rfl := f6 h6
       refine GO.at hs ?_
       refine GO.fn rfl Try.func113 fok113.1 fok113.2 rfl rfl (impl_crossingOf.calls HS  h50) (fun _ wd51 ⟨h52, HS⟩ => ⟨_, h52, ?_⟩)
       refine GO.fin (fun a hs => ?_)
       exact ⟨_, _, _, _, _, _, _, (.agg [.int .i64 t45, .int .i64 t46, .int .i64 t47, .int .i64 t48, .int .i64 t49].toArray), _, _, by exact hs.setAt 7 rfl, HS, f0, f1, f2, f3, f4, f5, f6, fun _ => rfl, f8, o1_0, o1_1⟩
      | 8, _ =>
       have h1 : b 1 = true := hd 1 (by decide)
       obtain rfl := f1 h1
       have h3 : b 3 = true := hd 3 (by decide)
       obtain rfl := f3 h3
       have d9 : b 9 = false := bfalse (fun hh => hcl 9 (by decide) (hh) 8 (by decide)) hb
       obtain rfl := o1_0 d9
       refine GO.at hs ?_
       refine GO.ix rfl rfl rfl Try.underlying26 sz58 ((RdIn.own (j := 4) rfl) _ HS).2.2.1 c5.1 c5.2 rfl ?_
       refine GO.fin (fun a hs => ?_)
       exact ⟨_, _, _, _, _, _, _, _, (.pointer (some (ea A_d_Crossings (e_crossing.toNat * 5)))), _, by exact hs.setAt 8 rfl, HS, f0, f1, f2, f3, f4, f5, f6, f7, fun _ => rfl, o1_0, o1_1⟩
      | 9, _ =>
       have h7 : b 7 = true := hd 7 (by decide)
       obtain rfl := f7 h7
       have h8 : b 8 = true := hd 8 (by decide)
       obtain rfl := f8 h8
       obtain rfl := o1_0 hb
       refine GO.at hs ?_
       refine GO.stRow (T := T_GCrossing) (j := 4) (n := e_crossing.toNat) (o := 0) (vs := [.int .i64 t45, .int .i64 t46, .int .i64 t47, .int .i64 t48, .int .i64 t49]) (⟨t45, t46, t47, t48, t49⟩ : GCrossing) HS rfl flat_flat rfl rfl rfl rfl (htA ag58) rfl (getD_some (d := z_GCrossing) (ltN c5)) rfl rfl ?_; intro wd53 HS
       refine GO.fin (fun a hs => ?_)
       exact ⟨_, _, _, _, _, _, _, _, _, Own T_GCrossing 58 A_d_Crossings c_d_Crossings (fun _ => ()) (d_Crossings.set e_crossing.toNat (⟨t45, t46, t47, t48, t49⟩ : GCrossing)), hs, HS, f0, f1, f2, f3, f4, f5, f6, f7, f8, fun h => Bool.noConfusion h, fun _ => rfl⟩
      | k + 10, hj => exact absurd hj (Nat.not_lt.2 (Nat.le_add_left 10 k))
     ·
      intro b a w hall
      refine exI fun Y21_0 => exI fun Y22_1 => exI fun Y23_2 => exI fun Y24_3 => exI fun Y25_4 => exI fun Y26_5 => exI fun Y27_6 => exI fun Y28_7 => exI fun Y29_8 => exI fun O30_1 => anI fun hs => anI fun HS => anI fun f0 => anI fun f1 => anI fun f2 => anI fun f3 => anI fun f4 => anI fun f5 => anI fun f6 => anI fun f7 => anI fun f8 => anI fun o1_0 => fun o1_1 => ?_
      obtain rfl := f0 (hall 0 (by decide))
      obtain rfl := f1 (hall 1 (by decide))
      obtain rfl := f2 (hall 2 (by decide))
      obtain rfl := f3 (hall 3 (by decide))
      obtain rfl := f4 (hall 4 (by decide))
      obtain rfl := f5 (hall 5 (by decide))
      obtain rfl := f6 (hall 6 (by decide))
      obtain rfl := f7 (hall 7 (by decide))
      obtain rfl := f8 (hall 8 (by decide))
      obtain rfl := o1_1 (hall 9 (by decide))
      refine G.at hs ?_
      replace HS := HS.boxEq (j := 3) (cs' := [.slice A_d_Crossings (d_Crossings.set e_crossing.toNat (⟨t45, t46, t47, t48, t49⟩ : GCrossing)).length c_d_Crossings, .int .i64 d_Circles]) rfl (by simp only [List.length_set] <;> rfl)
      obtain rfl := Option.some.inj H
      exact G.end0 Try.func50 rfl ⟨rfl, (HS.pick 5 [4])⟩
    ·
     rcases ite_elim H with ⟨c54, H⟩ | ⟨c54, H⟩
     ·
      refine G.region ?_
      refine GO.fld (⟨b3, 1, none⟩) rfl rfl fl68_1 rfl rfl ?_
      refine GO.ldBox (j := 2) HS rfl rfl rfl rfl na2 rfl ?_
      refine GO.move rfl rfl rfl ?_
      refine GO.ixP 3 rfl rfl rfl c54 Try.underlying93 sz2 rfl rfl ?_
      refine GO.stBox (j := 0) (vs := [.int .i64 arc]) ([.int .i64 t11, .int .i64 t12, .int .i64 t13, .int .i64 arc]) HS rfl rfl rfl rfl rfl (htN na2 rfl) rfl rfl rfl ?_; intro wd55 HS
      refine GO.nil ?_
      obtain ⟨t56, t57, t58, t59, t60, h61, H⟩ := bind5_elim H
      refine G.regionAny mixed (by decide) (fun b a w => ∃ (Y31_0 : Value) (Y32_1 : Value) (Y33_2 : Value) (Y34_3 : Value) (Y35_4 : Value) (Y36_5 : Value) (Y37_6 : Value) (Y38_7 : Value) (Y39_8 : Value) (O40_1 : HObj), Sat 29 [(20, Y31_0), (21, Y32_1), (22, Y33_2), (23, Y34_3), (24, Y35_4), (25, Y36_5), (26, Y37_6), (27, Y38_7), (28, Y39_8), (3, .pointer (some ⟨b1, 0, none⟩)), (4, .pointer (some ⟨b3, 0, none⟩)), (6, .pointer (some ⟨b8, 0, none⟩)), (7, .pointer (some ⟨b18, 0, none⟩))] a ∧ St w0 w (Box b18 93 [.int .i64 t11, .int .i64 t12, .int .i64 t13, .int .i64 arc] :: Box b8 58 [.int .i64 e6.A, .int .i64 e6.B, .int .i64 e6.C, .int .i64 e6.D, .int .i64 e6.Sign] :: Box b3 68 [.int .i64 e_crossing, .int .i64 e_position] :: Box b1 28 [.slice A_d_Crossings d_Crossings.length c_d_Crossings, .int .i64 d_Circles] :: O40_1 :: L) ∧ (b 0 = true → Y31_0 = (.pointer (some ⟨b1, 0, none⟩))) ∧ (b 1 = true → Y32_1 = (.slice A_d_Crossings d_Crossings.length c_d_Crossings)) ∧ (b 2 = true → Y33_2 = (.pointer (some ⟨b3, 0, none⟩))) ∧ (b 3 = true → Y34_3 = (.int .i64 e_crossing)) ∧ (b 4 = true → Y35_4 = (.agg [.int .i64 t11, .int .i64 t12, .int .i64 t13, .int .i64 arc].toArray)) ∧ (b 5 = true → Y36_5 = (.pointer (some ⟨b8, 4, none⟩))) ∧ (b 6 = true → Y37_6 = (.int .i64 e6.Sign)) ∧ (b 7 = true → Y38_7 = (.agg [.int .i64 t56, .int .i64 t57, .int .i64 t58, .int .i64 t59, .int .i64 t60].toArray)) ∧ (b 8 = true → Y39_8 = (.pointer (some (ea A_d_Crossings (e_crossing.toNat * 5))))) ∧ (b 9 = false → O40_1 = Own T_GCrossing 58 A_d_Crossings c_d_Crossings (fun _ => ()) d_Crossings) ∧ (b 9 = true → O40_1 = Own T_GCrossing 58 A_d_Crossings c_d_Crossings (fun _ => ()) (d_Crossings.set e_crossing.toNat (⟨t56, t57, t58, t59, t60⟩ : GCrossing)))) ?_ ?_ ?_
      ·
       intro a hs
       obtain ⟨Y31_0, hs⟩ := hs.ext (d := 20) rfl
       obtain ⟨Y32_1, hs⟩ := hs.ext (d := 21) rfl
       obtain ⟨Y33_2, hs⟩ := hs.ext (d := 22) rfl
       obtain ⟨Y34_3, hs⟩ := hs.ext (d := 23) rfl
       obtain ⟨Y35_4, hs⟩ := hs.ext (d := 24) rfl
       obtain ⟨Y36_5, hs⟩ := hs.ext (d := 25) rfl
       obtain ⟨Y37_6, hs⟩ := hs.ext (d := 26) rfl
       obtain ⟨Y38_7, hs⟩ := hs.ext (d := 27) rfl
       obtain ⟨Y39_8, hs⟩ := hs.ext (d := 28) rfl
       exact ⟨Y31_0, Y32_1, Y33_2, Y34_3, Y35_4, Y36_5, Y37_6, Y38_7, Y39_8, Own T_GCrossing 58 A_d_Crossings c_d_Crossings (fun _ => ()) d_Crossings, hs.weak ⟨rfl, rfl, rfl, rfl, rfl, rfl, rfl, rfl, rfl, rfl, rfl, rfl, rfl, trivial⟩, (HS.drew.pick 5 [0, 1, 2, 3, 4]), fun h => Bool.noConfusion h, fun h => Bool.noConfusion h, fun h => Bool.noConfusion h, fun h => Bool.noConfusion h, fun h => Bool.noConfusion h, fun h => Bool.noConfusion h, fun h => Bool.noConfusion h, fun h => Bool.noConfusion h, fun h => Bool.noConfusion h, fun _ => rfl, fun h => Bool.noConfusion h⟩
      ·
       intro j hj b a w
       refine exI fun Y31_0 => exI fun Y32_1 => exI fun Y33_2 => exI fun Y34_3 => exI fun Y35_4 => exI fun Y36_5 => exI fun Y37_6 => exI fun Y38_7 => exI fun Y39_8 => exI fun O40_1 => anI fun hs => anI fun HS => anI fun f0 => anI fun f1 => anI fun f2 => anI fun f3 => anI fun f4 => anI fun f5 => anI fun f6 => anI fun f7 => anI fun f8 => anI fun o1_0 => fun o1_1 hb hd hcl => ?_
       match j, hj with
       | 0, _ =>
        refine GO.at hs ?_
        refine GO.fld (⟨b1, 0, none⟩) rfl rfl fl28_0 rfl rfl ?_
        refine GO.fin (fun a hs => ?_)
        exact ⟨(.pointer (some ⟨b1, 0, none⟩)), _, _, _, _, _, _, _, _, _, by exact hs.setAt 0 rfl, HS, fun _ => rfl, f1, f2, f3, f4, f5, f6, f7, f8, o1_0, o1_1⟩
       | 1, _ =>
        have h0 : b 0 = true := hd 0 (by decide)
        obtain rfl := f0 h0
        refine GO.at hs ?_
        refine GO.ldBox (j := 3) HS rfl rfl rfl rfl na26 rfl ?_
        refine GO.fin (fun a hs => ?_)
        exact ⟨_, (.slice A_d_Crossings d_Crossings.length c_d_Crossings), _, _, _, _, _, _, _, _, by exact hs.setAt 1 rfl, HS, f0, fun _ => rfl, f2, f3, f4, f5, f6, f7, f8, o1_0, o1_1⟩
       | 2, _ =>
        refine GO.at hs ?_
        refine GO.fld (⟨b3, 0, none⟩) rfl rfl fl68_0 rfl rfl ?_
        refine GO.fin (fun a hs => ?_)
        exact ⟨_, _, (.pointer (some ⟨b3, 0, none⟩)), _, _, _, _, _, _, _, by exact hs.setAt 2 rfl, HS, f0, f1, fun _ => rfl, f3, f4, f5, f6, f7, f8, o1_0, o1_1⟩
       | 3, _ =>
        have h2 : b 2 = true := hd 2 (by decide)
        obtain rfl := f2 h2
        refine GO.at hs ?_
        refine GO.ldBox (j := 2) HS rfl rfl rfl rfl na2 rfl ?_
        refine GO.fin (fun a hs => ?_)
        exact ⟨_, _, _, (.int .i64 e_crossing), _, _, _, _, _, _, by exact hs.setAt 3 rfl, HS, f0, f1, f2, fun _ => rfl, f4, f5, f6, f7, f8, o1_0, o1_1⟩
       | 4, _ =>
        refine GO.at hs ?_
        refine GO.ldBoxA (j := 0) ([.int .i64 t11, .int .i64 t12, .int .i64 t13, .int .i64 arc]) HS rfl rfl rfl rfl ag93 rfl ?_
        refine GO.fin (fun a hs => ?_)
        exact ⟨_, _, _, _, (.agg [.int .i64 t11, .int .i64 t12, .int .i64 t13, .int .i64 arc].toArray), _, _, _, _, _, by exact hs.setAt 4 rfl, HS, f0, f1, f2, f3, fun _ => rfl, f5, f6, f7, f8, o1_0, o1_1⟩
       | 5, _ =>
        refine GO.at hs ?_
        refine GO.fld (⟨b8, 4, none⟩) rfl rfl fl58_4 rfl rfl ?_
        refine GO.fin (fun a hs => ?_)
        exact ⟨_, _, _, _, _, (.pointer (some ⟨b8, 4, none⟩)), _, _, _, _, by exact hs.setAt 5 rfl, HS, f0, f1, f2, f3, f4, fun _ => rfl, f6, f7, f8, o1_0, o1_1⟩
       | 6, _ =>
        have h5 : b 5 = true := hd 5 (by decide)
        obtain rfl := f5 h5
        refine GO.at hs ?_
        refine GO.ldBox (j := 1) HS rfl rfl rfl rfl na2 rfl ?_
        refine GO.fin (fun a hs => ?_)
        exact ⟨_, _, _, _, _, _, (.int .i64 e6.Sign), _, _, _, by exact hs.setAt 6 rfl, HS, f0, f1, f2, f3, f4, f5, fun _ => rfl, f7, f8, o1_0, o1_1⟩
       | 7, _ =>
        have h4 : b 4 = true := hd 4 (by decide)
        obtain rfl := f4 h4
        have h6 : b 6 = true := hd 6 (by decide)
        obtain rfl := f6 h6
        refine GO.at hs ?_
        refine GO.fn rfl Try.func113 fok113.1 fok113.2 rfl rfl (impl_crossingOf.calls HS  h61) (fun _ wd62 ⟨h63, HS⟩ => ⟨_, h63, ?_⟩)
        refine GO.fin (fun a hs => ?_)
        exact ⟨_, _, _, _, _, _, _, (.agg [.int .i64 t56, .int .i64 t57, .int .i64 t58, .int .i64 t59, .int .i64 t60].toArray), _, _, by exact hs.setAt 7 rfl, HS, f0, f1, f2, f3, f4, f5, f6, fun _ => rfl, f8, o1_0, o1_1⟩
       | 8, _ =>
        have h1 : b 1 = true := hd 1 (by decide)
        obtain rfl := f1 h1
        have h3 : b 3 = true := hd 3 (by decide)
        obtain rfl := f3 h3
        have d9 : b 9 = false := bfalse (fun hh => hcl 9 (by decide) (hh) 8 (by decide)) hb
        obtain rfl := o1_0 d9
        refine GO.at hs ?_
        refine GO.ix rfl rfl rfl Try.underlying26 sz58 ((RdIn.own (j := 4) rfl) _ HS).2.2.1 c5.1 c5.2 rfl ?_
        refine GO.fin (fun a hs => ?_)
        exact ⟨_, _, _, _, _, _, _, _, (.pointer (some (ea A_d_Crossings (e_crossing.toNat * 5)))), _, by exact hs.setAt 8 rfl, HS, f0, f1, f2, f3, f4, f5, f6, f7, fun _ => rfl, o1_0, o1_1⟩
       | 9, _ =>
        have h7 : b 7 = true := hd 7 (by decide)
        obtain rfl := f7 h7
        have h8 : b 8 = true := hd 8 (by decide)
        obtain rfl := f8 h8
        obtain rfl := o1_0 hb
        refine GO.at hs ?_
        refine GO.stRow (T := T_GCrossing) (j := 4) (n := e_crossing.toNat) (o := 0) (vs := [.int .i64 t56, .int .i64 t57, .int .i64 t58, .int .i64 t59, .int .i64 t60]) (⟨t56, t57, t58, t59, t60⟩ : GCrossing) HS rfl flat_flat rfl rfl rfl rfl (htA ag58) rfl (getD_some (d := z_GCrossing) (ltN c5)) rfl rfl ?_; intro wd64 HS
        refine GO.fin (fun a hs => ?_)
        exact ⟨_, _, _, _, _, _, _, _, _, Own T_GCrossing 58 A_d_Crossings c_d_Crossings (fun _ => ()) (d_Crossings.set e_crossing.toNat (⟨t56, t57, t58, t59, t60⟩ : GCrossing)), hs, HS, f0, f1, f2, f3, f4, f5, f6, f7, f8, fun h => Bool.noConfusion h, fun _ => rfl⟩
       | k + 10, hj => exact absurd hj (Nat.not_lt.2 (Nat.le_add_left 10 k))
      ·
       intro b a w hall
       refine exI fun Y31_0 => exI fun Y32_1 => exI fun Y33_2 => exI fun Y34_3 => exI fun Y35_4 => exI fun Y36_5 => exI fun Y37_6 => exI fun Y38_7 => exI fun Y39_8 => exI fun O40_1 => anI fun hs => anI fun HS => anI fun f0 => anI fun f1 => anI fun f2 => anI fun f3 => anI fun f4 => anI fun f5 => anI fun f6 => anI fun f7 => anI fun f8 => anI fun o1_0 => fun o1_1 => ?_
       obtain rfl := f0 (hall 0 (by decide))
       obtain rfl := f1 (hall 1 (by decide))
       obtain rfl := f2 (hall 2 (by decide))
       obtain rfl := f3 (hall 3 (by decide))
       obtain rfl := f4 (hall 4 (by decide))
       obtain rfl := f5 (hall 5 (by decide))
       obtain rfl := f6 (hall 6 (by decide))
       obtain rfl := f7 (hall 7 (by decide))
       obtain rfl := f8 (hall 8 (by decide))
       obtain rfl := o1_1 (hall 9 (by decide))
       refine G.at hs ?_
       replace HS := HS.boxEq (j := 3) (cs' := [.slice A_d_Crossings (d_Crossings.set e_crossing.toNat (⟨t56, t57, t58, t59, t60⟩ : GCrossing)).length c_d_Crossings, .int .i64 d_Circles]) rfl (by simp only [List.length_set] <;> rfl)
       obtain rfl := Option.some.inj H
       exact G.end0 Try.func50 rfl ⟨rfl, (HS.pick 5 [4])⟩
     ·
      cases H

set_option maxRecDepth 20000 in
set_option maxHeartbeats 40000000 in
theorem impl_Diagram_through.calls {w0 w : World} {L : List HObj} {K : Nat} {d_Crossings : List GCrossing} {d_Circles : Int} {pass : Int} {in_ : Int} {out : Int} {A_d_Crossings : Option Addr} {c_d_Crossings : Nat} {r1 : List GCrossing} (HS : St w0 w (Own T_GCrossing 58 A_d_Crossings c_d_Crossings (fun _ => ()) d_Crossings :: L)) (H : impl_Diagram_through.f K d_Crossings d_Circles pass in_ out = some r1) :
    Calls Try.prog 76 #[.agg [.slice A_d_Crossings d_Crossings.length c_d_Crossings, .int .i64 d_Circles].toArray, .int .i64 pass, .int .i64 in_, .int .i64 out] w (impl_Diagram_through.post w0 L d_Crossings d_Circles pass in_ out A_d_Crossings c_d_Crossings r1) := by
  unfold impl_Diagram_through.f at H
  refine Calls.of_G Try.func76 rfl rfl rfl ?_
  refine G.seq ?_
  refine G.region ?_
  refine GO.box (cs := [.slice A_d_Crossings d_Crossings.length c_d_Crossings, .int .i64 d_Circles]) HS rfl rfl rfl rfl ?_; intro b1 wd2 HS
  refine GO.nil ?_
  refine G.seq ?_
  obtain ⟨t3, h4, H⟩ := Option.bind_eq_some_iff.1 H
  refine G.region ?_
  refine GO.move rfl rfl rfl ?_
  refine GO.fn rfl Try.func125 fok125.1 fok125.2 rfl rfl (impl_abs.calls HS  h4) (fun _ wd5 ⟨h6, HS⟩ => ⟨_, h6, ?_⟩)
  refine GO.sub rfl rfl rfl rfl ?_
  refine GO.assign rfl rfl rfl ?_
  refine GO.nil ?_
  refine G.seq ?_
  refine G.region ?_
  refine GO.assign rfl rfl rfl ?_
  refine GO.nil ?_
  refine G.seq ?_
  refine G.seq ?_
  refine G.region ?_
  refine GO.move rfl rfl rfl ?_
  refine GO.gtr rfl rfl rfl rfl ?_
  refine GO.nil ?_
  refine G.nameT (fun k_j1 hk_j1 => ?_)
  have at_j1 : ∀ m_j1, m_j1 ≤ K → ∀ (first_11 : Int) (w : World), impl_Diagram_through.j1 K m_j1 d_Crossings d_Circles in_ out t3 first_11 = some r1 → St w0 w (Own T_GCrossing 58 A_d_Crossings c_d_Crossings (fun _ => ()) d_Crossings :: Box b1 28 [.slice A_d_Crossings d_Crossings.length c_d_Crossings, .int .i64 d_Circles] :: L) → G Try.prog 76 36 [(2, .int .i64 in_), (3, .int .i64 out), (4, .pointer (some ⟨b1, 0, none⟩)), (8, .int .i64 (w64 (t3 - 1))), (9, .int .i64 first_11)] k_j1 w (impl_Diagram_through.post w0 L d_Crossings d_Circles pass in_ out A_d_Crossings c_d_Crossings r1) := by
   intro m_j1 hm_j1 first_11 w H HS
   cases m_j1 with
   | zero => rw [impl_Diagram_through.j1] at H; cases H
   | succ n_j1 =>
    rw [impl_Diagram_through.j1] at H
    subst hk_j1
    refine G.seq ?_
    obtain ⟨t12, h13, H⟩ := Option.bind_eq_some_iff.1 H
    obtain ⟨c14, H⟩ := ite_none H
    refine G.region ?_
    refine GO.ldBoxA (j := 1) ([.slice A_d_Crossings d_Crossings.length c_d_Crossings, .int .i64 d_Circles]) HS rfl rfl rfl rfl ag28 rfl ?_
    refine GO.move rfl rfl rfl ?_
    refine GO.move rfl rfl rfl ?_
    refine GO.buildV (.agg [.int .i64 (w64 (t3 - 1)), .int .i64 first_11].toArray) rfl rfl (fun _ => by kernel_rfl) rfl ?_
    refine GO.move rfl rfl rfl ?_
    replace HS := HS.pick 2 [0, 1]
    refine GO.fn rfl Try.func50 fok50.1 fok50.2 rfl rfl (impl_Diagram_set.calls HS  h13) (fun _ wd15 ⟨h16, HS⟩ => ⟨_, h16, ?_⟩)
    refine GO.nil ?_
    replace HS := HS.boxEq (j := 1) (cs' := [.slice A_d_Crossings t12.length c_d_Crossings, .int .i64 d_Circles]) rfl (by simp only [List.length_set, c14] <;> rfl)
    obtain ⟨t17, h18, H⟩ := Option.bind_eq_some_iff.1 H
    obtain ⟨c19, H⟩ := ite_none H
    refine G.region ?_
    refine GO.ldBoxA (j := 1) ([.slice A_d_Crossings t12.length c_d_Crossings, .int .i64 d_Circles]) HS rfl rfl rfl rfl ag28 rfl ?_
    refine GO.move rfl rfl rfl ?_
    refine GO.move rfl rfl rfl ?_
    refine GO.add rfl rfl rfl rfl ?_
    refine GO.rem rfl rfl rfl (by decide) rfl ?_
    refine GO.buildV (.agg [.int .i64 (w64 (t3 - 1)), .int .i64 ((w64 (first_11 + 2)).tmod 4)].toArray) rfl rfl (fun _ => by kernel_rfl) rfl ?_
    refine GO.move rfl rfl rfl ?_
    replace HS := HS.pick 2 [0, 1]
    refine GO.fn rfl Try.func50 fok50.1 fok50.2 rfl rfl (impl_Diagram_set.calls HS  h18) (fun _ wd20 ⟨h21, HS⟩ => ⟨_, h21, ?_⟩)
    refine GO.nil ?_
    replace HS := HS.boxEq (j := 1) (cs' := [.slice A_d_Crossings t17.length c_d_Crossings, .int .i64 d_Circles]) rfl (by simp only [List.length_set, c19] <;> rfl)
    obtain rfl := Option.some.inj H
    exact G.end0 Try.func76 rfl ⟨rfl, (HS.pick 2 [0])⟩
  rcases ite_elim H with ⟨c22, H⟩ | ⟨c22, H⟩
  ·
   refine G.yesB rfl (decide_eq_true c22) ?_
   obtain ⟨c23, H⟩ := ite_none H
   obtain ⟨e24, h25, H⟩ := bnd_elim H
   refine G.region ?_
   refine GO.fld (⟨b1, 0, none⟩) rfl rfl fl28_0 rfl rfl ?_
   refine GO.ldBox (j := 0) HS rfl rfl rfl rfl na26 rfl ?_
   refine GO.move rfl rfl rfl ?_
   refine GO.ix rfl rfl rfl Try.underlying26 sz58 ((RdIn.own (j := 1) rfl) _ HS).2.2.1 c23.1 c23.2 rfl ?_
   refine GO.fld (ea A_d_Crossings (((w64 (t3 - 1)).toNat) * 5 + 4)) rfl rfl fl58_4 (ea_add _ _ _) rfl ?_
   refine GO.ldRd (T := T_GCrossing) (n := (w64 (t3 - 1)).toNat) (o := 4) HS (RdIn.own (j := 1) rfl) rfl rfl (getD_eq (ltN c23) h25) rfl rfl na2 rfl ?_
   refine GO.add rfl rfl rfl rfl ?_
   refine GO.assign rfl rfl rfl ?_
   refine GO.nil ?_
   refine G.weak ?_ (at_j1 K (Nat.le_refl _) _ _ H (HS.pick 2 [1, 0]))
   exact ⟨rfl, rfl, rfl, rfl, rfl, trivial⟩
  ·
   refine G.noB rfl (decide_eq_false c22) ?_
   refine G.skip ?_
   refine G.weak ?_ (at_j1 K (Nat.le_refl _) _ _ H (HS.pick 2 [1, 0]))
   exact ⟨rfl, rfl, rfl, rfl, rfl, trivial⟩

set_option maxRecDepth 20000 in
set_option maxHeartbeats 40000000 in
theorem impl_SlideTriangle.calls {w0 w : World} {L : List HObj} {K : Nat} {d_Crossings : List GCrossing} {d_Circles : Int} {corner : Int} {A_d_Crossings : Option Addr} {c_d_Crossings : Nat} {r1 : List GCrossing} {r2 : Int} {r3 : Int} (HS : St w0 w (L)) (h_d_Crossings : RdIn w0 L T_GCrossing A_d_Crossings c_d_Crossings (fun _ => ()) d_Crossings) (H : impl_SlideTriangle.f K d_Crossings d_Circles corner = some (r1, r2, r3)) :
    Calls Try.prog 26 #[.agg [.slice A_d_Crossings d_Crossings.length c_d_Crossings, .int .i64 d_Circles].toArray, .int .i64 corner] w (impl_SlideTriangle.post w0 L d_Crossings d_Circles corner A_d_Crossings c_d_Crossings r1 r2 r3) := by
  unfold impl_SlideTriangle.f at H
  refine Calls.of_G Try.func26 rfl rfl rfl ?_
  refine G.seq ?_
  refine G.region ?_
  refine GO.box (cs := [.slice A_d_Crossings d_Crossings.length c_d_Crossings, .int .i64 d_Circles]) HS rfl rfl rfl rfl ?_; intro b1 wd2 HS
  refine GO.box (cs := [.int .i64 corner]) HS rfl rfl rfl rfl ?_; intro b3 wd4 HS
  refine GO.alloc HS rfl zr28 rfl rfl ?_; intro b5 wd6 HS
  refine GO.assign rfl rfl rfl ?_
  refine GO.nil ?_
  refine G.seq ?_
  obtain ⟨t7, t8, t9, h10, H⟩ := bind3_elim H
  refine G.region ?_
  refine GO.ldBoxA (j := 2) ([.slice A_d_Crossings d_Crossings.length c_d_Crossings, .int .i64 d_Circles]) HS rfl rfl rfl rfl ag28 rfl ?_
  refine GO.fn rfl Try.func45 fok45.1 fok45.2 rfl rfl (impl_Diagram_drawing.calls HS (RdIn.drop 3 h_d_Crossings) h10) (fun _ wd15 ⟨A11, c12, A13, c14, h16, HS⟩ => ⟨_, h16, ?_⟩)
  refine GO.move rfl rfl rfl ?_
  refine GO.extract rfl rfl rfl rfl ?_
  refine GO.extract rfl rfl rfl rfl ?_
  refine GO.alloc HS rfl zr63 rfl rfl ?_; intro b17 wd18 HS
  refine GO.stBox (j := 0) (vs := [.slice A11 t7.length c12, .slice A13 t8.length c14]) ([.slice A11 t7.length c12, .slice A13 t8.length c14]) HS rfl rfl rfl rfl rfl (htA ag63) rfl rfl rfl ?_; intro wd19 HS
  refine GO.assign rfl rfl rfl ?_
  refine GO.nil ?_
  refine G.seq ?_
  refine G.seq ?_
  refine G.region ?_
  refine GO.move rfl rfl rfl ?_
  refine GO.not rfl rfl rfl ?_
  refine GO.nil ?_
  rcases ite_elim H with ⟨c20, H⟩ | ⟨c20, H⟩
  ·
   refine G.noB rfl (congrArg Bool.not c20) ?_
   refine G.skip ?_
   refine G.seq ?_
   obtain ⟨t21, h22, H⟩ := Option.bind_eq_some_iff.1 H
   refine G.region ?_
   refine GO.ldBoxA (j := 5) ([.slice A_d_Crossings d_Crossings.length c_d_Crossings, .int .i64 d_Circles]) HS rfl rfl rfl rfl ag28 rfl ?_
   refine GO.ldBoxA (j := 0) ([.slice A11 t7.length c12, .slice A13 t8.length c14]) HS rfl rfl rfl rfl ag63 rfl ?_
   refine GO.fn rfl Try.func72 fok72.1 fok72.2 rfl rfl (impl_Diagram_triangles.calls HS (RdIn.drop 6 h_d_Crossings) (RdIn.own (j := 1) rfl) (RdIn.own (j := 2) rfl) h22) (fun _ wd26 ⟨A23, c24, y25, h27, HS⟩ => ⟨_, h27, ?_⟩)
   refine GO.assign rfl rfl rfl ?_
   refine GO.nil ?_
   refine G.seq ?_
   obtain ⟨t28, h29, H⟩ := Option.bind_eq_some_iff.1 H
   refine G.region ?_
   refine GO.move rfl rfl rfl ?_
   refine GO.mkFunc rfl rfl rfl rfl ?_
   replace HS := HS.pick 7 [5, 0, 1, 2, 3, 4, 6]
   refine GO.fn rfl Try.func73 fok73.1 fok73.2 rfl rfl (slices_IndexFunc_int64_int64_74.calls HS (RdIn.own (j := 0) rfl) h29) (fun _ wd30 ⟨h31, HS⟩ => ⟨_, h31, ?_⟩)
   refine GO.assign rfl rfl rfl ?_
   refine GO.nil ?_
   refine G.seq ?_
   refine G.seq ?_
   refine G.region ?_
   refine GO.move rfl rfl rfl ?_
   refine GO.lss rfl rfl rfl rfl ?_
   refine GO.nil ?_
   rcases ite_elim H with ⟨c32, H⟩ | ⟨c32, H⟩
   ·
    refine G.yesB rfl (decide_eq_true c32) ?_
    refine G.seq ?_
    refine G.region ?_
    refine GO.buildV (.agg [.slice none 0 0, .int .i64 0].toArray) rfl rfl (fun _ => by kernel_rfl) rfl ?_
    refine GO.stBox (j := 5) (vs := [.slice none 0 0, .int .i64 0]) ([.slice none 0 0, .int .i64 0]) HS rfl rfl rfl rfl rfl (htA ag28) rfl rfl rfl ?_; intro wd33 HS
    refine GO.assign rfl rfl rfl ?_
    refine GO.nil ?_
    replace HS := HS.nilRow T_GCrossing 58 (fun _ => ())
    obtain ⟨rfl, rfl, rfl⟩ := some3 H
    exact G.ret2 _ _ Try.func26 rfl (Res1.boxA (j := 6) (vs := [.slice none 0 0, .int .i64 0]) HS rfl rfl rfl ag28) rfl ⟨_, _, rfl, (HS.pick 8 [0])⟩
   ·
    refine G.noB rfl (decide_eq_false c32) ?_
    refine G.skip ?_
    refine G.seq ?_
    obtain ⟨t34, t35, h36, H⟩ := bind2_elim H
    refine G.region ?_
    refine GO.ldBoxA (j := 6) ([.slice A_d_Crossings d_Crossings.length c_d_Crossings, .int .i64 d_Circles]) HS rfl rfl rfl rfl ag28 rfl ?_
    refine GO.fn rfl Try.func49 fok49.1 fok49.2 rfl rfl (impl_copyDiagram.calls HS (RdIn.drop 7 h_d_Crossings) h36) (fun _ wd39 ⟨A37, c38, h40, HS⟩ => ⟨_, h40, ?_⟩)
    refine GO.alloc HS rfl zr28 rfl rfl ?_; intro b41 wd42 HS
    refine GO.stBox (j := 0) (vs := [.slice A37 t34.length c38, .int .i64 t35]) ([.slice A37 t34.length c38, .int .i64 t35]) HS rfl rfl rfl rfl rfl (htA ag28) rfl rfl rfl ?_; intro wd43 HS
    refine GO.nil ?_
    refine G.seq ?_
    refine G.seq ?_
    obtain ⟨c44, H⟩ := ite_none H
    refine G.region ?_
    refine GO.move rfl rfl rfl ?_
    refine GO.move rfl rfl rfl ?_
    refine GO.ix rfl rfl rfl Try.underlying42 sz43 ((RdIn.own (j := 3) rfl) _ HS).2.2.1 c44.1 c44.2 rfl ?_
    refine GO.ldRd (T := (Ty.slice 2 (TInt .i64))) (n := t28.toNat) (o := 0) HS (RdIn.own (j := 3) rfl) rfl rfl (getD_some (d := []) (ltN c44)) rfl rfl na43 rfl ?_
    refine GO.lenS rfl rfl Try.underlying43 rfl ?_
    refine GO.move rfl rfl rfl ?_
    refine GO.nil ?_
    refine G.block ?_
    refine G.loop ?_
    refine G.name (fun k_l1 hk_l1 => ?_)
    have at_l1 : ∀ m_l1, m_l1 ≤ K → ∀ (out_111 : List GCrossing) (x112 : Int) (w : World), impl_SlideTriangle.l1 K m_l1 d_Crossings t7 t8 t21 t28 t35 out_111 x112 = some (r1, r2, r3) → St w0 w (Box b1 28 [.slice A_d_Crossings d_Crossings.length c_d_Crossings, .int .i64 d_Circles] :: Box b5 28 [.slice none 0 0, .int .i64 0] :: Box b17 63 [.slice A11 t7.length c12, .slice A13 t8.length c14] :: Own T_GEnd 68 A11 c12 (fun _ => ()) t7 :: Own T_GEnd 68 A13 c14 (fun _ => ()) t8 :: Box b41 28 [.slice A37 out_111.length c38, .int .i64 t35] :: Own T_GCrossing 58 A37 c38 (fun _ => ()) out_111 :: Own (Ty.slice 2 (TInt .i64)) 43 A23 c24 y25 t21 :: L) → G Try.prog 26 105 [(2, .pointer (some ⟨b1, 0, none⟩)), (4, .pointer (some ⟨b5, 0, none⟩)), (6, .pointer (some ⟨b17, 0, none⟩)), (10, .pointer (some ⟨b41, 0, none⟩)), (40, .slice ((y25 t28.toNat).A) (t21.getD t28.toNat []).length ((y25 t28.toNat).c)), (41, .int .i64 ((t21.getD t28.toNat []).length : Int)), (42, .int .i64 x112)] k_l1 w (impl_SlideTriangle.post w0 L d_Crossings d_Circles corner A_d_Crossings c_d_Crossings r1 r2 r3) := by
     intro m_l1
     induction m_l1 using Nat.strongRecOn with
     | _ m_l1 ih_l1 =>
      intro hm_l1 out_111 x112 w H HS
      cases m_l1 with
      | zero => rw [impl_SlideTriangle.l1] at H; cases H
      | succ n_l1 =>
       rw [impl_SlideTriangle.l1] at H
       subst hk_l1
       refine G.seq ?_
       refine G.region ?_
       refine GO.lss rfl rfl rfl rfl ?_
       refine GO.nil ?_
       refine G.seq ?_
       rcases ite_elim H with ⟨c179, H⟩ | ⟨c179, H⟩
       ·
        refine G.yesB rfl (decide_eq_true c179) ?_
        refine G.skip ?_
        refine G.seq ?_
        refine G.block ?_
        refine G.seq ?_
        obtain ⟨c180, H⟩ := ite_none H
        refine G.region ?_
        refine GO.ix rfl rfl rfl Try.underlying43 sz2 ((RdIn.elem (RdIn.own (j := 7) rfl) c44.1 c44.2) _ HS).2.2.1 c180.1 c180.2 rfl ?_
        refine GO.ldRd (T := (TInt .i64)) (n := x112.toNat) (o := 0) HS (RdIn.elem (RdIn.own (j := 7) rfl) c44.1 c44.2) rfl rfl (getD_some (d := 0) (ltN c180)) rfl rfl na2 rfl ?_
        refine GO.assign rfl rfl rfl ?_
        refine GO.nil ?_
        refine G.seq ?_
        obtain ⟨c181, H⟩ := ite_none H
        obtain ⟨e182, h183, H⟩ := bnd_elim H
        obtain ⟨t184, t185, t186, t187, h188, H⟩ := bind4_elim H
        obtain ⟨c191, H⟩ := ite_none H
        refine G.region ?_
        refine GO.fld (⟨b1, 0, none⟩) rfl rfl fl28_0 rfl rfl ?_
        refine GO.ldBox (j := 0) HS rfl rfl rfl rfl na26 rfl ?_
        refine GO.move rfl rfl rfl ?_
        refine GO.quo rfl rfl rfl (by decide) rfl ?_
        refine GO.ix rfl rfl rfl Try.underlying26 sz58 ((RdIn.drop 8 h_d_Crossings) _ HS).2.2.1 c181.1 c181.2 rfl ?_
        refine GO.ldRdA (T := T_GCrossing) (n := (w64 (((t21.getD t28.toNat []).getD x112.toNat 0).tdiv 4)).toNat) HS (RdIn.drop 8 h_d_Crossings) rfl rfl (getD_eq (ltN c181) h183) ag58 rfl ?_
        refine GO.fn rfl Try.func75 fok75.1 fok75.2 rfl rfl (impl_Crossing_ends.calls HS  h188) (fun _ wd189 ⟨h190, HS⟩ => ⟨_, h190, ?_⟩)
        refine GO.move rfl rfl rfl ?_
        refine GO.add rfl rfl rfl rfl ?_
        refine GO.rem rfl rfl rfl (by decide) rfl ?_
        refine GO.ixArr ([t184, t185, t186, t187] : List Int) rfl rfl rfl Try.underlying93 Try.underlying2 sz2 rfl c191.1 c191.2 rfl ?_
        refine GO.assign rfl rfl rfl ?_
        refine GO.nil ?_
        refine G.seq ?_
        obtain ⟨c192, H⟩ := ite_none H
        obtain ⟨e193, h194, H⟩ := bnd_elim H
        obtain ⟨c195, H⟩ := ite_none H
        obtain ⟨e196, h197, H⟩ := bnd_elim H
        refine G.regionAny mixed (by decide) (fun b a w => ∃ (Y1_0 : Value) (Y2_1 : Value) (Y3_2 : Value) (Y4_3 : Value) (Y5_4 : Value) (Y6_5 : Value) (Y7_6 : Value) (Y8_7 : Value) (Y9_8 : Value) (Y10_9 : Value) (Y11_10 : Value) (Y12_11 : Value) (b198 : Nat) (b200 : Nat) (O14_23 : HObj) (O13_24 : HObj), Sat 105 [(14, Y11_10), (15, Y12_11), (57, Y1_0), (58, Y2_1), (59, Y3_2), (60, Y4_3), (61, Y5_4), (62, Y6_5), (63, Y7_6), (64, Y8_7), (65, Y9_8), (66, Y10_9), (2, .pointer (some ⟨b1, 0, none⟩)), (4, .pointer (some ⟨b5, 0, none⟩)), (6, .pointer (some ⟨b17, 0, none⟩)), (10, .pointer (some ⟨b41, 0, none⟩)), (13, .int .i64 (([t184, t185, t186, t187] : List Int).getD ((w64 (((t21.getD t28.toNat []).getD x112.toNat 0) + 1)).tmod 4).toNat 0)), (40, .slice ((y25 t28.toNat).A) (t21.getD t28.toNat []).length ((y25 t28.toNat).c)), (41, .int .i64 ((t21.getD t28.toNat []).length : Int)), (42, .int .i64 x112)] a ∧ St w0 w (Box b1 28 [.slice A_d_Crossings d_Crossings.length c_d_Crossings, .int .i64 d_Circles] :: Box b5 28 [.slice none 0 0, .int .i64 0] :: Box b17 63 [.slice A11 t7.length c12, .slice A13 t8.length c14] :: Own T_GEnd 68 A11 c12 (fun _ => ()) t7 :: Own T_GEnd 68 A13 c14 (fun _ => ()) t8 :: Box b41 28 [.slice A37 out_111.length c38, .int .i64 t35] :: Own T_GCrossing 58 A37 c38 (fun _ => ()) out_111 :: Own (Ty.slice 2 (TInt .i64)) 43 A23 c24 y25 t21 :: O14_23 :: O13_24 :: L) ∧ (b 10 = true → Y11_10 = (.pointer (some ⟨b198, 0, none⟩))) ∧ (b 11 = true → Y12_11 = (.pointer (some ⟨b200, 0, none⟩))) ∧ (b 0 = true → Y1_0 = (.pointer (some ⟨b17, 0, none⟩))) ∧ (b 1 = true → Y2_1 = (.slice A11 t7.length c12)) ∧ (b 2 = true → Y3_2 = (.int .i64 (([t184, t185, t186, t187] : List Int).getD ((w64 (((t21.getD t28.toNat []).getD x112.toNat 0) + 1)).tmod 4).toNat 0))) ∧ (b 3 = true → Y4_3 = (.pointer (some (ea A11 (((([t184, t185, t186, t187] : List Int).getD ((w64 (((t21.getD t28.toNat []).getD x112.toNat 0) + 1)).tmod 4).toNat 0).toNat) * 2))))) ∧ (b 4 = true → Y5_4 = (.agg [.int .i64 e193.crossing, .int .i64 e193.position].toArray)) ∧ (b 5 = true → Y6_5 = (.pointer (some ⟨b17, 1, none⟩))) ∧ (b 6 = true → Y7_6 = (.slice A13 t8.length c14)) ∧ (b 7 = true → Y8_7 = (.int .i64 (([t184, t185, t186, t187] : List Int).getD ((w64 (((t21.getD t28.toNat []).getD x112.toNat 0) + 1)).tmod 4).toNat 0))) ∧ (b 8 = true → Y9_8 = (.pointer (some (ea A13 (((([t184, t185, t186, t187] : List Int).getD ((w64 (((t21.getD t28.toNat []).getD x112.toNat 0) + 1)).tmod 4).toNat 0).toNat) * 2))))) ∧ (b 9 = true → Y10_9 = (.agg [.int .i64 e196.crossing, .int .i64 e196.position].toArray)) ∧ (b 10 = true → b 12 = false → O14_23 = Box b198 68 [.int .i64 0, .int .i64 0]) ∧ (b 12 = true → O14_23 = Box b198 68 [.int .i64 e193.crossing, .int .i64 e193.position]) ∧ (b 11 = true → b 13 = false → O13_24 = Box b200 68 [.int .i64 0, .int .i64 0]) ∧ (b 13 = true → O13_24 = Box b200 68 [.int .i64 e196.crossing, .int .i64 e196.position])) ?_ ?_ ?_
        ·
         intro a hs
         obtain ⟨Y11_10, hs⟩ := hs.ext (d := 14) rfl
         obtain ⟨Y12_11, hs⟩ := hs.ext (d := 15) rfl
         obtain ⟨Y1_0, hs⟩ := hs.ext (d := 57) rfl
         obtain ⟨Y2_1, hs⟩ := hs.ext (d := 58) rfl
         obtain ⟨Y3_2, hs⟩ := hs.ext (d := 59) rfl
         obtain ⟨Y4_3, hs⟩ := hs.ext (d := 60) rfl
         obtain ⟨Y5_4, hs⟩ := hs.ext (d := 61) rfl
         obtain ⟨Y6_5, hs⟩ := hs.ext (d := 62) rfl
         obtain ⟨Y7_6, hs⟩ := hs.ext (d := 63) rfl
         obtain ⟨Y8_7, hs⟩ := hs.ext (d := 64) rfl
         obtain ⟨Y9_8, hs⟩ := hs.ext (d := 65) rfl
         obtain ⟨Y10_9, hs⟩ := hs.ext (d := 66) rfl
         exact ⟨Y1_0, Y2_1, Y3_2, Y4_3, Y5_4, Y6_5, Y7_6, Y8_7, Y9_8, Y10_9, Y11_10, Y12_11, 0, 0, Emp, Emp, hs.weak ⟨rfl, rfl, rfl, rfl, rfl, rfl, rfl, rfl, rfl, rfl, rfl, rfl, rfl, rfl, rfl, rfl, rfl, rfl, rfl, rfl, trivial⟩, (HS.drew.emp.emp.pick 10 [2, 3, 4, 5, 6, 7, 8, 9, 1, 0]), fun h => Bool.noConfusion h, fun h => Bool.noConfusion h, fun h => Bool.noConfusion h, fun h => Bool.noConfusion h, fun h => Bool.noConfusion h, fun h => Bool.noConfusion h, fun h => Bool.noConfusion h, fun h => Bool.noConfusion h, fun h => Bool.noConfusion h, fun h => Bool.noConfusion h, fun h => Bool.noConfusion h, fun h => Bool.noConfusion h, fun h => Bool.noConfusion h, fun h => Bool.noConfusion h, fun h => Bool.noConfusion h, fun h => Bool.noConfusion h⟩
        ·
         intro j hj b a w
         refine exI fun Y1_0 => exI fun Y2_1 => exI fun Y3_2 => exI fun Y4_3 => exI fun Y5_4 => exI fun Y6_5 => exI fun Y7_6 => exI fun Y8_7 => exI fun Y9_8 => exI fun Y10_9 => exI fun Y11_10 => exI fun Y12_11 => exI fun b198 => exI fun b200 => exI fun O14_23 => exI fun O13_24 => anI fun hs => anI fun HS => anI fun f10 => anI fun f11 => anI fun f0 => anI fun f1 => anI fun f2 => anI fun f3 => anI fun f4 => anI fun f5 => anI fun f6 => anI fun f7 => anI fun f8 => anI fun f9 => anI fun o23_0 => anI fun o23_1 => anI fun o24_0 => fun o24_1 hb hd hcl => ?_
         match j, hj with
         | 0, _ =>
          refine GO.at hs ?_
          refine GO.fld (⟨b17, 0, none⟩) rfl rfl fl63_0 rfl rfl ?_
          refine GO.fin (fun a hs => ?_)
          exact ⟨(.pointer (some ⟨b17, 0, none⟩)), _, _, _, _, _, _, _, _, _, _, _, b198, b200, _, _, by exact hs.setAt 2 rfl, HS, f10, f11, fun _ => rfl, f1, f2, f3, f4, f5, f6, f7, f8, f9, o23_0, o23_1, o24_0, o24_1⟩
         | 1, _ =>
          have h0 : b 0 = true := hd 0 (by decide)
          obtain rfl := f0 h0
          refine GO.at hs ?_
          refine GO.ldBox (j := 2) HS rfl rfl rfl rfl na61 rfl ?_
          refine GO.fin (fun a hs => ?_)
          exact ⟨_, (.slice A11 t7.length c12), _, _, _, _, _, _, _, _, _, _, b198, b200, _, _, by exact hs.setAt 3 rfl, HS, f10, f11, f0, fun _ => rfl, f2, f3, f4, f5, f6, f7, f8, f9, o23_0, o23_1, o24_0, o24_1⟩
         | 2, _ =>
          refine GO.at hs ?_
          refine GO.move rfl rfl rfl ?_
          refine GO.fin (fun a hs => ?_)
          exact ⟨_, _, (.int .i64 (([t184, t185, t186, t187] : List Int).getD ((w64 (((t21.getD t28.toNat []).getD x112.toNat 0) + 1)).tmod 4).toNat 0)), _, _, _, _, _, _, _, _, _, b198, b200, _, _, by exact hs.setAt 4 rfl, HS, f10, f11, f0, f1, fun _ => rfl, f3, f4, f5, f6, f7, f8, f9, o23_0, o23_1, o24_0, o24_1⟩
         | 3, _ =>
          have h1 : b 1 = true := hd 1 (by decide)
          obtain rfl := f1 h1
          have h2 : b 2 = true := hd 2 (by decide)
          obtain rfl := f2 h2
          refine GO.at hs ?_
          refine GO.ix rfl rfl rfl Try.underlying61 sz68 ((RdIn.own (j := 3) rfl) _ HS).2.2.1 c192.1 c192.2 rfl ?_
          refine GO.fin (fun a hs => ?_)
          exact ⟨_, _, _, (.pointer (some (ea A11 (((([t184, t185, t186, t187] : List Int).getD ((w64 (((t21.getD t28.toNat []).getD x112.toNat 0) + 1)).tmod 4).toNat 0).toNat) * 2)))), _, _, _, _, _, _, _, _, b198, b200, _, _, by exact hs.setAt 5 rfl, HS, f10, f11, f0, f1, f2, fun _ => rfl, f4, f5, f6, f7, f8, f9, o23_0, o23_1, o24_0, o24_1⟩
         | 4, _ =>
          have h3 : b 3 = true := hd 3 (by decide)
          obtain rfl := f3 h3
          refine GO.at hs ?_
          refine GO.ldRdA (T := T_GEnd) (n := (([t184, t185, t186, t187] : List Int).getD ((w64 (((t21.getD t28.toNat []).getD x112.toNat 0) + 1)).tmod 4).toNat 0).toNat) HS (RdIn.own (j := 3) rfl) rfl rfl (getD_eq (ltN c192) h194) ag68 rfl ?_
          refine GO.fin (fun a hs => ?_)
          exact ⟨_, _, _, _, (.agg [.int .i64 e193.crossing, .int .i64 e193.position].toArray), _, _, _, _, _, _, _, b198, b200, _, _, by exact hs.setAt 6 rfl, HS, f10, f11, f0, f1, f2, f3, fun _ => rfl, f5, f6, f7, f8, f9, o23_0, o23_1, o24_0, o24_1⟩
         | 5, _ =>
          refine GO.at hs ?_
          refine GO.fld (⟨b17, 1, none⟩) rfl rfl fl63_1 rfl rfl ?_
          refine GO.fin (fun a hs => ?_)
          exact ⟨_, _, _, _, _, (.pointer (some ⟨b17, 1, none⟩)), _, _, _, _, _, _, b198, b200, _, _, by exact hs.setAt 7 rfl, HS, f10, f11, f0, f1, f2, f3, f4, fun _ => rfl, f6, f7, f8, f9, o23_0, o23_1, o24_0, o24_1⟩
         | 6, _ =>
          have h5 : b 5 = true := hd 5 (by decide)
          obtain rfl := f5 h5
          refine GO.at hs ?_
          refine GO.ldBox (j := 2) HS rfl rfl rfl rfl na61 rfl ?_
          refine GO.fin (fun a hs => ?_)
          exact ⟨_, _, _, _, _, _, (.slice A13 t8.length c14), _, _, _, _, _, b198, b200, _, _, by exact hs.setAt 8 rfl, HS, f10, f11, f0, f1, f2, f3, f4, f5, fun _ => rfl, f7, f8, f9, o23_0, o23_1, o24_0, o24_1⟩
         | 7, _ =>
          refine GO.at hs ?_
          refine GO.move rfl rfl rfl ?_
          refine GO.fin (fun a hs => ?_)
          exact ⟨_, _, _, _, _, _, _, (.int .i64 (([t184, t185, t186, t187] : List Int).getD ((w64 (((t21.getD t28.toNat []).getD x112.toNat 0) + 1)).tmod 4).toNat 0)), _, _, _, _, b198, b200, _, _, by exact hs.setAt 9 rfl, HS, f10, f11, f0, f1, f2, f3, f4, f5, f6, fun _ => rfl, f8, f9, o23_0, o23_1, o24_0, o24_1⟩
         | 8, _ =>
          have h6 : b 6 = true := hd 6 (by decide)
          obtain rfl := f6 h6
          have h7 : b 7 = true := hd 7 (by decide)
          obtain rfl := f7 h7
          refine GO.at hs ?_
          refine GO.ix rfl rfl rfl Try.underlying61 sz68 ((RdIn.own (j := 4) rfl) _ HS).2.2.1 c195.1 c195.2 rfl ?_
          refine GO.fin (fun a hs => ?_)
          exact ⟨_, _, _, _, _, _, _, _, (.pointer (some (ea A13 (((([t184, t185, t186, t187] : List Int).getD ((w64 (((t21.getD t28.toNat []).getD x112.toNat 0) + 1)).tmod 4).toNat 0).toNat) * 2)))), _, _, _, b198, b200, _, _, by exact hs.setAt 10 rfl, HS, f10, f11, f0, f1, f2, f3, f4, f5, f6, f7, fun _ => rfl, f9, o23_0, o23_1, o24_0, o24_1⟩
         | 9, _ =>
          have h8 : b 8 = true := hd 8 (by decide)
          obtain rfl := f8 h8
          refine GO.at hs ?_
          refine GO.ldRdA (T := T_GEnd) (n := (([t184, t185, t186, t187] : List Int).getD ((w64 (((t21.getD t28.toNat []).getD x112.toNat 0) + 1)).tmod 4).toNat 0).toNat) HS (RdIn.own (j := 4) rfl) rfl rfl (getD_eq (ltN c195) h197) ag68 rfl ?_
          refine GO.fin (fun a hs => ?_)
          exact ⟨_, _, _, _, _, _, _, _, _, (.agg [.int .i64 e196.crossing, .int .i64 e196.position].toArray), _, _, b198, b200, _, _, by exact hs.setAt 11 rfl, HS, f10, f11, f0, f1, f2, f3, f4, f5, f6, f7, f8, fun _ => rfl, o23_0, o23_1, o24_0, o24_1⟩
         | 10, _ =>
          refine GO.at hs ?_
          refine GO.alloc HS rfl zr68 rfl rfl ?_; intro b198 wd199 HS
          refine GO.fin (fun a hs => ?_)
          exact ⟨_, _, _, _, _, _, _, _, _, _, (.pointer (some ⟨b198, 0, none⟩)), _, b198, b200, Box b198 68 [.int .i64 0, .int .i64 0], _, by exact hs.setAt 0 rfl, HS.pick 11 [1, 2, 3, 4, 5, 6, 7, 8, 0, 10], fun _ => rfl, f11, f0, f1, f2, f3, f4, f5, f6, f7, f8, f9, fun _ _ => rfl, fun hh => (Bool.noConfusion ((hcl 12 (by decide) hh 10 (by decide)).symm.trans hb)), o24_0, o24_1⟩
         | 11, _ =>
          refine GO.at hs ?_
          refine GO.alloc HS rfl zr68 rfl rfl ?_; intro b200 wd201 HS
          refine GO.fin (fun a hs => ?_)
          exact ⟨_, _, _, _, _, _, _, _, _, _, _, (.pointer (some ⟨b200, 0, none⟩)), b198, b200, _, Box b200 68 [.int .i64 0, .int .i64 0], by exact hs.setAt 1 rfl, HS.pick 11 [1, 2, 3, 4, 5, 6, 7, 8, 9, 0], f10, fun _ => rfl, f0, f1, f2, f3, f4, f5, f6, f7, f8, f9, o23_0, o23_1, fun _ _ => rfl, fun hh => (Bool.noConfusion ((hcl 13 (by decide) hh 11 (by decide)).symm.trans hb))⟩
         | 12, _ =>
          have h10 : b 10 = true := hd 10 (by decide)
          obtain rfl := f10 h10
          have h4 : b 4 = true := hd 4 (by decide)
          obtain rfl := f4 h4
          obtain rfl := o23_0 h10 hb
          refine GO.at hs ?_
          refine GO.stBox (j := 8) (vs := [.int .i64 e193.crossing, .int .i64 e193.position]) ([.int .i64 e193.crossing, .int .i64 e193.position]) HS rfl rfl rfl rfl rfl (htA ag68) rfl rfl rfl ?_; intro wd202 HS
          refine GO.fin (fun a hs => ?_)
          exact ⟨_, _, _, _, _, _, _, _, _, _, _, _, b198, b200, Box b198 68 [.int .i64 e193.crossing, .int .i64 e193.position], _, hs, HS, f10, f11, f0, f1, f2, f3, f4, f5, f6, f7, f8, f9, fun _ h => Bool.noConfusion h, fun _ => rfl, o24_0, o24_1⟩
         | 13, _ =>
          have h11 : b 11 = true := hd 11 (by decide)
          obtain rfl := f11 h11
          have h9 : b 9 = true := hd 9 (by decide)
          obtain rfl := f9 h9
          obtain rfl := o24_0 h11 hb
          refine GO.at hs ?_
          refine GO.stBox (j := 9) (vs := [.int .i64 e196.crossing, .int .i64 e196.position]) ([.int .i64 e196.crossing, .int .i64 e196.position]) HS rfl rfl rfl rfl rfl (htA ag68) rfl rfl rfl ?_; intro wd203 HS
          refine GO.fin (fun a hs => ?_)
          exact ⟨_, _, _, _, _, _, _, _, _, _, _, _, b198, b200, _, Box b200 68 [.int .i64 e196.crossing, .int .i64 e196.position], hs, HS, f10, f11, f0, f1, f2, f3, f4, f5, f6, f7, f8, f9, o23_0, o23_1, fun _ h => Bool.noConfusion h, fun _ => rfl⟩
         | k + 14, hj => exact absurd hj (Nat.not_lt.2 (Nat.le_add_left 14 k))
        ·
         intro b a w hall
         refine exI fun Y1_0 => exI fun Y2_1 => exI fun Y3_2 => exI fun Y4_3 => exI fun Y5_4 => exI fun Y6_5 => exI fun Y7_6 => exI fun Y8_7 => exI fun Y9_8 => exI fun Y10_9 => exI fun Y11_10 => exI fun Y12_11 => exI fun b198 => exI fun b200 => exI fun O14_23 => exI fun O13_24 => anI fun hs => anI fun HS => anI fun f10 => anI fun f11 => anI fun f0 => anI fun f1 => anI fun f2 => anI fun f3 => anI fun f4 => anI fun f5 => anI fun f6 => anI fun f7 => anI fun f8 => anI fun f9 => anI fun o23_0 => anI fun o23_1 => anI fun o24_0 => fun o24_1 => ?_
         obtain rfl := f10 (hall 10 (by decide))
         obtain rfl := f11 (hall 11 (by decide))
         obtain rfl := f0 (hall 0 (by decide))
         obtain rfl := f1 (hall 1 (by decide))
         obtain rfl := f2 (hall 2 (by decide))
         obtain rfl := f3 (hall 3 (by decide))
         obtain rfl := f4 (hall 4 (by decide))
         obtain rfl := f5 (hall 5 (by decide))
         obtain rfl := f6 (hall 6 (by decide))
         obtain rfl := f7 (hall 7 (by decide))
         obtain rfl := f8 (hall 8 (by decide))
         obtain rfl := f9 (hall 9 (by decide))
         obtain rfl := o23_1 (hall 12 (by decide))
         obtain rfl := o24_1 (hall 13 (by decide))
         refine G.at hs ?_
         refine G.seq ?_
         obtain ⟨c204, H⟩ := ite_none H
         obtain ⟨e205, h206, H⟩ := bnd_elim H
         obtain ⟨t207, t208, t209, t210, h211, H⟩ := bind4_elim H
         obtain ⟨c214, H⟩ := ite_none H
         refine G.regionAny mixed (by decide) (fun b a w => ∃ (Y15_0 : Value) (Y16_1 : Value) (Y17_2 : Value) (Y18_3 : Value) (Y19_4 : Value) (Y20_5 : Value) (Y21_6 : Value) (Y22_7 : Value) (Y23_8 : Value) (Y24_9 : Value) (Y25_10 : Value) (Y26_11 : Value) (Y27_12 : Value), Sat 105 [(16, Y27_12), (67, Y15_0), (68, Y16_1), (69, Y17_2), (70, Y18_3), (71, Y19_4), (72, Y20_5), (73, Y21_6), (74, Y22_7), (75, Y23_8), (76, Y24_9), (77, Y25_10), (78, Y26_11), (2, .pointer (some ⟨b1, 0, none⟩)), (4, .pointer (some ⟨b5, 0, none⟩)), (6, .pointer (some ⟨b17, 0, none⟩)), (10, .pointer (some ⟨b41, 0, none⟩)), (13, .int .i64 (([t184, t185, t186, t187] : List Int).getD ((w64 (((t21.getD t28.toNat []).getD x112.toNat 0) + 1)).tmod 4).toNat 0)), (14, .pointer (some ⟨b198, 0, none⟩)), (15, .pointer (some ⟨b200, 0, none⟩)), (40, .slice ((y25 t28.toNat).A) (t21.getD t28.toNat []).length ((y25 t28.toNat).c)), (41, .int .i64 ((t21.getD t28.toNat []).length : Int)), (42, .int .i64 x112)] a ∧ St w0 w (Box b1 28 [.slice A_d_Crossings d_Crossings.length c_d_Crossings, .int .i64 d_Circles] :: Box b5 28 [.slice none 0 0, .int .i64 0] :: Box b17 63 [.slice A11 t7.length c12, .slice A13 t8.length c14] :: Own T_GEnd 68 A11 c12 (fun _ => ()) t7 :: Own T_GEnd 68 A13 c14 (fun _ => ()) t8 :: Box b41 28 [.slice A37 out_111.length c38, .int .i64 t35] :: Own T_GCrossing 58 A37 c38 (fun _ => ()) out_111 :: Own (Ty.slice 2 (TInt .i64)) 43 A23 c24 y25 t21 :: Box b198 68 [.int .i64 e193.crossing, .int .i64 e193.position] :: Box b200 68 [.int .i64 e196.crossing, .int .i64 e196.position] :: L) ∧ (b 12 = true → Y27_12 = (.int .i64 (([t207, t208, t209, t210] : List Int).getD ((w64 (e193.position + 2)).tmod 4).toNat 0))) ∧ (b 0 = true → Y15_0 = (.pointer (some ⟨b1, 0, none⟩))) ∧ (b 1 = true → Y16_1 = (.slice A_d_Crossings d_Crossings.length c_d_Crossings)) ∧ (b 2 = true → Y17_2 = (.pointer (some ⟨b198, 0, none⟩))) ∧ (b 3 = true → Y18_3 = (.int .i64 e193.crossing)) ∧ (b 4 = true → Y19_4 = (.pointer (some (ea A_d_Crossings (e193.crossing.toNat * 5))))) ∧ (b 5 = true → Y20_5 = (.agg [.int .i64 e205.A, .int .i64 e205.B, .int .i64 e205.C, .int .i64 e205.D, .int .i64 e205.Sign].toArray)) ∧ (b 6 = true → Y21_6 = (.agg [.int .i64 t207, .int .i64 t208, .int .i64 t209, .int .i64 t210].toArray)) ∧ (b 7 = true → Y22_7 = (.pointer (some ⟨b198, 1, none⟩))) ∧ (b 8 = true → Y23_8 = (.int .i64 e193.position)) ∧ (b 9 = true → Y24_9 = (.int .i64 (w64 (e193.position + 2)))) ∧ (b 10 = true → Y25_10 = (.int .i64 ((w64 (e193.position + 2)).tmod 4))) ∧ (b 11 = true → Y26_11 = (.int .i64 (([t207, t208, t209, t210] : List Int).getD ((w64 (e193.position + 2)).tmod 4).toNat 0)))) ?_ ?_ ?_
         ·
          intro a hs
          obtain ⟨Y27_12, hs⟩ := hs.ext (d := 16) rfl
          obtain ⟨Y15_0, hs⟩ := hs.ext (d := 67) rfl
          obtain ⟨Y16_1, hs⟩ := hs.ext (d := 68) rfl
          obtain ⟨Y17_2, hs⟩ := hs.ext (d := 69) rfl
          obtain ⟨Y18_3, hs⟩ := hs.ext (d := 70) rfl
          obtain ⟨Y19_4, hs⟩ := hs.ext (d := 71) rfl
          obtain ⟨Y20_5, hs⟩ := hs.ext (d := 72) rfl
          obtain ⟨Y21_6, hs⟩ := hs.ext (d := 73) rfl
          obtain ⟨Y22_7, hs⟩ := hs.ext (d := 74) rfl
          obtain ⟨Y23_8, hs⟩ := hs.ext (d := 75) rfl
          obtain ⟨Y24_9, hs⟩ := hs.ext (d := 76) rfl
          obtain ⟨Y25_10, hs⟩ := hs.ext (d := 77) rfl
          obtain ⟨Y26_11, hs⟩ := hs.ext (d := 78) rfl
          exact ⟨Y15_0, Y16_1, Y17_2, Y18_3, Y19_4, Y20_5, Y21_6, Y22_7, Y23_8, Y24_9, Y25_10, Y26_11, Y27_12, hs.weak ⟨rfl, rfl, rfl, rfl, rfl, rfl, rfl, rfl, rfl, rfl, rfl, rfl, rfl, rfl, rfl, rfl, rfl, rfl, rfl, rfl, rfl, rfl, rfl, trivial⟩, (HS.drew.pick 10 [0, 1, 2, 3, 4, 5, 6, 7, 8, 9]), fun h => Bool.noConfusion h, fun h => Bool.noConfusion h, fun h => Bool.noConfusion h, fun h => Bool.noConfusion h, fun h => Bool.noConfusion h, fun h => Bool.noConfusion h, fun h => Bool.noConfusion h, fun h => Bool.noConfusion h, fun h => Bool.noConfusion h, fun h => Bool.noConfusion h, fun h => Bool.noConfusion h, fun h => Bool.noConfusion h, fun h => Bool.noConfusion h⟩
         ·
          intro j hj b a w
          refine exI fun Y15_0 => exI fun Y16_1 => exI fun Y17_2 => exI fun Y18_3 => exI fun Y19_4 => exI fun Y20_5 => exI fun Y21_6 => exI fun Y22_7 => exI fun Y23_8 => exI fun Y24_9 => exI fun Y25_10 => exI fun Y26_11 => exI fun Y27_12 => anI fun hs => anI fun HS => anI fun f12 => anI fun f0 => anI fun f1 => anI fun f2 => anI fun f3 => anI fun f4 => anI fun f5 => anI fun f6 => anI fun f7 => anI fun f8 => anI fun f9 => anI fun f10 => fun f11 hb hd hcl => ?_
          match j, hj with
          | 0, _ =>
           refine GO.at hs ?_
           refine GO.fld (⟨b1, 0, none⟩) rfl rfl fl28_0 rfl rfl ?_
           refine GO.fin (fun a hs => ?_)
           exact ⟨(.pointer (some ⟨b1, 0, none⟩)), _, _, _, _, _, _, _, _, _, _, _, _, by exact hs.setAt 1 rfl, HS, f12, fun _ => rfl, f1, f2, f3, f4, f5, f6, f7, f8, f9, f10, f11⟩
          | 1, _ =>
           have h0 : b 0 = true := hd 0 (by decide)
           obtain rfl := f0 h0
           refine GO.at hs ?_
           refine GO.ldBox (j := 0) HS rfl rfl rfl rfl na26 rfl ?_
           refine GO.fin (fun a hs => ?_)
           exact ⟨_, (.slice A_d_Crossings d_Crossings.length c_d_Crossings), _, _, _, _, _, _, _, _, _, _, _, by exact hs.setAt 2 rfl, HS, f12, f0, fun _ => rfl, f2, f3, f4, f5, f6, f7, f8, f9, f10, f11⟩
          | 2, _ =>
           refine GO.at hs ?_
           refine GO.fld (⟨b198, 0, none⟩) rfl rfl fl68_0 rfl rfl ?_
           refine GO.fin (fun a hs => ?_)
           exact ⟨_, _, (.pointer (some ⟨b198, 0, none⟩)), _, _, _, _, _, _, _, _, _, _, by exact hs.setAt 3 rfl, HS, f12, f0, f1, fun _ => rfl, f3, f4, f5, f6, f7, f8, f9, f10, f11⟩
          | 3, _ =>
           have h2 : b 2 = true := hd 2 (by decide)
           obtain rfl := f2 h2
           refine GO.at hs ?_
           refine GO.ldBox (j := 8) HS rfl rfl rfl rfl na2 rfl ?_
           refine GO.fin (fun a hs => ?_)
           exact ⟨_, _, _, (.int .i64 e193.crossing), _, _, _, _, _, _, _, _, _, by exact hs.setAt 4 rfl, HS, f12, f0, f1, f2, fun _ => rfl, f4, f5, f6, f7, f8, f9, f10, f11⟩
          | 4, _ =>
           have h1 : b 1 = true := hd 1 (by decide)
           obtain rfl := f1 h1
           have h3 : b 3 = true := hd 3 (by decide)
           obtain rfl := f3 h3
           refine GO.at hs ?_
           refine GO.ix rfl rfl rfl Try.underlying26 sz58 ((RdIn.drop 10 h_d_Crossings) _ HS).2.2.1 c204.1 c204.2 rfl ?_
           refine GO.fin (fun a hs => ?_)
           exact ⟨_, _, _, _, (.pointer (some (ea A_d_Crossings (e193.crossing.toNat * 5)))), _, _, _, _, _, _, _, _, by exact hs.setAt 5 rfl, HS, f12, f0, f1, f2, f3, fun _ => rfl, f5, f6, f7, f8, f9, f10, f11⟩
          | 5, _ =>
           have h4 : b 4 = true := hd 4 (by decide)
           obtain rfl := f4 h4
           refine GO.at hs ?_
           refine GO.ldRdA (T := T_GCrossing) (n := e193.crossing.toNat) HS (RdIn.drop 10 h_d_Crossings) rfl rfl (getD_eq (ltN c204) h206) ag58 rfl ?_
           refine GO.fin (fun a hs => ?_)
           exact ⟨_, _, _, _, _, (.agg [.int .i64 e205.A, .int .i64 e205.B, .int .i64 e205.C, .int .i64 e205.D, .int .i64 e205.Sign].toArray), _, _, _, _, _, _, _, by exact hs.setAt 6 rfl, HS, f12, f0, f1, f2, f3, f4, fun _ => rfl, f6, f7, f8, f9, f10, f11⟩
          | 6, _ =>
           have h5 : b 5 = true := hd 5 (by decide)
           obtain rfl := f5 h5
           refine GO.at hs ?_
           refine GO.fn rfl Try.func75 fok75.1 fok75.2 rfl rfl (impl_Crossing_ends.calls HS  h211) (fun _ wd212 ⟨h213, HS⟩ => ⟨_, h213, ?_⟩)
           refine GO.fin (fun a hs => ?_)
           exact ⟨_, _, _, _, _, _, (.agg [.int .i64 t207, .int .i64 t208, .int .i64 t209, .int .i64 t210].toArray), _, _, _, _, _, _, by exact hs.setAt 7 rfl, HS, f12, f0, f1, f2, f3, f4, f5, fun _ => rfl, f7, f8, f9, f10, f11⟩
          | 7, _ =>
           refine GO.at hs ?_
           refine GO.fld (⟨b198, 1, none⟩) rfl rfl fl68_1 rfl rfl ?_
           refine GO.fin (fun a hs => ?_)
           exact ⟨_, _, _, _, _, _, _, (.pointer (some ⟨b198, 1, none⟩)), _, _, _, _, _, by exact hs.setAt 8 rfl, HS, f12, f0, f1, f2, f3, f4, f5, f6, fun _ => rfl, f8, f9, f10, f11⟩
          | 8, _ =>
           have h7 : b 7 = true := hd 7 (by decide)
           obtain rfl := f7 h7
           refine GO.at hs ?_
           refine GO.ldBox (j := 8) HS rfl rfl rfl rfl na2 rfl ?_
           refine GO.fin (fun a hs => ?_)
           exact ⟨_, _, _, _, _, _, _, _, (.int .i64 e193.position), _, _, _, _, by exact hs.setAt 9 rfl, HS, f12, f0, f1, f2, f3, f4, f5, f6, f7, fun _ => rfl, f9, f10, f11⟩
          | 9, _ =>
           have h8 : b 8 = true := hd 8 (by decide)
           obtain rfl := f8 h8
           refine GO.at hs ?_
           refine GO.add rfl rfl rfl rfl ?_
           refine GO.fin (fun a hs => ?_)
           exact ⟨_, _, _, _, _, _, _, _, _, (.int .i64 (w64 (e193.position + 2))), _, _, _, by exact hs.setAt 10 rfl, HS, f12, f0, f1, f2, f3, f4, f5, f6, f7, f8, fun _ => rfl, f10, f11⟩
          | 10, _ =>
           have h9 : b 9 = true := hd 9 (by decide)
           obtain rfl := f9 h9
           refine GO.at hs ?_
           refine GO.rem rfl rfl rfl (by decide) rfl ?_
           refine GO.fin (fun a hs => ?_)
           exact ⟨_, _, _, _, _, _, _, _, _, _, (.int .i64 ((w64 (e193.position + 2)).tmod 4)), _, _, by exact hs.setAt 11 rfl, HS, f12, f0, f1, f2, f3, f4, f5, f6, f7, f8, f9, fun _ => rfl, f11⟩
          | 11, _ =>
           have h6 : b 6 = true := hd 6 (by decide)
           obtain rfl := f6 h6
           have h10 : b 10 = true := hd 10 (by decide)
           obtain rfl := f10 h10
           refine GO.at hs ?_
           refine GO.ixArr ([t207, t208, t209, t210] : List Int) rfl rfl rfl Try.underlying93 Try.underlying2 sz2 rfl c214.1 c214.2 rfl ?_
           refine GO.fin (fun a hs => ?_)
           exact ⟨_, _, _, _, _, _, _, _, _, _, _, (.int .i64 (([t207, t208, t209, t210] : List Int).getD ((w64 (e193.position + 2)).tmod 4).toNat 0)), _, by exact hs.setAt 12 rfl, HS, f12, f0, f1, f2, f3, f4, f5, f6, f7, f8, f9, f10, fun _ => rfl⟩
          | 12, _ =>
           have h11 : b 11 = true := hd 11 (by decide)
           obtain rfl := f11 h11
           refine GO.at hs ?_
           refine GO.assign rfl rfl rfl ?_
           refine GO.fin (fun a hs => ?_)
           exact ⟨_, _, _, _, _, _, _, _, _, _, _, _, (.int .i64 (([t207, t208, t209, t210] : List Int).getD ((w64 (e193.position + 2)).tmod 4).toNat 0)), by exact hs.setAt 0 rfl, HS, fun _ => rfl, f0, f1, f2, f3, f4, f5, f6, f7, f8, f9, f10, f11⟩
          | k + 13, hj => exact absurd hj (Nat.not_lt.2 (Nat.le_add_left 13 k))
         ·
          intro b a w hall
          refine exI fun Y15_0 => exI fun Y16_1 => exI fun Y17_2 => exI fun Y18_3 => exI fun Y19_4 => exI fun Y20_5 => exI fun Y21_6 => exI fun Y22_7 => exI fun Y23_8 => exI fun Y24_9 => exI fun Y25_10 => exI fun Y26_11 => exI fun Y27_12 => anI fun hs => anI fun HS => anI fun f12 => anI fun f0 => anI fun f1 => anI fun f2 => anI fun f3 => anI fun f4 => anI fun f5 => anI fun f6 => anI fun f7 => anI fun f8 => anI fun f9 => anI fun f10 => fun f11 => ?_
          obtain rfl := f12 (hall 12 (by decide))
          obtain rfl := f0 (hall 0 (by decide))
          obtain rfl := f1 (hall 1 (by decide))
          obtain rfl := f2 (hall 2 (by decide))
          obtain rfl := f3 (hall 3 (by decide))
          obtain rfl := f4 (hall 4 (by decide))
          obtain rfl := f5 (hall 5 (by decide))
          obtain rfl := f6 (hall 6 (by decide))
          obtain rfl := f7 (hall 7 (by decide))
          obtain rfl := f8 (hall 8 (by decide))
          obtain rfl := f9 (hall 9 (by decide))
          obtain rfl := f10 (hall 10 (by decide))
          obtain rfl := f11 (hall 11 (by decide))
          refine G.at hs ?_
          refine G.seq ?_
          obtain ⟨c215, H⟩ := ite_none H
          obtain ⟨e216, h217, H⟩ := bnd_elim H
          obtain ⟨t218, t219, t220, t221, h222, H⟩ := bind4_elim H
          obtain ⟨c225, H⟩ := ite_none H
          refine G.regionAny mixed (by decide) (fun b a w => ∃ (Y28_0 : Value) (Y29_1 : Value) (Y30_2 : Value) (Y31_3 : Value) (Y32_4 : Value) (Y33_5 : Value) (Y34_6 : Value) (Y35_7 : Value) (Y36_8 : Value) (Y37_9 : Value) (Y38_10 : Value) (Y39_11 : Value) (Y40_12 : Value), Sat 105 [(17, Y40_12), (79, Y28_0), (80, Y29_1), (81, Y30_2), (82, Y31_3), (83, Y32_4), (84, Y33_5), (85, Y34_6), (86, Y35_7), (87, Y36_8), (88, Y37_9), (89, Y38_10), (90, Y39_11), (2, .pointer (some ⟨b1, 0, none⟩)), (4, .pointer (some ⟨b5, 0, none⟩)), (6, .pointer (some ⟨b17, 0, none⟩)), (10, .pointer (some ⟨b41, 0, none⟩)), (13, .int .i64 (([t184, t185, t186, t187] : List Int).getD ((w64 (((t21.getD t28.toNat []).getD x112.toNat 0) + 1)).tmod 4).toNat 0)), (14, .pointer (some ⟨b198, 0, none⟩)), (15, .pointer (some ⟨b200, 0, none⟩)), (16, .int .i64 (([t207, t208, t209, t210] : List Int).getD ((w64 (e193.position + 2)).tmod 4).toNat 0)), (40, .slice ((y25 t28.toNat).A) (t21.getD t28.toNat []).length ((y25 t28.toNat).c)), (41, .int .i64 ((t21.getD t28.toNat []).length : Int)), (42, .int .i64 x112)] a ∧ St w0 w (Box b1 28 [.slice A_d_Crossings d_Crossings.length c_d_Crossings, .int .i64 d_Circles] :: Box b5 28 [.slice none 0 0, .int .i64 0] :: Box b17 63 [.slice A11 t7.length c12, .slice A13 t8.length c14] :: Own T_GEnd 68 A11 c12 (fun _ => ()) t7 :: Own T_GEnd 68 A13 c14 (fun _ => ()) t8 :: Box b41 28 [.slice A37 out_111.length c38, .int .i64 t35] :: Own T_GCrossing 58 A37 c38 (fun _ => ()) out_111 :: Own (Ty.slice 2 (TInt .i64)) 43 A23 c24 y25 t21 :: Box b198 68 [.int .i64 e193.crossing, .int .i64 e193.position] :: Box b200 68 [.int .i64 e196.crossing, .int .i64 e196.position] :: L) ∧ (b 12 = true → Y40_12 = (.int .i64 (([t218, t219, t220, t221] : List Int).getD ((w64 (e196.position + 2)).tmod 4).toNat 0))) ∧ (b 0 = true → Y28_0 = (.pointer (some ⟨b1, 0, none⟩))) ∧ (b 1 = true → Y29_1 = (.slice A_d_Crossings d_Crossings.length c_d_Crossings)) ∧ (b 2 = true → Y30_2 = (.pointer (some ⟨b200, 0, none⟩))) ∧ (b 3 = true → Y31_3 = (.int .i64 e196.crossing)) ∧ (b 4 = true → Y32_4 = (.pointer (some (ea A_d_Crossings (e196.crossing.toNat * 5))))) ∧ (b 5 = true → Y33_5 = (.agg [.int .i64 e216.A, .int .i64 e216.B, .int .i64 e216.C, .int .i64 e216.D, .int .i64 e216.Sign].toArray)) ∧ (b 6 = true → Y34_6 = (.agg [.int .i64 t218, .int .i64 t219, .int .i64 t220, .int .i64 t221].toArray)) ∧ (b 7 = true → Y35_7 = (.pointer (some ⟨b200, 1, none⟩))) ∧ (b 8 = true → Y36_8 = (.int .i64 e196.position)) ∧ (b 9 = true → Y37_9 = (.int .i64 (w64 (e196.position + 2)))) ∧ (b 10 = true → Y38_10 = (.int .i64 ((w64 (e196.position + 2)).tmod 4))) ∧ (b 11 = true → Y39_11 = (.int .i64 (([t218, t219, t220, t221] : List Int).getD ((w64 (e196.position + 2)).tmod 4).toNat 0)))) ?_ ?_ ?_
          ·
           intro a hs
           obtain ⟨Y40_12, hs⟩ := hs.ext (d := 17) rfl
           obtain ⟨Y28_0, hs⟩ := hs.ext (d := 79) rfl
           obtain ⟨Y29_1, hs⟩ := hs.ext (d := 80) rfl
           obtain ⟨Y30_2, hs⟩ := hs.ext (d := 81) rfl
           obtain ⟨Y31_3, hs⟩ := hs.ext (d := 82) rfl
           obtain ⟨Y32_4, hs⟩ := hs.ext (d := 83) rfl
           obtain ⟨Y33_5, hs⟩ := hs.ext (d := 84) rfl
           obtain ⟨Y34_6, hs⟩ := hs.ext (d := 85) rfl
           obtain ⟨Y35_7, hs⟩ := hs.ext (d := 86) rfl
           obtain ⟨Y36_8, hs⟩ := hs.ext (d := 87) rfl
           obtain ⟨Y37_9, hs⟩ := hs.ext (d := 88) rfl
           obtain ⟨Y38_10, hs⟩ := hs.ext (d := 89) rfl
           obtain ⟨Y39_11, hs⟩ := hs.ext (d := 90) rfl
           exact ⟨Y28_0, Y29_1, Y30_2, Y31_3, Y32_4, Y33_5, Y34_6, Y35_7, Y36_8, Y37_9, Y38_10, Y39_11, Y40_12, hs.weak ⟨rfl, rfl, rfl, rfl, rfl, rfl, rfl, rfl, rfl, rfl, rfl, rfl, rfl, rfl, rfl, rfl, rfl, rfl, rfl, rfl, rfl, rfl, rfl, rfl, trivial⟩, (HS.drew.pick 10 [0, 1, 2, 3, 4, 5, 6, 7, 8, 9]), fun h => Bool.noConfusion h, fun h => Bool.noConfusion h, fun h => Bool.noConfusion h, fun h => Bool.noConfusion h, fun h => Bool.noConfusion h, fun h => Bool.noConfusion h, fun h => Bool.noConfusion h, fun h => Bool.noConfusion h, fun h => Bool.noConfusion h, fun h => Bool.noConfusion h, fun h => Bool.noConfusion h, fun h => Bool.noConfusion h, fun h => Bool.noConfusion h⟩
          ·
           intro j hj b a w
           refine exI fun Y28_0 => exI fun Y29_1 => exI fun Y30_2 => exI fun Y31_3 => exI fun Y32_4 => exI fun Y33_5 => exI fun Y34_6 => exI fun Y35_7 => exI fun Y36_8 => exI fun Y37_9 => exI fun Y38_10 => exI fun Y39_11 => exI fun Y40_12 => anI fun hs => anI fun HS => anI fun f12 => anI fun f0 => anI fun f1 => anI fun f2 => anI fun f3 => anI fun f4 => anI fun f5 => anI fun f6 => anI fun f7 => anI fun f8 => anI fun f9 => anI fun f10 => fun f11 hb hd hcl => ?_
           match j, hj with
           | 0, _ =>
            refine GO.at hs ?_
            refine GO.fld (⟨b1, 0, none⟩) rfl rfl fl28_0 rfl rfl ?_
            refine GO.fin (fun a hs => ?_)
            exact ⟨(.pointer (some ⟨b1, 0, none⟩)), _, _, _, _, _, _, _, _, _, _, _, _, by exact hs.setAt 1 rfl, HS, f12, fun _ => rfl, f1, f2, f3, f4, f5, f6, f7, f8, f9, f10, f11⟩
           | 1, _ =>
            have h0 : b 0 = true := hd 0 (by decide)
            obtain rfl := f0 h0
            refine GO.at hs ?_
            refine GO.ldBox (j := 0) HS rfl rfl rfl rfl na26 rfl ?_
            refine GO.fin (fun a hs => ?_)
            exact ⟨_, (.slice A_d_Crossings d_Crossings.length c_d_Crossings), _, _, _, _, _, _, _, _, _, _, _, by exact hs.setAt 2 rfl, HS, f12, f0, fun _ => rfl, f2, f3, f4, f5, f6, f7, f8, f9, f10, f11⟩
           | 2, _ =>
            refine GO.at hs ?_
            refine GO.fld (⟨b200, 0, none⟩) rfl rfl fl68_0 rfl rfl ?_
            refine GO.fin (fun a hs => ?_)
            exact ⟨_, _, (.pointer (some ⟨b200, 0, none⟩)), _, _, _, _, _, _, _, _, _, _, by exact hs.setAt 3 rfl, HS, f12, f0, f1, fun _ => rfl, f3, f4, f5, f6, f7, f8, f9, f10, f11⟩
           | 3, _ =>
            have h2 : b 2 = true := hd 2 (by decide)
            obtain rfl := f2 h2
            refine GO.at hs ?_
            refine GO.ldBox (j := 9) HS rfl rfl rfl rfl na2 rfl ?_
            refine GO.fin (fun a hs => ?_)
            exact ⟨_, _, _, (.int .i64 e196.crossing), _, _, _, _, _, _, _, _, _, by exact hs.setAt 4 rfl, HS, f12, f0, f1, f2, fun _ => rfl, f4, f5, f6, f7, f8, f9, f10, f11⟩
           | 4, _ =>
            have h1 : b 1 = true := hd 1 (by decide)
            obtain rfl := f1 h1
            have h3 : b 3 = true := hd 3 (by decide)
            obtain rfl := f3 h3
            refine GO.at hs ?_
            refine GO.ix rfl rfl rfl Try.underlying26 sz58 ((RdIn.drop 10 h_d_Crossings) _ HS).2.2.1 c215.1 c215.2 rfl ?_
            refine GO.fin (fun a hs => ?_)
            exact ⟨_, _, _, _, (.pointer (some (ea A_d_Crossings (e196.crossing.toNat * 5)))), _, _, _, _, _, _, _, _, by exact hs.setAt 5 rfl, HS, f12, f0, f1, f2, f3, fun _ => rfl, f5, f6, f7, f8, f9, f10, f11⟩
           | 5, _ =>
            have h4 : b 4 = true := hd 4 (by decide)
            obtain rfl := f4 h4
            refine GO.at hs ?_
            refine GO.ldRdA (T := T_GCrossing) (n := e196.crossing.toNat) HS (RdIn.drop 10 h_d_Crossings) rfl rfl (getD_eq (ltN c215) h217) ag58 rfl ?_
            refine GO.fin (fun a hs => ?_)
            exact ⟨_, _, _, _, _, (.agg [.int .i64 e216.A, .int .i64 e216.B, .int .i64 e216.C, .int .i64 e216.D, .int .i64 e216.Sign].toArray), _, _, _, _, _, _, _, by exact hs.setAt 6 rfl, HS, f12, f0, f1, f2, f3, f4, fun _ => rfl, f6, f7, f8, f9, f10, f11⟩
           | 6, _ =>
            have h5 : b 5 = true := hd 5 (by decide)
            obtain rfl := f5 h5
            refine GO.at hs ?_
            refine GO.fn rfl Try.func75 fok75.1 fok75.2 rfl rfl (impl_Crossing_ends.calls HS  h222) (fun _ wd223 ⟨h224, HS⟩ => ⟨_, h224, ?_⟩)
            refine GO.fin (fun a hs => ?_)
            exact ⟨_, _, _, _, _, _, (.agg [.int .i64 t218, .int .i64 t219, .int .i64 t220, .int .i64 t221].toArray), _, _, _, _, _, _, by exact hs.setAt 7 rfl, HS, f12, f0, f1, f2, f3, f4, f5, fun _ => rfl, f7, f8, f9, f10, f11⟩
           | 7, _ =>
            refine GO.at hs ?_
            refine GO.fld (⟨b200, 1, none⟩) rfl rfl fl68_1 rfl rfl ?_
            refine GO.fin (fun a hs => ?_)
            exact ⟨_, _, _, _, _, _, _, (.pointer (some ⟨b200, 1, none⟩)), _, _, _, _, _, by exact hs.setAt 8 rfl, HS, f12, f0, f1, f2, f3, f4, f5, f6, fun _ => rfl, f8, f9, f10, f11⟩
           | 8, _ =>
            have h7 : b 7 = true := hd 7 (by decide)
            obtain rfl := f7 h7
            refine GO.at hs ?_
            refine GO.ldBox (j := 9) HS rfl rfl rfl rfl na2 rfl ?_
            refine GO.fin (fun a hs => ?_)
            exact ⟨_, _, _, _, _, _, _, _, (.int .i64 e196.position), _, _, _, _, by exact hs.setAt 9 rfl, HS, f12, f0, f1, f2, f3, f4, f5, f6, f7, fun _ => rfl, f9, f10, f11⟩
           | 9, _ =>
            have h8 : b 8 = true := hd 8 (by decide)
            obtain rfl := f8 h8
            refine GO.at hs ?_
            refine GO.add rfl rfl rfl rfl ?_
            refine GO.fin (fun a hs => ?_)
            exact ⟨_, _, _, _, _, _, _, _, _, (.int .i64 (w64 (e196.position + 2))), _, _, _, by exact hs.setAt 10 rfl, HS, f12, f0, f1, f2, f3, f4, f5, f6, f7, f8, fun _ => rfl, f10, f11⟩
           | 10, _ =>
            have h9 : b 9 = true := hd 9 (by decide)
            obtain rfl := f9 h9
            refine GO.at hs ?_
            refine GO.rem rfl rfl rfl (by decide) rfl ?_
            refine GO.fin (fun a hs => ?_)
            exact ⟨_, _, _, _, _, _, _, _, _, _, (.int .i64 ((w64 (e196.position + 2)).tmod 4)), _, _, by exact hs.setAt 11 rfl, HS, f12, f0, f1, f2, f3, f4, f5, f6, f7, f8, f9, fun _ => rfl, f11⟩
           | 11, _ =>
            have h6 : b 6 = true := hd 6 (by decide)
            obtain rfl := f6 h6
            have h10 : b 10 = true := hd 10 (by decide)
            obtain rfl := f10 h10
            refine GO.at hs ?_
            refine GO.ixArr ([t218, t219, t220, t221] : List Int) rfl rfl rfl Try.underlying93 Try.underlying2 sz2 rfl c225.1 c225.2 rfl ?_
            refine GO.fin (fun a hs => ?_)
            exact ⟨_, _, _, _, _, _, _, _, _, _, _, (.int .i64 (([t218, t219, t220, t221] : List Int).getD ((w64 (e196.position + 2)).tmod 4).toNat 0)), _, by exact hs.setAt 12 rfl, HS, f12, f0, f1, f2, f3, f4, f5, f6, f7, f8, f9, f10, fun _ => rfl⟩
           | 12, _ =>
            have h11 : b 11 = true := hd 11 (by decide)
            obtain rfl := f11 h11
            refine GO.at hs ?_
            refine GO.assign rfl rfl rfl ?_
            refine GO.fin (fun a hs => ?_)
            exact ⟨_, _, _, _, _, _, _, _, _, _, _, _, (.int .i64 (([t218, t219, t220, t221] : List Int).getD ((w64 (e196.position + 2)).tmod 4).toNat 0)), by exact hs.setAt 0 rfl, HS, fun _ => rfl, f0, f1, f2, f3, f4, f5, f6, f7, f8, f9, f10, f11⟩
           | k + 13, hj => exact absurd hj (Nat.not_lt.2 (Nat.le_add_left 13 k))
          ·
           intro b a w hall
           refine exI fun Y28_0 => exI fun Y29_1 => exI fun Y30_2 => exI fun Y31_3 => exI fun Y32_4 => exI fun Y33_5 => exI fun Y34_6 => exI fun Y35_7 => exI fun Y36_8 => exI fun Y37_9 => exI fun Y38_10 => exI fun Y39_11 => exI fun Y40_12 => anI fun hs => anI fun HS => anI fun f12 => anI fun f0 => anI fun f1 => anI fun f2 => anI fun f3 => anI fun f4 => anI fun f5 => anI fun f6 => anI fun f7 => anI fun f8 => anI fun f9 => anI fun f10 => fun f11 => ?_
           obtain rfl := f12 (hall 12 (by decide))
           obtain rfl := f0 (hall 0 (by decide))
           obtain rfl := f1 (hall 1 (by decide))
           obtain rfl := f2 (hall 2 (by decide))
           obtain rfl := f3 (hall 3 (by decide))
           obtain rfl := f4 (hall 4 (by decide))
           obtain rfl := f5 (hall 5 (by decide))
           obtain rfl := f6 (hall 6 (by decide))
           obtain rfl := f7 (hall 7 (by decide))
           obtain rfl := f8 (hall 8 (by decide))
           obtain rfl := f9 (hall 9 (by decide))
           obtain rfl := f10 (hall 10 (by decide))
           obtain rfl := f11 (hall 11 (by decide))
           refine G.at hs ?_
           refine G.seq ?_
           obtain ⟨t226, h227, H⟩ := Option.bind_eq_some_iff.1 H
           obtain ⟨t230, h231, H⟩ := Option.bind_eq_some_iff.1 H
           obtain ⟨c232, H⟩ := ite_none H
           refine G.regionAny mixed (by decide) (fun b a w => ∃ (Y41_0 : Value) (Y42_1 : Value) (Y43_2 : Value) (Y44_3 : Value) (Y45_4 : Value) (Y46_5 : Value) (O47_17 : HObj), Sat 105 [(91, Y41_0), (92, Y42_1), (93, Y43_2), (94, Y44_3), (95, Y45_4), (96, Y46_5), (2, .pointer (some ⟨b1, 0, none⟩)), (4, .pointer (some ⟨b5, 0, none⟩)), (6, .pointer (some ⟨b17, 0, none⟩)), (10, .pointer (some ⟨b41, 0, none⟩)), (13, .int .i64 (([t184, t185, t186, t187] : List Int).getD ((w64 (((t21.getD t28.toNat []).getD x112.toNat 0) + 1)).tmod 4).toNat 0)), (14, .pointer (some ⟨b198, 0, none⟩)), (15, .pointer (some ⟨b200, 0, none⟩)), (16, .int .i64 (([t207, t208, t209, t210] : List Int).getD ((w64 (e193.position + 2)).tmod 4).toNat 0)), (17, .int .i64 (([t218, t219, t220, t221] : List Int).getD ((w64 (e196.position + 2)).tmod 4).toNat 0)), (40, .slice ((y25 t28.toNat).A) (t21.getD t28.toNat []).length ((y25 t28.toNat).c)), (41, .int .i64 ((t21.getD t28.toNat []).length : Int)), (42, .int .i64 x112)] a ∧ St w0 w (Box b1 28 [.slice A_d_Crossings d_Crossings.length c_d_Crossings, .int .i64 d_Circles] :: Box b5 28 [.slice none 0 0, .int .i64 0] :: Box b17 63 [.slice A11 t7.length c12, .slice A13 t8.length c14] :: Own T_GEnd 68 A11 c12 (fun _ => ()) t7 :: Own T_GEnd 68 A13 c14 (fun _ => ()) t8 :: Box b41 28 [.slice A37 out_111.length c38, .int .i64 t35] :: O47_17 :: Own (Ty.slice 2 (TInt .i64)) 43 A23 c24 y25 t21 :: Box b198 68 [.int .i64 e193.crossing, .int .i64 e193.position] :: Box b200 68 [.int .i64 e196.crossing, .int .i64 e196.position] :: L) ∧ (b 0 = true → Y41_0 = (.agg [.slice A37 out_111.length c38, .int .i64 t35].toArray)) ∧ (b 1 = true → Y42_1 = (.agg [.int .i64 e196.crossing, .int .i64 e196.position].toArray)) ∧ (b 2 = true → Y43_2 = (.int .i64 t226)) ∧ (b 3 = true → Y44_3 = (.int .i64 (([t207, t208, t209, t210] : List Int).getD ((w64 (e193.position + 2)).tmod 4).toNat 0))) ∧ (b 4 = true → Y45_4 = (.int .i64 (([t184, t185, t186, t187] : List Int).getD ((w64 (((t21.getD t28.toNat []).getD x112.toNat 0) + 1)).tmod 4).toNat 0))) ∧ (b 5 = true → Y46_5 = (.tuple #[])) ∧ (b 5 = false → O47_17 = Own T_GCrossing 58 A37 c38 (fun _ => ()) out_111) ∧ (b 5 = true → O47_17 = Own T_GCrossing 58 A37 c38 (fun _ => ()) t230)) ?_ ?_ ?_
           ·
            intro a hs
            obtain ⟨Y41_0, hs⟩ := hs.ext (d := 91) rfl
            obtain ⟨Y42_1, hs⟩ := hs.ext (d := 92) rfl
            obtain ⟨Y43_2, hs⟩ := hs.ext (d := 93) rfl
            obtain ⟨Y44_3, hs⟩ := hs.ext (d := 94) rfl
            obtain ⟨Y45_4, hs⟩ := hs.ext (d := 95) rfl
            obtain ⟨Y46_5, hs⟩ := hs.ext (d := 96) rfl
            exact ⟨Y41_0, Y42_1, Y43_2, Y44_3, Y45_4, Y46_5, Own T_GCrossing 58 A37 c38 (fun _ => ()) out_111, hs.weak ⟨rfl, rfl, rfl, rfl, rfl, rfl, rfl, rfl, rfl, rfl, rfl, rfl, rfl, rfl, rfl, rfl, rfl, rfl, trivial⟩, (HS.drew.pick 10 [0, 1, 2, 3, 4, 5, 6, 7, 8, 9]), fun h => Bool.noConfusion h, fun h => Bool.noConfusion h, fun h => Bool.noConfusion h, fun h => Bool.noConfusion h, fun h => Bool.noConfusion h, fun h => Bool.noConfusion h, fun _ => rfl, fun h => Bool.noConfusion h⟩
           ·
            intro j hj b a w
            refine exI fun Y41_0 => exI fun Y42_1 => exI fun Y43_2 => exI fun Y44_3 => exI fun Y45_4 => exI fun Y46_5 => exI fun O47_17 => anI fun hs => anI fun HS => anI fun f0 => anI fun f1 => anI fun f2 => anI fun f3 => anI fun f4 => anI fun f5 => anI fun o17_0 => fun o17_1 hb hd hcl => ?_
            match j, hj with
            | 0, _ =>
             refine GO.at hs ?_
             refine GO.ldBoxA (j := 5) ([.slice A37 out_111.length c38, .int .i64 t35]) HS rfl rfl rfl rfl ag28 rfl ?_
             refine GO.fin (fun a hs => ?_)
             exact ⟨(.agg [.slice A37 out_111.length c38, .int .i64 t35].toArray), _, _, _, _, _, _, by exact hs.setAt 0 rfl, HS, fun _ => rfl, f1, f2, f3, f4, f5, o17_0, o17_1⟩
            | 1, _ =>
             refine GO.at hs ?_
             refine GO.ldBoxA (j := 9) ([.int .i64 e196.crossing, .int .i64 e196.position]) HS rfl rfl rfl rfl ag68 rfl ?_
             refine GO.fin (fun a hs => ?_)
             exact ⟨_, (.agg [.int .i64 e196.crossing, .int .i64 e196.position].toArray), _, _, _, _, _, by exact hs.setAt 1 rfl, HS, f0, fun _ => rfl, f2, f3, f4, f5, o17_0, o17_1⟩
            | 2, _ =>
             have h1 : b 1 = true := hd 1 (by decide)
             obtain rfl := f1 h1
             refine GO.at hs ?_
             refine GO.fn rfl Try.func77 fok77.1 fok77.2 rfl rfl (impl_passOf.calls HS  h227) (fun _ wd228 ⟨h229, HS⟩ => ⟨_, h229, ?_⟩)
             refine GO.fin (fun a hs => ?_)
             exact ⟨_, _, (.int .i64 t226), _, _, _, _, by exact hs.setAt 2 rfl, HS, f0, f1, fun _ => rfl, f3, f4, f5, o17_0, o17_1⟩
            | 3, _ =>
             refine GO.at hs ?_
             refine GO.move rfl rfl rfl ?_
             refine GO.fin (fun a hs => ?_)
             exact ⟨_, _, _, (.int .i64 (([t207, t208, t209, t210] : List Int).getD ((w64 (e193.position + 2)).tmod 4).toNat 0)), _, _, _, by exact hs.setAt 3 rfl, HS, f0, f1, f2, fun _ => rfl, f4, f5, o17_0, o17_1⟩
            | 4, _ =>
             refine GO.at hs ?_
             refine GO.move rfl rfl rfl ?_
             refine GO.fin (fun a hs => ?_)
             exact ⟨_, _, _, _, (.int .i64 (([t184, t185, t186, t187] : List Int).getD ((w64 (((t21.getD t28.toNat []).getD x112.toNat 0) + 1)).tmod 4).toNat 0)), _, _, by exact hs.setAt 4 rfl, HS, f0, f1, f2, f3, fun _ => rfl, f5, o17_0, o17_1⟩
            | 5, _ =>
             have h0 : b 0 = true := hd 0 (by decide)
             obtain rfl := f0 h0
             have h2 : b 2 = true := hd 2 (by decide)
             obtain rfl := f2 h2
             have h3 : b 3 = true := hd 3 (by decide)
             obtain rfl := f3 h3
             have h4 : b 4 = true := hd 4 (by decide)
             obtain rfl := f4 h4
             obtain rfl := o17_0 hb
             refine GO.at hs ?_
             replace HS := HS.pick 10 [6, 0, 1, 2, 3, 4, 5, 7, 8, 9]
             refine GO.fn rfl Try.func76 fok76.1 fok76.2 rfl rfl (impl_Diagram_through.calls HS  h231) (fun _ wd233 ⟨h234, HS⟩ => ⟨_, h234, ?_⟩)
             refine GO.fin (fun a hs => ?_)
             exact ⟨_, _, _, _, _, (.tuple #[]), Own T_GCrossing 58 A37 c38 (fun _ => ()) t230, by exact hs.setAt 5 rfl, HS.pick 10 [1, 2, 3, 4, 5, 6, 0, 7, 8, 9], f0, f1, f2, f3, f4, fun _ => rfl, fun h => Bool.noConfusion h, fun _ => rfl⟩
            | k + 6, hj => exact absurd hj (Nat.not_lt.2 (Nat.le_add_left 6 k))
           ·
            intro b a w hall
            refine exI fun Y41_0 => exI fun Y42_1 => exI fun Y43_2 => exI fun Y44_3 => exI fun Y45_4 => exI fun Y46_5 => exI fun O47_17 => anI fun hs => anI fun HS => anI fun f0 => anI fun f1 => anI fun f2 => anI fun f3 => anI fun f4 => anI fun f5 => anI fun o17_0 => fun o17_1 => ?_
            obtain rfl := f0 (hall 0 (by decide))
            obtain rfl := f1 (hall 1 (by decide))
            obtain rfl := f2 (hall 2 (by decide))
            obtain rfl := f3 (hall 3 (by decide))
            obtain rfl := f4 (hall 4 (by decide))
            obtain rfl := f5 (hall 5 (by decide))
            obtain rfl := o17_1 (hall 5 (by decide))
            refine G.at hs ?_
            replace HS := HS.boxEq (j := 5) (cs' := [.slice A37 t230.length c38, .int .i64 t35]) rfl (by simp only [List.length_set, c232] <;> rfl)
            obtain ⟨t235, h236, H⟩ := Option.bind_eq_some_iff.1 H
            obtain ⟨t239, h240, H⟩ := Option.bind_eq_some_iff.1 H
            obtain ⟨c241, H⟩ := ite_none H
            refine G.regionAny mixed (by decide) (fun b a w => ∃ (Y48_0 : Value) (Y49_1 : Value) (Y50_2 : Value) (Y51_3 : Value) (Y52_4 : Value) (Y53_5 : Value) (O54_17 : HObj), Sat 105 [(97, Y48_0), (98, Y49_1), (99, Y50_2), (100, Y51_3), (101, Y52_4), (102, Y53_5), (2, .pointer (some ⟨b1, 0, none⟩)), (4, .pointer (some ⟨b5, 0, none⟩)), (6, .pointer (some ⟨b17, 0, none⟩)), (10, .pointer (some ⟨b41, 0, none⟩)), (13, .int .i64 (([t184, t185, t186, t187] : List Int).getD ((w64 (((t21.getD t28.toNat []).getD x112.toNat 0) + 1)).tmod 4).toNat 0)), (14, .pointer (some ⟨b198, 0, none⟩)), (17, .int .i64 (([t218, t219, t220, t221] : List Int).getD ((w64 (e196.position + 2)).tmod 4).toNat 0)), (40, .slice ((y25 t28.toNat).A) (t21.getD t28.toNat []).length ((y25 t28.toNat).c)), (41, .int .i64 ((t21.getD t28.toNat []).length : Int)), (42, .int .i64 x112)] a ∧ St w0 w (Box b1 28 [.slice A_d_Crossings d_Crossings.length c_d_Crossings, .int .i64 d_Circles] :: Box b5 28 [.slice none 0 0, .int .i64 0] :: Box b17 63 [.slice A11 t7.length c12, .slice A13 t8.length c14] :: Own T_GEnd 68 A11 c12 (fun _ => ()) t7 :: Own T_GEnd 68 A13 c14 (fun _ => ()) t8 :: Box b41 28 [.slice A37 t230.length c38, .int .i64 t35] :: O54_17 :: Own (Ty.slice 2 (TInt .i64)) 43 A23 c24 y25 t21 :: Box b198 68 [.int .i64 e193.crossing, .int .i64 e193.position] :: Box b200 68 [.int .i64 e196.crossing, .int .i64 e196.position] :: L) ∧ (b 0 = true → Y48_0 = (.agg [.slice A37 t230.length c38, .int .i64 t35].toArray)) ∧ (b 1 = true → Y49_1 = (.agg [.int .i64 e193.crossing, .int .i64 e193.position].toArray)) ∧ (b 2 = true → Y50_2 = (.int .i64 t235)) ∧ (b 3 = true → Y51_3 = (.int .i64 (([t184, t185, t186, t187] : List Int).getD ((w64 (((t21.getD t28.toNat []).getD x112.toNat 0) + 1)).tmod 4).toNat 0))) ∧ (b 4 = true → Y52_4 = (.int .i64 (([t218, t219, t220, t221] : List Int).getD ((w64 (e196.position + 2)).tmod 4).toNat 0))) ∧ (b 5 = true → Y53_5 = (.tuple #[])) ∧ (b 5 = false → O54_17 = Own T_GCrossing 58 A37 c38 (fun _ => ()) t230) ∧ (b 5 = true → O54_17 = Own T_GCrossing 58 A37 c38 (fun _ => ()) t239)) ?_ ?_ ?_
            ·
             intro a hs
             obtain ⟨Y48_0, hs⟩ := hs.ext (d := 97) rfl
             obtain ⟨Y49_1, hs⟩ := hs.ext (d := 98) rfl
             obtain ⟨Y50_2, hs⟩ := hs.ext (d := 99) rfl
             obtain ⟨Y51_3, hs⟩ := hs.ext (d := 100) rfl
             obtain ⟨Y52_4, hs⟩ := hs.ext (d := 101) rfl
             obtain ⟨Y53_5, hs⟩ := hs.ext (d := 102) rfl
             exact ⟨Y48_0, Y49_1, Y50_2, Y51_3, Y52_4, Y53_5, Own T_GCrossing 58 A37 c38 (fun _ => ()) t230, hs.weak ⟨rfl, rfl, rfl, rfl, rfl, rfl, rfl, rfl, rfl, rfl, rfl, rfl, rfl, rfl, rfl, rfl, trivial⟩, (HS.drew.pick 10 [0, 1, 2, 3, 4, 5, 6, 7, 8, 9]), fun h => Bool.noConfusion h, fun h => Bool.noConfusion h, fun h => Bool.noConfusion h, fun h => Bool.noConfusion h, fun h => Bool.noConfusion h, fun h => Bool.noConfusion h, fun _ => rfl, fun h => Bool.noConfusion h⟩
            ·
             intro j hj b a w
             refine exI fun Y48_0 => exI fun Y49_1 => exI fun Y50_2 => exI fun Y51_3 => exI fun Y52_4 => exI fun Y53_5 => exI fun O54_17 => anI fun hs => anI fun HS => anI fun f0 => anI fun f1 => anI fun f2 => anI fun f3 => anI fun f4 => anI fun f5 => anI fun o17_0 => fun o17_1 hb hd hcl => ?_
             match j, hj with
             | 0, _ =>
              refine GO.at hs ?_
              refine GO.ldBoxA (j := 5) ([.slice A37 t230.length c38, .int .i64 t35]) HS rfl rfl rfl rfl ag28 rfl ?_
              refine GO.fin (fun a hs => ?_)
              exact ⟨(.agg [.slice A37 t230.length c38, .int .i64 t35].toArray), _, _, _, _, _, _, by exact hs.setAt 0 rfl, HS, fun _ => rfl, f1, f2, f3, f4, f5, o17_0, o17_1⟩
             | 1, _ =>
              refine GO.at hs ?_
              refine GO.ldBoxA (j := 8) ([.int .i64 e193.crossing, .int .i64 e193.position]) HS rfl rfl rfl rfl ag68 rfl ?_
              refine GO.fin (fun a hs => ?_)
              exact ⟨_, (.agg [.int .i64 e193.crossing, .int .i64 e193.position].toArray), _, _, _, _, _, by exact hs.setAt 1 rfl, HS, f0, fun _ => rfl, f2, f3, f4, f5, o17_0, o17_1⟩
             | 2, _ =>
              have h1 : b 1 = true := hd 1 (by decide)
              obtain rfl := f1 h1
              refine GO.at hs ?_
              refine GO.fn rfl Try.func77 fok77.1 fok77.2 rfl rfl (impl_passOf.calls HS  h236) (fun _ wd237 ⟨h238, HS⟩ => ⟨_, h238, ?_⟩)
              refine GO.fin (fun a hs => ?_)
              exact ⟨_, _, (.int .i64 t235), _, _, _, _, by exact hs.setAt 2 rfl, HS, f0, f1, fun _ => rfl, f3, f4, f5, o17_0, o17_1⟩
             | 3, _ =>
              refine GO.at hs ?_
              refine GO.move rfl rfl rfl ?_
              refine GO.fin (fun a hs => ?_)
              exact ⟨_, _, _, (.int .i64 (([t184, t185, t186, t187] : List Int).getD ((w64 (((t21.getD t28.toNat []).getD x112.toNat 0) + 1)).tmod 4).toNat 0)), _, _, _, by exact hs.setAt 3 rfl, HS, f0, f1, f2, fun _ => rfl, f4, f5, o17_0, o17_1⟩
             | 4, _ =>
              refine GO.at hs ?_
              refine GO.move rfl rfl rfl ?_
              refine GO.fin (fun a hs => ?_)
              exact ⟨_, _, _, _, (.int .i64 (([t218, t219, t220, t221] : List Int).getD ((w64 (e196.position + 2)).tmod 4).toNat 0)), _, _, by exact hs.setAt 4 rfl, HS, f0, f1, f2, f3, fun _ => rfl, f5, o17_0, o17_1⟩
             | 5, _ =>
              have h0 : b 0 = true := hd 0 (by decide)
              obtain rfl := f0 h0
              have h2 : b 2 = true := hd 2 (by decide)
              obtain rfl := f2 h2
              have h3 : b 3 = true := hd 3 (by decide)
              obtain rfl := f3 h3
              have h4 : b 4 = true := hd 4 (by decide)
              obtain rfl := f4 h4
              obtain rfl := o17_0 hb
              refine GO.at hs ?_
              replace HS := HS.pick 10 [6, 0, 1, 2, 3, 4, 5, 7, 8, 9]
              refine GO.fn rfl Try.func76 fok76.1 fok76.2 rfl rfl (impl_Diagram_through.calls HS  h240) (fun _ wd242 ⟨h243, HS⟩ => ⟨_, h243, ?_⟩)
              refine GO.fin (fun a hs => ?_)
              exact ⟨_, _, _, _, _, (.tuple #[]), Own T_GCrossing 58 A37 c38 (fun _ => ()) t239, by exact hs.setAt 5 rfl, HS.pick 10 [1, 2, 3, 4, 5, 6, 0, 7, 8, 9], f0, f1, f2, f3, f4, fun _ => rfl, fun h => Bool.noConfusion h, fun _ => rfl⟩
             | k + 6, hj => exact absurd hj (Nat.not_lt.2 (Nat.le_add_left 6 k))
            ·
             intro b a w hall
             refine exI fun Y48_0 => exI fun Y49_1 => exI fun Y50_2 => exI fun Y51_3 => exI fun Y52_4 => exI fun Y53_5 => exI fun O54_17 => anI fun hs => anI fun HS => anI fun f0 => anI fun f1 => anI fun f2 => anI fun f3 => anI fun f4 => anI fun f5 => anI fun o17_0 => fun o17_1 => ?_
             obtain rfl := f0 (hall 0 (by decide))
             obtain rfl := f1 (hall 1 (by decide))
             obtain rfl := f2 (hall 2 (by decide))
             obtain rfl := f3 (hall 3 (by decide))
             obtain rfl := f4 (hall 4 (by decide))
             obtain rfl := f5 (hall 5 (by decide))
             obtain rfl := o17_1 (hall 5 (by decide))
             refine G.at hs ?_
             replace HS := HS.boxEq (j := 5) (cs' := [.slice A37 t239.length c38, .int .i64 t35]) rfl (by simp only [List.length_set, c241] <;> rfl)
             refine G.blockEnd ?_
             refine G.region ?_
             refine GO.add rfl rfl rfl rfl ?_
             refine GO.move rfl rfl rfl ?_
             refine GO.nil ?_
             refine G.again ?_
             refine G.weak ?_ (ih_l1 n_l1 (Nat.lt_succ_of_le (Nat.le_refl _)) (Nat.le_of_succ_le hm_l1) _ _ _ H (HS.pick 10 [0, 1, 2, 3, 4, 5, 6, 7]))
             exact ⟨rfl, rfl, rfl, rfl, rfl, rfl, rfl, trivial⟩
       ·
        refine G.noB rfl (decide_eq_false c179) ?_
        refine G.exit rfl ?_
        refine G.seq ?_
        refine G.region ?_
        refine GO.ldBoxA (j := 5) ([.slice A37 out_111.length c38, .int .i64 t35]) HS rfl rfl rfl rfl ag28 rfl ?_
        refine GO.stBox (j := 1) (vs := [.slice A37 out_111.length c38, .int .i64 t35]) ([.slice A37 out_111.length c38, .int .i64 t35]) HS rfl rfl rfl rfl rfl (htA ag28) rfl rfl rfl ?_; intro wd244 HS
        refine GO.assign rfl rfl rfl ?_
        refine GO.nil ?_
        obtain ⟨rfl, rfl, rfl⟩ := some3 H
        exact G.ret2 _ _ Try.func26 rfl (Res1.boxA (j := 1) (vs := [.slice A37 out_111.length c38, .int .i64 t35]) HS rfl rfl rfl ag28) rfl ⟨_, _, rfl, (HS.pick 8 [6])⟩
    refine G.weak ?_ (at_l1 K (Nat.le_refl _) _ _ _ H (HS.pick 9 [8, 7, 4, 5, 6, 0, 1, 3]))
    exact ⟨rfl, rfl, rfl, rfl, rfl, rfl, rfl, trivial⟩
  ·
   refine G.yesB rfl (congrArg Bool.not (bnot_of c20)) ?_
   refine G.seq ?_
   refine G.region ?_
   refine GO.buildV (.agg [.slice none 0 0, .int .i64 0].toArray) rfl rfl (fun _ => by kernel_rfl) rfl ?_
   refine GO.stBox (j := 3) (vs := [.slice none 0 0, .int .i64 0]) ([.slice none 0 0, .int .i64 0]) HS rfl rfl rfl rfl rfl (htA ag28) rfl rfl rfl ?_; intro wd245 HS
   refine GO.assign rfl rfl rfl ?_
   refine GO.nil ?_
   replace HS := HS.nilRow T_GCrossing 58 (fun _ => ())
   obtain ⟨rfl, rfl, rfl⟩ := some3 H
   exact G.ret2 _ _ Try.func26 rfl (Res1.boxA (j := 4) (vs := [.slice none 0 0, .int .i64 0]) HS rfl rfl rfl ag28) rfl ⟨_, _, rfl, (HS.pick 7 [0])⟩

set_option maxRecDepth 20000 in
set_option maxHeartbeats 40000000 in
theorem laws_eqCrossing.calls {w0 w : World} {L : List HObj} {a_A : Int} {a_B : Int} {a_C : Int} {a_D : Int} {a_Sign : Int} {b_A : Int} {b_B : Int} {b_C : Int} {b_D : Int} {b_Sign : Int} {r1 : Bool} (HS : St w0 w (L)) (H : laws_eqCrossing.f a_A a_B a_C a_D a_Sign b_A b_B b_C b_D b_Sign = some r1) :
    Calls Try.prog 114 #[.agg [.int .i64 a_A, .int .i64 a_B, .int .i64 a_C, .int .i64 a_D, .int .i64 a_Sign].toArray, .agg [.int .i64 b_A, .int .i64 b_B, .int .i64 b_C, .int .i64 b_D, .int .i64 b_Sign].toArray] w (laws_eqCrossing.post w0 L a_A a_B a_C a_D a_Sign b_A b_B b_C b_D b_Sign r1) := by
  unfold laws_eqCrossing.f at H
  refine Calls.of_G Try.func114 rfl rfl rfl ?_
  refine G.seq ?_
  refine G.region ?_
  refine GO.box (cs := [.int .i64 a_A, .int .i64 a_B, .int .i64 a_C, .int .i64 a_D, .int .i64 a_Sign]) HS rfl rfl rfl rfl ?_; intro b1 wd2 HS
  refine GO.box (cs := [.int .i64 b_A, .int .i64 b_B, .int .i64 b_C, .int .i64 b_D, .int .i64 b_Sign]) HS rfl rfl rfl rfl ?_; intro b3 wd4 HS
  refine GO.assign rfl rfl rfl ?_
  refine GO.nil ?_
  refine G.seq ?_
  refine G.seq ?_
  refine G.region ?_
  refine GO.fld (⟨b1, 0, none⟩) rfl rfl fl58_0 rfl rfl ?_
  refine GO.ldBox (j := 1) HS rfl rfl rfl rfl na2 rfl ?_
  refine GO.fld (⟨b3, 0, none⟩) rfl rfl fl58_0 rfl rfl ?_
  refine GO.ldBox (j := 0) HS rfl rfl rfl rfl na2 rfl ?_
  refine GO.neq rfl rfl rfl rfl ?_
  refine GO.nil ?_
  rcases ite_elim H with ⟨c5, H⟩ | ⟨c5, H⟩
  ·
   refine G.noB rfl (congrArg Bool.not (decide_eq_true c5)) ?_
   refine G.skip ?_
   refine G.seq ?_
   refine G.seq ?_
   refine G.region ?_
   refine GO.fld (⟨b1, 1, none⟩) rfl rfl fl58_1 rfl rfl ?_
   refine GO.ldBox (j := 1) HS rfl rfl rfl rfl na2 rfl ?_
   refine GO.fld (⟨b3, 1, none⟩) rfl rfl fl58_1 rfl rfl ?_
   refine GO.ldBox (j := 0) HS rfl rfl rfl rfl na2 rfl ?_
   refine GO.neq rfl rfl rfl rfl ?_
   refine GO.nil ?_
   rcases ite_elim H with ⟨c6, H⟩ | ⟨c6, H⟩
   ·
    refine G.noB rfl (congrArg Bool.not (decide_eq_true c6)) ?_
    refine G.skip ?_
    refine G.seq ?_
    refine G.seq ?_
    refine G.region ?_
    refine GO.fld (⟨b1, 2, none⟩) rfl rfl fl58_2 rfl rfl ?_
    refine GO.ldBox (j := 1) HS rfl rfl rfl rfl na2 rfl ?_
    refine GO.fld (⟨b3, 2, none⟩) rfl rfl fl58_2 rfl rfl ?_
    refine GO.ldBox (j := 0) HS rfl rfl rfl rfl na2 rfl ?_
    refine GO.neq rfl rfl rfl rfl ?_
    refine GO.nil ?_
    rcases ite_elim H with ⟨c7, H⟩ | ⟨c7, H⟩
    ·
     refine G.noB rfl (congrArg Bool.not (decide_eq_true c7)) ?_
     refine G.skip ?_
     refine G.seq ?_
     refine G.seq ?_
     refine G.region ?_
     refine GO.fld (⟨b1, 3, none⟩) rfl rfl fl58_3 rfl rfl ?_
     refine GO.ldBox (j := 1) HS rfl rfl rfl rfl na2 rfl ?_
     refine GO.fld (⟨b3, 3, none⟩) rfl rfl fl58_3 rfl rfl ?_
     refine GO.ldBox (j := 0) HS rfl rfl rfl rfl na2 rfl ?_
     refine GO.neq rfl rfl rfl rfl ?_
     refine GO.nil ?_
     rcases ite_elim H with ⟨c8, H⟩ | ⟨c8, H⟩
     ·
      refine G.noB rfl (congrArg Bool.not (decide_eq_true c8)) ?_
      refine G.skip ?_
      refine G.seq ?_
      refine G.seq ?_
      refine G.region ?_
      refine GO.fld (⟨b1, 4, none⟩) rfl rfl fl58_4 rfl rfl ?_
      refine GO.ldBox (j := 1) HS rfl rfl rfl rfl na2 rfl ?_
      refine GO.fld (⟨b3, 4, none⟩) rfl rfl fl58_4 rfl rfl ?_
      refine GO.ldBox (j := 0) HS rfl rfl rfl rfl na2 rfl ?_
      refine GO.neq rfl rfl rfl rfl ?_
      refine GO.nil ?_
      rcases ite_elim H with ⟨c9, H⟩ | ⟨c9, H⟩
      ·
       refine G.noB rfl (congrArg Bool.not (decide_eq_true c9)) ?_
       refine G.skip ?_
       refine G.seq ?_
       refine G.region ?_
       refine GO.assign rfl rfl rfl ?_
       refine GO.nil ?_
       obtain rfl := Option.some.inj H
       exact G.ret1 _ Try.func114 rfl rfl ⟨rfl, (HS.pick 2 [])⟩
      ·
       refine G.yesB rfl (congrArg Bool.not (decide_eq_false c9)) ?_
       refine G.seq ?_
       refine G.region ?_
       refine GO.assign rfl rfl rfl ?_
       refine GO.nil ?_
       obtain rfl := Option.some.inj H
       exact G.ret1 _ Try.func114 rfl rfl ⟨rfl, (HS.pick 2 [])⟩
     ·
      refine G.yesB rfl (congrArg Bool.not (decide_eq_false c8)) ?_
      refine G.seq ?_
      refine G.region ?_
      refine GO.assign rfl rfl rfl ?_
      refine GO.nil ?_
      obtain rfl := Option.some.inj H
      exact G.ret1 _ Try.func114 rfl rfl ⟨rfl, (HS.pick 2 [])⟩
    ·
     refine G.yesB rfl (congrArg Bool.not (decide_eq_false c7)) ?_
     refine G.seq ?_
     refine G.region ?_
     refine GO.assign rfl rfl rfl ?_
     refine GO.nil ?_
     obtain rfl := Option.some.inj H
     exact G.ret1 _ Try.func114 rfl rfl ⟨rfl, (HS.pick 2 [])⟩
   ·
    refine G.yesB rfl (congrArg Bool.not (decide_eq_false c6)) ?_
    refine G.seq ?_
    refine G.region ?_
    refine GO.assign rfl rfl rfl ?_
    refine GO.nil ?_
    obtain rfl := Option.some.inj H
    exact G.ret1 _ Try.func114 rfl rfl ⟨rfl, (HS.pick 2 [])⟩
  ·
   refine G.yesB rfl (congrArg Bool.not (decide_eq_false c5)) ?_
   refine G.seq ?_
   refine G.region ?_
   refine GO.assign rfl rfl rfl ?_
   refine GO.nil ?_
   obtain rfl := Option.some.inj H
   exact G.ret1 _ Try.func114 rfl rfl ⟨rfl, (HS.pick 2 [])⟩

set_option maxRecDepth 20000 in
set_option maxHeartbeats 40000000 in
theorem laws_eqCrossingS.calls {w0 w : World} {L : List HObj} {K : Nat} {a_ : List GCrossing} {b_ : List GCrossing} {A_a_ : Option Addr} {c_a_ : Nat} {A_b_ : Option Addr} {c_b_ : Nat} {r1 : Bool} (HS : St w0 w (L)) (h_a_ : RdIn w0 L T_GCrossing A_a_ c_a_ (fun _ => ()) a_) (h_b_ : RdIn w0 L T_GCrossing A_b_ c_b_ (fun _ => ()) b_) (H : laws_eqCrossingS.f K a_ b_ = some r1) :
    Calls Try.prog 51 #[.slice A_a_ a_.length c_a_, .slice A_b_ b_.length c_b_] w (laws_eqCrossingS.post w0 L a_ b_ A_a_ c_a_ A_b_ c_b_ r1) := by
  unfold laws_eqCrossingS.f at H
  refine Calls.of_G Try.func51 rfl rfl rfl ?_
  refine G.seq ?_
  refine G.region ?_
  refine GO.assign rfl rfl rfl ?_
  refine GO.nil ?_
  refine G.seq ?_
  refine G.seq ?_
  refine G.region ?_
  refine GO.move rfl rfl rfl ?_
  refine GO.lenS rfl rfl Try.underlying26 rfl ?_
  refine GO.move rfl rfl rfl ?_
  refine GO.lenS rfl rfl Try.underlying26 rfl ?_
  refine GO.neq rfl rfl rfl rfl ?_
  refine GO.nil ?_
  rcases ite_elim H with ⟨c1, H⟩ | ⟨c1, H⟩
  ·
   refine G.noB rfl (congrArg Bool.not (decide_eq_true c1)) ?_
   refine G.skip ?_
   refine G.seq ?_
   refine G.seq ?_
   refine G.region ?_
   refine GO.assign rfl rfl rfl ?_
   refine GO.nil ?_
   refine G.block ?_
   refine G.loop ?_
   refine G.name (fun k_l1 hk_l1 => ?_)
   have at_l1 : ∀ m_l1, m_l1 ≤ K → ∀ (i_14 : Int) (w : World), laws_eqCrossingS.l1 K m_l1 a_ b_ i_14 = some r1 → St w0 w (L) → G Try.prog 51 27 [(0, .slice A_a_ a_.length c_a_), (1, .slice A_b_ b_.length c_b_), (5, .int .i64 i_14)] k_l1 w (laws_eqCrossingS.post w0 L a_ b_ A_a_ c_a_ A_b_ c_b_ r1) := by
    intro m_l1
    induction m_l1 using Nat.strongRecOn with
    | _ m_l1 ih_l1 =>
     intro hm_l1 i_14 w H HS
     cases m_l1 with
     | zero => rw [laws_eqCrossingS.l1] at H; cases H
     | succ n_l1 =>
      rw [laws_eqCrossingS.l1] at H
      subst hk_l1
      refine G.seq ?_
      refine G.seq ?_
      refine G.region ?_
      refine GO.move rfl rfl rfl ?_
      refine GO.move rfl rfl rfl ?_
      refine GO.lenS rfl rfl Try.underlying26 rfl ?_
      refine GO.lss rfl rfl rfl rfl ?_
      refine GO.nil ?_
      rcases ite_elim H with ⟨c27, H⟩ | ⟨c27, H⟩
      ·
       refine G.yesB rfl (decide_eq_true c27) ?_
       refine G.skip ?_
       refine G.seq ?_
       refine G.block ?_
       refine G.seq ?_
       obtain ⟨c28, H⟩ := ite_none H
       obtain ⟨e29, h30, H⟩ := bnd_elim H
       obtain ⟨c31, H⟩ := ite_none H
       obtain ⟨e32, h33, H⟩ := bnd_elim H
       obtain ⟨t34, h35, H⟩ := Option.bind_eq_some_iff.1 H
       refine G.regionAny mixed (by decide) (fun b a w => ∃ (Y1_0 : Value) (Y2_1 : Value) (Y3_2 : Value) (Y4_3 : Value) (Y5_4 : Value) (Y6_5 : Value) (Y7_6 : Value) (Y8_7 : Value) (Y9_8 : Value) (Y10_9 : Value), Sat 27 [(17, Y1_0), (18, Y2_1), (19, Y3_2), (20, Y4_3), (21, Y5_4), (22, Y6_5), (23, Y7_6), (24, Y8_7), (25, Y9_8), (26, Y10_9), (0, .slice A_a_ a_.length c_a_), (1, .slice A_b_ b_.length c_b_), (5, .int .i64 i_14)] a ∧ St w0 w (L) ∧ (b 0 = true → Y1_0 = (.slice A_a_ a_.length c_a_)) ∧ (b 1 = true → Y2_1 = (.int .i64 i_14)) ∧ (b 2 = true → Y3_2 = (.pointer (some (ea A_a_ (i_14.toNat * 5))))) ∧ (b 3 = true → Y4_3 = (.agg [.int .i64 e29.A, .int .i64 e29.B, .int .i64 e29.C, .int .i64 e29.D, .int .i64 e29.Sign].toArray)) ∧ (b 4 = true → Y5_4 = (.slice A_b_ b_.length c_b_)) ∧ (b 5 = true → Y6_5 = (.int .i64 i_14)) ∧ (b 6 = true → Y7_6 = (.pointer (some (ea A_b_ (i_14.toNat * 5))))) ∧ (b 7 = true → Y8_7 = (.agg [.int .i64 e32.A, .int .i64 e32.B, .int .i64 e32.C, .int .i64 e32.D, .int .i64 e32.Sign].toArray)) ∧ (b 8 = true → Y9_8 = (.bool t34)) ∧ (b 9 = true → Y10_9 = (.bool (!t34)))) ?_ ?_ ?_
       ·
        intro a hs
        obtain ⟨Y1_0, hs⟩ := hs.ext (d := 17) rfl
        obtain ⟨Y2_1, hs⟩ := hs.ext (d := 18) rfl
        obtain ⟨Y3_2, hs⟩ := hs.ext (d := 19) rfl
        obtain ⟨Y4_3, hs⟩ := hs.ext (d := 20) rfl
        obtain ⟨Y5_4, hs⟩ := hs.ext (d := 21) rfl
        obtain ⟨Y6_5, hs⟩ := hs.ext (d := 22) rfl
        obtain ⟨Y7_6, hs⟩ := hs.ext (d := 23) rfl
        obtain ⟨Y8_7, hs⟩ := hs.ext (d := 24) rfl
        obtain ⟨Y9_8, hs⟩ := hs.ext (d := 25) rfl
        obtain ⟨Y10_9, hs⟩ := hs.ext (d := 26) rfl
        exact ⟨Y1_0, Y2_1, Y3_2, Y4_3, Y5_4, Y6_5, Y7_6, Y8_7, Y9_8, Y10_9, hs.weak ⟨rfl, rfl, rfl, rfl, rfl, rfl, rfl, rfl, rfl, rfl, rfl, rfl, rfl, trivial⟩, (HS.drew.pick 0 []), fun h => Bool.noConfusion h, fun h => Bool.noConfusion h, fun h => Bool.noConfusion h, fun h => Bool.noConfusion h, fun h => Bool.noConfusion h, fun h => Bool.noConfusion h, fun h => Bool.noConfusion h, fun h => Bool.noConfusion h, fun h => Bool.noConfusion h, fun h => Bool.noConfusion h⟩
       ·
        intro j hj b a w
        refine exI fun Y1_0 => exI fun Y2_1 => exI fun Y3_2 => exI fun Y4_3 => exI fun Y5_4 => exI fun Y6_5 => exI fun Y7_6 => exI fun Y8_7 => exI fun Y9_8 => exI fun Y10_9 => anI fun hs => anI fun HS => anI fun f0 => anI fun f1 => anI fun f2 => anI fun f3 => anI fun f4 => anI fun f5 => anI fun f6 => anI fun f7 => anI fun f8 => fun f9 hb hd hcl => ?_
        match j, hj with
        | 0, _ =>
         refine GO.at hs ?_
         refine GO.move rfl rfl rfl ?_
         refine GO.fin (fun a hs => ?_)
         exact ⟨(.slice A_a_ a_.length c_a_), _, _, _, _, _, _, _, _, _, by exact hs.setAt 0 rfl, HS, fun _ => rfl, f1, f2, f3, f4, f5, f6, f7, f8, f9⟩
        | 1, _ =>
         refine GO.at hs ?_
         refine GO.move rfl rfl rfl ?_
         refine GO.fin (fun a hs => ?_)
         exact ⟨_, (.int .i64 i_14), _, _, _, _, _, _, _, _, by exact hs.setAt 1 rfl, HS, f0, fun _ => rfl, f2, f3, f4, f5, f6, f7, f8, f9⟩
        | 2, _ =>
         have h0 : b 0 = true := hd 0 (by decide)
         obtain rfl := f0 h0
         have h1 : b 1 = true := hd 1 (by decide)
         obtain rfl := f1 h1
         refine GO.at hs ?_
         refine GO.ix rfl rfl rfl Try.underlying26 sz58 (h_a_ _ HS).2.2.1 c28.1 c28.2 rfl ?_
         refine GO.fin (fun a hs => ?_)
         exact ⟨_, _, (.pointer (some (ea A_a_ (i_14.toNat * 5)))), _, _, _, _, _, _, _, by exact hs.setAt 2 rfl, HS, f0, f1, fun _ => rfl, f3, f4, f5, f6, f7, f8, f9⟩
        | 3, _ =>
         have h2 : b 2 = true := hd 2 (by decide)
         obtain rfl := f2 h2
         refine GO.at hs ?_
         refine GO.ldRdA (T := T_GCrossing) (n := i_14.toNat) HS h_a_ rfl rfl (getD_eq (ltN c28) h30) ag58 rfl ?_
         refine GO.fin (fun a hs => ?_)
         exact ⟨_, _, _, (.agg [.int .i64 e29.A, .int .i64 e29.B, .int .i64 e29.C, .int .i64 e29.D, .int .i64 e29.Sign].toArray), _, _, _, _, _, _, by exact hs.setAt 3 rfl, HS, f0, f1, f2, fun _ => rfl, f4, f5, f6, f7, f8, f9⟩
        | 4, _ =>
         refine GO.at hs ?_
         refine GO.move rfl rfl rfl ?_
         refine GO.fin (fun a hs => ?_)
         exact ⟨_, _, _, _, (.slice A_b_ b_.length c_b_), _, _, _, _, _, by exact hs.setAt 4 rfl, HS, f0, f1, f2, f3, fun _ => rfl, f5, f6, f7, f8, f9⟩
        | 5, _ =>
         refine GO.at hs ?_
         refine GO.move rfl rfl rfl ?_
         refine GO.fin (fun a hs => ?_)
         exact ⟨_, _, _, _, _, (.int .i64 i_14), _, _, _, _, by exact hs.setAt 5 rfl, HS, f0, f1, f2, f3, f4, fun _ => rfl, f6, f7, f8, f9⟩
        | 6, _ =>
         have h4 : b 4 = true := hd 4 (by decide)
         obtain rfl := f4 h4
         have h5 : b 5 = true := hd 5 (by decide)
         obtain rfl := f5 h5
         refine GO.at hs ?_
         refine GO.ix rfl rfl rfl Try.underlying26 sz58 (h_b_ _ HS).2.2.1 c31.1 c31.2 rfl ?_
         refine GO.fin (fun a hs => ?_)
         exact ⟨_, _, _, _, _, _, (.pointer (some (ea A_b_ (i_14.toNat * 5)))), _, _, _, by exact hs.setAt 6 rfl, HS, f0, f1, f2, f3, f4, f5, fun _ => rfl, f7, f8, f9⟩
        | 7, _ =>
         have h6 : b 6 = true := hd 6 (by decide)
         obtain rfl := f6 h6
         refine GO.at hs ?_
         refine GO.ldRdA (T := T_GCrossing) (n := i_14.toNat) HS h_b_ rfl rfl (getD_eq (ltN c31) h33) ag58 rfl ?_
         refine GO.fin (fun a hs => ?_)
         exact ⟨_, _, _, _, _, _, _, (.agg [.int .i64 e32.A, .int .i64 e32.B, .int .i64 e32.C, .int .i64 e32.D, .int .i64 e32.Sign].toArray), _, _, by exact hs.setAt 7 rfl, HS, f0, f1, f2, f3, f4, f5, f6, fun _ => rfl, f8, f9⟩
        | 8, _ =>
         have h3 : b 3 = true := hd 3 (by decide)
         obtain rfl := f3 h3
         have h7 : b 7 = true := hd 7 (by decide)
         obtain rfl := f7 h7
         refine GO.at hs ?_
         refine GO.fn rfl Try.func114 fok114.1 fok114.2 rfl rfl (laws_eqCrossing.calls HS  h35) (fun _ wd36 ⟨h37, HS⟩ => ⟨_, h37, ?_⟩)
         refine GO.fin (fun a hs => ?_)
         exact ⟨_, _, _, _, _, _, _, _, (.bool t34), _, by exact hs.setAt 8 rfl, HS, f0, f1, f2, f3, f4, f5, f6, f7, fun _ => rfl, f9⟩
        | 9, _ =>
         have h8 : b 8 = true := hd 8 (by decide)
         obtain rfl := f8 h8
         refine GO.at hs ?_
         refine GO.not rfl rfl rfl ?_
         refine GO.fin (fun a hs => ?_)
         exact ⟨_, _, _, _, _, _, _, _, _, (.bool (!t34)), by exact hs.setAt 9 rfl, HS, f0, f1, f2, f3, f4, f5, f6, f7, f8, fun _ => rfl⟩
        | k + 10, hj => exact absurd hj (Nat.not_lt.2 (Nat.le_add_left 10 k))
       ·
        intro b a w hall
        refine exI fun Y1_0 => exI fun Y2_1 => exI fun Y3_2 => exI fun Y4_3 => exI fun Y5_4 => exI fun Y6_5 => exI fun Y7_6 => exI fun Y8_7 => exI fun Y9_8 => exI fun Y10_9 => anI fun hs => anI fun HS => anI fun f0 => anI fun f1 => anI fun f2 => anI fun f3 => anI fun f4 => anI fun f5 => anI fun f6 => anI fun f7 => anI fun f8 => fun f9 => ?_
        obtain rfl := f0 (hall 0 (by decide))
        obtain rfl := f1 (hall 1 (by decide))
        obtain rfl := f2 (hall 2 (by decide))
        obtain rfl := f3 (hall 3 (by decide))
        obtain rfl := f4 (hall 4 (by decide))
        obtain rfl := f5 (hall 5 (by decide))
        obtain rfl := f6 (hall 6 (by decide))
        obtain rfl := f7 (hall 7 (by decide))
        obtain rfl := f8 (hall 8 (by decide))
        obtain rfl := f9 (hall 9 (by decide))
        refine G.at hs ?_
        rcases ite_elim H with ⟨c38, H⟩ | ⟨c38, H⟩
        ·
         refine G.noB rfl (congrArg Bool.not c38) ?_
         refine G.skip ?_
         refine G.blockEnd ?_
         refine G.region ?_
         refine GO.move rfl rfl rfl ?_
         refine GO.add rfl rfl rfl rfl ?_
         refine GO.assign rfl rfl rfl ?_
         refine GO.nil ?_
         refine G.again ?_
         refine G.weak ?_ (ih_l1 n_l1 (Nat.lt_succ_of_le (Nat.le_refl _)) (Nat.le_of_succ_le hm_l1) _ _ H HS)
         exact ⟨rfl, rfl, rfl, trivial⟩
        ·
         refine G.yesB rfl (congrArg Bool.not (bnot_of c38)) ?_
         refine G.seq ?_
         refine G.region ?_
         refine GO.assign rfl rfl rfl ?_
         refine GO.nil ?_
         obtain rfl := Option.some.inj H
         exact G.ret1 _ Try.func51 rfl rfl ⟨rfl, HS⟩
      ·
       refine G.noB rfl (decide_eq_false c27) ?_
       refine G.exit rfl ?_
       refine G.seq ?_
       refine G.region ?_
       refine GO.assign rfl rfl rfl ?_
       refine GO.nil ?_
       obtain rfl := Option.some.inj H
       exact G.ret1 _ Try.func51 rfl rfl ⟨rfl, HS⟩
   refine G.weak ?_ (at_l1 K (Nat.le_refl _) _ _ H HS)
   exact ⟨rfl, rfl, rfl, trivial⟩
  ·
   refine G.yesB rfl (congrArg Bool.not (decide_eq_false c1)) ?_
   refine G.seq ?_
   refine G.region ?_
   refine GO.assign rfl rfl rfl ?_
   refine GO.nil ?_
   obtain rfl := Option.some.inj H
   exact G.ret1 _ Try.func51 rfl rfl ⟨rfl, HS⟩

set_option maxRecDepth 20000 in
set_option maxHeartbeats 40000000 in
theorem laws_eqDiagram.calls {w0 w : World} {L : List HObj} {K : Nat} {a_Crossings : List GCrossing} {a_Circles : Int} {b_Crossings : List GCrossing} {b_Circles : Int} {A_a_Crossings : Option Addr} {c_a_Crossings : Nat} {A_b_Crossings : Option Addr} {c_b_Crossings : Nat} {r1 : Bool} (HS : St w0 w (L)) (h_a_Crossings : RdIn w0 L T_GCrossing A_a_Crossings c_a_Crossings (fun _ => ()) a_Crossings) (h_b_Crossings : RdIn w0 L T_GCrossing A_b_Crossings c_b_Crossings (fun _ => ()) b_Crossings) (H : laws_eqDiagram.f K a_Crossings a_Circles b_Crossings b_Circles = some r1) :
    Calls Try.prog 16 #[.agg [.slice A_a_Crossings a_Crossings.length c_a_Crossings, .int .i64 a_Circles].toArray, .agg [.slice A_b_Crossings b_Crossings.length c_b_Crossings, .int .i64 b_Circles].toArray] w (laws_eqDiagram.post w0 L a_Crossings a_Circles b_Crossings b_Circles A_a_Crossings c_a_Crossings A_b_Crossings c_b_Crossings r1) := by
  unfold laws_eqDiagram.f at H
  refine Calls.of_G Try.func16 rfl rfl rfl ?_
  refine G.seq ?_
  refine G.region ?_
  refine GO.box (cs := [.slice A_a_Crossings a_Crossings.length c_a_Crossings, .int .i64 a_Circles]) HS rfl rfl rfl rfl ?_; intro b1 wd2 HS
  refine GO.box (cs := [.slice A_b_Crossings b_Crossings.length c_b_Crossings, .int .i64 b_Circles]) HS rfl rfl rfl rfl ?_; intro b3 wd4 HS
  refine GO.assign rfl rfl rfl ?_
  refine GO.nil ?_
  refine G.seq ?_
  refine G.seq ?_
  obtain ⟨t5, h6, H⟩ := Option.bind_eq_some_iff.1 H
  refine G.region ?_
  refine GO.fld (⟨b1, 0, none⟩) rfl rfl fl28_0 rfl rfl ?_
  refine GO.ldBox (j := 1) HS rfl rfl rfl rfl na26 rfl ?_
  refine GO.fld (⟨b3, 0, none⟩) rfl rfl fl28_0 rfl rfl ?_
  refine GO.ldBox (j := 0) HS rfl rfl rfl rfl na26 rfl ?_
  refine GO.fn rfl Try.func51 fok51.1 fok51.2 rfl rfl (laws_eqCrossingS.calls HS (RdIn.drop 2 h_a_Crossings) (RdIn.drop 2 h_b_Crossings) h6) (fun _ wd7 ⟨h8, HS⟩ => ⟨_, h8, ?_⟩)
  refine GO.not rfl rfl rfl ?_
  refine GO.nil ?_
  rcases ite_elim H with ⟨c9, H⟩ | ⟨c9, H⟩
  ·
   refine G.noB rfl (congrArg Bool.not c9) ?_
   refine G.skip ?_
   refine G.seq ?_
   refine G.seq ?_
   refine G.region ?_
   refine GO.fld (⟨b1, 1, none⟩) rfl rfl fl28_1 rfl rfl ?_
   refine GO.ldBox (j := 1) HS rfl rfl rfl rfl na2 rfl ?_
   refine GO.fld (⟨b3, 1, none⟩) rfl rfl fl28_1 rfl rfl ?_
   refine GO.ldBox (j := 0) HS rfl rfl rfl rfl na2 rfl ?_
   refine GO.neq rfl rfl rfl rfl ?_
   refine GO.nil ?_
   rcases ite_elim H with ⟨c10, H⟩ | ⟨c10, H⟩
   ·
    refine G.noB rfl (congrArg Bool.not (decide_eq_true c10)) ?_
    refine G.skip ?_
    refine G.seq ?_
    refine G.region ?_
    refine GO.assign rfl rfl rfl ?_
    refine GO.nil ?_
    obtain rfl := Option.some.inj H
    exact G.ret1 _ Try.func16 rfl rfl ⟨rfl, (HS.pick 2 [])⟩
   ·
    refine G.yesB rfl (congrArg Bool.not (decide_eq_false c10)) ?_
    refine G.seq ?_
    refine G.region ?_
    refine GO.assign rfl rfl rfl ?_
    refine GO.nil ?_
    obtain rfl := Option.some.inj H
    exact G.ret1 _ Try.func16 rfl rfl ⟨rfl, (HS.pick 2 [])⟩
  ·
   refine G.yesB rfl (congrArg Bool.not (bnot_of c9)) ?_
   refine G.seq ?_
   refine G.region ?_
   refine GO.assign rfl rfl rfl ?_
   refine GO.nil ?_
   obtain rfl := Option.some.inj H
   exact G.ret1 _ Try.func16 rfl rfl ⟨rfl, (HS.pick 2 [])⟩

set_option maxRecDepth 20000 in
set_option maxHeartbeats 40000000 in
theorem laws_markCrossingS.calls {w0 w : World} {L : List HObj} {K : Nat} {a_ : List GCrossing} {k_ : Int} {A_a_ : Option Addr} {c_a_ : Nat} {r1 : Int} {r2 : List GCrossing} (HS : St w0 w (Own T_GCrossing 58 A_a_ c_a_ (fun _ => ()) a_ :: L)) (H : laws_markCrossingS.f K a_ k_ = some (r1, r2)) :
    Calls Try.prog 52 #[.slice A_a_ a_.length c_a_, .int .i64 k_] w (laws_markCrossingS.post w0 L a_ k_ A_a_ c_a_ r1 r2) := by
  unfold laws_markCrossingS.f at H
  refine Calls.of_G Try.func52 rfl rfl rfl ?_
  refine G.seq ?_
  refine G.region ?_
  refine GO.assign rfl rfl rfl ?_
  refine GO.nil ?_
  refine G.seq ?_
  refine G.seq ?_
  refine G.region ?_
  refine GO.assign rfl rfl rfl ?_
  refine GO.nil ?_
  refine G.block ?_
  refine G.loop ?_
  refine G.name (fun k_l1 hk_l1 => ?_)
  have at_l1 : ∀ m_l1, m_l1 ≤ K → ∀ (x22 : List GCrossing) (k_23 : Int) (i_24 : Int) (w : World), laws_markCrossingS.l1 K m_l1 x22 k_23 i_24 = some (r1, r2) → St w0 w (Own T_GCrossing 58 A_a_ c_a_ (fun _ => ()) x22 :: L) → G Try.prog 52 48 [(0, .slice A_a_ x22.length c_a_), (1, .int .i64 k_23), (5, .int .i64 i_24)] k_l1 w (laws_markCrossingS.post w0 L a_ k_ A_a_ c_a_ r1 r2) := by
   intro m_l1
   induction m_l1 using Nat.strongRecOn with
   | _ m_l1 ih_l1 =>
    intro hm_l1 x22 k_23 i_24 w H HS
    cases m_l1 with
    | zero => rw [laws_markCrossingS.l1] at H; cases H
    | succ n_l1 =>
     rw [laws_markCrossingS.l1] at H
     subst hk_l1
     refine G.seq ?_
     refine G.seq ?_
     refine G.region ?_
     refine GO.move rfl rfl rfl ?_
     refine GO.move rfl rfl rfl ?_
     refine GO.lenS rfl rfl Try.underlying26 rfl ?_
     refine GO.lss rfl rfl rfl rfl ?_
     refine GO.nil ?_
     rcases ite_elim H with ⟨c46, H⟩ | ⟨c46, H⟩
     ·
      refine G.yesB rfl (decide_eq_true c46) ?_
      refine G.skip ?_
      refine G.seq ?_
      refine G.block ?_
      refine G.seq ?_
      obtain ⟨c47, H⟩ := ite_none H
      obtain ⟨e49, h50, H⟩ := bnd_elim H
      refine G.region ?_
      refine GO.move rfl rfl rfl ?_
      refine GO.move rfl rfl rfl ?_
      refine GO.move rfl rfl rfl ?_
      refine GO.ix rfl rfl rfl Try.underlying26 sz58 ((RdIn.own (j := 0) rfl) _ HS).2.2.1 c47.1 c47.2 rfl ?_
      refine GO.fld (ea A_a_ (i_24.toNat * 5)) rfl rfl fl58_0 rfl rfl ?_
      refine GO.stRow (T := T_GCrossing) (j := 0) (n := i_24.toNat) (o := 0) (vs := [.int .i64 k_23]) ({ e49 with A := k_23 }) HS rfl flat_flat rfl rfl rfl rfl (htN na2 rfl) rfl (getD_eq (ltN c47) h50) rfl rfl ?_; intro wd48 HS
      refine GO.nil ?_
      refine G.len (t := 0) (m := (x22.set i_24.toNat ({ e49 with A := k_23 })).length) rfl (by simp only [List.length_set] <;> rfl) ?_
      refine G.seq ?_
      refine G.region ?_
      refine GO.move rfl rfl rfl ?_
      refine GO.add rfl rfl rfl rfl ?_
      refine GO.assign rfl rfl rfl ?_
      refine GO.nil ?_
      refine G.seq ?_
      obtain ⟨c51, H⟩ := ite_none H
      obtain ⟨e53, h54, H⟩ := bnd_elim H
      refine G.region ?_
      refine GO.move rfl rfl rfl ?_
      refine GO.move rfl rfl rfl ?_
      refine GO.move rfl rfl rfl ?_
      refine GO.ix rfl rfl rfl Try.underlying26 sz58 ((RdIn.own (j := 0) rfl) _ HS).2.2.1 c51.1 c51.2 rfl ?_
      refine GO.fld (ea A_a_ (i_24.toNat * 5 + 1)) rfl rfl fl58_1 (ea_add _ _ _) rfl ?_
      refine GO.stRow (T := T_GCrossing) (j := 0) (n := i_24.toNat) (o := 1) (vs := [.int .i64 (w64 (k_23 + 1))]) ({ e53 with B := w64 (k_23 + 1) }) HS rfl flat_flat rfl rfl rfl rfl (htN na2 rfl) rfl (getD_eq (ltN c51) h54) rfl rfl ?_; intro wd52 HS
      refine GO.nil ?_
      refine G.len (t := 0) (m := ((x22.set i_24.toNat ({ e49 with A := k_23 })).set i_24.toNat ({ e53 with B := w64 (k_23 + 1) })).length) rfl (by simp only [List.length_set] <;> rfl) ?_
      refine G.seq ?_
      refine G.region ?_
      refine GO.move rfl rfl rfl ?_
      refine GO.add rfl rfl rfl rfl ?_
      refine GO.assign rfl rfl rfl ?_
      refine GO.nil ?_
      refine G.seq ?_
      obtain ⟨c55, H⟩ := ite_none H
      obtain ⟨e57, h58, H⟩ := bnd_elim H
      refine G.region ?_
      refine GO.move rfl rfl rfl ?_
      refine GO.move rfl rfl rfl ?_
      refine GO.move rfl rfl rfl ?_
      refine GO.ix rfl rfl rfl Try.underlying26 sz58 ((RdIn.own (j := 0) rfl) _ HS).2.2.1 c55.1 c55.2 rfl ?_
      refine GO.fld (ea A_a_ (i_24.toNat * 5 + 2)) rfl rfl fl58_2 (ea_add _ _ _) rfl ?_
      refine GO.stRow (T := T_GCrossing) (j := 0) (n := i_24.toNat) (o := 2) (vs := [.int .i64 (w64 ((w64 (k_23 + 1)) + 1))]) ({ e57 with C := w64 ((w64 (k_23 + 1)) + 1) }) HS rfl flat_flat rfl rfl rfl rfl (htN na2 rfl) rfl (getD_eq (ltN c55) h58) rfl rfl ?_; intro wd56 HS
      refine GO.nil ?_
      refine G.len (t := 0) (m := (((x22.set i_24.toNat ({ e49 with A := k_23 })).set i_24.toNat ({ e53 with B := w64 (k_23 + 1) })).set i_24.toNat ({ e57 with C := w64 ((w64 (k_23 + 1)) + 1) })).length) rfl (by simp only [List.length_set] <;> rfl) ?_
      refine G.seq ?_
      refine G.region ?_
      refine GO.move rfl rfl rfl ?_
      refine GO.add rfl rfl rfl rfl ?_
      refine GO.assign rfl rfl rfl ?_
      refine GO.nil ?_
      refine G.seq ?_
      obtain ⟨c59, H⟩ := ite_none H
      obtain ⟨e61, h62, H⟩ := bnd_elim H
      refine G.region ?_
      refine GO.move rfl rfl rfl ?_
      refine GO.move rfl rfl rfl ?_
      refine GO.move rfl rfl rfl ?_
      refine GO.ix rfl rfl rfl Try.underlying26 sz58 ((RdIn.own (j := 0) rfl) _ HS).2.2.1 c59.1 c59.2 rfl ?_
      refine GO.fld (ea A_a_ (i_24.toNat * 5 + 3)) rfl rfl fl58_3 (ea_add _ _ _) rfl ?_
      refine GO.stRow (T := T_GCrossing) (j := 0) (n := i_24.toNat) (o := 3) (vs := [.int .i64 (w64 ((w64 ((w64 (k_23 + 1)) + 1)) + 1))]) ({ e61 with D := w64 ((w64 ((w64 (k_23 + 1)) + 1)) + 1) }) HS rfl flat_flat rfl rfl rfl rfl (htN na2 rfl) rfl (getD_eq (ltN c59) h62) rfl rfl ?_; intro wd60 HS
      refine GO.nil ?_
      refine G.len (t := 0) (m := ((((x22.set i_24.toNat ({ e49 with A := k_23 })).set i_24.toNat ({ e53 with B := w64 (k_23 + 1) })).set i_24.toNat ({ e57 with C := w64 ((w64 (k_23 + 1)) + 1) })).set i_24.toNat ({ e61 with D := w64 ((w64 ((w64 (k_23 + 1)) + 1)) + 1) })).length) rfl (by simp only [List.length_set] <;> rfl) ?_
      refine G.seq ?_
      refine G.region ?_
      refine GO.move rfl rfl rfl ?_
      refine GO.add rfl rfl rfl rfl ?_
      refine GO.assign rfl rfl rfl ?_
      refine GO.nil ?_
      refine G.seq ?_
      obtain ⟨c63, H⟩ := ite_none H
      obtain ⟨e65, h66, H⟩ := bnd_elim H
      refine G.region ?_
      refine GO.move rfl rfl rfl ?_
      refine GO.move rfl rfl rfl ?_
      refine GO.move rfl rfl rfl ?_
      refine GO.ix rfl rfl rfl Try.underlying26 sz58 ((RdIn.own (j := 0) rfl) _ HS).2.2.1 c63.1 c63.2 rfl ?_
      refine GO.fld (ea A_a_ (i_24.toNat * 5 + 4)) rfl rfl fl58_4 (ea_add _ _ _) rfl ?_
      refine GO.stRow (T := T_GCrossing) (j := 0) (n := i_24.toNat) (o := 4) (vs := [.int .i64 (w64 ((w64 ((w64 ((w64 (k_23 + 1)) + 1)) + 1)) + 1))]) ({ e65 with Sign := w64 ((w64 ((w64 ((w64 (k_23 + 1)) + 1)) + 1)) + 1) }) HS rfl flat_flat rfl rfl rfl rfl (htN na2 rfl) rfl (getD_eq (ltN c63) h66) rfl rfl ?_; intro wd64 HS
      refine GO.nil ?_
      refine G.len (t := 0) (m := (((((x22.set i_24.toNat ({ e49 with A := k_23 })).set i_24.toNat ({ e53 with B := w64 (k_23 + 1) })).set i_24.toNat ({ e57 with C := w64 ((w64 (k_23 + 1)) + 1) })).set i_24.toNat ({ e61 with D := w64 ((w64 ((w64 (k_23 + 1)) + 1)) + 1) })).set i_24.toNat ({ e65 with Sign := w64 ((w64 ((w64 ((w64 (k_23 + 1)) + 1)) + 1)) + 1) })).length) rfl (by simp only [List.length_set] <;> rfl) ?_
      refine G.region ?_
      refine GO.move rfl rfl rfl ?_
      refine GO.add rfl rfl rfl rfl ?_
      refine GO.assign rfl rfl rfl ?_
      refine GO.nil ?_
      refine G.blockEnd ?_
      refine G.region ?_
      refine GO.move rfl rfl rfl ?_
      refine GO.add rfl rfl rfl rfl ?_
      refine GO.assign rfl rfl rfl ?_
      refine GO.nil ?_
      refine G.again ?_
      refine G.weak ?_ (ih_l1 n_l1 (Nat.lt_succ_of_le (Nat.le_refl _)) (Nat.le_of_succ_le hm_l1) _ _ _ _ H HS)
      exact ⟨rfl, rfl, rfl, trivial⟩
     ·
      refine G.noB rfl (decide_eq_false c46) ?_
      refine G.exit rfl ?_
      refine G.seq ?_
      refine G.region ?_
      refine GO.move rfl rfl rfl ?_
      refine GO.assign rfl rfl rfl ?_
      refine GO.nil ?_
      obtain ⟨rfl, rfl⟩ := some2 H
      exact G.ret1 _ Try.func52 rfl rfl ⟨rfl, HS⟩
  refine G.weak ?_ (at_l1 K (Nat.le_refl _) _ _ _ _ H HS)
  exact ⟨rfl, rfl, rfl, trivial⟩

set_option maxRecDepth 20000 in
set_option maxHeartbeats 40000000 in
theorem laws_markDiagram.calls {w0 w : World} {L : List HObj} {K : Nat} {a_Crossings : List GCrossing} {a_Circles : Int} {k_ : Int} {A_a_Crossings : Option Addr} {c_a_Crossings : Nat} {r1 : Int} {r2 : List GCrossing} (HS : St w0 w (Own T_GCrossing 58 A_a_Crossings c_a_Crossings (fun _ => ()) a_Crossings :: L)) (H : laws_markDiagram.f K a_Crossings a_Circles k_ = some (r1, r2)) :
    Calls Try.prog 17 #[.agg [.slice A_a_Crossings a_Crossings.length c_a_Crossings, .int .i64 a_Circles].toArray, .int .i64 k_] w (laws_markDiagram.post w0 L a_Crossings a_Circles k_ A_a_Crossings c_a_Crossings r1 r2) := by
  unfold laws_markDiagram.f at H
  refine Calls.of_G Try.func17 rfl rfl rfl ?_
  refine G.seq ?_
  refine G.region ?_
  refine GO.box (cs := [.slice A_a_Crossings a_Crossings.length c_a_Crossings, .int .i64 a_Circles]) HS rfl rfl rfl rfl ?_; intro b1 wd2 HS
  refine GO.assign rfl rfl rfl ?_
  refine GO.nil ?_
  refine G.seq ?_
  obtain ⟨t3, t4, h5, H⟩ := bind2_elim H
  obtain ⟨c6, H⟩ := ite_none H
  refine G.region ?_
  refine GO.fld (⟨b1, 0, none⟩) rfl rfl fl28_0 rfl rfl ?_
  refine GO.ldBox (j := 0) HS rfl rfl rfl rfl na26 rfl ?_
  refine GO.move rfl rfl rfl ?_
  replace HS := HS.pick 2 [1, 0]
  refine GO.fn rfl Try.func52 fok52.1 fok52.2 rfl rfl (laws_markCrossingS.calls HS  h5) (fun _ wd7 ⟨h8, HS⟩ => ⟨_, h8, ?_⟩)
  refine GO.assign rfl rfl rfl ?_
  refine GO.nil ?_
  replace HS := HS.boxEq (j := 1) (cs' := [.slice A_a_Crossings t4.length c_a_Crossings, .int .i64 a_Circles]) rfl (by simp only [List.length_set, c6] <;> rfl)
  refine G.seq ?_
  refine G.region ?_
  refine GO.move rfl rfl rfl ?_
  refine GO.assign rfl rfl rfl ?_
  refine GO.nil ?_
  obtain ⟨rfl, rfl⟩ := some2 H
  exact G.ret1 _ Try.func17 rfl rfl ⟨rfl, (HS.pick 2 [0])⟩

set_option maxRecDepth 20000 in
set_option maxHeartbeats 40000000 in
theorem laws_heldCrossingS.calls {w0 w : World} {L : List HObj} {K : Nat} {a_ : List GCrossing} {k_ : Int} {A_a_ : Option Addr} {c_a_ : Nat} {r1 : Int} (HS : St w0 w (L)) (h_a_ : RdIn w0 L T_GCrossing A_a_ c_a_ (fun _ => ()) a_) (H : laws_heldCrossingS.f K a_ k_ = some r1) :
    Calls Try.prog 53 #[.slice A_a_ a_.length c_a_, .int .i64 k_] w (laws_heldCrossingS.post w0 L a_ k_ A_a_ c_a_ r1) := by
  unfold laws_heldCrossingS.f at H
  refine Calls.of_G Try.func53 rfl rfl rfl ?_
  refine G.seq ?_
  refine G.region ?_
  refine GO.assign rfl rfl rfl ?_
  refine GO.nil ?_
  refine G.seq ?_
  refine G.seq ?_
  refine G.region ?_
  refine GO.assign rfl rfl rfl ?_
  refine GO.nil ?_
  refine G.block ?_
  refine G.loop ?_
  refine G.name (fun k_l1 hk_l1 => ?_)
  have at_l1 : ∀ m_l1, m_l1 ≤ K → ∀ (k_10 : Int) (i_11 : Int) (w : World), laws_heldCrossingS.l1 K m_l1 a_ k_10 i_11 = some r1 → St w0 w (L) → G Try.prog 53 58 [(0, .slice A_a_ a_.length c_a_), (1, .int .i64 k_10), (5, .int .i64 i_11)] k_l1 w (laws_heldCrossingS.post w0 L a_ k_ A_a_ c_a_ r1) := by
   intro m_l1
   induction m_l1 using Nat.strongRecOn with
   | _ m_l1 ih_l1 =>
    intro hm_l1 k_10 i_11 w H HS
    cases m_l1 with
    | zero => rw [laws_heldCrossingS.l1] at H; cases H
    | succ n_l1 =>
     rw [laws_heldCrossingS.l1] at H
     subst hk_l1
     refine G.seq ?_
     refine G.seq ?_
     refine G.region ?_
     refine GO.move rfl rfl rfl ?_
     refine GO.move rfl rfl rfl ?_
     refine GO.lenS rfl rfl Try.underlying26 rfl ?_
     refine GO.lss rfl rfl rfl rfl ?_
     refine GO.nil ?_
     rcases ite_elim H with ⟨c21, H⟩ | ⟨c21, H⟩
     ·
      refine G.yesB rfl (decide_eq_true c21) ?_
      refine G.skip ?_
      refine G.seq ?_
      refine G.block ?_
      refine G.seq ?_
      refine G.seq ?_
      obtain ⟨c22, H⟩ := ite_none H
      obtain ⟨e23, h24, H⟩ := bnd_elim H
      refine G.region ?_
      refine GO.move rfl rfl rfl ?_
      refine GO.move rfl rfl rfl ?_
      refine GO.ix rfl rfl rfl Try.underlying26 sz58 (h_a_ _ HS).2.2.1 c22.1 c22.2 rfl ?_
      refine GO.fld (ea A_a_ (i_11.toNat * 5)) rfl rfl fl58_0 rfl rfl ?_
      refine GO.ldRd (T := T_GCrossing) (n := i_11.toNat) (o := 0) HS h_a_ rfl rfl (getD_eq (ltN c22) h24) rfl rfl na2 rfl ?_
      refine GO.move rfl rfl rfl ?_
      refine GO.neq rfl rfl rfl rfl ?_
      refine GO.nil ?_
      rcases ite_elim H with ⟨c25, H⟩ | ⟨c25, H⟩
      ·
       refine G.noB rfl (congrArg Bool.not (decide_eq_true c25)) ?_
       refine G.skip ?_
       refine G.seq ?_
       refine G.region ?_
       refine GO.move rfl rfl rfl ?_
       refine GO.add rfl rfl rfl rfl ?_
       refine GO.assign rfl rfl rfl ?_
       refine GO.nil ?_
       refine G.seq ?_
       refine G.seq ?_
       refine G.region ?_
       refine GO.move rfl rfl rfl ?_
       refine GO.move rfl rfl rfl ?_
       refine GO.ix rfl rfl rfl Try.underlying26 sz58 (h_a_ _ HS).2.2.1 c22.1 c22.2 rfl ?_
       refine GO.fld (ea A_a_ (i_11.toNat * 5 + 1)) rfl rfl fl58_1 (ea_add _ _ _) rfl ?_
       refine GO.ldRd (T := T_GCrossing) (n := i_11.toNat) (o := 1) HS h_a_ rfl rfl (getD_eq (ltN c22) h24) rfl rfl na2 rfl ?_
       refine GO.move rfl rfl rfl ?_
       refine GO.neq rfl rfl rfl rfl ?_
       refine GO.nil ?_
       rcases ite_elim H with ⟨c26, H⟩ | ⟨c26, H⟩
       ·
        refine G.noB rfl (congrArg Bool.not (decide_eq_true c26)) ?_
        refine G.skip ?_
        refine G.seq ?_
        refine G.region ?_
        refine GO.move rfl rfl rfl ?_
        refine GO.add rfl rfl rfl rfl ?_
        refine GO.assign rfl rfl rfl ?_
        refine GO.nil ?_
        refine G.seq ?_
        refine G.seq ?_
        refine G.region ?_
        refine GO.move rfl rfl rfl ?_
        refine GO.move rfl rfl rfl ?_
        refine GO.ix rfl rfl rfl Try.underlying26 sz58 (h_a_ _ HS).2.2.1 c22.1 c22.2 rfl ?_
        refine GO.fld (ea A_a_ (i_11.toNat * 5 + 2)) rfl rfl fl58_2 (ea_add _ _ _) rfl ?_
        refine GO.ldRd (T := T_GCrossing) (n := i_11.toNat) (o := 2) HS h_a_ rfl rfl (getD_eq (ltN c22) h24) rfl rfl na2 rfl ?_
        refine GO.move rfl rfl rfl ?_
        refine GO.neq rfl rfl rfl rfl ?_
        refine GO.nil ?_
        rcases ite_elim H with ⟨c27, H⟩ | ⟨c27, H⟩
        ·
         refine G.noB rfl (congrArg Bool.not (decide_eq_true c27)) ?_
         refine G.skip ?_
         refine G.seq ?_
         refine G.region ?_
         refine GO.move rfl rfl rfl ?_
         refine GO.add rfl rfl rfl rfl ?_
         refine GO.assign rfl rfl rfl ?_
         refine GO.nil ?_
         refine G.seq ?_
         refine G.seq ?_
         refine G.region ?_
         refine GO.move rfl rfl rfl ?_
         refine GO.move rfl rfl rfl ?_
         refine GO.ix rfl rfl rfl Try.underlying26 sz58 (h_a_ _ HS).2.2.1 c22.1 c22.2 rfl ?_
         refine GO.fld (ea A_a_ (i_11.toNat * 5 + 3)) rfl rfl fl58_3 (ea_add _ _ _) rfl ?_
         refine GO.ldRd (T := T_GCrossing) (n := i_11.toNat) (o := 3) HS h_a_ rfl rfl (getD_eq (ltN c22) h24) rfl rfl na2 rfl ?_
         refine GO.move rfl rfl rfl ?_
         refine GO.neq rfl rfl rfl rfl ?_
         refine GO.nil ?_
         rcases ite_elim H with ⟨c28, H⟩ | ⟨c28, H⟩
         ·
          refine G.noB rfl (congrArg Bool.not (decide_eq_true c28)) ?_
          refine G.skip ?_
          refine G.seq ?_
          refine G.region ?_
          refine GO.move rfl rfl rfl ?_
          refine GO.add rfl rfl rfl rfl ?_
          refine GO.assign rfl rfl rfl ?_
          refine GO.nil ?_
          refine G.seq ?_
          refine G.seq ?_
          refine G.region ?_
          refine GO.move rfl rfl rfl ?_
          refine GO.move rfl rfl rfl ?_
          refine GO.ix rfl rfl rfl Try.underlying26 sz58 (h_a_ _ HS).2.2.1 c22.1 c22.2 rfl ?_
          refine GO.fld (ea A_a_ (i_11.toNat * 5 + 4)) rfl rfl fl58_4 (ea_add _ _ _) rfl ?_
          refine GO.ldRd (T := T_GCrossing) (n := i_11.toNat) (o := 4) HS h_a_ rfl rfl (getD_eq (ltN c22) h24) rfl rfl na2 rfl ?_
          refine GO.move rfl rfl rfl ?_
          refine GO.neq rfl rfl rfl rfl ?_
          refine GO.nil ?_
          rcases ite_elim H with ⟨c29, H⟩ | ⟨c29, H⟩
          ·
           refine G.noB rfl (congrArg Bool.not (decide_eq_true c29)) ?_
           refine G.skip ?_
           refine G.region ?_
           refine GO.move rfl rfl rfl ?_
           refine GO.add rfl rfl rfl rfl ?_
           refine GO.assign rfl rfl rfl ?_
           refine GO.nil ?_
           refine G.blockEnd ?_
           refine G.region ?_
           refine GO.move rfl rfl rfl ?_
           refine GO.add rfl rfl rfl rfl ?_
           refine GO.assign rfl rfl rfl ?_
           refine GO.nil ?_
           refine G.again ?_
           refine G.weak ?_ (ih_l1 n_l1 (Nat.lt_succ_of_le (Nat.le_refl _)) (Nat.le_of_succ_le hm_l1) _ _ _ H HS)
           exact ⟨rfl, rfl, rfl, trivial⟩
          ·
           refine G.yesB rfl (congrArg Bool.not (decide_eq_false c29)) ?_
           refine G.seq ?_
           refine G.region ?_
           refine GO.assign rfl rfl rfl ?_
           refine GO.nil ?_
           obtain rfl := Option.some.inj H
           exact G.ret1 _ Try.func53 rfl rfl ⟨rfl, HS⟩
         ·
          refine G.yesB rfl (congrArg Bool.not (decide_eq_false c28)) ?_
          refine G.seq ?_
          refine G.region ?_
          refine GO.assign rfl rfl rfl ?_
          refine GO.nil ?_
          obtain rfl := Option.some.inj H
          exact G.ret1 _ Try.func53 rfl rfl ⟨rfl, HS⟩
        ·
         refine G.yesB rfl (congrArg Bool.not (decide_eq_false c27)) ?_
         refine G.seq ?_
         refine G.region ?_
         refine GO.assign rfl rfl rfl ?_
         refine GO.nil ?_
         obtain rfl := Option.some.inj H
         exact G.ret1 _ Try.func53 rfl rfl ⟨rfl, HS⟩
       ·
        refine G.yesB rfl (congrArg Bool.not (decide_eq_false c26)) ?_
        refine G.seq ?_
        refine G.region ?_
        refine GO.assign rfl rfl rfl ?_
        refine GO.nil ?_
        obtain rfl := Option.some.inj H
        exact G.ret1 _ Try.func53 rfl rfl ⟨rfl, HS⟩
      ·
       refine G.yesB rfl (congrArg Bool.not (decide_eq_false c25)) ?_
       refine G.seq ?_
       refine G.region ?_
       refine GO.assign rfl rfl rfl ?_
       refine GO.nil ?_
       obtain rfl := Option.some.inj H
       exact G.ret1 _ Try.func53 rfl rfl ⟨rfl, HS⟩
     ·
      refine G.noB rfl (decide_eq_false c21) ?_
      refine G.exit rfl ?_
      refine G.seq ?_
      refine G.region ?_
      refine GO.move rfl rfl rfl ?_
      refine GO.assign rfl rfl rfl ?_
      refine GO.nil ?_
      obtain rfl := Option.some.inj H
      exact G.ret1 _ Try.func53 rfl rfl ⟨rfl, HS⟩
  refine G.weak ?_ (at_l1 K (Nat.le_refl _) _ _ _ H HS)
  exact ⟨rfl, rfl, rfl, trivial⟩

set_option maxRecDepth 20000 in
set_option maxHeartbeats 40000000 in
theorem laws_heldDiagram.calls {w0 w : World} {L : List HObj} {K : Nat} {a_Crossings : List GCrossing} {a_Circles : Int} {k_ : Int} {A_a_Crossings : Option Addr} {c_a_Crossings : Nat} {r1 : Int} (HS : St w0 w (L)) (h_a_Crossings : RdIn w0 L T_GCrossing A_a_Crossings c_a_Crossings (fun _ => ()) a_Crossings) (H : laws_heldDiagram.f K a_Crossings a_Circles k_ = some r1) :
    Calls Try.prog 18 #[.agg [.slice A_a_Crossings a_Crossings.length c_a_Crossings, .int .i64 a_Circles].toArray, .int .i64 k_] w (laws_heldDiagram.post w0 L a_Crossings a_Circles k_ A_a_Crossings c_a_Crossings r1) := by
  unfold laws_heldDiagram.f at H
  refine Calls.of_G Try.func18 rfl rfl rfl ?_
  refine G.seq ?_
  refine G.region ?_
  refine GO.box (cs := [.slice A_a_Crossings a_Crossings.length c_a_Crossings, .int .i64 a_Circles]) HS rfl rfl rfl rfl ?_; intro b1 wd2 HS
  refine GO.assign rfl rfl rfl ?_
  refine GO.nil ?_
  refine G.seq ?_
  obtain ⟨t3, h4, H⟩ := Option.bind_eq_some_iff.1 H
  refine G.region ?_
  refine GO.fld (⟨b1, 0, none⟩) rfl rfl fl28_0 rfl rfl ?_
  refine GO.ldBox (j := 0) HS rfl rfl rfl rfl na26 rfl ?_
  refine GO.move rfl rfl rfl ?_
  refine GO.fn rfl Try.func53 fok53.1 fok53.2 rfl rfl (laws_heldCrossingS.calls HS (RdIn.drop 1 h_a_Crossings) h4) (fun _ wd5 ⟨h6, HS⟩ => ⟨_, h6, ?_⟩)
  refine GO.assign rfl rfl rfl ?_
  refine GO.nil ?_
  refine G.seq ?_
  refine G.seq ?_
  refine G.region ?_
  refine GO.move rfl rfl rfl ?_
  refine GO.lss rfl rfl rfl rfl ?_
  refine GO.nil ?_
  rcases ite_elim H with ⟨c7, H⟩ | ⟨c7, H⟩
  ·
   refine G.yesB rfl (decide_eq_true c7) ?_
   refine G.seq ?_
   refine G.region ?_
   refine GO.assign rfl rfl rfl ?_
   refine GO.nil ?_
   obtain rfl := Option.some.inj H
   exact G.ret1 _ Try.func18 rfl rfl ⟨rfl, (HS.pick 1 [])⟩
  ·
   refine G.noB rfl (decide_eq_false c7) ?_
   refine G.skip ?_
   refine G.seq ?_
   refine G.region ?_
   refine GO.move rfl rfl rfl ?_
   refine GO.assign rfl rfl rfl ?_
   refine GO.nil ?_
   obtain rfl := Option.some.inj H
   exact G.ret1 _ Try.func18 rfl rfl ⟨rfl, (HS.pick 1 [])⟩

set_option maxRecDepth 20000 in
set_option maxHeartbeats 40000000 in
theorem laws_FnExactSlideTriangle.calls {w0 w : World} {L : List HObj} {K : Nat} {aD_Crossings : List GCrossing} {aD_Circles : Int} {aCorner : Int} {A_aD_Crossings : Option Addr} {c_aD_Crossings : Nat} {r1 : Bool} (HS : St w0 w (L)) (h_aD_Crossings : RdIn w0 L T_GCrossing A_aD_Crossings c_aD_Crossings (fun _ => ()) aD_Crossings) (H : laws_FnExactSlideTriangle.f K aD_Crossings aD_Circles aCorner = some r1) :
    Calls Try.prog 7 #[.agg [.slice A_aD_Crossings aD_Crossings.length c_aD_Crossings, .int .i64 aD_Circles].toArray, .int .i64 aCorner] w (laws_FnExactSlideTriangle.post w0 L aD_Crossings aD_Circles aCorner A_aD_Crossings c_aD_Crossings r1) := by
  unfold laws_FnExactSlideTriangle.f at H
  refine Calls.of_G Try.func7 rfl rfl rfl ?_
  refine G.seq ?_
  refine G.region ?_
  refine GO.box (cs := [.slice A_aD_Crossings aD_Crossings.length c_aD_Crossings, .int .i64 aD_Circles]) HS rfl rfl rfl rfl ?_; intro b1 wd2 HS
  refine GO.assign rfl rfl rfl ?_
  refine GO.nil ?_
  refine G.seq ?_
  refine G.region ?_
  refine GO.assign rfl rfl rfl ?_
  refine GO.nil ?_
  refine G.seq ?_
  obtain ⟨t3, h4, H⟩ := Option.bind_eq_some_iff.1 H
  refine G.region ?_
  refine GO.ldBoxA (j := 0) ([.slice A_aD_Crossings aD_Crossings.length c_aD_Crossings, .int .i64 aD_Circles]) HS rfl rfl rfl rfl ag24 rfl ?_
  refine GO.move rfl rfl rfl ?_
  refine GO.fn rfl Try.func12 fok12.1 fok12.2 rfl rfl (laws_szDiagram.calls HS (RdIn.drop 1 h_aD_Crossings) h4) (fun _ wd5 ⟨h6, HS⟩ => ⟨_, h6, ?_⟩)
  refine GO.assign rfl rfl rfl ?_
  refine GO.nil ?_
  refine G.seq ?_
  refine G.seq ?_
  refine G.region ?_
  refine GO.move rfl rfl rfl ?_
  refine GO.lss rfl rfl rfl rfl ?_
  refine GO.nil ?_
  rcases ite_elim H with ⟨c7, H⟩ | ⟨c7, H⟩
  ·
   refine G.yesB rfl (decide_eq_true c7) ?_
   refine G.seq ?_
   refine G.region ?_
   refine GO.assign rfl rfl rfl ?_
   refine GO.nil ?_
   obtain rfl := Option.some.inj H
   exact G.ret1 _ Try.func7 rfl rfl ⟨rfl, (HS.pick 1 [])⟩
  ·
   refine G.noB rfl (decide_eq_false c7) ?_
   refine G.skip ?_
   refine G.seq ?_
   obtain ⟨t8, t9, h10, H⟩ := bind2_elim H
   obtain ⟨t15, t16, t17, h18, H⟩ := bind3_elim H
   refine G.region ?_
   refine GO.ldBoxA (j := 0) ([.slice A_aD_Crossings aD_Crossings.length c_aD_Crossings, .int .i64 aD_Circles]) HS rfl rfl rfl rfl ag24 rfl ?_
   refine GO.fn rfl Try.func14 fok14.1 fok14.2 rfl rfl (laws_toDiagram.calls HS (RdIn.drop 1 h_aD_Crossings) h10) (fun _ wd13 ⟨A11, c12, h14, HS⟩ => ⟨_, h14, ?_⟩)
   refine GO.move rfl rfl rfl ?_
   refine GO.fn rfl Try.func25 fok25.1 fok25.2 rfl rfl (spec_SlideTriangle.calls HS (RdIn.own (j := 0) rfl) h18) (fun _ wd21 ⟨A19, c20, h22, HS⟩ => ⟨_, h22, ?_⟩)
   refine GO.move rfl rfl rfl ?_
   refine GO.extract rfl rfl rfl rfl ?_
   refine GO.extract rfl rfl rfl rfl ?_
   refine GO.alloc HS rfl zr28 rfl rfl ?_; intro b23 wd24 HS
   refine GO.stBox (j := 0) (vs := [.slice A19 t15.length c20, .int .i64 t16]) ([.slice A19 t15.length c20, .int .i64 t16]) HS rfl rfl rfl rfl rfl (htA ag28) rfl rfl rfl ?_; intro wd25 HS
   refine GO.assign rfl rfl rfl ?_
   refine GO.nil ?_
   refine G.seq ?_
   obtain ⟨t26, t27, h28, H⟩ := bind2_elim H
   refine G.region ?_
   refine GO.ldBoxA (j := 3) ([.slice A_aD_Crossings aD_Crossings.length c_aD_Crossings, .int .i64 aD_Circles]) HS rfl rfl rfl rfl ag24 rfl ?_
   refine GO.fn rfl Try.func14 fok14.1 fok14.2 rfl rfl (laws_toDiagram.calls HS (RdIn.drop 4 h_aD_Crossings) h28) (fun _ wd31 ⟨A29, c30, h32, HS⟩ => ⟨_, h32, ?_⟩)
   refine GO.alloc HS rfl zr28 rfl rfl ?_; intro b33 wd34 HS
   refine GO.stBox (j := 0) (vs := [.slice A29 t26.length c30, .int .i64 t27]) ([.slice A29 t26.length c30, .int .i64 t27]) HS rfl rfl rfl rfl rfl (htA ag28) rfl rfl rfl ?_; intro wd35 HS
   refine GO.nil ?_
   refine G.seq ?_
   obtain ⟨t36, t37, t38, h39, H⟩ := bind3_elim H
   refine G.region ?_
   refine GO.ldBoxA (j := 0) ([.slice A29 t26.length c30, .int .i64 t27]) HS rfl rfl rfl rfl ag28 rfl ?_
   refine GO.move rfl rfl rfl ?_
   refine GO.fn rfl Try.func26 fok26.1 fok26.2 rfl rfl (impl_SlideTriangle.calls HS (RdIn.own (j := 1) rfl) h39) (fun _ wd42 ⟨A40, c41, h43, HS⟩ => ⟨_, h43, ?_⟩)
   refine GO.move rfl rfl rfl ?_
   refine GO.extract rfl rfl rfl rfl ?_
   refine GO.extract rfl rfl rfl rfl ?_
   refine GO.alloc HS rfl zr28 rfl rfl ?_; intro b44 wd45 HS
   refine GO.stBox (j := 0) (vs := [.slice A40 t36.length c41, .int .i64 t37]) ([.slice A40 t36.length c41, .int .i64 t37]) HS rfl rfl rfl rfl rfl (htA ag28) rfl rfl rfl ?_; intro wd46 HS
   refine GO.assign rfl rfl rfl ?_
   refine GO.nil ?_
   refine G.seq ?_
   refine G.seq ?_
   obtain ⟨t52, h53, H⟩ := Option.bind_eq_some_iff.1 H
   rcases ite_elim H with ⟨c56, H⟩ | ⟨c56, H⟩
   ·
    refine G.region ?_
    refine GO.ldBoxA (j := 0) ([.slice A40 t36.length c41, .int .i64 t37]) HS rfl rfl rfl rfl ag28 rfl ?_
    refine GO.ldBoxA (j := 4) ([.slice A19 t15.length c20, .int .i64 t16]) HS rfl rfl rfl rfl ag28 rfl ?_
    refine GO.fn rfl Try.func16 fok16.1 fok16.2 rfl rfl (laws_eqDiagram.calls HS (RdIn.own (j := 1) rfl) (RdIn.own (j := 5) rfl) h53) (fun _ wd54 ⟨h55, HS⟩ => ⟨_, h55, ?_⟩)
    refine GO.not rfl rfl rfl ?_
    refine GO.move rfl rfl rfl ?_
    refine GO.known (t := 40) rfl (congrArg Bool.not c56) ?_
    refine GO.on rfl rfl rfl rfl ?_
    refine GO.move rfl rfl rfl ?_
    refine GO.back ?_
    refine GO.on rfl rfl rfl rfl ?_
    refine GO.move rfl rfl rfl ?_
    refine GO.back ?_
    refine GO.on rfl rfl rfl rfl ?_
    refine GO.neq rfl rfl rfl rfl ?_
    refine GO.back ?_
    refine GO.pickF rfl rfl rfl rfl rfl ?_
    refine GO.nil ?_
    rcases ite_elim H with ⟨c57, H⟩ | ⟨c57, H⟩
    ·
     refine G.noB rfl (congrArg Bool.not (decide_eq_true c57)) ?_
     refine G.skip ?_
     refine G.seq ?_
     refine G.seq ?_
     obtain ⟨t58, t59, h60, H⟩ := bind2_elim H
     obtain ⟨t65, h66, H⟩ := Option.bind_eq_some_iff.1 H
     refine G.regionAny mixed (by decide) (fun b a w => ∃ (Y1_0 : Value) (Y2_1 : Value) (Y3_2 : Value) (Y4_3 : Value) (Y5_4 : Value) (A61 : Option Addr) (c62 : Nat) (O6_9 : HObj), Sat 101 [(45, Y1_0), (46, Y2_1), (47, Y3_2), (48, Y4_3), (49, Y5_4), (1, .int .i64 aCorner), (2, .pointer (some ⟨b1, 0, none⟩)), (6, .pointer (some ⟨b23, 0, none⟩)), (7, .int .i64 t17), (8, .pointer (some ⟨b33, 0, none⟩)), (9, .pointer (some ⟨b44, 0, none⟩)), (10, .int .i64 t38)] a ∧ St w0 w (Box b44 28 [.slice A40 t36.length c41, .int .i64 t37] :: Own T_GCrossing 58 A40 c41 (fun _ => ()) t36 :: Box b33 28 [.slice A29 t26.length c30, .int .i64 t27] :: Own T_GCrossing 58 A29 c30 (fun _ => ()) t26 :: Box b23 28 [.slice A19 t15.length c20, .int .i64 t16] :: Own T_GCrossing 58 A19 c20 (fun _ => ()) t15 :: Own T_GCrossing 58 A11 c12 (fun _ => ()) t8 :: Box b1 24 [.slice A_aD_Crossings aD_Crossings.length c_aD_Crossings, .int .i64 aD_Circles] :: O6_9 :: L) ∧ (b 0 = true → Y1_0 = (.agg [.slice A29 t26.length c30, .int .i64 t27].toArray)) ∧ (b 1 = true → Y2_1 = (.agg [.slice A_aD_Crossings aD_Crossings.length c_aD_Crossings, .int .i64 aD_Circles].toArray)) ∧ (b 2 = true → Y3_2 = (.agg [.slice A61 t58.length c62, .int .i64 t59].toArray)) ∧ (b 3 = true → Y4_3 = (.bool t65)) ∧ (b 4 = true → Y5_4 = (.bool (!t65))) ∧ (b 2 = true → O6_9 = Own T_GCrossing 58 A61 c62 (fun _ => ()) t58)) ?_ ?_ ?_
     ·
      intro a hs
      obtain ⟨Y1_0, hs⟩ := hs.ext (d := 45) rfl
      obtain ⟨Y2_1, hs⟩ := hs.ext (d := 46) rfl
      obtain ⟨Y3_2, hs⟩ := hs.ext (d := 47) rfl
      obtain ⟨Y4_3, hs⟩ := hs.ext (d := 48) rfl
      obtain ⟨Y5_4, hs⟩ := hs.ext (d := 49) rfl
      exact ⟨Y1_0, Y2_1, Y3_2, Y4_3, Y5_4, none, 0, Emp, hs.weak ⟨rfl, rfl, rfl, rfl, rfl, rfl, rfl, rfl, rfl, rfl, rfl, rfl, trivial⟩, (HS.drew.emp.pick 9 [1, 2, 3, 4, 5, 6, 7, 8, 0]), fun h => Bool.noConfusion h, fun h => Bool.noConfusion h, fun h => Bool.noConfusion h, fun h => Bool.noConfusion h, fun h => Bool.noConfusion h, fun h => Bool.noConfusion h⟩
     ·
      intro j hj b a w
      refine exI fun Y1_0 => exI fun Y2_1 => exI fun Y3_2 => exI fun Y4_3 => exI fun Y5_4 => exI fun A61 => exI fun c62 => exI fun O6_9 => anI fun hs => anI fun HS => anI fun f0 => anI fun f1 => anI fun f2 => anI fun f3 => anI fun f4 => fun o9_0 hb hd hcl => ?_
      match j, hj with
      | 0, _ =>
       refine GO.at hs ?_
       refine GO.ldBoxA (j := 2) ([.slice A29 t26.length c30, .int .i64 t27]) HS rfl rfl rfl rfl ag28 rfl ?_
       refine GO.fin (fun a hs => ?_)
       exact ⟨(.agg [.slice A29 t26.length c30, .int .i64 t27].toArray), _, _, _, _, A61, c62, _, by exact hs.setAt 0 rfl, HS, fun _ => rfl, f1, f2, f3, f4, o9_0⟩
      | 1, _ =>
       refine GO.at hs ?_
       refine GO.ldBoxA (j := 7) ([.slice A_aD_Crossings aD_Crossings.length c_aD_Crossings, .int .i64 aD_Circles]) HS rfl rfl rfl rfl ag24 rfl ?_
       refine GO.fin (fun a hs => ?_)
       exact ⟨_, (.agg [.slice A_aD_Crossings aD_Crossings.length c_aD_Crossings, .int .i64 aD_Circles].toArray), _, _, _, A61, c62, _, by exact hs.setAt 1 rfl, HS, f0, fun _ => rfl, f2, f3, f4, o9_0⟩
      | 2, _ =>
       have h1 : b 1 = true := hd 1 (by decide)
       obtain rfl := f1 h1
       refine GO.at hs ?_
       refine GO.fn rfl Try.func14 fok14.1 fok14.2 rfl rfl (laws_toDiagram.calls HS (RdIn.drop 9 h_aD_Crossings) h60) (fun _ wd63 ⟨A61, c62, h64, HS⟩ => ⟨_, h64, ?_⟩)
       refine GO.fin (fun a hs => ?_)
       exact ⟨_, _, (.agg [.slice A61 t58.length c62, .int .i64 t59].toArray), _, _, A61, c62, Own T_GCrossing 58 A61 c62 (fun _ => ()) t58, by exact hs.setAt 2 rfl, HS.pick 10 [1, 2, 3, 4, 5, 6, 7, 8, 0], f0, f1, fun _ => rfl, f3, f4, fun _ => rfl⟩
      | 3, _ =>
       have h0 : b 0 = true := hd 0 (by decide)
       obtain rfl := f0 h0
       have h2 : b 2 = true := hd 2 (by decide)
       obtain rfl := f2 h2
       obtain rfl := o9_0 h2
       refine GO.at hs ?_
       refine GO.fn rfl Try.func16 fok16.1 fok16.2 rfl rfl (laws_eqDiagram.calls HS (RdIn.own (j := 3) rfl) (RdIn.own (j := 8) rfl) h66) (fun _ wd67 ⟨h68, HS⟩ => ⟨_, h68, ?_⟩)
       refine GO.fin (fun a hs => ?_)
       exact ⟨_, _, _, (.bool t65), _, A61, c62, _, by exact hs.setAt 3 rfl, HS, f0, f1, f2, fun _ => rfl, f4, o9_0⟩
      | 4, _ =>
       have h3 : b 3 = true := hd 3 (by decide)
       obtain rfl := f3 h3
       refine GO.at hs ?_
       refine GO.not rfl rfl rfl ?_
       refine GO.fin (fun a hs => ?_)
       exact ⟨_, _, _, _, (.bool (!t65)), A61, c62, _, by exact hs.setAt 4 rfl, HS, f0, f1, f2, f3, fun _ => rfl, o9_0⟩
      | k + 5, hj => exact absurd hj (Nat.not_lt.2 (Nat.le_add_left 5 k))
     ·
      intro b a w hall
      refine exI fun Y1_0 => exI fun Y2_1 => exI fun Y3_2 => exI fun Y4_3 => exI fun Y5_4 => exI fun A61 => exI fun c62 => exI fun O6_9 => anI fun hs => anI fun HS => anI fun f0 => anI fun f1 => anI fun f2 => anI fun f3 => anI fun f4 => fun o9_0 => ?_
      obtain rfl := f0 (hall 0 (by decide))
      obtain rfl := f1 (hall 1 (by decide))
      obtain rfl := f2 (hall 2 (by decide))
      obtain rfl := f3 (hall 3 (by decide))
      obtain rfl := f4 (hall 4 (by decide))
      obtain rfl := o9_0 (hall 2 (by decide))
      refine G.at hs ?_
      rcases ite_elim H with ⟨c69, H⟩ | ⟨c69, H⟩
      ·
       refine G.noB rfl (congrArg Bool.not c69) ?_
       refine G.skip ?_
       refine G.seq ?_
       refine G.region ?_
       refine GO.assign rfl rfl rfl ?_
       refine GO.nil ?_
       refine G.seq ?_
       obtain ⟨t70, t71, h72, H⟩ := bind2_elim H
       obtain ⟨c73, H⟩ := ite_none H
       refine G.region ?_
       refine GO.ldBoxA (j := 2) ([.slice A29 t26.length c30, .int .i64 t27]) HS rfl rfl rfl rfl ag28 rfl ?_
       refine GO.move rfl rfl rfl ?_
       replace HS := HS.pick 9 [3, 0, 1, 2, 4, 5, 6, 7, 8]
       refine GO.fn rfl Try.func17 fok17.1 fok17.2 rfl rfl (laws_markDiagram.calls HS  h72) (fun _ wd74 ⟨h75, HS⟩ => ⟨_, h75, ?_⟩)
       refine GO.assign rfl rfl rfl ?_
       refine GO.nil ?_
       replace HS := HS.boxEq (j := 3) (cs' := [.slice A29 t71.length c30, .int .i64 t27]) rfl (by simp only [List.length_set, c73] <;> rfl)
       refine G.seq ?_
       refine G.seq ?_
       rcases ite_elim H with ⟨c82, H⟩ | ⟨c82, H⟩
       ·
        refine G.region ?_
        refine GO.move rfl rfl rfl ?_
        refine GO.lss rfl rfl rfl rfl ?_
        refine GO.move rfl rfl rfl ?_
        refine GO.known (t := 55) rfl (decide_eq_true c82) ?_
        refine GO.off rfl rfl rfl rfl rfl rfl ?_
        refine GO.off rfl rfl rfl rfl rfl rfl ?_
        refine GO.off rfl rfl rfl rfl rfl rfl ?_
        refine GO.off rfl rfl rfl rfl rfl rfl ?_
        refine GO.pickT rfl rfl rfl rfl rfl ?_
        refine GO.move rfl rfl rfl ?_
        refine GO.off rfl rfl rfl rfl rfl rfl ?_
        refine GO.off rfl rfl rfl rfl rfl rfl ?_
        refine GO.off rfl rfl rfl rfl rfl rfl ?_
        refine GO.pickT rfl rfl rfl rfl rfl ?_
        refine GO.nil ?_
        refine G.yesB rfl rfl ?_
        refine G.seq ?_
        refine G.region ?_
        refine GO.assign rfl rfl rfl ?_
        refine GO.nil ?_
        obtain rfl := Option.some.inj H
        exact G.ret1 _ Try.func7 rfl rfl ⟨rfl, (HS.pick 9 [])⟩
       ·
        obtain ⟨t83, h84, H⟩ := Option.bind_eq_some_iff.1 H
        rcases ite_elim H with ⟨c87, H⟩ | ⟨c87, H⟩
        ·
         refine G.region ?_
         refine GO.move rfl rfl rfl ?_
         refine GO.lss rfl rfl rfl rfl ?_
         refine GO.move rfl rfl rfl ?_
         refine GO.known (t := 55) rfl (decide_eq_false c82) ?_
         refine GO.on rfl rfl rfl rfl ?_
         refine GO.ldBoxA (j := 1) ([.slice A40 t36.length c41, .int .i64 t37]) HS rfl rfl rfl rfl ag28 rfl ?_
         refine GO.back ?_
         refine GO.on rfl rfl rfl rfl ?_
         refine GO.ldBoxA (j := 4) ([.slice A19 t15.length c20, .int .i64 t16]) HS rfl rfl rfl rfl ag28 rfl ?_
         refine GO.back ?_
         refine GO.on rfl rfl rfl rfl ?_
         refine GO.fn rfl Try.func16 fok16.1 fok16.2 rfl rfl (laws_eqDiagram.calls HS (RdIn.own (j := 2) rfl) (RdIn.own (j := 5) rfl) h84) (fun _ wd85 ⟨h86, HS⟩ => ⟨_, h86, ?_⟩)
         refine GO.back ?_
         refine GO.on rfl rfl rfl rfl ?_
         refine GO.not rfl rfl rfl ?_
         refine GO.back ?_
         refine GO.pickF rfl rfl rfl rfl rfl ?_
         refine GO.move rfl rfl rfl ?_
         refine GO.known (t := 61) rfl (congrArg Bool.not c87) ?_
         refine GO.on rfl rfl rfl rfl ?_
         refine GO.move rfl rfl rfl ?_
         refine GO.back ?_
         refine GO.on rfl rfl rfl rfl ?_
         refine GO.move rfl rfl rfl ?_
         refine GO.back ?_
         refine GO.on rfl rfl rfl rfl ?_
         refine GO.neq rfl rfl rfl rfl ?_
         refine GO.back ?_
         refine GO.pickF rfl rfl rfl rfl rfl ?_
         refine GO.nil ?_
         refine G.noB rfl (congrArg Bool.not (decide_eq_true c57)) ?_
         refine G.skip ?_
         refine G.seq ?_
         refine G.region ?_
         refine GO.assign rfl rfl rfl ?_
         refine GO.nil ?_
         refine G.seq ?_
         obtain ⟨t88, t89, h90, H⟩ := bind2_elim H
         obtain ⟨c91, H⟩ := ite_none H
         refine G.region ?_
         refine GO.ldBoxA (j := 1) ([.slice A40 t36.length c41, .int .i64 t37]) HS rfl rfl rfl rfl ag28 rfl ?_
         refine GO.move rfl rfl rfl ?_
         replace HS := HS.pick 9 [2, 0, 1, 3, 4, 5, 6, 7, 8]
         refine GO.fn rfl Try.func17 fok17.1 fok17.2 rfl rfl (laws_markDiagram.calls HS  h90) (fun _ wd92 ⟨h93, HS⟩ => ⟨_, h93, ?_⟩)
         refine GO.assign rfl rfl rfl ?_
         refine GO.nil ?_
         replace HS := HS.boxEq (j := 2) (cs' := [.slice A40 t89.length c41, .int .i64 t37]) rfl (by simp only [List.length_set, c91] <;> rfl)
         refine G.seq ?_
         refine G.region ?_
         refine GO.assign rfl rfl rfl ?_
         refine GO.nil ?_
         refine G.seq ?_
         obtain ⟨t94, h95, H⟩ := Option.bind_eq_some_iff.1 H
         refine G.region ?_
         refine GO.ldBoxA (j := 2) ([.slice A40 t89.length c41, .int .i64 t37]) HS rfl rfl rfl rfl ag28 rfl ?_
         refine GO.move rfl rfl rfl ?_
         refine GO.fn rfl Try.func18 fok18.1 fok18.2 rfl rfl (laws_heldDiagram.calls HS (RdIn.own (j := 0) rfl) h95) (fun _ wd96 ⟨h97, HS⟩ => ⟨_, h97, ?_⟩)
         refine GO.assign rfl rfl rfl ?_
         refine GO.nil ?_
         refine G.seq ?_
         refine G.seq ?_
         refine G.region ?_
         refine GO.move rfl rfl rfl ?_
         refine GO.lss rfl rfl rfl rfl ?_
         refine GO.nil ?_
         rcases ite_elim H with ⟨c98, H⟩ | ⟨c98, H⟩
         ·
          refine G.yesB rfl (decide_eq_true c98) ?_
          refine G.seq ?_
          refine G.region ?_
          refine GO.assign rfl rfl rfl ?_
          refine GO.nil ?_
          obtain rfl := Option.some.inj H
          exact G.ret1 _ Try.func7 rfl rfl ⟨rfl, (HS.pick 9 [])⟩
         ·
          refine G.noB rfl (decide_eq_false c98) ?_
          refine G.skip ?_
          refine G.seq ?_
          refine G.seq ?_
          refine G.region ?_
          refine GO.move rfl rfl rfl ?_
          refine GO.move rfl rfl rfl ?_
          refine GO.neq rfl rfl rfl rfl ?_
          refine GO.nil ?_
          rcases ite_elim H with ⟨c99, H⟩ | ⟨c99, H⟩
          ·
           refine G.noB rfl (congrArg Bool.not (decide_eq_true c99)) ?_
           refine G.skip ?_
           refine G.seq ?_
           obtain ⟨t100, t101, h102, H⟩ := bind2_elim H
           obtain ⟨t107, t108, t109, h110, H⟩ := bind3_elim H
           refine G.region ?_
           refine GO.ldBoxA (j := 7) ([.slice A_aD_Crossings aD_Crossings.length c_aD_Crossings, .int .i64 aD_Circles]) HS rfl rfl rfl rfl ag24 rfl ?_
           refine GO.fn rfl Try.func14 fok14.1 fok14.2 rfl rfl (laws_toDiagram.calls HS (RdIn.drop 9 h_aD_Crossings) h102) (fun _ wd105 ⟨A103, c104, h106, HS⟩ => ⟨_, h106, ?_⟩)
           refine GO.move rfl rfl rfl ?_
           refine GO.fn rfl Try.func26 fok26.1 fok26.2 rfl rfl (impl_SlideTriangle.calls HS (RdIn.own (j := 0) rfl) h110) (fun _ wd113 ⟨A111, c112, h114, HS⟩ => ⟨_, h114, ?_⟩)
           refine GO.move rfl rfl rfl ?_
           refine GO.extract rfl rfl rfl rfl ?_
           refine GO.extract rfl rfl rfl rfl ?_
           refine GO.alloc HS rfl zr28 rfl rfl ?_; intro b115 wd116 HS
           refine GO.stBox (j := 0) (vs := [.slice A111 t107.length c112, .int .i64 t108]) ([.slice A111 t107.length c112, .int .i64 t108]) HS rfl rfl rfl rfl rfl (htA ag28) rfl rfl rfl ?_; intro wd117 HS
           refine GO.assign rfl rfl rfl ?_
           refine GO.nil ?_
           refine G.seq ?_
           refine G.seq ?_
           obtain ⟨t123, h124, H⟩ := Option.bind_eq_some_iff.1 H
           rcases ite_elim H with ⟨c127, H⟩ | ⟨c127, H⟩
           ·
            refine G.region ?_
            refine GO.ldBoxA (j := 0) ([.slice A111 t107.length c112, .int .i64 t108]) HS rfl rfl rfl rfl ag28 rfl ?_
            refine GO.ldBoxA (j := 7) ([.slice A19 t15.length c20, .int .i64 t16]) HS rfl rfl rfl rfl ag28 rfl ?_
            refine GO.fn rfl Try.func16 fok16.1 fok16.2 rfl rfl (laws_eqDiagram.calls HS (RdIn.own (j := 1) rfl) (RdIn.own (j := 8) rfl) h124) (fun _ wd125 ⟨h126, HS⟩ => ⟨_, h126, ?_⟩)
            refine GO.not rfl rfl rfl ?_
            refine GO.move rfl rfl rfl ?_
            refine GO.known (t := 88) rfl (congrArg Bool.not c127) ?_
            refine GO.on rfl rfl rfl rfl ?_
            refine GO.move rfl rfl rfl ?_
            refine GO.back ?_
            refine GO.on rfl rfl rfl rfl ?_
            refine GO.move rfl rfl rfl ?_
            refine GO.back ?_
            refine GO.on rfl rfl rfl rfl ?_
            refine GO.neq rfl rfl rfl rfl ?_
            refine GO.back ?_
            refine GO.pickF rfl rfl rfl rfl rfl ?_
            refine GO.nil ?_
            rcases ite_elim H with ⟨c128, H⟩ | ⟨c128, H⟩
            ·
             refine G.noB rfl (congrArg Bool.not (decide_eq_true c128)) ?_
             refine G.skip ?_
             refine G.seq ?_
             refine G.region ?_
             refine GO.assign rfl rfl rfl ?_
             refine GO.nil ?_
             refine G.seq ?_
             obtain ⟨t129, h130, H⟩ := Option.bind_eq_some_iff.1 H
             refine G.region ?_
             refine GO.ldBoxA (j := 5) ([.slice A40 t89.length c41, .int .i64 t37]) HS rfl rfl rfl rfl ag28 rfl ?_
             refine GO.move rfl rfl rfl ?_
             refine GO.fn rfl Try.func18 fok18.1 fok18.2 rfl rfl (laws_heldDiagram.calls HS (RdIn.own (j := 3) rfl) h130) (fun _ wd131 ⟨h132, HS⟩ => ⟨_, h132, ?_⟩)
             refine GO.assign rfl rfl rfl ?_
             refine GO.nil ?_
             refine G.seq ?_
             refine G.seq ?_
             refine G.region ?_
             refine GO.move rfl rfl rfl ?_
             refine GO.lss rfl rfl rfl rfl ?_
             refine GO.nil ?_
             rcases ite_elim H with ⟨c133, H⟩ | ⟨c133, H⟩
             ·
              refine G.yesB rfl (decide_eq_true c133) ?_
              refine G.seq ?_
              refine G.region ?_
              refine GO.assign rfl rfl rfl ?_
              refine GO.nil ?_
              obtain rfl := Option.some.inj H
              exact G.ret1 _ Try.func7 rfl rfl ⟨rfl, (HS.pick 12 [])⟩
             ·
              refine G.noB rfl (decide_eq_false c133) ?_
              refine G.skip ?_
              refine G.seq ?_
              refine G.seq ?_
              refine G.region ?_
              refine GO.move rfl rfl rfl ?_
              refine GO.move rfl rfl rfl ?_
              refine GO.neq rfl rfl rfl rfl ?_
              refine GO.nil ?_
              rcases ite_elim H with ⟨c134, H⟩ | ⟨c134, H⟩
              ·
               refine G.noB rfl (congrArg Bool.not (decide_eq_true c134)) ?_
               refine G.skip ?_
               refine G.seq ?_
               refine G.region ?_
               refine GO.assign rfl rfl rfl ?_
               refine GO.nil ?_
               obtain rfl := Option.some.inj H
               exact G.ret1 _ Try.func7 rfl rfl ⟨rfl, (HS.pick 12 [])⟩
              ·
               refine G.yesB rfl (congrArg Bool.not (decide_eq_false c134)) ?_
               refine G.seq ?_
               refine G.region ?_
               refine GO.assign rfl rfl rfl ?_
               refine GO.nil ?_
               obtain rfl := Option.some.inj H
               exact G.ret1 _ Try.func7 rfl rfl ⟨rfl, (HS.pick 12 [])⟩
            ·
             refine G.yesB rfl (congrArg Bool.not (decide_eq_false c128)) ?_
             refine G.seq ?_
             refine G.region ?_
             refine GO.assign rfl rfl rfl ?_
             refine GO.nil ?_
             obtain rfl := Option.some.inj H
             exact G.ret1 _ Try.func7 rfl rfl ⟨rfl, (HS.pick 12 [])⟩
           ·
            refine G.region ?_
            refine GO.ldBoxA (j := 0) ([.slice A111 t107.length c112, .int .i64 t108]) HS rfl rfl rfl rfl ag28 rfl ?_
            refine GO.ldBoxA (j := 7) ([.slice A19 t15.length c20, .int .i64 t16]) HS rfl rfl rfl rfl ag28 rfl ?_
            refine GO.fn rfl Try.func16 fok16.1 fok16.2 rfl rfl (laws_eqDiagram.calls HS (RdIn.own (j := 1) rfl) (RdIn.own (j := 8) rfl) h124) (fun _ wd125 ⟨h126, HS⟩ => ⟨_, h126, ?_⟩)
            refine GO.not rfl rfl rfl ?_
            refine GO.move rfl rfl rfl ?_
            refine GO.known (t := 88) rfl (congrArg Bool.not (bnot_of c127)) ?_
            refine GO.off rfl rfl rfl rfl rfl rfl ?_
            refine GO.off rfl rfl rfl rfl rfl rfl ?_
            refine GO.off rfl rfl rfl rfl rfl rfl ?_
            refine GO.pickT rfl rfl rfl rfl rfl ?_
            refine GO.nil ?_
            refine G.yesB rfl rfl ?_
            refine G.seq ?_
            refine G.region ?_
            refine GO.assign rfl rfl rfl ?_
            refine GO.nil ?_
            obtain rfl := Option.some.inj H
            exact G.ret1 _ Try.func7 rfl rfl ⟨rfl, (HS.pick 12 [])⟩
          ·
           refine G.yesB rfl (congrArg Bool.not (decide_eq_false c99)) ?_
           refine G.seq ?_
           refine G.region ?_
           refine GO.assign rfl rfl rfl ?_
           refine GO.nil ?_
           obtain rfl := Option.some.inj H
           exact G.ret1 _ Try.func7 rfl rfl ⟨rfl, (HS.pick 9 [])⟩
        ·
         refine G.region ?_
         refine GO.move rfl rfl rfl ?_
         refine GO.lss rfl rfl rfl rfl ?_
         refine GO.move rfl rfl rfl ?_
         refine GO.known (t := 55) rfl (decide_eq_false c82) ?_
         refine GO.on rfl rfl rfl rfl ?_
         refine GO.ldBoxA (j := 1) ([.slice A40 t36.length c41, .int .i64 t37]) HS rfl rfl rfl rfl ag28 rfl ?_
         refine GO.back ?_
         refine GO.on rfl rfl rfl rfl ?_
         refine GO.ldBoxA (j := 4) ([.slice A19 t15.length c20, .int .i64 t16]) HS rfl rfl rfl rfl ag28 rfl ?_
         refine GO.back ?_
         refine GO.on rfl rfl rfl rfl ?_
         refine GO.fn rfl Try.func16 fok16.1 fok16.2 rfl rfl (laws_eqDiagram.calls HS (RdIn.own (j := 2) rfl) (RdIn.own (j := 5) rfl) h84) (fun _ wd85 ⟨h86, HS⟩ => ⟨_, h86, ?_⟩)
         refine GO.back ?_
         refine GO.on rfl rfl rfl rfl ?_
         refine GO.not rfl rfl rfl ?_
         refine GO.back ?_
         refine GO.pickF rfl rfl rfl rfl rfl ?_
         refine GO.move rfl rfl rfl ?_
         refine GO.known (t := 61) rfl (congrArg Bool.not (bnot_of c87)) ?_
         refine GO.off rfl rfl rfl rfl rfl rfl ?_
         refine GO.off rfl rfl rfl rfl rfl rfl ?_
         refine GO.off rfl rfl rfl rfl rfl rfl ?_
         refine GO.pickT rfl rfl rfl rfl rfl ?_
         refine GO.nil ?_
         refine G.yesB rfl rfl ?_
         refine G.seq ?_
         refine G.region ?_
         refine GO.assign rfl rfl rfl ?_
         refine GO.nil ?_
         obtain rfl := Option.some.inj H
         exact G.ret1 _ Try.func7 rfl rfl ⟨rfl, (HS.pick 9 [])⟩
      ·
       refine G.yesB rfl (congrArg Bool.not (bnot_of c69)) ?_
       refine G.seq ?_
       refine G.region ?_
       refine GO.assign rfl rfl rfl ?_
       refine GO.nil ?_
       obtain rfl := Option.some.inj H
       exact G.ret1 _ Try.func7 rfl rfl ⟨rfl, (HS.pick 9 [])⟩
    ·
     refine G.yesB rfl (congrArg Bool.not (decide_eq_false c57)) ?_
     refine G.seq ?_
     refine G.region ?_
     refine GO.assign rfl rfl rfl ?_
     refine GO.nil ?_
     obtain rfl := Option.some.inj H
     exact G.ret1 _ Try.func7 rfl rfl ⟨rfl, (HS.pick 8 [])⟩
   ·
    refine G.region ?_
    refine GO.ldBoxA (j := 0) ([.slice A40 t36.length c41, .int .i64 t37]) HS rfl rfl rfl rfl ag28 rfl ?_
    refine GO.ldBoxA (j := 4) ([.slice A19 t15.length c20, .int .i64 t16]) HS rfl rfl rfl rfl ag28 rfl ?_
    refine GO.fn rfl Try.func16 fok16.1 fok16.2 rfl rfl (laws_eqDiagram.calls HS (RdIn.own (j := 1) rfl) (RdIn.own (j := 5) rfl) h53) (fun _ wd54 ⟨h55, HS⟩ => ⟨_, h55, ?_⟩)
    refine GO.not rfl rfl rfl ?_
    refine GO.move rfl rfl rfl ?_
    refine GO.known (t := 40) rfl (congrArg Bool.not (bnot_of c56)) ?_
    refine GO.off rfl rfl rfl rfl rfl rfl ?_
    refine GO.off rfl rfl rfl rfl rfl rfl ?_
    refine GO.off rfl rfl rfl rfl rfl rfl ?_
    refine GO.pickT rfl rfl rfl rfl rfl ?_
    refine GO.nil ?_
    refine G.yesB rfl rfl ?_
    refine G.seq ?_
    refine G.region ?_
    refine GO.assign rfl rfl rfl ?_
    refine GO.nil ?_
    obtain rfl := Option.some.inj H
    exact G.ret1 _ Try.func7 rfl rfl ⟨rfl, (HS.pick 8 [])⟩

end Go.Proofs.Ytdafmbaeiefacaa
