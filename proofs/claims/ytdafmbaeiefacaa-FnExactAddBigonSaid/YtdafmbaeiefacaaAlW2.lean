/-
  The walks through the functions: a call comes to what its list function says.
-/
import Derived.Test.YtdafmbaeiefacaaAlF
import Derived.Test.YtdafmbaeiefacaaAlW1
set_option linter.unusedVariables false
set_option linter.unusedSimpArgs false
namespace Go.Proofs.Ytdafmbaeiefacaa
open Go.RowKit
set_option maxRecDepth 20000 in
set_option maxHeartbeats 40000000 in
theorem impl_Diagram_other.calls {w0 w : World} {L : List HObj} {d_Crossings : List GCrossing} {d_Circles : Int} {a_from : List GEnd} {a_to : List GEnd} {e_crossing : Int} {e_position : Int} {A_d_Crossings : Option Addr} {c_d_Crossings : Nat} {A_a_from : Option Addr} {c_a_from : Nat} {A_a_to : Option Addr} {c_a_to : Nat} {r1 : Int} {r2 : Int} (HS : St w0 w (L)) (h_d_Crossings : RdIn w0 L T_GCrossing A_d_Crossings c_d_Crossings (fun _ => ()) d_Crossings) (h_a_from : RdIn w0 L T_GEnd A_a_from c_a_from (fun _ => ()) a_from) (h_a_to : RdIn w0 L T_GEnd A_a_to c_a_to (fun _ => ()) a_to) (H : impl_Diagram_other.f d_Crossings d_Circles a_from a_to e_crossing e_position = some (r1, r2)) :
    Calls Try.prog 161 #[.agg [.slice A_d_Crossings d_Crossings.length c_d_Crossings, .int .i64 d_Circles].toArray, .agg [.slice A_a_from a_from.length c_a_from, .slice A_a_to a_to.length c_a_to].toArray, .agg [.int .i64 e_crossing, .int .i64 e_position].toArray] w (impl_Diagram_other.post w0 L d_Crossings d_Circles a_from a_to e_crossing e_position A_d_Crossings c_d_Crossings A_a_from c_a_from A_a_to c_a_to r1 r2) := by
  unfold impl_Diagram_other.f at H
  refine Calls.of_G Try.func161 rfl rfl rfl ?_
  refine G.seq ?_
  refine G.region ?_
  refine GO.box (cs := [.slice A_d_Crossings d_Crossings.length c_d_Crossings, .int .i64 d_Circles]) HS rfl rfl rfl rfl ?_; intro b1 wd2 HS
  refine GO.box (cs := [.slice A_a_from a_from.length c_a_from, .slice A_a_to a_to.length c_a_to]) HS rfl rfl rfl rfl ?_; intro b3 wd4 HS
  refine GO.box (cs := [.int .i64 e_crossing, .int .i64 e_position]) HS rfl rfl rfl rfl ?_; intro b5 wd6 HS
  refine GO.alloc HS rfl zr68 rfl rfl ?_; intro b7 wd8 HS
  refine GO.nil ?_
  refine G.seq ?_
  obtain ⟨c9, H⟩ := ite_none H
  obtain ⟨e10, h11, H⟩ := bnd_elim H
  refine G.region ?_
  refine GO.fld (⟨b1, 0, none⟩) rfl rfl fl28_0 rfl rfl ?_
  refine GO.ldBox (j := 3) HS rfl rfl rfl rfl na26 rfl ?_
  refine GO.fld (⟨b5, 0, none⟩) rfl rfl fl68_0 rfl rfl ?_
  refine GO.ldBox (j := 1) HS rfl rfl rfl rfl na2 rfl ?_
  refine GO.ix rfl rfl rfl Try.underlying26 sz58 ((RdIn.drop 4 h_d_Crossings) _ HS).2.2.1 c9.1 c9.2 rfl ?_
  refine GO.ldRdA (T := T_GCrossing) (n := e_crossing.toNat) HS (RdIn.drop 4 h_d_Crossings) rfl rfl (getD_eq (ltN c9) h11) ag58 rfl ?_
  refine GO.alloc HS rfl zr58 rfl rfl ?_; intro b12 wd13 HS
  refine GO.stBox (j := 0) (vs := [.int .i64 e10.A, .int .i64 e10.B, .int .i64 e10.C, .int .i64 e10.D, .int .i64 e10.Sign]) ([.int .i64 e10.A, .int .i64 e10.B, .int .i64 e10.C, .int .i64 e10.D, .int .i64 e10.Sign]) HS rfl rfl rfl rfl rfl (htA ag58) rfl rfl rfl ?_; intro wd14 HS
  refine GO.nil ?_
  refine G.seq ?_
  obtain ⟨t15, t16, t17, t18, h19, H⟩ := bind4_elim H
  obtain ⟨c22, H⟩ := ite_none H
  refine G.regionAny mixed (by decide) (fun b a w => ∃ (Y1_0 : Value) (Y2_1 : Value) (Y3_2 : Value) (Y4_3 : Value) (Y5_4 : Value) (Y6_5 : Value), Sat 34 [(8, Y6_5), (15, Y1_0), (16, Y2_1), (17, Y3_2), (18, Y4_3), (19, Y5_4), (4, .pointer (some ⟨b3, 0, none⟩)), (5, .pointer (some ⟨b5, 0, none⟩)), (6, .pointer (some ⟨b7, 0, none⟩)), (7, .pointer (some ⟨b12, 0, none⟩))] a ∧ St w0 w (Box b12 58 [.int .i64 e10.A, .int .i64 e10.B, .int .i64 e10.C, .int .i64 e10.D, .int .i64 e10.Sign] :: Box b7 68 [.int .i64 0, .int .i64 0] :: Box b5 68 [.int .i64 e_crossing, .int .i64 e_position] :: Box b3 63 [.slice A_a_from a_from.length c_a_from, .slice A_a_to a_to.length c_a_to] :: Box b1 28 [.slice A_d_Crossings d_Crossings.length c_d_Crossings, .int .i64 d_Circles] :: L) ∧ (b 5 = true → Y6_5 = (.int .i64 (([t15, t16, t17, t18] : List Int).getD e_position.toNat 0))) ∧ (b 0 = true → Y1_0 = (.agg [.int .i64 e10.A, .int .i64 e10.B, .int .i64 e10.C, .int .i64 e10.D, .int .i64 e10.Sign].toArray)) ∧ (b 1 = true → Y2_1 = (.agg [.int .i64 t15, .int .i64 t16, .int .i64 t17, .int .i64 t18].toArray)) ∧ (b 2 = true → Y3_2 = (.pointer (some ⟨b5, 1, none⟩))) ∧ (b 3 = true → Y4_3 = (.int .i64 e_position)) ∧ (b 4 = true → Y5_4 = (.int .i64 (([t15, t16, t17, t18] : List Int).getD e_position.toNat 0)))) ?_ ?_ ?_
  ·
   intro a hs
   obtain ⟨Y6_5, hs⟩ := hs.ext (d := 8) rfl
   obtain ⟨Y1_0, hs⟩ := hs.ext (d := 15) rfl
   obtain ⟨Y2_1, hs⟩ := hs.ext (d := 16) rfl
   obtain ⟨Y3_2, hs⟩ := hs.ext (d := 17) rfl
   obtain ⟨Y4_3, hs⟩ := hs.ext (d := 18) rfl
   obtain ⟨Y5_4, hs⟩ := hs.ext (d := 19) rfl
   exact ⟨Y1_0, Y2_1, Y3_2, Y4_3, Y5_4, Y6_5, hs.weak ⟨rfl, rfl, rfl, rfl, rfl, rfl, rfl, rfl, rfl, rfl, trivial⟩, (HS.drew.pick 5 [0, 1, 2, 3, 4]), fun h => Bool.noConfusion h, fun h => Bool.noConfusion h, fun h => Bool.noConfusion h, fun h => Bool.noConfusion h, fun h => Bool.noConfusion h, fun h => Bool.noConfusion h⟩
  ·
   intro j hj b a w
   refine exI fun Y1_0 => exI fun Y2_1 => exI fun Y3_2 => exI fun Y4_3 => exI fun Y5_4 => exI fun Y6_5 => anI fun hs => anI fun HS => anI fun f5 => anI fun f0 => anI fun f1 => anI fun f2 => anI fun f3 => fun f4 hb hd hcl => ?_
   match j, hj with
   | 0, _ =>
    refine GO.at hs ?_
    refine GO.ldBoxA (j := 0) ([.int .i64 e10.A, .int .i64 e10.B, .int .i64 e10.C, .int .i64 e10.D, .int .i64 e10.Sign]) HS rfl rfl rfl rfl ag58 rfl ?_
    refine GO.fin (fun a hs => ?_)
    exact ⟨(.agg [.int .i64 e10.A, .int .i64 e10.B, .int .i64 e10.C, .int .i64 e10.D, .int .i64 e10.Sign].toArray), _, _, _, _, _, hs.weak ⟨rfl, rfl, rfl, rfl, rfl, rfl, rfl, rfl, rfl, rfl, trivial⟩, HS.pick 5 [0, 1, 2, 3, 4], f5, fun _ => rfl, f1, f2, f3, f4⟩
   | 1, _ =>
    have h0 : b 0 = true := hd 0 (by decide)
    obtain rfl := f0 h0
    refine GO.at hs ?_
    refine GO.fn rfl Try.func75 fok75.1 fok75.2 rfl rfl (impl_Crossing_ends.calls HS  h19) (fun _ wd20 ⟨h21, HS⟩ => ⟨_, h21, ?_⟩)
    refine GO.fin (fun a hs => ?_)
    exact ⟨_, (.agg [.int .i64 t15, .int .i64 t16, .int .i64 t17, .int .i64 t18].toArray), _, _, _, _, hs.weak ⟨rfl, rfl, rfl, rfl, rfl, rfl, rfl, rfl, rfl, rfl, trivial⟩, HS.pick 5 [0, 1, 2, 3, 4], f5, f0, fun _ => rfl, f2, f3, f4⟩
   | 2, _ =>
    refine GO.at hs ?_
    refine GO.fld (⟨b5, 1, none⟩) rfl rfl fl68_1 rfl rfl ?_
    refine GO.fin (fun a hs => ?_)
    exact ⟨_, _, (.pointer (some ⟨b5, 1, none⟩)), _, _, _, hs.weak ⟨rfl, rfl, rfl, rfl, rfl, rfl, rfl, rfl, rfl, rfl, trivial⟩, HS.pick 5 [0, 1, 2, 3, 4], f5, f0, f1, fun _ => rfl, f3, f4⟩
   | 3, _ =>
    have h2 : b 2 = true := hd 2 (by decide)
    obtain rfl := f2 h2
    refine GO.at hs ?_
    refine GO.ldBox (j := 2) HS rfl rfl rfl rfl na2 rfl ?_
    refine GO.fin (fun a hs => ?_)
    exact ⟨_, _, _, (.int .i64 e_position), _, _, hs.weak ⟨rfl, rfl, rfl, rfl, rfl, rfl, rfl, rfl, rfl, rfl, trivial⟩, HS.pick 5 [0, 1, 2, 3, 4], f5, f0, f1, f2, fun _ => rfl, f4⟩
   | 4, _ =>
    have h1 : b 1 = true := hd 1 (by decide)
    obtain rfl := f1 h1
    have h3 : b 3 = true := hd 3 (by decide)
    obtain rfl := f3 h3
    refine GO.at hs ?_
    refine GO.ixArr ([t15, t16, t17, t18] : List Int) rfl rfl rfl Try.underlying93 Try.underlying2 sz2 rfl c22.1 c22.2 rfl ?_
    refine GO.fin (fun a hs => ?_)
    exact ⟨_, _, _, _, (.int .i64 (([t15, t16, t17, t18] : List Int).getD e_position.toNat 0)), _, hs.weak ⟨rfl, rfl, rfl, rfl, rfl, rfl, rfl, rfl, rfl, rfl, trivial⟩, HS.pick 5 [0, 1, 2, 3, 4], f5, f0, f1, f2, f3, fun _ => rfl⟩
   | 5, _ =>
    have h4 : b 4 = true := hd 4 (by decide)
    obtain rfl := f4 h4
    refine GO.at hs ?_
    refine GO.assign rfl rfl rfl ?_
    refine GO.fin (fun a hs => ?_)
    exact ⟨_, _, _, _, _, (.int .i64 (([t15, t16, t17, t18] : List Int).getD e_position.toNat 0)), hs.weak ⟨rfl, rfl, rfl, rfl, rfl, rfl, rfl, rfl, rfl, rfl, trivial⟩, HS.pick 5 [0, 1, 2, 3, 4], fun _ => rfl, f0, f1, f2, f3, f4⟩
   | k + 6, hj => exact absurd hj (Nat.not_lt.2 (Nat.le_add_left 6 k))
  ·
   intro b a w hall
   refine exI fun Y1_0 => exI fun Y2_1 => exI fun Y3_2 => exI fun Y4_3 => exI fun Y5_4 => exI fun Y6_5 => anI fun hs => anI fun HS => anI fun f5 => anI fun f0 => anI fun f1 => anI fun f2 => anI fun f3 => fun f4 => ?_
   obtain rfl := f5 (hall 5 (by decide))
   obtain rfl := f0 (hall 0 (by decide))
   obtain rfl := f1 (hall 1 (by decide))
   obtain rfl := f2 (hall 2 (by decide))
   obtain rfl := f3 (hall 3 (by decide))
   obtain rfl := f4 (hall 4 (by decide))
   refine G.at hs ?_
   refine G.seq ?_
   refine G.seq ?_
   obtain ⟨t23, h24, H⟩ := Option.bind_eq_some_iff.1 H
   refine G.region ?_
   refine GO.ldBoxA (j := 0) ([.int .i64 e10.A, .int .i64 e10.B, .int .i64 e10.C, .int .i64 e10.D, .int .i64 e10.Sign]) HS rfl rfl rfl rfl ag58 rfl ?_
   refine GO.fld (⟨b5, 1, none⟩) rfl rfl fl68_1 rfl rfl ?_
   refine GO.ldBox (j := 2) HS rfl rfl rfl rfl na2 rfl ?_
   refine GO.fn rfl Try.func117 fok117.1 fok117.2 rfl rfl (impl_Crossing_enters.calls HS  h24) (fun _ wd25 ⟨h26, HS⟩ => ⟨_, h26, ?_⟩)
   refine GO.nil ?_
   rcases ite_elim H with ⟨c27, H⟩ | ⟨c27, H⟩
   ·
    refine G.yesB rfl c27 ?_
    refine G.seq ?_
    obtain ⟨c28, H⟩ := ite_none H
    obtain ⟨e29, h30, H⟩ := bnd_elim H
    refine G.region ?_
    refine GO.fld (⟨b3, 0, none⟩) rfl rfl fl63_0 rfl rfl ?_
    refine GO.ldBox (j := 3) HS rfl rfl rfl rfl na61 rfl ?_
    refine GO.move rfl rfl rfl ?_
    refine GO.ix rfl rfl rfl Try.underlying61 sz68 ((RdIn.drop 5 h_a_from) _ HS).2.2.1 c28.1 c28.2 rfl ?_
    refine GO.ldRdA (T := T_GEnd) (n := (([t15, t16, t17, t18] : List Int).getD e_position.toNat 0).toNat) HS (RdIn.drop 5 h_a_from) rfl rfl (getD_eq (ltN c28) h30) ag68 rfl ?_
    refine GO.stBox (j := 1) (vs := [.int .i64 e29.crossing, .int .i64 e29.position]) ([.int .i64 e29.crossing, .int .i64 e29.position]) HS rfl rfl rfl rfl rfl (htA ag68) rfl rfl rfl ?_; intro wd31 HS
    refine GO.nil ?_
    obtain ⟨rfl, rfl⟩ := some2 H
    exact G.ret1 _ Try.func161 rfl (Res1.boxA (j := 1) (vs := [.int .i64 e29.crossing, .int .i64 e29.position]) HS rfl rfl rfl ag68) ⟨rfl, (HS.pick 5 [])⟩
   ·
    refine G.noB rfl (bnot_of c27) ?_
    refine G.skip ?_
    refine G.seq ?_
    obtain ⟨c32, H⟩ := ite_none H
    obtain ⟨e33, h34, H⟩ := bnd_elim H
    refine G.region ?_
    refine GO.fld (⟨b3, 1, none⟩) rfl rfl fl63_1 rfl rfl ?_
    refine GO.ldBox (j := 3) HS rfl rfl rfl rfl na61 rfl ?_
    refine GO.move rfl rfl rfl ?_
    refine GO.ix rfl rfl rfl Try.underlying61 sz68 ((RdIn.drop 5 h_a_to) _ HS).2.2.1 c32.1 c32.2 rfl ?_
    refine GO.ldRdA (T := T_GEnd) (n := (([t15, t16, t17, t18] : List Int).getD e_position.toNat 0).toNat) HS (RdIn.drop 5 h_a_to) rfl rfl (getD_eq (ltN c32) h34) ag68 rfl ?_
    refine GO.stBox (j := 1) (vs := [.int .i64 e33.crossing, .int .i64 e33.position]) ([.int .i64 e33.crossing, .int .i64 e33.position]) HS rfl rfl rfl rfl rfl (htA ag68) rfl rfl rfl ?_; intro wd35 HS
    refine GO.nil ?_
    obtain ⟨rfl, rfl⟩ := some2 H
    exact G.ret1 _ Try.func161 rfl (Res1.boxA (j := 1) (vs := [.int .i64 e33.crossing, .int .i64 e33.position]) HS rfl rfl rfl ag68) ⟨rfl, (HS.pick 5 [])⟩

set_option maxRecDepth 20000 in
set_option maxHeartbeats 40000000 in
theorem impl_Diagram_regions.calls {w0 w : World} {L : List HObj} {K : Nat} {d_Crossings : List GCrossing} {d_Circles : Int} {a_from : List GEnd} {a_to : List GEnd} {A_d_Crossings : Option Addr} {c_d_Crossings : Nat} {A_a_from : Option Addr} {c_a_from : Nat} {A_a_to : Option Addr} {c_a_to : Nat} {r1 : List (List Int)} (HS : St w0 w (L)) (h_d_Crossings : RdIn w0 L T_GCrossing A_d_Crossings c_d_Crossings (fun _ => ()) d_Crossings) (h_a_from : RdIn w0 L T_GEnd A_a_from c_a_from (fun _ => ()) a_from) (h_a_to : RdIn w0 L T_GEnd A_a_to c_a_to (fun _ => ()) a_to) (H : impl_Diagram_regions.f K d_Crossings d_Circles a_from a_to = some r1) :
    Calls Try.prog 111 #[.agg [.slice A_d_Crossings d_Crossings.length c_d_Crossings, .int .i64 d_Circles].toArray, .agg [.slice A_a_from a_from.length c_a_from, .slice A_a_to a_to.length c_a_to].toArray] w (impl_Diagram_regions.post w0 L d_Crossings d_Circles a_from a_to A_d_Crossings c_d_Crossings A_a_from c_a_from A_a_to c_a_to r1) := by
  unfold impl_Diagram_regions.f at H
  refine Calls.of_G Try.func111 rfl rfl rfl ?_
  refine G.seq ?_
  refine G.region ?_
  refine GO.box (cs := [.slice A_d_Crossings d_Crossings.length c_d_Crossings, .int .i64 d_Circles]) HS rfl rfl rfl rfl ?_; intro b1 wd2 HS
  refine GO.box (cs := [.slice A_a_from a_from.length c_a_from, .slice A_a_to a_to.length c_a_to]) HS rfl rfl rfl rfl ?_; intro b3 wd4 HS
  refine GO.assign rfl rfl rfl ?_
  refine GO.nil ?_
  refine G.seq ?_
  refine G.region ?_
  refine GO.assign rfl rfl rfl ?_
  refine GO.nil ?_
  refine G.seq ?_
  obtain ⟨c5, H⟩ := ite_none H
  obtain ⟨c6, H⟩ := ite_none H
  refine G.region ?_
  refine GO.fld (⟨b1, 0, none⟩) rfl rfl fl28_0 rfl rfl ?_
  refine GO.ldBox (j := 1) HS rfl rfl rfl rfl na26 rfl ?_
  refine GO.lenS rfl rfl Try.underlying26 rfl ?_
  refine GO.mul rfl rfl rfl rfl ?_
  refine GO.make (T := TBool) false () HS flat_flat rfl rfl rfl Try.underlying83 inf4 rfl rfl rfl c5 c6 rfl ?_; intro b7 wd8 HS
  refine GO.assign rfl rfl rfl ?_
  refine GO.nil ?_
  refine G.seq ?_
  refine G.seq ?_
  refine G.region ?_
  refine GO.move rfl rfl rfl ?_
  refine GO.lenS rfl rfl Try.underlying83 rfl ?_
  refine GO.move rfl rfl rfl ?_
  refine GO.nil ?_
  refine G.block ?_
  refine G.loop ?_
  refine G.name (fun k_l1 hk_l1 => ?_)
  have at_l1 : ∀ m_l1, m_l1 ≤ K → ∀ (A82 : Option Addr) (c83 : Nat) (out_84 : List (List Int)) (y85 : Nat → (Ty.slice 2 (TInt .i64)).Lay) (seen_86 : List Bool) (x87 : Int) (w : World), impl_Diagram_regions.l1 K m_l1 d_Crossings d_Circles a_from a_to out_84 seen_86 x87 = some r1 → St w0 w (Box b1 28 [.slice A_d_Crossings d_Crossings.length c_d_Crossings, .int .i64 d_Circles] :: Box b3 63 [.slice A_a_from a_from.length c_a_from, .slice A_a_to a_to.length c_a_to] :: Own (Ty.slice 2 (TInt .i64)) 43 A82 c83 y85 out_84 :: Own TBool 4 (some ⟨b7, 0, none⟩) ((w64 (4 * (d_Crossings.length : Int))).toNat) (fun _ => ()) seen_86 :: L) → G Try.prog 111 58 [(2, .pointer (some ⟨b1, 0, none⟩)), (3, .pointer (some ⟨b3, 0, none⟩)), (5, .slice A82 out_84.length c83), (6, .slice (some ⟨b7, 0, none⟩) seen_86.length ((w64 (4 * (d_Crossings.length : Int))).toNat)), (17, .int .i64 ((List.replicate (w64 (4 * (d_Crossings.length : Int))).toNat false).length : Int)), (18, .int .i64 x87)] k_l1 w (impl_Diagram_regions.post w0 L d_Crossings d_Circles a_from a_to A_d_Crossings c_d_Crossings A_a_from c_a_from A_a_to c_a_to r1) := by
   intro m_l1
   induction m_l1 using Nat.strongRecOn with
   | _ m_l1 ih_l1 =>
    intro hm_l1 A82 c83 out_84 y85 seen_86 x87 w H HS
    cases m_l1 with
    | zero => rw [impl_Diagram_regions.l1] at H; cases H
    | succ n_l1 =>
     rw [impl_Diagram_regions.l1] at H
     subst hk_l1
     refine G.seq ?_
     refine G.region ?_
     refine GO.lss rfl rfl rfl rfl ?_
     refine GO.nil ?_
     refine G.seq ?_
     rcases ite_elim H with ⟨c161, H⟩ | ⟨c161, H⟩
     ·
      refine G.yesB rfl (decide_eq_true c161) ?_
      refine G.skip ?_
      refine G.seq ?_
      refine G.block ?_
      refine G.seq ?_
      refine G.region ?_
      refine GO.move rfl rfl rfl ?_
      refine GO.assign rfl rfl rfl ?_
      refine GO.nil ?_
      refine G.seq ?_
      refine G.region ?_
      refine GO.assign rfl rfl rfl ?_
      refine GO.nil ?_
      refine G.seq ?_
      refine G.seq ?_
      refine G.region ?_
      refine GO.move rfl rfl rfl ?_
      refine GO.assign rfl rfl rfl ?_
      refine GO.nil ?_
      refine G.block ?_
      refine G.loop ?_
      refine G.name (fun k_l4 hk_l4 => ?_)
      have at_l4 : ∀ m_l4, m_l4 ≤ n_l1 → ∀ (seen_179 : List Bool) (A180 : Option Addr) (c181 : Nat) (region_182 : List Int) (k_183 : Int) (w : World), impl_Diagram_regions.l4 K m_l4 d_Crossings d_Circles a_from a_to out_84 x87 seen_179 region_182 k_183 = some r1 → St w0 w (Box b1 28 [.slice A_d_Crossings d_Crossings.length c_d_Crossings, .int .i64 d_Circles] :: Box b3 63 [.slice A_a_from a_from.length c_a_from, .slice A_a_to a_to.length c_a_to] :: Own (Ty.slice 2 (TInt .i64)) 43 A82 c83 y85 out_84 :: Own TBool 4 (some ⟨b7, 0, none⟩) ((w64 (4 * (d_Crossings.length : Int))).toNat) (fun _ => ()) seen_179 :: Own (TInt .i64) 2 A180 c181 (fun _ => ()) region_182 :: L) → G Try.prog 111 58 [(2, .pointer (some ⟨b1, 0, none⟩)), (3, .pointer (some ⟨b3, 0, none⟩)), (5, .slice A82 out_84.length c83), (6, .slice (some ⟨b7, 0, none⟩) seen_179.length ((w64 (4 * (d_Crossings.length : Int))).toNat)), (8, .slice A180 region_182.length c181), (9, .int .i64 k_183), (17, .int .i64 ((List.replicate (w64 (4 * (d_Crossings.length : Int))).toNat false).length : Int)), (18, .int .i64 x87)] k_l4 w (impl_Diagram_regions.post w0 L d_Crossings d_Circles a_from a_to A_d_Crossings c_d_Crossings A_a_from c_a_from A_a_to c_a_to r1) := by
       intro m_l4
       induction m_l4 using Nat.strongRecOn with
       | _ m_l4 ih_l4 =>
        intro hm_l4 seen_179 A180 c181 region_182 k_183 w H HS
        cases m_l4 with
        | zero => rw [impl_Diagram_regions.l4] at H; cases H
        | succ n_l4 =>
         rw [impl_Diagram_regions.l4] at H
         subst hk_l4
         refine G.seq ?_
         refine G.seq ?_
         obtain ⟨c209, H⟩ := ite_none H
         refine G.region ?_
         refine GO.move rfl rfl rfl ?_
         refine GO.move rfl rfl rfl ?_
         refine GO.ix rfl rfl rfl Try.underlying83 sz4 (fun _ => ⟨_, _, rfl⟩) c209.1 c209.2 rfl ?_
         refine GO.ldRd (T := TBool) (n := k_183.toNat) (o := 0) HS (RdIn.own (j := 3) rfl) rfl rfl (getD_some (d := false) (ltN c209)) rfl rfl na4 rfl ?_
         refine GO.not rfl rfl rfl ?_
         refine GO.nil ?_
         rcases ite_elim H with ⟨c210, H⟩ | ⟨c210, H⟩
         ·
          refine G.noB rfl (congrArg Bool.not c210) ?_
          refine G.exit rfl ?_
          refine G.seq ?_
          refine G.region ?_
          refine GO.move rfl rfl rfl ?_
          refine GO.lenS rfl rfl Try.underlying43 rfl ?_
          refine GO.gtr rfl rfl rfl rfl ?_
          refine GO.nil ?_
          rcases ite_elim H with ⟨c211, H⟩ | ⟨c211, H⟩
          ·
           refine G.yesB rfl (decide_eq_true c211) ?_
           obtain ⟨c217, H⟩ := ite_none H
           refine G.region ?_
           refine GO.move rfl rfl rfl ?_
           refine GO.move rfl rfl rfl ?_
           refine GO.buildS (el := 43) ([.slice A180 region_182.length c181]) HS rfl rfl (fun _ => by kernel_rfl) rfl ?_; intro b212 wd213 HS
           replace HS := HS.pick 6 [3, 0, 5, 1, 2, 4]
           refine GO.appR (S := (TInt .i64)) (u := 2) HS rfl rfl rfl Try.underlying42 inf43 rfl rfl c217 rfl ?_; intro A215 c216 y218 wd214 HS
           refine GO.assign rfl rfl rfl ?_
           refine GO.nil ?_
           refine G.blockEnd ?_
           refine G.region ?_
           refine GO.add rfl rfl rfl rfl ?_
           refine GO.move rfl rfl rfl ?_
           refine GO.nil ?_
           refine G.again ?_
           refine G.weak ?_ (ih_l1 n_l4 (Nat.lt_succ_of_le (Nat.le_of_succ_le hm_l4)) (Nat.le_trans (Nat.le_of_succ_le hm_l4) (Nat.le_of_succ_le hm_l1)) _ _ _ _ _ _ _ H (HS.pick 5 [2, 3, 0, 4]))
           exact ⟨rfl, rfl, rfl, rfl, rfl, rfl, trivial⟩
          ·
           refine G.noB rfl (decide_eq_false c211) ?_
           refine G.skip ?_
           refine G.blockEnd ?_
           refine G.region ?_
           refine GO.add rfl rfl rfl rfl ?_
           refine GO.move rfl rfl rfl ?_
           refine GO.nil ?_
           refine G.again ?_
           refine G.weak ?_ (ih_l1 n_l4 (Nat.lt_succ_of_le (Nat.le_of_succ_le hm_l4)) (Nat.le_trans (Nat.le_of_succ_le hm_l4) (Nat.le_of_succ_le hm_l1)) _ _ _ _ _ _ _ H (HS.pick 5 [0, 1, 2, 3]))
           exact ⟨rfl, rfl, rfl, rfl, rfl, rfl, trivial⟩
         ·
          refine G.yesB rfl (congrArg Bool.not (bnot_of c210)) ?_
          refine G.skip ?_
          refine G.block ?_
          refine G.seq ?_
          refine G.region ?_
          refine GO.move rfl rfl rfl ?_
          refine GO.move rfl rfl rfl ?_
          refine GO.ix rfl rfl rfl Try.underlying83 sz4 (fun _ => ⟨_, _, rfl⟩) c209.1 c209.2 rfl ?_
          refine GO.stRow (T := TBool) (j := 3) (n := k_183.toNat) (o := 0) (vs := [.bool true]) true HS rfl flat_flat rfl rfl rfl rfl (htN na4 rfl) rfl (getD_some (d := false) (ltN c209)) rfl rfl ?_; intro wd219 HS
          refine GO.nil ?_
          refine G.len (t := 6) (m := (seen_179.set k_183.toNat true).length) rfl (by simp only [List.length_set] <;> rfl) ?_
          refine G.seq ?_
          obtain ⟨c225, H⟩ := ite_none H
          refine G.region ?_
          refine GO.move rfl rfl rfl ?_
          refine GO.move rfl rfl rfl ?_
          refine GO.buildS (el := 2) ([.int .i64 k_183]) HS rfl rfl (fun _ => by kernel_rfl) rfl ?_; intro b220 wd221 HS
          refine GO.app1 (T := (TInt .i64)) (j := 5) (jb := 0) k_183 HS rfl rfl flat_flat rfl rfl rfl Try.underlying43 inf2 rfl rfl rfl c225 rfl ?_; intro A223 c224 wd222 HS
          refine GO.assign rfl rfl rfl ?_
          refine GO.nil ?_
          refine G.seq ?_
          obtain ⟨t226, t227, h228, H⟩ := bind2_elim H
          refine G.region ?_
          refine GO.ldBoxA (j := 1) ([.slice A_d_Crossings d_Crossings.length c_d_Crossings, .int .i64 d_Circles]) HS rfl rfl rfl rfl ag28 rfl ?_
          refine GO.ldBoxA (j := 2) ([.slice A_a_from a_from.length c_a_from, .slice A_a_to a_to.length c_a_to]) HS rfl rfl rfl rfl ag63 rfl ?_
          refine GO.move rfl rfl rfl ?_
          refine GO.quo rfl rfl rfl (by decide) rfl ?_
          refine GO.move rfl rfl rfl ?_
          refine GO.add rfl rfl rfl rfl ?_
          refine GO.rem rfl rfl rfl (by decide) rfl ?_
          refine GO.buildV (.agg [.int .i64 (w64 (k_183.tdiv 4)), .int .i64 ((w64 (k_183 + 1)).tmod 4)].toArray) rfl rfl (fun _ => by kernel_rfl) rfl ?_
          refine GO.fn rfl Try.func161 fok161.1 fok161.2 rfl rfl (impl_Diagram_other.calls HS (RdIn.drop 6 h_d_Crossings) (RdIn.drop 6 h_a_from) (RdIn.drop 6 h_a_to) h228) (fun _ wd229 ⟨h230, HS⟩ => ⟨_, h230, ?_⟩)
          refine GO.alloc HS rfl zr68 rfl rfl ?_; intro b231 wd232 HS
          refine GO.stBox (j := 0) (vs := [.int .i64 t226, .int .i64 t227]) ([.int .i64 t226, .int .i64 t227]) HS rfl rfl rfl rfl rfl (htA ag68) rfl rfl rfl ?_; intro wd233 HS
          refine GO.nil ?_
          refine G.region ?_
          refine GO.fld (⟨b231, 0, none⟩) rfl rfl fl68_0 rfl rfl ?_
          refine GO.ldBox (j := 0) HS rfl rfl rfl rfl na2 rfl ?_
          refine GO.mul rfl rfl rfl rfl ?_
          refine GO.fld (⟨b231, 1, none⟩) rfl rfl fl68_1 rfl rfl ?_
          refine GO.ldBox (j := 0) HS rfl rfl rfl rfl na2 rfl ?_
          refine GO.add rfl rfl rfl rfl ?_
          refine GO.assign rfl rfl rfl ?_
          refine GO.nil ?_
          refine G.blockEnd ?_
          refine G.again ?_
          refine G.weak ?_ (ih_l4 n_l4 (Nat.lt_succ_of_le (Nat.le_refl _)) (Nat.le_of_succ_le hm_l4) _ _ _ _ _ _ H (HS.pick 7 [2, 3, 4, 5, 6]))
          exact ⟨rfl, rfl, rfl, rfl, rfl, rfl, rfl, rfl, trivial⟩
      replace HS := HS.nilRow (TInt .i64) 2 (fun _ => ())
      refine G.weak ?_ (at_l4 n_l1 (Nat.le_refl _) _ _ _ _ _ _ H (HS.pick 5 [1, 2, 3, 4, 0]))
      exact ⟨rfl, rfl, rfl, rfl, rfl, rfl, rfl, rfl, trivial⟩
     ·
      refine G.noB rfl (decide_eq_false c161) ?_
      refine G.exit rfl ?_
      refine G.seq ?_
      refine G.region ?_
      refine GO.move rfl rfl rfl ?_
      refine GO.assign rfl rfl rfl ?_
      refine GO.nil ?_
      obtain rfl := Option.some.inj H
      exact G.ret1 _ Try.func111 rfl rfl ⟨_, _, _, rfl, (HS.pick 4 [2])⟩
  replace HS := HS.nilRow (Ty.slice 2 (TInt .i64)) 43 (fun _ => ⟨none, 0, fun _ => ()⟩)
  refine G.weak ?_ (at_l1 K (Nat.le_refl _) _ _ _ _ _ _ _ H (HS.pick 4 [3, 2, 0, 1]))
  exact ⟨rfl, rfl, rfl, rfl, rfl, rfl, trivial⟩

set_option maxRecDepth 20000 in
set_option maxHeartbeats 40000000 in
theorem impl_size_int64.calls {w0 w : World} {L : List HObj} {list : List (List Int)} {A_list : Option Addr} {c_list : Nat} {y_list : Nat → (Ty.slice 2 (TInt .i64)).Lay} {r1 : Int} (HS : St w0 w (L)) (h_list : RdIn w0 L (Ty.slice 2 (TInt .i64)) A_list c_list y_list list) (H : impl_size_int64.f list = some r1) :
    Calls Try.prog 110 #[.slice A_list list.length c_list] w (impl_size_int64.post w0 L list A_list c_list y_list r1) := by
  unfold impl_size_int64.f at H
  refine Calls.of_G Try.func110 rfl rfl rfl ?_
  refine G.seq ?_
  refine G.region ?_
  refine GO.assign rfl rfl rfl ?_
  refine GO.nil ?_
  refine G.seq ?_
  refine G.region ?_
  refine GO.move rfl rfl rfl ?_
  refine GO.lenS rfl rfl Try.underlying42 rfl ?_
  refine GO.assign rfl rfl rfl ?_
  refine GO.nil ?_
  obtain rfl := Option.some.inj H
  exact G.ret1 _ Try.func110 rfl rfl ⟨rfl, HS⟩

set_option maxRecDepth 20000 in
set_option maxHeartbeats 40000000 in
theorem impl_counting.calls {w0 w : World} {L : List HObj} {K : Nat} {n_ : Int} {r1 : List Int} (HS : St w0 w (L)) (H : impl_counting.f K n_ = some r1) :
    Calls Try.prog 142 #[.int .i64 n_] w (impl_counting.post w0 L n_ r1) := by
  unfold impl_counting.f at H
  refine Calls.of_G Try.func142 rfl rfl rfl ?_
  refine G.seq ?_
  refine G.region ?_
  refine GO.assign rfl rfl rfl ?_
  refine GO.nil ?_
  refine G.seq ?_
  refine G.region ?_
  refine GO.assign rfl rfl rfl ?_
  refine GO.nil ?_
  refine G.seq ?_
  refine G.seq ?_
  refine G.region ?_
  refine GO.move rfl rfl rfl ?_
  refine GO.move rfl rfl rfl ?_
  refine GO.nil ?_
  refine G.block ?_
  refine G.loop ?_
  refine G.name (fun k_l1 hk_l1 => ?_)
  have at_l1 : ∀ m_l1, m_l1 ≤ K → ∀ (A8 : Option Addr) (c9 : Nat) (out_10 : List Int) (x11 : Int) (w : World), impl_counting.l1 K m_l1 n_ out_10 x11 = some r1 → St w0 w (Own (TInt .i64) 2 A8 c9 (fun _ => ()) out_10 :: L) → G Try.prog 142 15 [(3, .slice A8 out_10.length c9), (5, .int .i64 n_), (6, .int .i64 x11)] k_l1 w (impl_counting.post w0 L n_ r1) := by
   intro m_l1
   induction m_l1 using Nat.strongRecOn with
   | _ m_l1 ih_l1 =>
    intro hm_l1 A8 c9 out_10 x11 w H HS
    cases m_l1 with
    | zero => rw [impl_counting.l1] at H; cases H
    | succ n_l1 =>
     rw [impl_counting.l1] at H
     subst hk_l1
     refine G.seq ?_
     refine G.region ?_
     refine GO.lss rfl rfl rfl rfl ?_
     refine GO.nil ?_
     refine G.seq ?_
     rcases ite_elim H with ⟨c19, H⟩ | ⟨c19, H⟩
     ·
      refine G.yesB rfl (decide_eq_true c19) ?_
      refine G.skip ?_
      refine G.seq ?_
      refine G.block ?_
      refine G.seq ?_
      refine G.region ?_
      refine GO.move rfl rfl rfl ?_
      refine GO.assign rfl rfl rfl ?_
      refine GO.nil ?_
      obtain ⟨c25, H⟩ := ite_none H
      refine G.region ?_
      refine GO.move rfl rfl rfl ?_
      refine GO.move rfl rfl rfl ?_
      refine GO.buildS (el := 2) ([.int .i64 x11]) HS rfl rfl (fun _ => by kernel_rfl) rfl ?_; intro b20 wd21 HS
      refine GO.app1 (T := (TInt .i64)) (j := 1) (jb := 0) x11 HS rfl rfl flat_flat rfl rfl rfl Try.underlying43 inf2 rfl rfl rfl c25 rfl ?_; intro A23 c24 wd22 HS
      refine GO.assign rfl rfl rfl ?_
      refine GO.nil ?_
      refine G.blockEnd ?_
      refine G.region ?_
      refine GO.add rfl rfl rfl rfl ?_
      refine GO.move rfl rfl rfl ?_
      refine GO.nil ?_
      refine G.again ?_
      refine G.weak ?_ (ih_l1 n_l1 (Nat.lt_succ_of_le (Nat.le_refl _)) (Nat.le_of_succ_le hm_l1) _ _ _ _ _ H (HS.pick 2 [1]))
      exact ⟨rfl, rfl, rfl, trivial⟩
     ·
      refine G.noB rfl (decide_eq_false c19) ?_
      refine G.exit rfl ?_
      refine G.seq ?_
      refine G.region ?_
      refine GO.move rfl rfl rfl ?_
      refine GO.assign rfl rfl rfl ?_
      refine GO.nil ?_
      obtain rfl := Option.some.inj H
      exact G.ret1 _ Try.func142 rfl rfl ⟨_, _, rfl, HS⟩
  replace HS := HS.nilRow (TInt .i64) 2 (fun _ => ())
  refine G.weak ?_ (at_l1 K (Nat.le_refl _) _ _ _ _ _ H HS)
  exact ⟨rfl, rfl, rfl, trivial⟩

set_option maxRecDepth 20000 in
set_option maxHeartbeats 40000000 in
theorem impl_union.calls {w0 w : World} {L : List HObj} {K : Nat} {sets : List Int} {i : Int} {k_ : Int} {A_sets : Option Addr} {c_sets : Nat} {r1 : List Int} (HS : St w0 w (Own (TInt .i64) 2 A_sets c_sets (fun _ => ()) sets :: L)) (H : impl_union.f K sets i k_ = some r1) :
    Calls Try.prog 143 #[.slice A_sets sets.length c_sets, .int .i64 i, .int .i64 k_] w (impl_union.post w0 L sets i k_ A_sets c_sets r1) := by
  unfold impl_union.f at H
  refine Calls.of_G Try.func143 rfl rfl rfl ?_
  refine G.seq ?_
  obtain ⟨c1, H⟩ := ite_none H
  obtain ⟨c2, H⟩ := ite_none H
  refine G.regionAny mixed (by decide) (fun b a w => ∃ (Y1_0 : Value) (Y2_1 : Value) (Y3_2 : Value) (Y4_3 : Value) (Y5_4 : Value) (Y6_5 : Value) (Y7_6 : Value) (Y8_7 : Value) (Y9_8 : Value) (Y10_9 : Value), Sat 33 [(6, Y9_8), (7, Y10_9), (10, Y1_0), (11, Y2_1), (12, Y3_2), (13, Y4_3), (14, Y5_4), (15, Y6_5), (16, Y7_6), (17, Y8_7), (0, .slice A_sets sets.length c_sets), (1, .int .i64 i), (2, .int .i64 k_)] a ∧ St w0 w (Own (TInt .i64) 2 A_sets c_sets (fun _ => ()) sets :: L) ∧ (b 8 = true → Y9_8 = (.int .i64 (sets.getD k_.toNat 0))) ∧ (b 9 = true → Y10_9 = (.int .i64 (sets.getD i.toNat 0))) ∧ (b 0 = true → Y1_0 = (.slice A_sets sets.length c_sets)) ∧ (b 1 = true → Y2_1 = (.int .i64 k_)) ∧ (b 2 = true → Y3_2 = (.pointer (some (ea A_sets (k_.toNat * 1))))) ∧ (b 3 = true → Y4_3 = (.int .i64 (sets.getD k_.toNat 0))) ∧ (b 4 = true → Y5_4 = (.slice A_sets sets.length c_sets)) ∧ (b 5 = true → Y6_5 = (.int .i64 i)) ∧ (b 6 = true → Y7_6 = (.pointer (some (ea A_sets (i.toNat * 1))))) ∧ (b 7 = true → Y8_7 = (.int .i64 (sets.getD i.toNat 0)))) ?_ ?_ ?_
  ·
   intro a hs
   obtain ⟨Y9_8, hs⟩ := hs.ext (d := 6) rfl
   obtain ⟨Y10_9, hs⟩ := hs.ext (d := 7) rfl
   obtain ⟨Y1_0, hs⟩ := hs.ext (d := 10) rfl
   obtain ⟨Y2_1, hs⟩ := hs.ext (d := 11) rfl
   obtain ⟨Y3_2, hs⟩ := hs.ext (d := 12) rfl
   obtain ⟨Y4_3, hs⟩ := hs.ext (d := 13) rfl
   obtain ⟨Y5_4, hs⟩ := hs.ext (d := 14) rfl
   obtain ⟨Y6_5, hs⟩ := hs.ext (d := 15) rfl
   obtain ⟨Y7_6, hs⟩ := hs.ext (d := 16) rfl
   obtain ⟨Y8_7, hs⟩ := hs.ext (d := 17) rfl
   exact ⟨Y1_0, Y2_1, Y3_2, Y4_3, Y5_4, Y6_5, Y7_6, Y8_7, Y9_8, Y10_9, hs.weak ⟨rfl, rfl, rfl, rfl, rfl, rfl, rfl, rfl, rfl, rfl, rfl, rfl, rfl, trivial⟩, (HS.drew.pick 1 [0]), fun h => Bool.noConfusion h, fun h => Bool.noConfusion h, fun h => Bool.noConfusion h, fun h => Bool.noConfusion h, fun h => Bool.noConfusion h, fun h => Bool.noConfusion h, fun h => Bool.noConfusion h, fun h => Bool.noConfusion h, fun h => Bool.noConfusion h, fun h => Bool.noConfusion h⟩
  ·
   intro j hj b a w
   refine exI fun Y1_0 => exI fun Y2_1 => exI fun Y3_2 => exI fun Y4_3 => exI fun Y5_4 => exI fun Y6_5 => exI fun Y7_6 => exI fun Y8_7 => exI fun Y9_8 => exI fun Y10_9 => anI fun hs => anI fun HS => anI fun f8 => anI fun f9 => anI fun f0 => anI fun f1 => anI fun f2 => anI fun f3 => anI fun f4 => anI fun f5 => anI fun f6 => fun f7 hb hd hcl => ?_
   match j, hj with
   | 0, _ =>
    refine GO.at hs ?_
    refine GO.move rfl rfl rfl ?_
    refine GO.fin (fun a hs => ?_)
    exact ⟨(.slice A_sets sets.length c_sets), _, _, _, _, _, _, _, _, _, hs.weak ⟨rfl, rfl, rfl, rfl, rfl, rfl, rfl, rfl, rfl, rfl, rfl, rfl, rfl, trivial⟩, HS.pick 1 [0], f8, f9, fun _ => rfl, f1, f2, f3, f4, f5, f6, f7⟩
   | 1, _ =>
    refine GO.at hs ?_
    refine GO.move rfl rfl rfl ?_
    refine GO.fin (fun a hs => ?_)
    exact ⟨_, (.int .i64 k_), _, _, _, _, _, _, _, _, hs.weak ⟨rfl, rfl, rfl, rfl, rfl, rfl, rfl, rfl, rfl, rfl, rfl, rfl, rfl, trivial⟩, HS.pick 1 [0], f8, f9, f0, fun _ => rfl, f2, f3, f4, f5, f6, f7⟩
   | 2, _ =>
    have h0 : b 0 = true := hd 0 (by decide)
    obtain rfl := f0 h0
    have h1 : b 1 = true := hd 1 (by decide)
    obtain rfl := f1 h1
    refine GO.at hs ?_
    refine GO.ix rfl rfl rfl Try.underlying43 sz2 ((RdIn.own (j := 0) rfl) _ HS).2.2.1 c1.1 c1.2 rfl ?_
    refine GO.fin (fun a hs => ?_)
    exact ⟨_, _, (.pointer (some (ea A_sets (k_.toNat * 1)))), _, _, _, _, _, _, _, hs.weak ⟨rfl, rfl, rfl, rfl, rfl, rfl, rfl, rfl, rfl, rfl, rfl, rfl, rfl, trivial⟩, HS.pick 1 [0], f8, f9, f0, f1, fun _ => rfl, f3, f4, f5, f6, f7⟩
   | 3, _ =>
    have h2 : b 2 = true := hd 2 (by decide)
    obtain rfl := f2 h2
    refine GO.at hs ?_
    refine GO.ldRd (T := (TInt .i64)) (n := k_.toNat) (o := 0) HS (RdIn.own (j := 0) rfl) rfl rfl (getD_some (d := 0) (ltN c1)) rfl rfl na2 rfl ?_
    refine GO.fin (fun a hs => ?_)
    exact ⟨_, _, _, (.int .i64 (sets.getD k_.toNat 0)), _, _, _, _, _, _, hs.weak ⟨rfl, rfl, rfl, rfl, rfl, rfl, rfl, rfl, rfl, rfl, rfl, rfl, rfl, trivial⟩, HS.pick 1 [0], f8, f9, f0, f1, f2, fun _ => rfl, f4, f5, f6, f7⟩
   | 4, _ =>
    refine GO.at hs ?_
    refine GO.move rfl rfl rfl ?_
    refine GO.fin (fun a hs => ?_)
    exact ⟨_, _, _, _, (.slice A_sets sets.length c_sets), _, _, _, _, _, hs.weak ⟨rfl, rfl, rfl, rfl, rfl, rfl, rfl, rfl, rfl, rfl, rfl, rfl, rfl, trivial⟩, HS.pick 1 [0], f8, f9, f0, f1, f2, f3, fun _ => rfl, f5, f6, f7⟩
   | 5, _ =>
    refine GO.at hs ?_
    refine GO.move rfl rfl rfl ?_
    refine GO.fin (fun a hs => ?_)
    exact ⟨_, _, _, _, _, (.int .i64 i), _, _, _, _, hs.weak ⟨rfl, rfl, rfl, rfl, rfl, rfl, rfl, rfl, rfl, rfl, rfl, rfl, rfl, trivial⟩, HS.pick 1 [0], f8, f9, f0, f1, f2, f3, f4, fun _ => rfl, f6, f7⟩
   | 6, _ =>
    have h4 : b 4 = true := hd 4 (by decide)
    obtain rfl := f4 h4
    have h5 : b 5 = true := hd 5 (by decide)
    obtain rfl := f5 h5
    refine GO.at hs ?_
    refine GO.ix rfl rfl rfl Try.underlying43 sz2 ((RdIn.own (j := 0) rfl) _ HS).2.2.1 c2.1 c2.2 rfl ?_
    refine GO.fin (fun a hs => ?_)
    exact ⟨_, _, _, _, _, _, (.pointer (some (ea A_sets (i.toNat * 1)))), _, _, _, hs.weak ⟨rfl, rfl, rfl, rfl, rfl, rfl, rfl, rfl, rfl, rfl, rfl, rfl, rfl, trivial⟩, HS.pick 1 [0], f8, f9, f0, f1, f2, f3, f4, f5, fun _ => rfl, f7⟩
   | 7, _ =>
    have h6 : b 6 = true := hd 6 (by decide)
    obtain rfl := f6 h6
    refine GO.at hs ?_
    refine GO.ldRd (T := (TInt .i64)) (n := i.toNat) (o := 0) HS (RdIn.own (j := 0) rfl) rfl rfl (getD_some (d := 0) (ltN c2)) rfl rfl na2 rfl ?_
    refine GO.fin (fun a hs => ?_)
    exact ⟨_, _, _, _, _, _, _, (.int .i64 (sets.getD i.toNat 0)), _, _, hs.weak ⟨rfl, rfl, rfl, rfl, rfl, rfl, rfl, rfl, rfl, rfl, rfl, rfl, rfl, trivial⟩, HS.pick 1 [0], f8, f9, f0, f1, f2, f3, f4, f5, f6, fun _ => rfl⟩
   | 8, _ =>
    have h3 : b 3 = true := hd 3 (by decide)
    obtain rfl := f3 h3
    refine GO.at hs ?_
    refine GO.assign rfl rfl rfl ?_
    refine GO.fin (fun a hs => ?_)
    exact ⟨_, _, _, _, _, _, _, _, (.int .i64 (sets.getD k_.toNat 0)), _, hs.weak ⟨rfl, rfl, rfl, rfl, rfl, rfl, rfl, rfl, rfl, rfl, rfl, rfl, rfl, trivial⟩, HS.pick 1 [0], fun _ => rfl, f9, f0, f1, f2, f3, f4, f5, f6, f7⟩
   | 9, _ =>
    have h7 : b 7 = true := hd 7 (by decide)
    obtain rfl := f7 h7
    refine GO.at hs ?_
    refine GO.assign rfl rfl rfl ?_
    refine GO.fin (fun a hs => ?_)
    exact ⟨_, _, _, _, _, _, _, _, _, (.int .i64 (sets.getD i.toNat 0)), hs.weak ⟨rfl, rfl, rfl, rfl, rfl, rfl, rfl, rfl, rfl, rfl, rfl, rfl, rfl, trivial⟩, HS.pick 1 [0], f8, fun _ => rfl, f0, f1, f2, f3, f4, f5, f6, f7⟩
   | k + 10, hj => exact absurd hj (Nat.not_lt.2 (Nat.le_add_left 10 k))
  ·
   intro b a w hall
   refine exI fun Y1_0 => exI fun Y2_1 => exI fun Y3_2 => exI fun Y4_3 => exI fun Y5_4 => exI fun Y6_5 => exI fun Y7_6 => exI fun Y8_7 => exI fun Y9_8 => exI fun Y10_9 => anI fun hs => anI fun HS => anI fun f8 => anI fun f9 => anI fun f0 => anI fun f1 => anI fun f2 => anI fun f3 => anI fun f4 => anI fun f5 => anI fun f6 => fun f7 => ?_
   obtain rfl := f8 (hall 8 (by decide))
   obtain rfl := f9 (hall 9 (by decide))
   obtain rfl := f0 (hall 0 (by decide))
   obtain rfl := f1 (hall 1 (by decide))
   obtain rfl := f2 (hall 2 (by decide))
   obtain rfl := f3 (hall 3 (by decide))
   obtain rfl := f4 (hall 4 (by decide))
   obtain rfl := f5 (hall 5 (by decide))
   obtain rfl := f6 (hall 6 (by decide))
   obtain rfl := f7 (hall 7 (by decide))
   refine G.at hs ?_
   refine G.seq ?_
   refine G.region ?_
   refine GO.move rfl rfl rfl ?_
   refine GO.lenS rfl rfl Try.underlying43 rfl ?_
   refine GO.move rfl rfl rfl ?_
   refine GO.nil ?_
   refine G.block ?_
   refine G.loop ?_
   refine G.name (fun k_l1 hk_l1 => ?_)
   have at_l1 : ∀ m_l1, m_l1 ≤ K → ∀ (x7 : List Int) (x8 : Int) (w : World), impl_union.l1 K m_l1 sets i k_ x7 x8 = some r1 → St w0 w (Own (TInt .i64) 2 A_sets c_sets (fun _ => ()) x7 :: L) → G Try.prog 143 33 [(0, .slice A_sets x7.length c_sets), (6, .int .i64 (sets.getD k_.toNat 0)), (7, .int .i64 (sets.getD i.toNat 0)), (18, .slice A_sets x7.length c_sets), (19, .int .i64 (sets.length : Int)), (20, .int .i64 x8)] k_l1 w (impl_union.post w0 L sets i k_ A_sets c_sets r1) := by
    intro m_l1
    induction m_l1 using Nat.strongRecOn with
    | _ m_l1 ih_l1 =>
     intro hm_l1 x7 x8 w H HS
     cases m_l1 with
     | zero => rw [impl_union.l1] at H; cases H
     | succ n_l1 =>
      rw [impl_union.l1] at H
      subst hk_l1
      refine G.seq ?_
      refine G.region ?_
      refine GO.lss rfl rfl rfl rfl ?_
      refine GO.nil ?_
      refine G.seq ?_
      rcases ite_elim H with ⟨c13, H⟩ | ⟨c13, H⟩
      ·
       refine G.yesB rfl (decide_eq_true c13) ?_
       refine G.skip ?_
       refine G.seq ?_
       refine G.block ?_
       refine G.seq ?_
       obtain ⟨c14, H⟩ := ite_none H
       refine G.region ?_
       refine GO.move rfl rfl rfl ?_
       refine GO.ix rfl rfl rfl Try.underlying43 sz2 ((RdIn.own (j := 0) rfl) _ HS).2.2.1 c14.1 c14.2 rfl ?_
       refine GO.ldRd (T := (TInt .i64)) (n := x8.toNat) (o := 0) HS (RdIn.own (j := 0) rfl) rfl rfl (getD_some (d := 0) (ltN c14)) rfl rfl na2 rfl ?_
       refine GO.assign rfl rfl rfl ?_
       refine GO.assign rfl rfl rfl ?_
       refine GO.nil ?_
       refine G.seq ?_
       refine G.region ?_
       refine GO.move rfl rfl rfl ?_
       refine GO.move rfl rfl rfl ?_
       refine GO.eql rfl rfl rfl rfl ?_
       refine GO.nil ?_
       rcases ite_elim H with ⟨c15, H⟩ | ⟨c15, H⟩
       ·
        refine G.yesB rfl (decide_eq_true c15) ?_
        refine G.region ?_
        refine GO.move rfl rfl rfl ?_
        refine GO.move rfl rfl rfl ?_
        refine GO.move rfl rfl rfl ?_
        refine GO.ix rfl rfl rfl Try.underlying43 sz2 ((RdIn.own (j := 0) rfl) _ HS).2.2.1 c14.1 c14.2 rfl ?_
        refine GO.stRow (T := (TInt .i64)) (j := 0) (n := x8.toNat) (o := 0) (vs := [.int .i64 (sets.getD i.toNat 0)]) (sets.getD i.toNat 0) HS rfl flat_flat rfl rfl rfl rfl (htN na2 rfl) rfl (getD_some (d := 0) (ltN c14)) rfl rfl ?_; intro wd16 HS
        refine GO.nil ?_
        refine G.len (t := 0) (m := (x7.set x8.toNat (sets.getD i.toNat 0)).length) rfl (by simp only [List.length_set] <;> rfl) ?_
        refine G.len (t := 18) (m := (x7.set x8.toNat (sets.getD i.toNat 0)).length) rfl (by simp only [List.length_set] <;> rfl) ?_
        refine G.blockEnd ?_
        refine G.region ?_
        refine GO.add rfl rfl rfl rfl ?_
        refine GO.move rfl rfl rfl ?_
        refine GO.nil ?_
        refine G.again ?_
        refine G.weak ?_ (ih_l1 n_l1 (Nat.lt_succ_of_le (Nat.le_refl _)) (Nat.le_of_succ_le hm_l1) _ _ _ H HS)
        exact ⟨rfl, rfl, rfl, rfl, rfl, rfl, trivial⟩
       ·
        refine G.noB rfl (decide_eq_false c15) ?_
        refine G.skip ?_
        refine G.blockEnd ?_
        refine G.region ?_
        refine GO.add rfl rfl rfl rfl ?_
        refine GO.move rfl rfl rfl ?_
        refine GO.nil ?_
        refine G.again ?_
        refine G.weak ?_ (ih_l1 n_l1 (Nat.lt_succ_of_le (Nat.le_refl _)) (Nat.le_of_succ_le hm_l1) _ _ _ H HS)
        exact ⟨rfl, rfl, rfl, rfl, rfl, rfl, trivial⟩
      ·
       refine G.noB rfl (decide_eq_false c13) ?_
       refine G.exit rfl ?_
       obtain rfl := Option.some.inj H
       exact G.end0 Try.func143 rfl ⟨rfl, HS⟩
   refine G.weak ?_ (at_l1 K (Nat.le_refl _) _ _ _ H HS)
   exact ⟨rfl, rfl, rfl, rfl, rfl, rfl, trivial⟩

set_option maxRecDepth 20000 in
set_option maxHeartbeats 40000000 in
theorem impl_numbered.calls {w0 w : World} {L : List HObj} {K : Nat} {roots : List Int} {A_roots : Option Addr} {c_roots : Nat} {r1 : List Int} (HS : St w0 w (L)) (h_roots : RdIn w0 L (TInt .i64) A_roots c_roots (fun _ => ()) roots) (H : impl_numbered.f K roots = some r1) :
    Calls Try.prog 144 #[.slice A_roots roots.length c_roots] w (impl_numbered.post w0 L roots A_roots c_roots r1) := by
  unfold impl_numbered.f at H
  refine Calls.of_G Try.func144 rfl rfl rfl ?_
  refine G.seq ?_
  refine G.region ?_
  refine GO.assign rfl rfl rfl ?_
  refine GO.nil ?_
  refine G.seq ?_
  refine G.region ?_
  refine GO.newMapJ .i64 .i64 HS rfl rfl ?_; intro b1 wd2 HS
  refine GO.assign rfl rfl rfl ?_
  refine GO.nil ?_
  refine G.seq ?_
  refine G.region ?_
  refine GO.assign rfl rfl rfl ?_
  refine GO.nil ?_
  refine G.seq ?_
  refine G.seq ?_
  refine G.region ?_
  refine GO.move rfl rfl rfl ?_
  refine GO.lenS rfl rfl Try.underlying43 rfl ?_
  refine GO.move rfl rfl rfl ?_
  refine GO.nil ?_
  refine G.block ?_
  refine G.loop ?_
  refine G.name (fun k_l1 hk_l1 => ?_)
  have at_l1 : ∀ m_l1, m_l1 ≤ K → ∀ (numbers_16 : List (Int × Int)) (A17 : Option Addr) (c18 : Nat) (out_19 : List Int) (x20 : Int) (w : World), impl_numbered.l1 K m_l1 roots numbers_16 out_19 x20 = some r1 → St w0 w (MapJ b1 .i64 .i64 numbers_16 :: Own (TInt .i64) 2 A17 c18 (fun _ => ()) out_19 :: L) → G Try.prog 144 36 [(3, .map (some b1)), (4, .slice A17 out_19.length c18), (10, .slice A_roots roots.length c_roots), (11, .int .i64 (roots.length : Int)), (12, .int .i64 x20)] k_l1 w (impl_numbered.post w0 L roots A_roots c_roots r1) := by
   intro m_l1
   induction m_l1 using Nat.strongRecOn with
   | _ m_l1 ih_l1 =>
    intro hm_l1 numbers_16 A17 c18 out_19 x20 w H HS
    cases m_l1 with
    | zero => rw [impl_numbered.l1] at H; cases H
    | succ n_l1 =>
     rw [impl_numbered.l1] at H
     subst hk_l1
     refine G.seq ?_
     refine G.region ?_
     refine GO.lss rfl rfl rfl rfl ?_
     refine GO.nil ?_
     refine G.seq ?_
     rcases ite_elim H with ⟨c34, H⟩ | ⟨c34, H⟩
     ·
      refine G.yesB rfl (decide_eq_true c34) ?_
      refine G.skip ?_
      refine G.seq ?_
      refine G.block ?_
      refine G.seq ?_
      obtain ⟨c35, H⟩ := ite_none H
      refine G.region ?_
      refine GO.ix rfl rfl rfl Try.underlying43 sz2 ((RdIn.drop 2 h_roots) _ HS).2.2.1 c35.1 c35.2 rfl ?_
      refine GO.ldRd (T := (TInt .i64)) (n := x20.toNat) (o := 0) HS (RdIn.drop 2 h_roots) rfl rfl (getD_some (d := 0) (ltN c35)) rfl rfl na2 rfl ?_
      refine GO.assign rfl rfl rfl ?_
      refine GO.nil ?_
      refine G.seq ?_
      refine G.seq ?_
      refine G.region ?_
      refine GO.move rfl rfl rfl ?_
      refine GO.move rfl rfl rfl ?_
      refine GO.lookOkJ (j := 0) HS rfl rfl rfl rfl Try.underlying130 Try.underlying2 zr2 rfl ?_
      refine GO.move rfl rfl rfl ?_
      refine GO.extract rfl rfl rfl rfl ?_
      refine GO.extract rfl rfl rfl rfl ?_
      refine GO.assign rfl rfl rfl ?_
      refine GO.assign rfl rfl rfl ?_
      refine GO.nil ?_
      refine G.seq ?_
      refine G.region ?_
      refine GO.move rfl rfl rfl ?_
      refine GO.not rfl rfl rfl ?_
      refine GO.nil ?_
      refine G.nameT (fun k_j4 hk_j4 => ?_)
      have at_j4 : ∀ m_j4, m_j4 ≤ n_l1 → ∀ (numbers_38 : List (Int × Int)) (w : World), impl_numbered.j4 K m_j4 roots out_19 x20 numbers_38 = some r1 → St w0 w (MapJ b1 .i64 .i64 numbers_38 :: Own (TInt .i64) 2 A17 c18 (fun _ => ()) out_19 :: L) → G Try.prog 144 36 [(3, .map (some b1)), (4, .slice A17 out_19.length c18), (6, .int .i64 (roots.getD x20.toNat 0)), (10, .slice A_roots roots.length c_roots), (11, .int .i64 (roots.length : Int)), (12, .int .i64 x20)] k_j4 w (impl_numbered.post w0 L roots A_roots c_roots r1) := by
       intro m_j4 hm_j4 numbers_38 w H HS
       cases m_j4 with
       | zero => rw [impl_numbered.j4] at H; cases H
       | succ n_j4 =>
        rw [impl_numbered.j4] at H
        subst hk_j4
        obtain ⟨c44, H⟩ := ite_none H
        refine G.region ?_
        refine GO.move rfl rfl rfl ?_
        refine GO.move rfl rfl rfl ?_
        refine GO.move rfl rfl rfl ?_
        refine GO.lookJ (j := 0) HS rfl rfl rfl rfl Try.underlying130 Try.underlying2 zr2 rfl ?_
        refine GO.buildS (el := 2) ([.int .i64 ((mget numbers_38 (roots.getD x20.toNat 0)).getD 0)]) HS rfl rfl (fun _ => by kernel_rfl) rfl ?_; intro b39 wd40 HS
        refine GO.app1 (T := (TInt .i64)) (j := 2) (jb := 0) ((mget numbers_38 (roots.getD x20.toNat 0)).getD 0) HS rfl rfl flat_flat rfl rfl rfl Try.underlying43 inf2 rfl rfl rfl c44 rfl ?_; intro A42 c43 wd41 HS
        refine GO.assign rfl rfl rfl ?_
        refine GO.nil ?_
        refine G.blockEnd ?_
        refine G.region ?_
        refine GO.add rfl rfl rfl rfl ?_
        refine GO.move rfl rfl rfl ?_
        refine GO.nil ?_
        refine G.again ?_
        refine G.weak ?_ (ih_l1 n_j4 (Nat.lt_succ_of_le (Nat.le_of_succ_le hm_j4)) (Nat.le_trans (Nat.le_of_succ_le hm_j4) (Nat.le_of_succ_le hm_l1)) _ _ _ _ _ _ H (HS.pick 3 [1, 2]))
        exact ⟨rfl, rfl, rfl, rfl, rfl, trivial⟩
      rcases ite_elim H with ⟨c45, H⟩ | ⟨c45, H⟩
      ·
       refine G.noB rfl (congrArg Bool.not c45) ?_
       refine G.skip ?_
       refine G.weak ?_ (at_j4 n_l1 (Nat.le_refl _) _ _ H HS)
       exact ⟨rfl, rfl, rfl, rfl, rfl, rfl, trivial⟩
      ·
       refine G.yesB rfl (congrArg Bool.not (bnot_of c45)) ?_
       refine G.region ?_
       refine GO.move rfl rfl rfl ?_
       refine GO.move rfl rfl rfl ?_
       refine GO.move rfl rfl rfl ?_
       refine GO.lenMJ (j := 0) HS rfl rfl rfl Try.underlying130 rfl ?_
       refine GO.putMJ (j := 0) HS rfl rfl rfl rfl rfl Try.underlying130 Try.underlying2 ?_; intro wd46 HS
       refine GO.nil ?_
       refine G.weak ?_ (at_j4 n_l1 (Nat.le_refl _) _ _ H HS)
       exact ⟨rfl, rfl, rfl, rfl, rfl, rfl, trivial⟩
     ·
      refine G.noB rfl (decide_eq_false c34) ?_
      refine G.exit rfl ?_
      refine G.seq ?_
      refine G.region ?_
      refine GO.move rfl rfl rfl ?_
      refine GO.assign rfl rfl rfl ?_
      refine GO.nil ?_
      obtain rfl := Option.some.inj H
      exact G.ret1 _ Try.func144 rfl rfl ⟨_, _, rfl, (HS.pick 2 [1])⟩
  replace HS := HS.nilRow (TInt .i64) 2 (fun _ => ())
  refine G.weak ?_ (at_l1 K (Nat.le_refl _) _ _ _ _ _ _ H (HS.pick 2 [1, 0]))
  exact ⟨rfl, rfl, rfl, rfl, rfl, trivial⟩

set_option maxRecDepth 20000 in
set_option maxHeartbeats 40000000 in
theorem impl_Diagram_parts.calls {w0 w : World} {L : List HObj} {K : Nat} {d_Crossings : List GCrossing} {d_Circles : Int} {a_from : List GEnd} {a_to : List GEnd} {A_d_Crossings : Option Addr} {c_d_Crossings : Nat} {A_a_from : Option Addr} {c_a_from : Nat} {A_a_to : Option Addr} {c_a_to : Nat} {r1 : List Int} (HS : St w0 w (L)) (h_d_Crossings : RdIn w0 L T_GCrossing A_d_Crossings c_d_Crossings (fun _ => ()) d_Crossings) (h_a_from : RdIn w0 L T_GEnd A_a_from c_a_from (fun _ => ()) a_from) (h_a_to : RdIn w0 L T_GEnd A_a_to c_a_to (fun _ => ()) a_to) (H : impl_Diagram_parts.f K d_Crossings d_Circles a_from a_to = some r1) :
    Calls Try.prog 85 #[.agg [.slice A_d_Crossings d_Crossings.length c_d_Crossings, .int .i64 d_Circles].toArray, .agg [.slice A_a_from a_from.length c_a_from, .slice A_a_to a_to.length c_a_to].toArray] w (impl_Diagram_parts.post w0 L d_Crossings d_Circles a_from a_to A_d_Crossings c_d_Crossings A_a_from c_a_from A_a_to c_a_to r1) := by
  unfold impl_Diagram_parts.f at H
  refine Calls.of_G Try.func85 rfl rfl rfl ?_
  refine G.seq ?_
  refine G.region ?_
  refine GO.box (cs := [.slice A_d_Crossings d_Crossings.length c_d_Crossings, .int .i64 d_Circles]) HS rfl rfl rfl rfl ?_; intro b1 wd2 HS
  refine GO.box (cs := [.slice A_a_from a_from.length c_a_from, .slice A_a_to a_to.length c_a_to]) HS rfl rfl rfl rfl ?_; intro b3 wd4 HS
  refine GO.assign rfl rfl rfl ?_
  refine GO.nil ?_
  refine G.seq ?_
  obtain ⟨t5, h6, H⟩ := Option.bind_eq_some_iff.1 H
  obtain ⟨t9, h10, H⟩ := Option.bind_eq_some_iff.1 H
  refine G.region ?_
  refine GO.fld (⟨b1, 0, none⟩) rfl rfl fl28_0 rfl rfl ?_
  refine GO.ldBox (j := 1) HS rfl rfl rfl rfl na26 rfl ?_
  refine GO.fn rfl Try.func56 fok56.1 fok56.2 rfl rfl (impl_size_impl_Crossing.calls HS (RdIn.drop 2 h_d_Crossings) h6) (fun _ wd7 ⟨h8, HS⟩ => ⟨_, h8, ?_⟩)
  refine GO.fn rfl Try.func142 fok142.1 fok142.2 rfl rfl (impl_counting.calls HS  h10) (fun _ wd13 ⟨A11, c12, h14, HS⟩ => ⟨_, h14, ?_⟩)
  refine GO.assign rfl rfl rfl ?_
  refine GO.nil ?_
  refine G.seq ?_
  refine G.seq ?_
  refine G.region ?_
  refine GO.fld (⟨b3, 0, none⟩) rfl rfl fl63_0 rfl rfl ?_
  refine GO.ldBox (j := 1) HS rfl rfl rfl rfl na61 rfl ?_
  refine GO.lenS rfl rfl Try.underlying61 rfl ?_
  refine GO.move rfl rfl rfl ?_
  refine GO.nil ?_
  refine G.block ?_
  refine G.loop ?_
  refine G.name (fun k_l1 hk_l1 => ?_)
  have at_l1 : ∀ m_l1, m_l1 ≤ K → ∀ (sets_36 : List Int) (x37 : Int) (w : World), impl_Diagram_parts.l1 K m_l1 a_from a_to sets_36 x37 = some r1 → St w0 w (Box b3 63 [.slice A_a_from a_from.length c_a_from, .slice A_a_to a_to.length c_a_to] :: Own (TInt .i64) 2 A11 c12 (fun _ => ()) sets_36 :: L) → G Try.prog 85 33 [(3, .pointer (some ⟨b3, 0, none⟩)), (5, .slice A11 sets_36.length c12), (13, .slice A_a_from a_from.length c_a_from), (14, .int .i64 (a_from.length : Int)), (15, .int .i64 x37)] k_l1 w (impl_Diagram_parts.post w0 L d_Crossings d_Circles a_from a_to A_d_Crossings c_d_Crossings A_a_from c_a_from A_a_to c_a_to r1) := by
   intro m_l1
   induction m_l1 using Nat.strongRecOn with
   | _ m_l1 ih_l1 =>
    intro hm_l1 sets_36 x37 w H HS
    cases m_l1 with
    | zero => rw [impl_Diagram_parts.l1] at H; cases H
    | succ n_l1 =>
     rw [impl_Diagram_parts.l1] at H
     subst hk_l1
     refine G.seq ?_
     refine G.region ?_
     refine GO.lss rfl rfl rfl rfl ?_
     refine GO.nil ?_
     refine G.seq ?_
     rcases ite_elim H with ⟨c59, H⟩ | ⟨c59, H⟩
     ·
      refine G.yesB rfl (decide_eq_true c59) ?_
      refine G.skip ?_
      refine G.seq ?_
      refine G.block ?_
      refine G.seq ?_
      obtain ⟨c60, H⟩ := ite_none H
      obtain ⟨e61, h62, H⟩ := bnd_elim H
      refine G.region ?_
      refine GO.move rfl rfl rfl ?_
      refine GO.ix rfl rfl rfl Try.underlying61 sz68 ((RdIn.drop 2 h_a_from) _ HS).2.2.1 c60.1 c60.2 rfl ?_
      refine GO.ldRdA (T := T_GEnd) (n := x37.toNat) HS (RdIn.drop 2 h_a_from) rfl rfl (getD_eq (ltN c60) h62) ag68 rfl ?_
      refine GO.alloc HS rfl zr68 rfl rfl ?_; intro b63 wd64 HS
      refine GO.assign rfl rfl rfl ?_
      refine GO.stBox (j := 0) (vs := [.int .i64 e61.crossing, .int .i64 e61.position]) ([.int .i64 e61.crossing, .int .i64 e61.position]) HS rfl rfl rfl rfl rfl (htA ag68) rfl rfl rfl ?_; intro wd65 HS
      refine GO.nil ?_
      obtain ⟨c66, H⟩ := ite_none H
      obtain ⟨e67, h68, H⟩ := bnd_elim H
      obtain ⟨t69, h70, H⟩ := Option.bind_eq_some_iff.1 H
      obtain ⟨c71, H⟩ := ite_none H
      refine G.regionAny mixed (by decide) (fun b a w => ∃ (Y1_0 : Value) (Y2_1 : Value) (Y3_2 : Value) (Y4_3 : Value) (Y5_4 : Value) (Y6_5 : Value) (Y7_6 : Value) (Y8_7 : Value) (Y9_8 : Value) (Y10_9 : Value) (O11_5 : HObj), Sat 33 [(20, Y1_0), (21, Y2_1), (22, Y3_2), (23, Y4_3), (24, Y5_4), (25, Y6_5), (26, Y7_6), (27, Y8_7), (28, Y9_8), (29, Y10_9), (3, .pointer (some ⟨b3, 0, none⟩)), (5, .slice A11 sets_36.length c12), (6, .int .i64 x37), (7, .pointer (some ⟨b63, 0, none⟩)), (13, .slice A_a_from a_from.length c_a_from), (14, .int .i64 (a_from.length : Int)), (15, .int .i64 x37)] a ∧ St w0 w (Box b63 68 [.int .i64 e61.crossing, .int .i64 e61.position] :: Box b3 63 [.slice A_a_from a_from.length c_a_from, .slice A_a_to a_to.length c_a_to] :: O11_5 :: L) ∧ (b 0 = true → Y1_0 = (.slice A11 sets_36.length c12)) ∧ (b 1 = true → Y2_1 = (.pointer (some ⟨b63, 0, none⟩))) ∧ (b 2 = true → Y3_2 = (.int .i64 e61.crossing)) ∧ (b 3 = true → Y4_3 = (.pointer (some ⟨b3, 1, none⟩))) ∧ (b 4 = true → Y5_4 = (.slice A_a_to a_to.length c_a_to)) ∧ (b 5 = true → Y6_5 = (.int .i64 x37)) ∧ (b 6 = true → Y7_6 = (.pointer (some (ea A_a_to (x37.toNat * 2))))) ∧ (b 7 = true → Y8_7 = (.pointer (some (ea A_a_to (x37.toNat * 2))))) ∧ (b 8 = true → Y9_8 = (.int .i64 e67.crossing)) ∧ (b 9 = true → Y10_9 = (.tuple #[])) ∧ (b 9 = false → O11_5 = Own (TInt .i64) 2 A11 c12 (fun _ => ()) sets_36) ∧ (b 9 = true → O11_5 = Own (TInt .i64) 2 A11 c12 (fun _ => ()) t69)) ?_ ?_ ?_
      ·
       intro a hs
       obtain ⟨Y1_0, hs⟩ := hs.ext (d := 20) rfl
       obtain ⟨Y2_1, hs⟩ := hs.ext (d := 21) rfl
       obtain ⟨Y3_2, hs⟩ := hs.ext (d := 22) rfl
       obtain ⟨Y4_3, hs⟩ := hs.ext (d := 23) rfl
       obtain ⟨Y5_4, hs⟩ := hs.ext (d := 24) rfl
       obtain ⟨Y6_5, hs⟩ := hs.ext (d := 25) rfl
       obtain ⟨Y7_6, hs⟩ := hs.ext (d := 26) rfl
       obtain ⟨Y8_7, hs⟩ := hs.ext (d := 27) rfl
       obtain ⟨Y9_8, hs⟩ := hs.ext (d := 28) rfl
       obtain ⟨Y10_9, hs⟩ := hs.ext (d := 29) rfl
       exact ⟨Y1_0, Y2_1, Y3_2, Y4_3, Y5_4, Y6_5, Y7_6, Y8_7, Y9_8, Y10_9, Own (TInt .i64) 2 A11 c12 (fun _ => ()) sets_36, hs.weak ⟨rfl, rfl, rfl, rfl, rfl, rfl, rfl, rfl, rfl, rfl, rfl, rfl, rfl, rfl, rfl, rfl, rfl, trivial⟩, (HS.drew.pick 3 [0, 1, 2]), fun h => Bool.noConfusion h, fun h => Bool.noConfusion h, fun h => Bool.noConfusion h, fun h => Bool.noConfusion h, fun h => Bool.noConfusion h, fun h => Bool.noConfusion h, fun h => Bool.noConfusion h, fun h => Bool.noConfusion h, fun h => Bool.noConfusion h, fun h => Bool.noConfusion h, fun _ => rfl, fun h => Bool.noConfusion h⟩
      ·
       intro j hj b a w
       refine exI fun Y1_0 => exI fun Y2_1 => exI fun Y3_2 => exI fun Y4_3 => exI fun Y5_4 => exI fun Y6_5 => exI fun Y7_6 => exI fun Y8_7 => exI fun Y9_8 => exI fun Y10_9 => exI fun O11_5 => anI fun hs => anI fun HS => anI fun f0 => anI fun f1 => anI fun f2 => anI fun f3 => anI fun f4 => anI fun f5 => anI fun f6 => anI fun f7 => anI fun f8 => anI fun f9 => anI fun o5_0 => fun o5_1 hb hd hcl => ?_
       match j, hj with
       | 0, _ =>
        refine GO.at hs ?_
        refine GO.move rfl rfl rfl ?_
        refine GO.fin (fun a hs => ?_)
        exact ⟨(.slice A11 sets_36.length c12), _, _, _, _, _, _, _, _, _, _, hs.weak ⟨rfl, rfl, rfl, rfl, rfl, rfl, rfl, rfl, rfl, rfl, rfl, rfl, rfl, rfl, rfl, rfl, rfl, trivial⟩, HS.pick 3 [0, 1, 2], fun _ => rfl, f1, f2, f3, f4, f5, f6, f7, f8, f9, o5_0, o5_1⟩
       | 1, _ =>
        refine GO.at hs ?_
        refine GO.fld (⟨b63, 0, none⟩) rfl rfl fl68_0 rfl rfl ?_
        refine GO.fin (fun a hs => ?_)
        exact ⟨_, (.pointer (some ⟨b63, 0, none⟩)), _, _, _, _, _, _, _, _, _, hs.weak ⟨rfl, rfl, rfl, rfl, rfl, rfl, rfl, rfl, rfl, rfl, rfl, rfl, rfl, rfl, rfl, rfl, rfl, trivial⟩, HS.pick 3 [0, 1, 2], f0, fun _ => rfl, f2, f3, f4, f5, f6, f7, f8, f9, o5_0, o5_1⟩
       | 2, _ =>
        have h1 : b 1 = true := hd 1 (by decide)
        obtain rfl := f1 h1
        refine GO.at hs ?_
        refine GO.ldBox (j := 0) HS rfl rfl rfl rfl na2 rfl ?_
        refine GO.fin (fun a hs => ?_)
        exact ⟨_, _, (.int .i64 e61.crossing), _, _, _, _, _, _, _, _, hs.weak ⟨rfl, rfl, rfl, rfl, rfl, rfl, rfl, rfl, rfl, rfl, rfl, rfl, rfl, rfl, rfl, rfl, rfl, trivial⟩, HS.pick 3 [0, 1, 2], f0, f1, fun _ => rfl, f3, f4, f5, f6, f7, f8, f9, o5_0, o5_1⟩
       | 3, _ =>
        refine GO.at hs ?_
        refine GO.fld (⟨b3, 1, none⟩) rfl rfl fl63_1 rfl rfl ?_
        refine GO.fin (fun a hs => ?_)
        exact ⟨_, _, _, (.pointer (some ⟨b3, 1, none⟩)), _, _, _, _, _, _, _, hs.weak ⟨rfl, rfl, rfl, rfl, rfl, rfl, rfl, rfl, rfl, rfl, rfl, rfl, rfl, rfl, rfl, rfl, rfl, trivial⟩, HS.pick 3 [0, 1, 2], f0, f1, f2, fun _ => rfl, f4, f5, f6, f7, f8, f9, o5_0, o5_1⟩
       | 4, _ =>
        have h3 : b 3 = true := hd 3 (by decide)
        obtain rfl := f3 h3
        refine GO.at hs ?_
        refine GO.ldBox (j := 1) HS rfl rfl rfl rfl na61 rfl ?_
        refine GO.fin (fun a hs => ?_)
        exact ⟨_, _, _, _, (.slice A_a_to a_to.length c_a_to), _, _, _, _, _, _, hs.weak ⟨rfl, rfl, rfl, rfl, rfl, rfl, rfl, rfl, rfl, rfl, rfl, rfl, rfl, rfl, rfl, rfl, rfl, trivial⟩, HS.pick 3 [0, 1, 2], f0, f1, f2, f3, fun _ => rfl, f5, f6, f7, f8, f9, o5_0, o5_1⟩
       | 5, _ =>
        refine GO.at hs ?_
        refine GO.move rfl rfl rfl ?_
        refine GO.fin (fun a hs => ?_)
        exact ⟨_, _, _, _, _, (.int .i64 x37), _, _, _, _, _, hs.weak ⟨rfl, rfl, rfl, rfl, rfl, rfl, rfl, rfl, rfl, rfl, rfl, rfl, rfl, rfl, rfl, rfl, rfl, trivial⟩, HS.pick 3 [0, 1, 2], f0, f1, f2, f3, f4, fun _ => rfl, f6, f7, f8, f9, o5_0, o5_1⟩
       | 6, _ =>
        have h4 : b 4 = true := hd 4 (by decide)
        obtain rfl := f4 h4
        have h5 : b 5 = true := hd 5 (by decide)
        obtain rfl := f5 h5
        refine GO.at hs ?_
        refine GO.ix rfl rfl rfl Try.underlying61 sz68 ((RdIn.drop 3 h_a_to) _ HS).2.2.1 c66.1 c66.2 rfl ?_
        refine GO.fin (fun a hs => ?_)
        exact ⟨_, _, _, _, _, _, (.pointer (some (ea A_a_to (x37.toNat * 2)))), _, _, _, _, hs.weak ⟨rfl, rfl, rfl, rfl, rfl, rfl, rfl, rfl, rfl, rfl, rfl, rfl, rfl, rfl, rfl, rfl, rfl, trivial⟩, HS.pick 3 [0, 1, 2], f0, f1, f2, f3, f4, f5, fun _ => rfl, f7, f8, f9, o5_0, o5_1⟩
       | 7, _ =>
        have h6 : b 6 = true := hd 6 (by decide)
        obtain rfl := f6 h6
        refine GO.at hs ?_
        refine GO.fld (ea A_a_to (x37.toNat * 2)) rfl rfl fl68_0 rfl rfl ?_
        refine GO.fin (fun a hs => ?_)
        exact ⟨_, _, _, _, _, _, _, (.pointer (some (ea A_a_to (x37.toNat * 2)))), _, _, _, hs.weak ⟨rfl, rfl, rfl, rfl, rfl, rfl, rfl, rfl, rfl, rfl, rfl, rfl, rfl, rfl, rfl, rfl, rfl, trivial⟩, HS.pick 3 [0, 1, 2], f0, f1, f2, f3, f4, f5, f6, fun _ => rfl, f8, f9, o5_0, o5_1⟩
       | 8, _ =>
        have h7 : b 7 = true := hd 7 (by decide)
        obtain rfl := f7 h7
        refine GO.at hs ?_
        refine GO.ldRd (T := T_GEnd) (n := x37.toNat) (o := 0) HS (RdIn.drop 3 h_a_to) rfl rfl (getD_eq (ltN c66) h68) rfl rfl na2 rfl ?_
        refine GO.fin (fun a hs => ?_)
        exact ⟨_, _, _, _, _, _, _, _, (.int .i64 e67.crossing), _, _, hs.weak ⟨rfl, rfl, rfl, rfl, rfl, rfl, rfl, rfl, rfl, rfl, rfl, rfl, rfl, rfl, rfl, rfl, rfl, trivial⟩, HS.pick 3 [0, 1, 2], f0, f1, f2, f3, f4, f5, f6, f7, fun _ => rfl, f9, o5_0, o5_1⟩
       | 9, _ =>
        have h0 : b 0 = true := hd 0 (by decide)
        obtain rfl := f0 h0
        have h2 : b 2 = true := hd 2 (by decide)
        obtain rfl := f2 h2
        have h8 : b 8 = true := hd 8 (by decide)
        obtain rfl := f8 h8
        obtain rfl := o5_0 hb
        refine GO.at hs ?_
        replace HS := HS.pick 3 [2, 0, 1]
        refine GO.fn rfl Try.func143 fok143.1 fok143.2 rfl rfl (impl_union.calls HS  h70) (fun _ wd72 ⟨h73, HS⟩ => ⟨_, h73, ?_⟩)
        refine GO.fin (fun a hs => ?_)
        exact ⟨_, _, _, _, _, _, _, _, _, (.tuple #[]), Own (TInt .i64) 2 A11 c12 (fun _ => ()) t69, hs.weak ⟨rfl, rfl, rfl, rfl, rfl, rfl, rfl, rfl, rfl, rfl, rfl, rfl, rfl, rfl, rfl, rfl, rfl, trivial⟩, HS.pick 3 [1, 2, 0], f0, f1, f2, f3, f4, f5, f6, f7, f8, fun _ => rfl, fun h => Bool.noConfusion h, fun _ => rfl⟩
       | k + 10, hj => exact absurd hj (Nat.not_lt.2 (Nat.le_add_left 10 k))
      ·
       intro b a w hall
       refine exI fun Y1_0 => exI fun Y2_1 => exI fun Y3_2 => exI fun Y4_3 => exI fun Y5_4 => exI fun Y6_5 => exI fun Y7_6 => exI fun Y8_7 => exI fun Y9_8 => exI fun Y10_9 => exI fun O11_5 => anI fun hs => anI fun HS => anI fun f0 => anI fun f1 => anI fun f2 => anI fun f3 => anI fun f4 => anI fun f5 => anI fun f6 => anI fun f7 => anI fun f8 => anI fun f9 => anI fun o5_0 => fun o5_1 => ?_
       obtain rfl := f0 (hall 0 (by decide))
       obtain rfl := f1 (hall 1 (by decide))
       obtain rfl := f2 (hall 2 (by decide))
       obtain rfl := f3 (hall 3 (by decide))
       obtain rfl := f4 (hall 4 (by decide))
       obtain rfl := f5 (hall 5 (by decide))
       obtain rfl := f6 (hall 6 (by decide))
       obtain rfl := f7 (hall 7 (by decide))
       obtain rfl := f8 (hall 8 (by decide))
       obtain rfl := f9 (hall 9 (by decide))
       obtain rfl := o5_1 (hall 9 (by decide))
       refine G.at hs ?_
       refine G.len (t := 5) (m := t69.length) rfl (by simp only [List.length_set, c71] <;> rfl) ?_
       refine G.blockEnd ?_
       refine G.region ?_
       refine GO.add rfl rfl rfl rfl ?_
       refine GO.move rfl rfl rfl ?_
       refine GO.nil ?_
       refine G.again ?_
       refine G.weak ?_ (ih_l1 n_l1 (Nat.lt_succ_of_le (Nat.le_refl _)) (Nat.le_of_succ_le hm_l1) _ _ _ H (HS.pick 3 [1, 2]))
       exact ⟨rfl, rfl, rfl, rfl, rfl, trivial⟩
     ·
      refine G.noB rfl (decide_eq_false c59) ?_
      refine G.exit rfl ?_
      refine G.seq ?_
      obtain ⟨t74, h75, H⟩ := Option.bind_eq_some_iff.1 H
      refine G.region ?_
      refine GO.move rfl rfl rfl ?_
      refine GO.fn rfl Try.func144 fok144.1 fok144.2 rfl rfl (impl_numbered.calls HS (RdIn.own (j := 1) rfl) h75) (fun _ wd78 ⟨A76, c77, h79, HS⟩ => ⟨_, h79, ?_⟩)
      refine GO.assign rfl rfl rfl ?_
      refine GO.nil ?_
      obtain rfl := Option.some.inj H
      exact G.ret1 _ Try.func85 rfl rfl ⟨_, _, rfl, (HS.pick 3 [0])⟩
  refine G.weak ?_ (at_l1 K (Nat.le_refl _) _ _ _ H (HS.pick 3 [1, 0]))
  exact ⟨rfl, rfl, rfl, rfl, rfl, trivial⟩

set_option maxRecDepth 20000 in
set_option maxHeartbeats 40000000 in
theorem slices_Max_int64_int64.calls {w0 w : World} {L : List HObj} {K : Nat} {x : List Int} {A_x : Option Addr} {c_x : Nat} {r1 : Int} (HS : St w0 w (L)) (h_x : RdIn w0 L (TInt .i64) A_x c_x (fun _ => ()) x) (H : slices_Max_int64_int64.f K x = some r1) :
    Calls Try.prog 141 #[.slice A_x x.length c_x] w (slices_Max_int64_int64.post w0 L x A_x c_x r1) := by
  unfold slices_Max_int64_int64.f at H
  refine Calls.of_G Try.func141 rfl rfl rfl ?_
  refine G.seq ?_
  refine G.region ?_
  refine GO.assign rfl rfl rfl ?_
  refine GO.nil ?_
  refine G.seq ?_
  refine G.seq ?_
  refine G.region ?_
  refine GO.move rfl rfl rfl ?_
  refine GO.lenS rfl rfl Try.underlying43 rfl ?_
  refine GO.lss rfl rfl rfl rfl ?_
  refine GO.nil ?_
  rcases ite_elim H with ⟨c2, H⟩ | ⟨c2, H⟩
  ·
   refine G.yesB rfl (decide_eq_true c2) ?_
   cases H
  ·
   refine G.noB rfl (decide_eq_false c2) ?_
   refine G.skip ?_
   refine G.seq ?_
   obtain ⟨c3, H⟩ := ite_none H
   refine G.region ?_
   refine GO.move rfl rfl rfl ?_
   refine GO.ix rfl rfl rfl Try.underlying43 sz2 (h_x _ HS).2.2.1 c3.1 c3.2 rfl ?_
   refine GO.ldRd (T := (TInt .i64)) (n := 0) (o := 0) HS h_x rfl rfl (getD_some (d := 0) (ltN c3)) rfl rfl na2 rfl ?_
   refine GO.assign rfl rfl rfl ?_
   refine GO.nil ?_
   refine G.seq ?_
   refine G.seq ?_
   refine G.region ?_
   refine GO.assign rfl rfl rfl ?_
   refine GO.nil ?_
   refine G.block ?_
   refine G.loop ?_
   refine G.name (fun k_l2 hk_l2 => ?_)
   have at_l2 : ∀ m_l2, m_l2 ≤ K → ∀ (m_6 : Int) (i_7 : Int) (w : World), slices_Max_int64_int64.l2 K m_l2 x m_6 i_7 = some r1 → St w0 w (L) → G Try.prog 141 25 [(0, .slice A_x x.length c_x), (3, .int .i64 m_6), (4, .int .i64 i_7)] k_l2 w (slices_Max_int64_int64.post w0 L x A_x c_x r1) := by
    intro m_l2
    induction m_l2 using Nat.strongRecOn with
    | _ m_l2 ih_l2 =>
     intro hm_l2 m_6 i_7 w H HS
     cases m_l2 with
     | zero => rw [slices_Max_int64_int64.l2] at H; cases H
     | succ n_l2 =>
      rw [slices_Max_int64_int64.l2] at H
      subst hk_l2
      refine G.seq ?_
      refine G.seq ?_
      refine G.region ?_
      refine GO.move rfl rfl rfl ?_
      refine GO.move rfl rfl rfl ?_
      refine GO.lenS rfl rfl Try.underlying43 rfl ?_
      refine GO.lss rfl rfl rfl rfl ?_
      refine GO.nil ?_
      rcases ite_elim H with ⟨c10, H⟩ | ⟨c10, H⟩
      ·
       refine G.yesB rfl (decide_eq_true c10) ?_
       refine G.skip ?_
       refine G.seq ?_
       refine G.block ?_
       obtain ⟨c11, H⟩ := ite_none H
       refine G.region ?_
       refine GO.move rfl rfl rfl ?_
       refine GO.move rfl rfl rfl ?_
       refine GO.move rfl rfl rfl ?_
       refine GO.ix rfl rfl rfl Try.underlying43 sz2 (h_x _ HS).2.2.1 c11.1 c11.2 rfl ?_
       refine GO.ldRd (T := (TInt .i64)) (n := i_7.toNat) (o := 0) HS h_x rfl rfl (getD_some (d := 0) (ltN c11)) rfl rfl na2 rfl ?_
       refine GO.max2 rfl rfl rfl rfl ?_
       refine GO.assign rfl rfl rfl ?_
       refine GO.nil ?_
       refine G.blockEnd ?_
       refine G.region ?_
       refine GO.move rfl rfl rfl ?_
       refine GO.add rfl rfl rfl rfl ?_
       refine GO.assign rfl rfl rfl ?_
       refine GO.nil ?_
       refine G.again ?_
       refine G.weak ?_ (ih_l2 n_l2 (Nat.lt_succ_of_le (Nat.le_refl _)) (Nat.le_of_succ_le hm_l2) _ _ _ H HS)
       exact ⟨rfl, rfl, rfl, trivial⟩
      ·
       refine G.noB rfl (decide_eq_false c10) ?_
       refine G.exit rfl ?_
       refine G.seq ?_
       refine G.region ?_
       refine GO.move rfl rfl rfl ?_
       refine GO.assign rfl rfl rfl ?_
       refine GO.nil ?_
       obtain rfl := Option.some.inj H
       exact G.ret1 _ Try.func141 rfl rfl ⟨rfl, HS⟩
   refine G.weak ?_ (at_l2 K (Nat.le_refl _) _ _ _ H HS)
   exact ⟨rfl, rfl, rfl, trivial⟩

set_option maxRecDepth 20000 in
set_option maxHeartbeats 40000000 in
theorem impl_classCount.calls {w0 w : World} {L : List HObj} {K : Nat} {classes : List Int} {A_classes : Option Addr} {c_classes : Nat} {r1 : Int} (HS : St w0 w (L)) (h_classes : RdIn w0 L (TInt .i64) A_classes c_classes (fun _ => ()) classes) (H : impl_classCount.f K classes = some r1) :
    Calls Try.prog 84 #[.slice A_classes classes.length c_classes] w (impl_classCount.post w0 L classes A_classes c_classes r1) := by
  unfold impl_classCount.f at H
  refine Calls.of_G Try.func84 rfl rfl rfl ?_
  refine G.seq ?_
  refine G.region ?_
  refine GO.assign rfl rfl rfl ?_
  refine GO.nil ?_
  refine G.seq ?_
  refine G.seq ?_
  refine G.region ?_
  refine GO.move rfl rfl rfl ?_
  refine GO.lenS rfl rfl Try.underlying43 rfl ?_
  refine GO.eql rfl rfl rfl rfl ?_
  refine GO.nil ?_
  rcases ite_elim H with ⟨c1, H⟩ | ⟨c1, H⟩
  ·
   refine G.yesB rfl (decide_eq_true c1) ?_
   refine G.seq ?_
   refine G.region ?_
   refine GO.assign rfl rfl rfl ?_
   refine GO.nil ?_
   obtain rfl := Option.some.inj H
   exact G.ret1 _ Try.func84 rfl rfl ⟨rfl, HS⟩
  ·
   refine G.noB rfl (decide_eq_false c1) ?_
   refine G.skip ?_
   refine G.seq ?_
   obtain ⟨t2, h3, H⟩ := Option.bind_eq_some_iff.1 H
   refine G.region ?_
   refine GO.move rfl rfl rfl ?_
   refine GO.fn rfl Try.func141 fok141.1 fok141.2 rfl rfl (slices_Max_int64_int64.calls HS h_classes h3) (fun _ wd4 ⟨h5, HS⟩ => ⟨_, h5, ?_⟩)
   refine GO.add rfl rfl rfl rfl ?_
   refine GO.assign rfl rfl rfl ?_
   refine GO.nil ?_
   obtain rfl := Option.some.inj H
   exact G.ret1 _ Try.func84 rfl rfl ⟨rfl, HS⟩

set_option maxRecDepth 20000 in
set_option maxHeartbeats 40000000 in
theorem impl_Diagram_drawing.calls {w0 w : World} {L : List HObj} {K : Nat} {d_Crossings : List GCrossing} {d_Circles : Int} {A_d_Crossings : Option Addr} {c_d_Crossings : Nat} {r1 : List GEnd} {r2 : List GEnd} {r3 : Bool} (HS : St w0 w (L)) (h_d_Crossings : RdIn w0 L T_GCrossing A_d_Crossings c_d_Crossings (fun _ => ()) d_Crossings) (H : impl_Diagram_drawing.f K d_Crossings d_Circles = some (r1, r2, r3)) :
    Calls Try.prog 45 #[.agg [.slice A_d_Crossings d_Crossings.length c_d_Crossings, .int .i64 d_Circles].toArray] w (impl_Diagram_drawing.post w0 L d_Crossings d_Circles A_d_Crossings c_d_Crossings r1 r2 r3) := by
  unfold impl_Diagram_drawing.f at H
  refine Calls.of_G Try.func45 rfl rfl rfl ?_
  refine G.seq ?_
  refine G.region ?_
  refine GO.box (cs := [.slice A_d_Crossings d_Crossings.length c_d_Crossings, .int .i64 d_Circles]) HS rfl rfl rfl rfl ?_; intro b1 wd2 HS
  refine GO.alloc HS rfl zr63 rfl rfl ?_; intro b3 wd4 HS
  refine GO.assign rfl rfl rfl ?_
  refine GO.nil ?_
  refine G.seq ?_
  obtain ⟨t5, h6, H⟩ := Option.bind_eq_some_iff.1 H
  refine G.region ?_
  refine GO.fld (⟨b1, 0, none⟩) rfl rfl fl28_0 rfl rfl ?_
  refine GO.ldBox (j := 1) HS rfl rfl rfl rfl na26 rfl ?_
  refine GO.fn rfl Try.func56 fok56.1 fok56.2 rfl rfl (impl_size_impl_Crossing.calls HS (RdIn.drop 2 h_d_Crossings) h6) (fun _ wd7 ⟨h8, HS⟩ => ⟨_, h8, ?_⟩)
  refine GO.assign rfl rfl rfl ?_
  refine GO.nil ?_
  refine G.seq ?_
  refine G.seq ?_
  rcases ite_elim H with ⟨c19, H⟩ | ⟨c19, H⟩
  ·
   refine G.region ?_
   refine GO.move rfl rfl rfl ?_
   refine GO.gtr rfl rfl rfl rfl ?_
   refine GO.move rfl rfl rfl ?_
   refine GO.known (t := 12) rfl (decide_eq_true c19) ?_
   refine GO.off rfl rfl rfl rfl rfl rfl ?_
   refine GO.off rfl rfl rfl rfl rfl rfl ?_
   refine GO.off rfl rfl rfl rfl rfl rfl ?_
   refine GO.off rfl rfl rfl rfl rfl rfl ?_
   refine GO.pickT rfl rfl rfl rfl rfl ?_
   refine GO.move rfl rfl rfl ?_
   refine GO.off rfl rfl rfl rfl rfl rfl ?_
   refine GO.off rfl rfl rfl rfl rfl rfl ?_
   refine GO.off rfl rfl rfl rfl rfl rfl ?_
   refine GO.pickT rfl rfl rfl rfl rfl ?_
   refine GO.nil ?_
   refine G.yesB rfl rfl ?_
   refine G.seq ?_
   refine G.region ?_
   refine GO.buildV (.agg [.slice none 0 0, .slice none 0 0].toArray) rfl rfl (fun _ => by kernel_rfl) rfl ?_
   refine GO.stBox (j := 0) (vs := [.slice none 0 0, .slice none 0 0]) ([.slice none 0 0, .slice none 0 0]) HS rfl rfl rfl rfl rfl (htA ag63) rfl rfl rfl ?_; intro wd20 HS
   refine GO.assign rfl rfl rfl ?_
   refine GO.nil ?_
   replace HS := HS.nilRow T_GEnd 68 (fun _ => ())
   replace HS := HS.nilRow T_GEnd 68 (fun _ => ())
   obtain ⟨rfl, rfl, rfl⟩ := some3 H
   exact G.ret2 _ _ Try.func45 rfl (Res1.boxA (j := 2) (vs := [.slice none 0 0, .slice none 0 0]) HS rfl rfl rfl ag63) rfl ⟨_, _, _, _, rfl, (HS.pick 4 [1, 0])⟩
  ·
   obtain ⟨t21, h22, H⟩ := Option.bind_eq_some_iff.1 H
   rcases ite_elim H with ⟨c25, H⟩ | ⟨c25, H⟩
   ·
    obtain ⟨t26, h27, H⟩ := Option.bind_eq_some_iff.1 H
    refine G.region ?_
    refine GO.move rfl rfl rfl ?_
    refine GO.gtr rfl rfl rfl rfl ?_
    refine GO.move rfl rfl rfl ?_
    refine GO.known (t := 12) rfl (decide_eq_false c19) ?_
    refine GO.on rfl rfl rfl rfl ?_
    refine GO.fld (⟨b1, 1, none⟩) rfl rfl fl28_1 rfl rfl ?_
    refine GO.back ?_
    refine GO.on rfl rfl rfl rfl ?_
    refine GO.ldBox (j := 1) HS rfl rfl rfl rfl na2 rfl ?_
    refine GO.back ?_
    refine GO.on rfl rfl rfl rfl ?_
    refine GO.fn rfl Try.func47 fok47.1 fok47.2 rfl rfl (impl_inRange.calls HS  h22) (fun _ wd23 ⟨h24, HS⟩ => ⟨_, h24, ?_⟩)
    refine GO.back ?_
    refine GO.on rfl rfl rfl rfl ?_
    refine GO.not rfl rfl rfl ?_
    refine GO.back ?_
    refine GO.pickF rfl rfl rfl rfl rfl ?_
    refine GO.move rfl rfl rfl ?_
    refine GO.known (t := 18) rfl (congrArg Bool.not c25) ?_
    refine GO.on rfl rfl rfl rfl ?_
    refine GO.fld (⟨b1, 0, none⟩) rfl rfl fl28_0 rfl rfl ?_
    refine GO.back ?_
    refine GO.on rfl rfl rfl rfl ?_
    refine GO.ldBox (j := 1) HS rfl rfl rfl rfl na26 rfl ?_
    refine GO.back ?_
    refine GO.on rfl rfl rfl rfl ?_
    refine GO.fn rfl Try.func108 fok108.1 fok108.2 rfl rfl (slices_ContainsFunc_impl_Crossing_impl_Crossing_109.calls HS (RdIn.drop 2 h_d_Crossings) h27) (fun _ wd28 ⟨h29, HS⟩ => ⟨_, h29, ?_⟩)
    refine GO.back ?_
    refine GO.pickF rfl rfl rfl rfl rfl ?_
    refine GO.nil ?_
    rcases ite_elim H with ⟨c30, H⟩ | ⟨c30, H⟩
    ·
     refine G.yesB rfl c30 ?_
     refine G.seq ?_
     refine G.region ?_
     refine GO.buildV (.agg [.slice none 0 0, .slice none 0 0].toArray) rfl rfl (fun _ => by kernel_rfl) rfl ?_
     refine GO.stBox (j := 0) (vs := [.slice none 0 0, .slice none 0 0]) ([.slice none 0 0, .slice none 0 0]) HS rfl rfl rfl rfl rfl (htA ag63) rfl rfl rfl ?_; intro wd31 HS
     refine GO.assign rfl rfl rfl ?_
     refine GO.nil ?_
     replace HS := HS.nilRow T_GEnd 68 (fun _ => ())
     replace HS := HS.nilRow T_GEnd 68 (fun _ => ())
     obtain ⟨rfl, rfl, rfl⟩ := some3 H
     exact G.ret2 _ _ Try.func45 rfl (Res1.boxA (j := 2) (vs := [.slice none 0 0, .slice none 0 0]) HS rfl rfl rfl ag63) rfl ⟨_, _, _, _, rfl, (HS.pick 4 [1, 0])⟩
    ·
     refine G.noB rfl (bnot_of c30) ?_
     refine G.skip ?_
     refine G.seq ?_
     obtain ⟨t32, t33, t34, h35, H⟩ := bind3_elim H
     refine G.region ?_
     refine GO.ldBoxA (j := 1) ([.slice A_d_Crossings d_Crossings.length c_d_Crossings, .int .i64 d_Circles]) HS rfl rfl rfl rfl ag28 rfl ?_
     refine GO.fn rfl Try.func58 fok58.1 fok58.2 rfl rfl (impl_Diagram_arrows.calls HS (RdIn.drop 2 h_d_Crossings) h35) (fun _ wd40 ⟨A36, c37, A38, c39, h41, HS⟩ => ⟨_, h41, ?_⟩)
     refine GO.move rfl rfl rfl ?_
     refine GO.extract rfl rfl rfl rfl ?_
     refine GO.extract rfl rfl rfl rfl ?_
     refine GO.alloc HS rfl zr63 rfl rfl ?_; intro b42 wd43 HS
     refine GO.stBox (j := 0) (vs := [.slice A36 t32.length c37, .slice A38 t33.length c39]) ([.slice A36 t32.length c37, .slice A38 t33.length c39]) HS rfl rfl rfl rfl rfl (htA ag63) rfl rfl rfl ?_; intro wd44 HS
     refine GO.assign rfl rfl rfl ?_
     refine GO.nil ?_
     refine G.seq ?_
     refine G.seq ?_
     rcases ite_elim H with ⟨c67, H⟩ | ⟨c67, H⟩
     ·
      obtain ⟨t68, h69, H⟩ := Option.bind_eq_some_iff.1 H
      obtain ⟨t75, h76, H⟩ := Option.bind_eq_some_iff.1 H
      obtain ⟨t79, h80, H⟩ := Option.bind_eq_some_iff.1 H
      obtain ⟨t85, h86, H⟩ := Option.bind_eq_some_iff.1 H
      refine G.regionAny mixed (by decide) (fun b a w => ∃ (Y1_0 : Value) (Y2_1 : Value) (Y3_2 : Value) (Y4_3 : Value) (Y5_4 : Value) (Y6_5 : Value) (Y7_6 : Value) (Y8_7 : Value) (Y9_8 : Value) (Y10_9 : Value) (Y11_10 : Value) (Y12_11 : Value) (Y13_12 : Value) (Y14_13 : Value) (Y15_14 : Value) (Y16_15 : Value) (A70 : Option Addr) (c71 : Nat) (y72 : Nat → (Ty.slice 2 (TInt .i64)).Lay) (A81 : Option Addr) (c82 : Nat) (O17_12 : HObj) (O18_13 : HObj), Sat 47 [(29, Y1_0), (30, Y2_1), (31, Y3_2), (32, Y4_3), (33, Y5_4), (34, Y6_5), (35, Y7_6), (36, Y8_7), (37, Y9_8), (38, Y10_9), (39, Y11_10), (40, Y12_11), (41, Y13_12), (42, Y14_13), (43, Y15_14), (44, Y16_15), (1, .pointer (some ⟨b1, 0, none⟩)), (2, .pointer (some ⟨b3, 0, none⟩)), (4, .int .i64 t5), (5, .pointer (some ⟨b42, 0, none⟩)), (6, .bool t34)] a ∧ St w0 w (Box b42 63 [.slice A36 t32.length c37, .slice A38 t33.length c39] :: Own T_GEnd 68 A36 c37 (fun _ => ()) t32 :: Own T_GEnd 68 A38 c39 (fun _ => ()) t33 :: Box b3 63 [.slice none 0 0, .slice none 0 0] :: Box b1 28 [.slice A_d_Crossings d_Crossings.length c_d_Crossings, .int .i64 d_Circles] :: O17_12 :: O18_13 :: L) ∧ (b 0 = true → Y1_0 = (.bool t34)) ∧ (b 1 = true → Y2_1 = (.bool (!t34))) ∧ (b 2 = true → Y3_2 = (.bool false)) ∧ (b 3 = true → Y4_3 = (.agg [.slice A_d_Crossings d_Crossings.length c_d_Crossings, .int .i64 d_Circles].toArray)) ∧ (b 4 = true → Y5_4 = (.agg [.slice A36 t32.length c37, .slice A38 t33.length c39].toArray)) ∧ (b 5 = true → Y6_5 = (.slice A70 t68.length c71)) ∧ (b 6 = true → Y7_6 = (.int .i64 t75)) ∧ (b 7 = true → Y8_7 = (.int .i64 t5)) ∧ (b 8 = true → Y9_8 = (.agg [.slice A_d_Crossings d_Crossings.length c_d_Crossings, .int .i64 d_Circles].toArray)) ∧ (b 9 = true → Y10_9 = (.agg [.slice A36 t32.length c37, .slice A38 t33.length c39].toArray)) ∧ (b 10 = true → Y11_10 = (.slice A81 t79.length c82)) ∧ (b 11 = true → Y12_11 = (.int .i64 t85)) ∧ (b 12 = true → Y13_12 = (.int .i64 (w64 (2 * t85)))) ∧ (b 13 = true → Y14_13 = (.int .i64 (w64 (t5 + (w64 (2 * t85)))))) ∧ (b 14 = true → Y15_14 = (.bool (!(decide (t75 = w64 (t5 + (w64 (2 * t85)))))))) ∧ (b 15 = true → Y16_15 = (.bool (!(decide (t75 = w64 (t5 + (w64 (2 * t85)))))))) ∧ (b 5 = true → O17_12 = Own (Ty.slice 2 (TInt .i64)) 43 A70 c71 y72 t68) ∧ (b 10 = true → O18_13 = Own (TInt .i64) 2 A81 c82 (fun _ => ()) t79)) ?_ ?_ ?_
      ·
       intro a hs
       obtain ⟨Y1_0, hs⟩ := hs.ext (d := 29) rfl
       obtain ⟨Y2_1, hs⟩ := hs.ext (d := 30) rfl
       obtain ⟨Y3_2, hs⟩ := hs.ext (d := 31) rfl
       obtain ⟨Y4_3, hs⟩ := hs.ext (d := 32) rfl
       obtain ⟨Y5_4, hs⟩ := hs.ext (d := 33) rfl
       obtain ⟨Y6_5, hs⟩ := hs.ext (d := 34) rfl
       obtain ⟨Y7_6, hs⟩ := hs.ext (d := 35) rfl
       obtain ⟨Y8_7, hs⟩ := hs.ext (d := 36) rfl
       obtain ⟨Y9_8, hs⟩ := hs.ext (d := 37) rfl
       obtain ⟨Y10_9, hs⟩ := hs.ext (d := 38) rfl
       obtain ⟨Y11_10, hs⟩ := hs.ext (d := 39) rfl
       obtain ⟨Y12_11, hs⟩ := hs.ext (d := 40) rfl
       obtain ⟨Y13_12, hs⟩ := hs.ext (d := 41) rfl
       obtain ⟨Y14_13, hs⟩ := hs.ext (d := 42) rfl
       obtain ⟨Y15_14, hs⟩ := hs.ext (d := 43) rfl
       obtain ⟨Y16_15, hs⟩ := hs.ext (d := 44) rfl
       exact ⟨Y1_0, Y2_1, Y3_2, Y4_3, Y5_4, Y6_5, Y7_6, Y8_7, Y9_8, Y10_9, Y11_10, Y12_11, Y13_12, Y14_13, Y15_14, Y16_15, none, 0, (fun _ => ⟨none, 0, fun _ => ()⟩), none, 0, Emp, Emp, hs.weak ⟨rfl, rfl, rfl, rfl, rfl, rfl, rfl, rfl, rfl, rfl, rfl, rfl, rfl, rfl, rfl, rfl, rfl, rfl, rfl, rfl, rfl, trivial⟩, (HS.drew.emp.emp.pick 7 [2, 3, 4, 5, 6, 1, 0]), fun h => Bool.noConfusion h, fun h => Bool.noConfusion h, fun h => Bool.noConfusion h, fun h => Bool.noConfusion h, fun h => Bool.noConfusion h, fun h => Bool.noConfusion h, fun h => Bool.noConfusion h, fun h => Bool.noConfusion h, fun h => Bool.noConfusion h, fun h => Bool.noConfusion h, fun h => Bool.noConfusion h, fun h => Bool.noConfusion h, fun h => Bool.noConfusion h, fun h => Bool.noConfusion h, fun h => Bool.noConfusion h, fun h => Bool.noConfusion h, fun h => Bool.noConfusion h, fun h => Bool.noConfusion h⟩
      ·
       intro j hj b a w
       refine exI fun Y1_0 => exI fun Y2_1 => exI fun Y3_2 => exI fun Y4_3 => exI fun Y5_4 => exI fun Y6_5 => exI fun Y7_6 => exI fun Y8_7 => exI fun Y9_8 => exI fun Y10_9 => exI fun Y11_10 => exI fun Y12_11 => exI fun Y13_12 => exI fun Y14_13 => exI fun Y15_14 => exI fun Y16_15 => exI fun A70 => exI fun c71 => exI fun y72 => exI fun A81 => exI fun c82 => exI fun O17_12 => exI fun O18_13 => anI fun hs => anI fun HS => anI fun f0 => anI fun f1 => anI fun f2 => anI fun f3 => anI fun f4 => anI fun f5 => anI fun f6 => anI fun f7 => anI fun f8 => anI fun f9 => anI fun f10 => anI fun f11 => anI fun f12 => anI fun f13 => anI fun f14 => anI fun f15 => anI fun o12_0 => fun o13_0 hb hd hcl => ?_
       match j, hj with
       | 0, _ =>
        refine GO.at hs ?_
        refine GO.move rfl rfl rfl ?_
        refine GO.fin (fun a hs => ?_)
        exact ⟨(.bool t34), _, _, _, _, _, _, _, _, _, _, _, _, _, _, _, A70, c71, y72, A81, c82, _, _, hs.weak ⟨rfl, rfl, rfl, rfl, rfl, rfl, rfl, rfl, rfl, rfl, rfl, rfl, rfl, rfl, rfl, rfl, rfl, rfl, rfl, rfl, rfl, trivial⟩, HS.pick 7 [0, 1, 2, 3, 4, 5, 6], fun _ => rfl, f1, f2, f3, f4, f5, f6, f7, f8, f9, f10, f11, f12, f13, f14, f15, o12_0, o13_0⟩
       | 1, _ =>
        have h0 : b 0 = true := hd 0 (by decide)
        obtain rfl := f0 h0
        refine GO.at hs ?_
        refine GO.not rfl rfl rfl ?_
        refine GO.fin (fun a hs => ?_)
        exact ⟨_, (.bool (!t34)), _, _, _, _, _, _, _, _, _, _, _, _, _, _, A70, c71, y72, A81, c82, _, _, hs.weak ⟨rfl, rfl, rfl, rfl, rfl, rfl, rfl, rfl, rfl, rfl, rfl, rfl, rfl, rfl, rfl, rfl, rfl, rfl, rfl, rfl, rfl, trivial⟩, HS.pick 7 [0, 1, 2, 3, 4, 5, 6], f0, fun _ => rfl, f2, f3, f4, f5, f6, f7, f8, f9, f10, f11, f12, f13, f14, f15, o12_0, o13_0⟩
       | 2, _ =>
        have h1 : b 1 = true := hd 1 (by decide)
        obtain rfl := f1 h1
        refine GO.at hs ?_
        refine GO.move rfl rfl rfl ?_
        refine GO.known (t := 31) rfl (congrArg Bool.not c67) ?_
        refine GO.fin (fun a hs => ?_)
        exact ⟨_, _, (.bool false), _, _, _, _, _, _, _, _, _, _, _, _, _, A70, c71, y72, A81, c82, _, _, hs.weak ⟨rfl, rfl, rfl, rfl, rfl, rfl, rfl, rfl, rfl, rfl, rfl, rfl, rfl, rfl, rfl, rfl, rfl, rfl, rfl, rfl, rfl, trivial⟩, HS.pick 7 [0, 1, 2, 3, 4, 5, 6], f0, f1, fun _ => rfl, f3, f4, f5, f6, f7, f8, f9, f10, f11, f12, f13, f14, f15, o12_0, o13_0⟩
       | 3, _ =>
        have h2 : b 2 = true := hd 2 (by decide)
        obtain rfl := f2 h2
        refine GO.at hs ?_
        refine GO.on rfl rfl rfl rfl ?_
        refine GO.ldBoxA (j := 4) ([.slice A_d_Crossings d_Crossings.length c_d_Crossings, .int .i64 d_Circles]) HS rfl rfl rfl rfl ag28 rfl ?_
        refine GO.back ?_
        refine GO.fin (fun a hs => ?_)
        exact ⟨_, _, _, (.agg [.slice A_d_Crossings d_Crossings.length c_d_Crossings, .int .i64 d_Circles].toArray), _, _, _, _, _, _, _, _, _, _, _, _, A70, c71, y72, A81, c82, _, _, hs.weak ⟨rfl, rfl, rfl, rfl, rfl, rfl, rfl, rfl, rfl, rfl, rfl, rfl, rfl, rfl, rfl, rfl, rfl, rfl, rfl, rfl, rfl, trivial⟩, HS.pick 7 [0, 1, 2, 3, 4, 5, 6], f0, f1, f2, fun _ => rfl, f4, f5, f6, f7, f8, f9, f10, f11, f12, f13, f14, f15, o12_0, o13_0⟩
       | 4, _ =>
        have h2 : b 2 = true := hd 2 (by decide)
        obtain rfl := f2 h2
        refine GO.at hs ?_
        refine GO.on rfl rfl rfl rfl ?_
        refine GO.ldBoxA (j := 0) ([.slice A36 t32.length c37, .slice A38 t33.length c39]) HS rfl rfl rfl rfl ag63 rfl ?_
        refine GO.back ?_
        refine GO.fin (fun a hs => ?_)
        exact ⟨_, _, _, _, (.agg [.slice A36 t32.length c37, .slice A38 t33.length c39].toArray), _, _, _, _, _, _, _, _, _, _, _, A70, c71, y72, A81, c82, _, _, hs.weak ⟨rfl, rfl, rfl, rfl, rfl, rfl, rfl, rfl, rfl, rfl, rfl, rfl, rfl, rfl, rfl, rfl, rfl, rfl, rfl, rfl, rfl, trivial⟩, HS.pick 7 [0, 1, 2, 3, 4, 5, 6], f0, f1, f2, f3, fun _ => rfl, f5, f6, f7, f8, f9, f10, f11, f12, f13, f14, f15, o12_0, o13_0⟩
       | 5, _ =>
        have h2 : b 2 = true := hd 2 (by decide)
        obtain rfl := f2 h2
        have h3 : b 3 = true := hd 3 (by decide)
        obtain rfl := f3 h3
        have h4 : b 4 = true := hd 4 (by decide)
        obtain rfl := f4 h4
        refine GO.at hs ?_
        refine GO.on rfl rfl rfl rfl ?_
        refine GO.fn rfl Try.func111 fok111.1 fok111.2 rfl rfl (impl_Diagram_regions.calls HS (RdIn.drop 7 h_d_Crossings) (RdIn.own (j := 1) rfl) (RdIn.own (j := 2) rfl) h69) (fun _ wd73 ⟨A70, c71, y72, h74, HS⟩ => ⟨_, h74, ?_⟩)
        refine GO.back ?_
        refine GO.fin (fun a hs => ?_)
        exact ⟨_, _, _, _, _, (.slice A70 t68.length c71), _, _, _, _, _, _, _, _, _, _, A70, c71, y72, A81, c82, Own (Ty.slice 2 (TInt .i64)) 43 A70 c71 y72 t68, _, hs.weak ⟨rfl, rfl, rfl, rfl, rfl, rfl, rfl, rfl, rfl, rfl, rfl, rfl, rfl, rfl, rfl, rfl, rfl, rfl, rfl, rfl, rfl, trivial⟩, HS.pick 8 [1, 2, 3, 4, 5, 0, 7], f0, f1, f2, f3, f4, fun _ => rfl, f6, f7, f8, f9, f10, f11, f12, f13, f14, f15, fun _ => rfl, o13_0⟩
       | 6, _ =>
        have h2 : b 2 = true := hd 2 (by decide)
        obtain rfl := f2 h2
        have h5 : b 5 = true := hd 5 (by decide)
        obtain rfl := f5 h5
        obtain rfl := o12_0 h5
        refine GO.at hs ?_
        refine GO.on rfl rfl rfl rfl ?_
        refine GO.fn rfl Try.func110 fok110.1 fok110.2 rfl rfl (impl_size_int64.calls HS (RdIn.own (j := 5) rfl) h76) (fun _ wd77 ⟨h78, HS⟩ => ⟨_, h78, ?_⟩)
        refine GO.back ?_
        refine GO.fin (fun a hs => ?_)
        exact ⟨_, _, _, _, _, _, (.int .i64 t75), _, _, _, _, _, _, _, _, _, A70, c71, y72, A81, c82, _, _, hs.weak ⟨rfl, rfl, rfl, rfl, rfl, rfl, rfl, rfl, rfl, rfl, rfl, rfl, rfl, rfl, rfl, rfl, rfl, rfl, rfl, rfl, rfl, trivial⟩, HS.pick 7 [0, 1, 2, 3, 4, 5, 6], f0, f1, f2, f3, f4, f5, fun _ => rfl, f7, f8, f9, f10, f11, f12, f13, f14, f15, o12_0, o13_0⟩
       | 7, _ =>
        have h2 : b 2 = true := hd 2 (by decide)
        obtain rfl := f2 h2
        refine GO.at hs ?_
        refine GO.on rfl rfl rfl rfl ?_
        refine GO.move rfl rfl rfl ?_
        refine GO.back ?_
        refine GO.fin (fun a hs => ?_)
        exact ⟨_, _, _, _, _, _, _, (.int .i64 t5), _, _, _, _, _, _, _, _, A70, c71, y72, A81, c82, _, _, hs.weak ⟨rfl, rfl, rfl, rfl, rfl, rfl, rfl, rfl, rfl, rfl, rfl, rfl, rfl, rfl, rfl, rfl, rfl, rfl, rfl, rfl, rfl, trivial⟩, HS.pick 7 [0, 1, 2, 3, 4, 5, 6], f0, f1, f2, f3, f4, f5, f6, fun _ => rfl, f8, f9, f10, f11, f12, f13, f14, f15, o12_0, o13_0⟩
       | 8, _ =>
        have h2 : b 2 = true := hd 2 (by decide)
        obtain rfl := f2 h2
        refine GO.at hs ?_
        refine GO.on rfl rfl rfl rfl ?_
        refine GO.ldBoxA (j := 4) ([.slice A_d_Crossings d_Crossings.length c_d_Crossings, .int .i64 d_Circles]) HS rfl rfl rfl rfl ag28 rfl ?_
        refine GO.back ?_
        refine GO.fin (fun a hs => ?_)
        exact ⟨_, _, _, _, _, _, _, _, (.agg [.slice A_d_Crossings d_Crossings.length c_d_Crossings, .int .i64 d_Circles].toArray), _, _, _, _, _, _, _, A70, c71, y72, A81, c82, _, _, hs.weak ⟨rfl, rfl, rfl, rfl, rfl, rfl, rfl, rfl, rfl, rfl, rfl, rfl, rfl, rfl, rfl, rfl, rfl, rfl, rfl, rfl, rfl, trivial⟩, HS.pick 7 [0, 1, 2, 3, 4, 5, 6], f0, f1, f2, f3, f4, f5, f6, f7, fun _ => rfl, f9, f10, f11, f12, f13, f14, f15, o12_0, o13_0⟩
       | 9, _ =>
        have h2 : b 2 = true := hd 2 (by decide)
        obtain rfl := f2 h2
        refine GO.at hs ?_
        refine GO.on rfl rfl rfl rfl ?_
        refine GO.ldBoxA (j := 0) ([.slice A36 t32.length c37, .slice A38 t33.length c39]) HS rfl rfl rfl rfl ag63 rfl ?_
        refine GO.back ?_
        refine GO.fin (fun a hs => ?_)
        exact ⟨_, _, _, _, _, _, _, _, _, (.agg [.slice A36 t32.length c37, .slice A38 t33.length c39].toArray), _, _, _, _, _, _, A70, c71, y72, A81, c82, _, _, hs.weak ⟨rfl, rfl, rfl, rfl, rfl, rfl, rfl, rfl, rfl, rfl, rfl, rfl, rfl, rfl, rfl, rfl, rfl, rfl, rfl, rfl, rfl, trivial⟩, HS.pick 7 [0, 1, 2, 3, 4, 5, 6], f0, f1, f2, f3, f4, f5, f6, f7, f8, fun _ => rfl, f10, f11, f12, f13, f14, f15, o12_0, o13_0⟩
       | 10, _ =>
        have h2 : b 2 = true := hd 2 (by decide)
        obtain rfl := f2 h2
        have h8 : b 8 = true := hd 8 (by decide)
        obtain rfl := f8 h8
        have h9 : b 9 = true := hd 9 (by decide)
        obtain rfl := f9 h9
        refine GO.at hs ?_
        refine GO.on rfl rfl rfl rfl ?_
        refine GO.fn rfl Try.func85 fok85.1 fok85.2 rfl rfl (impl_Diagram_parts.calls HS (RdIn.drop 7 h_d_Crossings) (RdIn.own (j := 1) rfl) (RdIn.own (j := 2) rfl) h80) (fun _ wd83 ⟨A81, c82, h84, HS⟩ => ⟨_, h84, ?_⟩)
        refine GO.back ?_
        refine GO.fin (fun a hs => ?_)
        exact ⟨_, _, _, _, _, _, _, _, _, _, (.slice A81 t79.length c82), _, _, _, _, _, A70, c71, y72, A81, c82, _, Own (TInt .i64) 2 A81 c82 (fun _ => ()) t79, hs.weak ⟨rfl, rfl, rfl, rfl, rfl, rfl, rfl, rfl, rfl, rfl, rfl, rfl, rfl, rfl, rfl, rfl, rfl, rfl, rfl, rfl, rfl, trivial⟩, HS.pick 8 [1, 2, 3, 4, 5, 6, 0], f0, f1, f2, f3, f4, f5, f6, f7, f8, f9, fun _ => rfl, f11, f12, f13, f14, f15, o12_0, fun _ => rfl⟩
       | 11, _ =>
        have h2 : b 2 = true := hd 2 (by decide)
        obtain rfl := f2 h2
        have h10 : b 10 = true := hd 10 (by decide)
        obtain rfl := f10 h10
        obtain rfl := o13_0 h10
        refine GO.at hs ?_
        refine GO.on rfl rfl rfl rfl ?_
        refine GO.fn rfl Try.func84 fok84.1 fok84.2 rfl rfl (impl_classCount.calls HS (RdIn.own (j := 6) rfl) h86) (fun _ wd87 ⟨h88, HS⟩ => ⟨_, h88, ?_⟩)
        refine GO.back ?_
        refine GO.fin (fun a hs => ?_)
        exact ⟨_, _, _, _, _, _, _, _, _, _, _, (.int .i64 t85), _, _, _, _, A70, c71, y72, A81, c82, _, _, hs.weak ⟨rfl, rfl, rfl, rfl, rfl, rfl, rfl, rfl, rfl, rfl, rfl, rfl, rfl, rfl, rfl, rfl, rfl, rfl, rfl, rfl, rfl, trivial⟩, HS.pick 7 [0, 1, 2, 3, 4, 5, 6], f0, f1, f2, f3, f4, f5, f6, f7, f8, f9, f10, fun _ => rfl, f12, f13, f14, f15, o12_0, o13_0⟩
       | 12, _ =>
        have h2 : b 2 = true := hd 2 (by decide)
        obtain rfl := f2 h2
        have h11 : b 11 = true := hd 11 (by decide)
        obtain rfl := f11 h11
        refine GO.at hs ?_
        refine GO.on rfl rfl rfl rfl ?_
        refine GO.mul rfl rfl rfl rfl ?_
        refine GO.back ?_
        refine GO.fin (fun a hs => ?_)
        exact ⟨_, _, _, _, _, _, _, _, _, _, _, _, (.int .i64 (w64 (2 * t85))), _, _, _, A70, c71, y72, A81, c82, _, _, hs.weak ⟨rfl, rfl, rfl, rfl, rfl, rfl, rfl, rfl, rfl, rfl, rfl, rfl, rfl, rfl, rfl, rfl, rfl, rfl, rfl, rfl, rfl, trivial⟩, HS.pick 7 [0, 1, 2, 3, 4, 5, 6], f0, f1, f2, f3, f4, f5, f6, f7, f8, f9, f10, f11, fun _ => rfl, f13, f14, f15, o12_0, o13_0⟩
       | 13, _ =>
        have h2 : b 2 = true := hd 2 (by decide)
        obtain rfl := f2 h2
        have h7 : b 7 = true := hd 7 (by decide)
        obtain rfl := f7 h7
        have h12 : b 12 = true := hd 12 (by decide)
        obtain rfl := f12 h12
        refine GO.at hs ?_
        refine GO.on rfl rfl rfl rfl ?_
        refine GO.add rfl rfl rfl rfl ?_
        refine GO.back ?_
        refine GO.fin (fun a hs => ?_)
        exact ⟨_, _, _, _, _, _, _, _, _, _, _, _, _, (.int .i64 (w64 (t5 + (w64 (2 * t85))))), _, _, A70, c71, y72, A81, c82, _, _, hs.weak ⟨rfl, rfl, rfl, rfl, rfl, rfl, rfl, rfl, rfl, rfl, rfl, rfl, rfl, rfl, rfl, rfl, rfl, rfl, rfl, rfl, rfl, trivial⟩, HS.pick 7 [0, 1, 2, 3, 4, 5, 6], f0, f1, f2, f3, f4, f5, f6, f7, f8, f9, f10, f11, f12, fun _ => rfl, f14, f15, o12_0, o13_0⟩
       | 14, _ =>
        have h2 : b 2 = true := hd 2 (by decide)
        obtain rfl := f2 h2
        have h6 : b 6 = true := hd 6 (by decide)
        obtain rfl := f6 h6
        have h13 : b 13 = true := hd 13 (by decide)
        obtain rfl := f13 h13
        refine GO.at hs ?_
        refine GO.on rfl rfl rfl rfl ?_
        refine GO.neq rfl rfl rfl rfl ?_
        refine GO.back ?_
        refine GO.fin (fun a hs => ?_)
        exact ⟨_, _, _, _, _, _, _, _, _, _, _, _, _, _, (.bool (!(decide (t75 = w64 (t5 + (w64 (2 * t85))))))), _, A70, c71, y72, A81, c82, _, _, hs.weak ⟨rfl, rfl, rfl, rfl, rfl, rfl, rfl, rfl, rfl, rfl, rfl, rfl, rfl, rfl, rfl, rfl, rfl, rfl, rfl, rfl, rfl, trivial⟩, HS.pick 7 [0, 1, 2, 3, 4, 5, 6], f0, f1, f2, f3, f4, f5, f6, f7, f8, f9, f10, f11, f12, f13, fun _ => rfl, f15, o12_0, o13_0⟩
       | 15, _ =>
        have h2 : b 2 = true := hd 2 (by decide)
        obtain rfl := f2 h2
        have h14 : b 14 = true := hd 14 (by decide)
        obtain rfl := f14 h14
        refine GO.at hs ?_
        refine GO.pickF rfl rfl rfl rfl rfl ?_
        refine GO.fin (fun a hs => ?_)
        exact ⟨_, _, _, _, _, _, _, _, _, _, _, _, _, _, _, (.bool (!(decide (t75 = w64 (t5 + (w64 (2 * t85))))))), A70, c71, y72, A81, c82, _, _, hs.weak ⟨rfl, rfl, rfl, rfl, rfl, rfl, rfl, rfl, rfl, rfl, rfl, rfl, rfl, rfl, rfl, rfl, rfl, rfl, rfl, rfl, rfl, trivial⟩, HS.pick 7 [0, 1, 2, 3, 4, 5, 6], f0, f1, f2, f3, f4, f5, f6, f7, f8, f9, f10, f11, f12, f13, f14, fun _ => rfl, o12_0, o13_0⟩
       | k + 16, hj => exact absurd hj (Nat.not_lt.2 (Nat.le_add_left 16 k))
      ·
       intro b a w hall
       refine exI fun Y1_0 => exI fun Y2_1 => exI fun Y3_2 => exI fun Y4_3 => exI fun Y5_4 => exI fun Y6_5 => exI fun Y7_6 => exI fun Y8_7 => exI fun Y9_8 => exI fun Y10_9 => exI fun Y11_10 => exI fun Y12_11 => exI fun Y13_12 => exI fun Y14_13 => exI fun Y15_14 => exI fun Y16_15 => exI fun A70 => exI fun c71 => exI fun y72 => exI fun A81 => exI fun c82 => exI fun O17_12 => exI fun O18_13 => anI fun hs => anI fun HS => anI fun f0 => anI fun f1 => anI fun f2 => anI fun f3 => anI fun f4 => anI fun f5 => anI fun f6 => anI fun f7 => anI fun f8 => anI fun f9 => anI fun f10 => anI fun f11 => anI fun f12 => anI fun f13 => anI fun f14 => anI fun f15 => anI fun o12_0 => fun o13_0 => ?_
       obtain rfl := f0 (hall 0 (by decide))
       obtain rfl := f1 (hall 1 (by decide))
       obtain rfl := f2 (hall 2 (by decide))
       obtain rfl := f3 (hall 3 (by decide))
       obtain rfl := f4 (hall 4 (by decide))
       obtain rfl := f5 (hall 5 (by decide))
       obtain rfl := f6 (hall 6 (by decide))
       obtain rfl := f7 (hall 7 (by decide))
       obtain rfl := f8 (hall 8 (by decide))
       obtain rfl := f9 (hall 9 (by decide))
       obtain rfl := f10 (hall 10 (by decide))
       obtain rfl := f11 (hall 11 (by decide))
       obtain rfl := f12 (hall 12 (by decide))
       obtain rfl := f13 (hall 13 (by decide))
       obtain rfl := f14 (hall 14 (by decide))
       obtain rfl := f15 (hall 15 (by decide))
       obtain rfl := o12_0 (hall 5 (by decide))
       obtain rfl := o13_0 (hall 10 (by decide))
       refine G.at hs ?_
       rcases ite_elim H with ⟨c89, H⟩ | ⟨c89, H⟩
       ·
        refine G.noB rfl (congrArg Bool.not (decide_eq_true c89)) ?_
        refine G.skip ?_
        refine G.seq ?_
        refine G.region ?_
        refine GO.ldBoxA (j := 0) ([.slice A36 t32.length c37, .slice A38 t33.length c39]) HS rfl rfl rfl rfl ag63 rfl ?_
        refine GO.stBox (j := 3) (vs := [.slice A36 t32.length c37, .slice A38 t33.length c39]) ([.slice A36 t32.length c37, .slice A38 t33.length c39]) HS rfl rfl rfl rfl rfl (htA ag63) rfl rfl rfl ?_; intro wd90 HS
        refine GO.assign rfl rfl rfl ?_
        refine GO.nil ?_
        obtain ⟨rfl, rfl, rfl⟩ := some3 H
        exact G.ret2 _ _ Try.func45 rfl (Res1.boxA (j := 3) (vs := [.slice A36 t32.length c37, .slice A38 t33.length c39]) HS rfl rfl rfl ag63) rfl ⟨_, _, _, _, rfl, (HS.pick 7 [1, 2])⟩
       ·
        refine G.yesB rfl (congrArg Bool.not (decide_eq_false c89)) ?_
        refine G.seq ?_
        refine G.region ?_
        refine GO.buildV (.agg [.slice none 0 0, .slice none 0 0].toArray) rfl rfl (fun _ => by kernel_rfl) rfl ?_
        refine GO.stBox (j := 3) (vs := [.slice none 0 0, .slice none 0 0]) ([.slice none 0 0, .slice none 0 0]) HS rfl rfl rfl rfl rfl (htA ag63) rfl rfl rfl ?_; intro wd91 HS
        refine GO.assign rfl rfl rfl ?_
        refine GO.nil ?_
        replace HS := HS.nilRow T_GEnd 68 (fun _ => ())
        replace HS := HS.nilRow T_GEnd 68 (fun _ => ())
        obtain ⟨rfl, rfl, rfl⟩ := some3 H
        exact G.ret2 _ _ Try.func45 rfl (Res1.boxA (j := 5) (vs := [.slice none 0 0, .slice none 0 0]) HS rfl rfl rfl ag63) rfl ⟨_, _, _, _, rfl, (HS.pick 9 [1, 0])⟩
     ·
      refine G.regionAny mixed (by decide) (fun b a w => ∃ (Y19_0 : Value) (Y20_1 : Value) (Y21_2 : Value) (Y22_3 : Value) (Y23_4 : Value) (Y24_5 : Value) (Y25_6 : Value) (Y26_7 : Value) (Y27_8 : Value) (Y28_9 : Value) (Y29_10 : Value) (Y30_11 : Value) (Y31_12 : Value) (Y32_13 : Value) (Y33_14 : Value) (Y34_15 : Value), Sat 47 [(29, Y19_0), (30, Y20_1), (31, Y21_2), (32, Y22_3), (33, Y23_4), (34, Y24_5), (35, Y25_6), (36, Y26_7), (37, Y27_8), (38, Y28_9), (39, Y29_10), (40, Y30_11), (41, Y31_12), (42, Y32_13), (43, Y33_14), (44, Y34_15), (1, .pointer (some ⟨b1, 0, none⟩)), (2, .pointer (some ⟨b3, 0, none⟩)), (4, .int .i64 t5), (5, .pointer (some ⟨b42, 0, none⟩)), (6, .bool t34)] a ∧ St w0 w (Box b42 63 [.slice A36 t32.length c37, .slice A38 t33.length c39] :: Own T_GEnd 68 A36 c37 (fun _ => ()) t32 :: Own T_GEnd 68 A38 c39 (fun _ => ()) t33 :: Box b3 63 [.slice none 0 0, .slice none 0 0] :: Box b1 28 [.slice A_d_Crossings d_Crossings.length c_d_Crossings, .int .i64 d_Circles] :: L) ∧ (b 0 = true → Y19_0 = (.bool t34)) ∧ (b 1 = true → Y20_1 = (.bool (!t34))) ∧ (b 2 = true → Y21_2 = (.bool true)) ∧ (b 3 = true → Y22_3 = (undef)) ∧ (b 4 = true → Y23_4 = (undef)) ∧ (b 5 = true → Y24_5 = (undef)) ∧ (b 6 = true → Y25_6 = (undef)) ∧ (b 7 = true → Y26_7 = (undef)) ∧ (b 8 = true → Y27_8 = (undef)) ∧ (b 9 = true → Y28_9 = (undef)) ∧ (b 10 = true → Y29_10 = (undef)) ∧ (b 11 = true → Y30_11 = (undef)) ∧ (b 12 = true → Y31_12 = (undef)) ∧ (b 13 = true → Y32_13 = (undef)) ∧ (b 14 = true → Y33_14 = (undef)) ∧ (b 15 = true → Y34_15 = (.bool true))) ?_ ?_ ?_
      ·
       intro a hs
       obtain ⟨Y19_0, hs⟩ := hs.ext (d := 29) rfl
       obtain ⟨Y20_1, hs⟩ := hs.ext (d := 30) rfl
       obtain ⟨Y21_2, hs⟩ := hs.ext (d := 31) rfl
       obtain ⟨Y22_3, hs⟩ := hs.ext (d := 32) rfl
       obtain ⟨Y23_4, hs⟩ := hs.ext (d := 33) rfl
       obtain ⟨Y24_5, hs⟩ := hs.ext (d := 34) rfl
       obtain ⟨Y25_6, hs⟩ := hs.ext (d := 35) rfl
       obtain ⟨Y26_7, hs⟩ := hs.ext (d := 36) rfl
       obtain ⟨Y27_8, hs⟩ := hs.ext (d := 37) rfl
       obtain ⟨Y28_9, hs⟩ := hs.ext (d := 38) rfl
       obtain ⟨Y29_10, hs⟩ := hs.ext (d := 39) rfl
       obtain ⟨Y30_11, hs⟩ := hs.ext (d := 40) rfl
       obtain ⟨Y31_12, hs⟩ := hs.ext (d := 41) rfl
       obtain ⟨Y32_13, hs⟩ := hs.ext (d := 42) rfl
       obtain ⟨Y33_14, hs⟩ := hs.ext (d := 43) rfl
       obtain ⟨Y34_15, hs⟩ := hs.ext (d := 44) rfl
       exact ⟨Y19_0, Y20_1, Y21_2, Y22_3, Y23_4, Y24_5, Y25_6, Y26_7, Y27_8, Y28_9, Y29_10, Y30_11, Y31_12, Y32_13, Y33_14, Y34_15, hs.weak ⟨rfl, rfl, rfl, rfl, rfl, rfl, rfl, rfl, rfl, rfl, rfl, rfl, rfl, rfl, rfl, rfl, rfl, rfl, rfl, rfl, rfl, trivial⟩, (HS.drew.pick 5 [0, 1, 2, 3, 4]), fun h => Bool.noConfusion h, fun h => Bool.noConfusion h, fun h => Bool.noConfusion h, fun h => Bool.noConfusion h, fun h => Bool.noConfusion h, fun h => Bool.noConfusion h, fun h => Bool.noConfusion h, fun h => Bool.noConfusion h, fun h => Bool.noConfusion h, fun h => Bool.noConfusion h, fun h => Bool.noConfusion h, fun h => Bool.noConfusion h, fun h => Bool.noConfusion h, fun h => Bool.noConfusion h, fun h => Bool.noConfusion h, fun h => Bool.noConfusion h⟩
      ·
       intro j hj b a w
       refine exI fun Y19_0 => exI fun Y20_1 => exI fun Y21_2 => exI fun Y22_3 => exI fun Y23_4 => exI fun Y24_5 => exI fun Y25_6 => exI fun Y26_7 => exI fun Y27_8 => exI fun Y28_9 => exI fun Y29_10 => exI fun Y30_11 => exI fun Y31_12 => exI fun Y32_13 => exI fun Y33_14 => exI fun Y34_15 => anI fun hs => anI fun HS => anI fun f0 => anI fun f1 => anI fun f2 => anI fun f3 => anI fun f4 => anI fun f5 => anI fun f6 => anI fun f7 => anI fun f8 => anI fun f9 => anI fun f10 => anI fun f11 => anI fun f12 => anI fun f13 => anI fun f14 => fun f15 hb hd hcl => ?_
       match j, hj with
       | 0, _ =>
        refine GO.at hs ?_
        refine GO.move rfl rfl rfl ?_
        refine GO.fin (fun a hs => ?_)
        exact ⟨(.bool t34), _, _, _, _, _, _, _, _, _, _, _, _, _, _, _, hs.weak ⟨rfl, rfl, rfl, rfl, rfl, rfl, rfl, rfl, rfl, rfl, rfl, rfl, rfl, rfl, rfl, rfl, rfl, rfl, rfl, rfl, rfl, trivial⟩, HS.pick 5 [0, 1, 2, 3, 4], fun _ => rfl, f1, f2, f3, f4, f5, f6, f7, f8, f9, f10, f11, f12, f13, f14, f15⟩
       | 1, _ =>
        have h0 : b 0 = true := hd 0 (by decide)
        obtain rfl := f0 h0
        refine GO.at hs ?_
        refine GO.not rfl rfl rfl ?_
        refine GO.fin (fun a hs => ?_)
        exact ⟨_, (.bool (!t34)), _, _, _, _, _, _, _, _, _, _, _, _, _, _, hs.weak ⟨rfl, rfl, rfl, rfl, rfl, rfl, rfl, rfl, rfl, rfl, rfl, rfl, rfl, rfl, rfl, rfl, rfl, rfl, rfl, rfl, rfl, trivial⟩, HS.pick 5 [0, 1, 2, 3, 4], f0, fun _ => rfl, f2, f3, f4, f5, f6, f7, f8, f9, f10, f11, f12, f13, f14, f15⟩
       | 2, _ =>
        have h1 : b 1 = true := hd 1 (by decide)
        obtain rfl := f1 h1
        refine GO.at hs ?_
        refine GO.move rfl rfl rfl ?_
        refine GO.known (t := 31) rfl (congrArg Bool.not (bnot_of c67)) ?_
        refine GO.fin (fun a hs => ?_)
        exact ⟨_, _, (.bool true), _, _, _, _, _, _, _, _, _, _, _, _, _, hs.weak ⟨rfl, rfl, rfl, rfl, rfl, rfl, rfl, rfl, rfl, rfl, rfl, rfl, rfl, rfl, rfl, rfl, rfl, rfl, rfl, rfl, rfl, trivial⟩, HS.pick 5 [0, 1, 2, 3, 4], f0, f1, fun _ => rfl, f3, f4, f5, f6, f7, f8, f9, f10, f11, f12, f13, f14, f15⟩
       | 3, _ =>
        have h2 : b 2 = true := hd 2 (by decide)
        obtain rfl := f2 h2
        refine GO.at hs ?_
        refine GO.off rfl rfl rfl rfl rfl rfl ?_
        refine GO.fin (fun a hs => ?_)
        exact ⟨_, _, _, (undef), _, _, _, _, _, _, _, _, _, _, _, _, hs.weak ⟨rfl, rfl, rfl, rfl, rfl, rfl, rfl, rfl, rfl, rfl, rfl, rfl, rfl, rfl, rfl, rfl, rfl, rfl, rfl, rfl, rfl, trivial⟩, HS.pick 5 [0, 1, 2, 3, 4], f0, f1, f2, fun _ => rfl, f4, f5, f6, f7, f8, f9, f10, f11, f12, f13, f14, f15⟩
       | 4, _ =>
        have h2 : b 2 = true := hd 2 (by decide)
        obtain rfl := f2 h2
        refine GO.at hs ?_
        refine GO.off rfl rfl rfl rfl rfl rfl ?_
        refine GO.fin (fun a hs => ?_)
        exact ⟨_, _, _, _, (undef), _, _, _, _, _, _, _, _, _, _, _, hs.weak ⟨rfl, rfl, rfl, rfl, rfl, rfl, rfl, rfl, rfl, rfl, rfl, rfl, rfl, rfl, rfl, rfl, rfl, rfl, rfl, rfl, rfl, trivial⟩, HS.pick 5 [0, 1, 2, 3, 4], f0, f1, f2, f3, fun _ => rfl, f5, f6, f7, f8, f9, f10, f11, f12, f13, f14, f15⟩
       | 5, _ =>
        have h2 : b 2 = true := hd 2 (by decide)
        obtain rfl := f2 h2
        have h3 : b 3 = true := hd 3 (by decide)
        obtain rfl := f3 h3
        have h4 : b 4 = true := hd 4 (by decide)
        obtain rfl := f4 h4
        refine GO.at hs ?_
        refine GO.off rfl rfl rfl rfl rfl rfl ?_
        refine GO.fin (fun a hs => ?_)
        exact ⟨_, _, _, _, _, (undef), _, _, _, _, _, _, _, _, _, _, hs.weak ⟨rfl, rfl, rfl, rfl, rfl, rfl, rfl, rfl, rfl, rfl, rfl, rfl, rfl, rfl, rfl, rfl, rfl, rfl, rfl, rfl, rfl, trivial⟩, HS.pick 5 [0, 1, 2, 3, 4], f0, f1, f2, f3, f4, fun _ => rfl, f6, f7, f8, f9, f10, f11, f12, f13, f14, f15⟩
       | 6, _ =>
        have h2 : b 2 = true := hd 2 (by decide)
        obtain rfl := f2 h2
        have h5 : b 5 = true := hd 5 (by decide)
        obtain rfl := f5 h5
        refine GO.at hs ?_
        refine GO.off rfl rfl rfl rfl rfl rfl ?_
        refine GO.fin (fun a hs => ?_)
        exact ⟨_, _, _, _, _, _, (undef), _, _, _, _, _, _, _, _, _, hs.weak ⟨rfl, rfl, rfl, rfl, rfl, rfl, rfl, rfl, rfl, rfl, rfl, rfl, rfl, rfl, rfl, rfl, rfl, rfl, rfl, rfl, rfl, trivial⟩, HS.pick 5 [0, 1, 2, 3, 4], f0, f1, f2, f3, f4, f5, fun _ => rfl, f7, f8, f9, f10, f11, f12, f13, f14, f15⟩
       | 7, _ =>
        have h2 : b 2 = true := hd 2 (by decide)
        obtain rfl := f2 h2
        refine GO.at hs ?_
        refine GO.off rfl rfl rfl rfl rfl rfl ?_
        refine GO.fin (fun a hs => ?_)
        exact ⟨_, _, _, _, _, _, _, (undef), _, _, _, _, _, _, _, _, hs.weak ⟨rfl, rfl, rfl, rfl, rfl, rfl, rfl, rfl, rfl, rfl, rfl, rfl, rfl, rfl, rfl, rfl, rfl, rfl, rfl, rfl, rfl, trivial⟩, HS.pick 5 [0, 1, 2, 3, 4], f0, f1, f2, f3, f4, f5, f6, fun _ => rfl, f8, f9, f10, f11, f12, f13, f14, f15⟩
       | 8, _ =>
        have h2 : b 2 = true := hd 2 (by decide)
        obtain rfl := f2 h2
        refine GO.at hs ?_
        refine GO.off rfl rfl rfl rfl rfl rfl ?_
        refine GO.fin (fun a hs => ?_)
        exact ⟨_, _, _, _, _, _, _, _, (undef), _, _, _, _, _, _, _, hs.weak ⟨rfl, rfl, rfl, rfl, rfl, rfl, rfl, rfl, rfl, rfl, rfl, rfl, rfl, rfl, rfl, rfl, rfl, rfl, rfl, rfl, rfl, trivial⟩, HS.pick 5 [0, 1, 2, 3, 4], f0, f1, f2, f3, f4, f5, f6, f7, fun _ => rfl, f9, f10, f11, f12, f13, f14, f15⟩
       | 9, _ =>
        have h2 : b 2 = true := hd 2 (by decide)
        obtain rfl := f2 h2
        refine GO.at hs ?_
        refine GO.off rfl rfl rfl rfl rfl rfl ?_
        refine GO.fin (fun a hs => ?_)
        exact ⟨_, _, _, _, _, _, _, _, _, (undef), _, _, _, _, _, _, hs.weak ⟨rfl, rfl, rfl, rfl, rfl, rfl, rfl, rfl, rfl, rfl, rfl, rfl, rfl, rfl, rfl, rfl, rfl, rfl, rfl, rfl, rfl, trivial⟩, HS.pick 5 [0, 1, 2, 3, 4], f0, f1, f2, f3, f4, f5, f6, f7, f8, fun _ => rfl, f10, f11, f12, f13, f14, f15⟩
       | 10, _ =>
        have h2 : b 2 = true := hd 2 (by decide)
        obtain rfl := f2 h2
        have h8 : b 8 = true := hd 8 (by decide)
        obtain rfl := f8 h8
        have h9 : b 9 = true := hd 9 (by decide)
        obtain rfl := f9 h9
        refine GO.at hs ?_
        refine GO.off rfl rfl rfl rfl rfl rfl ?_
        refine GO.fin (fun a hs => ?_)
        exact ⟨_, _, _, _, _, _, _, _, _, _, (undef), _, _, _, _, _, hs.weak ⟨rfl, rfl, rfl, rfl, rfl, rfl, rfl, rfl, rfl, rfl, rfl, rfl, rfl, rfl, rfl, rfl, rfl, rfl, rfl, rfl, rfl, trivial⟩, HS.pick 5 [0, 1, 2, 3, 4], f0, f1, f2, f3, f4, f5, f6, f7, f8, f9, fun _ => rfl, f11, f12, f13, f14, f15⟩
       | 11, _ =>
        have h2 : b 2 = true := hd 2 (by decide)
        obtain rfl := f2 h2
        have h10 : b 10 = true := hd 10 (by decide)
        obtain rfl := f10 h10
        refine GO.at hs ?_
        refine GO.off rfl rfl rfl rfl rfl rfl ?_
        refine GO.fin (fun a hs => ?_)
        exact ⟨_, _, _, _, _, _, _, _, _, _, _, (undef), _, _, _, _, hs.weak ⟨rfl, rfl, rfl, rfl, rfl, rfl, rfl, rfl, rfl, rfl, rfl, rfl, rfl, rfl, rfl, rfl, rfl, rfl, rfl, rfl, rfl, trivial⟩, HS.pick 5 [0, 1, 2, 3, 4], f0, f1, f2, f3, f4, f5, f6, f7, f8, f9, f10, fun _ => rfl, f12, f13, f14, f15⟩
       | 12, _ =>
        have h2 : b 2 = true := hd 2 (by decide)
        obtain rfl := f2 h2
        have h11 : b 11 = true := hd 11 (by decide)
        obtain rfl := f11 h11
        refine GO.at hs ?_
        refine GO.off rfl rfl rfl rfl rfl rfl ?_
        refine GO.fin (fun a hs => ?_)
        exact ⟨_, _, _, _, _, _, _, _, _, _, _, _, (undef), _, _, _, hs.weak ⟨rfl, rfl, rfl, rfl, rfl, rfl, rfl, rfl, rfl, rfl, rfl, rfl, rfl, rfl, rfl, rfl, rfl, rfl, rfl, rfl, rfl, trivial⟩, HS.pick 5 [0, 1, 2, 3, 4], f0, f1, f2, f3, f4, f5, f6, f7, f8, f9, f10, f11, fun _ => rfl, f13, f14, f15⟩
       | 13, _ =>
        have h2 : b 2 = true := hd 2 (by decide)
        obtain rfl := f2 h2
        have h7 : b 7 = true := hd 7 (by decide)
        obtain rfl := f7 h7
        have h12 : b 12 = true := hd 12 (by decide)
        obtain rfl := f12 h12
        refine GO.at hs ?_
        refine GO.off rfl rfl rfl rfl rfl rfl ?_
        refine GO.fin (fun a hs => ?_)
        exact ⟨_, _, _, _, _, _, _, _, _, _, _, _, _, (undef), _, _, hs.weak ⟨rfl, rfl, rfl, rfl, rfl, rfl, rfl, rfl, rfl, rfl, rfl, rfl, rfl, rfl, rfl, rfl, rfl, rfl, rfl, rfl, rfl, trivial⟩, HS.pick 5 [0, 1, 2, 3, 4], f0, f1, f2, f3, f4, f5, f6, f7, f8, f9, f10, f11, f12, fun _ => rfl, f14, f15⟩
       | 14, _ =>
        have h2 : b 2 = true := hd 2 (by decide)
        obtain rfl := f2 h2
        have h6 : b 6 = true := hd 6 (by decide)
        obtain rfl := f6 h6
        have h13 : b 13 = true := hd 13 (by decide)
        obtain rfl := f13 h13
        refine GO.at hs ?_
        refine GO.off rfl rfl rfl rfl rfl rfl ?_
        refine GO.fin (fun a hs => ?_)
        exact ⟨_, _, _, _, _, _, _, _, _, _, _, _, _, _, (undef), _, hs.weak ⟨rfl, rfl, rfl, rfl, rfl, rfl, rfl, rfl, rfl, rfl, rfl, rfl, rfl, rfl, rfl, rfl, rfl, rfl, rfl, rfl, rfl, trivial⟩, HS.pick 5 [0, 1, 2, 3, 4], f0, f1, f2, f3, f4, f5, f6, f7, f8, f9, f10, f11, f12, f13, fun _ => rfl, f15⟩
       | 15, _ =>
        have h2 : b 2 = true := hd 2 (by decide)
        obtain rfl := f2 h2
        have h14 : b 14 = true := hd 14 (by decide)
        obtain rfl := f14 h14
        refine GO.at hs ?_
        refine GO.pickT rfl rfl rfl rfl rfl ?_
        refine GO.fin (fun a hs => ?_)
        exact ⟨_, _, _, _, _, _, _, _, _, _, _, _, _, _, _, (.bool true), hs.weak ⟨rfl, rfl, rfl, rfl, rfl, rfl, rfl, rfl, rfl, rfl, rfl, rfl, rfl, rfl, rfl, rfl, rfl, rfl, rfl, rfl, rfl, trivial⟩, HS.pick 5 [0, 1, 2, 3, 4], f0, f1, f2, f3, f4, f5, f6, f7, f8, f9, f10, f11, f12, f13, f14, fun _ => rfl⟩
       | k + 16, hj => exact absurd hj (Nat.not_lt.2 (Nat.le_add_left 16 k))
      ·
       intro b a w hall
       refine exI fun Y19_0 => exI fun Y20_1 => exI fun Y21_2 => exI fun Y22_3 => exI fun Y23_4 => exI fun Y24_5 => exI fun Y25_6 => exI fun Y26_7 => exI fun Y27_8 => exI fun Y28_9 => exI fun Y29_10 => exI fun Y30_11 => exI fun Y31_12 => exI fun Y32_13 => exI fun Y33_14 => exI fun Y34_15 => anI fun hs => anI fun HS => anI fun f0 => anI fun f1 => anI fun f2 => anI fun f3 => anI fun f4 => anI fun f5 => anI fun f6 => anI fun f7 => anI fun f8 => anI fun f9 => anI fun f10 => anI fun f11 => anI fun f12 => anI fun f13 => anI fun f14 => fun f15 => ?_
       obtain rfl := f0 (hall 0 (by decide))
       obtain rfl := f1 (hall 1 (by decide))
       obtain rfl := f2 (hall 2 (by decide))
       obtain rfl := f3 (hall 3 (by decide))
       obtain rfl := f4 (hall 4 (by decide))
       obtain rfl := f5 (hall 5 (by decide))
       obtain rfl := f6 (hall 6 (by decide))
       obtain rfl := f7 (hall 7 (by decide))
       obtain rfl := f8 (hall 8 (by decide))
       obtain rfl := f9 (hall 9 (by decide))
       obtain rfl := f10 (hall 10 (by decide))
       obtain rfl := f11 (hall 11 (by decide))
       obtain rfl := f12 (hall 12 (by decide))
       obtain rfl := f13 (hall 13 (by decide))
       obtain rfl := f14 (hall 14 (by decide))
       obtain rfl := f15 (hall 15 (by decide))
       refine G.at hs ?_
       refine G.yesB rfl rfl ?_
       refine G.seq ?_
       refine G.region ?_
       refine GO.buildV (.agg [.slice none 0 0, .slice none 0 0].toArray) rfl rfl (fun _ => by kernel_rfl) rfl ?_
       refine GO.stBox (j := 3) (vs := [.slice none 0 0, .slice none 0 0]) ([.slice none 0 0, .slice none 0 0]) HS rfl rfl rfl rfl rfl (htA ag63) rfl rfl rfl ?_; intro wd92 HS
       refine GO.assign rfl rfl rfl ?_
       refine GO.nil ?_
       replace HS := HS.nilRow T_GEnd 68 (fun _ => ())
       replace HS := HS.nilRow T_GEnd 68 (fun _ => ())
       obtain ⟨rfl, rfl, rfl⟩ := some3 H
       exact G.ret2 _ _ Try.func45 rfl (Res1.boxA (j := 5) (vs := [.slice none 0 0, .slice none 0 0]) HS rfl rfl rfl ag63) rfl ⟨_, _, _, _, rfl, (HS.pick 7 [1, 0])⟩
   ·
    refine G.region ?_
    refine GO.move rfl rfl rfl ?_
    refine GO.gtr rfl rfl rfl rfl ?_
    refine GO.move rfl rfl rfl ?_
    refine GO.known (t := 12) rfl (decide_eq_false c19) ?_
    refine GO.on rfl rfl rfl rfl ?_
    refine GO.fld (⟨b1, 1, none⟩) rfl rfl fl28_1 rfl rfl ?_
    refine GO.back ?_
    refine GO.on rfl rfl rfl rfl ?_
    refine GO.ldBox (j := 1) HS rfl rfl rfl rfl na2 rfl ?_
    refine GO.back ?_
    refine GO.on rfl rfl rfl rfl ?_
    refine GO.fn rfl Try.func47 fok47.1 fok47.2 rfl rfl (impl_inRange.calls HS  h22) (fun _ wd23 ⟨h24, HS⟩ => ⟨_, h24, ?_⟩)
    refine GO.back ?_
    refine GO.on rfl rfl rfl rfl ?_
    refine GO.not rfl rfl rfl ?_
    refine GO.back ?_
    refine GO.pickF rfl rfl rfl rfl rfl ?_
    refine GO.move rfl rfl rfl ?_
    refine GO.known (t := 18) rfl (congrArg Bool.not (bnot_of c25)) ?_
    refine GO.off rfl rfl rfl rfl rfl rfl ?_
    refine GO.off rfl rfl rfl rfl rfl rfl ?_
    refine GO.off rfl rfl rfl rfl rfl rfl ?_
    refine GO.pickT rfl rfl rfl rfl rfl ?_
    refine GO.nil ?_
    refine G.yesB rfl rfl ?_
    refine G.seq ?_
    refine G.region ?_
    refine GO.buildV (.agg [.slice none 0 0, .slice none 0 0].toArray) rfl rfl (fun _ => by kernel_rfl) rfl ?_
    refine GO.stBox (j := 0) (vs := [.slice none 0 0, .slice none 0 0]) ([.slice none 0 0, .slice none 0 0]) HS rfl rfl rfl rfl rfl (htA ag63) rfl rfl rfl ?_; intro wd93 HS
    refine GO.assign rfl rfl rfl ?_
    refine GO.nil ?_
    replace HS := HS.nilRow T_GEnd 68 (fun _ => ())
    replace HS := HS.nilRow T_GEnd 68 (fun _ => ())
    obtain ⟨rfl, rfl, rfl⟩ := some3 H
    exact G.ret2 _ _ Try.func45 rfl (Res1.boxA (j := 2) (vs := [.slice none 0 0, .slice none 0 0]) HS rfl rfl rfl ag63) rfl ⟨_, _, _, _, rfl, (HS.pick 4 [1, 0])⟩

set_option maxRecDepth 20000 in
set_option maxHeartbeats 40000000 in
theorem slices_Clone_impl_Crossing_impl_Crossing.calls {w0 w : World} {L : List HObj} {s : List GCrossing} {A_s : Option Addr} {c_s : Nat} {r1 : List GCrossing} (HS : St w0 w (L)) (h_s : RdIn w0 L T_GCrossing A_s c_s (fun _ => ()) s) (H : slices_Clone_impl_Crossing_impl_Crossing.f s = some r1) :
    Calls Try.prog 112 #[.slice A_s s.length c_s] w (slices_Clone_impl_Crossing_impl_Crossing.post w0 L s A_s c_s r1) := by
  unfold slices_Clone_impl_Crossing_impl_Crossing.f at H
  refine Calls.of_G Try.func112 rfl rfl rfl ?_
  refine G.seq ?_
  refine G.region ?_
  refine GO.assign rfl rfl rfl ?_
  refine GO.nil ?_
  refine G.seq ?_
  refine G.seq ?_
  refine G.region ?_
  refine GO.move rfl rfl rfl ?_
  refine GO.eqNil rfl rfl rfl Try.underlying26 rfl ?_
  refine GO.nil ?_
  rcases Decidable.em (A_s.isNone = true) with c1 | c1
  ·
   obtain rfl := nil_of_none h_s HS c1
   refine G.yesB rfl c1 ?_
   refine G.seq ?_
   refine G.region ?_
   refine GO.assign rfl rfl rfl ?_
   refine GO.nil ?_
   replace HS := HS.nilRow T_GCrossing 58 (fun _ => ())
   replace H : some ([] : List GCrossing) = some r1 := H
   obtain rfl := Option.some.inj H
   exact G.ret1 _ Try.func112 rfl rfl ⟨_, _, rfl, HS⟩
  ·
   refine G.noB rfl (bnot_of c1) ?_
   refine G.skip ?_
   refine G.seq ?_
   obtain ⟨c7, H⟩ := ite_none H
   refine G.region ?_
   refine GO.buildS (el := 58) ([]) HS rfl rfl (fun _ => by kernel_rfl) rfl ?_; intro b2 wd3 HS
   refine GO.move rfl rfl rfl ?_
   replace HS := HS.boxRow (T := T_GCrossing) (j := 0) rfl flat_flat (fun _ => ()) ([] : List GCrossing) rfl (bndL rfl)
   refine GO.lenC (t := 5) (m := ([] : List GCrossing).length) (c' := ([] : List GCrossing).length) rfl rfl rfl ?_
   refine GO.appS (T := T_GCrossing) (j := 0) HS rfl (RdIn.drop 1 h_s) flat_flat rfl rfl rfl Try.underlying26 inf58 rfl rfl rfl c7 rfl (fun _ => rfl) ?_; intro A5 c6 wd4 HS
   refine GO.assign rfl rfl rfl ?_
   refine GO.nil ?_
   obtain rfl := Option.some.inj H
   exact G.ret1 _ Try.func112 rfl rfl ⟨_, _, rfl, HS⟩

set_option maxRecDepth 20000 in
set_option maxHeartbeats 40000000 in
theorem impl_crossingOf.calls {w0 w : World} {L : List HObj} {ends_0 : Int} {ends_1 : Int} {ends_2 : Int} {ends_3 : Int} {sign : Int} {r1 : Int} {r2 : Int} {r3 : Int} {r4 : Int} {r5 : Int} (HS : St w0 w (L)) (H : impl_crossingOf.f ends_0 ends_1 ends_2 ends_3 sign = some (r1, r2, r3, r4, r5)) :
    Calls Try.prog 113 #[.agg [.int .i64 ends_0, .int .i64 ends_1, .int .i64 ends_2, .int .i64 ends_3].toArray, .int .i64 sign] w (impl_crossingOf.post w0 L ends_0 ends_1 ends_2 ends_3 sign r1 r2 r3 r4 r5) := by
  unfold impl_crossingOf.f at H
  refine Calls.of_G Try.func113 rfl rfl rfl ?_
  refine G.seq ?_
  refine G.region ?_
  refine GO.box (cs := [.int .i64 ends_0, .int .i64 ends_1, .int .i64 ends_2, .int .i64 ends_3]) HS rfl rfl rfl rfl ?_; intro b1 wd2 HS
  refine GO.alloc HS rfl zr58 rfl rfl ?_; intro b3 wd4 HS
  refine GO.nil ?_
  refine G.seq ?_
  refine G.region ?_
  refine GO.ixP 0 rfl rfl rfl rfl Try.underlying93 sz2 rfl rfl ?_
  refine GO.ldBox (j := 1) HS rfl rfl rfl rfl na2 rfl ?_
  refine GO.ixP 1 rfl rfl rfl rfl Try.underlying93 sz2 rfl rfl ?_
  refine GO.ldBox (j := 1) HS rfl rfl rfl rfl na2 rfl ?_
  refine GO.ixP 2 rfl rfl rfl rfl Try.underlying93 sz2 rfl rfl ?_
  refine GO.ldBox (j := 1) HS rfl rfl rfl rfl na2 rfl ?_
  refine GO.ixP 3 rfl rfl rfl rfl Try.underlying93 sz2 rfl rfl ?_
  refine GO.ldBox (j := 1) HS rfl rfl rfl rfl na2 rfl ?_
  refine GO.move rfl rfl rfl ?_
  refine GO.buildV (.agg [.int .i64 ends_0, .int .i64 ends_1, .int .i64 ends_2, .int .i64 ends_3, .int .i64 sign].toArray) rfl rfl (fun _ => by kernel_rfl) rfl ?_
  refine GO.stBox (j := 0) (vs := [.int .i64 ends_0, .int .i64 ends_1, .int .i64 ends_2, .int .i64 ends_3, .int .i64 sign]) ([.int .i64 ends_0, .int .i64 ends_1, .int .i64 ends_2, .int .i64 ends_3, .int .i64 sign]) HS rfl rfl rfl rfl rfl (htA ag58) rfl rfl rfl ?_; intro wd5 HS
  refine GO.nil ?_
  obtain ⟨rfl, rfl, rfl, rfl, rfl⟩ := some5 H
  exact G.ret1 _ Try.func113 rfl (Res1.boxA (j := 0) (vs := [.int .i64 ends_0, .int .i64 ends_1, .int .i64 ends_2, .int .i64 ends_3, .int .i64 sign]) HS rfl rfl rfl ag58) ⟨rfl, (HS.pick 2 [])⟩

set_option maxRecDepth 20000 in
set_option maxHeartbeats 40000000 in
theorem impl_Diagram_set.calls {w0 w : World} {L : List HObj} {d_Crossings : List GCrossing} {d_Circles : Int} {e_crossing : Int} {e_position : Int} {arc : Int} {A_d_Crossings : Option Addr} {c_d_Crossings : Nat} {r1 : List GCrossing} (HS : St w0 w (Own T_GCrossing 58 A_d_Crossings c_d_Crossings (fun _ => ()) d_Crossings :: L)) (H : impl_Diagram_set.f d_Crossings d_Circles e_crossing e_position arc = some r1) :
    Calls Try.prog 50 #[.agg [.slice A_d_Crossings d_Crossings.length c_d_Crossings, .int .i64 d_Circles].toArray, .agg [.int .i64 e_crossing, .int .i64 e_position].toArray, .int .i64 arc] w (impl_Diagram_set.post w0 L d_Crossings d_Circles e_crossing e_position arc A_d_Crossings c_d_Crossings r1) := by
  unfold impl_Diagram_set.f at H
  refine Calls.of_G Try.func50 rfl rfl rfl ?_
  refine G.seq ?_
  refine G.region ?_
  refine GO.box (cs := [.slice A_d_Crossings d_Crossings.length c_d_Crossings, .int .i64 d_Circles]) HS rfl rfl rfl rfl ?_; intro b1 wd2 HS
  refine GO.box (cs := [.int .i64 e_crossing, .int .i64 e_position]) HS rfl rfl rfl rfl ?_; intro b3 wd4 HS
  refine GO.nil ?_
  refine G.seq ?_
  obtain ⟨c5, H⟩ := ite_none H
  obtain ⟨e6, h7, H⟩ := bnd_elim H
  refine G.region ?_
  refine GO.fld (⟨b1, 0, none⟩) rfl rfl fl28_0 rfl rfl ?_
  refine GO.ldBox (j := 1) HS rfl rfl rfl rfl na26 rfl ?_
  refine GO.fld (⟨b3, 0, none⟩) rfl rfl fl68_0 rfl rfl ?_
  refine GO.ldBox (j := 0) HS rfl rfl rfl rfl na2 rfl ?_
  refine GO.ix rfl rfl rfl Try.underlying26 sz58 ((RdIn.own (j := 2) rfl) _ HS).2.2.1 c5.1 c5.2 rfl ?_
  refine GO.ldRdA (T := T_GCrossing) (n := e_crossing.toNat) HS (RdIn.own (j := 2) rfl) rfl rfl (getD_eq (ltN c5) h7) ag58 rfl ?_
  refine GO.alloc HS rfl zr58 rfl rfl ?_; intro b8 wd9 HS
  refine GO.stBox (j := 0) (vs := [.int .i64 e6.A, .int .i64 e6.B, .int .i64 e6.C, .int .i64 e6.D, .int .i64 e6.Sign]) ([.int .i64 e6.A, .int .i64 e6.B, .int .i64 e6.C, .int .i64 e6.D, .int .i64 e6.Sign]) HS rfl rfl rfl rfl rfl (htA ag58) rfl rfl rfl ?_; intro wd10 HS
  refine GO.nil ?_
  refine G.seq ?_
  obtain ⟨t11, t12, t13, t14, h15, H⟩ := bind4_elim H
  refine G.region ?_
  refine GO.ldBoxA (j := 0) ([.int .i64 e6.A, .int .i64 e6.B, .int .i64 e6.C, .int .i64 e6.D, .int .i64 e6.Sign]) HS rfl rfl rfl rfl ag58 rfl ?_
  refine GO.fn rfl Try.func75 fok75.1 fok75.2 rfl rfl (impl_Crossing_ends.calls HS  h15) (fun _ wd16 ⟨h17, HS⟩ => ⟨_, h17, ?_⟩)
  refine GO.alloc HS rfl zr93 rfl rfl ?_; intro b18 wd19 HS
  refine GO.stBox (j := 0) (vs := [.int .i64 t11, .int .i64 t12, .int .i64 t13, .int .i64 t14]) ([.int .i64 t11, .int .i64 t12, .int .i64 t13, .int .i64 t14]) HS rfl rfl rfl rfl rfl (htA ag93) rfl rfl rfl ?_; intro wd20 HS
  refine GO.nil ?_
  refine G.seq ?_
  rcases ite_elim H with ⟨c21, H⟩ | ⟨c21, H⟩
  ·
   refine G.region ?_
   refine GO.fld (⟨b3, 1, none⟩) rfl rfl fl68_1 rfl rfl ?_
   refine GO.ldBox (j := 2) HS rfl rfl rfl rfl na2 rfl ?_
   refine GO.move rfl rfl rfl ?_
   refine GO.ixP 0 rfl rfl rfl c21 Try.underlying93 sz2 rfl rfl ?_
   refine GO.stBox (j := 0) (vs := [.int .i64 arc]) ([.int .i64 arc, .int .i64 t12, .int .i64 t13, .int .i64 t14]) HS rfl rfl rfl rfl rfl (htN na2 rfl) rfl rfl rfl ?_; intro wd22 HS
   refine GO.nil ?_
   obtain ⟨t23, t24, t25, t26, t27, h28, H⟩ := bind5_elim H
   refine G.regionAny mixed (by decide) (fun b a w => ∃ (Y1_0 : Value) (Y2_1 : Value) (Y3_2 : Value) (Y4_3 : Value) (Y5_4 : Value) (Y6_5 : Value) (Y7_6 : Value) (Y8_7 : Value) (Y9_8 : Value) (O10_1 : HObj), Sat 29 [(20, Y1_0), (21, Y2_1), (22, Y3_2), (23, Y4_3), (24, Y5_4), (25, Y6_5), (26, Y7_6), (27, Y8_7), (28, Y9_8), (3, .pointer (some ⟨b1, 0, none⟩)), (4, .pointer (some ⟨b3, 0, none⟩)), (6, .pointer (some ⟨b8, 0, none⟩)), (7, .pointer (some ⟨b18, 0, none⟩))] a ∧ St w0 w (Box b18 93 [.int .i64 arc, .int .i64 t12, .int .i64 t13, .int .i64 t14] :: Box b8 58 [.int .i64 e6.A, .int .i64 e6.B, .int .i64 e6.C, .int .i64 e6.D, .int .i64 e6.Sign] :: Box b3 68 [.int .i64 e_crossing, .int .i64 e_position] :: Box b1 28 [.slice A_d_Crossings d_Crossings.length c_d_Crossings, .int .i64 d_Circles] :: O10_1 :: L) ∧ (b 0 = true → Y1_0 = (.pointer (some ⟨b1, 0, none⟩))) ∧ (b 1 = true → Y2_1 = (.slice A_d_Crossings d_Crossings.length c_d_Crossings)) ∧ (b 2 = true → Y3_2 = (.pointer (some ⟨b3, 0, none⟩))) ∧ (b 3 = true → Y4_3 = (.int .i64 e_crossing)) ∧ (b 4 = true → Y5_4 = (.agg [.int .i64 arc, .int .i64 t12, .int .i64 t13, .int .i64 t14].toArray)) ∧ (b 5 = true → Y6_5 = (.pointer (some ⟨b8, 4, none⟩))) ∧ (b 6 = true → Y7_6 = (.int .i64 e6.Sign)) ∧ (b 7 = true → Y8_7 = (.agg [.int .i64 t23, .int .i64 t24, .int .i64 t25, .int .i64 t26, .int .i64 t27].toArray)) ∧ (b 8 = true → Y9_8 = (.pointer (some (ea A_d_Crossings (e_crossing.toNat * 5))))) ∧ (b 9 = false → O10_1 = Own T_GCrossing 58 A_d_Crossings c_d_Crossings (fun _ => ()) d_Crossings) ∧ (b 9 = true → O10_1 = Own T_GCrossing 58 A_d_Crossings c_d_Crossings (fun _ => ()) (d_Crossings.set e_crossing.toNat (⟨t23, t24, t25, t26, t27⟩ : GCrossing)))) ?_ ?_ ?_
   ·
    intro a hs
    obtain ⟨Y1_0, hs⟩ := hs.ext (d := 20) rfl
    obtain ⟨Y2_1, hs⟩ := hs.ext (d := 21) rfl
    obtain ⟨Y3_2, hs⟩ := hs.ext (d := 22) rfl
    obtain ⟨Y4_3, hs⟩ := hs.ext (d := 23) rfl
    obtain ⟨Y5_4, hs⟩ := hs.ext (d := 24) rfl
    obtain ⟨Y6_5, hs⟩ := hs.ext (d := 25) rfl
    obtain ⟨Y7_6, hs⟩ := hs.ext (d := 26) rfl
    obtain ⟨Y8_7, hs⟩ := hs.ext (d := 27) rfl
    obtain ⟨Y9_8, hs⟩ := hs.ext (d := 28) rfl
    exact ⟨Y1_0, Y2_1, Y3_2, Y4_3, Y5_4, Y6_5, Y7_6, Y8_7, Y9_8, Own T_GCrossing 58 A_d_Crossings c_d_Crossings (fun _ => ()) d_Crossings, hs.weak ⟨rfl, rfl, rfl, rfl, rfl, rfl, rfl, rfl, rfl, rfl, rfl, rfl, rfl, trivial⟩, (HS.drew.pick 5 [0, 1, 2, 3, 4]), fun h => Bool.noConfusion h, fun h => Bool.noConfusion h, fun h => Bool.noConfusion h, fun h => Bool.noConfusion h, fun h => Bool.noConfusion h, fun h => Bool.noConfusion h, fun h => Bool.noConfusion h, fun h => Bool.noConfusion h, fun h => Bool.noConfusion h, fun _ => rfl, fun h => Bool.noConfusion h⟩
   ·
    intro j hj b a w
    refine exI fun Y1_0 => exI fun Y2_1 => exI fun Y3_2 => exI fun Y4_3 => exI fun Y5_4 => exI fun Y6_5 => exI fun Y7_6 => exI fun Y8_7 => exI fun Y9_8 => exI fun O10_1 => anI fun hs => anI fun HS => anI fun f0 => anI fun f1 => anI fun f2 => anI fun f3 => anI fun f4 => anI fun f5 => anI fun f6 => anI fun f7 => anI fun f8 => anI fun o1_0 => fun o1_1 hb hd hcl => ?_
    match j, hj with
    | 0, _ =>
     refine GO.at hs ?_
     refine GO.fld (⟨b1, 0, none⟩) rfl rfl fl28_0 rfl rfl ?_
     refine GO.fin (fun a hs => ?_)
     exact ⟨(.pointer (some ⟨b1, 0, none⟩)), _, _, _, _, _, _, _, _, _, hs.weak ⟨rfl, rfl, rfl, rfl, rfl, rfl, rfl, rfl, rfl, rfl, rfl, rfl, rfl, trivial⟩, HS.pick 5 [0, 1, 2, 3, 4], fun _ => rfl, f1, f2, f3, f4, f5, f6, f7, f8, o1_0, o1_1⟩
    | 1, _ =>
     have h0 : b 0 = true := hd 0 (by decide)
     obtain rfl := f0 h0
     refine GO.at hs ?_
     refine GO.ldBox (j := 3) HS rfl rfl rfl rfl na26 rfl ?_
     refine GO.fin (fun a hs => ?_)
     exact ⟨_, (.slice A_d_Crossings d_Crossings.length c_d_Crossings), _, _, _, _, _, _, _, _, hs.weak ⟨rfl, rfl, rfl, rfl, rfl, rfl, rfl, rfl, rfl, rfl, rfl, rfl, rfl, trivial⟩, HS.pick 5 [0, 1, 2, 3, 4], f0, fun _ => rfl, f2, f3, f4, f5, f6, f7, f8, o1_0, o1_1⟩
    | 2, _ =>
     refine GO.at hs ?_
     refine GO.fld (⟨b3, 0, none⟩) rfl rfl fl68_0 rfl rfl ?_
     refine GO.fin (fun a hs => ?_)
     exact ⟨_, _, (.pointer (some ⟨b3, 0, none⟩)), _, _, _, _, _, _, _, hs.weak ⟨rfl, rfl, rfl, rfl, rfl, rfl, rfl, rfl, rfl, rfl, rfl, rfl, rfl, trivial⟩, HS.pick 5 [0, 1, 2, 3, 4], f0, f1, fun _ => rfl, f3, f4, f5, f6, f7, f8, o1_0, o1_1⟩
    | 3, _ =>
     have h2 : b 2 = true := hd 2 (by decide)
     obtain rfl := f2 h2
     refine GO.at hs ?_
     refine GO.ldBox (j := 2) HS rfl rfl rfl rfl na2 rfl ?_
     refine GO.fin (fun a hs => ?_)
     exact ⟨_, _, _, (.int .i64 e_crossing), _, _, _, _, _, _, hs.weak ⟨rfl, rfl, rfl, rfl, rfl, rfl, rfl, rfl, rfl, rfl, rfl, rfl, rfl, trivial⟩, HS.pick 5 [0, 1, 2, 3, 4], f0, f1, f2, fun _ => rfl, f4, f5, f6, f7, f8, o1_0, o1_1⟩
    | 4, _ =>
     refine GO.at hs ?_
     refine GO.ldBoxA (j := 0) ([.int .i64 arc, .int .i64 t12, .int .i64 t13, .int .i64 t14]) HS rfl rfl rfl rfl ag93 rfl ?_
     refine GO.fin (fun a hs => ?_)
     exact ⟨_, _, _, _, (.agg [.int .i64 arc, .int .i64 t12, .int .i64 t13, .int .i64 t14].toArray), _, _, _, _, _, hs.weak ⟨rfl, rfl, rfl, rfl, rfl, rfl, rfl, rfl, rfl, rfl, rfl, rfl, rfl, trivial⟩, HS.pick 5 [0, 1, 2, 3, 4], f0, f1, f2, f3, fun _ => rfl, f5, f6, f7, f8, o1_0, o1_1⟩
    | 5, _ =>
     refine GO.at hs ?_
     refine GO.fld (⟨b8, 4, none⟩) rfl rfl fl58_4 rfl rfl ?_
     refine GO.fin (fun a hs => ?_)
     exact ⟨_, _, _, _, _, (.pointer (some ⟨b8, 4, none⟩)), _, _, _, _, hs.weak ⟨rfl, rfl, rfl, rfl, rfl, rfl, rfl, rfl, rfl, rfl, rfl, rfl, rfl, trivial⟩, HS.pick 5 [0, 1, 2, 3, 4], f0, f1, f2, f3, f4, fun _ => rfl, f6, f7, f8, o1_0, o1_1⟩
    | 6, _ =>
     have h5 : b 5 = true := hd 5 (by decide)
     obtain rfl := f5 h5
     refine GO.at hs ?_
     refine GO.ldBox (j := 1) HS rfl rfl rfl rfl na2 rfl ?_
     refine GO.fin (fun a hs => ?_)
     exact ⟨_, _, _, _, _, _, (.int .i64 e6.Sign), _, _, _, hs.weak ⟨rfl, rfl, rfl, rfl, rfl, rfl, rfl, rfl, rfl, rfl, rfl, rfl, rfl, trivial⟩, HS.pick 5 [0, 1, 2, 3, 4], f0, f1, f2, f3, f4, f5, fun _ => rfl, f7, f8, o1_0, o1_1⟩
    | 7, _ =>
     have h4 : b 4 = true := hd 4 (by decide)
     obtain rfl := f4 h4
     have h6 : b 6 = true := hd 6 (by decide)
     obtain rfl := f6 h6
     refine GO.at hs ?_
     refine GO.fn rfl Try.func113 fok113.1 fok113.2 rfl rfl (impl_crossingOf.calls HS  h28) (fun _ wd29 ⟨h30, HS⟩ => ⟨_, h30, ?_⟩)
     refine GO.fin (fun a hs => ?_)
     exact ⟨_, _, _, _, _, _, _, (.agg [.int .i64 t23, .int .i64 t24, .int .i64 t25, .int .i64 t26, .int .i64 t27].toArray), _, _, hs.weak ⟨rfl, rfl, rfl, rfl, rfl, rfl, rfl, rfl, rfl, rfl, rfl, rfl, rfl, trivial⟩, HS.pick 5 [0, 1, 2, 3, 4], f0, f1, f2, f3, f4, f5, f6, fun _ => rfl, f8, o1_0, o1_1⟩
    | 8, _ =>
     have h1 : b 1 = true := hd 1 (by decide)
     obtain rfl := f1 h1
     have h3 : b 3 = true := hd 3 (by decide)
     obtain rfl := f3 h3
     have d9 : b 9 = false := bfalse (fun hh => hcl 9 (by decide) (hh) 8 (by decide)) hb
     obtain rfl := o1_0 d9
     refine GO.at hs ?_
     refine GO.ix rfl rfl rfl Try.underlying26 sz58 ((RdIn.own (j := 4) rfl) _ HS).2.2.1 c5.1 c5.2 rfl ?_
     refine GO.fin (fun a hs => ?_)
     exact ⟨_, _, _, _, _, _, _, _, (.pointer (some (ea A_d_Crossings (e_crossing.toNat * 5)))), _, hs.weak ⟨rfl, rfl, rfl, rfl, rfl, rfl, rfl, rfl, rfl, rfl, rfl, rfl, rfl, trivial⟩, HS.pick 5 [0, 1, 2, 3, 4], f0, f1, f2, f3, f4, f5, f6, f7, fun _ => rfl, o1_0, o1_1⟩
    | 9, _ =>
     have h7 : b 7 = true := hd 7 (by decide)
     obtain rfl := f7 h7
     have h8 : b 8 = true := hd 8 (by decide)
     obtain rfl := f8 h8
     obtain rfl := o1_0 hb
     refine GO.at hs ?_
     refine GO.stRow (T := T_GCrossing) (j := 4) (n := e_crossing.toNat) (o := 0) (vs := [.int .i64 t23, .int .i64 t24, .int .i64 t25, .int .i64 t26, .int .i64 t27]) (⟨t23, t24, t25, t26, t27⟩ : GCrossing) HS rfl flat_flat rfl rfl rfl rfl (htA ag58) rfl (getD_some (d := z_GCrossing) (ltN c5)) rfl rfl ?_; intro wd31 HS
     refine GO.fin (fun a hs => ?_)
     exact ⟨_, _, _, _, _, _, _, _, _, Own T_GCrossing 58 A_d_Crossings c_d_Crossings (fun _ => ()) (d_Crossings.set e_crossing.toNat (⟨t23, t24, t25, t26, t27⟩ : GCrossing)), hs.weak ⟨rfl, rfl, rfl, rfl, rfl, rfl, rfl, rfl, rfl, rfl, rfl, rfl, rfl, trivial⟩, HS.pick 5 [0, 1, 2, 3, 4], f0, f1, f2, f3, f4, f5, f6, f7, f8, fun h => Bool.noConfusion h, fun _ => rfl⟩
    | k + 10, hj => exact absurd hj (Nat.not_lt.2 (Nat.le_add_left 10 k))
   ·
    intro b a w hall
    refine exI fun Y1_0 => exI fun Y2_1 => exI fun Y3_2 => exI fun Y4_3 => exI fun Y5_4 => exI fun Y6_5 => exI fun Y7_6 => exI fun Y8_7 => exI fun Y9_8 => exI fun O10_1 => anI fun hs => anI fun HS => anI fun f0 => anI fun f1 => anI fun f2 => anI fun f3 => anI fun f4 => anI fun f5 => anI fun f6 => anI fun f7 => anI fun f8 => anI fun o1_0 => fun o1_1 => ?_
    obtain rfl := f0 (hall 0 (by decide))
    obtain rfl := f1 (hall 1 (by decide))
    obtain rfl := f2 (hall 2 (by decide))
    obtain rfl := f3 (hall 3 (by decide))
    obtain rfl := f4 (hall 4 (by decide))
    obtain rfl := f5 (hall 5 (by decide))
    obtain rfl := f6 (hall 6 (by decide))
    obtain rfl := f7 (hall 7 (by decide))
    obtain rfl := f8 (hall 8 (by decide))
    obtain rfl := o1_1 (hall 9 (by decide))
    refine G.at hs ?_
    replace HS := HS.boxEq (j := 3) (cs' := [.slice A_d_Crossings (d_Crossings.set e_crossing.toNat (⟨t23, t24, t25, t26, t27⟩ : GCrossing)).length c_d_Crossings, .int .i64 d_Circles]) rfl (by simp only [List.length_set] <;> rfl)
    obtain rfl := Option.some.inj H
    exact G.end0 Try.func50 rfl ⟨rfl, (HS.pick 5 [4])⟩
  ·
   rcases ite_elim H with ⟨c32, H⟩ | ⟨c32, H⟩
   ·
    refine G.region ?_
    refine GO.fld (⟨b3, 1, none⟩) rfl rfl fl68_1 rfl rfl ?_
    refine GO.ldBox (j := 2) HS rfl rfl rfl rfl na2 rfl ?_
    refine GO.move rfl rfl rfl ?_
    refine GO.ixP 1 rfl rfl rfl c32 Try.underlying93 sz2 rfl rfl ?_
    refine GO.stBox (j := 0) (vs := [.int .i64 arc]) ([.int .i64 t11, .int .i64 arc, .int .i64 t13, .int .i64 t14]) HS rfl rfl rfl rfl rfl (htN na2 rfl) rfl rfl rfl ?_; intro wd33 HS
    refine GO.nil ?_
    obtain ⟨t34, t35, t36, t37, t38, h39, H⟩ := bind5_elim H
    refine G.regionAny mixed (by decide) (fun b a w => ∃ (Y11_0 : Value) (Y12_1 : Value) (Y13_2 : Value) (Y14_3 : Value) (Y15_4 : Value) (Y16_5 : Value) (Y17_6 : Value) (Y18_7 : Value) (Y19_8 : Value) (O20_1 : HObj), Sat 29 [(20, Y11_0), (21, Y12_1), (22, Y13_2), (23, Y14_3), (24, Y15_4), (25, Y16_5), (26, Y17_6), (27, Y18_7), (28, Y19_8), (3, .pointer (some ⟨b1, 0, none⟩)), (4, .pointer (some ⟨b3, 0, none⟩)), (6, .pointer (some ⟨b8, 0, none⟩)), (7, .pointer (some ⟨b18, 0, none⟩))] a ∧ St w0 w (Box b18 93 [.int .i64 t11, .int .i64 arc, .int .i64 t13, .int .i64 t14] :: Box b8 58 [.int .i64 e6.A, .int .i64 e6.B, .int .i64 e6.C, .int .i64 e6.D, .int .i64 e6.Sign] :: Box b3 68 [.int .i64 e_crossing, .int .i64 e_position] :: Box b1 28 [.slice A_d_Crossings d_Crossings.length c_d_Crossings, .int .i64 d_Circles] :: O20_1 :: L) ∧ (b 0 = true → Y11_0 = (.pointer (some ⟨b1, 0, none⟩))) ∧ (b 1 = true → Y12_1 = (.slice A_d_Crossings d_Crossings.length c_d_Crossings)) ∧ (b 2 = true → Y13_2 = (.pointer (some ⟨b3, 0, none⟩))) ∧ (b 3 = true → Y14_3 = (.int .i64 e_crossing)) ∧ (b 4 = true → Y15_4 = (.agg [.int .i64 t11, .int .i64 arc, .int .i64 t13, .int .i64 t14].toArray)) ∧ (b 5 = true → Y16_5 = (.pointer (some ⟨b8, 4, none⟩))) ∧ (b 6 = true → Y17_6 = (.int .i64 e6.Sign)) ∧ (b 7 = true → Y18_7 = (.agg [.int .i64 t34, .int .i64 t35, .int .i64 t36, .int .i64 t37, .int .i64 t38].toArray)) ∧ (b 8 = true → Y19_8 = (.pointer (some (ea A_d_Crossings (e_crossing.toNat * 5))))) ∧ (b 9 = false → O20_1 = Own T_GCrossing 58 A_d_Crossings c_d_Crossings (fun _ => ()) d_Crossings) ∧ (b 9 = true → O20_1 = Own T_GCrossing 58 A_d_Crossings c_d_Crossings (fun _ => ()) (d_Crossings.set e_crossing.toNat (⟨t34, t35, t36, t37, t38⟩ : GCrossing)))) ?_ ?_ ?_
    ·
     intro a hs
     obtain ⟨Y11_0, hs⟩ := hs.ext (d := 20) rfl
     obtain ⟨Y12_1, hs⟩ := hs.ext (d := 21) rfl
     obtain ⟨Y13_2, hs⟩ := hs.ext (d := 22) rfl
     obtain ⟨Y14_3, hs⟩ := hs.ext (d := 23) rfl
     obtain ⟨Y15_4, hs⟩ := hs.ext (d := 24) rfl
     obtain ⟨Y16_5, hs⟩ := hs.ext (d := 25) rfl
     obtain ⟨Y17_6, hs⟩ := hs.ext (d := 26) rfl
     obtain ⟨Y18_7, hs⟩ := hs.ext (d := 27) rfl
     obtain ⟨Y19_8, hs⟩ := hs.ext (d := 28) rfl
     exact ⟨Y11_0, Y12_1, Y13_2, Y14_3, Y15_4, Y16_5, Y17_6, Y18_7, Y19_8, Own T_GCrossing 58 A_d_Crossings c_d_Crossings (fun _ => ()) d_Crossings, hs.weak ⟨rfl, rfl, rfl, rfl, rfl, rfl, rfl, rfl, rfl, rfl, rfl, rfl, rfl, trivial⟩, (HS.drew.pick 5 [0, 1, 2, 3, 4]), fun h => Bool.noConfusion h, fun h => Bool.noConfusion h, fun h => Bool.noConfusion h, fun h => Bool.noConfusion h, fun h => Bool.noConfusion h, fun h => Bool.noConfusion h, fun h => Bool.noConfusion h, fun h => Bool.noConfusion h, fun h => Bool.noConfusion h, fun _ => rfl, fun h => Bool.noConfusion h⟩
    ·
     intro j hj b a w
     refine exI fun Y11_0 => exI fun Y12_1 => exI fun Y13_2 => exI fun Y14_3 => exI fun Y15_4 => exI fun Y16_5 => exI fun Y17_6 => exI fun Y18_7 => exI fun Y19_8 => exI fun O20_1 => anI fun hs => anI fun HS => anI fun f0 => anI fun f1 => anI fun f2 => anI fun f3 => anI fun f4 => anI fun f5 => anI fun f6 => anI fun f7 => anI fun f8 => anI fun o1_0 => fun o1_1 hb hd hcl => ?_
     match j, hj with
     | 0, _ =>
      refine GO.at hs ?_
      refine GO.fld (⟨b1, 0, none⟩) rfl rfl fl28_0 rfl rfl ?_
      refine GO.fin (fun a hs => ?_)
      exact ⟨(.pointer (some ⟨b1, 0, none⟩)), _, _, _, _, _, _, _, _, _, hs.weak ⟨rfl, rfl, rfl, rfl, rfl, rfl, rfl, rfl, rfl, rfl, rfl, rfl, rfl, trivial⟩, HS.pick 5 [0, 1, 2, 3, 4], fun _ => rfl, f1, f2, f3, f4, f5, f6, f7, f8, o1_0, o1_1⟩
     | 1, _ =>
      have h0 : b 0 = true := hd 0 (by decide)
      obtain rfl := f0 h0
      refine GO.at hs ?_
      refine GO.ldBox (j := 3) HS rfl rfl rfl rfl na26 rfl ?_
      refine GO.fin (fun a hs => ?_)
      exact ⟨_, (.slice A_d_Crossings d_Crossings.length c_d_Crossings), _, _, _, _, _, _, _, _, hs.weak ⟨rfl, rfl, rfl, rfl, rfl, rfl, rfl, rfl, rfl, rfl, rfl, rfl, rfl, trivial⟩, HS.pick 5 [0, 1, 2, 3, 4], f0, fun _ => rfl, f2, f3, f4, f5, f6, f7, f8, o1_0, o1_1⟩
     | 2, _ =>
      refine GO.at hs ?_
      refine GO.fld (⟨b3, 0, none⟩) rfl rfl fl68_0 rfl rfl ?_
      refine GO.fin (fun a hs => ?_)
      exact ⟨_, _, (.pointer (some ⟨b3, 0, none⟩)), _, _, _, _, _, _, _, hs.weak ⟨rfl, rfl, rfl, rfl, rfl, rfl, rfl, rfl, rfl, rfl, rfl, rfl, rfl, trivial⟩, HS.pick 5 [0, 1, 2, 3, 4], f0, f1, fun _ => rfl, f3, f4, f5, f6, f7, f8, o1_0, o1_1⟩
     | 3, _ =>
      have h2 : b 2 = true := hd 2 (by decide)
      obtain rfl := f2 h2
      refine GO.at hs ?_
      refine GO.ldBox (j := 2) HS rfl rfl rfl rfl na2 rfl ?_
      refine GO.fin (fun a hs => ?_)
      exact ⟨_, _, _, (.int .i64 e_crossing), _, _, _, _, _, _, hs.weak ⟨rfl, rfl, rfl, rfl, rfl, rfl, rfl, rfl, rfl, rfl, rfl, rfl, rfl, trivial⟩, HS.pick 5 [0, 1, 2, 3, 4], f0, f1, f2, fun _ => rfl, f4, f5, f6, f7, f8, o1_0, o1_1⟩
     | 4, _ =>
      refine GO.at hs ?_
      refine GO.ldBoxA (j := 0) ([.int .i64 t11, .int .i64 arc, .int .i64 t13, .int .i64 t14]) HS rfl rfl rfl rfl ag93 rfl ?_
      refine GO.fin (fun a hs => ?_)
      exact ⟨_, _, _, _, (.agg [.int .i64 t11, .int .i64 arc, .int .i64 t13, .int .i64 t14].toArray), _, _, _, _, _, hs.weak ⟨rfl, rfl, rfl, rfl, rfl, rfl, rfl, rfl, rfl, rfl, rfl, rfl, rfl, trivial⟩, HS.pick 5 [0, 1, 2, 3, 4], f0, f1, f2, f3, fun _ => rfl, f5, f6, f7, f8, o1_0, o1_1⟩
     | 5, _ =>
      refine GO.at hs ?_
      refine GO.fld (⟨b8, 4, none⟩) rfl rfl fl58_4 rfl rfl ?_
      refine GO.fin (fun a hs => ?_)
      exact ⟨_, _, _, _, _, (.pointer (some ⟨b8, 4, none⟩)), _, _, _, _, hs.weak ⟨rfl, rfl, rfl, rfl, rfl, rfl, rfl, rfl, rfl, rfl, rfl, rfl, rfl, trivial⟩, HS.pick 5 [0, 1, 2, 3, 4], f0, f1, f2, f3, f4, fun _ => rfl, f6, f7, f8, o1_0, o1_1⟩
     | 6, _ =>
      have h5 : b 5 = true := hd 5 (by decide)
      obtain rfl := f5 h5
      refine GO.at hs ?_
      refine GO.ldBox (j := 1) HS rfl rfl rfl rfl na2 rfl ?_
      refine GO.fin (fun a hs => ?_)
      exact ⟨_, _, _, _, _, _, (.int .i64 e6.Sign), _, _, _, hs.weak ⟨rfl, rfl, rfl, rfl, rfl, rfl, rfl, rfl, rfl, rfl, rfl, rfl, rfl, trivial⟩, HS.pick 5 [0, 1, 2, 3, 4], f0, f1, f2, f3, f4, f5, fun _ => rfl, f7, f8, o1_0, o1_1⟩
     | 7, _ =>
      have h4 : b 4 = true := hd 4 (by decide)
      obtain rfl := f4 h4
      have h6 : b 6 = true := hd 6 (by decide)
      obtain rfl := f6 h6
      refine GO.at hs ?_
      refine GO.fn rfl Try.func113 fok113.1 fok113.2 rfl rfl (impl_crossingOf.calls HS  h39) (fun _ wd40 ⟨h41, HS⟩ => ⟨_, h41, ?_⟩)
      refine GO.fin (fun a hs => ?_)
      exact ⟨_, _, _, _, _, _, _, (.agg [.int .i64 t34, .int .i64 t35, .int .i64 t36, .int .i64 t37, .int .i64 t38].toArray), _, _, hs.weak ⟨rfl, rfl, rfl, rfl, rfl, rfl, rfl, rfl, rfl, rfl, rfl, rfl, rfl, trivial⟩, HS.pick 5 [0, 1, 2, 3, 4], f0, f1, f2, f3, f4, f5, f6, fun _ => rfl, f8, o1_0, o1_1⟩
     | 8, _ =>
      have h1 : b 1 = true := hd 1 (by decide)
      obtain rfl := f1 h1
      have h3 : b 3 = true := hd 3 (by decide)
      obtain rfl := f3 h3
      have d9 : b 9 = false := bfalse (fun hh => hcl 9 (by decide) (hh) 8 (by decide)) hb
      obtain rfl := o1_0 d9
      refine GO.at hs ?_
      refine GO.ix rfl rfl rfl Try.underlying26 sz58 ((RdIn.own (j := 4) rfl) _ HS).2.2.1 c5.1 c5.2 rfl ?_
      refine GO.fin (fun a hs => ?_)
      exact ⟨_, _, _, _, _, _, _, _, (.pointer (some (ea A_d_Crossings (e_crossing.toNat * 5)))), _, hs.weak ⟨rfl, rfl, rfl, rfl, rfl, rfl, rfl, rfl, rfl, rfl, rfl, rfl, rfl, trivial⟩, HS.pick 5 [0, 1, 2, 3, 4], f0, f1, f2, f3, f4, f5, f6, f7, fun _ => rfl, o1_0, o1_1⟩
     | 9, _ =>
      have h7 : b 7 = true := hd 7 (by decide)
      obtain rfl := f7 h7
      have h8 : b 8 = true := hd 8 (by decide)
      obtain rfl := f8 h8
      obtain rfl := o1_0 hb
      refine GO.at hs ?_
      refine GO.stRow (T := T_GCrossing) (j := 4) (n := e_crossing.toNat) (o := 0) (vs := [.int .i64 t34, .int .i64 t35, .int .i64 t36, .int .i64 t37, .int .i64 t38]) (⟨t34, t35, t36, t37, t38⟩ : GCrossing) HS rfl flat_flat rfl rfl rfl rfl (htA ag58) rfl (getD_some (d := z_GCrossing) (ltN c5)) rfl rfl ?_; intro wd42 HS
      refine GO.fin (fun a hs => ?_)
      exact ⟨_, _, _, _, _, _, _, _, _, Own T_GCrossing 58 A_d_Crossings c_d_Crossings (fun _ => ()) (d_Crossings.set e_crossing.toNat (⟨t34, t35, t36, t37, t38⟩ : GCrossing)), hs.weak ⟨rfl, rfl, rfl, rfl, rfl, rfl, rfl, rfl, rfl, rfl, rfl, rfl, rfl, trivial⟩, HS.pick 5 [0, 1, 2, 3, 4], f0, f1, f2, f3, f4, f5, f6, f7, f8, fun h => Bool.noConfusion h, fun _ => rfl⟩
     | k + 10, hj => exact absurd hj (Nat.not_lt.2 (Nat.le_add_left 10 k))
    ·
     intro b a w hall
     refine exI fun Y11_0 => exI fun Y12_1 => exI fun Y13_2 => exI fun Y14_3 => exI fun Y15_4 => exI fun Y16_5 => exI fun Y17_6 => exI fun Y18_7 => exI fun Y19_8 => exI fun O20_1 => anI fun hs => anI fun HS => anI fun f0 => anI fun f1 => anI fun f2 => anI fun f3 => anI fun f4 => anI fun f5 => anI fun f6 => anI fun f7 => anI fun f8 => anI fun o1_0 => fun o1_1 => ?_
     obtain rfl := f0 (hall 0 (by decide))
     obtain rfl := f1 (hall 1 (by decide))
     obtain rfl := f2 (hall 2 (by decide))
     obtain rfl := f3 (hall 3 (by decide))
     obtain rfl := f4 (hall 4 (by decide))
     obtain rfl := f5 (hall 5 (by decide))
     obtain rfl := f6 (hall 6 (by decide))
     obtain rfl := f7 (hall 7 (by decide))
     obtain rfl := f8 (hall 8 (by decide))
     obtain rfl := o1_1 (hall 9 (by decide))
     refine G.at hs ?_
     replace HS := HS.boxEq (j := 3) (cs' := [.slice A_d_Crossings (d_Crossings.set e_crossing.toNat (⟨t34, t35, t36, t37, t38⟩ : GCrossing)).length c_d_Crossings, .int .i64 d_Circles]) rfl (by simp only [List.length_set] <;> rfl)
     obtain rfl := Option.some.inj H
     exact G.end0 Try.func50 rfl ⟨rfl, (HS.pick 5 [4])⟩
   ·
    rcases ite_elim H with ⟨c43, H⟩ | ⟨c43, H⟩
    ·
     refine G.region ?_
     refine GO.fld (⟨b3, 1, none⟩) rfl rfl fl68_1 rfl rfl ?_
     refine GO.ldBox (j := 2) HS rfl rfl rfl rfl na2 rfl ?_
     refine GO.move rfl rfl rfl ?_
     refine GO.ixP 2 rfl rfl rfl c43 Try.underlying93 sz2 rfl rfl ?_
     refine GO.stBox (j := 0) (vs := [.int .i64 arc]) ([.int .i64 t11, .int .i64 t12, .int .i64 arc, .int .i64 t14]) HS rfl rfl rfl rfl rfl (htN na2 rfl) rfl rfl rfl ?_; intro wd44 HS
     refine GO.nil ?_
     obtain ⟨t45, t46, t47, t48, t49, h50, H⟩ := bind5_elim H
     refine G.regionAny mixed (by decide) (fun b a w => ∃ (Y21_0 : Value) (Y22_1 : Value) (Y23_2 : Value) (Y24_3 : Value) (Y25_4 : Value) (Y26_5 : Value) (Y27_6 : Value) (Y28_7 : Value) (Y29_8 : Value) (O30_1 : HObj), Sat 29 [(20, Y21_0), (21, Y22_1), (22, Y23_2), (23, Y24_3), (24, Y25_4), (25, Y26_5), (26, Y27_6), (27, Y28_7), (28, Y29_8), (3, .pointer (some ⟨b1, 0, none⟩)), (4, .pointer (some ⟨b3, 0, none⟩)), (6, .pointer (some ⟨b8, 0, none⟩)), (7, .pointer (some ⟨b18, 0, none⟩))] a ∧ St w0 w (Box b18 93 [.int .i64 t11, .int .i64 t12, .int .i64 arc, .int .i64 t14] :: Box b8 58 [.int .i64 e6.A, .int .i64 e6.B, .int .i64 e6.C, .int .i64 e6.D, .int .i64 e6.Sign] :: Box b3 68 [.int .i64 e_crossing, .int .i64 e_position] :: Box b1 28 [.slice A_d_Crossings d_Crossings.length c_d_Crossings, .int .i64 d_Circles] :: O30_1 :: L) ∧ (b 0 = true → Y21_0 = (.pointer (some ⟨b1, 0, none⟩))) ∧ (b 1 = true → Y22_1 = (.slice A_d_Crossings d_Crossings.length c_d_Crossings)) ∧ (b 2 = true → Y23_2 = (.pointer (some ⟨b3, 0, none⟩))) ∧ (b 3 = true → Y24_3 = (.int .i64 e_crossing)) ∧ (b 4 = true → Y25_4 = (.agg [.int .i64 t11, .int .i64 t12, .int .i64 arc, .int .i64 t14].toArray)) ∧ (b 5 = true → Y26_5 = (.pointer (some ⟨b8, 4, none⟩))) ∧ (b 6 = true → Y27_6 = (.int .i64 e6.Sign)) ∧ (b 7 = true → Y28_7 = (.agg [.int .i64 t45, .int .i64 t46, .int .i64 t47, .int .i64 t48, .int .i64 t49].toArray)) ∧ (b 8 = true → Y29_8 = (.pointer (some (ea A_d_Crossings (e_crossing.toNat * 5))))) ∧ (b 9 = false → O30_1 = Own T_GCrossing 58 A_d_Crossings c_d_Crossings (fun _ => ()) d_Crossings) ∧ (b 9 = true → O30_1 = Own T_GCrossing 58 A_d_Crossings c_d_Crossings (fun _ => ()) (d_Crossings.set e_crossing.toNat (⟨t45, t46, t47, t48, t49⟩ : GCrossing)))) ?_ ?_ ?_
     ·
      intro a hs
      obtain ⟨Y21_0, hs⟩ := hs.ext (d := 20) rfl
      obtain ⟨Y22_1, hs⟩ := hs.ext (d := 21) rfl
      obtain ⟨Y23_2, hs⟩ := hs.ext (d := 22) rfl
      obtain ⟨Y24_3, hs⟩ := hs.ext (d := 23) rfl
      obtain ⟨Y25_4, hs⟩ := hs.ext (d := 24) rfl
      obtain ⟨Y26_5, hs⟩ := hs.ext (d := 25) rfl
      obtain ⟨Y27_6, hs⟩ := hs.ext (d := 26) rfl
      obtain ⟨Y28_7, hs⟩ := hs.ext (d := 27) rfl
      obtain ⟨Y29_8, hs⟩ := hs.ext (d := 28) rfl
      exact ⟨Y21_0, Y22_1, Y23_2, Y24_3, Y25_4, Y26_5, Y27_6, Y28_7, Y29_8, Own T_GCrossing 58 A_d_Crossings c_d_Crossings (fun _ => ()) d_Crossings, hs.weak ⟨rfl, rfl, rfl, rfl, rfl, rfl, rfl, rfl, rfl, rfl, rfl, rfl, rfl, trivial⟩, (HS.drew.pick 5 [0, 1, 2, 3, 4]), fun h => Bool.noConfusion h, fun h => Bool.noConfusion h, fun h => Bool.noConfusion h, fun h => Bool.noConfusion h, fun h => Bool.noConfusion h, fun h => Bool.noConfusion h, fun h => Bool.noConfusion h, fun h => Bool.noConfusion h, fun h => Bool.noConfusion h, fun _ => rfl, fun h => Bool.noConfusion h⟩
     ·
      intro j hj b a w
      refine exI fun Y21_0 => exI fun Y22_1 => exI fun Y23_2 => exI fun Y24_3 => exI fun Y25_4 => exI fun Y26_5 => exI fun Y27_6 => exI fun Y28_7 => exI fun Y29_8 => exI fun O30_1 => anI fun hs => anI fun HS => anI fun f0 => anI fun f1 => anI fun f2 => anI fun f3 => anI fun f4 => anI fun f5 => anI fun f6 => anI fun f7 => anI fun f8 => anI fun o1_0 => fun o1_1 hb hd hcl => ?_
      match j, hj with
      | 0, _ =>
       refine GO.at hs ?_
       refine GO.fld (⟨b1, 0, none⟩) rfl rfl fl28_0 rfl rfl ?_
       refine GO.fin (fun a hs => ?_)
       exact ⟨(.pointer (some ⟨b1, 0, none⟩)), _, _, _, _, _, _, _, _, _, hs.weak ⟨rfl, rfl, rfl, rfl, rfl, rfl, rfl, rfl, rfl, rfl, rfl, rfl, rfl, trivial⟩, HS.pick 5 [0, 1, 2, 3, 4], fun _ => rfl, f1, f2, f3, f4, f5, f6, f7, f8, o1_0, o1_1⟩
      | 1, _ =>
       have h0 : b 0 = true := hd 0 (by decide)
       obtain rfl := f0 h0
       refine GO.at hs ?_
       refine GO.ldBox (j := 3) HS rfl rfl rfl rfl na26 rfl ?_
       refine GO.fin (fun a hs => ?_)
       exact ⟨_, (.slice A_d_Crossings d_Crossings.length c_d_Crossings), _, _, _, _, _, _, _, _, hs.weak ⟨rfl, rfl, rfl, rfl, rfl, rfl, rfl, rfl, rfl, rfl, rfl, rfl, rfl, trivial⟩, HS.pick 5 [0, 1, 2, 3, 4], f0, fun _ => rfl, f2, f3, f4, f5, f6, f7, f8, o1_0, o1_1⟩
      | 2, _ =>
       refine GO.at hs ?_
       refine GO.fld (⟨b3, 0, none⟩) rfl rfl fl68_0 rfl rfl ?_
       refine GO.fin (fun a hs => ?_)
       exact ⟨_, _, (.pointer (some ⟨b3, 0, none⟩)), _, _, _, _, _, _, _, hs.weak ⟨rfl, rfl, rfl, rfl, rfl, rfl, rfl, rfl, rfl, rfl, rfl, rfl, rfl, trivial⟩, HS.pick 5 [0, 1, 2, 3, 4], f0, f1, fun _ => rfl, f3, f4, f5, f6, f7, f8, o1_0, o1_1⟩
      | 3, _ =>
       have h2 : b 2 = true := hd 2 (by decide)
       obtain rfl := f2 h2
       refine GO.at hs ?_
       refine GO.ldBox (j := 2) HS rfl rfl rfl rfl na2 rfl ?_
       refine GO.fin (fun a hs => ?_)
       exact ⟨_, _, _, (.int .i64 e_crossing), _, _, _, _, _, _, hs.weak ⟨rfl, rfl, rfl, rfl, rfl, rfl, rfl, rfl, rfl, rfl, rfl, rfl, rfl, trivial⟩, HS.pick 5 [0, 1, 2, 3, 4], f0, f1, f2, fun _ => rfl, f4, f5, f6, f7, f8, o1_0, o1_1⟩
      | 4, _ =>
       refine GO.at hs ?_
       refine GO.ldBoxA (j := 0) ([.int .i64 t11, .int .i64 t12, .int .i64 arc, .int .i64 t14]) HS rfl rfl rfl rfl ag93 rfl ?_
       refine GO.fin (fun a hs => ?_)
       exact ⟨_, _, _, _, (.agg [.int .i64 t11, .int .i64 t12, .int .i64 arc, .int .i64 t14].toArray), _, _, _, _, _, hs.weak ⟨rfl, rfl, rfl, rfl, rfl, rfl, rfl, rfl, rfl, rfl, rfl, rfl, rfl, trivial⟩, HS.pick 5 [0, 1, 2, 3, 4], f0, f1, f2, f3, fun _ => rfl, f5, f6, f7, f8, o1_0, o1_1⟩
      | 5, _ =>
       refine GO.at hs ?_
       refine GO.fld (⟨b8, 4, none⟩) rfl rfl fl58_4 rfl rfl ?_
       refine GO.fin (fun a hs => ?_)
       exact ⟨_, _, _, _, _, (.pointer (some ⟨b8, 4, none⟩)), _, _, _, _, hs.weak ⟨rfl, rfl, rfl, rfl, rfl, rfl, rfl, rfl, rfl, rfl, rfl, rfl, rfl, trivial⟩, HS.pick 5 [0, 1, 2, 3, 4], f0, f1, f2, f3, f4, fun _ => rfl, f6, f7, f8, o1_0, o1_1⟩
      | 6, _ =>
       have h5 : b 5 = true := hd 5 (by decide)
       obtain rfl := f5 h5
       refine GO.at hs ?_
       refine GO.ldBox (j := 1) HS rfl rfl rfl rfl na2 rfl ?_
       refine GO.fin (fun a hs => ?_)
       exact ⟨_, _, _, _, _, _, (.int .i64 e6.Sign), _, _, _, hs.weak ⟨rfl, rfl, rfl, rfl, rfl, rfl, rfl, rfl, rfl, rfl, rfl, rfl, rfl, trivial⟩, HS.pick 5 [0, 1, 2, 3, 4], f0, f1, f2, f3, f4, f5, fun _ => rfl, f7, f8, o1_0, o1_1⟩
      | 7, _ =>
       have h4 : b 4 = true := hd 4 (by decide)
       obtain rfl := f4 h4
       have h6 : b 6 = true := hd 6 (by decide)
       obtain rfl := f6 h6
       refine GO.at hs ?_
       refine GO.fn rfl Try.func113 fok113.1 fok113.2 rfl rfl (impl_crossingOf.calls HS  h50) (fun _ wd51 ⟨h52, HS⟩ => ⟨_, h52, ?_⟩)
       refine GO.fin (fun a hs => ?_)
       exact ⟨_, _, _, _, _, _, _, (.agg [.int .i64 t45, .int .i64 t46, .int .i64 t47, .int .i64 t48, .int .i64 t49].toArray), _, _, hs.weak ⟨rfl, rfl, rfl, rfl, rfl, rfl, rfl, rfl, rfl, rfl, rfl, rfl, rfl, trivial⟩, HS.pick 5 [0, 1, 2, 3, 4], f0, f1, f2, f3, f4, f5, f6, fun _ => rfl, f8, o1_0, o1_1⟩
      | 8, _ =>
       have h1 : b 1 = true := hd 1 (by decide)
       obtain rfl := f1 h1
       have h3 : b 3 = true := hd 3 (by decide)
       obtain rfl := f3 h3
       have d9 : b 9 = false := bfalse (fun hh => hcl 9 (by decide) (hh) 8 (by decide)) hb
       obtain rfl := o1_0 d9
       refine GO.at hs ?_
       refine GO.ix rfl rfl rfl Try.underlying26 sz58 ((RdIn.own (j := 4) rfl) _ HS).2.2.1 c5.1 c5.2 rfl ?_
       refine GO.fin (fun a hs => ?_)
       exact ⟨_, _, _, _, _, _, _, _, (.pointer (some (ea A_d_Crossings (e_crossing.toNat * 5)))), _, hs.weak ⟨rfl, rfl, rfl, rfl, rfl, rfl, rfl, rfl, rfl, rfl, rfl, rfl, rfl, trivial⟩, HS.pick 5 [0, 1, 2, 3, 4], f0, f1, f2, f3, f4, f5, f6, f7, fun _ => rfl, o1_0, o1_1⟩
      | 9, _ =>
       have h7 : b 7 = true := hd 7 (by decide)
       obtain rfl := f7 h7
       have h8 : b 8 = true := hd 8 (by decide)
       obtain rfl := f8 h8
       obtain rfl := o1_0 hb
       refine GO.at hs ?_
       refine GO.stRow (T := T_GCrossing) (j := 4) (n := e_crossing.toNat) (o := 0) (vs := [.int .i64 t45, .int .i64 t46, .int .i64 t47, .int .i64 t48, .int .i64 t49]) (⟨t45, t46, t47, t48, t49⟩ : GCrossing) HS rfl flat_flat rfl rfl rfl rfl (htA ag58) rfl (getD_some (d := z_GCrossing) (ltN c5)) rfl rfl ?_; intro wd53 HS
       refine GO.fin (fun a hs => ?_)
       exact ⟨_, _, _, _, _, _, _, _, _, Own T_GCrossing 58 A_d_Crossings c_d_Crossings (fun _ => ()) (d_Crossings.set e_crossing.toNat (⟨t45, t46, t47, t48, t49⟩ : GCrossing)), hs.weak ⟨rfl, rfl, rfl, rfl, rfl, rfl, rfl, rfl, rfl, rfl, rfl, rfl, rfl, trivial⟩, HS.pick 5 [0, 1, 2, 3, 4], f0, f1, f2, f3, f4, f5, f6, f7, f8, fun h => Bool.noConfusion h, fun _ => rfl⟩
      | k + 10, hj => exact absurd hj (Nat.not_lt.2 (Nat.le_add_left 10 k))
     ·
      intro b a w hall
      refine exI fun Y21_0 => exI fun Y22_1 => exI fun Y23_2 => exI fun Y24_3 => exI fun Y25_4 => exI fun Y26_5 => exI fun Y27_6 => exI fun Y28_7 => exI fun Y29_8 => exI fun O30_1 => anI fun hs => anI fun HS => anI fun f0 => anI fun f1 => anI fun f2 => anI fun f3 => anI fun f4 => anI fun f5 => anI fun f6 => anI fun f7 => anI fun f8 => anI fun o1_0 => fun o1_1 => ?_
      obtain rfl := f0 (hall 0 (by decide))
      obtain rfl := f1 (hall 1 (by decide))
      obtain rfl := f2 (hall 2 (by decide))
      obtain rfl := f3 (hall 3 (by decide))
      obtain rfl := f4 (hall 4 (by decide))
      obtain rfl := f5 (hall 5 (by decide))
      obtain rfl := f6 (hall 6 (by decide))
      obtain rfl := f7 (hall 7 (by decide))
      obtain rfl := f8 (hall 8 (by decide))
      obtain rfl := o1_1 (hall 9 (by decide))
      refine G.at hs ?_
      replace HS := HS.boxEq (j := 3) (cs' := [.slice A_d_Crossings (d_Crossings.set e_crossing.toNat (⟨t45, t46, t47, t48, t49⟩ : GCrossing)).length c_d_Crossings, .int .i64 d_Circles]) rfl (by simp only [List.length_set] <;> rfl)
      obtain rfl := Option.some.inj H
      exact G.end0 Try.func50 rfl ⟨rfl, (HS.pick 5 [4])⟩
    ·
     rcases ite_elim H with ⟨c54, H⟩ | ⟨c54, H⟩
     ·
      refine G.region ?_
      refine GO.fld (⟨b3, 1, none⟩) rfl rfl fl68_1 rfl rfl ?_
      refine GO.ldBox (j := 2) HS rfl rfl rfl rfl na2 rfl ?_
      refine GO.move rfl rfl rfl ?_
      refine GO.ixP 3 rfl rfl rfl c54 Try.underlying93 sz2 rfl rfl ?_
      refine GO.stBox (j := 0) (vs := [.int .i64 arc]) ([.int .i64 t11, .int .i64 t12, .int .i64 t13, .int .i64 arc]) HS rfl rfl rfl rfl rfl (htN na2 rfl) rfl rfl rfl ?_; intro wd55 HS
      refine GO.nil ?_
      obtain ⟨t56, t57, t58, t59, t60, h61, H⟩ := bind5_elim H
      refine G.regionAny mixed (by decide) (fun b a w => ∃ (Y31_0 : Value) (Y32_1 : Value) (Y33_2 : Value) (Y34_3 : Value) (Y35_4 : Value) (Y36_5 : Value) (Y37_6 : Value) (Y38_7 : Value) (Y39_8 : Value) (O40_1 : HObj), Sat 29 [(20, Y31_0), (21, Y32_1), (22, Y33_2), (23, Y34_3), (24, Y35_4), (25, Y36_5), (26, Y37_6), (27, Y38_7), (28, Y39_8), (3, .pointer (some ⟨b1, 0, none⟩)), (4, .pointer (some ⟨b3, 0, none⟩)), (6, .pointer (some ⟨b8, 0, none⟩)), (7, .pointer (some ⟨b18, 0, none⟩))] a ∧ St w0 w (Box b18 93 [.int .i64 t11, .int .i64 t12, .int .i64 t13, .int .i64 arc] :: Box b8 58 [.int .i64 e6.A, .int .i64 e6.B, .int .i64 e6.C, .int .i64 e6.D, .int .i64 e6.Sign] :: Box b3 68 [.int .i64 e_crossing, .int .i64 e_position] :: Box b1 28 [.slice A_d_Crossings d_Crossings.length c_d_Crossings, .int .i64 d_Circles] :: O40_1 :: L) ∧ (b 0 = true → Y31_0 = (.pointer (some ⟨b1, 0, none⟩))) ∧ (b 1 = true → Y32_1 = (.slice A_d_Crossings d_Crossings.length c_d_Crossings)) ∧ (b 2 = true → Y33_2 = (.pointer (some ⟨b3, 0, none⟩))) ∧ (b 3 = true → Y34_3 = (.int .i64 e_crossing)) ∧ (b 4 = true → Y35_4 = (.agg [.int .i64 t11, .int .i64 t12, .int .i64 t13, .int .i64 arc].toArray)) ∧ (b 5 = true → Y36_5 = (.pointer (some ⟨b8, 4, none⟩))) ∧ (b 6 = true → Y37_6 = (.int .i64 e6.Sign)) ∧ (b 7 = true → Y38_7 = (.agg [.int .i64 t56, .int .i64 t57, .int .i64 t58, .int .i64 t59, .int .i64 t60].toArray)) ∧ (b 8 = true → Y39_8 = (.pointer (some (ea A_d_Crossings (e_crossing.toNat * 5))))) ∧ (b 9 = false → O40_1 = Own T_GCrossing 58 A_d_Crossings c_d_Crossings (fun _ => ()) d_Crossings) ∧ (b 9 = true → O40_1 = Own T_GCrossing 58 A_d_Crossings c_d_Crossings (fun _ => ()) (d_Crossings.set e_crossing.toNat (⟨t56, t57, t58, t59, t60⟩ : GCrossing)))) ?_ ?_ ?_
      ·
       intro a hs
       obtain ⟨Y31_0, hs⟩ := hs.ext (d := 20) rfl
       obtain ⟨Y32_1, hs⟩ := hs.ext (d := 21) rfl
       obtain ⟨Y33_2, hs⟩ := hs.ext (d := 22) rfl
       obtain ⟨Y34_3, hs⟩ := hs.ext (d := 23) rfl
       obtain ⟨Y35_4, hs⟩ := hs.ext (d := 24) rfl
       obtain ⟨Y36_5, hs⟩ := hs.ext (d := 25) rfl
       obtain ⟨Y37_6, hs⟩ := hs.ext (d := 26) rfl
       obtain ⟨Y38_7, hs⟩ := hs.ext (d := 27) rfl
       obtain ⟨Y39_8, hs⟩ := hs.ext (d := 28) rfl
       exact ⟨Y31_0, Y32_1, Y33_2, Y34_3, Y35_4, Y36_5, Y37_6, Y38_7, Y39_8, Own T_GCrossing 58 A_d_Crossings c_d_Crossings (fun _ => ()) d_Crossings, hs.weak ⟨rfl, rfl, rfl, rfl, rfl, rfl, rfl, rfl, rfl, rfl, rfl, rfl, rfl, trivial⟩, (HS.drew.pick 5 [0, 1, 2, 3, 4]), fun h => Bool.noConfusion h, fun h => Bool.noConfusion h, fun h => Bool.noConfusion h, fun h => Bool.noConfusion h, fun h => Bool.noConfusion h, fun h => Bool.noConfusion h, fun h => Bool.noConfusion h, fun h => Bool.noConfusion h, fun h => Bool.noConfusion h, fun _ => rfl, fun h => Bool.noConfusion h⟩
      ·
       intro j hj b a w
       refine exI fun Y31_0 => exI fun Y32_1 => exI fun Y33_2 => exI fun Y34_3 => exI fun Y35_4 => exI fun Y36_5 => exI fun Y37_6 => exI fun Y38_7 => exI fun Y39_8 => exI fun O40_1 => anI fun hs => anI fun HS => anI fun f0 => anI fun f1 => anI fun f2 => anI fun f3 => anI fun f4 => anI fun f5 => anI fun f6 => anI fun f7 => anI fun f8 => anI fun o1_0 => fun o1_1 hb hd hcl => ?_
       match j, hj with
       | 0, _ =>
        refine GO.at hs ?_
        refine GO.fld (⟨b1, 0, none⟩) rfl rfl fl28_0 rfl rfl ?_
        refine GO.fin (fun a hs => ?_)
        exact ⟨(.pointer (some ⟨b1, 0, none⟩)), _, _, _, _, _, _, _, _, _, hs.weak ⟨rfl, rfl, rfl, rfl, rfl, rfl, rfl, rfl, rfl, rfl, rfl, rfl, rfl, trivial⟩, HS.pick 5 [0, 1, 2, 3, 4], fun _ => rfl, f1, f2, f3, f4, f5, f6, f7, f8, o1_0, o1_1⟩
       | 1, _ =>
        have h0 : b 0 = true := hd 0 (by decide)
        obtain rfl := f0 h0
        refine GO.at hs ?_
        refine GO.ldBox (j := 3) HS rfl rfl rfl rfl na26 rfl ?_
        refine GO.fin (fun a hs => ?_)
        exact ⟨_, (.slice A_d_Crossings d_Crossings.length c_d_Crossings), _, _, _, _, _, _, _, _, hs.weak ⟨rfl, rfl, rfl, rfl, rfl, rfl, rfl, rfl, rfl, rfl, rfl, rfl, rfl, trivial⟩, HS.pick 5 [0, 1, 2, 3, 4], f0, fun _ => rfl, f2, f3, f4, f5, f6, f7, f8, o1_0, o1_1⟩
       | 2, _ =>
        refine GO.at hs ?_
        refine GO.fld (⟨b3, 0, none⟩) rfl rfl fl68_0 rfl rfl ?_
        refine GO.fin (fun a hs => ?_)
        exact ⟨_, _, (.pointer (some ⟨b3, 0, none⟩)), _, _, _, _, _, _, _, hs.weak ⟨rfl, rfl, rfl, rfl, rfl, rfl, rfl, rfl, rfl, rfl, rfl, rfl, rfl, trivial⟩, HS.pick 5 [0, 1, 2, 3, 4], f0, f1, fun _ => rfl, f3, f4, f5, f6, f7, f8, o1_0, o1_1⟩
       | 3, _ =>
        have h2 : b 2 = true := hd 2 (by decide)
        obtain rfl := f2 h2
        refine GO.at hs ?_
        refine GO.ldBox (j := 2) HS rfl rfl rfl rfl na2 rfl ?_
        refine GO.fin (fun a hs => ?_)
        exact ⟨_, _, _, (.int .i64 e_crossing), _, _, _, _, _, _, hs.weak ⟨rfl, rfl, rfl, rfl, rfl, rfl, rfl, rfl, rfl, rfl, rfl, rfl, rfl, trivial⟩, HS.pick 5 [0, 1, 2, 3, 4], f0, f1, f2, fun _ => rfl, f4, f5, f6, f7, f8, o1_0, o1_1⟩
       | 4, _ =>
        refine GO.at hs ?_
        refine GO.ldBoxA (j := 0) ([.int .i64 t11, .int .i64 t12, .int .i64 t13, .int .i64 arc]) HS rfl rfl rfl rfl ag93 rfl ?_
        refine GO.fin (fun a hs => ?_)
        exact ⟨_, _, _, _, (.agg [.int .i64 t11, .int .i64 t12, .int .i64 t13, .int .i64 arc].toArray), _, _, _, _, _, hs.weak ⟨rfl, rfl, rfl, rfl, rfl, rfl, rfl, rfl, rfl, rfl, rfl, rfl, rfl, trivial⟩, HS.pick 5 [0, 1, 2, 3, 4], f0, f1, f2, f3, fun _ => rfl, f5, f6, f7, f8, o1_0, o1_1⟩
       | 5, _ =>
        refine GO.at hs ?_
        refine GO.fld (⟨b8, 4, none⟩) rfl rfl fl58_4 rfl rfl ?_
        refine GO.fin (fun a hs => ?_)
        exact ⟨_, _, _, _, _, (.pointer (some ⟨b8, 4, none⟩)), _, _, _, _, hs.weak ⟨rfl, rfl, rfl, rfl, rfl, rfl, rfl, rfl, rfl, rfl, rfl, rfl, rfl, trivial⟩, HS.pick 5 [0, 1, 2, 3, 4], f0, f1, f2, f3, f4, fun _ => rfl, f6, f7, f8, o1_0, o1_1⟩
       | 6, _ =>
        have h5 : b 5 = true := hd 5 (by decide)
        obtain rfl := f5 h5
        refine GO.at hs ?_
        refine GO.ldBox (j := 1) HS rfl rfl rfl rfl na2 rfl ?_
        refine GO.fin (fun a hs => ?_)
        exact ⟨_, _, _, _, _, _, (.int .i64 e6.Sign), _, _, _, hs.weak ⟨rfl, rfl, rfl, rfl, rfl, rfl, rfl, rfl, rfl, rfl, rfl, rfl, rfl, trivial⟩, HS.pick 5 [0, 1, 2, 3, 4], f0, f1, f2, f3, f4, f5, fun _ => rfl, f7, f8, o1_0, o1_1⟩
       | 7, _ =>
        have h4 : b 4 = true := hd 4 (by decide)
        obtain rfl := f4 h4
        have h6 : b 6 = true := hd 6 (by decide)
        obtain rfl := f6 h6
        refine GO.at hs ?_
        refine GO.fn rfl Try.func113 fok113.1 fok113.2 rfl rfl (impl_crossingOf.calls HS  h61) (fun _ wd62 ⟨h63, HS⟩ => ⟨_, h63, ?_⟩)
        refine GO.fin (fun a hs => ?_)
        exact ⟨_, _, _, _, _, _, _, (.agg [.int .i64 t56, .int .i64 t57, .int .i64 t58, .int .i64 t59, .int .i64 t60].toArray), _, _, hs.weak ⟨rfl, rfl, rfl, rfl, rfl, rfl, rfl, rfl, rfl, rfl, rfl, rfl, rfl, trivial⟩, HS.pick 5 [0, 1, 2, 3, 4], f0, f1, f2, f3, f4, f5, f6, fun _ => rfl, f8, o1_0, o1_1⟩
       | 8, _ =>
        have h1 : b 1 = true := hd 1 (by decide)
        obtain rfl := f1 h1
        have h3 : b 3 = true := hd 3 (by decide)
        obtain rfl := f3 h3
        have d9 : b 9 = false := bfalse (fun hh => hcl 9 (by decide) (hh) 8 (by decide)) hb
        obtain rfl := o1_0 d9
        refine GO.at hs ?_
        refine GO.ix rfl rfl rfl Try.underlying26 sz58 ((RdIn.own (j := 4) rfl) _ HS).2.2.1 c5.1 c5.2 rfl ?_
        refine GO.fin (fun a hs => ?_)
        exact ⟨_, _, _, _, _, _, _, _, (.pointer (some (ea A_d_Crossings (e_crossing.toNat * 5)))), _, hs.weak ⟨rfl, rfl, rfl, rfl, rfl, rfl, rfl, rfl, rfl, rfl, rfl, rfl, rfl, trivial⟩, HS.pick 5 [0, 1, 2, 3, 4], f0, f1, f2, f3, f4, f5, f6, f7, fun _ => rfl, o1_0, o1_1⟩
       | 9, _ =>
        have h7 : b 7 = true := hd 7 (by decide)
        obtain rfl := f7 h7
        have h8 : b 8 = true := hd 8 (by decide)
        obtain rfl := f8 h8
        obtain rfl := o1_0 hb
        refine GO.at hs ?_
        refine GO.stRow (T := T_GCrossing) (j := 4) (n := e_crossing.toNat) (o := 0) (vs := [.int .i64 t56, .int .i64 t57, .int .i64 t58, .int .i64 t59, .int .i64 t60]) (⟨t56, t57, t58, t59, t60⟩ : GCrossing) HS rfl flat_flat rfl rfl rfl rfl (htA ag58) rfl (getD_some (d := z_GCrossing) (ltN c5)) rfl rfl ?_; intro wd64 HS
        refine GO.fin (fun a hs => ?_)
        exact ⟨_, _, _, _, _, _, _, _, _, Own T_GCrossing 58 A_d_Crossings c_d_Crossings (fun _ => ()) (d_Crossings.set e_crossing.toNat (⟨t56, t57, t58, t59, t60⟩ : GCrossing)), hs.weak ⟨rfl, rfl, rfl, rfl, rfl, rfl, rfl, rfl, rfl, rfl, rfl, rfl, rfl, trivial⟩, HS.pick 5 [0, 1, 2, 3, 4], f0, f1, f2, f3, f4, f5, f6, f7, f8, fun h => Bool.noConfusion h, fun _ => rfl⟩
       | k + 10, hj => exact absurd hj (Nat.not_lt.2 (Nat.le_add_left 10 k))
      ·
       intro b a w hall
       refine exI fun Y31_0 => exI fun Y32_1 => exI fun Y33_2 => exI fun Y34_3 => exI fun Y35_4 => exI fun Y36_5 => exI fun Y37_6 => exI fun Y38_7 => exI fun Y39_8 => exI fun O40_1 => anI fun hs => anI fun HS => anI fun f0 => anI fun f1 => anI fun f2 => anI fun f3 => anI fun f4 => anI fun f5 => anI fun f6 => anI fun f7 => anI fun f8 => anI fun o1_0 => fun o1_1 => ?_
       obtain rfl := f0 (hall 0 (by decide))
       obtain rfl := f1 (hall 1 (by decide))
       obtain rfl := f2 (hall 2 (by decide))
       obtain rfl := f3 (hall 3 (by decide))
       obtain rfl := f4 (hall 4 (by decide))
       obtain rfl := f5 (hall 5 (by decide))
       obtain rfl := f6 (hall 6 (by decide))
       obtain rfl := f7 (hall 7 (by decide))
       obtain rfl := f8 (hall 8 (by decide))
       obtain rfl := o1_1 (hall 9 (by decide))
       refine G.at hs ?_
       replace HS := HS.boxEq (j := 3) (cs' := [.slice A_d_Crossings (d_Crossings.set e_crossing.toNat (⟨t56, t57, t58, t59, t60⟩ : GCrossing)).length c_d_Crossings, .int .i64 d_Circles]) rfl (by simp only [List.length_set] <;> rfl)
       obtain rfl := Option.some.inj H
       exact G.end0 Try.func50 rfl ⟨rfl, (HS.pick 5 [4])⟩
     ·
      cases H

set_option maxRecDepth 20000 in
set_option maxHeartbeats 40000000 in
theorem laws_eqCrossing.calls {w0 w : World} {L : List HObj} {a_A : Int} {a_B : Int} {a_C : Int} {a_D : Int} {a_Sign : Int} {b_A : Int} {b_B : Int} {b_C : Int} {b_D : Int} {b_Sign : Int} {r1 : Bool} (HS : St w0 w (L)) (H : laws_eqCrossing.f a_A a_B a_C a_D a_Sign b_A b_B b_C b_D b_Sign = some r1) :
    Calls Try.prog 114 #[.agg [.int .i64 a_A, .int .i64 a_B, .int .i64 a_C, .int .i64 a_D, .int .i64 a_Sign].toArray, .agg [.int .i64 b_A, .int .i64 b_B, .int .i64 b_C, .int .i64 b_D, .int .i64 b_Sign].toArray] w (laws_eqCrossing.post w0 L a_A a_B a_C a_D a_Sign b_A b_B b_C b_D b_Sign r1) := by
  unfold laws_eqCrossing.f at H
  refine Calls.of_G Try.func114 rfl rfl rfl ?_
  refine G.seq ?_
  refine G.region ?_
  refine GO.box (cs := [.int .i64 a_A, .int .i64 a_B, .int .i64 a_C, .int .i64 a_D, .int .i64 a_Sign]) HS rfl rfl rfl rfl ?_; intro b1 wd2 HS
  refine GO.box (cs := [.int .i64 b_A, .int .i64 b_B, .int .i64 b_C, .int .i64 b_D, .int .i64 b_Sign]) HS rfl rfl rfl rfl ?_; intro b3 wd4 HS
  refine GO.assign rfl rfl rfl ?_
  refine GO.nil ?_
  refine G.seq ?_
  refine G.seq ?_
  refine G.region ?_
  refine GO.fld (⟨b1, 0, none⟩) rfl rfl fl58_0 rfl rfl ?_
  refine GO.ldBox (j := 1) HS rfl rfl rfl rfl na2 rfl ?_
  refine GO.fld (⟨b3, 0, none⟩) rfl rfl fl58_0 rfl rfl ?_
  refine GO.ldBox (j := 0) HS rfl rfl rfl rfl na2 rfl ?_
  refine GO.neq rfl rfl rfl rfl ?_
  refine GO.nil ?_
  rcases ite_elim H with ⟨c5, H⟩ | ⟨c5, H⟩
  ·
   refine G.noB rfl (congrArg Bool.not (decide_eq_true c5)) ?_
   refine G.skip ?_
   refine G.seq ?_
   refine G.seq ?_
   refine G.region ?_
   refine GO.fld (⟨b1, 1, none⟩) rfl rfl fl58_1 rfl rfl ?_
   refine GO.ldBox (j := 1) HS rfl rfl rfl rfl na2 rfl ?_
   refine GO.fld (⟨b3, 1, none⟩) rfl rfl fl58_1 rfl rfl ?_
   refine GO.ldBox (j := 0) HS rfl rfl rfl rfl na2 rfl ?_
   refine GO.neq rfl rfl rfl rfl ?_
   refine GO.nil ?_
   rcases ite_elim H with ⟨c6, H⟩ | ⟨c6, H⟩
   ·
    refine G.noB rfl (congrArg Bool.not (decide_eq_true c6)) ?_
    refine G.skip ?_
    refine G.seq ?_
    refine G.seq ?_
    refine G.region ?_
    refine GO.fld (⟨b1, 2, none⟩) rfl rfl fl58_2 rfl rfl ?_
    refine GO.ldBox (j := 1) HS rfl rfl rfl rfl na2 rfl ?_
    refine GO.fld (⟨b3, 2, none⟩) rfl rfl fl58_2 rfl rfl ?_
    refine GO.ldBox (j := 0) HS rfl rfl rfl rfl na2 rfl ?_
    refine GO.neq rfl rfl rfl rfl ?_
    refine GO.nil ?_
    rcases ite_elim H with ⟨c7, H⟩ | ⟨c7, H⟩
    ·
     refine G.noB rfl (congrArg Bool.not (decide_eq_true c7)) ?_
     refine G.skip ?_
     refine G.seq ?_
     refine G.seq ?_
     refine G.region ?_
     refine GO.fld (⟨b1, 3, none⟩) rfl rfl fl58_3 rfl rfl ?_
     refine GO.ldBox (j := 1) HS rfl rfl rfl rfl na2 rfl ?_
     refine GO.fld (⟨b3, 3, none⟩) rfl rfl fl58_3 rfl rfl ?_
     refine GO.ldBox (j := 0) HS rfl rfl rfl rfl na2 rfl ?_
     refine GO.neq rfl rfl rfl rfl ?_
     refine GO.nil ?_
     rcases ite_elim H with ⟨c8, H⟩ | ⟨c8, H⟩
     ·
      refine G.noB rfl (congrArg Bool.not (decide_eq_true c8)) ?_
      refine G.skip ?_
      refine G.seq ?_
      refine G.seq ?_
      refine G.region ?_
      refine GO.fld (⟨b1, 4, none⟩) rfl rfl fl58_4 rfl rfl ?_
      refine GO.ldBox (j := 1) HS rfl rfl rfl rfl na2 rfl ?_
      refine GO.fld (⟨b3, 4, none⟩) rfl rfl fl58_4 rfl rfl ?_
      refine GO.ldBox (j := 0) HS rfl rfl rfl rfl na2 rfl ?_
      refine GO.neq rfl rfl rfl rfl ?_
      refine GO.nil ?_
      rcases ite_elim H with ⟨c9, H⟩ | ⟨c9, H⟩
      ·
       refine G.noB rfl (congrArg Bool.not (decide_eq_true c9)) ?_
       refine G.skip ?_
       refine G.seq ?_
       refine G.region ?_
       refine GO.assign rfl rfl rfl ?_
       refine GO.nil ?_
       obtain rfl := Option.some.inj H
       exact G.ret1 _ Try.func114 rfl rfl ⟨rfl, (HS.pick 2 [])⟩
      ·
       refine G.yesB rfl (congrArg Bool.not (decide_eq_false c9)) ?_
       refine G.seq ?_
       refine G.region ?_
       refine GO.assign rfl rfl rfl ?_
       refine GO.nil ?_
       obtain rfl := Option.some.inj H
       exact G.ret1 _ Try.func114 rfl rfl ⟨rfl, (HS.pick 2 [])⟩
     ·
      refine G.yesB rfl (congrArg Bool.not (decide_eq_false c8)) ?_
      refine G.seq ?_
      refine G.region ?_
      refine GO.assign rfl rfl rfl ?_
      refine GO.nil ?_
      obtain rfl := Option.some.inj H
      exact G.ret1 _ Try.func114 rfl rfl ⟨rfl, (HS.pick 2 [])⟩
    ·
     refine G.yesB rfl (congrArg Bool.not (decide_eq_false c7)) ?_
     refine G.seq ?_
     refine G.region ?_
     refine GO.assign rfl rfl rfl ?_
     refine GO.nil ?_
     obtain rfl := Option.some.inj H
     exact G.ret1 _ Try.func114 rfl rfl ⟨rfl, (HS.pick 2 [])⟩
   ·
    refine G.yesB rfl (congrArg Bool.not (decide_eq_false c6)) ?_
    refine G.seq ?_
    refine G.region ?_
    refine GO.assign rfl rfl rfl ?_
    refine GO.nil ?_
    obtain rfl := Option.some.inj H
    exact G.ret1 _ Try.func114 rfl rfl ⟨rfl, (HS.pick 2 [])⟩
  ·
   refine G.yesB rfl (congrArg Bool.not (decide_eq_false c5)) ?_
   refine G.seq ?_
   refine G.region ?_
   refine GO.assign rfl rfl rfl ?_
   refine GO.nil ?_
   obtain rfl := Option.some.inj H
   exact G.ret1 _ Try.func114 rfl rfl ⟨rfl, (HS.pick 2 [])⟩

set_option maxRecDepth 20000 in
set_option maxHeartbeats 40000000 in
theorem laws_eqCrossingS.calls {w0 w : World} {L : List HObj} {K : Nat} {a_ : List GCrossing} {b_ : List GCrossing} {A_a_ : Option Addr} {c_a_ : Nat} {A_b_ : Option Addr} {c_b_ : Nat} {r1 : Bool} (HS : St w0 w (L)) (h_a_ : RdIn w0 L T_GCrossing A_a_ c_a_ (fun _ => ()) a_) (h_b_ : RdIn w0 L T_GCrossing A_b_ c_b_ (fun _ => ()) b_) (H : laws_eqCrossingS.f K a_ b_ = some r1) :
    Calls Try.prog 51 #[.slice A_a_ a_.length c_a_, .slice A_b_ b_.length c_b_] w (laws_eqCrossingS.post w0 L a_ b_ A_a_ c_a_ A_b_ c_b_ r1) := by
  unfold laws_eqCrossingS.f at H
  refine Calls.of_G Try.func51 rfl rfl rfl ?_
  refine G.seq ?_
  refine G.region ?_
  refine GO.assign rfl rfl rfl ?_
  refine GO.nil ?_
  refine G.seq ?_
  refine G.seq ?_
  refine G.region ?_
  refine GO.move rfl rfl rfl ?_
  refine GO.lenS rfl rfl Try.underlying26 rfl ?_
  refine GO.move rfl rfl rfl ?_
  refine GO.lenS rfl rfl Try.underlying26 rfl ?_
  refine GO.neq rfl rfl rfl rfl ?_
  refine GO.nil ?_
  rcases ite_elim H with ⟨c1, H⟩ | ⟨c1, H⟩
  ·
   refine G.noB rfl (congrArg Bool.not (decide_eq_true c1)) ?_
   refine G.skip ?_
   refine G.seq ?_
   refine G.seq ?_
   refine G.region ?_
   refine GO.assign rfl rfl rfl ?_
   refine GO.nil ?_
   refine G.block ?_
   refine G.loop ?_
   refine G.name (fun k_l1 hk_l1 => ?_)
   have at_l1 : ∀ m_l1, m_l1 ≤ K → ∀ (i_14 : Int) (w : World), laws_eqCrossingS.l1 K m_l1 a_ b_ i_14 = some r1 → St w0 w (L) → G Try.prog 51 27 [(0, .slice A_a_ a_.length c_a_), (1, .slice A_b_ b_.length c_b_), (5, .int .i64 i_14)] k_l1 w (laws_eqCrossingS.post w0 L a_ b_ A_a_ c_a_ A_b_ c_b_ r1) := by
    intro m_l1
    induction m_l1 using Nat.strongRecOn with
    | _ m_l1 ih_l1 =>
     intro hm_l1 i_14 w H HS
     cases m_l1 with
     | zero => rw [laws_eqCrossingS.l1] at H; cases H
     | succ n_l1 =>
      rw [laws_eqCrossingS.l1] at H
      subst hk_l1
      refine G.seq ?_
      refine G.seq ?_
      refine G.region ?_
      refine GO.move rfl rfl rfl ?_
      refine GO.move rfl rfl rfl ?_
      refine GO.lenS rfl rfl Try.underlying26 rfl ?_
      refine GO.lss rfl rfl rfl rfl ?_
      refine GO.nil ?_
      rcases ite_elim H with ⟨c27, H⟩ | ⟨c27, H⟩
      ·
       refine G.yesB rfl (decide_eq_true c27) ?_
       refine G.skip ?_
       refine G.seq ?_
       refine G.block ?_
       refine G.seq ?_
       obtain ⟨c28, H⟩ := ite_none H
       obtain ⟨e29, h30, H⟩ := bnd_elim H
       obtain ⟨c31, H⟩ := ite_none H
       obtain ⟨e32, h33, H⟩ := bnd_elim H
       obtain ⟨t34, h35, H⟩ := Option.bind_eq_some_iff.1 H
       refine G.regionAny mixed (by decide) (fun b a w => ∃ (Y1_0 : Value) (Y2_1 : Value) (Y3_2 : Value) (Y4_3 : Value) (Y5_4 : Value) (Y6_5 : Value) (Y7_6 : Value) (Y8_7 : Value) (Y9_8 : Value) (Y10_9 : Value), Sat 27 [(17, Y1_0), (18, Y2_1), (19, Y3_2), (20, Y4_3), (21, Y5_4), (22, Y6_5), (23, Y7_6), (24, Y8_7), (25, Y9_8), (26, Y10_9), (0, .slice A_a_ a_.length c_a_), (1, .slice A_b_ b_.length c_b_), (5, .int .i64 i_14)] a ∧ St w0 w (L) ∧ (b 0 = true → Y1_0 = (.slice A_a_ a_.length c_a_)) ∧ (b 1 = true → Y2_1 = (.int .i64 i_14)) ∧ (b 2 = true → Y3_2 = (.pointer (some (ea A_a_ (i_14.toNat * 5))))) ∧ (b 3 = true → Y4_3 = (.agg [.int .i64 e29.A, .int .i64 e29.B, .int .i64 e29.C, .int .i64 e29.D, .int .i64 e29.Sign].toArray)) ∧ (b 4 = true → Y5_4 = (.slice A_b_ b_.length c_b_)) ∧ (b 5 = true → Y6_5 = (.int .i64 i_14)) ∧ (b 6 = true → Y7_6 = (.pointer (some (ea A_b_ (i_14.toNat * 5))))) ∧ (b 7 = true → Y8_7 = (.agg [.int .i64 e32.A, .int .i64 e32.B, .int .i64 e32.C, .int .i64 e32.D, .int .i64 e32.Sign].toArray)) ∧ (b 8 = true → Y9_8 = (.bool t34)) ∧ (b 9 = true → Y10_9 = (.bool (!t34)))) ?_ ?_ ?_
       ·
        intro a hs
        obtain ⟨Y1_0, hs⟩ := hs.ext (d := 17) rfl
        obtain ⟨Y2_1, hs⟩ := hs.ext (d := 18) rfl
        obtain ⟨Y3_2, hs⟩ := hs.ext (d := 19) rfl
        obtain ⟨Y4_3, hs⟩ := hs.ext (d := 20) rfl
        obtain ⟨Y5_4, hs⟩ := hs.ext (d := 21) rfl
        obtain ⟨Y6_5, hs⟩ := hs.ext (d := 22) rfl
        obtain ⟨Y7_6, hs⟩ := hs.ext (d := 23) rfl
        obtain ⟨Y8_7, hs⟩ := hs.ext (d := 24) rfl
        obtain ⟨Y9_8, hs⟩ := hs.ext (d := 25) rfl
        obtain ⟨Y10_9, hs⟩ := hs.ext (d := 26) rfl
        exact ⟨Y1_0, Y2_1, Y3_2, Y4_3, Y5_4, Y6_5, Y7_6, Y8_7, Y9_8, Y10_9, hs.weak ⟨rfl, rfl, rfl, rfl, rfl, rfl, rfl, rfl, rfl, rfl, rfl, rfl, rfl, trivial⟩, (HS.drew.pick 0 []), fun h => Bool.noConfusion h, fun h => Bool.noConfusion h, fun h => Bool.noConfusion h, fun h => Bool.noConfusion h, fun h => Bool.noConfusion h, fun h => Bool.noConfusion h, fun h => Bool.noConfusion h, fun h => Bool.noConfusion h, fun h => Bool.noConfusion h, fun h => Bool.noConfusion h⟩
       ·
        intro j hj b a w
        refine exI fun Y1_0 => exI fun Y2_1 => exI fun Y3_2 => exI fun Y4_3 => exI fun Y5_4 => exI fun Y6_5 => exI fun Y7_6 => exI fun Y8_7 => exI fun Y9_8 => exI fun Y10_9 => anI fun hs => anI fun HS => anI fun f0 => anI fun f1 => anI fun f2 => anI fun f3 => anI fun f4 => anI fun f5 => anI fun f6 => anI fun f7 => anI fun f8 => fun f9 hb hd hcl => ?_
        match j, hj with
        | 0, _ =>
         refine GO.at hs ?_
         refine GO.move rfl rfl rfl ?_
         refine GO.fin (fun a hs => ?_)
         exact ⟨(.slice A_a_ a_.length c_a_), _, _, _, _, _, _, _, _, _, hs.weak ⟨rfl, rfl, rfl, rfl, rfl, rfl, rfl, rfl, rfl, rfl, rfl, rfl, rfl, trivial⟩, HS.pick 0 [], fun _ => rfl, f1, f2, f3, f4, f5, f6, f7, f8, f9⟩
        | 1, _ =>
         refine GO.at hs ?_
         refine GO.move rfl rfl rfl ?_
         refine GO.fin (fun a hs => ?_)
         exact ⟨_, (.int .i64 i_14), _, _, _, _, _, _, _, _, hs.weak ⟨rfl, rfl, rfl, rfl, rfl, rfl, rfl, rfl, rfl, rfl, rfl, rfl, rfl, trivial⟩, HS.pick 0 [], f0, fun _ => rfl, f2, f3, f4, f5, f6, f7, f8, f9⟩
        | 2, _ =>
         have h0 : b 0 = true := hd 0 (by decide)
         obtain rfl := f0 h0
         have h1 : b 1 = true := hd 1 (by decide)
         obtain rfl := f1 h1
         refine GO.at hs ?_
         refine GO.ix rfl rfl rfl Try.underlying26 sz58 (h_a_ _ HS).2.2.1 c28.1 c28.2 rfl ?_
         refine GO.fin (fun a hs => ?_)
         exact ⟨_, _, (.pointer (some (ea A_a_ (i_14.toNat * 5)))), _, _, _, _, _, _, _, hs.weak ⟨rfl, rfl, rfl, rfl, rfl, rfl, rfl, rfl, rfl, rfl, rfl, rfl, rfl, trivial⟩, HS.pick 0 [], f0, f1, fun _ => rfl, f3, f4, f5, f6, f7, f8, f9⟩
        | 3, _ =>
         have h2 : b 2 = true := hd 2 (by decide)
         obtain rfl := f2 h2
         refine GO.at hs ?_
         refine GO.ldRdA (T := T_GCrossing) (n := i_14.toNat) HS h_a_ rfl rfl (getD_eq (ltN c28) h30) ag58 rfl ?_
         refine GO.fin (fun a hs => ?_)
         exact ⟨_, _, _, (.agg [.int .i64 e29.A, .int .i64 e29.B, .int .i64 e29.C, .int .i64 e29.D, .int .i64 e29.Sign].toArray), _, _, _, _, _, _, hs.weak ⟨rfl, rfl, rfl, rfl, rfl, rfl, rfl, rfl, rfl, rfl, rfl, rfl, rfl, trivial⟩, HS.pick 0 [], f0, f1, f2, fun _ => rfl, f4, f5, f6, f7, f8, f9⟩
        | 4, _ =>
         refine GO.at hs ?_
         refine GO.move rfl rfl rfl ?_
         refine GO.fin (fun a hs => ?_)
         exact ⟨_, _, _, _, (.slice A_b_ b_.length c_b_), _, _, _, _, _, hs.weak ⟨rfl, rfl, rfl, rfl, rfl, rfl, rfl, rfl, rfl, rfl, rfl, rfl, rfl, trivial⟩, HS.pick 0 [], f0, f1, f2, f3, fun _ => rfl, f5, f6, f7, f8, f9⟩
        | 5, _ =>
         refine GO.at hs ?_
         refine GO.move rfl rfl rfl ?_
         refine GO.fin (fun a hs => ?_)
         exact ⟨_, _, _, _, _, (.int .i64 i_14), _, _, _, _, hs.weak ⟨rfl, rfl, rfl, rfl, rfl, rfl, rfl, rfl, rfl, rfl, rfl, rfl, rfl, trivial⟩, HS.pick 0 [], f0, f1, f2, f3, f4, fun _ => rfl, f6, f7, f8, f9⟩
        | 6, _ =>
         have h4 : b 4 = true := hd 4 (by decide)
         obtain rfl := f4 h4
         have h5 : b 5 = true := hd 5 (by decide)
         obtain rfl := f5 h5
         refine GO.at hs ?_
         refine GO.ix rfl rfl rfl Try.underlying26 sz58 (h_b_ _ HS).2.2.1 c31.1 c31.2 rfl ?_
         refine GO.fin (fun a hs => ?_)
         exact ⟨_, _, _, _, _, _, (.pointer (some (ea A_b_ (i_14.toNat * 5)))), _, _, _, hs.weak ⟨rfl, rfl, rfl, rfl, rfl, rfl, rfl, rfl, rfl, rfl, rfl, rfl, rfl, trivial⟩, HS.pick 0 [], f0, f1, f2, f3, f4, f5, fun _ => rfl, f7, f8, f9⟩
        | 7, _ =>
         have h6 : b 6 = true := hd 6 (by decide)
         obtain rfl := f6 h6
         refine GO.at hs ?_
         refine GO.ldRdA (T := T_GCrossing) (n := i_14.toNat) HS h_b_ rfl rfl (getD_eq (ltN c31) h33) ag58 rfl ?_
         refine GO.fin (fun a hs => ?_)
         exact ⟨_, _, _, _, _, _, _, (.agg [.int .i64 e32.A, .int .i64 e32.B, .int .i64 e32.C, .int .i64 e32.D, .int .i64 e32.Sign].toArray), _, _, hs.weak ⟨rfl, rfl, rfl, rfl, rfl, rfl, rfl, rfl, rfl, rfl, rfl, rfl, rfl, trivial⟩, HS.pick 0 [], f0, f1, f2, f3, f4, f5, f6, fun _ => rfl, f8, f9⟩
        | 8, _ =>
         have h3 : b 3 = true := hd 3 (by decide)
         obtain rfl := f3 h3
         have h7 : b 7 = true := hd 7 (by decide)
         obtain rfl := f7 h7
         refine GO.at hs ?_
         refine GO.fn rfl Try.func114 fok114.1 fok114.2 rfl rfl (laws_eqCrossing.calls HS  h35) (fun _ wd36 ⟨h37, HS⟩ => ⟨_, h37, ?_⟩)
         refine GO.fin (fun a hs => ?_)
         exact ⟨_, _, _, _, _, _, _, _, (.bool t34), _, hs.weak ⟨rfl, rfl, rfl, rfl, rfl, rfl, rfl, rfl, rfl, rfl, rfl, rfl, rfl, trivial⟩, HS.pick 0 [], f0, f1, f2, f3, f4, f5, f6, f7, fun _ => rfl, f9⟩
        | 9, _ =>
         have h8 : b 8 = true := hd 8 (by decide)
         obtain rfl := f8 h8
         refine GO.at hs ?_
         refine GO.not rfl rfl rfl ?_
         refine GO.fin (fun a hs => ?_)
         exact ⟨_, _, _, _, _, _, _, _, _, (.bool (!t34)), hs.weak ⟨rfl, rfl, rfl, rfl, rfl, rfl, rfl, rfl, rfl, rfl, rfl, rfl, rfl, trivial⟩, HS.pick 0 [], f0, f1, f2, f3, f4, f5, f6, f7, f8, fun _ => rfl⟩
        | k + 10, hj => exact absurd hj (Nat.not_lt.2 (Nat.le_add_left 10 k))
       ·
        intro b a w hall
        refine exI fun Y1_0 => exI fun Y2_1 => exI fun Y3_2 => exI fun Y4_3 => exI fun Y5_4 => exI fun Y6_5 => exI fun Y7_6 => exI fun Y8_7 => exI fun Y9_8 => exI fun Y10_9 => anI fun hs => anI fun HS => anI fun f0 => anI fun f1 => anI fun f2 => anI fun f3 => anI fun f4 => anI fun f5 => anI fun f6 => anI fun f7 => anI fun f8 => fun f9 => ?_
        obtain rfl := f0 (hall 0 (by decide))
        obtain rfl := f1 (hall 1 (by decide))
        obtain rfl := f2 (hall 2 (by decide))
        obtain rfl := f3 (hall 3 (by decide))
        obtain rfl := f4 (hall 4 (by decide))
        obtain rfl := f5 (hall 5 (by decide))
        obtain rfl := f6 (hall 6 (by decide))
        obtain rfl := f7 (hall 7 (by decide))
        obtain rfl := f8 (hall 8 (by decide))
        obtain rfl := f9 (hall 9 (by decide))
        refine G.at hs ?_
        rcases ite_elim H with ⟨c38, H⟩ | ⟨c38, H⟩
        ·
         refine G.noB rfl (congrArg Bool.not c38) ?_
         refine G.skip ?_
         refine G.blockEnd ?_
         refine G.region ?_
         refine GO.move rfl rfl rfl ?_
         refine GO.add rfl rfl rfl rfl ?_
         refine GO.assign rfl rfl rfl ?_
         refine GO.nil ?_
         refine G.again ?_
         refine G.weak ?_ (ih_l1 n_l1 (Nat.lt_succ_of_le (Nat.le_refl _)) (Nat.le_of_succ_le hm_l1) _ _ H HS)
         exact ⟨rfl, rfl, rfl, trivial⟩
        ·
         refine G.yesB rfl (congrArg Bool.not (bnot_of c38)) ?_
         refine G.seq ?_
         refine G.region ?_
         refine GO.assign rfl rfl rfl ?_
         refine GO.nil ?_
         obtain rfl := Option.some.inj H
         exact G.ret1 _ Try.func51 rfl rfl ⟨rfl, HS⟩
      ·
       refine G.noB rfl (decide_eq_false c27) ?_
       refine G.exit rfl ?_
       refine G.seq ?_
       refine G.region ?_
       refine GO.assign rfl rfl rfl ?_
       refine GO.nil ?_
       obtain rfl := Option.some.inj H
       exact G.ret1 _ Try.func51 rfl rfl ⟨rfl, HS⟩
   refine G.weak ?_ (at_l1 K (Nat.le_refl _) _ _ H HS)
   exact ⟨rfl, rfl, rfl, trivial⟩
  ·
   refine G.yesB rfl (congrArg Bool.not (decide_eq_false c1)) ?_
   refine G.seq ?_
   refine G.region ?_
   refine GO.assign rfl rfl rfl ?_
   refine GO.nil ?_
   obtain rfl := Option.some.inj H
   exact G.ret1 _ Try.func51 rfl rfl ⟨rfl, HS⟩

set_option maxRecDepth 20000 in
set_option maxHeartbeats 40000000 in
theorem laws_eqDiagram.calls {w0 w : World} {L : List HObj} {K : Nat} {a_Crossings : List GCrossing} {a_Circles : Int} {b_Crossings : List GCrossing} {b_Circles : Int} {A_a_Crossings : Option Addr} {c_a_Crossings : Nat} {A_b_Crossings : Option Addr} {c_b_Crossings : Nat} {r1 : Bool} (HS : St w0 w (L)) (h_a_Crossings : RdIn w0 L T_GCrossing A_a_Crossings c_a_Crossings (fun _ => ()) a_Crossings) (h_b_Crossings : RdIn w0 L T_GCrossing A_b_Crossings c_b_Crossings (fun _ => ()) b_Crossings) (H : laws_eqDiagram.f K a_Crossings a_Circles b_Crossings b_Circles = some r1) :
    Calls Try.prog 16 #[.agg [.slice A_a_Crossings a_Crossings.length c_a_Crossings, .int .i64 a_Circles].toArray, .agg [.slice A_b_Crossings b_Crossings.length c_b_Crossings, .int .i64 b_Circles].toArray] w (laws_eqDiagram.post w0 L a_Crossings a_Circles b_Crossings b_Circles A_a_Crossings c_a_Crossings A_b_Crossings c_b_Crossings r1) := by
  unfold laws_eqDiagram.f at H
  refine Calls.of_G Try.func16 rfl rfl rfl ?_
  refine G.seq ?_
  refine G.region ?_
  refine GO.box (cs := [.slice A_a_Crossings a_Crossings.length c_a_Crossings, .int .i64 a_Circles]) HS rfl rfl rfl rfl ?_; intro b1 wd2 HS
  refine GO.box (cs := [.slice A_b_Crossings b_Crossings.length c_b_Crossings, .int .i64 b_Circles]) HS rfl rfl rfl rfl ?_; intro b3 wd4 HS
  refine GO.assign rfl rfl rfl ?_
  refine GO.nil ?_
  refine G.seq ?_
  refine G.seq ?_
  obtain ⟨t5, h6, H⟩ := Option.bind_eq_some_iff.1 H
  refine G.region ?_
  refine GO.fld (⟨b1, 0, none⟩) rfl rfl fl28_0 rfl rfl ?_
  refine GO.ldBox (j := 1) HS rfl rfl rfl rfl na26 rfl ?_
  refine GO.fld (⟨b3, 0, none⟩) rfl rfl fl28_0 rfl rfl ?_
  refine GO.ldBox (j := 0) HS rfl rfl rfl rfl na26 rfl ?_
  refine GO.fn rfl Try.func51 fok51.1 fok51.2 rfl rfl (laws_eqCrossingS.calls HS (RdIn.drop 2 h_a_Crossings) (RdIn.drop 2 h_b_Crossings) h6) (fun _ wd7 ⟨h8, HS⟩ => ⟨_, h8, ?_⟩)
  refine GO.not rfl rfl rfl ?_
  refine GO.nil ?_
  rcases ite_elim H with ⟨c9, H⟩ | ⟨c9, H⟩
  ·
   refine G.noB rfl (congrArg Bool.not c9) ?_
   refine G.skip ?_
   refine G.seq ?_
   refine G.seq ?_
   refine G.region ?_
   refine GO.fld (⟨b1, 1, none⟩) rfl rfl fl28_1 rfl rfl ?_
   refine GO.ldBox (j := 1) HS rfl rfl rfl rfl na2 rfl ?_
   refine GO.fld (⟨b3, 1, none⟩) rfl rfl fl28_1 rfl rfl ?_
   refine GO.ldBox (j := 0) HS rfl rfl rfl rfl na2 rfl ?_
   refine GO.neq rfl rfl rfl rfl ?_
   refine GO.nil ?_
   rcases ite_elim H with ⟨c10, H⟩ | ⟨c10, H⟩
   ·
    refine G.noB rfl (congrArg Bool.not (decide_eq_true c10)) ?_
    refine G.skip ?_
    refine G.seq ?_
    refine G.region ?_
    refine GO.assign rfl rfl rfl ?_
    refine GO.nil ?_
    obtain rfl := Option.some.inj H
    exact G.ret1 _ Try.func16 rfl rfl ⟨rfl, (HS.pick 2 [])⟩
   ·
    refine G.yesB rfl (congrArg Bool.not (decide_eq_false c10)) ?_
    refine G.seq ?_
    refine G.region ?_
    refine GO.assign rfl rfl rfl ?_
    refine GO.nil ?_
    obtain rfl := Option.some.inj H
    exact G.ret1 _ Try.func16 rfl rfl ⟨rfl, (HS.pick 2 [])⟩
  ·
   refine G.yesB rfl (congrArg Bool.not (bnot_of c9)) ?_
   refine G.seq ?_
   refine G.region ?_
   refine GO.assign rfl rfl rfl ?_
   refine GO.nil ?_
   obtain rfl := Option.some.inj H
   exact G.ret1 _ Try.func16 rfl rfl ⟨rfl, (HS.pick 2 [])⟩

set_option maxRecDepth 20000 in
set_option maxHeartbeats 40000000 in
theorem laws_markCrossingS.calls {w0 w : World} {L : List HObj} {K : Nat} {a_ : List GCrossing} {k_ : Int} {A_a_ : Option Addr} {c_a_ : Nat} {r1 : Int} {r2 : List GCrossing} (HS : St w0 w (Own T_GCrossing 58 A_a_ c_a_ (fun _ => ()) a_ :: L)) (H : laws_markCrossingS.f K a_ k_ = some (r1, r2)) :
    Calls Try.prog 52 #[.slice A_a_ a_.length c_a_, .int .i64 k_] w (laws_markCrossingS.post w0 L a_ k_ A_a_ c_a_ r1 r2) := by
  unfold laws_markCrossingS.f at H
  refine Calls.of_G Try.func52 rfl rfl rfl ?_
  refine G.seq ?_
  refine G.region ?_
  refine GO.assign rfl rfl rfl ?_
  refine GO.nil ?_
  refine G.seq ?_
  refine G.seq ?_
  refine G.region ?_
  refine GO.assign rfl rfl rfl ?_
  refine GO.nil ?_
  refine G.block ?_
  refine G.loop ?_
  refine G.name (fun k_l1 hk_l1 => ?_)
  have at_l1 : ∀ m_l1, m_l1 ≤ K → ∀ (x22 : List GCrossing) (k_23 : Int) (i_24 : Int) (w : World), laws_markCrossingS.l1 K m_l1 x22 k_23 i_24 = some (r1, r2) → St w0 w (Own T_GCrossing 58 A_a_ c_a_ (fun _ => ()) x22 :: L) → G Try.prog 52 48 [(0, .slice A_a_ x22.length c_a_), (1, .int .i64 k_23), (5, .int .i64 i_24)] k_l1 w (laws_markCrossingS.post w0 L a_ k_ A_a_ c_a_ r1 r2) := by
   intro m_l1
   induction m_l1 using Nat.strongRecOn with
   | _ m_l1 ih_l1 =>
    intro hm_l1 x22 k_23 i_24 w H HS
    cases m_l1 with
    | zero => rw [laws_markCrossingS.l1] at H; cases H
    | succ n_l1 =>
     rw [laws_markCrossingS.l1] at H
     subst hk_l1
     refine G.seq ?_
     refine G.seq ?_
     refine G.region ?_
     refine GO.move rfl rfl rfl ?_
     refine GO.move rfl rfl rfl ?_
     refine GO.lenS rfl rfl Try.underlying26 rfl ?_
     refine GO.lss rfl rfl rfl rfl ?_
     refine GO.nil ?_
     rcases ite_elim H with ⟨c46, H⟩ | ⟨c46, H⟩
     ·
      refine G.yesB rfl (decide_eq_true c46) ?_
      refine G.skip ?_
      refine G.seq ?_
      refine G.block ?_
      refine G.seq ?_
      obtain ⟨c47, H⟩ := ite_none H
      obtain ⟨e49, h50, H⟩ := bnd_elim H
      refine G.region ?_
      refine GO.move rfl rfl rfl ?_
      refine GO.move rfl rfl rfl ?_
      refine GO.move rfl rfl rfl ?_
      refine GO.ix rfl rfl rfl Try.underlying26 sz58 ((RdIn.own (j := 0) rfl) _ HS).2.2.1 c47.1 c47.2 rfl ?_
      refine GO.fld (ea A_a_ (i_24.toNat * 5)) rfl rfl fl58_0 rfl rfl ?_
      refine GO.stRow (T := T_GCrossing) (j := 0) (n := i_24.toNat) (o := 0) (vs := [.int .i64 k_23]) ({ e49 with A := k_23 }) HS rfl flat_flat rfl rfl rfl rfl (htN na2 rfl) rfl (getD_eq (ltN c47) h50) rfl rfl ?_; intro wd48 HS
      refine GO.nil ?_
      refine G.len (t := 0) (m := (x22.set i_24.toNat ({ e49 with A := k_23 })).length) rfl (by simp only [List.length_set] <;> rfl) ?_
      refine G.seq ?_
      refine G.region ?_
      refine GO.move rfl rfl rfl ?_
      refine GO.add rfl rfl rfl rfl ?_
      refine GO.assign rfl rfl rfl ?_
      refine GO.nil ?_
      refine G.seq ?_
      obtain ⟨c51, H⟩ := ite_none H
      obtain ⟨e53, h54, H⟩ := bnd_elim H
      refine G.region ?_
      refine GO.move rfl rfl rfl ?_
      refine GO.move rfl rfl rfl ?_
      refine GO.move rfl rfl rfl ?_
      refine GO.ix rfl rfl rfl Try.underlying26 sz58 ((RdIn.own (j := 0) rfl) _ HS).2.2.1 c51.1 c51.2 rfl ?_
      refine GO.fld (ea A_a_ (i_24.toNat * 5 + 1)) rfl rfl fl58_1 (ea_add _ _ _) rfl ?_
      refine GO.stRow (T := T_GCrossing) (j := 0) (n := i_24.toNat) (o := 1) (vs := [.int .i64 (w64 (k_23 + 1))]) ({ e53 with B := w64 (k_23 + 1) }) HS rfl flat_flat rfl rfl rfl rfl (htN na2 rfl) rfl (getD_eq (ltN c51) h54) rfl rfl ?_; intro wd52 HS
      refine GO.nil ?_
      refine G.len (t := 0) (m := ((x22.set i_24.toNat ({ e49 with A := k_23 })).set i_24.toNat ({ e53 with B := w64 (k_23 + 1) })).length) rfl (by simp only [List.length_set] <;> rfl) ?_
      refine G.seq ?_
      refine G.region ?_
      refine GO.move rfl rfl rfl ?_
      refine GO.add rfl rfl rfl rfl ?_
      refine GO.assign rfl rfl rfl ?_
      refine GO.nil ?_
      refine G.seq ?_
      obtain ⟨c55, H⟩ := ite_none H
      obtain ⟨e57, h58, H⟩ := bnd_elim H
      refine G.region ?_
      refine GO.move rfl rfl rfl ?_
      refine GO.move rfl rfl rfl ?_
      refine GO.move rfl rfl rfl ?_
      refine GO.ix rfl rfl rfl Try.underlying26 sz58 ((RdIn.own (j := 0) rfl) _ HS).2.2.1 c55.1 c55.2 rfl ?_
      refine GO.fld (ea A_a_ (i_24.toNat * 5 + 2)) rfl rfl fl58_2 (ea_add _ _ _) rfl ?_
      refine GO.stRow (T := T_GCrossing) (j := 0) (n := i_24.toNat) (o := 2) (vs := [.int .i64 (w64 ((w64 (k_23 + 1)) + 1))]) ({ e57 with C := w64 ((w64 (k_23 + 1)) + 1) }) HS rfl flat_flat rfl rfl rfl rfl (htN na2 rfl) rfl (getD_eq (ltN c55) h58) rfl rfl ?_; intro wd56 HS
      refine GO.nil ?_
      refine G.len (t := 0) (m := (((x22.set i_24.toNat ({ e49 with A := k_23 })).set i_24.toNat ({ e53 with B := w64 (k_23 + 1) })).set i_24.toNat ({ e57 with C := w64 ((w64 (k_23 + 1)) + 1) })).length) rfl (by simp only [List.length_set] <;> rfl) ?_
      refine G.seq ?_
      refine G.region ?_
      refine GO.move rfl rfl rfl ?_
      refine GO.add rfl rfl rfl rfl ?_
      refine GO.assign rfl rfl rfl ?_
      refine GO.nil ?_
      refine G.seq ?_
      obtain ⟨c59, H⟩ := ite_none H
      obtain ⟨e61, h62, H⟩ := bnd_elim H
      refine G.region ?_
      refine GO.move rfl rfl rfl ?_
      refine GO.move rfl rfl rfl ?_
      refine GO.move rfl rfl rfl ?_
      refine GO.ix rfl rfl rfl Try.underlying26 sz58 ((RdIn.own (j := 0) rfl) _ HS).2.2.1 c59.1 c59.2 rfl ?_
      refine GO.fld (ea A_a_ (i_24.toNat * 5 + 3)) rfl rfl fl58_3 (ea_add _ _ _) rfl ?_
      refine GO.stRow (T := T_GCrossing) (j := 0) (n := i_24.toNat) (o := 3) (vs := [.int .i64 (w64 ((w64 ((w64 (k_23 + 1)) + 1)) + 1))]) ({ e61 with D := w64 ((w64 ((w64 (k_23 + 1)) + 1)) + 1) }) HS rfl flat_flat rfl rfl rfl rfl (htN na2 rfl) rfl (getD_eq (ltN c59) h62) rfl rfl ?_; intro wd60 HS
      refine GO.nil ?_
      refine G.len (t := 0) (m := ((((x22.set i_24.toNat ({ e49 with A := k_23 })).set i_24.toNat ({ e53 with B := w64 (k_23 + 1) })).set i_24.toNat ({ e57 with C := w64 ((w64 (k_23 + 1)) + 1) })).set i_24.toNat ({ e61 with D := w64 ((w64 ((w64 (k_23 + 1)) + 1)) + 1) })).length) rfl (by simp only [List.length_set] <;> rfl) ?_
      refine G.seq ?_
      refine G.region ?_
      refine GO.move rfl rfl rfl ?_
      refine GO.add rfl rfl rfl rfl ?_
      refine GO.assign rfl rfl rfl ?_
      refine GO.nil ?_
      refine G.seq ?_
      obtain ⟨c63, H⟩ := ite_none H
      obtain ⟨e65, h66, H⟩ := bnd_elim H
      refine G.region ?_
      refine GO.move rfl rfl rfl ?_
      refine GO.move rfl rfl rfl ?_
      refine GO.move rfl rfl rfl ?_
      refine GO.ix rfl rfl rfl Try.underlying26 sz58 ((RdIn.own (j := 0) rfl) _ HS).2.2.1 c63.1 c63.2 rfl ?_
      refine GO.fld (ea A_a_ (i_24.toNat * 5 + 4)) rfl rfl fl58_4 (ea_add _ _ _) rfl ?_
      refine GO.stRow (T := T_GCrossing) (j := 0) (n := i_24.toNat) (o := 4) (vs := [.int .i64 (w64 ((w64 ((w64 ((w64 (k_23 + 1)) + 1)) + 1)) + 1))]) ({ e65 with Sign := w64 ((w64 ((w64 ((w64 (k_23 + 1)) + 1)) + 1)) + 1) }) HS rfl flat_flat rfl rfl rfl rfl (htN na2 rfl) rfl (getD_eq (ltN c63) h66) rfl rfl ?_; intro wd64 HS
      refine GO.nil ?_
      refine G.len (t := 0) (m := (((((x22.set i_24.toNat ({ e49 with A := k_23 })).set i_24.toNat ({ e53 with B := w64 (k_23 + 1) })).set i_24.toNat ({ e57 with C := w64 ((w64 (k_23 + 1)) + 1) })).set i_24.toNat ({ e61 with D := w64 ((w64 ((w64 (k_23 + 1)) + 1)) + 1) })).set i_24.toNat ({ e65 with Sign := w64 ((w64 ((w64 ((w64 (k_23 + 1)) + 1)) + 1)) + 1) })).length) rfl (by simp only [List.length_set] <;> rfl) ?_
      refine G.region ?_
      refine GO.move rfl rfl rfl ?_
      refine GO.add rfl rfl rfl rfl ?_
      refine GO.assign rfl rfl rfl ?_
      refine GO.nil ?_
      refine G.blockEnd ?_
      refine G.region ?_
      refine GO.move rfl rfl rfl ?_
      refine GO.add rfl rfl rfl rfl ?_
      refine GO.assign rfl rfl rfl ?_
      refine GO.nil ?_
      refine G.again ?_
      refine G.weak ?_ (ih_l1 n_l1 (Nat.lt_succ_of_le (Nat.le_refl _)) (Nat.le_of_succ_le hm_l1) _ _ _ _ H HS)
      exact ⟨rfl, rfl, rfl, trivial⟩
     ·
      refine G.noB rfl (decide_eq_false c46) ?_
      refine G.exit rfl ?_
      refine G.seq ?_
      refine G.region ?_
      refine GO.move rfl rfl rfl ?_
      refine GO.assign rfl rfl rfl ?_
      refine GO.nil ?_
      obtain ⟨rfl, rfl⟩ := some2 H
      exact G.ret1 _ Try.func52 rfl rfl ⟨rfl, HS⟩
  refine G.weak ?_ (at_l1 K (Nat.le_refl _) _ _ _ _ H HS)
  exact ⟨rfl, rfl, rfl, trivial⟩

set_option maxRecDepth 20000 in
set_option maxHeartbeats 40000000 in
theorem laws_markDiagram.calls {w0 w : World} {L : List HObj} {K : Nat} {a_Crossings : List GCrossing} {a_Circles : Int} {k_ : Int} {A_a_Crossings : Option Addr} {c_a_Crossings : Nat} {r1 : Int} {r2 : List GCrossing} (HS : St w0 w (Own T_GCrossing 58 A_a_Crossings c_a_Crossings (fun _ => ()) a_Crossings :: L)) (H : laws_markDiagram.f K a_Crossings a_Circles k_ = some (r1, r2)) :
    Calls Try.prog 17 #[.agg [.slice A_a_Crossings a_Crossings.length c_a_Crossings, .int .i64 a_Circles].toArray, .int .i64 k_] w (laws_markDiagram.post w0 L a_Crossings a_Circles k_ A_a_Crossings c_a_Crossings r1 r2) := by
  unfold laws_markDiagram.f at H
  refine Calls.of_G Try.func17 rfl rfl rfl ?_
  refine G.seq ?_
  refine G.region ?_
  refine GO.box (cs := [.slice A_a_Crossings a_Crossings.length c_a_Crossings, .int .i64 a_Circles]) HS rfl rfl rfl rfl ?_; intro b1 wd2 HS
  refine GO.assign rfl rfl rfl ?_
  refine GO.nil ?_
  refine G.seq ?_
  obtain ⟨t3, t4, h5, H⟩ := bind2_elim H
  obtain ⟨c6, H⟩ := ite_none H
  refine G.region ?_
  refine GO.fld (⟨b1, 0, none⟩) rfl rfl fl28_0 rfl rfl ?_
  refine GO.ldBox (j := 0) HS rfl rfl rfl rfl na26 rfl ?_
  refine GO.move rfl rfl rfl ?_
  replace HS := HS.pick 2 [1, 0]
  refine GO.fn rfl Try.func52 fok52.1 fok52.2 rfl rfl (laws_markCrossingS.calls HS  h5) (fun _ wd7 ⟨h8, HS⟩ => ⟨_, h8, ?_⟩)
  refine GO.assign rfl rfl rfl ?_
  refine GO.nil ?_
  replace HS := HS.boxEq (j := 1) (cs' := [.slice A_a_Crossings t4.length c_a_Crossings, .int .i64 a_Circles]) rfl (by simp only [List.length_set, c6] <;> rfl)
  refine G.seq ?_
  refine G.region ?_
  refine GO.move rfl rfl rfl ?_
  refine GO.assign rfl rfl rfl ?_
  refine GO.nil ?_
  obtain ⟨rfl, rfl⟩ := some2 H
  exact G.ret1 _ Try.func17 rfl rfl ⟨rfl, (HS.pick 2 [0])⟩

end Go.Proofs.Ytdafmbaeiefacaa
