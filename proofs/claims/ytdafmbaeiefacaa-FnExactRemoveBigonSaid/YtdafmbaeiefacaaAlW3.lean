/-
  The walks through the functions: a call comes to what its list function says.
-/
import Derived.Test.YtdafmbaeiefacaaAlF
import Derived.Test.YtdafmbaeiefacaaAlW2
set_option linter.unusedVariables false
set_option linter.unusedSimpArgs false
namespace Go.Proofs.Ytdafmbaeiefacaa
open Go.RowKit
set_option maxRecDepth 20000 in
set_option maxHeartbeats 40000000 in
theorem impl_Diagram_parts.calls {w0 w : World} {L : List HObj} {K : Nat} {d_Crossings : List GCrossing} {d_Circles : Int} {a_from : List GEnd} {a_to : List GEnd} {A_d_Crossings : Option Addr} {c_d_Crossings : Nat} {A_a_from : Option Addr} {c_a_from : Nat} {A_a_to : Option Addr} {c_a_to : Nat} {r1 : List Int} (HS : St w0 w (L)) (h_d_Crossings : RdIn w0 L T_GCrossing A_d_Crossings c_d_Crossings (fun _ => ()) d_Crossings) (h_a_from : RdIn w0 L T_GEnd A_a_from c_a_from (fun _ => ()) a_from) (h_a_to : RdIn w0 L T_GEnd A_a_to c_a_to (fun _ => ()) a_to) (H : impl_Diagram_parts.f K d_Crossings d_Circles a_from a_to = some r1) :
    Calls Try.prog 85 #[.agg [.slice A_d_Crossings d_Crossings.length c_d_Crossings, .int .i64 d_Circles].toArray, .agg [.slice A_a_from a_from.length c_a_from, .slice A_a_to a_to.length c_a_to].toArray] w (impl_Diagram_parts.post w0 L d_Crossings d_Circles a_from a_to A_d_Crossings c_d_Crossings A_a_from c_a_from A_a_to c_a_to r1) := by
  unfold impl_Diagram_parts.f at H
  refine Calls.of_G Try.func85 rfl rfl rfl ?_
  refine G.seq ?_
  refine G.region ?_
  refine GO.box (cs := [.slice A_d_Crossings d_Crossings.length c_d_Crossings, .int .i64 d_Circles]) HS rfl rfl rfl rfl ?_; intro b1 wd2 HS
  refine GO.box (cs := [.slice A_a_from a_from.length c_a_from, .slice A_a_to a_to.length c_a_to]) HS rfl rfl rfl rfl ?_; intro b3 wd4 HS
  refine GO.assign rfl rfl rfl ?_
  refine GO.nil ?_
  refine G.seq ?_
  obtain ⟨t5, h6, H⟩ := Option.bind_eq_some_iff.1 H
  obtain ⟨t9, h10, H⟩ := Option.bind_eq_some_iff.1 H
  refine G.region ?_
  refine GO.fld (⟨b1, 0, none⟩) rfl rfl fl28_0 rfl rfl ?_
  refine GO.ldBox (j := 1) HS rfl rfl rfl rfl na26 rfl ?_
  refine GO.fn rfl Try.func56 fok56.1 fok56.2 rfl rfl (impl_size_impl_Crossing.calls HS (RdIn.drop 2 h_d_Crossings) h6) (fun _ wd7 ⟨h8, HS⟩ => ⟨_, h8, ?_⟩)
  refine GO.fn rfl Try.func142 fok142.1 fok142.2 rfl rfl (impl_counting.calls HS  h10) (fun _ wd13 ⟨A11, c12, h14, HS⟩ => ⟨_, h14, ?_⟩)
  refine GO.assign rfl rfl rfl ?_
  refine GO.nil ?_
  refine G.seq ?_
  refine G.seq ?_
  refine G.region ?_
  refine GO.fld (⟨b3, 0, none⟩) rfl rfl fl63_0 rfl rfl ?_
  refine GO.ldBox (j := 1) HS rfl rfl rfl rfl na61 rfl ?_
  refine GO.lenS rfl rfl Try.underlying61 rfl ?_
  refine GO.move rfl rfl rfl ?_
  refine GO.nil ?_
  refine G.block ?_
  refine G.loop ?_
  refine G.name (fun k_l1 hk_l1 => ?_)
  have at_l1 : ∀ m_l1, m_l1 ≤ K → ∀ (sets_36 : List Int) (x37 : Int) (w : World), impl_Diagram_parts.l1 K m_l1 a_from a_to sets_36 x37 = some r1 → St w0 w (Box b3 63 [.slice A_a_from a_from.length c_a_from, .slice A_a_to a_to.length c_a_to] :: Own (TInt .i64) 2 A11 c12 (fun _ => ()) sets_36 :: L) → G Try.prog 85 33 [(3, .pointer (some ⟨b3, 0, none⟩)), (5, .slice A11 sets_36.length c12), (13, .slice A_a_from a_from.length c_a_from), (14, .int .i64 (a_from.length : Int)), (15, .int .i64 x37)] k_l1 w (impl_Diagram_parts.post w0 L d_Crossings d_Circles a_from a_to A_d_Crossings c_d_Crossings A_a_from c_a_from A_a_to c_a_to r1) := by
   intro m_l1
   induction m_l1 using Nat.strongRecOn with
   | _ m_l1 ih_l1 =>
    intro hm_l1 sets_36 x37 w H HS
    cases m_l1 with
    | zero => rw [impl_Diagram_parts.l1] at H; cases H
    | succ n_l1 =>
     rw [impl_Diagram_parts.l1] at H
     subst hk_l1
     refine G.seq ?_
     refine G.region ?_
     refine GO.lss rfl rfl rfl rfl ?_
     refine GO.nil ?_
     refine G.seq ?_
     rcases ite_elim H with ⟨c59, H⟩ | ⟨c59, H⟩
     ·
      refine G.yesB rfl (decide_eq_true c59) ?_
      refine G.skip ?_
      refine G.seq ?_
      refine G.block ?_
      refine G.seq ?_
      obtain ⟨c60, H⟩ := ite_none H
      obtain ⟨e61, h62, H⟩ := bnd_elim H
      refine G.region ?_
      refine GO.move rfl rfl rfl ?_
      refine GO.ix rfl rfl rfl Try.underlying61 sz68 ((RdIn.drop 2 h_a_from) _ HS).2.2.1 c60.1 c60.2 rfl ?_
      refine GO.ldRdA (T := T_GEnd) (n := x37.toNat) HS (RdIn.drop 2 h_a_from) rfl rfl (getD_eq (ltN c60) h62) ag68 rfl ?_
      refine GO.alloc HS rfl zr68 rfl rfl ?_; intro b63 wd64 HS
      refine GO.assign rfl rfl rfl ?_
      refine GO.stBox (j := 0) (vs := [.int .i64 e61.crossing, .int .i64 e61.position]) ([.int .i64 e61.crossing, .int .i64 e61.position]) HS rfl rfl rfl rfl rfl (htA ag68) rfl rfl rfl ?_; intro wd65 HS
      refine GO.nil ?_
      obtain ⟨c66, H⟩ := ite_none H
      obtain ⟨e67, h68, H⟩ := bnd_elim H
      obtain ⟨t69, h70, H⟩ := Option.bind_eq_some_iff.1 H
      obtain ⟨c71, H⟩ := ite_none H
      refine G.regionAny mixed (by decide) (fun b a w => ∃ (Y1_0 : Value) (Y2_1 : Value) (Y3_2 : Value) (Y4_3 : Value) (Y5_4 : Value) (Y6_5 : Value) (Y7_6 : Value) (Y8_7 : Value) (Y9_8 : Value) (Y10_9 : Value) (O11_5 : HObj), Sat 33 [(20, Y1_0), (21, Y2_1), (22, Y3_2), (23, Y4_3), (24, Y5_4), (25, Y6_5), (26, Y7_6), (27, Y8_7), (28, Y9_8), (29, Y10_9), (3, .pointer (some ⟨b3, 0, none⟩)), (5, .slice A11 sets_36.length c12), (6, .int .i64 x37), (7, .pointer (some ⟨b63, 0, none⟩)), (13, .slice A_a_from a_from.length c_a_from), (14, .int .i64 (a_from.length : Int)), (15, .int .i64 x37)] a ∧ St w0 w (Box b63 68 [.int .i64 e61.crossing, .int .i64 e61.position] :: Box b3 63 [.slice A_a_from a_from.length c_a_from, .slice A_a_to a_to.length c_a_to] :: O11_5 :: L) ∧ (b 0 = true → Y1_0 = (.slice A11 sets_36.length c12)) ∧ (b 1 = true → Y2_1 = (.pointer (some ⟨b63, 0, none⟩))) ∧ (b 2 = true → Y3_2 = (.int .i64 e61.crossing)) ∧ (b 3 = true → Y4_3 = (.pointer (some ⟨b3, 1, none⟩))) ∧ (b 4 = true → Y5_4 = (.slice A_a_to a_to.length c_a_to)) ∧ (b 5 = true → Y6_5 = (.int .i64 x37)) ∧ (b 6 = true → Y7_6 = (.pointer (some (ea A_a_to (x37.toNat * 2))))) ∧ (b 7 = true → Y8_7 = (.pointer (some (ea A_a_to (x37.toNat * 2))))) ∧ (b 8 = true → Y9_8 = (.int .i64 e67.crossing)) ∧ (b 9 = true → Y10_9 = (.tuple #[])) ∧ (b 9 = false → O11_5 = Own (TInt .i64) 2 A11 c12 (fun _ => ()) sets_36) ∧ (b 9 = true → O11_5 = Own (TInt .i64) 2 A11 c12 (fun _ => ()) t69)) ?_ ?_ ?_
      ·
       intro a hs
       obtain ⟨Y1_0, hs⟩ := hs.ext (d := 20) rfl
       obtain ⟨Y2_1, hs⟩ := hs.ext (d := 21) rfl
       obtain ⟨Y3_2, hs⟩ := hs.ext (d := 22) rfl
       obtain ⟨Y4_3, hs⟩ := hs.ext (d := 23) rfl
       obtain ⟨Y5_4, hs⟩ := hs.ext (d := 24) rfl
       obtain ⟨Y6_5, hs⟩ := hs.ext (d := 25) rfl
       obtain ⟨Y7_6, hs⟩ := hs.ext (d := 26) rfl
       obtain ⟨Y8_7, hs⟩ := hs.ext (d := 27) rfl
       obtain ⟨Y9_8, hs⟩ := hs.ext (d := 28) rfl
       obtain ⟨Y10_9, hs⟩ := hs.ext (d := 29) rfl
       exact ⟨Y1_0, Y2_1, Y3_2, Y4_3, Y5_4, Y6_5, Y7_6, Y8_7, Y9_8, Y10_9, Own (TInt .i64) 2 A11 c12 (fun _ => ()) sets_36, hs.weak ⟨rfl, rfl, rfl, rfl, rfl, rfl, rfl, rfl, rfl, rfl, rfl, rfl, rfl, rfl, rfl, rfl, rfl, trivial⟩, (HS.drew.pick 3 [0, 1, 2]), fun h => Bool.noConfusion h, fun h => Bool.noConfusion h, fun h => Bool.noConfusion h, fun h => Bool.noConfusion h, fun h => Bool.noConfusion h, fun h => Bool.noConfusion h, fun h => Bool.noConfusion h, fun h => Bool.noConfusion h, fun h => Bool.noConfusion h, fun h => Bool.noConfusion h, fun _ => rfl, fun h => Bool.noConfusion h⟩
      ·
       intro j hj b a w
       refine exI fun Y1_0 => exI fun Y2_1 => exI fun Y3_2 => exI fun Y4_3 => exI fun Y5_4 => exI fun Y6_5 => exI fun Y7_6 => exI fun Y8_7 => exI fun Y9_8 => exI fun Y10_9 => exI fun O11_5 => anI fun hs => anI fun HS => anI fun f0 => anI fun f1 => anI fun f2 => anI fun f3 => anI fun f4 => anI fun f5 => anI fun f6 => anI fun f7 => anI fun f8 => anI fun f9 => anI fun o5_0 => fun o5_1 hb hd hcl => ?_
       match j, hj with
       | 0, _ =>
        refine GO.at hs ?_
        refine GO.move rfl rfl rfl ?_
        refine GO.fin (fun a hs => ?_)
        exact ⟨(.slice A11 sets_36.length c12), _, _, _, _, _, _, _, _, _, _, by exact hs.setAt 0 rfl, HS, fun _ => rfl, f1, f2, f3, f4, f5, f6, f7, f8, f9, o5_0, o5_1⟩
       | 1, _ =>
        refine GO.at hs ?_
        refine GO.fld (⟨b63, 0, none⟩) rfl rfl fl68_0 rfl rfl ?_
        refine GO.fin (fun a hs => ?_)
        exact ⟨_, (.pointer (some ⟨b63, 0, none⟩)), _, _, _, _, _, _, _, _, _, by exact hs.setAt 1 rfl, HS, f0, fun _ => rfl, f2, f3, f4, f5, f6, f7, f8, f9, o5_0, o5_1⟩
       | 2, _ =>
        have hb1 : b 1 = true := hd 1 (by decide)
        obtain rfl := f1 hb1
        refine GO.at hs ?_
        refine GO.ldBox (j := 0) HS rfl rfl rfl rfl na2 rfl ?_
        refine GO.fin (fun a hs => ?_)
        exact ⟨_, _, (.int .i64 e61.crossing), _, _, _, _, _, _, _, _, by exact hs.setAt 2 rfl, HS, f0, f1, fun _ => rfl, f3, f4, f5, f6, f7, f8, f9, o5_0, o5_1⟩
       | 3, _ =>
        refine GO.at hs ?_
        refine GO.fld (⟨b3, 1, none⟩) rfl rfl fl63_1 rfl rfl ?_
        refine GO.fin (fun a hs => ?_)
        exact ⟨_, _, _, (.pointer (some ⟨b3, 1, none⟩)), _, _, _, _, _, _, _, by exact hs.setAt 3 rfl, HS, f0, f1, f2, fun _ => rfl, f4, f5, f6, f7, f8, f9, o5_0, o5_1⟩
       | 4, _ =>
        have hb3 : b 3 = true := hd 3 (by decide)
        obtain rfl := f3 hb3
        refine GO.at hs ?_
        refine GO.ldBox (j := 1) HS rfl rfl rfl rfl na61 rfl ?_
        refine GO.fin (fun a hs => ?_)
        exact ⟨_, _, _, _, (.slice A_a_to a_to.length c_a_to), _, _, _, _, _, _, by exact hs.setAt 4 rfl, HS, f0, f1, f2, f3, fun _ => rfl, f5, f6, f7, f8, f9, o5_0, o5_1⟩
       | 5, _ =>
        refine GO.at hs ?_
        refine GO.move rfl rfl rfl ?_
        refine GO.fin (fun a hs => ?_)
        exact ⟨_, _, _, _, _, (.int .i64 x37), _, _, _, _, _, by exact hs.setAt 5 rfl, HS, f0, f1, f2, f3, f4, fun _ => rfl, f6, f7, f8, f9, o5_0, o5_1⟩
       | 6, _ =>
        have hb4 : b 4 = true := hd 4 (by decide)
        obtain rfl := f4 hb4
        have hb5 : b 5 = true := hd 5 (by decide)
        obtain rfl := f5 hb5
        refine GO.at hs ?_
        refine GO.ix rfl rfl rfl Try.underlying61 sz68 ((RdIn.drop 3 h_a_to) _ HS).2.2.1 c66.1 c66.2 rfl ?_
        refine GO.fin (fun a hs => ?_)
        exact ⟨_, _, _, _, _, _, (.pointer (some (ea A_a_to (x37.toNat * 2)))), _, _, _, _, by exact hs.setAt 6 rfl, HS, f0, f1, f2, f3, f4, f5, fun _ => rfl, f7, f8, f9, o5_0, o5_1⟩
       | 7, _ =>
        have hb6 : b 6 = true := hd 6 (by decide)
        obtain rfl := f6 hb6
        refine GO.at hs ?_
        refine GO.fld (ea A_a_to (x37.toNat * 2)) rfl rfl fl68_0 rfl rfl ?_
        refine GO.fin (fun a hs => ?_)
        exact ⟨_, _, _, _, _, _, _, (.pointer (some (ea A_a_to (x37.toNat * 2)))), _, _, _, by exact hs.setAt 7 rfl, HS, f0, f1, f2, f3, f4, f5, f6, fun _ => rfl, f8, f9, o5_0, o5_1⟩
       | 8, _ =>
        have hb7 : b 7 = true := hd 7 (by decide)
        obtain rfl := f7 hb7
        refine GO.at hs ?_
        refine GO.ldRd (T := T_GEnd) (n := x37.toNat) (o := 0) HS (RdIn.drop 3 h_a_to) rfl rfl (getD_eq (ltN c66) h68) rfl rfl na2 rfl ?_
        refine GO.fin (fun a hs => ?_)
        exact ⟨_, _, _, _, _, _, _, _, (.int .i64 e67.crossing), _, _, by exact hs.setAt 8 rfl, HS, f0, f1, f2, f3, f4, f5, f6, f7, fun _ => rfl, f9, o5_0, o5_1⟩
       | 9, _ =>
        have hb0 : b 0 = true := hd 0 (by decide)
        obtain rfl := f0 hb0
        have hb2 : b 2 = true := hd 2 (by decide)
        obtain rfl := f2 hb2
        have hb8 : b 8 = true := hd 8 (by decide)
        obtain rfl := f8 hb8
        obtain rfl := o5_0 hb
        refine GO.at hs ?_
        replace HS := HS.pick 3 [2, 0, 1]
        refine GO.fn rfl Try.func143 fok143.1 fok143.2 rfl rfl (impl_union.calls HS  h70) (fun _ wd72 ⟨h73, HS⟩ => ⟨_, h73, ?_⟩)
        refine GO.fin (fun a hs => ?_)
        exact ⟨_, _, _, _, _, _, _, _, _, (.tuple #[]), Own (TInt .i64) 2 A11 c12 (fun _ => ()) t69, by exact hs.setAt 9 rfl, HS.pick 3 [1, 2, 0], f0, f1, f2, f3, f4, f5, f6, f7, f8, fun _ => rfl, fun h => Bool.noConfusion h, fun _ => rfl⟩
       | k + 10, hj => exact absurd hj (Nat.not_lt.2 (Nat.le_add_left 10 k))
      ·
       intro b a w hall
       refine exI fun Y1_0 => exI fun Y2_1 => exI fun Y3_2 => exI fun Y4_3 => exI fun Y5_4 => exI fun Y6_5 => exI fun Y7_6 => exI fun Y8_7 => exI fun Y9_8 => exI fun Y10_9 => exI fun O11_5 => anI fun hs => anI fun HS => anI fun f0 => anI fun f1 => anI fun f2 => anI fun f3 => anI fun f4 => anI fun f5 => anI fun f6 => anI fun f7 => anI fun f8 => anI fun f9 => anI fun o5_0 => fun o5_1 => ?_
       obtain rfl := f0 (hall 0 (by decide))
       obtain rfl := f1 (hall 1 (by decide))
       obtain rfl := f2 (hall 2 (by decide))
       obtain rfl := f3 (hall 3 (by decide))
       obtain rfl := f4 (hall 4 (by decide))
       obtain rfl := f5 (hall 5 (by decide))
       obtain rfl := f6 (hall 6 (by decide))
       obtain rfl := f7 (hall 7 (by decide))
       obtain rfl := f8 (hall 8 (by decide))
       obtain rfl := f9 (hall 9 (by decide))
       obtain rfl := o5_1 (hall 9 (by decide))
       refine G.at hs ?_
       refine G.len (t := 5) (m := t69.length) rfl (by simp only [List.length_set, c71] <;> rfl) ?_
       refine G.blockEnd ?_
       refine G.region ?_
       refine GO.add rfl rfl rfl rfl ?_
       refine GO.move rfl rfl rfl ?_
       refine GO.nil ?_
       refine G.again ?_
       refine G.weak ?_ (ih_l1 n_l1 (Nat.lt_succ_of_le (Nat.le_refl _)) (Nat.le_of_succ_le hm_l1) _ _ _ H (HS.pick 3 [1, 2]))
       exact ⟨rfl, rfl, rfl, rfl, rfl, trivial⟩
     ·
      refine G.noB rfl (decide_eq_false c59) ?_
      refine G.exit rfl ?_
      refine G.seq ?_
      obtain ⟨t74, h75, H⟩ := Option.bind_eq_some_iff.1 H
      refine G.region ?_
      refine GO.move rfl rfl rfl ?_
      refine GO.fn rfl Try.func144 fok144.1 fok144.2 rfl rfl (impl_numbered.calls HS (RdIn.own (j := 1) rfl) h75) (fun _ wd78 ⟨A76, c77, h79, HS⟩ => ⟨_, h79, ?_⟩)
      refine GO.assign rfl rfl rfl ?_
      refine GO.nil ?_
      obtain rfl := Option.some.inj H
      exact G.ret1 _ Try.func85 rfl rfl ⟨_, _, rfl, (HS.pick 3 [0])⟩
  refine G.weak ?_ (at_l1 K (Nat.le_refl _) _ _ _ H (HS.pick 3 [1, 0]))
  exact ⟨rfl, rfl, rfl, rfl, rfl, trivial⟩

set_option maxRecDepth 20000 in
set_option maxHeartbeats 40000000 in
theorem slices_Max_int64_int64.calls {w0 w : World} {L : List HObj} {K : Nat} {x : List Int} {A_x : Option Addr} {c_x : Nat} {r1 : Int} (HS : St w0 w (L)) (h_x : RdIn w0 L (TInt .i64) A_x c_x (fun _ => ()) x) (H : slices_Max_int64_int64.f K x = some r1) :
    Calls Try.prog 141 #[.slice A_x x.length c_x] w (slices_Max_int64_int64.post w0 L x A_x c_x r1) := by
  unfold slices_Max_int64_int64.f at H
  refine Calls.of_G Try.func141 rfl rfl rfl ?_
  refine G.seq ?_
  refine G.region ?_
  refine GO.assign rfl rfl rfl ?_
  refine GO.nil ?_
  refine G.seq ?_
  refine G.seq ?_
  refine G.region ?_
  refine GO.move rfl rfl rfl ?_
  refine GO.lenS rfl rfl Try.underlying43 rfl ?_
  refine GO.lss rfl rfl rfl rfl ?_
  refine GO.nil ?_
  rcases ite_elim H with ⟨c2, H⟩ | ⟨c2, H⟩
  ·
   refine G.yesB rfl (decide_eq_true c2) ?_
   cases H
  ·
   refine G.noB rfl (decide_eq_false c2) ?_
   refine G.skip ?_
   refine G.seq ?_
   obtain ⟨c3, H⟩ := ite_none H
   refine G.region ?_
   refine GO.move rfl rfl rfl ?_
   refine GO.ix rfl rfl rfl Try.underlying43 sz2 (h_x _ HS).2.2.1 c3.1 c3.2 rfl ?_
   refine GO.ldRd (T := (TInt .i64)) (n := 0) (o := 0) HS h_x rfl rfl (getD_some (d := 0) (ltN c3)) rfl rfl na2 rfl ?_
   refine GO.assign rfl rfl rfl ?_
   refine GO.nil ?_
   refine G.seq ?_
   refine G.seq ?_
   refine G.region ?_
   refine GO.assign rfl rfl rfl ?_
   refine GO.nil ?_
   refine G.block ?_
   refine G.loop ?_
   refine G.name (fun k_l2 hk_l2 => ?_)
   have at_l2 : ∀ m_l2, m_l2 ≤ K → ∀ (m_6 : Int) (i_7 : Int) (w : World), slices_Max_int64_int64.l2 K m_l2 x m_6 i_7 = some r1 → St w0 w (L) → G Try.prog 141 25 [(0, .slice A_x x.length c_x), (3, .int .i64 m_6), (4, .int .i64 i_7)] k_l2 w (slices_Max_int64_int64.post w0 L x A_x c_x r1) := by
    intro m_l2
    induction m_l2 using Nat.strongRecOn with
    | _ m_l2 ih_l2 =>
     intro hm_l2 m_6 i_7 w H HS
     cases m_l2 with
     | zero => rw [slices_Max_int64_int64.l2] at H; cases H
     | succ n_l2 =>
      rw [slices_Max_int64_int64.l2] at H
      subst hk_l2
      refine G.seq ?_
      refine G.seq ?_
      refine G.region ?_
      refine GO.move rfl rfl rfl ?_
      refine GO.move rfl rfl rfl ?_
      refine GO.lenS rfl rfl Try.underlying43 rfl ?_
      refine GO.lss rfl rfl rfl rfl ?_
      refine GO.nil ?_
      rcases ite_elim H with ⟨c10, H⟩ | ⟨c10, H⟩
      ·
       refine G.yesB rfl (decide_eq_true c10) ?_
       refine G.skip ?_
       refine G.seq ?_
       refine G.block ?_
       obtain ⟨c11, H⟩ := ite_none H
       refine G.region ?_
       refine GO.move rfl rfl rfl ?_
       refine GO.move rfl rfl rfl ?_
       refine GO.move rfl rfl rfl ?_
       refine GO.ix rfl rfl rfl Try.underlying43 sz2 (h_x _ HS).2.2.1 c11.1 c11.2 rfl ?_
       refine GO.ldRd (T := (TInt .i64)) (n := i_7.toNat) (o := 0) HS h_x rfl rfl (getD_some (d := 0) (ltN c11)) rfl rfl na2 rfl ?_
       refine GO.max2 rfl rfl rfl rfl ?_
       refine GO.assign rfl rfl rfl ?_
       refine GO.nil ?_
       refine G.blockEnd ?_
       refine G.region ?_
       refine GO.move rfl rfl rfl ?_
       refine GO.add rfl rfl rfl rfl ?_
       refine GO.assign rfl rfl rfl ?_
       refine GO.nil ?_
       refine G.again ?_
       refine G.weak ?_ (ih_l2 n_l2 (Nat.lt_succ_of_le (Nat.le_refl _)) (Nat.le_of_succ_le hm_l2) _ _ _ H HS)
       exact ⟨rfl, rfl, rfl, trivial⟩
      ·
       refine G.noB rfl (decide_eq_false c10) ?_
       refine G.exit rfl ?_
       refine G.seq ?_
       refine G.region ?_
       refine GO.move rfl rfl rfl ?_
       refine GO.assign rfl rfl rfl ?_
       refine GO.nil ?_
       obtain rfl := Option.some.inj H
       exact G.ret1 _ Try.func141 rfl rfl ⟨rfl, HS⟩
   refine G.weak ?_ (at_l2 K (Nat.le_refl _) _ _ _ H HS)
   exact ⟨rfl, rfl, rfl, trivial⟩

set_option maxRecDepth 20000 in
set_option maxHeartbeats 40000000 in
theorem impl_classCount.calls {w0 w : World} {L : List HObj} {K : Nat} {classes : List Int} {A_classes : Option Addr} {c_classes : Nat} {r1 : Int} (HS : St w0 w (L)) (h_classes : RdIn w0 L (TInt .i64) A_classes c_classes (fun _ => ()) classes) (H : impl_classCount.f K classes = some r1) :
    Calls Try.prog 84 #[.slice A_classes classes.length c_classes] w (impl_classCount.post w0 L classes A_classes c_classes r1) := by
  unfold impl_classCount.f at H
  refine Calls.of_G Try.func84 rfl rfl rfl ?_
  refine G.seq ?_
  refine G.region ?_
  refine GO.assign rfl rfl rfl ?_
  refine GO.nil ?_
  refine G.seq ?_
  refine G.seq ?_
  refine G.region ?_
  refine GO.move rfl rfl rfl ?_
  refine GO.lenS rfl rfl Try.underlying43 rfl ?_
  refine GO.eql rfl rfl rfl rfl ?_
  refine GO.nil ?_
  rcases ite_elim H with ⟨c1, H⟩ | ⟨c1, H⟩
  ·
   refine G.yesB rfl (decide_eq_true c1) ?_
   refine G.seq ?_
   refine G.region ?_
   refine GO.assign rfl rfl rfl ?_
   refine GO.nil ?_
   obtain rfl := Option.some.inj H
   exact G.ret1 _ Try.func84 rfl rfl ⟨rfl, HS⟩
  ·
   refine G.noB rfl (decide_eq_false c1) ?_
   refine G.skip ?_
   refine G.seq ?_
   obtain ⟨t2, h3, H⟩ := Option.bind_eq_some_iff.1 H
   refine G.region ?_
   refine GO.move rfl rfl rfl ?_
   refine GO.fn rfl Try.func141 fok141.1 fok141.2 rfl rfl (slices_Max_int64_int64.calls HS h_classes h3) (fun _ wd4 ⟨h5, HS⟩ => ⟨_, h5, ?_⟩)
   refine GO.add rfl rfl rfl rfl ?_
   refine GO.assign rfl rfl rfl ?_
   refine GO.nil ?_
   obtain rfl := Option.some.inj H
   exact G.ret1 _ Try.func84 rfl rfl ⟨rfl, HS⟩

set_option maxRecDepth 20000 in
set_option maxHeartbeats 40000000 in
theorem impl_Diagram_drawing.calls {w0 w : World} {L : List HObj} {K : Nat} {d_Crossings : List GCrossing} {d_Circles : Int} {A_d_Crossings : Option Addr} {c_d_Crossings : Nat} {r1 : List GEnd} {r2 : List GEnd} {r3 : Bool} (HS : St w0 w (L)) (h_d_Crossings : RdIn w0 L T_GCrossing A_d_Crossings c_d_Crossings (fun _ => ()) d_Crossings) (H : impl_Diagram_drawing.f K d_Crossings d_Circles = some (r1, r2, r3)) :
    Calls Try.prog 45 #[.agg [.slice A_d_Crossings d_Crossings.length c_d_Crossings, .int .i64 d_Circles].toArray] w (impl_Diagram_drawing.post w0 L d_Crossings d_Circles A_d_Crossings c_d_Crossings r1 r2 r3) := by
  unfold impl_Diagram_drawing.f at H
  refine Calls.of_G Try.func45 rfl rfl rfl ?_
  refine G.seq ?_
  refine G.region ?_
  refine GO.box (cs := [.slice A_d_Crossings d_Crossings.length c_d_Crossings, .int .i64 d_Circles]) HS rfl rfl rfl rfl ?_; intro b1 wd2 HS
  refine GO.alloc HS rfl zr63 rfl rfl ?_; intro b3 wd4 HS
  refine GO.assign rfl rfl rfl ?_
  refine GO.nil ?_
  refine G.seq ?_
  obtain ⟨t5, h6, H⟩ := Option.bind_eq_some_iff.1 H
  refine G.region ?_
  refine GO.fld (⟨b1, 0, none⟩) rfl rfl fl28_0 rfl rfl ?_
  refine GO.ldBox (j := 1) HS rfl rfl rfl rfl na26 rfl ?_
  refine GO.fn rfl Try.func56 fok56.1 fok56.2 rfl rfl (impl_size_impl_Crossing.calls HS (RdIn.drop 2 h_d_Crossings) h6) (fun _ wd7 ⟨h8, HS⟩ => ⟨_, h8, ?_⟩)
  refine GO.assign rfl rfl rfl ?_
  refine GO.nil ?_
  refine G.seq ?_
  refine G.seq ?_
  rcases ite_elim H with ⟨c19, H⟩ | ⟨c19, H⟩
  ·
   refine G.region ?_
   refine GO.move rfl rfl rfl ?_
   refine GO.gtr rfl rfl rfl rfl ?_
   refine GO.move rfl rfl rfl ?_
   refine GO.known (t := 12) rfl (decide_eq_true c19) ?_
   refine GO.off rfl rfl rfl rfl rfl rfl ?_
   refine GO.off rfl rfl rfl rfl rfl rfl ?_
   refine GO.off rfl rfl rfl rfl rfl rfl ?_
   refine GO.off rfl rfl rfl rfl rfl rfl ?_
   refine GO.pickT rfl rfl rfl rfl rfl ?_
   refine GO.move rfl rfl rfl ?_
   refine GO.off rfl rfl rfl rfl rfl rfl ?_
   refine GO.off rfl rfl rfl rfl rfl rfl ?_
   refine GO.off rfl rfl rfl rfl rfl rfl ?_
   refine GO.pickT rfl rfl rfl rfl rfl ?_
   refine GO.nil ?_
   refine G.yesB rfl rfl ?_
   refine G.seq ?_
   refine G.region ?_
   refine GO.buildV (.agg [.slice none 0 0, .slice none 0 0].toArray) rfl rfl (fun _ => by kernel_rfl) rfl ?_
   refine GO.stBox (j := 0) (vs := [.slice none 0 0, .slice none 0 0]) ([.slice none 0 0, .slice none 0 0]) HS rfl rfl rfl rfl rfl (htA ag63) rfl rfl rfl ?_; intro wd20 HS
   refine GO.assign rfl rfl rfl ?_
   refine GO.nil ?_
   replace HS := HS.nilRow T_GEnd 68 (fun _ => ())
   replace HS := HS.nilRow T_GEnd 68 (fun _ => ())
   obtain ⟨rfl, rfl, rfl⟩ := some3 H
   exact G.ret2 _ _ Try.func45 rfl (Res1.boxA (j := 2) (vs := [.slice none 0 0, .slice none 0 0]) HS rfl rfl rfl ag63) rfl ⟨_, _, _, _, rfl, (HS.pick 4 [1, 0])⟩
  ·
   obtain ⟨t21, h22, H⟩ := Option.bind_eq_some_iff.1 H
   rcases ite_elim H with ⟨c25, H⟩ | ⟨c25, H⟩
   ·
    obtain ⟨t26, h27, H⟩ := Option.bind_eq_some_iff.1 H
    refine G.region ?_
    refine GO.move rfl rfl rfl ?_
    refine GO.gtr rfl rfl rfl rfl ?_
    refine GO.move rfl rfl rfl ?_
    refine GO.known (t := 12) rfl (decide_eq_false c19) ?_
    refine GO.on rfl rfl rfl rfl ?_
    refine GO.fld (⟨b1, 1, none⟩) rfl rfl fl28_1 rfl rfl ?_
    refine GO.back ?_
    refine GO.on rfl rfl rfl rfl ?_
    refine GO.ldBox (j := 1) HS rfl rfl rfl rfl na2 rfl ?_
    refine GO.back ?_
    refine GO.on rfl rfl rfl rfl ?_
    refine GO.fn rfl Try.func47 fok47.1 fok47.2 rfl rfl (impl_inRange.calls HS  h22) (fun _ wd23 ⟨h24, HS⟩ => ⟨_, h24, ?_⟩)
    refine GO.back ?_
    refine GO.on rfl rfl rfl rfl ?_
    refine GO.not rfl rfl rfl ?_
    refine GO.back ?_
    refine GO.pickF rfl rfl rfl rfl rfl ?_
    refine GO.move rfl rfl rfl ?_
    refine GO.known (t := 18) rfl (congrArg Bool.not c25) ?_
    refine GO.on rfl rfl rfl rfl ?_
    refine GO.fld (⟨b1, 0, none⟩) rfl rfl fl28_0 rfl rfl ?_
    refine GO.back ?_
    refine GO.on rfl rfl rfl rfl ?_
    refine GO.ldBox (j := 1) HS rfl rfl rfl rfl na26 rfl ?_
    refine GO.back ?_
    refine GO.on rfl rfl rfl rfl ?_
    refine GO.fn rfl Try.func108 fok108.1 fok108.2 rfl rfl (slices_ContainsFunc_impl_Crossing_impl_Crossing_109.calls HS (RdIn.drop 2 h_d_Crossings) h27) (fun _ wd28 ⟨h29, HS⟩ => ⟨_, h29, ?_⟩)
    refine GO.back ?_
    refine GO.pickF rfl rfl rfl rfl rfl ?_
    refine GO.nil ?_
    rcases ite_elim H with ⟨c30, H⟩ | ⟨c30, H⟩
    ·
     refine G.yesB rfl c30 ?_
     refine G.seq ?_
     refine G.region ?_
     refine GO.buildV (.agg [.slice none 0 0, .slice none 0 0].toArray) rfl rfl (fun _ => by kernel_rfl) rfl ?_
     refine GO.stBox (j := 0) (vs := [.slice none 0 0, .slice none 0 0]) ([.slice none 0 0, .slice none 0 0]) HS rfl rfl rfl rfl rfl (htA ag63) rfl rfl rfl ?_; intro wd31 HS
     refine GO.assign rfl rfl rfl ?_
     refine GO.nil ?_
     replace HS := HS.nilRow T_GEnd 68 (fun _ => ())
     replace HS := HS.nilRow T_GEnd 68 (fun _ => ())
     obtain ⟨rfl, rfl, rfl⟩ := some3 H
     exact G.ret2 _ _ Try.func45 rfl (Res1.boxA (j := 2) (vs := [.slice none 0 0, .slice none 0 0]) HS rfl rfl rfl ag63) rfl ⟨_, _, _, _, rfl, (HS.pick 4 [1, 0])⟩
    ·
     refine G.noB rfl (bnot_of c30) ?_
     refine G.skip ?_
     refine G.seq ?_
     obtain ⟨t32, t33, t34, h35, H⟩ := bind3_elim H
     refine G.region ?_
     refine GO.ldBoxA (j := 1) ([.slice A_d_Crossings d_Crossings.length c_d_Crossings, .int .i64 d_Circles]) HS rfl rfl rfl rfl ag28 rfl ?_
     refine GO.fn rfl Try.func58 fok58.1 fok58.2 rfl rfl (impl_Diagram_arrows.calls HS (RdIn.drop 2 h_d_Crossings) h35) (fun _ wd40 ⟨A36, c37, A38, c39, h41, HS⟩ => ⟨_, h41, ?_⟩)
     refine GO.move rfl rfl rfl ?_
     refine GO.extract rfl rfl rfl rfl ?_
     refine GO.extract rfl rfl rfl rfl ?_
     refine GO.alloc HS rfl zr63 rfl rfl ?_; intro b42 wd43 HS
     refine GO.stBox (j := 0) (vs := [.slice A36 t32.length c37, .slice A38 t33.length c39]) ([.slice A36 t32.length c37, .slice A38 t33.length c39]) HS rfl rfl rfl rfl rfl (htA ag63) rfl rfl rfl ?_; intro wd44 HS
     refine GO.assign rfl rfl rfl ?_
     refine GO.nil ?_
     refine G.seq ?_
     refine G.seq ?_
     rcases ite_elim H with ⟨c67, H⟩ | ⟨c67, H⟩
     ·
      obtain ⟨t68, h69, H⟩ := Option.bind_eq_some_iff.1 H
      obtain ⟨t75, h76, H⟩ := Option.bind_eq_some_iff.1 H
      obtain ⟨t79, h80, H⟩ := Option.bind_eq_some_iff.1 H
      obtain ⟨t85, h86, H⟩ := Option.bind_eq_some_iff.1 H
      refine G.regionAny mixed (by decide) (fun b a w => ∃ (Y1_0 : Value) (Y2_1 : Value) (Y3_2 : Value) (Y4_3 : Value) (Y5_4 : Value) (Y6_5 : Value) (Y7_6 : Value) (Y8_7 : Value) (Y9_8 : Value) (Y10_9 : Value) (Y11_10 : Value) (Y12_11 : Value) (Y13_12 : Value) (Y14_13 : Value) (Y15_14 : Value) (Y16_15 : Value) (A70 : Option Addr) (c71 : Nat) (y72 : Nat → (Ty.slice 2 (TInt .i64)).Lay) (A81 : Option Addr) (c82 : Nat) (O17_12 : HObj) (O18_13 : HObj), Sat 47 [(29, Y1_0), (30, Y2_1), (31, Y3_2), (32, Y4_3), (33, Y5_4), (34, Y6_5), (35, Y7_6), (36, Y8_7), (37, Y9_8), (38, Y10_9), (39, Y11_10), (40, Y12_11), (41, Y13_12), (42, Y14_13), (43, Y15_14), (44, Y16_15), (1, .pointer (some ⟨b1, 0, none⟩)), (2, .pointer (some ⟨b3, 0, none⟩)), (4, .int .i64 t5), (5, .pointer (some ⟨b42, 0, none⟩)), (6, .bool t34)] a ∧ St w0 w (Box b42 63 [.slice A36 t32.length c37, .slice A38 t33.length c39] :: Own T_GEnd 68 A36 c37 (fun _ => ()) t32 :: Own T_GEnd 68 A38 c39 (fun _ => ()) t33 :: Box b3 63 [.slice none 0 0, .slice none 0 0] :: Box b1 28 [.slice A_d_Crossings d_Crossings.length c_d_Crossings, .int .i64 d_Circles] :: O17_12 :: O18_13 :: L) ∧ (b 0 = true → Y1_0 = (.bool t34)) ∧ (b 1 = true → Y2_1 = (.bool (!t34))) ∧ (b 2 = true → Y3_2 = (.bool false)) ∧ (b 3 = true → Y4_3 = (.agg [.slice A_d_Crossings d_Crossings.length c_d_Crossings, .int .i64 d_Circles].toArray)) ∧ (b 4 = true → Y5_4 = (.agg [.slice A36 t32.length c37, .slice A38 t33.length c39].toArray)) ∧ (b 5 = true → Y6_5 = (.slice A70 t68.length c71)) ∧ (b 6 = true → Y7_6 = (.int .i64 t75)) ∧ (b 7 = true → Y8_7 = (.int .i64 t5)) ∧ (b 8 = true → Y9_8 = (.agg [.slice A_d_Crossings d_Crossings.length c_d_Crossings, .int .i64 d_Circles].toArray)) ∧ (b 9 = true → Y10_9 = (.agg [.slice A36 t32.length c37, .slice A38 t33.length c39].toArray)) ∧ (b 10 = true → Y11_10 = (.slice A81 t79.length c82)) ∧ (b 11 = true → Y12_11 = (.int .i64 t85)) ∧ (b 12 = true → Y13_12 = (.int .i64 (w64 (2 * t85)))) ∧ (b 13 = true → Y14_13 = (.int .i64 (w64 (t5 + (w64 (2 * t85)))))) ∧ (b 14 = true → Y15_14 = (.bool (!(decide (t75 = w64 (t5 + (w64 (2 * t85)))))))) ∧ (b 15 = true → Y16_15 = (.bool (!(decide (t75 = w64 (t5 + (w64 (2 * t85)))))))) ∧ (b 5 = true → O17_12 = Own (Ty.slice 2 (TInt .i64)) 43 A70 c71 y72 t68) ∧ (b 10 = true → O18_13 = Own (TInt .i64) 2 A81 c82 (fun _ => ()) t79)) ?_ ?_ ?_
      ·
       intro a hs
       obtain ⟨Y1_0, hs⟩ := hs.ext (d := 29) rfl
       obtain ⟨Y2_1, hs⟩ := hs.ext (d := 30) rfl
       obtain ⟨Y3_2, hs⟩ := hs.ext (d := 31) rfl
       obtain ⟨Y4_3, hs⟩ := hs.ext (d := 32) rfl
       obtain ⟨Y5_4, hs⟩ := hs.ext (d := 33) rfl
       obtain ⟨Y6_5, hs⟩ := hs.ext (d := 34) rfl
       obtain ⟨Y7_6, hs⟩ := hs.ext (d := 35) rfl
       obtain ⟨Y8_7, hs⟩ := hs.ext (d := 36) rfl
       obtain ⟨Y9_8, hs⟩ := hs.ext (d := 37) rfl
       obtain ⟨Y10_9, hs⟩ := hs.ext (d := 38) rfl
       obtain ⟨Y11_10, hs⟩ := hs.ext (d := 39) rfl
       obtain ⟨Y12_11, hs⟩ := hs.ext (d := 40) rfl
       obtain ⟨Y13_12, hs⟩ := hs.ext (d := 41) rfl
       obtain ⟨Y14_13, hs⟩ := hs.ext (d := 42) rfl
       obtain ⟨Y15_14, hs⟩ := hs.ext (d := 43) rfl
       obtain ⟨Y16_15, hs⟩ := hs.ext (d := 44) rfl
       exact ⟨Y1_0, Y2_1, Y3_2, Y4_3, Y5_4, Y6_5, Y7_6, Y8_7, Y9_8, Y10_9, Y11_10, Y12_11, Y13_12, Y14_13, Y15_14, Y16_15, none, 0, (fun _ => ⟨none, 0, fun _ => ()⟩), none, 0, Emp, Emp, hs.weak ⟨rfl, rfl, rfl, rfl, rfl, rfl, rfl, rfl, rfl, rfl, rfl, rfl, rfl, rfl, rfl, rfl, rfl, rfl, rfl, rfl, rfl, trivial⟩, (HS.drew.emp.emp.pick 7 [2, 3, 4, 5, 6, 1, 0]), fun h => Bool.noConfusion h, fun h => Bool.noConfusion h, fun h => Bool.noConfusion h, fun h => Bool.noConfusion h, fun h => Bool.noConfusion h, fun h => Bool.noConfusion h, fun h => Bool.noConfusion h, fun h => Bool.noConfusion h, fun h => Bool.noConfusion h, fun h => Bool.noConfusion h, fun h => Bool.noConfusion h, fun h => Bool.noConfusion h, fun h => Bool.noConfusion h, fun h => Bool.noConfusion h, fun h => Bool.noConfusion h, fun h => Bool.noConfusion h, fun h => Bool.noConfusion h, fun h => Bool.noConfusion h⟩
      ·
       intro j hj b a w
       refine exI fun Y1_0 => exI fun Y2_1 => exI fun Y3_2 => exI fun Y4_3 => exI fun Y5_4 => exI fun Y6_5 => exI fun Y7_6 => exI fun Y8_7 => exI fun Y9_8 => exI fun Y10_9 => exI fun Y11_10 => exI fun Y12_11 => exI fun Y13_12 => exI fun Y14_13 => exI fun Y15_14 => exI fun Y16_15 => exI fun A70 => exI fun c71 => exI fun y72 => exI fun A81 => exI fun c82 => exI fun O17_12 => exI fun O18_13 => anI fun hs => anI fun HS => anI fun f0 => anI fun f1 => anI fun f2 => anI fun f3 => anI fun f4 => anI fun f5 => anI fun f6 => anI fun f7 => anI fun f8 => anI fun f9 => anI fun f10 => anI fun f11 => anI fun f12 => anI fun f13 => anI fun f14 => anI fun f15 => anI fun o12_0 => fun o13_0 hb hd hcl => ?_
       match j, hj with
       | 0, _ =>
        refine GO.at hs ?_
        refine GO.move rfl rfl rfl ?_
        refine GO.fin (fun a hs => ?_)
        exact ⟨(.bool t34), _, _, _, _, _, _, _, _, _, _, _, _, _, _, _, A70, c71, y72, A81, c82, _, _, by exact hs.setAt 0 rfl, HS, fun _ => rfl, f1, f2, f3, f4, f5, f6, f7, f8, f9, f10, f11, f12, f13, f14, f15, o12_0, o13_0⟩
       | 1, _ =>
        have hb0 : b 0 = true := hd 0 (by decide)
        obtain rfl := f0 hb0
        refine GO.at hs ?_
        refine GO.not rfl rfl rfl ?_
        refine GO.fin (fun a hs => ?_)
        exact ⟨_, (.bool (!t34)), _, _, _, _, _, _, _, _, _, _, _, _, _, _, A70, c71, y72, A81, c82, _, _, by exact hs.setAt 1 rfl, HS, f0, fun _ => rfl, f2, f3, f4, f5, f6, f7, f8, f9, f10, f11, f12, f13, f14, f15, o12_0, o13_0⟩
       | 2, _ =>
        have hb1 : b 1 = true := hd 1 (by decide)
        obtain rfl := f1 hb1
        refine GO.at hs ?_
        refine GO.move rfl rfl rfl ?_
        refine GO.known (t := 31) rfl (congrArg Bool.not c67) ?_
        refine GO.fin (fun a hs => ?_)
        exact ⟨_, _, (.bool false), _, _, _, _, _, _, _, _, _, _, _, _, _, A70, c71, y72, A81, c82, _, _, hs.weak ⟨rfl, rfl, rfl, rfl, rfl, rfl, rfl, rfl, rfl, rfl, rfl, rfl, rfl, rfl, rfl, rfl, rfl, rfl, rfl, rfl, rfl, trivial⟩, HS, f0, f1, fun _ => rfl, f3, f4, f5, f6, f7, f8, f9, f10, f11, f12, f13, f14, f15, o12_0, o13_0⟩
       | 3, _ =>
        have hb2 : b 2 = true := hd 2 (by decide)
        obtain rfl := f2 hb2
        refine GO.at hs ?_
        refine GO.on rfl rfl rfl rfl ?_
        refine GO.ldBoxA (j := 4) ([.slice A_d_Crossings d_Crossings.length c_d_Crossings, .int .i64 d_Circles]) HS rfl rfl rfl rfl ag28 rfl ?_
        refine GO.back ?_
        refine GO.fin (fun a hs => ?_)
        exact ⟨_, _, _, (.agg [.slice A_d_Crossings d_Crossings.length c_d_Crossings, .int .i64 d_Circles].toArray), _, _, _, _, _, _, _, _, _, _, _, _, A70, c71, y72, A81, c82, _, _, by exact hs.setAt 3 rfl, HS, f0, f1, f2, fun _ => rfl, f4, f5, f6, f7, f8, f9, f10, f11, f12, f13, f14, f15, o12_0, o13_0⟩
       | 4, _ =>
        have hb2 : b 2 = true := hd 2 (by decide)
        obtain rfl := f2 hb2
        refine GO.at hs ?_
        refine GO.on rfl rfl rfl rfl ?_
        refine GO.ldBoxA (j := 0) ([.slice A36 t32.length c37, .slice A38 t33.length c39]) HS rfl rfl rfl rfl ag63 rfl ?_
        refine GO.back ?_
        refine GO.fin (fun a hs => ?_)
        exact ⟨_, _, _, _, (.agg [.slice A36 t32.length c37, .slice A38 t33.length c39].toArray), _, _, _, _, _, _, _, _, _, _, _, A70, c71, y72, A81, c82, _, _, by exact hs.setAt 4 rfl, HS, f0, f1, f2, f3, fun _ => rfl, f5, f6, f7, f8, f9, f10, f11, f12, f13, f14, f15, o12_0, o13_0⟩
       | 5, _ =>
        have hb2 : b 2 = true := hd 2 (by decide)
        obtain rfl := f2 hb2
        have hb3 : b 3 = true := hd 3 (by decide)
        obtain rfl := f3 hb3
        have hb4 : b 4 = true := hd 4 (by decide)
        obtain rfl := f4 hb4
        refine GO.at hs ?_
        refine GO.on rfl rfl rfl rfl ?_
        refine GO.fn rfl Try.func111 fok111.1 fok111.2 rfl rfl (impl_Diagram_regions.calls HS (RdIn.drop 7 h_d_Crossings) (RdIn.own (j := 1) rfl) (RdIn.own (j := 2) rfl) h69) (fun _ wd73 ⟨A70, c71, y72, h74, HS⟩ => ⟨_, h74, ?_⟩)
        refine GO.back ?_
        refine GO.fin (fun a hs => ?_)
        exact ⟨_, _, _, _, _, (.slice A70 t68.length c71), _, _, _, _, _, _, _, _, _, _, A70, c71, y72, A81, c82, Own (Ty.slice 2 (TInt .i64)) 43 A70 c71 y72 t68, _, by exact hs.setAt 5 rfl, HS.pick 8 [1, 2, 3, 4, 5, 0, 7], f0, f1, f2, f3, f4, fun _ => rfl, f6, f7, f8, f9, f10, f11, f12, f13, f14, f15, fun _ => rfl, o13_0⟩
       | 6, _ =>
        have hb2 : b 2 = true := hd 2 (by decide)
        obtain rfl := f2 hb2
        have hb5 : b 5 = true := hd 5 (by decide)
        obtain rfl := f5 hb5
        obtain rfl := o12_0 hb5
        refine GO.at hs ?_
        refine GO.on rfl rfl rfl rfl ?_
        refine GO.fn rfl Try.func110 fok110.1 fok110.2 rfl rfl (impl_size_int64.calls HS (RdIn.own (j := 5) rfl) h76) (fun _ wd77 ⟨h78, HS⟩ => ⟨_, h78, ?_⟩)
        refine GO.back ?_
        refine GO.fin (fun a hs => ?_)
        exact ⟨_, _, _, _, _, _, (.int .i64 t75), _, _, _, _, _, _, _, _, _, A70, c71, y72, A81, c82, _, _, by exact hs.setAt 6 rfl, HS, f0, f1, f2, f3, f4, f5, fun _ => rfl, f7, f8, f9, f10, f11, f12, f13, f14, f15, o12_0, o13_0⟩
       | 7, _ =>
        have hb2 : b 2 = true := hd 2 (by decide)
        obtain rfl := f2 hb2
        refine GO.at hs ?_
        refine GO.on rfl rfl rfl rfl ?_
        refine GO.move rfl rfl rfl ?_
        refine GO.back ?_
        refine GO.fin (fun a hs => ?_)
        exact ⟨_, _, _, _, _, _, _, (.int .i64 t5), _, _, _, _, _, _, _, _, A70, c71, y72, A81, c82, _, _, by exact hs.setAt 7 rfl, HS, f0, f1, f2, f3, f4, f5, f6, fun _ => rfl, f8, f9, f10, f11, f12, f13, f14, f15, o12_0, o13_0⟩
       | 8, _ =>
        have hb2 : b 2 = true := hd 2 (by decide)
        obtain rfl := f2 hb2
        refine GO.at hs ?_
        refine GO.on rfl rfl rfl rfl ?_
        refine GO.ldBoxA (j := 4) ([.slice A_d_Crossings d_Crossings.length c_d_Crossings, .int .i64 d_Circles]) HS rfl rfl rfl rfl ag28 rfl ?_
        refine GO.back ?_
        refine GO.fin (fun a hs => ?_)
        exact ⟨_, _, _, _, _, _, _, _, (.agg [.slice A_d_Crossings d_Crossings.length c_d_Crossings, .int .i64 d_Circles].toArray), _, _, _, _, _, _, _, A70, c71, y72, A81, c82, _, _, by exact hs.setAt 8 rfl, HS, f0, f1, f2, f3, f4, f5, f6, f7, fun _ => rfl, f9, f10, f11, f12, f13, f14, f15, o12_0, o13_0⟩
       | 9, _ =>
        have hb2 : b 2 = true := hd 2 (by decide)
        obtain rfl := f2 hb2
        refine GO.at hs ?_
        refine GO.on rfl rfl rfl rfl ?_
        refine GO.ldBoxA (j := 0) ([.slice A36 t32.length c37, .slice A38 t33.length c39]) HS rfl rfl rfl rfl ag63 rfl ?_
        refine GO.back ?_
        refine GO.fin (fun a hs => ?_)
        exact ⟨_, _, _, _, _, _, _, _, _, (.agg [.slice A36 t32.length c37, .slice A38 t33.length c39].toArray), _, _, _, _, _, _, A70, c71, y72, A81, c82, _, _, by exact hs.setAt 9 rfl, HS, f0, f1, f2, f3, f4, f5, f6, f7, f8, fun _ => rfl, f10, f11, f12, f13, f14, f15, o12_0, o13_0⟩
       | 10, _ =>
        have hb2 : b 2 = true := hd 2 (by decide)
        obtain rfl := f2 hb2
        have hb8 : b 8 = true := hd 8 (by decide)
        obtain rfl := f8 hb8
        have hb9 : b 9 = true := hd 9 (by decide)
        obtain rfl := f9 hb9
        refine GO.at hs ?_
        refine GO.on rfl rfl rfl rfl ?_
        refine GO.fn rfl Try.func85 fok85.1 fok85.2 rfl rfl (impl_Diagram_parts.calls HS (RdIn.drop 7 h_d_Crossings) (RdIn.own (j := 1) rfl) (RdIn.own (j := 2) rfl) h80) (fun _ wd83 ⟨A81, c82, h84, HS⟩ => ⟨_, h84, ?_⟩)
        refine GO.back ?_
        refine GO.fin (fun a hs => ?_)
        exact ⟨_, _, _, _, _, _, _, _, _, _, (.slice A81 t79.length c82), _, _, _, _, _, A70, c71, y72, A81, c82, _, Own (TInt .i64) 2 A81 c82 (fun _ => ()) t79, by exact hs.setAt 10 rfl, HS.pick 8 [1, 2, 3, 4, 5, 6, 0], f0, f1, f2, f3, f4, f5, f6, f7, f8, f9, fun _ => rfl, f11, f12, f13, f14, f15, o12_0, fun _ => rfl⟩
       | 11, _ =>
        have hb2 : b 2 = true := hd 2 (by decide)
        obtain rfl := f2 hb2
        have hb10 : b 10 = true := hd 10 (by decide)
        obtain rfl := f10 hb10
        obtain rfl := o13_0 hb10
        refine GO.at hs ?_
        refine GO.on rfl rfl rfl rfl ?_
        refine GO.fn rfl Try.func84 fok84.1 fok84.2 rfl rfl (impl_classCount.calls HS (RdIn.own (j := 6) rfl) h86) (fun _ wd87 ⟨h88, HS⟩ => ⟨_, h88, ?_⟩)
        refine GO.back ?_
        refine GO.fin (fun a hs => ?_)
        exact ⟨_, _, _, _, _, _, _, _, _, _, _, (.int .i64 t85), _, _, _, _, A70, c71, y72, A81, c82, _, _, by exact hs.setAt 11 rfl, HS, f0, f1, f2, f3, f4, f5, f6, f7, f8, f9, f10, fun _ => rfl, f12, f13, f14, f15, o12_0, o13_0⟩
       | 12, _ =>
        have hb2 : b 2 = true := hd 2 (by decide)
        obtain rfl := f2 hb2
        have hb11 : b 11 = true := hd 11 (by decide)
        obtain rfl := f11 hb11
        refine GO.at hs ?_
        refine GO.on rfl rfl rfl rfl ?_
        refine GO.mul rfl rfl rfl rfl ?_
        refine GO.back ?_
        refine GO.fin (fun a hs => ?_)
        exact ⟨_, _, _, _, _, _, _, _, _, _, _, _, (.int .i64 (w64 (2 * t85))), _, _, _, A70, c71, y72, A81, c82, _, _, by exact hs.setAt 12 rfl, HS, f0, f1, f2, f3, f4, f5, f6, f7, f8, f9, f10, f11, fun _ => rfl, f13, f14, f15, o12_0, o13_0⟩
       | 13, _ =>
        have hb2 : b 2 = true := hd 2 (by decide)
        obtain rfl := f2 hb2
        have hb7 : b 7 = true := hd 7 (by decide)
        obtain rfl := f7 hb7
        have hb12 : b 12 = true := hd 12 (by decide)
        obtain rfl := f12 hb12
        refine GO.at hs ?_
        refine GO.on rfl rfl rfl rfl ?_
        refine GO.add rfl rfl rfl rfl ?_
        refine GO.back ?_
        refine GO.fin (fun a hs => ?_)
        exact ⟨_, _, _, _, _, _, _, _, _, _, _, _, _, (.int .i64 (w64 (t5 + (w64 (2 * t85))))), _, _, A70, c71, y72, A81, c82, _, _, by exact hs.setAt 13 rfl, HS, f0, f1, f2, f3, f4, f5, f6, f7, f8, f9, f10, f11, f12, fun _ => rfl, f14, f15, o12_0, o13_0⟩
       | 14, _ =>
        have hb2 : b 2 = true := hd 2 (by decide)
        obtain rfl := f2 hb2
        have hb6 : b 6 = true := hd 6 (by decide)
        obtain rfl := f6 hb6
        have hb13 : b 13 = true := hd 13 (by decide)
        obtain rfl := f13 hb13
        refine GO.at hs ?_
        refine GO.on rfl rfl rfl rfl ?_
        refine GO.neq rfl rfl rfl rfl ?_
        refine GO.back ?_
        refine GO.fin (fun a hs => ?_)
        exact ⟨_, _, _, _, _, _, _, _, _, _, _, _, _, _, (.bool (!(decide (t75 = w64 (t5 + (w64 (2 * t85))))))), _, A70, c71, y72, A81, c82, _, _, by exact hs.setAt 14 rfl, HS, f0, f1, f2, f3, f4, f5, f6, f7, f8, f9, f10, f11, f12, f13, fun _ => rfl, f15, o12_0, o13_0⟩
       | 15, _ =>
        have hb2 : b 2 = true := hd 2 (by decide)
        obtain rfl := f2 hb2
        have hb14 : b 14 = true := hd 14 (by decide)
        obtain rfl := f14 hb14
        refine GO.at hs ?_
        refine GO.pickF rfl rfl rfl rfl rfl ?_
        refine GO.fin (fun a hs => ?_)
        exact ⟨_, _, _, _, _, _, _, _, _, _, _, _, _, _, _, (.bool (!(decide (t75 = w64 (t5 + (w64 (2 * t85))))))), A70, c71, y72, A81, c82, _, _, by exact hs.setAt 15 rfl, HS, f0, f1, f2, f3, f4, f5, f6, f7, f8, f9, f10, f11, f12, f13, f14, fun _ => rfl, o12_0, o13_0⟩
       | k + 16, hj => exact absurd hj (Nat.not_lt.2 (Nat.le_add_left 16 k))
      ·
       intro b a w hall
       refine exI fun Y1_0 => exI fun Y2_1 => exI fun Y3_2 => exI fun Y4_3 => exI fun Y5_4 => exI fun Y6_5 => exI fun Y7_6 => exI fun Y8_7 => exI fun Y9_8 => exI fun Y10_9 => exI fun Y11_10 => exI fun Y12_11 => exI fun Y13_12 => exI fun Y14_13 => exI fun Y15_14 => exI fun Y16_15 => exI fun A70 => exI fun c71 => exI fun y72 => exI fun A81 => exI fun c82 => exI fun O17_12 => exI fun O18_13 => anI fun hs => anI fun HS => anI fun f0 => anI fun f1 => anI fun f2 => anI fun f3 => anI fun f4 => anI fun f5 => anI fun f6 => anI fun f7 => anI fun f8 => anI fun f9 => anI fun f10 => anI fun f11 => anI fun f12 => anI fun f13 => anI fun f14 => anI fun f15 => anI fun o12_0 => fun o13_0 => ?_
       obtain rfl := f0 (hall 0 (by decide))
       obtain rfl := f1 (hall 1 (by decide))
       obtain rfl := f2 (hall 2 (by decide))
       obtain rfl := f3 (hall 3 (by decide))
       obtain rfl := f4 (hall 4 (by decide))
       obtain rfl := f5 (hall 5 (by decide))
       obtain rfl := f6 (hall 6 (by decide))
       obtain rfl := f7 (hall 7 (by decide))
       obtain rfl := f8 (hall 8 (by decide))
       obtain rfl := f9 (hall 9 (by decide))
       obtain rfl := f10 (hall 10 (by decide))
       obtain rfl := f11 (hall 11 (by decide))
       obtain rfl := f12 (hall 12 (by decide))
       obtain rfl := f13 (hall 13 (by decide))
       obtain rfl := f14 (hall 14 (by decide))
       obtain rfl := f15 (hall 15 (by decide))
       obtain rfl := o12_0 (hall 5 (by decide))
       obtain rfl := o13_0 (hall 10 (by decide))
       refine G.at hs ?_
       rcases ite_elim H with ⟨c89, H⟩ | ⟨c89, H⟩
       ·
        refine G.noB rfl (congrArg Bool.not (decide_eq_true c89)) ?_
        refine G.skip ?_
        refine G.seq ?_
        refine G.region ?_
        refine GO.ldBoxA (j := 0) ([.slice A36 t32.length c37, .slice A38 t33.length c39]) HS rfl rfl rfl rfl ag63 rfl ?_
        refine GO.stBox (j := 3) (vs := [.slice A36 t32.length c37, .slice A38 t33.length c39]) ([.slice A36 t32.length c37, .slice A38 t33.length c39]) HS rfl rfl rfl rfl rfl (htA ag63) rfl rfl rfl ?_; intro wd90 HS
        refine GO.assign rfl rfl rfl ?_
        refine GO.nil ?_
        obtain ⟨rfl, rfl, rfl⟩ := some3 H
        exact G.ret2 _ _ Try.func45 rfl (Res1.boxA (j := 3) (vs := [.slice A36 t32.length c37, .slice A38 t33.length c39]) HS rfl rfl rfl ag63) rfl ⟨_, _, _, _, rfl, (HS.pick 7 [1, 2])⟩
       ·
        refine G.yesB rfl (congrArg Bool.not (decide_eq_false c89)) ?_
        refine G.seq ?_
        refine G.region ?_
        refine GO.buildV (.agg [.slice none 0 0, .slice none 0 0].toArray) rfl rfl (fun _ => by kernel_rfl) rfl ?_
        refine GO.stBox (j := 3) (vs := [.slice none 0 0, .slice none 0 0]) ([.slice none 0 0, .slice none 0 0]) HS rfl rfl rfl rfl rfl (htA ag63) rfl rfl rfl ?_; intro wd91 HS
        refine GO.assign rfl rfl rfl ?_
        refine GO.nil ?_
        replace HS := HS.nilRow T_GEnd 68 (fun _ => ())
        replace HS := HS.nilRow T_GEnd 68 (fun _ => ())
        obtain ⟨rfl, rfl, rfl⟩ := some3 H
        exact G.ret2 _ _ Try.func45 rfl (Res1.boxA (j := 5) (vs := [.slice none 0 0, .slice none 0 0]) HS rfl rfl rfl ag63) rfl ⟨_, _, _, _, rfl, (HS.pick 9 [1, 0])⟩
     ·
      refine G.regionAny mixed (by decide) (fun b a w => ∃ (Y19_0 : Value) (Y20_1 : Value) (Y21_2 : Value) (Y22_3 : Value) (Y23_4 : Value) (Y24_5 : Value) (Y25_6 : Value) (Y26_7 : Value) (Y27_8 : Value) (Y28_9 : Value) (Y29_10 : Value) (Y30_11 : Value) (Y31_12 : Value) (Y32_13 : Value) (Y33_14 : Value) (Y34_15 : Value), Sat 47 [(29, Y19_0), (30, Y20_1), (31, Y21_2), (32, Y22_3), (33, Y23_4), (34, Y24_5), (35, Y25_6), (36, Y26_7), (37, Y27_8), (38, Y28_9), (39, Y29_10), (40, Y30_11), (41, Y31_12), (42, Y32_13), (43, Y33_14), (44, Y34_15), (1, .pointer (some ⟨b1, 0, none⟩)), (2, .pointer (some ⟨b3, 0, none⟩)), (4, .int .i64 t5), (5, .pointer (some ⟨b42, 0, none⟩)), (6, .bool t34)] a ∧ St w0 w (Box b42 63 [.slice A36 t32.length c37, .slice A38 t33.length c39] :: Own T_GEnd 68 A36 c37 (fun _ => ()) t32 :: Own T_GEnd 68 A38 c39 (fun _ => ()) t33 :: Box b3 63 [.slice none 0 0, .slice none 0 0] :: Box b1 28 [.slice A_d_Crossings d_Crossings.length c_d_Crossings, .int .i64 d_Circles] :: L) ∧ (b 0 = true → Y19_0 = (.bool t34)) ∧ (b 1 = true → Y20_1 = (.bool (!t34))) ∧ (b 2 = true → Y21_2 = (.bool true)) ∧ (b 3 = true → Y22_3 = (undef)) ∧ (b 4 = true → Y23_4 = (undef)) ∧ (b 5 = true → Y24_5 = (undef)) ∧ (b 6 = true → Y25_6 = (undef)) ∧ (b 7 = true → Y26_7 = (undef)) ∧ (b 8 = true → Y27_8 = (undef)) ∧ (b 9 = true → Y28_9 = (undef)) ∧ (b 10 = true → Y29_10 = (undef)) ∧ (b 11 = true → Y30_11 = (undef)) ∧ (b 12 = true → Y31_12 = (undef)) ∧ (b 13 = true → Y32_13 = (undef)) ∧ (b 14 = true → Y33_14 = (undef)) ∧ (b 15 = true → Y34_15 = (.bool true))) ?_ ?_ ?_
      ·
       intro a hs
       obtain ⟨Y19_0, hs⟩ := hs.ext (d := 29) rfl
       obtain ⟨Y20_1, hs⟩ := hs.ext (d := 30) rfl
       obtain ⟨Y21_2, hs⟩ := hs.ext (d := 31) rfl
       obtain ⟨Y22_3, hs⟩ := hs.ext (d := 32) rfl
       obtain ⟨Y23_4, hs⟩ := hs.ext (d := 33) rfl
       obtain ⟨Y24_5, hs⟩ := hs.ext (d := 34) rfl
       obtain ⟨Y25_6, hs⟩ := hs.ext (d := 35) rfl
       obtain ⟨Y26_7, hs⟩ := hs.ext (d := 36) rfl
       obtain ⟨Y27_8, hs⟩ := hs.ext (d := 37) rfl
       obtain ⟨Y28_9, hs⟩ := hs.ext (d := 38) rfl
       obtain ⟨Y29_10, hs⟩ := hs.ext (d := 39) rfl
       obtain ⟨Y30_11, hs⟩ := hs.ext (d := 40) rfl
       obtain ⟨Y31_12, hs⟩ := hs.ext (d := 41) rfl
       obtain ⟨Y32_13, hs⟩ := hs.ext (d := 42) rfl
       obtain ⟨Y33_14, hs⟩ := hs.ext (d := 43) rfl
       obtain ⟨Y34_15, hs⟩ := hs.ext (d := 44) rfl
       exact ⟨Y19_0, Y20_1, Y21_2, Y22_3, Y23_4, Y24_5, Y25_6, Y26_7, Y27_8, Y28_9, Y29_10, Y30_11, Y31_12, Y32_13, Y33_14, Y34_15, hs.weak ⟨rfl, rfl, rfl, rfl, rfl, rfl, rfl, rfl, rfl, rfl, rfl, rfl, rfl, rfl, rfl, rfl, rfl, rfl, rfl, rfl, rfl, trivial⟩, (HS.drew.pick 5 [0, 1, 2, 3, 4]), fun h => Bool.noConfusion h, fun h => Bool.noConfusion h, fun h => Bool.noConfusion h, fun h => Bool.noConfusion h, fun h => Bool.noConfusion h, fun h => Bool.noConfusion h, fun h => Bool.noConfusion h, fun h => Bool.noConfusion h, fun h => Bool.noConfusion h, fun h => Bool.noConfusion h, fun h => Bool.noConfusion h, fun h => Bool.noConfusion h, fun h => Bool.noConfusion h, fun h => Bool.noConfusion h, fun h => Bool.noConfusion h, fun h => Bool.noConfusion h⟩
      ·
       intro j hj b a w
       refine exI fun Y19_0 => exI fun Y20_1 => exI fun Y21_2 => exI fun Y22_3 => exI fun Y23_4 => exI fun Y24_5 => exI fun Y25_6 => exI fun Y26_7 => exI fun Y27_8 => exI fun Y28_9 => exI fun Y29_10 => exI fun Y30_11 => exI fun Y31_12 => exI fun Y32_13 => exI fun Y33_14 => exI fun Y34_15 => anI fun hs => anI fun HS => anI fun f0 => anI fun f1 => anI fun f2 => anI fun f3 => anI fun f4 => anI fun f5 => anI fun f6 => anI fun f7 => anI fun f8 => anI fun f9 => anI fun f10 => anI fun f11 => anI fun f12 => anI fun f13 => anI fun f14 => fun f15 hb hd hcl => ?_
       match j, hj with
       | 0, _ =>
        refine GO.at hs ?_
        refine GO.move rfl rfl rfl ?_
        refine GO.fin (fun a hs => ?_)
        exact ⟨(.bool t34), _, _, _, _, _, _, _, _, _, _, _, _, _, _, _, by exact hs.setAt 0 rfl, HS, fun _ => rfl, f1, f2, f3, f4, f5, f6, f7, f8, f9, f10, f11, f12, f13, f14, f15⟩
       | 1, _ =>
        have hb0 : b 0 = true := hd 0 (by decide)
        obtain rfl := f0 hb0
        refine GO.at hs ?_
        refine GO.not rfl rfl rfl ?_
        refine GO.fin (fun a hs => ?_)
        exact ⟨_, (.bool (!t34)), _, _, _, _, _, _, _, _, _, _, _, _, _, _, by exact hs.setAt 1 rfl, HS, f0, fun _ => rfl, f2, f3, f4, f5, f6, f7, f8, f9, f10, f11, f12, f13, f14, f15⟩
       | 2, _ =>
        have hb1 : b 1 = true := hd 1 (by decide)
        obtain rfl := f1 hb1
        refine GO.at hs ?_
        refine GO.move rfl rfl rfl ?_
        refine GO.known (t := 31) rfl (congrArg Bool.not (bnot_of c67)) ?_
        refine GO.fin (fun a hs => ?_)
        exact ⟨_, _, (.bool true), _, _, _, _, _, _, _, _, _, _, _, _, _, hs.weak ⟨rfl, rfl, rfl, rfl, rfl, rfl, rfl, rfl, rfl, rfl, rfl, rfl, rfl, rfl, rfl, rfl, rfl, rfl, rfl, rfl, rfl, trivial⟩, HS, f0, f1, fun _ => rfl, f3, f4, f5, f6, f7, f8, f9, f10, f11, f12, f13, f14, f15⟩
       | 3, _ =>
        have hb2 : b 2 = true := hd 2 (by decide)
        obtain rfl := f2 hb2
        refine GO.at hs ?_
        refine GO.off rfl rfl rfl rfl rfl rfl ?_
        refine GO.fin (fun a hs => ?_)
        exact ⟨_, _, _, (undef), _, _, _, _, _, _, _, _, _, _, _, _, by exact hs.setAt 3 rfl, HS, f0, f1, f2, fun _ => rfl, f4, f5, f6, f7, f8, f9, f10, f11, f12, f13, f14, f15⟩
       | 4, _ =>
        have hb2 : b 2 = true := hd 2 (by decide)
        obtain rfl := f2 hb2
        refine GO.at hs ?_
        refine GO.off rfl rfl rfl rfl rfl rfl ?_
        refine GO.fin (fun a hs => ?_)
        exact ⟨_, _, _, _, (undef), _, _, _, _, _, _, _, _, _, _, _, by exact hs.setAt 4 rfl, HS, f0, f1, f2, f3, fun _ => rfl, f5, f6, f7, f8, f9, f10, f11, f12, f13, f14, f15⟩
       | 5, _ =>
        have hb2 : b 2 = true := hd 2 (by decide)
        obtain rfl := f2 hb2
        have hb3 : b 3 = true := hd 3 (by decide)
        obtain rfl := f3 hb3
        have hb4 : b 4 = true := hd 4 (by decide)
        obtain rfl := f4 hb4
        refine GO.at hs ?_
        refine GO.off rfl rfl rfl rfl rfl rfl ?_
        refine GO.fin (fun a hs => ?_)
        exact ⟨_, _, _, _, _, (undef), _, _, _, _, _, _, _, _, _, _, by exact hs.setAt 5 rfl, HS, f0, f1, f2, f3, f4, fun _ => rfl, f6, f7, f8, f9, f10, f11, f12, f13, f14, f15⟩
       | 6, _ =>
        have hb2 : b 2 = true := hd 2 (by decide)
        obtain rfl := f2 hb2
        have hb5 : b 5 = true := hd 5 (by decide)
        obtain rfl := f5 hb5
        refine GO.at hs ?_
        refine GO.off rfl rfl rfl rfl rfl rfl ?_
        refine GO.fin (fun a hs => ?_)
        exact ⟨_, _, _, _, _, _, (undef), _, _, _, _, _, _, _, _, _, by exact hs.setAt 6 rfl, HS, f0, f1, f2, f3, f4, f5, fun _ => rfl, f7, f8, f9, f10, f11, f12, f13, f14, f15⟩
       | 7, _ =>
        have hb2 : b 2 = true := hd 2 (by decide)
        obtain rfl := f2 hb2
        refine GO.at hs ?_
        refine GO.off rfl rfl rfl rfl rfl rfl ?_
        refine GO.fin (fun a hs => ?_)
        exact ⟨_, _, _, _, _, _, _, (undef), _, _, _, _, _, _, _, _, by exact hs.setAt 7 rfl, HS, f0, f1, f2, f3, f4, f5, f6, fun _ => rfl, f8, f9, f10, f11, f12, f13, f14, f15⟩
       | 8, _ =>
        have hb2 : b 2 = true := hd 2 (by decide)
        obtain rfl := f2 hb2
        refine GO.at hs ?_
        refine GO.off rfl rfl rfl rfl rfl rfl ?_
        refine GO.fin (fun a hs => ?_)
        exact ⟨_, _, _, _, _, _, _, _, (undef), _, _, _, _, _, _, _, by exact hs.setAt 8 rfl, HS, f0, f1, f2, f3, f4, f5, f6, f7, fun _ => rfl, f9, f10, f11, f12, f13, f14, f15⟩
       | 9, _ =>
        have hb2 : b 2 = true := hd 2 (by decide)
        obtain rfl := f2 hb2
        refine GO.at hs ?_
        refine GO.off rfl rfl rfl rfl rfl rfl ?_
        refine GO.fin (fun a hs => ?_)
        exact ⟨_, _, _, _, _, _, _, _, _, (undef), _, _, _, _, _, _, by exact hs.setAt 9 rfl, HS, f0, f1, f2, f3, f4, f5, f6, f7, f8, fun _ => rfl, f10, f11, f12, f13, f14, f15⟩
       | 10, _ =>
        have hb2 : b 2 = true := hd 2 (by decide)
        obtain rfl := f2 hb2
        have hb8 : b 8 = true := hd 8 (by decide)
        obtain rfl := f8 hb8
        have hb9 : b 9 = true := hd 9 (by decide)
        obtain rfl := f9 hb9
        refine GO.at hs ?_
        refine GO.off rfl rfl rfl rfl rfl rfl ?_
        refine GO.fin (fun a hs => ?_)
        exact ⟨_, _, _, _, _, _, _, _, _, _, (undef), _, _, _, _, _, by exact hs.setAt 10 rfl, HS, f0, f1, f2, f3, f4, f5, f6, f7, f8, f9, fun _ => rfl, f11, f12, f13, f14, f15⟩
       | 11, _ =>
        have hb2 : b 2 = true := hd 2 (by decide)
        obtain rfl := f2 hb2
        have hb10 : b 10 = true := hd 10 (by decide)
        obtain rfl := f10 hb10
        refine GO.at hs ?_
        refine GO.off rfl rfl rfl rfl rfl rfl ?_
        refine GO.fin (fun a hs => ?_)
        exact ⟨_, _, _, _, _, _, _, _, _, _, _, (undef), _, _, _, _, by exact hs.setAt 11 rfl, HS, f0, f1, f2, f3, f4, f5, f6, f7, f8, f9, f10, fun _ => rfl, f12, f13, f14, f15⟩
       | 12, _ =>
        have hb2 : b 2 = true := hd 2 (by decide)
        obtain rfl := f2 hb2
        have hb11 : b 11 = true := hd 11 (by decide)
        obtain rfl := f11 hb11
        refine GO.at hs ?_
        refine GO.off rfl rfl rfl rfl rfl rfl ?_
        refine GO.fin (fun a hs => ?_)
        exact ⟨_, _, _, _, _, _, _, _, _, _, _, _, (undef), _, _, _, by exact hs.setAt 12 rfl, HS, f0, f1, f2, f3, f4, f5, f6, f7, f8, f9, f10, f11, fun _ => rfl, f13, f14, f15⟩
       | 13, _ =>
        have hb2 : b 2 = true := hd 2 (by decide)
        obtain rfl := f2 hb2
        have hb7 : b 7 = true := hd 7 (by decide)
        obtain rfl := f7 hb7
        have hb12 : b 12 = true := hd 12 (by decide)
        obtain rfl := f12 hb12
        refine GO.at hs ?_
        refine GO.off rfl rfl rfl rfl rfl rfl ?_
        refine GO.fin (fun a hs => ?_)
        exact ⟨_, _, _, _, _, _, _, _, _, _, _, _, _, (undef), _, _, by exact hs.setAt 13 rfl, HS, f0, f1, f2, f3, f4, f5, f6, f7, f8, f9, f10, f11, f12, fun _ => rfl, f14, f15⟩
       | 14, _ =>
        have hb2 : b 2 = true := hd 2 (by decide)
        obtain rfl := f2 hb2
        have hb6 : b 6 = true := hd 6 (by decide)
        obtain rfl := f6 hb6
        have hb13 : b 13 = true := hd 13 (by decide)
        obtain rfl := f13 hb13
        refine GO.at hs ?_
        refine GO.off rfl rfl rfl rfl rfl rfl ?_
        refine GO.fin (fun a hs => ?_)
        exact ⟨_, _, _, _, _, _, _, _, _, _, _, _, _, _, (undef), _, by exact hs.setAt 14 rfl, HS, f0, f1, f2, f3, f4, f5, f6, f7, f8, f9, f10, f11, f12, f13, fun _ => rfl, f15⟩
       | 15, _ =>
        have hb2 : b 2 = true := hd 2 (by decide)
        obtain rfl := f2 hb2
        have hb14 : b 14 = true := hd 14 (by decide)
        obtain rfl := f14 hb14
        refine GO.at hs ?_
        refine GO.pickT rfl rfl rfl rfl rfl ?_
        refine GO.fin (fun a hs => ?_)
        exact ⟨_, _, _, _, _, _, _, _, _, _, _, _, _, _, _, (.bool true), by exact hs.setAt 15 rfl, HS, f0, f1, f2, f3, f4, f5, f6, f7, f8, f9, f10, f11, f12, f13, f14, fun _ => rfl⟩
       | k + 16, hj => exact absurd hj (Nat.not_lt.2 (Nat.le_add_left 16 k))
      ·
       intro b a w hall
       refine exI fun Y19_0 => exI fun Y20_1 => exI fun Y21_2 => exI fun Y22_3 => exI fun Y23_4 => exI fun Y24_5 => exI fun Y25_6 => exI fun Y26_7 => exI fun Y27_8 => exI fun Y28_9 => exI fun Y29_10 => exI fun Y30_11 => exI fun Y31_12 => exI fun Y32_13 => exI fun Y33_14 => exI fun Y34_15 => anI fun hs => anI fun HS => anI fun f0 => anI fun f1 => anI fun f2 => anI fun f3 => anI fun f4 => anI fun f5 => anI fun f6 => anI fun f7 => anI fun f8 => anI fun f9 => anI fun f10 => anI fun f11 => anI fun f12 => anI fun f13 => anI fun f14 => fun f15 => ?_
       obtain rfl := f0 (hall 0 (by decide))
       obtain rfl := f1 (hall 1 (by decide))
       obtain rfl := f2 (hall 2 (by decide))
       obtain rfl := f3 (hall 3 (by decide))
       obtain rfl := f4 (hall 4 (by decide))
       obtain rfl := f5 (hall 5 (by decide))
       obtain rfl := f6 (hall 6 (by decide))
       obtain rfl := f7 (hall 7 (by decide))
       obtain rfl := f8 (hall 8 (by decide))
       obtain rfl := f9 (hall 9 (by decide))
       obtain rfl := f10 (hall 10 (by decide))
       obtain rfl := f11 (hall 11 (by decide))
       obtain rfl := f12 (hall 12 (by decide))
       obtain rfl := f13 (hall 13 (by decide))
       obtain rfl := f14 (hall 14 (by decide))
       obtain rfl := f15 (hall 15 (by decide))
       refine G.at hs ?_
       refine G.yesB rfl rfl ?_
       refine G.seq ?_
       refine G.region ?_
       refine GO.buildV (.agg [.slice none 0 0, .slice none 0 0].toArray) rfl rfl (fun _ => by kernel_rfl) rfl ?_
       refine GO.stBox (j := 3) (vs := [.slice none 0 0, .slice none 0 0]) ([.slice none 0 0, .slice none 0 0]) HS rfl rfl rfl rfl rfl (htA ag63) rfl rfl rfl ?_; intro wd92 HS
       refine GO.assign rfl rfl rfl ?_
       refine GO.nil ?_
       replace HS := HS.nilRow T_GEnd 68 (fun _ => ())
       replace HS := HS.nilRow T_GEnd 68 (fun _ => ())
       obtain ⟨rfl, rfl, rfl⟩ := some3 H
       exact G.ret2 _ _ Try.func45 rfl (Res1.boxA (j := 5) (vs := [.slice none 0 0, .slice none 0 0]) HS rfl rfl rfl ag63) rfl ⟨_, _, _, _, rfl, (HS.pick 7 [1, 0])⟩
   ·
    refine G.region ?_
    refine GO.move rfl rfl rfl ?_
    refine GO.gtr rfl rfl rfl rfl ?_
    refine GO.move rfl rfl rfl ?_
    refine GO.known (t := 12) rfl (decide_eq_false c19) ?_
    refine GO.on rfl rfl rfl rfl ?_
    refine GO.fld (⟨b1, 1, none⟩) rfl rfl fl28_1 rfl rfl ?_
    refine GO.back ?_
    refine GO.on rfl rfl rfl rfl ?_
    refine GO.ldBox (j := 1) HS rfl rfl rfl rfl na2 rfl ?_
    refine GO.back ?_
    refine GO.on rfl rfl rfl rfl ?_
    refine GO.fn rfl Try.func47 fok47.1 fok47.2 rfl rfl (impl_inRange.calls HS  h22) (fun _ wd23 ⟨h24, HS⟩ => ⟨_, h24, ?_⟩)
    refine GO.back ?_
    refine GO.on rfl rfl rfl rfl ?_
    refine GO.not rfl rfl rfl ?_
    refine GO.back ?_
    refine GO.pickF rfl rfl rfl rfl rfl ?_
    refine GO.move rfl rfl rfl ?_
    refine GO.known (t := 18) rfl (congrArg Bool.not (bnot_of c25)) ?_
    refine GO.off rfl rfl rfl rfl rfl rfl ?_
    refine GO.off rfl rfl rfl rfl rfl rfl ?_
    refine GO.off rfl rfl rfl rfl rfl rfl ?_
    refine GO.pickT rfl rfl rfl rfl rfl ?_
    refine GO.nil ?_
    refine G.yesB rfl rfl ?_
    refine G.seq ?_
    refine G.region ?_
    refine GO.buildV (.agg [.slice none 0 0, .slice none 0 0].toArray) rfl rfl (fun _ => by kernel_rfl) rfl ?_
    refine GO.stBox (j := 0) (vs := [.slice none 0 0, .slice none 0 0]) ([.slice none 0 0, .slice none 0 0]) HS rfl rfl rfl rfl rfl (htA ag63) rfl rfl rfl ?_; intro wd93 HS
    refine GO.assign rfl rfl rfl ?_
    refine GO.nil ?_
    replace HS := HS.nilRow T_GEnd 68 (fun _ => ())
    replace HS := HS.nilRow T_GEnd 68 (fun _ => ())
    obtain ⟨rfl, rfl, rfl⟩ := some3 H
    exact G.ret2 _ _ Try.func45 rfl (Res1.boxA (j := 2) (vs := [.slice none 0 0, .slice none 0 0]) HS rfl rfl rfl ag63) rfl ⟨_, _, _, _, rfl, (HS.pick 4 [1, 0])⟩

set_option maxRecDepth 20000 in
set_option maxHeartbeats 40000000 in
theorem impl_hasIndex_impl_Crossing.calls {w0 w : World} {L : List HObj} {list : List GCrossing} {i : Int} {A_list : Option Addr} {c_list : Nat} {r1 : Bool} (HS : St w0 w (L)) (h_list : RdIn w0 L T_GCrossing A_list c_list (fun _ => ()) list) (H : impl_hasIndex_impl_Crossing.f list i = some r1) :
    Calls Try.prog 80 #[.slice A_list list.length c_list, .int .i64 i] w (impl_hasIndex_impl_Crossing.post w0 L list i A_list c_list r1) := by
  unfold impl_hasIndex_impl_Crossing.f at H
  refine Calls.of_G Try.func80 rfl rfl rfl ?_
  refine G.seq ?_
  refine G.region ?_
  refine GO.assign rfl rfl rfl ?_
  refine GO.nil ?_
  refine G.seq ?_
  obtain ⟨t1, h2, H⟩ := Option.bind_eq_some_iff.1 H
  obtain ⟨t5, h6, H⟩ := Option.bind_eq_some_iff.1 H
  refine G.region ?_
  refine GO.move rfl rfl rfl ?_
  refine GO.move rfl rfl rfl ?_
  refine GO.fn rfl Try.func56 fok56.1 fok56.2 rfl rfl (impl_size_impl_Crossing.calls HS h_list h2) (fun _ wd3 ⟨h4, HS⟩ => ⟨_, h4, ?_⟩)
  refine GO.sub rfl rfl rfl rfl ?_
  refine GO.fn rfl Try.func47 fok47.1 fok47.2 rfl rfl (impl_inRange.calls HS  h6) (fun _ wd7 ⟨h8, HS⟩ => ⟨_, h8, ?_⟩)
  refine GO.assign rfl rfl rfl ?_
  refine GO.nil ?_
  obtain rfl := Option.some.inj H
  exact G.ret1 _ Try.func80 rfl rfl ⟨rfl, HS⟩

set_option maxRecDepth 20000 in
set_option maxHeartbeats 40000000 in
theorem impl_isUpper.calls {w0 w : World} {L : List HObj} {position : Int} {r1 : Bool} (HS : St w0 w (L)) (H : impl_isUpper.f position = some r1) :
    Calls Try.prog 126 #[.int .i64 position] w (impl_isUpper.post w0 L position r1) := by
  unfold impl_isUpper.f at H
  refine Calls.of_G Try.func126 rfl rfl rfl ?_
  refine G.seq ?_
  refine G.region ?_
  refine GO.assign rfl rfl rfl ?_
  refine GO.nil ?_
  refine G.seq ?_
  refine G.region ?_
  refine GO.move rfl rfl rfl ?_
  refine GO.rem rfl rfl rfl (by decide) rfl ?_
  refine GO.eql rfl rfl rfl rfl ?_
  refine GO.assign rfl rfl rfl ?_
  refine GO.nil ?_
  obtain rfl := Option.some.inj H
  exact G.ret1 _ Try.func126 rfl rfl ⟨rfl, HS⟩

set_option maxRecDepth 20000 in
set_option maxHeartbeats 40000000 in
theorem impl_Diagram_isBigon_fn1_free.calls {w0 w : World} {L : List HObj} {region : List Int} {v0_2 : Int} {v1_2 : Int} {A_region : Option Addr} {c_region : Nat} {b_v0 : Nat} {b_v1 : Nat} {r1 : Bool} (HS : St w0 w (Box b_v0 2 [.int .i64 v0_2] :: Box b_v1 2 [.int .i64 v1_2] :: L)) (h_region : RdIn w0 L (TInt .i64) A_region c_region (fun _ => ()) region) (H : impl_Diagram_isBigon_fn1_free.f region v0_2 v1_2 = some r1) :
    Calls Try.prog 129 #[.slice A_region region.length c_region, .pointer (some ⟨b_v0, 0, none⟩), .pointer (some ⟨b_v1, 0, none⟩)] w (impl_Diagram_isBigon_fn1_free.post w0 L region v0_2 v1_2 A_region c_region b_v0 b_v1 r1) := by
  unfold impl_Diagram_isBigon_fn1_free.f at H
  refine Calls.of_G Try.func129 rfl rfl rfl ?_
  refine G.seq ?_
  refine G.region ?_
  refine GO.assign rfl rfl rfl ?_
  refine GO.nil ?_
  refine G.seq ?_
  refine G.seq ?_
  refine G.region ?_
  refine GO.move rfl rfl rfl ?_
  refine GO.lenS rfl rfl Try.underlying43 rfl ?_
  refine GO.neq rfl rfl rfl rfl ?_
  refine GO.nil ?_
  rcases ite_elim H with ⟨c1, H⟩ | ⟨c1, H⟩
  ·
   refine G.noB rfl (congrArg Bool.not (decide_eq_true c1)) ?_
   refine G.skip ?_
   refine G.seq ?_
   obtain ⟨c2, H⟩ := ite_none H
   obtain ⟨c3, H⟩ := ite_none H
   refine G.regionAny mixed (by decide) (fun b a w => ∃ (Y1_0 : Value) (Y2_1 : Value) (Y3_2 : Value) (Y4_3 : Value) (Y5_4 : Value) (Y6_5 : Value) (Y7_6 : Value) (Y8_7 : Value), Sat 48 [(5, Y7_6), (6, Y8_7), (10, Y1_0), (11, Y2_1), (12, Y3_2), (13, Y4_3), (14, Y5_4), (15, Y6_5), (0, .slice A_region region.length c_region), (1, .pointer (some ⟨b_v0, 0, none⟩)), (2, .pointer (some ⟨b_v1, 0, none⟩))] a ∧ St w0 w (Box b_v0 2 [.int .i64 v0_2] :: Box b_v1 2 [.int .i64 v1_2] :: L) ∧ (b 6 = true → Y7_6 = (.int .i64 (region.getD 0 0))) ∧ (b 7 = true → Y8_7 = (.int .i64 (region.getD 1 0))) ∧ (b 0 = true → Y1_0 = (.slice A_region region.length c_region)) ∧ (b 1 = true → Y2_1 = (.pointer (some (ea A_region (0 * 1))))) ∧ (b 2 = true → Y3_2 = (.int .i64 (region.getD 0 0))) ∧ (b 3 = true → Y4_3 = (.slice A_region region.length c_region)) ∧ (b 4 = true → Y5_4 = (.pointer (some (ea A_region (1 * 1))))) ∧ (b 5 = true → Y6_5 = (.int .i64 (region.getD 1 0)))) ?_ ?_ ?_
   ·
    intro a hs
    obtain ⟨Y7_6, hs⟩ := hs.ext (d := 5) rfl
    obtain ⟨Y8_7, hs⟩ := hs.ext (d := 6) rfl
    obtain ⟨Y1_0, hs⟩ := hs.ext (d := 10) rfl
    obtain ⟨Y2_1, hs⟩ := hs.ext (d := 11) rfl
    obtain ⟨Y3_2, hs⟩ := hs.ext (d := 12) rfl
    obtain ⟨Y4_3, hs⟩ := hs.ext (d := 13) rfl
    obtain ⟨Y5_4, hs⟩ := hs.ext (d := 14) rfl
    obtain ⟨Y6_5, hs⟩ := hs.ext (d := 15) rfl
    exact ⟨Y1_0, Y2_1, Y3_2, Y4_3, Y5_4, Y6_5, Y7_6, Y8_7, hs.weak ⟨rfl, rfl, rfl, rfl, rfl, rfl, rfl, rfl, rfl, rfl, rfl, trivial⟩, (HS.drew.pick 2 [0, 1]), fun h => Bool.noConfusion h, fun h => Bool.noConfusion h, fun h => Bool.noConfusion h, fun h => Bool.noConfusion h, fun h => Bool.noConfusion h, fun h => Bool.noConfusion h, fun h => Bool.noConfusion h, fun h => Bool.noConfusion h⟩
   ·
    intro j hj b a w
    refine exI fun Y1_0 => exI fun Y2_1 => exI fun Y3_2 => exI fun Y4_3 => exI fun Y5_4 => exI fun Y6_5 => exI fun Y7_6 => exI fun Y8_7 => anI fun hs => anI fun HS => anI fun f6 => anI fun f7 => anI fun f0 => anI fun f1 => anI fun f2 => anI fun f3 => anI fun f4 => fun f5 hb hd hcl => ?_
    match j, hj with
    | 0, _ =>
     refine GO.at hs ?_
     refine GO.move rfl rfl rfl ?_
     refine GO.fin (fun a hs => ?_)
     exact ⟨(.slice A_region region.length c_region), _, _, _, _, _, _, _, by exact hs.setAt 2 rfl, HS, f6, f7, fun _ => rfl, f1, f2, f3, f4, f5⟩
    | 1, _ =>
     have hb0 : b 0 = true := hd 0 (by decide)
     obtain rfl := f0 hb0
     refine GO.at hs ?_
     refine GO.ix rfl rfl rfl Try.underlying43 sz2 ((RdIn.drop 2 h_region) _ HS).2.2.1 c2.1 c2.2 rfl ?_
     refine GO.fin (fun a hs => ?_)
     exact ⟨_, (.pointer (some (ea A_region (0 * 1)))), _, _, _, _, _, _, by exact hs.setAt 3 rfl, HS, f6, f7, f0, fun _ => rfl, f2, f3, f4, f5⟩
    | 2, _ =>
     have hb1 : b 1 = true := hd 1 (by decide)
     obtain rfl := f1 hb1
     refine GO.at hs ?_
     refine GO.ldRd (T := (TInt .i64)) (n := 0) (o := 0) HS (RdIn.drop 2 h_region) rfl rfl (getD_some (d := 0) (ltN c2)) rfl rfl na2 rfl ?_
     refine GO.fin (fun a hs => ?_)
     exact ⟨_, _, (.int .i64 (region.getD 0 0)), _, _, _, _, _, by exact hs.setAt 4 rfl, HS, f6, f7, f0, f1, fun _ => rfl, f3, f4, f5⟩
    | 3, _ =>
     refine GO.at hs ?_
     refine GO.move rfl rfl rfl ?_
     refine GO.fin (fun a hs => ?_)
     exact ⟨_, _, _, (.slice A_region region.length c_region), _, _, _, _, by exact hs.setAt 5 rfl, HS, f6, f7, f0, f1, f2, fun _ => rfl, f4, f5⟩
    | 4, _ =>
     have hb3 : b 3 = true := hd 3 (by decide)
     obtain rfl := f3 hb3
     refine GO.at hs ?_
     refine GO.ix rfl rfl rfl Try.underlying43 sz2 ((RdIn.drop 2 h_region) _ HS).2.2.1 c3.1 c3.2 rfl ?_
     refine GO.fin (fun a hs => ?_)
     exact ⟨_, _, _, _, (.pointer (some (ea A_region (1 * 1)))), _, _, _, by exact hs.setAt 6 rfl, HS, f6, f7, f0, f1, f2, f3, fun _ => rfl, f5⟩
    | 5, _ =>
     have hb4 : b 4 = true := hd 4 (by decide)
     obtain rfl := f4 hb4
     refine GO.at hs ?_
     refine GO.ldRd (T := (TInt .i64)) (n := 1) (o := 0) HS (RdIn.drop 2 h_region) rfl rfl (getD_some (d := 0) (ltN c3)) rfl rfl na2 rfl ?_
     refine GO.fin (fun a hs => ?_)
     exact ⟨_, _, _, _, _, (.int .i64 (region.getD 1 0)), _, _, by exact hs.setAt 7 rfl, HS, f6, f7, f0, f1, f2, f3, f4, fun _ => rfl⟩
    | 6, _ =>
     have hb2 : b 2 = true := hd 2 (by decide)
     obtain rfl := f2 hb2
     refine GO.at hs ?_
     refine GO.assign rfl rfl rfl ?_
     refine GO.fin (fun a hs => ?_)
     exact ⟨_, _, _, _, _, _, (.int .i64 (region.getD 0 0)), _, by exact hs.setAt 0 rfl, HS, fun _ => rfl, f7, f0, f1, f2, f3, f4, f5⟩
    | 7, _ =>
     have hb5 : b 5 = true := hd 5 (by decide)
     obtain rfl := f5 hb5
     refine GO.at hs ?_
     refine GO.assign rfl rfl rfl ?_
     refine GO.fin (fun a hs => ?_)
     exact ⟨_, _, _, _, _, _, _, (.int .i64 (region.getD 1 0)), by exact hs.setAt 1 rfl, HS, f6, fun _ => rfl, f0, f1, f2, f3, f4, f5⟩
    | k + 8, hj => exact absurd hj (Nat.not_lt.2 (Nat.le_add_left 8 k))
   ·
    intro b a w hall
    refine exI fun Y1_0 => exI fun Y2_1 => exI fun Y3_2 => exI fun Y4_3 => exI fun Y5_4 => exI fun Y6_5 => exI fun Y7_6 => exI fun Y8_7 => anI fun hs => anI fun HS => anI fun f6 => anI fun f7 => anI fun f0 => anI fun f1 => anI fun f2 => anI fun f3 => anI fun f4 => fun f5 => ?_
    obtain rfl := f6 (hall 6 (by decide))
    obtain rfl := f7 (hall 7 (by decide))
    obtain rfl := f0 (hall 0 (by decide))
    obtain rfl := f1 (hall 1 (by decide))
    obtain rfl := f2 (hall 2 (by decide))
    obtain rfl := f3 (hall 3 (by decide))
    obtain rfl := f4 (hall 4 (by decide))
    obtain rfl := f5 (hall 5 (by decide))
    refine G.at hs ?_
    refine G.seq ?_
    rcases ite_elim H with ⟨c4, H⟩ | ⟨c4, H⟩
    ·
     rcases ite_elim H with ⟨c5, H⟩ | ⟨c5, H⟩
     ·
      obtain ⟨t6, h7, H⟩ := Option.bind_eq_some_iff.1 H
      obtain ⟨t10, h11, H⟩ := Option.bind_eq_some_iff.1 H
      refine G.region ?_
      refine GO.move rfl rfl rfl ?_
      refine GO.quo rfl rfl rfl (by decide) rfl ?_
      refine GO.ldBox (j := 0) HS rfl rfl rfl rfl na2 rfl ?_
      refine GO.eql rfl rfl rfl rfl ?_
      refine GO.move rfl rfl rfl ?_
      refine GO.known (t := 20) rfl (decide_eq_true c4) ?_
      refine GO.on rfl rfl rfl rfl ?_
      refine GO.move rfl rfl rfl ?_
      refine GO.back ?_
      refine GO.on rfl rfl rfl rfl ?_
      refine GO.quo rfl rfl rfl (by decide) rfl ?_
      refine GO.back ?_
      refine GO.on rfl rfl rfl rfl ?_
      refine GO.ldBox (j := 1) HS rfl rfl rfl rfl na2 rfl ?_
      refine GO.back ?_
      refine GO.on rfl rfl rfl rfl ?_
      refine GO.eql rfl rfl rfl rfl ?_
      refine GO.back ?_
      refine GO.pickT rfl rfl rfl rfl rfl ?_
      refine GO.move rfl rfl rfl ?_
      refine GO.known (t := 26) rfl (decide_eq_true c5) ?_
      refine GO.off rfl rfl rfl rfl rfl rfl ?_
      refine GO.off rfl rfl rfl rfl rfl rfl ?_
      refine GO.off rfl rfl rfl rfl rfl rfl ?_
      refine GO.off rfl rfl rfl rfl rfl rfl ?_
      refine GO.off rfl rfl rfl rfl rfl rfl ?_
      refine GO.offU rfl rfl rfl rfl rfl rfl ?_
      refine GO.offU rfl rfl rfl rfl rfl rfl ?_
      refine GO.offU rfl rfl rfl rfl rfl rfl ?_
      refine GO.offU rfl rfl rfl rfl rfl rfl ?_
      refine GO.off rfl rfl rfl rfl rfl rfl ?_
      refine GO.pickT rfl rfl rfl rfl rfl ?_
      refine GO.move rfl rfl rfl ?_
      refine GO.on rfl rfl rfl rfl ?_
      refine GO.move rfl rfl rfl ?_
      refine GO.back ?_
      refine GO.on rfl rfl rfl rfl ?_
      refine GO.add rfl rfl rfl rfl ?_
      refine GO.back ?_
      refine GO.on rfl rfl rfl rfl ?_
      refine GO.rem rfl rfl rfl (by decide) rfl ?_
      refine GO.back ?_
      refine GO.on rfl rfl rfl rfl ?_
      refine GO.fn rfl Try.func126 fok126.1 fok126.2 rfl rfl (impl_isUpper.calls HS  h7) (fun _ wd8 ⟨h9, HS⟩ => ⟨_, h9, ?_⟩)
      refine GO.back ?_
      refine GO.on rfl rfl rfl rfl ?_
      refine GO.move rfl rfl rfl ?_
      refine GO.back ?_
      refine GO.on rfl rfl rfl rfl ?_
      refine GO.rem rfl rfl rfl (by decide) rfl ?_
      refine GO.back ?_
      refine GO.on rfl rfl rfl rfl ?_
      refine GO.fn rfl Try.func126 fok126.1 fok126.2 rfl rfl (impl_isUpper.calls HS  h11) (fun _ wd12 ⟨h13, HS⟩ => ⟨_, h13, ?_⟩)
      refine GO.back ?_
      refine GO.on rfl rfl rfl rfl ?_
      refine GO.eqlB rfl rfl rfl Try.underlying4 rfl ?_
      refine GO.back ?_
      refine GO.pickT rfl rfl rfl rfl rfl ?_
      refine GO.assign rfl rfl rfl ?_
      refine GO.nil ?_
      obtain rfl := Option.some.inj H
      exact G.ret1 _ Try.func129 rfl rfl ⟨rfl, HS⟩
     ·
      rcases ite_elim H with ⟨c14, H⟩ | ⟨c14, H⟩
      ·
       rcases ite_elim H with ⟨c15, H⟩ | ⟨c15, H⟩
       ·
        obtain ⟨t16, h17, H⟩ := Option.bind_eq_some_iff.1 H
        obtain ⟨t20, h21, H⟩ := Option.bind_eq_some_iff.1 H
        refine G.region ?_
        refine GO.move rfl rfl rfl ?_
        refine GO.quo rfl rfl rfl (by decide) rfl ?_
        refine GO.ldBox (j := 0) HS rfl rfl rfl rfl na2 rfl ?_
        refine GO.eql rfl rfl rfl rfl ?_
        refine GO.move rfl rfl rfl ?_
        refine GO.known (t := 20) rfl (decide_eq_true c4) ?_
        refine GO.on rfl rfl rfl rfl ?_
        refine GO.move rfl rfl rfl ?_
        refine GO.back ?_
        refine GO.on rfl rfl rfl rfl ?_
        refine GO.quo rfl rfl rfl (by decide) rfl ?_
        refine GO.back ?_
        refine GO.on rfl rfl rfl rfl ?_
        refine GO.ldBox (j := 1) HS rfl rfl rfl rfl na2 rfl ?_
        refine GO.back ?_
        refine GO.on rfl rfl rfl rfl ?_
        refine GO.eql rfl rfl rfl rfl ?_
        refine GO.back ?_
        refine GO.pickT rfl rfl rfl rfl rfl ?_
        refine GO.move rfl rfl rfl ?_
        refine GO.known (t := 26) rfl (decide_eq_false c5) ?_
        refine GO.on rfl rfl rfl rfl ?_
        refine GO.move rfl rfl rfl ?_
        refine GO.back ?_
        refine GO.on rfl rfl rfl rfl ?_
        refine GO.quo rfl rfl rfl (by decide) rfl ?_
        refine GO.back ?_
        refine GO.on rfl rfl rfl rfl ?_
        refine GO.ldBox (j := 1) HS rfl rfl rfl rfl na2 rfl ?_
        refine GO.back ?_
        refine GO.on rfl rfl rfl rfl ?_
        refine GO.eql rfl rfl rfl rfl ?_
        refine GO.back ?_
        refine GO.on rfl rfl rfl rfl ?_
        refine GO.move rfl rfl rfl ?_
        refine GO.back ?_
        refine GO.known (t := 31) rfl (decide_eq_true c14) ?_
        refine GO.on rfl rfl rfl rfl ?_
        refine GO.move rfl rfl rfl ?_
        refine GO.back ?_
        refine GO.on rfl rfl rfl rfl ?_
        refine GO.quo rfl rfl rfl (by decide) rfl ?_
        refine GO.back ?_
        refine GO.on rfl rfl rfl rfl ?_
        refine GO.ldBox (j := 0) HS rfl rfl rfl rfl na2 rfl ?_
        refine GO.back ?_
        refine GO.on rfl rfl rfl rfl ?_
        refine GO.eql rfl rfl rfl rfl ?_
        refine GO.back ?_
        refine GO.on rfl rfl rfl rfl ?_
        refine GO.pickT rfl rfl rfl rfl rfl ?_
        refine GO.back ?_
        refine GO.pickF rfl rfl rfl rfl rfl ?_
        refine GO.move rfl rfl rfl ?_
        refine GO.known (t := 38) rfl (decide_eq_true c15) ?_
        refine GO.on rfl rfl rfl rfl ?_
        refine GO.move rfl rfl rfl ?_
        refine GO.back ?_
        refine GO.on rfl rfl rfl rfl ?_
        refine GO.add rfl rfl rfl rfl ?_
        refine GO.back ?_
        refine GO.on rfl rfl rfl rfl ?_
        refine GO.rem rfl rfl rfl (by decide) rfl ?_
        refine GO.back ?_
        refine GO.on rfl rfl rfl rfl ?_
        refine GO.fn rfl Try.func126 fok126.1 fok126.2 rfl rfl (impl_isUpper.calls HS  h17) (fun _ wd18 ⟨h19, HS⟩ => ⟨_, h19, ?_⟩)
        refine GO.back ?_
        refine GO.on rfl rfl rfl rfl ?_
        refine GO.move rfl rfl rfl ?_
        refine GO.back ?_
        refine GO.on rfl rfl rfl rfl ?_
        refine GO.rem rfl rfl rfl (by decide) rfl ?_
        refine GO.back ?_
        refine GO.on rfl rfl rfl rfl ?_
        refine GO.fn rfl Try.func126 fok126.1 fok126.2 rfl rfl (impl_isUpper.calls HS  h21) (fun _ wd22 ⟨h23, HS⟩ => ⟨_, h23, ?_⟩)
        refine GO.back ?_
        refine GO.on rfl rfl rfl rfl ?_
        refine GO.eqlB rfl rfl rfl Try.underlying4 rfl ?_
        refine GO.back ?_
        refine GO.pickT rfl rfl rfl rfl rfl ?_
        refine GO.assign rfl rfl rfl ?_
        refine GO.nil ?_
        obtain rfl := Option.some.inj H
        exact G.ret1 _ Try.func129 rfl rfl ⟨rfl, HS⟩
       ·
        refine G.region ?_
        refine GO.move rfl rfl rfl ?_
        refine GO.quo rfl rfl rfl (by decide) rfl ?_
        refine GO.ldBox (j := 0) HS rfl rfl rfl rfl na2 rfl ?_
        refine GO.eql rfl rfl rfl rfl ?_
        refine GO.move rfl rfl rfl ?_
        refine GO.known (t := 20) rfl (decide_eq_true c4) ?_
        refine GO.on rfl rfl rfl rfl ?_
        refine GO.move rfl rfl rfl ?_
        refine GO.back ?_
        refine GO.on rfl rfl rfl rfl ?_
        refine GO.quo rfl rfl rfl (by decide) rfl ?_
        refine GO.back ?_
        refine GO.on rfl rfl rfl rfl ?_
        refine GO.ldBox (j := 1) HS rfl rfl rfl rfl na2 rfl ?_
        refine GO.back ?_
        refine GO.on rfl rfl rfl rfl ?_
        refine GO.eql rfl rfl rfl rfl ?_
        refine GO.back ?_
        refine GO.pickT rfl rfl rfl rfl rfl ?_
        refine GO.move rfl rfl rfl ?_
        refine GO.known (t := 26) rfl (decide_eq_false c5) ?_
        refine GO.on rfl rfl rfl rfl ?_
        refine GO.move rfl rfl rfl ?_
        refine GO.back ?_
        refine GO.on rfl rfl rfl rfl ?_
        refine GO.quo rfl rfl rfl (by decide) rfl ?_
        refine GO.back ?_
        refine GO.on rfl rfl rfl rfl ?_
        refine GO.ldBox (j := 1) HS rfl rfl rfl rfl na2 rfl ?_
        refine GO.back ?_
        refine GO.on rfl rfl rfl rfl ?_
        refine GO.eql rfl rfl rfl rfl ?_
        refine GO.back ?_
        refine GO.on rfl rfl rfl rfl ?_
        refine GO.move rfl rfl rfl ?_
        refine GO.back ?_
        refine GO.known (t := 31) rfl (decide_eq_true c14) ?_
        refine GO.on rfl rfl rfl rfl ?_
        refine GO.move rfl rfl rfl ?_
        refine GO.back ?_
        refine GO.on rfl rfl rfl rfl ?_
        refine GO.quo rfl rfl rfl (by decide) rfl ?_
        refine GO.back ?_
        refine GO.on rfl rfl rfl rfl ?_
        refine GO.ldBox (j := 0) HS rfl rfl rfl rfl na2 rfl ?_
        refine GO.back ?_
        refine GO.on rfl rfl rfl rfl ?_
        refine GO.eql rfl rfl rfl rfl ?_
        refine GO.back ?_
        refine GO.on rfl rfl rfl rfl ?_
        refine GO.pickT rfl rfl rfl rfl rfl ?_
        refine GO.back ?_
        refine GO.pickF rfl rfl rfl rfl rfl ?_
        refine GO.move rfl rfl rfl ?_
        refine GO.known (t := 38) rfl (decide_eq_false c15) ?_
        refine GO.off rfl rfl rfl rfl rfl rfl ?_
        refine GO.off rfl rfl rfl rfl rfl rfl ?_
        refine GO.off rfl rfl rfl rfl rfl rfl ?_
        refine GO.off rfl rfl rfl rfl rfl rfl ?_
        refine GO.off rfl rfl rfl rfl rfl rfl ?_
        refine GO.off rfl rfl rfl rfl rfl rfl ?_
        refine GO.off rfl rfl rfl rfl rfl rfl ?_
        refine GO.off rfl rfl rfl rfl rfl rfl ?_
        refine GO.pickF rfl rfl rfl rfl rfl ?_
        refine GO.assign rfl rfl rfl ?_
        refine GO.nil ?_
        obtain rfl := Option.some.inj H
        exact G.ret1 _ Try.func129 rfl rfl ⟨rfl, HS⟩
      ·
       refine G.region ?_
       refine GO.move rfl rfl rfl ?_
       refine GO.quo rfl rfl rfl (by decide) rfl ?_
       refine GO.ldBox (j := 0) HS rfl rfl rfl rfl na2 rfl ?_
       refine GO.eql rfl rfl rfl rfl ?_
       refine GO.move rfl rfl rfl ?_
       refine GO.known (t := 20) rfl (decide_eq_true c4) ?_
       refine GO.on rfl rfl rfl rfl ?_
       refine GO.move rfl rfl rfl ?_
       refine GO.back ?_
       refine GO.on rfl rfl rfl rfl ?_
       refine GO.quo rfl rfl rfl (by decide) rfl ?_
       refine GO.back ?_
       refine GO.on rfl rfl rfl rfl ?_
       refine GO.ldBox (j := 1) HS rfl rfl rfl rfl na2 rfl ?_
       refine GO.back ?_
       refine GO.on rfl rfl rfl rfl ?_
       refine GO.eql rfl rfl rfl rfl ?_
       refine GO.back ?_
       refine GO.pickT rfl rfl rfl rfl rfl ?_
       refine GO.move rfl rfl rfl ?_
       refine GO.known (t := 26) rfl (decide_eq_false c5) ?_
       refine GO.on rfl rfl rfl rfl ?_
       refine GO.move rfl rfl rfl ?_
       refine GO.back ?_
       refine GO.on rfl rfl rfl rfl ?_
       refine GO.quo rfl rfl rfl (by decide) rfl ?_
       refine GO.back ?_
       refine GO.on rfl rfl rfl rfl ?_
       refine GO.ldBox (j := 1) HS rfl rfl rfl rfl na2 rfl ?_
       refine GO.back ?_
       refine GO.on rfl rfl rfl rfl ?_
       refine GO.eql rfl rfl rfl rfl ?_
       refine GO.back ?_
       refine GO.on rfl rfl rfl rfl ?_
       refine GO.move rfl rfl rfl ?_
       refine GO.back ?_
       refine GO.known (t := 31) rfl (decide_eq_false c14) ?_
       refine GO.off rfl rfl rfl rfl rfl rfl ?_
       refine GO.off rfl rfl rfl rfl rfl rfl ?_
       refine GO.off rfl rfl rfl rfl rfl rfl ?_
       refine GO.off rfl rfl rfl rfl rfl rfl ?_
       refine GO.on rfl rfl rfl rfl ?_
       refine GO.pickF rfl rfl rfl rfl rfl ?_
       refine GO.back ?_
       refine GO.pickF rfl rfl rfl rfl rfl ?_
       refine GO.move rfl rfl rfl ?_
       refine GO.off rfl rfl rfl rfl rfl rfl ?_
       refine GO.off rfl rfl rfl rfl rfl rfl ?_
       refine GO.off rfl rfl rfl rfl rfl rfl ?_
       refine GO.off rfl rfl rfl rfl rfl rfl ?_
       refine GO.off rfl rfl rfl rfl rfl rfl ?_
       refine GO.off rfl rfl rfl rfl rfl rfl ?_
       refine GO.off rfl rfl rfl rfl rfl rfl ?_
       refine GO.off rfl rfl rfl rfl rfl rfl ?_
       refine GO.pickF rfl rfl rfl rfl rfl ?_
       refine GO.assign rfl rfl rfl ?_
       refine GO.nil ?_
       obtain rfl := Option.some.inj H
       exact G.ret1 _ Try.func129 rfl rfl ⟨rfl, HS⟩
    ·
     rcases ite_elim H with ⟨c24, H⟩ | ⟨c24, H⟩
     ·
      rcases ite_elim H with ⟨c25, H⟩ | ⟨c25, H⟩
      ·
       obtain ⟨t26, h27, H⟩ := Option.bind_eq_some_iff.1 H
       obtain ⟨t30, h31, H⟩ := Option.bind_eq_some_iff.1 H
       refine G.region ?_
       refine GO.move rfl rfl rfl ?_
       refine GO.quo rfl rfl rfl (by decide) rfl ?_
       refine GO.ldBox (j := 0) HS rfl rfl rfl rfl na2 rfl ?_
       refine GO.eql rfl rfl rfl rfl ?_
       refine GO.move rfl rfl rfl ?_
       refine GO.known (t := 20) rfl (decide_eq_false c4) ?_
       refine GO.off rfl rfl rfl rfl rfl rfl ?_
       refine GO.off rfl rfl rfl rfl rfl rfl ?_
       refine GO.off rfl rfl rfl rfl rfl rfl ?_
       refine GO.off rfl rfl rfl rfl rfl rfl ?_
       refine GO.pickF rfl rfl rfl rfl rfl ?_
       refine GO.move rfl rfl rfl ?_
       refine GO.on rfl rfl rfl rfl ?_
       refine GO.move rfl rfl rfl ?_
       refine GO.back ?_
       refine GO.on rfl rfl rfl rfl ?_
       refine GO.quo rfl rfl rfl (by decide) rfl ?_
       refine GO.back ?_
       refine GO.on rfl rfl rfl rfl ?_
       refine GO.ldBox (j := 1) HS rfl rfl rfl rfl na2 rfl ?_
       refine GO.back ?_
       refine GO.on rfl rfl rfl rfl ?_
       refine GO.eql rfl rfl rfl rfl ?_
       refine GO.back ?_
       refine GO.on rfl rfl rfl rfl ?_
       refine GO.move rfl rfl rfl ?_
       refine GO.back ?_
       refine GO.known (t := 31) rfl (decide_eq_true c24) ?_
       refine GO.on rfl rfl rfl rfl ?_
       refine GO.move rfl rfl rfl ?_
       refine GO.back ?_
       refine GO.on rfl rfl rfl rfl ?_
       refine GO.quo rfl rfl rfl (by decide) rfl ?_
       refine GO.back ?_
       refine GO.on rfl rfl rfl rfl ?_
       refine GO.ldBox (j := 0) HS rfl rfl rfl rfl na2 rfl ?_
       refine GO.back ?_
       refine GO.on rfl rfl rfl rfl ?_
       refine GO.eql rfl rfl rfl rfl ?_
       refine GO.back ?_
       refine GO.on rfl rfl rfl rfl ?_
       refine GO.pickT rfl rfl rfl rfl rfl ?_
       refine GO.back ?_
       refine GO.pickF rfl rfl rfl rfl rfl ?_
       refine GO.move rfl rfl rfl ?_
       refine GO.known (t := 38) rfl (decide_eq_true c25) ?_
       refine GO.on rfl rfl rfl rfl ?_
       refine GO.move rfl rfl rfl ?_
       refine GO.back ?_
       refine GO.on rfl rfl rfl rfl ?_
       refine GO.add rfl rfl rfl rfl ?_
       refine GO.back ?_
       refine GO.on rfl rfl rfl rfl ?_
       refine GO.rem rfl rfl rfl (by decide) rfl ?_
       refine GO.back ?_
       refine GO.on rfl rfl rfl rfl ?_
       refine GO.fn rfl Try.func126 fok126.1 fok126.2 rfl rfl (impl_isUpper.calls HS  h27) (fun _ wd28 ⟨h29, HS⟩ => ⟨_, h29, ?_⟩)
       refine GO.back ?_
       refine GO.on rfl rfl rfl rfl ?_
       refine GO.move rfl rfl rfl ?_
       refine GO.back ?_
       refine GO.on rfl rfl rfl rfl ?_
       refine GO.rem rfl rfl rfl (by decide) rfl ?_
       refine GO.back ?_
       refine GO.on rfl rfl rfl rfl ?_
       refine GO.fn rfl Try.func126 fok126.1 fok126.2 rfl rfl (impl_isUpper.calls HS  h31) (fun _ wd32 ⟨h33, HS⟩ => ⟨_, h33, ?_⟩)
       refine GO.back ?_
       refine GO.on rfl rfl rfl rfl ?_
       refine GO.eqlB rfl rfl rfl Try.underlying4 rfl ?_
       refine GO.back ?_
       refine GO.pickT rfl rfl rfl rfl rfl ?_
       refine GO.assign rfl rfl rfl ?_
       refine GO.nil ?_
       obtain rfl := Option.some.inj H
       exact G.ret1 _ Try.func129 rfl rfl ⟨rfl, HS⟩
      ·
       refine G.region ?_
       refine GO.move rfl rfl rfl ?_
       refine GO.quo rfl rfl rfl (by decide) rfl ?_
       refine GO.ldBox (j := 0) HS rfl rfl rfl rfl na2 rfl ?_
       refine GO.eql rfl rfl rfl rfl ?_
       refine GO.move rfl rfl rfl ?_
       refine GO.known (t := 20) rfl (decide_eq_false c4) ?_
       refine GO.off rfl rfl rfl rfl rfl rfl ?_
       refine GO.off rfl rfl rfl rfl rfl rfl ?_
       refine GO.off rfl rfl rfl rfl rfl rfl ?_
       refine GO.off rfl rfl rfl rfl rfl rfl ?_
       refine GO.pickF rfl rfl rfl rfl rfl ?_
       refine GO.move rfl rfl rfl ?_
       refine GO.on rfl rfl rfl rfl ?_
       refine GO.move rfl rfl rfl ?_
       refine GO.back ?_
       refine GO.on rfl rfl rfl rfl ?_
       refine GO.quo rfl rfl rfl (by decide) rfl ?_
       refine GO.back ?_
       refine GO.on rfl rfl rfl rfl ?_
       refine GO.ldBox (j := 1) HS rfl rfl rfl rfl na2 rfl ?_
       refine GO.back ?_
       refine GO.on rfl rfl rfl rfl ?_
       refine GO.eql rfl rfl rfl rfl ?_
       refine GO.back ?_
       refine GO.on rfl rfl rfl rfl ?_
       refine GO.move rfl rfl rfl ?_
       refine GO.back ?_
       refine GO.known (t := 31) rfl (decide_eq_true c24) ?_
       refine GO.on rfl rfl rfl rfl ?_
       refine GO.move rfl rfl rfl ?_
       refine GO.back ?_
       refine GO.on rfl rfl rfl rfl ?_
       refine GO.quo rfl rfl rfl (by decide) rfl ?_
       refine GO.back ?_
       refine GO.on rfl rfl rfl rfl ?_
       refine GO.ldBox (j := 0) HS rfl rfl rfl rfl na2 rfl ?_
       refine GO.back ?_
       refine GO.on rfl rfl rfl rfl ?_
       refine GO.eql rfl rfl rfl rfl ?_
       refine GO.back ?_
       refine GO.on rfl rfl rfl rfl ?_
       refine GO.pickT rfl rfl rfl rfl rfl ?_
       refine GO.back ?_
       refine GO.pickF rfl rfl rfl rfl rfl ?_
       refine GO.move rfl rfl rfl ?_
       refine GO.known (t := 38) rfl (decide_eq_false c25) ?_
       refine GO.off rfl rfl rfl rfl rfl rfl ?_
       refine GO.off rfl rfl rfl rfl rfl rfl ?_
       refine GO.off rfl rfl rfl rfl rfl rfl ?_
       refine GO.off rfl rfl rfl rfl rfl rfl ?_
       refine GO.off rfl rfl rfl rfl rfl rfl ?_
       refine GO.off rfl rfl rfl rfl rfl rfl ?_
       refine GO.off rfl rfl rfl rfl rfl rfl ?_
       refine GO.off rfl rfl rfl rfl rfl rfl ?_
       refine GO.pickF rfl rfl rfl rfl rfl ?_
       refine GO.assign rfl rfl rfl ?_
       refine GO.nil ?_
       obtain rfl := Option.some.inj H
       exact G.ret1 _ Try.func129 rfl rfl ⟨rfl, HS⟩
     ·
      refine G.region ?_
      refine GO.move rfl rfl rfl ?_
      refine GO.quo rfl rfl rfl (by decide) rfl ?_
      refine GO.ldBox (j := 0) HS rfl rfl rfl rfl na2 rfl ?_
      refine GO.eql rfl rfl rfl rfl ?_
      refine GO.move rfl rfl rfl ?_
      refine GO.known (t := 20) rfl (decide_eq_false c4) ?_
      refine GO.off rfl rfl rfl rfl rfl rfl ?_
      refine GO.off rfl rfl rfl rfl rfl rfl ?_
      refine GO.off rfl rfl rfl rfl rfl rfl ?_
      refine GO.off rfl rfl rfl rfl rfl rfl ?_
      refine GO.pickF rfl rfl rfl rfl rfl ?_
      refine GO.move rfl rfl rfl ?_
      refine GO.on rfl rfl rfl rfl ?_
      refine GO.move rfl rfl rfl ?_
      refine GO.back ?_
      refine GO.on rfl rfl rfl rfl ?_
      refine GO.quo rfl rfl rfl (by decide) rfl ?_
      refine GO.back ?_
      refine GO.on rfl rfl rfl rfl ?_
      refine GO.ldBox (j := 1) HS rfl rfl rfl rfl na2 rfl ?_
      refine GO.back ?_
      refine GO.on rfl rfl rfl rfl ?_
      refine GO.eql rfl rfl rfl rfl ?_
      refine GO.back ?_
      refine GO.on rfl rfl rfl rfl ?_
      refine GO.move rfl rfl rfl ?_
      refine GO.back ?_
      refine GO.known (t := 31) rfl (decide_eq_false c24) ?_
      refine GO.off rfl rfl rfl rfl rfl rfl ?_
      refine GO.off rfl rfl rfl rfl rfl rfl ?_
      refine GO.off rfl rfl rfl rfl rfl rfl ?_
      refine GO.off rfl rfl rfl rfl rfl rfl ?_
      refine GO.on rfl rfl rfl rfl ?_
      refine GO.pickF rfl rfl rfl rfl rfl ?_
      refine GO.back ?_
      refine GO.pickF rfl rfl rfl rfl rfl ?_
      refine GO.move rfl rfl rfl ?_
      refine GO.off rfl rfl rfl rfl rfl rfl ?_
      refine GO.off rfl rfl rfl rfl rfl rfl ?_
      refine GO.off rfl rfl rfl rfl rfl rfl ?_
      refine GO.off rfl rfl rfl rfl rfl rfl ?_
      refine GO.off rfl rfl rfl rfl rfl rfl ?_
      refine GO.off rfl rfl rfl rfl rfl rfl ?_
      refine GO.off rfl rfl rfl rfl rfl rfl ?_
      refine GO.off rfl rfl rfl rfl rfl rfl ?_
      refine GO.pickF rfl rfl rfl rfl rfl ?_
      refine GO.assign rfl rfl rfl ?_
      refine GO.nil ?_
      obtain rfl := Option.some.inj H
      exact G.ret1 _ Try.func129 rfl rfl ⟨rfl, HS⟩
  ·
   refine G.yesB rfl (congrArg Bool.not (decide_eq_false c1)) ?_
   refine G.seq ?_
   refine G.region ?_
   refine GO.assign rfl rfl rfl ?_
   refine GO.nil ?_
   obtain rfl := Option.some.inj H
   exact G.ret1 _ Try.func129 rfl rfl ⟨rfl, HS⟩

set_option maxRecDepth 20000 in
set_option maxHeartbeats 40000000 in
theorem slices_IndexFunc_int64_int64_129.calls {w0 w : World} {L : List HObj} {K : Nat} {s : List (List Int)} {cap_2 : Int} {cap_4 : Int} {A_s : Option Addr} {c_s : Nat} {y_s : Nat → (Ty.slice 2 (TInt .i64)).Lay} {b_cap : Nat} {b_cap_3 : Nat} {r1 : Int} (HS : St w0 w (Box b_cap 2 [.int .i64 cap_2] :: Box b_cap_3 2 [.int .i64 cap_4] :: L)) (h_s : RdIn w0 L (Ty.slice 2 (TInt .i64)) A_s c_s y_s s) (H : slices_IndexFunc_int64_int64_129.f K s cap_2 cap_4 = some r1) :
    Calls Try.prog 73 #[.slice A_s s.length c_s, .func (.func 129) #[] #[.pointer (some ⟨b_cap, 0, none⟩), .pointer (some ⟨b_cap_3, 0, none⟩)]] w (slices_IndexFunc_int64_int64_129.post w0 L s cap_2 cap_4 A_s c_s y_s b_cap b_cap_3 r1) := by
  unfold slices_IndexFunc_int64_int64_129.f at H
  refine Calls.of_G Try.func73 rfl rfl rfl ?_
  refine G.seq ?_
  refine G.region ?_
  refine GO.assign rfl rfl rfl ?_
  refine GO.nil ?_
  refine G.seq ?_
  refine G.seq ?_
  refine G.region ?_
  refine GO.move rfl rfl rfl ?_
  refine GO.lenS rfl rfl Try.underlying42 rfl ?_
  refine GO.move rfl rfl rfl ?_
  refine GO.nil ?_
  refine G.block ?_
  refine G.loop ?_
  refine G.name (fun k_l1 hk_l1 => ?_)
  have at_l1 : ∀ m_l1, m_l1 ≤ K → ∀ (x8 : Int) (w : World), slices_IndexFunc_int64_int64_129.l1 K m_l1 s cap_2 cap_4 x8 = some r1 → St w0 w (Box b_cap 2 [.int .i64 cap_2] :: Box b_cap_3 2 [.int .i64 cap_4] :: L) → G Try.prog 73 19 [(0, .slice A_s s.length c_s), (1, .func (.func 129) #[] #[.pointer (some ⟨b_cap, 0, none⟩), .pointer (some ⟨b_cap_3, 0, none⟩)]), (7, .int .i64 (s.length : Int)), (8, .int .i64 x8)] k_l1 w (slices_IndexFunc_int64_int64_129.post w0 L s cap_2 cap_4 A_s c_s y_s b_cap b_cap_3 r1) := by
   intro m_l1
   induction m_l1 using Nat.strongRecOn with
   | _ m_l1 ih_l1 =>
    intro hm_l1 x8 w H HS
    cases m_l1 with
    | zero => rw [slices_IndexFunc_int64_int64_129.l1] at H; cases H
    | succ n_l1 =>
     rw [slices_IndexFunc_int64_int64_129.l1] at H
     subst hk_l1
     refine G.seq ?_
     refine G.region ?_
     refine GO.lss rfl rfl rfl rfl ?_
     refine GO.nil ?_
     refine G.seq ?_
     rcases ite_elim H with ⟨c16, H⟩ | ⟨c16, H⟩
     ·
      refine G.yesB rfl (decide_eq_true c16) ?_
      refine G.skip ?_
      refine G.seq ?_
      refine G.block ?_
      refine G.seq ?_
      refine G.region ?_
      refine GO.move rfl rfl rfl ?_
      refine GO.assign rfl rfl rfl ?_
      refine GO.nil ?_
      refine G.seq ?_
      obtain ⟨c17, H⟩ := ite_none H
      obtain ⟨t18, h19, H⟩ := Option.bind_eq_some_iff.1 H
      refine G.region ?_
      refine GO.move rfl rfl rfl ?_
      refine GO.move rfl rfl rfl ?_
      refine GO.move rfl rfl rfl ?_
      refine GO.ix rfl rfl rfl Try.underlying42 sz43 ((RdIn.drop 2 h_s) _ HS).2.2.1 c17.1 c17.2 rfl ?_
      refine GO.ldRd (T := (Ty.slice 2 (TInt .i64))) (n := x8.toNat) (o := 0) HS (RdIn.drop 2 h_s) rfl rfl (getD_some (d := []) (ltN c17)) rfl rfl na43 rfl ?_
      replace HS := HS.pick 2 [0, 1]
      refine GO.clo rfl rfl Try.func129 fok129.1 fok129.2 rfl rfl (impl_Diagram_isBigon_fn1_free.calls HS (RdIn.elem h_s c17.1 c17.2) h19) (fun _ wd20 ⟨h21, HS⟩ => ⟨_, h21, ?_⟩)
      refine GO.nil ?_
      rcases ite_elim H with ⟨c22, H⟩ | ⟨c22, H⟩
      ·
       refine G.yesB rfl c22 ?_
       refine G.seq ?_
       refine G.region ?_
       refine GO.move rfl rfl rfl ?_
       refine GO.assign rfl rfl rfl ?_
       refine GO.nil ?_
       obtain rfl := Option.some.inj H
       exact G.ret1 _ Try.func73 rfl rfl ⟨rfl, HS⟩
      ·
       refine G.noB rfl (bnot_of c22) ?_
       refine G.skip ?_
       refine G.blockEnd ?_
       refine G.region ?_
       refine GO.add rfl rfl rfl rfl ?_
       refine GO.move rfl rfl rfl ?_
       refine GO.nil ?_
       refine G.again ?_
       refine G.weak ?_ (ih_l1 n_l1 (Nat.lt_succ_of_le (Nat.le_refl _)) (Nat.le_of_succ_le hm_l1) _ _ H HS)
       exact ⟨rfl, rfl, rfl, rfl, trivial⟩
     ·
      refine G.noB rfl (decide_eq_false c16) ?_
      refine G.exit rfl ?_
      refine G.seq ?_
      refine G.region ?_
      refine GO.assign rfl rfl rfl ?_
      refine GO.nil ?_
      obtain rfl := Option.some.inj H
      exact G.ret1 _ Try.func73 rfl rfl ⟨rfl, HS⟩
  refine G.weak ?_ (at_l1 K (Nat.le_refl _) _ _ H HS)
  exact ⟨rfl, rfl, rfl, rfl, trivial⟩

set_option maxRecDepth 20000 in
set_option maxHeartbeats 40000000 in
theorem slices_ContainsFunc_int64_int64_129.calls {w0 w : World} {L : List HObj} {K : Nat} {s : List (List Int)} {cap_2 : Int} {cap_4 : Int} {A_s : Option Addr} {c_s : Nat} {y_s : Nat → (Ty.slice 2 (TInt .i64)).Lay} {b_cap : Nat} {b_cap_3 : Nat} {r1 : Bool} (HS : St w0 w (Box b_cap 2 [.int .i64 cap_2] :: Box b_cap_3 2 [.int .i64 cap_4] :: L)) (h_s : RdIn w0 L (Ty.slice 2 (TInt .i64)) A_s c_s y_s s) (H : slices_ContainsFunc_int64_int64_129.f K s cap_2 cap_4 = some r1) :
    Calls Try.prog 128 #[.slice A_s s.length c_s, .func (.func 129) #[] #[.pointer (some ⟨b_cap, 0, none⟩), .pointer (some ⟨b_cap_3, 0, none⟩)]] w (slices_ContainsFunc_int64_int64_129.post w0 L s cap_2 cap_4 A_s c_s y_s b_cap b_cap_3 r1) := by
  unfold slices_ContainsFunc_int64_int64_129.f at H
  refine Calls.of_G Try.func128 rfl rfl rfl ?_
  refine G.seq ?_
  refine G.region ?_
  refine GO.assign rfl rfl rfl ?_
  refine GO.nil ?_
  refine G.seq ?_
  obtain ⟨t1, h2, H⟩ := Option.bind_eq_some_iff.1 H
  refine G.region ?_
  refine GO.move rfl rfl rfl ?_
  refine GO.move rfl rfl rfl ?_
  replace HS := HS.pick 2 [0, 1]
  refine GO.fn rfl Try.func73 fok73.1 fok73.2 rfl rfl (slices_IndexFunc_int64_int64_129.calls HS h_s h2) (fun _ wd3 ⟨h4, HS⟩ => ⟨_, h4, ?_⟩)
  refine GO.geq rfl rfl rfl rfl ?_
  refine GO.assign rfl rfl rfl ?_
  refine GO.nil ?_
  obtain rfl := Option.some.inj H
  exact G.ret1 _ Try.func128 rfl rfl ⟨rfl, HS⟩

set_option maxRecDepth 20000 in
set_option maxHeartbeats 40000000 in
theorem impl_Diagram_isBigon.calls {w0 w : World} {L : List HObj} {K : Nat} {d_Crossings : List GCrossing} {d_Circles : Int} {a_from : List GEnd} {a_to : List GEnd} {c : Int} {e_ : Int} {A_d_Crossings : Option Addr} {c_d_Crossings : Nat} {A_a_from : Option Addr} {c_a_from : Nat} {A_a_to : Option Addr} {c_a_to : Nat} {r1 : Bool} (HS : St w0 w (L)) (h_d_Crossings : RdIn w0 L T_GCrossing A_d_Crossings c_d_Crossings (fun _ => ()) d_Crossings) (h_a_from : RdIn w0 L T_GEnd A_a_from c_a_from (fun _ => ()) a_from) (h_a_to : RdIn w0 L T_GEnd A_a_to c_a_to (fun _ => ()) a_to) (H : impl_Diagram_isBigon.f K d_Crossings d_Circles a_from a_to c e_ = some r1) :
    Calls Try.prog 81 #[.agg [.slice A_d_Crossings d_Crossings.length c_d_Crossings, .int .i64 d_Circles].toArray, .agg [.slice A_a_from a_from.length c_a_from, .slice A_a_to a_to.length c_a_to].toArray, .int .i64 c, .int .i64 e_] w (impl_Diagram_isBigon.post w0 L d_Crossings d_Circles a_from a_to c e_ A_d_Crossings c_d_Crossings A_a_from c_a_from A_a_to c_a_to r1) := by
  unfold impl_Diagram_isBigon.f at H
  refine Calls.of_G Try.func81 rfl rfl rfl ?_
  refine G.seq ?_
  refine G.region ?_
  refine GO.box (cs := [.slice A_d_Crossings d_Crossings.length c_d_Crossings, .int .i64 d_Circles]) HS rfl rfl rfl rfl ?_; intro b1 wd2 HS
  refine GO.box (cs := [.slice A_a_from a_from.length c_a_from, .slice A_a_to a_to.length c_a_to]) HS rfl rfl rfl rfl ?_; intro b3 wd4 HS
  refine GO.box (cs := [.int .i64 c]) HS rfl rfl rfl rfl ?_; intro b5 wd6 HS
  refine GO.box (cs := [.int .i64 e_]) HS rfl rfl rfl rfl ?_; intro b7 wd8 HS
  refine GO.assign rfl rfl rfl ?_
  refine GO.nil ?_
  refine G.seq ?_
  rcases ite_elim H with ⟨c9, H⟩ | ⟨c9, H⟩
  ·
   refine G.region ?_
   refine GO.ldBox (j := 1) HS rfl rfl rfl rfl na2 rfl ?_
   refine GO.ldBox (j := 0) HS rfl rfl rfl rfl na2 rfl ?_
   refine GO.neq rfl rfl rfl rfl ?_
   refine GO.move rfl rfl rfl ?_
   refine GO.known (t := 12) rfl (congrArg Bool.not (decide_eq_true c9)) ?_
   refine GO.off rfl rfl rfl rfl rfl rfl ?_
   refine GO.off rfl rfl rfl rfl rfl rfl ?_
   refine GO.off rfl rfl rfl rfl rfl rfl ?_
   refine GO.off rfl rfl rfl rfl rfl rfl ?_
   refine GO.off rfl rfl rfl rfl rfl rfl ?_
   refine GO.pickF rfl rfl rfl rfl rfl ?_
   refine GO.assign rfl rfl rfl ?_
   refine GO.nil ?_
   obtain rfl := Option.some.inj H
   exact G.ret1 _ Try.func81 rfl rfl ⟨rfl, (HS.pick 4 [])⟩
  ·
   obtain ⟨t10, h11, H⟩ := Option.bind_eq_some_iff.1 H
   obtain ⟨t17, h18, H⟩ := Option.bind_eq_some_iff.1 H
   refine G.region ?_
   refine GO.ldBox (j := 1) HS rfl rfl rfl rfl na2 rfl ?_
   refine GO.ldBox (j := 0) HS rfl rfl rfl rfl na2 rfl ?_
   refine GO.neq rfl rfl rfl rfl ?_
   refine GO.move rfl rfl rfl ?_
   refine GO.known (t := 12) rfl (congrArg Bool.not (decide_eq_false c9)) ?_
   refine GO.on rfl rfl rfl rfl ?_
   refine GO.ldBoxA (j := 3) ([.slice A_d_Crossings d_Crossings.length c_d_Crossings, .int .i64 d_Circles]) HS rfl rfl rfl rfl ag28 rfl ?_
   refine GO.back ?_
   refine GO.on rfl rfl rfl rfl ?_
   refine GO.ldBoxA (j := 2) ([.slice A_a_from a_from.length c_a_from, .slice A_a_to a_to.length c_a_to]) HS rfl rfl rfl rfl ag63 rfl ?_
   refine GO.back ?_
   refine GO.on rfl rfl rfl rfl ?_
   refine GO.fn rfl Try.func111 fok111.1 fok111.2 rfl rfl (impl_Diagram_regions.calls HS (RdIn.drop 4 h_d_Crossings) (RdIn.drop 4 h_a_from) (RdIn.drop 4 h_a_to) h11) (fun _ wd15 ⟨A12, c13, y14, h16, HS⟩ => ⟨_, h16, ?_⟩)
   refine GO.back ?_
   refine GO.on rfl rfl rfl rfl ?_
   refine GO.mkFunc rfl rfl rfl rfl ?_
   refine GO.back ?_
   refine GO.on rfl rfl rfl rfl ?_
   replace HS := HS.pick 5 [2, 1, 0, 3, 4]
   refine GO.fn rfl Try.func128 fok128.1 fok128.2 rfl rfl (slices_ContainsFunc_int64_int64_129.calls HS (RdIn.own (j := 0) rfl) h18) (fun _ wd19 ⟨h20, HS⟩ => ⟨_, h20, ?_⟩)
   refine GO.back ?_
   refine GO.pickT rfl rfl rfl rfl rfl ?_
   refine GO.assign rfl rfl rfl ?_
   refine GO.nil ?_
   obtain rfl := Option.some.inj H
   exact G.ret1 _ Try.func81 rfl rfl ⟨rfl, (HS.pick 5 [])⟩

set_option maxRecDepth 20000 in
set_option maxHeartbeats 40000000 in
theorem slices_Clone_impl_Crossing_impl_Crossing.calls {w0 w : World} {L : List HObj} {s : List GCrossing} {A_s : Option Addr} {c_s : Nat} {r1 : List GCrossing} (HS : St w0 w (L)) (h_s : RdIn w0 L T_GCrossing A_s c_s (fun _ => ()) s) (H : slices_Clone_impl_Crossing_impl_Crossing.f s = some r1) :
    Calls Try.prog 112 #[.slice A_s s.length c_s] w (slices_Clone_impl_Crossing_impl_Crossing.post w0 L s A_s c_s r1) := by
  unfold slices_Clone_impl_Crossing_impl_Crossing.f at H
  refine Calls.of_G Try.func112 rfl rfl rfl ?_
  refine G.seq ?_
  refine G.region ?_
  refine GO.assign rfl rfl rfl ?_
  refine GO.nil ?_
  refine G.seq ?_
  refine G.seq ?_
  refine G.region ?_
  refine GO.move rfl rfl rfl ?_
  refine GO.eqNil rfl rfl rfl Try.underlying26 rfl ?_
  refine GO.nil ?_
  rcases Decidable.em (A_s.isNone = true) with c1 | c1
  ·
   obtain rfl := nil_of_none h_s HS c1
   refine G.yesB rfl c1 ?_
   refine G.seq ?_
   refine G.region ?_
   refine GO.assign rfl rfl rfl ?_
   refine GO.nil ?_
   replace HS := HS.nilRow T_GCrossing 58 (fun _ => ())
   replace H : some ([] : List GCrossing) = some r1 := H
   obtain rfl := Option.some.inj H
   exact G.ret1 _ Try.func112 rfl rfl ⟨_, _, rfl, HS⟩
  ·
   refine G.noB rfl (bnot_of c1) ?_
   refine G.skip ?_
   refine G.seq ?_
   obtain ⟨c7, H⟩ := ite_none H
   refine G.region ?_
   refine GO.buildS (el := 58) ([]) HS rfl rfl (fun _ => by kernel_rfl) rfl ?_; intro b2 wd3 HS
   refine GO.move rfl rfl rfl ?_
   replace HS := HS.boxRow (T := T_GCrossing) (j := 0) rfl flat_flat (fun _ => ()) ([] : List GCrossing) rfl (bndL rfl)
   refine GO.lenC (t := 5) (m := ([] : List GCrossing).length) (c' := ([] : List GCrossing).length) rfl rfl rfl ?_
   refine GO.appS (T := T_GCrossing) (j := 0) HS rfl (RdIn.drop 1 h_s) flat_flat rfl rfl rfl Try.underlying26 inf58 rfl rfl rfl c7 rfl (fun _ => rfl) ?_; intro A5 c6 wd4 HS
   refine GO.assign rfl rfl rfl ?_
   refine GO.nil ?_
   obtain rfl := Option.some.inj H
   exact G.ret1 _ Try.func112 rfl rfl ⟨_, _, rfl, HS⟩

set_option maxRecDepth 20000 in
set_option maxHeartbeats 40000000 in
theorem impl_copyDiagram.calls {w0 w : World} {L : List HObj} {d_Crossings : List GCrossing} {d_Circles : Int} {A_d_Crossings : Option Addr} {c_d_Crossings : Nat} {r1 : List GCrossing} {r2 : Int} (HS : St w0 w (L)) (h_d_Crossings : RdIn w0 L T_GCrossing A_d_Crossings c_d_Crossings (fun _ => ()) d_Crossings) (H : impl_copyDiagram.f d_Crossings d_Circles = some (r1, r2)) :
    Calls Try.prog 49 #[.agg [.slice A_d_Crossings d_Crossings.length c_d_Crossings, .int .i64 d_Circles].toArray] w (impl_copyDiagram.post w0 L d_Crossings d_Circles A_d_Crossings c_d_Crossings r1 r2) := by
  unfold impl_copyDiagram.f at H
  refine Calls.of_G Try.func49 rfl rfl rfl ?_
  refine G.seq ?_
  refine G.region ?_
  refine GO.box (cs := [.slice A_d_Crossings d_Crossings.length c_d_Crossings, .int .i64 d_Circles]) HS rfl rfl rfl rfl ?_; intro b1 wd2 HS
  refine GO.alloc HS rfl zr28 rfl rfl ?_; intro b3 wd4 HS
  refine GO.nil ?_
  refine G.seq ?_
  obtain ⟨t5, h6, H⟩ := Option.bind_eq_some_iff.1 H
  refine G.region ?_
  refine GO.fld (⟨b1, 0, none⟩) rfl rfl fl28_0 rfl rfl ?_
  refine GO.ldBox (j := 1) HS rfl rfl rfl rfl na26 rfl ?_
  refine GO.fn rfl Try.func112 fok112.1 fok112.2 rfl rfl (slices_Clone_impl_Crossing_impl_Crossing.calls HS (RdIn.drop 2 h_d_Crossings) h6) (fun _ wd9 ⟨A7, c8, h10, HS⟩ => ⟨_, h10, ?_⟩)
  refine GO.fld (⟨b1, 0, none⟩) rfl rfl fl28_0 rfl rfl ?_
  refine GO.stBox (j := 2) (vs := [.slice A7 t5.length c8]) ([.slice A7 t5.length c8, .int .i64 d_Circles]) HS rfl rfl rfl rfl rfl (htN na26 rfl) rfl rfl rfl ?_; intro wd11 HS
  refine GO.nil ?_
  refine G.seq ?_
  refine G.region ?_
  refine GO.ldBoxA (j := 2) ([.slice A7 t5.length c8, .int .i64 d_Circles]) HS rfl rfl rfl rfl ag28 rfl ?_
  refine GO.stBox (j := 1) (vs := [.slice A7 t5.length c8, .int .i64 d_Circles]) ([.slice A7 t5.length c8, .int .i64 d_Circles]) HS rfl rfl rfl rfl rfl (htA ag28) rfl rfl rfl ?_; intro wd12 HS
  refine GO.nil ?_
  obtain ⟨rfl, rfl⟩ := some2 H
  exact G.ret1 _ Try.func49 rfl (Res1.boxA (j := 1) (vs := [.slice A7 t5.length c8, .int .i64 d_Circles]) HS rfl rfl rfl ag28) ⟨_, _, rfl, (HS.pick 3 [0])⟩

set_option maxRecDepth 20000 in
set_option maxHeartbeats 40000000 in
theorem slices_Repeat_int64_int64.calls {w0 w : World} {L : List HObj} {K : Nat} {x : List Int} {count : Int} {A_x : Option Addr} {c_x : Nat} {r1 : List Int} (HS : St w0 w (L)) (h_x : RdIn w0 L (TInt .i64) A_x c_x (fun _ => ()) x) (H : slices_Repeat_int64_int64.f K x count = some r1) :
    Calls Try.prog 118 #[.slice A_x x.length c_x, .int .i64 count] w (slices_Repeat_int64_int64.post w0 L x count A_x c_x r1) := by
  unfold slices_Repeat_int64_int64.f at H
  refine Calls.of_G Try.func118 rfl rfl rfl ?_
  refine G.seq ?_
  refine G.region ?_
  refine GO.assign rfl rfl rfl ?_
  refine GO.nil ?_
  refine G.seq ?_
  refine G.seq ?_
  refine G.region ?_
  refine GO.move rfl rfl rfl ?_
  refine GO.lss rfl rfl rfl rfl ?_
  refine GO.nil ?_
  rcases ite_elim H with ⟨c2, H⟩ | ⟨c2, H⟩
  ·
   refine G.yesB rfl (decide_eq_true c2) ?_
   cases H
  ·
   refine G.noB rfl (decide_eq_false c2) ?_
   refine G.skip ?_
   refine G.seq ?_
   obtain ⟨t3, t4, h5, H⟩ := bind2_elim H
   refine G.region ?_
   refine GO.move rfl rfl rfl ?_
   refine GO.lenS rfl rfl Try.underlying43 rfl ?_
   refine GO.conv rfl rfl Try.underlying3 Try.underlying156 rfl ?_
   refine GO.move rfl rfl rfl ?_
   refine GO.conv rfl rfl Try.underlying3 Try.underlying156 rfl ?_
   refine GO.fn rfl Try.func162 fok162.1 fok162.2 rfl rfl (math_bits_Mul.calls HS  h5) (fun _ wd6 ⟨h7, HS⟩ => ⟨_, h7, ?_⟩)
   refine GO.move rfl rfl rfl ?_
   refine GO.extract rfl rfl rfl rfl ?_
   refine GO.extract rfl rfl rfl rfl ?_
   refine GO.assign rfl rfl rfl ?_
   refine GO.assign rfl rfl rfl ?_
   refine GO.nil ?_
   refine G.seq ?_
   refine G.seq ?_
   refine G.nameT (fun k_j2 hk_j2 => ?_)
   have at_j2 : ∀ m_j2, m_j2 ≤ K → ∀ (x10 : Bool) (w : World), slices_Repeat_int64_int64.j2 K m_j2 x t4 x10 = some r1 → St w0 w (L) → G Try.prog 118 48 [(0, .slice A_x x.length c_x), (6, .int .u64 t4), (26, .bool x10)] k_j2 w (slices_Repeat_int64_int64.post w0 L x count A_x c_x r1) := by
    intro m_j2 hm_j2 x10 w H HS
    cases m_j2 with
    | zero => rw [slices_Repeat_int64_int64.j2] at H; cases H
    | succ n_j2 =>
     rw [slices_Repeat_int64_int64.j2] at H
     subst hk_j2
     rcases ite_elim H with ⟨c12, H⟩ | ⟨c12, H⟩
     ·
      refine G.yesB rfl c12 ?_
      cases H
     ·
      refine G.noB rfl (bnot_of c12) ?_
      refine G.skip ?_
      refine G.seq ?_
      obtain ⟨c13, H⟩ := ite_none H
      obtain ⟨c14, H⟩ := ite_none H
      refine G.region ?_
      refine GO.move rfl rfl rfl ?_
      refine GO.conv rfl rfl Try.underlying156 Try.underlying3 rfl ?_
      refine GO.make (T := (TInt .i64)) 0 () HS flat_flat rfl rfl rfl Try.underlying43 inf2 rfl rfl rfl c13 c14 rfl ?_; intro b15 wd16 HS
      refine GO.assign rfl rfl rfl ?_
      refine GO.nil ?_
      refine G.seq ?_
      have h18 := over_len (xs := (List.replicate (w64 (t4)).toNat (0 : Int))) (ys := x) (Nat.le_of_eq (Nat.zero_add _))
      refine G.region ?_
      refine GO.move rfl rfl rfl ?_
      refine GO.move rfl rfl rfl ?_
      refine GO.copyP (T := (TInt .i64)) (j := 0) (l := 0) HS rfl (RdIn.drop 1 h_x) flat_flat rfl rfl rfl Try.underlying43 sz2 rfl wholeC (Nat.le_of_eq (Nat.zero_add _)) (fun _ _ => rfl) (fun _ => rfl) ?_; intro wd17 HS
      refine GO.assign rfl rfl rfl ?_
      refine GO.nil ?_
      refine G.len (t := 7) (m := (over (List.replicate (w64 (t4)).toNat (0 : Int)) 0 (x.take ((List.replicate (w64 (t4)).toNat (0 : Int)).length))).length) rfl (by simp only [List.length_set, h18] <;> rfl) ?_
      refine G.seq ?_
      refine G.block ?_
      refine G.loop ?_
      refine G.name (fun k_l4 hk_l4 => ?_)
      have at_l4 : ∀ m_l4, m_l4 ≤ n_j2 → ∀ (newslice_23 : List Int) (n_24 : Int) (w : World), slices_Repeat_int64_int64.l4 K m_l4 newslice_23 n_24 = some r1 → St w0 w (Own (TInt .i64) 2 (some ⟨b15, 0, none⟩) ((w64 (t4)).toNat) (fun _ => ()) newslice_23 :: L) → G Try.prog 118 48 [(7, .slice (some ⟨b15, 0, none⟩) newslice_23.length ((w64 (t4)).toNat)), (8, .int .i64 n_24)] k_l4 w (slices_Repeat_int64_int64.post w0 L x count A_x c_x r1) := by
       intro m_l4
       induction m_l4 using Nat.strongRecOn with
       | _ m_l4 ih_l4 =>
        intro hm_l4 newslice_23 n_24 w H HS
        cases m_l4 with
        | zero => rw [slices_Repeat_int64_int64.l4] at H; cases H
        | succ n_l4 =>
         rw [slices_Repeat_int64_int64.l4] at H
         subst hk_l4
         refine G.seq ?_
         refine G.seq ?_
         refine G.region ?_
         refine GO.move rfl rfl rfl ?_
         refine GO.move rfl rfl rfl ?_
         refine GO.lenS rfl rfl Try.underlying43 rfl ?_
         refine GO.lss rfl rfl rfl rfl ?_
         refine GO.nil ?_
         rcases ite_elim H with ⟨c29, H⟩ | ⟨c29, H⟩
         ·
          refine G.yesB rfl (decide_eq_true c29) ?_
          refine G.skip ?_
          refine G.block ?_
          obtain ⟨c30, H⟩ := ite_none H
          have h32 := over_len (xs := newslice_23) (ys := ((newslice_23.take n_24.toNat).drop 0)) (cutN (leN c30) (Nat.le_refl _))
          refine G.regionAny mixed (by decide) (fun b a w => ∃ (Y1_0 : Value) (Y2_1 : Value) (Y3_2 : Value) (Y4_3 : Value) (Y5_4 : Value) (Y6_5 : Value) (Y7_6 : Value) (Y8_7 : Value) (Y9_8 : Value) (Y10_9 : Value) (O11_2 : HObj), Sat 48 [(8, Y10_9), (38, Y1_0), (39, Y2_1), (40, Y3_2), (41, Y4_3), (42, Y5_4), (43, Y6_5), (44, Y7_6), (45, Y8_7), (46, Y9_8), (7, .slice (some ⟨b15, 0, none⟩) newslice_23.length ((w64 (t4)).toNat))] a ∧ St w0 w (O11_2 :: L) ∧ (b 9 = true → Y10_9 = (.int .i64 (w64 (n_24 + (((((newslice_23.take n_24.toNat).drop 0)).take (((newslice_23.take newslice_23.length).drop n_24.toNat).length)).length : Int))))) ∧ (b 9 = false → Y10_9 = (.int .i64 n_24)) ∧ (b 0 = true → Y1_0 = (.int .i64 n_24)) ∧ (b 1 = true → Y2_1 = (.slice (some ⟨b15, 0, none⟩) newslice_23.length ((w64 (t4)).toNat))) ∧ (b 2 = true → Y3_2 = (.int .i64 n_24)) ∧ (b 3 = true → Y4_3 = (.slice (cutA (some ⟨b15, 0, none⟩) n_24.toNat ((w64 (t4)).toNat) 1) ((newslice_23.take newslice_23.length).drop n_24.toNat).length ((w64 (t4)).toNat - n_24.toNat))) ∧ (b 4 = true → Y5_4 = (.slice (some ⟨b15, 0, none⟩) newslice_23.length ((w64 (t4)).toNat))) ∧ (b 5 = true → Y6_5 = (.int .i64 n_24)) ∧ (b 6 = true → Y7_6 = (.slice (cutA (some ⟨b15, 0, none⟩) 0 ((w64 (t4)).toNat) 1) ((newslice_23.take n_24.toNat).drop 0).length ((w64 (t4)).toNat - 0))) ∧ (b 7 = true → Y8_7 = (.int .i64 (((((newslice_23.take n_24.toNat).drop 0)).take (((newslice_23.take newslice_23.length).drop n_24.toNat).length)).length : Int))) ∧ (b 8 = true → Y9_8 = (.int .i64 (w64 (n_24 + (((((newslice_23.take n_24.toNat).drop 0)).take (((newslice_23.take newslice_23.length).drop n_24.toNat).length)).length : Int))))) ∧ (b 7 = false → O11_2 = Own (TInt .i64) 2 (some ⟨b15, 0, none⟩) ((w64 (t4)).toNat) (fun _ => ()) newslice_23) ∧ (b 7 = true → O11_2 = Own (TInt .i64) 2 (some ⟨b15, 0, none⟩) ((w64 (t4)).toNat) (fun _ => ()) (over newslice_23 n_24.toNat (((newslice_23.take n_24.toNat).drop 0).take (((newslice_23.take newslice_23.length).drop n_24.toNat).length))))) ?_ ?_ ?_
          ·
           intro a hs
           obtain ⟨Y1_0, hs⟩ := hs.ext (d := 38) rfl
           obtain ⟨Y2_1, hs⟩ := hs.ext (d := 39) rfl
           obtain ⟨Y3_2, hs⟩ := hs.ext (d := 40) rfl
           obtain ⟨Y4_3, hs⟩ := hs.ext (d := 41) rfl
           obtain ⟨Y5_4, hs⟩ := hs.ext (d := 42) rfl
           obtain ⟨Y6_5, hs⟩ := hs.ext (d := 43) rfl
           obtain ⟨Y7_6, hs⟩ := hs.ext (d := 44) rfl
           obtain ⟨Y8_7, hs⟩ := hs.ext (d := 45) rfl
           obtain ⟨Y9_8, hs⟩ := hs.ext (d := 46) rfl
           exact ⟨Y1_0, Y2_1, Y3_2, Y4_3, Y5_4, Y6_5, Y7_6, Y8_7, Y9_8, (.int .i64 n_24), Own (TInt .i64) 2 (some ⟨b15, 0, none⟩) ((w64 (t4)).toNat) (fun _ => ()) newslice_23, hs.weak ⟨rfl, rfl, rfl, rfl, rfl, rfl, rfl, rfl, rfl, rfl, rfl, trivial⟩, (HS.drew.pick 1 [0]), fun h => Bool.noConfusion h, fun _ => rfl, fun h => Bool.noConfusion h, fun h => Bool.noConfusion h, fun h => Bool.noConfusion h, fun h => Bool.noConfusion h, fun h => Bool.noConfusion h, fun h => Bool.noConfusion h, fun h => Bool.noConfusion h, fun h => Bool.noConfusion h, fun h => Bool.noConfusion h, fun _ => rfl, fun h => Bool.noConfusion h⟩
          ·
           intro j hj b a w
           refine exI fun Y1_0 => exI fun Y2_1 => exI fun Y3_2 => exI fun Y4_3 => exI fun Y5_4 => exI fun Y6_5 => exI fun Y7_6 => exI fun Y8_7 => exI fun Y9_8 => exI fun Y10_9 => exI fun O11_2 => anI fun hs => anI fun HS => anI fun f9 => anI fun g9 => anI fun f0 => anI fun f1 => anI fun f2 => anI fun f3 => anI fun f4 => anI fun f5 => anI fun f6 => anI fun f7 => anI fun f8 => anI fun o2_0 => fun o2_1 hb hd hcl => ?_
           match j, hj with
           | 0, _ =>
            have d9 : b 9 = false := bfalse (fun hh => hcl 9 (by decide) (hh) 0 (by decide)) hb
            obtain rfl := g9 d9
            refine GO.at hs ?_
            refine GO.move rfl rfl rfl ?_
            refine GO.fin (fun a hs => ?_)
            exact ⟨(.int .i64 n_24), _, _, _, _, _, _, _, _, _, _, by exact hs.setAt 1 rfl, HS, f9, g9, fun _ => rfl, f1, f2, f3, f4, f5, f6, f7, f8, o2_0, o2_1⟩
           | 1, _ =>
            refine GO.at hs ?_
            refine GO.move rfl rfl rfl ?_
            refine GO.fin (fun a hs => ?_)
            exact ⟨_, (.slice (some ⟨b15, 0, none⟩) newslice_23.length ((w64 (t4)).toNat)), _, _, _, _, _, _, _, _, _, by exact hs.setAt 2 rfl, HS, f9, g9, f0, fun _ => rfl, f2, f3, f4, f5, f6, f7, f8, o2_0, o2_1⟩
           | 2, _ =>
            have d9 : b 9 = false := bfalse (fun hh => hcl 9 (by decide) (hh) 2 (by decide)) hb
            obtain rfl := g9 d9
            refine GO.at hs ?_
            refine GO.move rfl rfl rfl ?_
            refine GO.fin (fun a hs => ?_)
            exact ⟨_, _, (.int .i64 n_24), _, _, _, _, _, _, _, _, by exact hs.setAt 3 rfl, HS, f9, g9, f0, f1, fun _ => rfl, f3, f4, f5, f6, f7, f8, o2_0, o2_1⟩
           | 3, _ =>
            have hb1 : b 1 = true := hd 1 (by decide)
            obtain rfl := f1 hb1
            have hb2 : b 2 = true := hd 2 (by decide)
            obtain rfl := f2 hb2
            have d7 : b 7 = false := bfalse (fun hh => hcl 7 (by decide) (hh) 3 (by decide)) hb
            obtain rfl := o2_0 d7
            refine GO.at hs ?_
            refine GO.slL (T := (TInt .i64)) HS (RdIn.own (j := 0) rfl) rfl rfl rfl Try.underlying43 sz2 c30.1 c30.2 rfl ?_
            refine GO.fin (fun a hs => ?_)
            exact ⟨_, _, _, (.slice (cutA (some ⟨b15, 0, none⟩) n_24.toNat ((w64 (t4)).toNat) 1) ((newslice_23.take newslice_23.length).drop n_24.toNat).length ((w64 (t4)).toNat - n_24.toNat)), _, _, _, _, _, _, _, by exact hs.setAt 4 rfl, HS, f9, g9, f0, f1, f2, fun _ => rfl, f4, f5, f6, f7, f8, o2_0, o2_1⟩
           | 4, _ =>
            refine GO.at hs ?_
            refine GO.move rfl rfl rfl ?_
            refine GO.fin (fun a hs => ?_)
            exact ⟨_, _, _, _, (.slice (some ⟨b15, 0, none⟩) newslice_23.length ((w64 (t4)).toNat)), _, _, _, _, _, _, by exact hs.setAt 5 rfl, HS, f9, g9, f0, f1, f2, f3, fun _ => rfl, f5, f6, f7, f8, o2_0, o2_1⟩
           | 5, _ =>
            have d9 : b 9 = false := bfalse (fun hh => hcl 9 (by decide) (hh) 5 (by decide)) hb
            obtain rfl := g9 d9
            refine GO.at hs ?_
            refine GO.move rfl rfl rfl ?_
            refine GO.fin (fun a hs => ?_)
            exact ⟨_, _, _, _, _, (.int .i64 n_24), _, _, _, _, _, by exact hs.setAt 6 rfl, HS, f9, g9, f0, f1, f2, f3, f4, fun _ => rfl, f6, f7, f8, o2_0, o2_1⟩
           | 6, _ =>
            have hb4 : b 4 = true := hd 4 (by decide)
            obtain rfl := f4 hb4
            have hb5 : b 5 = true := hd 5 (by decide)
            obtain rfl := f5 hb5
            have d7 : b 7 = false := bfalse (fun hh => hcl 7 (by decide) (hh) 6 (by decide)) hb
            obtain rfl := o2_0 d7
            refine GO.at hs ?_
            refine GO.slH (T := (TInt .i64)) HS (RdIn.own (j := 0) rfl) rfl rfl rfl Try.underlying43 sz2 c30.1 c30.2 rfl ?_
            refine GO.fin (fun a hs => ?_)
            exact ⟨_, _, _, _, _, _, (.slice (cutA (some ⟨b15, 0, none⟩) 0 ((w64 (t4)).toNat) 1) ((newslice_23.take n_24.toNat).drop 0).length ((w64 (t4)).toNat - 0)), _, _, _, _, by exact hs.setAt 7 rfl, HS, f9, g9, f0, f1, f2, f3, f4, f5, fun _ => rfl, f7, f8, o2_0, o2_1⟩
           | 7, _ =>
            have hb3 : b 3 = true := hd 3 (by decide)
            obtain rfl := f3 hb3
            have hb6 : b 6 = true := hd 6 (by decide)
            obtain rfl := f6 hb6
            obtain rfl := o2_0 hb
            refine GO.at hs ?_
            refine GO.copyP (T := (TInt .i64)) (j := 0) (l := n_24.toNat) HS rfl (RdIn.cut (RdIn.own (j := 0) rfl) (Nat.zero_le _) (leN c30)) flat_flat rfl rfl rfl Try.underlying43 sz2 rfl (cutC (Nat.le_refl _) ((RdIn.own (j := 0) rfl) _ HS).1) (cutN (leN c30) (Nat.le_refl _)) (fun _ _ => rfl) (fun _ => rfl) ?_; intro wd31 HS
            refine GO.fin (fun a hs => ?_)
            exact ⟨_, _, _, _, _, _, _, (.int .i64 (((((newslice_23.take n_24.toNat).drop 0)).take (((newslice_23.take newslice_23.length).drop n_24.toNat).length)).length : Int)), _, _, Own (TInt .i64) 2 (some ⟨b15, 0, none⟩) ((w64 (t4)).toNat) (fun _ => ()) (over newslice_23 n_24.toNat (((newslice_23.take n_24.toNat).drop 0).take (((newslice_23.take newslice_23.length).drop n_24.toNat).length))), by exact hs.setAt 8 rfl, HS, f9, g9, f0, f1, f2, f3, f4, f5, f6, fun _ => rfl, f8, fun h => Bool.noConfusion h, fun _ => rfl⟩
           | 8, _ =>
            have hb0 : b 0 = true := hd 0 (by decide)
            obtain rfl := f0 hb0
            have hb7 : b 7 = true := hd 7 (by decide)
            obtain rfl := f7 hb7
            refine GO.at hs ?_
            refine GO.add rfl rfl rfl rfl ?_
            refine GO.fin (fun a hs => ?_)
            exact ⟨_, _, _, _, _, _, _, _, (.int .i64 (w64 (n_24 + (((((newslice_23.take n_24.toNat).drop 0)).take (((newslice_23.take newslice_23.length).drop n_24.toNat).length)).length : Int)))), _, _, by exact hs.setAt 9 rfl, HS, f9, g9, f0, f1, f2, f3, f4, f5, f6, f7, fun _ => rfl, o2_0, o2_1⟩
           | 9, _ =>
            have hb8 : b 8 = true := hd 8 (by decide)
            obtain rfl := f8 hb8
            refine GO.at hs ?_
            refine GO.assign rfl rfl rfl ?_
            refine GO.fin (fun a hs => ?_)
            exact ⟨_, _, _, _, _, _, _, _, _, (.int .i64 (w64 (n_24 + (((((newslice_23.take n_24.toNat).drop 0)).take (((newslice_23.take newslice_23.length).drop n_24.toNat).length)).length : Int)))), _, by exact hs.setAt 0 rfl, HS, fun _ => rfl, fun h => Bool.noConfusion h, f0, f1, f2, f3, f4, f5, f6, f7, f8, o2_0, o2_1⟩
           | k + 10, hj => exact absurd hj (Nat.not_lt.2 (Nat.le_add_left 10 k))
          ·
           intro b a w hall
           refine exI fun Y1_0 => exI fun Y2_1 => exI fun Y3_2 => exI fun Y4_3 => exI fun Y5_4 => exI fun Y6_5 => exI fun Y7_6 => exI fun Y8_7 => exI fun Y9_8 => exI fun Y10_9 => exI fun O11_2 => anI fun hs => anI fun HS => anI fun f9 => anI fun g9 => anI fun f0 => anI fun f1 => anI fun f2 => anI fun f3 => anI fun f4 => anI fun f5 => anI fun f6 => anI fun f7 => anI fun f8 => anI fun o2_0 => fun o2_1 => ?_
           obtain rfl := f9 (hall 9 (by decide))
           obtain rfl := f0 (hall 0 (by decide))
           obtain rfl := f1 (hall 1 (by decide))
           obtain rfl := f2 (hall 2 (by decide))
           obtain rfl := f3 (hall 3 (by decide))
           obtain rfl := f4 (hall 4 (by decide))
           obtain rfl := f5 (hall 5 (by decide))
           obtain rfl := f6 (hall 6 (by decide))
           obtain rfl := f7 (hall 7 (by decide))
           obtain rfl := f8 (hall 8 (by decide))
           obtain rfl := o2_1 (hall 7 (by decide))
           refine G.at hs ?_
           refine G.len (t := 7) (m := (over newslice_23 n_24.toNat (((newslice_23.take n_24.toNat).drop 0).take (((newslice_23.take newslice_23.length).drop n_24.toNat).length))).length) rfl (by simp only [List.length_set, h32] <;> rfl) ?_
           refine G.blockEnd ?_
           refine G.again ?_
           refine G.weak ?_ (ih_l4 n_l4 (Nat.lt_succ_of_le (Nat.le_refl _)) (Nat.le_of_succ_le hm_l4) _ _ _ H HS)
           exact ⟨rfl, rfl, trivial⟩
         ·
          refine G.noB rfl (decide_eq_false c29) ?_
          refine G.exit rfl ?_
          refine G.seq ?_
          refine G.region ?_
          refine GO.move rfl rfl rfl ?_
          refine GO.assign rfl rfl rfl ?_
          refine GO.nil ?_
          obtain rfl := Option.some.inj H
          exact G.ret1 _ Try.func118 rfl rfl ⟨_, _, rfl, HS⟩
      refine G.weak ?_ (at_l4 n_j2 (Nat.le_refl _) _ _ _ H HS)
      exact ⟨rfl, rfl, trivial⟩
   rcases ite_elim H with ⟨c33, H⟩ | ⟨c33, H⟩
   ·
    refine G.region ?_
    refine GO.move rfl rfl rfl ?_
    refine GO.gtr rfl rfl rfl rfl ?_
    refine GO.move rfl rfl rfl ?_
    refine GO.known (t := 23) rfl (decide_eq_true c33) ?_
    refine GO.off rfl rfl rfl rfl rfl rfl ?_
    refine GO.off rfl rfl rfl rfl rfl rfl ?_
    refine GO.pickT rfl rfl rfl rfl rfl ?_
    refine GO.nil ?_
    refine G.weak ?_ (at_j2 K (Nat.le_refl _) _ _ H HS)
    exact ⟨rfl, rfl, rfl, trivial⟩
   ·
    refine G.region ?_
    refine GO.move rfl rfl rfl ?_
    refine GO.gtr rfl rfl rfl rfl ?_
    refine GO.move rfl rfl rfl ?_
    refine GO.known (t := 23) rfl (decide_eq_false c33) ?_
    refine GO.on rfl rfl rfl rfl ?_
    refine GO.move rfl rfl rfl ?_
    refine GO.back ?_
    refine GO.on rfl rfl rfl rfl ?_
    refine GO.gtr rfl rfl rfl rfl ?_
    refine GO.back ?_
    refine GO.pickF rfl rfl rfl rfl rfl ?_
    refine GO.nil ?_
    refine G.weak ?_ (at_j2 K (Nat.le_refl _) _ _ H HS)
    exact ⟨rfl, rfl, rfl, trivial⟩

set_option maxRecDepth 20000 in
set_option maxHeartbeats 40000000 in
theorem slices_Index_int64_int64.calls {w0 w : World} {L : List HObj} {K : Nat} {s : List Int} {v : Int} {A_s : Option Addr} {c_s : Nat} {r1 : Int} (HS : St w0 w (L)) (h_s : RdIn w0 L (TInt .i64) A_s c_s (fun _ => ()) s) (H : slices_Index_int64_int64.f K s v = some r1) :
    Calls Try.prog 164 #[.slice A_s s.length c_s, .int .i64 v] w (slices_Index_int64_int64.post w0 L s v A_s c_s r1) := by
  unfold slices_Index_int64_int64.f at H
  refine Calls.of_G Try.func164 rfl rfl rfl ?_
  refine G.seq ?_
  refine G.region ?_
  refine GO.assign rfl rfl rfl ?_
  refine GO.nil ?_
  refine G.seq ?_
  refine G.seq ?_
  refine G.region ?_
  refine GO.move rfl rfl rfl ?_
  refine GO.lenS rfl rfl Try.underlying43 rfl ?_
  refine GO.move rfl rfl rfl ?_
  refine GO.nil ?_
  refine G.block ?_
  refine G.loop ?_
  refine G.name (fun k_l1 hk_l1 => ?_)
  have at_l1 : ∀ m_l1, m_l1 ≤ K → ∀ (x4 : Int) (w : World), slices_Index_int64_int64.l1 K m_l1 s v x4 = some r1 → St w0 w (L) → G Try.prog 164 19 [(0, .slice A_s s.length c_s), (1, .int .i64 v), (7, .int .i64 (s.length : Int)), (8, .int .i64 x4)] k_l1 w (slices_Index_int64_int64.post w0 L s v A_s c_s r1) := by
   intro m_l1
   induction m_l1 using Nat.strongRecOn with
   | _ m_l1 ih_l1 =>
    intro hm_l1 x4 w H HS
    cases m_l1 with
    | zero => rw [slices_Index_int64_int64.l1] at H; cases H
    | succ n_l1 =>
     rw [slices_Index_int64_int64.l1] at H
     subst hk_l1
     refine G.seq ?_
     refine G.region ?_
     refine GO.lss rfl rfl rfl rfl ?_
     refine GO.nil ?_
     refine G.seq ?_
     rcases ite_elim H with ⟨c8, H⟩ | ⟨c8, H⟩
     ·
      refine G.yesB rfl (decide_eq_true c8) ?_
      refine G.skip ?_
      refine G.seq ?_
      refine G.block ?_
      refine G.seq ?_
      refine G.region ?_
      refine GO.move rfl rfl rfl ?_
      refine GO.assign rfl rfl rfl ?_
      refine GO.nil ?_
      refine G.seq ?_
      obtain ⟨c9, H⟩ := ite_none H
      refine G.region ?_
      refine GO.move rfl rfl rfl ?_
      refine GO.move rfl rfl rfl ?_
      refine GO.move rfl rfl rfl ?_
      refine GO.ix rfl rfl rfl Try.underlying43 sz2 (h_s _ HS).2.2.1 c9.1 c9.2 rfl ?_
      refine GO.ldRd (T := (TInt .i64)) (n := x4.toNat) (o := 0) HS h_s rfl rfl (getD_some (d := 0) (ltN c9)) rfl rfl na2 rfl ?_
      refine GO.eql rfl rfl rfl rfl ?_
      refine GO.nil ?_
      rcases ite_elim H with ⟨c10, H⟩ | ⟨c10, H⟩
      ·
       refine G.yesB rfl (decide_eq_true c10) ?_
       refine G.seq ?_
       refine G.region ?_
       refine GO.move rfl rfl rfl ?_
       refine GO.assign rfl rfl rfl ?_
       refine GO.nil ?_
       obtain rfl := Option.some.inj H
       exact G.ret1 _ Try.func164 rfl rfl ⟨rfl, HS⟩
      ·
       refine G.noB rfl (decide_eq_false c10) ?_
       refine G.skip ?_
       refine G.blockEnd ?_
       refine G.region ?_
       refine GO.add rfl rfl rfl rfl ?_
       refine GO.move rfl rfl rfl ?_
       refine GO.nil ?_
       refine G.again ?_
       refine G.weak ?_ (ih_l1 n_l1 (Nat.lt_succ_of_le (Nat.le_refl _)) (Nat.le_of_succ_le hm_l1) _ _ H HS)
       exact ⟨rfl, rfl, rfl, rfl, trivial⟩
     ·
      refine G.noB rfl (decide_eq_false c8) ?_
      refine G.exit rfl ?_
      refine G.seq ?_
      refine G.region ?_
      refine GO.assign rfl rfl rfl ?_
      refine GO.nil ?_
      obtain rfl := Option.some.inj H
      exact G.ret1 _ Try.func164 rfl rfl ⟨rfl, HS⟩
  refine G.weak ?_ (at_l1 K (Nat.le_refl _) _ _ H HS)
  exact ⟨rfl, rfl, rfl, rfl, trivial⟩

set_option maxRecDepth 20000 in
set_option maxHeartbeats 40000000 in
theorem slices_Contains_int64_int64.calls {w0 w : World} {L : List HObj} {K : Nat} {s : List Int} {v : Int} {A_s : Option Addr} {c_s : Nat} {r1 : Bool} (HS : St w0 w (L)) (h_s : RdIn w0 L (TInt .i64) A_s c_s (fun _ => ()) s) (H : slices_Contains_int64_int64.f K s v = some r1) :
    Calls Try.prog 131 #[.slice A_s s.length c_s, .int .i64 v] w (slices_Contains_int64_int64.post w0 L s v A_s c_s r1) := by
  unfold slices_Contains_int64_int64.f at H
  refine Calls.of_G Try.func131 rfl rfl rfl ?_
  refine G.seq ?_
  refine G.region ?_
  refine GO.assign rfl rfl rfl ?_
  refine GO.nil ?_
  refine G.seq ?_
  obtain ⟨t1, h2, H⟩ := Option.bind_eq_some_iff.1 H
  refine G.region ?_
  refine GO.move rfl rfl rfl ?_
  refine GO.move rfl rfl rfl ?_
  refine GO.fn rfl Try.func164 fok164.1 fok164.2 rfl rfl (slices_Index_int64_int64.calls HS h_s h2) (fun _ wd3 ⟨h4, HS⟩ => ⟨_, h4, ?_⟩)
  refine GO.geq rfl rfl rfl rfl ?_
  refine GO.assign rfl rfl rfl ?_
  refine GO.nil ?_
  obtain rfl := Option.some.inj H
  exact G.ret1 _ Try.func131 rfl rfl ⟨rfl, HS⟩

set_option maxRecDepth 20000 in
set_option maxHeartbeats 40000000 in
theorem impl_Diagram_without_fn1_free.calls {w0 w : World} {L : List HObj} {K : Nat} {e_crossing : Int} {e_position : Int} {v0_2 : List Int} {b_v0 : Nat} {A_v0_2 : Option Addr} {c_v0_2 : Nat} {r1 : Bool} (HS : St w0 w (Box b_v0 43 [.slice A_v0_2 v0_2.length c_v0_2] :: L)) (h_v0_2 : RdIn w0 L (TInt .i64) A_v0_2 c_v0_2 (fun _ => ()) v0_2) (H : impl_Diagram_without_fn1_free.f K e_crossing e_position v0_2 = some r1) :
    Calls Try.prog 130 #[.agg [.int .i64 e_crossing, .int .i64 e_position].toArray, .pointer (some ⟨b_v0, 0, none⟩)] w (impl_Diagram_without_fn1_free.post w0 L e_crossing e_position v0_2 b_v0 A_v0_2 c_v0_2 r1) := by
  unfold impl_Diagram_without_fn1_free.f at H
  refine Calls.of_G Try.func130 rfl rfl rfl ?_
  refine G.seq ?_
  refine G.region ?_
  refine GO.box (cs := [.int .i64 e_crossing, .int .i64 e_position]) HS rfl rfl rfl rfl ?_; intro b1 wd2 HS
  refine GO.assign rfl rfl rfl ?_
  refine GO.nil ?_
  refine G.seq ?_
  obtain ⟨t3, h4, H⟩ := Option.bind_eq_some_iff.1 H
  refine G.region ?_
  refine GO.ldBox (j := 1) HS rfl rfl rfl rfl na43 rfl ?_
  refine GO.fld (⟨b1, 0, none⟩) rfl rfl fl68_0 rfl rfl ?_
  refine GO.ldBox (j := 0) HS rfl rfl rfl rfl na2 rfl ?_
  refine GO.fn rfl Try.func131 fok131.1 fok131.2 rfl rfl (slices_Contains_int64_int64.calls HS (RdIn.drop 2 h_v0_2) h4) (fun _ wd5 ⟨h6, HS⟩ => ⟨_, h6, ?_⟩)
  refine GO.assign rfl rfl rfl ?_
  refine GO.nil ?_
  obtain rfl := Option.some.inj H
  exact G.ret1 _ Try.func130 rfl rfl ⟨rfl, (HS.pick 2 [1])⟩

set_option maxRecDepth 20000 in
set_option maxHeartbeats 40000000 in
theorem impl_Diagram_next.calls {w0 w : World} {L : List HObj} {d_Crossings : List GCrossing} {d_Circles : Int} {a_from : List GEnd} {a_to : List GEnd} {arc : Int} {A_d_Crossings : Option Addr} {c_d_Crossings : Nat} {A_a_from : Option Addr} {c_a_from : Nat} {A_a_to : Option Addr} {c_a_to : Nat} {r1 : Int} (HS : St w0 w (L)) (h_d_Crossings : RdIn w0 L T_GCrossing A_d_Crossings c_d_Crossings (fun _ => ()) d_Crossings) (h_a_from : RdIn w0 L T_GEnd A_a_from c_a_from (fun _ => ()) a_from) (h_a_to : RdIn w0 L T_GEnd A_a_to c_a_to (fun _ => ()) a_to) (H : impl_Diagram_next.f d_Crossings d_Circles a_from a_to arc = some r1) :
    Calls Try.prog 132 #[.agg [.slice A_d_Crossings d_Crossings.length c_d_Crossings, .int .i64 d_Circles].toArray, .agg [.slice A_a_from a_from.length c_a_from, .slice A_a_to a_to.length c_a_to].toArray, .int .i64 arc] w (impl_Diagram_next.post w0 L d_Crossings d_Circles a_from a_to arc A_d_Crossings c_d_Crossings A_a_from c_a_from A_a_to c_a_to r1) := by
  unfold impl_Diagram_next.f at H
  refine Calls.of_G Try.func132 rfl rfl rfl ?_
  refine G.seq ?_
  refine G.region ?_
  refine GO.box (cs := [.slice A_d_Crossings d_Crossings.length c_d_Crossings, .int .i64 d_Circles]) HS rfl rfl rfl rfl ?_; intro b1 wd2 HS
  refine GO.box (cs := [.slice A_a_from a_from.length c_a_from, .slice A_a_to a_to.length c_a_to]) HS rfl rfl rfl rfl ?_; intro b3 wd4 HS
  refine GO.assign rfl rfl rfl ?_
  refine GO.nil ?_
  refine G.seq ?_
  obtain ⟨c5, H⟩ := ite_none H
  obtain ⟨e6, h7, H⟩ := bnd_elim H
  refine G.region ?_
  refine GO.fld (⟨b3, 1, none⟩) rfl rfl fl63_1 rfl rfl ?_
  refine GO.ldBox (j := 0) HS rfl rfl rfl rfl na61 rfl ?_
  refine GO.move rfl rfl rfl ?_
  refine GO.ix rfl rfl rfl Try.underlying61 sz68 ((RdIn.drop 2 h_a_to) _ HS).2.2.1 c5.1 c5.2 rfl ?_
  refine GO.ldRdA (T := T_GEnd) (n := arc.toNat) HS (RdIn.drop 2 h_a_to) rfl rfl (getD_eq (ltN c5) h7) ag68 rfl ?_
  refine GO.alloc HS rfl zr68 rfl rfl ?_; intro b8 wd9 HS
  refine GO.stBox (j := 0) (vs := [.int .i64 e6.crossing, .int .i64 e6.position]) ([.int .i64 e6.crossing, .int .i64 e6.position]) HS rfl rfl rfl rfl rfl (htA ag68) rfl rfl rfl ?_; intro wd10 HS
  refine GO.nil ?_
  refine G.seq ?_
  obtain ⟨c11, H⟩ := ite_none H
  obtain ⟨e12, h13, H⟩ := bnd_elim H
  obtain ⟨t14, t15, t16, t17, h18, H⟩ := bind4_elim H
  obtain ⟨c21, H⟩ := ite_none H
  refine G.regionAny mixed (by decide) (fun b a w => ∃ (Y1_0 : Value) (Y2_1 : Value) (Y3_2 : Value) (Y4_3 : Value) (Y5_4 : Value) (Y6_5 : Value) (Y7_6 : Value) (Y8_7 : Value) (Y9_8 : Value) (Y10_9 : Value) (Y11_10 : Value) (Y12_11 : Value) (Y13_12 : Value), Sat 25 [(6, Y13_12), (13, Y1_0), (14, Y2_1), (15, Y3_2), (16, Y4_3), (17, Y5_4), (18, Y6_5), (19, Y7_6), (20, Y8_7), (21, Y9_8), (22, Y10_9), (23, Y11_10), (24, Y12_11), (3, .pointer (some ⟨b1, 0, none⟩)), (7, .pointer (some ⟨b8, 0, none⟩))] a ∧ St w0 w (Box b8 68 [.int .i64 e6.crossing, .int .i64 e6.position] :: Box b3 63 [.slice A_a_from a_from.length c_a_from, .slice A_a_to a_to.length c_a_to] :: Box b1 28 [.slice A_d_Crossings d_Crossings.length c_d_Crossings, .int .i64 d_Circles] :: L) ∧ (b 12 = true → Y13_12 = (.int .i64 (([t14, t15, t16, t17] : List Int).getD ((w64 (e6.position + 2)).tmod 4).toNat 0))) ∧ (b 0 = true → Y1_0 = (.pointer (some ⟨b1, 0, none⟩))) ∧ (b 1 = true → Y2_1 = (.slice A_d_Crossings d_Crossings.length c_d_Crossings)) ∧ (b 2 = true → Y3_2 = (.pointer (some ⟨b8, 0, none⟩))) ∧ (b 3 = true → Y4_3 = (.int .i64 e6.crossing)) ∧ (b 4 = true → Y5_4 = (.pointer (some (ea A_d_Crossings (e6.crossing.toNat * 5))))) ∧ (b 5 = true → Y6_5 = (.agg [.int .i64 e12.A, .int .i64 e12.B, .int .i64 e12.C, .int .i64 e12.D, .int .i64 e12.Sign].toArray)) ∧ (b 6 = true → Y7_6 = (.agg [.int .i64 t14, .int .i64 t15, .int .i64 t16, .int .i64 t17].toArray)) ∧ (b 7 = true → Y8_7 = (.pointer (some ⟨b8, 1, none⟩))) ∧ (b 8 = true → Y9_8 = (.int .i64 e6.position)) ∧ (b 9 = true → Y10_9 = (.int .i64 (w64 (e6.position + 2)))) ∧ (b 10 = true → Y11_10 = (.int .i64 ((w64 (e6.position + 2)).tmod 4))) ∧ (b 11 = true → Y12_11 = (.int .i64 (([t14, t15, t16, t17] : List Int).getD ((w64 (e6.position + 2)).tmod 4).toNat 0)))) ?_ ?_ ?_
  ·
   intro a hs
   obtain ⟨Y13_12, hs⟩ := hs.ext (d := 6) rfl
   obtain ⟨Y1_0, hs⟩ := hs.ext (d := 13) rfl
   obtain ⟨Y2_1, hs⟩ := hs.ext (d := 14) rfl
   obtain ⟨Y3_2, hs⟩ := hs.ext (d := 15) rfl
   obtain ⟨Y4_3, hs⟩ := hs.ext (d := 16) rfl
   obtain ⟨Y5_4, hs⟩ := hs.ext (d := 17) rfl
   obtain ⟨Y6_5, hs⟩ := hs.ext (d := 18) rfl
   obtain ⟨Y7_6, hs⟩ := hs.ext (d := 19) rfl
   obtain ⟨Y8_7, hs⟩ := hs.ext (d := 20) rfl
   obtain ⟨Y9_8, hs⟩ := hs.ext (d := 21) rfl
   obtain ⟨Y10_9, hs⟩ := hs.ext (d := 22) rfl
   obtain ⟨Y11_10, hs⟩ := hs.ext (d := 23) rfl
   obtain ⟨Y12_11, hs⟩ := hs.ext (d := 24) rfl
   exact ⟨Y1_0, Y2_1, Y3_2, Y4_3, Y5_4, Y6_5, Y7_6, Y8_7, Y9_8, Y10_9, Y11_10, Y12_11, Y13_12, hs.weak ⟨rfl, rfl, rfl, rfl, rfl, rfl, rfl, rfl, rfl, rfl, rfl, rfl, rfl, rfl, rfl, trivial⟩, (HS.drew.pick 3 [0, 1, 2]), fun h => Bool.noConfusion h, fun h => Bool.noConfusion h, fun h => Bool.noConfusion h, fun h => Bool.noConfusion h, fun h => Bool.noConfusion h, fun h => Bool.noConfusion h, fun h => Bool.noConfusion h, fun h => Bool.noConfusion h, fun h => Bool.noConfusion h, fun h => Bool.noConfusion h, fun h => Bool.noConfusion h, fun h => Bool.noConfusion h, fun h => Bool.noConfusion h⟩
  ·
   intro j hj b a w
   refine exI fun Y1_0 => exI fun Y2_1 => exI fun Y3_2 => exI fun Y4_3 => exI fun Y5_4 => exI fun Y6_5 => exI fun Y7_6 => exI fun Y8_7 => exI fun Y9_8 => exI fun Y10_9 => exI fun Y11_10 => exI fun Y12_11 => exI fun Y13_12 => anI fun hs => anI fun HS => anI fun f12 => anI fun f0 => anI fun f1 => anI fun f2 => anI fun f3 => anI fun f4 => anI fun f5 => anI fun f6 => anI fun f7 => anI fun f8 => anI fun f9 => anI fun f10 => fun f11 hb hd hcl => ?_
   match j, hj with
   | 0, _ =>
    refine GO.at hs ?_
    refine GO.fld (⟨b1, 0, none⟩) rfl rfl fl28_0 rfl rfl ?_
    refine GO.fin (fun a hs => ?_)
    exact ⟨(.pointer (some ⟨b1, 0, none⟩)), _, _, _, _, _, _, _, _, _, _, _, _, by exact hs.setAt 1 rfl, HS, f12, fun _ => rfl, f1, f2, f3, f4, f5, f6, f7, f8, f9, f10, f11⟩
   | 1, _ =>
    have hb0 : b 0 = true := hd 0 (by decide)
    obtain rfl := f0 hb0
    refine GO.at hs ?_
    refine GO.ldBox (j := 2) HS rfl rfl rfl rfl na26 rfl ?_
    refine GO.fin (fun a hs => ?_)
    exact ⟨_, (.slice A_d_Crossings d_Crossings.length c_d_Crossings), _, _, _, _, _, _, _, _, _, _, _, by exact hs.setAt 2 rfl, HS, f12, f0, fun _ => rfl, f2, f3, f4, f5, f6, f7, f8, f9, f10, f11⟩
   | 2, _ =>
    refine GO.at hs ?_
    refine GO.fld (⟨b8, 0, none⟩) rfl rfl fl68_0 rfl rfl ?_
    refine GO.fin (fun a hs => ?_)
    exact ⟨_, _, (.pointer (some ⟨b8, 0, none⟩)), _, _, _, _, _, _, _, _, _, _, by exact hs.setAt 3 rfl, HS, f12, f0, f1, fun _ => rfl, f3, f4, f5, f6, f7, f8, f9, f10, f11⟩
   | 3, _ =>
    have hb2 : b 2 = true := hd 2 (by decide)
    obtain rfl := f2 hb2
    refine GO.at hs ?_
    refine GO.ldBox (j := 0) HS rfl rfl rfl rfl na2 rfl ?_
    refine GO.fin (fun a hs => ?_)
    exact ⟨_, _, _, (.int .i64 e6.crossing), _, _, _, _, _, _, _, _, _, by exact hs.setAt 4 rfl, HS, f12, f0, f1, f2, fun _ => rfl, f4, f5, f6, f7, f8, f9, f10, f11⟩
   | 4, _ =>
    have hb1 : b 1 = true := hd 1 (by decide)
    obtain rfl := f1 hb1
    have hb3 : b 3 = true := hd 3 (by decide)
    obtain rfl := f3 hb3
    refine GO.at hs ?_
    refine GO.ix rfl rfl rfl Try.underlying26 sz58 ((RdIn.drop 3 h_d_Crossings) _ HS).2.2.1 c11.1 c11.2 rfl ?_
    refine GO.fin (fun a hs => ?_)
    exact ⟨_, _, _, _, (.pointer (some (ea A_d_Crossings (e6.crossing.toNat * 5)))), _, _, _, _, _, _, _, _, by exact hs.setAt 5 rfl, HS, f12, f0, f1, f2, f3, fun _ => rfl, f5, f6, f7, f8, f9, f10, f11⟩
   | 5, _ =>
    have hb4 : b 4 = true := hd 4 (by decide)
    obtain rfl := f4 hb4
    refine GO.at hs ?_
    refine GO.ldRdA (T := T_GCrossing) (n := e6.crossing.toNat) HS (RdIn.drop 3 h_d_Crossings) rfl rfl (getD_eq (ltN c11) h13) ag58 rfl ?_
    refine GO.fin (fun a hs => ?_)
    exact ⟨_, _, _, _, _, (.agg [.int .i64 e12.A, .int .i64 e12.B, .int .i64 e12.C, .int .i64 e12.D, .int .i64 e12.Sign].toArray), _, _, _, _, _, _, _, by exact hs.setAt 6 rfl, HS, f12, f0, f1, f2, f3, f4, fun _ => rfl, f6, f7, f8, f9, f10, f11⟩
   | 6, _ =>
    have hb5 : b 5 = true := hd 5 (by decide)
    obtain rfl := f5 hb5
    refine GO.at hs ?_
    refine GO.fn rfl Try.func75 fok75.1 fok75.2 rfl rfl (impl_Crossing_ends.calls HS  h18) (fun _ wd19 ⟨h20, HS⟩ => ⟨_, h20, ?_⟩)
    refine GO.fin (fun a hs => ?_)
    exact ⟨_, _, _, _, _, _, (.agg [.int .i64 t14, .int .i64 t15, .int .i64 t16, .int .i64 t17].toArray), _, _, _, _, _, _, by exact hs.setAt 7 rfl, HS, f12, f0, f1, f2, f3, f4, f5, fun _ => rfl, f7, f8, f9, f10, f11⟩
   | 7, _ =>
    refine GO.at hs ?_
    refine GO.fld (⟨b8, 1, none⟩) rfl rfl fl68_1 rfl rfl ?_
    refine GO.fin (fun a hs => ?_)
    exact ⟨_, _, _, _, _, _, _, (.pointer (some ⟨b8, 1, none⟩)), _, _, _, _, _, by exact hs.setAt 8 rfl, HS, f12, f0, f1, f2, f3, f4, f5, f6, fun _ => rfl, f8, f9, f10, f11⟩
   | 8, _ =>
    have hb7 : b 7 = true := hd 7 (by decide)
    obtain rfl := f7 hb7
    refine GO.at hs ?_
    refine GO.ldBox (j := 0) HS rfl rfl rfl rfl na2 rfl ?_
    refine GO.fin (fun a hs => ?_)
    exact ⟨_, _, _, _, _, _, _, _, (.int .i64 e6.position), _, _, _, _, by exact hs.setAt 9 rfl, HS, f12, f0, f1, f2, f3, f4, f5, f6, f7, fun _ => rfl, f9, f10, f11⟩
   | 9, _ =>
    have hb8 : b 8 = true := hd 8 (by decide)
    obtain rfl := f8 hb8
    refine GO.at hs ?_
    refine GO.add rfl rfl rfl rfl ?_
    refine GO.fin (fun a hs => ?_)
    exact ⟨_, _, _, _, _, _, _, _, _, (.int .i64 (w64 (e6.position + 2))), _, _, _, by exact hs.setAt 10 rfl, HS, f12, f0, f1, f2, f3, f4, f5, f6, f7, f8, fun _ => rfl, f10, f11⟩
   | 10, _ =>
    have hb9 : b 9 = true := hd 9 (by decide)
    obtain rfl := f9 hb9
    refine GO.at hs ?_
    refine GO.rem rfl rfl rfl (by decide) rfl ?_
    refine GO.fin (fun a hs => ?_)
    exact ⟨_, _, _, _, _, _, _, _, _, _, (.int .i64 ((w64 (e6.position + 2)).tmod 4)), _, _, by exact hs.setAt 11 rfl, HS, f12, f0, f1, f2, f3, f4, f5, f6, f7, f8, f9, fun _ => rfl, f11⟩
   | 11, _ =>
    have hb6 : b 6 = true := hd 6 (by decide)
    obtain rfl := f6 hb6
    have hb10 : b 10 = true := hd 10 (by decide)
    obtain rfl := f10 hb10
    refine GO.at hs ?_
    refine GO.ixArr ([t14, t15, t16, t17] : List Int) rfl rfl rfl Try.underlying93 Try.underlying2 sz2 rfl c21.1 c21.2 rfl ?_
    refine GO.fin (fun a hs => ?_)
    exact ⟨_, _, _, _, _, _, _, _, _, _, _, (.int .i64 (([t14, t15, t16, t17] : List Int).getD ((w64 (e6.position + 2)).tmod 4).toNat 0)), _, by exact hs.setAt 12 rfl, HS, f12, f0, f1, f2, f3, f4, f5, f6, f7, f8, f9, f10, fun _ => rfl⟩
   | 12, _ =>
    have hb11 : b 11 = true := hd 11 (by decide)
    obtain rfl := f11 hb11
    refine GO.at hs ?_
    refine GO.assign rfl rfl rfl ?_
    refine GO.fin (fun a hs => ?_)
    exact ⟨_, _, _, _, _, _, _, _, _, _, _, _, (.int .i64 (([t14, t15, t16, t17] : List Int).getD ((w64 (e6.position + 2)).tmod 4).toNat 0)), by exact hs.setAt 0 rfl, HS, fun _ => rfl, f0, f1, f2, f3, f4, f5, f6, f7, f8, f9, f10, f11⟩
   | k + 13, hj => exact absurd hj (Nat.not_lt.2 (Nat.le_add_left 13 k))
  ·
   intro b a w hall
   refine exI fun Y1_0 => exI fun Y2_1 => exI fun Y3_2 => exI fun Y4_3 => exI fun Y5_4 => exI fun Y6_5 => exI fun Y7_6 => exI fun Y8_7 => exI fun Y9_8 => exI fun Y10_9 => exI fun Y11_10 => exI fun Y12_11 => exI fun Y13_12 => anI fun hs => anI fun HS => anI fun f12 => anI fun f0 => anI fun f1 => anI fun f2 => anI fun f3 => anI fun f4 => anI fun f5 => anI fun f6 => anI fun f7 => anI fun f8 => anI fun f9 => anI fun f10 => fun f11 => ?_
   obtain rfl := f12 (hall 12 (by decide))
   obtain rfl := f0 (hall 0 (by decide))
   obtain rfl := f1 (hall 1 (by decide))
   obtain rfl := f2 (hall 2 (by decide))
   obtain rfl := f3 (hall 3 (by decide))
   obtain rfl := f4 (hall 4 (by decide))
   obtain rfl := f5 (hall 5 (by decide))
   obtain rfl := f6 (hall 6 (by decide))
   obtain rfl := f7 (hall 7 (by decide))
   obtain rfl := f8 (hall 8 (by decide))
   obtain rfl := f9 (hall 9 (by decide))
   obtain rfl := f10 (hall 10 (by decide))
   obtain rfl := f11 (hall 11 (by decide))
   refine G.at hs ?_
   obtain rfl := Option.some.inj H
   exact G.ret1 _ Try.func132 rfl rfl ⟨rfl, (HS.pick 3 [])⟩

set_option maxRecDepth 20000 in
set_option maxHeartbeats 40000000 in
theorem impl_crossingOf.calls {w0 w : World} {L : List HObj} {ends_0 : Int} {ends_1 : Int} {ends_2 : Int} {ends_3 : Int} {sign : Int} {r1 : Int} {r2 : Int} {r3 : Int} {r4 : Int} {r5 : Int} (HS : St w0 w (L)) (H : impl_crossingOf.f ends_0 ends_1 ends_2 ends_3 sign = some (r1, r2, r3, r4, r5)) :
    Calls Try.prog 113 #[.agg [.int .i64 ends_0, .int .i64 ends_1, .int .i64 ends_2, .int .i64 ends_3].toArray, .int .i64 sign] w (impl_crossingOf.post w0 L ends_0 ends_1 ends_2 ends_3 sign r1 r2 r3 r4 r5) := by
  unfold impl_crossingOf.f at H
  refine Calls.of_G Try.func113 rfl rfl rfl ?_
  refine G.seq ?_
  refine G.region ?_
  refine GO.box (cs := [.int .i64 ends_0, .int .i64 ends_1, .int .i64 ends_2, .int .i64 ends_3]) HS rfl rfl rfl rfl ?_; intro b1 wd2 HS
  refine GO.alloc HS rfl zr58 rfl rfl ?_; intro b3 wd4 HS
  refine GO.nil ?_
  refine G.seq ?_
  refine G.region ?_
  refine GO.ixP 0 rfl rfl rfl rfl Try.underlying93 sz2 rfl rfl ?_
  refine GO.ldBox (j := 1) HS rfl rfl rfl rfl na2 rfl ?_
  refine GO.ixP 1 rfl rfl rfl rfl Try.underlying93 sz2 rfl rfl ?_
  refine GO.ldBox (j := 1) HS rfl rfl rfl rfl na2 rfl ?_
  refine GO.ixP 2 rfl rfl rfl rfl Try.underlying93 sz2 rfl rfl ?_
  refine GO.ldBox (j := 1) HS rfl rfl rfl rfl na2 rfl ?_
  refine GO.ixP 3 rfl rfl rfl rfl Try.underlying93 sz2 rfl rfl ?_
  refine GO.ldBox (j := 1) HS rfl rfl rfl rfl na2 rfl ?_
  refine GO.move rfl rfl rfl ?_
  refine GO.buildV (.agg [.int .i64 ends_0, .int .i64 ends_1, .int .i64 ends_2, .int .i64 ends_3, .int .i64 sign].toArray) rfl rfl (fun _ => by kernel_rfl) rfl ?_
  refine GO.stBox (j := 0) (vs := [.int .i64 ends_0, .int .i64 ends_1, .int .i64 ends_2, .int .i64 ends_3, .int .i64 sign]) ([.int .i64 ends_0, .int .i64 ends_1, .int .i64 ends_2, .int .i64 ends_3, .int .i64 sign]) HS rfl rfl rfl rfl rfl (htA ag58) rfl rfl rfl ?_; intro wd5 HS
  refine GO.nil ?_
  obtain ⟨rfl, rfl, rfl, rfl, rfl⟩ := some5 H
  exact G.ret1 _ Try.func113 rfl (Res1.boxA (j := 0) (vs := [.int .i64 ends_0, .int .i64 ends_1, .int .i64 ends_2, .int .i64 ends_3, .int .i64 sign]) HS rfl rfl rfl ag58) ⟨rfl, (HS.pick 2 [])⟩

set_option maxRecDepth 20000 in
set_option maxHeartbeats 40000000 in
theorem impl_Diagram_set.calls {w0 w : World} {L : List HObj} {d_Crossings : List GCrossing} {d_Circles : Int} {e_crossing : Int} {e_position : Int} {arc : Int} {A_d_Crossings : Option Addr} {c_d_Crossings : Nat} {r1 : List GCrossing} (HS : St w0 w (Own T_GCrossing 58 A_d_Crossings c_d_Crossings (fun _ => ()) d_Crossings :: L)) (H : impl_Diagram_set.f d_Crossings d_Circles e_crossing e_position arc = some r1) :
    Calls Try.prog 50 #[.agg [.slice A_d_Crossings d_Crossings.length c_d_Crossings, .int .i64 d_Circles].toArray, .agg [.int .i64 e_crossing, .int .i64 e_position].toArray, .int .i64 arc] w (impl_Diagram_set.post w0 L d_Crossings d_Circles e_crossing e_position arc A_d_Crossings c_d_Crossings r1) := by
  unfold impl_Diagram_set.f at H
  refine Calls.of_G Try.func50 rfl rfl rfl ?_
  refine G.seq ?_
  refine G.region ?_
  refine GO.box (cs := [.slice A_d_Crossings d_Crossings.length c_d_Crossings, .int .i64 d_Circles]) HS rfl rfl rfl rfl ?_; intro b1 wd2 HS
  refine GO.box (cs := [.int .i64 e_crossing, .int .i64 e_position]) HS rfl rfl rfl rfl ?_; intro b3 wd4 HS
  refine GO.nil ?_
  refine G.seq ?_
  obtain ⟨c5, H⟩ := ite_none H
  obtain ⟨e6, h7, H⟩ := bnd_elim H
  refine G.region ?_
  refine GO.fld (⟨b1, 0, none⟩) rfl rfl fl28_0 rfl rfl ?_
  refine GO.ldBox (j := 1) HS rfl rfl rfl rfl na26 rfl ?_
  refine GO.fld (⟨b3, 0, none⟩) rfl rfl fl68_0 rfl rfl ?_
  refine GO.ldBox (j := 0) HS rfl rfl rfl rfl na2 rfl ?_
  refine GO.ix rfl rfl rfl Try.underlying26 sz58 ((RdIn.own (j := 2) rfl) _ HS).2.2.1 c5.1 c5.2 rfl ?_
  refine GO.ldRdA (T := T_GCrossing) (n := e_crossing.toNat) HS (RdIn.own (j := 2) rfl) rfl rfl (getD_eq (ltN c5) h7) ag58 rfl ?_
  refine GO.alloc HS rfl zr58 rfl rfl ?_; intro b8 wd9 HS
  refine GO.stBox (j := 0) (vs := [.int .i64 e6.A, .int .i64 e6.B, .int .i64 e6.C, .int .i64 e6.D, .int .i64 e6.Sign]) ([.int .i64 e6.A, .int .i64 e6.B, .int .i64 e6.C, .int .i64 e6.D, .int .i64 e6.Sign]) HS rfl rfl rfl rfl rfl (htA ag58) rfl rfl rfl ?_; intro wd10 HS
  refine GO.nil ?_
  refine G.seq ?_
  obtain ⟨t11, t12, t13, t14, h15, H⟩ := bind4_elim H
  refine G.region ?_
  refine GO.ldBoxA (j := 0) ([.int .i64 e6.A, .int .i64 e6.B, .int .i64 e6.C, .int .i64 e6.D, .int .i64 e6.Sign]) HS rfl rfl rfl rfl ag58 rfl ?_
  refine GO.fn rfl Try.func75 fok75.1 fok75.2 rfl rfl (impl_Crossing_ends.calls HS  h15) (fun _ wd16 ⟨h17, HS⟩ => ⟨_, h17, ?_⟩)
  refine GO.alloc HS rfl zr93 rfl rfl ?_; intro b18 wd19 HS
  refine GO.stBox (j := 0) (vs := [.int .i64 t11, .int .i64 t12, .int .i64 t13, .int .i64 t14]) ([.int .i64 t11, .int .i64 t12, .int .i64 t13, .int .i64 t14]) HS rfl rfl rfl rfl rfl (htA ag93) rfl rfl rfl ?_; intro wd20 HS
  refine GO.nil ?_
  refine G.seq ?_
  rcases ite_elim H with ⟨c21, H⟩ | ⟨c21, H⟩
  ·
   refine G.region ?_
   refine GO.fld (⟨b3, 1, none⟩) rfl rfl fl68_1 rfl rfl ?_
   refine GO.ldBox (j := 2) HS rfl rfl rfl rfl na2 rfl ?_
   refine GO.move rfl rfl rfl ?_
   refine GO.ixP 0 rfl rfl rfl c21 Try.underlying93 sz2 rfl rfl ?_
   refine GO.stBox (j := 0) (vs := [.int .i64 arc]) ([.int .i64 arc, .int .i64 t12, .int .i64 t13, .int .i64 t14]) HS rfl rfl rfl rfl rfl (htN na2 rfl) rfl rfl rfl ?_; intro wd22 HS
   refine GO.nil ?_
   obtain ⟨t23, t24, t25, t26, t27, h28, H⟩ := bind5_elim H
   refine G.regionAny mixed (by decide) (fun b a w => ∃ (Y1_0 : Value) (Y2_1 : Value) (Y3_2 : Value) (Y4_3 : Value) (Y5_4 : Value) (Y6_5 : Value) (Y7_6 : Value) (Y8_7 : Value) (Y9_8 : Value) (O10_1 : HObj), Sat 29 [(20, Y1_0), (21, Y2_1), (22, Y3_2), (23, Y4_3), (24, Y5_4), (25, Y6_5), (26, Y7_6), (27, Y8_7), (28, Y9_8), (3, .pointer (some ⟨b1, 0, none⟩)), (4, .pointer (some ⟨b3, 0, none⟩)), (6, .pointer (some ⟨b8, 0, none⟩)), (7, .pointer (some ⟨b18, 0, none⟩))] a ∧ St w0 w (Box b18 93 [.int .i64 arc, .int .i64 t12, .int .i64 t13, .int .i64 t14] :: Box b8 58 [.int .i64 e6.A, .int .i64 e6.B, .int .i64 e6.C, .int .i64 e6.D, .int .i64 e6.Sign] :: Box b3 68 [.int .i64 e_crossing, .int .i64 e_position] :: Box b1 28 [.slice A_d_Crossings d_Crossings.length c_d_Crossings, .int .i64 d_Circles] :: O10_1 :: L) ∧ (b 0 = true → Y1_0 = (.pointer (some ⟨b1, 0, none⟩))) ∧ (b 1 = true → Y2_1 = (.slice A_d_Crossings d_Crossings.length c_d_Crossings)) ∧ (b 2 = true → Y3_2 = (.pointer (some ⟨b3, 0, none⟩))) ∧ (b 3 = true → Y4_3 = (.int .i64 e_crossing)) ∧ (b 4 = true → Y5_4 = (.agg [.int .i64 arc, .int .i64 t12, .int .i64 t13, .int .i64 t14].toArray)) ∧ (b 5 = true → Y6_5 = (.pointer (some ⟨b8, 4, none⟩))) ∧ (b 6 = true → Y7_6 = (.int .i64 e6.Sign)) ∧ (b 7 = true → Y8_7 = (.agg [.int .i64 t23, .int .i64 t24, .int .i64 t25, .int .i64 t26, .int .i64 t27].toArray)) ∧ (b 8 = true → Y9_8 = (.pointer (some (ea A_d_Crossings (e_crossing.toNat * 5))))) ∧ (b 9 = false → O10_1 = Own T_GCrossing 58 A_d_Crossings c_d_Crossings (fun _ => ()) d_Crossings) ∧ (b 9 = true → O10_1 = Own T_GCrossing 58 A_d_Crossings c_d_Crossings (fun _ => ()) (d_Crossings.set e_crossing.toNat (⟨t23, t24, t25, t26, t27⟩ : GCrossing)))) ?_ ?_ ?_
   ·
    intro a hs
    obtain ⟨Y1_0, hs⟩ := hs.ext (d := 20) rfl
    obtain ⟨Y2_1, hs⟩ := hs.ext (d := 21) rfl
    obtain ⟨Y3_2, hs⟩ := hs.ext (d := 22) rfl
    obtain ⟨Y4_3, hs⟩ := hs.ext (d := 23) rfl
    obtain ⟨Y5_4, hs⟩ := hs.ext (d := 24) rfl
    obtain ⟨Y6_5, hs⟩ := hs.ext (d := 25) rfl
    obtain ⟨Y7_6, hs⟩ := hs.ext (d := 26) rfl
    obtain ⟨Y8_7, hs⟩ := hs.ext (d := 27) rfl
    obtain ⟨Y9_8, hs⟩ := hs.ext (d := 28) rfl
    exact ⟨Y1_0, Y2_1, Y3_2, Y4_3, Y5_4, Y6_5, Y7_6, Y8_7, Y9_8, Own T_GCrossing 58 A_d_Crossings c_d_Crossings (fun _ => ()) d_Crossings, hs.weak ⟨rfl, rfl, rfl, rfl, rfl, rfl, rfl, rfl, rfl, rfl, rfl, rfl, rfl, trivial⟩, (HS.drew.pick 5 [0, 1, 2, 3, 4]), fun h => Bool.noConfusion h, fun h => Bool.noConfusion h, fun h => Bool.noConfusion h, fun h => Bool.noConfusion h, fun h => Bool.noConfusion h, fun h => Bool.noConfusion h, fun h => Bool.noConfusion h, fun h => Bool.noConfusion h, fun h => Bool.noConfusion h, fun _ => rfl, fun h => Bool.noConfusion h⟩
   ·
    intro j hj b a w
    refine exI fun Y1_0 => exI fun Y2_1 => exI fun Y3_2 => exI fun Y4_3 => exI fun Y5_4 => exI fun Y6_5 => exI fun Y7_6 => exI fun Y8_7 => exI fun Y9_8 => exI fun O10_1 => anI fun hs => anI fun HS => anI fun f0 => anI fun f1 => anI fun f2 => anI fun f3 => anI fun f4 => anI fun f5 => anI fun f6 => anI fun f7 => anI fun f8 => anI fun o1_0 => fun o1_1 hb hd hcl => ?_
    match j, hj with
    | 0, _ =>
     refine GO.at hs ?_
     refine GO.fld (⟨b1, 0, none⟩) rfl rfl fl28_0 rfl rfl ?_
     refine GO.fin (fun a hs => ?_)
     exact ⟨(.pointer (some ⟨b1, 0, none⟩)), _, _, _, _, _, _, _, _, _, by exact hs.setAt 0 rfl, HS, fun _ => rfl, f1, f2, f3, f4, f5, f6, f7, f8, o1_0, o1_1⟩
    | 1, _ =>
     have hb0 : b 0 = true := hd 0 (by decide)
     obtain rfl := f0 hb0
     refine GO.at hs ?_
     refine GO.ldBox (j := 3) HS rfl rfl rfl rfl na26 rfl ?_
     refine GO.fin (fun a hs => ?_)
     exact ⟨_, (.slice A_d_Crossings d_Crossings.length c_d_Crossings), _, _, _, _, _, _, _, _, by exact hs.setAt 1 rfl, HS, f0, fun _ => rfl, f2, f3, f4, f5, f6, f7, f8, o1_0, o1_1⟩
    | 2, _ =>
     refine GO.at hs ?_
     refine GO.fld (⟨b3, 0, none⟩) rfl rfl fl68_0 rfl rfl ?_
     refine GO.fin (fun a hs => ?_)
     exact ⟨_, _, (.pointer (some ⟨b3, 0, none⟩)), _, _, _, _, _, _, _, by exact hs.setAt 2 rfl, HS, f0, f1, fun _ => rfl, f3, f4, f5, f6, f7, f8, o1_0, o1_1⟩
    | 3, _ =>
     have hb2 : b 2 = true := hd 2 (by decide)
     obtain rfl := f2 hb2
     refine GO.at hs ?_
     refine GO.ldBox (j := 2) HS rfl rfl rfl rfl na2 rfl ?_
     refine GO.fin (fun a hs => ?_)
     exact ⟨_, _, _, (.int .i64 e_crossing), _, _, _, _, _, _, by exact hs.setAt 3 rfl, HS, f0, f1, f2, fun _ => rfl, f4, f5, f6, f7, f8, o1_0, o1_1⟩
    | 4, _ =>
     refine GO.at hs ?_
     refine GO.ldBoxA (j := 0) ([.int .i64 arc, .int .i64 t12, .int .i64 t13, .int .i64 t14]) HS rfl rfl rfl rfl ag93 rfl ?_
     refine GO.fin (fun a hs => ?_)
     exact ⟨_, _, _, _, (.agg [.int .i64 arc, .int .i64 t12, .int .i64 t13, .int .i64 t14].toArray), _, _, _, _, _, by exact hs.setAt 4 rfl, HS, f0, f1, f2, f3, fun _ => rfl, f5, f6, f7, f8, o1_0, o1_1⟩
    | 5, _ =>
     refine GO.at hs ?_
     refine GO.fld (⟨b8, 4, none⟩) rfl rfl fl58_4 rfl rfl ?_
     refine GO.fin (fun a hs => ?_)
     exact ⟨_, _, _, _, _, (.pointer (some ⟨b8, 4, none⟩)), _, _, _, _, by exact hs.setAt 5 rfl, HS, f0, f1, f2, f3, f4, fun _ => rfl, f6, f7, f8, o1_0, o1_1⟩
    | 6, _ =>
     have hb5 : b 5 = true := hd 5 (by decide)
     obtain rfl := f5 hb5
     refine GO.at hs ?_
     refine GO.ldBox (j := 1) HS rfl rfl rfl rfl na2 rfl ?_
     refine GO.fin (fun a hs => ?_)
     exact ⟨_, _, _, _, _, _, (.int .i64 e6.Sign), _, _, _, by exact hs.setAt 6 rfl, HS, f0, f1, f2, f3, f4, f5, fun _ => rfl, f7, f8, o1_0, o1_1⟩
    | 7, _ =>
     have hb4 : b 4 = true := hd 4 (by decide)
     obtain rfl := f4 hb4
     have hb6 : b 6 = true := hd 6 (by decide)
     obtain rfl := f6 hb6
     refine GO.at hs ?_
     refine GO.fn rfl Try.func113 fok113.1 fok113.2 rfl rfl (impl_crossingOf.calls HS  h28) (fun _ wd29 ⟨h30, HS⟩ => ⟨_, h30, ?_⟩)
     refine GO.fin (fun a hs => ?_)
     exact ⟨_, _, _, _, _, _, _, (.agg [.int .i64 t23, .int .i64 t24, .int .i64 t25, .int .i64 t26, .int .i64 t27].toArray), _, _, by exact hs.setAt 7 rfl, HS, f0, f1, f2, f3, f4, f5, f6, fun _ => rfl, f8, o1_0, o1_1⟩
    | 8, _ =>
     have hb1 : b 1 = true := hd 1 (by decide)
     obtain rfl := f1 hb1
     have hb3 : b 3 = true := hd 3 (by decide)
     obtain rfl := f3 hb3
     have d9 : b 9 = false := bfalse (fun hh => hcl 9 (by decide) (hh) 8 (by decide)) hb
     obtain rfl := o1_0 d9
     refine GO.at hs ?_
     refine GO.ix rfl rfl rfl Try.underlying26 sz58 ((RdIn.own (j := 4) rfl) _ HS).2.2.1 c5.1 c5.2 rfl ?_
     refine GO.fin (fun a hs => ?_)
     exact ⟨_, _, _, _, _, _, _, _, (.pointer (some (ea A_d_Crossings (e_crossing.toNat * 5)))), _, by exact hs.setAt 8 rfl, HS, f0, f1, f2, f3, f4, f5, f6, f7, fun _ => rfl, o1_0, o1_1⟩
    | 9, _ =>
     have hb7 : b 7 = true := hd 7 (by decide)
     obtain rfl := f7 hb7
     have hb8 : b 8 = true := hd 8 (by decide)
     obtain rfl := f8 hb8
     obtain rfl := o1_0 hb
     refine GO.at hs ?_
     refine GO.stRow (T := T_GCrossing) (j := 4) (n := e_crossing.toNat) (o := 0) (vs := [.int .i64 t23, .int .i64 t24, .int .i64 t25, .int .i64 t26, .int .i64 t27]) (⟨t23, t24, t25, t26, t27⟩ : GCrossing) HS rfl flat_flat rfl rfl rfl rfl (htA ag58) rfl (getD_some (d := z_GCrossing) (ltN c5)) rfl rfl ?_; intro wd31 HS
     refine GO.fin (fun a hs => ?_)
     exact ⟨_, _, _, _, _, _, _, _, _, Own T_GCrossing 58 A_d_Crossings c_d_Crossings (fun _ => ()) (d_Crossings.set e_crossing.toNat (⟨t23, t24, t25, t26, t27⟩ : GCrossing)), hs, HS, f0, f1, f2, f3, f4, f5, f6, f7, f8, fun h => Bool.noConfusion h, fun _ => rfl⟩
    | k + 10, hj => exact absurd hj (Nat.not_lt.2 (Nat.le_add_left 10 k))
   ·
    intro b a w hall
    refine exI fun Y1_0 => exI fun Y2_1 => exI fun Y3_2 => exI fun Y4_3 => exI fun Y5_4 => exI fun Y6_5 => exI fun Y7_6 => exI fun Y8_7 => exI fun Y9_8 => exI fun O10_1 => anI fun hs => anI fun HS => anI fun f0 => anI fun f1 => anI fun f2 => anI fun f3 => anI fun f4 => anI fun f5 => anI fun f6 => anI fun f7 => anI fun f8 => anI fun o1_0 => fun o1_1 => ?_
    obtain rfl := f0 (hall 0 (by decide))
    obtain rfl := f1 (hall 1 (by decide))
    obtain rfl := f2 (hall 2 (by decide))
    obtain rfl := f3 (hall 3 (by decide))
    obtain rfl := f4 (hall 4 (by decide))
    obtain rfl := f5 (hall 5 (by decide))
    obtain rfl := f6 (hall 6 (by decide))
    obtain rfl := f7 (hall 7 (by decide))
    obtain rfl := f8 (hall 8 (by decide))
    obtain rfl := o1_1 (hall 9 (by decide))
    refine G.at hs ?_
    replace HS := HS.boxEq (j := 3) (cs' := [.slice A_d_Crossings (d_Crossings.set e_crossing.toNat (⟨t23, t24, t25, t26, t27⟩ : GCrossing)).length c_d_Crossings, .int .i64 d_Circles]) rfl (by simp only [List.length_set] <;> rfl)
    obtain rfl := Option.some.inj H
    exact G.end0 Try.func50 rfl ⟨rfl, (HS.pick 5 [4])⟩
  ·
   rcases ite_elim H with ⟨c32, H⟩ | ⟨c32, H⟩
   ·
    refine G.region ?_
    refine GO.fld (⟨b3, 1, none⟩) rfl rfl fl68_1 rfl rfl ?_
    refine GO.ldBox (j := 2) HS rfl rfl rfl rfl na2 rfl ?_
    refine GO.move rfl rfl rfl ?_
    refine GO.ixP 1 rfl rfl rfl c32 Try.underlying93 sz2 rfl rfl ?_
    refine GO.stBox (j := 0) (vs := [.int .i64 arc]) ([.int .i64 t11, .int .i64 arc, .int .i64 t13, .int .i64 t14]) HS rfl rfl rfl rfl rfl (htN na2 rfl) rfl rfl rfl ?_; intro wd33 HS
    refine GO.nil ?_
    obtain ⟨t34, t35, t36, t37, t38, h39, H⟩ := bind5_elim H
    refine G.regionAny mixed (by decide) (fun b a w => ∃ (Y11_0 : Value) (Y12_1 : Value) (Y13_2 : Value) (Y14_3 : Value) (Y15_4 : Value) (Y16_5 : Value) (Y17_6 : Value) (Y18_7 : Value) (Y19_8 : Value) (O20_1 : HObj), Sat 29 [(20, Y11_0), (21, Y12_1), (22, Y13_2), (23, Y14_3), (24, Y15_4), (25, Y16_5), (26, Y17_6), (27, Y18_7), (28, Y19_8), (3, .pointer (some ⟨b1, 0, none⟩)), (4, .pointer (some ⟨b3, 0, none⟩)), (6, .pointer (some ⟨b8, 0, none⟩)), (7, .pointer (some ⟨b18, 0, none⟩))] a ∧ St w0 w (Box b18 93 [.int .i64 t11, .int .i64 arc, .int .i64 t13, .int .i64 t14] :: Box b8 58 [.int .i64 e6.A, .int .i64 e6.B, .int .i64 e6.C, .int .i64 e6.D, .int .i64 e6.Sign] :: Box b3 68 [.int .i64 e_crossing, .int .i64 e_position] :: Box b1 28 [.slice A_d_Crossings d_Crossings.length c_d_Crossings, .int .i64 d_Circles] :: O20_1 :: L) ∧ (b 0 = true → Y11_0 = (.pointer (some ⟨b1, 0, none⟩))) ∧ (b 1 = true → Y12_1 = (.slice A_d_Crossings d_Crossings.length c_d_Crossings)) ∧ (b 2 = true → Y13_2 = (.pointer (some ⟨b3, 0, none⟩))) ∧ (b 3 = true → Y14_3 = (.int .i64 e_crossing)) ∧ (b 4 = true → Y15_4 = (.agg [.int .i64 t11, .int .i64 arc, .int .i64 t13, .int .i64 t14].toArray)) ∧ (b 5 = true → Y16_5 = (.pointer (some ⟨b8, 4, none⟩))) ∧ (b 6 = true → Y17_6 = (.int .i64 e6.Sign)) ∧ (b 7 = true → Y18_7 = (.agg [.int .i64 t34, .int .i64 t35, .int .i64 t36, .int .i64 t37, .int .i64 t38].toArray)) ∧ (b 8 = true → Y19_8 = (.pointer (some (ea A_d_Crossings (e_crossing.toNat * 5))))) ∧ (b 9 = false → O20_1 = Own T_GCrossing 58 A_d_Crossings c_d_Crossings (fun _ => ()) d_Crossings) ∧ (b 9 = true → O20_1 = Own T_GCrossing 58 A_d_Crossings c_d_Crossings (fun _ => ()) (d_Crossings.set e_crossing.toNat (⟨t34, t35, t36, t37, t38⟩ : GCrossing)))) ?_ ?_ ?_
    ·
     intro a hs
     obtain ⟨Y11_0, hs⟩ := hs.ext (d := 20) rfl
     obtain ⟨Y12_1, hs⟩ := hs.ext (d := 21) rfl
     obtain ⟨Y13_2, hs⟩ := hs.ext (d := 22) rfl
     obtain ⟨Y14_3, hs⟩ := hs.ext (d := 23) rfl
     obtain ⟨Y15_4, hs⟩ := hs.ext (d := 24) rfl
     obtain ⟨Y16_5, hs⟩ := hs.ext (d := 25) rfl
     obtain ⟨Y17_6, hs⟩ := hs.ext (d := 26) rfl
     obtain ⟨Y18_7, hs⟩ := hs.ext (d := 27) rfl
     obtain ⟨Y19_8, hs⟩ := hs.ext (d := 28) rfl
     exact ⟨Y11_0, Y12_1, Y13_2, Y14_3, Y15_4, Y16_5, Y17_6, Y18_7, Y19_8, Own T_GCrossing 58 A_d_Crossings c_d_Crossings (fun _ => ()) d_Crossings, hs.weak ⟨rfl, rfl, rfl, rfl, rfl, rfl, rfl, rfl, rfl, rfl, rfl, rfl, rfl, trivial⟩, (HS.drew.pick 5 [0, 1, 2, 3, 4]), fun h => Bool.noConfusion h, fun h => Bool.noConfusion h, fun h => Bool.noConfusion h, fun h => Bool.noConfusion h, fun h => Bool.noConfusion h, fun h => Bool.noConfusion h, fun h => Bool.noConfusion h, fun h => Bool.noConfusion h, fun h => Bool.noConfusion h, fun _ => rfl, fun h => Bool.noConfusion h⟩
    ·
     intro j hj b a w
     refine exI fun Y11_0 => exI fun Y12_1 => exI fun Y13_2 => exI fun Y14_3 => exI fun Y15_4 => exI fun Y16_5 => exI fun Y17_6 => exI fun Y18_7 => exI fun Y19_8 => exI fun O20_1 => anI fun hs => anI fun HS => anI fun f0 => anI fun f1 => anI fun f2 => anI fun f3 => anI fun f4 => anI fun f5 => anI fun f6 => anI fun f7 => anI fun f8 => anI fun o1_0 => fun o1_1 hb hd hcl => ?_
     match j, hj with
     | 0, _ =>
      refine GO.at hs ?_
      refine GO.fld (⟨b1, 0, none⟩) rfl rfl fl28_0 rfl rfl ?_
      refine GO.fin (fun a hs => ?_)
      exact ⟨(.pointer (some ⟨b1, 0, none⟩)), _, _, _, _, _, _, _, _, _, by exact hs.setAt 0 rfl, HS, fun _ => rfl, f1, f2, f3, f4, f5, f6, f7, f8, o1_0, o1_1⟩
     | 1, _ =>
      have hb0 : b 0 = true := hd 0 (by decide)
      obtain rfl := f0 hb0
      refine GO.at hs ?_
      refine GO.ldBox (j := 3) HS rfl rfl rfl rfl na26 rfl ?_
      refine GO.fin (fun a hs => ?_)
      exact ⟨_, (.slice A_d_Crossings d_Crossings.length c_d_Crossings), _, _, _, _, _, _, _, _, by exact hs.setAt 1 rfl, HS, f0, fun _ => rfl, f2, f3, f4, f5, f6, f7, f8, o1_0, o1_1⟩
     | 2, _ =>
      refine GO.at hs ?_
      refine GO.fld (⟨b3, 0, none⟩) rfl rfl fl68_0 rfl rfl ?_
      refine GO.fin (fun a hs => ?_)
      exact ⟨_, _, (.pointer (some ⟨b3, 0, none⟩)), _, _, _, _, _, _, _, by exact hs.setAt 2 rfl, HS, f0, f1, fun _ => rfl, f3, f4, f5, f6, f7, f8, o1_0, o1_1⟩
     | 3, _ =>
      have hb2 : b 2 = true := hd 2 (by decide)
      obtain rfl := f2 hb2
      refine GO.at hs ?_
      refine GO.ldBox (j := 2) HS rfl rfl rfl rfl na2 rfl ?_
      refine GO.fin (fun a hs => ?_)
      exact ⟨_, _, _, (.int .i64 e_crossing), _, _, _, _, _, _, by exact hs.setAt 3 rfl, HS, f0, f1, f2, fun _ => rfl, f4, f5, f6, f7, f8, o1_0, o1_1⟩
     | 4, _ =>
      refine GO.at hs ?_
      refine GO.ldBoxA (j := 0) ([.int .i64 t11, .int .i64 arc, .int .i64 t13, .int .i64 t14]) HS rfl rfl rfl rfl ag93 rfl ?_
      refine GO.fin (fun a hs => ?_)
      exact ⟨_, _, _, _, (.agg [.int .i64 t11, .int .i64 arc, .int .i64 t13, .int .i64 t14].toArray), _, _, _, _, _, by exact hs.setAt 4 rfl, HS, f0, f1, f2, f3, fun _ => rfl, f5, f6, f7, f8, o1_0, o1_1⟩
     | 5, _ =>
      refine GO.at hs ?_
      refine GO.fld (⟨b8, 4, none⟩) rfl rfl fl58_4 rfl rfl ?_
      refine GO.fin (fun a hs => ?_)
      exact ⟨_, _, _, _, _, (.pointer (some ⟨b8, 4, none⟩)), _, _, _, _, by exact hs.setAt 5 rfl, HS, f0, f1, f2, f3, f4, fun _ => rfl, f6, f7, f8, o1_0, o1_1⟩
     | 6, _ =>
      have hb5 : b 5 = true := hd 5 (by decide)
      obtain rfl := f5 hb5
      refine GO.at hs ?_
      refine GO.ldBox (j := 1) HS rfl rfl rfl rfl na2 rfl ?_
      refine GO.fin (fun a hs => ?_)
      exact ⟨_, _, _, _, _, _, (.int .i64 e6.Sign), _, _, _, by exact hs.setAt 6 rfl, HS, f0, f1, f2, f3, f4, f5, fun _ => rfl, f7, f8, o1_0, o1_1⟩
     | 7, _ =>
      have hb4 : b 4 = true := hd 4 (by decide)
      obtain rfl := f4 hb4
      have hb6 : b 6 = true := hd 6 (by decide)
      obtain rfl := f6 hb6
      refine GO.at hs ?_
      refine GO.fn rfl Try.func113 fok113.1 fok113.2 rfl rfl (impl_crossingOf.calls HS  h39) (fun _ wd40 ⟨h41, HS⟩ => ⟨_, h41, ?_⟩)
      refine GO.fin (fun a hs => ?_)
      exact ⟨_, _, _, _, _, _, _, (.agg [.int .i64 t34, .int .i64 t35, .int .i64 t36, .int .i64 t37, .int .i64 t38].toArray), _, _, by exact hs.setAt 7 rfl, HS, f0, f1, f2, f3, f4, f5, f6, fun _ => rfl, f8, o1_0, o1_1⟩
     | 8, _ =>
      have hb1 : b 1 = true := hd 1 (by decide)
      obtain rfl := f1 hb1
      have hb3 : b 3 = true := hd 3 (by decide)
      obtain rfl := f3 hb3
      have d9 : b 9 = false := bfalse (fun hh => hcl 9 (by decide) (hh) 8 (by decide)) hb
      obtain rfl := o1_0 d9
      refine GO.at hs ?_
      refine GO.ix rfl rfl rfl Try.underlying26 sz58 ((RdIn.own (j := 4) rfl) _ HS).2.2.1 c5.1 c5.2 rfl ?_
      refine GO.fin (fun a hs => ?_)
      exact ⟨_, _, _, _, _, _, _, _, (.pointer (some (ea A_d_Crossings (e_crossing.toNat * 5)))), _, by exact hs.setAt 8 rfl, HS, f0, f1, f2, f3, f4, f5, f6, f7, fun _ => rfl, o1_0, o1_1⟩
     | 9, _ =>
      have hb7 : b 7 = true := hd 7 (by decide)
      obtain rfl := f7 hb7
      have hb8 : b 8 = true := hd 8 (by decide)
      obtain rfl := f8 hb8
      obtain rfl := o1_0 hb
      refine GO.at hs ?_
      refine GO.stRow (T := T_GCrossing) (j := 4) (n := e_crossing.toNat) (o := 0) (vs := [.int .i64 t34, .int .i64 t35, .int .i64 t36, .int .i64 t37, .int .i64 t38]) (⟨t34, t35, t36, t37, t38⟩ : GCrossing) HS rfl flat_flat rfl rfl rfl rfl (htA ag58) rfl (getD_some (d := z_GCrossing) (ltN c5)) rfl rfl ?_; intro wd42 HS
      refine GO.fin (fun a hs => ?_)
      exact ⟨_, _, _, _, _, _, _, _, _, Own T_GCrossing 58 A_d_Crossings c_d_Crossings (fun _ => ()) (d_Crossings.set e_crossing.toNat (⟨t34, t35, t36, t37, t38⟩ : GCrossing)), hs, HS, f0, f1, f2, f3, f4, f5, f6, f7, f8, fun h => Bool.noConfusion h, fun _ => rfl⟩
     | k + 10, hj => exact absurd hj (Nat.not_lt.2 (Nat.le_add_left 10 k))
    ·
     intro b a w hall
     refine exI fun Y11_0 => exI fun Y12_1 => exI fun Y13_2 => exI fun Y14_3 => exI fun Y15_4 => exI fun Y16_5 => exI fun Y17_6 => exI fun Y18_7 => exI fun Y19_8 => exI fun O20_1 => anI fun hs => anI fun HS => anI fun f0 => anI fun f1 => anI fun f2 => anI fun f3 => anI fun f4 => anI fun f5 => anI fun f6 => anI fun f7 => anI fun f8 => anI fun o1_0 => fun o1_1 => ?_
     obtain rfl := f0 (hall 0 (by decide))
     obtain rfl := f1 (hall 1 (by decide))
     obtain rfl := f2 (hall 2 (by decide))
     obtain rfl := f3 (hall 3 (by decide))
     obtain rfl := f4 (hall 4 (by decide))
     obtain rfl := f5 (hall 5 (by decide))
     obtain rfl := f6 (hall 6 (by decide))
     obtain rfl := f7 (hall 7 (by decide))
     obtain rfl := f8 (hall 8 (by decide))
     obtain rfl := o1_1 (hall 9 (by decide))
     refine G.at hs ?_
     replace HS := HS.boxEq (j := 3) (cs' := [.slice A_d_Crossings (d_Crossings.set e_crossing.toNat (⟨t34, t35, t36, t37, t38⟩ : GCrossing)).length c_d_Crossings, .int .i64 d_Circles]) rfl (by simp only [List.length_set] <;> rfl)
     obtain rfl := Option.some.inj H
     exact G.end0 Try.func50 rfl ⟨rfl, (HS.pick 5 [4])⟩
   ·
    rcases ite_elim H with ⟨c43, H⟩ | ⟨c43, H⟩
    ·
     refine G.region ?_
     refine GO.fld (⟨b3, 1, none⟩) rfl rfl fl68_1 rfl rfl ?_
     refine GO.ldBox (j := 2) HS rfl rfl rfl rfl na2 rfl ?_
     refine GO.move rfl rfl rfl ?_
     refine GO.ixP 2 rfl rfl rfl c43 Try.underlying93 sz2 rfl rfl ?_
     refine GO.stBox (j := 0) (vs := [.int .i64 arc]) ([.int .i64 t11, .int .i64 t12, .int .i64 arc, .int .i64 t14]) HS rfl rfl rfl rfl rfl (htN na2 rfl) rfl rfl rfl ?_; intro wd44 HS
     refine GO.nil ?_
     obtain ⟨t45, t46, t47, t48, t49, h50, H⟩ := bind5_elim H
     refine G.regionAny mixed (by decide) (fun b a w => ∃ (Y21_0 : Value) (Y22_1 : Value) (Y23_2 : Value) (Y24_3 : Value) (Y25_4 : Value) (Y26_5 : Value) (Y27_6 : Value) (Y28_7 : Value) (Y29_8 : Value) (O30_1 : HObj), Sat 29 [(20, Y21_0), (21, Y22_1), (22, Y23_2), (23, Y24_3), (24, Y25_4), (25, Y26_5), (26, Y27_6), (27, Y28_7), (28, Y29_8), (3, .pointer (some ⟨b1, 0, none⟩)), (4, .pointer (some ⟨b3, 0, none⟩)), (6, .pointer (some ⟨b8, 0, none⟩)), (7, .pointer (some ⟨b18, 0, none⟩))] a ∧ St w0 w (Box b18 93 [.int .i64 t11, .int .i64 t12, .int .i64 arc, .int .i64 t14] :: Box b8 58 [.int .i64 e6.A, .int .i64 e6.B, .int .i64 e6.C, .int .i64 e6.D, .int .i64 e6.Sign] :: Box b3 68 [.int .i64 e_crossing, .int .i64 e_position] :: Box b1 28 [.slice A_d_Crossings d_Crossings.length c_d_Crossings, .int .i64 d_Circles] :: O30_1 :: L) ∧ (b 0 = true → Y21_0 = (.pointer (some ⟨b1, 0, none⟩))) ∧ (b 1 = true → Y22_1 = (.slice A_d_Crossings d_Crossings.length c_d_Crossings)) ∧ (b 2 = true → Y23_2 = (.pointer (some ⟨b3, 0, none⟩))) ∧ (b 3 = true → Y24_3 = (.int .i64 e_crossing)) ∧ (b 4 = true → Y25_4 = (.agg [.int .i64 t11, .int .i64 t12, .int .i64 arc, .int .i64 t14].toArray)) ∧ (b 5 = true → Y26_5 = (.pointer (some ⟨b8, 4, none⟩))) ∧ (b 6 = true → Y27_6 = (.int .i64 e6.Sign)) ∧ (b 7 = true → Y28_7 = (.agg [.int .i64 t45, .int .i64 t46, .int .i64 t47, .int .i64 t48, .int .i64 t49].toArray)) ∧ (b 8 = true → Y29_8 = (.pointer (some (ea A_d_Crossings (e_crossing.toNat * 5))))) ∧ (b 9 = false → O30_1 = Own T_GCrossing 58 A_d_Crossings c_d_Crossings (fun _ => ()) d_Crossings) ∧ (b 9 = true → O30_1 = Own T_GCrossing 58 A_d_Crossings c_d_Crossings (fun _ => ()) (d_Crossings.set e_crossing.toNat (⟨t45, t46, t47, t48, t49⟩ : GCrossing)))) ?_ ?_ ?_
     ·
      intro a hs
      obtain ⟨Y21_0, hs⟩ := hs.ext (d := 20) rfl
      obtain ⟨Y22_1, hs⟩ := hs.ext (d := 21) rfl
      obtain ⟨Y23_2, hs⟩ := hs.ext (d := 22) rfl
      obtain ⟨Y24_3, hs⟩ := hs.ext (d := 23) rfl
      obtain ⟨Y25_4, hs⟩ := hs.ext (d := 24) rfl
      obtain ⟨Y26_5, hs⟩ := hs.ext (d := 25) rfl
      obtain ⟨Y27_6, hs⟩ := hs.ext (d := 26) rfl
      obtain ⟨Y28_7, hs⟩ := hs.ext (d := 27) rfl
      obtain ⟨Y29_8, hs⟩ := hs.ext (d := 28) rfl
      exact ⟨Y21_0, Y22_1, Y23_2, Y24_3, Y25_4, Y26_5, Y27_6, Y28_7, Y29_8, Own T_GCrossing 58 A_d_Crossings c_d_Crossings (fun _ => ()) d_Crossings, hs.weak ⟨rfl, rfl, rfl, rfl, rfl, rfl, rfl, rfl, rfl, rfl, rfl, rfl, rfl, trivial⟩, (HS.drew.pick 5 [0, 1, 2, 3, 4]), fun h => Bool.noConfusion h, fun h => Bool.noConfusion h, fun h => Bool.noConfusion h, fun h => Bool.noConfusion h, fun h => Bool.noConfusion h, fun h => Bool.noConfusion h, fun h => Bool.noConfusion h, fun h => Bool.noConfusion h, fun h => Bool.noConfusion h, fun _ => rfl, fun h => Bool.noConfusion h⟩
     ·
      intro j hj b a w
      refine exI fun Y21_0 => exI fun Y22_1 => exI fun Y23_2 => exI fun Y24_3 => exI fun Y25_4 => exI fun Y26_5 => exI fun Y27_6 => exI fun Y28_7 => exI fun Y29_8 => exI fun O30_1 => anI fun hs => anI fun HS => anI fun f0 => anI fun f1 => anI fun f2 => anI fun f3 => anI fun f4 => anI fun f5 => anI fun f6 => anI fun f7 => anI fun f8 => anI fun o1_0 => fun o1_1 hb hd hcl => ?_
      match j, hj with
      | 0, _ =>
       refine GO.at hs ?_
       refine GO.fld (⟨b1, 0, none⟩) rfl rfl fl28_0 rfl rfl ?_
       refine GO.fin (fun a hs => ?_)
       exact ⟨(.pointer (some ⟨b1, 0, none⟩)), _, _, _, _, _, _, _, _, _, by exact hs.setAt 0 rfl, HS, fun _ => rfl, f1, f2, f3, f4, f5, f6, f7, f8, o1_0, o1_1⟩
      | 1, _ =>
       have hb0 : b 0 = true := hd 0 (by decide)
       obtain rfl := f0 hb0
       refine GO.at hs ?_
       refine GO.ldBox (j := 3) HS rfl rfl rfl rfl na26 rfl ?_
       refine GO.fin (fun a hs => ?_)
       exact ⟨_, (.slice A_d_Crossings d_Crossings.length c_d_Crossings), _, _, _, _, _, _, _, _, by exact hs.setAt 1 rfl, HS, f0, fun _ => rfl, f2, f3, f4, f5, f6, f7, f8, o1_0, o1_1⟩
      | 2, _ =>
       refine GO.at hs ?_
       refine GO.fld (⟨b3, 0, none⟩) rfl rfl fl68_0 rfl rfl ?_
       refine GO.fin (fun a hs => ?_)
       exact ⟨_, _, (.pointer (some ⟨b3, 0, none⟩)), _, _, _, _, _, _, _, by exact hs.setAt 2 rfl, HS, f0, f1, fun _ => rfl, f3, f4, f5, f6, f7, f8, o1_0, o1_1⟩
      | 3, _ =>
       have hb2 : b 2 = true := hd 2 (by decide)
       obtain rfl := f2 hb2
       refine GO.at hs ?_
       refine GO.ldBox (j := 2) HS rfl rfl rfl rfl na2 rfl ?_
       refine GO.fin (fun a hs => ?_)
       exact ⟨_, _, _, (.int .i64 e_crossing), _, _, _, _, _, _, by exact hs.setAt 3 rfl, HS, f0, f1, f2, fun _ => rfl, f4, f5, f6, f7, f8, o1_0, o1_1⟩
      | 4, _ =>
       refine GO.at hs ?_
       refine GO.ldBoxA (j := 0) ([.int .i64 t11, .int .i64 t12, .int .i64 arc, .int .i64 t14]) HS rfl rfl rfl rfl ag93 rfl ?_
       refine GO.fin (fun a hs => ?_)
       exact ⟨_, _, _, _, (.agg [.int .i64 t11, .int .i64 t12, .int .i64 arc, .int .i64 t14].toArray), _, _, _, _, _, by exact hs.setAt 4 rfl, HS, f0, f1, f2, f3, fun _ => rfl, f5, f6, f7, f8, o1_0, o1_1⟩
      | 5, _ =>
       refine GO.at hs ?_
       refine GO.fld (⟨b8, 4, none⟩) rfl rfl fl58_4 rfl rfl ?_
       refine GO.fin (fun a hs => ?_)
       exact ⟨_, _, _, _, _, (.pointer (some ⟨b8, 4, none⟩)), _, _, _, _, by exact hs.setAt 5 rfl, HS, f0, f1, f2, f3, f4, fun _ => rfl, f6, f7, f8, o1_0, o1_1⟩
      | 6, _ =>
       have hb5 : b 5 = true := hd 5 (by decide)
       obtain rfl := f5 hb5
       refine GO.at hs ?_
       refine GO.ldBox (j := 1) HS rfl rfl rfl rfl na2 rfl ?_
       refine GO.fin (fun a hs => ?_)
       exact ⟨_, _, _, _, _, _, (.int .i64 e6.Sign), _, _, _, by exact hs.setAt 6 rfl, HS, f0, f1, f2, f3, f4, f5, fun _ => rfl, f7, f8, o1_0, o1_1⟩
      | 7, _ =>
       have hb4 : b 4 = true := hd 4 (by decide)
       obtain rfl := f4 hb4
       have hb6 : b 6 = true := hd 6 (by decide)
       obtain rfl := f6 hb6
       refine GO.at hs ?_
       refine GO.fn rfl Try.func113 fok113.1 fok113.2 rfl rfl (impl_crossingOf.calls HS  h50) (fun _ wd51 ⟨h52, HS⟩ => ⟨_, h52, ?_⟩)
       refine GO.fin (fun a hs => ?_)
       exact ⟨_, _, _, _, _, _, _, (.agg [.int .i64 t45, .int .i64 t46, .int .i64 t47, .int .i64 t48, .int .i64 t49].toArray), _, _, by exact hs.setAt 7 rfl, HS, f0, f1, f2, f3, f4, f5, f6, fun _ => rfl, f8, o1_0, o1_1⟩
      | 8, _ =>
       have hb1 : b 1 = true := hd 1 (by decide)
       obtain rfl := f1 hb1
       have hb3 : b 3 = true := hd 3 (by decide)
       obtain rfl := f3 hb3
       have d9 : b 9 = false := bfalse (fun hh => hcl 9 (by decide) (hh) 8 (by decide)) hb
       obtain rfl := o1_0 d9
       refine GO.at hs ?_
       refine GO.ix rfl rfl rfl Try.underlying26 sz58 ((RdIn.own (j := 4) rfl) _ HS).2.2.1 c5.1 c5.2 rfl ?_
       refine GO.fin (fun a hs => ?_)
       exact ⟨_, _, _, _, _, _, _, _, (.pointer (some (ea A_d_Crossings (e_crossing.toNat * 5)))), _, by exact hs.setAt 8 rfl, HS, f0, f1, f2, f3, f4, f5, f6, f7, fun _ => rfl, o1_0, o1_1⟩
      | 9, _ =>
       have hb7 : b 7 = true := hd 7 (by decide)
       obtain rfl := f7 hb7
       have hb8 : b 8 = true := hd 8 (by decide)
       obtain rfl := f8 hb8
       obtain rfl := o1_0 hb
       refine GO.at hs ?_
       refine GO.stRow (T := T_GCrossing) (j := 4) (n := e_crossing.toNat) (o := 0) (vs := [.int .i64 t45, .int .i64 t46, .int .i64 t47, .int .i64 t48, .int .i64 t49]) (⟨t45, t46, t47, t48, t49⟩ : GCrossing) HS rfl flat_flat rfl rfl rfl rfl (htA ag58) rfl (getD_some (d := z_GCrossing) (ltN c5)) rfl rfl ?_; intro wd53 HS
       refine GO.fin (fun a hs => ?_)
       exact ⟨_, _, _, _, _, _, _, _, _, Own T_GCrossing 58 A_d_Crossings c_d_Crossings (fun _ => ()) (d_Crossings.set e_crossing.toNat (⟨t45, t46, t47, t48, t49⟩ : GCrossing)), hs, HS, f0, f1, f2, f3, f4, f5, f6, f7, f8, fun h => Bool.noConfusion h, fun _ => rfl⟩
      | k + 10, hj => exact absurd hj (Nat.not_lt.2 (Nat.le_add_left 10 k))
     ·
      intro b a w hall
      refine exI fun Y21_0 => exI fun Y22_1 => exI fun Y23_2 => exI fun Y24_3 => exI fun Y25_4 => exI fun Y26_5 => exI fun Y27_6 => exI fun Y28_7 => exI fun Y29_8 => exI fun O30_1 => anI fun hs => anI fun HS => anI fun f0 => anI fun f1 => anI fun f2 => anI fun f3 => anI fun f4 => anI fun f5 => anI fun f6 => anI fun f7 => anI fun f8 => anI fun o1_0 => fun o1_1 => ?_
      obtain rfl := f0 (hall 0 (by decide))
      obtain rfl := f1 (hall 1 (by decide))
      obtain rfl := f2 (hall 2 (by decide))
      obtain rfl := f3 (hall 3 (by decide))
      obtain rfl := f4 (hall 4 (by decide))
      obtain rfl := f5 (hall 5 (by decide))
      obtain rfl := f6 (hall 6 (by decide))
      obtain rfl := f7 (hall 7 (by decide))
      obtain rfl := f8 (hall 8 (by decide))
      obtain rfl := o1_1 (hall 9 (by decide))
      refine G.at hs ?_
      replace HS := HS.boxEq (j := 3) (cs' := [.slice A_d_Crossings (d_Crossings.set e_crossing.toNat (⟨t45, t46, t47, t48, t49⟩ : GCrossing)).length c_d_Crossings, .int .i64 d_Circles]) rfl (by simp only [List.length_set] <;> rfl)
      obtain rfl := Option.some.inj H
      exact G.end0 Try.func50 rfl ⟨rfl, (HS.pick 5 [4])⟩
    ·
     rcases ite_elim H with ⟨c54, H⟩ | ⟨c54, H⟩
     ·
      refine G.region ?_
      refine GO.fld (⟨b3, 1, none⟩) rfl rfl fl68_1 rfl rfl ?_
      refine GO.ldBox (j := 2) HS rfl rfl rfl rfl na2 rfl ?_
      refine GO.move rfl rfl rfl ?_
      refine GO.ixP 3 rfl rfl rfl c54 Try.underlying93 sz2 rfl rfl ?_
      refine GO.stBox (j := 0) (vs := [.int .i64 arc]) ([.int .i64 t11, .int .i64 t12, .int .i64 t13, .int .i64 arc]) HS rfl rfl rfl rfl rfl (htN na2 rfl) rfl rfl rfl ?_; intro wd55 HS
      refine GO.nil ?_
      obtain ⟨t56, t57, t58, t59, t60, h61, H⟩ := bind5_elim H
      refine G.regionAny mixed (by decide) (fun b a w => ∃ (Y31_0 : Value) (Y32_1 : Value) (Y33_2 : Value) (Y34_3 : Value) (Y35_4 : Value) (Y36_5 : Value) (Y37_6 : Value) (Y38_7 : Value) (Y39_8 : Value) (O40_1 : HObj), Sat 29 [(20, Y31_0), (21, Y32_1), (22, Y33_2), (23, Y34_3), (24, Y35_4), (25, Y36_5), (26, Y37_6), (27, Y38_7), (28, Y39_8), (3, .pointer (some ⟨b1, 0, none⟩)), (4, .pointer (some ⟨b3, 0, none⟩)), (6, .pointer (some ⟨b8, 0, none⟩)), (7, .pointer (some ⟨b18, 0, none⟩))] a ∧ St w0 w (Box b18 93 [.int .i64 t11, .int .i64 t12, .int .i64 t13, .int .i64 arc] :: Box b8 58 [.int .i64 e6.A, .int .i64 e6.B, .int .i64 e6.C, .int .i64 e6.D, .int .i64 e6.Sign] :: Box b3 68 [.int .i64 e_crossing, .int .i64 e_position] :: Box b1 28 [.slice A_d_Crossings d_Crossings.length c_d_Crossings, .int .i64 d_Circles] :: O40_1 :: L) ∧ (b 0 = true → Y31_0 = (.pointer (some ⟨b1, 0, none⟩))) ∧ (b 1 = true → Y32_1 = (.slice A_d_Crossings d_Crossings.length c_d_Crossings)) ∧ (b 2 = true → Y33_2 = (.pointer (some ⟨b3, 0, none⟩))) ∧ (b 3 = true → Y34_3 = (.int .i64 e_crossing)) ∧ (b 4 = true → Y35_4 = (.agg [.int .i64 t11, .int .i64 t12, .int .i64 t13, .int .i64 arc].toArray)) ∧ (b 5 = true → Y36_5 = (.pointer (some ⟨b8, 4, none⟩))) ∧ (b 6 = true → Y37_6 = (.int .i64 e6.Sign)) ∧ (b 7 = true → Y38_7 = (.agg [.int .i64 t56, .int .i64 t57, .int .i64 t58, .int .i64 t59, .int .i64 t60].toArray)) ∧ (b 8 = true → Y39_8 = (.pointer (some (ea A_d_Crossings (e_crossing.toNat * 5))))) ∧ (b 9 = false → O40_1 = Own T_GCrossing 58 A_d_Crossings c_d_Crossings (fun _ => ()) d_Crossings) ∧ (b 9 = true → O40_1 = Own T_GCrossing 58 A_d_Crossings c_d_Crossings (fun _ => ()) (d_Crossings.set e_crossing.toNat (⟨t56, t57, t58, t59, t60⟩ : GCrossing)))) ?_ ?_ ?_
      ·
       intro a hs
       obtain ⟨Y31_0, hs⟩ := hs.ext (d := 20) rfl
       obtain ⟨Y32_1, hs⟩ := hs.ext (d := 21) rfl
       obtain ⟨Y33_2, hs⟩ := hs.ext (d := 22) rfl
       obtain ⟨Y34_3, hs⟩ := hs.ext (d := 23) rfl
       obtain ⟨Y35_4, hs⟩ := hs.ext (d := 24) rfl
       obtain ⟨Y36_5, hs⟩ := hs.ext (d := 25) rfl
       obtain ⟨Y37_6, hs⟩ := hs.ext (d := 26) rfl
       obtain ⟨Y38_7, hs⟩ := hs.ext (d := 27) rfl
       obtain ⟨Y39_8, hs⟩ := hs.ext (d := 28) rfl
       exact ⟨Y31_0, Y32_1, Y33_2, Y34_3, Y35_4, Y36_5, Y37_6, Y38_7, Y39_8, Own T_GCrossing 58 A_d_Crossings c_d_Crossings (fun _ => ()) d_Crossings, hs.weak ⟨rfl, rfl, rfl, rfl, rfl, rfl, rfl, rfl, rfl, rfl, rfl, rfl, rfl, trivial⟩, (HS.drew.pick 5 [0, 1, 2, 3, 4]), fun h => Bool.noConfusion h, fun h => Bool.noConfusion h, fun h => Bool.noConfusion h, fun h => Bool.noConfusion h, fun h => Bool.noConfusion h, fun h => Bool.noConfusion h, fun h => Bool.noConfusion h, fun h => Bool.noConfusion h, fun h => Bool.noConfusion h, fun _ => rfl, fun h => Bool.noConfusion h⟩
      ·
       intro j hj b a w
       refine exI fun Y31_0 => exI fun Y32_1 => exI fun Y33_2 => exI fun Y34_3 => exI fun Y35_4 => exI fun Y36_5 => exI fun Y37_6 => exI fun Y38_7 => exI fun Y39_8 => exI fun O40_1 => anI fun hs => anI fun HS => anI fun f0 => anI fun f1 => anI fun f2 => anI fun f3 => anI fun f4 => anI fun f5 => anI fun f6 => anI fun f7 => anI fun f8 => anI fun o1_0 => fun o1_1 hb hd hcl => ?_
       match j, hj with
       | 0, _ =>
        refine GO.at hs ?_
        refine GO.fld (⟨b1, 0, none⟩) rfl rfl fl28_0 rfl rfl ?_
        refine GO.fin (fun a hs => ?_)
        exact ⟨(.pointer (some ⟨b1, 0, none⟩)), _, _, _, _, _, _, _, _, _, by exact hs.setAt 0 rfl, HS, fun _ => rfl, f1, f2, f3, f4, f5, f6, f7, f8, o1_0, o1_1⟩
       | 1, _ =>
        have hb0 : b 0 = true := hd 0 (by decide)
        obtain rfl := f0 hb0
        refine GO.at hs ?_
        refine GO.ldBox (j := 3) HS rfl rfl rfl rfl na26 rfl ?_
        refine GO.fin (fun a hs => ?_)
        exact ⟨_, (.slice A_d_Crossings d_Crossings.length c_d_Crossings), _, _, _, _, _, _, _, _, by exact hs.setAt 1 rfl, HS, f0, fun _ => rfl, f2, f3, f4, f5, f6, f7, f8, o1_0, o1_1⟩
       | 2, _ =>
        refine GO.at hs ?_
        refine GO.fld (⟨b3, 0, none⟩) rfl rfl fl68_0 rfl rfl ?_
        refine GO.fin (fun a hs => ?_)
        exact ⟨_, _, (.pointer (some ⟨b3, 0, none⟩)), _, _, _, _, _, _, _, by exact hs.setAt 2 rfl, HS, f0, f1, fun _ => rfl, f3, f4, f5, f6, f7, f8, o1_0, o1_1⟩
       | 3, _ =>
        have hb2 : b 2 = true := hd 2 (by decide)
        obtain rfl := f2 hb2
        refine GO.at hs ?_
        refine GO.ldBox (j := 2) HS rfl rfl rfl rfl na2 rfl ?_
        refine GO.fin (fun a hs => ?_)
        exact ⟨_, _, _, (.int .i64 e_crossing), _, _, _, _, _, _, by exact hs.setAt 3 rfl, HS, f0, f1, f2, fun _ => rfl, f4, f5, f6, f7, f8, o1_0, o1_1⟩
       | 4, _ =>
        refine GO.at hs ?_
        refine GO.ldBoxA (j := 0) ([.int .i64 t11, .int .i64 t12, .int .i64 t13, .int .i64 arc]) HS rfl rfl rfl rfl ag93 rfl ?_
        refine GO.fin (fun a hs => ?_)
        exact ⟨_, _, _, _, (.agg [.int .i64 t11, .int .i64 t12, .int .i64 t13, .int .i64 arc].toArray), _, _, _, _, _, by exact hs.setAt 4 rfl, HS, f0, f1, f2, f3, fun _ => rfl, f5, f6, f7, f8, o1_0, o1_1⟩
       | 5, _ =>
        refine GO.at hs ?_
        refine GO.fld (⟨b8, 4, none⟩) rfl rfl fl58_4 rfl rfl ?_
        refine GO.fin (fun a hs => ?_)
        exact ⟨_, _, _, _, _, (.pointer (some ⟨b8, 4, none⟩)), _, _, _, _, by exact hs.setAt 5 rfl, HS, f0, f1, f2, f3, f4, fun _ => rfl, f6, f7, f8, o1_0, o1_1⟩
       | 6, _ =>
        have hb5 : b 5 = true := hd 5 (by decide)
        obtain rfl := f5 hb5
        refine GO.at hs ?_
        refine GO.ldBox (j := 1) HS rfl rfl rfl rfl na2 rfl ?_
        refine GO.fin (fun a hs => ?_)
        exact ⟨_, _, _, _, _, _, (.int .i64 e6.Sign), _, _, _, by exact hs.setAt 6 rfl, HS, f0, f1, f2, f3, f4, f5, fun _ => rfl, f7, f8, o1_0, o1_1⟩
       | 7, _ =>
        have hb4 : b 4 = true := hd 4 (by decide)
        obtain rfl := f4 hb4
        have hb6 : b 6 = true := hd 6 (by decide)
        obtain rfl := f6 hb6
        refine GO.at hs ?_
        refine GO.fn rfl Try.func113 fok113.1 fok113.2 rfl rfl (impl_crossingOf.calls HS  h61) (fun _ wd62 ⟨h63, HS⟩ => ⟨_, h63, ?_⟩)
        refine GO.fin (fun a hs => ?_)
        exact ⟨_, _, _, _, _, _, _, (.agg [.int .i64 t56, .int .i64 t57, .int .i64 t58, .int .i64 t59, .int .i64 t60].toArray), _, _, by exact hs.setAt 7 rfl, HS, f0, f1, f2, f3, f4, f5, f6, fun _ => rfl, f8, o1_0, o1_1⟩
       | 8, _ =>
        have hb1 : b 1 = true := hd 1 (by decide)
        obtain rfl := f1 hb1
        have hb3 : b 3 = true := hd 3 (by decide)
        obtain rfl := f3 hb3
        have d9 : b 9 = false := bfalse (fun hh => hcl 9 (by decide) (hh) 8 (by decide)) hb
        obtain rfl := o1_0 d9
        refine GO.at hs ?_
        refine GO.ix rfl rfl rfl Try.underlying26 sz58 ((RdIn.own (j := 4) rfl) _ HS).2.2.1 c5.1 c5.2 rfl ?_
        refine GO.fin (fun a hs => ?_)
        exact ⟨_, _, _, _, _, _, _, _, (.pointer (some (ea A_d_Crossings (e_crossing.toNat * 5)))), _, by exact hs.setAt 8 rfl, HS, f0, f1, f2, f3, f4, f5, f6, f7, fun _ => rfl, o1_0, o1_1⟩
       | 9, _ =>
        have hb7 : b 7 = true := hd 7 (by decide)
        obtain rfl := f7 hb7
        have hb8 : b 8 = true := hd 8 (by decide)
        obtain rfl := f8 hb8
        obtain rfl := o1_0 hb
        refine GO.at hs ?_
        refine GO.stRow (T := T_GCrossing) (j := 4) (n := e_crossing.toNat) (o := 0) (vs := [.int .i64 t56, .int .i64 t57, .int .i64 t58, .int .i64 t59, .int .i64 t60]) (⟨t56, t57, t58, t59, t60⟩ : GCrossing) HS rfl flat_flat rfl rfl rfl rfl (htA ag58) rfl (getD_some (d := z_GCrossing) (ltN c5)) rfl rfl ?_; intro wd64 HS
        refine GO.fin (fun a hs => ?_)
        exact ⟨_, _, _, _, _, _, _, _, _, Own T_GCrossing 58 A_d_Crossings c_d_Crossings (fun _ => ()) (d_Crossings.set e_crossing.toNat (⟨t56, t57, t58, t59, t60⟩ : GCrossing)), hs, HS, f0, f1, f2, f3, f4, f5, f6, f7, f8, fun h => Bool.noConfusion h, fun _ => rfl⟩
       | k + 10, hj => exact absurd hj (Nat.not_lt.2 (Nat.le_add_left 10 k))
      ·
       intro b a w hall
       refine exI fun Y31_0 => exI fun Y32_1 => exI fun Y33_2 => exI fun Y34_3 => exI fun Y35_4 => exI fun Y36_5 => exI fun Y37_6 => exI fun Y38_7 => exI fun Y39_8 => exI fun O40_1 => anI fun hs => anI fun HS => anI fun f0 => anI fun f1 => anI fun f2 => anI fun f3 => anI fun f4 => anI fun f5 => anI fun f6 => anI fun f7 => anI fun f8 => anI fun o1_0 => fun o1_1 => ?_
       obtain rfl := f0 (hall 0 (by decide))
       obtain rfl := f1 (hall 1 (by decide))
       obtain rfl := f2 (hall 2 (by decide))
       obtain rfl := f3 (hall 3 (by decide))
       obtain rfl := f4 (hall 4 (by decide))
       obtain rfl := f5 (hall 5 (by decide))
       obtain rfl := f6 (hall 6 (by decide))
       obtain rfl := f7 (hall 7 (by decide))
       obtain rfl := f8 (hall 8 (by decide))
       obtain rfl := o1_1 (hall 9 (by decide))
       refine G.at hs ?_
       replace HS := HS.boxEq (j := 3) (cs' := [.slice A_d_Crossings (d_Crossings.set e_crossing.toNat (⟨t56, t57, t58, t59, t60⟩ : GCrossing)).length c_d_Crossings, .int .i64 d_Circles]) rfl (by simp only [List.length_set] <;> rfl)
       obtain rfl := Option.some.inj H
       exact G.end0 Try.func50 rfl ⟨rfl, (HS.pick 5 [4])⟩
     ·
      cases H

set_option maxRecDepth 20000 in
set_option maxHeartbeats 40000000 in
theorem impl_Diagram_strands.calls {w0 w : World} {L : List HObj} {K : Nat} {d_Crossings : List GCrossing} {d_Circles : Int} {a_from : List GEnd} {a_to : List GEnd} {A_d_Crossings : Option Addr} {c_d_Crossings : Nat} {A_a_from : Option Addr} {c_a_from : Nat} {A_a_to : Option Addr} {c_a_to : Nat} {r1 : List (List Int)} (HS : St w0 w (L)) (h_d_Crossings : RdIn w0 L T_GCrossing A_d_Crossings c_d_Crossings (fun _ => ()) d_Crossings) (h_a_from : RdIn w0 L T_GEnd A_a_from c_a_from (fun _ => ()) a_from) (h_a_to : RdIn w0 L T_GEnd A_a_to c_a_to (fun _ => ()) a_to) (H : impl_Diagram_strands.f K d_Crossings d_Circles a_from a_to = some r1) :
    Calls Try.prog 133 #[.agg [.slice A_d_Crossings d_Crossings.length c_d_Crossings, .int .i64 d_Circles].toArray, .agg [.slice A_a_from a_from.length c_a_from, .slice A_a_to a_to.length c_a_to].toArray] w (impl_Diagram_strands.post w0 L d_Crossings d_Circles a_from a_to A_d_Crossings c_d_Crossings A_a_from c_a_from A_a_to c_a_to r1) := by
  unfold impl_Diagram_strands.f at H
  refine Calls.of_G Try.func133 rfl rfl rfl ?_
  refine G.seq ?_
  refine G.region ?_
  refine GO.box (cs := [.slice A_d_Crossings d_Crossings.length c_d_Crossings, .int .i64 d_Circles]) HS rfl rfl rfl rfl ?_; intro b1 wd2 HS
  refine GO.box (cs := [.slice A_a_from a_from.length c_a_from, .slice A_a_to a_to.length c_a_to]) HS rfl rfl rfl rfl ?_; intro b3 wd4 HS
  refine GO.assign rfl rfl rfl ?_
  refine GO.nil ?_
  refine G.seq ?_
  refine G.region ?_
  refine GO.assign rfl rfl rfl ?_
  refine GO.nil ?_
  refine G.seq ?_
  obtain ⟨c5, H⟩ := ite_none H
  obtain ⟨c6, H⟩ := ite_none H
  refine G.region ?_
  refine GO.fld (⟨b3, 1, none⟩) rfl rfl fl63_1 rfl rfl ?_
  refine GO.ldBox (j := 0) HS rfl rfl rfl rfl na61 rfl ?_
  refine GO.lenS rfl rfl Try.underlying61 rfl ?_
  refine GO.make (T := TBool) false () HS flat_flat rfl rfl rfl Try.underlying83 inf4 rfl rfl rfl c5 c6 rfl ?_; intro b7 wd8 HS
  refine GO.assign rfl rfl rfl ?_
  refine GO.nil ?_
  refine G.seq ?_
  refine G.seq ?_
  refine G.region ?_
  refine GO.move rfl rfl rfl ?_
  refine GO.lenS rfl rfl Try.underlying83 rfl ?_
  refine GO.move rfl rfl rfl ?_
  refine GO.nil ?_
  refine G.block ?_
  refine G.loop ?_
  refine G.name (fun k_l1 hk_l1 => ?_)
  have at_l1 : ∀ m_l1, m_l1 ≤ K → ∀ (A70 : Option Addr) (c71 : Nat) (out_72 : List (List Int)) (y73 : Nat → (Ty.slice 2 (TInt .i64)).Lay) (seen_74 : List Bool) (x75 : Int) (w : World), impl_Diagram_strands.l1 K m_l1 d_Crossings d_Circles a_from a_to out_72 seen_74 x75 = some r1 → St w0 w (Box b1 28 [.slice A_d_Crossings d_Crossings.length c_d_Crossings, .int .i64 d_Circles] :: Box b3 63 [.slice A_a_from a_from.length c_a_from, .slice A_a_to a_to.length c_a_to] :: Own (Ty.slice 2 (TInt .i64)) 43 A70 c71 y73 out_72 :: Own TBool 4 (some ⟨b7, 0, none⟩) ((a_to.length : Int).toNat) (fun _ => ()) seen_74 :: L) → G Try.prog 133 45 [(2, .pointer (some ⟨b1, 0, none⟩)), (3, .pointer (some ⟨b3, 0, none⟩)), (5, .slice A70 out_72.length c71), (6, .slice (some ⟨b7, 0, none⟩) seen_74.length ((a_to.length : Int).toNat)), (15, .int .i64 ((List.replicate (a_to.length : Int).toNat false).length : Int)), (16, .int .i64 x75)] k_l1 w (impl_Diagram_strands.post w0 L d_Crossings d_Circles a_from a_to A_d_Crossings c_d_Crossings A_a_from c_a_from A_a_to c_a_to r1) := by
   intro m_l1
   induction m_l1 using Nat.strongRecOn with
   | _ m_l1 ih_l1 =>
    intro hm_l1 A70 c71 out_72 y73 seen_74 x75 w H HS
    cases m_l1 with
    | zero => rw [impl_Diagram_strands.l1] at H; cases H
    | succ n_l1 =>
     rw [impl_Diagram_strands.l1] at H
     subst hk_l1
     refine G.seq ?_
     refine G.region ?_
     refine GO.lss rfl rfl rfl rfl ?_
     refine GO.nil ?_
     refine G.seq ?_
     rcases ite_elim H with ⟨c137, H⟩ | ⟨c137, H⟩
     ·
      refine G.yesB rfl (decide_eq_true c137) ?_
      refine G.skip ?_
      refine G.seq ?_
      refine G.block ?_
      refine G.seq ?_
      refine G.region ?_
      refine GO.move rfl rfl rfl ?_
      refine GO.assign rfl rfl rfl ?_
      refine GO.nil ?_
      refine G.seq ?_
      refine G.region ?_
      refine GO.assign rfl rfl rfl ?_
      refine GO.nil ?_
      refine G.seq ?_
      refine G.seq ?_
      refine G.region ?_
      refine GO.move rfl rfl rfl ?_
      refine GO.assign rfl rfl rfl ?_
      refine GO.nil ?_
      refine G.block ?_
      refine G.loop ?_
      refine G.name (fun k_l4 hk_l4 => ?_)
      have at_l4 : ∀ m_l4, m_l4 ≤ n_l1 → ∀ (seen_151 : List Bool) (A152 : Option Addr) (c153 : Nat) (list_154 : List Int) (arc_155 : Int) (w : World), impl_Diagram_strands.l4 K m_l4 d_Crossings d_Circles a_from a_to out_72 x75 seen_151 list_154 arc_155 = some r1 → St w0 w (Box b1 28 [.slice A_d_Crossings d_Crossings.length c_d_Crossings, .int .i64 d_Circles] :: Box b3 63 [.slice A_a_from a_from.length c_a_from, .slice A_a_to a_to.length c_a_to] :: Own (Ty.slice 2 (TInt .i64)) 43 A70 c71 y73 out_72 :: Own TBool 4 (some ⟨b7, 0, none⟩) ((a_to.length : Int).toNat) (fun _ => ()) seen_151 :: Own (TInt .i64) 2 A152 c153 (fun _ => ()) list_154 :: L) → G Try.prog 133 45 [(2, .pointer (some ⟨b1, 0, none⟩)), (3, .pointer (some ⟨b3, 0, none⟩)), (5, .slice A70 out_72.length c71), (6, .slice (some ⟨b7, 0, none⟩) seen_151.length ((a_to.length : Int).toNat)), (8, .slice A152 list_154.length c153), (9, .int .i64 arc_155), (15, .int .i64 ((List.replicate (a_to.length : Int).toNat false).length : Int)), (16, .int .i64 x75)] k_l4 w (impl_Diagram_strands.post w0 L d_Crossings d_Circles a_from a_to A_d_Crossings c_d_Crossings A_a_from c_a_from A_a_to c_a_to r1) := by
       intro m_l4
       induction m_l4 using Nat.strongRecOn with
       | _ m_l4 ih_l4 =>
        intro hm_l4 seen_151 A152 c153 list_154 arc_155 w H HS
        cases m_l4 with
        | zero => rw [impl_Diagram_strands.l4] at H; cases H
        | succ n_l4 =>
         rw [impl_Diagram_strands.l4] at H
         subst hk_l4
         refine G.seq ?_
         refine G.seq ?_
         obtain ⟨c177, H⟩ := ite_none H
         refine G.region ?_
         refine GO.move rfl rfl rfl ?_
         refine GO.move rfl rfl rfl ?_
         refine GO.ix rfl rfl rfl Try.underlying83 sz4 (fun _ => ⟨_, _, rfl⟩) c177.1 c177.2 rfl ?_
         refine GO.ldRd (T := TBool) (n := arc_155.toNat) (o := 0) HS (RdIn.own (j := 3) rfl) rfl rfl (getD_some (d := false) (ltN c177)) rfl rfl na4 rfl ?_
         refine GO.not rfl rfl rfl ?_
         refine GO.nil ?_
         rcases ite_elim H with ⟨c178, H⟩ | ⟨c178, H⟩
         ·
          refine G.noB rfl (congrArg Bool.not c178) ?_
          refine G.exit rfl ?_
          refine G.seq ?_
          refine G.region ?_
          refine GO.move rfl rfl rfl ?_
          refine GO.lenS rfl rfl Try.underlying43 rfl ?_
          refine GO.gtr rfl rfl rfl rfl ?_
          refine GO.nil ?_
          rcases ite_elim H with ⟨c179, H⟩ | ⟨c179, H⟩
          ·
           refine G.yesB rfl (decide_eq_true c179) ?_
           obtain ⟨c185, H⟩ := ite_none H
           refine G.region ?_
           refine GO.move rfl rfl rfl ?_
           refine GO.move rfl rfl rfl ?_
           refine GO.buildS (el := 43) ([.slice A152 list_154.length c153]) HS rfl rfl (fun _ => by kernel_rfl) rfl ?_; intro b180 wd181 HS
           replace HS := HS.pick 6 [3, 0, 5, 1, 2, 4]
           refine GO.appR (S := (TInt .i64)) (u := 2) HS rfl rfl rfl Try.underlying42 inf43 rfl rfl c185 rfl ?_; intro A183 c184 y186 wd182 HS
           refine GO.assign rfl rfl rfl ?_
           refine GO.nil ?_
           refine G.blockEnd ?_
           refine G.region ?_
           refine GO.add rfl rfl rfl rfl ?_
           refine GO.move rfl rfl rfl ?_
           refine GO.nil ?_
           refine G.again ?_
           refine G.weak ?_ (ih_l1 n_l4 (Nat.lt_succ_of_le (Nat.le_of_succ_le hm_l4)) (Nat.le_trans (Nat.le_of_succ_le hm_l4) (Nat.le_of_succ_le hm_l1)) _ _ _ _ _ _ _ H (HS.pick 5 [2, 3, 0, 4]))
           exact ⟨rfl, rfl, rfl, rfl, rfl, rfl, trivial⟩
          ·
           refine G.noB rfl (decide_eq_false c179) ?_
           refine G.skip ?_
           refine G.blockEnd ?_
           refine G.region ?_
           refine GO.add rfl rfl rfl rfl ?_
           refine GO.move rfl rfl rfl ?_
           refine GO.nil ?_
           refine G.again ?_
           refine G.weak ?_ (ih_l1 n_l4 (Nat.lt_succ_of_le (Nat.le_of_succ_le hm_l4)) (Nat.le_trans (Nat.le_of_succ_le hm_l4) (Nat.le_of_succ_le hm_l1)) _ _ _ _ _ _ _ H (HS.pick 5 [0, 1, 2, 3]))
           exact ⟨rfl, rfl, rfl, rfl, rfl, rfl, trivial⟩
         ·
          refine G.yesB rfl (congrArg Bool.not (bnot_of c178)) ?_
          refine G.skip ?_
          refine G.seq ?_
          refine G.block ?_
          refine G.seq ?_
          refine G.region ?_
          refine GO.move rfl rfl rfl ?_
          refine GO.move rfl rfl rfl ?_
          refine GO.ix rfl rfl rfl Try.underlying83 sz4 (fun _ => ⟨_, _, rfl⟩) c177.1 c177.2 rfl ?_
          refine GO.stRow (T := TBool) (j := 3) (n := arc_155.toNat) (o := 0) (vs := [.bool true]) true HS rfl flat_flat rfl rfl rfl rfl (htN na4 rfl) rfl (getD_some (d := false) (ltN c177)) rfl rfl ?_; intro wd187 HS
          refine GO.nil ?_
          refine G.len (t := 6) (m := (seen_151.set arc_155.toNat true).length) rfl (by simp only [List.length_set] <;> rfl) ?_
          obtain ⟨c193, H⟩ := ite_none H
          refine G.region ?_
          refine GO.move rfl rfl rfl ?_
          refine GO.move rfl rfl rfl ?_
          refine GO.buildS (el := 2) ([.int .i64 arc_155]) HS rfl rfl (fun _ => by kernel_rfl) rfl ?_; intro b188 wd189 HS
          refine GO.app1 (T := (TInt .i64)) (j := 5) (jb := 0) arc_155 HS rfl rfl flat_flat rfl rfl rfl Try.underlying43 inf2 rfl rfl rfl c193 rfl ?_; intro A191 c192 wd190 HS
          refine GO.assign rfl rfl rfl ?_
          refine GO.nil ?_
          refine G.blockEnd ?_
          obtain ⟨t194, h195, H⟩ := Option.bind_eq_some_iff.1 H
          refine G.region ?_
          refine GO.ldBoxA (j := 1) ([.slice A_d_Crossings d_Crossings.length c_d_Crossings, .int .i64 d_Circles]) HS rfl rfl rfl rfl ag28 rfl ?_
          refine GO.ldBoxA (j := 2) ([.slice A_a_from a_from.length c_a_from, .slice A_a_to a_to.length c_a_to]) HS rfl rfl rfl rfl ag63 rfl ?_
          refine GO.move rfl rfl rfl ?_
          refine GO.fn rfl Try.func132 fok132.1 fok132.2 rfl rfl (impl_Diagram_next.calls HS (RdIn.drop 6 h_d_Crossings) (RdIn.drop 6 h_a_from) (RdIn.drop 6 h_a_to) h195) (fun _ wd196 ⟨h197, HS⟩ => ⟨_, h197, ?_⟩)
          refine GO.assign rfl rfl rfl ?_
          refine GO.nil ?_
          refine G.again ?_
          refine G.weak ?_ (ih_l4 n_l4 (Nat.lt_succ_of_le (Nat.le_refl _)) (Nat.le_of_succ_le hm_l4) _ _ _ _ _ _ H (HS.pick 6 [1, 2, 3, 4, 5]))
          exact ⟨rfl, rfl, rfl, rfl, rfl, rfl, rfl, rfl, trivial⟩
      replace HS := HS.nilRow (TInt .i64) 2 (fun _ => ())
      refine G.weak ?_ (at_l4 n_l1 (Nat.le_refl _) _ _ _ _ _ _ H (HS.pick 5 [1, 2, 3, 4, 0]))
      exact ⟨rfl, rfl, rfl, rfl, rfl, rfl, rfl, rfl, trivial⟩
     ·
      refine G.noB rfl (decide_eq_false c137) ?_
      refine G.exit rfl ?_
      refine G.seq ?_
      refine G.region ?_
      refine GO.move rfl rfl rfl ?_
      refine GO.assign rfl rfl rfl ?_
      refine GO.nil ?_
      obtain rfl := Option.some.inj H
      exact G.ret1 _ Try.func133 rfl rfl ⟨_, _, _, rfl, (HS.pick 4 [2])⟩
  replace HS := HS.nilRow (Ty.slice 2 (TInt .i64)) 43 (fun _ => ⟨none, 0, fun _ => ()⟩)
  refine G.weak ?_ (at_l1 K (Nat.le_refl _) _ _ _ _ _ _ _ H (HS.pick 4 [3, 2, 0, 1]))
  exact ⟨rfl, rfl, rfl, rfl, rfl, rfl, trivial⟩

end Go.Proofs.Ytdafmbaeiefacaa
