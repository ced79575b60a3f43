/-
  The walks through the functions: a call comes to what its list function says.
-/
import Derived.Test.YtdafmbaeiefacaaAlF
import Derived.Test.YtdafmbaeiefacaaAlW1
import Derived.Test.YtdafmbaeiefacaaAlW2
import Derived.Test.YtdafmbaeiefacaaAlW5
import Derived.Test.YtdafmbaeiefacaaAlW7
set_option linter.unusedVariables false
set_option linter.unusedSimpArgs false
namespace Go.Proofs.Ytdafmbaeiefacaa
open Go.RowKit
set_option maxRecDepth 20000 in
set_option maxHeartbeats 40000000 in
theorem spec_l27Sides.calls {w0 w : World} {L : List HObj} {K : Nat} {d_Crossings : List GCrossing} {d_Circles : Int} {A_d_Crossings : Option Addr} {c_d_Crossings : Nat} {r1 : List Int} (HS : St w0 w (L)) (h_d_Crossings : RdIn w0 L T_GCrossing A_d_Crossings c_d_Crossings (fun _ => ()) d_Crossings) (H : spec_l27Sides.f K d_Crossings d_Circles = some r1) :
    Calls Try.prog 59 #[.agg [.slice A_d_Crossings d_Crossings.length c_d_Crossings, .int .i64 d_Circles].toArray] w (spec_l27Sides.post w0 L d_Crossings d_Circles A_d_Crossings c_d_Crossings r1) := by
  unfold spec_l27Sides.f at H
  refine Calls.of_G Try.func59 rfl rfl rfl ?_
  refine G.seq ?_
  refine G.region ?_
  refine GO.box (cs := [.slice A_d_Crossings d_Crossings.length c_d_Crossings, .int .i64 d_Circles]) HS rfl rfl rfl rfl ?_; intro b1 wd2 HS
  refine GO.assign rfl rfl rfl ?_
  refine GO.nil ?_
  refine G.seq ?_
  obtain ⟨c3, H⟩ := ite_none H
  obtain ⟨c4, H⟩ := ite_none H
  refine G.region ?_
  refine GO.fld (⟨b1, 0, none⟩) rfl rfl fl28_0 rfl rfl ?_
  refine GO.ldBox (j := 0) HS rfl rfl rfl rfl na26 rfl ?_
  refine GO.lenS rfl rfl Try.underlying26 rfl ?_
  refine GO.mul rfl rfl rfl rfl ?_
  refine GO.make (T := (TInt .i64)) 0 () HS flat_flat rfl rfl rfl Try.underlying43 inf2 rfl rfl rfl c3 c4 rfl ?_; intro b5 wd6 HS
  refine GO.assign rfl rfl rfl ?_
  refine GO.nil ?_
  refine G.seq ?_
  obtain ⟨t7, h8, H⟩ := Option.bind_eq_some_iff.1 H
  refine G.region ?_
  refine GO.ldBoxA (j := 1) ([.slice A_d_Crossings d_Crossings.length c_d_Crossings, .int .i64 d_Circles]) HS rfl rfl rfl rfl ag28 rfl ?_
  refine GO.fn rfl Try.func68 fok68.1 fok68.2 rfl rfl (spec_l25Regions.calls HS (RdIn.drop 2 h_d_Crossings) h8) (fun _ wd12 ⟨A9, c10, y11, h13, HS⟩ => ⟨_, h13, ?_⟩)
  refine GO.assign rfl rfl rfl ?_
  refine GO.nil ?_
  refine G.seq ?_
  refine G.seq ?_
  refine G.region ?_
  refine GO.assign rfl rfl rfl ?_
  refine GO.nil ?_
  refine G.block ?_
  refine G.loop ?_
  refine G.name (fun k_l1 hk_l1 => ?_)
  have at_l1 : ∀ m_l1, m_l1 ≤ K → ∀ (out_44 : List Int) (i_45 : Int) (w : World), spec_l27Sides.l1 K m_l1 d_Crossings d_Circles t7 out_44 i_45 = some r1 → St w0 w (Box b1 28 [.slice A_d_Crossings d_Crossings.length c_d_Crossings, .int .i64 d_Circles] :: Own (TInt .i64) 2 (some ⟨b5, 0, none⟩) ((w64 (4 * (d_Crossings.length : Int))).toNat) (fun _ => ()) out_44 :: Own (Ty.slice 2 (TInt .i64)) 43 A9 c10 y11 t7 :: L) → G Try.prog 59 44 [(1, .pointer (some ⟨b1, 0, none⟩)), (3, .slice (some ⟨b5, 0, none⟩) out_44.length ((w64 (4 * (d_Crossings.length : Int))).toNat)), (4, .slice A9 t7.length c10), (5, .int .i64 i_45)] k_l1 w (spec_l27Sides.post w0 L d_Crossings d_Circles A_d_Crossings c_d_Crossings r1) := by
   intro m_l1
   induction m_l1 using Nat.strongRecOn with
   | _ m_l1 ih_l1 =>
    intro hm_l1 out_44 i_45 w H HS
    cases m_l1 with
    | zero => rw [spec_l27Sides.l1] at H; cases H
    | succ n_l1 =>
     rw [spec_l27Sides.l1] at H
     subst hk_l1
     refine G.seq ?_
     refine G.seq ?_
     refine G.region ?_
     refine GO.move rfl rfl rfl ?_
     refine GO.move rfl rfl rfl ?_
     refine GO.lenS rfl rfl Try.underlying42 rfl ?_
     refine GO.lss rfl rfl rfl rfl ?_
     refine GO.nil ?_
     rcases ite_elim H with ⟨c76, H⟩ | ⟨c76, H⟩
     ·
      refine G.yesB rfl (decide_eq_true c76) ?_
      refine G.skip ?_
      refine G.seq ?_
      refine G.block ?_
      refine G.seq ?_
      refine G.region ?_
      refine GO.assign rfl rfl rfl ?_
      refine GO.nil ?_
      refine G.block ?_
      refine G.loop ?_
      refine G.name (fun k_l4 hk_l4 => ?_)
      have at_l4 : ∀ m_l4, m_l4 ≤ n_l1 → ∀ (out_86 : List Int) (k_87 : Int) (w : World), spec_l27Sides.l4 K m_l4 d_Crossings d_Circles t7 i_45 out_86 k_87 = some r1 → St w0 w (Box b1 28 [.slice A_d_Crossings d_Crossings.length c_d_Crossings, .int .i64 d_Circles] :: Own (TInt .i64) 2 (some ⟨b5, 0, none⟩) ((w64 (4 * (d_Crossings.length : Int))).toNat) (fun _ => ()) out_86 :: Own (Ty.slice 2 (TInt .i64)) 43 A9 c10 y11 t7 :: L) → G Try.prog 59 44 [(1, .pointer (some ⟨b1, 0, none⟩)), (3, .slice (some ⟨b5, 0, none⟩) out_86.length ((w64 (4 * (d_Crossings.length : Int))).toNat)), (4, .slice A9 t7.length c10), (5, .int .i64 i_45), (6, .int .i64 k_87)] k_l4 w (spec_l27Sides.post w0 L d_Crossings d_Circles A_d_Crossings c_d_Crossings r1) := by
       intro m_l4
       induction m_l4 using Nat.strongRecOn with
       | _ m_l4 ih_l4 =>
        intro hm_l4 out_86 k_87 w H HS
        cases m_l4 with
        | zero => rw [spec_l27Sides.l4] at H; cases H
        | succ n_l4 =>
         rw [spec_l27Sides.l4] at H
         subst hk_l4
         refine G.seq ?_
         refine G.seq ?_
         obtain ⟨c97, H⟩ := ite_none H
         refine G.region ?_
         refine GO.move rfl rfl rfl ?_
         refine GO.move rfl rfl rfl ?_
         refine GO.move rfl rfl rfl ?_
         refine GO.ix rfl rfl rfl Try.underlying42 sz43 ((RdIn.own (j := 2) rfl) _ HS).2.2.1 c97.1 c97.2 rfl ?_
         refine GO.ldRd (T := (Ty.slice 2 (TInt .i64))) (n := i_45.toNat) (o := 0) HS (RdIn.own (j := 2) rfl) rfl rfl (getD_some (d := []) (ltN c97)) rfl rfl na43 rfl ?_
         refine GO.lenS rfl rfl Try.underlying43 rfl ?_
         refine GO.lss rfl rfl rfl rfl ?_
         refine GO.nil ?_
         rcases ite_elim H with ⟨c98, H⟩ | ⟨c98, H⟩
         ·
          refine G.yesB rfl (decide_eq_true c98) ?_
          refine G.skip ?_
          refine G.seq ?_
          refine G.block ?_
          refine G.seq ?_
          obtain ⟨c99, H⟩ := ite_none H
          obtain ⟨t100, h101, H⟩ := Option.bind_eq_some_iff.1 H
          refine G.regionAny mixed (by decide) (fun b a w => ∃ (Y1_0 : Value) (Y2_1 : Value) (Y3_2 : Value) (Y4_3 : Value) (Y5_4 : Value) (Y6_5 : Value) (Y7_6 : Value) (Y8_7 : Value) (Y9_8 : Value) (Y10_9 : Value), Sat 44 [(7, Y10_9), (30, Y1_0), (31, Y2_1), (32, Y3_2), (33, Y4_3), (34, Y5_4), (35, Y6_5), (36, Y7_6), (37, Y8_7), (38, Y9_8), (1, .pointer (some ⟨b1, 0, none⟩)), (3, .slice (some ⟨b5, 0, none⟩) out_86.length ((w64 (4 * (d_Crossings.length : Int))).toNat)), (4, .slice A9 t7.length c10), (5, .int .i64 i_45), (6, .int .i64 k_87)] a ∧ St w0 w (Box b1 28 [.slice A_d_Crossings d_Crossings.length c_d_Crossings, .int .i64 d_Circles] :: Own (TInt .i64) 2 (some ⟨b5, 0, none⟩) ((w64 (4 * (d_Crossings.length : Int))).toNat) (fun _ => ()) out_86 :: Own (Ty.slice 2 (TInt .i64)) 43 A9 c10 y11 t7 :: L) ∧ (b 9 = true → Y10_9 = (.int .i64 t100)) ∧ (b 0 = true → Y1_0 = (.agg [.slice A_d_Crossings d_Crossings.length c_d_Crossings, .int .i64 d_Circles].toArray)) ∧ (b 1 = true → Y2_1 = (.slice A9 t7.length c10)) ∧ (b 2 = true → Y3_2 = (.int .i64 i_45)) ∧ (b 3 = true → Y4_3 = (.pointer (some (ea A9 (i_45.toNat * 1))))) ∧ (b 4 = true → Y5_4 = (.slice ((y11 i_45.toNat).A) (t7.getD i_45.toNat []).length ((y11 i_45.toNat).c))) ∧ (b 5 = true → Y6_5 = (.int .i64 k_87)) ∧ (b 6 = true → Y7_6 = (.pointer (some (ea ((y11 i_45.toNat).A) (k_87.toNat * 1))))) ∧ (b 7 = true → Y8_7 = (.int .i64 ((t7.getD i_45.toNat []).getD k_87.toNat 0))) ∧ (b 8 = true → Y9_8 = (.int .i64 t100))) ?_ ?_ ?_
          ·
           intro a hs
           obtain ⟨Y10_9, hs⟩ := hs.ext (d := 7) rfl
           obtain ⟨Y1_0, hs⟩ := hs.ext (d := 30) rfl
           obtain ⟨Y2_1, hs⟩ := hs.ext (d := 31) rfl
           obtain ⟨Y3_2, hs⟩ := hs.ext (d := 32) rfl
           obtain ⟨Y4_3, hs⟩ := hs.ext (d := 33) rfl
           obtain ⟨Y5_4, hs⟩ := hs.ext (d := 34) rfl
           obtain ⟨Y6_5, hs⟩ := hs.ext (d := 35) rfl
           obtain ⟨Y7_6, hs⟩ := hs.ext (d := 36) rfl
           obtain ⟨Y8_7, hs⟩ := hs.ext (d := 37) rfl
           obtain ⟨Y9_8, hs⟩ := hs.ext (d := 38) rfl
           exact ⟨Y1_0, Y2_1, Y3_2, Y4_3, Y5_4, Y6_5, Y7_6, Y8_7, Y9_8, Y10_9, hs.weak ⟨rfl, rfl, rfl, rfl, rfl, rfl, rfl, rfl, rfl, rfl, rfl, rfl, rfl, rfl, rfl, trivial⟩, (HS.drew.pick 3 [0, 1, 2]), fun h => Bool.noConfusion h, fun h => Bool.noConfusion h, fun h => Bool.noConfusion h, fun h => Bool.noConfusion h, fun h => Bool.noConfusion h, fun h => Bool.noConfusion h, fun h => Bool.noConfusion h, fun h => Bool.noConfusion h, fun h => Bool.noConfusion h, fun h => Bool.noConfusion h⟩
          ·
           intro j hj b a w
           refine exI fun Y1_0 => exI fun Y2_1 => exI fun Y3_2 => exI fun Y4_3 => exI fun Y5_4 => exI fun Y6_5 => exI fun Y7_6 => exI fun Y8_7 => exI fun Y9_8 => exI fun Y10_9 => anI fun hs => anI fun HS => anI fun f9 => anI fun f0 => anI fun f1 => anI fun f2 => anI fun f3 => anI fun f4 => anI fun f5 => anI fun f6 => anI fun f7 => fun f8 hb hd hcl => ?_
           match j, hj with
           | 0, _ =>
            refine GO.at hs ?_
            refine GO.ldBoxA (j := 0) ([.slice A_d_Crossings d_Crossings.length c_d_Crossings, .int .i64 d_Circles]) HS rfl rfl rfl rfl ag28 rfl ?_
            refine GO.fin (fun a hs => ?_)
            exact ⟨(.agg [.slice A_d_Crossings d_Crossings.length c_d_Crossings, .int .i64 d_Circles].toArray), _, _, _, _, _, _, _, _, _, hs.weak ⟨rfl, rfl, rfl, rfl, rfl, rfl, rfl, rfl, rfl, rfl, rfl, rfl, rfl, rfl, rfl, trivial⟩, HS.pick 3 [0, 1, 2], f9, fun _ => rfl, f1, f2, f3, f4, f5, f6, f7, f8⟩
           | 1, _ =>
            refine GO.at hs ?_
            refine GO.move rfl rfl rfl ?_
            refine GO.fin (fun a hs => ?_)
            exact ⟨_, (.slice A9 t7.length c10), _, _, _, _, _, _, _, _, hs.weak ⟨rfl, rfl, rfl, rfl, rfl, rfl, rfl, rfl, rfl, rfl, rfl, rfl, rfl, rfl, rfl, trivial⟩, HS.pick 3 [0, 1, 2], f9, f0, fun _ => rfl, f2, f3, f4, f5, f6, f7, f8⟩
           | 2, _ =>
            refine GO.at hs ?_
            refine GO.move rfl rfl rfl ?_
            refine GO.fin (fun a hs => ?_)
            exact ⟨_, _, (.int .i64 i_45), _, _, _, _, _, _, _, hs.weak ⟨rfl, rfl, rfl, rfl, rfl, rfl, rfl, rfl, rfl, rfl, rfl, rfl, rfl, rfl, rfl, trivial⟩, HS.pick 3 [0, 1, 2], f9, f0, f1, fun _ => rfl, f3, f4, f5, f6, f7, f8⟩
           | 3, _ =>
            have h1 : b 1 = true := hd 1 (by decide)
            obtain rfl := f1 h1
            have h2 : b 2 = true := hd 2 (by decide)
            obtain rfl := f2 h2
            refine GO.at hs ?_
            refine GO.ix rfl rfl rfl Try.underlying42 sz43 ((RdIn.own (j := 2) rfl) _ HS).2.2.1 c97.1 c97.2 rfl ?_
            refine GO.fin (fun a hs => ?_)
            exact ⟨_, _, _, (.pointer (some (ea A9 (i_45.toNat * 1)))), _, _, _, _, _, _, hs.weak ⟨rfl, rfl, rfl, rfl, rfl, rfl, rfl, rfl, rfl, rfl, rfl, rfl, rfl, rfl, rfl, trivial⟩, HS.pick 3 [0, 1, 2], f9, f0, f1, f2, fun _ => rfl, f4, f5, f6, f7, f8⟩
           | 4, _ =>
            have h3 : b 3 = true := hd 3 (by decide)
            obtain rfl := f3 h3
            refine GO.at hs ?_
            refine GO.ldRd (T := (Ty.slice 2 (TInt .i64))) (n := i_45.toNat) (o := 0) HS (RdIn.own (j := 2) rfl) rfl rfl (getD_some (d := []) (ltN c97)) rfl rfl na43 rfl ?_
            refine GO.fin (fun a hs => ?_)
            exact ⟨_, _, _, _, (.slice ((y11 i_45.toNat).A) (t7.getD i_45.toNat []).length ((y11 i_45.toNat).c)), _, _, _, _, _, hs.weak ⟨rfl, rfl, rfl, rfl, rfl, rfl, rfl, rfl, rfl, rfl, rfl, rfl, rfl, rfl, rfl, trivial⟩, HS.pick 3 [0, 1, 2], f9, f0, f1, f2, f3, fun _ => rfl, f5, f6, f7, f8⟩
           | 5, _ =>
            refine GO.at hs ?_
            refine GO.move rfl rfl rfl ?_
            refine GO.fin (fun a hs => ?_)
            exact ⟨_, _, _, _, _, (.int .i64 k_87), _, _, _, _, hs.weak ⟨rfl, rfl, rfl, rfl, rfl, rfl, rfl, rfl, rfl, rfl, rfl, rfl, rfl, rfl, rfl, trivial⟩, HS.pick 3 [0, 1, 2], f9, f0, f1, f2, f3, f4, fun _ => rfl, f6, f7, f8⟩
           | 6, _ =>
            have h4 : b 4 = true := hd 4 (by decide)
            obtain rfl := f4 h4
            have h5 : b 5 = true := hd 5 (by decide)
            obtain rfl := f5 h5
            refine GO.at hs ?_
            refine GO.ix rfl rfl rfl Try.underlying43 sz2 ((RdIn.elem (RdIn.own (j := 2) rfl) c97.1 c97.2) _ HS).2.2.1 c99.1 c99.2 rfl ?_
            refine GO.fin (fun a hs => ?_)
            exact ⟨_, _, _, _, _, _, (.pointer (some (ea ((y11 i_45.toNat).A) (k_87.toNat * 1)))), _, _, _, hs.weak ⟨rfl, rfl, rfl, rfl, rfl, rfl, rfl, rfl, rfl, rfl, rfl, rfl, rfl, rfl, rfl, trivial⟩, HS.pick 3 [0, 1, 2], f9, f0, f1, f2, f3, f4, f5, fun _ => rfl, f7, f8⟩
           | 7, _ =>
            have h6 : b 6 = true := hd 6 (by decide)
            obtain rfl := f6 h6
            refine GO.at hs ?_
            refine GO.ldRd (T := (TInt .i64)) (n := k_87.toNat) (o := 0) HS (RdIn.elem (RdIn.own (j := 2) rfl) c97.1 c97.2) rfl rfl (getD_some (d := 0) (ltN c99)) rfl rfl na2 rfl ?_
            refine GO.fin (fun a hs => ?_)
            exact ⟨_, _, _, _, _, _, _, (.int .i64 ((t7.getD i_45.toNat []).getD k_87.toNat 0)), _, _, hs.weak ⟨rfl, rfl, rfl, rfl, rfl, rfl, rfl, rfl, rfl, rfl, rfl, rfl, rfl, rfl, rfl, trivial⟩, HS.pick 3 [0, 1, 2], f9, f0, f1, f2, f3, f4, f5, f6, fun _ => rfl, f8⟩
           | 8, _ =>
            have h0 : b 0 = true := hd 0 (by decide)
            obtain rfl := f0 h0
            have h7 : b 7 = true := hd 7 (by decide)
            obtain rfl := f7 h7
            refine GO.at hs ?_
            refine GO.fn rfl Try.func71 fok71.1 fok71.2 rfl rfl (spec_l27Side.calls HS (RdIn.drop 3 h_d_Crossings) h101) (fun _ wd102 ⟨h103, HS⟩ => ⟨_, h103, ?_⟩)
            refine GO.fin (fun a hs => ?_)
            exact ⟨_, _, _, _, _, _, _, _, (.int .i64 t100), _, hs.weak ⟨rfl, rfl, rfl, rfl, rfl, rfl, rfl, rfl, rfl, rfl, rfl, rfl, rfl, rfl, rfl, trivial⟩, HS.pick 3 [0, 1, 2], f9, f0, f1, f2, f3, f4, f5, f6, f7, fun _ => rfl⟩
           | 9, _ =>
            have h8 : b 8 = true := hd 8 (by decide)
            obtain rfl := f8 h8
            refine GO.at hs ?_
            refine GO.assign rfl rfl rfl ?_
            refine GO.fin (fun a hs => ?_)
            exact ⟨_, _, _, _, _, _, _, _, _, (.int .i64 t100), hs.weak ⟨rfl, rfl, rfl, rfl, rfl, rfl, rfl, rfl, rfl, rfl, rfl, rfl, rfl, rfl, rfl, trivial⟩, HS.pick 3 [0, 1, 2], fun _ => rfl, f0, f1, f2, f3, f4, f5, f6, f7, f8⟩
           | k + 10, hj => exact absurd hj (Nat.not_lt.2 (Nat.le_add_left 10 k))
          ·
           intro b a w hall
           refine exI fun Y1_0 => exI fun Y2_1 => exI fun Y3_2 => exI fun Y4_3 => exI fun Y5_4 => exI fun Y6_5 => exI fun Y7_6 => exI fun Y8_7 => exI fun Y9_8 => exI fun Y10_9 => anI fun hs => anI fun HS => anI fun f9 => anI fun f0 => anI fun f1 => anI fun f2 => anI fun f3 => anI fun f4 => anI fun f5 => anI fun f6 => anI fun f7 => fun f8 => ?_
           obtain rfl := f9 (hall 9 (by decide))
           obtain rfl := f0 (hall 0 (by decide))
           obtain rfl := f1 (hall 1 (by decide))
           obtain rfl := f2 (hall 2 (by decide))
           obtain rfl := f3 (hall 3 (by decide))
           obtain rfl := f4 (hall 4 (by decide))
           obtain rfl := f5 (hall 5 (by decide))
           obtain rfl := f6 (hall 6 (by decide))
           obtain rfl := f7 (hall 7 (by decide))
           obtain rfl := f8 (hall 8 (by decide))
           refine G.at hs ?_
           obtain ⟨c104, H⟩ := ite_none H
           refine G.region ?_
           refine GO.move rfl rfl rfl ?_
           refine GO.move rfl rfl rfl ?_
           refine GO.move rfl rfl rfl ?_
           refine GO.ix rfl rfl rfl Try.underlying43 sz2 (fun _ => ⟨_, _, rfl⟩) c104.1 c104.2 rfl ?_
           refine GO.stRow (T := (TInt .i64)) (j := 1) (n := t100.toNat) (o := 0) (vs := [.int .i64 i_45]) i_45 HS rfl flat_flat rfl rfl rfl rfl (htN na2 rfl) rfl (getD_some (d := 0) (ltN c104)) rfl rfl ?_; intro wd105 HS
           refine GO.nil ?_
           refine G.len (t := 3) (m := (out_86.set t100.toNat i_45).length) rfl (by simp only [List.length_set] <;> rfl) ?_
           refine G.blockEnd ?_
           refine G.region ?_
           refine GO.move rfl rfl rfl ?_
           refine GO.add rfl rfl rfl rfl ?_
           refine GO.assign rfl rfl rfl ?_
           refine GO.nil ?_
           refine G.again ?_
           refine G.weak ?_ (ih_l4 n_l4 (Nat.lt_succ_of_le (Nat.le_refl _)) (Nat.le_of_succ_le hm_l4) _ _ _ H HS)
           exact ⟨rfl, rfl, rfl, rfl, rfl, trivial⟩
         ·
          refine G.noB rfl (decide_eq_false c98) ?_
          refine G.exit rfl ?_
          refine G.blockEnd ?_
          refine G.region ?_
          refine GO.move rfl rfl rfl ?_
          refine GO.add rfl rfl rfl rfl ?_
          refine GO.assign rfl rfl rfl ?_
          refine GO.nil ?_
          refine G.again ?_
          refine G.weak ?_ (ih_l1 n_l4 (Nat.lt_succ_of_le (Nat.le_of_succ_le hm_l4)) (Nat.le_trans (Nat.le_of_succ_le hm_l4) (Nat.le_of_succ_le hm_l1)) _ _ _ H HS)
          exact ⟨rfl, rfl, rfl, rfl, trivial⟩
      refine G.weak ?_ (at_l4 n_l1 (Nat.le_refl _) _ _ _ H HS)
      exact ⟨rfl, rfl, rfl, rfl, rfl, trivial⟩
     ·
      refine G.noB rfl (decide_eq_false c76) ?_
      refine G.exit rfl ?_
      refine G.seq ?_
      refine G.region ?_
      refine GO.move rfl rfl rfl ?_
      refine GO.assign rfl rfl rfl ?_
      refine GO.nil ?_
      obtain rfl := Option.some.inj H
      exact G.ret1 _ Try.func59 rfl rfl ⟨_, _, rfl, (HS.pick 3 [1])⟩
  refine G.weak ?_ (at_l1 K (Nat.le_refl _) _ _ _ H (HS.pick 3 [2, 1, 0]))
  exact ⟨rfl, rfl, rfl, rfl, trivial⟩

set_option maxRecDepth 20000 in
set_option maxHeartbeats 40000000 in
theorem spec_l27Upper.calls {w0 w : World} {L : List HObj} {lowIn : Int} {lowOut : Int} {highIn : Int} {highOut : Int} {sign : Int} {r1 : Int} {r2 : Int} {r3 : Int} {r4 : Int} {r5 : Int} (HS : St w0 w (L)) (H : spec_l27Upper.f lowIn lowOut highIn highOut sign = some (r1, r2, r3, r4, r5)) :
    Calls Try.prog 60 #[.int .i64 lowIn, .int .i64 lowOut, .int .i64 highIn, .int .i64 highOut, .int .i64 sign] w (spec_l27Upper.post w0 L lowIn lowOut highIn highOut sign r1 r2 r3 r4 r5) := by
  unfold spec_l27Upper.f at H
  refine Calls.of_G Try.func60 rfl rfl rfl ?_
  refine G.seq ?_
  refine G.region ?_
  refine GO.alloc HS rfl zr58 rfl rfl ?_; intro b1 wd2 HS
  refine GO.nil ?_
  refine G.seq ?_
  refine G.seq ?_
  refine G.region ?_
  refine GO.move rfl rfl rfl ?_
  refine GO.eql rfl rfl rfl rfl ?_
  refine GO.nil ?_
  rcases ite_elim H with ⟨c3, H⟩ | ⟨c3, H⟩
  ·
   refine G.yesB rfl (decide_eq_true c3) ?_
   refine G.seq ?_
   refine G.region ?_
   refine GO.move rfl rfl rfl ?_
   refine GO.move rfl rfl rfl ?_
   refine GO.move rfl rfl rfl ?_
   refine GO.move rfl rfl rfl ?_
   refine GO.buildV (.agg [.int .i64 lowIn, .int .i64 highOut, .int .i64 lowOut, .int .i64 highIn, .int .i64 1].toArray) rfl rfl (fun _ => by kernel_rfl) rfl ?_
   refine GO.stBox (j := 0) (vs := [.int .i64 lowIn, .int .i64 highOut, .int .i64 lowOut, .int .i64 highIn, .int .i64 1]) ([.int .i64 lowIn, .int .i64 highOut, .int .i64 lowOut, .int .i64 highIn, .int .i64 1]) HS rfl rfl rfl rfl rfl (htA ag58) rfl rfl rfl ?_; intro wd4 HS
   refine GO.nil ?_
   obtain ⟨rfl, rfl, rfl, rfl, rfl⟩ := some5 H
   exact G.ret1 _ Try.func60 rfl (Res1.boxA (j := 0) (vs := [.int .i64 lowIn, .int .i64 highOut, .int .i64 lowOut, .int .i64 highIn, .int .i64 1]) HS rfl rfl rfl ag58) ⟨rfl, (HS.pick 1 [])⟩
  ·
   refine G.noB rfl (decide_eq_false c3) ?_
   refine G.skip ?_
   refine G.seq ?_
   refine G.region ?_
   refine GO.move rfl rfl rfl ?_
   refine GO.move rfl rfl rfl ?_
   refine GO.move rfl rfl rfl ?_
   refine GO.move rfl rfl rfl ?_
   refine GO.buildV (.agg [.int .i64 lowIn, .int .i64 highIn, .int .i64 lowOut, .int .i64 highOut, .int .i64 (-1)].toArray) rfl rfl (fun _ => by kernel_rfl) rfl ?_
   refine GO.stBox (j := 0) (vs := [.int .i64 lowIn, .int .i64 highIn, .int .i64 lowOut, .int .i64 highOut, .int .i64 (-1)]) ([.int .i64 lowIn, .int .i64 highIn, .int .i64 lowOut, .int .i64 highOut, .int .i64 (-1)]) HS rfl rfl rfl rfl rfl (htA ag58) rfl rfl rfl ?_; intro wd5 HS
   refine GO.nil ?_
   obtain ⟨rfl, rfl, rfl, rfl, rfl⟩ := some5 H
   exact G.ret1 _ Try.func60 rfl (Res1.boxA (j := 0) (vs := [.int .i64 lowIn, .int .i64 highIn, .int .i64 lowOut, .int .i64 highOut, .int .i64 (-1)]) HS rfl rfl rfl ag58) ⟨rfl, (HS.pick 1 [])⟩

set_option maxRecDepth 20000 in
set_option maxHeartbeats 40000000 in
theorem spec_AddBigon.calls {w0 w : World} {L : List HObj} {K : Nat} {t_Crossings : List GCrossing} {t_Circles : Int} {o : Int} {A : Int} {A_t_Crossings : Option Addr} {c_t_Crossings : Nat} {r1 : List GCrossing} {r2 : Int} {r3 : Int} (HS : St w0 w (L)) (h_t_Crossings : RdIn w0 L T_GCrossing A_t_Crossings c_t_Crossings (fun _ => ()) t_Crossings) (H : spec_AddBigon.f K t_Crossings t_Circles o A = some (r1, r2, r3)) :
    Calls Try.prog 21 #[.agg [.slice A_t_Crossings t_Crossings.length c_t_Crossings, .int .i64 t_Circles].toArray, .int .i64 o, .int .i64 A] w (spec_AddBigon.post w0 L t_Crossings t_Circles o A A_t_Crossings c_t_Crossings r1 r2 r3) := by
  unfold spec_AddBigon.f at H
  refine Calls.of_G Try.func21 rfl rfl rfl ?_
  refine G.seq ?_
  refine G.region ?_
  refine GO.box (cs := [.slice A_t_Crossings t_Crossings.length c_t_Crossings, .int .i64 t_Circles]) HS rfl rfl rfl rfl ?_; intro b1 wd2 HS
  refine GO.alloc HS rfl zr28 rfl rfl ?_; intro b3 wd4 HS
  refine GO.assign rfl rfl rfl ?_
  refine GO.nil ?_
  refine G.seq ?_
  refine G.seq ?_
  obtain ⟨t5, h6, H⟩ := Option.bind_eq_some_iff.1 H
  refine G.region ?_
  refine GO.ldBoxA (j := 1) ([.slice A_t_Crossings t_Crossings.length c_t_Crossings, .int .i64 t_Circles]) HS rfl rfl rfl rfl ag28 rfl ?_
  refine GO.fn rfl Try.func40 fok40.1 fok40.2 rfl rfl (spec_IsDiagram.calls HS (RdIn.drop 2 h_t_Crossings) h6) (fun _ wd7 ⟨h8, HS⟩ => ⟨_, h8, ?_⟩)
  refine GO.not rfl rfl rfl ?_
  refine GO.nil ?_
  rcases ite_elim H with ⟨c9, H⟩ | ⟨c9, H⟩
  ·
   refine G.noB rfl (congrArg Bool.not c9) ?_
   refine G.skip ?_
   refine G.seq ?_
   refine G.region ?_
   refine GO.fld (⟨b1, 0, none⟩) rfl rfl fl28_0 rfl rfl ?_
   refine GO.ldBox (j := 1) HS rfl rfl rfl rfl na26 rfl ?_
   refine GO.lenS rfl rfl Try.underlying26 rfl ?_
   refine GO.mul rfl rfl rfl rfl ?_
   refine GO.assign rfl rfl rfl ?_
   refine GO.nil ?_
   refine G.seq ?_
   refine G.seq ?_
   obtain ⟨t19, h20, H⟩ := Option.bind_eq_some_iff.1 H
   rcases ite_elim H with ⟨c23, H⟩ | ⟨c23, H⟩
   ·
    obtain ⟨t24, h25, H⟩ := Option.bind_eq_some_iff.1 H
    refine G.region ?_
    refine GO.move rfl rfl rfl ?_
    refine GO.move rfl rfl rfl ?_
    refine GO.mul rfl rfl rfl rfl ?_
    refine GO.sub rfl rfl rfl rfl ?_
    refine GO.fn rfl Try.func41 fok41.1 fok41.2 rfl rfl (spec_l01In.calls HS  h20) (fun _ wd21 ⟨h22, HS⟩ => ⟨_, h22, ?_⟩)
    refine GO.not rfl rfl rfl ?_
    refine GO.move rfl rfl rfl ?_
    refine GO.known (t := 34) rfl (congrArg Bool.not c23) ?_
    refine GO.on rfl rfl rfl rfl ?_
    refine GO.move rfl rfl rfl ?_
    refine GO.back ?_
    refine GO.on rfl rfl rfl rfl ?_
    refine GO.move rfl rfl rfl ?_
    refine GO.back ?_
    refine GO.on rfl rfl rfl rfl ?_
    refine GO.mul rfl rfl rfl rfl ?_
    refine GO.back ?_
    refine GO.on rfl rfl rfl rfl ?_
    refine GO.sub rfl rfl rfl rfl ?_
    refine GO.back ?_
    refine GO.on rfl rfl rfl rfl ?_
    refine GO.fn rfl Try.func41 fok41.1 fok41.2 rfl rfl (spec_l01In.calls HS  h25) (fun _ wd26 ⟨h27, HS⟩ => ⟨_, h27, ?_⟩)
    refine GO.back ?_
    refine GO.on rfl rfl rfl rfl ?_
    refine GO.not rfl rfl rfl ?_
    refine GO.back ?_
    refine GO.pickF rfl rfl rfl rfl rfl ?_
    refine GO.nil ?_
    rcases ite_elim H with ⟨c28, H⟩ | ⟨c28, H⟩
    ·
     refine G.noB rfl (congrArg Bool.not c28) ?_
     refine G.skip ?_
     refine G.seq ?_
     obtain ⟨t29, h30, H⟩ := Option.bind_eq_some_iff.1 H
     refine G.region ?_
     refine GO.ldBoxA (j := 1) ([.slice A_t_Crossings t_Crossings.length c_t_Crossings, .int .i64 t_Circles]) HS rfl rfl rfl rfl ag28 rfl ?_
     refine GO.fn rfl Try.func59 fok59.1 fok59.2 rfl rfl (spec_l27Sides.calls HS (RdIn.drop 2 h_t_Crossings) h30) (fun _ wd33 ⟨A31, c32, h34, HS⟩ => ⟨_, h34, ?_⟩)
     refine GO.assign rfl rfl rfl ?_
     refine GO.nil ?_
     refine G.seq ?_
     refine G.seq ?_
     rcases ite_elim H with ⟨c38, H⟩ | ⟨c38, H⟩
     ·
      refine G.regionAny mixed (by decide) (fun b a w => ∃ (Y1_0 : Value) (Y2_1 : Value) (Y3_2 : Value) (Y4_3 : Value) (Y5_4 : Value) (Y6_5 : Value) (Y7_6 : Value) (Y8_7 : Value) (Y9_8 : Value) (Y10_9 : Value) (Y11_10 : Value) (Y12_11 : Value) (Y13_12 : Value) (Y14_13 : Value) (Y15_14 : Value) (Y16_15 : Value), Sat 159 [(45, Y1_0), (46, Y2_1), (47, Y3_2), (48, Y4_3), (49, Y5_4), (50, Y6_5), (51, Y7_6), (52, Y8_7), (53, Y9_8), (54, Y10_9), (55, Y11_10), (56, Y12_11), (57, Y13_12), (58, Y14_13), (59, Y15_14), (60, Y16_15), (1, .int .i64 o), (2, .int .i64 A), (3, .pointer (some ⟨b1, 0, none⟩)), (6, .pointer (some ⟨b3, 0, none⟩)), (8, .int .i64 (w64 (2 * (t_Crossings.length : Int)))), (9, .slice A31 t29.length c32)] a ∧ St w0 w (Own (TInt .i64) 2 A31 c32 (fun _ => ()) t29 :: Box b3 28 [.slice none 0 0, .int .i64 0] :: Box b1 28 [.slice A_t_Crossings t_Crossings.length c_t_Crossings, .int .i64 t_Circles] :: L) ∧ (b 0 = true → Y1_0 = (.int .i64 o)) ∧ (b 1 = true → Y2_1 = (.int .i64 (w64 (o.tdiv 2)))) ∧ (b 2 = true → Y3_2 = (.int .i64 A)) ∧ (b 3 = true → Y4_3 = (.int .i64 (w64 (A.tdiv 2)))) ∧ (b 4 = true → Y5_4 = (.bool (decide (w64 (o.tdiv 2) = w64 (A.tdiv 2))))) ∧ (b 5 = true → Y6_5 = (.bool true)) ∧ (b 6 = true → Y7_6 = (undef)) ∧ (b 7 = true → Y8_7 = (undef)) ∧ (b 8 = true → Y9_8 = (undef)) ∧ (b 9 = true → Y10_9 = (undef)) ∧ (b 10 = true → Y11_10 = (undef)) ∧ (b 11 = true → Y12_11 = (undef)) ∧ (b 12 = true → Y13_12 = (undef)) ∧ (b 13 = true → Y14_13 = (undef)) ∧ (b 14 = true → Y15_14 = (undef)) ∧ (b 15 = true → Y16_15 = (.bool true))) ?_ ?_ ?_
      ·
       intro a hs
       obtain ⟨Y1_0, hs⟩ := hs.ext (d := 45) rfl
       obtain ⟨Y2_1, hs⟩ := hs.ext (d := 46) rfl
       obtain ⟨Y3_2, hs⟩ := hs.ext (d := 47) rfl
       obtain ⟨Y4_3, hs⟩ := hs.ext (d := 48) rfl
       obtain ⟨Y5_4, hs⟩ := hs.ext (d := 49) rfl
       obtain ⟨Y6_5, hs⟩ := hs.ext (d := 50) rfl
       obtain ⟨Y7_6, hs⟩ := hs.ext (d := 51) rfl
       obtain ⟨Y8_7, hs⟩ := hs.ext (d := 52) rfl
       obtain ⟨Y9_8, hs⟩ := hs.ext (d := 53) rfl
       obtain ⟨Y10_9, hs⟩ := hs.ext (d := 54) rfl
       obtain ⟨Y11_10, hs⟩ := hs.ext (d := 55) rfl
       obtain ⟨Y12_11, hs⟩ := hs.ext (d := 56) rfl
       obtain ⟨Y13_12, hs⟩ := hs.ext (d := 57) rfl
       obtain ⟨Y14_13, hs⟩ := hs.ext (d := 58) rfl
       obtain ⟨Y15_14, hs⟩ := hs.ext (d := 59) rfl
       obtain ⟨Y16_15, hs⟩ := hs.ext (d := 60) rfl
       exact ⟨Y1_0, Y2_1, Y3_2, Y4_3, Y5_4, Y6_5, Y7_6, Y8_7, Y9_8, Y10_9, Y11_10, Y12_11, Y13_12, Y14_13, Y15_14, Y16_15, hs.weak ⟨rfl, rfl, rfl, rfl, rfl, rfl, rfl, rfl, rfl, rfl, rfl, rfl, rfl, rfl, rfl, rfl, rfl, rfl, rfl, rfl, rfl, rfl, trivial⟩, (HS.drew.pick 3 [0, 1, 2]), fun h => Bool.noConfusion h, fun h => Bool.noConfusion h, fun h => Bool.noConfusion h, fun h => Bool.noConfusion h, fun h => Bool.noConfusion h, fun h => Bool.noConfusion h, fun h => Bool.noConfusion h, fun h => Bool.noConfusion h, fun h => Bool.noConfusion h, fun h => Bool.noConfusion h, fun h => Bool.noConfusion h, fun h => Bool.noConfusion h, fun h => Bool.noConfusion h, fun h => Bool.noConfusion h, fun h => Bool.noConfusion h, fun h => Bool.noConfusion h⟩
      ·
       intro j hj b a w
       refine exI fun Y1_0 => exI fun Y2_1 => exI fun Y3_2 => exI fun Y4_3 => exI fun Y5_4 => exI fun Y6_5 => exI fun Y7_6 => exI fun Y8_7 => exI fun Y9_8 => exI fun Y10_9 => exI fun Y11_10 => exI fun Y12_11 => exI fun Y13_12 => exI fun Y14_13 => exI fun Y15_14 => exI fun Y16_15 => anI fun hs => anI fun HS => anI fun f0 => anI fun f1 => anI fun f2 => anI fun f3 => anI fun f4 => anI fun f5 => anI fun f6 => anI fun f7 => anI fun f8 => anI fun f9 => anI fun f10 => anI fun f11 => anI fun f12 => anI fun f13 => anI fun f14 => fun f15 hb hd hcl => ?_
       match j, hj with
       | 0, _ =>
        refine GO.at hs ?_
        refine GO.move rfl rfl rfl ?_
        refine GO.fin (fun a hs => ?_)
        exact ⟨(.int .i64 o), _, _, _, _, _, _, _, _, _, _, _, _, _, _, _, hs.weak ⟨rfl, rfl, rfl, rfl, rfl, rfl, rfl, rfl, rfl, rfl, rfl, rfl, rfl, rfl, rfl, rfl, rfl, rfl, rfl, rfl, rfl, rfl, trivial⟩, HS.pick 3 [0, 1, 2], fun _ => rfl, f1, f2, f3, f4, f5, f6, f7, f8, f9, f10, f11, f12, f13, f14, f15⟩
       | 1, _ =>
        have h0 : b 0 = true := hd 0 (by decide)
        obtain rfl := f0 h0
        refine GO.at hs ?_
        refine GO.quo rfl rfl rfl (by decide) rfl ?_
        refine GO.fin (fun a hs => ?_)
        exact ⟨_, (.int .i64 (w64 (o.tdiv 2))), _, _, _, _, _, _, _, _, _, _, _, _, _, _, hs.weak ⟨rfl, rfl, rfl, rfl, rfl, rfl, rfl, rfl, rfl, rfl, rfl, rfl, rfl, rfl, rfl, rfl, rfl, rfl, rfl, rfl, rfl, rfl, trivial⟩, HS.pick 3 [0, 1, 2], f0, fun _ => rfl, f2, f3, f4, f5, f6, f7, f8, f9, f10, f11, f12, f13, f14, f15⟩
       | 2, _ =>
        refine GO.at hs ?_
        refine GO.move rfl rfl rfl ?_
        refine GO.fin (fun a hs => ?_)
        exact ⟨_, _, (.int .i64 A), _, _, _, _, _, _, _, _, _, _, _, _, _, hs.weak ⟨rfl, rfl, rfl, rfl, rfl, rfl, rfl, rfl, rfl, rfl, rfl, rfl, rfl, rfl, rfl, rfl, rfl, rfl, rfl, rfl, rfl, rfl, trivial⟩, HS.pick 3 [0, 1, 2], f0, f1, fun _ => rfl, f3, f4, f5, f6, f7, f8, f9, f10, f11, f12, f13, f14, f15⟩
       | 3, _ =>
        have h2 : b 2 = true := hd 2 (by decide)
        obtain rfl := f2 h2
        refine GO.at hs ?_
        refine GO.quo rfl rfl rfl (by decide) rfl ?_
        refine GO.fin (fun a hs => ?_)
        exact ⟨_, _, _, (.int .i64 (w64 (A.tdiv 2))), _, _, _, _, _, _, _, _, _, _, _, _, hs.weak ⟨rfl, rfl, rfl, rfl, rfl, rfl, rfl, rfl, rfl, rfl, rfl, rfl, rfl, rfl, rfl, rfl, rfl, rfl, rfl, rfl, rfl, rfl, trivial⟩, HS.pick 3 [0, 1, 2], f0, f1, f2, fun _ => rfl, f4, f5, f6, f7, f8, f9, f10, f11, f12, f13, f14, f15⟩
       | 4, _ =>
        have h1 : b 1 = true := hd 1 (by decide)
        obtain rfl := f1 h1
        have h3 : b 3 = true := hd 3 (by decide)
        obtain rfl := f3 h3
        refine GO.at hs ?_
        refine GO.eql rfl rfl rfl rfl ?_
        refine GO.fin (fun a hs => ?_)
        exact ⟨_, _, _, _, (.bool (decide (w64 (o.tdiv 2) = w64 (A.tdiv 2)))), _, _, _, _, _, _, _, _, _, _, _, hs.weak ⟨rfl, rfl, rfl, rfl, rfl, rfl, rfl, rfl, rfl, rfl, rfl, rfl, rfl, rfl, rfl, rfl, rfl, rfl, rfl, rfl, rfl, rfl, trivial⟩, HS.pick 3 [0, 1, 2], f0, f1, f2, f3, fun _ => rfl, f5, f6, f7, f8, f9, f10, f11, f12, f13, f14, f15⟩
       | 5, _ =>
        have h4 : b 4 = true := hd 4 (by decide)
        obtain rfl := f4 h4
        refine GO.at hs ?_
        refine GO.move rfl rfl rfl ?_
        refine GO.known (t := 50) rfl (decide_eq_true c38) ?_
        refine GO.fin (fun a hs => ?_)
        exact ⟨_, _, _, _, _, (.bool true), _, _, _, _, _, _, _, _, _, _, hs.weak ⟨rfl, rfl, rfl, rfl, rfl, rfl, rfl, rfl, rfl, rfl, rfl, rfl, rfl, rfl, rfl, rfl, rfl, rfl, rfl, rfl, rfl, rfl, trivial⟩, HS.pick 3 [0, 1, 2], f0, f1, f2, f3, f4, fun _ => rfl, f6, f7, f8, f9, f10, f11, f12, f13, f14, f15⟩
       | 6, _ =>
        have h5 : b 5 = true := hd 5 (by decide)
        obtain rfl := f5 h5
        refine GO.at hs ?_
        refine GO.off rfl rfl rfl rfl rfl rfl ?_
        refine GO.fin (fun a hs => ?_)
        exact ⟨_, _, _, _, _, _, (undef), _, _, _, _, _, _, _, _, _, hs.weak ⟨rfl, rfl, rfl, rfl, rfl, rfl, rfl, rfl, rfl, rfl, rfl, rfl, rfl, rfl, rfl, rfl, rfl, rfl, rfl, rfl, rfl, rfl, trivial⟩, HS.pick 3 [0, 1, 2], f0, f1, f2, f3, f4, f5, fun _ => rfl, f7, f8, f9, f10, f11, f12, f13, f14, f15⟩
       | 7, _ =>
        have h5 : b 5 = true := hd 5 (by decide)
        obtain rfl := f5 h5
        refine GO.at hs ?_
        refine GO.off rfl rfl rfl rfl rfl rfl ?_
        refine GO.fin (fun a hs => ?_)
        exact ⟨_, _, _, _, _, _, _, (undef), _, _, _, _, _, _, _, _, hs.weak ⟨rfl, rfl, rfl, rfl, rfl, rfl, rfl, rfl, rfl, rfl, rfl, rfl, rfl, rfl, rfl, rfl, rfl, rfl, rfl, rfl, rfl, rfl, trivial⟩, HS.pick 3 [0, 1, 2], f0, f1, f2, f3, f4, f5, f6, fun _ => rfl, f8, f9, f10, f11, f12, f13, f14, f15⟩
       | 8, _ =>
        have h5 : b 5 = true := hd 5 (by decide)
        obtain rfl := f5 h5
        have h6 : b 6 = true := hd 6 (by decide)
        obtain rfl := f6 h6
        have h7 : b 7 = true := hd 7 (by decide)
        obtain rfl := f7 h7
        refine GO.at hs ?_
        refine GO.off rfl rfl rfl rfl rfl rfl ?_
        refine GO.fin (fun a hs => ?_)
        exact ⟨_, _, _, _, _, _, _, _, (undef), _, _, _, _, _, _, _, hs.weak ⟨rfl, rfl, rfl, rfl, rfl, rfl, rfl, rfl, rfl, rfl, rfl, rfl, rfl, rfl, rfl, rfl, rfl, rfl, rfl, rfl, rfl, rfl, trivial⟩, HS.pick 3 [0, 1, 2], f0, f1, f2, f3, f4, f5, f6, f7, fun _ => rfl, f9, f10, f11, f12, f13, f14, f15⟩
       | 9, _ =>
        have h5 : b 5 = true := hd 5 (by decide)
        obtain rfl := f5 h5
        have h8 : b 8 = true := hd 8 (by decide)
        obtain rfl := f8 h8
        refine GO.at hs ?_
        refine GO.off rfl rfl rfl rfl rfl rfl ?_
        refine GO.fin (fun a hs => ?_)
        exact ⟨_, _, _, _, _, _, _, _, _, (undef), _, _, _, _, _, _, hs.weak ⟨rfl, rfl, rfl, rfl, rfl, rfl, rfl, rfl, rfl, rfl, rfl, rfl, rfl, rfl, rfl, rfl, rfl, rfl, rfl, rfl, rfl, rfl, trivial⟩, HS.pick 3 [0, 1, 2], f0, f1, f2, f3, f4, f5, f6, f7, f8, fun _ => rfl, f10, f11, f12, f13, f14, f15⟩
       | 10, _ =>
        have h5 : b 5 = true := hd 5 (by decide)
        obtain rfl := f5 h5
        refine GO.at hs ?_
        refine GO.off rfl rfl rfl rfl rfl rfl ?_
        refine GO.fin (fun a hs => ?_)
        exact ⟨_, _, _, _, _, _, _, _, _, _, (undef), _, _, _, _, _, hs.weak ⟨rfl, rfl, rfl, rfl, rfl, rfl, rfl, rfl, rfl, rfl, rfl, rfl, rfl, rfl, rfl, rfl, rfl, rfl, rfl, rfl, rfl, rfl, trivial⟩, HS.pick 3 [0, 1, 2], f0, f1, f2, f3, f4, f5, f6, f7, f8, f9, fun _ => rfl, f11, f12, f13, f14, f15⟩
       | 11, _ =>
        have h5 : b 5 = true := hd 5 (by decide)
        obtain rfl := f5 h5
        refine GO.at hs ?_
        refine GO.off rfl rfl rfl rfl rfl rfl ?_
        refine GO.fin (fun a hs => ?_)
        exact ⟨_, _, _, _, _, _, _, _, _, _, _, (undef), _, _, _, _, hs.weak ⟨rfl, rfl, rfl, rfl, rfl, rfl, rfl, rfl, rfl, rfl, rfl, rfl, rfl, rfl, rfl, rfl, rfl, rfl, rfl, rfl, rfl, rfl, trivial⟩, HS.pick 3 [0, 1, 2], f0, f1, f2, f3, f4, f5, f6, f7, f8, f9, f10, fun _ => rfl, f12, f13, f14, f15⟩
       | 12, _ =>
        have h5 : b 5 = true := hd 5 (by decide)
        obtain rfl := f5 h5
        have h10 : b 10 = true := hd 10 (by decide)
        obtain rfl := f10 h10
        have h11 : b 11 = true := hd 11 (by decide)
        obtain rfl := f11 h11
        refine GO.at hs ?_
        refine GO.off rfl rfl rfl rfl rfl rfl ?_
        refine GO.fin (fun a hs => ?_)
        exact ⟨_, _, _, _, _, _, _, _, _, _, _, _, (undef), _, _, _, hs.weak ⟨rfl, rfl, rfl, rfl, rfl, rfl, rfl, rfl, rfl, rfl, rfl, rfl, rfl, rfl, rfl, rfl, rfl, rfl, rfl, rfl, rfl, rfl, trivial⟩, HS.pick 3 [0, 1, 2], f0, f1, f2, f3, f4, f5, f6, f7, f8, f9, f10, f11, fun _ => rfl, f13, f14, f15⟩
       | 13, _ =>
        have h5 : b 5 = true := hd 5 (by decide)
        obtain rfl := f5 h5
        have h12 : b 12 = true := hd 12 (by decide)
        obtain rfl := f12 h12
        refine GO.at hs ?_
        refine GO.off rfl rfl rfl rfl rfl rfl ?_
        refine GO.fin (fun a hs => ?_)
        exact ⟨_, _, _, _, _, _, _, _, _, _, _, _, _, (undef), _, _, hs.weak ⟨rfl, rfl, rfl, rfl, rfl, rfl, rfl, rfl, rfl, rfl, rfl, rfl, rfl, rfl, rfl, rfl, rfl, rfl, rfl, rfl, rfl, rfl, trivial⟩, HS.pick 3 [0, 1, 2], f0, f1, f2, f3, f4, f5, f6, f7, f8, f9, f10, f11, f12, fun _ => rfl, f14, f15⟩
       | 14, _ =>
        have h5 : b 5 = true := hd 5 (by decide)
        obtain rfl := f5 h5
        have h9 : b 9 = true := hd 9 (by decide)
        obtain rfl := f9 h9
        have h13 : b 13 = true := hd 13 (by decide)
        obtain rfl := f13 h13
        refine GO.at hs ?_
        refine GO.off rfl rfl rfl rfl rfl rfl ?_
        refine GO.fin (fun a hs => ?_)
        exact ⟨_, _, _, _, _, _, _, _, _, _, _, _, _, _, (undef), _, hs.weak ⟨rfl, rfl, rfl, rfl, rfl, rfl, rfl, rfl, rfl, rfl, rfl, rfl, rfl, rfl, rfl, rfl, rfl, rfl, rfl, rfl, rfl, rfl, trivial⟩, HS.pick 3 [0, 1, 2], f0, f1, f2, f3, f4, f5, f6, f7, f8, f9, f10, f11, f12, f13, fun _ => rfl, f15⟩
       | 15, _ =>
        have h5 : b 5 = true := hd 5 (by decide)
        obtain rfl := f5 h5
        have h14 : b 14 = true := hd 14 (by decide)
        obtain rfl := f14 h14
        refine GO.at hs ?_
        refine GO.pickT rfl rfl rfl rfl rfl ?_
        refine GO.fin (fun a hs => ?_)
        exact ⟨_, _, _, _, _, _, _, _, _, _, _, _, _, _, _, (.bool true), hs.weak ⟨rfl, rfl, rfl, rfl, rfl, rfl, rfl, rfl, rfl, rfl, rfl, rfl, rfl, rfl, rfl, rfl, rfl, rfl, rfl, rfl, rfl, rfl, trivial⟩, HS.pick 3 [0, 1, 2], f0, f1, f2, f3, f4, f5, f6, f7, f8, f9, f10, f11, f12, f13, f14, fun _ => rfl⟩
       | k + 16, hj => exact absurd hj (Nat.not_lt.2 (Nat.le_add_left 16 k))
      ·
       intro b a w hall
       refine exI fun Y1_0 => exI fun Y2_1 => exI fun Y3_2 => exI fun Y4_3 => exI fun Y5_4 => exI fun Y6_5 => exI fun Y7_6 => exI fun Y8_7 => exI fun Y9_8 => exI fun Y10_9 => exI fun Y11_10 => exI fun Y12_11 => exI fun Y13_12 => exI fun Y14_13 => exI fun Y15_14 => exI fun Y16_15 => anI fun hs => anI fun HS => anI fun f0 => anI fun f1 => anI fun f2 => anI fun f3 => anI fun f4 => anI fun f5 => anI fun f6 => anI fun f7 => anI fun f8 => anI fun f9 => anI fun f10 => anI fun f11 => anI fun f12 => anI fun f13 => anI fun f14 => fun f15 => ?_
       obtain rfl := f0 (hall 0 (by decide))
       obtain rfl := f1 (hall 1 (by decide))
       obtain rfl := f2 (hall 2 (by decide))
       obtain rfl := f3 (hall 3 (by decide))
       obtain rfl := f4 (hall 4 (by decide))
       obtain rfl := f5 (hall 5 (by decide))
       obtain rfl := f6 (hall 6 (by decide))
       obtain rfl := f7 (hall 7 (by decide))
       obtain rfl := f8 (hall 8 (by decide))
       obtain rfl := f9 (hall 9 (by decide))
       obtain rfl := f10 (hall 10 (by decide))
       obtain rfl := f11 (hall 11 (by decide))
       obtain rfl := f12 (hall 12 (by decide))
       obtain rfl := f13 (hall 13 (by decide))
       obtain rfl := f14 (hall 14 (by decide))
       obtain rfl := f15 (hall 15 (by decide))
       refine G.at hs ?_
       refine G.yesB rfl rfl ?_
       refine G.seq ?_
       refine G.region ?_
       refine GO.buildV (.agg [.slice none 0 0, .int .i64 0].toArray) rfl rfl (fun _ => by kernel_rfl) rfl ?_
       refine GO.stBox (j := 1) (vs := [.slice none 0 0, .int .i64 0]) ([.slice none 0 0, .int .i64 0]) HS rfl rfl rfl rfl rfl (htA ag28) rfl rfl rfl ?_; intro wd39 HS
       refine GO.assign rfl rfl rfl ?_
       refine GO.nil ?_
       replace HS := HS.nilRow T_GCrossing 58 (fun _ => ())
       obtain ⟨rfl, rfl, rfl⟩ := some3 H
       exact G.ret2 _ _ Try.func21 rfl (Res1.boxA (j := 2) (vs := [.slice none 0 0, .int .i64 0]) HS rfl rfl rfl ag28) rfl ⟨_, _, rfl, (HS.pick 4 [0])⟩
     ·
      obtain ⟨c40, H⟩ := ite_none H
      obtain ⟨c41, H⟩ := ite_none H
      refine G.regionAny mixed (by decide) (fun b a w => ∃ (Y17_0 : Value) (Y18_1 : Value) (Y19_2 : Value) (Y20_3 : Value) (Y21_4 : Value) (Y22_5 : Value) (Y23_6 : Value) (Y24_7 : Value) (Y25_8 : Value) (Y26_9 : Value) (Y27_10 : Value) (Y28_11 : Value) (Y29_12 : Value) (Y30_13 : Value) (Y31_14 : Value) (Y32_15 : Value), Sat 159 [(45, Y17_0), (46, Y18_1), (47, Y19_2), (48, Y20_3), (49, Y21_4), (50, Y22_5), (51, Y23_6), (52, Y24_7), (53, Y25_8), (54, Y26_9), (55, Y27_10), (56, Y28_11), (57, Y29_12), (58, Y30_13), (59, Y31_14), (60, Y32_15), (1, .int .i64 o), (2, .int .i64 A), (3, .pointer (some ⟨b1, 0, none⟩)), (6, .pointer (some ⟨b3, 0, none⟩)), (8, .int .i64 (w64 (2 * (t_Crossings.length : Int)))), (9, .slice A31 t29.length c32)] a ∧ St w0 w (Own (TInt .i64) 2 A31 c32 (fun _ => ()) t29 :: Box b3 28 [.slice none 0 0, .int .i64 0] :: Box b1 28 [.slice A_t_Crossings t_Crossings.length c_t_Crossings, .int .i64 t_Circles] :: L) ∧ (b 0 = true → Y17_0 = (.int .i64 o)) ∧ (b 1 = true → Y18_1 = (.int .i64 (w64 (o.tdiv 2)))) ∧ (b 2 = true → Y19_2 = (.int .i64 A)) ∧ (b 3 = true → Y20_3 = (.int .i64 (w64 (A.tdiv 2)))) ∧ (b 4 = true → Y21_4 = (.bool (decide (w64 (o.tdiv 2) = w64 (A.tdiv 2))))) ∧ (b 5 = true → Y22_5 = (.bool false)) ∧ (b 6 = true → Y23_6 = (.slice A31 t29.length c32)) ∧ (b 7 = true → Y24_7 = (.int .i64 o)) ∧ (b 8 = true → Y25_8 = (.pointer (some (ea A31 (o.toNat * 1))))) ∧ (b 9 = true → Y26_9 = (.int .i64 (t29.getD o.toNat 0))) ∧ (b 10 = true → Y27_10 = (.slice A31 t29.length c32)) ∧ (b 11 = true → Y28_11 = (.int .i64 A)) ∧ (b 12 = true → Y29_12 = (.pointer (some (ea A31 (A.toNat * 1))))) ∧ (b 13 = true → Y30_13 = (.int .i64 (t29.getD A.toNat 0))) ∧ (b 14 = true → Y31_14 = (.bool (!(decide (t29.getD o.toNat 0 = t29.getD A.toNat 0))))) ∧ (b 15 = true → Y32_15 = (.bool (!(decide (t29.getD o.toNat 0 = t29.getD A.toNat 0)))))) ?_ ?_ ?_
      ·
       intro a hs
       obtain ⟨Y17_0, hs⟩ := hs.ext (d := 45) rfl
       obtain ⟨Y18_1, hs⟩ := hs.ext (d := 46) rfl
       obtain ⟨Y19_2, hs⟩ := hs.ext (d := 47) rfl
       obtain ⟨Y20_3, hs⟩ := hs.ext (d := 48) rfl
       obtain ⟨Y21_4, hs⟩ := hs.ext (d := 49) rfl
       obtain ⟨Y22_5, hs⟩ := hs.ext (d := 50) rfl
       obtain ⟨Y23_6, hs⟩ := hs.ext (d := 51) rfl
       obtain ⟨Y24_7, hs⟩ := hs.ext (d := 52) rfl
       obtain ⟨Y25_8, hs⟩ := hs.ext (d := 53) rfl
       obtain ⟨Y26_9, hs⟩ := hs.ext (d := 54) rfl
       obtain ⟨Y27_10, hs⟩ := hs.ext (d := 55) rfl
       obtain ⟨Y28_11, hs⟩ := hs.ext (d := 56) rfl
       obtain ⟨Y29_12, hs⟩ := hs.ext (d := 57) rfl
       obtain ⟨Y30_13, hs⟩ := hs.ext (d := 58) rfl
       obtain ⟨Y31_14, hs⟩ := hs.ext (d := 59) rfl
       obtain ⟨Y32_15, hs⟩ := hs.ext (d := 60) rfl
       exact ⟨Y17_0, Y18_1, Y19_2, Y20_3, Y21_4, Y22_5, Y23_6, Y24_7, Y25_8, Y26_9, Y27_10, Y28_11, Y29_12, Y30_13, Y31_14, Y32_15, hs.weak ⟨rfl, rfl, rfl, rfl, rfl, rfl, rfl, rfl, rfl, rfl, rfl, rfl, rfl, rfl, rfl, rfl, rfl, rfl, rfl, rfl, rfl, rfl, trivial⟩, (HS.drew.pick 3 [0, 1, 2]), fun h => Bool.noConfusion h, fun h => Bool.noConfusion h, fun h => Bool.noConfusion h, fun h => Bool.noConfusion h, fun h => Bool.noConfusion h, fun h => Bool.noConfusion h, fun h => Bool.noConfusion h, fun h => Bool.noConfusion h, fun h => Bool.noConfusion h, fun h => Bool.noConfusion h, fun h => Bool.noConfusion h, fun h => Bool.noConfusion h, fun h => Bool.noConfusion h, fun h => Bool.noConfusion h, fun h => Bool.noConfusion h, fun h => Bool.noConfusion h⟩
      ·
       intro j hj b a w
       refine exI fun Y17_0 => exI fun Y18_1 => exI fun Y19_2 => exI fun Y20_3 => exI fun Y21_4 => exI fun Y22_5 => exI fun Y23_6 => exI fun Y24_7 => exI fun Y25_8 => exI fun Y26_9 => exI fun Y27_10 => exI fun Y28_11 => exI fun Y29_12 => exI fun Y30_13 => exI fun Y31_14 => exI fun Y32_15 => anI fun hs => anI fun HS => anI fun f0 => anI fun f1 => anI fun f2 => anI fun f3 => anI fun f4 => anI fun f5 => anI fun f6 => anI fun f7 => anI fun f8 => anI fun f9 => anI fun f10 => anI fun f11 => anI fun f12 => anI fun f13 => anI fun f14 => fun f15 hb hd hcl => ?_
       match j, hj with
       | 0, _ =>
        refine GO.at hs ?_
        refine GO.move rfl rfl rfl ?_
        refine GO.fin (fun a hs => ?_)
        exact ⟨(.int .i64 o), _, _, _, _, _, _, _, _, _, _, _, _, _, _, _, hs.weak ⟨rfl, rfl, rfl, rfl, rfl, rfl, rfl, rfl, rfl, rfl, rfl, rfl, rfl, rfl, rfl, rfl, rfl, rfl, rfl, rfl, rfl, rfl, trivial⟩, HS.pick 3 [0, 1, 2], fun _ => rfl, f1, f2, f3, f4, f5, f6, f7, f8, f9, f10, f11, f12, f13, f14, f15⟩
       | 1, _ =>
        have h0 : b 0 = true := hd 0 (by decide)
        obtain rfl := f0 h0
        refine GO.at hs ?_
        refine GO.quo rfl rfl rfl (by decide) rfl ?_
        refine GO.fin (fun a hs => ?_)
        exact ⟨_, (.int .i64 (w64 (o.tdiv 2))), _, _, _, _, _, _, _, _, _, _, _, _, _, _, hs.weak ⟨rfl, rfl, rfl, rfl, rfl, rfl, rfl, rfl, rfl, rfl, rfl, rfl, rfl, rfl, rfl, rfl, rfl, rfl, rfl, rfl, rfl, rfl, trivial⟩, HS.pick 3 [0, 1, 2], f0, fun _ => rfl, f2, f3, f4, f5, f6, f7, f8, f9, f10, f11, f12, f13, f14, f15⟩
       | 2, _ =>
        refine GO.at hs ?_
        refine GO.move rfl rfl rfl ?_
        refine GO.fin (fun a hs => ?_)
        exact ⟨_, _, (.int .i64 A), _, _, _, _, _, _, _, _, _, _, _, _, _, hs.weak ⟨rfl, rfl, rfl, rfl, rfl, rfl, rfl, rfl, rfl, rfl, rfl, rfl, rfl, rfl, rfl, rfl, rfl, rfl, rfl, rfl, rfl, rfl, trivial⟩, HS.pick 3 [0, 1, 2], f0, f1, fun _ => rfl, f3, f4, f5, f6, f7, f8, f9, f10, f11, f12, f13, f14, f15⟩
       | 3, _ =>
        have h2 : b 2 = true := hd 2 (by decide)
        obtain rfl := f2 h2
        refine GO.at hs ?_
        refine GO.quo rfl rfl rfl (by decide) rfl ?_
        refine GO.fin (fun a hs => ?_)
        exact ⟨_, _, _, (.int .i64 (w64 (A.tdiv 2))), _, _, _, _, _, _, _, _, _, _, _, _, hs.weak ⟨rfl, rfl, rfl, rfl, rfl, rfl, rfl, rfl, rfl, rfl, rfl, rfl, rfl, rfl, rfl, rfl, rfl, rfl, rfl, rfl, rfl, rfl, trivial⟩, HS.pick 3 [0, 1, 2], f0, f1, f2, fun _ => rfl, f4, f5, f6, f7, f8, f9, f10, f11, f12, f13, f14, f15⟩
       | 4, _ =>
        have h1 : b 1 = true := hd 1 (by decide)
        obtain rfl := f1 h1
        have h3 : b 3 = true := hd 3 (by decide)
        obtain rfl := f3 h3
        refine GO.at hs ?_
        refine GO.eql rfl rfl rfl rfl ?_
        refine GO.fin (fun a hs => ?_)
        exact ⟨_, _, _, _, (.bool (decide (w64 (o.tdiv 2) = w64 (A.tdiv 2)))), _, _, _, _, _, _, _, _, _, _, _, hs.weak ⟨rfl, rfl, rfl, rfl, rfl, rfl, rfl, rfl, rfl, rfl, rfl, rfl, rfl, rfl, rfl, rfl, rfl, rfl, rfl, rfl, rfl, rfl, trivial⟩, HS.pick 3 [0, 1, 2], f0, f1, f2, f3, fun _ => rfl, f5, f6, f7, f8, f9, f10, f11, f12, f13, f14, f15⟩
       | 5, _ =>
        have h4 : b 4 = true := hd 4 (by decide)
        obtain rfl := f4 h4
        refine GO.at hs ?_
        refine GO.move rfl rfl rfl ?_
        refine GO.known (t := 50) rfl (decide_eq_false c38) ?_
        refine GO.fin (fun a hs => ?_)
        exact ⟨_, _, _, _, _, (.bool false), _, _, _, _, _, _, _, _, _, _, hs.weak ⟨rfl, rfl, rfl, rfl, rfl, rfl, rfl, rfl, rfl, rfl, rfl, rfl, rfl, rfl, rfl, rfl, rfl, rfl, rfl, rfl, rfl, rfl, trivial⟩, HS.pick 3 [0, 1, 2], f0, f1, f2, f3, f4, fun _ => rfl, f6, f7, f8, f9, f10, f11, f12, f13, f14, f15⟩
       | 6, _ =>
        have h5 : b 5 = true := hd 5 (by decide)
        obtain rfl := f5 h5
        refine GO.at hs ?_
        refine GO.on rfl rfl rfl rfl ?_
        refine GO.move rfl rfl rfl ?_
        refine GO.back ?_
        refine GO.fin (fun a hs => ?_)
        exact ⟨_, _, _, _, _, _, (.slice A31 t29.length c32), _, _, _, _, _, _, _, _, _, hs.weak ⟨rfl, rfl, rfl, rfl, rfl, rfl, rfl, rfl, rfl, rfl, rfl, rfl, rfl, rfl, rfl, rfl, rfl, rfl, rfl, rfl, rfl, rfl, trivial⟩, HS.pick 3 [0, 1, 2], f0, f1, f2, f3, f4, f5, fun _ => rfl, f7, f8, f9, f10, f11, f12, f13, f14, f15⟩
       | 7, _ =>
        have h5 : b 5 = true := hd 5 (by decide)
        obtain rfl := f5 h5
        refine GO.at hs ?_
        refine GO.on rfl rfl rfl rfl ?_
        refine GO.move rfl rfl rfl ?_
        refine GO.back ?_
        refine GO.fin (fun a hs => ?_)
        exact ⟨_, _, _, _, _, _, _, (.int .i64 o), _, _, _, _, _, _, _, _, hs.weak ⟨rfl, rfl, rfl, rfl, rfl, rfl, rfl, rfl, rfl, rfl, rfl, rfl, rfl, rfl, rfl, rfl, rfl, rfl, rfl, rfl, rfl, rfl, trivial⟩, HS.pick 3 [0, 1, 2], f0, f1, f2, f3, f4, f5, f6, fun _ => rfl, f8, f9, f10, f11, f12, f13, f14, f15⟩
       | 8, _ =>
        have h5 : b 5 = true := hd 5 (by decide)
        obtain rfl := f5 h5
        have h6 : b 6 = true := hd 6 (by decide)
        obtain rfl := f6 h6
        have h7 : b 7 = true := hd 7 (by decide)
        obtain rfl := f7 h7
        refine GO.at hs ?_
        refine GO.on rfl rfl rfl rfl ?_
        refine GO.ix rfl rfl rfl Try.underlying43 sz2 ((RdIn.own (j := 0) rfl) _ HS).2.2.1 c40.1 c40.2 rfl ?_
        refine GO.back ?_
        refine GO.fin (fun a hs => ?_)
        exact ⟨_, _, _, _, _, _, _, _, (.pointer (some (ea A31 (o.toNat * 1)))), _, _, _, _, _, _, _, hs.weak ⟨rfl, rfl, rfl, rfl, rfl, rfl, rfl, rfl, rfl, rfl, rfl, rfl, rfl, rfl, rfl, rfl, rfl, rfl, rfl, rfl, rfl, rfl, trivial⟩, HS.pick 3 [0, 1, 2], f0, f1, f2, f3, f4, f5, f6, f7, fun _ => rfl, f9, f10, f11, f12, f13, f14, f15⟩
       | 9, _ =>
        have h5 : b 5 = true := hd 5 (by decide)
        obtain rfl := f5 h5
        have h8 : b 8 = true := hd 8 (by decide)
        obtain rfl := f8 h8
        refine GO.at hs ?_
        refine GO.on rfl rfl rfl rfl ?_
        refine GO.ldRd (T := (TInt .i64)) (n := o.toNat) (o := 0) HS (RdIn.own (j := 0) rfl) rfl rfl (getD_some (d := 0) (ltN c40)) rfl rfl na2 rfl ?_
        refine GO.back ?_
        refine GO.fin (fun a hs => ?_)
        exact ⟨_, _, _, _, _, _, _, _, _, (.int .i64 (t29.getD o.toNat 0)), _, _, _, _, _, _, hs.weak ⟨rfl, rfl, rfl, rfl, rfl, rfl, rfl, rfl, rfl, rfl, rfl, rfl, rfl, rfl, rfl, rfl, rfl, rfl, rfl, rfl, rfl, rfl, trivial⟩, HS.pick 3 [0, 1, 2], f0, f1, f2, f3, f4, f5, f6, f7, f8, fun _ => rfl, f10, f11, f12, f13, f14, f15⟩
       | 10, _ =>
        have h5 : b 5 = true := hd 5 (by decide)
        obtain rfl := f5 h5
        refine GO.at hs ?_
        refine GO.on rfl rfl rfl rfl ?_
        refine GO.move rfl rfl rfl ?_
        refine GO.back ?_
        refine GO.fin (fun a hs => ?_)
        exact ⟨_, _, _, _, _, _, _, _, _, _, (.slice A31 t29.length c32), _, _, _, _, _, hs.weak ⟨rfl, rfl, rfl, rfl, rfl, rfl, rfl, rfl, rfl, rfl, rfl, rfl, rfl, rfl, rfl, rfl, rfl, rfl, rfl, rfl, rfl, rfl, trivial⟩, HS.pick 3 [0, 1, 2], f0, f1, f2, f3, f4, f5, f6, f7, f8, f9, fun _ => rfl, f11, f12, f13, f14, f15⟩
       | 11, _ =>
        have h5 : b 5 = true := hd 5 (by decide)
        obtain rfl := f5 h5
        refine GO.at hs ?_
        refine GO.on rfl rfl rfl rfl ?_
        refine GO.move rfl rfl rfl ?_
        refine GO.back ?_
        refine GO.fin (fun a hs => ?_)
        exact ⟨_, _, _, _, _, _, _, _, _, _, _, (.int .i64 A), _, _, _, _, hs.weak ⟨rfl, rfl, rfl, rfl, rfl, rfl, rfl, rfl, rfl, rfl, rfl, rfl, rfl, rfl, rfl, rfl, rfl, rfl, rfl, rfl, rfl, rfl, trivial⟩, HS.pick 3 [0, 1, 2], f0, f1, f2, f3, f4, f5, f6, f7, f8, f9, f10, fun _ => rfl, f12, f13, f14, f15⟩
       | 12, _ =>
        have h5 : b 5 = true := hd 5 (by decide)
        obtain rfl := f5 h5
        have h10 : b 10 = true := hd 10 (by decide)
        obtain rfl := f10 h10
        have h11 : b 11 = true := hd 11 (by decide)
        obtain rfl := f11 h11
        refine GO.at hs ?_
        refine GO.on rfl rfl rfl rfl ?_
        refine GO.ix rfl rfl rfl Try.underlying43 sz2 ((RdIn.own (j := 0) rfl) _ HS).2.2.1 c41.1 c41.2 rfl ?_
        refine GO.back ?_
        refine GO.fin (fun a hs => ?_)
        exact ⟨_, _, _, _, _, _, _, _, _, _, _, _, (.pointer (some (ea A31 (A.toNat * 1)))), _, _, _, hs.weak ⟨rfl, rfl, rfl, rfl, rfl, rfl, rfl, rfl, rfl, rfl, rfl, rfl, rfl, rfl, rfl, rfl, rfl, rfl, rfl, rfl, rfl, rfl, trivial⟩, HS.pick 3 [0, 1, 2], f0, f1, f2, f3, f4, f5, f6, f7, f8, f9, f10, f11, fun _ => rfl, f13, f14, f15⟩
       | 13, _ =>
        have h5 : b 5 = true := hd 5 (by decide)
        obtain rfl := f5 h5
        have h12 : b 12 = true := hd 12 (by decide)
        obtain rfl := f12 h12
        refine GO.at hs ?_
        refine GO.on rfl rfl rfl rfl ?_
        refine GO.ldRd (T := (TInt .i64)) (n := A.toNat) (o := 0) HS (RdIn.own (j := 0) rfl) rfl rfl (getD_some (d := 0) (ltN c41)) rfl rfl na2 rfl ?_
        refine GO.back ?_
        refine GO.fin (fun a hs => ?_)
        exact ⟨_, _, _, _, _, _, _, _, _, _, _, _, _, (.int .i64 (t29.getD A.toNat 0)), _, _, hs.weak ⟨rfl, rfl, rfl, rfl, rfl, rfl, rfl, rfl, rfl, rfl, rfl, rfl, rfl, rfl, rfl, rfl, rfl, rfl, rfl, rfl, rfl, rfl, trivial⟩, HS.pick 3 [0, 1, 2], f0, f1, f2, f3, f4, f5, f6, f7, f8, f9, f10, f11, f12, fun _ => rfl, f14, f15⟩
       | 14, _ =>
        have h5 : b 5 = true := hd 5 (by decide)
        obtain rfl := f5 h5
        have h9 : b 9 = true := hd 9 (by decide)
        obtain rfl := f9 h9
        have h13 : b 13 = true := hd 13 (by decide)
        obtain rfl := f13 h13
        refine GO.at hs ?_
        refine GO.on rfl rfl rfl rfl ?_
        refine GO.neq rfl rfl rfl rfl ?_
        refine GO.back ?_
        refine GO.fin (fun a hs => ?_)
        exact ⟨_, _, _, _, _, _, _, _, _, _, _, _, _, _, (.bool (!(decide (t29.getD o.toNat 0 = t29.getD A.toNat 0)))), _, hs.weak ⟨rfl, rfl, rfl, rfl, rfl, rfl, rfl, rfl, rfl, rfl, rfl, rfl, rfl, rfl, rfl, rfl, rfl, rfl, rfl, rfl, rfl, rfl, trivial⟩, HS.pick 3 [0, 1, 2], f0, f1, f2, f3, f4, f5, f6, f7, f8, f9, f10, f11, f12, f13, fun _ => rfl, f15⟩
       | 15, _ =>
        have h5 : b 5 = true := hd 5 (by decide)
        obtain rfl := f5 h5
        have h14 : b 14 = true := hd 14 (by decide)
        obtain rfl := f14 h14
        refine GO.at hs ?_
        refine GO.pickF rfl rfl rfl rfl rfl ?_
        refine GO.fin (fun a hs => ?_)
        exact ⟨_, _, _, _, _, _, _, _, _, _, _, _, _, _, _, (.bool (!(decide (t29.getD o.toNat 0 = t29.getD A.toNat 0)))), hs.weak ⟨rfl, rfl, rfl, rfl, rfl, rfl, rfl, rfl, rfl, rfl, rfl, rfl, rfl, rfl, rfl, rfl, rfl, rfl, rfl, rfl, rfl, rfl, trivial⟩, HS.pick 3 [0, 1, 2], f0, f1, f2, f3, f4, f5, f6, f7, f8, f9, f10, f11, f12, f13, f14, fun _ => rfl⟩
       | k + 16, hj => exact absurd hj (Nat.not_lt.2 (Nat.le_add_left 16 k))
      ·
       intro b a w hall
       refine exI fun Y17_0 => exI fun Y18_1 => exI fun Y19_2 => exI fun Y20_3 => exI fun Y21_4 => exI fun Y22_5 => exI fun Y23_6 => exI fun Y24_7 => exI fun Y25_8 => exI fun Y26_9 => exI fun Y27_10 => exI fun Y28_11 => exI fun Y29_12 => exI fun Y30_13 => exI fun Y31_14 => exI fun Y32_15 => anI fun hs => anI fun HS => anI fun f0 => anI fun f1 => anI fun f2 => anI fun f3 => anI fun f4 => anI fun f5 => anI fun f6 => anI fun f7 => anI fun f8 => anI fun f9 => anI fun f10 => anI fun f11 => anI fun f12 => anI fun f13 => anI fun f14 => fun f15 => ?_
       obtain rfl := f0 (hall 0 (by decide))
       obtain rfl := f1 (hall 1 (by decide))
       obtain rfl := f2 (hall 2 (by decide))
       obtain rfl := f3 (hall 3 (by decide))
       obtain rfl := f4 (hall 4 (by decide))
       obtain rfl := f5 (hall 5 (by decide))
       obtain rfl := f6 (hall 6 (by decide))
       obtain rfl := f7 (hall 7 (by decide))
       obtain rfl := f8 (hall 8 (by decide))
       obtain rfl := f9 (hall 9 (by decide))
       obtain rfl := f10 (hall 10 (by decide))
       obtain rfl := f11 (hall 11 (by decide))
       obtain rfl := f12 (hall 12 (by decide))
       obtain rfl := f13 (hall 13 (by decide))
       obtain rfl := f14 (hall 14 (by decide))
       obtain rfl := f15 (hall 15 (by decide))
       refine G.at hs ?_
       rcases ite_elim H with ⟨c42, H⟩ | ⟨c42, H⟩
       ·
        refine G.noB rfl (congrArg Bool.not (decide_eq_true c42)) ?_
        refine G.skip ?_
        refine G.seq ?_
        refine G.seq ?_
        refine G.region ?_
        refine GO.fld (⟨b1, 0, none⟩) rfl rfl fl28_0 rfl rfl ?_
        refine GO.ldBox (j := 2) HS rfl rfl rfl rfl na26 rfl ?_
        refine GO.lenS rfl rfl Try.underlying26 rfl ?_
        refine GO.gtr rfl rfl rfl rfl ?_
        refine GO.nil ?_
        rcases ite_elim H with ⟨c43, H⟩ | ⟨c43, H⟩
        ·
         refine G.yesB rfl (decide_eq_true c43) ?_
         refine G.seq ?_
         refine G.region ?_
         refine GO.buildV (.agg [.slice none 0 0, .int .i64 0].toArray) rfl rfl (fun _ => by kernel_rfl) rfl ?_
         refine GO.stBox (j := 1) (vs := [.slice none 0 0, .int .i64 0]) ([.slice none 0 0, .int .i64 0]) HS rfl rfl rfl rfl rfl (htA ag28) rfl rfl rfl ?_; intro wd44 HS
         refine GO.assign rfl rfl rfl ?_
         refine GO.nil ?_
         replace HS := HS.nilRow T_GCrossing 58 (fun _ => ())
         obtain ⟨rfl, rfl, rfl⟩ := some3 H
         exact G.ret2 _ _ Try.func21 rfl (Res1.boxA (j := 2) (vs := [.slice none 0 0, .int .i64 0]) HS rfl rfl rfl ag28) rfl ⟨_, _, rfl, (HS.pick 4 [0])⟩
        ·
         refine G.noB rfl (decide_eq_false c43) ?_
         refine G.skip ?_
         refine G.seq ?_
         refine G.region ?_
         refine GO.move rfl rfl rfl ?_
         refine GO.quo rfl rfl rfl (by decide) rfl ?_
         refine GO.move rfl rfl rfl ?_
         refine GO.quo rfl rfl rfl (by decide) rfl ?_
         refine GO.assign rfl rfl rfl ?_
         refine GO.assign rfl rfl rfl ?_
         refine GO.nil ?_
         refine G.seq ?_
         obtain ⟨c50, H⟩ := ite_none H
         refine G.region ?_
         refine GO.buildS (el := 58) ([]) HS rfl rfl (fun _ => by kernel_rfl) rfl ?_; intro b45 wd46 HS
         refine GO.fld (⟨b1, 0, none⟩) rfl rfl fl28_0 rfl rfl ?_
         refine GO.ldBox (j := 3) HS rfl rfl rfl rfl na26 rfl ?_
         replace HS := HS.boxRow (T := T_GCrossing) (j := 0) rfl flat_flat (fun _ => ()) ([] : List GCrossing) rfl (bndL rfl)
         refine GO.lenC (t := 71) (m := ([] : List GCrossing).length) (c' := ([] : List GCrossing).length) rfl rfl rfl ?_
         refine GO.appS (T := T_GCrossing) (j := 0) HS rfl (RdIn.drop 4 h_t_Crossings) flat_flat rfl rfl rfl Try.underlying26 inf58 rfl rfl rfl c50 rfl (fun _ => rfl) ?_; intro A48 c49 wd47 HS
         refine GO.assign rfl rfl rfl ?_
         refine GO.nil ?_
         refine G.seq ?_
         obtain ⟨t51, t52, h53, H⟩ := bind2_elim H
         refine G.region ?_
         refine GO.ldBoxA (j := 3) ([.slice A_t_Crossings t_Crossings.length c_t_Crossings, .int .i64 t_Circles]) HS rfl rfl rfl rfl ag28 rfl ?_
         refine GO.move rfl rfl rfl ?_
         refine GO.fn rfl Try.func42 fok42.1 fok42.2 rfl rfl (spec_l25Place.calls HS (RdIn.drop 4 h_t_Crossings) h53) (fun _ wd54 ⟨h55, HS⟩ => ⟨_, h55, ?_⟩)
         refine GO.move rfl rfl rfl ?_
         refine GO.extract rfl rfl rfl rfl ?_
         refine GO.extract rfl rfl rfl rfl ?_
         refine GO.assign rfl rfl rfl ?_
         refine GO.assign rfl rfl rfl ?_
         refine GO.nil ?_
         refine G.seq ?_
         obtain ⟨c56, H⟩ := ite_none H
         obtain ⟨e57, h58, H⟩ := bnd_elim H
         obtain ⟨t59, t60, t61, t62, t63, h64, H⟩ := bind5_elim H
         refine G.region ?_
         refine GO.move rfl rfl rfl ?_
         refine GO.move rfl rfl rfl ?_
         refine GO.move rfl rfl rfl ?_
         refine GO.move rfl rfl rfl ?_
         refine GO.ix rfl rfl rfl Try.underlying26 sz58 ((RdIn.own (j := 0) rfl) _ HS).2.2.1 c56.1 c56.2 rfl ?_
         refine GO.ldRdA (T := T_GCrossing) (n := t51.toNat) HS (RdIn.own (j := 0) rfl) rfl rfl (getD_eq (ltN c56) h58) ag58 rfl ?_
         refine GO.move rfl rfl rfl ?_
         refine GO.move rfl rfl rfl ?_
         refine GO.add rfl rfl rfl rfl ?_
         refine GO.fn rfl Try.func43 fok43.1 fok43.2 rfl rfl (spec_l25With.calls HS  h64) (fun _ wd65 ⟨h66, HS⟩ => ⟨_, h66, ?_⟩)
         refine GO.ix rfl rfl rfl Try.underlying26 sz58 ((RdIn.own (j := 0) rfl) _ HS).2.2.1 c56.1 c56.2 rfl ?_
         refine GO.stRow (T := T_GCrossing) (j := 0) (n := t51.toNat) (o := 0) (vs := [.int .i64 t59, .int .i64 t60, .int .i64 t61, .int .i64 t62, .int .i64 t63]) (⟨t59, t60, t61, t62, t63⟩ : GCrossing) HS rfl flat_flat rfl rfl rfl rfl (htA ag58) rfl (getD_some (d := z_GCrossing) (ltN c56)) rfl rfl ?_; intro wd67 HS
         refine GO.nil ?_
         refine G.len (t := 12) (m := ((([] : List GCrossing) ++ t_Crossings).set t51.toNat (⟨t59, t60, t61, t62, t63⟩ : GCrossing)).length) rfl (by simp only [List.length_set] <;> rfl) ?_
         refine G.seq ?_
         obtain ⟨t68, t69, h70, H⟩ := bind2_elim H
         refine G.region ?_
         refine GO.ldBoxA (j := 3) ([.slice A_t_Crossings t_Crossings.length c_t_Crossings, .int .i64 t_Circles]) HS rfl rfl rfl rfl ag28 rfl ?_
         refine GO.move rfl rfl rfl ?_
         refine GO.fn rfl Try.func42 fok42.1 fok42.2 rfl rfl (spec_l25Place.calls HS (RdIn.drop 4 h_t_Crossings) h70) (fun _ wd71 ⟨h72, HS⟩ => ⟨_, h72, ?_⟩)
         refine GO.move rfl rfl rfl ?_
         refine GO.extract rfl rfl rfl rfl ?_
         refine GO.extract rfl rfl rfl rfl ?_
         refine GO.assign rfl rfl rfl ?_
         refine GO.assign rfl rfl rfl ?_
         refine GO.nil ?_
         refine G.seq ?_
         obtain ⟨c73, H⟩ := ite_none H
         obtain ⟨e74, h75, H⟩ := bnd_elim H
         obtain ⟨t76, t77, t78, t79, t80, h81, H⟩ := bind5_elim H
         refine G.region ?_
         refine GO.move rfl rfl rfl ?_
         refine GO.move rfl rfl rfl ?_
         refine GO.move rfl rfl rfl ?_
         refine GO.move rfl rfl rfl ?_
         refine GO.ix rfl rfl rfl Try.underlying26 sz58 ((RdIn.own (j := 0) rfl) _ HS).2.2.1 c73.1 c73.2 rfl ?_
         refine GO.ldRdA (T := T_GCrossing) (n := t68.toNat) HS (RdIn.own (j := 0) rfl) rfl rfl (getD_eq (ltN c73) h75) ag58 rfl ?_
         refine GO.move rfl rfl rfl ?_
         refine GO.move rfl rfl rfl ?_
         refine GO.add rfl rfl rfl rfl ?_
         refine GO.fn rfl Try.func43 fok43.1 fok43.2 rfl rfl (spec_l25With.calls HS  h81) (fun _ wd82 ⟨h83, HS⟩ => ⟨_, h83, ?_⟩)
         refine GO.ix rfl rfl rfl Try.underlying26 sz58 ((RdIn.own (j := 0) rfl) _ HS).2.2.1 c73.1 c73.2 rfl ?_
         refine GO.stRow (T := T_GCrossing) (j := 0) (n := t68.toNat) (o := 0) (vs := [.int .i64 t76, .int .i64 t77, .int .i64 t78, .int .i64 t79, .int .i64 t80]) (⟨t76, t77, t78, t79, t80⟩ : GCrossing) HS rfl flat_flat rfl rfl rfl rfl (htA ag58) rfl (getD_some (d := z_GCrossing) (ltN c73)) rfl rfl ?_; intro wd84 HS
         refine GO.nil ?_
         refine G.len (t := 12) (m := (((([] : List GCrossing) ++ t_Crossings).set t51.toNat (⟨t59, t60, t61, t62, t63⟩ : GCrossing)).set t68.toNat (⟨t76, t77, t78, t79, t80⟩ : GCrossing)).length) rfl (by simp only [List.length_set] <;> rfl) ?_
         refine G.seq ?_
         refine G.region ?_
         refine GO.assign rfl rfl rfl ?_
         refine GO.nil ?_
         refine G.seq ?_
         refine G.seq ?_
         refine G.region ?_
         refine GO.move rfl rfl rfl ?_
         refine GO.rem rfl rfl rfl (by decide) rfl ?_
         refine GO.eql rfl rfl rfl rfl ?_
         refine GO.nil ?_
         refine G.nameT (fun k_j1 hk_j1 => ?_)
         have at_j1 : ∀ m_j1, m_j1 ≤ K → ∀ (x86 : Int) (w : World), spec_AddBigon.j1 K m_j1 t_Crossings t_Circles o A t51 t59 t60 t61 t62 t63 t68 t76 t77 t78 t79 t80 x86 = some (r1, r2, r3) → St w0 w (Box b1 28 [.slice A_t_Crossings t_Crossings.length c_t_Crossings, .int .i64 t_Circles] :: Box b3 28 [.slice none 0 0, .int .i64 0] :: Own T_GCrossing 58 A48 c49 (fun _ => ()) (((([] : List GCrossing) ++ t_Crossings).set t51.toNat (⟨t59, t60, t61, t62, t63⟩ : GCrossing)).set t68.toNat (⟨t76, t77, t78, t79, t80⟩ : GCrossing)) :: L) → G Try.prog 21 159 [(1, .int .i64 o), (2, .int .i64 A), (3, .pointer (some ⟨b1, 0, none⟩)), (6, .pointer (some ⟨b3, 0, none⟩)), (8, .int .i64 (w64 (2 * (t_Crossings.length : Int)))), (10, .int .i64 (w64 (o.tdiv 2))), (11, .int .i64 (w64 (A.tdiv 2))), (12, .slice A48 (((([] : List GCrossing) ++ t_Crossings).set t51.toNat (⟨t59, t60, t61, t62, t63⟩ : GCrossing)).set t68.toNat (⟨t76, t77, t78, t79, t80⟩ : GCrossing)).length c49), (17, .int .i64 x86)] k_j1 w (spec_AddBigon.post w0 L t_Crossings t_Circles o A A_t_Crossings c_t_Crossings r1 r2 r3) := by
          intro m_j1 hm_j1 x86 w H HS
          cases m_j1 with
          | zero => rw [spec_AddBigon.j1] at H; cases H
          | succ n_j1 =>
           rw [spec_AddBigon.j1] at H
           subst hk_j1
           refine G.seq ?_
           obtain ⟨t87, t88, t89, t90, t91, h92, H⟩ := bind5_elim H
           refine G.region ?_
           refine GO.move rfl rfl rfl ?_
           refine GO.move rfl rfl rfl ?_
           refine GO.add rfl rfl rfl rfl ?_
           refine GO.move rfl rfl rfl ?_
           refine GO.move rfl rfl rfl ?_
           refine GO.move rfl rfl rfl ?_
           refine GO.fn rfl Try.func60 fok60.1 fok60.2 rfl rfl (spec_l27Upper.calls HS  h92) (fun _ wd93 ⟨h94, HS⟩ => ⟨_, h94, ?_⟩)
           refine GO.alloc HS rfl zr58 rfl rfl ?_; intro b95 wd96 HS
           refine GO.stBox (j := 0) (vs := [.int .i64 t87, .int .i64 t88, .int .i64 t89, .int .i64 t90, .int .i64 t91]) ([.int .i64 t87, .int .i64 t88, .int .i64 t89, .int .i64 t90, .int .i64 t91]) HS rfl rfl rfl rfl rfl (htA ag58) rfl rfl rfl ?_; intro wd97 HS
           refine GO.nil ?_
           refine G.seq ?_
           obtain ⟨t98, t99, t100, t101, t102, h103, H⟩ := bind5_elim H
           refine G.region ?_
           refine GO.move rfl rfl rfl ?_
           refine GO.add rfl rfl rfl rfl ?_
           refine GO.move rfl rfl rfl ?_
           refine GO.add rfl rfl rfl rfl ?_
           refine GO.move rfl rfl rfl ?_
           refine GO.move rfl rfl rfl ?_
           refine GO.add rfl rfl rfl rfl ?_
           refine GO.move rfl rfl rfl ?_
           refine GO.neg rfl rfl rfl ?_
           refine GO.fn rfl Try.func60 fok60.1 fok60.2 rfl rfl (spec_l27Upper.calls HS  h103) (fun _ wd104 ⟨h105, HS⟩ => ⟨_, h105, ?_⟩)
           refine GO.alloc HS rfl zr58 rfl rfl ?_; intro b106 wd107 HS
           refine GO.stBox (j := 0) (vs := [.int .i64 t98, .int .i64 t99, .int .i64 t100, .int .i64 t101, .int .i64 t102]) ([.int .i64 t98, .int .i64 t99, .int .i64 t100, .int .i64 t101, .int .i64 t102]) HS rfl rfl rfl rfl rfl (htA ag58) rfl rfl rfl ?_; intro wd108 HS
           refine GO.nil ?_
           refine G.seq ?_
           refine G.seq ?_
           refine G.region ?_
           refine GO.move rfl rfl rfl ?_
           refine GO.rem rfl rfl rfl (by decide) rfl ?_
           refine GO.move rfl rfl rfl ?_
           refine GO.rem rfl rfl rfl (by decide) rfl ?_
           refine GO.eql rfl rfl rfl rfl ?_
           refine GO.nil ?_
           refine G.nameT (fun k_j2 hk_j2 => ?_)
           have at_j2 : ∀ m_j2, m_j2 ≤ n_j1 → ∀ (x128 : Int) (x129 : Int) (x130 : Int) (x131 : Int) (x132 : Int) (x133 : Int) (x134 : Int) (x135 : Int) (x136 : Int) (x137 : Int) (w : World), spec_AddBigon.j2 K m_j2 t_Crossings t_Circles t51 t59 t60 t61 t62 t63 t68 t76 t77 t78 t79 t80 x128 x129 x130 x131 x132 x133 x134 x135 x136 x137 = some (r1, r2, r3) → St w0 w (Box b1 28 [.slice A_t_Crossings t_Crossings.length c_t_Crossings, .int .i64 t_Circles] :: Box b3 28 [.slice none 0 0, .int .i64 0] :: Own T_GCrossing 58 A48 c49 (fun _ => ()) (((([] : List GCrossing) ++ t_Crossings).set t51.toNat (⟨t59, t60, t61, t62, t63⟩ : GCrossing)).set t68.toNat (⟨t76, t77, t78, t79, t80⟩ : GCrossing)) :: Box b95 58 [.int .i64 x128, .int .i64 x129, .int .i64 x130, .int .i64 x131, .int .i64 x132] :: Box b106 58 [.int .i64 x133, .int .i64 x134, .int .i64 x135, .int .i64 x136, .int .i64 x137] :: L) → G Try.prog 21 159 [(3, .pointer (some ⟨b1, 0, none⟩)), (6, .pointer (some ⟨b3, 0, none⟩)), (12, .slice A48 (((([] : List GCrossing) ++ t_Crossings).set t51.toNat (⟨t59, t60, t61, t62, t63⟩ : GCrossing)).set t68.toNat (⟨t76, t77, t78, t79, t80⟩ : GCrossing)).length c49), (18, .pointer (some ⟨b95, 0, none⟩)), (19, .pointer (some ⟨b106, 0, none⟩))] k_j2 w (spec_AddBigon.post w0 L t_Crossings t_Circles o A A_t_Crossings c_t_Crossings r1 r2 r3) := by
            intro m_j2 hm_j2 x128 x129 x130 x131 x132 x133 x134 x135 x136 x137 w H HS
            cases m_j2 with
            | zero => rw [spec_AddBigon.j2] at H; cases H
            | succ n_j2 =>
             rw [spec_AddBigon.j2] at H
             subst hk_j2
             refine G.seq ?_
             obtain ⟨c143, H⟩ := ite_none H
             refine G.regionAny mixed (by decide) (fun b a w => ∃ (Y33_0 : Value) (Y34_1 : Value) (Y35_2 : Value) (Y36_3 : Value) (Y37_4 : Value) (Y38_5 : Value) (Y39_6 : Value) (Y40_7 : Value) (Y41_9 : Value) (b138 : Nat) (A141 : Option Addr) (c142 : Nat) (O43_13 : HObj) (O44_14 : HObj) (O42_17 : HObj), Sat 159 [(7, Y41_9), (151, Y33_0), (152, Y34_1), (153, Y35_2), (154, Y36_3), (155, Y37_4), (156, Y38_5), (157, Y39_6), (158, Y40_7), (3, .pointer (some ⟨b1, 0, none⟩)), (6, .pointer (some ⟨b3, 0, none⟩)), (12, .slice A48 (((([] : List GCrossing) ++ t_Crossings).set t51.toNat (⟨t59, t60, t61, t62, t63⟩ : GCrossing)).set t68.toNat (⟨t76, t77, t78, t79, t80⟩ : GCrossing)).length c49), (18, .pointer (some ⟨b95, 0, none⟩)), (19, .pointer (some ⟨b106, 0, none⟩))] a ∧ St w0 w (Box b1 28 [.slice A_t_Crossings t_Crossings.length c_t_Crossings, .int .i64 t_Circles] :: O43_13 :: O44_14 :: Box b95 58 [.int .i64 x128, .int .i64 x129, .int .i64 x130, .int .i64 x131, .int .i64 x132] :: Box b106 58 [.int .i64 x133, .int .i64 x134, .int .i64 x135, .int .i64 x136, .int .i64 x137] :: O42_17 :: L) ∧ (b 9 = true → Y41_9 = (.int .i64 0)) ∧ (b 0 = true → Y33_0 = (.slice A48 (((([] : List GCrossing) ++ t_Crossings).set t51.toNat (⟨t59, t60, t61, t62, t63⟩ : GCrossing)).set t68.toNat (⟨t76, t77, t78, t79, t80⟩ : GCrossing)).length c49)) ∧ (b 1 = true → Y34_1 = (.agg [.int .i64 x128, .int .i64 x129, .int .i64 x130, .int .i64 x131, .int .i64 x132].toArray)) ∧ (b 2 = true → Y35_2 = (.agg [.int .i64 x133, .int .i64 x134, .int .i64 x135, .int .i64 x136, .int .i64 x137].toArray)) ∧ (b 3 = true → Y36_3 = (.slice (some ⟨b138, 0, none⟩) 2 2)) ∧ (b 4 = true → Y37_4 = (.slice A141 ((((([] : List GCrossing) ++ t_Crossings).set t51.toNat (⟨t59, t60, t61, t62, t63⟩ : GCrossing)).set t68.toNat (⟨t76, t77, t78, t79, t80⟩ : GCrossing)) ++ ([(⟨x128, x129, x130, x131, x132⟩ : GCrossing), (⟨x133, x134, x135, x136, x137⟩ : GCrossing)] : List GCrossing)).length c142)) ∧ (b 5 = true → Y38_5 = (.pointer (some ⟨b1, 1, none⟩))) ∧ (b 6 = true → Y39_6 = (.int .i64 t_Circles)) ∧ (b 7 = true → Y40_7 = (.agg [.slice A141 ((((([] : List GCrossing) ++ t_Crossings).set t51.toNat (⟨t59, t60, t61, t62, t63⟩ : GCrossing)).set t68.toNat (⟨t76, t77, t78, t79, t80⟩ : GCrossing)) ++ ([(⟨x128, x129, x130, x131, x132⟩ : GCrossing), (⟨x133, x134, x135, x136, x137⟩ : GCrossing)] : List GCrossing)).length c142, .int .i64 t_Circles].toArray)) ∧ (b 8 = false → O43_13 = Box b3 28 [.slice none 0 0, .int .i64 0]) ∧ (b 8 = true → O43_13 = Box b3 28 [.slice A141 ((((([] : List GCrossing) ++ t_Crossings).set t51.toNat (⟨t59, t60, t61, t62, t63⟩ : GCrossing)).set t68.toNat (⟨t76, t77, t78, t79, t80⟩ : GCrossing)) ++ ([(⟨x128, x129, x130, x131, x132⟩ : GCrossing), (⟨x133, x134, x135, x136, x137⟩ : GCrossing)] : List GCrossing)).length c142, .int .i64 t_Circles]) ∧ (b 4 = false → O44_14 = Own T_GCrossing 58 A48 c49 (fun _ => ()) (((([] : List GCrossing) ++ t_Crossings).set t51.toNat (⟨t59, t60, t61, t62, t63⟩ : GCrossing)).set t68.toNat (⟨t76, t77, t78, t79, t80⟩ : GCrossing))) ∧ (b 4 = true → O44_14 = Own T_GCrossing 58 A141 c142 (fun _ => ()) ((((([] : List GCrossing) ++ t_Crossings).set t51.toNat (⟨t59, t60, t61, t62, t63⟩ : GCrossing)).set t68.toNat (⟨t76, t77, t78, t79, t80⟩ : GCrossing)) ++ ([(⟨x128, x129, x130, x131, x132⟩ : GCrossing), (⟨x133, x134, x135, x136, x137⟩ : GCrossing)] : List GCrossing))) ∧ (b 3 = true → b 4 = false → O42_17 = Box b138 58 [.int .i64 x128, .int .i64 x129, .int .i64 x130, .int .i64 x131, .int .i64 x132, .int .i64 x133, .int .i64 x134, .int .i64 x135, .int .i64 x136, .int .i64 x137]) ∧ (b 4 = true → O42_17 = Own T_GCrossing 58 (some ⟨b138, 0, none⟩) (([(⟨x128, x129, x130, x131, x132⟩ : GCrossing), (⟨x133, x134, x135, x136, x137⟩ : GCrossing)] : List GCrossing).length) (fun _ => ()) ([(⟨x128, x129, x130, x131, x132⟩ : GCrossing), (⟨x133, x134, x135, x136, x137⟩ : GCrossing)] : List GCrossing))) ?_ ?_ ?_
             ·
              intro a hs
              obtain ⟨Y41_9, hs⟩ := hs.ext (d := 7) rfl
              obtain ⟨Y33_0, hs⟩ := hs.ext (d := 151) rfl
              obtain ⟨Y34_1, hs⟩ := hs.ext (d := 152) rfl
              obtain ⟨Y35_2, hs⟩ := hs.ext (d := 153) rfl
              obtain ⟨Y36_3, hs⟩ := hs.ext (d := 154) rfl
              obtain ⟨Y37_4, hs⟩ := hs.ext (d := 155) rfl
              obtain ⟨Y38_5, hs⟩ := hs.ext (d := 156) rfl
              obtain ⟨Y39_6, hs⟩ := hs.ext (d := 157) rfl
              obtain ⟨Y40_7, hs⟩ := hs.ext (d := 158) rfl
              exact ⟨Y33_0, Y34_1, Y35_2, Y36_3, Y37_4, Y38_5, Y39_6, Y40_7, Y41_9, 0, none, 0, Box b3 28 [.slice none 0 0, .int .i64 0], Own T_GCrossing 58 A48 c49 (fun _ => ()) (((([] : List GCrossing) ++ t_Crossings).set t51.toNat (⟨t59, t60, t61, t62, t63⟩ : GCrossing)).set t68.toNat (⟨t76, t77, t78, t79, t80⟩ : GCrossing)), Emp, hs.weak ⟨rfl, rfl, rfl, rfl, rfl, rfl, rfl, rfl, rfl, rfl, rfl, rfl, rfl, rfl, trivial⟩, (HS.drew.emp.pick 6 [1, 2, 3, 4, 5, 0]), fun h => Bool.noConfusion h, fun h => Bool.noConfusion h, fun h => Bool.noConfusion h, fun h => Bool.noConfusion h, fun h => Bool.noConfusion h, fun h => Bool.noConfusion h, fun h => Bool.noConfusion h, fun h => Bool.noConfusion h, fun h => Bool.noConfusion h, fun _ => rfl, fun h => Bool.noConfusion h, fun _ => rfl, fun h => Bool.noConfusion h, fun h => Bool.noConfusion h, fun h => Bool.noConfusion h⟩
             ·
              intro j hj b a w
              refine exI fun Y33_0 => exI fun Y34_1 => exI fun Y35_2 => exI fun Y36_3 => exI fun Y37_4 => exI fun Y38_5 => exI fun Y39_6 => exI fun Y40_7 => exI fun Y41_9 => exI fun b138 => exI fun A141 => exI fun c142 => exI fun O43_13 => exI fun O44_14 => exI fun O42_17 => anI fun hs => anI fun HS => anI fun f9 => anI fun f0 => anI fun f1 => anI fun f2 => anI fun f3 => anI fun f4 => anI fun f5 => anI fun f6 => anI fun f7 => anI fun o13_0 => anI fun o13_1 => anI fun o14_0 => anI fun o14_1 => anI fun o17_0 => fun o17_1 hb hd hcl => ?_
              match j, hj with
              | 0, _ =>
               refine GO.at hs ?_
               refine GO.move rfl rfl rfl ?_
               refine GO.fin (fun a hs => ?_)
               exact ⟨(.slice A48 (((([] : List GCrossing) ++ t_Crossings).set t51.toNat (⟨t59, t60, t61, t62, t63⟩ : GCrossing)).set t68.toNat (⟨t76, t77, t78, t79, t80⟩ : GCrossing)).length c49), _, _, _, _, _, _, _, _, b138, A141, c142, _, _, _, hs.weak ⟨rfl, rfl, rfl, rfl, rfl, rfl, rfl, rfl, rfl, rfl, rfl, rfl, rfl, rfl, trivial⟩, HS.pick 6 [0, 1, 2, 3, 4, 5], f9, fun _ => rfl, f1, f2, f3, f4, f5, f6, f7, o13_0, o13_1, o14_0, o14_1, o17_0, o17_1⟩
              | 1, _ =>
               refine GO.at hs ?_
               refine GO.ldBoxA (j := 3) ([.int .i64 x128, .int .i64 x129, .int .i64 x130, .int .i64 x131, .int .i64 x132]) HS rfl rfl rfl rfl ag58 rfl ?_
               refine GO.fin (fun a hs => ?_)
               exact ⟨_, (.agg [.int .i64 x128, .int .i64 x129, .int .i64 x130, .int .i64 x131, .int .i64 x132].toArray), _, _, _, _, _, _, _, b138, A141, c142, _, _, _, hs.weak ⟨rfl, rfl, rfl, rfl, rfl, rfl, rfl, rfl, rfl, rfl, rfl, rfl, rfl, rfl, trivial⟩, HS.pick 6 [0, 1, 2, 3, 4, 5], f9, f0, fun _ => rfl, f2, f3, f4, f5, f6, f7, o13_0, o13_1, o14_0, o14_1, o17_0, o17_1⟩
              | 2, _ =>
               refine GO.at hs ?_
               refine GO.ldBoxA (j := 4) ([.int .i64 x133, .int .i64 x134, .int .i64 x135, .int .i64 x136, .int .i64 x137]) HS rfl rfl rfl rfl ag58 rfl ?_
               refine GO.fin (fun a hs => ?_)
               exact ⟨_, _, (.agg [.int .i64 x133, .int .i64 x134, .int .i64 x135, .int .i64 x136, .int .i64 x137].toArray), _, _, _, _, _, _, b138, A141, c142, _, _, _, hs.weak ⟨rfl, rfl, rfl, rfl, rfl, rfl, rfl, rfl, rfl, rfl, rfl, rfl, rfl, rfl, trivial⟩, HS.pick 6 [0, 1, 2, 3, 4, 5], f9, f0, f1, fun _ => rfl, f3, f4, f5, f6, f7, o13_0, o13_1, o14_0, o14_1, o17_0, o17_1⟩
              | 3, _ =>
               have h1 : b 1 = true := hd 1 (by decide)
               obtain rfl := f1 h1
               have h2 : b 2 = true := hd 2 (by decide)
               obtain rfl := f2 h2
               refine GO.at hs ?_
               refine GO.buildS (el := 58) ([.int .i64 x128, .int .i64 x129, .int .i64 x130, .int .i64 x131, .int .i64 x132, .int .i64 x133, .int .i64 x134, .int .i64 x135, .int .i64 x136, .int .i64 x137]) HS rfl rfl (fun _ => by kernel_rfl) rfl ?_; intro b138 wd139 HS
               refine GO.fin (fun a hs => ?_)
               exact ⟨_, _, _, (.slice (some ⟨b138, 0, none⟩) 2 2), _, _, _, _, _, b138, A141, c142, _, _, Box b138 58 [.int .i64 x128, .int .i64 x129, .int .i64 x130, .int .i64 x131, .int .i64 x132, .int .i64 x133, .int .i64 x134, .int .i64 x135, .int .i64 x136, .int .i64 x137], hs.weak ⟨rfl, rfl, rfl, rfl, rfl, rfl, rfl, rfl, rfl, rfl, rfl, rfl, rfl, rfl, trivial⟩, HS.pick 7 [1, 2, 3, 4, 5, 0], f9, f0, f1, f2, fun _ => rfl, f4, f5, f6, f7, o13_0, o13_1, o14_0, o14_1, fun _ _ => rfl, fun hh => (Bool.noConfusion ((hcl 4 (by decide) hh 3 (by decide)).symm.trans hb))⟩
              | 4, _ =>
               have h0 : b 0 = true := hd 0 (by decide)
               obtain rfl := f0 h0
               have h3 : b 3 = true := hd 3 (by decide)
               obtain rfl := f3 h3
               obtain rfl := o17_0 h3 hb
               obtain rfl := o14_0 hb
               refine GO.at hs ?_
               replace HS := HS.boxRow (T := T_GCrossing) (j := 5) rfl flat_flat (fun _ => ()) ([(⟨x128, x129, x130, x131, x132⟩ : GCrossing), (⟨x133, x134, x135, x136, x137⟩ : GCrossing)] : List GCrossing) rfl (bndL rfl)
               refine GO.lenC (t := 154) (m := ([(⟨x128, x129, x130, x131, x132⟩ : GCrossing), (⟨x133, x134, x135, x136, x137⟩ : GCrossing)] : List GCrossing).length) (c' := ([(⟨x128, x129, x130, x131, x132⟩ : GCrossing), (⟨x133, x134, x135, x136, x137⟩ : GCrossing)] : List GCrossing).length) rfl rfl rfl ?_
               refine GO.appS (T := T_GCrossing) (j := 2) HS rfl (RdIn.own (j := 5) rfl) flat_flat rfl rfl rfl Try.underlying26 inf58 rfl rfl rfl c143 rfl (fun _ => rfl) ?_; intro A141 c142 wd140 HS
               refine GO.fin (fun a hs => ?_)
               exact ⟨_, _, _, _, (.slice A141 ((((([] : List GCrossing) ++ t_Crossings).set t51.toNat (⟨t59, t60, t61, t62, t63⟩ : GCrossing)).set t68.toNat (⟨t76, t77, t78, t79, t80⟩ : GCrossing)) ++ ([(⟨x128, x129, x130, x131, x132⟩ : GCrossing), (⟨x133, x134, x135, x136, x137⟩ : GCrossing)] : List GCrossing)).length c142), _, _, _, _, b138, A141, c142, _, Own T_GCrossing 58 A141 c142 (fun _ => ()) ((((([] : List GCrossing) ++ t_Crossings).set t51.toNat (⟨t59, t60, t61, t62, t63⟩ : GCrossing)).set t68.toNat (⟨t76, t77, t78, t79, t80⟩ : GCrossing)) ++ ([(⟨x128, x129, x130, x131, x132⟩ : GCrossing), (⟨x133, x134, x135, x136, x137⟩ : GCrossing)] : List GCrossing)), Own T_GCrossing 58 (some ⟨b138, 0, none⟩) (([(⟨x128, x129, x130, x131, x132⟩ : GCrossing), (⟨x133, x134, x135, x136, x137⟩ : GCrossing)] : List GCrossing).length) (fun _ => ()) ([(⟨x128, x129, x130, x131, x132⟩ : GCrossing), (⟨x133, x134, x135, x136, x137⟩ : GCrossing)] : List GCrossing), hs.weak ⟨rfl, rfl, rfl, rfl, rfl, rfl, rfl, rfl, rfl, rfl, rfl, rfl, rfl, rfl, trivial⟩, HS.pick 6 [0, 1, 2, 3, 4, 5], f9, f0, f1, f2, f3, fun _ => rfl, f5, f6, fun hh => (Bool.noConfusion ((hcl 7 (by decide) hh 4 (by decide)).symm.trans hb)), o13_0, fun hh => (Bool.noConfusion ((hcl 8 (by decide) hh 4 (by decide)).symm.trans hb)), fun h => Bool.noConfusion h, fun _ => rfl, fun _ h => Bool.noConfusion h, fun _ => rfl⟩
              | 5, _ =>
               refine GO.at hs ?_
               refine GO.fld (⟨b1, 1, none⟩) rfl rfl fl28_1 rfl rfl ?_
               refine GO.fin (fun a hs => ?_)
               exact ⟨_, _, _, _, _, (.pointer (some ⟨b1, 1, none⟩)), _, _, _, b138, A141, c142, _, _, _, hs.weak ⟨rfl, rfl, rfl, rfl, rfl, rfl, rfl, rfl, rfl, rfl, rfl, rfl, rfl, rfl, trivial⟩, HS.pick 6 [0, 1, 2, 3, 4, 5], f9, f0, f1, f2, f3, f4, fun _ => rfl, f6, f7, o13_0, o13_1, o14_0, o14_1, o17_0, o17_1⟩
              | 6, _ =>
               have h5 : b 5 = true := hd 5 (by decide)
               obtain rfl := f5 h5
               refine GO.at hs ?_
               refine GO.ldBox (j := 0) HS rfl rfl rfl rfl na2 rfl ?_
               refine GO.fin (fun a hs => ?_)
               exact ⟨_, _, _, _, _, _, (.int .i64 t_Circles), _, _, b138, A141, c142, _, _, _, hs.weak ⟨rfl, rfl, rfl, rfl, rfl, rfl, rfl, rfl, rfl, rfl, rfl, rfl, rfl, rfl, trivial⟩, HS.pick 6 [0, 1, 2, 3, 4, 5], f9, f0, f1, f2, f3, f4, f5, fun _ => rfl, f7, o13_0, o13_1, o14_0, o14_1, o17_0, o17_1⟩
              | 7, _ =>
               have h4 : b 4 = true := hd 4 (by decide)
               obtain rfl := f4 h4
               have h6 : b 6 = true := hd 6 (by decide)
               obtain rfl := f6 h6
               refine GO.at hs ?_
               refine GO.buildV (.agg [.slice A141 ((((([] : List GCrossing) ++ t_Crossings).set t51.toNat (⟨t59, t60, t61, t62, t63⟩ : GCrossing)).set t68.toNat (⟨t76, t77, t78, t79, t80⟩ : GCrossing)) ++ ([(⟨x128, x129, x130, x131, x132⟩ : GCrossing), (⟨x133, x134, x135, x136, x137⟩ : GCrossing)] : List GCrossing)).length c142, .int .i64 t_Circles].toArray) rfl rfl (fun _ => by kernel_rfl) rfl ?_
               refine GO.fin (fun a hs => ?_)
               exact ⟨_, _, _, _, _, _, _, (.agg [.slice A141 ((((([] : List GCrossing) ++ t_Crossings).set t51.toNat (⟨t59, t60, t61, t62, t63⟩ : GCrossing)).set t68.toNat (⟨t76, t77, t78, t79, t80⟩ : GCrossing)) ++ ([(⟨x128, x129, x130, x131, x132⟩ : GCrossing), (⟨x133, x134, x135, x136, x137⟩ : GCrossing)] : List GCrossing)).length c142, .int .i64 t_Circles].toArray), _, b138, A141, c142, _, _, _, hs.weak ⟨rfl, rfl, rfl, rfl, rfl, rfl, rfl, rfl, rfl, rfl, rfl, rfl, rfl, rfl, trivial⟩, HS.pick 6 [0, 1, 2, 3, 4, 5], f9, f0, f1, f2, f3, f4, f5, f6, fun _ => rfl, o13_0, o13_1, o14_0, o14_1, o17_0, o17_1⟩
              | 8, _ =>
               have h7 : b 7 = true := hd 7 (by decide)
               obtain rfl := f7 h7
               obtain rfl := o13_0 hb
               refine GO.at hs ?_
               refine GO.stBox (j := 1) (vs := [.slice A141 ((((([] : List GCrossing) ++ t_Crossings).set t51.toNat (⟨t59, t60, t61, t62, t63⟩ : GCrossing)).set t68.toNat (⟨t76, t77, t78, t79, t80⟩ : GCrossing)) ++ ([(⟨x128, x129, x130, x131, x132⟩ : GCrossing), (⟨x133, x134, x135, x136, x137⟩ : GCrossing)] : List GCrossing)).length c142, .int .i64 t_Circles]) ([.slice A141 ((((([] : List GCrossing) ++ t_Crossings).set t51.toNat (⟨t59, t60, t61, t62, t63⟩ : GCrossing)).set t68.toNat (⟨t76, t77, t78, t79, t80⟩ : GCrossing)) ++ ([(⟨x128, x129, x130, x131, x132⟩ : GCrossing), (⟨x133, x134, x135, x136, x137⟩ : GCrossing)] : List GCrossing)).length c142, .int .i64 t_Circles]) HS rfl rfl rfl rfl rfl (htA ag28) rfl rfl rfl ?_; intro wd144 HS
               refine GO.fin (fun a hs => ?_)
               exact ⟨_, _, _, _, _, _, _, _, _, b138, A141, c142, Box b3 28 [.slice A141 ((((([] : List GCrossing) ++ t_Crossings).set t51.toNat (⟨t59, t60, t61, t62, t63⟩ : GCrossing)).set t68.toNat (⟨t76, t77, t78, t79, t80⟩ : GCrossing)) ++ ([(⟨x128, x129, x130, x131, x132⟩ : GCrossing), (⟨x133, x134, x135, x136, x137⟩ : GCrossing)] : List GCrossing)).length c142, .int .i64 t_Circles], _, _, hs.weak ⟨rfl, rfl, rfl, rfl, rfl, rfl, rfl, rfl, rfl, rfl, rfl, rfl, rfl, rfl, trivial⟩, HS.pick 6 [0, 1, 2, 3, 4, 5], f9, f0, f1, f2, f3, f4, f5, f6, f7, fun h => Bool.noConfusion h, fun _ => rfl, o14_0, o14_1, o17_0, o17_1⟩
              | 9, _ =>
               refine GO.at hs ?_
               refine GO.assign rfl rfl rfl ?_
               refine GO.fin (fun a hs => ?_)
               exact ⟨_, _, _, _, _, _, _, _, (.int .i64 0), b138, A141, c142, _, _, _, hs.weak ⟨rfl, rfl, rfl, rfl, rfl, rfl, rfl, rfl, rfl, rfl, rfl, rfl, rfl, rfl, trivial⟩, HS.pick 6 [0, 1, 2, 3, 4, 5], fun _ => rfl, f0, f1, f2, f3, f4, f5, f6, f7, o13_0, o13_1, o14_0, o14_1, o17_0, o17_1⟩
              | k + 10, hj => exact absurd hj (Nat.not_lt.2 (Nat.le_add_left 10 k))
             ·
              intro b a w hall
              refine exI fun Y33_0 => exI fun Y34_1 => exI fun Y35_2 => exI fun Y36_3 => exI fun Y37_4 => exI fun Y38_5 => exI fun Y39_6 => exI fun Y40_7 => exI fun Y41_9 => exI fun b138 => exI fun A141 => exI fun c142 => exI fun O43_13 => exI fun O44_14 => exI fun O42_17 => anI fun hs => anI fun HS => anI fun f9 => anI fun f0 => anI fun f1 => anI fun f2 => anI fun f3 => anI fun f4 => anI fun f5 => anI fun f6 => anI fun f7 => anI fun o13_0 => anI fun o13_1 => anI fun o14_0 => anI fun o14_1 => anI fun o17_0 => fun o17_1 => ?_
              obtain rfl := f9 (hall 9 (by decide))
              obtain rfl := f0 (hall 0 (by decide))
              obtain rfl := f1 (hall 1 (by decide))
              obtain rfl := f2 (hall 2 (by decide))
              obtain rfl := f3 (hall 3 (by decide))
              obtain rfl := f4 (hall 4 (by decide))
              obtain rfl := f5 (hall 5 (by decide))
              obtain rfl := f6 (hall 6 (by decide))
              obtain rfl := f7 (hall 7 (by decide))
              obtain rfl := o13_1 (hall 8 (by decide))
              obtain rfl := o14_1 (hall 4 (by decide))
              obtain rfl := o17_1 (hall 4 (by decide))
              refine G.at hs ?_
              obtain ⟨rfl, rfl, rfl⟩ := some3 H
              exact G.ret2 _ _ Try.func21 rfl (Res1.boxA (j := 1) (vs := [.slice A141 ((((([] : List GCrossing) ++ t_Crossings).set t51.toNat (⟨t59, t60, t61, t62, t63⟩ : GCrossing)).set t68.toNat (⟨t76, t77, t78, t79, t80⟩ : GCrossing)) ++ ([(⟨x128, x129, x130, x131, x132⟩ : GCrossing), (⟨x133, x134, x135, x136, x137⟩ : GCrossing)] : List GCrossing)).length c142, .int .i64 t_Circles]) HS rfl rfl rfl ag28) rfl ⟨_, _, rfl, (HS.pick 6 [2])⟩
           rcases ite_elim H with ⟨c145, H⟩ | ⟨c145, H⟩
           ·
            refine G.yesB rfl (decide_eq_true c145) ?_
            refine G.seq ?_
            obtain ⟨t146, t147, t148, t149, t150, h151, H⟩ := bind5_elim H
            refine G.region ?_
            refine GO.move rfl rfl rfl ?_
            refine GO.add rfl rfl rfl rfl ?_
            refine GO.move rfl rfl rfl ?_
            refine GO.add rfl rfl rfl rfl ?_
            refine GO.move rfl rfl rfl ?_
            refine GO.move rfl rfl rfl ?_
            refine GO.move rfl rfl rfl ?_
            refine GO.fn rfl Try.func60 fok60.1 fok60.2 rfl rfl (spec_l27Upper.calls HS  h151) (fun _ wd152 ⟨h153, HS⟩ => ⟨_, h153, ?_⟩)
            refine GO.stBox (j := 1) (vs := [.int .i64 t146, .int .i64 t147, .int .i64 t148, .int .i64 t149, .int .i64 t150]) ([.int .i64 t146, .int .i64 t147, .int .i64 t148, .int .i64 t149, .int .i64 t150]) HS rfl rfl rfl rfl rfl (htA ag58) rfl rfl rfl ?_; intro wd154 HS
            refine GO.nil ?_
            obtain ⟨t155, t156, t157, t158, t159, h160, H⟩ := bind5_elim H
            refine G.region ?_
            refine GO.move rfl rfl rfl ?_
            refine GO.move rfl rfl rfl ?_
            refine GO.add rfl rfl rfl rfl ?_
            refine GO.move rfl rfl rfl ?_
            refine GO.move rfl rfl rfl ?_
            refine GO.add rfl rfl rfl rfl ?_
            refine GO.move rfl rfl rfl ?_
            refine GO.neg rfl rfl rfl ?_
            refine GO.fn rfl Try.func60 fok60.1 fok60.2 rfl rfl (spec_l27Upper.calls HS  h160) (fun _ wd161 ⟨h162, HS⟩ => ⟨_, h162, ?_⟩)
            refine GO.stBox (j := 0) (vs := [.int .i64 t155, .int .i64 t156, .int .i64 t157, .int .i64 t158, .int .i64 t159]) ([.int .i64 t155, .int .i64 t156, .int .i64 t157, .int .i64 t158, .int .i64 t159]) HS rfl rfl rfl rfl rfl (htA ag58) rfl rfl rfl ?_; intro wd163 HS
            refine GO.nil ?_
            refine G.weak ?_ (at_j2 n_j1 (Nat.le_refl _) _ _ _ _ _ _ _ _ _ _ _ H (HS.pick 5 [2, 3, 4, 1, 0]))
            exact ⟨rfl, rfl, rfl, rfl, rfl, trivial⟩
           ·
            refine G.noB rfl (decide_eq_false c145) ?_
            refine G.skip ?_
            refine G.weak ?_ (at_j2 n_j1 (Nat.le_refl _) _ _ _ _ _ _ _ _ _ _ _ H (HS.pick 5 [2, 3, 4, 1, 0]))
            exact ⟨rfl, rfl, rfl, rfl, rfl, trivial⟩
         rcases ite_elim H with ⟨c164, H⟩ | ⟨c164, H⟩
         ·
          refine G.yesB rfl (decide_eq_true c164) ?_
          refine G.region ?_
          refine GO.assign rfl rfl rfl ?_
          refine GO.nil ?_
          refine G.weak ?_ (at_j1 K (Nat.le_refl _) _ _ H (HS.pick 4 [3, 2, 0]))
          exact ⟨rfl, rfl, rfl, rfl, rfl, rfl, rfl, rfl, rfl, trivial⟩
         ·
          refine G.noB rfl (decide_eq_false c164) ?_
          refine G.skip ?_
          refine G.weak ?_ (at_j1 K (Nat.le_refl _) _ _ H (HS.pick 4 [3, 2, 0]))
          exact ⟨rfl, rfl, rfl, rfl, rfl, rfl, rfl, rfl, rfl, trivial⟩
       ·
        refine G.yesB rfl (congrArg Bool.not (decide_eq_false c42)) ?_
        refine G.seq ?_
        refine G.region ?_
        refine GO.buildV (.agg [.slice none 0 0, .int .i64 0].toArray) rfl rfl (fun _ => by kernel_rfl) rfl ?_
        refine GO.stBox (j := 1) (vs := [.slice none 0 0, .int .i64 0]) ([.slice none 0 0, .int .i64 0]) HS rfl rfl rfl rfl rfl (htA ag28) rfl rfl rfl ?_; intro wd165 HS
        refine GO.assign rfl rfl rfl ?_
        refine GO.nil ?_
        replace HS := HS.nilRow T_GCrossing 58 (fun _ => ())
        obtain ⟨rfl, rfl, rfl⟩ := some3 H
        exact G.ret2 _ _ Try.func21 rfl (Res1.boxA (j := 2) (vs := [.slice none 0 0, .int .i64 0]) HS rfl rfl rfl ag28) rfl ⟨_, _, rfl, (HS.pick 4 [0])⟩
    ·
     refine G.yesB rfl (congrArg Bool.not (bnot_of c28)) ?_
     refine G.seq ?_
     refine G.region ?_
     refine GO.buildV (.agg [.slice none 0 0, .int .i64 0].toArray) rfl rfl (fun _ => by kernel_rfl) rfl ?_
     refine GO.stBox (j := 0) (vs := [.slice none 0 0, .int .i64 0]) ([.slice none 0 0, .int .i64 0]) HS rfl rfl rfl rfl rfl (htA ag28) rfl rfl rfl ?_; intro wd166 HS
     refine GO.assign rfl rfl rfl ?_
     refine GO.nil ?_
     replace HS := HS.nilRow T_GCrossing 58 (fun _ => ())
     obtain ⟨rfl, rfl, rfl⟩ := some3 H
     exact G.ret2 _ _ Try.func21 rfl (Res1.boxA (j := 1) (vs := [.slice none 0 0, .int .i64 0]) HS rfl rfl rfl ag28) rfl ⟨_, _, rfl, (HS.pick 3 [0])⟩
   ·
    refine G.region ?_
    refine GO.move rfl rfl rfl ?_
    refine GO.move rfl rfl rfl ?_
    refine GO.mul rfl rfl rfl rfl ?_
    refine GO.sub rfl rfl rfl rfl ?_
    refine GO.fn rfl Try.func41 fok41.1 fok41.2 rfl rfl (spec_l01In.calls HS  h20) (fun _ wd21 ⟨h22, HS⟩ => ⟨_, h22, ?_⟩)
    refine GO.not rfl rfl rfl ?_
    refine GO.move rfl rfl rfl ?_
    refine GO.known (t := 34) rfl (congrArg Bool.not (bnot_of c23)) ?_
    refine GO.off rfl rfl rfl rfl rfl rfl ?_
    refine GO.off rfl rfl rfl rfl rfl rfl ?_
    refine GO.off rfl rfl rfl rfl rfl rfl ?_
    refine GO.off rfl rfl rfl rfl rfl rfl ?_
    refine GO.off rfl rfl rfl rfl rfl rfl ?_
    refine GO.off rfl rfl rfl rfl rfl rfl ?_
    refine GO.pickT rfl rfl rfl rfl rfl ?_
    refine GO.nil ?_
    refine G.yesB rfl rfl ?_
    refine G.seq ?_
    refine G.region ?_
    refine GO.buildV (.agg [.slice none 0 0, .int .i64 0].toArray) rfl rfl (fun _ => by kernel_rfl) rfl ?_
    refine GO.stBox (j := 0) (vs := [.slice none 0 0, .int .i64 0]) ([.slice none 0 0, .int .i64 0]) HS rfl rfl rfl rfl rfl (htA ag28) rfl rfl rfl ?_; intro wd167 HS
    refine GO.assign rfl rfl rfl ?_
    refine GO.nil ?_
    replace HS := HS.nilRow T_GCrossing 58 (fun _ => ())
    obtain ⟨rfl, rfl, rfl⟩ := some3 H
    exact G.ret2 _ _ Try.func21 rfl (Res1.boxA (j := 1) (vs := [.slice none 0 0, .int .i64 0]) HS rfl rfl rfl ag28) rfl ⟨_, _, rfl, (HS.pick 3 [0])⟩
  ·
   refine G.yesB rfl (congrArg Bool.not (bnot_of c9)) ?_
   refine G.seq ?_
   refine G.region ?_
   refine GO.buildV (.agg [.slice none 0 0, .int .i64 0].toArray) rfl rfl (fun _ => by kernel_rfl) rfl ?_
   refine GO.stBox (j := 0) (vs := [.slice none 0 0, .int .i64 0]) ([.slice none 0 0, .int .i64 0]) HS rfl rfl rfl rfl rfl (htA ag28) rfl rfl rfl ?_; intro wd168 HS
   refine GO.assign rfl rfl rfl ?_
   refine GO.nil ?_
   replace HS := HS.nilRow T_GCrossing 58 (fun _ => ())
   obtain ⟨rfl, rfl, rfl⟩ := some3 H
   exact G.ret2 _ _ Try.func21 rfl (Res1.boxA (j := 1) (vs := [.slice none 0 0, .int .i64 0]) HS rfl rfl rfl ag28) rfl ⟨_, _, rfl, (HS.pick 3 [0])⟩

set_option maxRecDepth 20000 in
set_option maxHeartbeats 40000000 in
theorem impl_Diagram_sides.calls {w0 w : World} {L : List HObj} {K : Nat} {d_Crossings : List GCrossing} {d_Circles : Int} {a_from : List GEnd} {a_to : List GEnd} {A_d_Crossings : Option Addr} {c_d_Crossings : Nat} {A_a_from : Option Addr} {c_a_from : Nat} {A_a_to : Option Addr} {c_a_to : Nat} {r1 : List Int} (HS : St w0 w (L)) (h_d_Crossings : RdIn w0 L T_GCrossing A_d_Crossings c_d_Crossings (fun _ => ()) d_Crossings) (h_a_from : RdIn w0 L T_GEnd A_a_from c_a_from (fun _ => ()) a_from) (h_a_to : RdIn w0 L T_GEnd A_a_to c_a_to (fun _ => ()) a_to) (H : impl_Diagram_sides.f K d_Crossings d_Circles a_from a_to = some r1) :
    Calls Try.prog 61 #[.agg [.slice A_d_Crossings d_Crossings.length c_d_Crossings, .int .i64 d_Circles].toArray, .agg [.slice A_a_from a_from.length c_a_from, .slice A_a_to a_to.length c_a_to].toArray] w (impl_Diagram_sides.post w0 L d_Crossings d_Circles a_from a_to A_d_Crossings c_d_Crossings A_a_from c_a_from A_a_to c_a_to r1) := by
  unfold impl_Diagram_sides.f at H
  refine Calls.of_G Try.func61 rfl rfl rfl ?_
  refine G.seq ?_
  refine G.region ?_
  refine GO.box (cs := [.slice A_d_Crossings d_Crossings.length c_d_Crossings, .int .i64 d_Circles]) HS rfl rfl rfl rfl ?_; intro b1 wd2 HS
  refine GO.box (cs := [.slice A_a_from a_from.length c_a_from, .slice A_a_to a_to.length c_a_to]) HS rfl rfl rfl rfl ?_; intro b3 wd4 HS
  refine GO.assign rfl rfl rfl ?_
  refine GO.nil ?_
  refine G.seq ?_
  obtain ⟨c5, H⟩ := ite_none H
  obtain ⟨c6, H⟩ := ite_none H
  refine G.region ?_
  refine GO.fld (⟨b3, 1, none⟩) rfl rfl fl63_1 rfl rfl ?_
  refine GO.ldBox (j := 0) HS rfl rfl rfl rfl na61 rfl ?_
  refine GO.lenS rfl rfl Try.underlying61 rfl ?_
  refine GO.mul rfl rfl rfl rfl ?_
  refine GO.make (T := (TInt .i64)) 0 () HS flat_flat rfl rfl rfl Try.underlying43 inf2 rfl rfl rfl c5 c6 rfl ?_; intro b7 wd8 HS
  refine GO.assign rfl rfl rfl ?_
  refine GO.nil ?_
  refine G.seq ?_
  refine G.seq ?_
  obtain ⟨t9, h10, H⟩ := Option.bind_eq_some_iff.1 H
  refine G.region ?_
  refine GO.ldBoxA (j := 2) ([.slice A_d_Crossings d_Crossings.length c_d_Crossings, .int .i64 d_Circles]) HS rfl rfl rfl rfl ag28 rfl ?_
  refine GO.ldBoxA (j := 1) ([.slice A_a_from a_from.length c_a_from, .slice A_a_to a_to.length c_a_to]) HS rfl rfl rfl rfl ag63 rfl ?_
  refine GO.fn rfl Try.func111 fok111.1 fok111.2 rfl rfl (impl_Diagram_regions.calls HS (RdIn.drop 3 h_d_Crossings) (RdIn.drop 3 h_a_from) (RdIn.drop 3 h_a_to) h10) (fun _ wd14 ⟨A11, c12, y13, h15, HS⟩ => ⟨_, h15, ?_⟩)
  refine GO.lenS rfl rfl Try.underlying42 rfl ?_
  refine GO.move rfl rfl rfl ?_
  refine GO.nil ?_
  refine G.block ?_
  refine G.loop ?_
  refine G.name (fun k_l1 hk_l1 => ?_)
  have at_l1 : ∀ m_l1, m_l1 ≤ K → ∀ (out_95 : List Int) (x96 : Int) (w : World), impl_Diagram_sides.l1 K m_l1 d_Crossings t9 out_95 x96 = some r1 → St w0 w (Box b1 28 [.slice A_d_Crossings d_Crossings.length c_d_Crossings, .int .i64 d_Circles] :: Own (TInt .i64) 2 (some ⟨b7, 0, none⟩) ((w64 (2 * (a_to.length : Int))).toNat) (fun _ => ()) out_95 :: Own (Ty.slice 2 (TInt .i64)) 43 A11 c12 y13 t9 :: L) → G Try.prog 61 60 [(2, .pointer (some ⟨b1, 0, none⟩)), (5, .slice (some ⟨b7, 0, none⟩) out_95.length ((w64 (2 * (a_to.length : Int))).toNat)), (20, .slice A11 t9.length c12), (21, .int .i64 (t9.length : Int)), (22, .int .i64 x96)] k_l1 w (impl_Diagram_sides.post w0 L d_Crossings d_Circles a_from a_to A_d_Crossings c_d_Crossings A_a_from c_a_from A_a_to c_a_to r1) := by
   intro m_l1
   induction m_l1 using Nat.strongRecOn with
   | _ m_l1 ih_l1 =>
    intro hm_l1 out_95 x96 w H HS
    cases m_l1 with
    | zero => rw [impl_Diagram_sides.l1] at H; cases H
    | succ n_l1 =>
     rw [impl_Diagram_sides.l1] at H
     subst hk_l1
     refine G.seq ?_
     refine G.region ?_
     refine GO.lss rfl rfl rfl rfl ?_
     refine GO.nil ?_
     refine G.seq ?_
     rcases ite_elim H with ⟨c176, H⟩ | ⟨c176, H⟩
     ·
      refine G.yesB rfl (decide_eq_true c176) ?_
      refine G.skip ?_
      refine G.seq ?_
      refine G.block ?_
      refine G.seq ?_
      obtain ⟨c177, H⟩ := ite_none H
      refine G.region ?_
      refine GO.move rfl rfl rfl ?_
      refine GO.ix rfl rfl rfl Try.underlying42 sz43 ((RdIn.own (j := 2) rfl) _ HS).2.2.1 c177.1 c177.2 rfl ?_
      refine GO.ldRd (T := (Ty.slice 2 (TInt .i64))) (n := x96.toNat) (o := 0) HS (RdIn.own (j := 2) rfl) rfl rfl (getD_some (d := []) (ltN c177)) rfl rfl na43 rfl ?_
      refine GO.assign rfl rfl rfl ?_
      refine GO.assign rfl rfl rfl ?_
      refine GO.nil ?_
      refine G.seq ?_
      refine G.region ?_
      refine GO.move rfl rfl rfl ?_
      refine GO.lenS rfl rfl Try.underlying43 rfl ?_
      refine GO.move rfl rfl rfl ?_
      refine GO.nil ?_
      refine G.block ?_
      refine G.loop ?_
      refine G.name (fun k_l10 hk_l10 => ?_)
      have at_l10 : ∀ m_l10, m_l10 ≤ n_l1 → ∀ (out_203 : List Int) (x204 : Int) (w : World), impl_Diagram_sides.l10 K m_l10 d_Crossings t9 x96 out_203 x204 = some r1 → St w0 w (Box b1 28 [.slice A_d_Crossings d_Crossings.length c_d_Crossings, .int .i64 d_Circles] :: Own (TInt .i64) 2 (some ⟨b7, 0, none⟩) ((w64 (2 * (a_to.length : Int))).toNat) (fun _ => ()) out_203 :: Own (Ty.slice 2 (TInt .i64)) 43 A11 c12 y13 t9 :: L) → G Try.prog 61 60 [(2, .pointer (some ⟨b1, 0, none⟩)), (5, .slice (some ⟨b7, 0, none⟩) out_203.length ((w64 (2 * (a_to.length : Int))).toNat)), (6, .int .i64 x96), (20, .slice A11 t9.length c12), (21, .int .i64 (t9.length : Int)), (22, .int .i64 x96), (27, .slice ((y13 x96.toNat).A) (t9.getD x96.toNat []).length ((y13 x96.toNat).c)), (28, .int .i64 ((t9.getD x96.toNat []).length : Int)), (29, .int .i64 x204)] k_l10 w (impl_Diagram_sides.post w0 L d_Crossings d_Circles a_from a_to A_d_Crossings c_d_Crossings A_a_from c_a_from A_a_to c_a_to r1) := by
       intro m_l10
       induction m_l10 using Nat.strongRecOn with
       | _ m_l10 ih_l10 =>
        intro hm_l10 out_203 x204 w H HS
        cases m_l10 with
        | zero => rw [impl_Diagram_sides.l10] at H; cases H
        | succ n_l10 =>
         rw [impl_Diagram_sides.l10] at H
         subst hk_l10
         refine G.seq ?_
         refine G.region ?_
         refine GO.lss rfl rfl rfl rfl ?_
         refine GO.nil ?_
         refine G.seq ?_
         rcases ite_elim H with ⟨c230, H⟩ | ⟨c230, H⟩
         ·
          refine G.yesB rfl (decide_eq_true c230) ?_
          refine G.skip ?_
          refine G.seq ?_
          refine G.block ?_
          refine G.seq ?_
          obtain ⟨c231, H⟩ := ite_none H
          refine G.region ?_
          refine GO.ix rfl rfl rfl Try.underlying43 sz2 ((RdIn.elem (RdIn.own (j := 2) rfl) c177.1 c177.2) _ HS).2.2.1 c231.1 c231.2 rfl ?_
          refine GO.ldRd (T := (TInt .i64)) (n := x204.toNat) (o := 0) HS (RdIn.elem (RdIn.own (j := 2) rfl) c177.1 c177.2) rfl rfl (getD_some (d := 0) (ltN c231)) rfl rfl na2 rfl ?_
          refine GO.assign rfl rfl rfl ?_
          refine GO.nil ?_
          refine G.seq ?_
          obtain ⟨c232, H⟩ := ite_none H
          obtain ⟨e233, h234, H⟩ := bnd_elim H
          refine G.region ?_
          refine GO.fld (⟨b1, 0, none⟩) rfl rfl fl28_0 rfl rfl ?_
          refine GO.ldBox (j := 0) HS rfl rfl rfl rfl na26 rfl ?_
          refine GO.move rfl rfl rfl ?_
          refine GO.quo rfl rfl rfl (by decide) rfl ?_
          refine GO.ix rfl rfl rfl Try.underlying26 sz58 ((RdIn.drop 3 h_d_Crossings) _ HS).2.2.1 c232.1 c232.2 rfl ?_
          refine GO.ldRdA (T := T_GCrossing) (n := (w64 (((t9.getD x96.toNat []).getD x204.toNat 0).tdiv 4)).toNat) HS (RdIn.drop 3 h_d_Crossings) rfl rfl (getD_eq (ltN c232) h234) ag58 rfl ?_
          refine GO.move rfl rfl rfl ?_
          refine GO.add rfl rfl rfl rfl ?_
          refine GO.rem rfl rfl rfl (by decide) rfl ?_
          refine GO.alloc HS rfl zr58 rfl rfl ?_; intro b235 wd236 HS
          refine GO.stBox (j := 0) (vs := [.int .i64 e233.A, .int .i64 e233.B, .int .i64 e233.C, .int .i64 e233.D, .int .i64 e233.Sign]) ([.int .i64 e233.A, .int .i64 e233.B, .int .i64 e233.C, .int .i64 e233.D, .int .i64 e233.Sign]) HS rfl rfl rfl rfl rfl (htA ag58) rfl rfl rfl ?_; intro wd237 HS
          refine GO.assign rfl rfl rfl ?_
          refine GO.nil ?_
          refine G.seq ?_
          obtain ⟨t238, t239, t240, t241, h242, H⟩ := bind4_elim H
          obtain ⟨c245, H⟩ := ite_none H
          refine G.region ?_
          refine GO.ldBoxA (j := 0) ([.int .i64 e233.A, .int .i64 e233.B, .int .i64 e233.C, .int .i64 e233.D, .int .i64 e233.Sign]) HS rfl rfl rfl rfl ag58 rfl ?_
          refine GO.fn rfl Try.func75 fok75.1 fok75.2 rfl rfl (impl_Crossing_ends.calls HS  h242) (fun _ wd243 ⟨h244, HS⟩ => ⟨_, h244, ?_⟩)
          refine GO.move rfl rfl rfl ?_
          refine GO.ixArr ([t238, t239, t240, t241] : List Int) rfl rfl rfl Try.underlying93 Try.underlying2 sz2 rfl c245.1 c245.2 rfl ?_
          refine GO.mul rfl rfl rfl rfl ?_
          refine GO.assign rfl rfl rfl ?_
          refine GO.nil ?_
          refine G.seq ?_
          refine G.seq ?_
          obtain ⟨t246, h247, H⟩ := Option.bind_eq_some_iff.1 H
          refine G.region ?_
          refine GO.ldBoxA (j := 0) ([.int .i64 e233.A, .int .i64 e233.B, .int .i64 e233.C, .int .i64 e233.D, .int .i64 e233.Sign]) HS rfl rfl rfl rfl ag58 rfl ?_
          refine GO.move rfl rfl rfl ?_
          refine GO.fn rfl Try.func117 fok117.1 fok117.2 rfl rfl (impl_Crossing_enters.calls HS  h247) (fun _ wd248 ⟨h249, HS⟩ => ⟨_, h249, ?_⟩)
          refine GO.not rfl rfl rfl ?_
          refine GO.nil ?_
          refine G.nameT (fun k_j13 hk_j13 => ?_)
          have at_j13 : ∀ m_j13, m_j13 ≤ n_l10 → ∀ (side_251 : Int) (w : World), impl_Diagram_sides.j13 K m_j13 d_Crossings t9 x96 out_203 x204 side_251 = some r1 → St w0 w (Box b1 28 [.slice A_d_Crossings d_Crossings.length c_d_Crossings, .int .i64 d_Circles] :: Own (TInt .i64) 2 (some ⟨b7, 0, none⟩) ((w64 (2 * (a_to.length : Int))).toNat) (fun _ => ()) out_203 :: Own (Ty.slice 2 (TInt .i64)) 43 A11 c12 y13 t9 :: L) → G Try.prog 61 60 [(2, .pointer (some ⟨b1, 0, none⟩)), (5, .slice (some ⟨b7, 0, none⟩) out_203.length ((w64 (2 * (a_to.length : Int))).toNat)), (6, .int .i64 x96), (12, .int .i64 side_251), (20, .slice A11 t9.length c12), (21, .int .i64 (t9.length : Int)), (22, .int .i64 x96), (27, .slice ((y13 x96.toNat).A) (t9.getD x96.toNat []).length ((y13 x96.toNat).c)), (28, .int .i64 ((t9.getD x96.toNat []).length : Int)), (29, .int .i64 x204)] k_j13 w (impl_Diagram_sides.post w0 L d_Crossings d_Circles a_from a_to A_d_Crossings c_d_Crossings A_a_from c_a_from A_a_to c_a_to r1) := by
           intro m_j13 hm_j13 side_251 w H HS
           cases m_j13 with
           | zero => rw [impl_Diagram_sides.j13] at H; cases H
           | succ n_j13 =>
            rw [impl_Diagram_sides.j13] at H
            subst hk_j13
            obtain ⟨c252, H⟩ := ite_none H
            refine G.region ?_
            refine GO.move rfl rfl rfl ?_
            refine GO.move rfl rfl rfl ?_
            refine GO.move rfl rfl rfl ?_
            refine GO.ix rfl rfl rfl Try.underlying43 sz2 (fun _ => ⟨_, _, rfl⟩) c252.1 c252.2 rfl ?_
            refine GO.stRow (T := (TInt .i64)) (j := 1) (n := side_251.toNat) (o := 0) (vs := [.int .i64 x96]) x96 HS rfl flat_flat rfl rfl rfl rfl (htN na2 rfl) rfl (getD_some (d := 0) (ltN c252)) rfl rfl ?_; intro wd253 HS
            refine GO.nil ?_
            refine G.len (t := 5) (m := (out_203.set side_251.toNat x96).length) rfl (by simp only [List.length_set] <;> rfl) ?_
            refine G.blockEnd ?_
            refine G.region ?_
            refine GO.add rfl rfl rfl rfl ?_
            refine GO.move rfl rfl rfl ?_
            refine GO.nil ?_
            refine G.again ?_
            refine G.weak ?_ (ih_l10 n_j13 (Nat.lt_succ_of_le (Nat.le_of_succ_le hm_j13)) (Nat.le_trans (Nat.le_of_succ_le hm_j13) (Nat.le_of_succ_le hm_l10)) _ _ _ H HS)
            exact ⟨rfl, rfl, rfl, rfl, rfl, rfl, rfl, rfl, rfl, trivial⟩
          rcases ite_elim H with ⟨c254, H⟩ | ⟨c254, H⟩
          ·
           refine G.noB rfl (congrArg Bool.not c254) ?_
           refine G.skip ?_
           refine G.weak ?_ (at_j13 n_l10 (Nat.le_refl _) _ _ H (HS.pick 4 [1, 2, 3]))
           exact ⟨rfl, rfl, rfl, rfl, rfl, rfl, rfl, rfl, rfl, rfl, trivial⟩
          ·
           refine G.yesB rfl (congrArg Bool.not (bnot_of c254)) ?_
           refine G.region ?_
           refine GO.move rfl rfl rfl ?_
           refine GO.add rfl rfl rfl rfl ?_
           refine GO.assign rfl rfl rfl ?_
           refine GO.nil ?_
           refine G.weak ?_ (at_j13 n_l10 (Nat.le_refl _) _ _ H (HS.pick 4 [1, 2, 3]))
           exact ⟨rfl, rfl, rfl, rfl, rfl, rfl, rfl, rfl, rfl, rfl, trivial⟩
         ·
          refine G.noB rfl (decide_eq_false c230) ?_
          refine G.exit rfl ?_
          refine G.blockEnd ?_
          refine G.region ?_
          refine GO.add rfl rfl rfl rfl ?_
          refine GO.move rfl rfl rfl ?_
          refine GO.nil ?_
          refine G.again ?_
          refine G.weak ?_ (ih_l1 n_l10 (Nat.lt_succ_of_le (Nat.le_of_succ_le hm_l10)) (Nat.le_trans (Nat.le_of_succ_le hm_l10) (Nat.le_of_succ_le hm_l1)) _ _ _ H HS)
          exact ⟨rfl, rfl, rfl, rfl, rfl, trivial⟩
      refine G.weak ?_ (at_l10 n_l1 (Nat.le_refl _) _ _ _ H HS)
      exact ⟨rfl, rfl, rfl, rfl, rfl, rfl, rfl, rfl, rfl, trivial⟩
     ·
      refine G.noB rfl (decide_eq_false c176) ?_
      refine G.exit rfl ?_
      refine G.seq ?_
      refine G.region ?_
      refine GO.move rfl rfl rfl ?_
      refine GO.assign rfl rfl rfl ?_
      refine GO.nil ?_
      obtain rfl := Option.some.inj H
      exact G.ret1 _ Try.func61 rfl rfl ⟨_, _, rfl, (HS.pick 3 [1])⟩
  refine G.weak ?_ (at_l1 K (Nat.le_refl _) _ _ _ H (HS.pick 4 [3, 1, 0]))
  exact ⟨rfl, rfl, rfl, rfl, rfl, trivial⟩

set_option maxRecDepth 20000 in
set_option maxHeartbeats 40000000 in
theorem impl_size_int64_97.calls {w0 w : World} {L : List HObj} {list : List Int} {A_list : Option Addr} {c_list : Nat} {r1 : Int} (HS : St w0 w (L)) (h_list : RdIn w0 L (TInt .i64) A_list c_list (fun _ => ()) list) (H : impl_size_int64_97.f list = some r1) :
    Calls Try.prog 97 #[.slice A_list list.length c_list] w (impl_size_int64_97.post w0 L list A_list c_list r1) := by
  unfold impl_size_int64_97.f at H
  refine Calls.of_G Try.func97 rfl rfl rfl ?_
  refine G.seq ?_
  refine G.region ?_
  refine GO.assign rfl rfl rfl ?_
  refine GO.nil ?_
  refine G.seq ?_
  refine G.region ?_
  refine GO.move rfl rfl rfl ?_
  refine GO.lenS rfl rfl Try.underlying43 rfl ?_
  refine GO.assign rfl rfl rfl ?_
  refine GO.nil ?_
  obtain rfl := Option.some.inj H
  exact G.ret1 _ Try.func97 rfl rfl ⟨rfl, HS⟩

set_option maxRecDepth 20000 in
set_option maxHeartbeats 40000000 in
theorem impl_hasIndex_int64.calls {w0 w : World} {L : List HObj} {list : List Int} {i : Int} {A_list : Option Addr} {c_list : Nat} {r1 : Bool} (HS : St w0 w (L)) (h_list : RdIn w0 L (TInt .i64) A_list c_list (fun _ => ()) list) (H : impl_hasIndex_int64.f list i = some r1) :
    Calls Try.prog 62 #[.slice A_list list.length c_list, .int .i64 i] w (impl_hasIndex_int64.post w0 L list i A_list c_list r1) := by
  unfold impl_hasIndex_int64.f at H
  refine Calls.of_G Try.func62 rfl rfl rfl ?_
  refine G.seq ?_
  refine G.region ?_
  refine GO.assign rfl rfl rfl ?_
  refine GO.nil ?_
  refine G.seq ?_
  obtain ⟨t1, h2, H⟩ := Option.bind_eq_some_iff.1 H
  obtain ⟨t5, h6, H⟩ := Option.bind_eq_some_iff.1 H
  refine G.region ?_
  refine GO.move rfl rfl rfl ?_
  refine GO.move rfl rfl rfl ?_
  refine GO.fn rfl Try.func97 fok97.1 fok97.2 rfl rfl (impl_size_int64_97.calls HS h_list h2) (fun _ wd3 ⟨h4, HS⟩ => ⟨_, h4, ?_⟩)
  refine GO.sub rfl rfl rfl rfl ?_
  refine GO.fn rfl Try.func47 fok47.1 fok47.2 rfl rfl (impl_inRange.calls HS  h6) (fun _ wd7 ⟨h8, HS⟩ => ⟨_, h8, ?_⟩)
  refine GO.assign rfl rfl rfl ?_
  refine GO.nil ?_
  obtain rfl := Option.some.inj H
  exact G.ret1 _ Try.func62 rfl rfl ⟨rfl, HS⟩

set_option maxRecDepth 20000 in
set_option maxHeartbeats 40000000 in
theorem impl_crossed.calls {w0 w : World} {L : List HObj} {low : Int} {lowOut : Int} {up : Int} {upOut : Int} {sign : Int} {r1 : Int} {r2 : Int} {r3 : Int} {r4 : Int} {r5 : Int} (HS : St w0 w (L)) (H : impl_crossed.f low lowOut up upOut sign = some (r1, r2, r3, r4, r5)) :
    Calls Try.prog 63 #[.int .i64 low, .int .i64 lowOut, .int .i64 up, .int .i64 upOut, .int .i64 sign] w (impl_crossed.post w0 L low lowOut up upOut sign r1 r2 r3 r4 r5) := by
  unfold impl_crossed.f at H
  refine Calls.of_G Try.func63 rfl rfl rfl ?_
  refine G.seq ?_
  refine G.region ?_
  refine GO.alloc HS rfl zr58 rfl rfl ?_; intro b1 wd2 HS
  refine GO.nil ?_
  refine G.seq ?_
  refine G.seq ?_
  refine G.region ?_
  refine GO.move rfl rfl rfl ?_
  refine GO.eql rfl rfl rfl rfl ?_
  refine GO.nil ?_
  rcases ite_elim H with ⟨c3, H⟩ | ⟨c3, H⟩
  ·
   refine G.yesB rfl (decide_eq_true c3) ?_
   refine G.seq ?_
   refine G.region ?_
   refine GO.move rfl rfl rfl ?_
   refine GO.move rfl rfl rfl ?_
   refine GO.move rfl rfl rfl ?_
   refine GO.move rfl rfl rfl ?_
   refine GO.buildV (.agg [.int .i64 low, .int .i64 upOut, .int .i64 lowOut, .int .i64 up, .int .i64 1].toArray) rfl rfl (fun _ => by kernel_rfl) rfl ?_
   refine GO.stBox (j := 0) (vs := [.int .i64 low, .int .i64 upOut, .int .i64 lowOut, .int .i64 up, .int .i64 1]) ([.int .i64 low, .int .i64 upOut, .int .i64 lowOut, .int .i64 up, .int .i64 1]) HS rfl rfl rfl rfl rfl (htA ag58) rfl rfl rfl ?_; intro wd4 HS
   refine GO.nil ?_
   obtain ⟨rfl, rfl, rfl, rfl, rfl⟩ := some5 H
   exact G.ret1 _ Try.func63 rfl (Res1.boxA (j := 0) (vs := [.int .i64 low, .int .i64 upOut, .int .i64 lowOut, .int .i64 up, .int .i64 1]) HS rfl rfl rfl ag58) ⟨rfl, (HS.pick 1 [])⟩
  ·
   refine G.noB rfl (decide_eq_false c3) ?_
   refine G.skip ?_
   refine G.seq ?_
   refine G.region ?_
   refine GO.move rfl rfl rfl ?_
   refine GO.move rfl rfl rfl ?_
   refine GO.move rfl rfl rfl ?_
   refine GO.move rfl rfl rfl ?_
   refine GO.buildV (.agg [.int .i64 low, .int .i64 up, .int .i64 lowOut, .int .i64 upOut, .int .i64 (-1)].toArray) rfl rfl (fun _ => by kernel_rfl) rfl ?_
   refine GO.stBox (j := 0) (vs := [.int .i64 low, .int .i64 up, .int .i64 lowOut, .int .i64 upOut, .int .i64 (-1)]) ([.int .i64 low, .int .i64 up, .int .i64 lowOut, .int .i64 upOut, .int .i64 (-1)]) HS rfl rfl rfl rfl rfl (htA ag58) rfl rfl rfl ?_; intro wd5 HS
   refine GO.nil ?_
   obtain ⟨rfl, rfl, rfl, rfl, rfl⟩ := some5 H
   exact G.ret1 _ Try.func63 rfl (Res1.boxA (j := 0) (vs := [.int .i64 low, .int .i64 up, .int .i64 lowOut, .int .i64 upOut, .int .i64 (-1)]) HS rfl rfl rfl ag58) ⟨rfl, (HS.pick 1 [])⟩

end Go.Proofs.Ytdafmbaeiefacaa
