/-
  The walks through the functions: a call comes to what its list function says.
-/
import Derived.Test.YtdafmbaeiefacaaAlF
import Derived.Test.YtdafmbaeiefacaaAlW1
import Derived.Test.YtdafmbaeiefacaaAlW2
import Derived.Test.YtdafmbaeiefacaaAlW3
set_option linter.unusedVariables false
set_option linter.unusedSimpArgs false
namespace Go.Proofs.Ytdafmbaeiefacaa
open Go.RowKit
set_option maxRecDepth 20000 in
set_option maxHeartbeats 40000000 in
theorem impl_Diagram_without_fn2_free.calls {w0 w : World} {L : List HObj} {K : Nat} {arc : Int} {v0_4 : List Int} {v1_from : List GEnd} {v1_to : List GEnd} {b_v0 : Nat} {b_v0_3 : Nat} {A_v0_4 : Option Addr} {c_v0_4 : Nat} {b_v1 : Nat} {A_v1_from : Option Addr} {c_v1_from : Nat} {A_v1_to : Option Addr} {c_v1_to : Nat} {r1 : Bool} (HS : St w0 w (Box b_v0 138 [.func (.func 130) #[] #[.pointer (some ⟨b_v0_3, 0, none⟩)]] :: Box b_v0_3 43 [.slice A_v0_4 v0_4.length c_v0_4] :: Box b_v1 63 [.slice A_v1_from v1_from.length c_v1_from, .slice A_v1_to v1_to.length c_v1_to] :: L)) (h_v0_4 : RdIn w0 L (TInt .i64) A_v0_4 c_v0_4 (fun _ => ()) v0_4) (h_v1_from : RdIn w0 L T_GEnd A_v1_from c_v1_from (fun _ => ()) v1_from) (h_v1_to : RdIn w0 L T_GEnd A_v1_to c_v1_to (fun _ => ()) v1_to) (H : impl_Diagram_without_fn2_free.f K arc v0_4 v1_from v1_to = some r1) :
    Calls Try.prog 135 #[.int .i64 arc, .pointer (some ⟨b_v0, 0, none⟩), .pointer (some ⟨b_v1, 0, none⟩)] w (impl_Diagram_without_fn2_free.post w0 L arc v0_4 v1_from v1_to b_v0 b_v0_3 A_v0_4 c_v0_4 b_v1 A_v1_from c_v1_from A_v1_to c_v1_to r1) := by
  unfold impl_Diagram_without_fn2_free.f at H
  refine Calls.of_G Try.func135 rfl rfl rfl ?_
  refine G.seq ?_
  refine G.region ?_
  refine GO.assign rfl rfl rfl ?_
  refine GO.nil ?_
  refine G.seq ?_
  obtain ⟨c1, H⟩ := ite_none H
  obtain ⟨e2, h3, H⟩ := bnd_elim H
  obtain ⟨t4, h5, H⟩ := Option.bind_eq_some_iff.1 H
  refine G.regionAny mixed (by decide) (fun b a w => ∃ (Y1_0 : Value) (Y2_1 : Value) (Y3_2 : Value) (Y4_3 : Value) (Y5_4 : Value) (Y6_5 : Value) (Y7_6 : Value) (Y8_7 : Value) (Y9_8 : Value), Sat 13 [(4, Y9_8), (5, Y1_0), (6, Y2_1), (7, Y3_2), (8, Y4_3), (9, Y5_4), (10, Y6_5), (11, Y7_6), (12, Y8_7), (0, .int .i64 arc), (1, .pointer (some ⟨b_v0, 0, none⟩)), (2, .pointer (some ⟨b_v1, 0, none⟩))] a ∧ St w0 w (Box b_v0 138 [.func (.func 130) #[] #[.pointer (some ⟨b_v0_3, 0, none⟩)]] :: Box b_v0_3 43 [.slice A_v0_4 v0_4.length c_v0_4] :: Box b_v1 63 [.slice A_v1_from v1_from.length c_v1_from, .slice A_v1_to v1_to.length c_v1_to] :: L) ∧ (b 8 = true → Y9_8 = (.bool (!t4))) ∧ (b 0 = true → Y1_0 = (.func (.func 130) #[] #[.pointer (some ⟨b_v0_3, 0, none⟩)])) ∧ (b 1 = true → Y2_1 = (.pointer (some ⟨b_v1, 0, none⟩))) ∧ (b 2 = true → Y3_2 = (.slice A_v1_from v1_from.length c_v1_from)) ∧ (b 3 = true → Y4_3 = (.int .i64 arc)) ∧ (b 4 = true → Y5_4 = (.pointer (some (ea A_v1_from (arc.toNat * 2))))) ∧ (b 5 = true → Y6_5 = (.agg [.int .i64 e2.crossing, .int .i64 e2.position].toArray)) ∧ (b 6 = true → Y7_6 = (.bool t4)) ∧ (b 7 = true → Y8_7 = (.bool (!t4)))) ?_ ?_ ?_
  ·
   intro a hs
   obtain ⟨Y9_8, hs⟩ := hs.ext (d := 4) rfl
   obtain ⟨Y1_0, hs⟩ := hs.ext (d := 5) rfl
   obtain ⟨Y2_1, hs⟩ := hs.ext (d := 6) rfl
   obtain ⟨Y3_2, hs⟩ := hs.ext (d := 7) rfl
   obtain ⟨Y4_3, hs⟩ := hs.ext (d := 8) rfl
   obtain ⟨Y5_4, hs⟩ := hs.ext (d := 9) rfl
   obtain ⟨Y6_5, hs⟩ := hs.ext (d := 10) rfl
   obtain ⟨Y7_6, hs⟩ := hs.ext (d := 11) rfl
   obtain ⟨Y8_7, hs⟩ := hs.ext (d := 12) rfl
   exact ⟨Y1_0, Y2_1, Y3_2, Y4_3, Y5_4, Y6_5, Y7_6, Y8_7, Y9_8, hs.weak ⟨rfl, rfl, rfl, rfl, rfl, rfl, rfl, rfl, rfl, rfl, rfl, rfl, trivial⟩, (HS.drew.pk 3 [0, 1, 2] rfl), fun h => Bool.noConfusion h, fun h => Bool.noConfusion h, fun h => Bool.noConfusion h, fun h => Bool.noConfusion h, fun h => Bool.noConfusion h, fun h => Bool.noConfusion h, fun h => Bool.noConfusion h, fun h => Bool.noConfusion h, fun h => Bool.noConfusion h⟩
  ·
   intro j hj b a w
   refine exI fun Y1_0 => exI fun Y2_1 => exI fun Y3_2 => exI fun Y4_3 => exI fun Y5_4 => exI fun Y6_5 => exI fun Y7_6 => exI fun Y8_7 => exI fun Y9_8 => anI fun hs => anI fun HS => anI fun f8 => anI fun f0 => anI fun f1 => anI fun f2 => anI fun f3 => anI fun f4 => anI fun f5 => anI fun f6 => fun f7 hb hd hcl => ?_
   match j, hj with
   | 0, _ =>
    refine GO.at hs ?_
    refine GO.ldBox (j := 0) HS rfl rfl rfl rfl na138 rfl ?_
    refine GO.fin (fun a hs => ?_)
    exact ⟨(.func (.func 130) #[] #[.pointer (some ⟨b_v0_3, 0, none⟩)]), _, _, _, _, _, _, _, _, by exact hs.setAt 1 rfl, HS, f8, fun _ => rfl, f1, f2, f3, f4, f5, f6, f7⟩
   | 1, _ =>
    refine GO.at hs ?_
    refine GO.fld (⟨b_v1, 0, none⟩) rfl rfl fl63_0 rfl rfl ?_
    refine GO.fin (fun a hs => ?_)
    exact ⟨_, (.pointer (some ⟨b_v1, 0, none⟩)), _, _, _, _, _, _, _, by exact hs.setAt 2 rfl, HS, f8, f0, fun _ => rfl, f2, f3, f4, f5, f6, f7⟩
   | 2, _ =>
    have hb1 : b 1 = true := hd 1 (by decide)
    obtain rfl := f1 hb1
    refine GO.at hs ?_
    refine GO.ldBox (j := 2) HS rfl rfl rfl rfl na61 rfl ?_
    refine GO.fin (fun a hs => ?_)
    exact ⟨_, _, (.slice A_v1_from v1_from.length c_v1_from), _, _, _, _, _, _, by exact hs.setAt 3 rfl, HS, f8, f0, f1, fun _ => rfl, f3, f4, f5, f6, f7⟩
   | 3, _ =>
    refine GO.at hs ?_
    refine GO.move rfl rfl rfl ?_
    refine GO.fin (fun a hs => ?_)
    exact ⟨_, _, _, (.int .i64 arc), _, _, _, _, _, by exact hs.setAt 4 rfl, HS, f8, f0, f1, f2, fun _ => rfl, f4, f5, f6, f7⟩
   | 4, _ =>
    have hb2 : b 2 = true := hd 2 (by decide)
    obtain rfl := f2 hb2
    have hb3 : b 3 = true := hd 3 (by decide)
    obtain rfl := f3 hb3
    refine GO.at hs ?_
    refine GO.ix rfl rfl rfl Try.underlying61 sz68 ((RdIn.drop 3 h_v1_from) _ HS).2.2.1 c1.1 c1.2 rfl ?_
    refine GO.fin (fun a hs => ?_)
    exact ⟨_, _, _, _, (.pointer (some (ea A_v1_from (arc.toNat * 2)))), _, _, _, _, by exact hs.setAt 5 rfl, HS, f8, f0, f1, f2, f3, fun _ => rfl, f5, f6, f7⟩
   | 5, _ =>
    have hb4 : b 4 = true := hd 4 (by decide)
    obtain rfl := f4 hb4
    refine GO.at hs ?_
    refine GO.ldRdA (T := T_GEnd) (n := arc.toNat) HS (RdIn.drop 3 h_v1_from) rfl rfl (getD_eq (ltN c1) h3) ag68 rfl ?_
    refine GO.fin (fun a hs => ?_)
    exact ⟨_, _, _, _, _, (.agg [.int .i64 e2.crossing, .int .i64 e2.position].toArray), _, _, _, by exact hs.setAt 6 rfl, HS, f8, f0, f1, f2, f3, f4, fun _ => rfl, f6, f7⟩
   | 6, _ =>
    have hb0 : b 0 = true := hd 0 (by decide)
    obtain rfl := f0 hb0
    have hb5 : b 5 = true := hd 5 (by decide)
    obtain rfl := f5 hb5
    refine GO.at hs ?_
    replace HS := HS.pk 3 [1, 0, 2] rfl
    refine GO.clo rfl rfl Try.func130 fok130.1 fok130.2 rfl rfl (impl_Diagram_without_fn1_free.calls HS (RdIn.drop 2 h_v0_4) h5) (fun _ wd6 ⟨h7, HS⟩ => ⟨_, h7, ?_⟩)
    refine GO.fin (fun a hs => ?_)
    exact ⟨_, _, _, _, _, _, (.bool t4), _, _, by exact hs.setAt 7 rfl, HS.pk 3 [1, 0, 2] rfl, f8, f0, f1, f2, f3, f4, f5, fun _ => rfl, f7⟩
   | 7, _ =>
    have hb6 : b 6 = true := hd 6 (by decide)
    obtain rfl := f6 hb6
    refine GO.at hs ?_
    refine GO.not rfl rfl rfl ?_
    refine GO.fin (fun a hs => ?_)
    exact ⟨_, _, _, _, _, _, _, (.bool (!t4)), _, by exact hs.setAt 8 rfl, HS, f8, f0, f1, f2, f3, f4, f5, f6, fun _ => rfl⟩
   | 8, _ =>
    have hb7 : b 7 = true := hd 7 (by decide)
    obtain rfl := f7 hb7
    refine GO.at hs ?_
    refine GO.assign rfl rfl rfl ?_
    refine GO.fin (fun a hs => ?_)
    exact ⟨_, _, _, _, _, _, _, _, (.bool (!t4)), by exact hs.setAt 0 rfl, HS, fun _ => rfl, f0, f1, f2, f3, f4, f5, f6, f7⟩
   | k + 9, hj => exact absurd hj (Nat.not_lt.2 (Nat.le_add_left 9 k))
  ·
   intro b a w hall
   refine exI fun Y1_0 => exI fun Y2_1 => exI fun Y3_2 => exI fun Y4_3 => exI fun Y5_4 => exI fun Y6_5 => exI fun Y7_6 => exI fun Y8_7 => exI fun Y9_8 => anI fun hs => anI fun HS => anI fun f8 => anI fun f0 => anI fun f1 => anI fun f2 => anI fun f3 => anI fun f4 => anI fun f5 => anI fun f6 => fun f7 => ?_
   obtain rfl := f8 (hall 8 (by decide))
   obtain rfl := f0 (hall 0 (by decide))
   obtain rfl := f1 (hall 1 (by decide))
   obtain rfl := f2 (hall 2 (by decide))
   obtain rfl := f3 (hall 3 (by decide))
   obtain rfl := f4 (hall 4 (by decide))
   obtain rfl := f5 (hall 5 (by decide))
   obtain rfl := f6 (hall 6 (by decide))
   obtain rfl := f7 (hall 7 (by decide))
   refine G.at hs ?_
   obtain rfl := Option.some.inj H
   exact G.ret1 _ Try.func135 rfl rfl ⟨rfl, HS⟩

set_option maxRecDepth 20000 in
set_option maxHeartbeats 40000000 in
theorem slices_IndexFunc_int64_int64_135.calls {w0 w : World} {L : List HObj} {K : Nat} {s : List Int} {cap_4 : List Int} {cap_from : List GEnd} {cap_to : List GEnd} {A_s : Option Addr} {c_s : Nat} {b_cap : Nat} {b_cap_3 : Nat} {A_cap_4 : Option Addr} {c_cap_4 : Nat} {b_cap_5 : Nat} {A_cap_from : Option Addr} {c_cap_from : Nat} {A_cap_to : Option Addr} {c_cap_to : Nat} {r1 : Int} (HS : St w0 w (Box b_cap 138 [.func (.func 130) #[] #[.pointer (some ⟨b_cap_3, 0, none⟩)]] :: Box b_cap_3 43 [.slice A_cap_4 cap_4.length c_cap_4] :: Box b_cap_5 63 [.slice A_cap_from cap_from.length c_cap_from, .slice A_cap_to cap_to.length c_cap_to] :: L)) (h_s : RdIn w0 L (TInt .i64) A_s c_s (fun _ => ()) s) (h_cap_4 : RdIn w0 L (TInt .i64) A_cap_4 c_cap_4 (fun _ => ()) cap_4) (h_cap_from : RdIn w0 L T_GEnd A_cap_from c_cap_from (fun _ => ()) cap_from) (h_cap_to : RdIn w0 L T_GEnd A_cap_to c_cap_to (fun _ => ()) cap_to) (H : slices_IndexFunc_int64_int64_135.f K s cap_4 cap_from cap_to = some r1) :
    Calls Try.prog 165 #[.slice A_s s.length c_s, .func (.func 135) #[] #[.pointer (some ⟨b_cap, 0, none⟩), .pointer (some ⟨b_cap_5, 0, none⟩)]] w (slices_IndexFunc_int64_int64_135.post w0 L s cap_4 cap_from cap_to A_s c_s b_cap b_cap_3 A_cap_4 c_cap_4 b_cap_5 A_cap_from c_cap_from A_cap_to c_cap_to r1) := by
  unfold slices_IndexFunc_int64_int64_135.f at H
  refine Calls.of_G Try.func165 rfl rfl rfl ?_
  refine G.seq ?_
  refine G.region ?_
  refine GO.assign rfl rfl rfl ?_
  refine GO.nil ?_
  refine G.seq ?_
  refine G.seq ?_
  refine G.region ?_
  refine GO.move rfl rfl rfl ?_
  refine GO.lenS rfl rfl Try.underlying43 rfl ?_
  refine GO.move rfl rfl rfl ?_
  refine GO.nil ?_
  refine G.block ?_
  refine G.loop ?_
  refine G.name (fun k_l1 hk_l1 => ?_)
  have at_l1 : ∀ m_l1, m_l1 ≤ K → ∀ (x8 : Int) (w : World), slices_IndexFunc_int64_int64_135.l1 K m_l1 s cap_4 cap_from cap_to x8 = some r1 → St w0 w (Box b_cap 138 [.func (.func 130) #[] #[.pointer (some ⟨b_cap_3, 0, none⟩)]] :: Box b_cap_3 43 [.slice A_cap_4 cap_4.length c_cap_4] :: Box b_cap_5 63 [.slice A_cap_from cap_from.length c_cap_from, .slice A_cap_to cap_to.length c_cap_to] :: L) → G Try.prog 165 19 [(0, .slice A_s s.length c_s), (1, .func (.func 135) #[] #[.pointer (some ⟨b_cap, 0, none⟩), .pointer (some ⟨b_cap_5, 0, none⟩)]), (7, .int .i64 (s.length : Int)), (8, .int .i64 x8)] k_l1 w (slices_IndexFunc_int64_int64_135.post w0 L s cap_4 cap_from cap_to A_s c_s b_cap b_cap_3 A_cap_4 c_cap_4 b_cap_5 A_cap_from c_cap_from A_cap_to c_cap_to r1) := by
   intro m_l1
   induction m_l1 using Nat.strongRecOn with
   | _ m_l1 ih_l1 =>
    intro hm_l1 x8 w H HS
    cases m_l1 with
    | zero => rw [slices_IndexFunc_int64_int64_135.l1] at H; cases H
    | succ n_l1 =>
     rw [slices_IndexFunc_int64_int64_135.l1] at H
     subst hk_l1
     refine G.seq ?_
     refine G.region ?_
     refine GO.lss rfl rfl rfl rfl ?_
     refine GO.nil ?_
     refine G.seq ?_
     rcases ite_elim H with ⟨c16, H⟩ | ⟨c16, H⟩
     ·
      refine G.yesB rfl (decide_eq_true c16) ?_
      refine G.skip ?_
      refine G.seq ?_
      refine G.block ?_
      refine G.seq ?_
      refine G.region ?_
      refine GO.move rfl rfl rfl ?_
      refine GO.assign rfl rfl rfl ?_
      refine GO.nil ?_
      refine G.seq ?_
      obtain ⟨c17, H⟩ := ite_none H
      obtain ⟨t18, h19, H⟩ := Option.bind_eq_some_iff.1 H
      refine G.region ?_
      refine GO.move rfl rfl rfl ?_
      refine GO.move rfl rfl rfl ?_
      refine GO.move rfl rfl rfl ?_
      refine GO.ix rfl rfl rfl Try.underlying43 sz2 ((RdIn.drop 3 h_s) _ HS).2.2.1 c17.1 c17.2 rfl ?_
      refine GO.ldRd (T := (TInt .i64)) (n := x8.toNat) (o := 0) HS (RdIn.drop 3 h_s) rfl rfl (getD_some (d := 0) (ltN c17)) rfl rfl na2 rfl ?_
      replace HS := HS.pk 3 [0, 1, 2] rfl
      refine GO.clo rfl rfl Try.func135 fok135.1 fok135.2 rfl rfl (impl_Diagram_without_fn2_free.calls HS h_cap_4 h_cap_from h_cap_to h19) (fun _ wd20 ⟨h21, HS⟩ => ⟨_, h21, ?_⟩)
      refine GO.nil ?_
      rcases ite_elim H with ⟨c22, H⟩ | ⟨c22, H⟩
      ·
       refine G.yesB rfl c22 ?_
       refine G.seq ?_
       refine G.region ?_
       refine GO.move rfl rfl rfl ?_
       refine GO.assign rfl rfl rfl ?_
       refine GO.nil ?_
       obtain rfl := Option.some.inj H
       exact G.ret1 _ Try.func165 rfl rfl ⟨rfl, HS⟩
      ·
       refine G.noB rfl (bnot_of c22) ?_
       refine G.skip ?_
       refine G.blockEnd ?_
       refine G.region ?_
       refine GO.add rfl rfl rfl rfl ?_
       refine GO.move rfl rfl rfl ?_
       refine GO.nil ?_
       refine G.again ?_
       refine G.weak ?_ (ih_l1 n_l1 (Nat.lt_succ_of_le (Nat.le_refl _)) (Nat.le_of_succ_le hm_l1) _ _ H HS)
       exact ⟨rfl, rfl, rfl, rfl, trivial⟩
     ·
      refine G.noB rfl (decide_eq_false c16) ?_
      refine G.exit rfl ?_
      refine G.seq ?_
      refine G.region ?_
      refine GO.assign rfl rfl rfl ?_
      refine GO.nil ?_
      obtain rfl := Option.some.inj H
      exact G.ret1 _ Try.func165 rfl rfl ⟨rfl, HS⟩
  refine G.weak ?_ (at_l1 K (Nat.le_refl _) _ _ H HS)
  exact ⟨rfl, rfl, rfl, rfl, trivial⟩

set_option maxRecDepth 20000 in
set_option maxHeartbeats 40000000 in
theorem slices_ContainsFunc_int64_int64_135.calls {w0 w : World} {L : List HObj} {K : Nat} {s : List Int} {cap_4 : List Int} {cap_from : List GEnd} {cap_to : List GEnd} {A_s : Option Addr} {c_s : Nat} {b_cap : Nat} {b_cap_3 : Nat} {A_cap_4 : Option Addr} {c_cap_4 : Nat} {b_cap_5 : Nat} {A_cap_from : Option Addr} {c_cap_from : Nat} {A_cap_to : Option Addr} {c_cap_to : Nat} {r1 : Bool} (HS : St w0 w (Box b_cap 138 [.func (.func 130) #[] #[.pointer (some ⟨b_cap_3, 0, none⟩)]] :: Box b_cap_3 43 [.slice A_cap_4 cap_4.length c_cap_4] :: Box b_cap_5 63 [.slice A_cap_from cap_from.length c_cap_from, .slice A_cap_to cap_to.length c_cap_to] :: L)) (h_s : RdIn w0 L (TInt .i64) A_s c_s (fun _ => ()) s) (h_cap_4 : RdIn w0 L (TInt .i64) A_cap_4 c_cap_4 (fun _ => ()) cap_4) (h_cap_from : RdIn w0 L T_GEnd A_cap_from c_cap_from (fun _ => ()) cap_from) (h_cap_to : RdIn w0 L T_GEnd A_cap_to c_cap_to (fun _ => ()) cap_to) (H : slices_ContainsFunc_int64_int64_135.f K s cap_4 cap_from cap_to = some r1) :
    Calls Try.prog 134 #[.slice A_s s.length c_s, .func (.func 135) #[] #[.pointer (some ⟨b_cap, 0, none⟩), .pointer (some ⟨b_cap_5, 0, none⟩)]] w (slices_ContainsFunc_int64_int64_135.post w0 L s cap_4 cap_from cap_to A_s c_s b_cap b_cap_3 A_cap_4 c_cap_4 b_cap_5 A_cap_from c_cap_from A_cap_to c_cap_to r1) := by
  unfold slices_ContainsFunc_int64_int64_135.f at H
  refine Calls.of_G Try.func134 rfl rfl rfl ?_
  refine G.seq ?_
  refine G.region ?_
  refine GO.assign rfl rfl rfl ?_
  refine GO.nil ?_
  refine G.seq ?_
  obtain ⟨t1, h2, H⟩ := Option.bind_eq_some_iff.1 H
  refine G.region ?_
  refine GO.move rfl rfl rfl ?_
  refine GO.move rfl rfl rfl ?_
  replace HS := HS.pk 3 [0, 1, 2] rfl
  refine GO.fn rfl Try.func165 fok165.1 fok165.2 rfl rfl (slices_IndexFunc_int64_int64_135.calls HS h_s h_cap_4 h_cap_from h_cap_to h2) (fun _ wd3 ⟨h4, HS⟩ => ⟨_, h4, ?_⟩)
  refine GO.geq rfl rfl rfl rfl ?_
  refine GO.assign rfl rfl rfl ?_
  refine GO.nil ?_
  obtain rfl := Option.some.inj H
  exact G.ret1 _ Try.func134 rfl rfl ⟨rfl, HS⟩

set_option maxRecDepth 20000 in
set_option maxHeartbeats 40000000 in
theorem impl_Diagram_without.calls {w0 w : World} {L : List HObj} {K : Nat} {d_Crossings : List GCrossing} {d_Circles : Int} {a_from : List GEnd} {a_to : List GEnd} {crossings : List Int} {A_d_Crossings : Option Addr} {c_d_Crossings : Nat} {A_a_from : Option Addr} {c_a_from : Nat} {A_a_to : Option Addr} {c_a_to : Nat} {A_crossings : Option Addr} {c_crossings : Nat} {r1 : List GCrossing} {r2 : Int} (HS : St w0 w (L)) (h_d_Crossings : RdIn w0 L T_GCrossing A_d_Crossings c_d_Crossings (fun _ => ()) d_Crossings) (h_a_from : RdIn w0 L T_GEnd A_a_from c_a_from (fun _ => ()) a_from) (h_a_to : RdIn w0 L T_GEnd A_a_to c_a_to (fun _ => ()) a_to) (h_crossings : RdIn w0 L (TInt .i64) A_crossings c_crossings (fun _ => ()) crossings) (H : impl_Diagram_without.f K d_Crossings d_Circles a_from a_to crossings = some (r1, r2)) :
    Calls Try.prog 82 #[.agg [.slice A_d_Crossings d_Crossings.length c_d_Crossings, .int .i64 d_Circles].toArray, .agg [.slice A_a_from a_from.length c_a_from, .slice A_a_to a_to.length c_a_to].toArray, .slice A_crossings crossings.length c_crossings] w (impl_Diagram_without.post w0 L d_Crossings d_Circles a_from a_to crossings A_d_Crossings c_d_Crossings A_a_from c_a_from A_a_to c_a_to A_crossings c_crossings r1 r2) := by
  unfold impl_Diagram_without.f at H
  refine Calls.of_G Try.func82 rfl rfl rfl ?_
  refine G.seq ?_
  refine G.region ?_
  refine GO.box (cs := [.slice A_d_Crossings d_Crossings.length c_d_Crossings, .int .i64 d_Circles]) HS rfl rfl rfl rfl ?_; intro b1 wd2 HS
  refine GO.box (cs := [.slice A_a_from a_from.length c_a_from, .slice A_a_to a_to.length c_a_to]) HS rfl rfl rfl rfl ?_; intro b3 wd4 HS
  refine GO.box (cs := [.slice A_crossings crossings.length c_crossings]) HS rfl rfl rfl rfl ?_; intro b5 wd6 HS
  refine GO.alloc HS rfl zr28 rfl rfl ?_; intro b7 wd8 HS
  refine GO.nil ?_
  refine G.seq ?_
  refine G.region ?_
  refine GO.mkFunc rfl rfl rfl rfl ?_
  refine GO.alloc HS rfl zr138 rfl rfl ?_; intro b9 wd10 HS
  refine GO.stBox (j := 0) (vs := [.func (.func 130) #[] #[.pointer (some ⟨b5, 0, none⟩)]]) ([.func (.func 130) #[] #[.pointer (some ⟨b5, 0, none⟩)]]) HS rfl rfl rfl rfl rfl (htN na138 rfl) rfl rfl rfl ?_; intro wd11 HS
  refine GO.nil ?_
  refine G.seq ?_
  obtain ⟨t12, t13, h14, H⟩ := bind2_elim H
  refine G.region ?_
  refine GO.ldBoxA (j := 4) ([.slice A_d_Crossings d_Crossings.length c_d_Crossings, .int .i64 d_Circles]) HS rfl rfl rfl rfl ag28 rfl ?_
  refine GO.fn rfl Try.func49 fok49.1 fok49.2 rfl rfl (impl_copyDiagram.calls HS (RdIn.drop 5 h_d_Crossings) h14) (fun _ wd17 ⟨A15, c16, h18, HS⟩ => ⟨_, h18, ?_⟩)
  refine GO.alloc HS rfl zr28 rfl rfl ?_; intro b19 wd20 HS
  refine GO.stBox (j := 0) (vs := [.slice A15 t12.length c16, .int .i64 t13]) ([.slice A15 t12.length c16, .int .i64 t13]) HS rfl rfl rfl rfl rfl (htA ag28) rfl rfl rfl ?_; intro wd21 HS
  refine GO.nil ?_
  refine G.seq ?_
  obtain ⟨t24, h25, H⟩ := Option.bind_eq_some_iff.1 H
  refine G.region ?_
  refine GO.buildS (el := 2) ([.int .i64 (-1)]) HS rfl rfl (fun _ => by kernel_rfl) rfl ?_; intro b22 wd23 HS
  refine GO.fld (⟨b3, 0, none⟩) rfl rfl fl63_0 rfl rfl ?_
  refine GO.ldBox (j := 6) HS rfl rfl rfl rfl na61 rfl ?_
  refine GO.lenS rfl rfl Try.underlying61 rfl ?_
  replace HS := HS.boxRow (T := (TInt .i64)) (j := 0) rfl flat_flat (fun _ => ()) ([(-1)] : List Int) rfl (bndL rfl)
  refine GO.lenC (t := 21) (m := ([(-1)] : List Int).length) (c' := ([(-1)] : List Int).length) rfl rfl rfl ?_
  refine GO.fn rfl Try.func118 fok118.1 fok118.2 rfl rfl (slices_Repeat_int64_int64.calls HS (RdIn.own (j := 0) rfl) h25) (fun _ wd28 ⟨A26, c27, h29, HS⟩ => ⟨_, h29, ?_⟩)
  refine GO.assign rfl rfl rfl ?_
  refine GO.nil ?_
  refine G.seq ?_
  refine G.region ?_
  refine GO.assign rfl rfl rfl ?_
  refine GO.nil ?_
  refine G.seq ?_
  refine G.seq ?_
  obtain ⟨t30, h31, H⟩ := Option.bind_eq_some_iff.1 H
  refine G.region ?_
  refine GO.fld (⟨b3, 0, none⟩) rfl rfl fl63_0 rfl rfl ?_
  refine GO.ldBox (j := 7) HS rfl rfl rfl rfl na61 rfl ?_
  refine GO.fn rfl Try.func48 fok48.1 fok48.2 rfl rfl (impl_size_impl_end.calls HS (RdIn.drop 9 h_a_from) h31) (fun _ wd32 ⟨h33, HS⟩ => ⟨_, h33, ?_⟩)
  refine GO.move rfl rfl rfl ?_
  refine GO.nil ?_
  refine G.block ?_
  refine G.loop ?_
  refine G.name (fun k_l1 hk_l1 => ?_)
  have at_l1 : ∀ m_l1, m_l1 ≤ K → ∀ (work_293 : List GCrossing) (numbers_294 : List Int) (count_295 : Int) (x296 : Int) (w : World), impl_Diagram_without.l1 K m_l1 d_Crossings d_Circles a_from a_to crossings t13 t30 work_293 numbers_294 count_295 x296 = some (r1, r2) → St w0 w (Box b1 28 [.slice A_d_Crossings d_Crossings.length c_d_Crossings, .int .i64 d_Circles] :: Box b3 63 [.slice A_a_from a_from.length c_a_from, .slice A_a_to a_to.length c_a_to] :: Box b5 43 [.slice A_crossings crossings.length c_crossings] :: Box b7 28 [.slice none 0 0, .int .i64 0] :: Box b9 138 [.func (.func 130) #[] #[.pointer (some ⟨b5, 0, none⟩)]] :: Box b19 28 [.slice A15 work_293.length c16, .int .i64 t13] :: Own T_GCrossing 58 A15 c16 (fun _ => ()) work_293 :: Own (TInt .i64) 2 A26 c27 (fun _ => ()) numbers_294 :: L) → G Try.prog 82 128 [(3, .pointer (some ⟨b1, 0, none⟩)), (4, .pointer (some ⟨b3, 0, none⟩)), (5, .pointer (some ⟨b5, 0, none⟩)), (6, .pointer (some ⟨b7, 0, none⟩)), (7, .pointer (some ⟨b9, 0, none⟩)), (8, .pointer (some ⟨b19, 0, none⟩)), (9, .slice A26 numbers_294.length c27), (10, .int .i64 count_295), (28, .int .i64 t30), (29, .int .i64 x296)] k_l1 w (impl_Diagram_without.post w0 L d_Crossings d_Circles a_from a_to crossings A_d_Crossings c_d_Crossings A_a_from c_a_from A_a_to c_a_to A_crossings c_crossings r1 r2) := by
   intro m_l1
   induction m_l1 using Nat.strongRecOn with
   | _ m_l1 ih_l1 =>
    intro hm_l1 work_293 numbers_294 count_295 x296 w H HS
    cases m_l1 with
    | zero => rw [impl_Diagram_without.l1] at H; cases H
    | succ n_l1 =>
     rw [impl_Diagram_without.l1] at H
     subst hk_l1
     refine G.seq ?_
     refine G.region ?_
     refine GO.lss rfl rfl rfl rfl ?_
     refine GO.nil ?_
     refine G.seq ?_
     rcases ite_elim H with ⟨c556, H⟩ | ⟨c556, H⟩
     ·
      refine G.yesB rfl (decide_eq_true c556) ?_
      refine G.skip ?_
      refine G.seq ?_
      refine G.block ?_
      refine G.seq ?_
      refine G.region ?_
      refine GO.move rfl rfl rfl ?_
      refine GO.assign rfl rfl rfl ?_
      refine GO.nil ?_
      refine G.seq ?_
      refine G.seq ?_
      obtain ⟨c557, H⟩ := ite_none H
      obtain ⟨e558, h559, H⟩ := bnd_elim H
      obtain ⟨t560, h561, H⟩ := Option.bind_eq_some_iff.1 H
      refine G.regionAny mixed (by decide) (fun b a w => ∃ (Y1_0 : Value) (Y2_1 : Value) (Y3_2 : Value) (Y4_3 : Value) (Y5_4 : Value) (Y6_5 : Value) (Y7_6 : Value), Sat 128 [(32, Y1_0), (33, Y2_1), (34, Y3_2), (35, Y4_3), (36, Y5_4), (37, Y6_5), (38, Y7_6), (3, .pointer (some ⟨b1, 0, none⟩)), (4, .pointer (some ⟨b3, 0, none⟩)), (5, .pointer (some ⟨b5, 0, none⟩)), (6, .pointer (some ⟨b7, 0, none⟩)), (7, .pointer (some ⟨b9, 0, none⟩)), (8, .pointer (some ⟨b19, 0, none⟩)), (9, .slice A26 numbers_294.length c27), (10, .int .i64 count_295), (11, .int .i64 x296), (28, .int .i64 t30), (29, .int .i64 x296)] a ∧ St w0 w (Box b1 28 [.slice A_d_Crossings d_Crossings.length c_d_Crossings, .int .i64 d_Circles] :: Box b3 63 [.slice A_a_from a_from.length c_a_from, .slice A_a_to a_to.length c_a_to] :: Box b5 43 [.slice A_crossings crossings.length c_crossings] :: Box b7 28 [.slice none 0 0, .int .i64 0] :: Box b9 138 [.func (.func 130) #[] #[.pointer (some ⟨b5, 0, none⟩)]] :: Box b19 28 [.slice A15 work_293.length c16, .int .i64 t13] :: Own T_GCrossing 58 A15 c16 (fun _ => ()) work_293 :: Own (TInt .i64) 2 A26 c27 (fun _ => ()) numbers_294 :: L) ∧ (b 0 = true → Y1_0 = (.func (.func 130) #[] #[.pointer (some ⟨b5, 0, none⟩)])) ∧ (b 1 = true → Y2_1 = (.pointer (some ⟨b3, 0, none⟩))) ∧ (b 2 = true → Y3_2 = (.slice A_a_from a_from.length c_a_from)) ∧ (b 3 = true → Y4_3 = (.int .i64 x296)) ∧ (b 4 = true → Y5_4 = (.pointer (some (ea A_a_from (x296.toNat * 2))))) ∧ (b 5 = true → Y6_5 = (.agg [.int .i64 e558.crossing, .int .i64 e558.position].toArray)) ∧ (b 6 = true → Y7_6 = (.bool t560))) ?_ ?_ ?_
      ·
       intro a hs
       obtain ⟨Y1_0, hs⟩ := hs.ext (d := 32) rfl
       obtain ⟨Y2_1, hs⟩ := hs.ext (d := 33) rfl
       obtain ⟨Y3_2, hs⟩ := hs.ext (d := 34) rfl
       obtain ⟨Y4_3, hs⟩ := hs.ext (d := 35) rfl
       obtain ⟨Y5_4, hs⟩ := hs.ext (d := 36) rfl
       obtain ⟨Y6_5, hs⟩ := hs.ext (d := 37) rfl
       obtain ⟨Y7_6, hs⟩ := hs.ext (d := 38) rfl
       exact ⟨Y1_0, Y2_1, Y3_2, Y4_3, Y5_4, Y6_5, Y7_6, hs.weak ⟨rfl, rfl, rfl, rfl, rfl, rfl, rfl, rfl, rfl, rfl, rfl, rfl, rfl, rfl, rfl, rfl, rfl, rfl, trivial⟩, (HS.drew.pk 8 [0, 1, 2, 3, 4, 5, 6, 7] rfl), fun h => Bool.noConfusion h, fun h => Bool.noConfusion h, fun h => Bool.noConfusion h, fun h => Bool.noConfusion h, fun h => Bool.noConfusion h, fun h => Bool.noConfusion h, fun h => Bool.noConfusion h⟩
      ·
       intro j hj b a w
       refine exI fun Y1_0 => exI fun Y2_1 => exI fun Y3_2 => exI fun Y4_3 => exI fun Y5_4 => exI fun Y6_5 => exI fun Y7_6 => anI fun hs => anI fun HS => anI fun f0 => anI fun f1 => anI fun f2 => anI fun f3 => anI fun f4 => anI fun f5 => fun f6 hb hd hcl => ?_
       match j, hj with
       | 0, _ =>
        refine GO.at hs ?_
        refine GO.ldBox (j := 4) HS rfl rfl rfl rfl na138 rfl ?_
        refine GO.fin (fun a hs => ?_)
        exact ⟨(.func (.func 130) #[] #[.pointer (some ⟨b5, 0, none⟩)]), _, _, _, _, _, _, by exact hs.setAt 0 rfl, HS, fun _ => rfl, f1, f2, f3, f4, f5, f6⟩
       | 1, _ =>
        refine GO.at hs ?_
        refine GO.fld (⟨b3, 0, none⟩) rfl rfl fl63_0 rfl rfl ?_
        refine GO.fin (fun a hs => ?_)
        exact ⟨_, (.pointer (some ⟨b3, 0, none⟩)), _, _, _, _, _, by exact hs.setAt 1 rfl, HS, f0, fun _ => rfl, f2, f3, f4, f5, f6⟩
       | 2, _ =>
        have hb1 : b 1 = true := hd 1 (by decide)
        obtain rfl := f1 hb1
        refine GO.at hs ?_
        refine GO.ldBox (j := 1) HS rfl rfl rfl rfl na61 rfl ?_
        refine GO.fin (fun a hs => ?_)
        exact ⟨_, _, (.slice A_a_from a_from.length c_a_from), _, _, _, _, by exact hs.setAt 2 rfl, HS, f0, f1, fun _ => rfl, f3, f4, f5, f6⟩
       | 3, _ =>
        refine GO.at hs ?_
        refine GO.move rfl rfl rfl ?_
        refine GO.fin (fun a hs => ?_)
        exact ⟨_, _, _, (.int .i64 x296), _, _, _, by exact hs.setAt 3 rfl, HS, f0, f1, f2, fun _ => rfl, f4, f5, f6⟩
       | 4, _ =>
        have hb2 : b 2 = true := hd 2 (by decide)
        obtain rfl := f2 hb2
        have hb3 : b 3 = true := hd 3 (by decide)
        obtain rfl := f3 hb3
        refine GO.at hs ?_
        refine GO.ix rfl rfl rfl Try.underlying61 sz68 ((RdIn.drop 8 h_a_from) _ HS).2.2.1 c557.1 c557.2 rfl ?_
        refine GO.fin (fun a hs => ?_)
        exact ⟨_, _, _, _, (.pointer (some (ea A_a_from (x296.toNat * 2)))), _, _, by exact hs.setAt 4 rfl, HS, f0, f1, f2, f3, fun _ => rfl, f5, f6⟩
       | 5, _ =>
        have hb4 : b 4 = true := hd 4 (by decide)
        obtain rfl := f4 hb4
        refine GO.at hs ?_
        refine GO.ldRdA (T := T_GEnd) (n := x296.toNat) HS (RdIn.drop 8 h_a_from) rfl rfl (getD_eq (ltN c557) h559) ag68 rfl ?_
        refine GO.fin (fun a hs => ?_)
        exact ⟨_, _, _, _, _, (.agg [.int .i64 e558.crossing, .int .i64 e558.position].toArray), _, by exact hs.setAt 5 rfl, HS, f0, f1, f2, f3, f4, fun _ => rfl, f6⟩
       | 6, _ =>
        have hb0 : b 0 = true := hd 0 (by decide)
        obtain rfl := f0 hb0
        have hb5 : b 5 = true := hd 5 (by decide)
        obtain rfl := f5 hb5
        refine GO.at hs ?_
        replace HS := HS.pk 8 [2, 0, 1, 3, 4, 5, 6, 7] rfl
        refine GO.clo rfl rfl Try.func130 fok130.1 fok130.2 rfl rfl (impl_Diagram_without_fn1_free.calls HS (RdIn.drop 7 h_crossings) h561) (fun _ wd562 ⟨h563, HS⟩ => ⟨_, h563, ?_⟩)
        refine GO.fin (fun a hs => ?_)
        exact ⟨_, _, _, _, _, _, (.bool t560), by exact hs.setAt 6 rfl, HS.pk 8 [1, 2, 0, 3, 4, 5, 6, 7] rfl, f0, f1, f2, f3, f4, f5, fun _ => rfl⟩
       | k + 7, hj => exact absurd hj (Nat.not_lt.2 (Nat.le_add_left 7 k))
      ·
       intro b a w hall
       refine exI fun Y1_0 => exI fun Y2_1 => exI fun Y3_2 => exI fun Y4_3 => exI fun Y5_4 => exI fun Y6_5 => exI fun Y7_6 => anI fun hs => anI fun HS => anI fun f0 => anI fun f1 => anI fun f2 => anI fun f3 => anI fun f4 => anI fun f5 => fun f6 => ?_
       obtain rfl := f0 (hall 0 (by decide))
       obtain rfl := f1 (hall 1 (by decide))
       obtain rfl := f2 (hall 2 (by decide))
       obtain rfl := f3 (hall 3 (by decide))
       obtain rfl := f4 (hall 4 (by decide))
       obtain rfl := f5 (hall 5 (by decide))
       obtain rfl := f6 (hall 6 (by decide))
       refine G.at hs ?_
       rcases ite_elim H with ⟨c564, H⟩ | ⟨c564, H⟩
       ·
        refine G.yesB rfl c564 ?_
        refine G.exit rfl ?_
        refine G.region ?_
        refine GO.add rfl rfl rfl rfl ?_
        refine GO.move rfl rfl rfl ?_
        refine GO.nil ?_
        refine G.again ?_
        refine G.weak ?_ (ih_l1 n_l1 (Nat.lt_succ_of_le (Nat.le_refl _)) (Nat.le_of_succ_le hm_l1) _ _ _ _ _ H HS)
        exact ⟨rfl, rfl, rfl, rfl, rfl, rfl, rfl, rfl, rfl, rfl, trivial⟩
       ·
        refine G.noB rfl (bnot_of c564) ?_
        refine G.skip ?_
        refine G.seq ?_
        obtain ⟨c565, H⟩ := ite_none H
        refine G.region ?_
        refine GO.move rfl rfl rfl ?_
        refine GO.move rfl rfl rfl ?_
        refine GO.move rfl rfl rfl ?_
        refine GO.ix rfl rfl rfl Try.underlying43 sz2 ((RdIn.own (j := 7) rfl) _ HS).2.2.1 c565.1 c565.2 rfl ?_
        refine GO.stRow (T := (TInt .i64)) (j := 7) (n := x296.toNat) (o := 0) (vs := [.int .i64 count_295]) count_295 HS rfl flat_flat rfl rfl rfl rfl (htN na2 rfl) rfl (getD_some (d := 0) (ltN c565)) rfl rfl ?_; intro wd566 HS
        refine GO.nil ?_
        refine G.len (t := 9) (m := (numbers_294.set x296.toNat count_295).length) rfl (by simp only [List.length_set] <;> rfl) ?_
        refine G.seq ?_
        refine G.region ?_
        refine GO.move rfl rfl rfl ?_
        refine GO.add rfl rfl rfl rfl ?_
        refine GO.assign rfl rfl rfl ?_
        refine GO.nil ?_
        refine G.seq ?_
        refine G.region ?_
        refine GO.move rfl rfl rfl ?_
        refine GO.assign rfl rfl rfl ?_
        refine GO.nil ?_
        refine G.seq ?_
        refine G.block ?_
        refine G.loop ?_
        refine G.name (fun k_l12 hk_l12 => ?_)
        have at_l12 : ∀ m_l12, m_l12 ≤ n_l1 → ∀ (last_584 : Int) (w : World), impl_Diagram_without.l12 K m_l12 d_Crossings d_Circles a_from a_to crossings t13 t30 work_293 numbers_294 count_295 x296 last_584 = some (r1, r2) → St w0 w (Box b1 28 [.slice A_d_Crossings d_Crossings.length c_d_Crossings, .int .i64 d_Circles] :: Box b3 63 [.slice A_a_from a_from.length c_a_from, .slice A_a_to a_to.length c_a_to] :: Box b5 43 [.slice A_crossings crossings.length c_crossings] :: Box b7 28 [.slice none 0 0, .int .i64 0] :: Box b9 138 [.func (.func 130) #[] #[.pointer (some ⟨b5, 0, none⟩)]] :: Box b19 28 [.slice A15 work_293.length c16, .int .i64 t13] :: Own T_GCrossing 58 A15 c16 (fun _ => ()) work_293 :: Own (TInt .i64) 2 A26 c27 (fun _ => ()) (numbers_294.set x296.toNat count_295) :: L) → G Try.prog 82 128 [(3, .pointer (some ⟨b1, 0, none⟩)), (4, .pointer (some ⟨b3, 0, none⟩)), (5, .pointer (some ⟨b5, 0, none⟩)), (6, .pointer (some ⟨b7, 0, none⟩)), (7, .pointer (some ⟨b9, 0, none⟩)), (8, .pointer (some ⟨b19, 0, none⟩)), (9, .slice A26 (numbers_294.set x296.toNat count_295).length c27), (10, .int .i64 (w64 (count_295 + 1))), (11, .int .i64 x296), (12, .int .i64 last_584), (28, .int .i64 t30), (29, .int .i64 x296)] k_l12 w (impl_Diagram_without.post w0 L d_Crossings d_Circles a_from a_to crossings A_d_Crossings c_d_Crossings A_a_from c_a_from A_a_to c_a_to A_crossings c_crossings r1 r2) := by
         intro m_l12
         induction m_l12 using Nat.strongRecOn with
         | _ m_l12 ih_l12 =>
          intro hm_l12 last_584 w H HS
          cases m_l12 with
          | zero => rw [impl_Diagram_without.l12] at H; cases H
          | succ n_l12 =>
           rw [impl_Diagram_without.l12] at H
           subst hk_l12
           refine G.seq ?_
           refine G.seq ?_
           obtain ⟨c602, H⟩ := ite_none H
           obtain ⟨e603, h604, H⟩ := bnd_elim H
           obtain ⟨t605, h606, H⟩ := Option.bind_eq_some_iff.1 H
           refine G.regionAny mixed (by decide) (fun b a w => ∃ (Y8_0 : Value) (Y9_1 : Value) (Y10_2 : Value) (Y11_3 : Value) (Y12_4 : Value) (Y13_5 : Value) (Y14_6 : Value), Sat 128 [(46, Y8_0), (47, Y9_1), (48, Y10_2), (49, Y11_3), (50, Y12_4), (51, Y13_5), (52, Y14_6), (3, .pointer (some ⟨b1, 0, none⟩)), (4, .pointer (some ⟨b3, 0, none⟩)), (5, .pointer (some ⟨b5, 0, none⟩)), (6, .pointer (some ⟨b7, 0, none⟩)), (7, .pointer (some ⟨b9, 0, none⟩)), (8, .pointer (some ⟨b19, 0, none⟩)), (9, .slice A26 (numbers_294.set x296.toNat count_295).length c27), (10, .int .i64 (w64 (count_295 + 1))), (11, .int .i64 x296), (12, .int .i64 last_584), (28, .int .i64 t30), (29, .int .i64 x296)] a ∧ St w0 w (Box b1 28 [.slice A_d_Crossings d_Crossings.length c_d_Crossings, .int .i64 d_Circles] :: Box b3 63 [.slice A_a_from a_from.length c_a_from, .slice A_a_to a_to.length c_a_to] :: Box b5 43 [.slice A_crossings crossings.length c_crossings] :: Box b7 28 [.slice none 0 0, .int .i64 0] :: Box b9 138 [.func (.func 130) #[] #[.pointer (some ⟨b5, 0, none⟩)]] :: Box b19 28 [.slice A15 work_293.length c16, .int .i64 t13] :: Own T_GCrossing 58 A15 c16 (fun _ => ()) work_293 :: Own (TInt .i64) 2 A26 c27 (fun _ => ()) (numbers_294.set x296.toNat count_295) :: L) ∧ (b 0 = true → Y8_0 = (.func (.func 130) #[] #[.pointer (some ⟨b5, 0, none⟩)])) ∧ (b 1 = true → Y9_1 = (.pointer (some ⟨b3, 1, none⟩))) ∧ (b 2 = true → Y10_2 = (.slice A_a_to a_to.length c_a_to)) ∧ (b 3 = true → Y11_3 = (.int .i64 last_584)) ∧ (b 4 = true → Y12_4 = (.pointer (some (ea A_a_to (last_584.toNat * 2))))) ∧ (b 5 = true → Y13_5 = (.agg [.int .i64 e603.crossing, .int .i64 e603.position].toArray)) ∧ (b 6 = true → Y14_6 = (.bool t605))) ?_ ?_ ?_
           ·
            intro a hs
            obtain ⟨Y8_0, hs⟩ := hs.ext (d := 46) rfl
            obtain ⟨Y9_1, hs⟩ := hs.ext (d := 47) rfl
            obtain ⟨Y10_2, hs⟩ := hs.ext (d := 48) rfl
            obtain ⟨Y11_3, hs⟩ := hs.ext (d := 49) rfl
            obtain ⟨Y12_4, hs⟩ := hs.ext (d := 50) rfl
            obtain ⟨Y13_5, hs⟩ := hs.ext (d := 51) rfl
            obtain ⟨Y14_6, hs⟩ := hs.ext (d := 52) rfl
            exact ⟨Y8_0, Y9_1, Y10_2, Y11_3, Y12_4, Y13_5, Y14_6, hs.weak ⟨rfl, rfl, rfl, rfl, rfl, rfl, rfl, rfl, rfl, rfl, rfl, rfl, rfl, rfl, rfl, rfl, rfl, rfl, rfl, trivial⟩, (HS.drew.pk 8 [0, 1, 2, 3, 4, 5, 6, 7] rfl), fun h => Bool.noConfusion h, fun h => Bool.noConfusion h, fun h => Bool.noConfusion h, fun h => Bool.noConfusion h, fun h => Bool.noConfusion h, fun h => Bool.noConfusion h, fun h => Bool.noConfusion h⟩
           ·
            intro j hj b a w
            refine exI fun Y8_0 => exI fun Y9_1 => exI fun Y10_2 => exI fun Y11_3 => exI fun Y12_4 => exI fun Y13_5 => exI fun Y14_6 => anI fun hs => anI fun HS => anI fun f0 => anI fun f1 => anI fun f2 => anI fun f3 => anI fun f4 => anI fun f5 => fun f6 hb hd hcl => ?_
            match j, hj with
            | 0, _ =>
             refine GO.at hs ?_
             refine GO.ldBox (j := 4) HS rfl rfl rfl rfl na138 rfl ?_
             refine GO.fin (fun a hs => ?_)
             exact ⟨(.func (.func 130) #[] #[.pointer (some ⟨b5, 0, none⟩)]), _, _, _, _, _, _, by exact hs.setAt 0 rfl, HS, fun _ => rfl, f1, f2, f3, f4, f5, f6⟩
            | 1, _ =>
             refine GO.at hs ?_
             refine GO.fld (⟨b3, 1, none⟩) rfl rfl fl63_1 rfl rfl ?_
             refine GO.fin (fun a hs => ?_)
             exact ⟨_, (.pointer (some ⟨b3, 1, none⟩)), _, _, _, _, _, by exact hs.setAt 1 rfl, HS, f0, fun _ => rfl, f2, f3, f4, f5, f6⟩
            | 2, _ =>
             have hb1 : b 1 = true := hd 1 (by decide)
             obtain rfl := f1 hb1
             refine GO.at hs ?_
             refine GO.ldBox (j := 1) HS rfl rfl rfl rfl na61 rfl ?_
             refine GO.fin (fun a hs => ?_)
             exact ⟨_, _, (.slice A_a_to a_to.length c_a_to), _, _, _, _, by exact hs.setAt 2 rfl, HS, f0, f1, fun _ => rfl, f3, f4, f5, f6⟩
            | 3, _ =>
             refine GO.at hs ?_
             refine GO.move rfl rfl rfl ?_
             refine GO.fin (fun a hs => ?_)
             exact ⟨_, _, _, (.int .i64 last_584), _, _, _, by exact hs.setAt 3 rfl, HS, f0, f1, f2, fun _ => rfl, f4, f5, f6⟩
            | 4, _ =>
             have hb2 : b 2 = true := hd 2 (by decide)
             obtain rfl := f2 hb2
             have hb3 : b 3 = true := hd 3 (by decide)
             obtain rfl := f3 hb3
             refine GO.at hs ?_
             refine GO.ix rfl rfl rfl Try.underlying61 sz68 ((RdIn.drop 8 h_a_to) _ HS).2.2.1 c602.1 c602.2 rfl ?_
             refine GO.fin (fun a hs => ?_)
             exact ⟨_, _, _, _, (.pointer (some (ea A_a_to (last_584.toNat * 2)))), _, _, by exact hs.setAt 4 rfl, HS, f0, f1, f2, f3, fun _ => rfl, f5, f6⟩
            | 5, _ =>
             have hb4 : b 4 = true := hd 4 (by decide)
             obtain rfl := f4 hb4
             refine GO.at hs ?_
             refine GO.ldRdA (T := T_GEnd) (n := last_584.toNat) HS (RdIn.drop 8 h_a_to) rfl rfl (getD_eq (ltN c602) h604) ag68 rfl ?_
             refine GO.fin (fun a hs => ?_)
             exact ⟨_, _, _, _, _, (.agg [.int .i64 e603.crossing, .int .i64 e603.position].toArray), _, by exact hs.setAt 5 rfl, HS, f0, f1, f2, f3, f4, fun _ => rfl, f6⟩
            | 6, _ =>
             have hb0 : b 0 = true := hd 0 (by decide)
             obtain rfl := f0 hb0
             have hb5 : b 5 = true := hd 5 (by decide)
             obtain rfl := f5 hb5
             refine GO.at hs ?_
             replace HS := HS.pk 8 [2, 0, 1, 3, 4, 5, 6, 7] rfl
             refine GO.clo rfl rfl Try.func130 fok130.1 fok130.2 rfl rfl (impl_Diagram_without_fn1_free.calls HS (RdIn.drop 7 h_crossings) h606) (fun _ wd607 ⟨h608, HS⟩ => ⟨_, h608, ?_⟩)
             refine GO.fin (fun a hs => ?_)
             exact ⟨_, _, _, _, _, _, (.bool t605), by exact hs.setAt 6 rfl, HS.pk 8 [1, 2, 0, 3, 4, 5, 6, 7] rfl, f0, f1, f2, f3, f4, f5, fun _ => rfl⟩
            | k + 7, hj => exact absurd hj (Nat.not_lt.2 (Nat.le_add_left 7 k))
           ·
            intro b a w hall
            refine exI fun Y8_0 => exI fun Y9_1 => exI fun Y10_2 => exI fun Y11_3 => exI fun Y12_4 => exI fun Y13_5 => exI fun Y14_6 => anI fun hs => anI fun HS => anI fun f0 => anI fun f1 => anI fun f2 => anI fun f3 => anI fun f4 => anI fun f5 => fun f6 => ?_
            obtain rfl := f0 (hall 0 (by decide))
            obtain rfl := f1 (hall 1 (by decide))
            obtain rfl := f2 (hall 2 (by decide))
            obtain rfl := f3 (hall 3 (by decide))
            obtain rfl := f4 (hall 4 (by decide))
            obtain rfl := f5 (hall 5 (by decide))
            obtain rfl := f6 (hall 6 (by decide))
            refine G.at hs ?_
            rcases ite_elim H with ⟨c609, H⟩ | ⟨c609, H⟩
            ·
             refine G.yesB rfl c609 ?_
             refine G.skip ?_
             refine G.block ?_
             obtain ⟨t610, h611, H⟩ := Option.bind_eq_some_iff.1 H
             refine G.region ?_
             refine GO.ldBoxA (j := 0) ([.slice A_d_Crossings d_Crossings.length c_d_Crossings, .int .i64 d_Circles]) HS rfl rfl rfl rfl ag28 rfl ?_
             refine GO.ldBoxA (j := 1) ([.slice A_a_from a_from.length c_a_from, .slice A_a_to a_to.length c_a_to]) HS rfl rfl rfl rfl ag63 rfl ?_
             refine GO.move rfl rfl rfl ?_
             refine GO.fn rfl Try.func132 fok132.1 fok132.2 rfl rfl (impl_Diagram_next.calls HS (RdIn.drop 8 h_d_Crossings) (RdIn.drop 8 h_a_from) (RdIn.drop 8 h_a_to) h611) (fun _ wd612 ⟨h613, HS⟩ => ⟨_, h613, ?_⟩)
             refine GO.assign rfl rfl rfl ?_
             refine GO.nil ?_
             refine G.blockEnd ?_
             refine G.again ?_
             refine G.weak ?_ (ih_l12 n_l12 (Nat.lt_succ_of_le (Nat.le_refl _)) (Nat.le_of_succ_le hm_l12) _ _ H HS)
             exact ⟨rfl, rfl, rfl, rfl, rfl, rfl, rfl, rfl, rfl, rfl, rfl, rfl, trivial⟩
            ·
             refine G.noB rfl (bnot_of c609) ?_
             refine G.exit rfl ?_
             obtain ⟨t614, h615, H⟩ := Option.bind_eq_some_iff.1 H
             obtain ⟨c616, H⟩ := ite_none H
             refine G.regionAny mixed (by decide) (fun b a w => ∃ (Y15_0 : Value) (Y16_1 : Value) (Y17_2 : Value) (Y18_3 : Value) (Y19_4 : Value) (Y20_5 : Value) (Y21_6 : Value) (Y22_7 : Value) (O23_120 : HObj), Sat 128 [(57, Y15_0), (58, Y16_1), (59, Y17_2), (60, Y18_3), (61, Y19_4), (62, Y20_5), (63, Y21_6), (64, Y22_7), (3, .pointer (some ⟨b1, 0, none⟩)), (4, .pointer (some ⟨b3, 0, none⟩)), (5, .pointer (some ⟨b5, 0, none⟩)), (6, .pointer (some ⟨b7, 0, none⟩)), (7, .pointer (some ⟨b9, 0, none⟩)), (8, .pointer (some ⟨b19, 0, none⟩)), (9, .slice A26 (numbers_294.set x296.toNat count_295).length c27), (10, .int .i64 (w64 (count_295 + 1))), (11, .int .i64 x296), (12, .int .i64 last_584), (28, .int .i64 t30), (29, .int .i64 x296)] a ∧ St w0 w (Box b1 28 [.slice A_d_Crossings d_Crossings.length c_d_Crossings, .int .i64 d_Circles] :: Box b3 63 [.slice A_a_from a_from.length c_a_from, .slice A_a_to a_to.length c_a_to] :: Box b5 43 [.slice A_crossings crossings.length c_crossings] :: Box b7 28 [.slice none 0 0, .int .i64 0] :: Box b9 138 [.func (.func 130) #[] #[.pointer (some ⟨b5, 0, none⟩)]] :: Box b19 28 [.slice A15 work_293.length c16, .int .i64 t13] :: O23_120 :: Own (TInt .i64) 2 A26 c27 (fun _ => ()) (numbers_294.set x296.toNat count_295) :: L) ∧ (b 0 = true → Y15_0 = (.agg [.slice A15 work_293.length c16, .int .i64 t13].toArray)) ∧ (b 1 = true → Y16_1 = (.pointer (some ⟨b3, 1, none⟩))) ∧ (b 2 = true → Y17_2 = (.slice A_a_to a_to.length c_a_to)) ∧ (b 3 = true → Y18_3 = (.int .i64 last_584)) ∧ (b 4 = true → Y19_4 = (.pointer (some (ea A_a_to (last_584.toNat * 2))))) ∧ (b 5 = true → Y20_5 = (.agg [.int .i64 e603.crossing, .int .i64 e603.position].toArray)) ∧ (b 6 = true → Y21_6 = (.int .i64 x296)) ∧ (b 7 = true → Y22_7 = (.tuple #[])) ∧ (b 7 = false → O23_120 = Own T_GCrossing 58 A15 c16 (fun _ => ()) work_293) ∧ (b 7 = true → O23_120 = Own T_GCrossing 58 A15 c16 (fun _ => ()) t614)) ?_ ?_ ?_
             ·
              intro a hs
              obtain ⟨Y15_0, hs⟩ := hs.ext (d := 57) rfl
              obtain ⟨Y16_1, hs⟩ := hs.ext (d := 58) rfl
              obtain ⟨Y17_2, hs⟩ := hs.ext (d := 59) rfl
              obtain ⟨Y18_3, hs⟩ := hs.ext (d := 60) rfl
              obtain ⟨Y19_4, hs⟩ := hs.ext (d := 61) rfl
              obtain ⟨Y20_5, hs⟩ := hs.ext (d := 62) rfl
              obtain ⟨Y21_6, hs⟩ := hs.ext (d := 63) rfl
              obtain ⟨Y22_7, hs⟩ := hs.ext (d := 64) rfl
              exact ⟨Y15_0, Y16_1, Y17_2, Y18_3, Y19_4, Y20_5, Y21_6, Y22_7, Own T_GCrossing 58 A15 c16 (fun _ => ()) work_293, hs.weak ⟨rfl, rfl, rfl, rfl, rfl, rfl, rfl, rfl, rfl, rfl, rfl, rfl, rfl, rfl, rfl, rfl, rfl, rfl, rfl, rfl, trivial⟩, (HS.drew.pk 8 [0, 1, 2, 3, 4, 5, 6, 7] rfl), fun h => Bool.noConfusion h, fun h => Bool.noConfusion h, fun h => Bool.noConfusion h, fun h => Bool.noConfusion h, fun h => Bool.noConfusion h, fun h => Bool.noConfusion h, fun h => Bool.noConfusion h, fun h => Bool.noConfusion h, fun _ => rfl, fun h => Bool.noConfusion h⟩
             ·
              intro j hj b a w
              refine exI fun Y15_0 => exI fun Y16_1 => exI fun Y17_2 => exI fun Y18_3 => exI fun Y19_4 => exI fun Y20_5 => exI fun Y21_6 => exI fun Y22_7 => exI fun O23_120 => anI fun hs => anI fun HS => anI fun f0 => anI fun f1 => anI fun f2 => anI fun f3 => anI fun f4 => anI fun f5 => anI fun f6 => anI fun f7 => anI fun o120_0 => fun o120_1 hb hd hcl => ?_
              match j, hj with
              | 0, _ =>
               refine GO.at hs ?_
               refine GO.ldBoxA (j := 5) ([.slice A15 work_293.length c16, .int .i64 t13]) HS rfl rfl rfl rfl ag28 rfl ?_
               refine GO.fin (fun a hs => ?_)
               exact ⟨(.agg [.slice A15 work_293.length c16, .int .i64 t13].toArray), _, _, _, _, _, _, _, _, by exact hs.setAt 0 rfl, HS, fun _ => rfl, f1, f2, f3, f4, f5, f6, f7, o120_0, o120_1⟩
              | 1, _ =>
               refine GO.at hs ?_
               refine GO.fld (⟨b3, 1, none⟩) rfl rfl fl63_1 rfl rfl ?_
               refine GO.fin (fun a hs => ?_)
               exact ⟨_, (.pointer (some ⟨b3, 1, none⟩)), _, _, _, _, _, _, _, by exact hs.setAt 1 rfl, HS, f0, fun _ => rfl, f2, f3, f4, f5, f6, f7, o120_0, o120_1⟩
              | 2, _ =>
               have hb1 : b 1 = true := hd 1 (by decide)
               obtain rfl := f1 hb1
               refine GO.at hs ?_
               refine GO.ldBox (j := 1) HS rfl rfl rfl rfl na61 rfl ?_
               refine GO.fin (fun a hs => ?_)
               exact ⟨_, _, (.slice A_a_to a_to.length c_a_to), _, _, _, _, _, _, by exact hs.setAt 2 rfl, HS, f0, f1, fun _ => rfl, f3, f4, f5, f6, f7, o120_0, o120_1⟩
              | 3, _ =>
               refine GO.at hs ?_
               refine GO.move rfl rfl rfl ?_
               refine GO.fin (fun a hs => ?_)
               exact ⟨_, _, _, (.int .i64 last_584), _, _, _, _, _, by exact hs.setAt 3 rfl, HS, f0, f1, f2, fun _ => rfl, f4, f5, f6, f7, o120_0, o120_1⟩
              | 4, _ =>
               have hb2 : b 2 = true := hd 2 (by decide)
               obtain rfl := f2 hb2
               have hb3 : b 3 = true := hd 3 (by decide)
               obtain rfl := f3 hb3
               refine GO.at hs ?_
               refine GO.ix rfl rfl rfl Try.underlying61 sz68 ((RdIn.drop 8 h_a_to) _ HS).2.2.1 c602.1 c602.2 rfl ?_
               refine GO.fin (fun a hs => ?_)
               exact ⟨_, _, _, _, (.pointer (some (ea A_a_to (last_584.toNat * 2)))), _, _, _, _, by exact hs.setAt 4 rfl, HS, f0, f1, f2, f3, fun _ => rfl, f5, f6, f7, o120_0, o120_1⟩
              | 5, _ =>
               have hb4 : b 4 = true := hd 4 (by decide)
               obtain rfl := f4 hb4
               refine GO.at hs ?_
               refine GO.ldRdA (T := T_GEnd) (n := last_584.toNat) HS (RdIn.drop 8 h_a_to) rfl rfl (getD_eq (ltN c602) h604) ag68 rfl ?_
               refine GO.fin (fun a hs => ?_)
               exact ⟨_, _, _, _, _, (.agg [.int .i64 e603.crossing, .int .i64 e603.position].toArray), _, _, _, by exact hs.setAt 5 rfl, HS, f0, f1, f2, f3, f4, fun _ => rfl, f6, f7, o120_0, o120_1⟩
              | 6, _ =>
               refine GO.at hs ?_
               refine GO.move rfl rfl rfl ?_
               refine GO.fin (fun a hs => ?_)
               exact ⟨_, _, _, _, _, _, (.int .i64 x296), _, _, by exact hs.setAt 6 rfl, HS, f0, f1, f2, f3, f4, f5, fun _ => rfl, f7, o120_0, o120_1⟩
              | 7, _ =>
               have hb0 : b 0 = true := hd 0 (by decide)
               obtain rfl := f0 hb0
               have hb5 : b 5 = true := hd 5 (by decide)
               obtain rfl := f5 hb5
               have hb6 : b 6 = true := hd 6 (by decide)
               obtain rfl := f6 hb6
               obtain rfl := o120_0 hb
               refine GO.at hs ?_
               replace HS := HS.pk 8 [6, 0, 1, 2, 3, 4, 5, 7] rfl
               refine GO.fn rfl Try.func50 fok50.1 fok50.2 rfl rfl (impl_Diagram_set.calls HS  h615) (fun _ wd617 ⟨h618, HS⟩ => ⟨_, h618, ?_⟩)
               refine GO.fin (fun a hs => ?_)
               exact ⟨_, _, _, _, _, _, _, (.tuple #[]), Own T_GCrossing 58 A15 c16 (fun _ => ()) t614, by exact hs.setAt 7 rfl, HS.pk 8 [1, 2, 3, 4, 5, 6, 0, 7] rfl, f0, f1, f2, f3, f4, f5, f6, fun _ => rfl, fun h => Bool.noConfusion h, fun _ => rfl⟩
              | k + 8, hj => exact absurd hj (Nat.not_lt.2 (Nat.le_add_left 8 k))
             ·
              intro b a w hall
              refine exI fun Y15_0 => exI fun Y16_1 => exI fun Y17_2 => exI fun Y18_3 => exI fun Y19_4 => exI fun Y20_5 => exI fun Y21_6 => exI fun Y22_7 => exI fun O23_120 => anI fun hs => anI fun HS => anI fun f0 => anI fun f1 => anI fun f2 => anI fun f3 => anI fun f4 => anI fun f5 => anI fun f6 => anI fun f7 => anI fun o120_0 => fun o120_1 => ?_
              obtain rfl := f0 (hall 0 (by decide))
              obtain rfl := f1 (hall 1 (by decide))
              obtain rfl := f2 (hall 2 (by decide))
              obtain rfl := f3 (hall 3 (by decide))
              obtain rfl := f4 (hall 4 (by decide))
              obtain rfl := f5 (hall 5 (by decide))
              obtain rfl := f6 (hall 6 (by decide))
              obtain rfl := f7 (hall 7 (by decide))
              obtain rfl := o120_1 (hall 7 (by decide))
              refine G.at hs ?_
              replace HS := HS.boxEq (j := 5) (cs' := [.slice A15 t614.length c16, .int .i64 t13]) rfl (by simp only [List.length_set, c616] <;> rfl)
              refine G.blockEnd ?_
              refine G.region ?_
              refine GO.add rfl rfl rfl rfl ?_
              refine GO.move rfl rfl rfl ?_
              refine GO.nil ?_
              refine G.again ?_
              refine G.weak ?_ (ih_l1 n_l12 (Nat.lt_succ_of_le (Nat.le_of_succ_le hm_l12)) (Nat.le_trans (Nat.le_of_succ_le hm_l12) (Nat.le_of_succ_le hm_l1)) _ _ _ _ _ H HS)
              exact ⟨rfl, rfl, rfl, rfl, rfl, rfl, rfl, rfl, rfl, rfl, trivial⟩
        refine G.weak ?_ (at_l12 n_l1 (Nat.le_refl _) _ _ H HS)
        exact ⟨rfl, rfl, rfl, rfl, rfl, rfl, rfl, rfl, rfl, rfl, rfl, rfl, trivial⟩
     ·
      refine G.noB rfl (decide_eq_false c556) ?_
      refine G.exit rfl ?_
      refine G.seq ?_
      refine G.region ?_
      refine GO.fld (⟨b1, 1, none⟩) rfl rfl fl28_1 rfl rfl ?_
      refine GO.ldBox (j := 0) HS rfl rfl rfl rfl na2 rfl ?_
      refine GO.buildV (.agg [.slice none 0 0, .int .i64 d_Circles].toArray) rfl rfl (fun _ => by kernel_rfl) rfl ?_
      refine GO.alloc HS rfl zr28 rfl rfl ?_; intro b619 wd620 HS
      refine GO.stBox (j := 0) (vs := [.slice none 0 0, .int .i64 d_Circles]) ([.slice none 0 0, .int .i64 d_Circles]) HS rfl rfl rfl rfl rfl (htA ag28) rfl rfl rfl ?_; intro wd621 HS
      refine GO.nil ?_
      refine G.seq ?_
      refine G.seq ?_
      refine G.region ?_
      refine GO.fld (⟨b19, 0, none⟩) rfl rfl fl28_0 rfl rfl ?_
      refine GO.ldBox (j := 6) HS rfl rfl rfl rfl na26 rfl ?_
      refine GO.lenS rfl rfl Try.underlying26 rfl ?_
      refine GO.move rfl rfl rfl ?_
      refine GO.nil ?_
      refine G.block ?_
      refine G.loop ?_
      refine G.name (fun k_l13 hk_l13 => ?_)
      have at_l13 : ∀ m_l13, m_l13 ≤ n_l1 → ∀ (A685 : Option Addr) (c686 : Nat) (out_687 : List GCrossing) (x688 : Int) (w : World), impl_Diagram_without.l13 K m_l13 d_Crossings d_Circles a_from a_to crossings work_293 numbers_294 out_687 x688 = some (r1, r2) → St w0 w (Box b1 28 [.slice A_d_Crossings d_Crossings.length c_d_Crossings, .int .i64 d_Circles] :: Box b3 63 [.slice A_a_from a_from.length c_a_from, .slice A_a_to a_to.length c_a_to] :: Box b5 43 [.slice A_crossings crossings.length c_crossings] :: Box b7 28 [.slice none 0 0, .int .i64 0] :: Box b9 138 [.func (.func 130) #[] #[.pointer (some ⟨b5, 0, none⟩)]] :: Own (TInt .i64) 2 A26 c27 (fun _ => ()) numbers_294 :: Box b619 28 [.slice A685 out_687.length c686, .int .i64 d_Circles] :: Own T_GCrossing 58 A685 c686 (fun _ => ()) out_687 :: Own T_GCrossing 58 A15 c16 (fun _ => ()) work_293 :: L) → G Try.prog 82 128 [(3, .pointer (some ⟨b1, 0, none⟩)), (4, .pointer (some ⟨b3, 0, none⟩)), (5, .pointer (some ⟨b5, 0, none⟩)), (6, .pointer (some ⟨b7, 0, none⟩)), (7, .pointer (some ⟨b9, 0, none⟩)), (9, .slice A26 numbers_294.length c27), (13, .pointer (some ⟨b619, 0, none⟩)), (70, .slice A15 work_293.length c16), (71, .int .i64 (work_293.length : Int)), (72, .int .i64 x688)] k_l13 w (impl_Diagram_without.post w0 L d_Crossings d_Circles a_from a_to crossings A_d_Crossings c_d_Crossings A_a_from c_a_from A_a_to c_a_to A_crossings c_crossings r1 r2) := by
       intro m_l13
       induction m_l13 using Nat.strongRecOn with
       | _ m_l13 ih_l13 =>
        intro hm_l13 A685 c686 out_687 x688 w H HS
        cases m_l13 with
        | zero => rw [impl_Diagram_without.l13] at H; cases H
        | succ n_l13 =>
         rw [impl_Diagram_without.l13] at H
         subst hk_l13
         refine G.seq ?_
         refine G.region ?_
         refine GO.lss rfl rfl rfl rfl ?_
         refine GO.nil ?_
         refine G.seq ?_
         rcases ite_elim H with ⟨c752, H⟩ | ⟨c752, H⟩
         ·
          refine G.yesB rfl (decide_eq_true c752) ?_
          refine G.skip ?_
          refine G.seq ?_
          refine G.block ?_
          refine G.seq ?_
          obtain ⟨c753, H⟩ := ite_none H
          obtain ⟨e754, h755, H⟩ := bnd_elim H
          refine G.region ?_
          refine GO.move rfl rfl rfl ?_
          refine GO.ix rfl rfl rfl Try.underlying26 sz58 ((RdIn.own (j := 8) rfl) _ HS).2.2.1 c753.1 c753.2 rfl ?_
          refine GO.ldRdA (T := T_GCrossing) (n := x688.toNat) HS (RdIn.own (j := 8) rfl) rfl rfl (getD_eq (ltN c753) h755) ag58 rfl ?_
          refine GO.alloc HS rfl zr58 rfl rfl ?_; intro b756 wd757 HS
          refine GO.assign rfl rfl rfl ?_
          refine GO.stBox (j := 0) (vs := [.int .i64 e754.A, .int .i64 e754.B, .int .i64 e754.C, .int .i64 e754.D, .int .i64 e754.Sign]) ([.int .i64 e754.A, .int .i64 e754.B, .int .i64 e754.C, .int .i64 e754.D, .int .i64 e754.Sign]) HS rfl rfl rfl rfl rfl (htA ag58) rfl rfl rfl ?_; intro wd758 HS
          refine GO.nil ?_
          refine G.seq ?_
          obtain ⟨t759, h760, H⟩ := Option.bind_eq_some_iff.1 H
          refine G.region ?_
          refine GO.ldBox (j := 3) HS rfl rfl rfl rfl na43 rfl ?_
          refine GO.move rfl rfl rfl ?_
          refine GO.fn rfl Try.func131 fok131.1 fok131.2 rfl rfl (slices_Contains_int64_int64.calls HS (RdIn.drop 10 h_crossings) h760) (fun _ wd761 ⟨h762, HS⟩ => ⟨_, h762, ?_⟩)
          refine GO.not rfl rfl rfl ?_
          refine GO.nil ?_
          rcases ite_elim H with ⟨c763, H⟩ | ⟨c763, H⟩
          ·
           refine G.noB rfl (congrArg Bool.not c763) ?_
           refine G.skip ?_
           refine G.blockEnd ?_
           refine G.region ?_
           refine GO.add rfl rfl rfl rfl ?_
           refine GO.move rfl rfl rfl ?_
           refine GO.nil ?_
           refine G.again ?_
           refine G.weak ?_ (ih_l13 n_l13 (Nat.lt_succ_of_le (Nat.le_refl _)) (Nat.le_of_succ_le hm_l13) _ _ _ _ _ H (HS.pk 10 [1, 2, 3, 4, 5, 6, 7, 8, 9] rfl))
           exact ⟨rfl, rfl, rfl, rfl, rfl, rfl, rfl, rfl, rfl, rfl, trivial⟩
          ·
           refine G.yesB rfl (congrArg Bool.not (bnot_of c763)) ?_
           obtain ⟨c764, H⟩ := ite_none H
           have h765 := ((RdIn.own (j := 6) rfl) _ HS).2.2.1
           obtain ⟨c766, H⟩ := ite_none H
           have h767 := ((RdIn.own (j := 6) rfl) _ HS).2.2.1
           obtain ⟨c768, H⟩ := ite_none H
           have h769 := ((RdIn.own (j := 6) rfl) _ HS).2.2.1
           obtain ⟨c770, H⟩ := ite_none H
           have h771 := ((RdIn.own (j := 6) rfl) _ HS).2.2.1
           obtain ⟨c777, H⟩ := ite_none H
           refine G.regionAny mixed (by decide) (fun b a w => ∃ (Y24_0 : Value) (Y25_1 : Value) (Y26_2 : Value) (Y27_3 : Value) (Y28_4 : Value) (Y29_5 : Value) (Y30_6 : Value) (Y31_7 : Value) (Y32_8 : Value) (Y33_9 : Value) (Y34_10 : Value) (Y35_11 : Value) (Y36_12 : Value) (Y37_13 : Value) (Y38_14 : Value) (Y39_15 : Value) (Y40_16 : Value) (Y41_17 : Value) (Y42_18 : Value) (Y43_19 : Value) (Y44_20 : Value) (Y45_21 : Value) (Y46_22 : Value) (Y47_23 : Value) (Y48_24 : Value) (Y49_25 : Value) (Y50_26 : Value) (Y51_27 : Value) (b772 : Nat) (A775 : Option Addr) (c776 : Nat) (O52_129 : HObj) (O54_141 : HObj) (O53_153 : HObj), Sat 128 [(81, Y24_0), (82, Y25_1), (83, Y26_2), (84, Y27_3), (85, Y28_4), (86, Y29_5), (87, Y30_6), (88, Y31_7), (89, Y32_8), (90, Y33_9), (91, Y34_10), (92, Y35_11), (93, Y36_12), (94, Y37_13), (95, Y38_14), (96, Y39_15), (97, Y40_16), (98, Y41_17), (99, Y42_18), (100, Y43_19), (101, Y44_20), (102, Y45_21), (103, Y46_22), (104, Y47_23), (105, Y48_24), (106, Y49_25), (107, Y50_26), (108, Y51_27), (3, .pointer (some ⟨b1, 0, none⟩)), (4, .pointer (some ⟨b3, 0, none⟩)), (5, .pointer (some ⟨b5, 0, none⟩)), (6, .pointer (some ⟨b7, 0, none⟩)), (7, .pointer (some ⟨b9, 0, none⟩)), (9, .slice A26 numbers_294.length c27), (13, .pointer (some ⟨b619, 0, none⟩)), (15, .pointer (some ⟨b756, 0, none⟩)), (70, .slice A15 work_293.length c16), (71, .int .i64 (work_293.length : Int)), (72, .int .i64 x688)] a ∧ St w0 w (Box b756 58 [.int .i64 e754.A, .int .i64 e754.B, .int .i64 e754.C, .int .i64 e754.D, .int .i64 e754.Sign] :: Box b1 28 [.slice A_d_Crossings d_Crossings.length c_d_Crossings, .int .i64 d_Circles] :: Box b3 63 [.slice A_a_from a_from.length c_a_from, .slice A_a_to a_to.length c_a_to] :: Box b5 43 [.slice A_crossings crossings.length c_crossings] :: Box b7 28 [.slice none 0 0, .int .i64 0] :: Box b9 138 [.func (.func 130) #[] #[.pointer (some ⟨b5, 0, none⟩)]] :: Own (TInt .i64) 2 A26 c27 (fun _ => ()) numbers_294 :: O52_129 :: O54_141 :: Own T_GCrossing 58 A15 c16 (fun _ => ()) work_293 :: O53_153 :: L) ∧ (b 0 = true → Y24_0 = (.pointer (some ⟨b619, 0, none⟩))) ∧ (b 1 = true → Y25_1 = (.slice A685 out_687.length c686)) ∧ (b 2 = true → Y26_2 = (.slice A26 numbers_294.length c27)) ∧ (b 3 = true → Y27_3 = (.pointer (some ⟨b756, 0, none⟩))) ∧ (b 4 = true → Y28_4 = (.int .i64 e754.A)) ∧ (b 5 = true → Y29_5 = (.pointer (some (ea A26 (e754.A.toNat * 1))))) ∧ (b 6 = true → Y30_6 = (.int .i64 (numbers_294.getD e754.A.toNat 0))) ∧ (b 7 = true → Y31_7 = (.slice A26 numbers_294.length c27)) ∧ (b 8 = true → Y32_8 = (.pointer (some ⟨b756, 1, none⟩))) ∧ (b 9 = true → Y33_9 = (.int .i64 e754.B)) ∧ (b 10 = true → Y34_10 = (.pointer (some (ea A26 (e754.B.toNat * 1))))) ∧ (b 11 = true → Y35_11 = (.int .i64 (numbers_294.getD e754.B.toNat 0))) ∧ (b 12 = true → Y36_12 = (.slice A26 numbers_294.length c27)) ∧ (b 13 = true → Y37_13 = (.pointer (some ⟨b756, 2, none⟩))) ∧ (b 14 = true → Y38_14 = (.int .i64 e754.C)) ∧ (b 15 = true → Y39_15 = (.pointer (some (ea A26 (e754.C.toNat * 1))))) ∧ (b 16 = true → Y40_16 = (.int .i64 (numbers_294.getD e754.C.toNat 0))) ∧ (b 17 = true → Y41_17 = (.slice A26 numbers_294.length c27)) ∧ (b 18 = true → Y42_18 = (.pointer (some ⟨b756, 3, none⟩))) ∧ (b 19 = true → Y43_19 = (.int .i64 e754.D)) ∧ (b 20 = true → Y44_20 = (.pointer (some (ea A26 (e754.D.toNat * 1))))) ∧ (b 21 = true → Y45_21 = (.int .i64 (numbers_294.getD e754.D.toNat 0))) ∧ (b 22 = true → Y46_22 = (.pointer (some ⟨b756, 4, none⟩))) ∧ (b 23 = true → Y47_23 = (.int .i64 e754.Sign)) ∧ (b 24 = true → Y48_24 = (.agg [.int .i64 (numbers_294.getD e754.A.toNat 0), .int .i64 (numbers_294.getD e754.B.toNat 0), .int .i64 (numbers_294.getD e754.C.toNat 0), .int .i64 (numbers_294.getD e754.D.toNat 0), .int .i64 e754.Sign].toArray)) ∧ (b 25 = true → Y49_25 = (.slice (some ⟨b772, 0, none⟩) 1 1)) ∧ (b 26 = true → Y50_26 = (.slice A775 (out_687 ++ [(⟨numbers_294.getD e754.A.toNat 0, numbers_294.getD e754.B.toNat 0, numbers_294.getD e754.C.toNat 0, numbers_294.getD e754.D.toNat 0, e754.Sign⟩ : GCrossing)]).length c776)) ∧ (b 27 = true → Y51_27 = (.pointer (some ⟨b619, 0, none⟩))) ∧ (b 28 = false → O52_129 = Box b619 28 [.slice A685 out_687.length c686, .int .i64 d_Circles]) ∧ (b 28 = true → O52_129 = Box b619 28 [.slice A775 (out_687 ++ [(⟨numbers_294.getD e754.A.toNat 0, numbers_294.getD e754.B.toNat 0, numbers_294.getD e754.C.toNat 0, numbers_294.getD e754.D.toNat 0, e754.Sign⟩ : GCrossing)]).length c776, .int .i64 d_Circles]) ∧ (b 26 = false → O54_141 = Own T_GCrossing 58 A685 c686 (fun _ => ()) out_687) ∧ (b 26 = true → O54_141 = Own T_GCrossing 58 A775 c776 (fun _ => ()) (out_687 ++ [(⟨numbers_294.getD e754.A.toNat 0, numbers_294.getD e754.B.toNat 0, numbers_294.getD e754.C.toNat 0, numbers_294.getD e754.D.toNat 0, e754.Sign⟩ : GCrossing)])) ∧ (b 25 = true → O53_153 = Box b772 58 [.int .i64 (numbers_294.getD e754.A.toNat 0), .int .i64 (numbers_294.getD e754.B.toNat 0), .int .i64 (numbers_294.getD e754.C.toNat 0), .int .i64 (numbers_294.getD e754.D.toNat 0), .int .i64 e754.Sign])) ?_ ?_ ?_
           ·
            intro a hs
            obtain ⟨Y24_0, hs⟩ := hs.ext (d := 81) rfl
            obtain ⟨Y25_1, hs⟩ := hs.ext (d := 82) rfl
            obtain ⟨Y26_2, hs⟩ := hs.ext (d := 83) rfl
            obtain ⟨Y27_3, hs⟩ := hs.ext (d := 84) rfl
            obtain ⟨Y28_4, hs⟩ := hs.ext (d := 85) rfl
            obtain ⟨Y29_5, hs⟩ := hs.ext (d := 86) rfl
            obtain ⟨Y30_6, hs⟩ := hs.ext (d := 87) rfl
            obtain ⟨Y31_7, hs⟩ := hs.ext (d := 88) rfl
            obtain ⟨Y32_8, hs⟩ := hs.ext (d := 89) rfl
            obtain ⟨Y33_9, hs⟩ := hs.ext (d := 90) rfl
            obtain ⟨Y34_10, hs⟩ := hs.ext (d := 91) rfl
            obtain ⟨Y35_11, hs⟩ := hs.ext (d := 92) rfl
            obtain ⟨Y36_12, hs⟩ := hs.ext (d := 93) rfl
            obtain ⟨Y37_13, hs⟩ := hs.ext (d := 94) rfl
            obtain ⟨Y38_14, hs⟩ := hs.ext (d := 95) rfl
            obtain ⟨Y39_15, hs⟩ := hs.ext (d := 96) rfl
            obtain ⟨Y40_16, hs⟩ := hs.ext (d := 97) rfl
            obtain ⟨Y41_17, hs⟩ := hs.ext (d := 98) rfl
            obtain ⟨Y42_18, hs⟩ := hs.ext (d := 99) rfl
            obtain ⟨Y43_19, hs⟩ := hs.ext (d := 100) rfl
            obtain ⟨Y44_20, hs⟩ := hs.ext (d := 101) rfl
            obtain ⟨Y45_21, hs⟩ := hs.ext (d := 102) rfl
            obtain ⟨Y46_22, hs⟩ := hs.ext (d := 103) rfl
            obtain ⟨Y47_23, hs⟩ := hs.ext (d := 104) rfl
            obtain ⟨Y48_24, hs⟩ := hs.ext (d := 105) rfl
            obtain ⟨Y49_25, hs⟩ := hs.ext (d := 106) rfl
            obtain ⟨Y50_26, hs⟩ := hs.ext (d := 107) rfl
            obtain ⟨Y51_27, hs⟩ := hs.ext (d := 108) rfl
            exact ⟨Y24_0, Y25_1, Y26_2, Y27_3, Y28_4, Y29_5, Y30_6, Y31_7, Y32_8, Y33_9, Y34_10, Y35_11, Y36_12, Y37_13, Y38_14, Y39_15, Y40_16, Y41_17, Y42_18, Y43_19, Y44_20, Y45_21, Y46_22, Y47_23, Y48_24, Y49_25, Y50_26, Y51_27, 0, none, 0, Box b619 28 [.slice A685 out_687.length c686, .int .i64 d_Circles], Own T_GCrossing 58 A685 c686 (fun _ => ()) out_687, Emp, hs.weak ⟨rfl, rfl, rfl, rfl, rfl, rfl, rfl, rfl, rfl, rfl, rfl, rfl, rfl, rfl, rfl, rfl, rfl, rfl, rfl, rfl, rfl, rfl, rfl, rfl, rfl, rfl, rfl, rfl, rfl, rfl, rfl, rfl, rfl, rfl, rfl, rfl, rfl, rfl, rfl, trivial⟩, (HS.drew.emp.pk 11 [1, 2, 3, 4, 5, 6, 7, 8, 9, 10, 0] rfl), fun h => Bool.noConfusion h, fun h => Bool.noConfusion h, fun h => Bool.noConfusion h, fun h => Bool.noConfusion h, fun h => Bool.noConfusion h, fun h => Bool.noConfusion h, fun h => Bool.noConfusion h, fun h => Bool.noConfusion h, fun h => Bool.noConfusion h, fun h => Bool.noConfusion h, fun h => Bool.noConfusion h, fun h => Bool.noConfusion h, fun h => Bool.noConfusion h, fun h => Bool.noConfusion h, fun h => Bool.noConfusion h, fun h => Bool.noConfusion h, fun h => Bool.noConfusion h, fun h => Bool.noConfusion h, fun h => Bool.noConfusion h, fun h => Bool.noConfusion h, fun h => Bool.noConfusion h, fun h => Bool.noConfusion h, fun h => Bool.noConfusion h, fun h => Bool.noConfusion h, fun h => Bool.noConfusion h, fun h => Bool.noConfusion h, fun h => Bool.noConfusion h, fun h => Bool.noConfusion h, fun _ => rfl, fun h => Bool.noConfusion h, fun _ => rfl, fun h => Bool.noConfusion h, fun h => Bool.noConfusion h⟩
           ·
            intro j hj b a w
            refine exI fun Y24_0 => exI fun Y25_1 => exI fun Y26_2 => exI fun Y27_3 => exI fun Y28_4 => exI fun Y29_5 => exI fun Y30_6 => exI fun Y31_7 => exI fun Y32_8 => exI fun Y33_9 => exI fun Y34_10 => exI fun Y35_11 => exI fun Y36_12 => exI fun Y37_13 => exI fun Y38_14 => exI fun Y39_15 => exI fun Y40_16 => exI fun Y41_17 => exI fun Y42_18 => exI fun Y43_19 => exI fun Y44_20 => exI fun Y45_21 => exI fun Y46_22 => exI fun Y47_23 => exI fun Y48_24 => exI fun Y49_25 => exI fun Y50_26 => exI fun Y51_27 => exI fun b772 => exI fun A775 => exI fun c776 => exI fun O52_129 => exI fun O54_141 => exI fun O53_153 => anI fun hs => anI fun HS => anI fun f0 => anI fun f1 => anI fun f2 => anI fun f3 => anI fun f4 => anI fun f5 => anI fun f6 => anI fun f7 => anI fun f8 => anI fun f9 => anI fun f10 => anI fun f11 => anI fun f12 => anI fun f13 => anI fun f14 => anI fun f15 => anI fun f16 => anI fun f17 => anI fun f18 => anI fun f19 => anI fun f20 => anI fun f21 => anI fun f22 => anI fun f23 => anI fun f24 => anI fun f25 => anI fun f26 => anI fun f27 => anI fun o129_0 => anI fun o129_1 => anI fun o141_0 => anI fun o141_1 => fun o153_0 hb hd hcl => ?_
            match j, hj with
            | 0, _ =>
             refine GO.at hs ?_
             refine GO.fld (⟨b619, 0, none⟩) rfl rfl fl28_0 rfl rfl ?_
             refine GO.fin (fun a hs => ?_)
             exact ⟨(.pointer (some ⟨b619, 0, none⟩)), _, _, _, _, _, _, _, _, _, _, _, _, _, _, _, _, _, _, _, _, _, _, _, _, _, _, _, b772, A775, c776, _, _, _, by exact hs.setAt 0 rfl, HS, fun _ => rfl, f1, f2, f3, f4, f5, f6, f7, f8, f9, f10, f11, f12, f13, f14, f15, f16, f17, f18, f19, f20, f21, f22, f23, f24, f25, f26, f27, o129_0, o129_1, o141_0, o141_1, o153_0⟩
            | 1, _ =>
             have hb0 : b 0 = true := hd 0 (by decide)
             obtain rfl := f0 hb0
             have d28 : b 28 = false := bfalse (fun hh => hcl 28 (by decide) (hh) 1 (by decide)) hb
             obtain rfl := o129_0 d28
             refine GO.at hs ?_
             refine GO.ldBox (j := 7) HS rfl rfl rfl rfl na26 rfl ?_
             refine GO.fin (fun a hs => ?_)
             exact ⟨_, (.slice A685 out_687.length c686), _, _, _, _, _, _, _, _, _, _, _, _, _, _, _, _, _, _, _, _, _, _, _, _, _, _, b772, A775, c776, _, _, _, by exact hs.setAt 1 rfl, HS, f0, fun _ => rfl, f2, f3, f4, f5, f6, f7, f8, f9, f10, f11, f12, f13, f14, f15, f16, f17, f18, f19, f20, f21, f22, f23, f24, f25, f26, f27, o129_0, o129_1, o141_0, o141_1, o153_0⟩
            | 2, _ =>
             refine GO.at hs ?_
             refine GO.move rfl rfl rfl ?_
             refine GO.fin (fun a hs => ?_)
             exact ⟨_, _, (.slice A26 numbers_294.length c27), _, _, _, _, _, _, _, _, _, _, _, _, _, _, _, _, _, _, _, _, _, _, _, _, _, b772, A775, c776, _, _, _, by exact hs.setAt 2 rfl, HS, f0, f1, fun _ => rfl, f3, f4, f5, f6, f7, f8, f9, f10, f11, f12, f13, f14, f15, f16, f17, f18, f19, f20, f21, f22, f23, f24, f25, f26, f27, o129_0, o129_1, o141_0, o141_1, o153_0⟩
            | 3, _ =>
             refine GO.at hs ?_
             refine GO.fld (⟨b756, 0, none⟩) rfl rfl fl58_0 rfl rfl ?_
             refine GO.fin (fun a hs => ?_)
             exact ⟨_, _, _, (.pointer (some ⟨b756, 0, none⟩)), _, _, _, _, _, _, _, _, _, _, _, _, _, _, _, _, _, _, _, _, _, _, _, _, b772, A775, c776, _, _, _, by exact hs.setAt 3 rfl, HS, f0, f1, f2, fun _ => rfl, f4, f5, f6, f7, f8, f9, f10, f11, f12, f13, f14, f15, f16, f17, f18, f19, f20, f21, f22, f23, f24, f25, f26, f27, o129_0, o129_1, o141_0, o141_1, o153_0⟩
            | 4, _ =>
             have hb3 : b 3 = true := hd 3 (by decide)
             obtain rfl := f3 hb3
             refine GO.at hs ?_
             refine GO.ldBox (j := 0) HS rfl rfl rfl rfl na2 rfl ?_
             refine GO.fin (fun a hs => ?_)
             exact ⟨_, _, _, _, (.int .i64 e754.A), _, _, _, _, _, _, _, _, _, _, _, _, _, _, _, _, _, _, _, _, _, _, _, b772, A775, c776, _, _, _, by exact hs.setAt 4 rfl, HS, f0, f1, f2, f3, fun _ => rfl, f5, f6, f7, f8, f9, f10, f11, f12, f13, f14, f15, f16, f17, f18, f19, f20, f21, f22, f23, f24, f25, f26, f27, o129_0, o129_1, o141_0, o141_1, o153_0⟩
            | 5, _ =>
             have hb2 : b 2 = true := hd 2 (by decide)
             obtain rfl := f2 hb2
             have hb4 : b 4 = true := hd 4 (by decide)
             obtain rfl := f4 hb4
             refine GO.at hs ?_
             refine GO.ix rfl rfl rfl Try.underlying43 sz2 h765 c764.1 c764.2 rfl ?_
             refine GO.fin (fun a hs => ?_)
             exact ⟨_, _, _, _, _, (.pointer (some (ea A26 (e754.A.toNat * 1)))), _, _, _, _, _, _, _, _, _, _, _, _, _, _, _, _, _, _, _, _, _, _, b772, A775, c776, _, _, _, by exact hs.setAt 5 rfl, HS, f0, f1, f2, f3, f4, fun _ => rfl, f6, f7, f8, f9, f10, f11, f12, f13, f14, f15, f16, f17, f18, f19, f20, f21, f22, f23, f24, f25, f26, f27, o129_0, o129_1, o141_0, o141_1, o153_0⟩
            | 6, _ =>
             have hb5 : b 5 = true := hd 5 (by decide)
             obtain rfl := f5 hb5
             refine GO.at hs ?_
             refine GO.ldRd (T := (TInt .i64)) (n := e754.A.toNat) (o := 0) HS (RdIn.own (j := 6) rfl) rfl rfl (getD_some (d := 0) (ltN c764)) rfl rfl na2 rfl ?_
             refine GO.fin (fun a hs => ?_)
             exact ⟨_, _, _, _, _, _, (.int .i64 (numbers_294.getD e754.A.toNat 0)), _, _, _, _, _, _, _, _, _, _, _, _, _, _, _, _, _, _, _, _, _, b772, A775, c776, _, _, _, by exact hs.setAt 6 rfl, HS, f0, f1, f2, f3, f4, f5, fun _ => rfl, f7, f8, f9, f10, f11, f12, f13, f14, f15, f16, f17, f18, f19, f20, f21, f22, f23, f24, f25, f26, f27, o129_0, o129_1, o141_0, o141_1, o153_0⟩
            | 7, _ =>
             refine GO.at hs ?_
             refine GO.move rfl rfl rfl ?_
             refine GO.fin (fun a hs => ?_)
             exact ⟨_, _, _, _, _, _, _, (.slice A26 numbers_294.length c27), _, _, _, _, _, _, _, _, _, _, _, _, _, _, _, _, _, _, _, _, b772, A775, c776, _, _, _, by exact hs.setAt 7 rfl, HS, f0, f1, f2, f3, f4, f5, f6, fun _ => rfl, f8, f9, f10, f11, f12, f13, f14, f15, f16, f17, f18, f19, f20, f21, f22, f23, f24, f25, f26, f27, o129_0, o129_1, o141_0, o141_1, o153_0⟩
            | 8, _ =>
             refine GO.at hs ?_
             refine GO.fld (⟨b756, 1, none⟩) rfl rfl fl58_1 rfl rfl ?_
             refine GO.fin (fun a hs => ?_)
             exact ⟨_, _, _, _, _, _, _, _, (.pointer (some ⟨b756, 1, none⟩)), _, _, _, _, _, _, _, _, _, _, _, _, _, _, _, _, _, _, _, b772, A775, c776, _, _, _, by exact hs.setAt 8 rfl, HS, f0, f1, f2, f3, f4, f5, f6, f7, fun _ => rfl, f9, f10, f11, f12, f13, f14, f15, f16, f17, f18, f19, f20, f21, f22, f23, f24, f25, f26, f27, o129_0, o129_1, o141_0, o141_1, o153_0⟩
            | 9, _ =>
             have hb8 : b 8 = true := hd 8 (by decide)
             obtain rfl := f8 hb8
             refine GO.at hs ?_
             refine GO.ldBox (j := 0) HS rfl rfl rfl rfl na2 rfl ?_
             refine GO.fin (fun a hs => ?_)
             exact ⟨_, _, _, _, _, _, _, _, _, (.int .i64 e754.B), _, _, _, _, _, _, _, _, _, _, _, _, _, _, _, _, _, _, b772, A775, c776, _, _, _, by exact hs.setAt 9 rfl, HS, f0, f1, f2, f3, f4, f5, f6, f7, f8, fun _ => rfl, f10, f11, f12, f13, f14, f15, f16, f17, f18, f19, f20, f21, f22, f23, f24, f25, f26, f27, o129_0, o129_1, o141_0, o141_1, o153_0⟩
            | 10, _ =>
             have hb7 : b 7 = true := hd 7 (by decide)
             obtain rfl := f7 hb7
             have hb9 : b 9 = true := hd 9 (by decide)
             obtain rfl := f9 hb9
             refine GO.at hs ?_
             refine GO.ix rfl rfl rfl Try.underlying43 sz2 h767 c766.1 c766.2 rfl ?_
             refine GO.fin (fun a hs => ?_)
             exact ⟨_, _, _, _, _, _, _, _, _, _, (.pointer (some (ea A26 (e754.B.toNat * 1)))), _, _, _, _, _, _, _, _, _, _, _, _, _, _, _, _, _, b772, A775, c776, _, _, _, by exact hs.setAt 10 rfl, HS, f0, f1, f2, f3, f4, f5, f6, f7, f8, f9, fun _ => rfl, f11, f12, f13, f14, f15, f16, f17, f18, f19, f20, f21, f22, f23, f24, f25, f26, f27, o129_0, o129_1, o141_0, o141_1, o153_0⟩
            | 11, _ =>
             have hb10 : b 10 = true := hd 10 (by decide)
             obtain rfl := f10 hb10
             refine GO.at hs ?_
             refine GO.ldRd (T := (TInt .i64)) (n := e754.B.toNat) (o := 0) HS (RdIn.own (j := 6) rfl) rfl rfl (getD_some (d := 0) (ltN c766)) rfl rfl na2 rfl ?_
             refine GO.fin (fun a hs => ?_)
             exact ⟨_, _, _, _, _, _, _, _, _, _, _, (.int .i64 (numbers_294.getD e754.B.toNat 0)), _, _, _, _, _, _, _, _, _, _, _, _, _, _, _, _, b772, A775, c776, _, _, _, by exact hs.setAt 11 rfl, HS, f0, f1, f2, f3, f4, f5, f6, f7, f8, f9, f10, fun _ => rfl, f12, f13, f14, f15, f16, f17, f18, f19, f20, f21, f22, f23, f24, f25, f26, f27, o129_0, o129_1, o141_0, o141_1, o153_0⟩
            | 12, _ =>
             refine GO.at hs ?_
             refine GO.move rfl rfl rfl ?_
             refine GO.fin (fun a hs => ?_)
             exact ⟨_, _, _, _, _, _, _, _, _, _, _, _, (.slice A26 numbers_294.length c27), _, _, _, _, _, _, _, _, _, _, _, _, _, _, _, b772, A775, c776, _, _, _, by exact hs.setAt 12 rfl, HS, f0, f1, f2, f3, f4, f5, f6, f7, f8, f9, f10, f11, fun _ => rfl, f13, f14, f15, f16, f17, f18, f19, f20, f21, f22, f23, f24, f25, f26, f27, o129_0, o129_1, o141_0, o141_1, o153_0⟩
            | 13, _ =>
             refine GO.at hs ?_
             refine GO.fld (⟨b756, 2, none⟩) rfl rfl fl58_2 rfl rfl ?_
             refine GO.fin (fun a hs => ?_)
             exact ⟨_, _, _, _, _, _, _, _, _, _, _, _, _, (.pointer (some ⟨b756, 2, none⟩)), _, _, _, _, _, _, _, _, _, _, _, _, _, _, b772, A775, c776, _, _, _, by exact hs.setAt 13 rfl, HS, f0, f1, f2, f3, f4, f5, f6, f7, f8, f9, f10, f11, f12, fun _ => rfl, f14, f15, f16, f17, f18, f19, f20, f21, f22, f23, f24, f25, f26, f27, o129_0, o129_1, o141_0, o141_1, o153_0⟩
            | 14, _ =>
             have hb13 : b 13 = true := hd 13 (by decide)
             obtain rfl := f13 hb13
             refine GO.at hs ?_
             refine GO.ldBox (j := 0) HS rfl rfl rfl rfl na2 rfl ?_
             refine GO.fin (fun a hs => ?_)
             exact ⟨_, _, _, _, _, _, _, _, _, _, _, _, _, _, (.int .i64 e754.C), _, _, _, _, _, _, _, _, _, _, _, _, _, b772, A775, c776, _, _, _, by exact hs.setAt 14 rfl, HS, f0, f1, f2, f3, f4, f5, f6, f7, f8, f9, f10, f11, f12, f13, fun _ => rfl, f15, f16, f17, f18, f19, f20, f21, f22, f23, f24, f25, f26, f27, o129_0, o129_1, o141_0, o141_1, o153_0⟩
            | 15, _ =>
             have hb12 : b 12 = true := hd 12 (by decide)
             obtain rfl := f12 hb12
             have hb14 : b 14 = true := hd 14 (by decide)
             obtain rfl := f14 hb14
             refine GO.at hs ?_
             refine GO.ix rfl rfl rfl Try.underlying43 sz2 h769 c768.1 c768.2 rfl ?_
             refine GO.fin (fun a hs => ?_)
             exact ⟨_, _, _, _, _, _, _, _, _, _, _, _, _, _, _, (.pointer (some (ea A26 (e754.C.toNat * 1)))), _, _, _, _, _, _, _, _, _, _, _, _, b772, A775, c776, _, _, _, by exact hs.setAt 15 rfl, HS, f0, f1, f2, f3, f4, f5, f6, f7, f8, f9, f10, f11, f12, f13, f14, fun _ => rfl, f16, f17, f18, f19, f20, f21, f22, f23, f24, f25, f26, f27, o129_0, o129_1, o141_0, o141_1, o153_0⟩
            | 16, _ =>
             have hb15 : b 15 = true := hd 15 (by decide)
             obtain rfl := f15 hb15
             refine GO.at hs ?_
             refine GO.ldRd (T := (TInt .i64)) (n := e754.C.toNat) (o := 0) HS (RdIn.own (j := 6) rfl) rfl rfl (getD_some (d := 0) (ltN c768)) rfl rfl na2 rfl ?_
             refine GO.fin (fun a hs => ?_)
             exact ⟨_, _, _, _, _, _, _, _, _, _, _, _, _, _, _, _, (.int .i64 (numbers_294.getD e754.C.toNat 0)), _, _, _, _, _, _, _, _, _, _, _, b772, A775, c776, _, _, _, by exact hs.setAt 16 rfl, HS, f0, f1, f2, f3, f4, f5, f6, f7, f8, f9, f10, f11, f12, f13, f14, f15, fun _ => rfl, f17, f18, f19, f20, f21, f22, f23, f24, f25, f26, f27, o129_0, o129_1, o141_0, o141_1, o153_0⟩
            | 17, _ =>
             refine GO.at hs ?_
             refine GO.move rfl rfl rfl ?_
             refine GO.fin (fun a hs => ?_)
             exact ⟨_, _, _, _, _, _, _, _, _, _, _, _, _, _, _, _, _, (.slice A26 numbers_294.length c27), _, _, _, _, _, _, _, _, _, _, b772, A775, c776, _, _, _, by exact hs.setAt 17 rfl, HS, f0, f1, f2, f3, f4, f5, f6, f7, f8, f9, f10, f11, f12, f13, f14, f15, f16, fun _ => rfl, f18, f19, f20, f21, f22, f23, f24, f25, f26, f27, o129_0, o129_1, o141_0, o141_1, o153_0⟩
            | 18, _ =>
             refine GO.at hs ?_
             refine GO.fld (⟨b756, 3, none⟩) rfl rfl fl58_3 rfl rfl ?_
             refine GO.fin (fun a hs => ?_)
             exact ⟨_, _, _, _, _, _, _, _, _, _, _, _, _, _, _, _, _, _, (.pointer (some ⟨b756, 3, none⟩)), _, _, _, _, _, _, _, _, _, b772, A775, c776, _, _, _, by exact hs.setAt 18 rfl, HS, f0, f1, f2, f3, f4, f5, f6, f7, f8, f9, f10, f11, f12, f13, f14, f15, f16, f17, fun _ => rfl, f19, f20, f21, f22, f23, f24, f25, f26, f27, o129_0, o129_1, o141_0, o141_1, o153_0⟩
            | 19, _ =>
             have hb18 : b 18 = true := hd 18 (by decide)
             obtain rfl := f18 hb18
             refine GO.at hs ?_
             refine GO.ldBox (j := 0) HS rfl rfl rfl rfl na2 rfl ?_
             refine GO.fin (fun a hs => ?_)
             exact ⟨_, _, _, _, _, _, _, _, _, _, _, _, _, _, _, _, _, _, _, (.int .i64 e754.D), _, _, _, _, _, _, _, _, b772, A775, c776, _, _, _, by exact hs.setAt 19 rfl, HS, f0, f1, f2, f3, f4, f5, f6, f7, f8, f9, f10, f11, f12, f13, f14, f15, f16, f17, f18, fun _ => rfl, f20, f21, f22, f23, f24, f25, f26, f27, o129_0, o129_1, o141_0, o141_1, o153_0⟩
            | 20, _ =>
             have hb17 : b 17 = true := hd 17 (by decide)
             obtain rfl := f17 hb17
             have hb19 : b 19 = true := hd 19 (by decide)
             obtain rfl := f19 hb19
             refine GO.at hs ?_
             refine GO.ix rfl rfl rfl Try.underlying43 sz2 h771 c770.1 c770.2 rfl ?_
             refine GO.fin (fun a hs => ?_)
             exact ⟨_, _, _, _, _, _, _, _, _, _, _, _, _, _, _, _, _, _, _, _, (.pointer (some (ea A26 (e754.D.toNat * 1)))), _, _, _, _, _, _, _, b772, A775, c776, _, _, _, by exact hs.setAt 20 rfl, HS, f0, f1, f2, f3, f4, f5, f6, f7, f8, f9, f10, f11, f12, f13, f14, f15, f16, f17, f18, f19, fun _ => rfl, f21, f22, f23, f24, f25, f26, f27, o129_0, o129_1, o141_0, o141_1, o153_0⟩
            | 21, _ =>
             have hb20 : b 20 = true := hd 20 (by decide)
             obtain rfl := f20 hb20
             refine GO.at hs ?_
             refine GO.ldRd (T := (TInt .i64)) (n := e754.D.toNat) (o := 0) HS (RdIn.own (j := 6) rfl) rfl rfl (getD_some (d := 0) (ltN c770)) rfl rfl na2 rfl ?_
             refine GO.fin (fun a hs => ?_)
             exact ⟨_, _, _, _, _, _, _, _, _, _, _, _, _, _, _, _, _, _, _, _, _, (.int .i64 (numbers_294.getD e754.D.toNat 0)), _, _, _, _, _, _, b772, A775, c776, _, _, _, by exact hs.setAt 21 rfl, HS, f0, f1, f2, f3, f4, f5, f6, f7, f8, f9, f10, f11, f12, f13, f14, f15, f16, f17, f18, f19, f20, fun _ => rfl, f22, f23, f24, f25, f26, f27, o129_0, o129_1, o141_0, o141_1, o153_0⟩
            | 22, _ =>
             refine GO.at hs ?_
             refine GO.fld (⟨b756, 4, none⟩) rfl rfl fl58_4 rfl rfl ?_
             refine GO.fin (fun a hs => ?_)
             exact ⟨_, _, _, _, _, _, _, _, _, _, _, _, _, _, _, _, _, _, _, _, _, _, (.pointer (some ⟨b756, 4, none⟩)), _, _, _, _, _, b772, A775, c776, _, _, _, by exact hs.setAt 22 rfl, HS, f0, f1, f2, f3, f4, f5, f6, f7, f8, f9, f10, f11, f12, f13, f14, f15, f16, f17, f18, f19, f20, f21, fun _ => rfl, f23, f24, f25, f26, f27, o129_0, o129_1, o141_0, o141_1, o153_0⟩
            | 23, _ =>
             have hb22 : b 22 = true := hd 22 (by decide)
             obtain rfl := f22 hb22
             refine GO.at hs ?_
             refine GO.ldBox (j := 0) HS rfl rfl rfl rfl na2 rfl ?_
             refine GO.fin (fun a hs => ?_)
             exact ⟨_, _, _, _, _, _, _, _, _, _, _, _, _, _, _, _, _, _, _, _, _, _, _, (.int .i64 e754.Sign), _, _, _, _, b772, A775, c776, _, _, _, by exact hs.setAt 23 rfl, HS, f0, f1, f2, f3, f4, f5, f6, f7, f8, f9, f10, f11, f12, f13, f14, f15, f16, f17, f18, f19, f20, f21, f22, fun _ => rfl, f24, f25, f26, f27, o129_0, o129_1, o141_0, o141_1, o153_0⟩
            | 24, _ =>
             have hb6 : b 6 = true := hd 6 (by decide)
             obtain rfl := f6 hb6
             have hb11 : b 11 = true := hd 11 (by decide)
             obtain rfl := f11 hb11
             have hb16 : b 16 = true := hd 16 (by decide)
             obtain rfl := f16 hb16
             have hb21 : b 21 = true := hd 21 (by decide)
             obtain rfl := f21 hb21
             have hb23 : b 23 = true := hd 23 (by decide)
             obtain rfl := f23 hb23
             refine GO.at hs ?_
             refine GO.buildV (.agg [.int .i64 (numbers_294.getD e754.A.toNat 0), .int .i64 (numbers_294.getD e754.B.toNat 0), .int .i64 (numbers_294.getD e754.C.toNat 0), .int .i64 (numbers_294.getD e754.D.toNat 0), .int .i64 e754.Sign].toArray) rfl rfl (fun _ => by kernel_rfl) rfl ?_
             refine GO.fin (fun a hs => ?_)
             exact ⟨_, _, _, _, _, _, _, _, _, _, _, _, _, _, _, _, _, _, _, _, _, _, _, _, (.agg [.int .i64 (numbers_294.getD e754.A.toNat 0), .int .i64 (numbers_294.getD e754.B.toNat 0), .int .i64 (numbers_294.getD e754.C.toNat 0), .int .i64 (numbers_294.getD e754.D.toNat 0), .int .i64 e754.Sign].toArray), _, _, _, b772, A775, c776, _, _, _, by exact hs.setAt 24 rfl, HS, f0, f1, f2, f3, f4, f5, f6, f7, f8, f9, f10, f11, f12, f13, f14, f15, f16, f17, f18, f19, f20, f21, f22, f23, fun _ => rfl, f25, f26, f27, o129_0, o129_1, o141_0, o141_1, o153_0⟩
            | 25, _ =>
             have hb24 : b 24 = true := hd 24 (by decide)
             obtain rfl := f24 hb24
             refine GO.at hs ?_
             refine GO.buildS (el := 58) ([.int .i64 (numbers_294.getD e754.A.toNat 0), .int .i64 (numbers_294.getD e754.B.toNat 0), .int .i64 (numbers_294.getD e754.C.toNat 0), .int .i64 (numbers_294.getD e754.D.toNat 0), .int .i64 e754.Sign]) HS rfl rfl (fun _ => by kernel_rfl) rfl ?_; intro b772 wd773 HS
             refine GO.fin (fun a hs => ?_)
             exact ⟨_, _, _, _, _, _, _, _, _, _, _, _, _, _, _, _, _, _, _, _, _, _, _, _, _, (.slice (some ⟨b772, 0, none⟩) 1 1), _, _, b772, A775, c776, _, _, Box b772 58 [.int .i64 (numbers_294.getD e754.A.toNat 0), .int .i64 (numbers_294.getD e754.B.toNat 0), .int .i64 (numbers_294.getD e754.C.toNat 0), .int .i64 (numbers_294.getD e754.D.toNat 0), .int .i64 e754.Sign], by exact hs.setAt 25 rfl, HS.pk 12 [1, 2, 3, 4, 5, 6, 7, 8, 9, 10, 0] rfl, f0, f1, f2, f3, f4, f5, f6, f7, f8, f9, f10, f11, f12, f13, f14, f15, f16, f17, f18, f19, f20, f21, f22, f23, f24, fun _ => rfl, f26, f27, o129_0, o129_1, o141_0, o141_1, fun _ => rfl⟩
            | 26, _ =>
             have hb1 : b 1 = true := hd 1 (by decide)
             obtain rfl := f1 hb1
             have hb25 : b 25 = true := hd 25 (by decide)
             obtain rfl := f25 hb25
             obtain rfl := o153_0 hb25
             obtain rfl := o141_0 hb
             refine GO.at hs ?_
             refine GO.app1 (T := T_GCrossing) (j := 8) (jb := 10) (⟨numbers_294.getD e754.A.toNat 0, numbers_294.getD e754.B.toNat 0, numbers_294.getD e754.C.toNat 0, numbers_294.getD e754.D.toNat 0, e754.Sign⟩ : GCrossing) HS rfl rfl flat_flat rfl rfl rfl Try.underlying26 inf58 rfl rfl rfl c777 rfl ?_; intro A775 c776 wd774 HS
             refine GO.fin (fun a hs => ?_)
             exact ⟨_, _, _, _, _, _, _, _, _, _, _, _, _, _, _, _, _, _, _, _, _, _, _, _, _, _, (.slice A775 (out_687 ++ [(⟨numbers_294.getD e754.A.toNat 0, numbers_294.getD e754.B.toNat 0, numbers_294.getD e754.C.toNat 0, numbers_294.getD e754.D.toNat 0, e754.Sign⟩ : GCrossing)]).length c776), _, b772, A775, c776, _, Own T_GCrossing 58 A775 c776 (fun _ => ()) (out_687 ++ [(⟨numbers_294.getD e754.A.toNat 0, numbers_294.getD e754.B.toNat 0, numbers_294.getD e754.C.toNat 0, numbers_294.getD e754.D.toNat 0, e754.Sign⟩ : GCrossing)]), _, by exact hs.setAt 26 rfl, HS, f0, f1, f2, f3, f4, f5, f6, f7, f8, f9, f10, f11, f12, f13, f14, f15, f16, f17, f18, f19, f20, f21, f22, f23, f24, f25, fun _ => rfl, f27, o129_0, fun hh => (Bool.noConfusion ((hcl 28 (by decide) hh 26 (by decide)).symm.trans hb)), fun h => Bool.noConfusion h, fun _ => rfl, o153_0⟩
            | 27, _ =>
             refine GO.at hs ?_
             refine GO.fld (⟨b619, 0, none⟩) rfl rfl fl28_0 rfl rfl ?_
             refine GO.fin (fun a hs => ?_)
             exact ⟨_, _, _, _, _, _, _, _, _, _, _, _, _, _, _, _, _, _, _, _, _, _, _, _, _, _, _, (.pointer (some ⟨b619, 0, none⟩)), b772, A775, c776, _, _, _, by exact hs.setAt 27 rfl, HS, f0, f1, f2, f3, f4, f5, f6, f7, f8, f9, f10, f11, f12, f13, f14, f15, f16, f17, f18, f19, f20, f21, f22, f23, f24, f25, f26, fun _ => rfl, o129_0, o129_1, o141_0, o141_1, o153_0⟩
            | 28, _ =>
             have hb26 : b 26 = true := hd 26 (by decide)
             obtain rfl := f26 hb26
             have hb27 : b 27 = true := hd 27 (by decide)
             obtain rfl := f27 hb27
             obtain rfl := o129_0 hb
             refine GO.at hs ?_
             refine GO.stBox (j := 7) (vs := [.slice A775 (out_687 ++ [(⟨numbers_294.getD e754.A.toNat 0, numbers_294.getD e754.B.toNat 0, numbers_294.getD e754.C.toNat 0, numbers_294.getD e754.D.toNat 0, e754.Sign⟩ : GCrossing)]).length c776]) ([.slice A775 (out_687 ++ [(⟨numbers_294.getD e754.A.toNat 0, numbers_294.getD e754.B.toNat 0, numbers_294.getD e754.C.toNat 0, numbers_294.getD e754.D.toNat 0, e754.Sign⟩ : GCrossing)]).length c776, .int .i64 d_Circles]) HS rfl rfl rfl rfl rfl (htN na26 rfl) rfl rfl rfl ?_; intro wd778 HS
             refine GO.fin (fun a hs => ?_)
             exact ⟨_, _, _, _, _, _, _, _, _, _, _, _, _, _, _, _, _, _, _, _, _, _, _, _, _, _, _, _, b772, A775, c776, Box b619 28 [.slice A775 (out_687 ++ [(⟨numbers_294.getD e754.A.toNat 0, numbers_294.getD e754.B.toNat 0, numbers_294.getD e754.C.toNat 0, numbers_294.getD e754.D.toNat 0, e754.Sign⟩ : GCrossing)]).length c776, .int .i64 d_Circles], _, _, hs, HS, f0, f1, f2, f3, f4, f5, f6, f7, f8, f9, f10, f11, f12, f13, f14, f15, f16, f17, f18, f19, f20, f21, f22, f23, f24, f25, f26, f27, fun h => Bool.noConfusion h, fun _ => rfl, o141_0, o141_1, o153_0⟩
            | k + 29, hj => exact absurd hj (Nat.not_lt.2 (Nat.le_add_left 29 k))
           ·
            intro b a w hall
            refine exI fun Y24_0 => exI fun Y25_1 => exI fun Y26_2 => exI fun Y27_3 => exI fun Y28_4 => exI fun Y29_5 => exI fun Y30_6 => exI fun Y31_7 => exI fun Y32_8 => exI fun Y33_9 => exI fun Y34_10 => exI fun Y35_11 => exI fun Y36_12 => exI fun Y37_13 => exI fun Y38_14 => exI fun Y39_15 => exI fun Y40_16 => exI fun Y41_17 => exI fun Y42_18 => exI fun Y43_19 => exI fun Y44_20 => exI fun Y45_21 => exI fun Y46_22 => exI fun Y47_23 => exI fun Y48_24 => exI fun Y49_25 => exI fun Y50_26 => exI fun Y51_27 => exI fun b772 => exI fun A775 => exI fun c776 => exI fun O52_129 => exI fun O54_141 => exI fun O53_153 => anI fun hs => anI fun HS => anI fun f0 => anI fun f1 => anI fun f2 => anI fun f3 => anI fun f4 => anI fun f5 => anI fun f6 => anI fun f7 => anI fun f8 => anI fun f9 => anI fun f10 => anI fun f11 => anI fun f12 => anI fun f13 => anI fun f14 => anI fun f15 => anI fun f16 => anI fun f17 => anI fun f18 => anI fun f19 => anI fun f20 => anI fun f21 => anI fun f22 => anI fun f23 => anI fun f24 => anI fun f25 => anI fun f26 => anI fun f27 => anI fun o129_0 => anI fun o129_1 => anI fun o141_0 => anI fun o141_1 => fun o153_0 => ?_
            obtain rfl := f0 (hall 0 (by decide))
            obtain rfl := f1 (hall 1 (by decide))
            obtain rfl := f2 (hall 2 (by decide))
            obtain rfl := f3 (hall 3 (by decide))
            obtain rfl := f4 (hall 4 (by decide))
            obtain rfl := f5 (hall 5 (by decide))
            obtain rfl := f6 (hall 6 (by decide))
            obtain rfl := f7 (hall 7 (by decide))
            obtain rfl := f8 (hall 8 (by decide))
            obtain rfl := f9 (hall 9 (by decide))
            obtain rfl := f10 (hall 10 (by decide))
            obtain rfl := f11 (hall 11 (by decide))
            obtain rfl := f12 (hall 12 (by decide))
            obtain rfl := f13 (hall 13 (by decide))
            obtain rfl := f14 (hall 14 (by decide))
            obtain rfl := f15 (hall 15 (by decide))
            obtain rfl := f16 (hall 16 (by decide))
            obtain rfl := f17 (hall 17 (by decide))
            obtain rfl := f18 (hall 18 (by decide))
            obtain rfl := f19 (hall 19 (by decide))
            obtain rfl := f20 (hall 20 (by decide))
            obtain rfl := f21 (hall 21 (by decide))
            obtain rfl := f22 (hall 22 (by decide))
            obtain rfl := f23 (hall 23 (by decide))
            obtain rfl := f24 (hall 24 (by decide))
            obtain rfl := f25 (hall 25 (by decide))
            obtain rfl := f26 (hall 26 (by decide))
            obtain rfl := f27 (hall 27 (by decide))
            obtain rfl := o129_1 (hall 28 (by decide))
            obtain rfl := o141_1 (hall 26 (by decide))
            obtain rfl := o153_0 (hall 25 (by decide))
            refine G.at hs ?_
            refine G.blockEnd ?_
            refine G.region ?_
            refine GO.add rfl rfl rfl rfl ?_
            refine GO.move rfl rfl rfl ?_
            refine GO.nil ?_
            refine G.again ?_
            refine G.weak ?_ (ih_l13 n_l13 (Nat.lt_succ_of_le (Nat.le_refl _)) (Nat.le_of_succ_le hm_l13) _ _ _ _ _ H (HS.pk 11 [1, 2, 3, 4, 5, 6, 7, 8, 9] rfl))
            exact ⟨rfl, rfl, rfl, rfl, rfl, rfl, rfl, rfl, rfl, rfl, trivial⟩
         ·
          refine G.noB rfl (decide_eq_false c752) ?_
          refine G.exit rfl ?_
          refine G.seq ?_
          refine G.seq ?_
          obtain ⟨t779, h780, H⟩ := Option.bind_eq_some_iff.1 H
          refine G.region ?_
          refine GO.ldBoxA (j := 0) ([.slice A_d_Crossings d_Crossings.length c_d_Crossings, .int .i64 d_Circles]) HS rfl rfl rfl rfl ag28 rfl ?_
          refine GO.ldBoxA (j := 1) ([.slice A_a_from a_from.length c_a_from, .slice A_a_to a_to.length c_a_to]) HS rfl rfl rfl rfl ag63 rfl ?_
          refine GO.fn rfl Try.func133 fok133.1 fok133.2 rfl rfl (impl_Diagram_strands.calls HS (RdIn.drop 9 h_d_Crossings) (RdIn.drop 9 h_a_from) (RdIn.drop 9 h_a_to) h780) (fun _ wd784 ⟨A781, c782, y783, h785, HS⟩ => ⟨_, h785, ?_⟩)
          refine GO.lenS rfl rfl Try.underlying42 rfl ?_
          refine GO.move rfl rfl rfl ?_
          refine GO.nil ?_
          refine G.block ?_
          refine G.loop ?_
          refine G.name (fun k_l16 hk_l16 => ?_)
          have at_l16 : ∀ m_l16, m_l16 ≤ n_l13 → ∀ (out_795 : Int) (x796 : Int) (w : World), impl_Diagram_without.l16 K m_l16 a_from a_to crossings out_687 t779 out_795 x796 = some (r1, r2) → St w0 w (Box b3 63 [.slice A_a_from a_from.length c_a_from, .slice A_a_to a_to.length c_a_to] :: Box b7 28 [.slice none 0 0, .int .i64 0] :: Box b9 138 [.func (.func 130) #[] #[.pointer (some ⟨b5, 0, none⟩)]] :: Box b5 43 [.slice A_crossings crossings.length c_crossings] :: Box b619 28 [.slice A685 out_687.length c686, .int .i64 out_795] :: Own T_GCrossing 58 A685 c686 (fun _ => ()) out_687 :: Own (Ty.slice 2 (TInt .i64)) 43 A781 c782 y783 t779 :: L) → G Try.prog 82 128 [(4, .pointer (some ⟨b3, 0, none⟩)), (6, .pointer (some ⟨b7, 0, none⟩)), (7, .pointer (some ⟨b9, 0, none⟩)), (13, .pointer (some ⟨b619, 0, none⟩)), (112, .slice A781 t779.length c782), (113, .int .i64 (t779.length : Int)), (114, .int .i64 x796)] k_l16 w (impl_Diagram_without.post w0 L d_Crossings d_Circles a_from a_to crossings A_d_Crossings c_d_Crossings A_a_from c_a_from A_a_to c_a_to A_crossings c_crossings r1 r2) := by
           intro m_l16
           induction m_l16 using Nat.strongRecOn with
           | _ m_l16 ih_l16 =>
            intro hm_l16 out_795 x796 w H HS
            cases m_l16 with
            | zero => rw [impl_Diagram_without.l16] at H; cases H
            | succ n_l16 =>
             rw [impl_Diagram_without.l16] at H
             subst hk_l16
             refine G.seq ?_
             refine G.region ?_
             refine GO.lss rfl rfl rfl rfl ?_
             refine GO.nil ?_
             refine G.seq ?_
             rcases ite_elim H with ⟨c806, H⟩ | ⟨c806, H⟩
             ·
              refine G.yesB rfl (decide_eq_true c806) ?_
              refine G.skip ?_
              refine G.seq ?_
              refine G.block ?_
              refine G.seq ?_
              obtain ⟨c807, H⟩ := ite_none H
              refine G.region ?_
              refine GO.ix rfl rfl rfl Try.underlying42 sz43 ((RdIn.own (j := 6) rfl) _ HS).2.2.1 c807.1 c807.2 rfl ?_
              refine GO.ldRd (T := (Ty.slice 2 (TInt .i64))) (n := x796.toNat) (o := 0) HS (RdIn.own (j := 6) rfl) rfl rfl (getD_some (d := []) (ltN c807)) rfl rfl na43 rfl ?_
              refine GO.assign rfl rfl rfl ?_
              refine GO.nil ?_
              refine G.seq ?_
              obtain ⟨t808, h809, H⟩ := Option.bind_eq_some_iff.1 H
              refine G.region ?_
              refine GO.move rfl rfl rfl ?_
              refine GO.mkFunc rfl rfl rfl rfl ?_
              replace HS := HS.pk 7 [2, 3, 0, 1, 4, 5, 6] rfl
              refine GO.fn rfl Try.func134 fok134.1 fok134.2 rfl rfl (slices_ContainsFunc_int64_int64_135.calls HS (RdIn.elem (RdIn.own (j := 3) rfl) c807.1 c807.2) (RdIn.drop 4 h_crossings) (RdIn.drop 4 h_a_from) (RdIn.drop 4 h_a_to) h809) (fun _ wd810 ⟨h811, HS⟩ => ⟨_, h811, ?_⟩)
              refine GO.not rfl rfl rfl ?_
              refine GO.nil ?_
              rcases ite_elim H with ⟨c812, H⟩ | ⟨c812, H⟩
              ·
               refine G.noB rfl (congrArg Bool.not c812) ?_
               refine G.skip ?_
               refine G.blockEnd ?_
               refine G.region ?_
               refine GO.add rfl rfl rfl rfl ?_
               refine GO.move rfl rfl rfl ?_
               refine GO.nil ?_
               refine G.again ?_
               refine G.weak ?_ (ih_l16 n_l16 (Nat.lt_succ_of_le (Nat.le_refl _)) (Nat.le_of_succ_le hm_l16) _ _ _ H (HS.pk 7 [2, 3, 0, 1, 4, 5, 6] rfl))
               exact ⟨rfl, rfl, rfl, rfl, rfl, rfl, rfl, trivial⟩
              ·
               refine G.yesB rfl (congrArg Bool.not (bnot_of c812)) ?_
               refine G.region ?_
               refine GO.fld (⟨b619, 1, none⟩) rfl rfl fl28_1 rfl rfl ?_
               refine GO.ldBox (j := 4) HS rfl rfl rfl rfl na2 rfl ?_
               refine GO.add rfl rfl rfl rfl ?_
               refine GO.fld (⟨b619, 1, none⟩) rfl rfl fl28_1 rfl rfl ?_
               refine GO.stBox (j := 4) (vs := [.int .i64 (w64 (out_795 + 1))]) ([.slice A685 out_687.length c686, .int .i64 (w64 (out_795 + 1))]) HS rfl rfl rfl rfl rfl (htN na2 rfl) rfl rfl rfl ?_; intro wd813 HS
               refine GO.nil ?_
               refine G.blockEnd ?_
               refine G.region ?_
               refine GO.add rfl rfl rfl rfl ?_
               refine GO.move rfl rfl rfl ?_
               refine GO.nil ?_
               refine G.again ?_
               refine G.weak ?_ (ih_l16 n_l16 (Nat.lt_succ_of_le (Nat.le_refl _)) (Nat.le_of_succ_le hm_l16) _ _ _ H (HS.pk 7 [2, 3, 0, 1, 4, 5, 6] rfl))
               exact ⟨rfl, rfl, rfl, rfl, rfl, rfl, rfl, trivial⟩
             ·
              refine G.noB rfl (decide_eq_false c806) ?_
              refine G.exit rfl ?_
              refine G.seq ?_
              refine G.region ?_
              refine GO.ldBoxA (j := 4) ([.slice A685 out_687.length c686, .int .i64 out_795]) HS rfl rfl rfl rfl ag28 rfl ?_
              refine GO.stBox (j := 1) (vs := [.slice A685 out_687.length c686, .int .i64 out_795]) ([.slice A685 out_687.length c686, .int .i64 out_795]) HS rfl rfl rfl rfl rfl (htA ag28) rfl rfl rfl ?_; intro wd814 HS
              refine GO.nil ?_
              obtain ⟨rfl, rfl⟩ := some2 H
              exact G.ret1 _ Try.func82 rfl (Res1.boxA (j := 1) (vs := [.slice A685 out_687.length c686, .int .i64 out_795]) HS rfl rfl rfl ag28) ⟨_, _, rfl, (HS.pk 7 [5] rfl)⟩
          refine G.weak ?_ (at_l16 n_l13 (Nat.le_refl _) _ _ _ H (HS.pk 10 [2, 4, 5, 3, 7, 8, 0] rfl))
          exact ⟨rfl, rfl, rfl, rfl, rfl, rfl, rfl, trivial⟩
      replace HS := HS.nilRow T_GCrossing 58 (fun _ => ())
      refine G.weak ?_ (at_l13 n_l1 (Nat.le_refl _) _ _ _ _ _ H (HS.pk 10 [2, 3, 4, 5, 6, 9, 1, 0, 8] rfl))
      exact ⟨rfl, rfl, rfl, rfl, rfl, rfl, rfl, rfl, rfl, rfl, trivial⟩
  refine G.weak ?_ (at_l1 K (Nat.le_refl _) _ _ _ _ _ H (HS.pk 9 [8, 7, 6, 5, 4, 2, 3, 0] rfl))
  exact ⟨rfl, rfl, rfl, rfl, rfl, rfl, rfl, rfl, rfl, rfl, trivial⟩

set_option maxRecDepth 20000 in
set_option maxHeartbeats 40000000 in
theorem impl_limitedCircles.calls {w0 w : World} {L : List HObj} {d_Crossings : List GCrossing} {d_Circles : Int} {A_d_Crossings : Option Addr} {c_d_Crossings : Nat} {r1 : List GCrossing} {r2 : Int} {r3 : Int} (HS : St w0 w (Own T_GCrossing 58 A_d_Crossings c_d_Crossings (fun _ => ()) d_Crossings :: L)) (H : impl_limitedCircles.f d_Crossings d_Circles = some (r1, r2, r3)) :
    Calls Try.prog 66 #[.agg [.slice A_d_Crossings d_Crossings.length c_d_Crossings, .int .i64 d_Circles].toArray] w (impl_limitedCircles.post w0 L d_Crossings d_Circles A_d_Crossings c_d_Crossings r1 r2 r3) := by
  unfold impl_limitedCircles.f at H
  refine Calls.of_G Try.func66 rfl rfl rfl ?_
  refine G.seq ?_
  refine G.region ?_
  refine GO.box (cs := [.slice A_d_Crossings d_Crossings.length c_d_Crossings, .int .i64 d_Circles]) HS rfl rfl rfl rfl ?_; intro b1 wd2 HS
  refine GO.alloc HS rfl zr28 rfl rfl ?_; intro b3 wd4 HS
  refine GO.assign rfl rfl rfl ?_
  refine GO.nil ?_
  refine G.seq ?_
  refine G.seq ?_
  refine G.region ?_
  refine GO.fld (⟨b1, 1, none⟩) rfl rfl fl28_1 rfl rfl ?_
  refine GO.ldBox (j := 1) HS rfl rfl rfl rfl na2 rfl ?_
  refine GO.gtr rfl rfl rfl rfl ?_
  refine GO.nil ?_
  rcases ite_elim H with ⟨c5, H⟩ | ⟨c5, H⟩
  ·
   refine G.yesB rfl (decide_eq_true c5) ?_
   refine G.seq ?_
   refine G.region ?_
   refine GO.buildV (.agg [.slice none 0 0, .int .i64 0].toArray) rfl rfl (fun _ => by kernel_rfl) rfl ?_
   refine GO.stBox (j := 0) (vs := [.slice none 0 0, .int .i64 0]) ([.slice none 0 0, .int .i64 0]) HS rfl rfl rfl rfl rfl (htA ag28) rfl rfl rfl ?_; intro wd6 HS
   refine GO.assign rfl rfl rfl ?_
   refine GO.nil ?_
   replace HS := HS.nilRow T_GCrossing 58 (fun _ => ())
   obtain ⟨rfl, rfl, rfl⟩ := some3 H
   exact G.ret2 _ _ Try.func66 rfl (Res1.boxA (j := 1) (vs := [.slice none 0 0, .int .i64 0]) HS rfl rfl rfl ag28) rfl ⟨_, _, rfl, (HS.pk 4 [0] rfl)⟩
  ·
   refine G.noB rfl (decide_eq_false c5) ?_
   refine G.skip ?_
   refine G.seq ?_
   refine G.region ?_
   refine GO.ldBoxA (j := 1) ([.slice A_d_Crossings d_Crossings.length c_d_Crossings, .int .i64 d_Circles]) HS rfl rfl rfl rfl ag28 rfl ?_
   refine GO.stBox (j := 0) (vs := [.slice A_d_Crossings d_Crossings.length c_d_Crossings, .int .i64 d_Circles]) ([.slice A_d_Crossings d_Crossings.length c_d_Crossings, .int .i64 d_Circles]) HS rfl rfl rfl rfl rfl (htA ag28) rfl rfl rfl ?_; intro wd7 HS
   refine GO.assign rfl rfl rfl ?_
   refine GO.nil ?_
   obtain ⟨rfl, rfl, rfl⟩ := some3 H
   exact G.ret2 _ _ Try.func66 rfl (Res1.boxA (j := 0) (vs := [.slice A_d_Crossings d_Crossings.length c_d_Crossings, .int .i64 d_Circles]) HS rfl rfl rfl ag28) rfl ⟨_, _, rfl, (HS.pk 3 [2] rfl)⟩

set_option maxRecDepth 20000 in
set_option maxHeartbeats 40000000 in
theorem impl_RemoveKink.calls {w0 w : World} {L : List HObj} {K : Nat} {d_Crossings : List GCrossing} {d_Circles : Int} {c : Int} {A_d_Crossings : Option Addr} {c_d_Crossings : Nat} {r1 : List GCrossing} {r2 : Int} {r3 : Int} (HS : St w0 w (L)) (h_d_Crossings : RdIn w0 L T_GCrossing A_d_Crossings c_d_Crossings (fun _ => ()) d_Crossings) (H : impl_RemoveKink.f K d_Crossings d_Circles c = some (r1, r2, r3)) :
    Calls Try.prog 32 #[.agg [.slice A_d_Crossings d_Crossings.length c_d_Crossings, .int .i64 d_Circles].toArray, .int .i64 c] w (impl_RemoveKink.post w0 L d_Crossings d_Circles c A_d_Crossings c_d_Crossings r1 r2 r3) := by
  unfold impl_RemoveKink.f at H
  refine Calls.of_G Try.func32 rfl rfl rfl ?_
  refine G.seq ?_
  refine G.region ?_
  refine GO.box (cs := [.slice A_d_Crossings d_Crossings.length c_d_Crossings, .int .i64 d_Circles]) HS rfl rfl rfl rfl ?_; intro b1 wd2 HS
  refine GO.alloc HS rfl zr28 rfl rfl ?_; intro b3 wd4 HS
  refine GO.assign rfl rfl rfl ?_
  refine GO.nil ?_
  refine G.seq ?_
  obtain ⟨t5, t6, t7, h8, H⟩ := bind3_elim H
  refine G.region ?_
  refine GO.ldBoxA (j := 1) ([.slice A_d_Crossings d_Crossings.length c_d_Crossings, .int .i64 d_Circles]) HS rfl rfl rfl rfl ag28 rfl ?_
  refine GO.fn rfl Try.func45 fok45.1 fok45.2 rfl rfl (impl_Diagram_drawing.calls HS (RdIn.drop 2 h_d_Crossings) h8) (fun _ wd13 ⟨A9, c10, A11, c12, h14, HS⟩ => ⟨_, h14, ?_⟩)
  refine GO.move rfl rfl rfl ?_
  refine GO.extract rfl rfl rfl rfl ?_
  refine GO.extract rfl rfl rfl rfl ?_
  refine GO.alloc HS rfl zr63 rfl rfl ?_; intro b15 wd16 HS
  refine GO.stBox (j := 0) (vs := [.slice A9 t5.length c10, .slice A11 t6.length c12]) ([.slice A9 t5.length c10, .slice A11 t6.length c12]) HS rfl rfl rfl rfl rfl (htA ag63) rfl rfl rfl ?_; intro wd17 HS
  refine GO.assign rfl rfl rfl ?_
  refine GO.nil ?_
  refine G.seq ?_
  refine G.block ?_
  refine G.seq ?_
  refine G.region ?_
  refine GO.move rfl rfl rfl ?_
  refine GO.not rfl rfl rfl ?_
  refine GO.assign rfl rfl rfl ?_
  refine GO.nil ?_
  rcases ite_elim H with ⟨c18, H⟩ | ⟨c18, H⟩
  ·
   refine G.noB rfl (congrArg Bool.not c18) ?_
   refine G.seq ?_
   obtain ⟨t19, h20, H⟩ := Option.bind_eq_some_iff.1 H
   refine G.region ?_
   refine GO.fld (⟨b1, 0, none⟩) rfl rfl fl28_0 rfl rfl ?_
   refine GO.ldBox (j := 4) HS rfl rfl rfl rfl na26 rfl ?_
   refine GO.move rfl rfl rfl ?_
   refine GO.fn rfl Try.func80 fok80.1 fok80.2 rfl rfl (impl_hasIndex_impl_Crossing.calls HS (RdIn.drop 5 h_d_Crossings) h20) (fun _ wd21 ⟨h22, HS⟩ => ⟨_, h22, ?_⟩)
   refine GO.not rfl rfl rfl ?_
   refine GO.assign rfl rfl rfl ?_
   refine GO.nil ?_
   rcases ite_elim H with ⟨c23, H⟩ | ⟨c23, H⟩
   ·
    refine G.noB rfl (congrArg Bool.not c23) ?_
    refine G.seq ?_
    obtain ⟨c24, H⟩ := ite_none H
    obtain ⟨e25, h26, H⟩ := bnd_elim H
    obtain ⟨t27, h28, H⟩ := Option.bind_eq_some_iff.1 H
    refine G.region ?_
    refine GO.fld (⟨b1, 0, none⟩) rfl rfl fl28_0 rfl rfl ?_
    refine GO.ldBox (j := 4) HS rfl rfl rfl rfl na26 rfl ?_
    refine GO.move rfl rfl rfl ?_
    refine GO.ix rfl rfl rfl Try.underlying26 sz58 ((RdIn.drop 5 h_d_Crossings) _ HS).2.2.1 c24.1 c24.2 rfl ?_
    refine GO.ldRdA (T := T_GCrossing) (n := c.toNat) HS (RdIn.drop 5 h_d_Crossings) rfl rfl (getD_eq (ltN c24) h26) ag58 rfl ?_
    refine GO.fn rfl Try.func90 fok90.1 fok90.2 rfl rfl (impl_isKink.calls HS  h28) (fun _ wd29 ⟨h30, HS⟩ => ⟨_, h30, ?_⟩)
    refine GO.not rfl rfl rfl ?_
    refine GO.assign rfl rfl rfl ?_
    refine GO.nil ?_
    rcases ite_elim H with ⟨c31, H⟩ | ⟨c31, H⟩
    ·
     refine G.noB rfl (congrArg Bool.not c31) ?_
     refine G.skip ?_
     refine G.blockEnd ?_
     refine G.seq ?_
     obtain ⟨t34, t35, h36, H⟩ := bind2_elim H
     obtain ⟨t41, t42, t43, h44, H⟩ := bind3_elim H
     refine G.region ?_
     refine GO.ldBoxA (j := 4) ([.slice A_d_Crossings d_Crossings.length c_d_Crossings, .int .i64 d_Circles]) HS rfl rfl rfl rfl ag28 rfl ?_
     refine GO.ldBoxA (j := 0) ([.slice A9 t5.length c10, .slice A11 t6.length c12]) HS rfl rfl rfl rfl ag63 rfl ?_
     refine GO.move rfl rfl rfl ?_
     refine GO.buildS (el := 2) ([.int .i64 c]) HS rfl rfl (fun _ => by kernel_rfl) rfl ?_; intro b32 wd33 HS
     replace HS := HS.boxRow (T := (TInt .i64)) (j := 0) rfl flat_flat (fun _ => ()) ([c] : List Int) rfl (bndL rfl)
     refine GO.lenC (t := 36) (m := ([c] : List Int).length) (c' := ([c] : List Int).length) rfl rfl rfl ?_
     refine GO.fn rfl Try.func82 fok82.1 fok82.2 rfl rfl (impl_Diagram_without.calls HS (RdIn.drop 6 h_d_Crossings) (RdIn.own (j := 2) rfl) (RdIn.own (j := 3) rfl) (RdIn.own (j := 0) rfl) h36) (fun _ wd39 ⟨A37, c38, h40, HS⟩ => ⟨_, h40, ?_⟩)
     replace HS := HS.pk 7 [0, 1, 2, 3, 4, 5, 6] rfl
     refine GO.fn rfl Try.func66 fok66.1 fok66.2 rfl rfl (impl_limitedCircles.calls HS  h44) (fun _ wd47 ⟨A45, c46, h48, HS⟩ => ⟨_, h48, ?_⟩)
     refine GO.extract rfl rfl rfl rfl ?_
     refine GO.extract rfl rfl rfl rfl ?_
     refine GO.stBox (j := 5) (vs := [.slice A45 t41.length c46, .int .i64 t42]) ([.slice A45 t41.length c46, .int .i64 t42]) HS rfl rfl rfl rfl rfl (htA ag28) rfl rfl rfl ?_; intro wd49 HS
     refine GO.assign rfl rfl rfl ?_
     refine GO.nil ?_
     obtain ⟨rfl, rfl, rfl⟩ := some3 H
     exact G.ret2 _ _ Try.func32 rfl (Res1.boxA (j := 5) (vs := [.slice A45 t41.length c46, .int .i64 t42]) HS rfl rfl rfl ag28) rfl ⟨_, _, rfl, (HS.pk 7 [0] rfl)⟩
    ·
     refine G.yesB rfl (congrArg Bool.not (bnot_of c31)) ?_
     refine G.seq ?_
     refine G.region ?_
     refine GO.buildV (.agg [.slice none 0 0, .int .i64 0].toArray) rfl rfl (fun _ => by kernel_rfl) rfl ?_
     refine GO.stBox (j := 3) (vs := [.slice none 0 0, .int .i64 0]) ([.slice none 0 0, .int .i64 0]) HS rfl rfl rfl rfl rfl (htA ag28) rfl rfl rfl ?_; intro wd50 HS
     refine GO.assign rfl rfl rfl ?_
     refine GO.nil ?_
     replace HS := HS.nilRow T_GCrossing 58 (fun _ => ())
     obtain ⟨rfl, rfl, rfl⟩ := some3 H
     exact G.ret2 _ _ Try.func32 rfl (Res1.boxA (j := 4) (vs := [.slice none 0 0, .int .i64 0]) HS rfl rfl rfl ag28) rfl ⟨_, _, rfl, (HS.pk 6 [0] rfl)⟩
   ·
    refine G.yesB rfl (congrArg Bool.not (bnot_of c23)) ?_
    refine G.seq ?_
    refine G.region ?_
    refine GO.buildV (.agg [.slice none 0 0, .int .i64 0].toArray) rfl rfl (fun _ => by kernel_rfl) rfl ?_
    refine GO.stBox (j := 3) (vs := [.slice none 0 0, .int .i64 0]) ([.slice none 0 0, .int .i64 0]) HS rfl rfl rfl rfl rfl (htA ag28) rfl rfl rfl ?_; intro wd51 HS
    refine GO.assign rfl rfl rfl ?_
    refine GO.nil ?_
    replace HS := HS.nilRow T_GCrossing 58 (fun _ => ())
    obtain ⟨rfl, rfl, rfl⟩ := some3 H
    exact G.ret2 _ _ Try.func32 rfl (Res1.boxA (j := 4) (vs := [.slice none 0 0, .int .i64 0]) HS rfl rfl rfl ag28) rfl ⟨_, _, rfl, (HS.pk 6 [0] rfl)⟩
  ·
   refine G.yesB rfl (congrArg Bool.not (bnot_of c18)) ?_
   refine G.seq ?_
   refine G.region ?_
   refine GO.buildV (.agg [.slice none 0 0, .int .i64 0].toArray) rfl rfl (fun _ => by kernel_rfl) rfl ?_
   refine GO.stBox (j := 3) (vs := [.slice none 0 0, .int .i64 0]) ([.slice none 0 0, .int .i64 0]) HS rfl rfl rfl rfl rfl (htA ag28) rfl rfl rfl ?_; intro wd52 HS
   refine GO.assign rfl rfl rfl ?_
   refine GO.nil ?_
   replace HS := HS.nilRow T_GCrossing 58 (fun _ => ())
   obtain ⟨rfl, rfl, rfl⟩ := some3 H
   exact G.ret2 _ _ Try.func32 rfl (Res1.boxA (j := 4) (vs := [.slice none 0 0, .int .i64 0]) HS rfl rfl rfl ag28) rfl ⟨_, _, rfl, (HS.pk 6 [0] rfl)⟩

set_option maxRecDepth 20000 in
set_option maxHeartbeats 40000000 in
theorem laws_eqCrossing.calls {w0 w : World} {L : List HObj} {a_A : Int} {a_B : Int} {a_C : Int} {a_D : Int} {a_Sign : Int} {b_A : Int} {b_B : Int} {b_C : Int} {b_D : Int} {b_Sign : Int} {r1 : Bool} (HS : St w0 w (L)) (H : laws_eqCrossing.f a_A a_B a_C a_D a_Sign b_A b_B b_C b_D b_Sign = some r1) :
    Calls Try.prog 114 #[.agg [.int .i64 a_A, .int .i64 a_B, .int .i64 a_C, .int .i64 a_D, .int .i64 a_Sign].toArray, .agg [.int .i64 b_A, .int .i64 b_B, .int .i64 b_C, .int .i64 b_D, .int .i64 b_Sign].toArray] w (laws_eqCrossing.post w0 L a_A a_B a_C a_D a_Sign b_A b_B b_C b_D b_Sign r1) := by
  unfold laws_eqCrossing.f at H
  refine Calls.of_G Try.func114 rfl rfl rfl ?_
  refine G.seq ?_
  refine G.region ?_
  refine GO.box (cs := [.int .i64 a_A, .int .i64 a_B, .int .i64 a_C, .int .i64 a_D, .int .i64 a_Sign]) HS rfl rfl rfl rfl ?_; intro b1 wd2 HS
  refine GO.box (cs := [.int .i64 b_A, .int .i64 b_B, .int .i64 b_C, .int .i64 b_D, .int .i64 b_Sign]) HS rfl rfl rfl rfl ?_; intro b3 wd4 HS
  refine GO.assign rfl rfl rfl ?_
  refine GO.nil ?_
  refine G.seq ?_
  refine G.seq ?_
  refine G.region ?_
  refine GO.fld (⟨b1, 0, none⟩) rfl rfl fl58_0 rfl rfl ?_
  refine GO.ldBox (j := 1) HS rfl rfl rfl rfl na2 rfl ?_
  refine GO.fld (⟨b3, 0, none⟩) rfl rfl fl58_0 rfl rfl ?_
  refine GO.ldBox (j := 0) HS rfl rfl rfl rfl na2 rfl ?_
  refine GO.neq rfl rfl rfl rfl ?_
  refine GO.nil ?_
  rcases ite_elim H with ⟨c5, H⟩ | ⟨c5, H⟩
  ·
   refine G.noB rfl (congrArg Bool.not (decide_eq_true c5)) ?_
   refine G.skip ?_
   refine G.seq ?_
   refine G.seq ?_
   refine G.region ?_
   refine GO.fld (⟨b1, 1, none⟩) rfl rfl fl58_1 rfl rfl ?_
   refine GO.ldBox (j := 1) HS rfl rfl rfl rfl na2 rfl ?_
   refine GO.fld (⟨b3, 1, none⟩) rfl rfl fl58_1 rfl rfl ?_
   refine GO.ldBox (j := 0) HS rfl rfl rfl rfl na2 rfl ?_
   refine GO.neq rfl rfl rfl rfl ?_
   refine GO.nil ?_
   rcases ite_elim H with ⟨c6, H⟩ | ⟨c6, H⟩
   ·
    refine G.noB rfl (congrArg Bool.not (decide_eq_true c6)) ?_
    refine G.skip ?_
    refine G.seq ?_
    refine G.seq ?_
    refine G.region ?_
    refine GO.fld (⟨b1, 2, none⟩) rfl rfl fl58_2 rfl rfl ?_
    refine GO.ldBox (j := 1) HS rfl rfl rfl rfl na2 rfl ?_
    refine GO.fld (⟨b3, 2, none⟩) rfl rfl fl58_2 rfl rfl ?_
    refine GO.ldBox (j := 0) HS rfl rfl rfl rfl na2 rfl ?_
    refine GO.neq rfl rfl rfl rfl ?_
    refine GO.nil ?_
    rcases ite_elim H with ⟨c7, H⟩ | ⟨c7, H⟩
    ·
     refine G.noB rfl (congrArg Bool.not (decide_eq_true c7)) ?_
     refine G.skip ?_
     refine G.seq ?_
     refine G.seq ?_
     refine G.region ?_
     refine GO.fld (⟨b1, 3, none⟩) rfl rfl fl58_3 rfl rfl ?_
     refine GO.ldBox (j := 1) HS rfl rfl rfl rfl na2 rfl ?_
     refine GO.fld (⟨b3, 3, none⟩) rfl rfl fl58_3 rfl rfl ?_
     refine GO.ldBox (j := 0) HS rfl rfl rfl rfl na2 rfl ?_
     refine GO.neq rfl rfl rfl rfl ?_
     refine GO.nil ?_
     rcases ite_elim H with ⟨c8, H⟩ | ⟨c8, H⟩
     ·
      refine G.noB rfl (congrArg Bool.not (decide_eq_true c8)) ?_
      refine G.skip ?_
      refine G.seq ?_
      refine G.seq ?_
      refine G.region ?_
      refine GO.fld (⟨b1, 4, none⟩) rfl rfl fl58_4 rfl rfl ?_
      refine GO.ldBox (j := 1) HS rfl rfl rfl rfl na2 rfl ?_
      refine GO.fld (⟨b3, 4, none⟩) rfl rfl fl58_4 rfl rfl ?_
      refine GO.ldBox (j := 0) HS rfl rfl rfl rfl na2 rfl ?_
      refine GO.neq rfl rfl rfl rfl ?_
      refine GO.nil ?_
      rcases ite_elim H with ⟨c9, H⟩ | ⟨c9, H⟩
      ·
       refine G.noB rfl (congrArg Bool.not (decide_eq_true c9)) ?_
       refine G.skip ?_
       refine G.seq ?_
       refine G.region ?_
       refine GO.assign rfl rfl rfl ?_
       refine GO.nil ?_
       obtain rfl := Option.some.inj H
       exact G.ret1 _ Try.func114 rfl rfl ⟨rfl, (HS.pk 2 [] rfl)⟩
      ·
       refine G.yesB rfl (congrArg Bool.not (decide_eq_false c9)) ?_
       refine G.seq ?_
       refine G.region ?_
       refine GO.assign rfl rfl rfl ?_
       refine GO.nil ?_
       obtain rfl := Option.some.inj H
       exact G.ret1 _ Try.func114 rfl rfl ⟨rfl, (HS.pk 2 [] rfl)⟩
     ·
      refine G.yesB rfl (congrArg Bool.not (decide_eq_false c8)) ?_
      refine G.seq ?_
      refine G.region ?_
      refine GO.assign rfl rfl rfl ?_
      refine GO.nil ?_
      obtain rfl := Option.some.inj H
      exact G.ret1 _ Try.func114 rfl rfl ⟨rfl, (HS.pk 2 [] rfl)⟩
    ·
     refine G.yesB rfl (congrArg Bool.not (decide_eq_false c7)) ?_
     refine G.seq ?_
     refine G.region ?_
     refine GO.assign rfl rfl rfl ?_
     refine GO.nil ?_
     obtain rfl := Option.some.inj H
     exact G.ret1 _ Try.func114 rfl rfl ⟨rfl, (HS.pk 2 [] rfl)⟩
   ·
    refine G.yesB rfl (congrArg Bool.not (decide_eq_false c6)) ?_
    refine G.seq ?_
    refine G.region ?_
    refine GO.assign rfl rfl rfl ?_
    refine GO.nil ?_
    obtain rfl := Option.some.inj H
    exact G.ret1 _ Try.func114 rfl rfl ⟨rfl, (HS.pk 2 [] rfl)⟩
  ·
   refine G.yesB rfl (congrArg Bool.not (decide_eq_false c5)) ?_
   refine G.seq ?_
   refine G.region ?_
   refine GO.assign rfl rfl rfl ?_
   refine GO.nil ?_
   obtain rfl := Option.some.inj H
   exact G.ret1 _ Try.func114 rfl rfl ⟨rfl, (HS.pk 2 [] rfl)⟩

set_option maxRecDepth 20000 in
set_option maxHeartbeats 40000000 in
theorem laws_eqCrossingS.calls {w0 w : World} {L : List HObj} {K : Nat} {a_ : List GCrossing} {b_ : List GCrossing} {A_a_ : Option Addr} {c_a_ : Nat} {A_b_ : Option Addr} {c_b_ : Nat} {r1 : Bool} (HS : St w0 w (L)) (h_a_ : RdIn w0 L T_GCrossing A_a_ c_a_ (fun _ => ()) a_) (h_b_ : RdIn w0 L T_GCrossing A_b_ c_b_ (fun _ => ()) b_) (H : laws_eqCrossingS.f K a_ b_ = some r1) :
    Calls Try.prog 51 #[.slice A_a_ a_.length c_a_, .slice A_b_ b_.length c_b_] w (laws_eqCrossingS.post w0 L a_ b_ A_a_ c_a_ A_b_ c_b_ r1) := by
  unfold laws_eqCrossingS.f at H
  refine Calls.of_G Try.func51 rfl rfl rfl ?_
  refine G.seq ?_
  refine G.region ?_
  refine GO.assign rfl rfl rfl ?_
  refine GO.nil ?_
  refine G.seq ?_
  refine G.seq ?_
  refine G.region ?_
  refine GO.move rfl rfl rfl ?_
  refine GO.lenS rfl rfl Try.underlying26 rfl ?_
  refine GO.move rfl rfl rfl ?_
  refine GO.lenS rfl rfl Try.underlying26 rfl ?_
  refine GO.neq rfl rfl rfl rfl ?_
  refine GO.nil ?_
  rcases ite_elim H with ⟨c1, H⟩ | ⟨c1, H⟩
  ·
   refine G.noB rfl (congrArg Bool.not (decide_eq_true c1)) ?_
   refine G.skip ?_
   refine G.seq ?_
   refine G.seq ?_
   refine G.region ?_
   refine GO.assign rfl rfl rfl ?_
   refine GO.nil ?_
   refine G.block ?_
   refine G.loop ?_
   refine G.name (fun k_l1 hk_l1 => ?_)
   have at_l1 : ∀ m_l1, m_l1 ≤ K → ∀ (i_14 : Int) (w : World), laws_eqCrossingS.l1 K m_l1 a_ b_ i_14 = some r1 → St w0 w (L) → G Try.prog 51 27 [(0, .slice A_a_ a_.length c_a_), (1, .slice A_b_ b_.length c_b_), (5, .int .i64 i_14)] k_l1 w (laws_eqCrossingS.post w0 L a_ b_ A_a_ c_a_ A_b_ c_b_ r1) := by
    intro m_l1
    induction m_l1 using Nat.strongRecOn with
    | _ m_l1 ih_l1 =>
     intro hm_l1 i_14 w H HS
     cases m_l1 with
     | zero => rw [laws_eqCrossingS.l1] at H; cases H
     | succ n_l1 =>
      rw [laws_eqCrossingS.l1] at H
      subst hk_l1
      refine G.seq ?_
      refine G.seq ?_
      refine G.region ?_
      refine GO.move rfl rfl rfl ?_
      refine GO.move rfl rfl rfl ?_
      refine GO.lenS rfl rfl Try.underlying26 rfl ?_
      refine GO.lss rfl rfl rfl rfl ?_
      refine GO.nil ?_
      rcases ite_elim H with ⟨c27, H⟩ | ⟨c27, H⟩
      ·
       refine G.yesB rfl (decide_eq_true c27) ?_
       refine G.skip ?_
       refine G.seq ?_
       refine G.block ?_
       refine G.seq ?_
       obtain ⟨c28, H⟩ := ite_none H
       obtain ⟨e29, h30, H⟩ := bnd_elim H
       obtain ⟨c31, H⟩ := ite_none H
       obtain ⟨e32, h33, H⟩ := bnd_elim H
       obtain ⟨t34, h35, H⟩ := Option.bind_eq_some_iff.1 H
       refine G.regionAny mixed (by decide) (fun b a w => ∃ (Y1_0 : Value) (Y2_1 : Value) (Y3_2 : Value) (Y4_3 : Value) (Y5_4 : Value) (Y6_5 : Value) (Y7_6 : Value) (Y8_7 : Value) (Y9_8 : Value) (Y10_9 : Value), Sat 27 [(17, Y1_0), (18, Y2_1), (19, Y3_2), (20, Y4_3), (21, Y5_4), (22, Y6_5), (23, Y7_6), (24, Y8_7), (25, Y9_8), (26, Y10_9), (0, .slice A_a_ a_.length c_a_), (1, .slice A_b_ b_.length c_b_), (5, .int .i64 i_14)] a ∧ St w0 w (L) ∧ (b 0 = true → Y1_0 = (.slice A_a_ a_.length c_a_)) ∧ (b 1 = true → Y2_1 = (.int .i64 i_14)) ∧ (b 2 = true → Y3_2 = (.pointer (some (ea A_a_ (i_14.toNat * 5))))) ∧ (b 3 = true → Y4_3 = (.agg [.int .i64 e29.A, .int .i64 e29.B, .int .i64 e29.C, .int .i64 e29.D, .int .i64 e29.Sign].toArray)) ∧ (b 4 = true → Y5_4 = (.slice A_b_ b_.length c_b_)) ∧ (b 5 = true → Y6_5 = (.int .i64 i_14)) ∧ (b 6 = true → Y7_6 = (.pointer (some (ea A_b_ (i_14.toNat * 5))))) ∧ (b 7 = true → Y8_7 = (.agg [.int .i64 e32.A, .int .i64 e32.B, .int .i64 e32.C, .int .i64 e32.D, .int .i64 e32.Sign].toArray)) ∧ (b 8 = true → Y9_8 = (.bool t34)) ∧ (b 9 = true → Y10_9 = (.bool (!t34)))) ?_ ?_ ?_
       ·
        intro a hs
        obtain ⟨Y1_0, hs⟩ := hs.ext (d := 17) rfl
        obtain ⟨Y2_1, hs⟩ := hs.ext (d := 18) rfl
        obtain ⟨Y3_2, hs⟩ := hs.ext (d := 19) rfl
        obtain ⟨Y4_3, hs⟩ := hs.ext (d := 20) rfl
        obtain ⟨Y5_4, hs⟩ := hs.ext (d := 21) rfl
        obtain ⟨Y6_5, hs⟩ := hs.ext (d := 22) rfl
        obtain ⟨Y7_6, hs⟩ := hs.ext (d := 23) rfl
        obtain ⟨Y8_7, hs⟩ := hs.ext (d := 24) rfl
        obtain ⟨Y9_8, hs⟩ := hs.ext (d := 25) rfl
        obtain ⟨Y10_9, hs⟩ := hs.ext (d := 26) rfl
        exact ⟨Y1_0, Y2_1, Y3_2, Y4_3, Y5_4, Y6_5, Y7_6, Y8_7, Y9_8, Y10_9, hs.weak ⟨rfl, rfl, rfl, rfl, rfl, rfl, rfl, rfl, rfl, rfl, rfl, rfl, rfl, trivial⟩, (HS.drew.pk 0 [] rfl), fun h => Bool.noConfusion h, fun h => Bool.noConfusion h, fun h => Bool.noConfusion h, fun h => Bool.noConfusion h, fun h => Bool.noConfusion h, fun h => Bool.noConfusion h, fun h => Bool.noConfusion h, fun h => Bool.noConfusion h, fun h => Bool.noConfusion h, fun h => Bool.noConfusion h⟩
       ·
        intro j hj b a w
        refine exI fun Y1_0 => exI fun Y2_1 => exI fun Y3_2 => exI fun Y4_3 => exI fun Y5_4 => exI fun Y6_5 => exI fun Y7_6 => exI fun Y8_7 => exI fun Y9_8 => exI fun Y10_9 => anI fun hs => anI fun HS => anI fun f0 => anI fun f1 => anI fun f2 => anI fun f3 => anI fun f4 => anI fun f5 => anI fun f6 => anI fun f7 => anI fun f8 => fun f9 hb hd hcl => ?_
        match j, hj with
        | 0, _ =>
         refine GO.at hs ?_
         refine GO.move rfl rfl rfl ?_
         refine GO.fin (fun a hs => ?_)
         exact ⟨(.slice A_a_ a_.length c_a_), _, _, _, _, _, _, _, _, _, by exact hs.setAt 0 rfl, HS, fun _ => rfl, f1, f2, f3, f4, f5, f6, f7, f8, f9⟩
        | 1, _ =>
         refine GO.at hs ?_
         refine GO.move rfl rfl rfl ?_
         refine GO.fin (fun a hs => ?_)
         exact ⟨_, (.int .i64 i_14), _, _, _, _, _, _, _, _, by exact hs.setAt 1 rfl, HS, f0, fun _ => rfl, f2, f3, f4, f5, f6, f7, f8, f9⟩
        | 2, _ =>
         have hb0 : b 0 = true := hd 0 (by decide)
         obtain rfl := f0 hb0
         have hb1 : b 1 = true := hd 1 (by decide)
         obtain rfl := f1 hb1
         refine GO.at hs ?_
         refine GO.ix rfl rfl rfl Try.underlying26 sz58 (h_a_ _ HS).2.2.1 c28.1 c28.2 rfl ?_
         refine GO.fin (fun a hs => ?_)
         exact ⟨_, _, (.pointer (some (ea A_a_ (i_14.toNat * 5)))), _, _, _, _, _, _, _, by exact hs.setAt 2 rfl, HS, f0, f1, fun _ => rfl, f3, f4, f5, f6, f7, f8, f9⟩
        | 3, _ =>
         have hb2 : b 2 = true := hd 2 (by decide)
         obtain rfl := f2 hb2
         refine GO.at hs ?_
         refine GO.ldRdA (T := T_GCrossing) (n := i_14.toNat) HS h_a_ rfl rfl (getD_eq (ltN c28) h30) ag58 rfl ?_
         refine GO.fin (fun a hs => ?_)
         exact ⟨_, _, _, (.agg [.int .i64 e29.A, .int .i64 e29.B, .int .i64 e29.C, .int .i64 e29.D, .int .i64 e29.Sign].toArray), _, _, _, _, _, _, by exact hs.setAt 3 rfl, HS, f0, f1, f2, fun _ => rfl, f4, f5, f6, f7, f8, f9⟩
        | 4, _ =>
         refine GO.at hs ?_
         refine GO.move rfl rfl rfl ?_
         refine GO.fin (fun a hs => ?_)
         exact ⟨_, _, _, _, (.slice A_b_ b_.length c_b_), _, _, _, _, _, by exact hs.setAt 4 rfl, HS, f0, f1, f2, f3, fun _ => rfl, f5, f6, f7, f8, f9⟩
        | 5, _ =>
         refine GO.at hs ?_
         refine GO.move rfl rfl rfl ?_
         refine GO.fin (fun a hs => ?_)
         exact ⟨_, _, _, _, _, (.int .i64 i_14), _, _, _, _, by exact hs.setAt 5 rfl, HS, f0, f1, f2, f3, f4, fun _ => rfl, f6, f7, f8, f9⟩
        | 6, _ =>
         have hb4 : b 4 = true := hd 4 (by decide)
         obtain rfl := f4 hb4
         have hb5 : b 5 = true := hd 5 (by decide)
         obtain rfl := f5 hb5
         refine GO.at hs ?_
         refine GO.ix rfl rfl rfl Try.underlying26 sz58 (h_b_ _ HS).2.2.1 c31.1 c31.2 rfl ?_
         refine GO.fin (fun a hs => ?_)
         exact ⟨_, _, _, _, _, _, (.pointer (some (ea A_b_ (i_14.toNat * 5)))), _, _, _, by exact hs.setAt 6 rfl, HS, f0, f1, f2, f3, f4, f5, fun _ => rfl, f7, f8, f9⟩
        | 7, _ =>
         have hb6 : b 6 = true := hd 6 (by decide)
         obtain rfl := f6 hb6
         refine GO.at hs ?_
         refine GO.ldRdA (T := T_GCrossing) (n := i_14.toNat) HS h_b_ rfl rfl (getD_eq (ltN c31) h33) ag58 rfl ?_
         refine GO.fin (fun a hs => ?_)
         exact ⟨_, _, _, _, _, _, _, (.agg [.int .i64 e32.A, .int .i64 e32.B, .int .i64 e32.C, .int .i64 e32.D, .int .i64 e32.Sign].toArray), _, _, by exact hs.setAt 7 rfl, HS, f0, f1, f2, f3, f4, f5, f6, fun _ => rfl, f8, f9⟩
        | 8, _ =>
         have hb3 : b 3 = true := hd 3 (by decide)
         obtain rfl := f3 hb3
         have hb7 : b 7 = true := hd 7 (by decide)
         obtain rfl := f7 hb7
         refine GO.at hs ?_
         refine GO.fn rfl Try.func114 fok114.1 fok114.2 rfl rfl (laws_eqCrossing.calls HS  h35) (fun _ wd36 ⟨h37, HS⟩ => ⟨_, h37, ?_⟩)
         refine GO.fin (fun a hs => ?_)
         exact ⟨_, _, _, _, _, _, _, _, (.bool t34), _, by exact hs.setAt 8 rfl, HS, f0, f1, f2, f3, f4, f5, f6, f7, fun _ => rfl, f9⟩
        | 9, _ =>
         have hb8 : b 8 = true := hd 8 (by decide)
         obtain rfl := f8 hb8
         refine GO.at hs ?_
         refine GO.not rfl rfl rfl ?_
         refine GO.fin (fun a hs => ?_)
         exact ⟨_, _, _, _, _, _, _, _, _, (.bool (!t34)), by exact hs.setAt 9 rfl, HS, f0, f1, f2, f3, f4, f5, f6, f7, f8, fun _ => rfl⟩
        | k + 10, hj => exact absurd hj (Nat.not_lt.2 (Nat.le_add_left 10 k))
       ·
        intro b a w hall
        refine exI fun Y1_0 => exI fun Y2_1 => exI fun Y3_2 => exI fun Y4_3 => exI fun Y5_4 => exI fun Y6_5 => exI fun Y7_6 => exI fun Y8_7 => exI fun Y9_8 => exI fun Y10_9 => anI fun hs => anI fun HS => anI fun f0 => anI fun f1 => anI fun f2 => anI fun f3 => anI fun f4 => anI fun f5 => anI fun f6 => anI fun f7 => anI fun f8 => fun f9 => ?_
        obtain rfl := f0 (hall 0 (by decide))
        obtain rfl := f1 (hall 1 (by decide))
        obtain rfl := f2 (hall 2 (by decide))
        obtain rfl := f3 (hall 3 (by decide))
        obtain rfl := f4 (hall 4 (by decide))
        obtain rfl := f5 (hall 5 (by decide))
        obtain rfl := f6 (hall 6 (by decide))
        obtain rfl := f7 (hall 7 (by decide))
        obtain rfl := f8 (hall 8 (by decide))
        obtain rfl := f9 (hall 9 (by decide))
        refine G.at hs ?_
        rcases ite_elim H with ⟨c38, H⟩ | ⟨c38, H⟩
        ·
         refine G.noB rfl (congrArg Bool.not c38) ?_
         refine G.skip ?_
         refine G.blockEnd ?_
         refine G.region ?_
         refine GO.move rfl rfl rfl ?_
         refine GO.add rfl rfl rfl rfl ?_
         refine GO.assign rfl rfl rfl ?_
         refine GO.nil ?_
         refine G.again ?_
         refine G.weak ?_ (ih_l1 n_l1 (Nat.lt_succ_of_le (Nat.le_refl _)) (Nat.le_of_succ_le hm_l1) _ _ H HS)
         exact ⟨rfl, rfl, rfl, trivial⟩
        ·
         refine G.yesB rfl (congrArg Bool.not (bnot_of c38)) ?_
         refine G.seq ?_
         refine G.region ?_
         refine GO.assign rfl rfl rfl ?_
         refine GO.nil ?_
         obtain rfl := Option.some.inj H
         exact G.ret1 _ Try.func51 rfl rfl ⟨rfl, HS⟩
      ·
       refine G.noB rfl (decide_eq_false c27) ?_
       refine G.exit rfl ?_
       refine G.seq ?_
       refine G.region ?_
       refine GO.assign rfl rfl rfl ?_
       refine GO.nil ?_
       obtain rfl := Option.some.inj H
       exact G.ret1 _ Try.func51 rfl rfl ⟨rfl, HS⟩
   refine G.weak ?_ (at_l1 K (Nat.le_refl _) _ _ H HS)
   exact ⟨rfl, rfl, rfl, trivial⟩
  ·
   refine G.yesB rfl (congrArg Bool.not (decide_eq_false c1)) ?_
   refine G.seq ?_
   refine G.region ?_
   refine GO.assign rfl rfl rfl ?_
   refine GO.nil ?_
   obtain rfl := Option.some.inj H
   exact G.ret1 _ Try.func51 rfl rfl ⟨rfl, HS⟩

set_option maxRecDepth 20000 in
set_option maxHeartbeats 40000000 in
theorem laws_eqDiagram.calls {w0 w : World} {L : List HObj} {K : Nat} {a_Crossings : List GCrossing} {a_Circles : Int} {b_Crossings : List GCrossing} {b_Circles : Int} {A_a_Crossings : Option Addr} {c_a_Crossings : Nat} {A_b_Crossings : Option Addr} {c_b_Crossings : Nat} {r1 : Bool} (HS : St w0 w (L)) (h_a_Crossings : RdIn w0 L T_GCrossing A_a_Crossings c_a_Crossings (fun _ => ()) a_Crossings) (h_b_Crossings : RdIn w0 L T_GCrossing A_b_Crossings c_b_Crossings (fun _ => ()) b_Crossings) (H : laws_eqDiagram.f K a_Crossings a_Circles b_Crossings b_Circles = some r1) :
    Calls Try.prog 16 #[.agg [.slice A_a_Crossings a_Crossings.length c_a_Crossings, .int .i64 a_Circles].toArray, .agg [.slice A_b_Crossings b_Crossings.length c_b_Crossings, .int .i64 b_Circles].toArray] w (laws_eqDiagram.post w0 L a_Crossings a_Circles b_Crossings b_Circles A_a_Crossings c_a_Crossings A_b_Crossings c_b_Crossings r1) := by
  unfold laws_eqDiagram.f at H
  refine Calls.of_G Try.func16 rfl rfl rfl ?_
  refine G.seq ?_
  refine G.region ?_
  refine GO.box (cs := [.slice A_a_Crossings a_Crossings.length c_a_Crossings, .int .i64 a_Circles]) HS rfl rfl rfl rfl ?_; intro b1 wd2 HS
  refine GO.box (cs := [.slice A_b_Crossings b_Crossings.length c_b_Crossings, .int .i64 b_Circles]) HS rfl rfl rfl rfl ?_; intro b3 wd4 HS
  refine GO.assign rfl rfl rfl ?_
  refine GO.nil ?_
  refine G.seq ?_
  refine G.seq ?_
  obtain ⟨t5, h6, H⟩ := Option.bind_eq_some_iff.1 H
  refine G.region ?_
  refine GO.fld (⟨b1, 0, none⟩) rfl rfl fl28_0 rfl rfl ?_
  refine GO.ldBox (j := 1) HS rfl rfl rfl rfl na26 rfl ?_
  refine GO.fld (⟨b3, 0, none⟩) rfl rfl fl28_0 rfl rfl ?_
  refine GO.ldBox (j := 0) HS rfl rfl rfl rfl na26 rfl ?_
  refine GO.fn rfl Try.func51 fok51.1 fok51.2 rfl rfl (laws_eqCrossingS.calls HS (RdIn.drop 2 h_a_Crossings) (RdIn.drop 2 h_b_Crossings) h6) (fun _ wd7 ⟨h8, HS⟩ => ⟨_, h8, ?_⟩)
  refine GO.not rfl rfl rfl ?_
  refine GO.nil ?_
  rcases ite_elim H with ⟨c9, H⟩ | ⟨c9, H⟩
  ·
   refine G.noB rfl (congrArg Bool.not c9) ?_
   refine G.skip ?_
   refine G.seq ?_
   refine G.seq ?_
   refine G.region ?_
   refine GO.fld (⟨b1, 1, none⟩) rfl rfl fl28_1 rfl rfl ?_
   refine GO.ldBox (j := 1) HS rfl rfl rfl rfl na2 rfl ?_
   refine GO.fld (⟨b3, 1, none⟩) rfl rfl fl28_1 rfl rfl ?_
   refine GO.ldBox (j := 0) HS rfl rfl rfl rfl na2 rfl ?_
   refine GO.neq rfl rfl rfl rfl ?_
   refine GO.nil ?_
   rcases ite_elim H with ⟨c10, H⟩ | ⟨c10, H⟩
   ·
    refine G.noB rfl (congrArg Bool.not (decide_eq_true c10)) ?_
    refine G.skip ?_
    refine G.seq ?_
    refine G.region ?_
    refine GO.assign rfl rfl rfl ?_
    refine GO.nil ?_
    obtain rfl := Option.some.inj H
    exact G.ret1 _ Try.func16 rfl rfl ⟨rfl, (HS.pk 2 [] rfl)⟩
   ·
    refine G.yesB rfl (congrArg Bool.not (decide_eq_false c10)) ?_
    refine G.seq ?_
    refine G.region ?_
    refine GO.assign rfl rfl rfl ?_
    refine GO.nil ?_
    obtain rfl := Option.some.inj H
    exact G.ret1 _ Try.func16 rfl rfl ⟨rfl, (HS.pk 2 [] rfl)⟩
  ·
   refine G.yesB rfl (congrArg Bool.not (bnot_of c9)) ?_
   refine G.seq ?_
   refine G.region ?_
   refine GO.assign rfl rfl rfl ?_
   refine GO.nil ?_
   obtain rfl := Option.some.inj H
   exact G.ret1 _ Try.func16 rfl rfl ⟨rfl, (HS.pk 2 [] rfl)⟩

set_option maxRecDepth 20000 in
set_option maxHeartbeats 40000000 in
theorem laws_markCrossingS.calls {w0 w : World} {L : List HObj} {K : Nat} {a_ : List GCrossing} {k_ : Int} {A_a_ : Option Addr} {c_a_ : Nat} {r1 : Int} {r2 : List GCrossing} (HS : St w0 w (Own T_GCrossing 58 A_a_ c_a_ (fun _ => ()) a_ :: L)) (H : laws_markCrossingS.f K a_ k_ = some (r1, r2)) :
    Calls Try.prog 52 #[.slice A_a_ a_.length c_a_, .int .i64 k_] w (laws_markCrossingS.post w0 L a_ k_ A_a_ c_a_ r1 r2) := by
  unfold laws_markCrossingS.f at H
  refine Calls.of_G Try.func52 rfl rfl rfl ?_
  refine G.seq ?_
  refine G.region ?_
  refine GO.assign rfl rfl rfl ?_
  refine GO.nil ?_
  refine G.seq ?_
  refine G.seq ?_
  refine G.region ?_
  refine GO.assign rfl rfl rfl ?_
  refine GO.nil ?_
  refine G.block ?_
  refine G.loop ?_
  refine G.name (fun k_l1 hk_l1 => ?_)
  have at_l1 : ∀ m_l1, m_l1 ≤ K → ∀ (x22 : List GCrossing) (k_23 : Int) (i_24 : Int) (w : World), laws_markCrossingS.l1 K m_l1 x22 k_23 i_24 = some (r1, r2) → St w0 w (Own T_GCrossing 58 A_a_ c_a_ (fun _ => ()) x22 :: L) → G Try.prog 52 48 [(0, .slice A_a_ x22.length c_a_), (1, .int .i64 k_23), (5, .int .i64 i_24)] k_l1 w (laws_markCrossingS.post w0 L a_ k_ A_a_ c_a_ r1 r2) := by
   intro m_l1
   induction m_l1 using Nat.strongRecOn with
   | _ m_l1 ih_l1 =>
    intro hm_l1 x22 k_23 i_24 w H HS
    cases m_l1 with
    | zero => rw [laws_markCrossingS.l1] at H; cases H
    | succ n_l1 =>
     rw [laws_markCrossingS.l1] at H
     subst hk_l1
     refine G.seq ?_
     refine G.seq ?_
     refine G.region ?_
     refine GO.move rfl rfl rfl ?_
     refine GO.move rfl rfl rfl ?_
     refine GO.lenS rfl rfl Try.underlying26 rfl ?_
     refine GO.lss rfl rfl rfl rfl ?_
     refine GO.nil ?_
     rcases ite_elim H with ⟨c46, H⟩ | ⟨c46, H⟩
     ·
      refine G.yesB rfl (decide_eq_true c46) ?_
      refine G.skip ?_
      refine G.seq ?_
      refine G.block ?_
      refine G.seq ?_
      obtain ⟨c47, H⟩ := ite_none H
      obtain ⟨e49, h50, H⟩ := bnd_elim H
      refine G.region ?_
      refine GO.move rfl rfl rfl ?_
      refine GO.move rfl rfl rfl ?_
      refine GO.move rfl rfl rfl ?_
      refine GO.ix rfl rfl rfl Try.underlying26 sz58 ((RdIn.own (j := 0) rfl) _ HS).2.2.1 c47.1 c47.2 rfl ?_
      refine GO.fld (ea A_a_ (i_24.toNat * 5)) rfl rfl fl58_0 rfl rfl ?_
      refine GO.stRow (T := T_GCrossing) (j := 0) (n := i_24.toNat) (o := 0) (vs := [.int .i64 k_23]) ({ e49 with A := k_23 }) HS rfl flat_flat rfl rfl rfl rfl (htN na2 rfl) rfl (getD_eq (ltN c47) h50) rfl rfl ?_; intro wd48 HS
      refine GO.nil ?_
      refine G.len (t := 0) (m := (x22.set i_24.toNat ({ e49 with A := k_23 })).length) rfl (by simp only [List.length_set] <;> rfl) ?_
      refine G.seq ?_
      refine G.region ?_
      refine GO.move rfl rfl rfl ?_
      refine GO.add rfl rfl rfl rfl ?_
      refine GO.assign rfl rfl rfl ?_
      refine GO.nil ?_
      refine G.seq ?_
      obtain ⟨c51, H⟩ := ite_none H
      obtain ⟨e53, h54, H⟩ := bnd_elim H
      refine G.region ?_
      refine GO.move rfl rfl rfl ?_
      refine GO.move rfl rfl rfl ?_
      refine GO.move rfl rfl rfl ?_
      refine GO.ix rfl rfl rfl Try.underlying26 sz58 ((RdIn.own (j := 0) rfl) _ HS).2.2.1 c51.1 c51.2 rfl ?_
      refine GO.fld (ea A_a_ (i_24.toNat * 5 + 1)) rfl rfl fl58_1 (ea_add _ _ _) rfl ?_
      refine GO.stRow (T := T_GCrossing) (j := 0) (n := i_24.toNat) (o := 1) (vs := [.int .i64 (w64 (k_23 + 1))]) ({ e53 with B := w64 (k_23 + 1) }) HS rfl flat_flat rfl rfl rfl rfl (htN na2 rfl) rfl (getD_eq (ltN c51) h54) rfl rfl ?_; intro wd52 HS
      refine GO.nil ?_
      refine G.len (t := 0) (m := ((x22.set i_24.toNat ({ e49 with A := k_23 })).set i_24.toNat ({ e53 with B := w64 (k_23 + 1) })).length) rfl (by simp only [List.length_set] <;> rfl) ?_
      refine G.seq ?_
      refine G.region ?_
      refine GO.move rfl rfl rfl ?_
      refine GO.add rfl rfl rfl rfl ?_
      refine GO.assign rfl rfl rfl ?_
      refine GO.nil ?_
      refine G.seq ?_
      obtain ⟨c55, H⟩ := ite_none H
      obtain ⟨e57, h58, H⟩ := bnd_elim H
      refine G.region ?_
      refine GO.move rfl rfl rfl ?_
      refine GO.move rfl rfl rfl ?_
      refine GO.move rfl rfl rfl ?_
      refine GO.ix rfl rfl rfl Try.underlying26 sz58 ((RdIn.own (j := 0) rfl) _ HS).2.2.1 c55.1 c55.2 rfl ?_
      refine GO.fld (ea A_a_ (i_24.toNat * 5 + 2)) rfl rfl fl58_2 (ea_add _ _ _) rfl ?_
      refine GO.stRow (T := T_GCrossing) (j := 0) (n := i_24.toNat) (o := 2) (vs := [.int .i64 (w64 ((w64 (k_23 + 1)) + 1))]) ({ e57 with C := w64 ((w64 (k_23 + 1)) + 1) }) HS rfl flat_flat rfl rfl rfl rfl (htN na2 rfl) rfl (getD_eq (ltN c55) h58) rfl rfl ?_; intro wd56 HS
      refine GO.nil ?_
      refine G.len (t := 0) (m := (((x22.set i_24.toNat ({ e49 with A := k_23 })).set i_24.toNat ({ e53 with B := w64 (k_23 + 1) })).set i_24.toNat ({ e57 with C := w64 ((w64 (k_23 + 1)) + 1) })).length) rfl (by simp only [List.length_set] <;> rfl) ?_
      refine G.seq ?_
      refine G.region ?_
      refine GO.move rfl rfl rfl ?_
      refine GO.add rfl rfl rfl rfl ?_
      refine GO.assign rfl rfl rfl ?_
      refine GO.nil ?_
      refine G.seq ?_
      obtain ⟨c59, H⟩ := ite_none H
      obtain ⟨e61, h62, H⟩ := bnd_elim H
      refine G.region ?_
      refine GO.move rfl rfl rfl ?_
      refine GO.move rfl rfl rfl ?_
      refine GO.move rfl rfl rfl ?_
      refine GO.ix rfl rfl rfl Try.underlying26 sz58 ((RdIn.own (j := 0) rfl) _ HS).2.2.1 c59.1 c59.2 rfl ?_
      refine GO.fld (ea A_a_ (i_24.toNat * 5 + 3)) rfl rfl fl58_3 (ea_add _ _ _) rfl ?_
      refine GO.stRow (T := T_GCrossing) (j := 0) (n := i_24.toNat) (o := 3) (vs := [.int .i64 (w64 ((w64 ((w64 (k_23 + 1)) + 1)) + 1))]) ({ e61 with D := w64 ((w64 ((w64 (k_23 + 1)) + 1)) + 1) }) HS rfl flat_flat rfl rfl rfl rfl (htN na2 rfl) rfl (getD_eq (ltN c59) h62) rfl rfl ?_; intro wd60 HS
      refine GO.nil ?_
      refine G.len (t := 0) (m := ((((x22.set i_24.toNat ({ e49 with A := k_23 })).set i_24.toNat ({ e53 with B := w64 (k_23 + 1) })).set i_24.toNat ({ e57 with C := w64 ((w64 (k_23 + 1)) + 1) })).set i_24.toNat ({ e61 with D := w64 ((w64 ((w64 (k_23 + 1)) + 1)) + 1) })).length) rfl (by simp only [List.length_set] <;> rfl) ?_
      refine G.seq ?_
      refine G.region ?_
      refine GO.move rfl rfl rfl ?_
      refine GO.add rfl rfl rfl rfl ?_
      refine GO.assign rfl rfl rfl ?_
      refine GO.nil ?_
      refine G.seq ?_
      obtain ⟨c63, H⟩ := ite_none H
      obtain ⟨e65, h66, H⟩ := bnd_elim H
      refine G.region ?_
      refine GO.move rfl rfl rfl ?_
      refine GO.move rfl rfl rfl ?_
      refine GO.move rfl rfl rfl ?_
      refine GO.ix rfl rfl rfl Try.underlying26 sz58 ((RdIn.own (j := 0) rfl) _ HS).2.2.1 c63.1 c63.2 rfl ?_
      refine GO.fld (ea A_a_ (i_24.toNat * 5 + 4)) rfl rfl fl58_4 (ea_add _ _ _) rfl ?_
      refine GO.stRow (T := T_GCrossing) (j := 0) (n := i_24.toNat) (o := 4) (vs := [.int .i64 (w64 ((w64 ((w64 ((w64 (k_23 + 1)) + 1)) + 1)) + 1))]) ({ e65 with Sign := w64 ((w64 ((w64 ((w64 (k_23 + 1)) + 1)) + 1)) + 1) }) HS rfl flat_flat rfl rfl rfl rfl (htN na2 rfl) rfl (getD_eq (ltN c63) h66) rfl rfl ?_; intro wd64 HS
      refine GO.nil ?_
      refine G.len (t := 0) (m := (((((x22.set i_24.toNat ({ e49 with A := k_23 })).set i_24.toNat ({ e53 with B := w64 (k_23 + 1) })).set i_24.toNat ({ e57 with C := w64 ((w64 (k_23 + 1)) + 1) })).set i_24.toNat ({ e61 with D := w64 ((w64 ((w64 (k_23 + 1)) + 1)) + 1) })).set i_24.toNat ({ e65 with Sign := w64 ((w64 ((w64 ((w64 (k_23 + 1)) + 1)) + 1)) + 1) })).length) rfl (by simp only [List.length_set] <;> rfl) ?_
      refine G.region ?_
      refine GO.move rfl rfl rfl ?_
      refine GO.add rfl rfl rfl rfl ?_
      refine GO.assign rfl rfl rfl ?_
      refine GO.nil ?_
      refine G.blockEnd ?_
      refine G.region ?_
      refine GO.move rfl rfl rfl ?_
      refine GO.add rfl rfl rfl rfl ?_
      refine GO.assign rfl rfl rfl ?_
      refine GO.nil ?_
      refine G.again ?_
      refine G.weak ?_ (ih_l1 n_l1 (Nat.lt_succ_of_le (Nat.le_refl _)) (Nat.le_of_succ_le hm_l1) _ _ _ _ H HS)
      exact ⟨rfl, rfl, rfl, trivial⟩
     ·
      refine G.noB rfl (decide_eq_false c46) ?_
      refine G.exit rfl ?_
      refine G.seq ?_
      refine G.region ?_
      refine GO.move rfl rfl rfl ?_
      refine GO.assign rfl rfl rfl ?_
      refine GO.nil ?_
      obtain ⟨rfl, rfl⟩ := some2 H
      exact G.ret1 _ Try.func52 rfl rfl ⟨rfl, HS⟩
  refine G.weak ?_ (at_l1 K (Nat.le_refl _) _ _ _ _ H HS)
  exact ⟨rfl, rfl, rfl, trivial⟩

set_option maxRecDepth 20000 in
set_option maxHeartbeats 40000000 in
theorem laws_markDiagram.calls {w0 w : World} {L : List HObj} {K : Nat} {a_Crossings : List GCrossing} {a_Circles : Int} {k_ : Int} {A_a_Crossings : Option Addr} {c_a_Crossings : Nat} {r1 : Int} {r2 : List GCrossing} (HS : St w0 w (Own T_GCrossing 58 A_a_Crossings c_a_Crossings (fun _ => ()) a_Crossings :: L)) (H : laws_markDiagram.f K a_Crossings a_Circles k_ = some (r1, r2)) :
    Calls Try.prog 17 #[.agg [.slice A_a_Crossings a_Crossings.length c_a_Crossings, .int .i64 a_Circles].toArray, .int .i64 k_] w (laws_markDiagram.post w0 L a_Crossings a_Circles k_ A_a_Crossings c_a_Crossings r1 r2) := by
  unfold laws_markDiagram.f at H
  refine Calls.of_G Try.func17 rfl rfl rfl ?_
  refine G.seq ?_
  refine G.region ?_
  refine GO.box (cs := [.slice A_a_Crossings a_Crossings.length c_a_Crossings, .int .i64 a_Circles]) HS rfl rfl rfl rfl ?_; intro b1 wd2 HS
  refine GO.assign rfl rfl rfl ?_
  refine GO.nil ?_
  refine G.seq ?_
  obtain ⟨t3, t4, h5, H⟩ := bind2_elim H
  obtain ⟨c6, H⟩ := ite_none H
  refine G.region ?_
  refine GO.fld (⟨b1, 0, none⟩) rfl rfl fl28_0 rfl rfl ?_
  refine GO.ldBox (j := 0) HS rfl rfl rfl rfl na26 rfl ?_
  refine GO.move rfl rfl rfl ?_
  replace HS := HS.pk 2 [1, 0] rfl
  refine GO.fn rfl Try.func52 fok52.1 fok52.2 rfl rfl (laws_markCrossingS.calls HS  h5) (fun _ wd7 ⟨h8, HS⟩ => ⟨_, h8, ?_⟩)
  refine GO.assign rfl rfl rfl ?_
  refine GO.nil ?_
  replace HS := HS.boxEq (j := 1) (cs' := [.slice A_a_Crossings t4.length c_a_Crossings, .int .i64 a_Circles]) rfl (by simp only [List.length_set, c6] <;> rfl)
  refine G.seq ?_
  refine G.region ?_
  refine GO.move rfl rfl rfl ?_
  refine GO.assign rfl rfl rfl ?_
  refine GO.nil ?_
  obtain ⟨rfl, rfl⟩ := some2 H
  exact G.ret1 _ Try.func17 rfl rfl ⟨rfl, (HS.pk 2 [0] rfl)⟩

set_option maxRecDepth 20000 in
set_option maxHeartbeats 40000000 in
theorem laws_heldCrossingS.calls {w0 w : World} {L : List HObj} {K : Nat} {a_ : List GCrossing} {k_ : Int} {A_a_ : Option Addr} {c_a_ : Nat} {r1 : Int} (HS : St w0 w (L)) (h_a_ : RdIn w0 L T_GCrossing A_a_ c_a_ (fun _ => ()) a_) (H : laws_heldCrossingS.f K a_ k_ = some r1) :
    Calls Try.prog 53 #[.slice A_a_ a_.length c_a_, .int .i64 k_] w (laws_heldCrossingS.post w0 L a_ k_ A_a_ c_a_ r1) := by
  unfold laws_heldCrossingS.f at H
  refine Calls.of_G Try.func53 rfl rfl rfl ?_
  refine G.seq ?_
  refine G.region ?_
  refine GO.assign rfl rfl rfl ?_
  refine GO.nil ?_
  refine G.seq ?_
  refine G.seq ?_
  refine G.region ?_
  refine GO.assign rfl rfl rfl ?_
  refine GO.nil ?_
  refine G.block ?_
  refine G.loop ?_
  refine G.name (fun k_l1 hk_l1 => ?_)
  have at_l1 : ∀ m_l1, m_l1 ≤ K → ∀ (k_10 : Int) (i_11 : Int) (w : World), laws_heldCrossingS.l1 K m_l1 a_ k_10 i_11 = some r1 → St w0 w (L) → G Try.prog 53 58 [(0, .slice A_a_ a_.length c_a_), (1, .int .i64 k_10), (5, .int .i64 i_11)] k_l1 w (laws_heldCrossingS.post w0 L a_ k_ A_a_ c_a_ r1) := by
   intro m_l1
   induction m_l1 using Nat.strongRecOn with
   | _ m_l1 ih_l1 =>
    intro hm_l1 k_10 i_11 w H HS
    cases m_l1 with
    | zero => rw [laws_heldCrossingS.l1] at H; cases H
    | succ n_l1 =>
     rw [laws_heldCrossingS.l1] at H
     subst hk_l1
     refine G.seq ?_
     refine G.seq ?_
     refine G.region ?_
     refine GO.move rfl rfl rfl ?_
     refine GO.move rfl rfl rfl ?_
     refine GO.lenS rfl rfl Try.underlying26 rfl ?_
     refine GO.lss rfl rfl rfl rfl ?_
     refine GO.nil ?_
     rcases ite_elim H with ⟨c21, H⟩ | ⟨c21, H⟩
     ·
      refine G.yesB rfl (decide_eq_true c21) ?_
      refine G.skip ?_
      refine G.seq ?_
      refine G.block ?_
      refine G.seq ?_
      refine G.seq ?_
      obtain ⟨c22, H⟩ := ite_none H
      obtain ⟨e23, h24, H⟩ := bnd_elim H
      refine G.region ?_
      refine GO.move rfl rfl rfl ?_
      refine GO.move rfl rfl rfl ?_
      refine GO.ix rfl rfl rfl Try.underlying26 sz58 (h_a_ _ HS).2.2.1 c22.1 c22.2 rfl ?_
      refine GO.fld (ea A_a_ (i_11.toNat * 5)) rfl rfl fl58_0 rfl rfl ?_
      refine GO.ldRd (T := T_GCrossing) (n := i_11.toNat) (o := 0) HS h_a_ rfl rfl (getD_eq (ltN c22) h24) rfl rfl na2 rfl ?_
      refine GO.move rfl rfl rfl ?_
      refine GO.neq rfl rfl rfl rfl ?_
      refine GO.nil ?_
      rcases ite_elim H with ⟨c25, H⟩ | ⟨c25, H⟩
      ·
       refine G.noB rfl (congrArg Bool.not (decide_eq_true c25)) ?_
       refine G.skip ?_
       refine G.seq ?_
       refine G.region ?_
       refine GO.move rfl rfl rfl ?_
       refine GO.add rfl rfl rfl rfl ?_
       refine GO.assign rfl rfl rfl ?_
       refine GO.nil ?_
       refine G.seq ?_
       refine G.seq ?_
       refine G.region ?_
       refine GO.move rfl rfl rfl ?_
       refine GO.move rfl rfl rfl ?_
       refine GO.ix rfl rfl rfl Try.underlying26 sz58 (h_a_ _ HS).2.2.1 c22.1 c22.2 rfl ?_
       refine GO.fld (ea A_a_ (i_11.toNat * 5 + 1)) rfl rfl fl58_1 (ea_add _ _ _) rfl ?_
       refine GO.ldRd (T := T_GCrossing) (n := i_11.toNat) (o := 1) HS h_a_ rfl rfl (getD_eq (ltN c22) h24) rfl rfl na2 rfl ?_
       refine GO.move rfl rfl rfl ?_
       refine GO.neq rfl rfl rfl rfl ?_
       refine GO.nil ?_
       rcases ite_elim H with ⟨c26, H⟩ | ⟨c26, H⟩
       ·
        refine G.noB rfl (congrArg Bool.not (decide_eq_true c26)) ?_
        refine G.skip ?_
        refine G.seq ?_
        refine G.region ?_
        refine GO.move rfl rfl rfl ?_
        refine GO.add rfl rfl rfl rfl ?_
        refine GO.assign rfl rfl rfl ?_
        refine GO.nil ?_
        refine G.seq ?_
        refine G.seq ?_
        refine G.region ?_
        refine GO.move rfl rfl rfl ?_
        refine GO.move rfl rfl rfl ?_
        refine GO.ix rfl rfl rfl Try.underlying26 sz58 (h_a_ _ HS).2.2.1 c22.1 c22.2 rfl ?_
        refine GO.fld (ea A_a_ (i_11.toNat * 5 + 2)) rfl rfl fl58_2 (ea_add _ _ _) rfl ?_
        refine GO.ldRd (T := T_GCrossing) (n := i_11.toNat) (o := 2) HS h_a_ rfl rfl (getD_eq (ltN c22) h24) rfl rfl na2 rfl ?_
        refine GO.move rfl rfl rfl ?_
        refine GO.neq rfl rfl rfl rfl ?_
        refine GO.nil ?_
        rcases ite_elim H with ⟨c27, H⟩ | ⟨c27, H⟩
        ·
         refine G.noB rfl (congrArg Bool.not (decide_eq_true c27)) ?_
         refine G.skip ?_
         refine G.seq ?_
         refine G.region ?_
         refine GO.move rfl rfl rfl ?_
         refine GO.add rfl rfl rfl rfl ?_
         refine GO.assign rfl rfl rfl ?_
         refine GO.nil ?_
         refine G.seq ?_
         refine G.seq ?_
         refine G.region ?_
         refine GO.move rfl rfl rfl ?_
         refine GO.move rfl rfl rfl ?_
         refine GO.ix rfl rfl rfl Try.underlying26 sz58 (h_a_ _ HS).2.2.1 c22.1 c22.2 rfl ?_
         refine GO.fld (ea A_a_ (i_11.toNat * 5 + 3)) rfl rfl fl58_3 (ea_add _ _ _) rfl ?_
         refine GO.ldRd (T := T_GCrossing) (n := i_11.toNat) (o := 3) HS h_a_ rfl rfl (getD_eq (ltN c22) h24) rfl rfl na2 rfl ?_
         refine GO.move rfl rfl rfl ?_
         refine GO.neq rfl rfl rfl rfl ?_
         refine GO.nil ?_
         rcases ite_elim H with ⟨c28, H⟩ | ⟨c28, H⟩
         ·
          refine G.noB rfl (congrArg Bool.not (decide_eq_true c28)) ?_
          refine G.skip ?_
          refine G.seq ?_
          refine G.region ?_
          refine GO.move rfl rfl rfl ?_
          refine GO.add rfl rfl rfl rfl ?_
          refine GO.assign rfl rfl rfl ?_
          refine GO.nil ?_
          refine G.seq ?_
          refine G.seq ?_
          refine G.region ?_
          refine GO.move rfl rfl rfl ?_
          refine GO.move rfl rfl rfl ?_
          refine GO.ix rfl rfl rfl Try.underlying26 sz58 (h_a_ _ HS).2.2.1 c22.1 c22.2 rfl ?_
          refine GO.fld (ea A_a_ (i_11.toNat * 5 + 4)) rfl rfl fl58_4 (ea_add _ _ _) rfl ?_
          refine GO.ldRd (T := T_GCrossing) (n := i_11.toNat) (o := 4) HS h_a_ rfl rfl (getD_eq (ltN c22) h24) rfl rfl na2 rfl ?_
          refine GO.move rfl rfl rfl ?_
          refine GO.neq rfl rfl rfl rfl ?_
          refine GO.nil ?_
          rcases ite_elim H with ⟨c29, H⟩ | ⟨c29, H⟩
          ·
           refine G.noB rfl (congrArg Bool.not (decide_eq_true c29)) ?_
           refine G.skip ?_
           refine G.region ?_
           refine GO.move rfl rfl rfl ?_
           refine GO.add rfl rfl rfl rfl ?_
           refine GO.assign rfl rfl rfl ?_
           refine GO.nil ?_
           refine G.blockEnd ?_
           refine G.region ?_
           refine GO.move rfl rfl rfl ?_
           refine GO.add rfl rfl rfl rfl ?_
           refine GO.assign rfl rfl rfl ?_
           refine GO.nil ?_
           refine G.again ?_
           refine G.weak ?_ (ih_l1 n_l1 (Nat.lt_succ_of_le (Nat.le_refl _)) (Nat.le_of_succ_le hm_l1) _ _ _ H HS)
           exact ⟨rfl, rfl, rfl, trivial⟩
          ·
           refine G.yesB rfl (congrArg Bool.not (decide_eq_false c29)) ?_
           refine G.seq ?_
           refine G.region ?_
           refine GO.assign rfl rfl rfl ?_
           refine GO.nil ?_
           obtain rfl := Option.some.inj H
           exact G.ret1 _ Try.func53 rfl rfl ⟨rfl, HS⟩
         ·
          refine G.yesB rfl (congrArg Bool.not (decide_eq_false c28)) ?_
          refine G.seq ?_
          refine G.region ?_
          refine GO.assign rfl rfl rfl ?_
          refine GO.nil ?_
          obtain rfl := Option.some.inj H
          exact G.ret1 _ Try.func53 rfl rfl ⟨rfl, HS⟩
        ·
         refine G.yesB rfl (congrArg Bool.not (decide_eq_false c27)) ?_
         refine G.seq ?_
         refine G.region ?_
         refine GO.assign rfl rfl rfl ?_
         refine GO.nil ?_
         obtain rfl := Option.some.inj H
         exact G.ret1 _ Try.func53 rfl rfl ⟨rfl, HS⟩
       ·
        refine G.yesB rfl (congrArg Bool.not (decide_eq_false c26)) ?_
        refine G.seq ?_
        refine G.region ?_
        refine GO.assign rfl rfl rfl ?_
        refine GO.nil ?_
        obtain rfl := Option.some.inj H
        exact G.ret1 _ Try.func53 rfl rfl ⟨rfl, HS⟩
      ·
       refine G.yesB rfl (congrArg Bool.not (decide_eq_false c25)) ?_
       refine G.seq ?_
       refine G.region ?_
       refine GO.assign rfl rfl rfl ?_
       refine GO.nil ?_
       obtain rfl := Option.some.inj H
       exact G.ret1 _ Try.func53 rfl rfl ⟨rfl, HS⟩
     ·
      refine G.noB rfl (decide_eq_false c21) ?_
      refine G.exit rfl ?_
      refine G.seq ?_
      refine G.region ?_
      refine GO.move rfl rfl rfl ?_
      refine GO.assign rfl rfl rfl ?_
      refine GO.nil ?_
      obtain rfl := Option.some.inj H
      exact G.ret1 _ Try.func53 rfl rfl ⟨rfl, HS⟩
  refine G.weak ?_ (at_l1 K (Nat.le_refl _) _ _ _ H HS)
  exact ⟨rfl, rfl, rfl, trivial⟩

set_option maxRecDepth 20000 in
set_option maxHeartbeats 40000000 in
theorem laws_heldDiagram.calls {w0 w : World} {L : List HObj} {K : Nat} {a_Crossings : List GCrossing} {a_Circles : Int} {k_ : Int} {A_a_Crossings : Option Addr} {c_a_Crossings : Nat} {r1 : Int} (HS : St w0 w (L)) (h_a_Crossings : RdIn w0 L T_GCrossing A_a_Crossings c_a_Crossings (fun _ => ()) a_Crossings) (H : laws_heldDiagram.f K a_Crossings a_Circles k_ = some r1) :
    Calls Try.prog 18 #[.agg [.slice A_a_Crossings a_Crossings.length c_a_Crossings, .int .i64 a_Circles].toArray, .int .i64 k_] w (laws_heldDiagram.post w0 L a_Crossings a_Circles k_ A_a_Crossings c_a_Crossings r1) := by
  unfold laws_heldDiagram.f at H
  refine Calls.of_G Try.func18 rfl rfl rfl ?_
  refine G.seq ?_
  refine G.region ?_
  refine GO.box (cs := [.slice A_a_Crossings a_Crossings.length c_a_Crossings, .int .i64 a_Circles]) HS rfl rfl rfl rfl ?_; intro b1 wd2 HS
  refine GO.assign rfl rfl rfl ?_
  refine GO.nil ?_
  refine G.seq ?_
  obtain ⟨t3, h4, H⟩ := Option.bind_eq_some_iff.1 H
  refine G.region ?_
  refine GO.fld (⟨b1, 0, none⟩) rfl rfl fl28_0 rfl rfl ?_
  refine GO.ldBox (j := 0) HS rfl rfl rfl rfl na26 rfl ?_
  refine GO.move rfl rfl rfl ?_
  refine GO.fn rfl Try.func53 fok53.1 fok53.2 rfl rfl (laws_heldCrossingS.calls HS (RdIn.drop 1 h_a_Crossings) h4) (fun _ wd5 ⟨h6, HS⟩ => ⟨_, h6, ?_⟩)
  refine GO.assign rfl rfl rfl ?_
  refine GO.nil ?_
  refine G.seq ?_
  refine G.seq ?_
  refine G.region ?_
  refine GO.move rfl rfl rfl ?_
  refine GO.lss rfl rfl rfl rfl ?_
  refine GO.nil ?_
  rcases ite_elim H with ⟨c7, H⟩ | ⟨c7, H⟩
  ·
   refine G.yesB rfl (decide_eq_true c7) ?_
   refine G.seq ?_
   refine G.region ?_
   refine GO.assign rfl rfl rfl ?_
   refine GO.nil ?_
   obtain rfl := Option.some.inj H
   exact G.ret1 _ Try.func18 rfl rfl ⟨rfl, (HS.pk 1 [] rfl)⟩
  ·
   refine G.noB rfl (decide_eq_false c7) ?_
   refine G.skip ?_
   refine G.seq ?_
   refine G.region ?_
   refine GO.move rfl rfl rfl ?_
   refine GO.assign rfl rfl rfl ?_
   refine GO.nil ?_
   obtain rfl := Option.some.inj H
   exact G.ret1 _ Try.func18 rfl rfl ⟨rfl, (HS.pk 1 [] rfl)⟩

set_option maxRecDepth 20000 in
set_option maxHeartbeats 40000000 in
theorem laws_FnExactRemoveKink.calls {w0 w : World} {L : List HObj} {K : Nat} {aD_Crossings : List GCrossing} {aD_Circles : Int} {aC : Int} {A_aD_Crossings : Option Addr} {c_aD_Crossings : Nat} {r1 : Bool} (HS : St w0 w (L)) (h_aD_Crossings : RdIn w0 L T_GCrossing A_aD_Crossings c_aD_Crossings (fun _ => ()) aD_Crossings) (H : laws_FnExactRemoveKink.f K aD_Crossings aD_Circles aC = some r1) :
    Calls Try.prog 10 #[.agg [.slice A_aD_Crossings aD_Crossings.length c_aD_Crossings, .int .i64 aD_Circles].toArray, .int .i64 aC] w (laws_FnExactRemoveKink.post w0 L aD_Crossings aD_Circles aC A_aD_Crossings c_aD_Crossings r1) := by
  unfold laws_FnExactRemoveKink.f at H
  refine Calls.of_G Try.func10 rfl rfl rfl ?_
  refine G.seq ?_
  refine G.region ?_
  refine GO.box (cs := [.slice A_aD_Crossings aD_Crossings.length c_aD_Crossings, .int .i64 aD_Circles]) HS rfl rfl rfl rfl ?_; intro b1 wd2 HS
  refine GO.assign rfl rfl rfl ?_
  refine GO.nil ?_
  refine G.seq ?_
  refine G.region ?_
  refine GO.assign rfl rfl rfl ?_
  refine GO.nil ?_
  refine G.seq ?_
  obtain ⟨t3, h4, H⟩ := Option.bind_eq_some_iff.1 H
  refine G.region ?_
  refine GO.ldBoxA (j := 0) ([.slice A_aD_Crossings aD_Crossings.length c_aD_Crossings, .int .i64 aD_Circles]) HS rfl rfl rfl rfl ag24 rfl ?_
  refine GO.move rfl rfl rfl ?_
  refine GO.fn rfl Try.func12 fok12.1 fok12.2 rfl rfl (laws_szDiagram.calls HS (RdIn.drop 1 h_aD_Crossings) h4) (fun _ wd5 ⟨h6, HS⟩ => ⟨_, h6, ?_⟩)
  refine GO.assign rfl rfl rfl ?_
  refine GO.nil ?_
  refine G.seq ?_
  refine G.seq ?_
  refine G.region ?_
  refine GO.move rfl rfl rfl ?_
  refine GO.lss rfl rfl rfl rfl ?_
  refine GO.nil ?_
  rcases ite_elim H with ⟨c7, H⟩ | ⟨c7, H⟩
  ·
   refine G.yesB rfl (decide_eq_true c7) ?_
   refine G.seq ?_
   refine G.region ?_
   refine GO.assign rfl rfl rfl ?_
   refine GO.nil ?_
   obtain rfl := Option.some.inj H
   exact G.ret1 _ Try.func10 rfl rfl ⟨rfl, (HS.pk 1 [] rfl)⟩
  ·
   refine G.noB rfl (decide_eq_false c7) ?_
   refine G.skip ?_
   refine G.seq ?_
   obtain ⟨t8, t9, h10, H⟩ := bind2_elim H
   obtain ⟨t15, t16, t17, h18, H⟩ := bind3_elim H
   refine G.region ?_
   refine GO.ldBoxA (j := 0) ([.slice A_aD_Crossings aD_Crossings.length c_aD_Crossings, .int .i64 aD_Circles]) HS rfl rfl rfl rfl ag24 rfl ?_
   refine GO.fn rfl Try.func14 fok14.1 fok14.2 rfl rfl (laws_toDiagram.calls HS (RdIn.drop 1 h_aD_Crossings) h10) (fun _ wd13 ⟨A11, c12, h14, HS⟩ => ⟨_, h14, ?_⟩)
   refine GO.move rfl rfl rfl ?_
   refine GO.fn rfl Try.func31 fok31.1 fok31.2 rfl rfl (spec_RemoveKink.calls HS (RdIn.own (j := 0) rfl) h18) (fun _ wd21 ⟨A19, c20, h22, HS⟩ => ⟨_, h22, ?_⟩)
   refine GO.move rfl rfl rfl ?_
   refine GO.extract rfl rfl rfl rfl ?_
   refine GO.extract rfl rfl rfl rfl ?_
   refine GO.alloc HS rfl zr28 rfl rfl ?_; intro b23 wd24 HS
   refine GO.stBox (j := 0) (vs := [.slice A19 t15.length c20, .int .i64 t16]) ([.slice A19 t15.length c20, .int .i64 t16]) HS rfl rfl rfl rfl rfl (htA ag28) rfl rfl rfl ?_; intro wd25 HS
   refine GO.assign rfl rfl rfl ?_
   refine GO.nil ?_
   refine G.seq ?_
   obtain ⟨t26, t27, h28, H⟩ := bind2_elim H
   refine G.region ?_
   refine GO.ldBoxA (j := 3) ([.slice A_aD_Crossings aD_Crossings.length c_aD_Crossings, .int .i64 aD_Circles]) HS rfl rfl rfl rfl ag24 rfl ?_
   refine GO.fn rfl Try.func14 fok14.1 fok14.2 rfl rfl (laws_toDiagram.calls HS (RdIn.drop 4 h_aD_Crossings) h28) (fun _ wd31 ⟨A29, c30, h32, HS⟩ => ⟨_, h32, ?_⟩)
   refine GO.alloc HS rfl zr28 rfl rfl ?_; intro b33 wd34 HS
   refine GO.stBox (j := 0) (vs := [.slice A29 t26.length c30, .int .i64 t27]) ([.slice A29 t26.length c30, .int .i64 t27]) HS rfl rfl rfl rfl rfl (htA ag28) rfl rfl rfl ?_; intro wd35 HS
   refine GO.nil ?_
   refine G.seq ?_
   obtain ⟨t36, t37, t38, h39, H⟩ := bind3_elim H
   refine G.region ?_
   refine GO.ldBoxA (j := 0) ([.slice A29 t26.length c30, .int .i64 t27]) HS rfl rfl rfl rfl ag28 rfl ?_
   refine GO.move rfl rfl rfl ?_
   refine GO.fn rfl Try.func32 fok32.1 fok32.2 rfl rfl (impl_RemoveKink.calls HS (RdIn.own (j := 1) rfl) h39) (fun _ wd42 ⟨A40, c41, h43, HS⟩ => ⟨_, h43, ?_⟩)
   refine GO.move rfl rfl rfl ?_
   refine GO.extract rfl rfl rfl rfl ?_
   refine GO.extract rfl rfl rfl rfl ?_
   refine GO.alloc HS rfl zr28 rfl rfl ?_; intro b44 wd45 HS
   refine GO.stBox (j := 0) (vs := [.slice A40 t36.length c41, .int .i64 t37]) ([.slice A40 t36.length c41, .int .i64 t37]) HS rfl rfl rfl rfl rfl (htA ag28) rfl rfl rfl ?_; intro wd46 HS
   refine GO.assign rfl rfl rfl ?_
   refine GO.nil ?_
   refine G.seq ?_
   refine G.seq ?_
   obtain ⟨t52, h53, H⟩ := Option.bind_eq_some_iff.1 H
   rcases ite_elim H with ⟨c56, H⟩ | ⟨c56, H⟩
   ·
    refine G.region ?_
    refine GO.ldBoxA (j := 0) ([.slice A40 t36.length c41, .int .i64 t37]) HS rfl rfl rfl rfl ag28 rfl ?_
    refine GO.ldBoxA (j := 4) ([.slice A19 t15.length c20, .int .i64 t16]) HS rfl rfl rfl rfl ag28 rfl ?_
    refine GO.fn rfl Try.func16 fok16.1 fok16.2 rfl rfl (laws_eqDiagram.calls HS (RdIn.own (j := 1) rfl) (RdIn.own (j := 5) rfl) h53) (fun _ wd54 ⟨h55, HS⟩ => ⟨_, h55, ?_⟩)
    refine GO.not rfl rfl rfl ?_
    refine GO.move rfl rfl rfl ?_
    refine GO.known (t := 40) rfl (congrArg Bool.not c56) ?_
    refine GO.on rfl rfl rfl rfl ?_
    refine GO.move rfl rfl rfl ?_
    refine GO.back ?_
    refine GO.on rfl rfl rfl rfl ?_
    refine GO.move rfl rfl rfl ?_
    refine GO.back ?_
    refine GO.on rfl rfl rfl rfl ?_
    refine GO.neq rfl rfl rfl rfl ?_
    refine GO.back ?_
    refine GO.pickF rfl rfl rfl rfl rfl ?_
    refine GO.nil ?_
    rcases ite_elim H with ⟨c57, H⟩ | ⟨c57, H⟩
    ·
     refine G.noB rfl (congrArg Bool.not (decide_eq_true c57)) ?_
     refine G.skip ?_
     refine G.seq ?_
     refine G.seq ?_
     obtain ⟨t58, t59, h60, H⟩ := bind2_elim H
     obtain ⟨t65, h66, H⟩ := Option.bind_eq_some_iff.1 H
     refine G.regionAny mixed (by decide) (fun b a w => ∃ (Y1_0 : Value) (Y2_1 : Value) (Y3_2 : Value) (Y4_3 : Value) (Y5_4 : Value) (A61 : Option Addr) (c62 : Nat) (O6_9 : HObj), Sat 101 [(45, Y1_0), (46, Y2_1), (47, Y3_2), (48, Y4_3), (49, Y5_4), (1, .int .i64 aC), (2, .pointer (some ⟨b1, 0, none⟩)), (6, .pointer (some ⟨b23, 0, none⟩)), (7, .int .i64 t17), (8, .pointer (some ⟨b33, 0, none⟩)), (9, .pointer (some ⟨b44, 0, none⟩)), (10, .int .i64 t38)] a ∧ St w0 w (Box b44 28 [.slice A40 t36.length c41, .int .i64 t37] :: Own T_GCrossing 58 A40 c41 (fun _ => ()) t36 :: Box b33 28 [.slice A29 t26.length c30, .int .i64 t27] :: Own T_GCrossing 58 A29 c30 (fun _ => ()) t26 :: Box b23 28 [.slice A19 t15.length c20, .int .i64 t16] :: Own T_GCrossing 58 A19 c20 (fun _ => ()) t15 :: Own T_GCrossing 58 A11 c12 (fun _ => ()) t8 :: Box b1 24 [.slice A_aD_Crossings aD_Crossings.length c_aD_Crossings, .int .i64 aD_Circles] :: O6_9 :: L) ∧ (b 0 = true → Y1_0 = (.agg [.slice A29 t26.length c30, .int .i64 t27].toArray)) ∧ (b 1 = true → Y2_1 = (.agg [.slice A_aD_Crossings aD_Crossings.length c_aD_Crossings, .int .i64 aD_Circles].toArray)) ∧ (b 2 = true → Y3_2 = (.agg [.slice A61 t58.length c62, .int .i64 t59].toArray)) ∧ (b 3 = true → Y4_3 = (.bool t65)) ∧ (b 4 = true → Y5_4 = (.bool (!t65))) ∧ (b 2 = true → O6_9 = Own T_GCrossing 58 A61 c62 (fun _ => ()) t58)) ?_ ?_ ?_
     ·
      intro a hs
      obtain ⟨Y1_0, hs⟩ := hs.ext (d := 45) rfl
      obtain ⟨Y2_1, hs⟩ := hs.ext (d := 46) rfl
      obtain ⟨Y3_2, hs⟩ := hs.ext (d := 47) rfl
      obtain ⟨Y4_3, hs⟩ := hs.ext (d := 48) rfl
      obtain ⟨Y5_4, hs⟩ := hs.ext (d := 49) rfl
      exact ⟨Y1_0, Y2_1, Y3_2, Y4_3, Y5_4, none, 0, Emp, hs.weak ⟨rfl, rfl, rfl, rfl, rfl, rfl, rfl, rfl, rfl, rfl, rfl, rfl, trivial⟩, (HS.drew.emp.pk 9 [1, 2, 3, 4, 5, 6, 7, 8, 0] rfl), fun h => Bool.noConfusion h, fun h => Bool.noConfusion h, fun h => Bool.noConfusion h, fun h => Bool.noConfusion h, fun h => Bool.noConfusion h, fun h => Bool.noConfusion h⟩
     ·
      intro j hj b a w
      refine exI fun Y1_0 => exI fun Y2_1 => exI fun Y3_2 => exI fun Y4_3 => exI fun Y5_4 => exI fun A61 => exI fun c62 => exI fun O6_9 => anI fun hs => anI fun HS => anI fun f0 => anI fun f1 => anI fun f2 => anI fun f3 => anI fun f4 => fun o9_0 hb hd hcl => ?_
      match j, hj with
      | 0, _ =>
       refine GO.at hs ?_
       refine GO.ldBoxA (j := 2) ([.slice A29 t26.length c30, .int .i64 t27]) HS rfl rfl rfl rfl ag28 rfl ?_
       refine GO.fin (fun a hs => ?_)
       exact ⟨(.agg [.slice A29 t26.length c30, .int .i64 t27].toArray), _, _, _, _, A61, c62, _, by exact hs.setAt 0 rfl, HS, fun _ => rfl, f1, f2, f3, f4, o9_0⟩
      | 1, _ =>
       refine GO.at hs ?_
       refine GO.ldBoxA (j := 7) ([.slice A_aD_Crossings aD_Crossings.length c_aD_Crossings, .int .i64 aD_Circles]) HS rfl rfl rfl rfl ag24 rfl ?_
       refine GO.fin (fun a hs => ?_)
       exact ⟨_, (.agg [.slice A_aD_Crossings aD_Crossings.length c_aD_Crossings, .int .i64 aD_Circles].toArray), _, _, _, A61, c62, _, by exact hs.setAt 1 rfl, HS, f0, fun _ => rfl, f2, f3, f4, o9_0⟩
      | 2, _ =>
       have hb1 : b 1 = true := hd 1 (by decide)
       obtain rfl := f1 hb1
       refine GO.at hs ?_
       refine GO.fn rfl Try.func14 fok14.1 fok14.2 rfl rfl (laws_toDiagram.calls HS (RdIn.drop 9 h_aD_Crossings) h60) (fun _ wd63 ⟨A61, c62, h64, HS⟩ => ⟨_, h64, ?_⟩)
       refine GO.fin (fun a hs => ?_)
       exact ⟨_, _, (.agg [.slice A61 t58.length c62, .int .i64 t59].toArray), _, _, A61, c62, Own T_GCrossing 58 A61 c62 (fun _ => ()) t58, by exact hs.setAt 2 rfl, HS.pk 10 [1, 2, 3, 4, 5, 6, 7, 8, 0] rfl, f0, f1, fun _ => rfl, f3, f4, fun _ => rfl⟩
      | 3, _ =>
       have hb0 : b 0 = true := hd 0 (by decide)
       obtain rfl := f0 hb0
       have hb2 : b 2 = true := hd 2 (by decide)
       obtain rfl := f2 hb2
       obtain rfl := o9_0 hb2
       refine GO.at hs ?_
       refine GO.fn rfl Try.func16 fok16.1 fok16.2 rfl rfl (laws_eqDiagram.calls HS (RdIn.own (j := 3) rfl) (RdIn.own (j := 8) rfl) h66) (fun _ wd67 ⟨h68, HS⟩ => ⟨_, h68, ?_⟩)
       refine GO.fin (fun a hs => ?_)
       exact ⟨_, _, _, (.bool t65), _, A61, c62, _, by exact hs.setAt 3 rfl, HS, f0, f1, f2, fun _ => rfl, f4, o9_0⟩
      | 4, _ =>
       have hb3 : b 3 = true := hd 3 (by decide)
       obtain rfl := f3 hb3
       refine GO.at hs ?_
       refine GO.not rfl rfl rfl ?_
       refine GO.fin (fun a hs => ?_)
       exact ⟨_, _, _, _, (.bool (!t65)), A61, c62, _, by exact hs.setAt 4 rfl, HS, f0, f1, f2, f3, fun _ => rfl, o9_0⟩
      | k + 5, hj => exact absurd hj (Nat.not_lt.2 (Nat.le_add_left 5 k))
     ·
      intro b a w hall
      refine exI fun Y1_0 => exI fun Y2_1 => exI fun Y3_2 => exI fun Y4_3 => exI fun Y5_4 => exI fun A61 => exI fun c62 => exI fun O6_9 => anI fun hs => anI fun HS => anI fun f0 => anI fun f1 => anI fun f2 => anI fun f3 => anI fun f4 => fun o9_0 => ?_
      obtain rfl := f0 (hall 0 (by decide))
      obtain rfl := f1 (hall 1 (by decide))
      obtain rfl := f2 (hall 2 (by decide))
      obtain rfl := f3 (hall 3 (by decide))
      obtain rfl := f4 (hall 4 (by decide))
      obtain rfl := o9_0 (hall 2 (by decide))
      refine G.at hs ?_
      rcases ite_elim H with ⟨c69, H⟩ | ⟨c69, H⟩
      ·
       refine G.noB rfl (congrArg Bool.not c69) ?_
       refine G.skip ?_
       refine G.seq ?_
       refine G.region ?_
       refine GO.assign rfl rfl rfl ?_
       refine GO.nil ?_
       refine G.seq ?_
       obtain ⟨t70, t71, h72, H⟩ := bind2_elim H
       obtain ⟨c73, H⟩ := ite_none H
       refine G.region ?_
       refine GO.ldBoxA (j := 2) ([.slice A29 t26.length c30, .int .i64 t27]) HS rfl rfl rfl rfl ag28 rfl ?_
       refine GO.move rfl rfl rfl ?_
       replace HS := HS.pk 9 [3, 0, 1, 2, 4, 5, 6, 7, 8] rfl
       refine GO.fn rfl Try.func17 fok17.1 fok17.2 rfl rfl (laws_markDiagram.calls HS  h72) (fun _ wd74 ⟨h75, HS⟩ => ⟨_, h75, ?_⟩)
       refine GO.assign rfl rfl rfl ?_
       refine GO.nil ?_
       replace HS := HS.boxEq (j := 3) (cs' := [.slice A29 t71.length c30, .int .i64 t27]) rfl (by simp only [List.length_set, c73] <;> rfl)
       refine G.seq ?_
       refine G.seq ?_
       rcases ite_elim H with ⟨c82, H⟩ | ⟨c82, H⟩
       ·
        refine G.region ?_
        refine GO.move rfl rfl rfl ?_
        refine GO.lss rfl rfl rfl rfl ?_
        refine GO.move rfl rfl rfl ?_
        refine GO.known (t := 55) rfl (decide_eq_true c82) ?_
        refine GO.off rfl rfl rfl rfl rfl rfl ?_
        refine GO.off rfl rfl rfl rfl rfl rfl ?_
        refine GO.off rfl rfl rfl rfl rfl rfl ?_
        refine GO.off rfl rfl rfl rfl rfl rfl ?_
        refine GO.pickT rfl rfl rfl rfl rfl ?_
        refine GO.move rfl rfl rfl ?_
        refine GO.off rfl rfl rfl rfl rfl rfl ?_
        refine GO.off rfl rfl rfl rfl rfl rfl ?_
        refine GO.off rfl rfl rfl rfl rfl rfl ?_
        refine GO.pickT rfl rfl rfl rfl rfl ?_
        refine GO.nil ?_
        refine G.yesB rfl rfl ?_
        refine G.seq ?_
        refine G.region ?_
        refine GO.assign rfl rfl rfl ?_
        refine GO.nil ?_
        obtain rfl := Option.some.inj H
        exact G.ret1 _ Try.func10 rfl rfl ⟨rfl, (HS.pk 9 [] rfl)⟩
       ·
        obtain ⟨t83, h84, H⟩ := Option.bind_eq_some_iff.1 H
        rcases ite_elim H with ⟨c87, H⟩ | ⟨c87, H⟩
        ·
         refine G.region ?_
         refine GO.move rfl rfl rfl ?_
         refine GO.lss rfl rfl rfl rfl ?_
         refine GO.move rfl rfl rfl ?_
         refine GO.known (t := 55) rfl (decide_eq_false c82) ?_
         refine GO.on rfl rfl rfl rfl ?_
         refine GO.ldBoxA (j := 1) ([.slice A40 t36.length c41, .int .i64 t37]) HS rfl rfl rfl rfl ag28 rfl ?_
         refine GO.back ?_
         refine GO.on rfl rfl rfl rfl ?_
         refine GO.ldBoxA (j := 4) ([.slice A19 t15.length c20, .int .i64 t16]) HS rfl rfl rfl rfl ag28 rfl ?_
         refine GO.back ?_
         refine GO.on rfl rfl rfl rfl ?_
         refine GO.fn rfl Try.func16 fok16.1 fok16.2 rfl rfl (laws_eqDiagram.calls HS (RdIn.own (j := 2) rfl) (RdIn.own (j := 5) rfl) h84) (fun _ wd85 ⟨h86, HS⟩ => ⟨_, h86, ?_⟩)
         refine GO.back ?_
         refine GO.on rfl rfl rfl rfl ?_
         refine GO.not rfl rfl rfl ?_
         refine GO.back ?_
         refine GO.pickF rfl rfl rfl rfl rfl ?_
         refine GO.move rfl rfl rfl ?_
         refine GO.known (t := 61) rfl (congrArg Bool.not c87) ?_
         refine GO.on rfl rfl rfl rfl ?_
         refine GO.move rfl rfl rfl ?_
         refine GO.back ?_
         refine GO.on rfl rfl rfl rfl ?_
         refine GO.move rfl rfl rfl ?_
         refine GO.back ?_
         refine GO.on rfl rfl rfl rfl ?_
         refine GO.neq rfl rfl rfl rfl ?_
         refine GO.back ?_
         refine GO.pickF rfl rfl rfl rfl rfl ?_
         refine GO.nil ?_
         refine G.noB rfl (congrArg Bool.not (decide_eq_true c57)) ?_
         refine G.skip ?_
         refine G.seq ?_
         refine G.region ?_
         refine GO.assign rfl rfl rfl ?_
         refine GO.nil ?_
         refine G.seq ?_
         obtain ⟨t88, t89, h90, H⟩ := bind2_elim H
         obtain ⟨c91, H⟩ := ite_none H
         refine G.region ?_
         refine GO.ldBoxA (j := 1) ([.slice A40 t36.length c41, .int .i64 t37]) HS rfl rfl rfl rfl ag28 rfl ?_
         refine GO.move rfl rfl rfl ?_
         replace HS := HS.pk 9 [2, 0, 1, 3, 4, 5, 6, 7, 8] rfl
         refine GO.fn rfl Try.func17 fok17.1 fok17.2 rfl rfl (laws_markDiagram.calls HS  h90) (fun _ wd92 ⟨h93, HS⟩ => ⟨_, h93, ?_⟩)
         refine GO.assign rfl rfl rfl ?_
         refine GO.nil ?_
         replace HS := HS.boxEq (j := 2) (cs' := [.slice A40 t89.length c41, .int .i64 t37]) rfl (by simp only [List.length_set, c91] <;> rfl)
         refine G.seq ?_
         refine G.region ?_
         refine GO.assign rfl rfl rfl ?_
         refine GO.nil ?_
         refine G.seq ?_
         obtain ⟨t94, h95, H⟩ := Option.bind_eq_some_iff.1 H
         refine G.region ?_
         refine GO.ldBoxA (j := 2) ([.slice A40 t89.length c41, .int .i64 t37]) HS rfl rfl rfl rfl ag28 rfl ?_
         refine GO.move rfl rfl rfl ?_
         refine GO.fn rfl Try.func18 fok18.1 fok18.2 rfl rfl (laws_heldDiagram.calls HS (RdIn.own (j := 0) rfl) h95) (fun _ wd96 ⟨h97, HS⟩ => ⟨_, h97, ?_⟩)
         refine GO.assign rfl rfl rfl ?_
         refine GO.nil ?_
         refine G.seq ?_
         refine G.seq ?_
         refine G.region ?_
         refine GO.move rfl rfl rfl ?_
         refine GO.lss rfl rfl rfl rfl ?_
         refine GO.nil ?_
         rcases ite_elim H with ⟨c98, H⟩ | ⟨c98, H⟩
         ·
          refine G.yesB rfl (decide_eq_true c98) ?_
          refine G.seq ?_
          refine G.region ?_
          refine GO.assign rfl rfl rfl ?_
          refine GO.nil ?_
          obtain rfl := Option.some.inj H
          exact G.ret1 _ Try.func10 rfl rfl ⟨rfl, (HS.pk 9 [] rfl)⟩
         ·
          refine G.noB rfl (decide_eq_false c98) ?_
          refine G.skip ?_
          refine G.seq ?_
          refine G.seq ?_
          refine G.region ?_
          refine GO.move rfl rfl rfl ?_
          refine GO.move rfl rfl rfl ?_
          refine GO.neq rfl rfl rfl rfl ?_
          refine GO.nil ?_
          rcases ite_elim H with ⟨c99, H⟩ | ⟨c99, H⟩
          ·
           refine G.noB rfl (congrArg Bool.not (decide_eq_true c99)) ?_
           refine G.skip ?_
           refine G.seq ?_
           obtain ⟨t100, t101, h102, H⟩ := bind2_elim H
           obtain ⟨t107, t108, t109, h110, H⟩ := bind3_elim H
           refine G.region ?_
           refine GO.ldBoxA (j := 7) ([.slice A_aD_Crossings aD_Crossings.length c_aD_Crossings, .int .i64 aD_Circles]) HS rfl rfl rfl rfl ag24 rfl ?_
           refine GO.fn rfl Try.func14 fok14.1 fok14.2 rfl rfl (laws_toDiagram.calls HS (RdIn.drop 9 h_aD_Crossings) h102) (fun _ wd105 ⟨A103, c104, h106, HS⟩ => ⟨_, h106, ?_⟩)
           refine GO.move rfl rfl rfl ?_
           refine GO.fn rfl Try.func32 fok32.1 fok32.2 rfl rfl (impl_RemoveKink.calls HS (RdIn.own (j := 0) rfl) h110) (fun _ wd113 ⟨A111, c112, h114, HS⟩ => ⟨_, h114, ?_⟩)
           refine GO.move rfl rfl rfl ?_
           refine GO.extract rfl rfl rfl rfl ?_
           refine GO.extract rfl rfl rfl rfl ?_
           refine GO.alloc HS rfl zr28 rfl rfl ?_; intro b115 wd116 HS
           refine GO.stBox (j := 0) (vs := [.slice A111 t107.length c112, .int .i64 t108]) ([.slice A111 t107.length c112, .int .i64 t108]) HS rfl rfl rfl rfl rfl (htA ag28) rfl rfl rfl ?_; intro wd117 HS
           refine GO.assign rfl rfl rfl ?_
           refine GO.nil ?_
           refine G.seq ?_
           refine G.seq ?_
           obtain ⟨t123, h124, H⟩ := Option.bind_eq_some_iff.1 H
           rcases ite_elim H with ⟨c127, H⟩ | ⟨c127, H⟩
           ·
            refine G.region ?_
            refine GO.ldBoxA (j := 0) ([.slice A111 t107.length c112, .int .i64 t108]) HS rfl rfl rfl rfl ag28 rfl ?_
            refine GO.ldBoxA (j := 7) ([.slice A19 t15.length c20, .int .i64 t16]) HS rfl rfl rfl rfl ag28 rfl ?_
            refine GO.fn rfl Try.func16 fok16.1 fok16.2 rfl rfl (laws_eqDiagram.calls HS (RdIn.own (j := 1) rfl) (RdIn.own (j := 8) rfl) h124) (fun _ wd125 ⟨h126, HS⟩ => ⟨_, h126, ?_⟩)
            refine GO.not rfl rfl rfl ?_
            refine GO.move rfl rfl rfl ?_
            refine GO.known (t := 88) rfl (congrArg Bool.not c127) ?_
            refine GO.on rfl rfl rfl rfl ?_
            refine GO.move rfl rfl rfl ?_
            refine GO.back ?_
            refine GO.on rfl rfl rfl rfl ?_
            refine GO.move rfl rfl rfl ?_
            refine GO.back ?_
            refine GO.on rfl rfl rfl rfl ?_
            refine GO.neq rfl rfl rfl rfl ?_
            refine GO.back ?_
            refine GO.pickF rfl rfl rfl rfl rfl ?_
            refine GO.nil ?_
            rcases ite_elim H with ⟨c128, H⟩ | ⟨c128, H⟩
            ·
             refine G.noB rfl (congrArg Bool.not (decide_eq_true c128)) ?_
             refine G.skip ?_
             refine G.seq ?_
             refine G.region ?_
             refine GO.assign rfl rfl rfl ?_
             refine GO.nil ?_
             refine G.seq ?_
             obtain ⟨t129, h130, H⟩ := Option.bind_eq_some_iff.1 H
             refine G.region ?_
             refine GO.ldBoxA (j := 5) ([.slice A40 t89.length c41, .int .i64 t37]) HS rfl rfl rfl rfl ag28 rfl ?_
             refine GO.move rfl rfl rfl ?_
             refine GO.fn rfl Try.func18 fok18.1 fok18.2 rfl rfl (laws_heldDiagram.calls HS (RdIn.own (j := 3) rfl) h130) (fun _ wd131 ⟨h132, HS⟩ => ⟨_, h132, ?_⟩)
             refine GO.assign rfl rfl rfl ?_
             refine GO.nil ?_
             refine G.seq ?_
             refine G.seq ?_
             refine G.region ?_
             refine GO.move rfl rfl rfl ?_
             refine GO.lss rfl rfl rfl rfl ?_
             refine GO.nil ?_
             rcases ite_elim H with ⟨c133, H⟩ | ⟨c133, H⟩
             ·
              refine G.yesB rfl (decide_eq_true c133) ?_
              refine G.seq ?_
              refine G.region ?_
              refine GO.assign rfl rfl rfl ?_
              refine GO.nil ?_
              obtain rfl := Option.some.inj H
              exact G.ret1 _ Try.func10 rfl rfl ⟨rfl, (HS.pk 12 [] rfl)⟩
             ·
              refine G.noB rfl (decide_eq_false c133) ?_
              refine G.skip ?_
              refine G.seq ?_
              refine G.seq ?_
              refine G.region ?_
              refine GO.move rfl rfl rfl ?_
              refine GO.move rfl rfl rfl ?_
              refine GO.neq rfl rfl rfl rfl ?_
              refine GO.nil ?_
              rcases ite_elim H with ⟨c134, H⟩ | ⟨c134, H⟩
              ·
               refine G.noB rfl (congrArg Bool.not (decide_eq_true c134)) ?_
               refine G.skip ?_
               refine G.seq ?_
               refine G.region ?_
               refine GO.assign rfl rfl rfl ?_
               refine GO.nil ?_
               obtain rfl := Option.some.inj H
               exact G.ret1 _ Try.func10 rfl rfl ⟨rfl, (HS.pk 12 [] rfl)⟩
              ·
               refine G.yesB rfl (congrArg Bool.not (decide_eq_false c134)) ?_
               refine G.seq ?_
               refine G.region ?_
               refine GO.assign rfl rfl rfl ?_
               refine GO.nil ?_
               obtain rfl := Option.some.inj H
               exact G.ret1 _ Try.func10 rfl rfl ⟨rfl, (HS.pk 12 [] rfl)⟩
            ·
             refine G.yesB rfl (congrArg Bool.not (decide_eq_false c128)) ?_
             refine G.seq ?_
             refine G.region ?_
             refine GO.assign rfl rfl rfl ?_
             refine GO.nil ?_
             obtain rfl := Option.some.inj H
             exact G.ret1 _ Try.func10 rfl rfl ⟨rfl, (HS.pk 12 [] rfl)⟩
           ·
            refine G.region ?_
            refine GO.ldBoxA (j := 0) ([.slice A111 t107.length c112, .int .i64 t108]) HS rfl rfl rfl rfl ag28 rfl ?_
            refine GO.ldBoxA (j := 7) ([.slice A19 t15.length c20, .int .i64 t16]) HS rfl rfl rfl rfl ag28 rfl ?_
            refine GO.fn rfl Try.func16 fok16.1 fok16.2 rfl rfl (laws_eqDiagram.calls HS (RdIn.own (j := 1) rfl) (RdIn.own (j := 8) rfl) h124) (fun _ wd125 ⟨h126, HS⟩ => ⟨_, h126, ?_⟩)
            refine GO.not rfl rfl rfl ?_
            refine GO.move rfl rfl rfl ?_
            refine GO.known (t := 88) rfl (congrArg Bool.not (bnot_of c127)) ?_
            refine GO.off rfl rfl rfl rfl rfl rfl ?_
            refine GO.off rfl rfl rfl rfl rfl rfl ?_
            refine GO.off rfl rfl rfl rfl rfl rfl ?_
            refine GO.pickT rfl rfl rfl rfl rfl ?_
            refine GO.nil ?_
            refine G.yesB rfl rfl ?_
            refine G.seq ?_
            refine G.region ?_
            refine GO.assign rfl rfl rfl ?_
            refine GO.nil ?_
            obtain rfl := Option.some.inj H
            exact G.ret1 _ Try.func10 rfl rfl ⟨rfl, (HS.pk 12 [] rfl)⟩
          ·
           refine G.yesB rfl (congrArg Bool.not (decide_eq_false c99)) ?_
           refine G.seq ?_
           refine G.region ?_
           refine GO.assign rfl rfl rfl ?_
           refine GO.nil ?_
           obtain rfl := Option.some.inj H
           exact G.ret1 _ Try.func10 rfl rfl ⟨rfl, (HS.pk 9 [] rfl)⟩
        ·
         refine G.region ?_
         refine GO.move rfl rfl rfl ?_
         refine GO.lss rfl rfl rfl rfl ?_
         refine GO.move rfl rfl rfl ?_
         refine GO.known (t := 55) rfl (decide_eq_false c82) ?_
         refine GO.on rfl rfl rfl rfl ?_
         refine GO.ldBoxA (j := 1) ([.slice A40 t36.length c41, .int .i64 t37]) HS rfl rfl rfl rfl ag28 rfl ?_
         refine GO.back ?_
         refine GO.on rfl rfl rfl rfl ?_
         refine GO.ldBoxA (j := 4) ([.slice A19 t15.length c20, .int .i64 t16]) HS rfl rfl rfl rfl ag28 rfl ?_
         refine GO.back ?_
         refine GO.on rfl rfl rfl rfl ?_
         refine GO.fn rfl Try.func16 fok16.1 fok16.2 rfl rfl (laws_eqDiagram.calls HS (RdIn.own (j := 2) rfl) (RdIn.own (j := 5) rfl) h84) (fun _ wd85 ⟨h86, HS⟩ => ⟨_, h86, ?_⟩)
         refine GO.back ?_
         refine GO.on rfl rfl rfl rfl ?_
         refine GO.not rfl rfl rfl ?_
         refine GO.back ?_
         refine GO.pickF rfl rfl rfl rfl rfl ?_
         refine GO.move rfl rfl rfl ?_
         refine GO.known (t := 61) rfl (congrArg Bool.not (bnot_of c87)) ?_
         refine GO.off rfl rfl rfl rfl rfl rfl ?_
         refine GO.off rfl rfl rfl rfl rfl rfl ?_
         refine GO.off rfl rfl rfl rfl rfl rfl ?_
         refine GO.pickT rfl rfl rfl rfl rfl ?_
         refine GO.nil ?_
         refine G.yesB rfl rfl ?_
         refine G.seq ?_
         refine G.region ?_
         refine GO.assign rfl rfl rfl ?_
         refine GO.nil ?_
         obtain rfl := Option.some.inj H
         exact G.ret1 _ Try.func10 rfl rfl ⟨rfl, (HS.pk 9 [] rfl)⟩
      ·
       refine G.yesB rfl (congrArg Bool.not (bnot_of c69)) ?_
       refine G.seq ?_
       refine G.region ?_
       refine GO.assign rfl rfl rfl ?_
       refine GO.nil ?_
       obtain rfl := Option.some.inj H
       exact G.ret1 _ Try.func10 rfl rfl ⟨rfl, (HS.pk 9 [] rfl)⟩
    ·
     refine G.yesB rfl (congrArg Bool.not (decide_eq_false c57)) ?_
     refine G.seq ?_
     refine G.region ?_
     refine GO.assign rfl rfl rfl ?_
     refine GO.nil ?_
     obtain rfl := Option.some.inj H
     exact G.ret1 _ Try.func10 rfl rfl ⟨rfl, (HS.pk 8 [] rfl)⟩
   ·
    refine G.region ?_
    refine GO.ldBoxA (j := 0) ([.slice A40 t36.length c41, .int .i64 t37]) HS rfl rfl rfl rfl ag28 rfl ?_
    refine GO.ldBoxA (j := 4) ([.slice A19 t15.length c20, .int .i64 t16]) HS rfl rfl rfl rfl ag28 rfl ?_
    refine GO.fn rfl Try.func16 fok16.1 fok16.2 rfl rfl (laws_eqDiagram.calls HS (RdIn.own (j := 1) rfl) (RdIn.own (j := 5) rfl) h53) (fun _ wd54 ⟨h55, HS⟩ => ⟨_, h55, ?_⟩)
    refine GO.not rfl rfl rfl ?_
    refine GO.move rfl rfl rfl ?_
    refine GO.known (t := 40) rfl (congrArg Bool.not (bnot_of c56)) ?_
    refine GO.off rfl rfl rfl rfl rfl rfl ?_
    refine GO.off rfl rfl rfl rfl rfl rfl ?_
    refine GO.off rfl rfl rfl rfl rfl rfl ?_
    refine GO.pickT rfl rfl rfl rfl rfl ?_
    refine GO.nil ?_
    refine G.yesB rfl rfl ?_
    refine G.seq ?_
    refine G.region ?_
    refine GO.assign rfl rfl rfl ?_
    refine GO.nil ?_
    obtain rfl := Option.some.inj H
    exact G.ret1 _ Try.func10 rfl rfl ⟨rfl, (HS.pk 8 [] rfl)⟩

end Go.Proofs.Ytdafmbaeiefacaa
