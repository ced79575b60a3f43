/-
  The walks through the functions: a call comes to what its list function says.
-/
import Derived.Test.YtdafmbaeiefacaaAlF
import Derived.Test.YtdafmbaeiefacaaAlW2
set_option linter.unusedVariables false
set_option linter.unusedSimpArgs false
namespace Go.Proofs.Ytdafmbaeiefacaa
open Go.RowKit
set_option maxRecDepth 20000 in
set_option maxHeartbeats 40000000 in
theorem slices_Repeat_int64_int64.calls {w0 w : World} {L : List HObj} {K : Nat} {x : List Int} {count : Int} {A_x : Option Addr} {c_x : Nat} {r1 : List Int} (HS : St w0 w (L)) (h_x : RdIn w0 L (TInt .i64) A_x c_x (fun _ => ()) x) (H : slices_Repeat_int64_int64.f K x count = some r1) :
    Calls Try.prog 118 #[.slice A_x x.length c_x, .int .i64 count] w (slices_Repeat_int64_int64.post w0 L x count A_x c_x r1) := by
  unfold slices_Repeat_int64_int64.f at H
  refine Calls.of_G Try.func118 rfl rfl rfl ?_
  refine G.seq ?_
  refine G.region ?_
  refine GO.assign rfl rfl rfl ?_
  refine GO.nil ?_
  refine G.seq ?_
  refine G.seq ?_
  refine G.region ?_
  refine GO.move rfl rfl rfl ?_
  refine GO.lss rfl rfl rfl rfl ?_
  refine GO.nil ?_
  rcases ite_elim H with ⟨c2, H⟩ | ⟨c2, H⟩
  ·
   refine G.yesB rfl (decide_eq_true c2) ?_
   cases H
  ·
   refine G.noB rfl (decide_eq_false c2) ?_
   refine G.skip ?_
   refine G.seq ?_
   obtain ⟨t3, t4, h5, H⟩ := bind2_elim H
   refine G.region ?_
   refine GO.move rfl rfl rfl ?_
   refine GO.lenS rfl rfl Try.underlying43 rfl ?_
   refine GO.conv rfl rfl Try.underlying3 Try.underlying156 rfl ?_
   refine GO.move rfl rfl rfl ?_
   refine GO.conv rfl rfl Try.underlying3 Try.underlying156 rfl ?_
   refine GO.fn rfl Try.func162 fok162.1 fok162.2 rfl rfl (math_bits_Mul.calls HS  h5) (fun _ wd6 ⟨h7, HS⟩ => ⟨_, h7, ?_⟩)
   refine GO.move rfl rfl rfl ?_
   refine GO.extract rfl rfl rfl rfl ?_
   refine GO.extract rfl rfl rfl rfl ?_
   refine GO.assign rfl rfl rfl ?_
   refine GO.assign rfl rfl rfl ?_
   refine GO.nil ?_
   refine G.seq ?_
   refine G.seq ?_
   refine G.nameT (fun k_j2 hk_j2 => ?_)
   have at_j2 : ∀ m_j2, m_j2 ≤ K → ∀ (x10 : Bool) (w : World), slices_Repeat_int64_int64.j2 K m_j2 x t4 x10 = some r1 → St w0 w (L) → G Try.prog 118 48 [(0, .slice A_x x.length c_x), (6, .int .u64 t4), (26, .bool x10)] k_j2 w (slices_Repeat_int64_int64.post w0 L x count A_x c_x r1) := by
    intro m_j2 hm_j2 x10 w H HS
    cases m_j2 with
    | zero => rw [slices_Repeat_int64_int64.j2] at H; cases H
    | succ n_j2 =>
     rw [slices_Repeat_int64_int64.j2] at H
     subst hk_j2
     rcases ite_elim H with ⟨c12, H⟩ | ⟨c12, H⟩
     ·
      refine G.yesB rfl c12 ?_
      cases H
     ·
      refine G.noB rfl (bnot_of c12) ?_
      refine G.skip ?_
      refine G.seq ?_
      obtain ⟨c13, H⟩ := ite_none H
      obtain ⟨c14, H⟩ := ite_none H
      refine G.region ?_
      refine GO.move rfl rfl rfl ?_
      refine GO.conv rfl rfl Try.underlying156 Try.underlying3 rfl ?_
      refine GO.make (T := (TInt .i64)) 0 () HS flat_flat rfl rfl rfl Try.underlying43 inf2 rfl rfl rfl c13 c14 rfl ?_; intro b15 wd16 HS
      refine GO.assign rfl rfl rfl ?_
      refine GO.nil ?_
      refine G.seq ?_
      have h18 := over_len (xs := (List.replicate (w64 (t4)).toNat (0 : Int))) (ys := x) (Nat.le_of_eq (Nat.zero_add _))
      refine G.region ?_
      refine GO.move rfl rfl rfl ?_
      refine GO.move rfl rfl rfl ?_
      refine GO.copyP (T := (TInt .i64)) (j := 0) (l := 0) HS rfl (RdIn.drop 1 h_x) flat_flat rfl rfl rfl Try.underlying43 sz2 rfl wholeC (Nat.le_of_eq (Nat.zero_add _)) (fun _ _ => rfl) (fun _ => rfl) ?_; intro wd17 HS
      refine GO.assign rfl rfl rfl ?_
      refine GO.nil ?_
      refine G.len (t := 7) (m := (over (List.replicate (w64 (t4)).toNat (0 : Int)) 0 (x.take ((List.replicate (w64 (t4)).toNat (0 : Int)).length))).length) rfl (by simp only [List.length_set, h18] <;> rfl) ?_
      refine G.seq ?_
      refine G.block ?_
      refine G.loop ?_
      refine G.name (fun k_l4 hk_l4 => ?_)
      have at_l4 : ∀ m_l4, m_l4 ≤ n_j2 → ∀ (newslice_23 : List Int) (n_24 : Int) (w : World), slices_Repeat_int64_int64.l4 K m_l4 newslice_23 n_24 = some r1 → St w0 w (Own (TInt .i64) 2 (some ⟨b15, 0, none⟩) ((w64 (t4)).toNat) (fun _ => ()) newslice_23 :: L) → G Try.prog 118 48 [(7, .slice (some ⟨b15, 0, none⟩) newslice_23.length ((w64 (t4)).toNat)), (8, .int .i64 n_24)] k_l4 w (slices_Repeat_int64_int64.post w0 L x count A_x c_x r1) := by
       intro m_l4
       induction m_l4 using Nat.strongRecOn with
       | _ m_l4 ih_l4 =>
        intro hm_l4 newslice_23 n_24 w H HS
        cases m_l4 with
        | zero => rw [slices_Repeat_int64_int64.l4] at H; cases H
        | succ n_l4 =>
         rw [slices_Repeat_int64_int64.l4] at H
         subst hk_l4
         refine G.seq ?_
         refine G.seq ?_
         refine G.region ?_
         refine GO.move rfl rfl rfl ?_
         refine GO.move rfl rfl rfl ?_
         refine GO.lenS rfl rfl Try.underlying43 rfl ?_
         refine GO.lss rfl rfl rfl rfl ?_
         refine GO.nil ?_
         rcases ite_elim H with ⟨c29, H⟩ | ⟨c29, H⟩
         ·
          refine G.yesB rfl (decide_eq_true c29) ?_
          refine G.skip ?_
          refine G.block ?_
          obtain ⟨c30, H⟩ := ite_none H
          have h32 := over_len (xs := newslice_23) (ys := ((newslice_23.take n_24.toNat).drop 0)) (cutN (leN c30) (Nat.le_refl _))
          refine G.regionAny mixed (by decide) (fun b a w => ∃ (Y1_0 : Value) (Y2_1 : Value) (Y3_2 : Value) (Y4_3 : Value) (Y5_4 : Value) (Y6_5 : Value) (Y7_6 : Value) (Y8_7 : Value) (Y9_8 : Value) (Y10_9 : Value) (O11_2 : HObj), Sat 48 [(8, Y10_9), (38, Y1_0), (39, Y2_1), (40, Y3_2), (41, Y4_3), (42, Y5_4), (43, Y6_5), (44, Y7_6), (45, Y8_7), (46, Y9_8), (7, .slice (some ⟨b15, 0, none⟩) newslice_23.length ((w64 (t4)).toNat))] a ∧ St w0 w (O11_2 :: L) ∧ (b 9 = true → Y10_9 = (.int .i64 (w64 (n_24 + (((((newslice_23.take n_24.toNat).drop 0)).take (((newslice_23.take newslice_23.length).drop n_24.toNat).length)).length : Int))))) ∧ (b 9 = false → Y10_9 = (.int .i64 n_24)) ∧ (b 0 = true → Y1_0 = (.int .i64 n_24)) ∧ (b 1 = true → Y2_1 = (.slice (some ⟨b15, 0, none⟩) newslice_23.length ((w64 (t4)).toNat))) ∧ (b 2 = true → Y3_2 = (.int .i64 n_24)) ∧ (b 3 = true → Y4_3 = (.slice (cutA (some ⟨b15, 0, none⟩) n_24.toNat ((w64 (t4)).toNat) 1) ((newslice_23.take newslice_23.length).drop n_24.toNat).length ((w64 (t4)).toNat - n_24.toNat))) ∧ (b 4 = true → Y5_4 = (.slice (some ⟨b15, 0, none⟩) newslice_23.length ((w64 (t4)).toNat))) ∧ (b 5 = true → Y6_5 = (.int .i64 n_24)) ∧ (b 6 = true → Y7_6 = (.slice (cutA (some ⟨b15, 0, none⟩) 0 ((w64 (t4)).toNat) 1) ((newslice_23.take n_24.toNat).drop 0).length ((w64 (t4)).toNat - 0))) ∧ (b 7 = true → Y8_7 = (.int .i64 (((((newslice_23.take n_24.toNat).drop 0)).take (((newslice_23.take newslice_23.length).drop n_24.toNat).length)).length : Int))) ∧ (b 8 = true → Y9_8 = (.int .i64 (w64 (n_24 + (((((newslice_23.take n_24.toNat).drop 0)).take (((newslice_23.take newslice_23.length).drop n_24.toNat).length)).length : Int))))) ∧ (b 7 = false → O11_2 = Own (TInt .i64) 2 (some ⟨b15, 0, none⟩) ((w64 (t4)).toNat) (fun _ => ()) newslice_23) ∧ (b 7 = true → O11_2 = Own (TInt .i64) 2 (some ⟨b15, 0, none⟩) ((w64 (t4)).toNat) (fun _ => ()) (over newslice_23 n_24.toNat (((newslice_23.take n_24.toNat).drop 0).take (((newslice_23.take newslice_23.length).drop n_24.toNat).length))))) ?_ ?_ ?_
          ·
           intro a hs
           obtain ⟨Y1_0, hs⟩ := hs.ext (d := 38) rfl
           obtain ⟨Y2_1, hs⟩ := hs.ext (d := 39) rfl
           obtain ⟨Y3_2, hs⟩ := hs.ext (d := 40) rfl
           obtain ⟨Y4_3, hs⟩ := hs.ext (d := 41) rfl
           obtain ⟨Y5_4, hs⟩ := hs.ext (d := 42) rfl
           obtain ⟨Y6_5, hs⟩ := hs.ext (d := 43) rfl
           obtain ⟨Y7_6, hs⟩ := hs.ext (d := 44) rfl
           obtain ⟨Y8_7, hs⟩ := hs.ext (d := 45) rfl
           obtain ⟨Y9_8, hs⟩ := hs.ext (d := 46) rfl
           exact ⟨Y1_0, Y2_1, Y3_2, Y4_3, Y5_4, Y6_5, Y7_6, Y8_7, Y9_8, (.int .i64 n_24), Own (TInt .i64) 2 (some ⟨b15, 0, none⟩) ((w64 (t4)).toNat) (fun _ => ()) newslice_23, hs.weak ⟨rfl, rfl, rfl, rfl, rfl, rfl, rfl, rfl, rfl, rfl, rfl, trivial⟩, (HS.drew.pick 1 [0]), fun h => Bool.noConfusion h, fun _ => rfl, fun h => Bool.noConfusion h, fun h => Bool.noConfusion h, fun h => Bool.noConfusion h, fun h => Bool.noConfusion h, fun h => Bool.noConfusion h, fun h => Bool.noConfusion h, fun h => Bool.noConfusion h, fun h => Bool.noConfusion h, fun h => Bool.noConfusion h, fun _ => rfl, fun h => Bool.noConfusion h⟩
          ·
           intro j hj b a w
           refine exI fun Y1_0 => exI fun Y2_1 => exI fun Y3_2 => exI fun Y4_3 => exI fun Y5_4 => exI fun Y6_5 => exI fun Y7_6 => exI fun Y8_7 => exI fun Y9_8 => exI fun Y10_9 => exI fun O11_2 => anI fun hs => anI fun HS => anI fun f9 => anI fun g9 => anI fun f0 => anI fun f1 => anI fun f2 => anI fun f3 => anI fun f4 => anI fun f5 => anI fun f6 => anI fun f7 => anI fun f8 => anI fun o2_0 => fun o2_1 hb hd hcl => ?_
           match j, hj with
           | 0, _ =>
            have d9 : b 9 = false := bfalse (fun hh => hcl 9 (by decide) (hh) 0 (by decide)) hb
            obtain rfl := g9 d9
            refine GO.at hs ?_
            refine GO.move rfl rfl rfl ?_
            refine GO.fin (fun a hs => ?_)
            exact ⟨(.int .i64 n_24), _, _, _, _, _, _, _, _, _, _, by exact hs.setAt 1 rfl, HS, f9, g9, fun _ => rfl, f1, f2, f3, f4, f5, f6, f7, f8, o2_0, o2_1⟩
           | 1, _ =>
            refine GO.at hs ?_
            refine GO.move rfl rfl rfl ?_
            refine GO.fin (fun a hs => ?_)
            exact ⟨_, (.slice (some ⟨b15, 0, none⟩) newslice_23.length ((w64 (t4)).toNat)), _, _, _, _, _, _, _, _, _, by exact hs.setAt 2 rfl, HS, f9, g9, f0, fun _ => rfl, f2, f3, f4, f5, f6, f7, f8, o2_0, o2_1⟩
           | 2, _ =>
            have d9 : b 9 = false := bfalse (fun hh => hcl 9 (by decide) (hh) 2 (by decide)) hb
            obtain rfl := g9 d9
            refine GO.at hs ?_
            refine GO.move rfl rfl rfl ?_
            refine GO.fin (fun a hs => ?_)
            exact ⟨_, _, (.int .i64 n_24), _, _, _, _, _, _, _, _, by exact hs.setAt 3 rfl, HS, f9, g9, f0, f1, fun _ => rfl, f3, f4, f5, f6, f7, f8, o2_0, o2_1⟩
           | 3, _ =>
            have hb1 : b 1 = true := hd 1 (by decide)
            obtain rfl := f1 hb1
            have hb2 : b 2 = true := hd 2 (by decide)
            obtain rfl := f2 hb2
            have d7 : b 7 = false := bfalse (fun hh => hcl 7 (by decide) (hh) 3 (by decide)) hb
            obtain rfl := o2_0 d7
            refine GO.at hs ?_
            refine GO.slL (T := (TInt .i64)) HS (RdIn.own (j := 0) rfl) rfl rfl rfl Try.underlying43 sz2 c30.1 c30.2 rfl ?_
            refine GO.fin (fun a hs => ?_)
            exact ⟨_, _, _, (.slice (cutA (some ⟨b15, 0, none⟩) n_24.toNat ((w64 (t4)).toNat) 1) ((newslice_23.take newslice_23.length).drop n_24.toNat).length ((w64 (t4)).toNat - n_24.toNat)), _, _, _, _, _, _, _, by exact hs.setAt 4 rfl, HS, f9, g9, f0, f1, f2, fun _ => rfl, f4, f5, f6, f7, f8, o2_0, o2_1⟩
           | 4, _ =>
            refine GO.at hs ?_
            refine GO.move rfl rfl rfl ?_
            refine GO.fin (fun a hs => ?_)
            exact ⟨_, _, _, _, (.slice (some ⟨b15, 0, none⟩) newslice_23.length ((w64 (t4)).toNat)), _, _, _, _, _, _, by exact hs.setAt 5 rfl, HS, f9, g9, f0, f1, f2, f3, fun _ => rfl, f5, f6, f7, f8, o2_0, o2_1⟩
           | 5, _ =>
            have d9 : b 9 = false := bfalse (fun hh => hcl 9 (by decide) (hh) 5 (by decide)) hb
            obtain rfl := g9 d9
            refine GO.at hs ?_
            refine GO.move rfl rfl rfl ?_
            refine GO.fin (fun a hs => ?_)
            exact ⟨_, _, _, _, _, (.int .i64 n_24), _, _, _, _, _, by exact hs.setAt 6 rfl, HS, f9, g9, f0, f1, f2, f3, f4, fun _ => rfl, f6, f7, f8, o2_0, o2_1⟩
           | 6, _ =>
            have hb4 : b 4 = true := hd 4 (by decide)
            obtain rfl := f4 hb4
            have hb5 : b 5 = true := hd 5 (by decide)
            obtain rfl := f5 hb5
            have d7 : b 7 = false := bfalse (fun hh => hcl 7 (by decide) (hh) 6 (by decide)) hb
            obtain rfl := o2_0 d7
            refine GO.at hs ?_
            refine GO.slH (T := (TInt .i64)) HS (RdIn.own (j := 0) rfl) rfl rfl rfl Try.underlying43 sz2 c30.1 c30.2 rfl ?_
            refine GO.fin (fun a hs => ?_)
            exact ⟨_, _, _, _, _, _, (.slice (cutA (some ⟨b15, 0, none⟩) 0 ((w64 (t4)).toNat) 1) ((newslice_23.take n_24.toNat).drop 0).length ((w64 (t4)).toNat - 0)), _, _, _, _, by exact hs.setAt 7 rfl, HS, f9, g9, f0, f1, f2, f3, f4, f5, fun _ => rfl, f7, f8, o2_0, o2_1⟩
           | 7, _ =>
            have hb3 : b 3 = true := hd 3 (by decide)
            obtain rfl := f3 hb3
            have hb6 : b 6 = true := hd 6 (by decide)
            obtain rfl := f6 hb6
            obtain rfl := o2_0 hb
            refine GO.at hs ?_
            refine GO.copyP (T := (TInt .i64)) (j := 0) (l := n_24.toNat) HS rfl (RdIn.cut (RdIn.own (j := 0) rfl) (Nat.zero_le _) (leN c30)) flat_flat rfl rfl rfl Try.underlying43 sz2 rfl (cutC (Nat.le_refl _) ((RdIn.own (j := 0) rfl) _ HS).1) (cutN (leN c30) (Nat.le_refl _)) (fun _ _ => rfl) (fun _ => rfl) ?_; intro wd31 HS
            refine GO.fin (fun a hs => ?_)
            exact ⟨_, _, _, _, _, _, _, (.int .i64 (((((newslice_23.take n_24.toNat).drop 0)).take (((newslice_23.take newslice_23.length).drop n_24.toNat).length)).length : Int)), _, _, Own (TInt .i64) 2 (some ⟨b15, 0, none⟩) ((w64 (t4)).toNat) (fun _ => ()) (over newslice_23 n_24.toNat (((newslice_23.take n_24.toNat).drop 0).take (((newslice_23.take newslice_23.length).drop n_24.toNat).length))), by exact hs.setAt 8 rfl, HS, f9, g9, f0, f1, f2, f3, f4, f5, f6, fun _ => rfl, f8, fun h => Bool.noConfusion h, fun _ => rfl⟩
           | 8, _ =>
            have hb0 : b 0 = true := hd 0 (by decide)
            obtain rfl := f0 hb0
            have hb7 : b 7 = true := hd 7 (by decide)
            obtain rfl := f7 hb7
            refine GO.at hs ?_
            refine GO.add rfl rfl rfl rfl ?_
            refine GO.fin (fun a hs => ?_)
            exact ⟨_, _, _, _, _, _, _, _, (.int .i64 (w64 (n_24 + (((((newslice_23.take n_24.toNat).drop 0)).take (((newslice_23.take newslice_23.length).drop n_24.toNat).length)).length : Int)))), _, _, by exact hs.setAt 9 rfl, HS, f9, g9, f0, f1, f2, f3, f4, f5, f6, f7, fun _ => rfl, o2_0, o2_1⟩
           | 9, _ =>
            have hb8 : b 8 = true := hd 8 (by decide)
            obtain rfl := f8 hb8
            refine GO.at hs ?_
            refine GO.assign rfl rfl rfl ?_
            refine GO.fin (fun a hs => ?_)
            exact ⟨_, _, _, _, _, _, _, _, _, (.int .i64 (w64 (n_24 + (((((newslice_23.take n_24.toNat).drop 0)).take (((newslice_23.take newslice_23.length).drop n_24.toNat).length)).length : Int)))), _, by exact hs.setAt 0 rfl, HS, fun _ => rfl, fun h => Bool.noConfusion h, f0, f1, f2, f3, f4, f5, f6, f7, f8, o2_0, o2_1⟩
           | k + 10, hj => exact absurd hj (Nat.not_lt.2 (Nat.le_add_left 10 k))
          ·
           intro b a w hall
           refine exI fun Y1_0 => exI fun Y2_1 => exI fun Y3_2 => exI fun Y4_3 => exI fun Y5_4 => exI fun Y6_5 => exI fun Y7_6 => exI fun Y8_7 => exI fun Y9_8 => exI fun Y10_9 => exI fun O11_2 => anI fun hs => anI fun HS => anI fun f9 => anI fun g9 => anI fun f0 => anI fun f1 => anI fun f2 => anI fun f3 => anI fun f4 => anI fun f5 => anI fun f6 => anI fun f7 => anI fun f8 => anI fun o2_0 => fun o2_1 => ?_
           obtain rfl := f9 (hall 9 (by decide))
           obtain rfl := f0 (hall 0 (by decide))
           obtain rfl := f1 (hall 1 (by decide))
           obtain rfl := f2 (hall 2 (by decide))
           obtain rfl := f3 (hall 3 (by decide))
           obtain rfl := f4 (hall 4 (by decide))
           obtain rfl := f5 (hall 5 (by decide))
           obtain rfl := f6 (hall 6 (by decide))
           obtain rfl := f7 (hall 7 (by decide))
           obtain rfl := f8 (hall 8 (by decide))
           obtain rfl := o2_1 (hall 7 (by decide))
           refine G.at hs ?_
           refine G.len (t := 7) (m := (over newslice_23 n_24.toNat (((newslice_23.take n_24.toNat).drop 0).take (((newslice_23.take newslice_23.length).drop n_24.toNat).length))).length) rfl (by simp only [List.length_set, h32] <;> rfl) ?_
           refine G.blockEnd ?_
           refine G.again ?_
           refine G.weak ?_ (ih_l4 n_l4 (Nat.lt_succ_of_le (Nat.le_refl _)) (Nat.le_of_succ_le hm_l4) _ _ _ H HS)
           exact ⟨rfl, rfl, trivial⟩
         ·
          refine G.noB rfl (decide_eq_false c29) ?_
          refine G.exit rfl ?_
          refine G.seq ?_
          refine G.region ?_
          refine GO.move rfl rfl rfl ?_
          refine GO.assign rfl rfl rfl ?_
          refine GO.nil ?_
          obtain rfl := Option.some.inj H
          exact G.ret1 _ Try.func118 rfl rfl ⟨_, _, rfl, HS⟩
      refine G.weak ?_ (at_l4 n_j2 (Nat.le_refl _) _ _ _ H HS)
      exact ⟨rfl, rfl, trivial⟩
   rcases ite_elim H with ⟨c33, H⟩ | ⟨c33, H⟩
   ·
    refine G.region ?_
    refine GO.move rfl rfl rfl ?_
    refine GO.gtr rfl rfl rfl rfl ?_
    refine GO.move rfl rfl rfl ?_
    refine GO.known (t := 23) rfl (decide_eq_true c33) ?_
    refine GO.off rfl rfl rfl rfl rfl rfl ?_
    refine GO.off rfl rfl rfl rfl rfl rfl ?_
    refine GO.pickT rfl rfl rfl rfl rfl ?_
    refine GO.nil ?_
    refine G.weak ?_ (at_j2 K (Nat.le_refl _) _ _ H HS)
    exact ⟨rfl, rfl, rfl, trivial⟩
   ·
    refine G.region ?_
    refine GO.move rfl rfl rfl ?_
    refine GO.gtr rfl rfl rfl rfl ?_
    refine GO.move rfl rfl rfl ?_
    refine GO.known (t := 23) rfl (decide_eq_false c33) ?_
    refine GO.on rfl rfl rfl rfl ?_
    refine GO.move rfl rfl rfl ?_
    refine GO.back ?_
    refine GO.on rfl rfl rfl rfl ?_
    refine GO.gtr rfl rfl rfl rfl ?_
    refine GO.back ?_
    refine GO.pickF rfl rfl rfl rfl rfl ?_
    refine GO.nil ?_
    refine G.weak ?_ (at_j2 K (Nat.le_refl _) _ _ H HS)
    exact ⟨rfl, rfl, rfl, trivial⟩

set_option maxRecDepth 20000 in
set_option maxHeartbeats 40000000 in
theorem impl_crossingOf.calls {w0 w : World} {L : List HObj} {ends_0 : Int} {ends_1 : Int} {ends_2 : Int} {ends_3 : Int} {sign : Int} {r1 : Int} {r2 : Int} {r3 : Int} {r4 : Int} {r5 : Int} (HS : St w0 w (L)) (H : impl_crossingOf.f ends_0 ends_1 ends_2 ends_3 sign = some (r1, r2, r3, r4, r5)) :
    Calls Try.prog 113 #[.agg [.int .i64 ends_0, .int .i64 ends_1, .int .i64 ends_2, .int .i64 ends_3].toArray, .int .i64 sign] w (impl_crossingOf.post w0 L ends_0 ends_1 ends_2 ends_3 sign r1 r2 r3 r4 r5) := by
  unfold impl_crossingOf.f at H
  refine Calls.of_G Try.func113 rfl rfl rfl ?_
  refine G.seq ?_
  refine G.region ?_
  refine GO.box (cs := [.int .i64 ends_0, .int .i64 ends_1, .int .i64 ends_2, .int .i64 ends_3]) HS rfl rfl rfl rfl ?_; intro b1 wd2 HS
  refine GO.alloc HS rfl zr58 rfl rfl ?_; intro b3 wd4 HS
  refine GO.nil ?_
  refine G.seq ?_
  refine G.region ?_
  refine GO.ixP 0 rfl rfl rfl rfl Try.underlying93 sz2 rfl rfl ?_
  refine GO.ldBox (j := 1) HS rfl rfl rfl rfl na2 rfl ?_
  refine GO.ixP 1 rfl rfl rfl rfl Try.underlying93 sz2 rfl rfl ?_
  refine GO.ldBox (j := 1) HS rfl rfl rfl rfl na2 rfl ?_
  refine GO.ixP 2 rfl rfl rfl rfl Try.underlying93 sz2 rfl rfl ?_
  refine GO.ldBox (j := 1) HS rfl rfl rfl rfl na2 rfl ?_
  refine GO.ixP 3 rfl rfl rfl rfl Try.underlying93 sz2 rfl rfl ?_
  refine GO.ldBox (j := 1) HS rfl rfl rfl rfl na2 rfl ?_
  refine GO.move rfl rfl rfl ?_
  refine GO.buildV (.agg [.int .i64 ends_0, .int .i64 ends_1, .int .i64 ends_2, .int .i64 ends_3, .int .i64 sign].toArray) rfl rfl (fun _ => by kernel_rfl) rfl ?_
  refine GO.stBox (j := 0) (vs := [.int .i64 ends_0, .int .i64 ends_1, .int .i64 ends_2, .int .i64 ends_3, .int .i64 sign]) ([.int .i64 ends_0, .int .i64 ends_1, .int .i64 ends_2, .int .i64 ends_3, .int .i64 sign]) HS rfl rfl rfl rfl rfl (htA ag58) rfl rfl rfl ?_; intro wd5 HS
  refine GO.nil ?_
  obtain ⟨rfl, rfl, rfl, rfl, rfl⟩ := some5 H
  exact G.ret1 _ Try.func113 rfl (Res1.boxA (j := 0) (vs := [.int .i64 ends_0, .int .i64 ends_1, .int .i64 ends_2, .int .i64 ends_3, .int .i64 sign]) HS rfl rfl rfl ag58) ⟨rfl, (HS.pick 2 [])⟩

set_option maxRecDepth 20000 in
set_option maxHeartbeats 40000000 in
theorem impl_Diagram_set.calls {w0 w : World} {L : List HObj} {d_Crossings : List GCrossing} {d_Circles : Int} {e_crossing : Int} {e_position : Int} {arc : Int} {A_d_Crossings : Option Addr} {c_d_Crossings : Nat} {r1 : List GCrossing} (HS : St w0 w (Own T_GCrossing 58 A_d_Crossings c_d_Crossings (fun _ => ()) d_Crossings :: L)) (H : impl_Diagram_set.f d_Crossings d_Circles e_crossing e_position arc = some r1) :
    Calls Try.prog 50 #[.agg [.slice A_d_Crossings d_Crossings.length c_d_Crossings, .int .i64 d_Circles].toArray, .agg [.int .i64 e_crossing, .int .i64 e_position].toArray, .int .i64 arc] w (impl_Diagram_set.post w0 L d_Crossings d_Circles e_crossing e_position arc A_d_Crossings c_d_Crossings r1) := by
  unfold impl_Diagram_set.f at H
  refine Calls.of_G Try.func50 rfl rfl rfl ?_
  refine G.seq ?_
  refine G.region ?_
  refine GO.box (cs := [.slice A_d_Crossings d_Crossings.length c_d_Crossings, .int .i64 d_Circles]) HS rfl rfl rfl rfl ?_; intro b1 wd2 HS
  refine GO.box (cs := [.int .i64 e_crossing, .int .i64 e_position]) HS rfl rfl rfl rfl ?_; intro b3 wd4 HS
  refine GO.nil ?_
  refine G.seq ?_
  obtain ⟨c5, H⟩ := ite_none H
  obtain ⟨e6, h7, H⟩ := bnd_elim H
  refine G.region ?_
  refine GO.fld (⟨b1, 0, none⟩) rfl rfl fl28_0 rfl rfl ?_
  refine GO.ldBox (j := 1) HS rfl rfl rfl rfl na26 rfl ?_
  refine GO.fld (⟨b3, 0, none⟩) rfl rfl fl68_0 rfl rfl ?_
  refine GO.ldBox (j := 0) HS rfl rfl rfl rfl na2 rfl ?_
  refine GO.ix rfl rfl rfl Try.underlying26 sz58 ((RdIn.own (j := 2) rfl) _ HS).2.2.1 c5.1 c5.2 rfl ?_
  refine GO.ldRdA (T := T_GCrossing) (n := e_crossing.toNat) HS (RdIn.own (j := 2) rfl) rfl rfl (getD_eq (ltN c5) h7) ag58 rfl ?_
  refine GO.alloc HS rfl zr58 rfl rfl ?_; intro b8 wd9 HS
  refine GO.stBox (j := 0) (vs := [.int .i64 e6.A, .int .i64 e6.B, .int .i64 e6.C, .int .i64 e6.D, .int .i64 e6.Sign]) ([.int .i64 e6.A, .int .i64 e6.B, .int .i64 e6.C, .int .i64 e6.D, .int .i64 e6.Sign]) HS rfl rfl rfl rfl rfl (htA ag58) rfl rfl rfl ?_; intro wd10 HS
  refine GO.nil ?_
  refine G.seq ?_
  obtain ⟨t11, t12, t13, t14, h15, H⟩ := bind4_elim H
  refine G.region ?_
  refine GO.ldBoxA (j := 0) ([.int .i64 e6.A, .int .i64 e6.B, .int .i64 e6.C, .int .i64 e6.D, .int .i64 e6.Sign]) HS rfl rfl rfl rfl ag58 rfl ?_
  refine GO.fn rfl Try.func75 fok75.1 fok75.2 rfl rfl (impl_Crossing_ends.calls HS  h15) (fun _ wd16 ⟨h17, HS⟩ => ⟨_, h17, ?_⟩)
  refine GO.alloc HS rfl zr93 rfl rfl ?_; intro b18 wd19 HS
  refine GO.stBox (j := 0) (vs := [.int .i64 t11, .int .i64 t12, .int .i64 t13, .int .i64 t14]) ([.int .i64 t11, .int .i64 t12, .int .i64 t13, .int .i64 t14]) HS rfl rfl rfl rfl rfl (htA ag93) rfl rfl rfl ?_; intro wd20 HS
  refine GO.nil ?_
  refine G.seq ?_
  rcases ite_elim H with ⟨c21, H⟩ | ⟨c21, H⟩
  ·
   refine G.region ?_
   refine GO.fld (⟨b3, 1, none⟩) rfl rfl fl68_1 rfl rfl ?_
   refine GO.ldBox (j := 2) HS rfl rfl rfl rfl na2 rfl ?_
   refine GO.move rfl rfl rfl ?_
   refine GO.ixP 0 rfl rfl rfl c21 Try.underlying93 sz2 rfl rfl ?_
   refine GO.stBox (j := 0) (vs := [.int .i64 arc]) ([.int .i64 arc, .int .i64 t12, .int .i64 t13, .int .i64 t14]) HS rfl rfl rfl rfl rfl (htN na2 rfl) rfl rfl rfl ?_; intro wd22 HS
   refine GO.nil ?_
   obtain ⟨t23, t24, t25, t26, t27, h28, H⟩ := bind5_elim H
   refine G.regionAny mixed (by decide) (fun b a w => ∃ (Y1_0 : Value) (Y2_1 : Value) (Y3_2 : Value) (Y4_3 : Value) (Y5_4 : Value) (Y6_5 : Value) (Y7_6 : Value) (Y8_7 : Value) (Y9_8 : Value) (O10_1 : HObj), Sat 29 [(20, Y1_0), (21, Y2_1), (22, Y3_2), (23, Y4_3), (24, Y5_4), (25, Y6_5), (26, Y7_6), (27, Y8_7), (28, Y9_8), (3, .pointer (some ⟨b1, 0, none⟩)), (4, .pointer (some ⟨b3, 0, none⟩)), (6, .pointer (some ⟨b8, 0, none⟩)), (7, .pointer (some ⟨b18, 0, none⟩))] a ∧ St w0 w (Box b18 93 [.int .i64 arc, .int .i64 t12, .int .i64 t13, .int .i64 t14] :: Box b8 58 [.int .i64 e6.A, .int .i64 e6.B, .int .i64 e6.C, .int .i64 e6.D, .int .i64 e6.Sign] :: Box b3 68 [.int .i64 e_crossing, .int .i64 e_position] :: Box b1 28 [.slice A_d_Crossings d_Crossings.length c_d_Crossings, .int .i64 d_Circles] :: O10_1 :: L) ∧ (b 0 = true → Y1_0 = (.pointer (some ⟨b1, 0, none⟩))) ∧ (b 1 = true → Y2_1 = (.slice A_d_Crossings d_Crossings.length c_d_Crossings)) ∧ (b 2 = true → Y3_2 = (.pointer (some ⟨b3, 0, none⟩))) ∧ (b 3 = true → Y4_3 = (.int .i64 e_crossing)) ∧ (b 4 = true → Y5_4 = (.agg [.int .i64 arc, .int .i64 t12, .int .i64 t13, .int .i64 t14].toArray)) ∧ (b 5 = true → Y6_5 = (.pointer (some ⟨b8, 4, none⟩))) ∧ (b 6 = true → Y7_6 = (.int .i64 e6.Sign)) ∧ (b 7 = true → Y8_7 = (.agg [.int .i64 t23, .int .i64 t24, .int .i64 t25, .int .i64 t26, .int .i64 t27].toArray)) ∧ (b 8 = true → Y9_8 = (.pointer (some (ea A_d_Crossings (e_crossing.toNat * 5))))) ∧ (b 9 = false → O10_1 = Own T_GCrossing 58 A_d_Crossings c_d_Crossings (fun _ => ()) d_Crossings) ∧ (b 9 = true → O10_1 = Own T_GCrossing 58 A_d_Crossings c_d_Crossings (fun _ => ()) (d_Crossings.set e_crossing.toNat (⟨t23, t24, t25, t26, t27⟩ : GCrossing)))) ?_ ?_ ?_
   ·
    intro a hs
    obtain ⟨Y1_0, hs⟩ := hs.ext (d := 20) rfl
    obtain ⟨Y2_1, hs⟩ := hs.ext (d := 21) rfl
    obtain ⟨Y3_2, hs⟩ := hs.ext (d := 22) rfl
    obtain ⟨Y4_3, hs⟩ := hs.ext (d := 23) rfl
    obtain ⟨Y5_4, hs⟩ := hs.ext (d := 24) rfl
    obtain ⟨Y6_5, hs⟩ := hs.ext (d := 25) rfl
    obtain ⟨Y7_6, hs⟩ := hs.ext (d := 26) rfl
    obtain ⟨Y8_7, hs⟩ := hs.ext (d := 27) rfl
    obtain ⟨Y9_8, hs⟩ := hs.ext (d := 28) rfl
    exact ⟨Y1_0, Y2_1, Y3_2, Y4_3, Y5_4, Y6_5, Y7_6, Y8_7, Y9_8, Own T_GCrossing 58 A_d_Crossings c_d_Crossings (fun _ => ()) d_Crossings, hs.weak ⟨rfl, rfl, rfl, rfl, rfl, rfl, rfl, rfl, rfl, rfl, rfl, rfl, rfl, trivial⟩, (HS.drew.pick 5 [0, 1, 2, 3, 4]), fun h => Bool.noConfusion h, fun h => Bool.noConfusion h, fun h => Bool.noConfusion h, fun h => Bool.noConfusion h, fun h => Bool.noConfusion h, fun h => Bool.noConfusion h, fun h => Bool.noConfusion h, fun h => Bool.noConfusion h, fun h => Bool.noConfusion h, fun _ => rfl, fun h => Bool.noConfusion h⟩
   ·
    intro j hj b a w
    refine exI fun Y1_0 => exI fun Y2_1 => exI fun Y3_2 => exI fun Y4_3 => exI fun Y5_4 => exI fun Y6_5 => exI fun Y7_6 => exI fun Y8_7 => exI fun Y9_8 => exI fun O10_1 => anI fun hs => anI fun HS => anI fun f0 => anI fun f1 => anI fun f2 => anI fun f3 => anI fun f4 => anI fun f5 => anI fun f6 => anI fun f7 => anI fun f8 => anI fun o1_0 => fun o1_1 hb hd hcl => ?_
    match j, hj with
    | 0, _ =>
     refine GO.at hs ?_
     refine GO.fld (⟨b1, 0, none⟩) rfl rfl fl28_0 rfl rfl ?_
     refine GO.fin (fun a hs => ?_)
     exact ⟨(.pointer (some ⟨b1, 0, none⟩)), _, _, _, _, _, _, _, _, _, by exact hs.setAt 0 rfl, HS, fun _ => rfl, f1, f2, f3, f4, f5, f6, f7, f8, o1_0, o1_1⟩
    | 1, _ =>
     have hb0 : b 0 = true := hd 0 (by decide)
     obtain rfl := f0 hb0
     refine GO.at hs ?_
     refine GO.ldBox (j := 3) HS rfl rfl rfl rfl na26 rfl ?_
     refine GO.fin (fun a hs => ?_)
     exact ⟨_, (.slice A_d_Crossings d_Crossings.length c_d_Crossings), _, _, _, _, _, _, _, _, by exact hs.setAt 1 rfl, HS, f0, fun _ => rfl, f2, f3, f4, f5, f6, f7, f8, o1_0, o1_1⟩
    | 2, _ =>
     refine GO.at hs ?_
     refine GO.fld (⟨b3, 0, none⟩) rfl rfl fl68_0 rfl rfl ?_
     refine GO.fin (fun a hs => ?_)
     exact ⟨_, _, (.pointer (some ⟨b3, 0, none⟩)), _, _, _, _, _, _, _, by exact hs.setAt 2 rfl, HS, f0, f1, fun _ => rfl, f3, f4, f5, f6, f7, f8, o1_0, o1_1⟩
    | 3, _ =>
     have hb2 : b 2 = true := hd 2 (by decide)
     obtain rfl := f2 hb2
     refine GO.at hs ?_
     refine GO.ldBox (j := 2) HS rfl rfl rfl rfl na2 rfl ?_
     refine GO.fin (fun a hs => ?_)
     exact ⟨_, _, _, (.int .i64 e_crossing), _, _, _, _, _, _, by exact hs.setAt 3 rfl, HS, f0, f1, f2, fun _ => rfl, f4, f5, f6, f7, f8, o1_0, o1_1⟩
    | 4, _ =>
     refine GO.at hs ?_
     refine GO.ldBoxA (j := 0) ([.int .i64 arc, .int .i64 t12, .int .i64 t13, .int .i64 t14]) HS rfl rfl rfl rfl ag93 rfl ?_
     refine GO.fin (fun a hs => ?_)
     exact ⟨_, _, _, _, (.agg [.int .i64 arc, .int .i64 t12, .int .i64 t13, .int .i64 t14].toArray), _, _, _, _, _, by exact hs.setAt 4 rfl, HS, f0, f1, f2, f3, fun _ => rfl, f5, f6, f7, f8, o1_0, o1_1⟩
    | 5, _ =>
     refine GO.at hs ?_
     refine GO.fld (⟨b8, 4, none⟩) rfl rfl fl58_4 rfl rfl ?_
     refine GO.fin (fun a hs => ?_)
     exact ⟨_, _, _, _, _, (.pointer (some ⟨b8, 4, none⟩)), _, _, _, _, by exact hs.setAt 5 rfl, HS, f0, f1, f2, f3, f4, fun _ => rfl, f6, f7, f8, o1_0, o1_1⟩
    | 6, _ =>
     have hb5 : b 5 = true := hd 5 (by decide)
     obtain rfl := f5 hb5
     refine GO.at hs ?_
     refine GO.ldBox (j := 1) HS rfl rfl rfl rfl na2 rfl ?_
     refine GO.fin (fun a hs => ?_)
     exact ⟨_, _, _, _, _, _, (.int .i64 e6.Sign), _, _, _, by exact hs.setAt 6 rfl, HS, f0, f1, f2, f3, f4, f5, fun _ => rfl, f7, f8, o1_0, o1_1⟩
    | 7, _ =>
     have hb4 : b 4 = true := hd 4 (by decide)
     obtain rfl := f4 hb4
     have hb6 : b 6 = true := hd 6 (by decide)
     obtain rfl := f6 hb6
     refine GO.at hs ?_
     refine GO.fn rfl Try.func113 fok113.1 fok113.2 rfl rfl (impl_crossingOf.calls HS  h28) (fun _ wd29 ⟨h30, HS⟩ => ⟨_, h30, ?_⟩)
     refine GO.fin (fun a hs => ?_)
     exact ⟨_, _, _, _, _, _, _, (.agg [.int .i64 t23, .int .i64 t24, .int .i64 t25, .int .i64 t26, .int .i64 t27].toArray), _, _, by exact hs.setAt 7 rfl, HS, f0, f1, f2, f3, f4, f5, f6, fun _ => rfl, f8, o1_0, o1_1⟩
    | 8, _ =>
     have hb1 : b 1 = true := hd 1 (by decide)
     obtain rfl := f1 hb1
     have hb3 : b 3 = true := hd 3 (by decide)
     obtain rfl := f3 hb3
     have d9 : b 9 = false := bfalse (fun hh => hcl 9 (by decide) (hh) 8 (by decide)) hb
     obtain rfl := o1_0 d9
     refine GO.at hs ?_
     refine GO.ix rfl rfl rfl Try.underlying26 sz58 ((RdIn.own (j := 4) rfl) _ HS).2.2.1 c5.1 c5.2 rfl ?_
     refine GO.fin (fun a hs => ?_)
     exact ⟨_, _, _, _, _, _, _, _, (.pointer (some (ea A_d_Crossings (e_crossing.toNat * 5)))), _, by exact hs.setAt 8 rfl, HS, f0, f1, f2, f3, f4, f5, f6, f7, fun _ => rfl, o1_0, o1_1⟩
    | 9, _ =>
     have hb7 : b 7 = true := hd 7 (by decide)
     obtain rfl := f7 hb7
     have hb8 : b 8 = true := hd 8 (by decide)
     obtain rfl := f8 hb8
     obtain rfl := o1_0 hb
     refine GO.at hs ?_
     refine GO.stRow (T := T_GCrossing) (j := 4) (n := e_crossing.toNat) (o := 0) (vs := [.int .i64 t23, .int .i64 t24, .int .i64 t25, .int .i64 t26, .int .i64 t27]) (⟨t23, t24, t25, t26, t27⟩ : GCrossing) HS rfl flat_flat rfl rfl rfl rfl (htA ag58) rfl (getD_some (d := z_GCrossing) (ltN c5)) rfl rfl ?_; intro wd31 HS
     refine GO.fin (fun a hs => ?_)
     exact ⟨_, _, _, _, _, _, _, _, _, Own T_GCrossing 58 A_d_Crossings c_d_Crossings (fun _ => ()) (d_Crossings.set e_crossing.toNat (⟨t23, t24, t25, t26, t27⟩ : GCrossing)), hs, HS, f0, f1, f2, f3, f4, f5, f6, f7, f8, fun h => Bool.noConfusion h, fun _ => rfl⟩
    | k + 10, hj => exact absurd hj (Nat.not_lt.2 (Nat.le_add_left 10 k))
   ·
    intro b a w hall
    refine exI fun Y1_0 => exI fun Y2_1 => exI fun Y3_2 => exI fun Y4_3 => exI fun Y5_4 => exI fun Y6_5 => exI fun Y7_6 => exI fun Y8_7 => exI fun Y9_8 => exI fun O10_1 => anI fun hs => anI fun HS => anI fun f0 => anI fun f1 => anI fun f2 => anI fun f3 => anI fun f4 => anI fun f5 => anI fun f6 => anI fun f7 => anI fun f8 => anI fun o1_0 => fun o1_1 => ?_
    obtain rfl := f0 (hall 0 (by decide))
    obtain rfl := f1 (hall 1 (by decide))
    obtain rfl := f2 (hall 2 (by decide))
    obtain rfl := f3 (hall 3 (by decide))
    obtain rfl := f4 (hall 4 (by decide))
    obtain rfl := f5 (hall 5 (by decide))
    obtain rfl := f6 (hall 6 (by decide))
    obtain rfl := f7 (hall 7 (by decide))
    obtain rfl := f8 (hall 8 (by decide))
    obtain rfl := o1_1 (hall 9 (by decide))
    refine G.at hs ?_
    replace HS := HS.boxEq (j := 3) (cs' := [.slice A_d_Crossings (d_Crossings.set e_crossing.toNat (⟨t23, t24, t25, t26, t27⟩ : GCrossing)).length c_d_Crossings, .int .i64 d_Circles]) rfl (by simp only [List.length_set] <;> rfl)
    obtain rfl := Option.some.inj H
    exact G.end0 Try.func50 rfl ⟨rfl, (HS.pick 5 [4])⟩
  ·
   rcases ite_elim H with ⟨c32, H⟩ | ⟨c32, H⟩
   ·
    refine G.region ?_
    refine GO.fld (⟨b3, 1, none⟩) rfl rfl fl68_1 rfl rfl ?_
    refine GO.ldBox (j := 2) HS rfl rfl rfl rfl na2 rfl ?_
    refine GO.move rfl rfl rfl ?_
    refine GO.ixP 1 rfl rfl rfl c32 Try.underlying93 sz2 rfl rfl ?_
    refine GO.stBox (j := 0) (vs := [.int .i64 arc]) ([.int .i64 t11, .int .i64 arc, .int .i64 t13, .int .i64 t14]) HS rfl rfl rfl rfl rfl (htN na2 rfl) rfl rfl rfl ?_; intro wd33 HS
    refine GO.nil ?_
    obtain ⟨t34, t35, t36, t37, t38, h39, H⟩ := bind5_elim H
    refine G.regionAny mixed (by decide) (fun b a w => ∃ (Y11_0 : Value) (Y12_1 : Value) (Y13_2 : Value) (Y14_3 : Value) (Y15_4 : Value) (Y16_5 : Value) (Y17_6 : Value) (Y18_7 : Value) (Y19_8 : Value) (O20_1 : HObj), Sat 29 [(20, Y11_0), (21, Y12_1), (22, Y13_2), (23, Y14_3), (24, Y15_4), (25, Y16_5), (26, Y17_6), (27, Y18_7), (28, Y19_8), (3, .pointer (some ⟨b1, 0, none⟩)), (4, .pointer (some ⟨b3, 0, none⟩)), (6, .pointer (some ⟨b8, 0, none⟩)), (7, .pointer (some ⟨b18, 0, none⟩))] a ∧ St w0 w (Box b18 93 [.int .i64 t11, .int .i64 arc, .int .i64 t13, .int .i64 t14] :: Box b8 58 [.int .i64 e6.A, .int .i64 e6.B, .int .i64 e6.C, .int .i64 e6.D, .int .i64 e6.Sign] :: Box b3 68 [.int .i64 e_crossing, .int .i64 e_position] :: Box b1 28 [.slice A_d_Crossings d_Crossings.length c_d_Crossings, .int .i64 d_Circles] :: O20_1 :: L) ∧ (b 0 = true → Y11_0 = (.pointer (some ⟨b1, 0, none⟩))) ∧ (b 1 = true → Y12_1 = (.slice A_d_Crossings d_Crossings.length c_d_Crossings)) ∧ (b 2 = true → Y13_2 = (.pointer (some ⟨b3, 0, none⟩))) ∧ (b 3 = true → Y14_3 = (.int .i64 e_crossing)) ∧ (b 4 = true → Y15_4 = (.agg [.int .i64 t11, .int .i64 arc, .int .i64 t13, .int .i64 t14].toArray)) ∧ (b 5 = true → Y16_5 = (.pointer (some ⟨b8, 4, none⟩))) ∧ (b 6 = true → Y17_6 = (.int .i64 e6.Sign)) ∧ (b 7 = true → Y18_7 = (.agg [.int .i64 t34, .int .i64 t35, .int .i64 t36, .int .i64 t37, .int .i64 t38].toArray)) ∧ (b 8 = true → Y19_8 = (.pointer (some (ea A_d_Crossings (e_crossing.toNat * 5))))) ∧ (b 9 = false → O20_1 = Own T_GCrossing 58 A_d_Crossings c_d_Crossings (fun _ => ()) d_Crossings) ∧ (b 9 = true → O20_1 = Own T_GCrossing 58 A_d_Crossings c_d_Crossings (fun _ => ()) (d_Crossings.set e_crossing.toNat (⟨t34, t35, t36, t37, t38⟩ : GCrossing)))) ?_ ?_ ?_
    ·
     intro a hs
     obtain ⟨Y11_0, hs⟩ := hs.ext (d := 20) rfl
     obtain ⟨Y12_1, hs⟩ := hs.ext (d := 21) rfl
     obtain ⟨Y13_2, hs⟩ := hs.ext (d := 22) rfl
     obtain ⟨Y14_3, hs⟩ := hs.ext (d := 23) rfl
     obtain ⟨Y15_4, hs⟩ := hs.ext (d := 24) rfl
     obtain ⟨Y16_5, hs⟩ := hs.ext (d := 25) rfl
     obtain ⟨Y17_6, hs⟩ := hs.ext (d := 26) rfl
     obtain ⟨Y18_7, hs⟩ := hs.ext (d := 27) rfl
     obtain ⟨Y19_8, hs⟩ := hs.ext (d := 28) rfl
     exact ⟨Y11_0, Y12_1, Y13_2, Y14_3, Y15_4, Y16_5, Y17_6, Y18_7, Y19_8, Own T_GCrossing 58 A_d_Crossings c_d_Crossings (fun _ => ()) d_Crossings, hs.weak ⟨rfl, rfl, rfl, rfl, rfl, rfl, rfl, rfl, rfl, rfl, rfl, rfl, rfl, trivial⟩, (HS.drew.pick 5 [0, 1, 2, 3, 4]), fun h => Bool.noConfusion h, fun h => Bool.noConfusion h, fun h => Bool.noConfusion h, fun h => Bool.noConfusion h, fun h => Bool.noConfusion h, fun h => Bool.noConfusion h, fun h => Bool.noConfusion h, fun h => Bool.noConfusion h, fun h => Bool.noConfusion h, fun _ => rfl, fun h => Bool.noConfusion h⟩
    ·
     intro j hj b a w
     refine exI fun Y11_0 => exI fun Y12_1 => exI fun Y13_2 => exI fun Y14_3 => exI fun Y15_4 => exI fun Y16_5 => exI fun Y17_6 => exI fun Y18_7 => exI fun Y19_8 => exI fun O20_1 => anI fun hs => anI fun HS => anI fun f0 => anI fun f1 => anI fun f2 => anI fun f3 => anI fun f4 => anI fun f5 => anI fun f6 => anI fun f7 => anI fun f8 => anI fun o1_0 => fun o1_1 hb hd hcl => ?_
     match j, hj with
     | 0, _ =>
      refine GO.at hs ?_
      refine GO.fld (⟨b1, 0, none⟩) rfl rfl fl28_0 rfl rfl ?_
      refine GO.fin (fun a hs => ?_)
      exact ⟨(.pointer (some ⟨b1, 0, none⟩)), _, _, _, _, _, _, _, _, _, by exact hs.setAt 0 rfl, HS, fun _ => rfl, f1, f2, f3, f4, f5, f6, f7, f8, o1_0, o1_1⟩
     | 1, _ =>
      have hb0 : b 0 = true := hd 0 (by decide)
      obtain rfl := f0 hb0
      refine GO.at hs ?_
      refine GO.ldBox (j := 3) HS rfl rfl rfl rfl na26 rfl ?_
      refine GO.fin (fun a hs => ?_)
      exact ⟨_, (.slice A_d_Crossings d_Crossings.length c_d_Crossings), _, _, _, _, _, _, _, _, by exact hs.setAt 1 rfl, HS, f0, fun _ => rfl, f2, f3, f4, f5, f6, f7, f8, o1_0, o1_1⟩
     | 2, _ =>
      refine GO.at hs ?_
      refine GO.fld (⟨b3, 0, none⟩) rfl rfl fl68_0 rfl rfl ?_
      refine GO.fin (fun a hs => ?_)
      exact ⟨_, _, (.pointer (some ⟨b3, 0, none⟩)), _, _, _, _, _, _, _, by exact hs.setAt 2 rfl, HS, f0, f1, fun _ => rfl, f3, f4, f5, f6, f7, f8, o1_0, o1_1⟩
     | 3, _ =>
      have hb2 : b 2 = true := hd 2 (by decide)
      obtain rfl := f2 hb2
      refine GO.at hs ?_
      refine GO.ldBox (j := 2) HS rfl rfl rfl rfl na2 rfl ?_
      refine GO.fin (fun a hs => ?_)
      exact ⟨_, _, _, (.int .i64 e_crossing), _, _, _, _, _, _, by exact hs.setAt 3 rfl, HS, f0, f1, f2, fun _ => rfl, f4, f5, f6, f7, f8, o1_0, o1_1⟩
     | 4, _ =>
      refine GO.at hs ?_
      refine GO.ldBoxA (j := 0) ([.int .i64 t11, .int .i64 arc, .int .i64 t13, .int .i64 t14]) HS rfl rfl rfl rfl ag93 rfl ?_
      refine GO.fin (fun a hs => ?_)
      exact ⟨_, _, _, _, (.agg [.int .i64 t11, .int .i64 arc, .int .i64 t13, .int .i64 t14].toArray), _, _, _, _, _, by exact hs.setAt 4 rfl, HS, f0, f1, f2, f3, fun _ => rfl, f5, f6, f7, f8, o1_0, o1_1⟩
     | 5, _ =>
      refine GO.at hs ?_
      refine GO.fld (⟨b8, 4, none⟩) rfl rfl fl58_4 rfl rfl ?_
      refine GO.fin (fun a hs => ?_)
      exact ⟨_, _, _, _, _, (.pointer (some ⟨b8, 4, none⟩)), _, _, _, _, by exact hs.setAt 5 rfl, HS, f0, f1, f2, f3, f4, fun _ => rfl, f6, f7, f8, o1_0, o1_1⟩
     | 6, _ =>
      have hb5 : b 5 = true := hd 5 (by decide)
      obtain rfl := f5 hb5
      refine GO.at hs ?_
      refine GO.ldBox (j := 1) HS rfl rfl rfl rfl na2 rfl ?_
      refine GO.fin (fun a hs => ?_)
      exact ⟨_, _, _, _, _, _, (.int .i64 e6.Sign), _, _, _, by exact hs.setAt 6 rfl, HS, f0, f1, f2, f3, f4, f5, fun _ => rfl, f7, f8, o1_0, o1_1⟩
     | 7, _ =>
      have hb4 : b 4 = true := hd 4 (by decide)
      obtain rfl := f4 hb4
      have hb6 : b 6 = true := hd 6 (by decide)
      obtain rfl := f6 hb6
      refine GO.at hs ?_
      refine GO.fn rfl Try.func113 fok113.1 fok113.2 rfl rfl (impl_crossingOf.calls HS  h39) (fun _ wd40 ⟨h41, HS⟩ => ⟨_, h41, ?_⟩)
      refine GO.fin (fun a hs => ?_)
      exact ⟨_, _, _, _, _, _, _, (.agg [.int .i64 t34, .int .i64 t35, .int .i64 t36, .int .i64 t37, .int .i64 t38].toArray), _, _, by exact hs.setAt 7 rfl, HS, f0, f1, f2, f3, f4, f5, f6, fun _ => rfl, f8, o1_0, o1_1⟩
     | 8, _ =>
      have hb1 : b 1 = true := hd 1 (by decide)
      obtain rfl := f1 hb1
      have hb3 : b 3 = true := hd 3 (by decide)
      obtain rfl := f3 hb3
      have d9 : b 9 = false := bfalse (fun hh => hcl 9 (by decide) (hh) 8 (by decide)) hb
      obtain rfl := o1_0 d9
      refine GO.at hs ?_
      refine GO.ix rfl rfl rfl Try.underlying26 sz58 ((RdIn.own (j := 4) rfl) _ HS).2.2.1 c5.1 c5.2 rfl ?_
      refine GO.fin (fun a hs => ?_)
      exact ⟨_, _, _, _, _, _, _, _, (.pointer (some (ea A_d_Crossings (e_crossing.toNat * 5)))), _, by exact hs.setAt 8 rfl, HS, f0, f1, f2, f3, f4, f5, f6, f7, fun _ => rfl, o1_0, o1_1⟩
     | 9, _ =>
      have hb7 : b 7 = true := hd 7 (by decide)
      obtain rfl := f7 hb7
      have hb8 : b 8 = true := hd 8 (by decide)
      obtain rfl := f8 hb8
      obtain rfl := o1_0 hb
      refine GO.at hs ?_
      refine GO.stRow (T := T_GCrossing) (j := 4) (n := e_crossing.toNat) (o := 0) (vs := [.int .i64 t34, .int .i64 t35, .int .i64 t36, .int .i64 t37, .int .i64 t38]) (⟨t34, t35, t36, t37, t38⟩ : GCrossing) HS rfl flat_flat rfl rfl rfl rfl (htA ag58) rfl (getD_some (d := z_GCrossing) (ltN c5)) rfl rfl ?_; intro wd42 HS
      refine GO.fin (fun a hs => ?_)
      exact ⟨_, _, _, _, _, _, _, _, _, Own T_GCrossing 58 A_d_Crossings c_d_Crossings (fun _ => ()) (d_Crossings.set e_crossing.toNat (⟨t34, t35, t36, t37, t38⟩ : GCrossing)), hs, HS, f0, f1, f2, f3, f4, f5, f6, f7, f8, fun h => Bool.noConfusion h, fun _ => rfl⟩
     | k + 10, hj => exact absurd hj (Nat.not_lt.2 (Nat.le_add_left 10 k))
    ·
     intro b a w hall
     refine exI fun Y11_0 => exI fun Y12_1 => exI fun Y13_2 => exI fun Y14_3 => exI fun Y15_4 => exI fun Y16_5 => exI fun Y17_6 => exI fun Y18_7 => exI fun Y19_8 => exI fun O20_1 => anI fun hs => anI fun HS => anI fun f0 => anI fun f1 => anI fun f2 => anI fun f3 => anI fun f4 => anI fun f5 => anI fun f6 => anI fun f7 => anI fun f8 => anI fun o1_0 => fun o1_1 => ?_
     obtain rfl := f0 (hall 0 (by decide))
     obtain rfl := f1 (hall 1 (by decide))
     obtain rfl := f2 (hall 2 (by decide))
     obtain rfl := f3 (hall 3 (by decide))
     obtain rfl := f4 (hall 4 (by decide))
     obtain rfl := f5 (hall 5 (by decide))
     obtain rfl := f6 (hall 6 (by decide))
     obtain rfl := f7 (hall 7 (by decide))
     obtain rfl := f8 (hall 8 (by decide))
     obtain rfl := o1_1 (hall 9 (by decide))
     refine G.at hs ?_
     replace HS := HS.boxEq (j := 3) (cs' := [.slice A_d_Crossings (d_Crossings.set e_crossing.toNat (⟨t34, t35, t36, t37, t38⟩ : GCrossing)).length c_d_Crossings, .int .i64 d_Circles]) rfl (by simp only [List.length_set] <;> rfl)
     obtain rfl := Option.some.inj H
     exact G.end0 Try.func50 rfl ⟨rfl, (HS.pick 5 [4])⟩
   ·
    rcases ite_elim H with ⟨c43, H⟩ | ⟨c43, H⟩
    ·
     refine G.region ?_
     refine GO.fld (⟨b3, 1, none⟩) rfl rfl fl68_1 rfl rfl ?_
     refine GO.ldBox (j := 2) HS rfl rfl rfl rfl na2 rfl ?_
     refine GO.move rfl rfl rfl ?_
     refine GO.ixP 2 rfl rfl rfl c43 Try.underlying93 sz2 rfl rfl ?_
     refine GO.stBox (j := 0) (vs := [.int .i64 arc]) ([.int .i64 t11, .int .i64 t12, .int .i64 arc, .int .i64 t14]) HS rfl rfl rfl rfl rfl (htN na2 rfl) rfl rfl rfl ?_; intro wd44 HS
     refine GO.nil ?_
     obtain ⟨t45, t46, t47, t48, t49, h50, H⟩ := bind5_elim H
     refine G.regionAny mixed (by decide) (fun b a w => ∃ (Y21_0 : Value) (Y22_1 : Value) (Y23_2 : Value) (Y24_3 : Value) (Y25_4 : Value) (Y26_5 : Value) (Y27_6 : Value) (Y28_7 : Value) (Y29_8 : Value) (O30_1 : HObj), Sat 29 [(20, Y21_0), (21, Y22_1), (22, Y23_2), (23, Y24_3), (24, Y25_4), (25, Y26_5), (26, Y27_6), (27, Y28_7), (28, Y29_8), (3, .pointer (some ⟨b1, 0, none⟩)), (4, .pointer (some ⟨b3, 0, none⟩)), (6, .pointer (some ⟨b8, 0, none⟩)), (7, .pointer (some ⟨b18, 0, none⟩))] a ∧ St w0 w (Box b18 93 [.int .i64 t11, .int .i64 t12, .int .i64 arc, .int .i64 t14] :: Box b8 58 [.int .i64 e6.A, .int .i64 e6.B, .int .i64 e6.C, .int .i64 e6.D, .int .i64 e6.Sign] :: Box b3 68 [.int .i64 e_crossing, .int .i64 e_position] :: Box b1 28 [.slice A_d_Crossings d_Crossings.length c_d_Crossings, .int .i64 d_Circles] :: O30_1 :: L) ∧ (b 0 = true → Y21_0 = (.pointer (some ⟨b1, 0, none⟩))) ∧ (b 1 = true → Y22_1 = (.slice A_d_Crossings d_Crossings.length c_d_Crossings)) ∧ (b 2 = true → Y23_2 = (.pointer (some ⟨b3, 0, none⟩))) ∧ (b 3 = true → Y24_3 = (.int .i64 e_crossing)) ∧ (b 4 = true → Y25_4 = (.agg [.int .i64 t11, .int .i64 t12, .int .i64 arc, .int .i64 t14].toArray)) ∧ (b 5 = true → Y26_5 = (.pointer (some ⟨b8, 4, none⟩))) ∧ (b 6 = true → Y27_6 = (.int .i64 e6.Sign)) ∧ (b 7 = true → Y28_7 = (.agg [.int .i64 t45, .int .i64 t46, .int .i64 t47, .int .i64 t48, .int .i64 t49].toArray)) ∧ (b 8 = true → Y29_8 = (.pointer (some (ea A_d_Crossings (e_crossing.toNat * 5))))) ∧ (b 9 = false → O30_1 = Own T_GCrossing 58 A_d_Crossings c_d_Crossings (fun _ => ()) d_Crossings) ∧ (b 9 = true → O30_1 = Own T_GCrossing 58 A_d_Crossings c_d_Crossings (fun _ => ()) (d_Crossings.set e_crossing.toNat (⟨t45, t46, t47, t48, t49⟩ : GCrossing)))) ?_ ?_ ?_
     ·
      intro a hs
      obtain ⟨Y21_0, hs⟩ := hs.ext (d := 20) rfl
      obtain ⟨Y22_1, hs⟩ := hs.ext (d := 21) rfl
      obtain ⟨Y23_2, hs⟩ := hs.ext (d := 22) rfl
      obtain ⟨Y24_3, hs⟩ := hs.ext (d := 23) rfl
      obtain ⟨Y25_4, hs⟩ := hs.ext (d := 24) rfl
      obtain ⟨Y26_5, hs⟩ := hs.ext (d := 25) rfl
      obtain ⟨Y27_6, hs⟩ := hs.ext (d := 26) rfl
      obtain ⟨Y28_7, hs⟩ := hs.ext (d := 27) rfl
      obtain ⟨Y29_8, hs⟩ := hs.ext (d := 28) rfl
      exact ⟨Y21_0, Y22_1, Y23_2, Y24_3, Y25_4, Y26_5, Y27_6, Y28_7, Y29_8, Own T_GCrossing 58 A_d_Crossings c_d_Crossings (fun _ => ()) d_Crossings, hs.weak ⟨rfl, rfl, rfl, rfl, rfl, rfl, rfl, rfl, rfl, rfl, rfl, rfl, rfl, trivial⟩, (HS.drew.pick 5 [0, 1, 2, 3, 4]), fun h => Bool.noConfusion h, fun h => Bool.noConfusion h, fun h => Bool.noConfusion h, fun h => Bool.noConfusion h, fun h => Bool.noConfusion h, fun h => Bool.noConfusion h, fun h => Bool.noConfusion h, fun h => Bool.noConfusion h, fun h => Bool.noConfusion h, fun _ => rfl, fun h => Bool.noConfusion h⟩
     ·
      intro j hj b a w
      refine exI fun Y21_0 => exI fun Y22_1 => exI fun Y23_2 => exI fun Y24_3 => exI fun Y25_4 => exI fun Y26_5 => exI fun Y27_6 => exI fun Y28_7 => exI fun Y29_8 => exI fun O30_1 => anI fun hs => anI fun HS => anI fun f0 => anI fun f1 => anI fun f2 => anI fun f3 => anI fun f4 => anI fun f5 => anI fun f6 => anI fun f7 => anI fun f8 => anI fun o1_0 => fun o1_1 hb hd hcl => ?_
      match j, hj with
      | 0, _ =>
       refine GO.at hs ?_
       refine GO.fld (⟨b1, 0, none⟩) rfl rfl fl28_0 rfl rfl ?_
       refine GO.fin (fun a hs => ?_)
       exact ⟨(.pointer (some ⟨b1, 0, none⟩)), _, _, _, _, _, _, _, _, _, by exact hs.setAt 0 rfl, HS, fun _ => rfl, f1, f2, f3, f4, f5, f6, f7, f8, o1_0, o1_1⟩
      | 1, _ =>
       have hb0 : b 0 = true := hd 0 (by decide)
       obtain rfl := f0 hb0
       refine GO.at hs ?_
       refine GO.ldBox (j := 3) HS rfl rfl rfl rfl na26 rfl ?_
       refine GO.fin (fun a hs => ?_)
       exact ⟨_, (.slice A_d_Crossings d_Crossings.length c_d_Crossings), _, _, _, _, _, _, _, _, by exact hs.setAt 1 rfl, HS, f0, fun _ => rfl, f2, f3, f4, f5, f6, f7, f8, o1_0, o1_1⟩
      | 2, _ =>
       refine GO.at hs ?_
       refine GO.fld (⟨b3, 0, none⟩) rfl rfl fl68_0 rfl rfl ?_
       refine GO.fin (fun a hs => ?_)
       exact ⟨_, _, (.pointer (some ⟨b3, 0, none⟩)), _, _, _, _, _, _, _, by exact hs.setAt 2 rfl, HS, f0, f1, fun _ => rfl, f3, f4, f5, f6, f7, f8, o1_0, o1_1⟩
      | 3, _ =>
       have hb2 : b 2 = true := hd 2 (by decide)
       obtain rfl := f2 hb2
       refine GO.at hs ?_
       refine GO.ldBox (j := 2) HS rfl rfl rfl rfl na2 rfl ?_
       refine GO.fin (fun a hs => ?_)
       exact ⟨_, _, _, (.int .i64 e_crossing), _, _, _, _, _, _, by exact hs.setAt 3 rfl, HS, f0, f1, f2, fun _ => rfl, f4, f5, f6, f7, f8, o1_0, o1_1⟩
      | 4, _ =>
       refine GO.at hs ?_
       refine GO.ldBoxA (j := 0) ([.int .i64 t11, .int .i64 t12, .int .i64 arc, .int .i64 t14]) HS rfl rfl rfl rfl ag93 rfl ?_
       refine GO.fin (fun a hs => ?_)
       exact ⟨_, _, _, _, (.agg [.int .i64 t11, .int .i64 t12, .int .i64 arc, .int .i64 t14].toArray), _, _, _, _, _, by exact hs.setAt 4 rfl, HS, f0, f1, f2, f3, fun _ => rfl, f5, f6, f7, f8, o1_0, o1_1⟩
      | 5, _ =>
       refine GO.at hs ?_
       refine GO.fld (⟨b8, 4, none⟩) rfl rfl fl58_4 rfl rfl ?_
       refine GO.fin (fun a hs => ?_)
       exact ⟨_, _, _, _, _, (.pointer (some ⟨b8, 4, none⟩)), _, _, _, _, by exact hs.setAt 5 rfl, HS, f0, f1, f2, f3, f4, fun _ => rfl, f6, f7, f8, o1_0, o1_1⟩
      | 6, _ =>
       have hb5 : b 5 = true := hd 5 (by decide)
       obtain rfl := f5 hb5
       refine GO.at hs ?_
       refine GO.ldBox (j := 1) HS rfl rfl rfl rfl na2 rfl ?_
       refine GO.fin (fun a hs => ?_)
       exact ⟨_, _, _, _, _, _, (.int .i64 e6.Sign), _, _, _, by exact hs.setAt 6 rfl, HS, f0, f1, f2, f3, f4, f5, fun _ => rfl, f7, f8, o1_0, o1_1⟩
      | 7, _ =>
       have hb4 : b 4 = true := hd 4 (by decide)
       obtain rfl := f4 hb4
       have hb6 : b 6 = true := hd 6 (by decide)
       obtain rfl := f6 hb6
       refine GO.at hs ?_
       refine GO.fn rfl Try.func113 fok113.1 fok113.2 rfl rfl (impl_crossingOf.calls HS  h50) (fun _ wd51 ⟨h52, HS⟩ => ⟨_, h52, ?_⟩)
       refine GO.fin (fun a hs => ?_)
       exact ⟨_, _, _, _, _, _, _, (.agg [.int .i64 t45, .int .i64 t46, .int .i64 t47, .int .i64 t48, .int .i64 t49].toArray), _, _, by exact hs.setAt 7 rfl, HS, f0, f1, f2, f3, f4, f5, f6, fun _ => rfl, f8, o1_0, o1_1⟩
      | 8, _ =>
       have hb1 : b 1 = true := hd 1 (by decide)
       obtain rfl := f1 hb1
       have hb3 : b 3 = true := hd 3 (by decide)
       obtain rfl := f3 hb3
       have d9 : b 9 = false := bfalse (fun hh => hcl 9 (by decide) (hh) 8 (by decide)) hb
       obtain rfl := o1_0 d9
       refine GO.at hs ?_
       refine GO.ix rfl rfl rfl Try.underlying26 sz58 ((RdIn.own (j := 4) rfl) _ HS).2.2.1 c5.1 c5.2 rfl ?_
       refine GO.fin (fun a hs => ?_)
       exact ⟨_, _, _, _, _, _, _, _, (.pointer (some (ea A_d_Crossings (e_crossing.toNat * 5)))), _, by exact hs.setAt 8 rfl, HS, f0, f1, f2, f3, f4, f5, f6, f7, fun _ => rfl, o1_0, o1_1⟩
      | 9, _ =>
       have hb7 : b 7 = true := hd 7 (by decide)
       obtain rfl := f7 hb7
       have hb8 : b 8 = true := hd 8 (by decide)
       obtain rfl := f8 hb8
       obtain rfl := o1_0 hb
       refine GO.at hs ?_
       refine GO.stRow (T := T_GCrossing) (j := 4) (n := e_crossing.toNat) (o := 0) (vs := [.int .i64 t45, .int .i64 t46, .int .i64 t47, .int .i64 t48, .int .i64 t49]) (⟨t45, t46, t47, t48, t49⟩ : GCrossing) HS rfl flat_flat rfl rfl rfl rfl (htA ag58) rfl (getD_some (d := z_GCrossing) (ltN c5)) rfl rfl ?_; intro wd53 HS
       refine GO.fin (fun a hs => ?_)
       exact ⟨_, _, _, _, _, _, _, _, _, Own T_GCrossing 58 A_d_Crossings c_d_Crossings (fun _ => ()) (d_Crossings.set e_crossing.toNat (⟨t45, t46, t47, t48, t49⟩ : GCrossing)), hs, HS, f0, f1, f2, f3, f4, f5, f6, f7, f8, fun h => Bool.noConfusion h, fun _ => rfl⟩
      | k + 10, hj => exact absurd hj (Nat.not_lt.2 (Nat.le_add_left 10 k))
     ·
      intro b a w hall
      refine exI fun Y21_0 => exI fun Y22_1 => exI fun Y23_2 => exI fun Y24_3 => exI fun Y25_4 => exI fun Y26_5 => exI fun Y27_6 => exI fun Y28_7 => exI fun Y29_8 => exI fun O30_1 => anI fun hs => anI fun HS => anI fun f0 => anI fun f1 => anI fun f2 => anI fun f3 => anI fun f4 => anI fun f5 => anI fun f6 => anI fun f7 => anI fun f8 => anI fun o1_0 => fun o1_1 => ?_
      obtain rfl := f0 (hall 0 (by decide))
      obtain rfl := f1 (hall 1 (by decide))
      obtain rfl := f2 (hall 2 (by decide))
      obtain rfl := f3 (hall 3 (by decide))
      obtain rfl := f4 (hall 4 (by decide))
      obtain rfl := f5 (hall 5 (by decide))
      obtain rfl := f6 (hall 6 (by decide))
      obtain rfl := f7 (hall 7 (by decide))
      obtain rfl := f8 (hall 8 (by decide))
      obtain rfl := o1_1 (hall 9 (by decide))
      refine G.at hs ?_
      replace HS := HS.boxEq (j := 3) (cs' := [.slice A_d_Crossings (d_Crossings.set e_crossing.toNat (⟨t45, t46, t47, t48, t49⟩ : GCrossing)).length c_d_Crossings, .int .i64 d_Circles]) rfl (by simp only [List.length_set] <;> rfl)
      obtain rfl := Option.some.inj H
      exact G.end0 Try.func50 rfl ⟨rfl, (HS.pick 5 [4])⟩
    ·
     rcases ite_elim H with ⟨c54, H⟩ | ⟨c54, H⟩
     ·
      refine G.region ?_
      refine GO.fld (⟨b3, 1, none⟩) rfl rfl fl68_1 rfl rfl ?_
      refine GO.ldBox (j := 2) HS rfl rfl rfl rfl na2 rfl ?_
      refine GO.move rfl rfl rfl ?_
      refine GO.ixP 3 rfl rfl rfl c54 Try.underlying93 sz2 rfl rfl ?_
      refine GO.stBox (j := 0) (vs := [.int .i64 arc]) ([.int .i64 t11, .int .i64 t12, .int .i64 t13, .int .i64 arc]) HS rfl rfl rfl rfl rfl (htN na2 rfl) rfl rfl rfl ?_; intro wd55 HS
      refine GO.nil ?_
      obtain ⟨t56, t57, t58, t59, t60, h61, H⟩ := bind5_elim H
      refine G.regionAny mixed (by decide) (fun b a w => ∃ (Y31_0 : Value) (Y32_1 : Value) (Y33_2 : Value) (Y34_3 : Value) (Y35_4 : Value) (Y36_5 : Value) (Y37_6 : Value) (Y38_7 : Value) (Y39_8 : Value) (O40_1 : HObj), Sat 29 [(20, Y31_0), (21, Y32_1), (22, Y33_2), (23, Y34_3), (24, Y35_4), (25, Y36_5), (26, Y37_6), (27, Y38_7), (28, Y39_8), (3, .pointer (some ⟨b1, 0, none⟩)), (4, .pointer (some ⟨b3, 0, none⟩)), (6, .pointer (some ⟨b8, 0, none⟩)), (7, .pointer (some ⟨b18, 0, none⟩))] a ∧ St w0 w (Box b18 93 [.int .i64 t11, .int .i64 t12, .int .i64 t13, .int .i64 arc] :: Box b8 58 [.int .i64 e6.A, .int .i64 e6.B, .int .i64 e6.C, .int .i64 e6.D, .int .i64 e6.Sign] :: Box b3 68 [.int .i64 e_crossing, .int .i64 e_position] :: Box b1 28 [.slice A_d_Crossings d_Crossings.length c_d_Crossings, .int .i64 d_Circles] :: O40_1 :: L) ∧ (b 0 = true → Y31_0 = (.pointer (some ⟨b1, 0, none⟩))) ∧ (b 1 = true → Y32_1 = (.slice A_d_Crossings d_Crossings.length c_d_Crossings)) ∧ (b 2 = true → Y33_2 = (.pointer (some ⟨b3, 0, none⟩))) ∧ (b 3 = true → Y34_3 = (.int .i64 e_crossing)) ∧ (b 4 = true → Y35_4 = (.agg [.int .i64 t11, .int .i64 t12, .int .i64 t13, .int .i64 arc].toArray)) ∧ (b 5 = true → Y36_5 = (.pointer (some ⟨b8, 4, none⟩))) ∧ (b 6 = true → Y37_6 = (.int .i64 e6.Sign)) ∧ (b 7 = true → Y38_7 = (.agg [.int .i64 t56, .int .i64 t57, .int .i64 t58, .int .i64 t59, .int .i64 t60].toArray)) ∧ (b 8 = true → Y39_8 = (.pointer (some (ea A_d_Crossings (e_crossing.toNat * 5))))) ∧ (b 9 = false → O40_1 = Own T_GCrossing 58 A_d_Crossings c_d_Crossings (fun _ => ()) d_Crossings) ∧ (b 9 = true → O40_1 = Own T_GCrossing 58 A_d_Crossings c_d_Crossings (fun _ => ()) (d_Crossings.set e_crossing.toNat (⟨t56, t57, t58, t59, t60⟩ : GCrossing)))) ?_ ?_ ?_
      ·
       intro a hs
       obtain ⟨Y31_0, hs⟩ := hs.ext (d := 20) rfl
       obtain ⟨Y32_1, hs⟩ := hs.ext (d := 21) rfl
       obtain ⟨Y33_2, hs⟩ := hs.ext (d := 22) rfl
       obtain ⟨Y34_3, hs⟩ := hs.ext (d := 23) rfl
       obtain ⟨Y35_4, hs⟩ := hs.ext (d := 24) rfl
       obtain ⟨Y36_5, hs⟩ := hs.ext (d := 25) rfl
       obtain ⟨Y37_6, hs⟩ := hs.ext (d := 26) rfl
       obtain ⟨Y38_7, hs⟩ := hs.ext (d := 27) rfl
       obtain ⟨Y39_8, hs⟩ := hs.ext (d := 28) rfl
       exact ⟨Y31_0, Y32_1, Y33_2, Y34_3, Y35_4, Y36_5, Y37_6, Y38_7, Y39_8, Own T_GCrossing 58 A_d_Crossings c_d_Crossings (fun _ => ()) d_Crossings, hs.weak ⟨rfl, rfl, rfl, rfl, rfl, rfl, rfl, rfl, rfl, rfl, rfl, rfl, rfl, trivial⟩, (HS.drew.pick 5 [0, 1, 2, 3, 4]), fun h => Bool.noConfusion h, fun h => Bool.noConfusion h, fun h => Bool.noConfusion h, fun h => Bool.noConfusion h, fun h => Bool.noConfusion h, fun h => Bool.noConfusion h, fun h => Bool.noConfusion h, fun h => Bool.noConfusion h, fun h => Bool.noConfusion h, fun _ => rfl, fun h => Bool.noConfusion h⟩
      ·
       intro j hj b a w
       refine exI fun Y31_0 => exI fun Y32_1 => exI fun Y33_2 => exI fun Y34_3 => exI fun Y35_4 => exI fun Y36_5 => exI fun Y37_6 => exI fun Y38_7 => exI fun Y39_8 => exI fun O40_1 => anI fun hs => anI fun HS => anI fun f0 => anI fun f1 => anI fun f2 => anI fun f3 => anI fun f4 => anI fun f5 => anI fun f6 => anI fun f7 => anI fun f8 => anI fun o1_0 => fun o1_1 hb hd hcl => ?_
       match j, hj with
       | 0, _ =>
        refine GO.at hs ?_
        refine GO.fld (⟨b1, 0, none⟩) rfl rfl fl28_0 rfl rfl ?_
        refine GO.fin (fun a hs => ?_)
        exact ⟨(.pointer (some ⟨b1, 0, none⟩)), _, _, _, _, _, _, _, _, _, by exact hs.setAt 0 rfl, HS, fun _ => rfl, f1, f2, f3, f4, f5, f6, f7, f8, o1_0, o1_1⟩
       | 1, _ =>
        have hb0 : b 0 = true := hd 0 (by decide)
        obtain rfl := f0 hb0
        refine GO.at hs ?_
        refine GO.ldBox (j := 3) HS rfl rfl rfl rfl na26 rfl ?_
        refine GO.fin (fun a hs => ?_)
        exact ⟨_, (.slice A_d_Crossings d_Crossings.length c_d_Crossings), _, _, _, _, _, _, _, _, by exact hs.setAt 1 rfl, HS, f0, fun _ => rfl, f2, f3, f4, f5, f6, f7, f8, o1_0, o1_1⟩
       | 2, _ =>
        refine GO.at hs ?_
        refine GO.fld (⟨b3, 0, none⟩) rfl rfl fl68_0 rfl rfl ?_
        refine GO.fin (fun a hs => ?_)
        exact ⟨_, _, (.pointer (some ⟨b3, 0, none⟩)), _, _, _, _, _, _, _, by exact hs.setAt 2 rfl, HS, f0, f1, fun _ => rfl, f3, f4, f5, f6, f7, f8, o1_0, o1_1⟩
       | 3, _ =>
        have hb2 : b 2 = true := hd 2 (by decide)
        obtain rfl := f2 hb2
        refine GO.at hs ?_
        refine GO.ldBox (j := 2) HS rfl rfl rfl rfl na2 rfl ?_
        refine GO.fin (fun a hs => ?_)
        exact ⟨_, _, _, (.int .i64 e_crossing), _, _, _, _, _, _, by exact hs.setAt 3 rfl, HS, f0, f1, f2, fun _ => rfl, f4, f5, f6, f7, f8, o1_0, o1_1⟩
       | 4, _ =>
        refine GO.at hs ?_
        refine GO.ldBoxA (j := 0) ([.int .i64 t11, .int .i64 t12, .int .i64 t13, .int .i64 arc]) HS rfl rfl rfl rfl ag93 rfl ?_
        refine GO.fin (fun a hs => ?_)
        exact ⟨_, _, _, _, (.agg [.int .i64 t11, .int .i64 t12, .int .i64 t13, .int .i64 arc].toArray), _, _, _, _, _, by exact hs.setAt 4 rfl, HS, f0, f1, f2, f3, fun _ => rfl, f5, f6, f7, f8, o1_0, o1_1⟩
       | 5, _ =>
        refine GO.at hs ?_
        refine GO.fld (⟨b8, 4, none⟩) rfl rfl fl58_4 rfl rfl ?_
        refine GO.fin (fun a hs => ?_)
        exact ⟨_, _, _, _, _, (.pointer (some ⟨b8, 4, none⟩)), _, _, _, _, by exact hs.setAt 5 rfl, HS, f0, f1, f2, f3, f4, fun _ => rfl, f6, f7, f8, o1_0, o1_1⟩
       | 6, _ =>
        have hb5 : b 5 = true := hd 5 (by decide)
        obtain rfl := f5 hb5
        refine GO.at hs ?_
        refine GO.ldBox (j := 1) HS rfl rfl rfl rfl na2 rfl ?_
        refine GO.fin (fun a hs => ?_)
        exact ⟨_, _, _, _, _, _, (.int .i64 e6.Sign), _, _, _, by exact hs.setAt 6 rfl, HS, f0, f1, f2, f3, f4, f5, fun _ => rfl, f7, f8, o1_0, o1_1⟩
       | 7, _ =>
        have hb4 : b 4 = true := hd 4 (by decide)
        obtain rfl := f4 hb4
        have hb6 : b 6 = true := hd 6 (by decide)
        obtain rfl := f6 hb6
        refine GO.at hs ?_
        refine GO.fn rfl Try.func113 fok113.1 fok113.2 rfl rfl (impl_crossingOf.calls HS  h61) (fun _ wd62 ⟨h63, HS⟩ => ⟨_, h63, ?_⟩)
        refine GO.fin (fun a hs => ?_)
        exact ⟨_, _, _, _, _, _, _, (.agg [.int .i64 t56, .int .i64 t57, .int .i64 t58, .int .i64 t59, .int .i64 t60].toArray), _, _, by exact hs.setAt 7 rfl, HS, f0, f1, f2, f3, f4, f5, f6, fun _ => rfl, f8, o1_0, o1_1⟩
       | 8, _ =>
        have hb1 : b 1 = true := hd 1 (by decide)
        obtain rfl := f1 hb1
        have hb3 : b 3 = true := hd 3 (by decide)
        obtain rfl := f3 hb3
        have d9 : b 9 = false := bfalse (fun hh => hcl 9 (by decide) (hh) 8 (by decide)) hb
        obtain rfl := o1_0 d9
        refine GO.at hs ?_
        refine GO.ix rfl rfl rfl Try.underlying26 sz58 ((RdIn.own (j := 4) rfl) _ HS).2.2.1 c5.1 c5.2 rfl ?_
        refine GO.fin (fun a hs => ?_)
        exact ⟨_, _, _, _, _, _, _, _, (.pointer (some (ea A_d_Crossings (e_crossing.toNat * 5)))), _, by exact hs.setAt 8 rfl, HS, f0, f1, f2, f3, f4, f5, f6, f7, fun _ => rfl, o1_0, o1_1⟩
       | 9, _ =>
        have hb7 : b 7 = true := hd 7 (by decide)
        obtain rfl := f7 hb7
        have hb8 : b 8 = true := hd 8 (by decide)
        obtain rfl := f8 hb8
        obtain rfl := o1_0 hb
        refine GO.at hs ?_
        refine GO.stRow (T := T_GCrossing) (j := 4) (n := e_crossing.toNat) (o := 0) (vs := [.int .i64 t56, .int .i64 t57, .int .i64 t58, .int .i64 t59, .int .i64 t60]) (⟨t56, t57, t58, t59, t60⟩ : GCrossing) HS rfl flat_flat rfl rfl rfl rfl (htA ag58) rfl (getD_some (d := z_GCrossing) (ltN c5)) rfl rfl ?_; intro wd64 HS
        refine GO.fin (fun a hs => ?_)
        exact ⟨_, _, _, _, _, _, _, _, _, Own T_GCrossing 58 A_d_Crossings c_d_Crossings (fun _ => ()) (d_Crossings.set e_crossing.toNat (⟨t56, t57, t58, t59, t60⟩ : GCrossing)), hs, HS, f0, f1, f2, f3, f4, f5, f6, f7, f8, fun h => Bool.noConfusion h, fun _ => rfl⟩
       | k + 10, hj => exact absurd hj (Nat.not_lt.2 (Nat.le_add_left 10 k))
      ·
       intro b a w hall
       refine exI fun Y31_0 => exI fun Y32_1 => exI fun Y33_2 => exI fun Y34_3 => exI fun Y35_4 => exI fun Y36_5 => exI fun Y37_6 => exI fun Y38_7 => exI fun Y39_8 => exI fun O40_1 => anI fun hs => anI fun HS => anI fun f0 => anI fun f1 => anI fun f2 => anI fun f3 => anI fun f4 => anI fun f5 => anI fun f6 => anI fun f7 => anI fun f8 => anI fun o1_0 => fun o1_1 => ?_
       obtain rfl := f0 (hall 0 (by decide))
       obtain rfl := f1 (hall 1 (by decide))
       obtain rfl := f2 (hall 2 (by decide))
       obtain rfl := f3 (hall 3 (by decide))
       obtain rfl := f4 (hall 4 (by decide))
       obtain rfl := f5 (hall 5 (by decide))
       obtain rfl := f6 (hall 6 (by decide))
       obtain rfl := f7 (hall 7 (by decide))
       obtain rfl := f8 (hall 8 (by decide))
       obtain rfl := o1_1 (hall 9 (by decide))
       refine G.at hs ?_
       replace HS := HS.boxEq (j := 3) (cs' := [.slice A_d_Crossings (d_Crossings.set e_crossing.toNat (⟨t56, t57, t58, t59, t60⟩ : GCrossing)).length c_d_Crossings, .int .i64 d_Circles]) rfl (by simp only [List.length_set] <;> rfl)
       obtain rfl := Option.some.inj H
       exact G.end0 Try.func50 rfl ⟨rfl, (HS.pick 5 [4])⟩
     ·
      cases H

set_option maxRecDepth 20000 in
set_option maxHeartbeats 40000000 in
theorem impl_Diagram_smoothed.calls {w0 w : World} {L : List HObj} {K : Nat} {t_Crossings : List GCrossing} {t_Circles : Int} {o_from : List GEnd} {o_to : List GEnd} {A : Int} {A_t_Crossings : Option Addr} {c_t_Crossings : Nat} {A_o_from : Option Addr} {c_o_from : Nat} {A_o_to : Option Addr} {c_o_to : Nat} {r1 : List GCrossing} {r2 : Int} (HS : St w0 w (L)) (h_t_Crossings : RdIn w0 L T_GCrossing A_t_Crossings c_t_Crossings (fun _ => ()) t_Crossings) (h_o_from : RdIn w0 L T_GEnd A_o_from c_o_from (fun _ => ()) o_from) (h_o_to : RdIn w0 L T_GEnd A_o_to c_o_to (fun _ => ()) o_to) (H : impl_Diagram_smoothed.f K t_Crossings t_Circles o_from o_to A = some (r1, r2)) :
    Calls Try.prog 67 #[.agg [.slice A_t_Crossings t_Crossings.length c_t_Crossings, .int .i64 t_Circles].toArray, .agg [.slice A_o_from o_from.length c_o_from, .slice A_o_to o_to.length c_o_to].toArray, .int .i64 A] w (impl_Diagram_smoothed.post w0 L t_Crossings t_Circles o_from o_to A A_t_Crossings c_t_Crossings A_o_from c_o_from A_o_to c_o_to r1 r2) := by
  unfold impl_Diagram_smoothed.f at H
  refine Calls.of_G Try.func67 rfl rfl rfl ?_
  refine G.seq ?_
  refine G.region ?_
  refine GO.box (cs := [.slice A_t_Crossings t_Crossings.length c_t_Crossings, .int .i64 t_Circles]) HS rfl rfl rfl rfl ?_; intro b1 wd2 HS
  refine GO.box (cs := [.slice A_o_from o_from.length c_o_from, .slice A_o_to o_to.length c_o_to]) HS rfl rfl rfl rfl ?_; intro b3 wd4 HS
  refine GO.alloc HS rfl zr28 rfl rfl ?_; intro b5 wd6 HS
  refine GO.nil ?_
  refine G.seq ?_
  obtain ⟨c7, H⟩ := ite_none H
  obtain ⟨e8, h9, H⟩ := bnd_elim H
  obtain ⟨t10, t11, t12, t13, h14, H⟩ := bind4_elim H
  refine G.region ?_
  refine GO.fld (⟨b1, 0, none⟩) rfl rfl fl28_0 rfl rfl ?_
  refine GO.ldBox (j := 2) HS rfl rfl rfl rfl na26 rfl ?_
  refine GO.move rfl rfl rfl ?_
  refine GO.ix rfl rfl rfl Try.underlying26 sz58 ((RdIn.drop 3 h_t_Crossings) _ HS).2.2.1 c7.1 c7.2 rfl ?_
  refine GO.ldRdA (T := T_GCrossing) (n := A.toNat) HS (RdIn.drop 3 h_t_Crossings) rfl rfl (getD_eq (ltN c7) h9) ag58 rfl ?_
  refine GO.fn rfl Try.func75 fok75.1 fok75.2 rfl rfl (impl_Crossing_ends.calls HS  h14) (fun _ wd15 ⟨h16, HS⟩ => ⟨_, h16, ?_⟩)
  refine GO.alloc HS rfl zr93 rfl rfl ?_; intro b17 wd18 HS
  refine GO.stBox (j := 0) (vs := [.int .i64 t10, .int .i64 t11, .int .i64 t12, .int .i64 t13]) ([.int .i64 t10, .int .i64 t11, .int .i64 t12, .int .i64 t13]) HS rfl rfl rfl rfl rfl (htA ag93) rfl rfl rfl ?_; intro wd19 HS
  refine GO.nil ?_
  refine G.seq ?_
  refine G.region ?_
  refine GO.fld (⟨b1, 0, none⟩) rfl rfl fl28_0 rfl rfl ?_
  refine GO.ldBox (j := 3) HS rfl rfl rfl rfl na26 rfl ?_
  refine GO.move rfl rfl rfl ?_
  refine GO.ix rfl rfl rfl Try.underlying26 sz58 ((RdIn.drop 4 h_t_Crossings) _ HS).2.2.1 c7.1 c7.2 rfl ?_
  refine GO.fld (ea A_t_Crossings (A.toNat * 5 + 4)) rfl rfl fl58_4 (ea_add _ _ _) rfl ?_
  refine GO.ldRd (T := T_GCrossing) (n := A.toNat) (o := 4) HS (RdIn.drop 4 h_t_Crossings) rfl rfl (getD_eq (ltN c7) h9) rfl rfl na2 rfl ?_
  refine GO.add rfl rfl rfl rfl ?_
  refine GO.assign rfl rfl rfl ?_
  refine GO.nil ?_
  refine G.seq ?_
  obtain ⟨c22, H⟩ := ite_none H
  obtain ⟨c24, H⟩ := ite_none H
  obtain ⟨c26, H⟩ := ite_some H
  refine G.regionAny mixed (by decide) (fun b a w => ∃ (Y1_0 : Value) (Y2_1 : Value) (Y3_2 : Value) (Y4_3 : Value) (Y5_4 : Value) (Y6_5 : Value) (Y7_6 : Value) (Y8_7 : Value) (Y9_9 : Value) (Y10_10 : Value) (Y11_11 : Value) (Y12_12 : Value) (Y13_13 : Value) (Y14_15 : Value) (Y15_16 : Value) (b20 : Nat) (O16_5 : HObj), Sat 178 [(9, Y15_16), (36, Y1_0), (37, Y2_1), (38, Y3_2), (39, Y4_3), (40, Y5_4), (41, Y6_5), (42, Y7_6), (43, Y8_7), (44, Y9_9), (45, Y10_10), (46, Y11_11), (47, Y12_12), (48, Y13_13), (49, Y14_15), (2, .int .i64 A), (3, .pointer (some ⟨b1, 0, none⟩)), (4, .pointer (some ⟨b3, 0, none⟩)), (6, .pointer (some ⟨b5, 0, none⟩)), (7, .pointer (some ⟨b17, 0, none⟩)), (8, .int .i64 (w64 (2 + e8.Sign)))] a ∧ St w0 w (Box b17 93 [.int .i64 t10, .int .i64 t11, .int .i64 t12, .int .i64 t13] :: Box b5 28 [.slice none 0 0, .int .i64 0] :: Box b3 63 [.slice A_o_from o_from.length c_o_from, .slice A_o_to o_to.length c_o_to] :: Box b1 28 [.slice A_t_Crossings t_Crossings.length c_t_Crossings, .int .i64 t_Circles] :: O16_5 :: L) ∧ (b 16 = true → Y15_16 = (.map (some b20))) ∧ (b 0 = true → Y1_0 = (.map (some b20))) ∧ (b 1 = true → Y2_1 = (.pointer (some ⟨b17, 0, none⟩))) ∧ (b 2 = true → Y3_2 = (.int .i64 t10)) ∧ (b 3 = true → Y4_3 = (.int .i64 (w64 (2 + e8.Sign)))) ∧ (b 4 = true → Y5_4 = (.int .i64 (w64 ((w64 (2 + e8.Sign)) + 2)))) ∧ (b 5 = true → Y6_5 = (.int .i64 ((w64 ((w64 (2 + e8.Sign)) + 2)).tmod 4))) ∧ (b 6 = true → Y7_6 = (.pointer (some ⟨b17, ((w64 ((w64 (2 + e8.Sign)) + 2)).tmod 4).toNat, none⟩))) ∧ (b 7 = true → Y8_7 = (.int .i64 (([t10, t11, t12, t13] : List Int).getD ((w64 ((w64 (2 + e8.Sign)) + 2)).tmod 4).toNat 0))) ∧ (b 9 = true → Y9_9 = (.int .i64 (w64 (2 + e8.Sign)))) ∧ (b 10 = true → Y10_10 = (.pointer (some ⟨b17, (w64 (2 + e8.Sign)).toNat, none⟩))) ∧ (b 11 = true → Y11_11 = (.int .i64 (([t10, t11, t12, t13] : List Int).getD (w64 (2 + e8.Sign)).toNat 0))) ∧ (b 12 = true → Y12_12 = (.pointer (some ⟨b17, 2, none⟩))) ∧ (b 13 = true → Y13_13 = (.int .i64 t12)) ∧ (b 15 = true → Y14_15 = (.map (some b20))) ∧ (b 0 = true → b 8 = false → b 14 = false → O16_5 = MapJ b20 .i64 .i64 ([] : List (Int × Int))) ∧ (b 8 = true → b 14 = false → O16_5 = MapJ b20 .i64 .i64 (mput ([] : List (Int × Int)) t10 (([t10, t11, t12, t13] : List Int).getD ((w64 ((w64 (2 + e8.Sign)) + 2)).tmod 4).toNat 0))) ∧ (b 8 = false → b 14 = true → O16_5 = MapJ b20 .i64 .i64 (mput ([] : List (Int × Int)) (([t10, t11, t12, t13] : List Int).getD (w64 (2 + e8.Sign)).toNat 0) t12)) ∧ (b 8 = true → b 14 = true → O16_5 = MapJ b20 .i64 .i64 (mput (mput ([] : List (Int × Int)) t10 (([t10, t11, t12, t13] : List Int).getD ((w64 ((w64 (2 + e8.Sign)) + 2)).tmod 4).toNat 0)) (([t10, t11, t12, t13] : List Int).getD (w64 (2 + e8.Sign)).toNat 0) t12))) ?_ ?_ ?_
  ·
   intro a hs
   obtain ⟨Y15_16, hs⟩ := hs.ext (d := 9) rfl
   obtain ⟨Y1_0, hs⟩ := hs.ext (d := 36) rfl
   obtain ⟨Y2_1, hs⟩ := hs.ext (d := 37) rfl
   obtain ⟨Y3_2, hs⟩ := hs.ext (d := 38) rfl
   obtain ⟨Y4_3, hs⟩ := hs.ext (d := 39) rfl
   obtain ⟨Y5_4, hs⟩ := hs.ext (d := 40) rfl
   obtain ⟨Y6_5, hs⟩ := hs.ext (d := 41) rfl
   obtain ⟨Y7_6, hs⟩ := hs.ext (d := 42) rfl
   obtain ⟨Y8_7, hs⟩ := hs.ext (d := 43) rfl
   obtain ⟨Y9_9, hs⟩ := hs.ext (d := 44) rfl
   obtain ⟨Y10_10, hs⟩ := hs.ext (d := 45) rfl
   obtain ⟨Y11_11, hs⟩ := hs.ext (d := 46) rfl
   obtain ⟨Y12_12, hs⟩ := hs.ext (d := 47) rfl
   obtain ⟨Y13_13, hs⟩ := hs.ext (d := 48) rfl
   obtain ⟨Y14_15, hs⟩ := hs.ext (d := 49) rfl
   exact ⟨Y1_0, Y2_1, Y3_2, Y4_3, Y5_4, Y6_5, Y7_6, Y8_7, Y9_9, Y10_10, Y11_11, Y12_12, Y13_13, Y14_15, Y15_16, 0, Emp, hs.weak ⟨rfl, rfl, rfl, rfl, rfl, rfl, rfl, rfl, rfl, rfl, rfl, rfl, rfl, rfl, rfl, rfl, rfl, rfl, rfl, rfl, rfl, trivial⟩, (HS.drew.emp.pick 5 [1, 2, 3, 4, 0]), fun h => Bool.noConfusion h, fun h => Bool.noConfusion h, fun h => Bool.noConfusion h, fun h => Bool.noConfusion h, fun h => Bool.noConfusion h, fun h => Bool.noConfusion h, fun h => Bool.noConfusion h, fun h => Bool.noConfusion h, fun h => Bool.noConfusion h, fun h => Bool.noConfusion h, fun h => Bool.noConfusion h, fun h => Bool.noConfusion h, fun h => Bool.noConfusion h, fun h => Bool.noConfusion h, fun h => Bool.noConfusion h, fun h => Bool.noConfusion h, fun h => Bool.noConfusion h, fun _ h => Bool.noConfusion h, fun h => Bool.noConfusion h⟩
  ·
   intro j hj b a w
   refine exI fun Y1_0 => exI fun Y2_1 => exI fun Y3_2 => exI fun Y4_3 => exI fun Y5_4 => exI fun Y6_5 => exI fun Y7_6 => exI fun Y8_7 => exI fun Y9_9 => exI fun Y10_10 => exI fun Y11_11 => exI fun Y12_12 => exI fun Y13_13 => exI fun Y14_15 => exI fun Y15_16 => exI fun b20 => exI fun O16_5 => anI fun hs => anI fun HS => anI fun f16 => anI fun f0 => anI fun f1 => anI fun f2 => anI fun f3 => anI fun f4 => anI fun f5 => anI fun f6 => anI fun f7 => anI fun f9 => anI fun f10 => anI fun f11 => anI fun f12 => anI fun f13 => anI fun f15 => anI fun o5_0 => anI fun o5_1 => anI fun o5_x => fun o5_2 hb hd hcl => ?_
   match j, hj with
   | 0, _ =>
    refine GO.at hs ?_
    refine GO.newMapJ .i64 .i64 HS rfl rfl ?_; intro b20 wd21 HS
    refine GO.fin (fun a hs => ?_)
    exact ⟨(.map (some b20)), _, _, _, _, _, _, _, _, _, _, _, _, _, _, b20, MapJ b20 .i64 .i64 ([] : List (Int × Int)), by exact hs.setAt 1 rfl, HS.pick 6 [1, 2, 3, 4, 0], fun hh => (Bool.noConfusion ((hcl 16 (by decide) hh 0 (by decide)).symm.trans hb)), fun _ => rfl, f1, f2, f3, f4, f5, f6, f7, f9, f10, f11, f12, f13, fun hh => (Bool.noConfusion ((hcl 15 (by decide) hh 0 (by decide)).symm.trans hb)), fun _ _ _ => rfl, fun hh _ => (Bool.noConfusion ((hcl 8 (by decide) hh 0 (by decide)).symm.trans hb)), fun _ hh => (Bool.noConfusion ((hcl 14 (by decide) hh 0 (by decide)).symm.trans hb)), fun hh _ => (Bool.noConfusion ((hcl 8 (by decide) hh 0 (by decide)).symm.trans hb))⟩
   | 1, _ =>
    refine GO.at hs ?_
    refine GO.ixP 0 rfl rfl rfl rfl Try.underlying93 sz2 rfl rfl ?_
    refine GO.fin (fun a hs => ?_)
    exact ⟨_, (.pointer (some ⟨b17, 0, none⟩)), _, _, _, _, _, _, _, _, _, _, _, _, _, b20, _, by exact hs.setAt 2 rfl, HS, f16, f0, fun _ => rfl, f2, f3, f4, f5, f6, f7, f9, f10, f11, f12, f13, f15, o5_0, o5_1, o5_x, o5_2⟩
   | 2, _ =>
    have hb1 : b 1 = true := hd 1 (by decide)
    obtain rfl := f1 hb1
    refine GO.at hs ?_
    refine GO.ldBox (j := 0) HS rfl rfl rfl rfl na2 rfl ?_
    refine GO.fin (fun a hs => ?_)
    exact ⟨_, _, (.int .i64 t10), _, _, _, _, _, _, _, _, _, _, _, _, b20, _, by exact hs.setAt 3 rfl, HS, f16, f0, f1, fun _ => rfl, f3, f4, f5, f6, f7, f9, f10, f11, f12, f13, f15, o5_0, o5_1, o5_x, o5_2⟩
   | 3, _ =>
    refine GO.at hs ?_
    refine GO.move rfl rfl rfl ?_
    refine GO.fin (fun a hs => ?_)
    exact ⟨_, _, _, (.int .i64 (w64 (2 + e8.Sign))), _, _, _, _, _, _, _, _, _, _, _, b20, _, by exact hs.setAt 4 rfl, HS, f16, f0, f1, f2, fun _ => rfl, f4, f5, f6, f7, f9, f10, f11, f12, f13, f15, o5_0, o5_1, o5_x, o5_2⟩
   | 4, _ =>
    have hb3 : b 3 = true := hd 3 (by decide)
    obtain rfl := f3 hb3
    refine GO.at hs ?_
    refine GO.add rfl rfl rfl rfl ?_
    refine GO.fin (fun a hs => ?_)
    exact ⟨_, _, _, _, (.int .i64 (w64 ((w64 (2 + e8.Sign)) + 2))), _, _, _, _, _, _, _, _, _, _, b20, _, by exact hs.setAt 5 rfl, HS, f16, f0, f1, f2, f3, fun _ => rfl, f5, f6, f7, f9, f10, f11, f12, f13, f15, o5_0, o5_1, o5_x, o5_2⟩
   | 5, _ =>
    have hb4 : b 4 = true := hd 4 (by decide)
    obtain rfl := f4 hb4
    refine GO.at hs ?_
    refine GO.rem rfl rfl rfl (by decide) rfl ?_
    refine GO.fin (fun a hs => ?_)
    exact ⟨_, _, _, _, _, (.int .i64 ((w64 ((w64 (2 + e8.Sign)) + 2)).tmod 4)), _, _, _, _, _, _, _, _, _, b20, _, by exact hs.setAt 6 rfl, HS, f16, f0, f1, f2, f3, f4, fun _ => rfl, f6, f7, f9, f10, f11, f12, f13, f15, o5_0, o5_1, o5_x, o5_2⟩
   | 6, _ =>
    have hb5 : b 5 = true := hd 5 (by decide)
    obtain rfl := f5 hb5
    refine GO.at hs ?_
    refine GO.ixV rfl rfl rfl Try.underlying93 sz2 c22.1 c22.2 rfl ?_
    refine GO.fin (fun a hs => ?_)
    exact ⟨_, _, _, _, _, _, (.pointer (some ⟨b17, ((w64 ((w64 (2 + e8.Sign)) + 2)).tmod 4).toNat, none⟩)), _, _, _, _, _, _, _, _, b20, _, by exact hs.setAt 7 rfl, HS, f16, f0, f1, f2, f3, f4, f5, fun _ => rfl, f7, f9, f10, f11, f12, f13, f15, o5_0, o5_1, o5_x, o5_2⟩
   | 7, _ =>
    have hb6 : b 6 = true := hd 6 (by decide)
    obtain rfl := f6 hb6
    refine GO.at hs ?_
    refine GO.ldBoxV (j := 0) (kd := .i64) ([t10, t11, t12, t13] : List Int) HS rfl rfl rfl (ltN c22) na2 rfl rfl ?_
    refine GO.fin (fun a hs => ?_)
    exact ⟨_, _, _, _, _, _, _, (.int .i64 (([t10, t11, t12, t13] : List Int).getD ((w64 ((w64 (2 + e8.Sign)) + 2)).tmod 4).toNat 0)), _, _, _, _, _, _, _, b20, _, by exact hs.setAt 8 rfl, HS, f16, f0, f1, f2, f3, f4, f5, f6, fun _ => rfl, f9, f10, f11, f12, f13, f15, o5_0, o5_1, o5_x, o5_2⟩
   | 8, _ =>
    cases hx : b 14 with
    | false =>
     have hb0 : b 0 = true := hd 0 (by decide)
     obtain rfl := f0 hb0
     have hb2 : b 2 = true := hd 2 (by decide)
     obtain rfl := f2 hb2
     have hb7 : b 7 = true := hd 7 (by decide)
     obtain rfl := f7 hb7
     obtain rfl := o5_0 hb0 hb hx
     refine GO.at hs ?_
     refine GO.insMJ (j := 4) HS rfl rfl rfl rfl rfl Try.underlying130 Try.underlying2 ?_; intro wd23 HS
     refine GO.fin (fun a hs => ?_)
     exact ⟨_, _, _, _, _, _, _, _, _, _, _, _, _, _, _, b20, MapJ b20 .i64 .i64 (mput ([] : List (Int × Int)) t10 (([t10, t11, t12, t13] : List Int).getD ((w64 ((w64 (2 + e8.Sign)) + 2)).tmod 4).toNat 0)), hs, HS, f16, f0, f1, f2, f3, f4, f5, f6, f7, f9, f10, f11, f12, f13, f15, fun _ h _ => Bool.noConfusion h, fun _ _ => rfl, fun h _ => Bool.noConfusion h, fun _ h => Bool.noConfusion (h.symm.trans hx)⟩
    | true =>
     have hb0 : b 0 = true := hd 0 (by decide)
     obtain rfl := f0 hb0
     have hb2 : b 2 = true := hd 2 (by decide)
     obtain rfl := f2 hb2
     have hb7 : b 7 = true := hd 7 (by decide)
     obtain rfl := f7 hb7
     obtain rfl := o5_x hb hx
     refine GO.at hs ?_
     refine GO.insMJ (j := 4) HS rfl rfl rfl rfl rfl Try.underlying130 Try.underlying2 ?_; intro wd23 HS
     replace HS := HS.sameMap (j := 4) rfl (SameM.swap (m := []) List.nodup_nil c26 _ _)
     refine GO.fin (fun a hs => ?_)
     exact ⟨_, _, _, _, _, _, _, _, _, _, _, _, _, _, _, b20, MapJ b20 .i64 .i64 (mput (mput ([] : List (Int × Int)) t10 (([t10, t11, t12, t13] : List Int).getD ((w64 ((w64 (2 + e8.Sign)) + 2)).tmod 4).toNat 0)) (([t10, t11, t12, t13] : List Int).getD (w64 (2 + e8.Sign)).toNat 0) t12), hs, HS, f16, f0, f1, f2, f3, f4, f5, f6, f7, f9, f10, f11, f12, f13, f15, fun _ h _ => Bool.noConfusion h, fun _ h => Bool.noConfusion (h.symm.trans hx), fun h _ => Bool.noConfusion h, fun _ _ => rfl⟩
   | 9, _ =>
    refine GO.at hs ?_
    refine GO.move rfl rfl rfl ?_
    refine GO.fin (fun a hs => ?_)
    exact ⟨_, _, _, _, _, _, _, _, (.int .i64 (w64 (2 + e8.Sign))), _, _, _, _, _, _, b20, _, by exact hs.setAt 9 rfl, HS, f16, f0, f1, f2, f3, f4, f5, f6, f7, fun _ => rfl, f10, f11, f12, f13, f15, o5_0, o5_1, o5_x, o5_2⟩
   | 10, _ =>
    have hb9 : b 9 = true := hd 9 (by decide)
    obtain rfl := f9 hb9
    refine GO.at hs ?_
    refine GO.ixV rfl rfl rfl Try.underlying93 sz2 c24.1 c24.2 rfl ?_
    refine GO.fin (fun a hs => ?_)
    exact ⟨_, _, _, _, _, _, _, _, _, (.pointer (some ⟨b17, (w64 (2 + e8.Sign)).toNat, none⟩)), _, _, _, _, _, b20, _, by exact hs.setAt 10 rfl, HS, f16, f0, f1, f2, f3, f4, f5, f6, f7, f9, fun _ => rfl, f11, f12, f13, f15, o5_0, o5_1, o5_x, o5_2⟩
   | 11, _ =>
    have hb10 : b 10 = true := hd 10 (by decide)
    obtain rfl := f10 hb10
    refine GO.at hs ?_
    refine GO.ldBoxV (j := 0) (kd := .i64) ([t10, t11, t12, t13] : List Int) HS rfl rfl rfl (ltN c24) na2 rfl rfl ?_
    refine GO.fin (fun a hs => ?_)
    exact ⟨_, _, _, _, _, _, _, _, _, _, (.int .i64 (([t10, t11, t12, t13] : List Int).getD (w64 (2 + e8.Sign)).toNat 0)), _, _, _, _, b20, _, by exact hs.setAt 11 rfl, HS, f16, f0, f1, f2, f3, f4, f5, f6, f7, f9, f10, fun _ => rfl, f12, f13, f15, o5_0, o5_1, o5_x, o5_2⟩
   | 12, _ =>
    refine GO.at hs ?_
    refine GO.ixP 2 rfl rfl rfl rfl Try.underlying93 sz2 rfl rfl ?_
    refine GO.fin (fun a hs => ?_)
    exact ⟨_, _, _, _, _, _, _, _, _, _, _, (.pointer (some ⟨b17, 2, none⟩)), _, _, _, b20, _, by exact hs.setAt 12 rfl, HS, f16, f0, f1, f2, f3, f4, f5, f6, f7, f9, f10, f11, fun _ => rfl, f13, f15, o5_0, o5_1, o5_x, o5_2⟩
   | 13, _ =>
    have hb12 : b 12 = true := hd 12 (by decide)
    obtain rfl := f12 hb12
    refine GO.at hs ?_
    refine GO.ldBox (j := 0) HS rfl rfl rfl rfl na2 rfl ?_
    refine GO.fin (fun a hs => ?_)
    exact ⟨_, _, _, _, _, _, _, _, _, _, _, _, (.int .i64 t12), _, _, b20, _, by exact hs.setAt 13 rfl, HS, f16, f0, f1, f2, f3, f4, f5, f6, f7, f9, f10, f11, f12, fun _ => rfl, f15, o5_0, o5_1, o5_x, o5_2⟩
   | 14, _ =>
    cases hx : b 8 with
    | false =>
     have hb0 : b 0 = true := hd 0 (by decide)
     obtain rfl := f0 hb0
     have hb11 : b 11 = true := hd 11 (by decide)
     obtain rfl := f11 hb11
     have hb13 : b 13 = true := hd 13 (by decide)
     obtain rfl := f13 hb13
     obtain rfl := o5_0 hb0 hx hb
     refine GO.at hs ?_
     refine GO.insMJ (j := 4) HS rfl rfl rfl rfl rfl Try.underlying130 Try.underlying2 ?_; intro wd25 HS
     refine GO.fin (fun a hs => ?_)
     exact ⟨_, _, _, _, _, _, _, _, _, _, _, _, _, _, _, b20, MapJ b20 .i64 .i64 (mput ([] : List (Int × Int)) (([t10, t11, t12, t13] : List Int).getD (w64 (2 + e8.Sign)).toNat 0) t12), hs, HS, f16, f0, f1, f2, f3, f4, f5, f6, f7, f9, f10, f11, f12, f13, f15, fun _ _ h => Bool.noConfusion h, fun _ h => Bool.noConfusion h, fun _ _ => rfl, fun h _ => Bool.noConfusion (h.symm.trans hx)⟩
    | true =>
     have hb0 : b 0 = true := hd 0 (by decide)
     obtain rfl := f0 hb0
     have hb11 : b 11 = true := hd 11 (by decide)
     obtain rfl := f11 hb11
     have hb13 : b 13 = true := hd 13 (by decide)
     obtain rfl := f13 hb13
     obtain rfl := o5_1 hx hb
     refine GO.at hs ?_
     refine GO.insMJ (j := 4) HS rfl rfl rfl rfl rfl Try.underlying130 Try.underlying2 ?_; intro wd25 HS
     refine GO.fin (fun a hs => ?_)
     exact ⟨_, _, _, _, _, _, _, _, _, _, _, _, _, _, _, b20, MapJ b20 .i64 .i64 (mput (mput ([] : List (Int × Int)) t10 (([t10, t11, t12, t13] : List Int).getD ((w64 ((w64 (2 + e8.Sign)) + 2)).tmod 4).toNat 0)) (([t10, t11, t12, t13] : List Int).getD (w64 (2 + e8.Sign)).toNat 0) t12), hs, HS, f16, f0, f1, f2, f3, f4, f5, f6, f7, f9, f10, f11, f12, f13, f15, fun _ _ h => Bool.noConfusion h, fun _ h => Bool.noConfusion h, fun h _ => Bool.noConfusion (h.symm.trans hx), fun _ _ => rfl⟩
   | 15, _ =>
    have hb0 : b 0 = true := hd 0 (by decide)
    obtain rfl := f0 hb0
    refine GO.at hs ?_
    refine GO.move rfl rfl rfl ?_
    refine GO.fin (fun a hs => ?_)
    exact ⟨_, _, _, _, _, _, _, _, _, _, _, _, _, (.map (some b20)), _, b20, _, by exact hs.setAt 14 rfl, HS, f16, f0, f1, f2, f3, f4, f5, f6, f7, f9, f10, f11, f12, f13, fun _ => rfl, o5_0, o5_1, o5_x, o5_2⟩
   | 16, _ =>
    have hb15 : b 15 = true := hd 15 (by decide)
    obtain rfl := f15 hb15
    refine GO.at hs ?_
    refine GO.assign rfl rfl rfl ?_
    refine GO.fin (fun a hs => ?_)
    exact ⟨_, _, _, _, _, _, _, _, _, _, _, _, _, _, (.map (some b20)), b20, _, by exact hs.setAt 0 rfl, HS, fun _ => rfl, f0, f1, f2, f3, f4, f5, f6, f7, f9, f10, f11, f12, f13, f15, o5_0, o5_1, o5_x, o5_2⟩
   | k + 17, hj => exact absurd hj (Nat.not_lt.2 (Nat.le_add_left 17 k))
  ·
   intro b a w hall
   refine exI fun Y1_0 => exI fun Y2_1 => exI fun Y3_2 => exI fun Y4_3 => exI fun Y5_4 => exI fun Y6_5 => exI fun Y7_6 => exI fun Y8_7 => exI fun Y9_9 => exI fun Y10_10 => exI fun Y11_11 => exI fun Y12_12 => exI fun Y13_13 => exI fun Y14_15 => exI fun Y15_16 => exI fun b20 => exI fun O16_5 => anI fun hs => anI fun HS => anI fun f16 => anI fun f0 => anI fun f1 => anI fun f2 => anI fun f3 => anI fun f4 => anI fun f5 => anI fun f6 => anI fun f7 => anI fun f9 => anI fun f10 => anI fun f11 => anI fun f12 => anI fun f13 => anI fun f15 => anI fun o5_0 => anI fun o5_1 => anI fun o5_x => fun o5_2 => ?_
   obtain rfl := f16 (hall 16 (by decide))
   obtain rfl := f0 (hall 0 (by decide))
   obtain rfl := f1 (hall 1 (by decide))
   obtain rfl := f2 (hall 2 (by decide))
   obtain rfl := f3 (hall 3 (by decide))
   obtain rfl := f4 (hall 4 (by decide))
   obtain rfl := f5 (hall 5 (by decide))
   obtain rfl := f6 (hall 6 (by decide))
   obtain rfl := f7 (hall 7 (by decide))
   obtain rfl := f9 (hall 9 (by decide))
   obtain rfl := f10 (hall 10 (by decide))
   obtain rfl := f11 (hall 11 (by decide))
   obtain rfl := f12 (hall 12 (by decide))
   obtain rfl := f13 (hall 13 (by decide))
   obtain rfl := f15 (hall 15 (by decide))
   obtain rfl := o5_2 (hall 8 (by decide)) (hall 14 (by decide))
   refine G.at hs ?_
   refine G.seq ?_
   obtain ⟨t27, t28, h29, H⟩ := bind2_elim H
   refine G.region ?_
   refine GO.ldBoxA (j := 3) ([.slice A_t_Crossings t_Crossings.length c_t_Crossings, .int .i64 t_Circles]) HS rfl rfl rfl rfl ag28 rfl ?_
   refine GO.fn rfl Try.func49 fok49.1 fok49.2 rfl rfl (impl_copyDiagram.calls HS (RdIn.drop 5 h_t_Crossings) h29) (fun _ wd32 ⟨A30, c31, h33, HS⟩ => ⟨_, h33, ?_⟩)
   refine GO.alloc HS rfl zr28 rfl rfl ?_; intro b34 wd35 HS
   refine GO.stBox (j := 0) (vs := [.slice A30 t27.length c31, .int .i64 t28]) ([.slice A30 t27.length c31, .int .i64 t28]) HS rfl rfl rfl rfl rfl (htA ag28) rfl rfl rfl ?_; intro wd36 HS
   refine GO.nil ?_
   refine G.seq ?_
   obtain ⟨t39, h40, H⟩ := Option.bind_eq_some_iff.1 H
   refine G.region ?_
   refine GO.buildS (el := 2) ([.int .i64 (-1)]) HS rfl rfl (fun _ => by kernel_rfl) rfl ?_; intro b37 wd38 HS
   refine GO.fld (⟨b3, 0, none⟩) rfl rfl fl63_0 rfl rfl ?_
   refine GO.ldBox (j := 5) HS rfl rfl rfl rfl na61 rfl ?_
   refine GO.lenS rfl rfl Try.underlying61 rfl ?_
   replace HS := HS.boxRow (T := (TInt .i64)) (j := 0) rfl flat_flat (fun _ => ()) ([(-1)] : List Int) rfl (bndL rfl)
   refine GO.lenC (t := 52) (m := ([(-1)] : List Int).length) (c' := ([(-1)] : List Int).length) rfl rfl rfl ?_
   refine GO.fn rfl Try.func118 fok118.1 fok118.2 rfl rfl (slices_Repeat_int64_int64.calls HS (RdIn.own (j := 0) rfl) h40) (fun _ wd43 ⟨A41, c42, h44, HS⟩ => ⟨_, h44, ?_⟩)
   refine GO.assign rfl rfl rfl ?_
   refine GO.nil ?_
   refine G.seq ?_
   refine G.region ?_
   refine GO.assign rfl rfl rfl ?_
   refine GO.nil ?_
   refine G.seq ?_
   refine G.seq ?_
   obtain ⟨t45, h46, H⟩ := Option.bind_eq_some_iff.1 H
   refine G.region ?_
   refine GO.fld (⟨b3, 0, none⟩) rfl rfl fl63_0 rfl rfl ?_
   refine GO.ldBox (j := 6) HS rfl rfl rfl rfl na61 rfl ?_
   refine GO.fn rfl Try.func48 fok48.1 fok48.2 rfl rfl (impl_size_impl_end.calls HS (RdIn.drop 9 h_o_from) h46) (fun _ wd47 ⟨h48, HS⟩ => ⟨_, h48, ?_⟩)
   refine GO.move rfl rfl rfl ?_
   refine GO.nil ?_
   refine G.block ?_
   refine G.loop ?_
   refine G.name (fun k_l1 hk_l1 => ?_)
   have at_l1 : ∀ m_l1, m_l1 ≤ K → ∀ (x323 : List (Int × Int)) (x324 : List GCrossing) (x325 : List Int) (x326 : Int) (x327 : Int) (w : World), impl_Diagram_smoothed.l1 K m_l1 t_Circles o_from o_to A e8 t10 t11 t12 t13 t28 t45 x323 x324 x325 x326 x327 = some (r1, r2) → St w0 w (Box b1 28 [.slice A_t_Crossings t_Crossings.length c_t_Crossings, .int .i64 t_Circles] :: Box b3 63 [.slice A_o_from o_from.length c_o_from, .slice A_o_to o_to.length c_o_to] :: Box b5 28 [.slice none 0 0, .int .i64 0] :: Box b17 93 [.int .i64 t10, .int .i64 t11, .int .i64 t12, .int .i64 t13] :: MapJ b20 .i64 .i64 x323 :: Box b34 28 [.slice A30 x324.length c31, .int .i64 t28] :: Own T_GCrossing 58 A30 c31 (fun _ => ()) x324 :: Own (TInt .i64) 2 A41 c42 (fun _ => ()) x325 :: L) → G Try.prog 67 178 [(2, .int .i64 A), (3, .pointer (some ⟨b1, 0, none⟩)), (4, .pointer (some ⟨b3, 0, none⟩)), (6, .pointer (some ⟨b5, 0, none⟩)), (7, .pointer (some ⟨b17, 0, none⟩)), (8, .int .i64 (w64 (2 + e8.Sign))), (9, .map (some b20)), (10, .pointer (some ⟨b34, 0, none⟩)), (11, .slice A41 x325.length c42), (12, .int .i64 x326), (59, .int .i64 t45), (60, .int .i64 x327)] k_l1 w (impl_Diagram_smoothed.post w0 L t_Crossings t_Circles o_from o_to A A_t_Crossings c_t_Crossings A_o_from c_o_from A_o_to c_o_to r1 r2) := by
    intro m_l1
    induction m_l1 using Nat.strongRecOn with
    | _ m_l1 ih_l1 =>
     intro hm_l1 x323 x324 x325 x326 x327 w H HS
     cases m_l1 with
     | zero => rw [impl_Diagram_smoothed.l1] at H; cases H
     | succ n_l1 =>
      rw [impl_Diagram_smoothed.l1] at H
      subst hk_l1
      refine G.seq ?_
      refine G.region ?_
      refine GO.lss rfl rfl rfl rfl ?_
      refine GO.nil ?_
      refine G.seq ?_
      rcases ite_elim H with ⟨c602, H⟩ | ⟨c602, H⟩
      ·
       refine G.yesB rfl (decide_eq_true c602) ?_
       refine G.skip ?_
       refine G.seq ?_
       refine G.block ?_
       refine G.seq ?_
       refine G.region ?_
       refine GO.move rfl rfl rfl ?_
       refine GO.assign rfl rfl rfl ?_
       refine GO.nil ?_
       refine G.seq ?_
       refine G.seq ?_
       obtain ⟨c603, H⟩ := ite_none H
       obtain ⟨e604, h605, H⟩ := bnd_elim H
       refine G.region ?_
       refine GO.fld (⟨b3, 0, none⟩) rfl rfl fl63_0 rfl rfl ?_
       refine GO.ldBox (j := 1) HS rfl rfl rfl rfl na61 rfl ?_
       refine GO.move rfl rfl rfl ?_
       refine GO.ix rfl rfl rfl Try.underlying61 sz68 ((RdIn.drop 8 h_o_from) _ HS).2.2.1 c603.1 c603.2 rfl ?_
       refine GO.fld (ea A_o_from (x327.toNat * 2)) rfl rfl fl68_0 rfl rfl ?_
       refine GO.ldRd (T := T_GEnd) (n := x327.toNat) (o := 0) HS (RdIn.drop 8 h_o_from) rfl rfl (getD_eq (ltN c603) h605) rfl rfl na2 rfl ?_
       refine GO.move rfl rfl rfl ?_
       refine GO.eql rfl rfl rfl rfl ?_
       refine GO.nil ?_
       rcases ite_elim H with ⟨c606, H⟩ | ⟨c606, H⟩
       ·
        refine G.yesB rfl (decide_eq_true c606) ?_
        refine G.exit rfl ?_
        refine G.region ?_
        refine GO.add rfl rfl rfl rfl ?_
        refine GO.move rfl rfl rfl ?_
        refine GO.nil ?_
        refine G.again ?_
        refine G.weak ?_ (ih_l1 n_l1 (Nat.lt_succ_of_le (Nat.le_refl _)) (Nat.le_of_succ_le hm_l1) _ _ _ _ _ _ H HS)
        exact ⟨rfl, rfl, rfl, rfl, rfl, rfl, rfl, rfl, rfl, rfl, rfl, rfl, trivial⟩
       ·
        refine G.noB rfl (decide_eq_false c606) ?_
        refine G.skip ?_
        refine G.seq ?_
        obtain ⟨c607, H⟩ := ite_none H
        refine G.region ?_
        refine GO.move rfl rfl rfl ?_
        refine GO.move rfl rfl rfl ?_
        refine GO.move rfl rfl rfl ?_
        refine GO.ix rfl rfl rfl Try.underlying43 sz2 ((RdIn.own (j := 7) rfl) _ HS).2.2.1 c607.1 c607.2 rfl ?_
        refine GO.stRow (T := (TInt .i64)) (j := 7) (n := x327.toNat) (o := 0) (vs := [.int .i64 x326]) x326 HS rfl flat_flat rfl rfl rfl rfl (htN na2 rfl) rfl (getD_some (d := 0) (ltN c607)) rfl rfl ?_; intro wd608 HS
        refine GO.nil ?_
        refine G.len (t := 11) (m := (x325.set x327.toNat x326).length) rfl (by simp only [List.length_set] <;> rfl) ?_
        refine G.seq ?_
        refine G.region ?_
        refine GO.move rfl rfl rfl ?_
        refine GO.add rfl rfl rfl rfl ?_
        refine GO.assign rfl rfl rfl ?_
        refine GO.nil ?_
        refine G.seq ?_
        refine G.region ?_
        refine GO.move rfl rfl rfl ?_
        refine GO.assign rfl rfl rfl ?_
        refine GO.nil ?_
        refine G.seq ?_
        refine G.block ?_
        refine G.loop ?_
        refine G.name (fun k_l48 hk_l48 => ?_)
        have at_l48 : ∀ m_l48, m_l48 ≤ n_l1 → ∀ (x619 : List (Int × Int)) (x620 : Int) (w : World), impl_Diagram_smoothed.l48 K m_l48 t_Circles o_from o_to A e8 t10 t11 t12 t13 t28 t45 x324 x325 x326 x327 x619 x620 = some (r1, r2) → St w0 w (Box b1 28 [.slice A_t_Crossings t_Crossings.length c_t_Crossings, .int .i64 t_Circles] :: Box b3 63 [.slice A_o_from o_from.length c_o_from, .slice A_o_to o_to.length c_o_to] :: Box b5 28 [.slice none 0 0, .int .i64 0] :: Box b17 93 [.int .i64 t10, .int .i64 t11, .int .i64 t12, .int .i64 t13] :: MapJ b20 .i64 .i64 x619 :: Box b34 28 [.slice A30 x324.length c31, .int .i64 t28] :: Own T_GCrossing 58 A30 c31 (fun _ => ()) x324 :: Own (TInt .i64) 2 A41 c42 (fun _ => ()) (x325.set x327.toNat x326) :: L) → G Try.prog 67 178 [(2, .int .i64 A), (3, .pointer (some ⟨b1, 0, none⟩)), (4, .pointer (some ⟨b3, 0, none⟩)), (6, .pointer (some ⟨b5, 0, none⟩)), (7, .pointer (some ⟨b17, 0, none⟩)), (8, .int .i64 (w64 (2 + e8.Sign))), (9, .map (some b20)), (10, .pointer (some ⟨b34, 0, none⟩)), (11, .slice A41 (x325.set x327.toNat x326).length c42), (12, .int .i64 (w64 (x326 + 1))), (13, .int .i64 x327), (14, .int .i64 x620), (59, .int .i64 t45), (60, .int .i64 x327)] k_l48 w (impl_Diagram_smoothed.post w0 L t_Crossings t_Circles o_from o_to A A_t_Crossings c_t_Crossings A_o_from c_o_from A_o_to c_o_to r1 r2) := by
         intro m_l48
         induction m_l48 using Nat.strongRecOn with
         | _ m_l48 ih_l48 =>
          intro hm_l48 x619 x620 w H HS
          cases m_l48 with
          | zero => rw [impl_Diagram_smoothed.l48] at H; cases H
          | succ n_l48 =>
           rw [impl_Diagram_smoothed.l48] at H
           subst hk_l48
           refine G.seq ?_
           refine G.seq ?_
           obtain ⟨c631, H⟩ := ite_none H
           obtain ⟨e632, h633, H⟩ := bnd_elim H
           refine G.region ?_
           refine GO.fld (⟨b3, 1, none⟩) rfl rfl fl63_1 rfl rfl ?_
           refine GO.ldBox (j := 1) HS rfl rfl rfl rfl na61 rfl ?_
           refine GO.move rfl rfl rfl ?_
           refine GO.ix rfl rfl rfl Try.underlying61 sz68 ((RdIn.drop 8 h_o_to) _ HS).2.2.1 c631.1 c631.2 rfl ?_
           refine GO.fld (ea A_o_to (x620.toNat * 2)) rfl rfl fl68_0 rfl rfl ?_
           refine GO.ldRd (T := T_GEnd) (n := x620.toNat) (o := 0) HS (RdIn.drop 8 h_o_to) rfl rfl (getD_eq (ltN c631) h633) rfl rfl na2 rfl ?_
           refine GO.move rfl rfl rfl ?_
           refine GO.eql rfl rfl rfl rfl ?_
           refine GO.nil ?_
           rcases ite_elim H with ⟨c634, H⟩ | ⟨c634, H⟩
           ·
            refine G.yesB rfl (decide_eq_true c634) ?_
            refine G.skip ?_
            refine G.block ?_
            refine G.seq ?_
            refine G.region ?_
            refine GO.move rfl rfl rfl ?_
            refine GO.move rfl rfl rfl ?_
            refine GO.lookJ (j := 4) HS rfl rfl rfl rfl Try.underlying130 Try.underlying2 zr2 rfl ?_
            refine GO.assign rfl rfl rfl ?_
            refine GO.nil ?_
            refine G.seq ?_
            refine G.region ?_
            refine GO.move rfl rfl rfl ?_
            refine GO.move rfl rfl rfl ?_
            refine GO.delMJ (j := 4) HS rfl rfl rfl rfl Try.underlying130 Try.underlying2 ?_; intro wd635 HS
            refine GO.nil ?_
            refine G.region ?_
            refine GO.move rfl rfl rfl ?_
            refine GO.assign rfl rfl rfl ?_
            refine GO.nil ?_
            refine G.blockEnd ?_
            refine G.again ?_
            refine G.weak ?_ (ih_l48 n_l48 (Nat.lt_succ_of_le (Nat.le_refl _)) (Nat.le_of_succ_le hm_l48) _ _ _ H HS)
            exact ⟨rfl, rfl, rfl, rfl, rfl, rfl, rfl, rfl, rfl, rfl, rfl, rfl, rfl, rfl, trivial⟩
           ·
            refine G.noB rfl (decide_eq_false c634) ?_
            refine G.exit rfl ?_
            obtain ⟨t636, h637, H⟩ := Option.bind_eq_some_iff.1 H
            obtain ⟨c638, H⟩ := ite_none H
            refine G.regionAny mixed (by decide) (fun b a w => ∃ (Y17_0 : Value) (Y18_1 : Value) (Y19_2 : Value) (Y20_3 : Value) (Y21_4 : Value) (Y22_5 : Value) (Y23_6 : Value) (Y24_7 : Value) (O25_272 : HObj), Sat 178 [(92, Y17_0), (93, Y18_1), (94, Y19_2), (95, Y20_3), (96, Y21_4), (97, Y22_5), (98, Y23_6), (99, Y24_7), (2, .int .i64 A), (3, .pointer (some ⟨b1, 0, none⟩)), (4, .pointer (some ⟨b3, 0, none⟩)), (6, .pointer (some ⟨b5, 0, none⟩)), (7, .pointer (some ⟨b17, 0, none⟩)), (8, .int .i64 (w64 (2 + e8.Sign))), (9, .map (some b20)), (10, .pointer (some ⟨b34, 0, none⟩)), (11, .slice A41 (x325.set x327.toNat x326).length c42), (12, .int .i64 (w64 (x326 + 1))), (13, .int .i64 x327), (14, .int .i64 x620), (59, .int .i64 t45), (60, .int .i64 x327)] a ∧ St w0 w (Box b1 28 [.slice A_t_Crossings t_Crossings.length c_t_Crossings, .int .i64 t_Circles] :: Box b3 63 [.slice A_o_from o_from.length c_o_from, .slice A_o_to o_to.length c_o_to] :: Box b5 28 [.slice none 0 0, .int .i64 0] :: Box b17 93 [.int .i64 t10, .int .i64 t11, .int .i64 t12, .int .i64 t13] :: MapJ b20 .i64 .i64 x619 :: Box b34 28 [.slice A30 x324.length c31, .int .i64 t28] :: O25_272 :: Own (TInt .i64) 2 A41 c42 (fun _ => ()) (x325.set x327.toNat x326) :: L) ∧ (b 0 = true → Y17_0 = (.agg [.slice A30 x324.length c31, .int .i64 t28].toArray)) ∧ (b 1 = true → Y18_1 = (.pointer (some ⟨b3, 1, none⟩))) ∧ (b 2 = true → Y19_2 = (.slice A_o_to o_to.length c_o_to)) ∧ (b 3 = true → Y20_3 = (.int .i64 x620)) ∧ (b 4 = true → Y21_4 = (.pointer (some (ea A_o_to (x620.toNat * 2))))) ∧ (b 5 = true → Y22_5 = (.agg [.int .i64 e632.crossing, .int .i64 e632.position].toArray)) ∧ (b 6 = true → Y23_6 = (.int .i64 x327)) ∧ (b 7 = true → Y24_7 = (.tuple #[])) ∧ (b 7 = false → O25_272 = Own T_GCrossing 58 A30 c31 (fun _ => ()) x324) ∧ (b 7 = true → O25_272 = Own T_GCrossing 58 A30 c31 (fun _ => ()) t636)) ?_ ?_ ?_
            ·
             intro a hs
             obtain ⟨Y17_0, hs⟩ := hs.ext (d := 92) rfl
             obtain ⟨Y18_1, hs⟩ := hs.ext (d := 93) rfl
             obtain ⟨Y19_2, hs⟩ := hs.ext (d := 94) rfl
             obtain ⟨Y20_3, hs⟩ := hs.ext (d := 95) rfl
             obtain ⟨Y21_4, hs⟩ := hs.ext (d := 96) rfl
             obtain ⟨Y22_5, hs⟩ := hs.ext (d := 97) rfl
             obtain ⟨Y23_6, hs⟩ := hs.ext (d := 98) rfl
             obtain ⟨Y24_7, hs⟩ := hs.ext (d := 99) rfl
             exact ⟨Y17_0, Y18_1, Y19_2, Y20_3, Y21_4, Y22_5, Y23_6, Y24_7, Own T_GCrossing 58 A30 c31 (fun _ => ()) x324, hs.weak ⟨rfl, rfl, rfl, rfl, rfl, rfl, rfl, rfl, rfl, rfl, rfl, rfl, rfl, rfl, rfl, rfl, rfl, rfl, rfl, rfl, rfl, rfl, trivial⟩, (HS.drew.pick 8 [0, 1, 2, 3, 4, 5, 6, 7]), fun h => Bool.noConfusion h, fun h => Bool.noConfusion h, fun h => Bool.noConfusion h, fun h => Bool.noConfusion h, fun h => Bool.noConfusion h, fun h => Bool.noConfusion h, fun h => Bool.noConfusion h, fun h => Bool.noConfusion h, fun _ => rfl, fun h => Bool.noConfusion h⟩
            ·
             intro j hj b a w
             refine exI fun Y17_0 => exI fun Y18_1 => exI fun Y19_2 => exI fun Y20_3 => exI fun Y21_4 => exI fun Y22_5 => exI fun Y23_6 => exI fun Y24_7 => exI fun O25_272 => anI fun hs => anI fun HS => anI fun f0 => anI fun f1 => anI fun f2 => anI fun f3 => anI fun f4 => anI fun f5 => anI fun f6 => anI fun f7 => anI fun o272_0 => fun o272_1 hb hd hcl => ?_
             match j, hj with
             | 0, _ =>
              refine GO.at hs ?_
              refine GO.ldBoxA (j := 5) ([.slice A30 x324.length c31, .int .i64 t28]) HS rfl rfl rfl rfl ag28 rfl ?_
              refine GO.fin (fun a hs => ?_)
              exact ⟨(.agg [.slice A30 x324.length c31, .int .i64 t28].toArray), _, _, _, _, _, _, _, _, by exact hs.setAt 0 rfl, HS, fun _ => rfl, f1, f2, f3, f4, f5, f6, f7, o272_0, o272_1⟩
             | 1, _ =>
              refine GO.at hs ?_
              refine GO.fld (⟨b3, 1, none⟩) rfl rfl fl63_1 rfl rfl ?_
              refine GO.fin (fun a hs => ?_)
              exact ⟨_, (.pointer (some ⟨b3, 1, none⟩)), _, _, _, _, _, _, _, by exact hs.setAt 1 rfl, HS, f0, fun _ => rfl, f2, f3, f4, f5, f6, f7, o272_0, o272_1⟩
             | 2, _ =>
              have hb1 : b 1 = true := hd 1 (by decide)
              obtain rfl := f1 hb1
              refine GO.at hs ?_
              refine GO.ldBox (j := 1) HS rfl rfl rfl rfl na61 rfl ?_
              refine GO.fin (fun a hs => ?_)
              exact ⟨_, _, (.slice A_o_to o_to.length c_o_to), _, _, _, _, _, _, by exact hs.setAt 2 rfl, HS, f0, f1, fun _ => rfl, f3, f4, f5, f6, f7, o272_0, o272_1⟩
             | 3, _ =>
              refine GO.at hs ?_
              refine GO.move rfl rfl rfl ?_
              refine GO.fin (fun a hs => ?_)
              exact ⟨_, _, _, (.int .i64 x620), _, _, _, _, _, by exact hs.setAt 3 rfl, HS, f0, f1, f2, fun _ => rfl, f4, f5, f6, f7, o272_0, o272_1⟩
             | 4, _ =>
              have hb2 : b 2 = true := hd 2 (by decide)
              obtain rfl := f2 hb2
              have hb3 : b 3 = true := hd 3 (by decide)
              obtain rfl := f3 hb3
              refine GO.at hs ?_
              refine GO.ix rfl rfl rfl Try.underlying61 sz68 ((RdIn.drop 8 h_o_to) _ HS).2.2.1 c631.1 c631.2 rfl ?_
              refine GO.fin (fun a hs => ?_)
              exact ⟨_, _, _, _, (.pointer (some (ea A_o_to (x620.toNat * 2)))), _, _, _, _, by exact hs.setAt 4 rfl, HS, f0, f1, f2, f3, fun _ => rfl, f5, f6, f7, o272_0, o272_1⟩
             | 5, _ =>
              have hb4 : b 4 = true := hd 4 (by decide)
              obtain rfl := f4 hb4
              refine GO.at hs ?_
              refine GO.ldRdA (T := T_GEnd) (n := x620.toNat) HS (RdIn.drop 8 h_o_to) rfl rfl (getD_eq (ltN c631) h633) ag68 rfl ?_
              refine GO.fin (fun a hs => ?_)
              exact ⟨_, _, _, _, _, (.agg [.int .i64 e632.crossing, .int .i64 e632.position].toArray), _, _, _, by exact hs.setAt 5 rfl, HS, f0, f1, f2, f3, f4, fun _ => rfl, f6, f7, o272_0, o272_1⟩
             | 6, _ =>
              refine GO.at hs ?_
              refine GO.move rfl rfl rfl ?_
              refine GO.fin (fun a hs => ?_)
              exact ⟨_, _, _, _, _, _, (.int .i64 x327), _, _, by exact hs.setAt 6 rfl, HS, f0, f1, f2, f3, f4, f5, fun _ => rfl, f7, o272_0, o272_1⟩
             | 7, _ =>
              have hb0 : b 0 = true := hd 0 (by decide)
              obtain rfl := f0 hb0
              have hb5 : b 5 = true := hd 5 (by decide)
              obtain rfl := f5 hb5
              have hb6 : b 6 = true := hd 6 (by decide)
              obtain rfl := f6 hb6
              obtain rfl := o272_0 hb
              refine GO.at hs ?_
              replace HS := HS.pick 8 [6, 0, 1, 2, 3, 4, 5, 7]
              refine GO.fn rfl Try.func50 fok50.1 fok50.2 rfl rfl (impl_Diagram_set.calls HS  h637) (fun _ wd639 ⟨h640, HS⟩ => ⟨_, h640, ?_⟩)
              refine GO.fin (fun a hs => ?_)
              exact ⟨_, _, _, _, _, _, _, (.tuple #[]), Own T_GCrossing 58 A30 c31 (fun _ => ()) t636, by exact hs.setAt 7 rfl, HS.pick 8 [1, 2, 3, 4, 5, 6, 0, 7], f0, f1, f2, f3, f4, f5, f6, fun _ => rfl, fun h => Bool.noConfusion h, fun _ => rfl⟩
             | k + 8, hj => exact absurd hj (Nat.not_lt.2 (Nat.le_add_left 8 k))
            ·
             intro b a w hall
             refine exI fun Y17_0 => exI fun Y18_1 => exI fun Y19_2 => exI fun Y20_3 => exI fun Y21_4 => exI fun Y22_5 => exI fun Y23_6 => exI fun Y24_7 => exI fun O25_272 => anI fun hs => anI fun HS => anI fun f0 => anI fun f1 => anI fun f2 => anI fun f3 => anI fun f4 => anI fun f5 => anI fun f6 => anI fun f7 => anI fun o272_0 => fun o272_1 => ?_
             obtain rfl := f0 (hall 0 (by decide))
             obtain rfl := f1 (hall 1 (by decide))
             obtain rfl := f2 (hall 2 (by decide))
             obtain rfl := f3 (hall 3 (by decide))
             obtain rfl := f4 (hall 4 (by decide))
             obtain rfl := f5 (hall 5 (by decide))
             obtain rfl := f6 (hall 6 (by decide))
             obtain rfl := f7 (hall 7 (by decide))
             obtain rfl := o272_1 (hall 7 (by decide))
             refine G.at hs ?_
             replace HS := HS.boxEq (j := 5) (cs' := [.slice A30 t636.length c31, .int .i64 t28]) rfl (by simp only [List.length_set, c638] <;> rfl)
             refine G.blockEnd ?_
             refine G.region ?_
             refine GO.add rfl rfl rfl rfl ?_
             refine GO.move rfl rfl rfl ?_
             refine GO.nil ?_
             refine G.again ?_
             refine G.weak ?_ (ih_l1 n_l48 (Nat.lt_succ_of_le (Nat.le_of_succ_le hm_l48)) (Nat.le_trans (Nat.le_of_succ_le hm_l48) (Nat.le_of_succ_le hm_l1)) _ _ _ _ _ _ H HS)
             exact ⟨rfl, rfl, rfl, rfl, rfl, rfl, rfl, rfl, rfl, rfl, rfl, rfl, trivial⟩
        refine G.weak ?_ (at_l48 n_l1 (Nat.le_refl _) _ _ _ H HS)
        exact ⟨rfl, rfl, rfl, rfl, rfl, rfl, rfl, rfl, rfl, rfl, rfl, rfl, rfl, rfl, trivial⟩
      ·
       refine G.noB rfl (decide_eq_false c602) ?_
       refine G.exit rfl ?_
       refine G.seq ?_
       refine G.region ?_
       refine GO.fld (⟨b1, 1, none⟩) rfl rfl fl28_1 rfl rfl ?_
       refine GO.ldBox (j := 0) HS rfl rfl rfl rfl na2 rfl ?_
       refine GO.buildV (.agg [.slice none 0 0, .int .i64 t_Circles].toArray) rfl rfl (fun _ => by kernel_rfl) rfl ?_
       refine GO.alloc HS rfl zr28 rfl rfl ?_; intro b641 wd642 HS
       refine GO.stBox (j := 0) (vs := [.slice none 0 0, .int .i64 t_Circles]) ([.slice none 0 0, .int .i64 t_Circles]) HS rfl rfl rfl rfl rfl (htA ag28) rfl rfl rfl ?_; intro wd643 HS
       refine GO.nil ?_
       refine G.seq ?_
       refine G.seq ?_
       refine G.region ?_
       refine GO.fld (⟨b34, 0, none⟩) rfl rfl fl28_0 rfl rfl ?_
       refine GO.ldBox (j := 6) HS rfl rfl rfl rfl na26 rfl ?_
       refine GO.lenS rfl rfl Try.underlying26 rfl ?_
       refine GO.move rfl rfl rfl ?_
       refine GO.nil ?_
       refine G.block ?_
       refine G.loop ?_
       refine G.name (fun k_l49 hk_l49 => ?_)
       have at_l49 : ∀ m_l49, m_l49 ≤ n_l1 → ∀ (A720 : Option Addr) (c721 : Nat) (x722 : List GCrossing) (x723 : Int) (w : World), impl_Diagram_smoothed.l49 K m_l49 t_Circles A e8 t10 t11 t12 t13 x323 x324 x325 x722 x723 = some (r1, r2) → St w0 w (Box b5 28 [.slice none 0 0, .int .i64 0] :: Box b17 93 [.int .i64 t10, .int .i64 t11, .int .i64 t12, .int .i64 t13] :: MapJ b20 .i64 .i64 x323 :: Own (TInt .i64) 2 A41 c42 (fun _ => ()) x325 :: Box b641 28 [.slice A720 x722.length c721, .int .i64 t_Circles] :: Own T_GCrossing 58 A720 c721 (fun _ => ()) x722 :: Own T_GCrossing 58 A30 c31 (fun _ => ()) x324 :: L) → G Try.prog 67 178 [(2, .int .i64 A), (6, .pointer (some ⟨b5, 0, none⟩)), (7, .pointer (some ⟨b17, 0, none⟩)), (8, .int .i64 (w64 (2 + e8.Sign))), (9, .map (some b20)), (11, .slice A41 x325.length c42), (16, .pointer (some ⟨b641, 0, none⟩)), (105, .slice A30 x324.length c31), (106, .int .i64 (x324.length : Int)), (107, .int .i64 x723)] k_l49 w (impl_Diagram_smoothed.post w0 L t_Crossings t_Circles o_from o_to A A_t_Crossings c_t_Crossings A_o_from c_o_from A_o_to c_o_to r1 r2) := by
        intro m_l49
        induction m_l49 using Nat.strongRecOn with
        | _ m_l49 ih_l49 =>
         intro hm_l49 A720 c721 x722 x723 w H HS
         cases m_l49 with
         | zero => rw [impl_Diagram_smoothed.l49] at H; cases H
         | succ n_l49 =>
          rw [impl_Diagram_smoothed.l49] at H
          subst hk_l49
          refine G.seq ?_
          refine G.region ?_
          refine GO.lss rfl rfl rfl rfl ?_
          refine GO.nil ?_
          refine G.seq ?_
          rcases ite_elim H with ⟨c800, H⟩ | ⟨c800, H⟩
          ·
           refine G.yesB rfl (decide_eq_true c800) ?_
           refine G.skip ?_
           refine G.seq ?_
           refine G.block ?_
           refine G.seq ?_
           obtain ⟨c801, H⟩ := ite_none H
           obtain ⟨e802, h803, H⟩ := bnd_elim H
           refine G.region ?_
           refine GO.move rfl rfl rfl ?_
           refine GO.ix rfl rfl rfl Try.underlying26 sz58 ((RdIn.own (j := 6) rfl) _ HS).2.2.1 c801.1 c801.2 rfl ?_
           refine GO.ldRdA (T := T_GCrossing) (n := x723.toNat) HS (RdIn.own (j := 6) rfl) rfl rfl (getD_eq (ltN c801) h803) ag58 rfl ?_
           refine GO.alloc HS rfl zr58 rfl rfl ?_; intro b804 wd805 HS
           refine GO.assign rfl rfl rfl ?_
           refine GO.stBox (j := 0) (vs := [.int .i64 e802.A, .int .i64 e802.B, .int .i64 e802.C, .int .i64 e802.D, .int .i64 e802.Sign]) ([.int .i64 e802.A, .int .i64 e802.B, .int .i64 e802.C, .int .i64 e802.D, .int .i64 e802.Sign]) HS rfl rfl rfl rfl rfl (htA ag58) rfl rfl rfl ?_; intro wd806 HS
           refine GO.nil ?_
           refine G.seq ?_
           refine G.region ?_
           refine GO.move rfl rfl rfl ?_
           refine GO.move rfl rfl rfl ?_
           refine GO.neq rfl rfl rfl rfl ?_
           refine GO.nil ?_
           rcases ite_elim H with ⟨c807, H⟩ | ⟨c807, H⟩
           ·
            refine G.noB rfl (congrArg Bool.not (decide_eq_true c807)) ?_
            refine G.skip ?_
            refine G.blockEnd ?_
            refine G.region ?_
            refine GO.add rfl rfl rfl rfl ?_
            refine GO.move rfl rfl rfl ?_
            refine GO.nil ?_
            refine G.again ?_
            refine G.weak ?_ (ih_l49 n_l49 (Nat.lt_succ_of_le (Nat.le_refl _)) (Nat.le_of_succ_le hm_l49) _ _ _ _ _ H (HS.pick 8 [1, 2, 3, 4, 5, 6, 7]))
            exact ⟨rfl, rfl, rfl, rfl, rfl, rfl, rfl, rfl, rfl, rfl, trivial⟩
           ·
            refine G.yesB rfl (congrArg Bool.not (decide_eq_false c807)) ?_
            obtain ⟨c808, H⟩ := ite_none H
            obtain ⟨c809, H⟩ := ite_none H
            obtain ⟨c810, H⟩ := ite_none H
            obtain ⟨c811, H⟩ := ite_none H
            obtain ⟨c817, H⟩ := ite_none H
            refine G.regionAny mixed (by decide) (fun b a w => ∃ (Y26_0 : Value) (Y27_1 : Value) (Y28_2 : Value) (Y29_3 : Value) (Y30_4 : Value) (Y31_5 : Value) (Y32_6 : Value) (Y33_7 : Value) (Y34_8 : Value) (Y35_9 : Value) (Y36_10 : Value) (Y37_11 : Value) (Y38_12 : Value) (Y39_13 : Value) (Y40_14 : Value) (Y41_15 : Value) (Y42_16 : Value) (Y43_17 : Value) (Y44_18 : Value) (Y45_19 : Value) (Y46_20 : Value) (Y47_21 : Value) (Y48_22 : Value) (Y49_23 : Value) (Y50_24 : Value) (Y51_25 : Value) (Y52_26 : Value) (Y53_27 : Value) (b812 : Nat) (A815 : Option Addr) (c816 : Nat) (O56_279 : HObj) (O54_313 : HObj) (O55_353 : HObj), Sat 178 [(115, Y26_0), (116, Y27_1), (117, Y28_2), (118, Y29_3), (119, Y30_4), (120, Y31_5), (121, Y32_6), (122, Y33_7), (123, Y34_8), (124, Y35_9), (125, Y36_10), (126, Y37_11), (127, Y38_12), (128, Y39_13), (129, Y40_14), (130, Y41_15), (131, Y42_16), (132, Y43_17), (133, Y44_18), (134, Y45_19), (135, Y46_20), (136, Y47_21), (137, Y48_22), (138, Y49_23), (139, Y50_24), (140, Y51_25), (141, Y52_26), (142, Y53_27), (2, .int .i64 A), (6, .pointer (some ⟨b5, 0, none⟩)), (7, .pointer (some ⟨b17, 0, none⟩)), (8, .int .i64 (w64 (2 + e8.Sign))), (9, .map (some b20)), (11, .slice A41 x325.length c42), (16, .pointer (some ⟨b641, 0, none⟩)), (18, .pointer (some ⟨b804, 0, none⟩)), (105, .slice A30 x324.length c31), (106, .int .i64 (x324.length : Int)), (107, .int .i64 x723)] a ∧ St w0 w (Box b804 58 [.int .i64 e802.A, .int .i64 e802.B, .int .i64 e802.C, .int .i64 e802.D, .int .i64 e802.Sign] :: Box b5 28 [.slice none 0 0, .int .i64 0] :: Box b17 93 [.int .i64 t10, .int .i64 t11, .int .i64 t12, .int .i64 t13] :: MapJ b20 .i64 .i64 x323 :: Own (TInt .i64) 2 A41 c42 (fun _ => ()) x325 :: O56_279 :: O54_313 :: Own T_GCrossing 58 A30 c31 (fun _ => ()) x324 :: O55_353 :: L) ∧ (b 0 = true → Y26_0 = (.pointer (some ⟨b641, 0, none⟩))) ∧ (b 1 = true → Y27_1 = (.slice A720 x722.length c721)) ∧ (b 2 = true → Y28_2 = (.slice A41 x325.length c42)) ∧ (b 3 = true → Y29_3 = (.pointer (some ⟨b804, 0, none⟩))) ∧ (b 4 = true → Y30_4 = (.int .i64 e802.A)) ∧ (b 5 = true → Y31_5 = (.pointer (some (ea A41 (e802.A.toNat * 1))))) ∧ (b 6 = true → Y32_6 = (.int .i64 (x325.getD e802.A.toNat 0))) ∧ (b 7 = true → Y33_7 = (.slice A41 x325.length c42)) ∧ (b 8 = true → Y34_8 = (.pointer (some ⟨b804, 1, none⟩))) ∧ (b 9 = true → Y35_9 = (.int .i64 e802.B)) ∧ (b 10 = true → Y36_10 = (.pointer (some (ea A41 (e802.B.toNat * 1))))) ∧ (b 11 = true → Y37_11 = (.int .i64 (x325.getD e802.B.toNat 0))) ∧ (b 12 = true → Y38_12 = (.slice A41 x325.length c42)) ∧ (b 13 = true → Y39_13 = (.pointer (some ⟨b804, 2, none⟩))) ∧ (b 14 = true → Y40_14 = (.int .i64 e802.C)) ∧ (b 15 = true → Y41_15 = (.pointer (some (ea A41 (e802.C.toNat * 1))))) ∧ (b 16 = true → Y42_16 = (.int .i64 (x325.getD e802.C.toNat 0))) ∧ (b 17 = true → Y43_17 = (.slice A41 x325.length c42)) ∧ (b 18 = true → Y44_18 = (.pointer (some ⟨b804, 3, none⟩))) ∧ (b 19 = true → Y45_19 = (.int .i64 e802.D)) ∧ (b 20 = true → Y46_20 = (.pointer (some (ea A41 (e802.D.toNat * 1))))) ∧ (b 21 = true → Y47_21 = (.int .i64 (x325.getD e802.D.toNat 0))) ∧ (b 22 = true → Y48_22 = (.pointer (some ⟨b804, 4, none⟩))) ∧ (b 23 = true → Y49_23 = (.int .i64 e802.Sign)) ∧ (b 24 = true → Y50_24 = (.agg [.int .i64 (x325.getD e802.A.toNat 0), .int .i64 (x325.getD e802.B.toNat 0), .int .i64 (x325.getD e802.C.toNat 0), .int .i64 (x325.getD e802.D.toNat 0), .int .i64 e802.Sign].toArray)) ∧ (b 25 = true → Y51_25 = (.slice (some ⟨b812, 0, none⟩) 1 1)) ∧ (b 26 = true → Y52_26 = (.slice A815 (x722 ++ [(⟨x325.getD e802.A.toNat 0, x325.getD e802.B.toNat 0, x325.getD e802.C.toNat 0, x325.getD e802.D.toNat 0, e802.Sign⟩ : GCrossing)]).length c816)) ∧ (b 27 = true → Y53_27 = (.pointer (some ⟨b641, 0, none⟩))) ∧ (b 28 = false → O56_279 = Box b641 28 [.slice A720 x722.length c721, .int .i64 t_Circles]) ∧ (b 28 = true → O56_279 = Box b641 28 [.slice A815 (x722 ++ [(⟨x325.getD e802.A.toNat 0, x325.getD e802.B.toNat 0, x325.getD e802.C.toNat 0, x325.getD e802.D.toNat 0, e802.Sign⟩ : GCrossing)]).length c816, .int .i64 t_Circles]) ∧ (b 26 = false → O54_313 = Own T_GCrossing 58 A720 c721 (fun _ => ()) x722) ∧ (b 26 = true → O54_313 = Own T_GCrossing 58 A815 c816 (fun _ => ()) (x722 ++ [(⟨x325.getD e802.A.toNat 0, x325.getD e802.B.toNat 0, x325.getD e802.C.toNat 0, x325.getD e802.D.toNat 0, e802.Sign⟩ : GCrossing)])) ∧ (b 25 = true → O55_353 = Box b812 58 [.int .i64 (x325.getD e802.A.toNat 0), .int .i64 (x325.getD e802.B.toNat 0), .int .i64 (x325.getD e802.C.toNat 0), .int .i64 (x325.getD e802.D.toNat 0), .int .i64 e802.Sign])) ?_ ?_ ?_
            ·
             intro a hs
             obtain ⟨Y26_0, hs⟩ := hs.ext (d := 115) rfl
             obtain ⟨Y27_1, hs⟩ := hs.ext (d := 116) rfl
             obtain ⟨Y28_2, hs⟩ := hs.ext (d := 117) rfl
             obtain ⟨Y29_3, hs⟩ := hs.ext (d := 118) rfl
             obtain ⟨Y30_4, hs⟩ := hs.ext (d := 119) rfl
             obtain ⟨Y31_5, hs⟩ := hs.ext (d := 120) rfl
             obtain ⟨Y32_6, hs⟩ := hs.ext (d := 121) rfl
             obtain ⟨Y33_7, hs⟩ := hs.ext (d := 122) rfl
             obtain ⟨Y34_8, hs⟩ := hs.ext (d := 123) rfl
             obtain ⟨Y35_9, hs⟩ := hs.ext (d := 124) rfl
             obtain ⟨Y36_10, hs⟩ := hs.ext (d := 125) rfl
             obtain ⟨Y37_11, hs⟩ := hs.ext (d := 126) rfl
             obtain ⟨Y38_12, hs⟩ := hs.ext (d := 127) rfl
             obtain ⟨Y39_13, hs⟩ := hs.ext (d := 128) rfl
             obtain ⟨Y40_14, hs⟩ := hs.ext (d := 129) rfl
             obtain ⟨Y41_15, hs⟩ := hs.ext (d := 130) rfl
             obtain ⟨Y42_16, hs⟩ := hs.ext (d := 131) rfl
             obtain ⟨Y43_17, hs⟩ := hs.ext (d := 132) rfl
             obtain ⟨Y44_18, hs⟩ := hs.ext (d := 133) rfl
             obtain ⟨Y45_19, hs⟩ := hs.ext (d := 134) rfl
             obtain ⟨Y46_20, hs⟩ := hs.ext (d := 135) rfl
             obtain ⟨Y47_21, hs⟩ := hs.ext (d := 136) rfl
             obtain ⟨Y48_22, hs⟩ := hs.ext (d := 137) rfl
             obtain ⟨Y49_23, hs⟩ := hs.ext (d := 138) rfl
             obtain ⟨Y50_24, hs⟩ := hs.ext (d := 139) rfl
             obtain ⟨Y51_25, hs⟩ := hs.ext (d := 140) rfl
             obtain ⟨Y52_26, hs⟩ := hs.ext (d := 141) rfl
             obtain ⟨Y53_27, hs⟩ := hs.ext (d := 142) rfl
             exact ⟨Y26_0, Y27_1, Y28_2, Y29_3, Y30_4, Y31_5, Y32_6, Y33_7, Y34_8, Y35_9, Y36_10, Y37_11, Y38_12, Y39_13, Y40_14, Y41_15, Y42_16, Y43_17, Y44_18, Y45_19, Y46_20, Y47_21, Y48_22, Y49_23, Y50_24, Y51_25, Y52_26, Y53_27, 0, none, 0, Box b641 28 [.slice A720 x722.length c721, .int .i64 t_Circles], Own T_GCrossing 58 A720 c721 (fun _ => ()) x722, Emp, hs.weak ⟨rfl, rfl, rfl, rfl, rfl, rfl, rfl, rfl, rfl, rfl, rfl, rfl, rfl, rfl, rfl, rfl, rfl, rfl, rfl, rfl, rfl, rfl, rfl, rfl, rfl, rfl, rfl, rfl, rfl, rfl, rfl, rfl, rfl, rfl, rfl, rfl, rfl, rfl, rfl, trivial⟩, (HS.drew.emp.pick 9 [1, 2, 3, 4, 5, 6, 7, 8, 0]), fun h => Bool.noConfusion h, fun h => Bool.noConfusion h, fun h => Bool.noConfusion h, fun h => Bool.noConfusion h, fun h => Bool.noConfusion h, fun h => Bool.noConfusion h, fun h => Bool.noConfusion h, fun h => Bool.noConfusion h, fun h => Bool.noConfusion h, fun h => Bool.noConfusion h, fun h => Bool.noConfusion h, fun h => Bool.noConfusion h, fun h => Bool.noConfusion h, fun h => Bool.noConfusion h, fun h => Bool.noConfusion h, fun h => Bool.noConfusion h, fun h => Bool.noConfusion h, fun h => Bool.noConfusion h, fun h => Bool.noConfusion h, fun h => Bool.noConfusion h, fun h => Bool.noConfusion h, fun h => Bool.noConfusion h, fun h => Bool.noConfusion h, fun h => Bool.noConfusion h, fun h => Bool.noConfusion h, fun h => Bool.noConfusion h, fun h => Bool.noConfusion h, fun h => Bool.noConfusion h, fun _ => rfl, fun h => Bool.noConfusion h, fun _ => rfl, fun h => Bool.noConfusion h, fun h => Bool.noConfusion h⟩
            ·
             intro j hj b a w
             refine exI fun Y26_0 => exI fun Y27_1 => exI fun Y28_2 => exI fun Y29_3 => exI fun Y30_4 => exI fun Y31_5 => exI fun Y32_6 => exI fun Y33_7 => exI fun Y34_8 => exI fun Y35_9 => exI fun Y36_10 => exI fun Y37_11 => exI fun Y38_12 => exI fun Y39_13 => exI fun Y40_14 => exI fun Y41_15 => exI fun Y42_16 => exI fun Y43_17 => exI fun Y44_18 => exI fun Y45_19 => exI fun Y46_20 => exI fun Y47_21 => exI fun Y48_22 => exI fun Y49_23 => exI fun Y50_24 => exI fun Y51_25 => exI fun Y52_26 => exI fun Y53_27 => exI fun b812 => exI fun A815 => exI fun c816 => exI fun O56_279 => exI fun O54_313 => exI fun O55_353 => anI fun hs => anI fun HS => anI fun f0 => anI fun f1 => anI fun f2 => anI fun f3 => anI fun f4 => anI fun f5 => anI fun f6 => anI fun f7 => anI fun f8 => anI fun f9 => anI fun f10 => anI fun f11 => anI fun f12 => anI fun f13 => anI fun f14 => anI fun f15 => anI fun f16 => anI fun f17 => anI fun f18 => anI fun f19 => anI fun f20 => anI fun f21 => anI fun f22 => anI fun f23 => anI fun f24 => anI fun f25 => anI fun f26 => anI fun f27 => anI fun o279_0 => anI fun o279_1 => anI fun o313_0 => anI fun o313_1 => fun o353_0 hb hd hcl => ?_
             match j, hj with
             | 0, _ =>
              refine GO.at hs ?_
              refine GO.fld (⟨b641, 0, none⟩) rfl rfl fl28_0 rfl rfl ?_
              refine GO.fin (fun a hs => ?_)
              exact ⟨(.pointer (some ⟨b641, 0, none⟩)), _, _, _, _, _, _, _, _, _, _, _, _, _, _, _, _, _, _, _, _, _, _, _, _, _, _, _, b812, A815, c816, _, _, _, by exact hs.setAt 0 rfl, HS, fun _ => rfl, f1, f2, f3, f4, f5, f6, f7, f8, f9, f10, f11, f12, f13, f14, f15, f16, f17, f18, f19, f20, f21, f22, f23, f24, f25, f26, f27, o279_0, o279_1, o313_0, o313_1, o353_0⟩
             | 1, _ =>
              have hb0 : b 0 = true := hd 0 (by decide)
              obtain rfl := f0 hb0
              have d28 : b 28 = false := bfalse (fun hh => hcl 28 (by decide) (hh) 1 (by decide)) hb
              obtain rfl := o279_0 d28
              refine GO.at hs ?_
              refine GO.ldBox (j := 5) HS rfl rfl rfl rfl na26 rfl ?_
              refine GO.fin (fun a hs => ?_)
              exact ⟨_, (.slice A720 x722.length c721), _, _, _, _, _, _, _, _, _, _, _, _, _, _, _, _, _, _, _, _, _, _, _, _, _, _, b812, A815, c816, _, _, _, by exact hs.setAt 1 rfl, HS, f0, fun _ => rfl, f2, f3, f4, f5, f6, f7, f8, f9, f10, f11, f12, f13, f14, f15, f16, f17, f18, f19, f20, f21, f22, f23, f24, f25, f26, f27, o279_0, o279_1, o313_0, o313_1, o353_0⟩
             | 2, _ =>
              refine GO.at hs ?_
              refine GO.move rfl rfl rfl ?_
              refine GO.fin (fun a hs => ?_)
              exact ⟨_, _, (.slice A41 x325.length c42), _, _, _, _, _, _, _, _, _, _, _, _, _, _, _, _, _, _, _, _, _, _, _, _, _, b812, A815, c816, _, _, _, by exact hs.setAt 2 rfl, HS, f0, f1, fun _ => rfl, f3, f4, f5, f6, f7, f8, f9, f10, f11, f12, f13, f14, f15, f16, f17, f18, f19, f20, f21, f22, f23, f24, f25, f26, f27, o279_0, o279_1, o313_0, o313_1, o353_0⟩
             | 3, _ =>
              refine GO.at hs ?_
              refine GO.fld (⟨b804, 0, none⟩) rfl rfl fl58_0 rfl rfl ?_
              refine GO.fin (fun a hs => ?_)
              exact ⟨_, _, _, (.pointer (some ⟨b804, 0, none⟩)), _, _, _, _, _, _, _, _, _, _, _, _, _, _, _, _, _, _, _, _, _, _, _, _, b812, A815, c816, _, _, _, by exact hs.setAt 3 rfl, HS, f0, f1, f2, fun _ => rfl, f4, f5, f6, f7, f8, f9, f10, f11, f12, f13, f14, f15, f16, f17, f18, f19, f20, f21, f22, f23, f24, f25, f26, f27, o279_0, o279_1, o313_0, o313_1, o353_0⟩
             | 4, _ =>
              have hb3 : b 3 = true := hd 3 (by decide)
              obtain rfl := f3 hb3
              refine GO.at hs ?_
              refine GO.ldBox (j := 0) HS rfl rfl rfl rfl na2 rfl ?_
              refine GO.fin (fun a hs => ?_)
              exact ⟨_, _, _, _, (.int .i64 e802.A), _, _, _, _, _, _, _, _, _, _, _, _, _, _, _, _, _, _, _, _, _, _, _, b812, A815, c816, _, _, _, by exact hs.setAt 4 rfl, HS, f0, f1, f2, f3, fun _ => rfl, f5, f6, f7, f8, f9, f10, f11, f12, f13, f14, f15, f16, f17, f18, f19, f20, f21, f22, f23, f24, f25, f26, f27, o279_0, o279_1, o313_0, o313_1, o353_0⟩
             | 5, _ =>
              have hb2 : b 2 = true := hd 2 (by decide)
              obtain rfl := f2 hb2
              have hb4 : b 4 = true := hd 4 (by decide)
              obtain rfl := f4 hb4
              refine GO.at hs ?_
              refine GO.ix rfl rfl rfl Try.underlying43 sz2 ((RdIn.own (j := 4) rfl) _ HS).2.2.1 c808.1 c808.2 rfl ?_
              refine GO.fin (fun a hs => ?_)
              exact ⟨_, _, _, _, _, (.pointer (some (ea A41 (e802.A.toNat * 1)))), _, _, _, _, _, _, _, _, _, _, _, _, _, _, _, _, _, _, _, _, _, _, b812, A815, c816, _, _, _, by exact hs.setAt 5 rfl, HS, f0, f1, f2, f3, f4, fun _ => rfl, f6, f7, f8, f9, f10, f11, f12, f13, f14, f15, f16, f17, f18, f19, f20, f21, f22, f23, f24, f25, f26, f27, o279_0, o279_1, o313_0, o313_1, o353_0⟩
             | 6, _ =>
              have hb5 : b 5 = true := hd 5 (by decide)
              obtain rfl := f5 hb5
              refine GO.at hs ?_
              refine GO.ldRd (T := (TInt .i64)) (n := e802.A.toNat) (o := 0) HS (RdIn.own (j := 4) rfl) rfl rfl (getD_some (d := 0) (ltN c808)) rfl rfl na2 rfl ?_
              refine GO.fin (fun a hs => ?_)
              exact ⟨_, _, _, _, _, _, (.int .i64 (x325.getD e802.A.toNat 0)), _, _, _, _, _, _, _, _, _, _, _, _, _, _, _, _, _, _, _, _, _, b812, A815, c816, _, _, _, by exact hs.setAt 6 rfl, HS, f0, f1, f2, f3, f4, f5, fun _ => rfl, f7, f8, f9, f10, f11, f12, f13, f14, f15, f16, f17, f18, f19, f20, f21, f22, f23, f24, f25, f26, f27, o279_0, o279_1, o313_0, o313_1, o353_0⟩
             | 7, _ =>
              refine GO.at hs ?_
              refine GO.move rfl rfl rfl ?_
              refine GO.fin (fun a hs => ?_)
              exact ⟨_, _, _, _, _, _, _, (.slice A41 x325.length c42), _, _, _, _, _, _, _, _, _, _, _, _, _, _, _, _, _, _, _, _, b812, A815, c816, _, _, _, by exact hs.setAt 7 rfl, HS, f0, f1, f2, f3, f4, f5, f6, fun _ => rfl, f8, f9, f10, f11, f12, f13, f14, f15, f16, f17, f18, f19, f20, f21, f22, f23, f24, f25, f26, f27, o279_0, o279_1, o313_0, o313_1, o353_0⟩
             | 8, _ =>
              refine GO.at hs ?_
              refine GO.fld (⟨b804, 1, none⟩) rfl rfl fl58_1 rfl rfl ?_
              refine GO.fin (fun a hs => ?_)
              exact ⟨_, _, _, _, _, _, _, _, (.pointer (some ⟨b804, 1, none⟩)), _, _, _, _, _, _, _, _, _, _, _, _, _, _, _, _, _, _, _, b812, A815, c816, _, _, _, by exact hs.setAt 8 rfl, HS, f0, f1, f2, f3, f4, f5, f6, f7, fun _ => rfl, f9, f10, f11, f12, f13, f14, f15, f16, f17, f18, f19, f20, f21, f22, f23, f24, f25, f26, f27, o279_0, o279_1, o313_0, o313_1, o353_0⟩
             | 9, _ =>
              have hb8 : b 8 = true := hd 8 (by decide)
              obtain rfl := f8 hb8
              refine GO.at hs ?_
              refine GO.ldBox (j := 0) HS rfl rfl rfl rfl na2 rfl ?_
              refine GO.fin (fun a hs => ?_)
              exact ⟨_, _, _, _, _, _, _, _, _, (.int .i64 e802.B), _, _, _, _, _, _, _, _, _, _, _, _, _, _, _, _, _, _, b812, A815, c816, _, _, _, by exact hs.setAt 9 rfl, HS, f0, f1, f2, f3, f4, f5, f6, f7, f8, fun _ => rfl, f10, f11, f12, f13, f14, f15, f16, f17, f18, f19, f20, f21, f22, f23, f24, f25, f26, f27, o279_0, o279_1, o313_0, o313_1, o353_0⟩
             | 10, _ =>
              have hb7 : b 7 = true := hd 7 (by decide)
              obtain rfl := f7 hb7
              have hb9 : b 9 = true := hd 9 (by decide)
              obtain rfl := f9 hb9
              refine GO.at hs ?_
              refine GO.ix rfl rfl rfl Try.underlying43 sz2 ((RdIn.own (j := 4) rfl) _ HS).2.2.1 c809.1 c809.2 rfl ?_
              refine GO.fin (fun a hs => ?_)
              exact ⟨_, _, _, _, _, _, _, _, _, _, (.pointer (some (ea A41 (e802.B.toNat * 1)))), _, _, _, _, _, _, _, _, _, _, _, _, _, _, _, _, _, b812, A815, c816, _, _, _, by exact hs.setAt 10 rfl, HS, f0, f1, f2, f3, f4, f5, f6, f7, f8, f9, fun _ => rfl, f11, f12, f13, f14, f15, f16, f17, f18, f19, f20, f21, f22, f23, f24, f25, f26, f27, o279_0, o279_1, o313_0, o313_1, o353_0⟩
             | 11, _ =>
              have hb10 : b 10 = true := hd 10 (by decide)
              obtain rfl := f10 hb10
              refine GO.at hs ?_
              refine GO.ldRd (T := (TInt .i64)) (n := e802.B.toNat) (o := 0) HS (RdIn.own (j := 4) rfl) rfl rfl (getD_some (d := 0) (ltN c809)) rfl rfl na2 rfl ?_
              refine GO.fin (fun a hs => ?_)
              exact ⟨_, _, _, _, _, _, _, _, _, _, _, (.int .i64 (x325.getD e802.B.toNat 0)), _, _, _, _, _, _, _, _, _, _, _, _, _, _, _, _, b812, A815, c816, _, _, _, by exact hs.setAt 11 rfl, HS, f0, f1, f2, f3, f4, f5, f6, f7, f8, f9, f10, fun _ => rfl, f12, f13, f14, f15, f16, f17, f18, f19, f20, f21, f22, f23, f24, f25, f26, f27, o279_0, o279_1, o313_0, o313_1, o353_0⟩
             | 12, _ =>
              refine GO.at hs ?_
              refine GO.move rfl rfl rfl ?_
              refine GO.fin (fun a hs => ?_)
              exact ⟨_, _, _, _, _, _, _, _, _, _, _, _, (.slice A41 x325.length c42), _, _, _, _, _, _, _, _, _, _, _, _, _, _, _, b812, A815, c816, _, _, _, by exact hs.setAt 12 rfl, HS, f0, f1, f2, f3, f4, f5, f6, f7, f8, f9, f10, f11, fun _ => rfl, f13, f14, f15, f16, f17, f18, f19, f20, f21, f22, f23, f24, f25, f26, f27, o279_0, o279_1, o313_0, o313_1, o353_0⟩
             | 13, _ =>
              refine GO.at hs ?_
              refine GO.fld (⟨b804, 2, none⟩) rfl rfl fl58_2 rfl rfl ?_
              refine GO.fin (fun a hs => ?_)
              exact ⟨_, _, _, _, _, _, _, _, _, _, _, _, _, (.pointer (some ⟨b804, 2, none⟩)), _, _, _, _, _, _, _, _, _, _, _, _, _, _, b812, A815, c816, _, _, _, by exact hs.setAt 13 rfl, HS, f0, f1, f2, f3, f4, f5, f6, f7, f8, f9, f10, f11, f12, fun _ => rfl, f14, f15, f16, f17, f18, f19, f20, f21, f22, f23, f24, f25, f26, f27, o279_0, o279_1, o313_0, o313_1, o353_0⟩
             | 14, _ =>
              have hb13 : b 13 = true := hd 13 (by decide)
              obtain rfl := f13 hb13
              refine GO.at hs ?_
              refine GO.ldBox (j := 0) HS rfl rfl rfl rfl na2 rfl ?_
              refine GO.fin (fun a hs => ?_)
              exact ⟨_, _, _, _, _, _, _, _, _, _, _, _, _, _, (.int .i64 e802.C), _, _, _, _, _, _, _, _, _, _, _, _, _, b812, A815, c816, _, _, _, by exact hs.setAt 14 rfl, HS, f0, f1, f2, f3, f4, f5, f6, f7, f8, f9, f10, f11, f12, f13, fun _ => rfl, f15, f16, f17, f18, f19, f20, f21, f22, f23, f24, f25, f26, f27, o279_0, o279_1, o313_0, o313_1, o353_0⟩
             | 15, _ =>
              have hb12 : b 12 = true := hd 12 (by decide)
              obtain rfl := f12 hb12
              have hb14 : b 14 = true := hd 14 (by decide)
              obtain rfl := f14 hb14
              refine GO.at hs ?_
              refine GO.ix rfl rfl rfl Try.underlying43 sz2 ((RdIn.own (j := 4) rfl) _ HS).2.2.1 c810.1 c810.2 rfl ?_
              refine GO.fin (fun a hs => ?_)
              exact ⟨_, _, _, _, _, _, _, _, _, _, _, _, _, _, _, (.pointer (some (ea A41 (e802.C.toNat * 1)))), _, _, _, _, _, _, _, _, _, _, _, _, b812, A815, c816, _, _, _, by exact hs.setAt 15 rfl, HS, f0, f1, f2, f3, f4, f5, f6, f7, f8, f9, f10, f11, f12, f13, f14, fun _ => rfl, f16, f17, f18, f19, f20, f21, f22, f23, f24, f25, f26, f27, o279_0, o279_1, o313_0, o313_1, o353_0⟩
             | 16, _ =>
              have hb15 : b 15 = true := hd 15 (by decide)
              obtain rfl := f15 hb15
              refine GO.at hs ?_
              refine GO.ldRd (T := (TInt .i64)) (n := e802.C.toNat) (o := 0) HS (RdIn.own (j := 4) rfl) rfl rfl (getD_some (d := 0) (ltN c810)) rfl rfl na2 rfl ?_
              refine GO.fin (fun a hs => ?_)
              exact ⟨_, _, _, _, _, _, _, _, _, _, _, _, _, _, _, _, (.int .i64 (x325.getD e802.C.toNat 0)), _, _, _, _, _, _, _, _, _, _, _, b812, A815, c816, _, _, _, by exact hs.setAt 16 rfl, HS, f0, f1, f2, f3, f4, f5, f6, f7, f8, f9, f10, f11, f12, f13, f14, f15, fun _ => rfl, f17, f18, f19, f20, f21, f22, f23, f24, f25, f26, f27, o279_0, o279_1, o313_0, o313_1, o353_0⟩
             | 17, _ =>
              refine GO.at hs ?_
              refine GO.move rfl rfl rfl ?_
              refine GO.fin (fun a hs => ?_)
              exact ⟨_, _, _, _, _, _, _, _, _, _, _, _, _, _, _, _, _, (.slice A41 x325.length c42), _, _, _, _, _, _, _, _, _, _, b812, A815, c816, _, _, _, by exact hs.setAt 17 rfl, HS, f0, f1, f2, f3, f4, f5, f6, f7, f8, f9, f10, f11, f12, f13, f14, f15, f16, fun _ => rfl, f18, f19, f20, f21, f22, f23, f24, f25, f26, f27, o279_0, o279_1, o313_0, o313_1, o353_0⟩
             | 18, _ =>
              refine GO.at hs ?_
              refine GO.fld (⟨b804, 3, none⟩) rfl rfl fl58_3 rfl rfl ?_
              refine GO.fin (fun a hs => ?_)
              exact ⟨_, _, _, _, _, _, _, _, _, _, _, _, _, _, _, _, _, _, (.pointer (some ⟨b804, 3, none⟩)), _, _, _, _, _, _, _, _, _, b812, A815, c816, _, _, _, by exact hs.setAt 18 rfl, HS, f0, f1, f2, f3, f4, f5, f6, f7, f8, f9, f10, f11, f12, f13, f14, f15, f16, f17, fun _ => rfl, f19, f20, f21, f22, f23, f24, f25, f26, f27, o279_0, o279_1, o313_0, o313_1, o353_0⟩
             | 19, _ =>
              have hb18 : b 18 = true := hd 18 (by decide)
              obtain rfl := f18 hb18
              refine GO.at hs ?_
              refine GO.ldBox (j := 0) HS rfl rfl rfl rfl na2 rfl ?_
              refine GO.fin (fun a hs => ?_)
              exact ⟨_, _, _, _, _, _, _, _, _, _, _, _, _, _, _, _, _, _, _, (.int .i64 e802.D), _, _, _, _, _, _, _, _, b812, A815, c816, _, _, _, by exact hs.setAt 19 rfl, HS, f0, f1, f2, f3, f4, f5, f6, f7, f8, f9, f10, f11, f12, f13, f14, f15, f16, f17, f18, fun _ => rfl, f20, f21, f22, f23, f24, f25, f26, f27, o279_0, o279_1, o313_0, o313_1, o353_0⟩
             | 20, _ =>
              have hb17 : b 17 = true := hd 17 (by decide)
              obtain rfl := f17 hb17
              have hb19 : b 19 = true := hd 19 (by decide)
              obtain rfl := f19 hb19
              refine GO.at hs ?_
              refine GO.ix rfl rfl rfl Try.underlying43 sz2 ((RdIn.own (j := 4) rfl) _ HS).2.2.1 c811.1 c811.2 rfl ?_
              refine GO.fin (fun a hs => ?_)
              exact ⟨_, _, _, _, _, _, _, _, _, _, _, _, _, _, _, _, _, _, _, _, (.pointer (some (ea A41 (e802.D.toNat * 1)))), _, _, _, _, _, _, _, b812, A815, c816, _, _, _, by exact hs.setAt 20 rfl, HS, f0, f1, f2, f3, f4, f5, f6, f7, f8, f9, f10, f11, f12, f13, f14, f15, f16, f17, f18, f19, fun _ => rfl, f21, f22, f23, f24, f25, f26, f27, o279_0, o279_1, o313_0, o313_1, o353_0⟩
             | 21, _ =>
              have hb20 : b 20 = true := hd 20 (by decide)
              obtain rfl := f20 hb20
              refine GO.at hs ?_
              refine GO.ldRd (T := (TInt .i64)) (n := e802.D.toNat) (o := 0) HS (RdIn.own (j := 4) rfl) rfl rfl (getD_some (d := 0) (ltN c811)) rfl rfl na2 rfl ?_
              refine GO.fin (fun a hs => ?_)
              exact ⟨_, _, _, _, _, _, _, _, _, _, _, _, _, _, _, _, _, _, _, _, _, (.int .i64 (x325.getD e802.D.toNat 0)), _, _, _, _, _, _, b812, A815, c816, _, _, _, by exact hs.setAt 21 rfl, HS, f0, f1, f2, f3, f4, f5, f6, f7, f8, f9, f10, f11, f12, f13, f14, f15, f16, f17, f18, f19, f20, fun _ => rfl, f22, f23, f24, f25, f26, f27, o279_0, o279_1, o313_0, o313_1, o353_0⟩
             | 22, _ =>
              refine GO.at hs ?_
              refine GO.fld (⟨b804, 4, none⟩) rfl rfl fl58_4 rfl rfl ?_
              refine GO.fin (fun a hs => ?_)
              exact ⟨_, _, _, _, _, _, _, _, _, _, _, _, _, _, _, _, _, _, _, _, _, _, (.pointer (some ⟨b804, 4, none⟩)), _, _, _, _, _, b812, A815, c816, _, _, _, by exact hs.setAt 22 rfl, HS, f0, f1, f2, f3, f4, f5, f6, f7, f8, f9, f10, f11, f12, f13, f14, f15, f16, f17, f18, f19, f20, f21, fun _ => rfl, f23, f24, f25, f26, f27, o279_0, o279_1, o313_0, o313_1, o353_0⟩
             | 23, _ =>
              have hb22 : b 22 = true := hd 22 (by decide)
              obtain rfl := f22 hb22
              refine GO.at hs ?_
              refine GO.ldBox (j := 0) HS rfl rfl rfl rfl na2 rfl ?_
              refine GO.fin (fun a hs => ?_)
              exact ⟨_, _, _, _, _, _, _, _, _, _, _, _, _, _, _, _, _, _, _, _, _, _, _, (.int .i64 e802.Sign), _, _, _, _, b812, A815, c816, _, _, _, by exact hs.setAt 23 rfl, HS, f0, f1, f2, f3, f4, f5, f6, f7, f8, f9, f10, f11, f12, f13, f14, f15, f16, f17, f18, f19, f20, f21, f22, fun _ => rfl, f24, f25, f26, f27, o279_0, o279_1, o313_0, o313_1, o353_0⟩
             | 24, _ =>
              have hb6 : b 6 = true := hd 6 (by decide)
              obtain rfl := f6 hb6
              have hb11 : b 11 = true := hd 11 (by decide)
              obtain rfl := f11 hb11
              have hb16 : b 16 = true := hd 16 (by decide)
              obtain rfl := f16 hb16
              have hb21 : b 21 = true := hd 21 (by decide)
              obtain rfl := f21 hb21
              have hb23 : b 23 = true := hd 23 (by decide)
              obtain rfl := f23 hb23
              refine GO.at hs ?_
              refine GO.buildV (.agg [.int .i64 (x325.getD e802.A.toNat 0), .int .i64 (x325.getD e802.B.toNat 0), .int .i64 (x325.getD e802.C.toNat 0), .int .i64 (x325.getD e802.D.toNat 0), .int .i64 e802.Sign].toArray) rfl rfl (fun _ => by kernel_rfl) rfl ?_
              refine GO.fin (fun a hs => ?_)
              exact ⟨_, _, _, _, _, _, _, _, _, _, _, _, _, _, _, _, _, _, _, _, _, _, _, _, (.agg [.int .i64 (x325.getD e802.A.toNat 0), .int .i64 (x325.getD e802.B.toNat 0), .int .i64 (x325.getD e802.C.toNat 0), .int .i64 (x325.getD e802.D.toNat 0), .int .i64 e802.Sign].toArray), _, _, _, b812, A815, c816, _, _, _, by exact hs.setAt 24 rfl, HS, f0, f1, f2, f3, f4, f5, f6, f7, f8, f9, f10, f11, f12, f13, f14, f15, f16, f17, f18, f19, f20, f21, f22, f23, fun _ => rfl, f25, f26, f27, o279_0, o279_1, o313_0, o313_1, o353_0⟩
             | 25, _ =>
              have hb24 : b 24 = true := hd 24 (by decide)
              obtain rfl := f24 hb24
              refine GO.at hs ?_
              refine GO.buildS (el := 58) ([.int .i64 (x325.getD e802.A.toNat 0), .int .i64 (x325.getD e802.B.toNat 0), .int .i64 (x325.getD e802.C.toNat 0), .int .i64 (x325.getD e802.D.toNat 0), .int .i64 e802.Sign]) HS rfl rfl (fun _ => by kernel_rfl) rfl ?_; intro b812 wd813 HS
              refine GO.fin (fun a hs => ?_)
              exact ⟨_, _, _, _, _, _, _, _, _, _, _, _, _, _, _, _, _, _, _, _, _, _, _, _, _, (.slice (some ⟨b812, 0, none⟩) 1 1), _, _, b812, A815, c816, _, _, Box b812 58 [.int .i64 (x325.getD e802.A.toNat 0), .int .i64 (x325.getD e802.B.toNat 0), .int .i64 (x325.getD e802.C.toNat 0), .int .i64 (x325.getD e802.D.toNat 0), .int .i64 e802.Sign], by exact hs.setAt 25 rfl, HS.pick 10 [1, 2, 3, 4, 5, 6, 7, 8, 0], f0, f1, f2, f3, f4, f5, f6, f7, f8, f9, f10, f11, f12, f13, f14, f15, f16, f17, f18, f19, f20, f21, f22, f23, f24, fun _ => rfl, f26, f27, o279_0, o279_1, o313_0, o313_1, fun _ => rfl⟩
             | 26, _ =>
              have hb1 : b 1 = true := hd 1 (by decide)
              obtain rfl := f1 hb1
              have hb25 : b 25 = true := hd 25 (by decide)
              obtain rfl := f25 hb25
              obtain rfl := o353_0 hb25
              obtain rfl := o313_0 hb
              refine GO.at hs ?_
              refine GO.app1 (T := T_GCrossing) (j := 6) (jb := 8) (⟨x325.getD e802.A.toNat 0, x325.getD e802.B.toNat 0, x325.getD e802.C.toNat 0, x325.getD e802.D.toNat 0, e802.Sign⟩ : GCrossing) HS rfl rfl flat_flat rfl rfl rfl Try.underlying26 inf58 rfl rfl rfl c817 rfl ?_; intro A815 c816 wd814 HS
              refine GO.fin (fun a hs => ?_)
              exact ⟨_, _, _, _, _, _, _, _, _, _, _, _, _, _, _, _, _, _, _, _, _, _, _, _, _, _, (.slice A815 (x722 ++ [(⟨x325.getD e802.A.toNat 0, x325.getD e802.B.toNat 0, x325.getD e802.C.toNat 0, x325.getD e802.D.toNat 0, e802.Sign⟩ : GCrossing)]).length c816), _, b812, A815, c816, _, Own T_GCrossing 58 A815 c816 (fun _ => ()) (x722 ++ [(⟨x325.getD e802.A.toNat 0, x325.getD e802.B.toNat 0, x325.getD e802.C.toNat 0, x325.getD e802.D.toNat 0, e802.Sign⟩ : GCrossing)]), _, by exact hs.setAt 26 rfl, HS, f0, f1, f2, f3, f4, f5, f6, f7, f8, f9, f10, f11, f12, f13, f14, f15, f16, f17, f18, f19, f20, f21, f22, f23, f24, f25, fun _ => rfl, f27, o279_0, fun hh => (Bool.noConfusion ((hcl 28 (by decide) hh 26 (by decide)).symm.trans hb)), fun h => Bool.noConfusion h, fun _ => rfl, o353_0⟩
             | 27, _ =>
              refine GO.at hs ?_
              refine GO.fld (⟨b641, 0, none⟩) rfl rfl fl28_0 rfl rfl ?_
              refine GO.fin (fun a hs => ?_)
              exact ⟨_, _, _, _, _, _, _, _, _, _, _, _, _, _, _, _, _, _, _, _, _, _, _, _, _, _, _, (.pointer (some ⟨b641, 0, none⟩)), b812, A815, c816, _, _, _, by exact hs.setAt 27 rfl, HS, f0, f1, f2, f3, f4, f5, f6, f7, f8, f9, f10, f11, f12, f13, f14, f15, f16, f17, f18, f19, f20, f21, f22, f23, f24, f25, f26, fun _ => rfl, o279_0, o279_1, o313_0, o313_1, o353_0⟩
             | 28, _ =>
              have hb26 : b 26 = true := hd 26 (by decide)
              obtain rfl := f26 hb26
              have hb27 : b 27 = true := hd 27 (by decide)
              obtain rfl := f27 hb27
              obtain rfl := o279_0 hb
              refine GO.at hs ?_
              refine GO.stBox (j := 5) (vs := [.slice A815 (x722 ++ [(⟨x325.getD e802.A.toNat 0, x325.getD e802.B.toNat 0, x325.getD e802.C.toNat 0, x325.getD e802.D.toNat 0, e802.Sign⟩ : GCrossing)]).length c816]) ([.slice A815 (x722 ++ [(⟨x325.getD e802.A.toNat 0, x325.getD e802.B.toNat 0, x325.getD e802.C.toNat 0, x325.getD e802.D.toNat 0, e802.Sign⟩ : GCrossing)]).length c816, .int .i64 t_Circles]) HS rfl rfl rfl rfl rfl (htN na26 rfl) rfl rfl rfl ?_; intro wd818 HS
              refine GO.fin (fun a hs => ?_)
              exact ⟨_, _, _, _, _, _, _, _, _, _, _, _, _, _, _, _, _, _, _, _, _, _, _, _, _, _, _, _, b812, A815, c816, Box b641 28 [.slice A815 (x722 ++ [(⟨x325.getD e802.A.toNat 0, x325.getD e802.B.toNat 0, x325.getD e802.C.toNat 0, x325.getD e802.D.toNat 0, e802.Sign⟩ : GCrossing)]).length c816, .int .i64 t_Circles], _, _, hs, HS, f0, f1, f2, f3, f4, f5, f6, f7, f8, f9, f10, f11, f12, f13, f14, f15, f16, f17, f18, f19, f20, f21, f22, f23, f24, f25, f26, f27, fun h => Bool.noConfusion h, fun _ => rfl, o313_0, o313_1, o353_0⟩
             | k + 29, hj => exact absurd hj (Nat.not_lt.2 (Nat.le_add_left 29 k))
            ·
             intro b a w hall
             refine exI fun Y26_0 => exI fun Y27_1 => exI fun Y28_2 => exI fun Y29_3 => exI fun Y30_4 => exI fun Y31_5 => exI fun Y32_6 => exI fun Y33_7 => exI fun Y34_8 => exI fun Y35_9 => exI fun Y36_10 => exI fun Y37_11 => exI fun Y38_12 => exI fun Y39_13 => exI fun Y40_14 => exI fun Y41_15 => exI fun Y42_16 => exI fun Y43_17 => exI fun Y44_18 => exI fun Y45_19 => exI fun Y46_20 => exI fun Y47_21 => exI fun Y48_22 => exI fun Y49_23 => exI fun Y50_24 => exI fun Y51_25 => exI fun Y52_26 => exI fun Y53_27 => exI fun b812 => exI fun A815 => exI fun c816 => exI fun O56_279 => exI fun O54_313 => exI fun O55_353 => anI fun hs => anI fun HS => anI fun f0 => anI fun f1 => anI fun f2 => anI fun f3 => anI fun f4 => anI fun f5 => anI fun f6 => anI fun f7 => anI fun f8 => anI fun f9 => anI fun f10 => anI fun f11 => anI fun f12 => anI fun f13 => anI fun f14 => anI fun f15 => anI fun f16 => anI fun f17 => anI fun f18 => anI fun f19 => anI fun f20 => anI fun f21 => anI fun f22 => anI fun f23 => anI fun f24 => anI fun f25 => anI fun f26 => anI fun f27 => anI fun o279_0 => anI fun o279_1 => anI fun o313_0 => anI fun o313_1 => fun o353_0 => ?_
             obtain rfl := f0 (hall 0 (by decide))
             obtain rfl := f1 (hall 1 (by decide))
             obtain rfl := f2 (hall 2 (by decide))
             obtain rfl := f3 (hall 3 (by decide))
             obtain rfl := f4 (hall 4 (by decide))
             obtain rfl := f5 (hall 5 (by decide))
             obtain rfl := f6 (hall 6 (by decide))
             obtain rfl := f7 (hall 7 (by decide))
             obtain rfl := f8 (hall 8 (by decide))
             obtain rfl := f9 (hall 9 (by decide))
             obtain rfl := f10 (hall 10 (by decide))
             obtain rfl := f11 (hall 11 (by decide))
             obtain rfl := f12 (hall 12 (by decide))
             obtain rfl := f13 (hall 13 (by decide))
             obtain rfl := f14 (hall 14 (by decide))
             obtain rfl := f15 (hall 15 (by decide))
             obtain rfl := f16 (hall 16 (by decide))
             obtain rfl := f17 (hall 17 (by decide))
             obtain rfl := f18 (hall 18 (by decide))
             obtain rfl := f19 (hall 19 (by decide))
             obtain rfl := f20 (hall 20 (by decide))
             obtain rfl := f21 (hall 21 (by decide))
             obtain rfl := f22 (hall 22 (by decide))
             obtain rfl := f23 (hall 23 (by decide))
             obtain rfl := f24 (hall 24 (by decide))
             obtain rfl := f25 (hall 25 (by decide))
             obtain rfl := f26 (hall 26 (by decide))
             obtain rfl := f27 (hall 27 (by decide))
             obtain rfl := o279_1 (hall 28 (by decide))
             obtain rfl := o313_1 (hall 26 (by decide))
             obtain rfl := o353_0 (hall 25 (by decide))
             refine G.at hs ?_
             refine G.blockEnd ?_
             refine G.region ?_
             refine GO.add rfl rfl rfl rfl ?_
             refine GO.move rfl rfl rfl ?_
             refine GO.nil ?_
             refine G.again ?_
             refine G.weak ?_ (ih_l49 n_l49 (Nat.lt_succ_of_le (Nat.le_refl _)) (Nat.le_of_succ_le hm_l49) _ _ _ _ _ H (HS.pick 9 [1, 2, 3, 4, 5, 6, 7]))
             exact ⟨rfl, rfl, rfl, rfl, rfl, rfl, rfl, rfl, rfl, rfl, trivial⟩
          ·
           refine G.noB rfl (decide_eq_false c800) ?_
           refine G.exit rfl ?_
           refine G.seq ?_
           refine G.seq ?_
           refine G.regionAny mixed (by decide) (fun b a w => ∃ (Y57_0 : Value) (Y58_1 : Value) (Y59_2 : Value) (Y60_3 : Value) (Y61_4 : Value) (Y62_5 : Value) (Y63_6 : Value) (Y64_7 : Value) (b819 : Nat) (O65_354 : HObj), Sat 178 [(144, Y57_0), (145, Y58_1), (146, Y59_2), (147, Y60_3), (148, Y61_4), (149, Y62_5), (150, Y63_6), (151, Y64_7), (6, .pointer (some ⟨b5, 0, none⟩)), (7, .pointer (some ⟨b17, 0, none⟩)), (8, .int .i64 (w64 (2 + e8.Sign))), (9, .map (some b20)), (16, .pointer (some ⟨b641, 0, none⟩))] a ∧ St w0 w (Box b5 28 [.slice none 0 0, .int .i64 0] :: Box b17 93 [.int .i64 t10, .int .i64 t11, .int .i64 t12, .int .i64 t13] :: MapJ b20 .i64 .i64 x323 :: Own (TInt .i64) 2 A41 c42 (fun _ => ()) x325 :: Box b641 28 [.slice A720 x722.length c721, .int .i64 t_Circles] :: Own T_GCrossing 58 A720 c721 (fun _ => ()) x722 :: Own T_GCrossing 58 A30 c31 (fun _ => ()) x324 :: O65_354 :: L) ∧ (b 0 = true → Y57_0 = (.pointer (some ⟨b17, 0, none⟩))) ∧ (b 1 = true → Y58_1 = (.int .i64 t10)) ∧ (b 2 = true → Y59_2 = (.int .i64 (w64 (2 + e8.Sign)))) ∧ (b 3 = true → Y60_3 = (.pointer (some ⟨b17, (w64 (2 + e8.Sign)).toNat, none⟩))) ∧ (b 4 = true → Y61_4 = (.int .i64 (([t10, t11, t12, t13] : List Int).getD (w64 (2 + e8.Sign)).toNat 0))) ∧ (b 5 = true → Y62_5 = (.slice (some ⟨b819, 0, none⟩) 2 2)) ∧ (b 6 = true → Y63_6 = (.int .i64 2)) ∧ (b 7 = true → Y64_7 = (.int .i64 0)) ∧ (b 5 = true → O65_354 = Box b819 2 [.int .i64 t10, .int .i64 (([t10, t11, t12, t13] : List Int).getD (w64 (2 + e8.Sign)).toNat 0)])) ?_ ?_ ?_
           ·
            intro a hs
            obtain ⟨Y57_0, hs⟩ := hs.ext (d := 144) rfl
            obtain ⟨Y58_1, hs⟩ := hs.ext (d := 145) rfl
            obtain ⟨Y59_2, hs⟩ := hs.ext (d := 146) rfl
            obtain ⟨Y60_3, hs⟩ := hs.ext (d := 147) rfl
            obtain ⟨Y61_4, hs⟩ := hs.ext (d := 148) rfl
            obtain ⟨Y62_5, hs⟩ := hs.ext (d := 149) rfl
            obtain ⟨Y63_6, hs⟩ := hs.ext (d := 150) rfl
            obtain ⟨Y64_7, hs⟩ := hs.ext (d := 151) rfl
            exact ⟨Y57_0, Y58_1, Y59_2, Y60_3, Y61_4, Y62_5, Y63_6, Y64_7, 0, Emp, hs.weak ⟨rfl, rfl, rfl, rfl, rfl, rfl, rfl, rfl, rfl, rfl, rfl, rfl, rfl, trivial⟩, (HS.drew.emp.pick 8 [1, 2, 3, 4, 5, 6, 7, 0]), fun h => Bool.noConfusion h, fun h => Bool.noConfusion h, fun h => Bool.noConfusion h, fun h => Bool.noConfusion h, fun h => Bool.noConfusion h, fun h => Bool.noConfusion h, fun h => Bool.noConfusion h, fun h => Bool.noConfusion h, fun h => Bool.noConfusion h⟩
           ·
            intro j hj b a w
            refine exI fun Y57_0 => exI fun Y58_1 => exI fun Y59_2 => exI fun Y60_3 => exI fun Y61_4 => exI fun Y62_5 => exI fun Y63_6 => exI fun Y64_7 => exI fun b819 => exI fun O65_354 => anI fun hs => anI fun HS => anI fun f0 => anI fun f1 => anI fun f2 => anI fun f3 => anI fun f4 => anI fun f5 => anI fun f6 => anI fun f7 => fun o354_0 hb hd hcl => ?_
            match j, hj with
            | 0, _ =>
             refine GO.at hs ?_
             refine GO.ixP 0 rfl rfl rfl rfl Try.underlying93 sz2 rfl rfl ?_
             refine GO.fin (fun a hs => ?_)
             exact ⟨(.pointer (some ⟨b17, 0, none⟩)), _, _, _, _, _, _, _, b819, _, by exact hs.setAt 0 rfl, HS, fun _ => rfl, f1, f2, f3, f4, f5, f6, f7, o354_0⟩
            | 1, _ =>
             have hb0 : b 0 = true := hd 0 (by decide)
             obtain rfl := f0 hb0
             refine GO.at hs ?_
             refine GO.ldBox (j := 1) HS rfl rfl rfl rfl na2 rfl ?_
             refine GO.fin (fun a hs => ?_)
             exact ⟨_, (.int .i64 t10), _, _, _, _, _, _, b819, _, by exact hs.setAt 1 rfl, HS, f0, fun _ => rfl, f2, f3, f4, f5, f6, f7, o354_0⟩
            | 2, _ =>
             refine GO.at hs ?_
             refine GO.move rfl rfl rfl ?_
             refine GO.fin (fun a hs => ?_)
             exact ⟨_, _, (.int .i64 (w64 (2 + e8.Sign))), _, _, _, _, _, b819, _, by exact hs.setAt 2 rfl, HS, f0, f1, fun _ => rfl, f3, f4, f5, f6, f7, o354_0⟩
            | 3, _ =>
             have hb2 : b 2 = true := hd 2 (by decide)
             obtain rfl := f2 hb2
             refine GO.at hs ?_
             refine GO.ixV rfl rfl rfl Try.underlying93 sz2 c24.1 c24.2 rfl ?_
             refine GO.fin (fun a hs => ?_)
             exact ⟨_, _, _, (.pointer (some ⟨b17, (w64 (2 + e8.Sign)).toNat, none⟩)), _, _, _, _, b819, _, by exact hs.setAt 3 rfl, HS, f0, f1, f2, fun _ => rfl, f4, f5, f6, f7, o354_0⟩
            | 4, _ =>
             have hb3 : b 3 = true := hd 3 (by decide)
             obtain rfl := f3 hb3
             refine GO.at hs ?_
             refine GO.ldBoxV (j := 1) (kd := .i64) ([t10, t11, t12, t13] : List Int) HS rfl rfl rfl (ltN c24) na2 rfl rfl ?_
             refine GO.fin (fun a hs => ?_)
             exact ⟨_, _, _, _, (.int .i64 (([t10, t11, t12, t13] : List Int).getD (w64 (2 + e8.Sign)).toNat 0)), _, _, _, b819, _, by exact hs.setAt 4 rfl, HS, f0, f1, f2, f3, fun _ => rfl, f5, f6, f7, o354_0⟩
            | 5, _ =>
             have hb1 : b 1 = true := hd 1 (by decide)
             obtain rfl := f1 hb1
             have hb4 : b 4 = true := hd 4 (by decide)
             obtain rfl := f4 hb4
             refine GO.at hs ?_
             refine GO.buildS (el := 2) ([.int .i64 t10, .int .i64 (([t10, t11, t12, t13] : List Int).getD (w64 (2 + e8.Sign)).toNat 0)]) HS rfl rfl (fun _ => by kernel_rfl) rfl ?_; intro b819 wd820 HS
             refine GO.fin (fun a hs => ?_)
             exact ⟨_, _, _, _, _, (.slice (some ⟨b819, 0, none⟩) 2 2), _, _, b819, Box b819 2 [.int .i64 t10, .int .i64 (([t10, t11, t12, t13] : List Int).getD (w64 (2 + e8.Sign)).toNat 0)], by exact hs.setAt 5 rfl, HS.pick 9 [1, 2, 3, 4, 5, 6, 7, 0], f0, f1, f2, f3, f4, fun _ => rfl, f6, f7, fun _ => rfl⟩
            | 6, _ =>
             have hb5 : b 5 = true := hd 5 (by decide)
             obtain rfl := f5 hb5
             refine GO.at hs ?_
             refine GO.lenS rfl rfl Try.underlying43 rfl ?_
             refine GO.fin (fun a hs => ?_)
             exact ⟨_, _, _, _, _, _, (.int .i64 2), _, b819, _, by exact hs.setAt 6 rfl, HS, f0, f1, f2, f3, f4, f5, fun _ => rfl, f7, o354_0⟩
            | 7, _ =>
             refine GO.at hs ?_
             refine GO.move rfl rfl rfl ?_
             refine GO.fin (fun a hs => ?_)
             exact ⟨_, _, _, _, _, _, _, (.int .i64 0), b819, _, by exact hs.setAt 7 rfl, HS, f0, f1, f2, f3, f4, f5, f6, fun _ => rfl, o354_0⟩
            | k + 8, hj => exact absurd hj (Nat.not_lt.2 (Nat.le_add_left 8 k))
           ·
            intro b a w hall
            refine exI fun Y57_0 => exI fun Y58_1 => exI fun Y59_2 => exI fun Y60_3 => exI fun Y61_4 => exI fun Y62_5 => exI fun Y63_6 => exI fun Y64_7 => exI fun b819 => exI fun O65_354 => anI fun hs => anI fun HS => anI fun f0 => anI fun f1 => anI fun f2 => anI fun f3 => anI fun f4 => anI fun f5 => anI fun f6 => anI fun f7 => fun o354_0 => ?_
            obtain rfl := f0 (hall 0 (by decide))
            obtain rfl := f1 (hall 1 (by decide))
            obtain rfl := f2 (hall 2 (by decide))
            obtain rfl := f3 (hall 3 (by decide))
            obtain rfl := f4 (hall 4 (by decide))
            obtain rfl := f5 (hall 5 (by decide))
            obtain rfl := f6 (hall 6 (by decide))
            obtain rfl := f7 (hall 7 (by decide))
            obtain rfl := o354_0 (hall 5 (by decide))
            refine G.at hs ?_
            refine G.block ?_
            refine G.loop ?_
            replace HS := HS.boxRow (T := (TInt .i64)) (j := 7) rfl flat_flat (fun _ => ()) ([t10, ([t10, t11, t12, t13] : List Int).getD (w64 (2 + e8.Sign)).toNat 0] : List Int) rfl (bndL rfl)
            refine G.lenC (t := 149) (m := ([t10, ([t10, t11, t12, t13] : List Int).getD (w64 (2 + e8.Sign)).toNat 0] : List Int).length) (c' := ([t10, ([t10, t11, t12, t13] : List Int).getD (w64 (2 + e8.Sign)).toNat 0] : List Int).length) rfl rfl rfl ?_
            refine G.name (fun k_l64 hk_l64 => ?_)
            have at_l64 : ∀ m_l64, m_l64 ≤ n_l49 → ∀ (x837 : List (Int × Int)) (x838 : Int) (x839 : Int) (w : World), impl_Diagram_smoothed.l64 K m_l64 e8 t10 t11 t12 t13 x722 x837 x838 x839 = some (r1, r2) → St w0 w (Box b5 28 [.slice none 0 0, .int .i64 0] :: MapJ b20 .i64 .i64 x837 :: Box b641 28 [.slice A720 x722.length c721, .int .i64 x838] :: Own T_GCrossing 58 A720 c721 (fun _ => ()) x722 :: Own (TInt .i64) 2 (some ⟨b819, 0, none⟩) (([t10, ([t10, t11, t12, t13] : List Int).getD (w64 (2 + e8.Sign)).toNat 0] : List Int).length) (fun _ => ()) ([t10, ([t10, t11, t12, t13] : List Int).getD (w64 (2 + e8.Sign)).toNat 0] : List Int) :: L) → G Try.prog 67 178 [(6, .pointer (some ⟨b5, 0, none⟩)), (9, .map (some b20)), (16, .pointer (some ⟨b641, 0, none⟩)), (149, .slice (some ⟨b819, 0, none⟩) ([t10, ([t10, t11, t12, t13] : List Int).getD (w64 (2 + e8.Sign)).toNat 0] : List Int).length (([t10, ([t10, t11, t12, t13] : List Int).getD (w64 (2 + e8.Sign)).toNat 0] : List Int).length)), (150, .int .i64 2), (151, .int .i64 x839)] k_l64 w (impl_Diagram_smoothed.post w0 L t_Crossings t_Circles o_from o_to A A_t_Crossings c_t_Crossings A_o_from c_o_from A_o_to c_o_to r1 r2) := by
             intro m_l64
             induction m_l64 using Nat.strongRecOn with
             | _ m_l64 ih_l64 =>
              intro hm_l64 x837 x838 x839 w H HS
              cases m_l64 with
              | zero => rw [impl_Diagram_smoothed.l64] at H; cases H
              | succ n_l64 =>
               rw [impl_Diagram_smoothed.l64] at H
               subst hk_l64
               refine G.seq ?_
               refine G.region ?_
               refine GO.lss rfl rfl rfl rfl ?_
               refine GO.nil ?_
               refine G.seq ?_
               rcases ite_elim H with ⟨c858, H⟩ | ⟨c858, H⟩
               ·
                refine G.yesB rfl (decide_eq_true c858) ?_
                refine G.skip ?_
                refine G.seq ?_
                refine G.block ?_
                refine G.seq ?_
                obtain ⟨c859, H⟩ := ite_none H
                refine G.region ?_
                refine GO.ix rfl rfl rfl Try.underlying43 sz2 (fun _ => ⟨_, _, rfl⟩) c859.1 c859.2 rfl ?_
                refine GO.ldRd (T := (TInt .i64)) (n := x839.toNat) (o := 0) HS (RdIn.own (j := 4) rfl) rfl rfl (getD_some (d := 0) (ltN c859)) rfl rfl na2 rfl ?_
                refine GO.assign rfl rfl rfl ?_
                refine GO.nil ?_
                refine G.seq ?_
                refine G.region ?_
                refine GO.move rfl rfl rfl ?_
                refine GO.move rfl rfl rfl ?_
                refine GO.lookOkJ (j := 1) HS rfl rfl rfl rfl Try.underlying130 Try.underlying2 zr2 rfl ?_
                refine GO.move rfl rfl rfl ?_
                refine GO.extract rfl rfl rfl rfl ?_
                refine GO.extract rfl rfl rfl rfl ?_
                refine GO.assign rfl rfl rfl ?_
                refine GO.assign rfl rfl rfl ?_
                refine GO.nil ?_
                refine G.seq ?_
                refine G.seq ?_
                refine G.region ?_
                refine GO.move rfl rfl rfl ?_
                refine GO.nil ?_
                refine G.nameT (fun k_j69 hk_j69 => ?_)
                have at_j69 : ∀ m_j69, m_j69 ≤ n_l64 → ∀ (x862 : Int) (w : World), impl_Diagram_smoothed.j69 K m_j69 e8 t10 t11 t12 t13 x722 x837 x839 x862 = some (r1, r2) → St w0 w (Box b5 28 [.slice none 0 0, .int .i64 0] :: MapJ b20 .i64 .i64 x837 :: Box b641 28 [.slice A720 x722.length c721, .int .i64 x862] :: Own T_GCrossing 58 A720 c721 (fun _ => ()) x722 :: Own (TInt .i64) 2 (some ⟨b819, 0, none⟩) (([t10, ([t10, t11, t12, t13] : List Int).getD (w64 (2 + e8.Sign)).toNat 0] : List Int).length) (fun _ => ()) ([t10, ([t10, t11, t12, t13] : List Int).getD (w64 (2 + e8.Sign)).toNat 0] : List Int) :: L) → G Try.prog 67 178 [(6, .pointer (some ⟨b5, 0, none⟩)), (9, .map (some b20)), (16, .pointer (some ⟨b641, 0, none⟩)), (20, .int .i64 (([t10, ([t10, t11, t12, t13] : List Int).getD (w64 (2 + e8.Sign)).toNat 0] : List Int).getD x839.toNat 0)), (21, .int .i64 ((mget x837 (([t10, ([t10, t11, t12, t13] : List Int).getD (w64 (2 + e8.Sign)).toNat 0] : List Int).getD x839.toNat 0)).getD 0)), (22, .bool ((mget x837 (([t10, ([t10, t11, t12, t13] : List Int).getD (w64 (2 + e8.Sign)).toNat 0] : List Int).getD x839.toNat 0)).isSome)), (149, .slice (some ⟨b819, 0, none⟩) ([t10, ([t10, t11, t12, t13] : List Int).getD (w64 (2 + e8.Sign)).toNat 0] : List Int).length (([t10, ([t10, t11, t12, t13] : List Int).getD (w64 (2 + e8.Sign)).toNat 0] : List Int).length)), (150, .int .i64 2), (151, .int .i64 x839)] k_j69 w (impl_Diagram_smoothed.post w0 L t_Crossings t_Circles o_from o_to A A_t_Crossings c_t_Crossings A_o_from c_o_from A_o_to c_o_to r1 r2) := by
                 intro m_j69 hm_j69 x862 w H HS
                 cases m_j69 with
                 | zero => rw [impl_Diagram_smoothed.j69] at H; cases H
                 | succ n_j69 =>
                  rw [impl_Diagram_smoothed.j69] at H
                  subst hk_j69
                  refine G.block ?_
                  refine G.loop ?_
                  refine G.name (fun k_l70 hk_l70 => ?_)
                  have at_l70 : ∀ m_l70, m_l70 ≤ n_j69 → ∀ (x865 : List (Int × Int)) (x866 : Int) (x867 : Int) (x868 : Bool) (w : World), impl_Diagram_smoothed.l70 K m_l70 e8 t10 t11 t12 t13 x722 x839 x862 x865 x866 x867 x868 = some (r1, r2) → St w0 w (Box b5 28 [.slice none 0 0, .int .i64 0] :: MapJ b20 .i64 .i64 x865 :: Box b641 28 [.slice A720 x722.length c721, .int .i64 x862] :: Own T_GCrossing 58 A720 c721 (fun _ => ()) x722 :: Own (TInt .i64) 2 (some ⟨b819, 0, none⟩) (([t10, ([t10, t11, t12, t13] : List Int).getD (w64 (2 + e8.Sign)).toNat 0] : List Int).length) (fun _ => ()) ([t10, ([t10, t11, t12, t13] : List Int).getD (w64 (2 + e8.Sign)).toNat 0] : List Int) :: L) → G Try.prog 67 178 [(6, .pointer (some ⟨b5, 0, none⟩)), (9, .map (some b20)), (16, .pointer (some ⟨b641, 0, none⟩)), (20, .int .i64 x866), (21, .int .i64 x867), (22, .bool x868), (149, .slice (some ⟨b819, 0, none⟩) ([t10, ([t10, t11, t12, t13] : List Int).getD (w64 (2 + e8.Sign)).toNat 0] : List Int).length (([t10, ([t10, t11, t12, t13] : List Int).getD (w64 (2 + e8.Sign)).toNat 0] : List Int).length)), (150, .int .i64 2), (151, .int .i64 x839)] k_l70 w (impl_Diagram_smoothed.post w0 L t_Crossings t_Circles o_from o_to A A_t_Crossings c_t_Crossings A_o_from c_o_from A_o_to c_o_to r1 r2) := by
                   intro m_l70
                   induction m_l70 using Nat.strongRecOn with
                   | _ m_l70 ih_l70 =>
                    intro hm_l70 x865 x866 x867 x868 w H HS
                    cases m_l70 with
                    | zero => rw [impl_Diagram_smoothed.l70] at H; cases H
                    | succ n_l70 =>
                     rw [impl_Diagram_smoothed.l70] at H
                     subst hk_l70
                     refine G.seq ?_
                     refine G.seq ?_
                     refine G.region ?_
                     refine GO.move rfl rfl rfl ?_
                     refine GO.nil ?_
                     rcases ite_elim H with ⟨c871, H⟩ | ⟨c871, H⟩
                     ·
                      refine G.yesB rfl c871 ?_
                      refine G.skip ?_
                      refine G.block ?_
                      refine G.seq ?_
                      refine G.region ?_
                      refine GO.move rfl rfl rfl ?_
                      refine GO.move rfl rfl rfl ?_
                      refine GO.delMJ (j := 1) HS rfl rfl rfl rfl Try.underlying130 Try.underlying2 ?_; intro wd872 HS
                      refine GO.nil ?_
                      refine G.seq ?_
                      refine G.region ?_
                      refine GO.move rfl rfl rfl ?_
                      refine GO.assign rfl rfl rfl ?_
                      refine GO.nil ?_
                      refine G.region ?_
                      refine GO.move rfl rfl rfl ?_
                      refine GO.move rfl rfl rfl ?_
                      refine GO.lookOkJ (j := 1) HS rfl rfl rfl rfl Try.underlying130 Try.underlying2 zr2 rfl ?_
                      refine GO.move rfl rfl rfl ?_
                      refine GO.extract rfl rfl rfl rfl ?_
                      refine GO.extract rfl rfl rfl rfl ?_
                      refine GO.assign rfl rfl rfl ?_
                      refine GO.assign rfl rfl rfl ?_
                      refine GO.nil ?_
                      refine G.blockEnd ?_
                      refine G.again ?_
                      refine G.weak ?_ (ih_l70 n_l70 (Nat.lt_succ_of_le (Nat.le_refl _)) (Nat.le_of_succ_le hm_l70) _ _ _ _ _ H HS)
                      exact ⟨rfl, rfl, rfl, rfl, rfl, rfl, rfl, rfl, rfl, trivial⟩
                     ·
                      refine G.noB rfl (bnot_of c871) ?_
                      refine G.exit rfl ?_
                      refine G.blockEnd ?_
                      refine G.region ?_
                      refine GO.add rfl rfl rfl rfl ?_
                      refine GO.move rfl rfl rfl ?_
                      refine GO.nil ?_
                      refine G.again ?_
                      refine G.weak ?_ (ih_l64 n_l70 (Nat.lt_succ_of_le (Nat.le_trans (Nat.le_of_succ_le hm_l70) (Nat.le_of_succ_le hm_j69))) (Nat.le_trans (Nat.le_of_succ_le hm_l70) (Nat.le_trans (Nat.le_of_succ_le hm_j69) (Nat.le_of_succ_le hm_l64))) _ _ _ _ H HS)
                      exact ⟨rfl, rfl, rfl, rfl, rfl, rfl, trivial⟩
                  refine G.weak ?_ (at_l70 n_j69 (Nat.le_refl _) _ _ _ _ _ H HS)
                  exact ⟨rfl, rfl, rfl, rfl, rfl, rfl, rfl, rfl, rfl, trivial⟩
                rcases ite_elim H with ⟨c873, H⟩ | ⟨c873, H⟩
                ·
                 refine G.yesB rfl c873 ?_
                 refine G.region ?_
                 refine GO.fld (⟨b641, 1, none⟩) rfl rfl fl28_1 rfl rfl ?_
                 refine GO.ldBox (j := 2) HS rfl rfl rfl rfl na2 rfl ?_
                 refine GO.add rfl rfl rfl rfl ?_
                 refine GO.fld (⟨b641, 1, none⟩) rfl rfl fl28_1 rfl rfl ?_
                 refine GO.stBox (j := 2) (vs := [.int .i64 (w64 (x838 + 1))]) ([.slice A720 x722.length c721, .int .i64 (w64 (x838 + 1))]) HS rfl rfl rfl rfl rfl (htN na2 rfl) rfl rfl rfl ?_; intro wd874 HS
                 refine GO.nil ?_
                 refine G.weak ?_ (at_j69 n_l64 (Nat.le_refl _) _ _ H HS)
                 exact ⟨rfl, rfl, rfl, rfl, rfl, rfl, rfl, rfl, rfl, trivial⟩
                ·
                 refine G.noB rfl (bnot_of c873) ?_
                 refine G.skip ?_
                 refine G.weak ?_ (at_j69 n_l64 (Nat.le_refl _) _ _ H HS)
                 exact ⟨rfl, rfl, rfl, rfl, rfl, rfl, rfl, rfl, rfl, trivial⟩
               ·
                refine G.noB rfl (decide_eq_false c858) ?_
                refine G.exit rfl ?_
                refine G.seq ?_
                refine G.region ?_
                refine GO.ldBoxA (j := 2) ([.slice A720 x722.length c721, .int .i64 x838]) HS rfl rfl rfl rfl ag28 rfl ?_
                refine GO.stBox (j := 0) (vs := [.slice A720 x722.length c721, .int .i64 x838]) ([.slice A720 x722.length c721, .int .i64 x838]) HS rfl rfl rfl rfl rfl (htA ag28) rfl rfl rfl ?_; intro wd875 HS
                refine GO.nil ?_
                obtain ⟨rfl, rfl⟩ := some2 H
                exact G.ret1 _ Try.func67 rfl (Res1.boxA (j := 0) (vs := [.slice A720 x722.length c721, .int .i64 x838]) HS rfl rfl rfl ag28) ⟨_, _, rfl, (HS.pick 5 [3])⟩
            refine G.weak ?_ (at_l64 n_l49 (Nat.le_refl _) _ _ _ _ H (HS.pick 8 [0, 2, 4, 5, 7]))
            exact ⟨rfl, rfl, rfl, rfl, rfl, rfl, trivial⟩
       replace HS := HS.nilRow T_GCrossing 58 (fun _ => ())
       refine G.weak ?_ (at_l49 n_l1 (Nat.le_refl _) _ _ _ _ _ H (HS.pick 10 [4, 5, 6, 9, 1, 0, 8]))
       exact ⟨rfl, rfl, rfl, rfl, rfl, rfl, rfl, rfl, rfl, rfl, trivial⟩
   refine G.weak ?_ (at_l1 K (Nat.le_refl _) _ _ _ _ _ _ H (HS.pick 9 [7, 6, 5, 4, 8, 2, 3, 0]))
   exact ⟨rfl, rfl, rfl, rfl, rfl, rfl, rfl, rfl, rfl, rfl, rfl, rfl, trivial⟩

set_option maxRecDepth 20000 in
set_option maxHeartbeats 40000000 in
theorem impl_limitedCircles.calls {w0 w : World} {L : List HObj} {d_Crossings : List GCrossing} {d_Circles : Int} {A_d_Crossings : Option Addr} {c_d_Crossings : Nat} {r1 : List GCrossing} {r2 : Int} {r3 : Int} (HS : St w0 w (Own T_GCrossing 58 A_d_Crossings c_d_Crossings (fun _ => ()) d_Crossings :: L)) (H : impl_limitedCircles.f d_Crossings d_Circles = some (r1, r2, r3)) :
    Calls Try.prog 66 #[.agg [.slice A_d_Crossings d_Crossings.length c_d_Crossings, .int .i64 d_Circles].toArray] w (impl_limitedCircles.post w0 L d_Crossings d_Circles A_d_Crossings c_d_Crossings r1 r2 r3) := by
  unfold impl_limitedCircles.f at H
  refine Calls.of_G Try.func66 rfl rfl rfl ?_
  refine G.seq ?_
  refine G.region ?_
  refine GO.box (cs := [.slice A_d_Crossings d_Crossings.length c_d_Crossings, .int .i64 d_Circles]) HS rfl rfl rfl rfl ?_; intro b1 wd2 HS
  refine GO.alloc HS rfl zr28 rfl rfl ?_; intro b3 wd4 HS
  refine GO.assign rfl rfl rfl ?_
  refine GO.nil ?_
  refine G.seq ?_
  refine G.seq ?_
  refine G.region ?_
  refine GO.fld (⟨b1, 1, none⟩) rfl rfl fl28_1 rfl rfl ?_
  refine GO.ldBox (j := 1) HS rfl rfl rfl rfl na2 rfl ?_
  refine GO.gtr rfl rfl rfl rfl ?_
  refine GO.nil ?_
  rcases ite_elim H with ⟨c5, H⟩ | ⟨c5, H⟩
  ·
   refine G.yesB rfl (decide_eq_true c5) ?_
   refine G.seq ?_
   refine G.region ?_
   refine GO.buildV (.agg [.slice none 0 0, .int .i64 0].toArray) rfl rfl (fun _ => by kernel_rfl) rfl ?_
   refine GO.stBox (j := 0) (vs := [.slice none 0 0, .int .i64 0]) ([.slice none 0 0, .int .i64 0]) HS rfl rfl rfl rfl rfl (htA ag28) rfl rfl rfl ?_; intro wd6 HS
   refine GO.assign rfl rfl rfl ?_
   refine GO.nil ?_
   replace HS := HS.nilRow T_GCrossing 58 (fun _ => ())
   obtain ⟨rfl, rfl, rfl⟩ := some3 H
   exact G.ret2 _ _ Try.func66 rfl (Res1.boxA (j := 1) (vs := [.slice none 0 0, .int .i64 0]) HS rfl rfl rfl ag28) rfl ⟨_, _, rfl, (HS.pick 4 [0])⟩
  ·
   refine G.noB rfl (decide_eq_false c5) ?_
   refine G.skip ?_
   refine G.seq ?_
   refine G.region ?_
   refine GO.ldBoxA (j := 1) ([.slice A_d_Crossings d_Crossings.length c_d_Crossings, .int .i64 d_Circles]) HS rfl rfl rfl rfl ag28 rfl ?_
   refine GO.stBox (j := 0) (vs := [.slice A_d_Crossings d_Crossings.length c_d_Crossings, .int .i64 d_Circles]) ([.slice A_d_Crossings d_Crossings.length c_d_Crossings, .int .i64 d_Circles]) HS rfl rfl rfl rfl rfl (htA ag28) rfl rfl rfl ?_; intro wd7 HS
   refine GO.assign rfl rfl rfl ?_
   refine GO.nil ?_
   obtain ⟨rfl, rfl, rfl⟩ := some3 H
   exact G.ret2 _ _ Try.func66 rfl (Res1.boxA (j := 0) (vs := [.slice A_d_Crossings d_Crossings.length c_d_Crossings, .int .i64 d_Circles]) HS rfl rfl rfl ag28) rfl ⟨_, _, rfl, (HS.pick 3 [2])⟩

set_option maxRecDepth 20000 in
set_option maxHeartbeats 40000000 in
theorem impl_SmoothCrossing.calls {w0 w : World} {L : List HObj} {K : Nat} {d_Crossings : List GCrossing} {d_Circles : Int} {c : Int} {A_d_Crossings : Option Addr} {c_d_Crossings : Nat} {r1 : List GCrossing} {r2 : Int} {r3 : Int} (HS : St w0 w (L)) (h_d_Crossings : RdIn w0 L T_GCrossing A_d_Crossings c_d_Crossings (fun _ => ()) d_Crossings) (H : impl_SmoothCrossing.f K d_Crossings d_Circles c = some (r1, r2, r3)) :
    Calls Try.prog 24 #[.agg [.slice A_d_Crossings d_Crossings.length c_d_Crossings, .int .i64 d_Circles].toArray, .int .i64 c] w (impl_SmoothCrossing.post w0 L d_Crossings d_Circles c A_d_Crossings c_d_Crossings r1 r2 r3) := by
  unfold impl_SmoothCrossing.f at H
  refine Calls.of_G Try.func24 rfl rfl rfl ?_
  refine G.seq ?_
  refine G.region ?_
  refine GO.box (cs := [.slice A_d_Crossings d_Crossings.length c_d_Crossings, .int .i64 d_Circles]) HS rfl rfl rfl rfl ?_; intro b1 wd2 HS
  refine GO.alloc HS rfl zr28 rfl rfl ?_; intro b3 wd4 HS
  refine GO.assign rfl rfl rfl ?_
  refine GO.nil ?_
  refine G.seq ?_
  refine G.seq ?_
  obtain ⟨t5, h6, H⟩ := Option.bind_eq_some_iff.1 H
  refine G.region ?_
  refine GO.ldBoxA (j := 1) ([.slice A_d_Crossings d_Crossings.length c_d_Crossings, .int .i64 d_Circles]) HS rfl rfl rfl rfl ag28 rfl ?_
  refine GO.move rfl rfl rfl ?_
  refine GO.fn rfl Try.func65 fok65.1 fok65.2 rfl rfl (impl_crossingCode.calls HS (RdIn.drop 2 h_d_Crossings) h6) (fun _ wd7 ⟨h8, HS⟩ => ⟨_, h8, ?_⟩)
  refine GO.assign rfl rfl rfl ?_
  refine GO.nil ?_
  refine G.seq ?_
  refine G.region ?_
  refine GO.move rfl rfl rfl ?_
  refine GO.neq rfl rfl rfl rfl ?_
  refine GO.nil ?_
  rcases ite_elim H with ⟨c9, H⟩ | ⟨c9, H⟩
  ·
   refine G.noB rfl (congrArg Bool.not (decide_eq_true c9)) ?_
   refine G.skip ?_
   refine G.seq ?_
   obtain ⟨t10, t11, t12, h13, H⟩ := bind3_elim H
   refine G.region ?_
   refine GO.ldBoxA (j := 1) ([.slice A_d_Crossings d_Crossings.length c_d_Crossings, .int .i64 d_Circles]) HS rfl rfl rfl rfl ag28 rfl ?_
   refine GO.fn rfl Try.func45 fok45.1 fok45.2 rfl rfl (impl_Diagram_drawing.calls HS (RdIn.drop 2 h_d_Crossings) h13) (fun _ wd18 ⟨A14, c15, A16, c17, h19, HS⟩ => ⟨_, h19, ?_⟩)
   refine GO.move rfl rfl rfl ?_
   refine GO.extract rfl rfl rfl rfl ?_
   refine GO.extract rfl rfl rfl rfl ?_
   refine GO.alloc HS rfl zr63 rfl rfl ?_; intro b20 wd21 HS
   refine GO.stBox (j := 0) (vs := [.slice A14 t10.length c15, .slice A16 t11.length c17]) ([.slice A14 t10.length c15, .slice A16 t11.length c17]) HS rfl rfl rfl rfl rfl (htA ag63) rfl rfl rfl ?_; intro wd22 HS
   refine GO.assign rfl rfl rfl ?_
   refine GO.nil ?_
   refine G.seq ?_
   obtain ⟨t23, t24, h25, H⟩ := bind2_elim H
   obtain ⟨t30, t31, t32, h33, H⟩ := bind3_elim H
   refine G.region ?_
   refine GO.ldBoxA (j := 4) ([.slice A_d_Crossings d_Crossings.length c_d_Crossings, .int .i64 d_Circles]) HS rfl rfl rfl rfl ag28 rfl ?_
   refine GO.ldBoxA (j := 0) ([.slice A14 t10.length c15, .slice A16 t11.length c17]) HS rfl rfl rfl rfl ag63 rfl ?_
   refine GO.move rfl rfl rfl ?_
   refine GO.fn rfl Try.func67 fok67.1 fok67.2 rfl rfl (impl_Diagram_smoothed.calls HS (RdIn.drop 5 h_d_Crossings) (RdIn.own (j := 1) rfl) (RdIn.own (j := 2) rfl) h25) (fun _ wd28 ⟨A26, c27, h29, HS⟩ => ⟨_, h29, ?_⟩)
   replace HS := HS.pick 6 [0, 1, 2, 3, 4, 5]
   refine GO.fn rfl Try.func66 fok66.1 fok66.2 rfl rfl (impl_limitedCircles.calls HS  h33) (fun _ wd36 ⟨A34, c35, h37, HS⟩ => ⟨_, h37, ?_⟩)
   refine GO.extract rfl rfl rfl rfl ?_
   refine GO.extract rfl rfl rfl rfl ?_
   refine GO.stBox (j := 4) (vs := [.slice A34 t30.length c35, .int .i64 t31]) ([.slice A34 t30.length c35, .int .i64 t31]) HS rfl rfl rfl rfl rfl (htA ag28) rfl rfl rfl ?_; intro wd38 HS
   refine GO.assign rfl rfl rfl ?_
   refine GO.nil ?_
   obtain ⟨rfl, rfl, rfl⟩ := some3 H
   exact G.ret2 _ _ Try.func24 rfl (Res1.boxA (j := 4) (vs := [.slice A34 t30.length c35, .int .i64 t31]) HS rfl rfl rfl ag28) rfl ⟨_, _, rfl, (HS.pick 6 [0])⟩
  ·
   refine G.yesB rfl (congrArg Bool.not (decide_eq_false c9)) ?_
   refine G.seq ?_
   refine G.region ?_
   refine GO.buildV (.agg [.slice none 0 0, .int .i64 0].toArray) rfl rfl (fun _ => by kernel_rfl) rfl ?_
   refine GO.move rfl rfl rfl ?_
   refine GO.stBox (j := 0) (vs := [.slice none 0 0, .int .i64 0]) ([.slice none 0 0, .int .i64 0]) HS rfl rfl rfl rfl rfl (htA ag28) rfl rfl rfl ?_; intro wd39 HS
   refine GO.assign rfl rfl rfl ?_
   refine GO.nil ?_
   replace HS := HS.nilRow T_GCrossing 58 (fun _ => ())
   obtain ⟨rfl, rfl, rfl⟩ := some3 H
   exact G.ret2 _ _ Try.func24 rfl (Res1.boxA (j := 1) (vs := [.slice none 0 0, .int .i64 0]) HS rfl rfl rfl ag28) rfl ⟨_, _, rfl, (HS.pick 3 [0])⟩

set_option maxRecDepth 20000 in
set_option maxHeartbeats 40000000 in
theorem laws_eqCrossing.calls {w0 w : World} {L : List HObj} {a_A : Int} {a_B : Int} {a_C : Int} {a_D : Int} {a_Sign : Int} {b_A : Int} {b_B : Int} {b_C : Int} {b_D : Int} {b_Sign : Int} {r1 : Bool} (HS : St w0 w (L)) (H : laws_eqCrossing.f a_A a_B a_C a_D a_Sign b_A b_B b_C b_D b_Sign = some r1) :
    Calls Try.prog 114 #[.agg [.int .i64 a_A, .int .i64 a_B, .int .i64 a_C, .int .i64 a_D, .int .i64 a_Sign].toArray, .agg [.int .i64 b_A, .int .i64 b_B, .int .i64 b_C, .int .i64 b_D, .int .i64 b_Sign].toArray] w (laws_eqCrossing.post w0 L a_A a_B a_C a_D a_Sign b_A b_B b_C b_D b_Sign r1) := by
  unfold laws_eqCrossing.f at H
  refine Calls.of_G Try.func114 rfl rfl rfl ?_
  refine G.seq ?_
  refine G.region ?_
  refine GO.box (cs := [.int .i64 a_A, .int .i64 a_B, .int .i64 a_C, .int .i64 a_D, .int .i64 a_Sign]) HS rfl rfl rfl rfl ?_; intro b1 wd2 HS
  refine GO.box (cs := [.int .i64 b_A, .int .i64 b_B, .int .i64 b_C, .int .i64 b_D, .int .i64 b_Sign]) HS rfl rfl rfl rfl ?_; intro b3 wd4 HS
  refine GO.assign rfl rfl rfl ?_
  refine GO.nil ?_
  refine G.seq ?_
  refine G.seq ?_
  refine G.region ?_
  refine GO.fld (⟨b1, 0, none⟩) rfl rfl fl58_0 rfl rfl ?_
  refine GO.ldBox (j := 1) HS rfl rfl rfl rfl na2 rfl ?_
  refine GO.fld (⟨b3, 0, none⟩) rfl rfl fl58_0 rfl rfl ?_
  refine GO.ldBox (j := 0) HS rfl rfl rfl rfl na2 rfl ?_
  refine GO.neq rfl rfl rfl rfl ?_
  refine GO.nil ?_
  rcases ite_elim H with ⟨c5, H⟩ | ⟨c5, H⟩
  ·
   refine G.noB rfl (congrArg Bool.not (decide_eq_true c5)) ?_
   refine G.skip ?_
   refine G.seq ?_
   refine G.seq ?_
   refine G.region ?_
   refine GO.fld (⟨b1, 1, none⟩) rfl rfl fl58_1 rfl rfl ?_
   refine GO.ldBox (j := 1) HS rfl rfl rfl rfl na2 rfl ?_
   refine GO.fld (⟨b3, 1, none⟩) rfl rfl fl58_1 rfl rfl ?_
   refine GO.ldBox (j := 0) HS rfl rfl rfl rfl na2 rfl ?_
   refine GO.neq rfl rfl rfl rfl ?_
   refine GO.nil ?_
   rcases ite_elim H with ⟨c6, H⟩ | ⟨c6, H⟩
   ·
    refine G.noB rfl (congrArg Bool.not (decide_eq_true c6)) ?_
    refine G.skip ?_
    refine G.seq ?_
    refine G.seq ?_
    refine G.region ?_
    refine GO.fld (⟨b1, 2, none⟩) rfl rfl fl58_2 rfl rfl ?_
    refine GO.ldBox (j := 1) HS rfl rfl rfl rfl na2 rfl ?_
    refine GO.fld (⟨b3, 2, none⟩) rfl rfl fl58_2 rfl rfl ?_
    refine GO.ldBox (j := 0) HS rfl rfl rfl rfl na2 rfl ?_
    refine GO.neq rfl rfl rfl rfl ?_
    refine GO.nil ?_
    rcases ite_elim H with ⟨c7, H⟩ | ⟨c7, H⟩
    ·
     refine G.noB rfl (congrArg Bool.not (decide_eq_true c7)) ?_
     refine G.skip ?_
     refine G.seq ?_
     refine G.seq ?_
     refine G.region ?_
     refine GO.fld (⟨b1, 3, none⟩) rfl rfl fl58_3 rfl rfl ?_
     refine GO.ldBox (j := 1) HS rfl rfl rfl rfl na2 rfl ?_
     refine GO.fld (⟨b3, 3, none⟩) rfl rfl fl58_3 rfl rfl ?_
     refine GO.ldBox (j := 0) HS rfl rfl rfl rfl na2 rfl ?_
     refine GO.neq rfl rfl rfl rfl ?_
     refine GO.nil ?_
     rcases ite_elim H with ⟨c8, H⟩ | ⟨c8, H⟩
     ·
      refine G.noB rfl (congrArg Bool.not (decide_eq_true c8)) ?_
      refine G.skip ?_
      refine G.seq ?_
      refine G.seq ?_
      refine G.region ?_
      refine GO.fld (⟨b1, 4, none⟩) rfl rfl fl58_4 rfl rfl ?_
      refine GO.ldBox (j := 1) HS rfl rfl rfl rfl na2 rfl ?_
      refine GO.fld (⟨b3, 4, none⟩) rfl rfl fl58_4 rfl rfl ?_
      refine GO.ldBox (j := 0) HS rfl rfl rfl rfl na2 rfl ?_
      refine GO.neq rfl rfl rfl rfl ?_
      refine GO.nil ?_
      rcases ite_elim H with ⟨c9, H⟩ | ⟨c9, H⟩
      ·
       refine G.noB rfl (congrArg Bool.not (decide_eq_true c9)) ?_
       refine G.skip ?_
       refine G.seq ?_
       refine G.region ?_
       refine GO.assign rfl rfl rfl ?_
       refine GO.nil ?_
       obtain rfl := Option.some.inj H
       exact G.ret1 _ Try.func114 rfl rfl ⟨rfl, (HS.pick 2 [])⟩
      ·
       refine G.yesB rfl (congrArg Bool.not (decide_eq_false c9)) ?_
       refine G.seq ?_
       refine G.region ?_
       refine GO.assign rfl rfl rfl ?_
       refine GO.nil ?_
       obtain rfl := Option.some.inj H
       exact G.ret1 _ Try.func114 rfl rfl ⟨rfl, (HS.pick 2 [])⟩
     ·
      refine G.yesB rfl (congrArg Bool.not (decide_eq_false c8)) ?_
      refine G.seq ?_
      refine G.region ?_
      refine GO.assign rfl rfl rfl ?_
      refine GO.nil ?_
      obtain rfl := Option.some.inj H
      exact G.ret1 _ Try.func114 rfl rfl ⟨rfl, (HS.pick 2 [])⟩
    ·
     refine G.yesB rfl (congrArg Bool.not (decide_eq_false c7)) ?_
     refine G.seq ?_
     refine G.region ?_
     refine GO.assign rfl rfl rfl ?_
     refine GO.nil ?_
     obtain rfl := Option.some.inj H
     exact G.ret1 _ Try.func114 rfl rfl ⟨rfl, (HS.pick 2 [])⟩
   ·
    refine G.yesB rfl (congrArg Bool.not (decide_eq_false c6)) ?_
    refine G.seq ?_
    refine G.region ?_
    refine GO.assign rfl rfl rfl ?_
    refine GO.nil ?_
    obtain rfl := Option.some.inj H
    exact G.ret1 _ Try.func114 rfl rfl ⟨rfl, (HS.pick 2 [])⟩
  ·
   refine G.yesB rfl (congrArg Bool.not (decide_eq_false c5)) ?_
   refine G.seq ?_
   refine G.region ?_
   refine GO.assign rfl rfl rfl ?_
   refine GO.nil ?_
   obtain rfl := Option.some.inj H
   exact G.ret1 _ Try.func114 rfl rfl ⟨rfl, (HS.pick 2 [])⟩

set_option maxRecDepth 20000 in
set_option maxHeartbeats 40000000 in
theorem laws_eqCrossingS.calls {w0 w : World} {L : List HObj} {K : Nat} {a_ : List GCrossing} {b_ : List GCrossing} {A_a_ : Option Addr} {c_a_ : Nat} {A_b_ : Option Addr} {c_b_ : Nat} {r1 : Bool} (HS : St w0 w (L)) (h_a_ : RdIn w0 L T_GCrossing A_a_ c_a_ (fun _ => ()) a_) (h_b_ : RdIn w0 L T_GCrossing A_b_ c_b_ (fun _ => ()) b_) (H : laws_eqCrossingS.f K a_ b_ = some r1) :
    Calls Try.prog 51 #[.slice A_a_ a_.length c_a_, .slice A_b_ b_.length c_b_] w (laws_eqCrossingS.post w0 L a_ b_ A_a_ c_a_ A_b_ c_b_ r1) := by
  unfold laws_eqCrossingS.f at H
  refine Calls.of_G Try.func51 rfl rfl rfl ?_
  refine G.seq ?_
  refine G.region ?_
  refine GO.assign rfl rfl rfl ?_
  refine GO.nil ?_
  refine G.seq ?_
  refine G.seq ?_
  refine G.region ?_
  refine GO.move rfl rfl rfl ?_
  refine GO.lenS rfl rfl Try.underlying26 rfl ?_
  refine GO.move rfl rfl rfl ?_
  refine GO.lenS rfl rfl Try.underlying26 rfl ?_
  refine GO.neq rfl rfl rfl rfl ?_
  refine GO.nil ?_
  rcases ite_elim H with ⟨c1, H⟩ | ⟨c1, H⟩
  ·
   refine G.noB rfl (congrArg Bool.not (decide_eq_true c1)) ?_
   refine G.skip ?_
   refine G.seq ?_
   refine G.seq ?_
   refine G.region ?_
   refine GO.assign rfl rfl rfl ?_
   refine GO.nil ?_
   refine G.block ?_
   refine G.loop ?_
   refine G.name (fun k_l1 hk_l1 => ?_)
   have at_l1 : ∀ m_l1, m_l1 ≤ K → ∀ (i_14 : Int) (w : World), laws_eqCrossingS.l1 K m_l1 a_ b_ i_14 = some r1 → St w0 w (L) → G Try.prog 51 27 [(0, .slice A_a_ a_.length c_a_), (1, .slice A_b_ b_.length c_b_), (5, .int .i64 i_14)] k_l1 w (laws_eqCrossingS.post w0 L a_ b_ A_a_ c_a_ A_b_ c_b_ r1) := by
    intro m_l1
    induction m_l1 using Nat.strongRecOn with
    | _ m_l1 ih_l1 =>
     intro hm_l1 i_14 w H HS
     cases m_l1 with
     | zero => rw [laws_eqCrossingS.l1] at H; cases H
     | succ n_l1 =>
      rw [laws_eqCrossingS.l1] at H
      subst hk_l1
      refine G.seq ?_
      refine G.seq ?_
      refine G.region ?_
      refine GO.move rfl rfl rfl ?_
      refine GO.move rfl rfl rfl ?_
      refine GO.lenS rfl rfl Try.underlying26 rfl ?_
      refine GO.lss rfl rfl rfl rfl ?_
      refine GO.nil ?_
      rcases ite_elim H with ⟨c27, H⟩ | ⟨c27, H⟩
      ·
       refine G.yesB rfl (decide_eq_true c27) ?_
       refine G.skip ?_
       refine G.seq ?_
       refine G.block ?_
       refine G.seq ?_
       obtain ⟨c28, H⟩ := ite_none H
       obtain ⟨e29, h30, H⟩ := bnd_elim H
       obtain ⟨c31, H⟩ := ite_none H
       obtain ⟨e32, h33, H⟩ := bnd_elim H
       obtain ⟨t34, h35, H⟩ := Option.bind_eq_some_iff.1 H
       refine G.regionAny mixed (by decide) (fun b a w => ∃ (Y1_0 : Value) (Y2_1 : Value) (Y3_2 : Value) (Y4_3 : Value) (Y5_4 : Value) (Y6_5 : Value) (Y7_6 : Value) (Y8_7 : Value) (Y9_8 : Value) (Y10_9 : Value), Sat 27 [(17, Y1_0), (18, Y2_1), (19, Y3_2), (20, Y4_3), (21, Y5_4), (22, Y6_5), (23, Y7_6), (24, Y8_7), (25, Y9_8), (26, Y10_9), (0, .slice A_a_ a_.length c_a_), (1, .slice A_b_ b_.length c_b_), (5, .int .i64 i_14)] a ∧ St w0 w (L) ∧ (b 0 = true → Y1_0 = (.slice A_a_ a_.length c_a_)) ∧ (b 1 = true → Y2_1 = (.int .i64 i_14)) ∧ (b 2 = true → Y3_2 = (.pointer (some (ea A_a_ (i_14.toNat * 5))))) ∧ (b 3 = true → Y4_3 = (.agg [.int .i64 e29.A, .int .i64 e29.B, .int .i64 e29.C, .int .i64 e29.D, .int .i64 e29.Sign].toArray)) ∧ (b 4 = true → Y5_4 = (.slice A_b_ b_.length c_b_)) ∧ (b 5 = true → Y6_5 = (.int .i64 i_14)) ∧ (b 6 = true → Y7_6 = (.pointer (some (ea A_b_ (i_14.toNat * 5))))) ∧ (b 7 = true → Y8_7 = (.agg [.int .i64 e32.A, .int .i64 e32.B, .int .i64 e32.C, .int .i64 e32.D, .int .i64 e32.Sign].toArray)) ∧ (b 8 = true → Y9_8 = (.bool t34)) ∧ (b 9 = true → Y10_9 = (.bool (!t34)))) ?_ ?_ ?_
       ·
        intro a hs
        obtain ⟨Y1_0, hs⟩ := hs.ext (d := 17) rfl
        obtain ⟨Y2_1, hs⟩ := hs.ext (d := 18) rfl
        obtain ⟨Y3_2, hs⟩ := hs.ext (d := 19) rfl
        obtain ⟨Y4_3, hs⟩ := hs.ext (d := 20) rfl
        obtain ⟨Y5_4, hs⟩ := hs.ext (d := 21) rfl
        obtain ⟨Y6_5, hs⟩ := hs.ext (d := 22) rfl
        obtain ⟨Y7_6, hs⟩ := hs.ext (d := 23) rfl
        obtain ⟨Y8_7, hs⟩ := hs.ext (d := 24) rfl
        obtain ⟨Y9_8, hs⟩ := hs.ext (d := 25) rfl
        obtain ⟨Y10_9, hs⟩ := hs.ext (d := 26) rfl
        exact ⟨Y1_0, Y2_1, Y3_2, Y4_3, Y5_4, Y6_5, Y7_6, Y8_7, Y9_8, Y10_9, hs.weak ⟨rfl, rfl, rfl, rfl, rfl, rfl, rfl, rfl, rfl, rfl, rfl, rfl, rfl, trivial⟩, (HS.drew.pick 0 []), fun h => Bool.noConfusion h, fun h => Bool.noConfusion h, fun h => Bool.noConfusion h, fun h => Bool.noConfusion h, fun h => Bool.noConfusion h, fun h => Bool.noConfusion h, fun h => Bool.noConfusion h, fun h => Bool.noConfusion h, fun h => Bool.noConfusion h, fun h => Bool.noConfusion h⟩
       ·
        intro j hj b a w
        refine exI fun Y1_0 => exI fun Y2_1 => exI fun Y3_2 => exI fun Y4_3 => exI fun Y5_4 => exI fun Y6_5 => exI fun Y7_6 => exI fun Y8_7 => exI fun Y9_8 => exI fun Y10_9 => anI fun hs => anI fun HS => anI fun f0 => anI fun f1 => anI fun f2 => anI fun f3 => anI fun f4 => anI fun f5 => anI fun f6 => anI fun f7 => anI fun f8 => fun f9 hb hd hcl => ?_
        match j, hj with
        | 0, _ =>
         refine GO.at hs ?_
         refine GO.move rfl rfl rfl ?_
         refine GO.fin (fun a hs => ?_)
         exact ⟨(.slice A_a_ a_.length c_a_), _, _, _, _, _, _, _, _, _, by exact hs.setAt 0 rfl, HS, fun _ => rfl, f1, f2, f3, f4, f5, f6, f7, f8, f9⟩
        | 1, _ =>
         refine GO.at hs ?_
         refine GO.move rfl rfl rfl ?_
         refine GO.fin (fun a hs => ?_)
         exact ⟨_, (.int .i64 i_14), _, _, _, _, _, _, _, _, by exact hs.setAt 1 rfl, HS, f0, fun _ => rfl, f2, f3, f4, f5, f6, f7, f8, f9⟩
        | 2, _ =>
         have hb0 : b 0 = true := hd 0 (by decide)
         obtain rfl := f0 hb0
         have hb1 : b 1 = true := hd 1 (by decide)
         obtain rfl := f1 hb1
         refine GO.at hs ?_
         refine GO.ix rfl rfl rfl Try.underlying26 sz58 (h_a_ _ HS).2.2.1 c28.1 c28.2 rfl ?_
         refine GO.fin (fun a hs => ?_)
         exact ⟨_, _, (.pointer (some (ea A_a_ (i_14.toNat * 5)))), _, _, _, _, _, _, _, by exact hs.setAt 2 rfl, HS, f0, f1, fun _ => rfl, f3, f4, f5, f6, f7, f8, f9⟩
        | 3, _ =>
         have hb2 : b 2 = true := hd 2 (by decide)
         obtain rfl := f2 hb2
         refine GO.at hs ?_
         refine GO.ldRdA (T := T_GCrossing) (n := i_14.toNat) HS h_a_ rfl rfl (getD_eq (ltN c28) h30) ag58 rfl ?_
         refine GO.fin (fun a hs => ?_)
         exact ⟨_, _, _, (.agg [.int .i64 e29.A, .int .i64 e29.B, .int .i64 e29.C, .int .i64 e29.D, .int .i64 e29.Sign].toArray), _, _, _, _, _, _, by exact hs.setAt 3 rfl, HS, f0, f1, f2, fun _ => rfl, f4, f5, f6, f7, f8, f9⟩
        | 4, _ =>
         refine GO.at hs ?_
         refine GO.move rfl rfl rfl ?_
         refine GO.fin (fun a hs => ?_)
         exact ⟨_, _, _, _, (.slice A_b_ b_.length c_b_), _, _, _, _, _, by exact hs.setAt 4 rfl, HS, f0, f1, f2, f3, fun _ => rfl, f5, f6, f7, f8, f9⟩
        | 5, _ =>
         refine GO.at hs ?_
         refine GO.move rfl rfl rfl ?_
         refine GO.fin (fun a hs => ?_)
         exact ⟨_, _, _, _, _, (.int .i64 i_14), _, _, _, _, by exact hs.setAt 5 rfl, HS, f0, f1, f2, f3, f4, fun _ => rfl, f6, f7, f8, f9⟩
        | 6, _ =>
         have hb4 : b 4 = true := hd 4 (by decide)
         obtain rfl := f4 hb4
         have hb5 : b 5 = true := hd 5 (by decide)
         obtain rfl := f5 hb5
         refine GO.at hs ?_
         refine GO.ix rfl rfl rfl Try.underlying26 sz58 (h_b_ _ HS).2.2.1 c31.1 c31.2 rfl ?_
         refine GO.fin (fun a hs => ?_)
         exact ⟨_, _, _, _, _, _, (.pointer (some (ea A_b_ (i_14.toNat * 5)))), _, _, _, by exact hs.setAt 6 rfl, HS, f0, f1, f2, f3, f4, f5, fun _ => rfl, f7, f8, f9⟩
        | 7, _ =>
         have hb6 : b 6 = true := hd 6 (by decide)
         obtain rfl := f6 hb6
         refine GO.at hs ?_
         refine GO.ldRdA (T := T_GCrossing) (n := i_14.toNat) HS h_b_ rfl rfl (getD_eq (ltN c31) h33) ag58 rfl ?_
         refine GO.fin (fun a hs => ?_)
         exact ⟨_, _, _, _, _, _, _, (.agg [.int .i64 e32.A, .int .i64 e32.B, .int .i64 e32.C, .int .i64 e32.D, .int .i64 e32.Sign].toArray), _, _, by exact hs.setAt 7 rfl, HS, f0, f1, f2, f3, f4, f5, f6, fun _ => rfl, f8, f9⟩
        | 8, _ =>
         have hb3 : b 3 = true := hd 3 (by decide)
         obtain rfl := f3 hb3
         have hb7 : b 7 = true := hd 7 (by decide)
         obtain rfl := f7 hb7
         refine GO.at hs ?_
         refine GO.fn rfl Try.func114 fok114.1 fok114.2 rfl rfl (laws_eqCrossing.calls HS  h35) (fun _ wd36 ⟨h37, HS⟩ => ⟨_, h37, ?_⟩)
         refine GO.fin (fun a hs => ?_)
         exact ⟨_, _, _, _, _, _, _, _, (.bool t34), _, by exact hs.setAt 8 rfl, HS, f0, f1, f2, f3, f4, f5, f6, f7, fun _ => rfl, f9⟩
        | 9, _ =>
         have hb8 : b 8 = true := hd 8 (by decide)
         obtain rfl := f8 hb8
         refine GO.at hs ?_
         refine GO.not rfl rfl rfl ?_
         refine GO.fin (fun a hs => ?_)
         exact ⟨_, _, _, _, _, _, _, _, _, (.bool (!t34)), by exact hs.setAt 9 rfl, HS, f0, f1, f2, f3, f4, f5, f6, f7, f8, fun _ => rfl⟩
        | k + 10, hj => exact absurd hj (Nat.not_lt.2 (Nat.le_add_left 10 k))
       ·
        intro b a w hall
        refine exI fun Y1_0 => exI fun Y2_1 => exI fun Y3_2 => exI fun Y4_3 => exI fun Y5_4 => exI fun Y6_5 => exI fun Y7_6 => exI fun Y8_7 => exI fun Y9_8 => exI fun Y10_9 => anI fun hs => anI fun HS => anI fun f0 => anI fun f1 => anI fun f2 => anI fun f3 => anI fun f4 => anI fun f5 => anI fun f6 => anI fun f7 => anI fun f8 => fun f9 => ?_
        obtain rfl := f0 (hall 0 (by decide))
        obtain rfl := f1 (hall 1 (by decide))
        obtain rfl := f2 (hall 2 (by decide))
        obtain rfl := f3 (hall 3 (by decide))
        obtain rfl := f4 (hall 4 (by decide))
        obtain rfl := f5 (hall 5 (by decide))
        obtain rfl := f6 (hall 6 (by decide))
        obtain rfl := f7 (hall 7 (by decide))
        obtain rfl := f8 (hall 8 (by decide))
        obtain rfl := f9 (hall 9 (by decide))
        refine G.at hs ?_
        rcases ite_elim H with ⟨c38, H⟩ | ⟨c38, H⟩
        ·
         refine G.noB rfl (congrArg Bool.not c38) ?_
         refine G.skip ?_
         refine G.blockEnd ?_
         refine G.region ?_
         refine GO.move rfl rfl rfl ?_
         refine GO.add rfl rfl rfl rfl ?_
         refine GO.assign rfl rfl rfl ?_
         refine GO.nil ?_
         refine G.again ?_
         refine G.weak ?_ (ih_l1 n_l1 (Nat.lt_succ_of_le (Nat.le_refl _)) (Nat.le_of_succ_le hm_l1) _ _ H HS)
         exact ⟨rfl, rfl, rfl, trivial⟩
        ·
         refine G.yesB rfl (congrArg Bool.not (bnot_of c38)) ?_
         refine G.seq ?_
         refine G.region ?_
         refine GO.assign rfl rfl rfl ?_
         refine GO.nil ?_
         obtain rfl := Option.some.inj H
         exact G.ret1 _ Try.func51 rfl rfl ⟨rfl, HS⟩
      ·
       refine G.noB rfl (decide_eq_false c27) ?_
       refine G.exit rfl ?_
       refine G.seq ?_
       refine G.region ?_
       refine GO.assign rfl rfl rfl ?_
       refine GO.nil ?_
       obtain rfl := Option.some.inj H
       exact G.ret1 _ Try.func51 rfl rfl ⟨rfl, HS⟩
   refine G.weak ?_ (at_l1 K (Nat.le_refl _) _ _ H HS)
   exact ⟨rfl, rfl, rfl, trivial⟩
  ·
   refine G.yesB rfl (congrArg Bool.not (decide_eq_false c1)) ?_
   refine G.seq ?_
   refine G.region ?_
   refine GO.assign rfl rfl rfl ?_
   refine GO.nil ?_
   obtain rfl := Option.some.inj H
   exact G.ret1 _ Try.func51 rfl rfl ⟨rfl, HS⟩

set_option maxRecDepth 20000 in
set_option maxHeartbeats 40000000 in
theorem laws_eqDiagram.calls {w0 w : World} {L : List HObj} {K : Nat} {a_Crossings : List GCrossing} {a_Circles : Int} {b_Crossings : List GCrossing} {b_Circles : Int} {A_a_Crossings : Option Addr} {c_a_Crossings : Nat} {A_b_Crossings : Option Addr} {c_b_Crossings : Nat} {r1 : Bool} (HS : St w0 w (L)) (h_a_Crossings : RdIn w0 L T_GCrossing A_a_Crossings c_a_Crossings (fun _ => ()) a_Crossings) (h_b_Crossings : RdIn w0 L T_GCrossing A_b_Crossings c_b_Crossings (fun _ => ()) b_Crossings) (H : laws_eqDiagram.f K a_Crossings a_Circles b_Crossings b_Circles = some r1) :
    Calls Try.prog 16 #[.agg [.slice A_a_Crossings a_Crossings.length c_a_Crossings, .int .i64 a_Circles].toArray, .agg [.slice A_b_Crossings b_Crossings.length c_b_Crossings, .int .i64 b_Circles].toArray] w (laws_eqDiagram.post w0 L a_Crossings a_Circles b_Crossings b_Circles A_a_Crossings c_a_Crossings A_b_Crossings c_b_Crossings r1) := by
  unfold laws_eqDiagram.f at H
  refine Calls.of_G Try.func16 rfl rfl rfl ?_
  refine G.seq ?_
  refine G.region ?_
  refine GO.box (cs := [.slice A_a_Crossings a_Crossings.length c_a_Crossings, .int .i64 a_Circles]) HS rfl rfl rfl rfl ?_; intro b1 wd2 HS
  refine GO.box (cs := [.slice A_b_Crossings b_Crossings.length c_b_Crossings, .int .i64 b_Circles]) HS rfl rfl rfl rfl ?_; intro b3 wd4 HS
  refine GO.assign rfl rfl rfl ?_
  refine GO.nil ?_
  refine G.seq ?_
  refine G.seq ?_
  obtain ⟨t5, h6, H⟩ := Option.bind_eq_some_iff.1 H
  refine G.region ?_
  refine GO.fld (⟨b1, 0, none⟩) rfl rfl fl28_0 rfl rfl ?_
  refine GO.ldBox (j := 1) HS rfl rfl rfl rfl na26 rfl ?_
  refine GO.fld (⟨b3, 0, none⟩) rfl rfl fl28_0 rfl rfl ?_
  refine GO.ldBox (j := 0) HS rfl rfl rfl rfl na26 rfl ?_
  refine GO.fn rfl Try.func51 fok51.1 fok51.2 rfl rfl (laws_eqCrossingS.calls HS (RdIn.drop 2 h_a_Crossings) (RdIn.drop 2 h_b_Crossings) h6) (fun _ wd7 ⟨h8, HS⟩ => ⟨_, h8, ?_⟩)
  refine GO.not rfl rfl rfl ?_
  refine GO.nil ?_
  rcases ite_elim H with ⟨c9, H⟩ | ⟨c9, H⟩
  ·
   refine G.noB rfl (congrArg Bool.not c9) ?_
   refine G.skip ?_
   refine G.seq ?_
   refine G.seq ?_
   refine G.region ?_
   refine GO.fld (⟨b1, 1, none⟩) rfl rfl fl28_1 rfl rfl ?_
   refine GO.ldBox (j := 1) HS rfl rfl rfl rfl na2 rfl ?_
   refine GO.fld (⟨b3, 1, none⟩) rfl rfl fl28_1 rfl rfl ?_
   refine GO.ldBox (j := 0) HS rfl rfl rfl rfl na2 rfl ?_
   refine GO.neq rfl rfl rfl rfl ?_
   refine GO.nil ?_
   rcases ite_elim H with ⟨c10, H⟩ | ⟨c10, H⟩
   ·
    refine G.noB rfl (congrArg Bool.not (decide_eq_true c10)) ?_
    refine G.skip ?_
    refine G.seq ?_
    refine G.region ?_
    refine GO.assign rfl rfl rfl ?_
    refine GO.nil ?_
    obtain rfl := Option.some.inj H
    exact G.ret1 _ Try.func16 rfl rfl ⟨rfl, (HS.pick 2 [])⟩
   ·
    refine G.yesB rfl (congrArg Bool.not (decide_eq_false c10)) ?_
    refine G.seq ?_
    refine G.region ?_
    refine GO.assign rfl rfl rfl ?_
    refine GO.nil ?_
    obtain rfl := Option.some.inj H
    exact G.ret1 _ Try.func16 rfl rfl ⟨rfl, (HS.pick 2 [])⟩
  ·
   refine G.yesB rfl (congrArg Bool.not (bnot_of c9)) ?_
   refine G.seq ?_
   refine G.region ?_
   refine GO.assign rfl rfl rfl ?_
   refine GO.nil ?_
   obtain rfl := Option.some.inj H
   exact G.ret1 _ Try.func16 rfl rfl ⟨rfl, (HS.pick 2 [])⟩

set_option maxRecDepth 20000 in
set_option maxHeartbeats 40000000 in
theorem laws_markCrossingS.calls {w0 w : World} {L : List HObj} {K : Nat} {a_ : List GCrossing} {k_ : Int} {A_a_ : Option Addr} {c_a_ : Nat} {r1 : Int} {r2 : List GCrossing} (HS : St w0 w (Own T_GCrossing 58 A_a_ c_a_ (fun _ => ()) a_ :: L)) (H : laws_markCrossingS.f K a_ k_ = some (r1, r2)) :
    Calls Try.prog 52 #[.slice A_a_ a_.length c_a_, .int .i64 k_] w (laws_markCrossingS.post w0 L a_ k_ A_a_ c_a_ r1 r2) := by
  unfold laws_markCrossingS.f at H
  refine Calls.of_G Try.func52 rfl rfl rfl ?_
  refine G.seq ?_
  refine G.region ?_
  refine GO.assign rfl rfl rfl ?_
  refine GO.nil ?_
  refine G.seq ?_
  refine G.seq ?_
  refine G.region ?_
  refine GO.assign rfl rfl rfl ?_
  refine GO.nil ?_
  refine G.block ?_
  refine G.loop ?_
  refine G.name (fun k_l1 hk_l1 => ?_)
  have at_l1 : ∀ m_l1, m_l1 ≤ K → ∀ (x22 : List GCrossing) (k_23 : Int) (i_24 : Int) (w : World), laws_markCrossingS.l1 K m_l1 x22 k_23 i_24 = some (r1, r2) → St w0 w (Own T_GCrossing 58 A_a_ c_a_ (fun _ => ()) x22 :: L) → G Try.prog 52 48 [(0, .slice A_a_ x22.length c_a_), (1, .int .i64 k_23), (5, .int .i64 i_24)] k_l1 w (laws_markCrossingS.post w0 L a_ k_ A_a_ c_a_ r1 r2) := by
   intro m_l1
   induction m_l1 using Nat.strongRecOn with
   | _ m_l1 ih_l1 =>
    intro hm_l1 x22 k_23 i_24 w H HS
    cases m_l1 with
    | zero => rw [laws_markCrossingS.l1] at H; cases H
    | succ n_l1 =>
     rw [laws_markCrossingS.l1] at H
     subst hk_l1
     refine G.seq ?_
     refine G.seq ?_
     refine G.region ?_
     refine GO.move rfl rfl rfl ?_
     refine GO.move rfl rfl rfl ?_
     refine GO.lenS rfl rfl Try.underlying26 rfl ?_
     refine GO.lss rfl rfl rfl rfl ?_
     refine GO.nil ?_
     rcases ite_elim H with ⟨c46, H⟩ | ⟨c46, H⟩
     ·
      refine G.yesB rfl (decide_eq_true c46) ?_
      refine G.skip ?_
      refine G.seq ?_
      refine G.block ?_
      refine G.seq ?_
      obtain ⟨c47, H⟩ := ite_none H
      obtain ⟨e49, h50, H⟩ := bnd_elim H
      refine G.region ?_
      refine GO.move rfl rfl rfl ?_
      refine GO.move rfl rfl rfl ?_
      refine GO.move rfl rfl rfl ?_
      refine GO.ix rfl rfl rfl Try.underlying26 sz58 ((RdIn.own (j := 0) rfl) _ HS).2.2.1 c47.1 c47.2 rfl ?_
      refine GO.fld (ea A_a_ (i_24.toNat * 5)) rfl rfl fl58_0 rfl rfl ?_
      refine GO.stRow (T := T_GCrossing) (j := 0) (n := i_24.toNat) (o := 0) (vs := [.int .i64 k_23]) ({ e49 with A := k_23 }) HS rfl flat_flat rfl rfl rfl rfl (htN na2 rfl) rfl (getD_eq (ltN c47) h50) rfl rfl ?_; intro wd48 HS
      refine GO.nil ?_
      refine G.len (t := 0) (m := (x22.set i_24.toNat ({ e49 with A := k_23 })).length) rfl (by simp only [List.length_set] <;> rfl) ?_
      refine G.seq ?_
      refine G.region ?_
      refine GO.move rfl rfl rfl ?_
      refine GO.add rfl rfl rfl rfl ?_
      refine GO.assign rfl rfl rfl ?_
      refine GO.nil ?_
      refine G.seq ?_
      obtain ⟨c51, H⟩ := ite_none H
      obtain ⟨e53, h54, H⟩ := bnd_elim H
      refine G.region ?_
      refine GO.move rfl rfl rfl ?_
      refine GO.move rfl rfl rfl ?_
      refine GO.move rfl rfl rfl ?_
      refine GO.ix rfl rfl rfl Try.underlying26 sz58 ((RdIn.own (j := 0) rfl) _ HS).2.2.1 c51.1 c51.2 rfl ?_
      refine GO.fld (ea A_a_ (i_24.toNat * 5 + 1)) rfl rfl fl58_1 (ea_add _ _ _) rfl ?_
      refine GO.stRow (T := T_GCrossing) (j := 0) (n := i_24.toNat) (o := 1) (vs := [.int .i64 (w64 (k_23 + 1))]) ({ e53 with B := w64 (k_23 + 1) }) HS rfl flat_flat rfl rfl rfl rfl (htN na2 rfl) rfl (getD_eq (ltN c51) h54) rfl rfl ?_; intro wd52 HS
      refine GO.nil ?_
      refine G.len (t := 0) (m := ((x22.set i_24.toNat ({ e49 with A := k_23 })).set i_24.toNat ({ e53 with B := w64 (k_23 + 1) })).length) rfl (by simp only [List.length_set] <;> rfl) ?_
      refine G.seq ?_
      refine G.region ?_
      refine GO.move rfl rfl rfl ?_
      refine GO.add rfl rfl rfl rfl ?_
      refine GO.assign rfl rfl rfl ?_
      refine GO.nil ?_
      refine G.seq ?_
      obtain ⟨c55, H⟩ := ite_none H
      obtain ⟨e57, h58, H⟩ := bnd_elim H
      refine G.region ?_
      refine GO.move rfl rfl rfl ?_
      refine GO.move rfl rfl rfl ?_
      refine GO.move rfl rfl rfl ?_
      refine GO.ix rfl rfl rfl Try.underlying26 sz58 ((RdIn.own (j := 0) rfl) _ HS).2.2.1 c55.1 c55.2 rfl ?_
      refine GO.fld (ea A_a_ (i_24.toNat * 5 + 2)) rfl rfl fl58_2 (ea_add _ _ _) rfl ?_
      refine GO.stRow (T := T_GCrossing) (j := 0) (n := i_24.toNat) (o := 2) (vs := [.int .i64 (w64 ((w64 (k_23 + 1)) + 1))]) ({ e57 with C := w64 ((w64 (k_23 + 1)) + 1) }) HS rfl flat_flat rfl rfl rfl rfl (htN na2 rfl) rfl (getD_eq (ltN c55) h58) rfl rfl ?_; intro wd56 HS
      refine GO.nil ?_
      refine G.len (t := 0) (m := (((x22.set i_24.toNat ({ e49 with A := k_23 })).set i_24.toNat ({ e53 with B := w64 (k_23 + 1) })).set i_24.toNat ({ e57 with C := w64 ((w64 (k_23 + 1)) + 1) })).length) rfl (by simp only [List.length_set] <;> rfl) ?_
      refine G.seq ?_
      refine G.region ?_
      refine GO.move rfl rfl rfl ?_
      refine GO.add rfl rfl rfl rfl ?_
      refine GO.assign rfl rfl rfl ?_
      refine GO.nil ?_
      refine G.seq ?_
      obtain ⟨c59, H⟩ := ite_none H
      obtain ⟨e61, h62, H⟩ := bnd_elim H
      refine G.region ?_
      refine GO.move rfl rfl rfl ?_
      refine GO.move rfl rfl rfl ?_
      refine GO.move rfl rfl rfl ?_
      refine GO.ix rfl rfl rfl Try.underlying26 sz58 ((RdIn.own (j := 0) rfl) _ HS).2.2.1 c59.1 c59.2 rfl ?_
      refine GO.fld (ea A_a_ (i_24.toNat * 5 + 3)) rfl rfl fl58_3 (ea_add _ _ _) rfl ?_
      refine GO.stRow (T := T_GCrossing) (j := 0) (n := i_24.toNat) (o := 3) (vs := [.int .i64 (w64 ((w64 ((w64 (k_23 + 1)) + 1)) + 1))]) ({ e61 with D := w64 ((w64 ((w64 (k_23 + 1)) + 1)) + 1) }) HS rfl flat_flat rfl rfl rfl rfl (htN na2 rfl) rfl (getD_eq (ltN c59) h62) rfl rfl ?_; intro wd60 HS
      refine GO.nil ?_
      refine G.len (t := 0) (m := ((((x22.set i_24.toNat ({ e49 with A := k_23 })).set i_24.toNat ({ e53 with B := w64 (k_23 + 1) })).set i_24.toNat ({ e57 with C := w64 ((w64 (k_23 + 1)) + 1) })).set i_24.toNat ({ e61 with D := w64 ((w64 ((w64 (k_23 + 1)) + 1)) + 1) })).length) rfl (by simp only [List.length_set] <;> rfl) ?_
      refine G.seq ?_
      refine G.region ?_
      refine GO.move rfl rfl rfl ?_
      refine GO.add rfl rfl rfl rfl ?_
      refine GO.assign rfl rfl rfl ?_
      refine GO.nil ?_
      refine G.seq ?_
      obtain ⟨c63, H⟩ := ite_none H
      obtain ⟨e65, h66, H⟩ := bnd_elim H
      refine G.region ?_
      refine GO.move rfl rfl rfl ?_
      refine GO.move rfl rfl rfl ?_
      refine GO.move rfl rfl rfl ?_
      refine GO.ix rfl rfl rfl Try.underlying26 sz58 ((RdIn.own (j := 0) rfl) _ HS).2.2.1 c63.1 c63.2 rfl ?_
      refine GO.fld (ea A_a_ (i_24.toNat * 5 + 4)) rfl rfl fl58_4 (ea_add _ _ _) rfl ?_
      refine GO.stRow (T := T_GCrossing) (j := 0) (n := i_24.toNat) (o := 4) (vs := [.int .i64 (w64 ((w64 ((w64 ((w64 (k_23 + 1)) + 1)) + 1)) + 1))]) ({ e65 with Sign := w64 ((w64 ((w64 ((w64 (k_23 + 1)) + 1)) + 1)) + 1) }) HS rfl flat_flat rfl rfl rfl rfl (htN na2 rfl) rfl (getD_eq (ltN c63) h66) rfl rfl ?_; intro wd64 HS
      refine GO.nil ?_
      refine G.len (t := 0) (m := (((((x22.set i_24.toNat ({ e49 with A := k_23 })).set i_24.toNat ({ e53 with B := w64 (k_23 + 1) })).set i_24.toNat ({ e57 with C := w64 ((w64 (k_23 + 1)) + 1) })).set i_24.toNat ({ e61 with D := w64 ((w64 ((w64 (k_23 + 1)) + 1)) + 1) })).set i_24.toNat ({ e65 with Sign := w64 ((w64 ((w64 ((w64 (k_23 + 1)) + 1)) + 1)) + 1) })).length) rfl (by simp only [List.length_set] <;> rfl) ?_
      refine G.region ?_
      refine GO.move rfl rfl rfl ?_
      refine GO.add rfl rfl rfl rfl ?_
      refine GO.assign rfl rfl rfl ?_
      refine GO.nil ?_
      refine G.blockEnd ?_
      refine G.region ?_
      refine GO.move rfl rfl rfl ?_
      refine GO.add rfl rfl rfl rfl ?_
      refine GO.assign rfl rfl rfl ?_
      refine GO.nil ?_
      refine G.again ?_
      refine G.weak ?_ (ih_l1 n_l1 (Nat.lt_succ_of_le (Nat.le_refl _)) (Nat.le_of_succ_le hm_l1) _ _ _ _ H HS)
      exact ⟨rfl, rfl, rfl, trivial⟩
     ·
      refine G.noB rfl (decide_eq_false c46) ?_
      refine G.exit rfl ?_
      refine G.seq ?_
      refine G.region ?_
      refine GO.move rfl rfl rfl ?_
      refine GO.assign rfl rfl rfl ?_
      refine GO.nil ?_
      obtain ⟨rfl, rfl⟩ := some2 H
      exact G.ret1 _ Try.func52 rfl rfl ⟨rfl, HS⟩
  refine G.weak ?_ (at_l1 K (Nat.le_refl _) _ _ _ _ H HS)
  exact ⟨rfl, rfl, rfl, trivial⟩

set_option maxRecDepth 20000 in
set_option maxHeartbeats 40000000 in
theorem laws_markDiagram.calls {w0 w : World} {L : List HObj} {K : Nat} {a_Crossings : List GCrossing} {a_Circles : Int} {k_ : Int} {A_a_Crossings : Option Addr} {c_a_Crossings : Nat} {r1 : Int} {r2 : List GCrossing} (HS : St w0 w (Own T_GCrossing 58 A_a_Crossings c_a_Crossings (fun _ => ()) a_Crossings :: L)) (H : laws_markDiagram.f K a_Crossings a_Circles k_ = some (r1, r2)) :
    Calls Try.prog 17 #[.agg [.slice A_a_Crossings a_Crossings.length c_a_Crossings, .int .i64 a_Circles].toArray, .int .i64 k_] w (laws_markDiagram.post w0 L a_Crossings a_Circles k_ A_a_Crossings c_a_Crossings r1 r2) := by
  unfold laws_markDiagram.f at H
  refine Calls.of_G Try.func17 rfl rfl rfl ?_
  refine G.seq ?_
  refine G.region ?_
  refine GO.box (cs := [.slice A_a_Crossings a_Crossings.length c_a_Crossings, .int .i64 a_Circles]) HS rfl rfl rfl rfl ?_; intro b1 wd2 HS
  refine GO.assign rfl rfl rfl ?_
  refine GO.nil ?_
  refine G.seq ?_
  obtain ⟨t3, t4, h5, H⟩ := bind2_elim H
  obtain ⟨c6, H⟩ := ite_none H
  refine G.region ?_
  refine GO.fld (⟨b1, 0, none⟩) rfl rfl fl28_0 rfl rfl ?_
  refine GO.ldBox (j := 0) HS rfl rfl rfl rfl na26 rfl ?_
  refine GO.move rfl rfl rfl ?_
  replace HS := HS.pick 2 [1, 0]
  refine GO.fn rfl Try.func52 fok52.1 fok52.2 rfl rfl (laws_markCrossingS.calls HS  h5) (fun _ wd7 ⟨h8, HS⟩ => ⟨_, h8, ?_⟩)
  refine GO.assign rfl rfl rfl ?_
  refine GO.nil ?_
  replace HS := HS.boxEq (j := 1) (cs' := [.slice A_a_Crossings t4.length c_a_Crossings, .int .i64 a_Circles]) rfl (by simp only [List.length_set, c6] <;> rfl)
  refine G.seq ?_
  refine G.region ?_
  refine GO.move rfl rfl rfl ?_
  refine GO.assign rfl rfl rfl ?_
  refine GO.nil ?_
  obtain ⟨rfl, rfl⟩ := some2 H
  exact G.ret1 _ Try.func17 rfl rfl ⟨rfl, (HS.pick 2 [0])⟩

end Go.Proofs.Ytdafmbaeiefacaa
