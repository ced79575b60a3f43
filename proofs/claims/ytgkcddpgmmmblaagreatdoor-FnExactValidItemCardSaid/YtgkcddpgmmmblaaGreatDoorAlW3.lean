/-
  The walks through the functions: a call comes to what its list function says.
-/
import Derived.Test.YtgkcddpgmmmblaaGreatDoorAlF
import Derived.Test.YtgkcddpgmmmblaaGreatDoorAlW2
set_option linter.unusedVariables false
set_option linter.unusedSimpArgs false
namespace Go.Proofs.YtgkcddpgmmmblaaGreatDoor
open Go.RowKit
open Tryz
set_option maxRecDepth 20000
set_option maxHeartbeats 40000000
theorem slices_Repeat_impl_end_impl_end.calls {w0 w : World} {L : List HObj} {K : Nat} {x : List GEnd} {count : Int} {A_a : Option Addr} {c_a : Nat} {r1 : List GEnd} (HS : St w0 w (L)) (r_a : RdIn w0 L T_GEnd A_a c_a (fun _ => ()) x) (H : slices_Repeat_impl_end_impl_end.f K x count = some r1) :
    Calls prog 282 #[.slice A_a x.length c_a, .int .i64 count] w (slices_Repeat_impl_end_impl_end.post w0 L r1) := by
  unfold slices_Repeat_impl_end_impl_end.f at H
  refine Calls.of_G func282 rfl rfl rfl ?_
  refine G.run 5 rfl ?_
  rcases ite_elim H with ⟨c2, H⟩ | ⟨c2, H⟩
  ·
   refine G.yesB rfl (decide_eq_true c2) ?_
   cases H
  refine G.noB rfl (decide_eq_false c2) (G.run 2 rfl ?_)
  obtain ⟨t3, t4, h5, H⟩ := bind2_elim H
  refine G.region (GO.move rfl rfl rfl (GO.lenS rfl rfl underlying233 rfl (GO.conv rfl rfl underlying3 underlying245 rfl (GO.move rfl rfl rfl (GO.conv rfl rfl underlying3 underlying245 rfl (GO.fn rfl func303 fok303.1 fok303.2 rfl rfl (math_bits_Mul.calls HS  h5) (fun _ wd6 ⟨h7, HS⟩ => ⟨_, h7, (GO.ps 5 rfl (GO.nil (G.run 2 rfl ?_)))⟩)))))))
  refine G.nameT (fun k_j2 hk_j2 => ?_)
  have at_j2 : ∀ m_j2, m_j2 ≤ K → ∀ (x10 : Bool) (w : World), slices_Repeat_impl_end_impl_end.j2 K m_j2 x t4 x10 = some r1 → St w0 w (L) → G prog 282 48 [(0, .slice A_a x.length c_a), (6, .int .u64 t4), (26, .bool x10)] k_j2 w (slices_Repeat_impl_end_impl_end.post w0 L r1) := by
   intro m_j2 hm_j2 x10 w H HS
   cases m_j2 with
   | zero => rw [slices_Repeat_impl_end_impl_end.j2] at H; cases H
   | succ n_j2 =>
    rw [slices_Repeat_impl_end_impl_end.j2] at H
    subst hk_j2
    rcases ite_elim H with ⟨c12, H⟩ | ⟨c12, H⟩
    ·
     refine G.yesB rfl c12 ?_
     cases H
    refine G.noB rfl (bnot_of c12) (G.run 2 rfl ?_)
    obtain ⟨c13, H⟩ := ite_none H
    obtain ⟨c14, H⟩ := ite_none H
    refine G.region (GO.move rfl rfl rfl (GO.conv rfl rfl underlying245 underlying3 rfl (GO.make (T := T_GEnd) z_GEnd () HS flat_flat rfl rfl rfl underlying233 inf294 rfl rfl rfl c13 c14 rfl fun b15 wd16 HS => GO.assign rfl rfl rfl (GO.nil (G.seq ?_)))))
    have h18 := over_len (xs := (List.replicate (w64 (t4)).toNat z_GEnd)) (ys := x) (Nat.le_of_eq (Nat.zero_add _))
    refine G.region (GO.ps 2 rfl (GO.copyP (T := T_GEnd) (j := 0) (l := 0) HS rfl (RdIn.drop 1 r_a) flat_flat rfl rfl rfl underlying233 sz294 rfl wholeC (Nat.le_of_eq (Nat.zero_add _)) (fun _ _ => rfl) (fun _ => rfl) fun wd17 HS => GO.assign rfl rfl rfl (GO.nil (G.len (t := 7) (m := (over (List.replicate (w64 (t4)).toNat z_GEnd) 0 (x.take ((List.replicate (w64 (t4)).toNat z_GEnd).length))).length) rfl (by simp only [List.length_set, h18] <;> rfl) (G.run 3 rfl ?_)))))
    refine G.name (fun k_l4 hk_l4 => ?_)
    have at_l4 : ∀ m_l4, m_l4 ≤ n_j2 → ∀ (newslice_23 : List GEnd) (n_24 : Int) (w : World), slices_Repeat_impl_end_impl_end.l4 K m_l4 newslice_23 n_24 = some r1 → St w0 w (Own T_GEnd 294 (some ⟨b15, 0, none⟩) ((w64 (t4)).toNat) (fun _ => ()) newslice_23 :: L) → G prog 282 48 [(7, .slice (some ⟨b15, 0, none⟩) newslice_23.length ((w64 (t4)).toNat)), (8, .int .i64 n_24)] k_l4 w (slices_Repeat_impl_end_impl_end.post w0 L r1) := by
     intro m_l4
     induction m_l4 using Nat.strongRecOn with
     | _ m_l4 ih_l4 =>
      intro hm_l4 newslice_23 n_24 w H HS
      cases m_l4 with
      | zero => rw [slices_Repeat_impl_end_impl_end.l4] at H; cases H
      | succ n_l4 =>
       rw [slices_Repeat_impl_end_impl_end.l4] at H
       subst hk_l4
       refine G.run 2 rfl (G.region (GO.ps 2 rfl (GO.lenS rfl rfl underlying233 rfl (GO.lss rfl rfl rfl rfl (GO.nil ?_)))))
       rcases ite_elim H with ⟨c29, H⟩ | ⟨c29, H⟩
       ·
        refine G.yesB rfl (decide_eq_true c29) (G.run 2 rfl ?_)
        obtain ⟨c30, H⟩ := ite_none H
        have h32 := over_len (xs := newslice_23) (ys := ((newslice_23.take n_24.toNat).drop 0)) (cutN (leN c30) (Nat.le_refl _))
        refine G.lex mixed [0, 1, 2, 4, 5, 3, 6, 7, 8, 9] (by kernel_rfl) ?_
        replace HS := HS.drew
        refine GX.ps 5 rfl (GX.l1 rfl rfl rfl (fun _ g => GO.slL (T := T_GEnd) HS (RdIn.own (j := 0) rfl) rfl rfl rfl underlying233 sz294 c30.1 c30.2 rfl g) rfl (GX.l1 rfl rfl rfl (fun _ g => GO.slH (T := T_GEnd) HS (RdIn.own (j := 0) rfl) rfl rfl rfl underlying233 sz294 c30.1 c30.2 rfl g) rfl (GX.l2 rfl (GO.copyP (T := T_GEnd) (j := 0) (l := n_24.toNat) HS rfl (RdIn.cut (RdIn.own (j := 0) rfl) (Nat.zero_le _) (leN c30)) flat_flat rfl rfl rfl underlying233 sz294 rfl (cutC (Nat.le_refl _) ((RdIn.own (j := 0) rfl) _ HS).1) (cutN (leN c30) (Nat.le_refl _)) (fun _ _ => rfl) (fun _ => rfl) fun wd31 HS => GX.fin trivial (GX.ps 2 rfl (GX.nil (G.len (t := 7) (m := (over newslice_23 n_24.toNat (((newslice_23.take n_24.toNat).drop 0).take (((newslice_23.take newslice_23.length).drop n_24.toNat).length))).length) rfl (by simp only [List.length_set, h32] <;> rfl) (G.run 2 rfl (G.weak ?_ (ih_l4 n_l4 (Nat.lt_succ_of_le (Nat.le_refl _)) (Nat.le_of_succ_le hm_l4) _ _ _ H HS))))))))))
        exact ⟨rfl, rfl, trivial⟩
       refine G.noB rfl (decide_eq_false c29) (G.run 3 rfl ?_)
       obtain rfl := Option.some.inj H
       exact G.ret1 _ func282 rfl rfl ⟨_, _, rfl, HS⟩
    refine G.weak ?_ (at_l4 n_j2 (Nat.le_refl _) _ _ _ H HS)
    exact ⟨rfl, rfl, trivial⟩
  rcases ite_elim H with ⟨c33, H⟩ | ⟨c33, H⟩
  ·
   refine G.region (GO.ps 3 rfl (GO.known (t := 23) rfl (decide_eq_true c33) (GO.off rfl rfl rfl rfl rfl rfl (GO.off rfl rfl rfl rfl rfl rfl (GO.pickT rfl rfl rfl rfl rfl (GO.nil (G.weak ?_ (at_j2 K (Nat.le_refl _) _ _ H HS))))))))
   exact ⟨rfl, rfl, rfl, trivial⟩
  refine G.region (GO.ps 3 rfl (GO.known (t := 23) rfl (decide_eq_false c33) (GO.on rfl rfl rfl rfl (GO.move rfl rfl rfl (GO.back (GO.on rfl rfl rfl rfl (GO.gtr rfl rfl rfl rfl (GO.back (GO.pickF rfl rfl rfl rfl rfl (GO.nil (G.weak ?_ (at_j2 K (Nat.le_refl _) _ _ H HS))))))))))))
  exact ⟨rfl, rfl, rfl, trivial⟩
theorem impl_Crossing_ends.calls {w0 w : World} {L : List HObj} {c_A c_B : Int} {c_C c_D : Int} {c_Sign r1 : Int} {r2 r3 r4 : Int} (HS : St w0 w (L)) (H : impl_Crossing_ends.f c_A c_B c_C c_D c_Sign = some (r1, r2, r3, r4)) :
    Calls prog 239 #[.agg [.int .i64 c_A, .int .i64 c_B, .int .i64 c_C, .int .i64 c_D, .int .i64 c_Sign].toArray] w (impl_Crossing_ends.post w0 L r1 r2 r3 r4) := by
  unfold impl_Crossing_ends.f at H
  refine Calls.of_G func239 rfl rfl rfl ?_
  refine G.seq (G.region (GO.box (cs := [.int .i64 c_A, .int .i64 c_B, .int .i64 c_C, .int .i64 c_D, .int .i64 c_Sign]) HS rfl rfl rfl rfl fun b1 wd2 HS => GO.alloc HS rfl zr251 rfl rfl fun b3 wd4 HS => GO.nil (G.seq (G.region (GO.fld (⟨b1, 0, none⟩) rfl rfl fl203_0 rfl rfl (GO.ldBox (j := 1) HS rfl rfl rfl rfl na2 rfl (GO.fld (⟨b1, 1, none⟩) rfl rfl fl203_1 rfl rfl (GO.ldBox (j := 1) HS rfl rfl rfl rfl na2 rfl (GO.fld (⟨b1, 2, none⟩) rfl rfl fl203_2 rfl rfl (GO.ldBox (j := 1) HS rfl rfl rfl rfl na2 rfl (GO.fld (⟨b1, 3, none⟩) rfl rfl fl203_3 rfl rfl (GO.ldBox (j := 1) HS rfl rfl rfl rfl na2 rfl ?_))))))))))))
  refine GO.buildV (.agg [.int .i64 c_A, .int .i64 c_B, .int .i64 c_C, .int .i64 c_D].toArray) rfl rfl (fun _ => by kernel_rfl) rfl (GO.stBox (j := 0) (vs := [.int .i64 c_A, .int .i64 c_B, .int .i64 c_C, .int .i64 c_D]) ([.int .i64 c_A, .int .i64 c_B, .int .i64 c_C, .int .i64 c_D]) HS rfl rfl rfl rfl rfl (htA ag251) rfl rfl rfl fun wd5 HS => GO.nil ?_)
  obtain ⟨rfl, rfl, rfl, rfl⟩ := some4 H
  exact G.ret1 _ func239 rfl (Res1.boxA (j := 0) (vs := [.int .i64 c_A, .int .i64 c_B, .int .i64 c_C, .int .i64 c_D]) HS rfl rfl rfl ag251) ⟨rfl, (HS.pk 2 [] rfl)⟩
theorem impl_Crossing_enters.calls {w0 w : World} {L : List HObj} {c_A c_B : Int} {c_C c_D : Int} {c_Sign p : Int} {r1 : Bool} (HS : St w0 w (L)) (H : impl_Crossing_enters.f c_A c_B c_C c_D c_Sign p = some r1) :
    Calls prog 283 #[.agg [.int .i64 c_A, .int .i64 c_B, .int .i64 c_C, .int .i64 c_D, .int .i64 c_Sign].toArray, .int .i64 p] w (impl_Crossing_enters.post w0 L r1) := by
  unfold impl_Crossing_enters.f at H
  refine Calls.of_G func283 rfl rfl rfl ?_
  refine G.seq (G.region (GO.box (cs := [.int .i64 c_A, .int .i64 c_B, .int .i64 c_C, .int .i64 c_D, .int .i64 c_Sign]) HS rfl rfl rfl rfl fun b1 wd2 HS => GO.assign rfl rfl rfl (GO.nil (G.seq ?_))))
  rcases ite_elim H with ⟨c3, H⟩ | ⟨c3, H⟩
  ·
   refine G.region (GO.ps 3 rfl (GO.known (t := 7) rfl (decide_eq_true c3) (GO.off rfl rfl rfl rfl rfl rfl (GO.off rfl rfl rfl rfl rfl rfl (GO.off rfl rfl rfl rfl rfl rfl (GO.off rfl rfl rfl rfl rfl rfl (GO.off rfl rfl rfl rfl rfl rfl (GO.ps 2 rfl (GO.nil ?_)))))))))
   obtain rfl := Option.some.inj H
   exact G.ret1 _ func283 rfl rfl ⟨rfl, (HS.pk 1 [] rfl)⟩
  refine G.region (GO.ps 3 rfl (GO.known (t := 7) rfl (decide_eq_false c3) (GO.on rfl rfl rfl rfl (GO.move rfl rfl rfl (GO.back (GO.on rfl rfl rfl rfl (GO.fld (⟨b1, 4, none⟩) rfl rfl fl203_4 rfl rfl (GO.back (GO.on rfl rfl rfl rfl (GO.ldBox (j := 0) HS rfl rfl rfl rfl na2 rfl (GO.back (GO.on rfl rfl rfl rfl (GO.add rfl rfl rfl rfl (GO.back ?_))))))))))))))
  refine GO.on rfl rfl rfl rfl (GO.eql rfl rfl rfl rfl (GO.back (GO.ps 2 rfl (GO.nil ?_))))
  obtain rfl := Option.some.inj H
  exact G.ret1 _ func283 rfl rfl ⟨rfl, (HS.pk 1 [] rfl)⟩
theorem impl_size_impl_end.calls {w0 w : World} {L : List HObj} {list : List GEnd} {A_a : Option Addr} {c_a : Nat} {r1 : Int} (HS : St w0 w (L)) (r_a : RdIn w0 L T_GEnd A_a c_a (fun _ => ()) list) (H : impl_size_impl_end.f list = some r1) :
    Calls prog 304 #[.slice A_a list.length c_a] w (impl_size_impl_end.post w0 L r1) := by
  unfold impl_size_impl_end.f at H
  refine Calls.of_G func304 rfl rfl rfl ?_
  refine G.run 3 rfl (G.region (GO.move rfl rfl rfl (GO.lenS rfl rfl underlying233 rfl (GO.assign rfl rfl rfl (GO.nil ?_)))))
  obtain rfl := Option.some.inj H
  exact G.ret1 _ func304 rfl rfl ⟨rfl, HS⟩
theorem impl_hasIndex_impl_end.calls {w0 w : World} {L : List HObj} {list : List GEnd} {i : Int} {A_a : Option Addr} {c_a : Nat} {r1 : Bool} (HS : St w0 w (L)) (r_a : RdIn w0 L T_GEnd A_a c_a (fun _ => ()) list) (H : impl_hasIndex_impl_end.f list i = some r1) :
    Calls prog 284 #[.slice A_a list.length c_a, .int .i64 i] w (impl_hasIndex_impl_end.post w0 L r1) := by
  unfold impl_hasIndex_impl_end.f at H
  refine Calls.of_G func284 rfl rfl rfl ?_
  refine G.run 3 rfl ?_
  obtain ⟨t1, h2, H⟩ := Option.bind_eq_some_iff.1 H
  obtain ⟨t5, h6, H⟩ := Option.bind_eq_some_iff.1 H
  refine G.region (GO.ps 2 rfl (GO.fn rfl func304 fok304.1 fok304.2 rfl rfl (impl_size_impl_end.calls HS r_a h2) (fun _ wd3 ⟨h4, HS⟩ => ⟨_, h4, (GO.sub rfl rfl rfl rfl (GO.fn rfl func146 fok146.1 fok146.2 rfl rfl (impl_inRange.calls HS  h6) (fun _ wd7 ⟨h8, HS⟩ => ⟨_, h8, (GO.assign rfl rfl rfl (GO.nil ?_))⟩)))⟩)))
  obtain rfl := Option.some.inj H
  exact G.ret1 _ func284 rfl rfl ⟨rfl, HS⟩
theorem impl_Diagram_arrows.calls {w0 w : World} {L : List HObj} {K : Nat} {d_Crossings : List GCrossing} {d_Circles : Int} {A_a : Option Addr} {c_a : Nat} {r1 r2 : List GEnd} {r3 : Bool} (HS : St w0 w (L)) (r_a : RdIn w0 L T_GCrossing A_a c_a (fun _ => ()) d_Crossings) (H : impl_Diagram_arrows.f K d_Crossings d_Circles = some (r1, r2, r3)) :
    Calls prog 257 #[.agg [.slice A_a d_Crossings.length c_a, .int .i64 d_Circles].toArray] w (impl_Diagram_arrows.post w0 L r1 r2 r3) := by
  unfold impl_Diagram_arrows.f at H
  refine Calls.of_G func257 rfl rfl rfl ?_
  refine G.seq (G.region (GO.box (cs := [.slice A_a d_Crossings.length c_a, .int .i64 d_Circles]) HS rfl rfl rfl rfl fun b1 wd2 HS => GO.alloc HS rfl zr235 rfl rfl fun b3 wd4 HS => GO.assign rfl rfl rfl (GO.nil (G.seq (G.region (GO.fld (⟨b1, 0, none⟩) rfl rfl fl43_0 rfl rfl (GO.ldBox (j := 1) HS rfl rfl rfl rfl na41 rfl (GO.lenS rfl rfl underlying41 rfl (GO.ps 2 rfl (GO.nil (G.seq ?_)))))))))))
  obtain ⟨t7, h8, H⟩ := Option.bind_eq_some_iff.1 H
  obtain ⟨t15, h16, H⟩ := Option.bind_eq_some_iff.1 H
  refine G.region (GO.buildV (.agg [.int .i64 (-1), .int .i64 0].toArray) rfl rfl (fun _ => by kernel_rfl) rfl (GO.buildS (el := 294) ([.int .i64 (-1), .int .i64 0]) HS rfl rfl (fun _ => by kernel_rfl) rfl fun b5 wd6 HS => GO.move rfl rfl rfl ?_))
  replace HS := HS.boxRow (T := T_GEnd) (j := 0) rfl flat_flat (fun _ => ()) ([(⟨(-1), 0⟩ : GEnd)] : List GEnd) rfl (bndL rfl)
  refine GO.lenC (t := 16) (m := ([(⟨(-1), 0⟩ : GEnd)] : List GEnd).length) (c' := ([(⟨(-1), 0⟩ : GEnd)] : List GEnd).length) rfl rfl rfl (GO.fn rfl func282 fok282.1 fok282.2 rfl rfl (slices_Repeat_impl_end_impl_end.calls HS (RdIn.own (j := 0) rfl) h8) (fun _ wd11 ⟨A9, c10, h12, HS⟩ => ⟨_, h12, (GO.buildV (.agg [.int .i64 (-1), .int .i64 0].toArray) rfl rfl (fun _ => by kernel_rfl) rfl (GO.buildS (el := 294) ([.int .i64 (-1), .int .i64 0]) HS rfl rfl (fun _ => by kernel_rfl) rfl fun b13 wd14 HS => GO.move rfl rfl rfl ?_))⟩))
  replace HS := HS.boxRow (T := T_GEnd) (j := 0) rfl flat_flat (fun _ => ()) ([(⟨(-1), 0⟩ : GEnd)] : List GEnd) rfl (bndL rfl)
  refine GO.lenC (t := 20) (m := ([(⟨(-1), 0⟩ : GEnd)] : List GEnd).length) (c' := ([(⟨(-1), 0⟩ : GEnd)] : List GEnd).length) rfl rfl rfl (GO.fn rfl func282 fok282.1 fok282.2 rfl rfl (slices_Repeat_impl_end_impl_end.calls HS (RdIn.own (j := 0) rfl) h16) (fun _ wd19 ⟨A17, c18, h20, HS⟩ => ⟨_, h20, (GO.buildV (.agg [.slice A9 t7.length c10, .slice A17 t15.length c18].toArray) rfl rfl (fun _ => by kernel_rfl) rfl (GO.alloc HS rfl zr235 rfl rfl fun b21 wd22 HS => GO.stBox (j := 0) (vs := [.slice A9 t7.length c10, .slice A17 t15.length c18]) ([.slice A9 t7.length c10, .slice A17 t15.length c18]) HS rfl rfl rfl rfl rfl (htA ag235) rfl rfl rfl fun wd23 HS => GO.nil (G.run 2 rfl (G.region (GO.fld (⟨b1, 0, none⟩) rfl rfl fl43_0 rfl rfl (GO.ldBox (j := 6) HS rfl rfl rfl rfl na41 rfl (GO.lenS rfl rfl underlying41 rfl (GO.move rfl rfl rfl (GO.nil (G.run 2 rfl ?_))))))))))⟩))
  refine G.name (fun k_l1 hk_l1 => ?_)
  have at_l1 : ∀ m_l1, m_l1 ≤ K → ∀ (a_193 a_194 : List GEnd) (x195 : Int) (w : World), impl_Diagram_arrows.l1 K m_l1 d_Crossings a_193 a_194 x195 = some (r1, r2, r3) → St w0 w (Box b3 235 [.slice none 0 0, .slice none 0 0] :: Box b21 235 [.slice A9 a_193.length c10, .slice A17 a_194.length c18] :: Own T_GEnd 294 A9 c10 (fun _ => ()) a_193 :: Own T_GEnd 294 A17 c18 (fun _ => ()) a_194 :: L) → G prog 257 67 [(2, .pointer (some ⟨b3, 0, none⟩)), (5, .pointer (some ⟨b21, 0, none⟩)), (25, .slice A_a d_Crossings.length c_a), (26, .int .i64 (d_Crossings.length : Int)), (27, .int .i64 x195)] k_l1 w (impl_Diagram_arrows.post w0 L r1 r2 r3) := by
   intro m_l1
   induction m_l1 using Nat.strongRecOn with
   | _ m_l1 ih_l1 =>
    intro hm_l1 a_193 a_194 x195 w H HS
    cases m_l1 with
    | zero => rw [impl_Diagram_arrows.l1] at H; cases H
    | succ n_l1 =>
     rw [impl_Diagram_arrows.l1] at H
     subst hk_l1
     refine G.run 3 rfl ?_
     rcases ite_elim H with ⟨c365, H⟩ | ⟨c365, H⟩
     ·
      refine G.yesB rfl (decide_eq_true c365) (G.run 4 rfl ?_)
      obtain ⟨c366, H⟩ := ite_none H
      obtain ⟨e367, h368, H⟩ := bnd_elim H
      refine G.region (GO.move rfl rfl rfl (GO.ix rfl rfl rfl underlying41 sz203 ((RdIn.drop 4 r_a) _ HS).2.2.1 c366.1 c366.2 rfl (GO.ldRdA (T := T_GCrossing) (n := x195.toNat) HS (RdIn.drop 4 r_a) rfl rfl (getD_eq (ltN c366) h368) ag203 rfl (GO.alloc HS rfl zr203 rfl rfl fun b369 wd370 HS => GO.assign rfl rfl rfl (GO.stBox (j := 0) (vs := [.int .i64 e367.A, .int .i64 e367.B, .int .i64 e367.C, .int .i64 e367.D, .int .i64 e367.Sign]) ([.int .i64 e367.A, .int .i64 e367.B, .int .i64 e367.C, .int .i64 e367.D, .int .i64 e367.Sign]) HS rfl rfl rfl rfl rfl (htA ag203) rfl rfl rfl fun wd371 HS => GO.nil (G.seq ?_))))))
      obtain ⟨t372, t373, t374, t375, h376, H⟩ := bind4_elim H
      refine G.region (GO.ldBoxA (j := 0) ([.int .i64 e367.A, .int .i64 e367.B, .int .i64 e367.C, .int .i64 e367.D, .int .i64 e367.Sign]) HS rfl rfl rfl rfl ag203 rfl (GO.fn rfl func239 fok239.1 fok239.2 rfl rfl (impl_Crossing_ends.calls HS  h376) (fun _ wd377 ⟨h378, HS⟩ => ⟨_, h378, (GO.move rfl rfl rfl (GO.nil (G.run 2 rfl ?_)))⟩)))
      refine G.name (fun k_l10 hk_l10 => ?_)
      have at_l10 : ∀ m_l10, m_l10 ≤ n_l1 → ∀ (a_428 a_429 : List GEnd) (x430 : Int) (w : World), impl_Diagram_arrows.l10 K m_l10 d_Crossings x195 e367 t372 t373 t374 t375 a_428 a_429 x430 = some (r1, r2, r3) → St w0 w (Box b3 235 [.slice none 0 0, .slice none 0 0] :: Box b21 235 [.slice A9 a_428.length c10, .slice A17 a_429.length c18] :: Own T_GEnd 294 A9 c10 (fun _ => ()) a_428 :: Own T_GEnd 294 A17 c18 (fun _ => ()) a_429 :: Box b369 203 [.int .i64 e367.A, .int .i64 e367.B, .int .i64 e367.C, .int .i64 e367.D, .int .i64 e367.Sign] :: L) → G prog 257 67 [(2, .pointer (some ⟨b3, 0, none⟩)), (5, .pointer (some ⟨b21, 0, none⟩)), (6, .int .i64 x195), (7, .pointer (some ⟨b369, 0, none⟩)), (25, .slice A_a d_Crossings.length c_a), (26, .int .i64 (d_Crossings.length : Int)), (27, .int .i64 x195), (33, .agg [.int .i64 t372, .int .i64 t373, .int .i64 t374, .int .i64 t375].toArray), (34, .int .i64 x430)] k_l10 w (impl_Diagram_arrows.post w0 L r1 r2 r3) := by
       intro m_l10
       induction m_l10 using Nat.strongRecOn with
       | _ m_l10 ih_l10 =>
        intro hm_l10 a_428 a_429 x430 w H HS
        cases m_l10 with
        | zero => rw [impl_Diagram_arrows.l10] at H; cases H
        | succ n_l10 =>
         rw [impl_Diagram_arrows.l10] at H
         subst hk_l10
         refine G.run 3 rfl ?_
         rcases ite_elim H with ⟨c482, H⟩ | ⟨c482, H⟩
         ·
          refine G.yesB rfl (decide_eq_true c482) (G.run 4 rfl ?_)
          obtain ⟨c483, H⟩ := ite_none H
          refine G.region (GO.move rfl rfl rfl (GO.ixArr ([t372, t373, t374, t375] : List Int) rfl rfl rfl underlying251 underlying2 sz2 rfl c483.1 c483.2 rfl (GO.ps 2 rfl (GO.nil (G.seq (G.region (GO.fld (⟨b21, 0, none⟩) rfl rfl fl235_0 rfl rfl (GO.ldBox (j := 1) HS rfl rfl rfl rfl na233 rfl (GO.assign rfl rfl rfl (GO.nil (G.run 2 rfl ?_)))))))))))
          obtain ⟨t484, h485, H⟩ := Option.bind_eq_some_iff.1 H
          refine G.region (GO.ldBoxA (j := 4) ([.int .i64 e367.A, .int .i64 e367.B, .int .i64 e367.C, .int .i64 e367.D, .int .i64 e367.Sign]) HS rfl rfl rfl rfl ag203 rfl (GO.move rfl rfl rfl (GO.fn rfl func283 fok283.1 fok283.2 rfl rfl (impl_Crossing_enters.calls HS  h485) (fun _ wd486 ⟨h487, HS⟩ => ⟨_, h487, (GO.nil ?_)⟩))))
          rcases ite_elim H with ⟨c492, H⟩ | ⟨c492, H⟩
          ·
           refine G.yesB rfl c492 (G.region (GO.fld (⟨b21, 1, none⟩) rfl rfl fl235_1 rfl rfl (GO.ldBox (j := 1) HS rfl rfl rfl rfl na233 rfl (GO.assign rfl rfl rfl (GO.nil (G.run 2 rfl ?_))))))
           obtain ⟨t501, h502, H⟩ := Option.bind_eq_some_iff.1 H
           rcases ite_elim H with ⟨c505, H⟩ | ⟨c505, H⟩
           ·
            obtain ⟨c506, H⟩ := ite_none H
            obtain ⟨e507, h508, H⟩ := bnd_elim H
            refine G.region (GO.ps 2 rfl (GO.fn rfl func284 fok284.1 fok284.2 rfl rfl (impl_hasIndex_impl_end.calls HS (RdIn.own (j := 3) rfl) h502) (fun _ wd503 ⟨h504, HS⟩ => ⟨_, h504, (GO.ps 2 rfl (GO.known (t := 49) rfl (congrArg Bool.not c505) (GO.on rfl rfl rfl rfl (GO.move rfl rfl rfl (GO.back (GO.on rfl rfl rfl rfl (GO.move rfl rfl rfl (GO.back (GO.on rfl rfl rfl rfl (GO.ix rfl rfl rfl underlying233 sz294 ((RdIn.own (j := 3) rfl) _ HS).2.2.1 c506.1 c506.2 rfl (GO.back (GO.on rfl rfl rfl rfl ?_))))))))))))⟩)))
            refine GO.fld (ea A17 (((([t372, t373, t374, t375] : List Int).getD x430.toNat 0).toNat) * 2)) rfl rfl fl294_0 rfl rfl (GO.back (GO.on rfl rfl rfl rfl (GO.ldRd (T := T_GEnd) (n := (([t372, t373, t374, t375] : List Int).getD x430.toNat 0).toNat) (o := 0) HS (RdIn.own (j := 3) rfl) rfl rfl (getD_eq (ltN c506) h508) rfl rfl na2 rfl (GO.back (GO.on rfl rfl rfl rfl (GO.geq rfl rfl rfl rfl (GO.back (GO.pickF rfl rfl rfl rfl rfl (GO.nil ?_)))))))))
            rcases ite_elim H with ⟨c509, H⟩ | ⟨c509, H⟩
            ·
             refine G.yesB rfl (decide_eq_true c509) (G.seq (G.region (GO.ldBoxA (j := 1) ([.slice A9 a_428.length c10, .slice A17 a_429.length c18]) HS rfl rfl rfl rfl ag235 rfl (GO.stBox (j := 0) (vs := [.slice A9 a_428.length c10, .slice A17 a_429.length c18]) ([.slice A9 a_428.length c10, .slice A17 a_429.length c18]) HS rfl rfl rfl rfl rfl (htA ag235) rfl rfl rfl fun wd510 HS => GO.assign rfl rfl rfl (GO.nil ?_)))))
             obtain ⟨rfl, rfl, rfl⟩ := some3 H
             exact G.ret2 _ _ func257 rfl (Res1.boxA (j := 0) (vs := [.slice A9 a_428.length c10, .slice A17 a_429.length c18]) HS rfl rfl rfl ag235) rfl ⟨_, _, _, _, rfl, (HS.pk 5 [2, 3] rfl)⟩
            refine G.noB rfl (decide_eq_false c509) (G.skip (G.region (GO.ps 4 rfl (GO.buildV (.agg [.int .i64 x195, .int .i64 x430].toArray) rfl rfl (fun _ => by kernel_rfl) rfl (GO.ix rfl rfl rfl underlying233 sz294 ((RdIn.own (j := 3) rfl) _ HS).2.2.1 c506.1 c506.2 rfl (GO.stRow (T := T_GEnd) (j := 3) (n := (([t372, t373, t374, t375] : List Int).getD x430.toNat 0).toNat) (o := 0) (vs := [.int .i64 x195, .int .i64 x430]) (⟨x195, x430⟩ : GEnd) HS rfl flat_flat rfl rfl rfl rfl (htA ag294) rfl (getD_some (d := z_GEnd) (ltN c506)) rfl rfl fun wd511 HS => GO.nil (G.len (t := 50) (m := (a_429.set ((([t372, t373, t374, t375] : List Int).getD x430.toNat 0).toNat) (⟨x195, x430⟩ : GEnd)).length) rfl (by simp only [List.length_set] <;> rfl) ?_)))))))
            replace HS := HS.boxEq (j := 1) (cs' := [.slice A9 a_428.length c10, .slice A17 (a_429.set ((([t372, t373, t374, t375] : List Int).getD x430.toNat 0).toNat) (⟨x195, x430⟩ : GEnd)).length c18]) rfl (by simp only [List.length_set] <;> rfl)
            refine G.run 3 rfl (G.weak ?_ (ih_l10 n_l10 (Nat.lt_succ_of_le (Nat.le_refl _)) (Nat.le_of_succ_le hm_l10) _ _ _ _ H HS))
            exact ⟨rfl, rfl, rfl, rfl, rfl, rfl, rfl, rfl, rfl, trivial⟩
           refine G.region (GO.ps 2 rfl (GO.fn rfl func284 fok284.1 fok284.2 rfl rfl (impl_hasIndex_impl_end.calls HS (RdIn.own (j := 3) rfl) h502) (fun _ wd503 ⟨h504, HS⟩ => ⟨_, h504, (GO.ps 2 rfl (GO.known (t := 49) rfl (congrArg Bool.not (bnot_of c505)) (GO.off rfl rfl rfl rfl rfl rfl (GO.off rfl rfl rfl rfl rfl rfl (GO.off rfl rfl rfl rfl rfl rfl (GO.off rfl rfl rfl rfl rfl rfl (GO.off rfl rfl rfl rfl rfl rfl (GO.off rfl rfl rfl rfl rfl rfl (GO.pickT rfl rfl rfl rfl rfl (GO.nil (G.run 2 rfl (G.region ?_))))))))))))⟩)))
           refine GO.ldBoxA (j := 1) ([.slice A9 a_428.length c10, .slice A17 a_429.length c18]) HS rfl rfl rfl rfl ag235 rfl (GO.stBox (j := 0) (vs := [.slice A9 a_428.length c10, .slice A17 a_429.length c18]) ([.slice A9 a_428.length c10, .slice A17 a_429.length c18]) HS rfl rfl rfl rfl rfl (htA ag235) rfl rfl rfl fun wd512 HS => GO.assign rfl rfl rfl (GO.nil ?_))
           obtain ⟨rfl, rfl, rfl⟩ := some3 H
           exact G.ret2 _ _ func257 rfl (Res1.boxA (j := 0) (vs := [.slice A9 a_428.length c10, .slice A17 a_429.length c18]) HS rfl rfl rfl ag235) rfl ⟨_, _, _, _, rfl, (HS.pk 5 [2, 3] rfl)⟩
          refine G.noB rfl (bnot_of c492) (G.run 3 rfl ?_)
          obtain ⟨t521, h522, H⟩ := Option.bind_eq_some_iff.1 H
          rcases ite_elim H with ⟨c525, H⟩ | ⟨c525, H⟩
          ·
           obtain ⟨c526, H⟩ := ite_none H
           obtain ⟨e527, h528, H⟩ := bnd_elim H
           refine G.region (GO.ps 2 rfl (GO.fn rfl func284 fok284.1 fok284.2 rfl rfl (impl_hasIndex_impl_end.calls HS (RdIn.own (j := 2) rfl) h522) (fun _ wd523 ⟨h524, HS⟩ => ⟨_, h524, (GO.ps 2 rfl (GO.known (t := 49) rfl (congrArg Bool.not c525) (GO.on rfl rfl rfl rfl (GO.move rfl rfl rfl (GO.back (GO.on rfl rfl rfl rfl (GO.move rfl rfl rfl (GO.back (GO.on rfl rfl rfl rfl (GO.ix rfl rfl rfl underlying233 sz294 ((RdIn.own (j := 2) rfl) _ HS).2.2.1 c526.1 c526.2 rfl (GO.back (GO.on rfl rfl rfl rfl ?_))))))))))))⟩)))
           refine GO.fld (ea A9 (((([t372, t373, t374, t375] : List Int).getD x430.toNat 0).toNat) * 2)) rfl rfl fl294_0 rfl rfl (GO.back (GO.on rfl rfl rfl rfl (GO.ldRd (T := T_GEnd) (n := (([t372, t373, t374, t375] : List Int).getD x430.toNat 0).toNat) (o := 0) HS (RdIn.own (j := 2) rfl) rfl rfl (getD_eq (ltN c526) h528) rfl rfl na2 rfl (GO.back (GO.on rfl rfl rfl rfl (GO.geq rfl rfl rfl rfl (GO.back (GO.pickF rfl rfl rfl rfl rfl (GO.nil ?_)))))))))
           rcases ite_elim H with ⟨c529, H⟩ | ⟨c529, H⟩
           ·
            refine G.yesB rfl (decide_eq_true c529) (G.seq (G.region (GO.ldBoxA (j := 1) ([.slice A9 a_428.length c10, .slice A17 a_429.length c18]) HS rfl rfl rfl rfl ag235 rfl (GO.stBox (j := 0) (vs := [.slice A9 a_428.length c10, .slice A17 a_429.length c18]) ([.slice A9 a_428.length c10, .slice A17 a_429.length c18]) HS rfl rfl rfl rfl rfl (htA ag235) rfl rfl rfl fun wd530 HS => GO.assign rfl rfl rfl (GO.nil ?_)))))
            obtain ⟨rfl, rfl, rfl⟩ := some3 H
            exact G.ret2 _ _ func257 rfl (Res1.boxA (j := 0) (vs := [.slice A9 a_428.length c10, .slice A17 a_429.length c18]) HS rfl rfl rfl ag235) rfl ⟨_, _, _, _, rfl, (HS.pk 5 [2, 3] rfl)⟩
           refine G.noB rfl (decide_eq_false c529) (G.skip (G.region (GO.ps 4 rfl (GO.buildV (.agg [.int .i64 x195, .int .i64 x430].toArray) rfl rfl (fun _ => by kernel_rfl) rfl (GO.ix rfl rfl rfl underlying233 sz294 ((RdIn.own (j := 2) rfl) _ HS).2.2.1 c526.1 c526.2 rfl (GO.stRow (T := T_GEnd) (j := 2) (n := (([t372, t373, t374, t375] : List Int).getD x430.toNat 0).toNat) (o := 0) (vs := [.int .i64 x195, .int .i64 x430]) (⟨x195, x430⟩ : GEnd) HS rfl flat_flat rfl rfl rfl rfl (htA ag294) rfl (getD_some (d := z_GEnd) (ltN c526)) rfl rfl fun wd531 HS => GO.nil (G.len (t := 50) (m := (a_428.set ((([t372, t373, t374, t375] : List Int).getD x430.toNat 0).toNat) (⟨x195, x430⟩ : GEnd)).length) rfl (by simp only [List.length_set] <;> rfl) ?_)))))))
           replace HS := HS.boxEq (j := 1) (cs' := [.slice A9 (a_428.set ((([t372, t373, t374, t375] : List Int).getD x430.toNat 0).toNat) (⟨x195, x430⟩ : GEnd)).length c10, .slice A17 a_429.length c18]) rfl (by simp only [List.length_set] <;> rfl)
           refine G.run 3 rfl (G.weak ?_ (ih_l10 n_l10 (Nat.lt_succ_of_le (Nat.le_refl _)) (Nat.le_of_succ_le hm_l10) _ _ _ _ H HS))
           exact ⟨rfl, rfl, rfl, rfl, rfl, rfl, rfl, rfl, rfl, trivial⟩
          refine G.region (GO.ps 2 rfl (GO.fn rfl func284 fok284.1 fok284.2 rfl rfl (impl_hasIndex_impl_end.calls HS (RdIn.own (j := 2) rfl) h522) (fun _ wd523 ⟨h524, HS⟩ => ⟨_, h524, (GO.ps 2 rfl (GO.known (t := 49) rfl (congrArg Bool.not (bnot_of c525)) (GO.off rfl rfl rfl rfl rfl rfl (GO.off rfl rfl rfl rfl rfl rfl (GO.off rfl rfl rfl rfl rfl rfl (GO.off rfl rfl rfl rfl rfl rfl (GO.off rfl rfl rfl rfl rfl rfl (GO.off rfl rfl rfl rfl rfl rfl (GO.pickT rfl rfl rfl rfl rfl (GO.nil (G.run 2 rfl (G.region ?_))))))))))))⟩)))
          refine GO.ldBoxA (j := 1) ([.slice A9 a_428.length c10, .slice A17 a_429.length c18]) HS rfl rfl rfl rfl ag235 rfl (GO.stBox (j := 0) (vs := [.slice A9 a_428.length c10, .slice A17 a_429.length c18]) ([.slice A9 a_428.length c10, .slice A17 a_429.length c18]) HS rfl rfl rfl rfl rfl (htA ag235) rfl rfl rfl fun wd532 HS => GO.assign rfl rfl rfl (GO.nil ?_))
          obtain ⟨rfl, rfl, rfl⟩ := some3 H
          exact G.ret2 _ _ func257 rfl (Res1.boxA (j := 0) (vs := [.slice A9 a_428.length c10, .slice A17 a_429.length c18]) HS rfl rfl rfl ag235) rfl ⟨_, _, _, _, rfl, (HS.pk 5 [2, 3] rfl)⟩
         refine G.noB rfl (decide_eq_false c482) (G.run 4 rfl (G.weak ?_ (ih_l1 n_l10 (by omega) (by omega) _ _ _ _ H (HS.pk 5 [0, 1, 2, 3] rfl))))
         exact ⟨rfl, rfl, rfl, rfl, rfl, trivial⟩
      refine G.weak ?_ (at_l10 n_l1 (Nat.le_refl _) _ _ _ _ H (HS.pk 5 [1, 2, 3, 4, 0] rfl))
      exact ⟨rfl, rfl, rfl, rfl, rfl, rfl, rfl, rfl, rfl, trivial⟩
     refine G.noB rfl (decide_eq_false c365) (G.run 2 rfl (G.region (GO.ldBoxA (j := 1) ([.slice A9 a_193.length c10, .slice A17 a_194.length c18]) HS rfl rfl rfl rfl ag235 rfl (GO.stBox (j := 0) (vs := [.slice A9 a_193.length c10, .slice A17 a_194.length c18]) ([.slice A9 a_193.length c10, .slice A17 a_194.length c18]) HS rfl rfl rfl rfl rfl (htA ag235) rfl rfl rfl fun wd533 HS => GO.assign rfl rfl rfl (GO.nil ?_)))))
     obtain ⟨rfl, rfl, rfl⟩ := some3 H
     exact G.ret2 _ _ func257 rfl (Res1.boxA (j := 0) (vs := [.slice A9 a_193.length c10, .slice A17 a_194.length c18]) HS rfl rfl rfl ag235) rfl ⟨_, _, _, _, rfl, (HS.pk 4 [2, 3] rfl)⟩
  refine G.weak ?_ (at_l1 K (Nat.le_refl _) _ _ _ _ H (HS.pk 7 [5, 0, 3, 1] rfl))
  exact ⟨rfl, rfl, rfl, rfl, rfl, trivial⟩
theorem impl_Diagram_other.calls {w0 w : World} {L : List HObj} {d_Crossings : List GCrossing} {d_Circles : Int} {a_from a_to : List GEnd} {e_crossing e_position : Int} {A_a : Option Addr} {c_a : Nat} {A_b : Option Addr} {c_b : Nat} {A_c : Option Addr} {c_c : Nat} {r1 r2 : Int} (HS : St w0 w (L)) (r_a : RdIn w0 L T_GCrossing A_a c_a (fun _ => ()) d_Crossings) (r_b : RdIn w0 L T_GEnd A_b c_b (fun _ => ()) a_from) (r_c : RdIn w0 L T_GEnd A_c c_c (fun _ => ()) a_to) (H : impl_Diagram_other.f d_Crossings d_Circles a_from a_to e_crossing e_position = some (r1, r2)) :
    Calls prog 285 #[.agg [.slice A_a d_Crossings.length c_a, .int .i64 d_Circles].toArray, .agg [.slice A_b a_from.length c_b, .slice A_c a_to.length c_c].toArray, .agg [.int .i64 e_crossing, .int .i64 e_position].toArray] w (impl_Diagram_other.post w0 L r1 r2) := by
  unfold impl_Diagram_other.f at H
  refine Calls.of_G func285 rfl rfl rfl ?_
  refine G.seq (G.region (GO.box (cs := [.slice A_a d_Crossings.length c_a, .int .i64 d_Circles]) HS rfl rfl rfl rfl fun b1 wd2 HS => GO.box (cs := [.slice A_b a_from.length c_b, .slice A_c a_to.length c_c]) HS rfl rfl rfl rfl fun b3 wd4 HS => GO.box (cs := [.int .i64 e_crossing, .int .i64 e_position]) HS rfl rfl rfl rfl fun b5 wd6 HS => GO.alloc HS rfl zr294 rfl rfl fun b7 wd8 HS => GO.nil (G.seq ?_)))
  obtain ⟨c9, H⟩ := ite_none H
  obtain ⟨e10, h11, H⟩ := bnd_elim H
  refine G.region (GO.fld (⟨b1, 0, none⟩) rfl rfl fl43_0 rfl rfl (GO.ldBox (j := 3) HS rfl rfl rfl rfl na41 rfl (GO.fld (⟨b5, 0, none⟩) rfl rfl fl294_0 rfl rfl (GO.ldBox (j := 1) HS rfl rfl rfl rfl na2 rfl (GO.ix rfl rfl rfl underlying41 sz203 ((RdIn.drop 4 r_a) _ HS).2.2.1 c9.1 c9.2 rfl (GO.ldRdA (T := T_GCrossing) (n := e_crossing.toNat) HS (RdIn.drop 4 r_a) rfl rfl (getD_eq (ltN c9) h11) ag203 rfl (GO.alloc HS rfl zr203 rfl rfl fun b12 wd13 HS => GO.stBox (j := 0) (vs := [.int .i64 e10.A, .int .i64 e10.B, .int .i64 e10.C, .int .i64 e10.D, .int .i64 e10.Sign]) ([.int .i64 e10.A, .int .i64 e10.B, .int .i64 e10.C, .int .i64 e10.D, .int .i64 e10.Sign]) HS rfl rfl rfl rfl rfl (htA ag203) rfl rfl rfl fun wd14 HS => GO.nil (G.seq ?_))))))))
  obtain ⟨t15, t16, t17, t18, h19, H⟩ := bind4_elim H
  obtain ⟨c22, H⟩ := ite_none H
  refine G.lexS mixed (fun w => St w0 w (Box b12 203 [.int .i64 e10.A, .int .i64 e10.B, .int .i64 e10.C, .int .i64 e10.D, .int .i64 e10.Sign] :: Box b5 294 [.int .i64 e_crossing, .int .i64 e_position] :: L)) [0, 3] [2, 0, 3, 1, 4, 5] 6 (by kernel_rfl) (by kernel_rfl) (HS.drew.pk 5 [0, 2] rfl) ?_
  replace HS := HS.drew
  refine GX.l0 rfl rfl (fun _ _ g => GO.fld (⟨b5, 1, none⟩) rfl rfl fl294_1 rfl rfl g) rfl (GX.ls rfl rfl rfl (HS.pk 5 [0, 2] rfl) (fun _ HS _ g => GO.ldBoxA (j := 0) ([.int .i64 e10.A, .int .i64 e10.B, .int .i64 e10.C, .int .i64 e10.D, .int .i64 e10.Sign]) HS rfl rfl rfl rfl ag203 rfl g) rfl (GX.ls rfl rfl rfl (HS.pk 5 [0, 2] rfl) (fun _ HS _ g => GO.ldBox (j := 1) HS rfl rfl rfl rfl na2 rfl g) rfl (GX.l2 rfl (GO.fn rfl func239 fok239.1 fok239.2 rfl rfl (impl_Crossing_ends.calls HS  h19) (fun _ wd20 ⟨h21, HS⟩ => ⟨_, h21, (GX.fin (HS.pk 5 [0, 2] rfl) (GX.l0 rfl rfl (fun _ _ g => GO.ixArr ([t15, t16, t17, t18] : List Int) rfl rfl rfl underlying251 underlying2 sz2 rfl c22.1 c22.2 rfl g) rfl (GX.ps 1 rfl (GX.nil (G.run 2 rfl ?_)))))⟩)))))
  obtain ⟨t23, h24, H⟩ := Option.bind_eq_some_iff.1 H
  refine G.region (GO.ldBoxA (j := 0) ([.int .i64 e10.A, .int .i64 e10.B, .int .i64 e10.C, .int .i64 e10.D, .int .i64 e10.Sign]) HS rfl rfl rfl rfl ag203 rfl (GO.fld (⟨b5, 1, none⟩) rfl rfl fl294_1 rfl rfl (GO.ldBox (j := 2) HS rfl rfl rfl rfl na2 rfl (GO.fn rfl func283 fok283.1 fok283.2 rfl rfl (impl_Crossing_enters.calls HS  h24) (fun _ wd25 ⟨h26, HS⟩ => ⟨_, h26, (GO.nil ?_)⟩)))))
  rcases ite_elim H with ⟨c27, H⟩ | ⟨c27, H⟩
  ·
   refine G.yesB rfl c27 (G.seq ?_)
   obtain ⟨c28, H⟩ := ite_none H
   obtain ⟨e29, h30, H⟩ := bnd_elim H
   refine G.region (GO.fld (⟨b3, 0, none⟩) rfl rfl fl235_0 rfl rfl (GO.ldBox (j := 3) HS rfl rfl rfl rfl na233 rfl (GO.move rfl rfl rfl (GO.ix rfl rfl rfl underlying233 sz294 ((RdIn.drop 5 r_b) _ HS).2.2.1 c28.1 c28.2 rfl (GO.ldRdA (T := T_GEnd) (n := (([t15, t16, t17, t18] : List Int).getD e_position.toNat 0).toNat) HS (RdIn.drop 5 r_b) rfl rfl (getD_eq (ltN c28) h30) ag294 rfl (GO.stBox (j := 1) (vs := [.int .i64 e29.crossing, .int .i64 e29.position]) ([.int .i64 e29.crossing, .int .i64 e29.position]) HS rfl rfl rfl rfl rfl (htA ag294) rfl rfl rfl fun wd31 HS => GO.nil ?_))))))
   obtain ⟨rfl, rfl⟩ := some2 H
   exact G.ret1 _ func285 rfl (Res1.boxA (j := 1) (vs := [.int .i64 e29.crossing, .int .i64 e29.position]) HS rfl rfl rfl ag294) ⟨rfl, (HS.pk 5 [] rfl)⟩
  refine G.noB rfl (bnot_of c27) (G.run 2 rfl ?_)
  obtain ⟨c32, H⟩ := ite_none H
  obtain ⟨e33, h34, H⟩ := bnd_elim H
  refine G.region (GO.fld (⟨b3, 1, none⟩) rfl rfl fl235_1 rfl rfl (GO.ldBox (j := 3) HS rfl rfl rfl rfl na233 rfl (GO.move rfl rfl rfl (GO.ix rfl rfl rfl underlying233 sz294 ((RdIn.drop 5 r_c) _ HS).2.2.1 c32.1 c32.2 rfl (GO.ldRdA (T := T_GEnd) (n := (([t15, t16, t17, t18] : List Int).getD e_position.toNat 0).toNat) HS (RdIn.drop 5 r_c) rfl rfl (getD_eq (ltN c32) h34) ag294 rfl (GO.stBox (j := 1) (vs := [.int .i64 e33.crossing, .int .i64 e33.position]) ([.int .i64 e33.crossing, .int .i64 e33.position]) HS rfl rfl rfl rfl rfl (htA ag294) rfl rfl rfl fun wd35 HS => GO.nil ?_))))))
  obtain ⟨rfl, rfl⟩ := some2 H
  exact G.ret1 _ func285 rfl (Res1.boxA (j := 1) (vs := [.int .i64 e33.crossing, .int .i64 e33.position]) HS rfl rfl rfl ag294) ⟨rfl, (HS.pk 5 [] rfl)⟩
theorem impl_Diagram_regions.calls {w0 w : World} {L : List HObj} {K : Nat} {d_Crossings : List GCrossing} {d_Circles : Int} {a_from a_to : List GEnd} {A_a : Option Addr} {c_a : Nat} {A_b : Option Addr} {c_b : Nat} {A_c : Option Addr} {c_c : Nat} {r1 : List (List Int)} (HS : St w0 w (L)) (r_a : RdIn w0 L T_GCrossing A_a c_a (fun _ => ()) d_Crossings) (r_b : RdIn w0 L T_GEnd A_b c_b (fun _ => ()) a_from) (r_c : RdIn w0 L T_GEnd A_c c_c (fun _ => ()) a_to) (H : impl_Diagram_regions.f K d_Crossings d_Circles a_from a_to = some r1) :
    Calls prog 259 #[.agg [.slice A_a d_Crossings.length c_a, .int .i64 d_Circles].toArray, .agg [.slice A_b a_from.length c_b, .slice A_c a_to.length c_c].toArray] w (impl_Diagram_regions.post w0 L r1) := by
  unfold impl_Diagram_regions.f at H
  refine Calls.of_G func259 rfl rfl rfl ?_
  refine G.seq ?_
  refine G.region ?_
  refine GO.box (cs := [.slice A_a d_Crossings.length c_a, .int .i64 d_Circles]) HS rfl rfl rfl rfl ?_; intro b1 wd2 HS
  refine GO.box (cs := [.slice A_b a_from.length c_b, .slice A_c a_to.length c_c]) HS rfl rfl rfl rfl ?_; intro b3 wd4 HS
  refine GO.assign rfl rfl rfl ?_
  refine GO.nil ?_
  refine G.run 3 rfl ?_
  obtain ⟨c5, H⟩ := ite_none H
  obtain ⟨c6, H⟩ := ite_none H
  refine G.region ?_
  refine GO.fld (⟨b1, 0, none⟩) rfl rfl fl43_0 rfl rfl ?_
  refine GO.ldBox (j := 1) HS rfl rfl rfl rfl na41 rfl ?_
  refine GO.lenS rfl rfl underlying41 rfl ?_
  refine GO.mul rfl rfl rfl rfl ?_
  refine GO.make (T := TBool) false () HS flat_flat rfl rfl rfl underlying218 inf4 rfl rfl rfl c5 c6 rfl ?_; intro b7 wd8 HS
  refine GO.assign rfl rfl rfl ?_
  refine GO.nil ?_
  refine G.run 2 rfl ?_
  refine G.region ?_
  refine GO.move rfl rfl rfl ?_
  refine GO.lenS rfl rfl underlying218 rfl ?_
  refine GO.move rfl rfl rfl ?_
  refine GO.nil ?_
  refine G.run 2 rfl ?_
  refine G.name (fun k_l1 hk_l1 => ?_)
  have at_l1 : ∀ m_l1, m_l1 ≤ K → ∀ (A82 : Option Addr) (c83 : Nat) (out_84 : List (List Int)) (y85 : Nat → (Ty.slice 2 (TInt .i64)).Lay) (seen_86 : List Bool) (x87 : Int) (w : World), impl_Diagram_regions.l1 K m_l1 d_Crossings d_Circles a_from a_to out_84 seen_86 x87 = some r1 → St w0 w (Box b1 43 [.slice A_a d_Crossings.length c_a, .int .i64 d_Circles] :: Box b3 235 [.slice A_b a_from.length c_b, .slice A_c a_to.length c_c] :: Own (Ty.slice 2 (TInt .i64)) 28 A82 c83 y85 out_84 :: Own TBool 4 (some ⟨b7, 0, none⟩) ((w64 (4 * (d_Crossings.length : Int))).toNat) (fun _ => ()) seen_86 :: L) → G prog 259 58 [(2, .pointer (some ⟨b1, 0, none⟩)), (3, .pointer (some ⟨b3, 0, none⟩)), (5, .slice A82 out_84.length c83), (6, .slice (some ⟨b7, 0, none⟩) seen_86.length ((w64 (4 * (d_Crossings.length : Int))).toNat)), (17, .int .i64 ((List.replicate (w64 (4 * (d_Crossings.length : Int))).toNat false).length : Int)), (18, .int .i64 x87)] k_l1 w (impl_Diagram_regions.post w0 L r1) := by
   intro m_l1
   induction m_l1 using Nat.strongRecOn with
   | _ m_l1 ih_l1 =>
    intro hm_l1 A82 c83 out_84 y85 seen_86 x87 w H HS
    cases m_l1 with
    | zero => rw [impl_Diagram_regions.l1] at H; cases H
    | succ n_l1 =>
     rw [impl_Diagram_regions.l1] at H
     subst hk_l1
     refine G.run 3 rfl ?_
     rcases ite_elim H with ⟨c161, H⟩ | ⟨c161, H⟩
     ·
      refine G.yesB rfl (decide_eq_true c161) ?_
      refine G.run 12 rfl ?_
      refine G.name (fun k_l4 hk_l4 => ?_)
      have at_l4 : ∀ m_l4, m_l4 ≤ n_l1 → ∀ (seen_179 : List Bool) (A180 : Option Addr) (c181 : Nat) (region_182 : List Int) (k_183 : Int) (w : World), impl_Diagram_regions.l4 K m_l4 d_Crossings d_Circles a_from a_to out_84 x87 seen_179 region_182 k_183 = some r1 → St w0 w (Box b1 43 [.slice A_a d_Crossings.length c_a, .int .i64 d_Circles] :: Box b3 235 [.slice A_b a_from.length c_b, .slice A_c a_to.length c_c] :: Own (Ty.slice 2 (TInt .i64)) 28 A82 c83 y85 out_84 :: Own TBool 4 (some ⟨b7, 0, none⟩) ((w64 (4 * (d_Crossings.length : Int))).toNat) (fun _ => ()) seen_179 :: Own (TInt .i64) 2 A180 c181 (fun _ => ()) region_182 :: L) → G prog 259 58 [(2, .pointer (some ⟨b1, 0, none⟩)), (3, .pointer (some ⟨b3, 0, none⟩)), (5, .slice A82 out_84.length c83), (6, .slice (some ⟨b7, 0, none⟩) seen_179.length ((w64 (4 * (d_Crossings.length : Int))).toNat)), (8, .slice A180 region_182.length c181), (9, .int .i64 k_183), (17, .int .i64 ((List.replicate (w64 (4 * (d_Crossings.length : Int))).toNat false).length : Int)), (18, .int .i64 x87)] k_l4 w (impl_Diagram_regions.post w0 L r1) := by
       intro m_l4
       induction m_l4 using Nat.strongRecOn with
       | _ m_l4 ih_l4 =>
        intro hm_l4 seen_179 A180 c181 region_182 k_183 w H HS
        cases m_l4 with
        | zero => rw [impl_Diagram_regions.l4] at H; cases H
        | succ n_l4 =>
         rw [impl_Diagram_regions.l4] at H
         subst hk_l4
         refine G.run 2 rfl ?_
         obtain ⟨c209, H⟩ := ite_none H
         refine G.region ?_
         refine GO.ps 2 rfl ?_
         refine GO.ix rfl rfl rfl underlying218 sz4 (fun _ => ⟨_, _, rfl⟩) c209.1 c209.2 rfl ?_
         refine GO.ldRd (T := TBool) (n := k_183.toNat) (o := 0) HS (RdIn.own (j := 3) rfl) rfl rfl (getD_some (d := false) (ltN c209)) rfl rfl na4 rfl ?_
         refine GO.not rfl rfl rfl ?_
         refine GO.nil ?_
         rcases ite_elim H with ⟨c210, H⟩ | ⟨c210, H⟩
         ·
          refine G.noB rfl (congrArg Bool.not c210) ?_
          refine G.run 2 rfl ?_
          refine G.region ?_
          refine GO.move rfl rfl rfl ?_
          refine GO.lenS rfl rfl underlying28 rfl ?_
          refine GO.gtr rfl rfl rfl rfl ?_
          refine GO.nil ?_
          rcases ite_elim H with ⟨c211, H⟩ | ⟨c211, H⟩
          ·
           refine G.yesB rfl (decide_eq_true c211) ?_
           obtain ⟨c217, H⟩ := ite_none H
           refine G.region ?_
           refine GO.ps 2 rfl ?_
           refine GO.buildS (el := 28) ([.slice A180 region_182.length c181]) HS rfl rfl (fun _ => by kernel_rfl) rfl ?_; intro b212 wd213 HS
           replace HS := HS.pk 6 [3, 0, 5, 1, 2, 4] rfl
           refine GO.appR (S := (TInt .i64)) (u := 2) HS rfl rfl rfl underlying170 inf28 rfl rfl c217 rfl ?_; intro A215 c216 y218 wd214 HS
           refine GO.assign rfl rfl rfl ?_
           refine GO.nil ?_
           refine G.run 3 rfl ?_
           refine G.weak ?_ (ih_l1 n_l4 (by omega) (by omega) _ _ _ _ _ _ _ H (HS.pk 5 [2, 3, 0, 4] rfl))
           exact ⟨rfl, rfl, rfl, rfl, rfl, rfl, trivial⟩
          refine G.noB rfl (decide_eq_false c211) ?_
          refine G.run 4 rfl ?_
          refine G.weak ?_ (ih_l1 n_l4 (by omega) (by omega) _ _ _ _ _ _ _ H (HS.pk 5 [0, 1, 2, 3] rfl))
          exact ⟨rfl, rfl, rfl, rfl, rfl, rfl, trivial⟩
         refine G.yesB rfl (congrArg Bool.not (bnot_of c210)) ?_
         refine G.run 3 rfl ?_
         refine G.region ?_
         refine GO.ps 2 rfl ?_
         refine GO.ix rfl rfl rfl underlying218 sz4 (fun _ => ⟨_, _, rfl⟩) c209.1 c209.2 rfl ?_
         refine GO.stRow (T := TBool) (j := 3) (n := k_183.toNat) (o := 0) (vs := [.bool true]) true HS rfl flat_flat rfl rfl rfl rfl (htN na4 rfl) rfl (getD_some (d := false) (ltN c209)) rfl rfl ?_; intro wd219 HS
         refine GO.nil ?_
         refine G.len (t := 6) (m := (seen_179.set k_183.toNat true).length) rfl (by simp only [List.length_set] <;> rfl) ?_
         refine G.seq ?_
         obtain ⟨c225, H⟩ := ite_none H
         refine G.region ?_
         refine GO.ps 2 rfl ?_
         refine GO.buildS (el := 2) ([.int .i64 k_183]) HS rfl rfl (fun _ => by kernel_rfl) rfl ?_; intro b220 wd221 HS
         refine GO.app1 (T := (TInt .i64)) (j := 5) (jb := 0) k_183 HS rfl rfl flat_flat rfl rfl rfl underlying28 inf2 rfl rfl rfl c225 rfl ?_; intro A223 c224 wd222 HS
         refine GO.assign rfl rfl rfl ?_
         refine GO.nil ?_
         refine G.seq ?_
         obtain ⟨t226, t227, h228, H⟩ := bind2_elim H
         refine G.region ?_
         refine GO.ldBoxA (j := 1) ([.slice A_a d_Crossings.length c_a, .int .i64 d_Circles]) HS rfl rfl rfl rfl ag43 rfl ?_
         refine GO.ldBoxA (j := 2) ([.slice A_b a_from.length c_b, .slice A_c a_to.length c_c]) HS rfl rfl rfl rfl ag235 rfl ?_
         refine GO.move rfl rfl rfl ?_
         refine GO.quo rfl rfl rfl (by decide) rfl ?_
         refine GO.ps 2 rfl ?_
         refine GO.rem rfl rfl rfl (by decide) rfl ?_
         refine GO.buildV (.agg [.int .i64 (w64 (k_183.tdiv 4)), .int .i64 ((w64 (k_183 + 1)).tmod 4)].toArray) rfl rfl (fun _ => by kernel_rfl) rfl ?_
         refine GO.fn rfl func285 fok285.1 fok285.2 rfl rfl (impl_Diagram_other.calls HS (RdIn.drop 6 r_a) (RdIn.drop 6 r_b) (RdIn.drop 6 r_c) h228) (fun _ wd229 ⟨h230, HS⟩ => ⟨_, h230, ?_⟩)
         refine GO.alloc HS rfl zr294 rfl rfl ?_; intro b231 wd232 HS
         refine GO.stBox (j := 0) (vs := [.int .i64 t226, .int .i64 t227]) ([.int .i64 t226, .int .i64 t227]) HS rfl rfl rfl rfl rfl (htA ag294) rfl rfl rfl ?_; intro wd233 HS
         refine GO.nil ?_
         refine G.region ?_
         refine GO.fld (⟨b231, 0, none⟩) rfl rfl fl294_0 rfl rfl ?_
         refine GO.ldBox (j := 0) HS rfl rfl rfl rfl na2 rfl ?_
         refine GO.mul rfl rfl rfl rfl ?_
         refine GO.fld (⟨b231, 1, none⟩) rfl rfl fl294_1 rfl rfl ?_
         refine GO.ldBox (j := 0) HS rfl rfl rfl rfl na2 rfl ?_
         refine GO.ps 2 rfl ?_
         refine GO.nil ?_
         refine G.run 2 rfl ?_
         refine G.weak ?_ (ih_l4 n_l4 (Nat.lt_succ_of_le (Nat.le_refl _)) (Nat.le_of_succ_le hm_l4) _ _ _ _ _ _ H (HS.pk 7 [2, 3, 4, 5, 6] rfl))
         exact ⟨rfl, rfl, rfl, rfl, rfl, rfl, rfl, rfl, trivial⟩
      replace HS := HS.nilRow (TInt .i64) 2 (fun _ => ())
      refine G.weak ?_ (at_l4 n_l1 (Nat.le_refl _) _ _ _ _ _ _ H (HS.pk 5 [1, 2, 3, 4, 0] rfl))
      exact ⟨rfl, rfl, rfl, rfl, rfl, rfl, rfl, rfl, trivial⟩
     refine G.noB rfl (decide_eq_false c161) ?_
     refine G.run 3 rfl ?_
     obtain rfl := Option.some.inj H
     exact G.ret1 _ func259 rfl rfl ⟨_, _, _, rfl, (HS.pk 4 [2] rfl)⟩
  replace HS := HS.nilRow (Ty.slice 2 (TInt .i64)) 28 (fun _ => ⟨none, 0, (fun _ => ())⟩)
  refine G.weak ?_ (at_l1 K (Nat.le_refl _) _ _ _ _ _ _ _ H (HS.pk 4 [3, 2, 0, 1] rfl))
  exact ⟨rfl, rfl, rfl, rfl, rfl, rfl, trivial⟩
theorem impl_size_int64.calls {w0 w : World} {L : List HObj} {list : List (List Int)} {A_a : Option Addr} {c_a : Nat} {y_a : Nat → (Ty.slice 2 (TInt .i64)).Lay} {r1 : Int} (HS : St w0 w (L)) (r_a : RdIn w0 L (Ty.slice 2 (TInt .i64)) A_a c_a y_a list) (H : impl_size_int64.f list = some r1) :
    Calls prog 258 #[.slice A_a list.length c_a] w (impl_size_int64.post w0 L r1) := by
  unfold impl_size_int64.f at H
  refine Calls.of_G func258 rfl rfl rfl ?_
  refine G.run 3 rfl (G.region (GO.move rfl rfl rfl (GO.lenS rfl rfl underlying170 rfl (GO.assign rfl rfl rfl (GO.nil ?_)))))
  obtain rfl := Option.some.inj H
  exact G.ret1 _ func258 rfl rfl ⟨rfl, HS⟩
theorem impl_counting.calls {w0 w : World} {L : List HObj} {K : Nat} {n_ : Int} {r1 : List Int} (HS : St w0 w (L)) (H : impl_counting.f K n_ = some r1) :
    Calls prog 287 #[.int .i64 n_] w (impl_counting.post w0 L r1) := by
  unfold impl_counting.f at H
  refine Calls.of_G func287 rfl rfl rfl ?_
  refine G.run 9 rfl ?_
  refine G.name (fun k_l1 hk_l1 => ?_)
  have at_l1 : ∀ m_l1, m_l1 ≤ K → ∀ (A8 : Option Addr) (c9 : Nat) (out_10 : List Int) (x11 : Int) (w : World), impl_counting.l1 K m_l1 n_ out_10 x11 = some r1 → St w0 w (Own (TInt .i64) 2 A8 c9 (fun _ => ()) out_10 :: L) → G prog 287 15 [(3, .slice A8 out_10.length c9), (5, .int .i64 n_), (6, .int .i64 x11)] k_l1 w (impl_counting.post w0 L r1) := by
   intro m_l1
   induction m_l1 using Nat.strongRecOn with
   | _ m_l1 ih_l1 =>
    intro hm_l1 A8 c9 out_10 x11 w H HS
    cases m_l1 with
    | zero => rw [impl_counting.l1] at H; cases H
    | succ n_l1 =>
     rw [impl_counting.l1] at H
     subst hk_l1
     refine G.run 3 rfl ?_
     rcases ite_elim H with ⟨c19, H⟩ | ⟨c19, H⟩
     ·
      refine G.yesB rfl (decide_eq_true c19) (G.run 5 rfl ?_)
      obtain ⟨c25, H⟩ := ite_none H
      refine G.region (GO.ps 2 rfl (GO.buildS (el := 2) ([.int .i64 x11]) HS rfl rfl (fun _ => by kernel_rfl) rfl fun b20 wd21 HS => GO.app1 (T := (TInt .i64)) (j := 1) (jb := 0) x11 HS rfl rfl flat_flat rfl rfl rfl underlying28 inf2 rfl rfl rfl c25 rfl fun A23 c24 wd22 HS => GO.assign rfl rfl rfl (GO.nil (G.run 3 rfl (G.weak ?_ (ih_l1 n_l1 (Nat.lt_succ_of_le (Nat.le_refl _)) (Nat.le_of_succ_le hm_l1) _ _ _ _ _ H (HS.pk 2 [1] rfl)))))))
      exact ⟨rfl, rfl, rfl, trivial⟩
     refine G.noB rfl (decide_eq_false c19) (G.run 3 rfl ?_)
     obtain rfl := Option.some.inj H
     exact G.ret1 _ func287 rfl rfl ⟨_, _, rfl, HS⟩
  replace HS := HS.nilRow (TInt .i64) 2 (fun _ => ())
  refine G.weak ?_ (at_l1 K (Nat.le_refl _) _ _ _ _ _ H HS)
  exact ⟨rfl, rfl, rfl, trivial⟩
theorem impl_union.calls {w0 w : World} {L : List HObj} {K : Nat} {sets : List Int} {i k_ : Int} {A_a : Option Addr} {c_a : Nat} {r1 : List Int} (HS : St w0 w (Own (TInt .i64) 2 A_a c_a (fun _ => ()) sets :: L)) (H : impl_union.f K sets i k_ = some r1) :
    Calls prog 288 #[.slice A_a sets.length c_a, .int .i64 i, .int .i64 k_] w (impl_union.post w0 L A_a c_a r1) := by
  unfold impl_union.f at H
  refine Calls.of_G func288 rfl rfl rfl ?_
  refine G.seq ?_
  obtain ⟨c1, H⟩ := ite_none H
  have h2 := ((RdIn.own (j := 0) rfl) _ HS).2.2.1
  obtain ⟨c3, H⟩ := ite_none H
  have h4 := ((RdIn.own (j := 0) rfl) _ HS).2.2.1
  refine G.lex mixed [0, 1, 2, 4, 5, 6, 3, 7, 8, 9] (by kernel_rfl) ?_
  replace HS := HS.drew
  refine GX.ps 2 rfl (GX.l0 rfl rfl (fun _ _ g => GO.ix rfl rfl rfl underlying28 sz2 h2 c1.1 c1.2 rfl g) rfl (GX.ps 2 rfl (GX.l0 rfl rfl (fun _ _ g => GO.ix rfl rfl rfl underlying28 sz2 h4 c3.1 c3.2 rfl g) rfl (GX.l1 rfl rfl rfl (fun _ g => GO.ldRd (T := (TInt .i64)) (n := k_.toNat) (o := 0) HS (RdIn.own (j := 0) rfl) rfl rfl (getD_some (d := 0) (ltN c1)) rfl rfl na2 rfl g) rfl (GX.l1 rfl rfl rfl (fun _ g => GO.ldRd (T := (TInt .i64)) (n := i.toNat) (o := 0) HS (RdIn.own (j := 0) rfl) rfl rfl (getD_some (d := 0) (ltN c3)) rfl rfl na2 rfl g) rfl (GX.ps 2 rfl (GX.nil (G.seq (G.region (GO.move rfl rfl rfl (GO.lenS rfl rfl underlying28 rfl (GO.move rfl rfl rfl (GO.nil (G.run 2 rfl ?_))))))))))))))
  refine G.name (fun k_l1 hk_l1 => ?_)
  have at_l1 : ∀ m_l1, m_l1 ≤ K → ∀ (x9 : List Int) (x10 : Int) (w : World), impl_union.l1 K m_l1 sets i k_ x9 x10 = some r1 → St w0 w (Own (TInt .i64) 2 A_a c_a (fun _ => ()) x9 :: L) → G prog 288 33 [(0, .slice A_a x9.length c_a), (6, .int .i64 (sets.getD k_.toNat 0)), (7, .int .i64 (sets.getD i.toNat 0)), (18, .slice A_a x9.length c_a), (19, .int .i64 (sets.length : Int)), (20, .int .i64 x10)] k_l1 w (impl_union.post w0 L A_a c_a r1) := by
   intro m_l1
   induction m_l1 using Nat.strongRecOn with
   | _ m_l1 ih_l1 =>
    intro hm_l1 x9 x10 w H HS
    cases m_l1 with
    | zero => rw [impl_union.l1] at H; cases H
    | succ n_l1 =>
     rw [impl_union.l1] at H
     subst hk_l1
     refine G.run 3 rfl ?_
     rcases ite_elim H with ⟨c15, H⟩ | ⟨c15, H⟩
     ·
      refine G.yesB rfl (decide_eq_true c15) (G.run 4 rfl ?_)
      obtain ⟨c16, H⟩ := ite_none H
      refine G.region (GO.move rfl rfl rfl (GO.ix rfl rfl rfl underlying28 sz2 ((RdIn.own (j := 0) rfl) _ HS).2.2.1 c16.1 c16.2 rfl (GO.ldRd (T := (TInt .i64)) (n := x10.toNat) (o := 0) HS (RdIn.own (j := 0) rfl) rfl rfl (getD_some (d := 0) (ltN c16)) rfl rfl na2 rfl (GO.ps 2 rfl (GO.nil (G.run 2 rfl ?_))))))
      rcases ite_elim H with ⟨c17, H⟩ | ⟨c17, H⟩
      ·
       refine G.yesB rfl (decide_eq_true c17) (G.region (GO.ps 3 rfl (GO.ix rfl rfl rfl underlying28 sz2 ((RdIn.own (j := 0) rfl) _ HS).2.2.1 c16.1 c16.2 rfl (GO.stRow (T := (TInt .i64)) (j := 0) (n := x10.toNat) (o := 0) (vs := [.int .i64 (sets.getD i.toNat 0)]) (sets.getD i.toNat 0) HS rfl flat_flat rfl rfl rfl rfl (htN na2 rfl) rfl (getD_some (d := 0) (ltN c16)) rfl rfl fun wd18 HS => GO.nil (G.len (t := 0) (m := (x9.set x10.toNat (sets.getD i.toNat 0)).length) rfl (by simp only [List.length_set] <;> rfl) (G.len (t := 18) (m := (x9.set x10.toNat (sets.getD i.toNat 0)).length) rfl (by simp only [List.length_set] <;> rfl) (G.run 3 rfl (G.weak ?_ (ih_l1 n_l1 (Nat.lt_succ_of_le (Nat.le_refl _)) (Nat.le_of_succ_le hm_l1) _ _ _ H HS)))))))))
       exact ⟨rfl, rfl, rfl, rfl, rfl, rfl, trivial⟩
      refine G.noB rfl (decide_eq_false c17) (G.run 4 rfl (G.weak ?_ (ih_l1 n_l1 (Nat.lt_succ_of_le (Nat.le_refl _)) (Nat.le_of_succ_le hm_l1) _ _ _ H HS)))
      exact ⟨rfl, rfl, rfl, rfl, rfl, rfl, trivial⟩
     refine G.noB rfl (decide_eq_false c15) (G.exit rfl ?_)
     obtain rfl := Option.some.inj H
     exact G.end0 func288 rfl ⟨rfl, HS⟩
  refine G.weak ?_ (at_l1 K (Nat.le_refl _) _ _ _ H HS)
  exact ⟨rfl, rfl, rfl, rfl, rfl, rfl, trivial⟩
theorem impl_numbered.calls {w0 w : World} {L : List HObj} {K : Nat} {roots : List Int} {A_a : Option Addr} {c_a : Nat} {r1 : List Int} (HS : St w0 w (L)) (r_a : RdIn w0 L (TInt .i64) A_a c_a (fun _ => ()) roots) (H : impl_numbered.f K roots = some r1) :
    Calls prog 289 #[.slice A_a roots.length c_a] w (impl_numbered.post w0 L r1) := by
  unfold impl_numbered.f at H
  refine Calls.of_G func289 rfl rfl rfl ?_
  refine G.run 3 rfl (G.region (GO.newMapJ .i64 .i64 HS rfl rfl fun b1 wd2 HS => GO.assign rfl rfl rfl (GO.nil (G.run 4 rfl (G.region (GO.move rfl rfl rfl (GO.lenS rfl rfl underlying28 rfl (GO.move rfl rfl rfl (GO.nil (G.run 2 rfl ?_))))))))))
  refine G.name (fun k_l1 hk_l1 => ?_)
  have at_l1 : ∀ m_l1, m_l1 ≤ K → ∀ (numbers_16 : List (Int × Int)) (A17 : Option Addr) (c18 : Nat) (out_19 : List Int) (x20 : Int) (w : World), impl_numbered.l1 K m_l1 roots numbers_16 out_19 x20 = some r1 → St w0 w (MapJ b1 .i64 .i64 numbers_16 :: Own (TInt .i64) 2 A17 c18 (fun _ => ()) out_19 :: L) → G prog 289 36 [(3, .map (some b1)), (4, .slice A17 out_19.length c18), (10, .slice A_a roots.length c_a), (11, .int .i64 (roots.length : Int)), (12, .int .i64 x20)] k_l1 w (impl_numbered.post w0 L r1) := by
   intro m_l1
   induction m_l1 using Nat.strongRecOn with
   | _ m_l1 ih_l1 =>
    intro hm_l1 numbers_16 A17 c18 out_19 x20 w H HS
    cases m_l1 with
    | zero => rw [impl_numbered.l1] at H; cases H
    | succ n_l1 =>
     rw [impl_numbered.l1] at H
     subst hk_l1
     refine G.run 3 rfl ?_
     rcases ite_elim H with ⟨c34, H⟩ | ⟨c34, H⟩
     ·
      refine G.yesB rfl (decide_eq_true c34) (G.run 4 rfl ?_)
      obtain ⟨c35, H⟩ := ite_none H
      refine G.region (GO.ix rfl rfl rfl underlying28 sz2 ((RdIn.drop 2 r_a) _ HS).2.2.1 c35.1 c35.2 rfl (GO.ldRd (T := (TInt .i64)) (n := x20.toNat) (o := 0) HS (RdIn.drop 2 r_a) rfl rfl (getD_some (d := 0) (ltN c35)) rfl rfl na2 rfl (GO.assign rfl rfl rfl (GO.nil (G.run 2 rfl (G.region (GO.ps 2 rfl (GO.lookOkJ (j := 0) HS rfl rfl rfl rfl underlying312 underlying2 zr2 rfl (GO.ps 5 rfl (GO.nil (G.run 2 rfl ?_)))))))))))
      refine G.nameT (fun k_j4 hk_j4 => ?_)
      have at_j4 : ∀ m_j4, m_j4 ≤ n_l1 → ∀ (numbers_38 : List (Int × Int)) (w : World), impl_numbered.j4 K m_j4 roots out_19 x20 numbers_38 = some r1 → St w0 w (MapJ b1 .i64 .i64 numbers_38 :: Own (TInt .i64) 2 A17 c18 (fun _ => ()) out_19 :: L) → G prog 289 36 [(3, .map (some b1)), (4, .slice A17 out_19.length c18), (6, .int .i64 (roots.getD x20.toNat 0)), (10, .slice A_a roots.length c_a), (11, .int .i64 (roots.length : Int)), (12, .int .i64 x20)] k_j4 w (impl_numbered.post w0 L r1) := by
       intro m_j4 hm_j4 numbers_38 w H HS
       cases m_j4 with
       | zero => rw [impl_numbered.j4] at H; cases H
       | succ n_j4 =>
        rw [impl_numbered.j4] at H
        subst hk_j4
        obtain ⟨c44, H⟩ := ite_none H
        refine G.region (GO.ps 3 rfl (GO.lookJ (j := 0) HS rfl rfl rfl rfl underlying312 underlying2 zr2 rfl (GO.buildS (el := 2) ([.int .i64 ((mget numbers_38 (roots.getD x20.toNat 0)).getD 0)]) HS rfl rfl (fun _ => by kernel_rfl) rfl fun b39 wd40 HS => GO.app1 (T := (TInt .i64)) (j := 2) (jb := 0) ((mget numbers_38 (roots.getD x20.toNat 0)).getD 0) HS rfl rfl flat_flat rfl rfl rfl underlying28 inf2 rfl rfl rfl c44 rfl fun A42 c43 wd41 HS => GO.assign rfl rfl rfl (GO.nil (G.run 3 rfl (G.weak ?_ (ih_l1 n_j4 (by omega) (by omega) _ _ _ _ _ _ H (HS.pk 3 [1, 2] rfl))))))))
        exact ⟨rfl, rfl, rfl, rfl, rfl, trivial⟩
      rcases ite_elim H with ⟨c45, H⟩ | ⟨c45, H⟩
      ·
       refine G.noB rfl (congrArg Bool.not c45) (G.skip (G.weak ?_ (at_j4 n_l1 (Nat.le_refl _) _ _ H HS)))
       exact ⟨rfl, rfl, rfl, rfl, rfl, rfl, trivial⟩
      refine G.yesB rfl (congrArg Bool.not (bnot_of c45)) (G.region (GO.ps 3 rfl (GO.lenMJ (j := 0) HS rfl rfl rfl underlying312 rfl (GO.putMJ (j := 0) HS rfl rfl rfl rfl rfl underlying312 underlying2 fun wd46 HS => GO.nil (G.weak ?_ (at_j4 n_l1 (Nat.le_refl _) _ _ H HS))))))
      exact ⟨rfl, rfl, rfl, rfl, rfl, rfl, trivial⟩
     refine G.noB rfl (decide_eq_false c34) (G.run 3 rfl ?_)
     obtain rfl := Option.some.inj H
     exact G.ret1 _ func289 rfl rfl ⟨_, _, rfl, (HS.pk 2 [1] rfl)⟩
  replace HS := HS.nilRow (TInt .i64) 2 (fun _ => ())
  refine G.weak ?_ (at_l1 K (Nat.le_refl _) _ _ _ _ _ _ H (HS.pk 2 [1, 0] rfl))
  exact ⟨rfl, rfl, rfl, rfl, rfl, trivial⟩
theorem impl_Diagram_parts.calls {w0 w : World} {L : List HObj} {K : Nat} {d_Crossings : List GCrossing} {d_Circles : Int} {a_from a_to : List GEnd} {A_a : Option Addr} {c_a : Nat} {A_b : Option Addr} {c_b : Nat} {A_c : Option Addr} {c_c : Nat} {r1 : List Int} (HS : St w0 w (L)) (r_a : RdIn w0 L T_GCrossing A_a c_a (fun _ => ()) d_Crossings) (r_b : RdIn w0 L T_GEnd A_b c_b (fun _ => ()) a_from) (r_c : RdIn w0 L T_GEnd A_c c_c (fun _ => ()) a_to) (H : impl_Diagram_parts.f K d_Crossings d_Circles a_from a_to = some r1) :
    Calls prog 261 #[.agg [.slice A_a d_Crossings.length c_a, .int .i64 d_Circles].toArray, .agg [.slice A_b a_from.length c_b, .slice A_c a_to.length c_c].toArray] w (impl_Diagram_parts.post w0 L r1) := by
  unfold impl_Diagram_parts.f at H
  refine Calls.of_G func261 rfl rfl rfl ?_
  refine G.seq (G.region (GO.box (cs := [.slice A_a d_Crossings.length c_a, .int .i64 d_Circles]) HS rfl rfl rfl rfl fun b1 wd2 HS => GO.box (cs := [.slice A_b a_from.length c_b, .slice A_c a_to.length c_c]) HS rfl rfl rfl rfl fun b3 wd4 HS => GO.assign rfl rfl rfl (GO.nil (G.seq ?_))))
  obtain ⟨t5, h6, H⟩ := Option.bind_eq_some_iff.1 H
  obtain ⟨t9, h10, H⟩ := Option.bind_eq_some_iff.1 H
  refine G.region (GO.fld (⟨b1, 0, none⟩) rfl rfl fl43_0 rfl rfl (GO.ldBox (j := 1) HS rfl rfl rfl rfl na41 rfl (GO.fn rfl func254 fok254.1 fok254.2 rfl rfl (impl_size_impl_Crossing.calls HS (RdIn.drop 2 r_a) h6) (fun _ wd7 ⟨h8, HS⟩ => ⟨_, h8, (GO.fn rfl func287 fok287.1 fok287.2 rfl rfl (impl_counting.calls HS  h10) (fun _ wd13 ⟨A11, c12, h14, HS⟩ => ⟨_, h14, (GO.assign rfl rfl rfl (GO.nil (G.run 2 rfl (G.region (GO.fld (⟨b3, 0, none⟩) rfl rfl fl235_0 rfl rfl (GO.ldBox (j := 1) HS rfl rfl rfl rfl na233 rfl (GO.lenS rfl rfl underlying233 rfl (GO.move rfl rfl rfl (GO.nil (G.run 2 rfl ?_))))))))))⟩))⟩))))
  refine G.name (fun k_l1 hk_l1 => ?_)
  have at_l1 : ∀ m_l1, m_l1 ≤ K → ∀ (sets_36 : List Int) (x37 : Int) (w : World), impl_Diagram_parts.l1 K m_l1 a_from a_to sets_36 x37 = some r1 → St w0 w (Box b3 235 [.slice A_b a_from.length c_b, .slice A_c a_to.length c_c] :: Own (TInt .i64) 2 A11 c12 (fun _ => ()) sets_36 :: L) → G prog 261 33 [(3, .pointer (some ⟨b3, 0, none⟩)), (5, .slice A11 sets_36.length c12), (13, .slice A_b a_from.length c_b), (14, .int .i64 (a_from.length : Int)), (15, .int .i64 x37)] k_l1 w (impl_Diagram_parts.post w0 L r1) := by
   intro m_l1
   induction m_l1 using Nat.strongRecOn with
   | _ m_l1 ih_l1 =>
    intro hm_l1 sets_36 x37 w H HS
    cases m_l1 with
    | zero => rw [impl_Diagram_parts.l1] at H; cases H
    | succ n_l1 =>
     rw [impl_Diagram_parts.l1] at H
     subst hk_l1
     refine G.run 3 rfl ?_
     rcases ite_elim H with ⟨c59, H⟩ | ⟨c59, H⟩
     ·
      refine G.yesB rfl (decide_eq_true c59) (G.run 4 rfl ?_)
      obtain ⟨c60, H⟩ := ite_none H
      obtain ⟨e61, h62, H⟩ := bnd_elim H
      refine G.region (GO.move rfl rfl rfl (GO.ix rfl rfl rfl underlying233 sz294 ((RdIn.drop 2 r_b) _ HS).2.2.1 c60.1 c60.2 rfl (GO.ldRdA (T := T_GEnd) (n := x37.toNat) HS (RdIn.drop 2 r_b) rfl rfl (getD_eq (ltN c60) h62) ag294 rfl (GO.alloc HS rfl zr294 rfl rfl fun b63 wd64 HS => GO.assign rfl rfl rfl (GO.stBox (j := 0) (vs := [.int .i64 e61.crossing, .int .i64 e61.position]) ([.int .i64 e61.crossing, .int .i64 e61.position]) HS rfl rfl rfl rfl rfl (htA ag294) rfl rfl rfl fun wd65 HS => GO.nil ?_)))))
      obtain ⟨c66, H⟩ := ite_none H
      obtain ⟨e67, h68, H⟩ := bnd_elim H
      obtain ⟨t69, h70, H⟩ := Option.bind_eq_some_iff.1 H
      obtain ⟨c71, H⟩ := ite_none H
      refine G.lex mixed [0, 1, 3, 5, 2, 4, 6, 7, 8, 9] (by kernel_rfl) ?_
      replace HS := HS.drew
      refine GX.ps 1 rfl (GX.l0 rfl rfl (fun _ _ g => GO.fld (⟨b63, 0, none⟩) rfl rfl fl294_0 rfl rfl g) rfl (GX.l0 rfl rfl (fun _ _ g => GO.fld (⟨b3, 1, none⟩) rfl rfl fl235_1 rfl rfl g) rfl (GX.ps 1 rfl (GX.l1 rfl rfl rfl (fun _ g => GO.ldBox (j := 0) HS rfl rfl rfl rfl na2 rfl g) rfl (GX.l1 rfl rfl rfl (fun _ g => GO.ldBox (j := 1) HS rfl rfl rfl rfl na233 rfl g) rfl (GX.l0 rfl rfl (fun _ _ g => GO.ix rfl rfl rfl underlying233 sz294 ((RdIn.drop 3 r_c) _ HS).2.2.1 c66.1 c66.2 rfl g) rfl (GX.l0 rfl rfl (fun _ _ g => GO.fld (ea A_c (x37.toNat * 2)) rfl rfl fl294_0 rfl rfl g) rfl (GX.l1 rfl rfl rfl (fun _ g => GO.ldRd (T := T_GEnd) (n := x37.toNat) (o := 0) HS (RdIn.drop 3 r_c) rfl rfl (getD_eq (ltN c66) h68) rfl rfl na2 rfl g) rfl (GX.l2 rfl ?_)))))))))
      replace HS := HS.pk 3 [2, 0, 1] rfl
      refine GO.fn rfl func288 fok288.1 fok288.2 rfl rfl (impl_union.calls HS  h70) (fun _ wd72 ⟨h73, HS⟩ => ⟨_, h73, (GX.fin trivial (GX.nil (G.len (t := 5) (m := t69.length) rfl (by simp only [List.length_set, c71] <;> rfl) (G.run 3 rfl (G.weak ?_ (ih_l1 n_l1 (Nat.lt_succ_of_le (Nat.le_refl _)) (Nat.le_of_succ_le hm_l1) _ _ _ H (HS.pk 3 [2, 0] rfl)))))))⟩)
      exact ⟨rfl, rfl, rfl, rfl, rfl, trivial⟩
     refine G.noB rfl (decide_eq_false c59) (G.run 2 rfl ?_)
     obtain ⟨t74, h75, H⟩ := Option.bind_eq_some_iff.1 H
     refine G.region (GO.move rfl rfl rfl (GO.fn rfl func289 fok289.1 fok289.2 rfl rfl (impl_numbered.calls HS (RdIn.own (j := 1) rfl) h75) (fun _ wd78 ⟨A76, c77, h79, HS⟩ => ⟨_, h79, (GO.assign rfl rfl rfl (GO.nil ?_))⟩)))
     obtain rfl := Option.some.inj H
     exact G.ret1 _ func261 rfl rfl ⟨_, _, rfl, (HS.pk 3 [0] rfl)⟩
  refine G.weak ?_ (at_l1 K (Nat.le_refl _) _ _ _ H (HS.pk 3 [1, 0] rfl))
  exact ⟨rfl, rfl, rfl, rfl, rfl, trivial⟩
theorem slices_Max_int64_int64.calls {w0 w : World} {L : List HObj} {K : Nat} {x : List Int} {A_a : Option Addr} {c_a : Nat} {r1 : Int} (HS : St w0 w (L)) (r_a : RdIn w0 L (TInt .i64) A_a c_a (fun _ => ()) x) (H : slices_Max_int64_int64.f K x = some r1) :
    Calls prog 286 #[.slice A_a x.length c_a] w (slices_Max_int64_int64.post w0 L r1) := by
  unfold slices_Max_int64_int64.f at H
  refine Calls.of_G func286 rfl rfl rfl ?_
  refine G.run 4 rfl (G.region (GO.move rfl rfl rfl (GO.lenS rfl rfl underlying28 rfl (GO.lss rfl rfl rfl rfl (GO.nil ?_)))))
  rcases ite_elim H with ⟨c2, H⟩ | ⟨c2, H⟩
  ·
   refine G.yesB rfl (decide_eq_true c2) ?_
   cases H
  refine G.noB rfl (decide_eq_false c2) (G.run 2 rfl ?_)
  obtain ⟨c3, H⟩ := ite_none H
  refine G.region (GO.move rfl rfl rfl (GO.ix rfl rfl rfl underlying28 sz2 (r_a _ HS).2.2.1 c3.1 c3.2 rfl (GO.ldRd (T := (TInt .i64)) (n := 0) (o := 0) HS r_a rfl rfl (getD_some (d := 0) (ltN c3)) rfl rfl na2 rfl (GO.assign rfl rfl rfl (GO.nil (G.run 5 rfl ?_))))))
  refine G.name (fun k_l2 hk_l2 => ?_)
  have at_l2 : ∀ m_l2, m_l2 ≤ K → ∀ (m_6 i_7 : Int) (w : World), slices_Max_int64_int64.l2 K m_l2 x m_6 i_7 = some r1 → St w0 w (L) → G prog 286 25 [(0, .slice A_a x.length c_a), (3, .int .i64 m_6), (4, .int .i64 i_7)] k_l2 w (slices_Max_int64_int64.post w0 L r1) := by
   intro m_l2
   induction m_l2 using Nat.strongRecOn with
   | _ m_l2 ih_l2 =>
    intro hm_l2 m_6 i_7 w H HS
    cases m_l2 with
    | zero => rw [slices_Max_int64_int64.l2] at H; cases H
    | succ n_l2 =>
     rw [slices_Max_int64_int64.l2] at H
     subst hk_l2
     refine G.run 2 rfl (G.region (GO.ps 2 rfl (GO.lenS rfl rfl underlying28 rfl (GO.lss rfl rfl rfl rfl (GO.nil ?_)))))
     rcases ite_elim H with ⟨c10, H⟩ | ⟨c10, H⟩
     ·
      refine G.yesB rfl (decide_eq_true c10) (G.run 3 rfl ?_)
      obtain ⟨c11, H⟩ := ite_none H
      refine G.region (GO.ps 3 rfl (GO.ix rfl rfl rfl underlying28 sz2 (r_a _ HS).2.2.1 c11.1 c11.2 rfl (GO.ldRd (T := (TInt .i64)) (n := i_7.toNat) (o := 0) HS r_a rfl rfl (getD_some (d := 0) (ltN c11)) rfl rfl na2 rfl (GO.max2 rfl rfl rfl rfl (GO.assign rfl rfl rfl (GO.nil (G.run 3 rfl (G.weak ?_ (ih_l2 n_l2 (Nat.lt_succ_of_le (Nat.le_refl _)) (Nat.le_of_succ_le hm_l2) _ _ _ H HS)))))))))
      exact ⟨rfl, rfl, rfl, trivial⟩
     refine G.noB rfl (decide_eq_false c10) (G.run 3 rfl ?_)
     obtain rfl := Option.some.inj H
     exact G.ret1 _ func286 rfl rfl ⟨rfl, HS⟩
  refine G.weak ?_ (at_l2 K (Nat.le_refl _) _ _ _ H HS)
  exact ⟨rfl, rfl, rfl, trivial⟩
theorem impl_classCount.calls {w0 w : World} {L : List HObj} {K : Nat} {classes : List Int} {A_a : Option Addr} {c_a : Nat} {r1 : Int} (HS : St w0 w (L)) (r_a : RdIn w0 L (TInt .i64) A_a c_a (fun _ => ()) classes) (H : impl_classCount.f K classes = some r1) :
    Calls prog 260 #[.slice A_a classes.length c_a] w (impl_classCount.post w0 L r1) := by
  unfold impl_classCount.f at H
  refine Calls.of_G func260 rfl rfl rfl ?_
  refine G.run 4 rfl (G.region (GO.move rfl rfl rfl (GO.lenS rfl rfl underlying28 rfl (GO.eql rfl rfl rfl rfl (GO.nil ?_)))))
  rcases ite_elim H with ⟨c1, H⟩ | ⟨c1, H⟩
  ·
   refine G.yesB rfl (decide_eq_true c1) (G.run 2 rfl ?_)
   obtain rfl := Option.some.inj H
   exact G.ret1 _ func260 rfl rfl ⟨rfl, HS⟩
  refine G.noB rfl (decide_eq_false c1) (G.run 2 rfl ?_)
  obtain ⟨t2, h3, H⟩ := Option.bind_eq_some_iff.1 H
  refine G.region (GO.move rfl rfl rfl (GO.fn rfl func286 fok286.1 fok286.2 rfl rfl (slices_Max_int64_int64.calls HS r_a h3) (fun _ wd4 ⟨h5, HS⟩ => ⟨_, h5, (GO.ps 2 rfl (GO.nil ?_))⟩)))
  obtain rfl := Option.some.inj H
  exact G.ret1 _ func260 rfl rfl ⟨rfl, HS⟩
theorem impl_Diagram_drawing.calls {w0 w : World} {L : List HObj} {K : Nat} {d_Crossings : List GCrossing} {d_Circles : Int} {A_a : Option Addr} {c_a : Nat} {r1 r2 : List GEnd} {r3 : Bool} (HS : St w0 w (L)) (r_a : RdIn w0 L T_GCrossing A_a c_a (fun _ => ()) d_Crossings) (H : impl_Diagram_drawing.f K d_Crossings d_Circles = some (r1, r2, r3)) :
    Calls prog 213 #[.agg [.slice A_a d_Crossings.length c_a, .int .i64 d_Circles].toArray] w (impl_Diagram_drawing.post w0 L r1 r2 r3) := by
  unfold impl_Diagram_drawing.f at H
  refine Calls.of_G func213 rfl rfl rfl ?_
  refine G.seq (G.region (GO.box (cs := [.slice A_a d_Crossings.length c_a, .int .i64 d_Circles]) HS rfl rfl rfl rfl fun b1 wd2 HS => GO.alloc HS rfl zr235 rfl rfl fun b3 wd4 HS => GO.assign rfl rfl rfl (GO.nil (G.seq ?_))))
  obtain ⟨t5, h6, H⟩ := Option.bind_eq_some_iff.1 H
  refine G.region (GO.fld (⟨b1, 0, none⟩) rfl rfl fl43_0 rfl rfl (GO.ldBox (j := 1) HS rfl rfl rfl rfl na41 rfl (GO.fn rfl func254 fok254.1 fok254.2 rfl rfl (impl_size_impl_Crossing.calls HS (RdIn.drop 2 r_a) h6) (fun _ wd7 ⟨h8, HS⟩ => ⟨_, h8, (GO.assign rfl rfl rfl (GO.nil (G.run 2 rfl ?_)))⟩))))
  rcases ite_elim H with ⟨c19, H⟩ | ⟨c19, H⟩
  ·
   refine G.region (GO.ps 3 rfl (GO.known (t := 12) rfl (decide_eq_true c19) (GO.off rfl rfl rfl rfl rfl rfl (GO.off rfl rfl rfl rfl rfl rfl (GO.off rfl rfl rfl rfl rfl rfl (GO.off rfl rfl rfl rfl rfl rfl (GO.ps 2 rfl (GO.off rfl rfl rfl rfl rfl rfl (GO.off rfl rfl rfl rfl rfl rfl (GO.off rfl rfl rfl rfl rfl rfl (GO.pickT rfl rfl rfl rfl rfl (GO.nil (G.run 2 rfl (G.region ?_))))))))))))))
   refine GO.buildV (.agg [.slice none 0 0, .slice none 0 0].toArray) rfl rfl (fun _ => by kernel_rfl) rfl (GO.stBox (j := 0) (vs := [.slice none 0 0, .slice none 0 0]) ([.slice none 0 0, .slice none 0 0]) HS rfl rfl rfl rfl rfl (htA ag235) rfl rfl rfl fun wd20 HS => GO.assign rfl rfl rfl (GO.nil ?_))
   replace HS := HS.nilRow T_GEnd 294 (fun _ => ())
   replace HS := HS.nilRow T_GEnd 294 (fun _ => ())
   obtain ⟨rfl, rfl, rfl⟩ := some3 H
   exact G.ret2 _ _ func213 rfl (Res1.boxA (j := 2) (vs := [.slice none 0 0, .slice none 0 0]) HS rfl rfl rfl ag235) rfl ⟨_, _, _, _, rfl, (HS.pk 4 [1, 0] rfl)⟩
  obtain ⟨t21, h22, H⟩ := Option.bind_eq_some_iff.1 H
  rcases ite_elim H with ⟨c25, H⟩ | ⟨c25, H⟩
  ·
   obtain ⟨t26, h27, H⟩ := Option.bind_eq_some_iff.1 H
   refine G.region (GO.ps 3 rfl (GO.known (t := 12) rfl (decide_eq_false c19) (GO.on rfl rfl rfl rfl (GO.fld (⟨b1, 1, none⟩) rfl rfl fl43_1 rfl rfl (GO.back (GO.on rfl rfl rfl rfl (GO.ldBox (j := 1) HS rfl rfl rfl rfl na2 rfl (GO.back (GO.on rfl rfl rfl rfl (GO.fn rfl func146 fok146.1 fok146.2 rfl rfl (impl_inRange.calls HS  h22) (fun _ wd23 ⟨h24, HS⟩ => ⟨_, h24, (GO.back (GO.on rfl rfl rfl rfl (GO.not rfl rfl rfl (GO.back ?_))))⟩)))))))))))
   refine GO.ps 2 rfl (GO.known (t := 18) rfl (congrArg Bool.not c25) (GO.on rfl rfl rfl rfl (GO.fld (⟨b1, 0, none⟩) rfl rfl fl43_0 rfl rfl (GO.back (GO.on rfl rfl rfl rfl (GO.ldBox (j := 1) HS rfl rfl rfl rfl na41 rfl (GO.back (GO.on rfl rfl rfl rfl (GO.fn rfl func255 fok255.1 fok255.2 rfl rfl (slices_ContainsFunc_impl_Crossing_impl_Crossing_109.calls HS (RdIn.drop 2 r_a) h27) (fun _ wd28 ⟨h29, HS⟩ => ⟨_, h29, (GO.back (GO.pickF rfl rfl rfl rfl rfl (GO.nil ?_)))⟩))))))))))
   rcases ite_elim H with ⟨c30, H⟩ | ⟨c30, H⟩
   ·
    refine G.yesB rfl c30 (G.seq (G.region (GO.buildV (.agg [.slice none 0 0, .slice none 0 0].toArray) rfl rfl (fun _ => by kernel_rfl) rfl (GO.stBox (j := 0) (vs := [.slice none 0 0, .slice none 0 0]) ([.slice none 0 0, .slice none 0 0]) HS rfl rfl rfl rfl rfl (htA ag235) rfl rfl rfl fun wd31 HS => GO.assign rfl rfl rfl (GO.nil ?_)))))
    replace HS := HS.nilRow T_GEnd 294 (fun _ => ())
    replace HS := HS.nilRow T_GEnd 294 (fun _ => ())
    obtain ⟨rfl, rfl, rfl⟩ := some3 H
    exact G.ret2 _ _ func213 rfl (Res1.boxA (j := 2) (vs := [.slice none 0 0, .slice none 0 0]) HS rfl rfl rfl ag235) rfl ⟨_, _, _, _, rfl, (HS.pk 4 [1, 0] rfl)⟩
   refine G.noB rfl (bnot_of c30) (G.run 2 rfl ?_)
   obtain ⟨t32, t33, t34, h35, H⟩ := bind3_elim H
   refine G.region (GO.ldBoxA (j := 1) ([.slice A_a d_Crossings.length c_a, .int .i64 d_Circles]) HS rfl rfl rfl rfl ag43 rfl (GO.fn rfl func257 fok257.1 fok257.2 rfl rfl (impl_Diagram_arrows.calls HS (RdIn.drop 2 r_a) h35) (fun _ wd40 ⟨A36, c37, A38, c39, h41, HS⟩ => ⟨_, h41, (GO.ps 3 rfl (GO.alloc HS rfl zr235 rfl rfl fun b42 wd43 HS => GO.stBox (j := 0) (vs := [.slice A36 t32.length c37, .slice A38 t33.length c39]) ([.slice A36 t32.length c37, .slice A38 t33.length c39]) HS rfl rfl rfl rfl rfl (htA ag235) rfl rfl rfl fun wd44 HS => GO.assign rfl rfl rfl (GO.nil (G.run 2 rfl ?_))))⟩)))
   rcases ite_elim H with ⟨c67, H⟩ | ⟨c67, H⟩
   ·
    obtain ⟨t68, h69, H⟩ := Option.bind_eq_some_iff.1 H
    obtain ⟨t75, h76, H⟩ := Option.bind_eq_some_iff.1 H
    obtain ⟨t79, h80, H⟩ := Option.bind_eq_some_iff.1 H
    obtain ⟨t85, h86, H⟩ := Option.bind_eq_some_iff.1 H
    refine G.lexS mixed (fun w => St w0 w (Box b42 235 [.slice A36 t32.length c37, .slice A38 t33.length c39] :: Box b1 43 [.slice A_a d_Crossings.length c_a, .int .i64 d_Circles] :: L)) [3, 4, 8, 9] [0, 1, 2, 7, 3, 4, 8, 9, 5, 6, 10, 11, 12, 13, 14, 15] 16 (by kernel_rfl) (by kernel_rfl) (HS.drew.pk 5 [0, 4] rfl) ?_
    replace HS := HS.drew
    refine GX.ps 2 rfl (GX.l0 rfl rfl (fun _ _ g => GO.move rfl rfl rfl (GO.known (t := 31) rfl (congrArg Bool.not c67) g)) rfl (GX.l0 rfl rfl (fun _ _ g => GO.on rfl rfl rfl rfl (GO.move rfl rfl rfl (GO.back g))) rfl (GX.ls rfl rfl rfl (HS.pk 5 [0, 4] rfl) (fun _ HS _ g => GO.on rfl rfl rfl rfl (GO.ldBoxA (j := 1) ([.slice A_a d_Crossings.length c_a, .int .i64 d_Circles]) HS rfl rfl rfl rfl ag43 rfl (GO.back g))) rfl (GX.ls rfl rfl rfl (HS.pk 5 [0, 4] rfl) (fun _ HS _ g => GO.on rfl rfl rfl rfl (GO.ldBoxA (j := 0) ([.slice A36 t32.length c37, .slice A38 t33.length c39]) HS rfl rfl rfl rfl ag235 rfl (GO.back g))) rfl (GX.ls rfl rfl rfl (HS.pk 5 [0, 4] rfl) (fun _ HS _ g => GO.on rfl rfl rfl rfl (GO.ldBoxA (j := 1) ([.slice A_a d_Crossings.length c_a, .int .i64 d_Circles]) HS rfl rfl rfl rfl ag43 rfl (GO.back g))) rfl (GX.ls rfl rfl rfl (HS.pk 5 [0, 4] rfl) (fun _ HS _ g => GO.on rfl rfl rfl rfl (GO.ldBoxA (j := 0) ([.slice A36 t32.length c37, .slice A38 t33.length c39]) HS rfl rfl rfl rfl ag235 rfl (GO.back g))) rfl (GX.l2 rfl (GO.on rfl rfl rfl rfl (GO.fn rfl func259 fok259.1 fok259.2 rfl rfl (impl_Diagram_regions.calls HS (RdIn.drop 5 r_a) (RdIn.own (j := 1) rfl) (RdIn.own (j := 2) rfl) h69) (fun _ wd73 ⟨A70, c71, y72, h74, HS⟩ => ⟨_, h74, (GO.back (GX.fin (HS.pk 6 [1, 5] rfl) (GX.l2 rfl (GO.on rfl rfl rfl rfl (GO.fn rfl func258 fok258.1 fok258.2 rfl rfl (impl_size_int64.calls HS (RdIn.own (j := 0) rfl) h76) (fun _ wd77 ⟨h78, HS⟩ => ⟨_, h78, ?_⟩))))))⟩))))))))))
    refine GO.back (GX.fin (HS.pk 6 [1, 5] rfl) (GX.l2 rfl (GO.on rfl rfl rfl rfl (GO.fn rfl func261 fok261.1 fok261.2 rfl rfl (impl_Diagram_parts.calls HS (RdIn.drop 6 r_a) (RdIn.own (j := 2) rfl) (RdIn.own (j := 3) rfl) h80) (fun _ wd83 ⟨A81, c82, h84, HS⟩ => ⟨_, h84, (GO.back (GX.fin (HS.pk 7 [2, 6] rfl) (GX.l2 rfl (GO.on rfl rfl rfl rfl (GO.fn rfl func260 fok260.1 fok260.2 rfl rfl (impl_classCount.calls HS (RdIn.own (j := 0) rfl) h86) (fun _ wd87 ⟨h88, HS⟩ => ⟨_, h88, (GO.back (GX.fin (HS.pk 7 [2, 6] rfl) (GX.l0 rfl rfl (fun _ _ g => GO.on rfl rfl rfl rfl (GO.mul rfl rfl rfl rfl (GO.back g))) rfl (GX.l0 rfl rfl (fun _ _ g => GO.on rfl rfl rfl rfl (GO.add rfl rfl rfl rfl (GO.back g))) rfl (GX.l0 rfl rfl (fun _ _ g => GO.on rfl rfl rfl rfl (GO.neq rfl rfl rfl rfl (GO.back g))) rfl ?_)))))⟩))))))⟩)))))
    refine GX.ps 1 rfl (GX.nil ?_)
    rcases ite_elim H with ⟨c89, H⟩ | ⟨c89, H⟩
    ·
     refine G.noB rfl (congrArg Bool.not (decide_eq_true c89)) (G.run 2 rfl (G.region (GO.ldBoxA (j := 2) ([.slice A36 t32.length c37, .slice A38 t33.length c39]) HS rfl rfl rfl rfl ag235 rfl (GO.stBox (j := 5) (vs := [.slice A36 t32.length c37, .slice A38 t33.length c39]) ([.slice A36 t32.length c37, .slice A38 t33.length c39]) HS rfl rfl rfl rfl rfl (htA ag235) rfl rfl rfl fun wd90 HS => GO.assign rfl rfl rfl (GO.nil ?_)))))
     obtain ⟨rfl, rfl, rfl⟩ := some3 H
     exact G.ret2 _ _ func213 rfl (Res1.boxA (j := 5) (vs := [.slice A36 t32.length c37, .slice A38 t33.length c39]) HS rfl rfl rfl ag235) rfl ⟨_, _, _, _, rfl, (HS.pk 7 [3, 4] rfl)⟩
    refine G.yesB rfl (congrArg Bool.not (decide_eq_false c89)) (G.seq (G.region (GO.buildV (.agg [.slice none 0 0, .slice none 0 0].toArray) rfl rfl (fun _ => by kernel_rfl) rfl (GO.stBox (j := 5) (vs := [.slice none 0 0, .slice none 0 0]) ([.slice none 0 0, .slice none 0 0]) HS rfl rfl rfl rfl rfl (htA ag235) rfl rfl rfl fun wd91 HS => GO.assign rfl rfl rfl (GO.nil ?_)))))
    replace HS := HS.nilRow T_GEnd 294 (fun _ => ())
    replace HS := HS.nilRow T_GEnd 294 (fun _ => ())
    obtain ⟨rfl, rfl, rfl⟩ := some3 H
    exact G.ret2 _ _ func213 rfl (Res1.boxA (j := 7) (vs := [.slice none 0 0, .slice none 0 0]) HS rfl rfl rfl ag235) rfl ⟨_, _, _, _, rfl, (HS.pk 9 [1, 0] rfl)⟩
   refine G.lexS mixed (fun w => St w0 w (L)) [3, 4, 8, 9] [0, 1, 2, 7, 3, 4, 8, 9, 5, 6, 10, 11, 12, 13, 14, 15] 16 (by kernel_rfl) (by kernel_rfl) (HS.drew.pk 5 [] rfl) ?_
   replace HS := HS.drew
   refine GX.ps 2 rfl (GX.l0 rfl rfl (fun _ _ g => GO.move rfl rfl rfl (GO.known (t := 31) rfl (congrArg Bool.not (bnot_of c67)) g)) rfl (GX.l0 rfl rfl (fun _ _ g => GO.off rfl rfl rfl rfl rfl rfl g) rfl (GX.ls rfl rfl rfl (HS.pk 5 [] rfl) (fun _ HS _ g => GO.off rfl rfl rfl rfl rfl rfl g) rfl (GX.ls rfl rfl rfl (HS.pk 5 [] rfl) (fun _ HS _ g => GO.off rfl rfl rfl rfl rfl rfl g) rfl (GX.ls rfl rfl rfl (HS.pk 5 [] rfl) (fun _ HS _ g => GO.off rfl rfl rfl rfl rfl rfl g) rfl (GX.ls rfl rfl rfl (HS.pk 5 [] rfl) (fun _ HS _ g => GO.off rfl rfl rfl rfl rfl rfl g) rfl (GX.l2 rfl (GO.off rfl rfl rfl rfl rfl rfl (GX.fin (HS.pk 5 [] rfl) (GX.l2 rfl (GO.off rfl rfl rfl rfl rfl rfl (GX.fin (HS.pk 5 [] rfl) (GX.l2 rfl (GO.off rfl rfl rfl rfl rfl rfl ?_))))))))))))))
   refine GX.fin (HS.pk 5 [] rfl) (GX.l2 rfl (GO.off rfl rfl rfl rfl rfl rfl (GX.fin (HS.pk 5 [] rfl) (GX.l0 rfl rfl (fun _ _ g => GO.off rfl rfl rfl rfl rfl rfl g) rfl (GX.l0 rfl rfl (fun _ _ g => GO.off rfl rfl rfl rfl rfl rfl g) rfl (GX.l0 rfl rfl (fun _ _ g => GO.off rfl rfl rfl rfl rfl rfl g) rfl (GX.ps 1 rfl (GX.nil (G.run 2 rfl (G.region (GO.buildV (.agg [.slice none 0 0, .slice none 0 0].toArray) rfl rfl (fun _ => by kernel_rfl) rfl (GO.stBox (j := 3) (vs := [.slice none 0 0, .slice none 0 0]) ([.slice none 0 0, .slice none 0 0]) HS rfl rfl rfl rfl rfl (htA ag235) rfl rfl rfl fun wd92 HS => GO.assign rfl rfl rfl (GO.nil ?_)))))))))))))
   replace HS := HS.nilRow T_GEnd 294 (fun _ => ())
   replace HS := HS.nilRow T_GEnd 294 (fun _ => ())
   obtain ⟨rfl, rfl, rfl⟩ := some3 H
   exact G.ret2 _ _ func213 rfl (Res1.boxA (j := 5) (vs := [.slice none 0 0, .slice none 0 0]) HS rfl rfl rfl ag235) rfl ⟨_, _, _, _, rfl, (HS.pk 7 [1, 0] rfl)⟩
  refine G.region (GO.ps 3 rfl (GO.known (t := 12) rfl (decide_eq_false c19) (GO.on rfl rfl rfl rfl (GO.fld (⟨b1, 1, none⟩) rfl rfl fl43_1 rfl rfl (GO.back (GO.on rfl rfl rfl rfl (GO.ldBox (j := 1) HS rfl rfl rfl rfl na2 rfl (GO.back (GO.on rfl rfl rfl rfl (GO.fn rfl func146 fok146.1 fok146.2 rfl rfl (impl_inRange.calls HS  h22) (fun _ wd23 ⟨h24, HS⟩ => ⟨_, h24, (GO.back (GO.on rfl rfl rfl rfl (GO.not rfl rfl rfl (GO.back ?_))))⟩)))))))))))
  refine GO.ps 2 rfl (GO.known (t := 18) rfl (congrArg Bool.not (bnot_of c25)) (GO.off rfl rfl rfl rfl rfl rfl (GO.off rfl rfl rfl rfl rfl rfl (GO.off rfl rfl rfl rfl rfl rfl (GO.pickT rfl rfl rfl rfl rfl (GO.nil (G.run 2 rfl (G.region (GO.buildV (.agg [.slice none 0 0, .slice none 0 0].toArray) rfl rfl (fun _ => by kernel_rfl) rfl (GO.stBox (j := 0) (vs := [.slice none 0 0, .slice none 0 0]) ([.slice none 0 0, .slice none 0 0]) HS rfl rfl rfl rfl rfl (htA ag235) rfl rfl rfl fun wd93 HS => GO.assign rfl rfl rfl (GO.nil ?_)))))))))))
  replace HS := HS.nilRow T_GEnd 294 (fun _ => ())
  replace HS := HS.nilRow T_GEnd 294 (fun _ => ())
  obtain ⟨rfl, rfl, rfl⟩ := some3 H
  exact G.ret2 _ _ func213 rfl (Res1.boxA (j := 2) (vs := [.slice none 0 0, .slice none 0 0]) HS rfl rfl rfl ag235) rfl ⟨_, _, _, _, rfl, (HS.pk 4 [1, 0] rfl)⟩
theorem impl_isDiagram.calls {w0 w : World} {L : List HObj} {K : Nat} {d_Crossings : List GCrossing} {d_Circles : Int} {A_a : Option Addr} {c_a : Nat} {r1 : Bool} (HS : St w0 w (L)) (r_a : RdIn w0 L T_GCrossing A_a c_a (fun _ => ()) d_Crossings) (H : impl_isDiagram.f K d_Crossings d_Circles = some r1) :
    Calls prog 149 #[.agg [.slice A_a d_Crossings.length c_a, .int .i64 d_Circles].toArray] w (impl_isDiagram.post w0 L r1) := by
  unfold impl_isDiagram.f at H
  refine Calls.of_G func149 rfl rfl rfl ?_
  refine G.seq (G.region (GO.box (cs := [.slice A_a d_Crossings.length c_a, .int .i64 d_Circles]) HS rfl rfl rfl rfl fun b1 wd2 HS => GO.assign rfl rfl rfl (GO.nil (G.seq ?_))))
  obtain ⟨t3, t4, t5, h6, H⟩ := bind3_elim H
  refine G.region (GO.ldBoxA (j := 0) ([.slice A_a d_Crossings.length c_a, .int .i64 d_Circles]) HS rfl rfl rfl rfl ag43 rfl (GO.fn rfl func213 fok213.1 fok213.2 rfl rfl (impl_Diagram_drawing.calls HS (RdIn.drop 1 r_a) h6) (fun _ wd11 ⟨A7, c8, A9, c10, h12, HS⟩ => ⟨_, h12, (GO.ps 3 rfl (GO.alloc HS rfl zr235 rfl rfl fun b13 wd14 HS => GO.stBox (j := 0) (vs := [.slice A7 t3.length c8, .slice A9 t4.length c10]) ([.slice A7 t3.length c8, .slice A9 t4.length c10]) HS rfl rfl rfl rfl rfl (htA ag235) rfl rfl rfl fun wd15 HS => GO.assign rfl rfl rfl (GO.nil (G.run 2 rfl ?_))))⟩)))
  obtain rfl := Option.some.inj H
  exact G.ret1 _ func149 rfl rfl ⟨rfl, (HS.pk 4 [] rfl)⟩
theorem impl_isLetter.calls {w0 w : World} {L : List HObj} {strands letter : Int} {r1 : Bool} (HS : St w0 w (L)) (H : impl_isLetter.f strands letter = some r1) :
    Calls prog 216 #[.int .i64 strands, .int .i64 letter] w (impl_isLetter.post w0 L r1) := by
  unfold impl_isLetter.f at H
  refine Calls.of_G func216 rfl rfl rfl ?_
  refine G.run 3 rfl ?_
  rcases ite_elim H with ⟨c1, H⟩ | ⟨c1, H⟩
  ·
   refine G.region (GO.ps 3 rfl (GO.known (t := 7) rfl (congrArg Bool.not (decide_eq_true c1)) (GO.off rfl rfl rfl rfl rfl rfl (GO.off rfl rfl rfl rfl rfl rfl (GO.off rfl rfl rfl rfl rfl rfl (GO.off rfl rfl rfl rfl rfl rfl (GO.off rfl rfl rfl rfl rfl rfl (GO.off rfl rfl rfl rfl rfl rfl (GO.ps 2 rfl (GO.nil ?_))))))))))
   obtain rfl := Option.some.inj H
   exact G.ret1 _ func216 rfl rfl ⟨rfl, HS⟩
  obtain ⟨t2, h3, H⟩ := Option.bind_eq_some_iff.1 H
  refine G.region (GO.ps 3 rfl (GO.known (t := 7) rfl (congrArg Bool.not (decide_eq_false c1)) (GO.on rfl rfl rfl rfl (GO.move rfl rfl rfl (GO.back (GO.on rfl rfl rfl rfl (GO.move rfl rfl rfl (GO.back (GO.on rfl rfl rfl rfl (GO.sub rfl rfl rfl rfl (GO.back (GO.on rfl rfl rfl rfl (GO.move rfl rfl rfl (GO.back ?_))))))))))))))
  refine GO.on rfl rfl rfl rfl (GO.sub rfl rfl rfl rfl (GO.back (GO.on rfl rfl rfl rfl (GO.fn rfl func146 fok146.1 fok146.2 rfl rfl (impl_inRange.calls HS  h3) (fun _ wd4 ⟨h5, HS⟩ => ⟨_, h5, (GO.back (GO.ps 2 rfl (GO.nil ?_)))⟩)))))
  obtain rfl := Option.some.inj H
  exact G.ret1 _ func216 rfl rfl ⟨rfl, HS⟩
theorem impl_isBraid_fn1_free.calls {w0 w : World} {L : List HObj} {x v0_Strands : Int} {v0_Word : List Int} {b_v0 : Nat} {A_a : Option Addr} {c_a : Nat} {r1 : Bool} (HS : St w0 w (Box b_v0 44 [.int .i64 v0_Strands, .slice A_a v0_Word.length c_a] :: L)) (r_a : RdIn w0 L (TInt .i64) A_a c_a (fun _ => ()) v0_Word) (H : impl_isBraid_fn1_free.f x v0_Strands v0_Word = some r1) :
    Calls prog 215 #[.int .i64 x, .pointer (some ⟨b_v0, 0, none⟩)] w (impl_isBraid_fn1_free.post w0 L v0_Strands v0_Word b_v0 A_a c_a r1) := by
  unfold impl_isBraid_fn1_free.f at H
  refine Calls.of_G func215 rfl rfl rfl ?_
  refine G.run 3 rfl ?_
  obtain ⟨t1, h2, H⟩ := Option.bind_eq_some_iff.1 H
  refine G.region (GO.fld (⟨b_v0, 0, none⟩) rfl rfl fl44_0 rfl rfl (GO.ldBox (j := 0) HS rfl rfl rfl rfl na2 rfl (GO.move rfl rfl rfl (GO.fn rfl func216 fok216.1 fok216.2 rfl rfl (impl_isLetter.calls HS  h2) (fun _ wd3 ⟨h4, HS⟩ => ⟨_, h4, (GO.ps 2 rfl (GO.nil ?_))⟩)))))
  obtain rfl := Option.some.inj H
  exact G.ret1 _ func215 rfl rfl ⟨rfl, HS⟩
theorem slices_IndexFunc_int64_int64_isBraid_fn1.calls {w0 w : World} {L : List HObj} {K : Nat} {s : List Int} {cap_Strands : Int} {cap_Word : List Int} {A_a : Option Addr} {c_a b_cap : Nat} {A_b : Option Addr} {c_b : Nat} {r1 : Int} (HS : St w0 w (Box b_cap 44 [.int .i64 cap_Strands, .slice A_b cap_Word.length c_b] :: L)) (r_a : RdIn w0 L (TInt .i64) A_a c_a (fun _ => ()) s) (r_b : RdIn w0 L (TInt .i64) A_b c_b (fun _ => ()) cap_Word) (H : slices_IndexFunc_int64_int64_isBraid_fn1.f K s cap_Strands cap_Word = some r1) :
    Calls prog 262 #[.slice A_a s.length c_a, .func (.func 215) #[] #[.pointer (some ⟨b_cap, 0, none⟩)]] w (slices_IndexFunc_int64_int64_isBraid_fn1.post w0 L cap_Strands cap_Word b_cap A_b c_b r1) := by
  unfold slices_IndexFunc_int64_int64_isBraid_fn1.f at H
  refine Calls.of_G func262 rfl rfl rfl ?_
  refine G.run 4 rfl (G.region (GO.move rfl rfl rfl (GO.lenS rfl rfl underlying28 rfl (GO.move rfl rfl rfl (GO.nil (G.run 2 rfl ?_))))))
  refine G.name (fun k_l1 hk_l1 => ?_)
  have at_l1 : ∀ m_l1, m_l1 ≤ K → ∀ (x8 : Int) (w : World), slices_IndexFunc_int64_int64_isBraid_fn1.l1 K m_l1 s cap_Strands cap_Word x8 = some r1 → St w0 w (Box b_cap 44 [.int .i64 cap_Strands, .slice A_b cap_Word.length c_b] :: L) → G prog 262 19 [(0, .slice A_a s.length c_a), (1, .func (.func 215) #[] #[.pointer (some ⟨b_cap, 0, none⟩)]), (7, .int .i64 (s.length : Int)), (8, .int .i64 x8)] k_l1 w (slices_IndexFunc_int64_int64_isBraid_fn1.post w0 L cap_Strands cap_Word b_cap A_b c_b r1) := by
   intro m_l1
   induction m_l1 using Nat.strongRecOn with
   | _ m_l1 ih_l1 =>
    intro hm_l1 x8 w H HS
    cases m_l1 with
    | zero => rw [slices_IndexFunc_int64_int64_isBraid_fn1.l1] at H; cases H
    | succ n_l1 =>
     rw [slices_IndexFunc_int64_int64_isBraid_fn1.l1] at H
     subst hk_l1
     refine G.run 3 rfl ?_
     rcases ite_elim H with ⟨c16, H⟩ | ⟨c16, H⟩
     ·
      refine G.yesB rfl (decide_eq_true c16) (G.run 6 rfl ?_)
      obtain ⟨c17, H⟩ := ite_none H
      obtain ⟨t18, h19, H⟩ := Option.bind_eq_some_iff.1 H
      refine G.region (GO.ps 3 rfl (GO.ix rfl rfl rfl underlying28 sz2 ((RdIn.drop 1 r_a) _ HS).2.2.1 c17.1 c17.2 rfl (GO.ldRd (T := (TInt .i64)) (n := x8.toNat) (o := 0) HS (RdIn.drop 1 r_a) rfl rfl (getD_some (d := 0) (ltN c17)) rfl rfl na2 rfl ?_)))
      replace HS := HS.pk 1 [0] rfl
      refine GO.clo rfl rfl func215 fok215.1 fok215.2 rfl rfl (impl_isBraid_fn1_free.calls HS r_b h19) (fun _ wd20 ⟨h21, HS⟩ => ⟨_, h21, (GO.nil ?_)⟩)
      rcases ite_elim H with ⟨c22, H⟩ | ⟨c22, H⟩
      ·
       refine G.yesB rfl c22 (G.run 2 rfl ?_)
       obtain rfl := Option.some.inj H
       exact G.ret1 _ func262 rfl rfl ⟨rfl, HS⟩
      refine G.noB rfl (bnot_of c22) (G.run 4 rfl (G.weak ?_ (ih_l1 n_l1 (Nat.lt_succ_of_le (Nat.le_refl _)) (Nat.le_of_succ_le hm_l1) _ _ H HS)))
      exact ⟨rfl, rfl, rfl, rfl, trivial⟩
     refine G.noB rfl (decide_eq_false c16) (G.run 3 rfl ?_)
     obtain rfl := Option.some.inj H
     exact G.ret1 _ func262 rfl rfl ⟨rfl, HS⟩
  refine G.weak ?_ (at_l1 K (Nat.le_refl _) _ _ H HS)
  exact ⟨rfl, rfl, rfl, rfl, trivial⟩
theorem slices_ContainsFunc_int64_int64_isBraid_fn1.calls {w0 w : World} {L : List HObj} {K : Nat} {s : List Int} {cap_Strands : Int} {cap_Word : List Int} {A_a : Option Addr} {c_a b_cap : Nat} {A_b : Option Addr} {c_b : Nat} {r1 : Bool} (HS : St w0 w (Box b_cap 44 [.int .i64 cap_Strands, .slice A_b cap_Word.length c_b] :: L)) (r_a : RdIn w0 L (TInt .i64) A_a c_a (fun _ => ()) s) (r_b : RdIn w0 L (TInt .i64) A_b c_b (fun _ => ()) cap_Word) (H : slices_ContainsFunc_int64_int64_isBraid_fn1.f K s cap_Strands cap_Word = some r1) :
    Calls prog 214 #[.slice A_a s.length c_a, .func (.func 215) #[] #[.pointer (some ⟨b_cap, 0, none⟩)]] w (slices_ContainsFunc_int64_int64_isBraid_fn1.post w0 L cap_Strands cap_Word b_cap A_b c_b r1) := by
  unfold slices_ContainsFunc_int64_int64_isBraid_fn1.f at H
  refine Calls.of_G func214 rfl rfl rfl ?_
  refine G.run 3 rfl ?_
  obtain ⟨t1, h2, H⟩ := Option.bind_eq_some_iff.1 H
  refine G.region (GO.ps 2 rfl ?_)
  replace HS := HS.pk 1 [0] rfl
  refine GO.fn rfl func262 fok262.1 fok262.2 rfl rfl (slices_IndexFunc_int64_int64_isBraid_fn1.calls HS r_a r_b h2) (fun _ wd3 ⟨h4, HS⟩ => ⟨_, h4, (GO.ps 2 rfl (GO.nil ?_))⟩)
  obtain rfl := Option.some.inj H
  exact G.ret1 _ func214 rfl rfl ⟨rfl, HS⟩
theorem impl_isBraid.calls {w0 w : World} {L : List HObj} {K : Nat} {b_Strands : Int} {b_Word : List Int} {A_a : Option Addr} {c_a : Nat} {r1 : Bool} (HS : St w0 w (L)) (r_a : RdIn w0 L (TInt .i64) A_a c_a (fun _ => ()) b_Word) (H : impl_isBraid.f K b_Strands b_Word = some r1) :
    Calls prog 150 #[.agg [.int .i64 b_Strands, .slice A_a b_Word.length c_a].toArray] w (impl_isBraid.post w0 L r1) := by
  unfold impl_isBraid.f at H
  refine Calls.of_G func150 rfl rfl rfl ?_
  refine G.seq (G.region (GO.box (cs := [.int .i64 b_Strands, .slice A_a b_Word.length c_a]) HS rfl rfl rfl rfl fun b1 wd2 HS => GO.assign rfl rfl rfl (GO.nil (G.seq ?_))))
  obtain ⟨t3, h4, H⟩ := Option.bind_eq_some_iff.1 H
  rcases ite_elim H with ⟨c7, H⟩ | ⟨c7, H⟩
  ·
   rcases ite_elim H with ⟨c8, H⟩ | ⟨c8, H⟩
   ·
    obtain ⟨t9, h10, H⟩ := Option.bind_eq_some_iff.1 H
    refine G.region (GO.fld (⟨b1, 0, none⟩) rfl rfl fl44_0 rfl rfl (GO.ldBox (j := 0) HS rfl rfl rfl rfl na2 rfl (GO.fn rfl func146 fok146.1 fok146.2 rfl rfl (impl_inRange.calls HS  h4) (fun _ wd5 ⟨h6, HS⟩ => ⟨_, h6, (GO.move rfl rfl rfl (GO.known (t := 6) rfl c7 (GO.on rfl rfl rfl rfl (GO.fld (⟨b1, 1, none⟩) rfl rfl fl44_1 rfl rfl (GO.back (GO.on rfl rfl rfl rfl (GO.ldBox (j := 0) HS rfl rfl rfl rfl na28 rfl (GO.back (GO.on rfl rfl rfl rfl (GO.lenS rfl rfl underlying28 rfl (GO.back ?_)))))))))))⟩))))
    refine GO.on rfl rfl rfl rfl (GO.leq rfl rfl rfl rfl (GO.back (GO.ps 2 rfl (GO.known (t := 12) rfl (decide_eq_true c8) (GO.on rfl rfl rfl rfl (GO.fld (⟨b1, 1, none⟩) rfl rfl fl44_1 rfl rfl (GO.back (GO.on rfl rfl rfl rfl (GO.ldBox (j := 0) HS rfl rfl rfl rfl na28 rfl (GO.back (GO.on rfl rfl rfl rfl (GO.mkFunc rfl rfl rfl rfl (GO.back (GO.on rfl rfl rfl rfl ?_))))))))))))))
    replace HS := HS.pk 1 [0] rfl
    refine GO.fn rfl func214 fok214.1 fok214.2 rfl rfl (slices_ContainsFunc_int64_int64_isBraid_fn1.calls HS r_a r_a h10) (fun _ wd11 ⟨h12, HS⟩ => ⟨_, h12, (GO.back (GO.on rfl rfl rfl rfl (GO.not rfl rfl rfl (GO.back (GO.ps 2 rfl (GO.nil ?_))))))⟩)
    obtain rfl := Option.some.inj H
    exact G.ret1 _ func150 rfl rfl ⟨rfl, (HS.pk 1 [] rfl)⟩
   refine G.region (GO.fld (⟨b1, 0, none⟩) rfl rfl fl44_0 rfl rfl (GO.ldBox (j := 0) HS rfl rfl rfl rfl na2 rfl (GO.fn rfl func146 fok146.1 fok146.2 rfl rfl (impl_inRange.calls HS  h4) (fun _ wd5 ⟨h6, HS⟩ => ⟨_, h6, (GO.move rfl rfl rfl (GO.known (t := 6) rfl c7 (GO.on rfl rfl rfl rfl (GO.fld (⟨b1, 1, none⟩) rfl rfl fl44_1 rfl rfl (GO.back (GO.on rfl rfl rfl rfl (GO.ldBox (j := 0) HS rfl rfl rfl rfl na28 rfl (GO.back (GO.on rfl rfl rfl rfl (GO.lenS rfl rfl underlying28 rfl (GO.back ?_)))))))))))⟩))))
   refine GO.on rfl rfl rfl rfl (GO.leq rfl rfl rfl rfl (GO.back (GO.ps 2 rfl (GO.known (t := 12) rfl (decide_eq_false c8) (GO.off rfl rfl rfl rfl rfl rfl (GO.off rfl rfl rfl rfl rfl rfl (GO.off rfl rfl rfl rfl rfl rfl (GO.off rfl rfl rfl rfl rfl rfl (GO.off rfl rfl rfl rfl rfl rfl (GO.ps 2 rfl (GO.nil ?_)))))))))))
   obtain rfl := Option.some.inj H
   exact G.ret1 _ func150 rfl rfl ⟨rfl, (HS.pk 1 [] rfl)⟩
  refine G.region (GO.fld (⟨b1, 0, none⟩) rfl rfl fl44_0 rfl rfl (GO.ldBox (j := 0) HS rfl rfl rfl rfl na2 rfl (GO.fn rfl func146 fok146.1 fok146.2 rfl rfl (impl_inRange.calls HS  h4) (fun _ wd5 ⟨h6, HS⟩ => ⟨_, h6, (GO.move rfl rfl rfl (GO.known (t := 6) rfl (bnot_of c7) (GO.off rfl rfl rfl rfl rfl rfl (GO.off rfl rfl rfl rfl rfl rfl (GO.off rfl rfl rfl rfl rfl rfl (GO.off rfl rfl rfl rfl rfl rfl (GO.ps 2 rfl (GO.off rfl rfl rfl rfl rfl rfl (GO.off rfl rfl rfl rfl rfl rfl (GO.off rfl rfl rfl rfl rfl rfl (GO.off rfl rfl rfl rfl rfl rfl ?_)))))))))))⟩))))
  refine GO.off rfl rfl rfl rfl rfl rfl (GO.ps 2 rfl (GO.nil ?_))
  obtain rfl := Option.some.inj H
  exact G.ret1 _ func150 rfl rfl ⟨rfl, (HS.pk 1 [] rfl)⟩
theorem impl_isName.calls {w0 w : World} {L : List HObj} {name : Int} {r1 : Bool} (HS : St w0 w (L)) (H : impl_isName.f name = some r1) :
    Calls prog 217 #[.int .i64 name] w (impl_isName.post w0 L r1) := by
  unfold impl_isName.f at H
  refine Calls.of_G func217 rfl rfl rfl ?_
  refine G.run 3 rfl ?_
  obtain ⟨t1, h2, H⟩ := Option.bind_eq_some_iff.1 H
  refine G.region (GO.move rfl rfl rfl (GO.fn rfl func146 fok146.1 fok146.2 rfl rfl (impl_inRange.calls HS  h2) (fun _ wd3 ⟨h4, HS⟩ => ⟨_, h4, (GO.assign rfl rfl rfl (GO.nil ?_))⟩)))
  obtain rfl := Option.some.inj H
  exact G.ret1 _ func217 rfl rfl ⟨rfl, HS⟩
theorem impl_indices.calls {w0 w : World} {L : List HObj} {K : Nat} {kind r1 : Int} (HS : St w0 w (L)) (H : impl_indices.f K kind = some r1) :
    Calls prog 264 #[.int .i64 kind] w (impl_indices.post w0 L r1) := by
  unfold impl_indices.f at H
  refine Calls.of_G func264 rfl rfl rfl ?_
  refine G.run 9 rfl ?_
  refine G.nameT (fun k_j1 hk_j1 => ?_)
  have at_j1 : ∀ m_j1, m_j1 ≤ K → ∀ (x2 : Bool) (w : World), impl_indices.j1 K m_j1 kind x2 = some r1 → St w0 w (L) → G prog 264 11 [(3, .int .i64 kind), (4, .bool x2)] k_j1 w (impl_indices.post w0 L r1) := by
   intro m_j1 hm_j1 x2 w H HS
   cases m_j1 with
   | zero => rw [impl_indices.j1] at H; cases H
   | succ n_j1 =>
    rw [impl_indices.j1] at H
    subst hk_j1
    rcases ite_elim H with ⟨c3, H⟩ | ⟨c3, H⟩
    ·
     refine G.yesB rfl c3 (G.run 2 rfl ?_)
     obtain rfl := Option.some.inj H
     exact G.ret1 _ func264 rfl rfl ⟨rfl, HS⟩
    refine G.noB rfl (bnot_of c3) (G.run 2 rfl ?_)
    rcases ite_elim H with ⟨c4, H⟩ | ⟨c4, H⟩
    ·
     refine G.yesB rfl (decide_eq_true c4) (G.run 2 rfl ?_)
     obtain rfl := Option.some.inj H
     exact G.ret1 _ func264 rfl rfl ⟨rfl, HS⟩
    refine G.noB rfl (decide_eq_false c4) (G.run 2 rfl ?_)
    rcases ite_elim H with ⟨c5, H⟩ | ⟨c5, H⟩
    ·
     refine G.yesB rfl (decide_eq_true c5) (G.run 2 rfl ?_)
     obtain rfl := Option.some.inj H
     exact G.ret1 _ func264 rfl rfl ⟨rfl, HS⟩
    refine G.noB rfl (decide_eq_false c5) (G.run 4 rfl ?_)
    obtain rfl := Option.some.inj H
    exact G.ret1 _ func264 rfl rfl ⟨rfl, HS⟩
  rcases ite_elim H with ⟨c6, H⟩ | ⟨c6, H⟩
  ·
   refine G.yesB rfl (decide_eq_true c6) (G.skip (G.weak ?_ (at_j1 K (Nat.le_refl _) _ _ H HS)))
   exact ⟨rfl, rfl, trivial⟩
  refine G.noB rfl (decide_eq_false c6) (G.run 1 rfl (G.weak ?_ (at_j1 K (Nat.le_refl _) _ _ H HS)))
  exact ⟨rfl, rfl, trivial⟩
theorem internal_strconv_small.calls {w0 w : World} {L : List HObj} {i : Int} {r1 : ByteArray} (HS : St w0 w (L)) (H : internal_strconv_small.f i = some r1) :
    Calls prog 305 #[.int .i64 i] w (internal_strconv_small.post w0 L r1) := by
  unfold internal_strconv_small.f at H
  refine Calls.of_G func305 rfl rfl rfl ?_
  refine G.run 5 rfl ?_
  rcases ite_elim H with ⟨c1, H⟩ | ⟨c1, H⟩
  ·
   refine G.yesB rfl (decide_eq_true c1) (G.seq ?_)
   obtain ⟨c2, H⟩ := ite_none H
   obtain ⟨c3, H⟩ := ite_none H
   refine G.region (GO.ps 3 rfl (GO.cutLH rfl rfl rfl rfl underlying9 c2 c3 rfl (GO.assign rfl rfl rfl (GO.nil ?_))))
   obtain rfl := Option.some.inj H
   exact G.ret1 _ func305 rfl rfl ⟨rfl, HS⟩
  refine G.noB rfl (decide_eq_false c1) (G.run 2 rfl ?_)
  obtain ⟨c4, H⟩ := ite_none H
  obtain ⟨c5, H⟩ := ite_none H
  refine G.region (GO.ps 5 rfl (GO.cutLH rfl rfl rfl rfl underlying9 c4 c5 rfl (GO.assign rfl rfl rfl (GO.nil ?_))))
  obtain rfl := Option.some.inj H
  exact G.ret1 _ func305 rfl rfl ⟨rfl, HS⟩
theorem internal_strconv_FormatInt.calls {w0 w : World} {L : List HObj} {K : Nat} {i base : Int} {r1 : ByteArray} (HS : St w0 w (L)) (H : internal_strconv_FormatInt.f K i base = some r1) :
    Calls prog 290 #[.int .i64 i, .int .i64 base] w (internal_strconv_FormatInt.post w0 L r1) := by
  unfold internal_strconv_FormatInt.f at H
  refine Calls.of_G func290 rfl rfl rfl ?_
  refine G.run 5 rfl ?_
  rcases ite_elim H with ⟨c1, H⟩ | ⟨c1, H⟩
  ·
   refine G.yesB rfl (decide_eq_true c1) (G.run 2 rfl ?_)
   refine G.nameT (fun k_j1 hk_j1 => ?_)
   have at_j1 : ∀ m_j1, m_j1 ≤ K → ∀ (x4 : Bool) (w : World), internal_strconv_FormatInt.j1 K m_j1 i x4 = some r1 → St w0 w (L) → G prog 290 54 [(0, .int .i64 i), (17, .bool x4)] k_j1 w (internal_strconv_FormatInt.post w0 L r1) := by
    intro m_j1 hm_j1 x4 w H HS
    cases m_j1 with
    | zero => rw [internal_strconv_FormatInt.j1] at H; cases H
    | succ n_j1 =>
     rw [internal_strconv_FormatInt.j1] at H
     subst hk_j1
     rcases ite_elim H with ⟨c5, H⟩ | ⟨c5, H⟩
     ·
      refine G.yesB rfl c5 (G.seq ?_)
      obtain ⟨t6, h7, H⟩ := Option.bind_eq_some_iff.1 H
      refine G.region (GO.move rfl rfl rfl (GO.fn rfl func305 fok305.1 fok305.2 rfl rfl (internal_strconv_small.calls HS  h7) (fun _ wd8 ⟨h9, HS⟩ => ⟨_, h9, (GO.assign rfl rfl rfl (GO.nil ?_))⟩)))
      obtain rfl := Option.some.inj H
      exact G.ret1 _ func290 rfl rfl ⟨rfl, HS⟩
     refine G.noB rfl (bnot_of c5) (G.run 2 rfl (G.region (GO.alloc HS rfl zr313 rfl rfl fun b10 wd11 HS => GO.nil (G.seq (G.region (GO.move rfl rfl rfl (GO.conv rfl rfl underlying2 underlying314 rfl (GO.assign rfl rfl rfl (GO.nil (G.run 3 rfl ?_))))))))))
     refine G.nameT (fun k_j2 hk_j2 => ?_)
     have at_j2 : ∀ m_j2, m_j2 ≤ n_j1 → ∀ (u_13 : Int) (w : World), internal_strconv_FormatInt.j2 K m_j2 u_13 = some r1 → St w0 w (Box b10 313 [.int .u8 0, .int .u8 0, .int .u8 0, .int .u8 0, .int .u8 0, .int .u8 0, .int .u8 0, .int .u8 0, .int .u8 0, .int .u8 0, .int .u8 0, .int .u8 0, .int .u8 0, .int .u8 0, .int .u8 0, .int .u8 0, .int .u8 0, .int .u8 0, .int .u8 0, .int .u8 0, .int .u8 0, .int .u8 0, .int .u8 0, .int .u8 0] :: L) → G prog 290 54 [(0, .int .i64 i), (5, .pointer (some ⟨b10, 0, none⟩)), (6, .int .u64 u_13)] k_j2 w (internal_strconv_FormatInt.post w0 L r1) := by
      intro m_j2 hm_j2 u_13 w H HS
      cases m_j2 with
      | zero => rw [internal_strconv_FormatInt.j2] at H; cases H
      | succ n_j2 =>
       rw [internal_strconv_FormatInt.j2] at H
       subst hk_j2
       refine G.seq ?_
       cases H
     rcases ite_elim H with ⟨c14, H⟩ | ⟨c14, H⟩
     ·
      refine G.yesB rfl (decide_eq_true c14) (G.region (GO.move rfl rfl rfl (GO.neg rfl rfl rfl (GO.assign rfl rfl rfl (GO.nil (G.weak ?_ (at_j2 n_j1 (Nat.le_refl _) _ _ H HS)))))))
      exact ⟨rfl, rfl, rfl, trivial⟩
     refine G.noB rfl (decide_eq_false c14) (G.skip (G.weak ?_ (at_j2 n_j1 (Nat.le_refl _) _ _ H HS)))
     exact ⟨rfl, rfl, rfl, trivial⟩
   rcases ite_elim H with ⟨c15, H⟩ | ⟨c15, H⟩
   ·
    refine G.region (GO.ps 3 rfl (GO.known (t := 14) rfl (decide_eq_true c15) (GO.on rfl rfl rfl rfl (GO.move rfl rfl rfl (GO.back (GO.on rfl rfl rfl rfl (GO.lss rfl rfl rfl rfl (GO.back (GO.pickT rfl rfl rfl rfl rfl (GO.nil (G.weak ?_ (at_j1 K (Nat.le_refl _) _ _ H HS))))))))))))
    exact ⟨rfl, rfl, trivial⟩
   refine G.region (GO.ps 3 rfl (GO.known (t := 14) rfl (decide_eq_false c15) (GO.off rfl rfl rfl rfl rfl rfl (GO.off rfl rfl rfl rfl rfl rfl (GO.pickF rfl rfl rfl rfl rfl (GO.nil (G.weak ?_ (at_j1 K (Nat.le_refl _) _ _ H HS))))))))
   exact ⟨rfl, rfl, trivial⟩
  refine G.noB rfl (decide_eq_false c1) (G.run 2 rfl ?_)
  cases H
theorem strconv_FormatInt.calls {w0 w : World} {L : List HObj} {K : Nat} {i base : Int} {r1 : ByteArray} (HS : St w0 w (L)) (H : strconv_FormatInt.f K i base = some r1) :
    Calls prog 268 #[.int .i64 i, .int .i64 base] w (strconv_FormatInt.post w0 L r1) := by
  unfold strconv_FormatInt.f at H
  refine Calls.of_G func268 rfl rfl rfl ?_
  refine G.run 3 rfl ?_
  obtain ⟨t1, h2, H⟩ := Option.bind_eq_some_iff.1 H
  refine G.region (GO.ps 2 rfl (GO.fn rfl func290 fok290.1 fok290.2 rfl rfl (internal_strconv_FormatInt.calls HS  h2) (fun _ wd3 ⟨h4, HS⟩ => ⟨_, h4, (GO.assign rfl rfl rfl (GO.nil ?_))⟩)))
  obtain rfl := Option.some.inj H
  exact G.ret1 _ func268 rfl rfl ⟨rfl, HS⟩
theorem impl_decimal.calls {w0 w : World} {L : List HObj} {K : Nat} {n_ : Int} {r1 : ByteArray} (HS : St w0 w (L)) (H : impl_decimal.f K n_ = some r1) :
    Calls prog 236 #[.int .i64 n_] w (impl_decimal.post w0 L r1) := by
  unfold impl_decimal.f at H
  refine Calls.of_G func236 rfl rfl rfl ?_
  refine G.run 3 rfl ?_
  obtain ⟨t1, h2, H⟩ := Option.bind_eq_some_iff.1 H
  refine G.region (GO.move rfl rfl rfl (GO.fn rfl func268 fok268.1 fok268.2 rfl rfl (strconv_FormatInt.calls HS  h2) (fun _ wd3 ⟨h4, HS⟩ => ⟨_, h4, (GO.assign rfl rfl rfl (GO.nil ?_))⟩)))
  obtain rfl := Option.some.inj H
  exact G.ret1 _ func236 rfl rfl ⟨rfl, HS⟩
theorem impl_MoveText.calls {w0 w : World} {L : List HObj} {K : Nat} {m_Kind m_Tet m_Index : Int} {r1 : ByteArray} (HS : St w0 w (L)) (H : impl_MoveText.f K m_Kind m_Tet m_Index = some r1) :
    Calls prog 220 #[.agg [.int .i64 m_Kind, .int .i64 m_Tet, .int .i64 m_Index].toArray] w (impl_MoveText.post w0 L r1) := by
  unfold impl_MoveText.f at H
  refine Calls.of_G func220 rfl rfl rfl ?_
  refine G.seq (G.region (GO.box (cs := [.int .i64 m_Kind, .int .i64 m_Tet, .int .i64 m_Index]) HS rfl rfl rfl rfl fun b1 wd2 HS => GO.assign rfl rfl rfl (GO.nil (G.run 2 rfl ?_))))
  obtain ⟨t16, h17, H⟩ := Option.bind_eq_some_iff.1 H
  rcases ite_elim H with ⟨c20, H⟩ | ⟨c20, H⟩
  ·
   obtain ⟨t21, h22, H⟩ := Option.bind_eq_some_iff.1 H
   obtain ⟨t25, h26, H⟩ := Option.bind_eq_some_iff.1 H
   refine G.lexS mixed (fun w => St w0 w (Box b1 176 [.int .i64 m_Kind, .int .i64 m_Tet, .int .i64 m_Index] :: L)) [1, 6, 8] [0, 1, 2, 3, 4, 5, 7, 6, 8, 9, 10, 11, 12, 13] 14 (by kernel_rfl) (by kernel_rfl) HS.drew ?_
   replace HS := HS.drew
   refine GX.l0 rfl rfl (fun _ _ g => GO.fld (⟨b1, 1, none⟩) rfl rfl fl176_1 rfl rfl g) rfl (GX.ls rfl rfl rfl HS (fun _ HS _ g => GO.ldBox (j := 0) HS rfl rfl rfl rfl na2 rfl g) rfl (GX.l2 rfl (GO.fn rfl func146 fok146.1 fok146.2 rfl rfl (impl_inRange.calls HS  h17) (fun _ wd18 ⟨h19, HS⟩ => ⟨_, h19, (GX.fin HS (GX.ps 1 rfl (GX.l0 rfl rfl (fun _ _ g => GO.move rfl rfl rfl (GO.known (t := 7) rfl (congrArg Bool.not c20) g)) rfl (GX.l0 rfl rfl (fun _ _ g => GO.on rfl rfl rfl rfl (GO.fld (⟨b1, 2, none⟩) rfl rfl fl176_2 rfl rfl (GO.back g))) rfl (GX.l0 rfl rfl (fun _ _ g => GO.on rfl rfl rfl rfl (GO.fld (⟨b1, 0, none⟩) rfl rfl fl176_0 rfl rfl (GO.back g))) rfl (GX.ls rfl rfl rfl HS (fun _ HS _ g => GO.on rfl rfl rfl rfl (GO.ldBox (j := 0) HS rfl rfl rfl rfl na2 rfl (GO.back g))) rfl (GX.ls rfl rfl rfl HS (fun _ HS _ g => GO.on rfl rfl rfl rfl (GO.ldBox (j := 0) HS rfl rfl rfl rfl na2 rfl (GO.back g))) rfl (GX.l2 rfl (GO.on rfl rfl rfl rfl (GO.fn rfl func264 fok264.1 fok264.2 rfl rfl (impl_indices.calls HS  h22) (fun _ wd23 ⟨h24, HS⟩ => ⟨_, h24, (GO.back ?_)⟩)))))))))))⟩))))
   refine GX.fin HS (GX.l0 rfl rfl (fun _ _ g => GO.on rfl rfl rfl rfl (GO.sub rfl rfl rfl rfl (GO.back g))) rfl (GX.l2 rfl (GO.on rfl rfl rfl rfl (GO.fn rfl func146 fok146.1 fok146.2 rfl rfl (impl_inRange.calls HS  h26) (fun _ wd27 ⟨h28, HS⟩ => ⟨_, h28, (GO.back (GX.fin HS (GX.l0 rfl rfl (fun _ _ g => GO.on rfl rfl rfl rfl (GO.not rfl rfl rfl (GO.back g))) rfl (GX.ps 1 rfl (GX.nil ?_)))))⟩)))))
   rcases ite_elim H with ⟨c29, H⟩ | ⟨c29, H⟩
   ·
    refine G.noB rfl (congrArg Bool.not c29) (G.run 2 rfl ?_)
    obtain ⟨c30, H⟩ := ite_none H
    obtain ⟨c31, H⟩ := ite_none H
    obtain ⟨c32, H⟩ := ite_none H
    obtain ⟨t33, h34, H⟩ := Option.bind_eq_some_iff.1 H
    obtain ⟨c37, H⟩ := ite_none H
    obtain ⟨c38, H⟩ := ite_none H
    obtain ⟨t39, h40, H⟩ := Option.bind_eq_some_iff.1 H
    obtain ⟨c43, H⟩ := ite_none H
    refine G.lexS mixed (fun w => St w0 w (Box b1 176 [.int .i64 m_Kind, .int .i64 m_Tet, .int .i64 m_Index] :: L)) [1, 5, 7, 10, 15] [0, 4, 9, 14, 1, 2, 3, 5, 6, 7, 8, 10, 15, 11, 12, 13, 16, 17, 18] 19 (by kernel_rfl) (by kernel_rfl) HS.drew ?_
    replace HS := HS.drew
    refine GX.l0 rfl rfl (fun _ _ g => GO.fld (⟨b1, 0, none⟩) rfl rfl fl176_0 rfl rfl g) rfl (GX.l0 rfl rfl (fun _ _ g => GO.fld (⟨b1, 0, none⟩) rfl rfl fl176_0 rfl rfl g) rfl (GX.l0 rfl rfl (fun _ _ g => GO.fld (⟨b1, 1, none⟩) rfl rfl fl176_1 rfl rfl g) rfl (GX.l0 rfl rfl (fun _ _ g => GO.fld (⟨b1, 2, none⟩) rfl rfl fl176_2 rfl rfl g) rfl (GX.ls rfl rfl rfl HS (fun _ HS _ g => GO.ldBox (j := 0) HS rfl rfl rfl rfl na2 rfl g) rfl (GX.ps 2 rfl (GX.ls rfl rfl rfl HS (fun _ HS _ g => GO.ldBox (j := 0) HS rfl rfl rfl rfl na2 rfl g) rfl (GX.ps 1 rfl (GX.ls rfl rfl rfl HS (fun _ HS _ g => GO.cutLH rfl rfl rfl rfl underlying9 c30 c31 rfl g) rfl (GX.l0 rfl rfl (fun _ _ g => GO.catS rfl rfl rfl c32 rfl g) rfl (GX.ls rfl rfl rfl HS (fun _ HS _ g => GO.ldBox (j := 0) HS rfl rfl rfl rfl na2 rfl g) rfl (GX.ls rfl rfl rfl HS (fun _ HS _ g => GO.ldBox (j := 0) HS rfl rfl rfl rfl na2 rfl g) rfl (GX.l2 rfl (GO.fn rfl func236 fok236.1 fok236.2 rfl rfl (impl_decimal.calls HS  h34) (fun _ wd35 ⟨h36, HS⟩ => ⟨_, h36, (GX.fin HS ?_)⟩))))))))))))))
    refine GX.l0 rfl rfl (fun _ _ g => GO.catS rfl rfl rfl c37 rfl g) rfl (GX.l0 rfl rfl (fun _ _ g => GO.catS rfl rfl rfl c38 rfl g) rfl (GX.l2 rfl (GO.fn rfl func236 fok236.1 fok236.2 rfl rfl (impl_decimal.calls HS  h40) (fun _ wd41 ⟨h42, HS⟩ => ⟨_, h42, (GX.fin HS (GX.l0 rfl rfl (fun _ _ g => GO.catS rfl rfl rfl c43 rfl g) rfl (GX.ps 1 rfl (GX.nil ?_))))⟩))))
    obtain rfl := Option.some.inj H
    exact G.ret1 _ func220 rfl rfl ⟨rfl, (HS.pk 1 [] rfl)⟩
   refine G.yesB rfl (congrArg Bool.not (bnot_of c29)) (G.run 2 rfl ?_)
   obtain rfl := Option.some.inj H
   exact G.ret1 _ func220 rfl rfl ⟨rfl, (HS.pk 1 [] rfl)⟩
  refine G.lexS mixed (fun w => St w0 w (Box b1 176 [.int .i64 m_Kind, .int .i64 m_Tet, .int .i64 m_Index] :: L)) [1, 6, 8] [0, 1, 2, 3, 4, 5, 7, 6, 8, 9, 10, 11, 12, 13] 14 (by kernel_rfl) (by kernel_rfl) HS.drew ?_
  replace HS := HS.drew
  refine GX.l0 rfl rfl (fun _ _ g => GO.fld (⟨b1, 1, none⟩) rfl rfl fl176_1 rfl rfl g) rfl (GX.ls rfl rfl rfl HS (fun _ HS _ g => GO.ldBox (j := 0) HS rfl rfl rfl rfl na2 rfl g) rfl (GX.l2 rfl (GO.fn rfl func146 fok146.1 fok146.2 rfl rfl (impl_inRange.calls HS  h17) (fun _ wd18 ⟨h19, HS⟩ => ⟨_, h19, (GX.fin HS (GX.ps 1 rfl (GX.l0 rfl rfl (fun _ _ g => GO.move rfl rfl rfl (GO.known (t := 7) rfl (congrArg Bool.not (bnot_of c20)) g)) rfl (GX.l0 rfl rfl (fun _ _ g => GO.off rfl rfl rfl rfl rfl rfl g) rfl (GX.l0 rfl rfl (fun _ _ g => GO.off rfl rfl rfl rfl rfl rfl g) rfl (GX.ls rfl rfl rfl HS (fun _ HS _ g => GO.off rfl rfl rfl rfl rfl rfl g) rfl (GX.ls rfl rfl rfl HS (fun _ HS _ g => GO.off rfl rfl rfl rfl rfl rfl g) rfl (GX.l2 rfl (GO.off rfl rfl rfl rfl rfl rfl (GX.fin HS (GX.l0 rfl rfl (fun _ _ g => GO.off rfl rfl rfl rfl rfl rfl g) rfl ?_)))))))))))⟩))))
  refine GX.l2 rfl (GO.off rfl rfl rfl rfl rfl rfl (GX.fin HS (GX.l0 rfl rfl (fun _ _ g => GO.off rfl rfl rfl rfl rfl rfl g) rfl (GX.ps 1 rfl (GX.nil (G.run 3 rfl ?_))))))
  obtain rfl := Option.some.inj H
  exact G.ret1 _ func220 rfl rfl ⟨rfl, (HS.pk 1 [] rfl)⟩
theorem impl_isPlain_fn1.calls {w0 w : World} {L : List HObj} {K : Nat} {m_Kind m_Tet m_Index : Int} {r1 : Bool} (HS : St w0 w (L)) (H : impl_isPlain_fn1.f K m_Kind m_Tet m_Index = some r1) :
    Calls prog 219 #[.agg [.int .i64 m_Kind, .int .i64 m_Tet, .int .i64 m_Index].toArray] w (impl_isPlain_fn1.post w0 L r1) := by
  unfold impl_isPlain_fn1.f at H
  refine Calls.of_G func219 rfl rfl rfl ?_
  refine G.seq (G.region (GO.box (cs := [.int .i64 m_Kind, .int .i64 m_Tet, .int .i64 m_Index]) HS rfl rfl rfl rfl fun b1 wd2 HS => GO.assign rfl rfl rfl (GO.nil (G.seq ?_))))
  obtain ⟨t3, h4, H⟩ := Option.bind_eq_some_iff.1 H
  refine G.region (GO.ldBoxA (j := 0) ([.int .i64 m_Kind, .int .i64 m_Tet, .int .i64 m_Index]) HS rfl rfl rfl rfl ag176 rfl (GO.fn rfl func220 fok220.1 fok220.2 rfl rfl (impl_MoveText.calls HS  h4) (fun _ wd5 ⟨h6, HS⟩ => ⟨_, h6, (GO.eqlS rfl rfl rfl rfl (GO.assign rfl rfl rfl (GO.nil ?_)))⟩)))
  obtain rfl := Option.some.inj H
  exact G.ret1 _ func219 rfl rfl ⟨rfl, (HS.pk 1 [] rfl)⟩
theorem slices_IndexFunc_impl_Move_impl_Move_isPlain_fn1.calls {w0 w : World} {L : List HObj} {K : Nat} {s : List GMove} {A_a : Option Addr} {c_a : Nat} {r1 : Int} (HS : St w0 w (L)) (r_a : RdIn w0 L T_GMove A_a c_a (fun _ => ()) s) (H : slices_IndexFunc_impl_Move_impl_Move_isPlain_fn1.f K s = some r1) :
    Calls prog 263 #[.slice A_a s.length c_a, .func (.func 219) #[] #[]] w (slices_IndexFunc_impl_Move_impl_Move_isPlain_fn1.post w0 L r1) := by
  unfold slices_IndexFunc_impl_Move_impl_Move_isPlain_fn1.f at H
  refine Calls.of_G func263 rfl rfl rfl ?_
  refine G.run 4 rfl (G.region (GO.move rfl rfl rfl (GO.lenS rfl rfl underlying45 rfl (GO.move rfl rfl rfl (GO.nil (G.run 2 rfl ?_))))))
  refine G.name (fun k_l1 hk_l1 => ?_)
  have at_l1 : ∀ m_l1, m_l1 ≤ K → ∀ (x10 : Int) (w : World), slices_IndexFunc_impl_Move_impl_Move_isPlain_fn1.l1 K m_l1 s x10 = some r1 → St w0 w (L) → G prog 263 19 [(0, .slice A_a s.length c_a), (1, .func (.func 219) #[] #[]), (7, .int .i64 (s.length : Int)), (8, .int .i64 x10)] k_l1 w (slices_IndexFunc_impl_Move_impl_Move_isPlain_fn1.post w0 L r1) := by
   intro m_l1
   induction m_l1 using Nat.strongRecOn with
   | _ m_l1 ih_l1 =>
    intro hm_l1 x10 w H HS
    cases m_l1 with
    | zero => rw [slices_IndexFunc_impl_Move_impl_Move_isPlain_fn1.l1] at H; cases H
    | succ n_l1 =>
     rw [slices_IndexFunc_impl_Move_impl_Move_isPlain_fn1.l1] at H
     subst hk_l1
     refine G.run 3 rfl ?_
     rcases ite_elim H with ⟨c20, H⟩ | ⟨c20, H⟩
     ·
      refine G.yesB rfl (decide_eq_true c20) (G.run 6 rfl ?_)
      obtain ⟨c21, H⟩ := ite_none H
      obtain ⟨e22, h23, H⟩ := bnd_elim H
      obtain ⟨t24, h25, H⟩ := Option.bind_eq_some_iff.1 H
      refine G.region (GO.ps 3 rfl (GO.ix rfl rfl rfl underlying45 sz176 (r_a _ HS).2.2.1 c21.1 c21.2 rfl (GO.ldRdA (T := T_GMove) (n := x10.toNat) HS r_a rfl rfl (getD_eq (ltN c21) h23) ag176 rfl (GO.clo rfl rfl func219 fok219.1 fok219.2 rfl rfl (impl_isPlain_fn1.calls HS  h25) (fun _ wd26 ⟨h27, HS⟩ => ⟨_, h27, (GO.nil ?_)⟩)))))
      rcases ite_elim H with ⟨c28, H⟩ | ⟨c28, H⟩
      ·
       refine G.yesB rfl c28 (G.run 2 rfl ?_)
       obtain rfl := Option.some.inj H
       exact G.ret1 _ func263 rfl rfl ⟨rfl, HS⟩
      refine G.noB rfl (bnot_of c28) (G.run 4 rfl (G.weak ?_ (ih_l1 n_l1 (Nat.lt_succ_of_le (Nat.le_refl _)) (Nat.le_of_succ_le hm_l1) _ _ H HS)))
      exact ⟨rfl, rfl, rfl, rfl, trivial⟩
     refine G.noB rfl (decide_eq_false c20) (G.run 3 rfl ?_)
     obtain rfl := Option.some.inj H
     exact G.ret1 _ func263 rfl rfl ⟨rfl, HS⟩
  refine G.weak ?_ (at_l1 K (Nat.le_refl _) _ _ H HS)
  exact ⟨rfl, rfl, rfl, rfl, trivial⟩
theorem slices_ContainsFunc_impl_Move_impl_Move_isPlain_fn1.calls {w0 w : World} {L : List HObj} {K : Nat} {s : List GMove} {A_a : Option Addr} {c_a : Nat} {r1 : Bool} (HS : St w0 w (L)) (r_a : RdIn w0 L T_GMove A_a c_a (fun _ => ()) s) (H : slices_ContainsFunc_impl_Move_impl_Move_isPlain_fn1.f K s = some r1) :
    Calls prog 218 #[.slice A_a s.length c_a, .func (.func 219) #[] #[]] w (slices_ContainsFunc_impl_Move_impl_Move_isPlain_fn1.post w0 L r1) := by
  unfold slices_ContainsFunc_impl_Move_impl_Move_isPlain_fn1.f at H
  refine Calls.of_G func218 rfl rfl rfl ?_
  refine G.run 3 rfl ?_
  obtain ⟨t1, h2, H⟩ := Option.bind_eq_some_iff.1 H
  refine G.region (GO.ps 2 rfl (GO.fn rfl func263 fok263.1 fok263.2 rfl rfl (slices_IndexFunc_impl_Move_impl_Move_isPlain_fn1.calls HS r_a h2) (fun _ wd3 ⟨h4, HS⟩ => ⟨_, h4, (GO.ps 2 rfl (GO.nil ?_))⟩)))
  obtain rfl := Option.some.inj H
  exact G.ret1 _ func218 rfl rfl ⟨rfl, HS⟩
theorem impl_isPlain_fn2.calls {w0 w : World} {L : List HObj} {k_ : Int} {r1 : Bool} (HS : St w0 w (L)) (H : impl_isPlain_fn2.f k_ = some r1) :
    Calls prog 221 #[.int .i64 k_] w (impl_isPlain_fn2.post w0 L r1) := by
  unfold impl_isPlain_fn2.f at H
  refine Calls.of_G func221 rfl rfl rfl ?_
  refine G.run 3 rfl ?_
  obtain ⟨t1, h2, H⟩ := Option.bind_eq_some_iff.1 H
  refine G.region (GO.move rfl rfl rfl (GO.fn rfl func146 fok146.1 fok146.2 rfl rfl (impl_inRange.calls HS  h2) (fun _ wd3 ⟨h4, HS⟩ => ⟨_, h4, (GO.ps 2 rfl (GO.nil ?_))⟩)))
  obtain rfl := Option.some.inj H
  exact G.ret1 _ func221 rfl rfl ⟨rfl, HS⟩
theorem slices_IndexFunc_int64_int64_isPlain_fn2.calls {w0 w : World} {L : List HObj} {K : Nat} {s : List Int} {A_a : Option Addr} {c_a : Nat} {r1 : Int} (HS : St w0 w (L)) (r_a : RdIn w0 L (TInt .i64) A_a c_a (fun _ => ()) s) (H : slices_IndexFunc_int64_int64_isPlain_fn2.f K s = some r1) :
    Calls prog 262 #[.slice A_a s.length c_a, .func (.func 221) #[] #[]] w (slices_IndexFunc_int64_int64_isPlain_fn2.post w0 L r1) := by
  unfold slices_IndexFunc_int64_int64_isPlain_fn2.f at H
  refine Calls.of_G func262 rfl rfl rfl ?_
  refine G.run 4 rfl (G.region (GO.move rfl rfl rfl (GO.lenS rfl rfl underlying28 rfl (GO.move rfl rfl rfl (GO.nil (G.run 2 rfl ?_))))))
  refine G.name (fun k_l1 hk_l1 => ?_)
  have at_l1 : ∀ m_l1, m_l1 ≤ K → ∀ (x8 : Int) (w : World), slices_IndexFunc_int64_int64_isPlain_fn2.l1 K m_l1 s x8 = some r1 → St w0 w (L) → G prog 262 19 [(0, .slice A_a s.length c_a), (1, .func (.func 221) #[] #[]), (7, .int .i64 (s.length : Int)), (8, .int .i64 x8)] k_l1 w (slices_IndexFunc_int64_int64_isPlain_fn2.post w0 L r1) := by
   intro m_l1
   induction m_l1 using Nat.strongRecOn with
   | _ m_l1 ih_l1 =>
    intro hm_l1 x8 w H HS
    cases m_l1 with
    | zero => rw [slices_IndexFunc_int64_int64_isPlain_fn2.l1] at H; cases H
    | succ n_l1 =>
     rw [slices_IndexFunc_int64_int64_isPlain_fn2.l1] at H
     subst hk_l1
     refine G.run 3 rfl ?_
     rcases ite_elim H with ⟨c16, H⟩ | ⟨c16, H⟩
     ·
      refine G.yesB rfl (decide_eq_true c16) (G.run 6 rfl ?_)
      obtain ⟨c17, H⟩ := ite_none H
      obtain ⟨t18, h19, H⟩ := Option.bind_eq_some_iff.1 H
      refine G.region (GO.ps 3 rfl (GO.ix rfl rfl rfl underlying28 sz2 (r_a _ HS).2.2.1 c17.1 c17.2 rfl (GO.ldRd (T := (TInt .i64)) (n := x8.toNat) (o := 0) HS r_a rfl rfl (getD_some (d := 0) (ltN c17)) rfl rfl na2 rfl (GO.clo rfl rfl func221 fok221.1 fok221.2 rfl rfl (impl_isPlain_fn2.calls HS  h19) (fun _ wd20 ⟨h21, HS⟩ => ⟨_, h21, (GO.nil ?_)⟩)))))
      rcases ite_elim H with ⟨c22, H⟩ | ⟨c22, H⟩
      ·
       refine G.yesB rfl c22 (G.run 2 rfl ?_)
       obtain rfl := Option.some.inj H
       exact G.ret1 _ func262 rfl rfl ⟨rfl, HS⟩
      refine G.noB rfl (bnot_of c22) (G.run 4 rfl (G.weak ?_ (ih_l1 n_l1 (Nat.lt_succ_of_le (Nat.le_refl _)) (Nat.le_of_succ_le hm_l1) _ _ H HS)))
      exact ⟨rfl, rfl, rfl, rfl, trivial⟩
     refine G.noB rfl (decide_eq_false c16) (G.run 3 rfl ?_)
     obtain rfl := Option.some.inj H
     exact G.ret1 _ func262 rfl rfl ⟨rfl, HS⟩
  refine G.weak ?_ (at_l1 K (Nat.le_refl _) _ _ H HS)
  exact ⟨rfl, rfl, rfl, rfl, trivial⟩
theorem slices_ContainsFunc_int64_int64_isPlain_fn2.calls {w0 w : World} {L : List HObj} {K : Nat} {s : List Int} {A_a : Option Addr} {c_a : Nat} {r1 : Bool} (HS : St w0 w (L)) (r_a : RdIn w0 L (TInt .i64) A_a c_a (fun _ => ()) s) (H : slices_ContainsFunc_int64_int64_isPlain_fn2.f K s = some r1) :
    Calls prog 214 #[.slice A_a s.length c_a, .func (.func 221) #[] #[]] w (slices_ContainsFunc_int64_int64_isPlain_fn2.post w0 L r1) := by
  unfold slices_ContainsFunc_int64_int64_isPlain_fn2.f at H
  refine Calls.of_G func214 rfl rfl rfl ?_
  refine G.run 3 rfl ?_
  obtain ⟨t1, h2, H⟩ := Option.bind_eq_some_iff.1 H
  refine G.region (GO.ps 2 rfl (GO.fn rfl func262 fok262.1 fok262.2 rfl rfl (slices_IndexFunc_int64_int64_isPlain_fn2.calls HS r_a h2) (fun _ wd3 ⟨h4, HS⟩ => ⟨_, h4, (GO.ps 2 rfl (GO.nil ?_))⟩)))
  obtain rfl := Option.some.inj H
  exact G.ret1 _ func214 rfl rfl ⟨rfl, HS⟩
theorem impl_isPlain_fn3.calls {w0 w : World} {L : List HObj} {p : Int} {r1 : Bool} (HS : St w0 w (L)) (H : impl_isPlain_fn3.f p = some r1) :
    Calls prog 222 #[.int .i64 p] w (impl_isPlain_fn3.post w0 L r1) := by
  unfold impl_isPlain_fn3.f at H
  refine Calls.of_G func222 rfl rfl rfl ?_
  refine G.run 3 rfl ?_
  obtain ⟨t1, h2, H⟩ := Option.bind_eq_some_iff.1 H
  refine G.region (GO.move rfl rfl rfl (GO.fn rfl func223 fok223.1 fok223.2 rfl rfl (impl_isPerm.calls HS  h2) (fun _ wd3 ⟨h4, HS⟩ => ⟨_, h4, (GO.ps 2 rfl (GO.nil ?_))⟩)))
  obtain rfl := Option.some.inj H
  exact G.ret1 _ func222 rfl rfl ⟨rfl, HS⟩
theorem slices_IndexFunc_int64_int64_isPlain_fn3.calls {w0 w : World} {L : List HObj} {K : Nat} {s : List Int} {A_a : Option Addr} {c_a : Nat} {r1 : Int} (HS : St w0 w (L)) (r_a : RdIn w0 L (TInt .i64) A_a c_a (fun _ => ()) s) (H : slices_IndexFunc_int64_int64_isPlain_fn3.f K s = some r1) :
    Calls prog 262 #[.slice A_a s.length c_a, .func (.func 222) #[] #[]] w (slices_IndexFunc_int64_int64_isPlain_fn3.post w0 L r1) := by
  unfold slices_IndexFunc_int64_int64_isPlain_fn3.f at H
  refine Calls.of_G func262 rfl rfl rfl ?_
  refine G.run 4 rfl (G.region (GO.move rfl rfl rfl (GO.lenS rfl rfl underlying28 rfl (GO.move rfl rfl rfl (GO.nil (G.run 2 rfl ?_))))))
  refine G.name (fun k_l1 hk_l1 => ?_)
  have at_l1 : ∀ m_l1, m_l1 ≤ K → ∀ (x8 : Int) (w : World), slices_IndexFunc_int64_int64_isPlain_fn3.l1 K m_l1 s x8 = some r1 → St w0 w (L) → G prog 262 19 [(0, .slice A_a s.length c_a), (1, .func (.func 222) #[] #[]), (7, .int .i64 (s.length : Int)), (8, .int .i64 x8)] k_l1 w (slices_IndexFunc_int64_int64_isPlain_fn3.post w0 L r1) := by
   intro m_l1
   induction m_l1 using Nat.strongRecOn with
   | _ m_l1 ih_l1 =>
    intro hm_l1 x8 w H HS
    cases m_l1 with
    | zero => rw [slices_IndexFunc_int64_int64_isPlain_fn3.l1] at H; cases H
    | succ n_l1 =>
     rw [slices_IndexFunc_int64_int64_isPlain_fn3.l1] at H
     subst hk_l1
     refine G.run 3 rfl ?_
     rcases ite_elim H with ⟨c16, H⟩ | ⟨c16, H⟩
     ·
      refine G.yesB rfl (decide_eq_true c16) (G.run 6 rfl ?_)
      obtain ⟨c17, H⟩ := ite_none H
      obtain ⟨t18, h19, H⟩ := Option.bind_eq_some_iff.1 H
      refine G.region (GO.ps 3 rfl (GO.ix rfl rfl rfl underlying28 sz2 (r_a _ HS).2.2.1 c17.1 c17.2 rfl (GO.ldRd (T := (TInt .i64)) (n := x8.toNat) (o := 0) HS r_a rfl rfl (getD_some (d := 0) (ltN c17)) rfl rfl na2 rfl (GO.clo rfl rfl func222 fok222.1 fok222.2 rfl rfl (impl_isPlain_fn3.calls HS  h19) (fun _ wd20 ⟨h21, HS⟩ => ⟨_, h21, (GO.nil ?_)⟩)))))
      rcases ite_elim H with ⟨c22, H⟩ | ⟨c22, H⟩
      ·
       refine G.yesB rfl c22 (G.run 2 rfl ?_)
       obtain rfl := Option.some.inj H
       exact G.ret1 _ func262 rfl rfl ⟨rfl, HS⟩
      refine G.noB rfl (bnot_of c22) (G.run 4 rfl (G.weak ?_ (ih_l1 n_l1 (Nat.lt_succ_of_le (Nat.le_refl _)) (Nat.le_of_succ_le hm_l1) _ _ H HS)))
      exact ⟨rfl, rfl, rfl, rfl, trivial⟩
     refine G.noB rfl (decide_eq_false c16) (G.run 3 rfl ?_)
     obtain rfl := Option.some.inj H
     exact G.ret1 _ func262 rfl rfl ⟨rfl, HS⟩
  refine G.weak ?_ (at_l1 K (Nat.le_refl _) _ _ H HS)
  exact ⟨rfl, rfl, rfl, rfl, trivial⟩
theorem slices_ContainsFunc_int64_int64_isPlain_fn3.calls {w0 w : World} {L : List HObj} {K : Nat} {s : List Int} {A_a : Option Addr} {c_a : Nat} {r1 : Bool} (HS : St w0 w (L)) (r_a : RdIn w0 L (TInt .i64) A_a c_a (fun _ => ()) s) (H : slices_ContainsFunc_int64_int64_isPlain_fn3.f K s = some r1) :
    Calls prog 214 #[.slice A_a s.length c_a, .func (.func 222) #[] #[]] w (slices_ContainsFunc_int64_int64_isPlain_fn3.post w0 L r1) := by
  unfold slices_ContainsFunc_int64_int64_isPlain_fn3.f at H
  refine Calls.of_G func214 rfl rfl rfl ?_
  refine G.run 3 rfl ?_
  obtain ⟨t1, h2, H⟩ := Option.bind_eq_some_iff.1 H
  refine G.region (GO.ps 2 rfl (GO.fn rfl func262 fok262.1 fok262.2 rfl rfl (slices_IndexFunc_int64_int64_isPlain_fn3.calls HS r_a h2) (fun _ wd3 ⟨h4, HS⟩ => ⟨_, h4, (GO.ps 2 rfl (GO.nil ?_))⟩)))
  obtain rfl := Option.some.inj H
  exact G.ret1 _ func214 rfl rfl ⟨rfl, HS⟩
theorem impl_isPlain.calls {w0 w : World} {L : List HObj} {K : Nat} {c_Name c_Trait : Int} {c_Moves : List GMove} {c_Tets c_Perms : List Int} {A_a : Option Addr} {c_a : Nat} {A_b : Option Addr} {c_b : Nat} {A_c : Option Addr} {c_c : Nat} {r1 : Bool} (HS : St w0 w (L)) (r_a : RdIn w0 L T_GMove A_a c_a (fun _ => ()) c_Moves) (r_b : RdIn w0 L (TInt .i64) A_b c_b (fun _ => ()) c_Tets) (r_c : RdIn w0 L (TInt .i64) A_c c_c (fun _ => ()) c_Perms) (H : impl_isPlain.f K c_Name c_Trait c_Moves c_Tets c_Perms = some r1) :
    Calls prog 151 #[.agg [.int .i64 c_Name, .int .i64 c_Trait, .slice A_a c_Moves.length c_a, .slice A_b c_Tets.length c_b, .slice A_c c_Perms.length c_c].toArray] w (impl_isPlain.post w0 L r1) := by
  unfold impl_isPlain.f at H
  refine Calls.of_G func151 rfl rfl rfl ?_
  refine G.seq (G.region (GO.box (cs := [.int .i64 c_Name, .int .i64 c_Trait, .slice A_a c_Moves.length c_a, .slice A_b c_Tets.length c_b, .slice A_c c_Perms.length c_c]) HS rfl rfl rfl rfl fun b1 wd2 HS => GO.assign rfl rfl rfl (GO.nil (G.run 3 rfl ?_))))
  obtain ⟨t12, h13, H⟩ := Option.bind_eq_some_iff.1 H
  rcases ite_elim H with ⟨c16, H⟩ | ⟨c16, H⟩
  ·
   obtain ⟨t17, h18, H⟩ := Option.bind_eq_some_iff.1 H
   refine G.region (GO.fld (⟨b1, 0, none⟩) rfl rfl fl47_0 rfl rfl (GO.ldBox (j := 0) HS rfl rfl rfl rfl na2 rfl (GO.fn rfl func217 fok217.1 fok217.2 rfl rfl (impl_isName.calls HS  h13) (fun _ wd14 ⟨h15, HS⟩ => ⟨_, h15, (GO.ps 2 rfl (GO.known (t := 8) rfl (congrArg Bool.not c16) (GO.on rfl rfl rfl rfl (GO.fld (⟨b1, 1, none⟩) rfl rfl fl47_1 rfl rfl (GO.back (GO.on rfl rfl rfl rfl (GO.ldBox (j := 0) HS rfl rfl rfl rfl na2 rfl (GO.back (GO.on rfl rfl rfl rfl (GO.fn rfl func146 fok146.1 fok146.2 rfl rfl (impl_inRange.calls HS  h18) (fun _ wd19 ⟨h20, HS⟩ => ⟨_, h20, (GO.back ?_)⟩)))))))))))⟩))))
   refine GO.on rfl rfl rfl rfl (GO.not rfl rfl rfl (GO.back (GO.ps 2 rfl (GO.nil ?_))))
   rcases ite_elim H with ⟨c21, H⟩ | ⟨c21, H⟩
   ·
    refine G.noB rfl (congrArg Bool.not c21) (G.seq (G.region (GO.fld (⟨b1, 1, none⟩) rfl rfl fl47_1 rfl rfl (GO.ldBox (j := 0) HS rfl rfl rfl rfl na2 rfl (GO.ps 2 rfl (GO.nil ?_))))))
    rcases ite_elim H with ⟨c22, H⟩ | ⟨c22, H⟩
    ·
     refine G.noB rfl (congrArg Bool.not (decide_eq_true c22)) (G.run 3 rfl ?_)
     rcases ite_elim H with ⟨c23, H⟩ | ⟨c23, H⟩
     ·
      obtain ⟨t24, h25, H⟩ := Option.bind_eq_some_iff.1 H
      rcases ite_elim H with ⟨c28, H⟩ | ⟨c28, H⟩
      ·
       refine G.region (GO.fld (⟨b1, 2, none⟩) rfl rfl fl47_2 rfl rfl (GO.ldBox (j := 0) HS rfl rfl rfl rfl na45 rfl (GO.lenS rfl rfl underlying45 rfl (GO.ps 2 rfl (GO.known (t := 38) rfl (decide_eq_true c23) (GO.on rfl rfl rfl rfl (GO.fld (⟨b1, 2, none⟩) rfl rfl fl47_2 rfl rfl (GO.back (GO.on rfl rfl rfl rfl (GO.ldBox (j := 0) HS rfl rfl rfl rfl na45 rfl (GO.back (GO.on rfl rfl rfl rfl (GO.fn rfl func218 fok218.1 fok218.2 rfl rfl (slices_ContainsFunc_impl_Move_impl_Move_isPlain_fn1.calls HS (RdIn.drop 1 r_a) h25) (fun _ wd26 ⟨h27, HS⟩ => ⟨_, h27, (GO.back ?_)⟩))))))))))))))
       refine GO.on rfl rfl rfl rfl (GO.not rfl rfl rfl (GO.back (GO.ps 2 rfl (GO.known (t := 44) rfl (congrArg Bool.not c28) (GO.off rfl rfl rfl rfl rfl rfl (GO.off rfl rfl rfl rfl rfl rfl (GO.off rfl rfl rfl rfl rfl rfl (GO.off rfl rfl rfl rfl rfl rfl (GO.off rfl rfl rfl rfl rfl rfl (GO.off rfl rfl rfl rfl rfl rfl (GO.off rfl rfl rfl rfl rfl rfl (GO.ps 2 rfl (GO.off rfl rfl rfl rfl rfl rfl (GO.off rfl rfl rfl rfl rfl rfl ?_))))))))))))))
       refine GO.off rfl rfl rfl rfl rfl rfl (GO.off rfl rfl rfl rfl rfl rfl (GO.ps 2 rfl (GO.off rfl rfl rfl rfl rfl rfl (GO.off rfl rfl rfl rfl rfl rfl (GO.off rfl rfl rfl rfl rfl rfl (GO.off rfl rfl rfl rfl rfl rfl (GO.ps 2 rfl (GO.off rfl rfl rfl rfl rfl rfl (GO.off rfl rfl rfl rfl rfl rfl (GO.off rfl rfl rfl rfl rfl rfl (GO.off rfl rfl rfl rfl rfl rfl (GO.ps 2 rfl (GO.nil ?_)))))))))))))
       obtain rfl := Option.some.inj H
       exact G.ret1 _ func151 rfl rfl ⟨rfl, (HS.pk 1 [] rfl)⟩
      rcases ite_elim H with ⟨c29, H⟩ | ⟨c29, H⟩
      ·
       rcases ite_elim H with ⟨c30, H⟩ | ⟨c30, H⟩
       ·
        obtain ⟨t31, h32, H⟩ := Option.bind_eq_some_iff.1 H
        rcases ite_elim H with ⟨c35, H⟩ | ⟨c35, H⟩
        ·
         refine G.region (GO.fld (⟨b1, 2, none⟩) rfl rfl fl47_2 rfl rfl (GO.ldBox (j := 0) HS rfl rfl rfl rfl na45 rfl (GO.lenS rfl rfl underlying45 rfl (GO.ps 2 rfl (GO.known (t := 38) rfl (decide_eq_true c23) (GO.on rfl rfl rfl rfl (GO.fld (⟨b1, 2, none⟩) rfl rfl fl47_2 rfl rfl (GO.back (GO.on rfl rfl rfl rfl (GO.ldBox (j := 0) HS rfl rfl rfl rfl na45 rfl (GO.back (GO.on rfl rfl rfl rfl (GO.fn rfl func218 fok218.1 fok218.2 rfl rfl (slices_ContainsFunc_impl_Move_impl_Move_isPlain_fn1.calls HS (RdIn.drop 1 r_a) h25) (fun _ wd26 ⟨h27, HS⟩ => ⟨_, h27, (GO.back ?_)⟩))))))))))))))
         refine GO.on rfl rfl rfl rfl (GO.not rfl rfl rfl (GO.back (GO.ps 2 rfl (GO.known (t := 44) rfl (congrArg Bool.not (bnot_of c28)) (GO.on rfl rfl rfl rfl (GO.fld (⟨b1, 3, none⟩) rfl rfl fl47_3 rfl rfl (GO.back (GO.on rfl rfl rfl rfl (GO.ldBox (j := 0) HS rfl rfl rfl rfl na28 rfl (GO.back (GO.on rfl rfl rfl rfl (GO.lenS rfl rfl underlying28 rfl (GO.back (GO.on rfl rfl rfl rfl ?_))))))))))))))
         refine GO.fld (⟨b1, 4, none⟩) rfl rfl fl47_4 rfl rfl (GO.back (GO.on rfl rfl rfl rfl (GO.ldBox (j := 0) HS rfl rfl rfl rfl na28 rfl (GO.back (GO.on rfl rfl rfl rfl (GO.lenS rfl rfl underlying28 rfl (GO.back (GO.on rfl rfl rfl rfl (GO.eql rfl rfl rfl rfl (GO.back (GO.ps 2 rfl (GO.known (t := 53) rfl (decide_eq_true c29) (GO.on rfl rfl rfl rfl (GO.fld (⟨b1, 3, none⟩) rfl rfl fl47_3 rfl rfl ?_))))))))))))))
         refine GO.back (GO.on rfl rfl rfl rfl (GO.ldBox (j := 0) HS rfl rfl rfl rfl na28 rfl (GO.back (GO.on rfl rfl rfl rfl (GO.lenS rfl rfl underlying28 rfl (GO.back (GO.on rfl rfl rfl rfl (GO.leq rfl rfl rfl rfl (GO.back (GO.ps 2 rfl (GO.known (t := 59) rfl (decide_eq_true c30) (GO.on rfl rfl rfl rfl (GO.fld (⟨b1, 3, none⟩) rfl rfl fl47_3 rfl rfl (GO.back ?_))))))))))))))
         refine GO.on rfl rfl rfl rfl (GO.ldBox (j := 0) HS rfl rfl rfl rfl na28 rfl (GO.back (GO.on rfl rfl rfl rfl (GO.fn rfl func214 fok214.1 fok214.2 rfl rfl (slices_ContainsFunc_int64_int64_isPlain_fn2.calls HS (RdIn.drop 1 r_b) h32) (fun _ wd33 ⟨h34, HS⟩ => ⟨_, h34, (GO.back (GO.on rfl rfl rfl rfl (GO.not rfl rfl rfl (GO.back (GO.ps 2 rfl (GO.known (t := 65) rfl (congrArg Bool.not c35) (GO.off rfl rfl rfl rfl rfl rfl (GO.off rfl rfl rfl rfl rfl rfl (GO.off rfl rfl rfl rfl rfl rfl (GO.off rfl rfl rfl rfl rfl rfl ?_))))))))))⟩)))))
         refine GO.ps 2 rfl (GO.nil ?_)
         obtain rfl := Option.some.inj H
         exact G.ret1 _ func151 rfl rfl ⟨rfl, (HS.pk 1 [] rfl)⟩
        obtain ⟨t36, h37, H⟩ := Option.bind_eq_some_iff.1 H
        refine G.region (GO.fld (⟨b1, 2, none⟩) rfl rfl fl47_2 rfl rfl (GO.ldBox (j := 0) HS rfl rfl rfl rfl na45 rfl (GO.lenS rfl rfl underlying45 rfl (GO.ps 2 rfl (GO.known (t := 38) rfl (decide_eq_true c23) (GO.on rfl rfl rfl rfl (GO.fld (⟨b1, 2, none⟩) rfl rfl fl47_2 rfl rfl (GO.back (GO.on rfl rfl rfl rfl (GO.ldBox (j := 0) HS rfl rfl rfl rfl na45 rfl (GO.back (GO.on rfl rfl rfl rfl (GO.fn rfl func218 fok218.1 fok218.2 rfl rfl (slices_ContainsFunc_impl_Move_impl_Move_isPlain_fn1.calls HS (RdIn.drop 1 r_a) h25) (fun _ wd26 ⟨h27, HS⟩ => ⟨_, h27, (GO.back ?_)⟩))))))))))))))
        refine GO.on rfl rfl rfl rfl (GO.not rfl rfl rfl (GO.back (GO.ps 2 rfl (GO.known (t := 44) rfl (congrArg Bool.not (bnot_of c28)) (GO.on rfl rfl rfl rfl (GO.fld (⟨b1, 3, none⟩) rfl rfl fl47_3 rfl rfl (GO.back (GO.on rfl rfl rfl rfl (GO.ldBox (j := 0) HS rfl rfl rfl rfl na28 rfl (GO.back (GO.on rfl rfl rfl rfl (GO.lenS rfl rfl underlying28 rfl (GO.back (GO.on rfl rfl rfl rfl ?_))))))))))))))
        refine GO.fld (⟨b1, 4, none⟩) rfl rfl fl47_4 rfl rfl (GO.back (GO.on rfl rfl rfl rfl (GO.ldBox (j := 0) HS rfl rfl rfl rfl na28 rfl (GO.back (GO.on rfl rfl rfl rfl (GO.lenS rfl rfl underlying28 rfl (GO.back (GO.on rfl rfl rfl rfl (GO.eql rfl rfl rfl rfl (GO.back (GO.ps 2 rfl (GO.known (t := 53) rfl (decide_eq_true c29) (GO.on rfl rfl rfl rfl (GO.fld (⟨b1, 3, none⟩) rfl rfl fl47_3 rfl rfl ?_))))))))))))))
        refine GO.back (GO.on rfl rfl rfl rfl (GO.ldBox (j := 0) HS rfl rfl rfl rfl na28 rfl (GO.back (GO.on rfl rfl rfl rfl (GO.lenS rfl rfl underlying28 rfl (GO.back (GO.on rfl rfl rfl rfl (GO.leq rfl rfl rfl rfl (GO.back (GO.ps 2 rfl (GO.known (t := 59) rfl (decide_eq_true c30) (GO.on rfl rfl rfl rfl (GO.fld (⟨b1, 3, none⟩) rfl rfl fl47_3 rfl rfl (GO.back ?_))))))))))))))
        refine GO.on rfl rfl rfl rfl (GO.ldBox (j := 0) HS rfl rfl rfl rfl na28 rfl (GO.back (GO.on rfl rfl rfl rfl (GO.fn rfl func214 fok214.1 fok214.2 rfl rfl (slices_ContainsFunc_int64_int64_isPlain_fn2.calls HS (RdIn.drop 1 r_b) h32) (fun _ wd33 ⟨h34, HS⟩ => ⟨_, h34, (GO.back (GO.on rfl rfl rfl rfl (GO.not rfl rfl rfl (GO.back (GO.ps 2 rfl (GO.known (t := 65) rfl (congrArg Bool.not (bnot_of c35)) (GO.on rfl rfl rfl rfl (GO.fld (⟨b1, 4, none⟩) rfl rfl fl47_4 rfl rfl (GO.back (GO.on rfl rfl rfl rfl ?_))))))))))⟩)))))
        refine GO.ldBox (j := 0) HS rfl rfl rfl rfl na28 rfl (GO.back (GO.on rfl rfl rfl rfl (GO.fn rfl func214 fok214.1 fok214.2 rfl rfl (slices_ContainsFunc_int64_int64_isPlain_fn3.calls HS (RdIn.drop 1 r_c) h37) (fun _ wd38 ⟨h39, HS⟩ => ⟨_, h39, (GO.back (GO.on rfl rfl rfl rfl (GO.not rfl rfl rfl (GO.back (GO.ps 2 rfl (GO.nil ?_))))))⟩))))
        obtain rfl := Option.some.inj H
        exact G.ret1 _ func151 rfl rfl ⟨rfl, (HS.pk 1 [] rfl)⟩
       refine G.region (GO.fld (⟨b1, 2, none⟩) rfl rfl fl47_2 rfl rfl (GO.ldBox (j := 0) HS rfl rfl rfl rfl na45 rfl (GO.lenS rfl rfl underlying45 rfl (GO.ps 2 rfl (GO.known (t := 38) rfl (decide_eq_true c23) (GO.on rfl rfl rfl rfl (GO.fld (⟨b1, 2, none⟩) rfl rfl fl47_2 rfl rfl (GO.back (GO.on rfl rfl rfl rfl (GO.ldBox (j := 0) HS rfl rfl rfl rfl na45 rfl (GO.back (GO.on rfl rfl rfl rfl (GO.fn rfl func218 fok218.1 fok218.2 rfl rfl (slices_ContainsFunc_impl_Move_impl_Move_isPlain_fn1.calls HS (RdIn.drop 1 r_a) h25) (fun _ wd26 ⟨h27, HS⟩ => ⟨_, h27, (GO.back ?_)⟩))))))))))))))
       refine GO.on rfl rfl rfl rfl (GO.not rfl rfl rfl (GO.back (GO.ps 2 rfl (GO.known (t := 44) rfl (congrArg Bool.not (bnot_of c28)) (GO.on rfl rfl rfl rfl (GO.fld (⟨b1, 3, none⟩) rfl rfl fl47_3 rfl rfl (GO.back (GO.on rfl rfl rfl rfl (GO.ldBox (j := 0) HS rfl rfl rfl rfl na28 rfl (GO.back (GO.on rfl rfl rfl rfl (GO.lenS rfl rfl underlying28 rfl (GO.back (GO.on rfl rfl rfl rfl ?_))))))))))))))
       refine GO.fld (⟨b1, 4, none⟩) rfl rfl fl47_4 rfl rfl (GO.back (GO.on rfl rfl rfl rfl (GO.ldBox (j := 0) HS rfl rfl rfl rfl na28 rfl (GO.back (GO.on rfl rfl rfl rfl (GO.lenS rfl rfl underlying28 rfl (GO.back (GO.on rfl rfl rfl rfl (GO.eql rfl rfl rfl rfl (GO.back (GO.ps 2 rfl (GO.known (t := 53) rfl (decide_eq_true c29) (GO.on rfl rfl rfl rfl (GO.fld (⟨b1, 3, none⟩) rfl rfl fl47_3 rfl rfl ?_))))))))))))))
       refine GO.back (GO.on rfl rfl rfl rfl (GO.ldBox (j := 0) HS rfl rfl rfl rfl na28 rfl (GO.back (GO.on rfl rfl rfl rfl (GO.lenS rfl rfl underlying28 rfl (GO.back (GO.on rfl rfl rfl rfl (GO.leq rfl rfl rfl rfl (GO.back (GO.ps 2 rfl (GO.known (t := 59) rfl (decide_eq_false c30) (GO.off rfl rfl rfl rfl rfl rfl (GO.off rfl rfl rfl rfl rfl rfl (GO.off rfl rfl rfl rfl rfl rfl ?_))))))))))))))
       refine GO.off rfl rfl rfl rfl rfl rfl (GO.ps 2 rfl (GO.off rfl rfl rfl rfl rfl rfl (GO.off rfl rfl rfl rfl rfl rfl (GO.off rfl rfl rfl rfl rfl rfl (GO.off rfl rfl rfl rfl rfl rfl (GO.ps 2 rfl (GO.nil ?_)))))))
       obtain rfl := Option.some.inj H
       exact G.ret1 _ func151 rfl rfl ⟨rfl, (HS.pk 1 [] rfl)⟩
      refine G.region (GO.fld (⟨b1, 2, none⟩) rfl rfl fl47_2 rfl rfl (GO.ldBox (j := 0) HS rfl rfl rfl rfl na45 rfl (GO.lenS rfl rfl underlying45 rfl (GO.ps 2 rfl (GO.known (t := 38) rfl (decide_eq_true c23) (GO.on rfl rfl rfl rfl (GO.fld (⟨b1, 2, none⟩) rfl rfl fl47_2 rfl rfl (GO.back (GO.on rfl rfl rfl rfl (GO.ldBox (j := 0) HS rfl rfl rfl rfl na45 rfl (GO.back (GO.on rfl rfl rfl rfl (GO.fn rfl func218 fok218.1 fok218.2 rfl rfl (slices_ContainsFunc_impl_Move_impl_Move_isPlain_fn1.calls HS (RdIn.drop 1 r_a) h25) (fun _ wd26 ⟨h27, HS⟩ => ⟨_, h27, (GO.back ?_)⟩))))))))))))))
      refine GO.on rfl rfl rfl rfl (GO.not rfl rfl rfl (GO.back (GO.ps 2 rfl (GO.known (t := 44) rfl (congrArg Bool.not (bnot_of c28)) (GO.on rfl rfl rfl rfl (GO.fld (⟨b1, 3, none⟩) rfl rfl fl47_3 rfl rfl (GO.back (GO.on rfl rfl rfl rfl (GO.ldBox (j := 0) HS rfl rfl rfl rfl na28 rfl (GO.back (GO.on rfl rfl rfl rfl (GO.lenS rfl rfl underlying28 rfl (GO.back (GO.on rfl rfl rfl rfl ?_))))))))))))))
      refine GO.fld (⟨b1, 4, none⟩) rfl rfl fl47_4 rfl rfl (GO.back (GO.on rfl rfl rfl rfl (GO.ldBox (j := 0) HS rfl rfl rfl rfl na28 rfl (GO.back (GO.on rfl rfl rfl rfl (GO.lenS rfl rfl underlying28 rfl (GO.back (GO.on rfl rfl rfl rfl (GO.eql rfl rfl rfl rfl (GO.back (GO.ps 2 rfl (GO.known (t := 53) rfl (decide_eq_false c29) (GO.off rfl rfl rfl rfl rfl rfl (GO.off rfl rfl rfl rfl rfl rfl ?_))))))))))))))
      refine GO.off rfl rfl rfl rfl rfl rfl (GO.off rfl rfl rfl rfl rfl rfl (GO.ps 2 rfl (GO.off rfl rfl rfl rfl rfl rfl (GO.off rfl rfl rfl rfl rfl rfl (GO.off rfl rfl rfl rfl rfl rfl (GO.off rfl rfl rfl rfl rfl rfl (GO.ps 2 rfl (GO.off rfl rfl rfl rfl rfl rfl (GO.off rfl rfl rfl rfl rfl rfl (GO.off rfl rfl rfl rfl rfl rfl (GO.off rfl rfl rfl rfl rfl rfl (GO.ps 2 rfl (GO.nil ?_)))))))))))))
      obtain rfl := Option.some.inj H
      exact G.ret1 _ func151 rfl rfl ⟨rfl, (HS.pk 1 [] rfl)⟩
     refine G.region (GO.fld (⟨b1, 2, none⟩) rfl rfl fl47_2 rfl rfl (GO.ldBox (j := 0) HS rfl rfl rfl rfl na45 rfl (GO.lenS rfl rfl underlying45 rfl (GO.ps 2 rfl (GO.known (t := 38) rfl (decide_eq_false c23) (GO.off rfl rfl rfl rfl rfl rfl (GO.off rfl rfl rfl rfl rfl rfl (GO.off rfl rfl rfl rfl rfl rfl (GO.off rfl rfl rfl rfl rfl rfl (GO.ps 2 rfl (GO.off rfl rfl rfl rfl rfl rfl (GO.off rfl rfl rfl rfl rfl rfl (GO.off rfl rfl rfl rfl rfl rfl (GO.off rfl rfl rfl rfl rfl rfl ?_))))))))))))))
     refine GO.off rfl rfl rfl rfl rfl rfl (GO.off rfl rfl rfl rfl rfl rfl (GO.off rfl rfl rfl rfl rfl rfl (GO.ps 2 rfl (GO.off rfl rfl rfl rfl rfl rfl (GO.off rfl rfl rfl rfl rfl rfl (GO.off rfl rfl rfl rfl rfl rfl (GO.off rfl rfl rfl rfl rfl rfl (GO.ps 2 rfl (GO.off rfl rfl rfl rfl rfl rfl (GO.off rfl rfl rfl rfl rfl rfl (GO.off rfl rfl rfl rfl rfl rfl (GO.off rfl rfl rfl rfl rfl rfl (GO.ps 2 rfl (GO.off rfl rfl rfl rfl rfl rfl ?_))))))))))))))
     refine GO.off rfl rfl rfl rfl rfl rfl (GO.off rfl rfl rfl rfl rfl rfl (GO.off rfl rfl rfl rfl rfl rfl (GO.ps 2 rfl (GO.nil ?_))))
     obtain rfl := Option.some.inj H
     exact G.ret1 _ func151 rfl rfl ⟨rfl, (HS.pk 1 [] rfl)⟩
    refine G.yesB rfl (congrArg Bool.not (decide_eq_false c22)) (G.seq ?_)
    rcases ite_elim H with ⟨c40, H⟩ | ⟨c40, H⟩
    ·
     rcases ite_elim H with ⟨c41, H⟩ | ⟨c41, H⟩
     ·
      refine G.region (GO.fld (⟨b1, 2, none⟩) rfl rfl fl47_2 rfl rfl (GO.ldBox (j := 0) HS rfl rfl rfl rfl na45 rfl (GO.lenS rfl rfl underlying45 rfl (GO.ps 2 rfl (GO.known (t := 22) rfl (decide_eq_true c40) (GO.on rfl rfl rfl rfl (GO.fld (⟨b1, 3, none⟩) rfl rfl fl47_3 rfl rfl (GO.back (GO.on rfl rfl rfl rfl (GO.ldBox (j := 0) HS rfl rfl rfl rfl na28 rfl (GO.back (GO.on rfl rfl rfl rfl (GO.lenS rfl rfl underlying28 rfl (GO.back ?_))))))))))))))
      refine GO.on rfl rfl rfl rfl (GO.eql rfl rfl rfl rfl (GO.back (GO.ps 2 rfl (GO.known (t := 28) rfl (decide_eq_true c41) (GO.on rfl rfl rfl rfl (GO.fld (⟨b1, 4, none⟩) rfl rfl fl47_4 rfl rfl (GO.back (GO.on rfl rfl rfl rfl (GO.ldBox (j := 0) HS rfl rfl rfl rfl na28 rfl (GO.back (GO.on rfl rfl rfl rfl (GO.lenS rfl rfl underlying28 rfl (GO.back (GO.on rfl rfl rfl rfl ?_))))))))))))))
      refine GO.eql rfl rfl rfl rfl (GO.back (GO.ps 2 rfl (GO.nil ?_)))
      obtain rfl := Option.some.inj H
      exact G.ret1 _ func151 rfl rfl ⟨rfl, (HS.pk 1 [] rfl)⟩
     refine G.region (GO.fld (⟨b1, 2, none⟩) rfl rfl fl47_2 rfl rfl (GO.ldBox (j := 0) HS rfl rfl rfl rfl na45 rfl (GO.lenS rfl rfl underlying45 rfl (GO.ps 2 rfl (GO.known (t := 22) rfl (decide_eq_true c40) (GO.on rfl rfl rfl rfl (GO.fld (⟨b1, 3, none⟩) rfl rfl fl47_3 rfl rfl (GO.back (GO.on rfl rfl rfl rfl (GO.ldBox (j := 0) HS rfl rfl rfl rfl na28 rfl (GO.back (GO.on rfl rfl rfl rfl (GO.lenS rfl rfl underlying28 rfl (GO.back ?_))))))))))))))
     refine GO.on rfl rfl rfl rfl (GO.eql rfl rfl rfl rfl (GO.back (GO.ps 2 rfl (GO.known (t := 28) rfl (decide_eq_false c41) (GO.off rfl rfl rfl rfl rfl rfl (GO.off rfl rfl rfl rfl rfl rfl (GO.off rfl rfl rfl rfl rfl rfl (GO.off rfl rfl rfl rfl rfl rfl (GO.ps 2 rfl (GO.nil ?_))))))))))
     obtain rfl := Option.some.inj H
     exact G.ret1 _ func151 rfl rfl ⟨rfl, (HS.pk 1 [] rfl)⟩
    refine G.region (GO.fld (⟨b1, 2, none⟩) rfl rfl fl47_2 rfl rfl (GO.ldBox (j := 0) HS rfl rfl rfl rfl na45 rfl (GO.lenS rfl rfl underlying45 rfl (GO.ps 2 rfl (GO.known (t := 22) rfl (decide_eq_false c40) (GO.off rfl rfl rfl rfl rfl rfl (GO.off rfl rfl rfl rfl rfl rfl (GO.off rfl rfl rfl rfl rfl rfl (GO.off rfl rfl rfl rfl rfl rfl (GO.ps 2 rfl (GO.off rfl rfl rfl rfl rfl rfl (GO.off rfl rfl rfl rfl rfl rfl (GO.off rfl rfl rfl rfl rfl rfl (GO.off rfl rfl rfl rfl rfl rfl ?_))))))))))))))
    refine GO.ps 2 rfl (GO.nil ?_)
    obtain rfl := Option.some.inj H
    exact G.ret1 _ func151 rfl rfl ⟨rfl, (HS.pk 1 [] rfl)⟩
   refine G.yesB rfl (congrArg Bool.not (bnot_of c21)) (G.run 2 rfl ?_)
   obtain rfl := Option.some.inj H
   exact G.ret1 _ func151 rfl rfl ⟨rfl, (HS.pk 1 [] rfl)⟩
  refine G.region (GO.fld (⟨b1, 0, none⟩) rfl rfl fl47_0 rfl rfl (GO.ldBox (j := 0) HS rfl rfl rfl rfl na2 rfl (GO.fn rfl func217 fok217.1 fok217.2 rfl rfl (impl_isName.calls HS  h13) (fun _ wd14 ⟨h15, HS⟩ => ⟨_, h15, (GO.ps 2 rfl (GO.known (t := 8) rfl (congrArg Bool.not (bnot_of c16)) (GO.off rfl rfl rfl rfl rfl rfl (GO.off rfl rfl rfl rfl rfl rfl (GO.off rfl rfl rfl rfl rfl rfl (GO.off rfl rfl rfl rfl rfl rfl (GO.ps 2 rfl (GO.nil (G.run 3 rfl ?_)))))))))⟩))))
  obtain rfl := Option.some.inj H
  exact G.ret1 _ func151 rfl rfl ⟨rfl, (HS.pk 1 [] rfl)⟩
theorem impl_isItem.calls {w0 w : World} {L : List HObj} {K : Nat} {e_Name : ByteArray} {e_Kind : Int} {e_Triangulation_Tets : List (List GFace)} {e_Diagram_Crossings : List GCrossing} {e_Diagram_Circles e_Braid_Strands : Int} {e_Braid_Word : List Int} {e_Certificate_Name e_Certificate_Trait : Int} {e_Certificate_Moves : List GMove} {e_Certificate_Tets e_Certificate_Perms : List Int} {A_a : Option Addr} {c_a : Nat} {y_a : Nat → (Ty.slice 166 T_GFace).Lay} {A_b : Option Addr} {c_b : Nat} {A_c : Option Addr} {c_c : Nat} {A_d : Option Addr} {c_d : Nat} {A_e : Option Addr} {c_e : Nat} {A_f : Option Addr} {c_f : Nat} {r1 : Bool} (HS : St w0 w (L)) (r_a : RdIn w0 L (Ty.slice 166 T_GFace) A_a c_a y_a e_Triangulation_Tets) (r_b : RdIn w0 L T_GCrossing A_b c_b (fun _ => ()) e_Diagram_Crossings) (r_c : RdIn w0 L (TInt .i64) A_c c_c (fun _ => ()) e_Braid_Word) (r_d : RdIn w0 L T_GMove A_d c_d (fun _ => ()) e_Certificate_Moves) (r_e : RdIn w0 L (TInt .i64) A_e c_e (fun _ => ()) e_Certificate_Tets) (r_f : RdIn w0 L (TInt .i64) A_f c_f (fun _ => ()) e_Certificate_Perms) (H : impl_isItem.f K e_Name e_Kind e_Triangulation_Tets e_Diagram_Crossings e_Diagram_Circles e_Braid_Strands e_Braid_Word e_Certificate_Name e_Certificate_Trait e_Certificate_Moves e_Certificate_Tets e_Certificate_Perms = some r1) :
    Calls prog 68 #[.agg [.string e_Name, .int .i64 e_Kind, .slice A_a e_Triangulation_Tets.length c_a, .slice A_b e_Diagram_Crossings.length c_b, .int .i64 e_Diagram_Circles, .int .i64 e_Braid_Strands, .slice A_c e_Braid_Word.length c_c, .int .i64 e_Certificate_Name, .int .i64 e_Certificate_Trait, .slice A_d e_Certificate_Moves.length c_d, .slice A_e e_Certificate_Tets.length c_e, .slice A_f e_Certificate_Perms.length c_f].toArray] w (impl_isItem.post w0 L r1) := by
  unfold impl_isItem.f at H
  refine Calls.of_G func68 rfl rfl rfl ?_
  refine G.seq ?_
  refine G.region ?_
  refine GO.box (cs := [.string e_Name, .int .i64 e_Kind, .slice A_a e_Triangulation_Tets.length c_a, .slice A_b e_Diagram_Crossings.length c_b, .int .i64 e_Diagram_Circles, .int .i64 e_Braid_Strands, .slice A_c e_Braid_Word.length c_c, .int .i64 e_Certificate_Name, .int .i64 e_Certificate_Trait, .slice A_d e_Certificate_Moves.length c_d, .slice A_e e_Certificate_Tets.length c_e, .slice A_f e_Certificate_Perms.length c_f]) HS rfl rfl rfl rfl ?_; intro b1 wd2 HS
  refine GO.assign rfl rfl rfl ?_
  refine GO.nil ?_
  refine G.run 2 rfl ?_
  obtain ⟨t12, h13, H⟩ := Option.bind_eq_some_iff.1 H
  rcases ite_elim H with ⟨c16, H⟩ | ⟨c16, H⟩
  ·
   obtain ⟨t17, h18, H⟩ := Option.bind_eq_some_iff.1 H
   refine G.region ?_
   refine GO.fld (⟨b1, 0, none⟩) rfl rfl fl49_0 rfl rfl ?_
   refine GO.ldBox (j := 0) HS rfl rfl rfl rfl na9 rfl ?_
   refine GO.fn rfl func145 fok145.1 fok145.2 rfl rfl (impl_isItemName.calls HS  h13) (fun _ wd14 ⟨h15, HS⟩ => ⟨_, h15, ?_⟩)
   refine GO.ps 2 rfl ?_
   refine GO.known (t := 8) rfl (congrArg Bool.not c16) ?_
   refine GO.on rfl rfl rfl rfl ?_
   refine GO.fld (⟨b1, 1, none⟩) rfl rfl fl49_1 rfl rfl ?_
   refine GO.back ?_
   refine GO.on rfl rfl rfl rfl ?_
   refine GO.ldBox (j := 0) HS rfl rfl rfl rfl na2 rfl ?_
   refine GO.back ?_
   refine GO.on rfl rfl rfl rfl ?_
   refine GO.fn rfl func146 fok146.1 fok146.2 rfl rfl (impl_inRange.calls HS  h18) (fun _ wd19 ⟨h20, HS⟩ => ⟨_, h20, ?_⟩)
   refine GO.back ?_
   refine GO.on rfl rfl rfl rfl ?_
   refine GO.not rfl rfl rfl ?_
   refine GO.back ?_
   refine GO.pickF rfl rfl rfl rfl rfl ?_
   refine GO.nil ?_
   rcases ite_elim H with ⟨c21, H⟩ | ⟨c21, H⟩
   ·
    refine G.noB rfl (congrArg Bool.not c21) ?_
    refine G.run 2 rfl ?_
    obtain ⟨t22, t23, t24, t25, h26, H⟩ := bind4_elim H
    refine G.region ?_
    refine GO.ldBoxA (j := 0) ([.string e_Name, .int .i64 e_Kind, .slice A_a e_Triangulation_Tets.length c_a, .slice A_b e_Diagram_Crossings.length c_b, .int .i64 e_Diagram_Circles, .int .i64 e_Braid_Strands, .slice A_c e_Braid_Word.length c_c, .int .i64 e_Certificate_Name, .int .i64 e_Certificate_Trait, .slice A_d e_Certificate_Moves.length c_d, .slice A_e e_Certificate_Tets.length c_e, .slice A_f e_Certificate_Perms.length c_f]) HS rfl rfl rfl rfl ag49 rfl ?_
    refine GO.fn rfl func147 fok147.1 fok147.2 rfl rfl (impl_fields.calls HS (RdIn.drop 1 r_a) (RdIn.drop 1 r_b) (RdIn.drop 1 r_c) (RdIn.drop 1 r_d) (RdIn.drop 1 r_e) (RdIn.drop 1 r_f) h26) (fun _ wd27 ⟨h28, HS⟩ => ⟨_, h28, ?_⟩)
    refine GO.alloc HS rfl zr181 rfl rfl ?_; intro b29 wd30 HS
    refine GO.stBox (j := 0) (vs := [.bool t22, .bool t23, .bool t24, .bool t25]) ([.bool t22, .bool t23, .bool t24, .bool t25]) HS rfl rfl rfl rfl rfl (htA ag181) rfl rfl rfl ?_; intro wd31 HS
    refine GO.nil ?_
    refine G.seq ?_
    rcases ite_elim H with ⟨c32, H⟩ | ⟨c32, H⟩
    ·
     refine G.region ?_
     refine GO.fld (⟨b1, 1, none⟩) rfl rfl fl49_1 rfl rfl ?_
     refine GO.ldBox (j := 1) HS rfl rfl rfl rfl na2 rfl ?_
     refine GO.sub rfl rfl rfl rfl ?_
     refine GO.ixP 0 rfl rfl rfl c32 underlying181 sz4 rfl rfl ?_
     refine GO.stBox (j := 0) (vs := [.bool false]) ([.bool false, .bool t23, .bool t24, .bool t25]) HS rfl rfl rfl rfl rfl (htN na4 rfl) rfl rfl rfl ?_; intro wd33 HS
     refine GO.nil ?_
     refine G.run 2 rfl ?_
     refine G.region ?_
     refine GO.ldBoxA (j := 0) ([.bool false, .bool t23, .bool t24, .bool t25]) HS rfl rfl rfl rfl ag181 rfl ?_
     refine GO.buildV (.agg [.bool false, .bool false, .bool false, .bool false].toArray) rfl rfl (fun _ => by kernel_rfl) rfl ?_
     refine GO.neqA rfl rfl rfl ng181 (fun _ => eq181) rfl ?_
     refine GO.nil ?_
     rcases ite_elim H with ⟨c34, H⟩ | ⟨c34, H⟩
     ·
      refine G.noB rfl (congrArg Bool.not (decide_eq_true c34)) ?_
      refine G.run 3 rfl ?_
      refine G.region ?_
      refine GO.fld (⟨b1, 1, none⟩) rfl rfl fl49_1 rfl rfl ?_
      refine GO.ldBox (j := 1) HS rfl rfl rfl rfl na2 rfl ?_
      refine GO.nil ?_
      refine G.run 3 rfl ?_
      rcases ite_elim H with ⟨c35, H⟩ | ⟨c35, H⟩
      ·
       refine G.yesB rfl (decide_eq_true c35) ?_
       refine G.seq ?_
       obtain ⟨t36, h37, H⟩ := Option.bind_eq_some_iff.1 H
       refine G.region ?_
       refine GO.fld (⟨b1, 2, none⟩) rfl rfl fl49_2 rfl rfl ?_
       refine GO.ldBoxA (j := 1) ([.slice A_a e_Triangulation_Tets.length c_a]) HS rfl rfl rfl rfl ag40 rfl ?_
       refine GO.fn rfl func148 fok148.1 fok148.2 rfl rfl (impl_isTriangulation.calls HS (RdIn.drop 2 r_a) h37) (fun _ wd38 ⟨h39, HS⟩ => ⟨_, h39, ?_⟩)
       refine GO.assign rfl rfl rfl ?_
       refine GO.nil ?_
       obtain rfl := Option.some.inj H
       exact G.ret1 _ func68 rfl rfl ⟨rfl, (HS.pk 2 [] rfl)⟩
      refine G.noB rfl (decide_eq_false c35) ?_
      refine G.run 2 rfl ?_
      rcases ite_elim H with ⟨c40, H⟩ | ⟨c40, H⟩
      ·
       refine G.yesB rfl (decide_eq_true c40) ?_
       refine G.seq ?_
       obtain ⟨t41, h42, H⟩ := Option.bind_eq_some_iff.1 H
       refine G.region ?_
       refine GO.fld (⟨b1, 3, none⟩) rfl rfl fl49_3 rfl rfl ?_
       refine GO.ldBoxA (j := 1) ([.slice A_b e_Diagram_Crossings.length c_b, .int .i64 e_Diagram_Circles]) HS rfl rfl rfl rfl ag43 rfl ?_
       refine GO.fn rfl func149 fok149.1 fok149.2 rfl rfl (impl_isDiagram.calls HS (RdIn.drop 2 r_b) h42) (fun _ wd43 ⟨h44, HS⟩ => ⟨_, h44, ?_⟩)
       refine GO.assign rfl rfl rfl ?_
       refine GO.nil ?_
       obtain rfl := Option.some.inj H
       exact G.ret1 _ func68 rfl rfl ⟨rfl, (HS.pk 2 [] rfl)⟩
      refine G.noB rfl (decide_eq_false c40) ?_
      refine G.run 2 rfl ?_
      rcases ite_elim H with ⟨c45, H⟩ | ⟨c45, H⟩
      ·
       refine G.yesB rfl (decide_eq_true c45) ?_
       refine G.seq ?_
       obtain ⟨t46, h47, H⟩ := Option.bind_eq_some_iff.1 H
       refine G.region ?_
       refine GO.fld (⟨b1, 5, none⟩) rfl rfl fl49_4 rfl rfl ?_
       refine GO.ldBoxA (j := 1) ([.int .i64 e_Braid_Strands, .slice A_c e_Braid_Word.length c_c]) HS rfl rfl rfl rfl ag44 rfl ?_
       refine GO.fn rfl func150 fok150.1 fok150.2 rfl rfl (impl_isBraid.calls HS (RdIn.drop 2 r_c) h47) (fun _ wd48 ⟨h49, HS⟩ => ⟨_, h49, ?_⟩)
       refine GO.assign rfl rfl rfl ?_
       refine GO.nil ?_
       obtain rfl := Option.some.inj H
       exact G.ret1 _ func68 rfl rfl ⟨rfl, (HS.pk 2 [] rfl)⟩
      refine G.noB rfl (decide_eq_false c45) ?_
      refine G.run 3 rfl ?_
      obtain ⟨t50, h51, H⟩ := Option.bind_eq_some_iff.1 H
      refine G.region ?_
      refine GO.fld (⟨b1, 7, none⟩) rfl rfl fl49_5 rfl rfl ?_
      refine GO.ldBoxA (j := 1) ([.int .i64 e_Certificate_Name, .int .i64 e_Certificate_Trait, .slice A_d e_Certificate_Moves.length c_d, .slice A_e e_Certificate_Tets.length c_e, .slice A_f e_Certificate_Perms.length c_f]) HS rfl rfl rfl rfl ag47 rfl ?_
      refine GO.fn rfl func151 fok151.1 fok151.2 rfl rfl (impl_isPlain.calls HS (RdIn.drop 2 r_d) (RdIn.drop 2 r_e) (RdIn.drop 2 r_f) h51) (fun _ wd52 ⟨h53, HS⟩ => ⟨_, h53, ?_⟩)
      refine GO.assign rfl rfl rfl ?_
      refine GO.nil ?_
      obtain rfl := Option.some.inj H
      exact G.ret1 _ func68 rfl rfl ⟨rfl, (HS.pk 2 [] rfl)⟩
     refine G.yesB rfl (congrArg Bool.not (decide_eq_false c34)) ?_
     refine G.run 2 rfl ?_
     obtain rfl := Option.some.inj H
     exact G.ret1 _ func68 rfl rfl ⟨rfl, (HS.pk 2 [] rfl)⟩
    rcases ite_elim H with ⟨c54, H⟩ | ⟨c54, H⟩
    ·
     refine G.region ?_
     refine GO.fld (⟨b1, 1, none⟩) rfl rfl fl49_1 rfl rfl ?_
     refine GO.ldBox (j := 1) HS rfl rfl rfl rfl na2 rfl ?_
     refine GO.sub rfl rfl rfl rfl ?_
     refine GO.ixP 1 rfl rfl rfl c54 underlying181 sz4 rfl rfl ?_
     refine GO.stBox (j := 0) (vs := [.bool false]) ([.bool t22, .bool false, .bool t24, .bool t25]) HS rfl rfl rfl rfl rfl (htN na4 rfl) rfl rfl rfl ?_; intro wd55 HS
     refine GO.nil ?_
     refine G.run 2 rfl ?_
     refine G.region ?_
     refine GO.ldBoxA (j := 0) ([.bool t22, .bool false, .bool t24, .bool t25]) HS rfl rfl rfl rfl ag181 rfl ?_
     refine GO.buildV (.agg [.bool false, .bool false, .bool false, .bool false].toArray) rfl rfl (fun _ => by kernel_rfl) rfl ?_
     refine GO.neqA rfl rfl rfl ng181 (fun _ => eq181) rfl ?_
     refine GO.nil ?_
     rcases ite_elim H with ⟨c56, H⟩ | ⟨c56, H⟩
     ·
      refine G.noB rfl (congrArg Bool.not (decide_eq_true c56)) ?_
      refine G.run 3 rfl ?_
      refine G.region ?_
      refine GO.fld (⟨b1, 1, none⟩) rfl rfl fl49_1 rfl rfl ?_
      refine GO.ldBox (j := 1) HS rfl rfl rfl rfl na2 rfl ?_
      refine GO.nil ?_
      refine G.run 3 rfl ?_
      rcases ite_elim H with ⟨c57, H⟩ | ⟨c57, H⟩
      ·
       refine G.yesB rfl (decide_eq_true c57) ?_
       refine G.seq ?_
       obtain ⟨t58, h59, H⟩ := Option.bind_eq_some_iff.1 H
       refine G.region ?_
       refine GO.fld (⟨b1, 2, none⟩) rfl rfl fl49_2 rfl rfl ?_
       refine GO.ldBoxA (j := 1) ([.slice A_a e_Triangulation_Tets.length c_a]) HS rfl rfl rfl rfl ag40 rfl ?_
       refine GO.fn rfl func148 fok148.1 fok148.2 rfl rfl (impl_isTriangulation.calls HS (RdIn.drop 2 r_a) h59) (fun _ wd60 ⟨h61, HS⟩ => ⟨_, h61, ?_⟩)
       refine GO.assign rfl rfl rfl ?_
       refine GO.nil ?_
       obtain rfl := Option.some.inj H
       exact G.ret1 _ func68 rfl rfl ⟨rfl, (HS.pk 2 [] rfl)⟩
      refine G.noB rfl (decide_eq_false c57) ?_
      refine G.run 2 rfl ?_
      rcases ite_elim H with ⟨c62, H⟩ | ⟨c62, H⟩
      ·
       refine G.yesB rfl (decide_eq_true c62) ?_
       refine G.seq ?_
       obtain ⟨t63, h64, H⟩ := Option.bind_eq_some_iff.1 H
       refine G.region ?_
       refine GO.fld (⟨b1, 3, none⟩) rfl rfl fl49_3 rfl rfl ?_
       refine GO.ldBoxA (j := 1) ([.slice A_b e_Diagram_Crossings.length c_b, .int .i64 e_Diagram_Circles]) HS rfl rfl rfl rfl ag43 rfl ?_
       refine GO.fn rfl func149 fok149.1 fok149.2 rfl rfl (impl_isDiagram.calls HS (RdIn.drop 2 r_b) h64) (fun _ wd65 ⟨h66, HS⟩ => ⟨_, h66, ?_⟩)
       refine GO.assign rfl rfl rfl ?_
       refine GO.nil ?_
       obtain rfl := Option.some.inj H
       exact G.ret1 _ func68 rfl rfl ⟨rfl, (HS.pk 2 [] rfl)⟩
      refine G.noB rfl (decide_eq_false c62) ?_
      refine G.run 2 rfl ?_
      rcases ite_elim H with ⟨c67, H⟩ | ⟨c67, H⟩
      ·
       refine G.yesB rfl (decide_eq_true c67) ?_
       refine G.seq ?_
       obtain ⟨t68, h69, H⟩ := Option.bind_eq_some_iff.1 H
       refine G.region ?_
       refine GO.fld (⟨b1, 5, none⟩) rfl rfl fl49_4 rfl rfl ?_
       refine GO.ldBoxA (j := 1) ([.int .i64 e_Braid_Strands, .slice A_c e_Braid_Word.length c_c]) HS rfl rfl rfl rfl ag44 rfl ?_
       refine GO.fn rfl func150 fok150.1 fok150.2 rfl rfl (impl_isBraid.calls HS (RdIn.drop 2 r_c) h69) (fun _ wd70 ⟨h71, HS⟩ => ⟨_, h71, ?_⟩)
       refine GO.assign rfl rfl rfl ?_
       refine GO.nil ?_
       obtain rfl := Option.some.inj H
       exact G.ret1 _ func68 rfl rfl ⟨rfl, (HS.pk 2 [] rfl)⟩
      refine G.noB rfl (decide_eq_false c67) ?_
      refine G.run 3 rfl ?_
      obtain ⟨t72, h73, H⟩ := Option.bind_eq_some_iff.1 H
      refine G.region ?_
      refine GO.fld (⟨b1, 7, none⟩) rfl rfl fl49_5 rfl rfl ?_
      refine GO.ldBoxA (j := 1) ([.int .i64 e_Certificate_Name, .int .i64 e_Certificate_Trait, .slice A_d e_Certificate_Moves.length c_d, .slice A_e e_Certificate_Tets.length c_e, .slice A_f e_Certificate_Perms.length c_f]) HS rfl rfl rfl rfl ag47 rfl ?_
      refine GO.fn rfl func151 fok151.1 fok151.2 rfl rfl (impl_isPlain.calls HS (RdIn.drop 2 r_d) (RdIn.drop 2 r_e) (RdIn.drop 2 r_f) h73) (fun _ wd74 ⟨h75, HS⟩ => ⟨_, h75, ?_⟩)
      refine GO.assign rfl rfl rfl ?_
      refine GO.nil ?_
      obtain rfl := Option.some.inj H
      exact G.ret1 _ func68 rfl rfl ⟨rfl, (HS.pk 2 [] rfl)⟩
     refine G.yesB rfl (congrArg Bool.not (decide_eq_false c56)) ?_
     refine G.run 2 rfl ?_
     obtain rfl := Option.some.inj H
     exact G.ret1 _ func68 rfl rfl ⟨rfl, (HS.pk 2 [] rfl)⟩
    rcases ite_elim H with ⟨c76, H⟩ | ⟨c76, H⟩
    ·
     refine G.region ?_
     refine GO.fld (⟨b1, 1, none⟩) rfl rfl fl49_1 rfl rfl ?_
     refine GO.ldBox (j := 1) HS rfl rfl rfl rfl na2 rfl ?_
     refine GO.sub rfl rfl rfl rfl ?_
     refine GO.ixP 2 rfl rfl rfl c76 underlying181 sz4 rfl rfl ?_
     refine GO.stBox (j := 0) (vs := [.bool false]) ([.bool t22, .bool t23, .bool false, .bool t25]) HS rfl rfl rfl rfl rfl (htN na4 rfl) rfl rfl rfl ?_; intro wd77 HS
     refine GO.nil ?_
     refine G.run 2 rfl ?_
     refine G.region ?_
     refine GO.ldBoxA (j := 0) ([.bool t22, .bool t23, .bool false, .bool t25]) HS rfl rfl rfl rfl ag181 rfl ?_
     refine GO.buildV (.agg [.bool false, .bool false, .bool false, .bool false].toArray) rfl rfl (fun _ => by kernel_rfl) rfl ?_
     refine GO.neqA rfl rfl rfl ng181 (fun _ => eq181) rfl ?_
     refine GO.nil ?_
     rcases ite_elim H with ⟨c78, H⟩ | ⟨c78, H⟩
     ·
      refine G.noB rfl (congrArg Bool.not (decide_eq_true c78)) ?_
      refine G.run 3 rfl ?_
      refine G.region ?_
      refine GO.fld (⟨b1, 1, none⟩) rfl rfl fl49_1 rfl rfl ?_
      refine GO.ldBox (j := 1) HS rfl rfl rfl rfl na2 rfl ?_
      refine GO.nil ?_
      refine G.run 3 rfl ?_
      rcases ite_elim H with ⟨c79, H⟩ | ⟨c79, H⟩
      ·
       refine G.yesB rfl (decide_eq_true c79) ?_
       refine G.seq ?_
       obtain ⟨t80, h81, H⟩ := Option.bind_eq_some_iff.1 H
       refine G.region ?_
       refine GO.fld (⟨b1, 2, none⟩) rfl rfl fl49_2 rfl rfl ?_
       refine GO.ldBoxA (j := 1) ([.slice A_a e_Triangulation_Tets.length c_a]) HS rfl rfl rfl rfl ag40 rfl ?_
       refine GO.fn rfl func148 fok148.1 fok148.2 rfl rfl (impl_isTriangulation.calls HS (RdIn.drop 2 r_a) h81) (fun _ wd82 ⟨h83, HS⟩ => ⟨_, h83, ?_⟩)
       refine GO.assign rfl rfl rfl ?_
       refine GO.nil ?_
       obtain rfl := Option.some.inj H
       exact G.ret1 _ func68 rfl rfl ⟨rfl, (HS.pk 2 [] rfl)⟩
      refine G.noB rfl (decide_eq_false c79) ?_
      refine G.run 2 rfl ?_
      rcases ite_elim H with ⟨c84, H⟩ | ⟨c84, H⟩
      ·
       refine G.yesB rfl (decide_eq_true c84) ?_
       refine G.seq ?_
       obtain ⟨t85, h86, H⟩ := Option.bind_eq_some_iff.1 H
       refine G.region ?_
       refine GO.fld (⟨b1, 3, none⟩) rfl rfl fl49_3 rfl rfl ?_
       refine GO.ldBoxA (j := 1) ([.slice A_b e_Diagram_Crossings.length c_b, .int .i64 e_Diagram_Circles]) HS rfl rfl rfl rfl ag43 rfl ?_
       refine GO.fn rfl func149 fok149.1 fok149.2 rfl rfl (impl_isDiagram.calls HS (RdIn.drop 2 r_b) h86) (fun _ wd87 ⟨h88, HS⟩ => ⟨_, h88, ?_⟩)
       refine GO.assign rfl rfl rfl ?_
       refine GO.nil ?_
       obtain rfl := Option.some.inj H
       exact G.ret1 _ func68 rfl rfl ⟨rfl, (HS.pk 2 [] rfl)⟩
      refine G.noB rfl (decide_eq_false c84) ?_
      refine G.run 2 rfl ?_
      rcases ite_elim H with ⟨c89, H⟩ | ⟨c89, H⟩
      ·
       refine G.yesB rfl (decide_eq_true c89) ?_
       refine G.seq ?_
       obtain ⟨t90, h91, H⟩ := Option.bind_eq_some_iff.1 H
       refine G.region ?_
       refine GO.fld (⟨b1, 5, none⟩) rfl rfl fl49_4 rfl rfl ?_
       refine GO.ldBoxA (j := 1) ([.int .i64 e_Braid_Strands, .slice A_c e_Braid_Word.length c_c]) HS rfl rfl rfl rfl ag44 rfl ?_
       refine GO.fn rfl func150 fok150.1 fok150.2 rfl rfl (impl_isBraid.calls HS (RdIn.drop 2 r_c) h91) (fun _ wd92 ⟨h93, HS⟩ => ⟨_, h93, ?_⟩)
       refine GO.assign rfl rfl rfl ?_
       refine GO.nil ?_
       obtain rfl := Option.some.inj H
       exact G.ret1 _ func68 rfl rfl ⟨rfl, (HS.pk 2 [] rfl)⟩
      refine G.noB rfl (decide_eq_false c89) ?_
      refine G.run 3 rfl ?_
      obtain ⟨t94, h95, H⟩ := Option.bind_eq_some_iff.1 H
      refine G.region ?_
      refine GO.fld (⟨b1, 7, none⟩) rfl rfl fl49_5 rfl rfl ?_
      refine GO.ldBoxA (j := 1) ([.int .i64 e_Certificate_Name, .int .i64 e_Certificate_Trait, .slice A_d e_Certificate_Moves.length c_d, .slice A_e e_Certificate_Tets.length c_e, .slice A_f e_Certificate_Perms.length c_f]) HS rfl rfl rfl rfl ag47 rfl ?_
      refine GO.fn rfl func151 fok151.1 fok151.2 rfl rfl (impl_isPlain.calls HS (RdIn.drop 2 r_d) (RdIn.drop 2 r_e) (RdIn.drop 2 r_f) h95) (fun _ wd96 ⟨h97, HS⟩ => ⟨_, h97, ?_⟩)
      refine GO.assign rfl rfl rfl ?_
      refine GO.nil ?_
      obtain rfl := Option.some.inj H
      exact G.ret1 _ func68 rfl rfl ⟨rfl, (HS.pk 2 [] rfl)⟩
     refine G.yesB rfl (congrArg Bool.not (decide_eq_false c78)) ?_
     refine G.run 2 rfl ?_
     obtain rfl := Option.some.inj H
     exact G.ret1 _ func68 rfl rfl ⟨rfl, (HS.pk 2 [] rfl)⟩
    rcases ite_elim H with ⟨c98, H⟩ | ⟨c98, H⟩
    ·
     refine G.region ?_
     refine GO.fld (⟨b1, 1, none⟩) rfl rfl fl49_1 rfl rfl ?_
     refine GO.ldBox (j := 1) HS rfl rfl rfl rfl na2 rfl ?_
     refine GO.sub rfl rfl rfl rfl ?_
     refine GO.ixP 3 rfl rfl rfl c98 underlying181 sz4 rfl rfl ?_
     refine GO.stBox (j := 0) (vs := [.bool false]) ([.bool t22, .bool t23, .bool t24, .bool false]) HS rfl rfl rfl rfl rfl (htN na4 rfl) rfl rfl rfl ?_; intro wd99 HS
     refine GO.nil ?_
     refine G.run 2 rfl ?_
     refine G.region ?_
     refine GO.ldBoxA (j := 0) ([.bool t22, .bool t23, .bool t24, .bool false]) HS rfl rfl rfl rfl ag181 rfl ?_
     refine GO.buildV (.agg [.bool false, .bool false, .bool false, .bool false].toArray) rfl rfl (fun _ => by kernel_rfl) rfl ?_
     refine GO.neqA rfl rfl rfl ng181 (fun _ => eq181) rfl ?_
     refine GO.nil ?_
     rcases ite_elim H with ⟨c100, H⟩ | ⟨c100, H⟩
     ·
      refine G.noB rfl (congrArg Bool.not (decide_eq_true c100)) ?_
      refine G.run 3 rfl ?_
      refine G.region ?_
      refine GO.fld (⟨b1, 1, none⟩) rfl rfl fl49_1 rfl rfl ?_
      refine GO.ldBox (j := 1) HS rfl rfl rfl rfl na2 rfl ?_
      refine GO.nil ?_
      refine G.run 3 rfl ?_
      rcases ite_elim H with ⟨c101, H⟩ | ⟨c101, H⟩
      ·
       refine G.yesB rfl (decide_eq_true c101) ?_
       refine G.seq ?_
       obtain ⟨t102, h103, H⟩ := Option.bind_eq_some_iff.1 H
       refine G.region ?_
       refine GO.fld (⟨b1, 2, none⟩) rfl rfl fl49_2 rfl rfl ?_
       refine GO.ldBoxA (j := 1) ([.slice A_a e_Triangulation_Tets.length c_a]) HS rfl rfl rfl rfl ag40 rfl ?_
       refine GO.fn rfl func148 fok148.1 fok148.2 rfl rfl (impl_isTriangulation.calls HS (RdIn.drop 2 r_a) h103) (fun _ wd104 ⟨h105, HS⟩ => ⟨_, h105, ?_⟩)
       refine GO.assign rfl rfl rfl ?_
       refine GO.nil ?_
       obtain rfl := Option.some.inj H
       exact G.ret1 _ func68 rfl rfl ⟨rfl, (HS.pk 2 [] rfl)⟩
      refine G.noB rfl (decide_eq_false c101) ?_
      refine G.run 2 rfl ?_
      rcases ite_elim H with ⟨c106, H⟩ | ⟨c106, H⟩
      ·
       refine G.yesB rfl (decide_eq_true c106) ?_
       refine G.seq ?_
       obtain ⟨t107, h108, H⟩ := Option.bind_eq_some_iff.1 H
       refine G.region ?_
       refine GO.fld (⟨b1, 3, none⟩) rfl rfl fl49_3 rfl rfl ?_
       refine GO.ldBoxA (j := 1) ([.slice A_b e_Diagram_Crossings.length c_b, .int .i64 e_Diagram_Circles]) HS rfl rfl rfl rfl ag43 rfl ?_
       refine GO.fn rfl func149 fok149.1 fok149.2 rfl rfl (impl_isDiagram.calls HS (RdIn.drop 2 r_b) h108) (fun _ wd109 ⟨h110, HS⟩ => ⟨_, h110, ?_⟩)
       refine GO.assign rfl rfl rfl ?_
       refine GO.nil ?_
       obtain rfl := Option.some.inj H
       exact G.ret1 _ func68 rfl rfl ⟨rfl, (HS.pk 2 [] rfl)⟩
      refine G.noB rfl (decide_eq_false c106) ?_
      refine G.run 2 rfl ?_
      rcases ite_elim H with ⟨c111, H⟩ | ⟨c111, H⟩
      ·
       refine G.yesB rfl (decide_eq_true c111) ?_
       refine G.seq ?_
       obtain ⟨t112, h113, H⟩ := Option.bind_eq_some_iff.1 H
       refine G.region ?_
       refine GO.fld (⟨b1, 5, none⟩) rfl rfl fl49_4 rfl rfl ?_
       refine GO.ldBoxA (j := 1) ([.int .i64 e_Braid_Strands, .slice A_c e_Braid_Word.length c_c]) HS rfl rfl rfl rfl ag44 rfl ?_
       refine GO.fn rfl func150 fok150.1 fok150.2 rfl rfl (impl_isBraid.calls HS (RdIn.drop 2 r_c) h113) (fun _ wd114 ⟨h115, HS⟩ => ⟨_, h115, ?_⟩)
       refine GO.assign rfl rfl rfl ?_
       refine GO.nil ?_
       obtain rfl := Option.some.inj H
       exact G.ret1 _ func68 rfl rfl ⟨rfl, (HS.pk 2 [] rfl)⟩
      refine G.noB rfl (decide_eq_false c111) ?_
      refine G.run 3 rfl ?_
      obtain ⟨t116, h117, H⟩ := Option.bind_eq_some_iff.1 H
      refine G.region ?_
      refine GO.fld (⟨b1, 7, none⟩) rfl rfl fl49_5 rfl rfl ?_
      refine GO.ldBoxA (j := 1) ([.int .i64 e_Certificate_Name, .int .i64 e_Certificate_Trait, .slice A_d e_Certificate_Moves.length c_d, .slice A_e e_Certificate_Tets.length c_e, .slice A_f e_Certificate_Perms.length c_f]) HS rfl rfl rfl rfl ag47 rfl ?_
      refine GO.fn rfl func151 fok151.1 fok151.2 rfl rfl (impl_isPlain.calls HS (RdIn.drop 2 r_d) (RdIn.drop 2 r_e) (RdIn.drop 2 r_f) h117) (fun _ wd118 ⟨h119, HS⟩ => ⟨_, h119, ?_⟩)
      refine GO.assign rfl rfl rfl ?_
      refine GO.nil ?_
      obtain rfl := Option.some.inj H
      exact G.ret1 _ func68 rfl rfl ⟨rfl, (HS.pk 2 [] rfl)⟩
     refine G.yesB rfl (congrArg Bool.not (decide_eq_false c100)) ?_
     refine G.run 2 rfl ?_
     obtain rfl := Option.some.inj H
     exact G.ret1 _ func68 rfl rfl ⟨rfl, (HS.pk 2 [] rfl)⟩
    cases H
   refine G.yesB rfl (congrArg Bool.not (bnot_of c21)) ?_
   refine G.run 2 rfl ?_
   obtain rfl := Option.some.inj H
   exact G.ret1 _ func68 rfl rfl ⟨rfl, (HS.pk 1 [] rfl)⟩
  refine G.region ?_
  refine GO.fld (⟨b1, 0, none⟩) rfl rfl fl49_0 rfl rfl ?_
  refine GO.ldBox (j := 0) HS rfl rfl rfl rfl na9 rfl ?_
  refine GO.fn rfl func145 fok145.1 fok145.2 rfl rfl (impl_isItemName.calls HS  h13) (fun _ wd14 ⟨h15, HS⟩ => ⟨_, h15, ?_⟩)
  refine GO.ps 2 rfl ?_
  refine GO.known (t := 8) rfl (congrArg Bool.not (bnot_of c16)) ?_
  refine GO.off rfl rfl rfl rfl rfl rfl ?_
  refine GO.off rfl rfl rfl rfl rfl rfl ?_
  refine GO.off rfl rfl rfl rfl rfl rfl ?_
  refine GO.off rfl rfl rfl rfl rfl rfl ?_
  refine GO.pickT rfl rfl rfl rfl rfl ?_
  refine GO.nil ?_
  refine G.run 3 rfl ?_
  obtain rfl := Option.some.inj H
  exact G.ret1 _ func68 rfl rfl ⟨rfl, (HS.pk 1 [] rfl)⟩
theorem impl_ValidItem.calls {w0 w : World} {L : List HObj} {K : Nat} {e_Name : ByteArray} {e_Kind : Int} {e_Triangulation_Tets : List (List GFace)} {e_Diagram_Crossings : List GCrossing} {e_Diagram_Circles e_Braid_Strands : Int} {e_Braid_Word : List Int} {e_Certificate_Name e_Certificate_Trait : Int} {e_Certificate_Moves : List GMove} {e_Certificate_Tets e_Certificate_Perms : List Int} {A_a : Option Addr} {c_a : Nat} {y_a : Nat → (Ty.slice 166 T_GFace).Lay} {A_b : Option Addr} {c_b : Nat} {A_c : Option Addr} {c_c : Nat} {A_d : Option Addr} {c_d : Nat} {A_e : Option Addr} {c_e : Nat} {A_f : Option Addr} {c_f : Nat} {r1 : Bool} (HS : St w0 w (L)) (r_a : RdIn w0 L (Ty.slice 166 T_GFace) A_a c_a y_a e_Triangulation_Tets) (r_b : RdIn w0 L T_GCrossing A_b c_b (fun _ => ()) e_Diagram_Crossings) (r_c : RdIn w0 L (TInt .i64) A_c c_c (fun _ => ()) e_Braid_Word) (r_d : RdIn w0 L T_GMove A_d c_d (fun _ => ()) e_Certificate_Moves) (r_e : RdIn w0 L (TInt .i64) A_e c_e (fun _ => ()) e_Certificate_Tets) (r_f : RdIn w0 L (TInt .i64) A_f c_f (fun _ => ()) e_Certificate_Perms) (H : impl_ValidItem.f K e_Name e_Kind e_Triangulation_Tets e_Diagram_Crossings e_Diagram_Circles e_Braid_Strands e_Braid_Word e_Certificate_Name e_Certificate_Trait e_Certificate_Moves e_Certificate_Tets e_Certificate_Perms = some r1) :
    Calls prog 18 #[.agg [.string e_Name, .int .i64 e_Kind, .slice A_a e_Triangulation_Tets.length c_a, .slice A_b e_Diagram_Crossings.length c_b, .int .i64 e_Diagram_Circles, .int .i64 e_Braid_Strands, .slice A_c e_Braid_Word.length c_c, .int .i64 e_Certificate_Name, .int .i64 e_Certificate_Trait, .slice A_d e_Certificate_Moves.length c_d, .slice A_e e_Certificate_Tets.length c_e, .slice A_f e_Certificate_Perms.length c_f].toArray] w (impl_ValidItem.post w0 L r1) := by
  unfold impl_ValidItem.f at H
  refine Calls.of_G func18 rfl rfl rfl ?_
  refine G.seq (G.region (GO.box (cs := [.string e_Name, .int .i64 e_Kind, .slice A_a e_Triangulation_Tets.length c_a, .slice A_b e_Diagram_Crossings.length c_b, .int .i64 e_Diagram_Circles, .int .i64 e_Braid_Strands, .slice A_c e_Braid_Word.length c_c, .int .i64 e_Certificate_Name, .int .i64 e_Certificate_Trait, .slice A_d e_Certificate_Moves.length c_d, .slice A_e e_Certificate_Tets.length c_e, .slice A_f e_Certificate_Perms.length c_f]) HS rfl rfl rfl rfl fun b1 wd2 HS => GO.assign rfl rfl rfl (GO.nil (G.seq ?_))))
  obtain ⟨t3, h4, H⟩ := Option.bind_eq_some_iff.1 H
  refine G.region (GO.ldBoxA (j := 0) ([.string e_Name, .int .i64 e_Kind, .slice A_a e_Triangulation_Tets.length c_a, .slice A_b e_Diagram_Crossings.length c_b, .int .i64 e_Diagram_Circles, .int .i64 e_Braid_Strands, .slice A_c e_Braid_Word.length c_c, .int .i64 e_Certificate_Name, .int .i64 e_Certificate_Trait, .slice A_d e_Certificate_Moves.length c_d, .slice A_e e_Certificate_Tets.length c_e, .slice A_f e_Certificate_Perms.length c_f]) HS rfl rfl rfl rfl ag49 rfl (GO.fn rfl func68 fok68.1 fok68.2 rfl rfl (impl_isItem.calls HS (RdIn.drop 1 r_a) (RdIn.drop 1 r_b) (RdIn.drop 1 r_c) (RdIn.drop 1 r_d) (RdIn.drop 1 r_e) (RdIn.drop 1 r_f) h4) (fun _ wd5 ⟨h6, HS⟩ => ⟨_, h6, (GO.assign rfl rfl rfl (GO.nil ?_))⟩)))
  obtain rfl := Option.some.inj H
  exact G.ret1 _ func18 rfl rfl ⟨rfl, (HS.pk 1 [] rfl)⟩
theorem laws_eqFace.calls {w0 w : World} {L : List HObj} {a_Tet a_Perm : Int} {b_Tet b_Perm : Int} {r1 : Bool} (HS : St w0 w (L)) (H : laws_eqFace.f a_Tet a_Perm b_Tet b_Perm = some r1) :
    Calls prog 265 #[.agg [.int .i64 a_Tet, .int .i64 a_Perm].toArray, .agg [.int .i64 b_Tet, .int .i64 b_Perm].toArray] w (laws_eqFace.post w0 L r1) := by
  unfold laws_eqFace.f at H
  refine Calls.of_G func265 rfl rfl rfl ?_
  refine G.seq (G.region (GO.box (cs := [.int .i64 a_Tet, .int .i64 a_Perm]) HS rfl rfl rfl rfl fun b1 wd2 HS => GO.box (cs := [.int .i64 b_Tet, .int .i64 b_Perm]) HS rfl rfl rfl rfl fun b3 wd4 HS => GO.assign rfl rfl rfl (GO.nil (G.run 2 rfl (G.region (GO.fld (⟨b1, 0, none⟩) rfl rfl fl166_0 rfl rfl (GO.ldBox (j := 1) HS rfl rfl rfl rfl na2 rfl (GO.fld (⟨b3, 0, none⟩) rfl rfl fl166_0 rfl rfl (GO.ldBox (j := 0) HS rfl rfl rfl rfl na2 rfl (GO.neq rfl rfl rfl rfl (GO.nil ?_)))))))))))
  rcases ite_elim H with ⟨c5, H⟩ | ⟨c5, H⟩
  ·
   refine G.noB rfl (congrArg Bool.not (decide_eq_true c5)) (G.run 3 rfl (G.region (GO.fld (⟨b1, 1, none⟩) rfl rfl fl166_1 rfl rfl (GO.ldBox (j := 1) HS rfl rfl rfl rfl na2 rfl (GO.fld (⟨b3, 1, none⟩) rfl rfl fl166_1 rfl rfl (GO.ldBox (j := 0) HS rfl rfl rfl rfl na2 rfl (GO.neq rfl rfl rfl rfl (GO.nil ?_))))))))
   rcases ite_elim H with ⟨c6, H⟩ | ⟨c6, H⟩
   ·
    refine G.noB rfl (congrArg Bool.not (decide_eq_true c6)) (G.run 3 rfl ?_)
    obtain rfl := Option.some.inj H
    exact G.ret1 _ func265 rfl rfl ⟨rfl, (HS.pk 2 [] rfl)⟩
   refine G.yesB rfl (congrArg Bool.not (decide_eq_false c6)) (G.run 2 rfl ?_)
   obtain rfl := Option.some.inj H
   exact G.ret1 _ func265 rfl rfl ⟨rfl, (HS.pk 2 [] rfl)⟩
  refine G.yesB rfl (congrArg Bool.not (decide_eq_false c5)) (G.run 2 rfl ?_)
  obtain rfl := Option.some.inj H
  exact G.ret1 _ func265 rfl rfl ⟨rfl, (HS.pk 2 [] rfl)⟩
theorem laws_eqFaceS.calls {w0 w : World} {L : List HObj} {K : Nat} {a_ b_ : List GFace} {A_a : Option Addr} {c_a : Nat} {A_b : Option Addr} {c_b : Nat} {r1 : Bool} (HS : St w0 w (L)) (r_a : RdIn w0 L T_GFace A_a c_a (fun _ => ()) a_) (r_b : RdIn w0 L T_GFace A_b c_b (fun _ => ()) b_) (H : laws_eqFaceS.f K a_ b_ = some r1) :
    Calls prog 224 #[.slice A_a a_.length c_a, .slice A_b b_.length c_b] w (laws_eqFaceS.post w0 L r1) := by
  unfold laws_eqFaceS.f at H
  refine Calls.of_G func224 rfl rfl rfl ?_
  refine G.run 4 rfl (G.region (GO.move rfl rfl rfl (GO.lenS rfl rfl underlying164 rfl (GO.move rfl rfl rfl (GO.lenS rfl rfl underlying164 rfl (GO.neq rfl rfl rfl rfl (GO.nil ?_)))))))
  rcases ite_elim H with ⟨c1, H⟩ | ⟨c1, H⟩
  ·
   refine G.noB rfl (congrArg Bool.not (decide_eq_true c1)) (G.run 6 rfl ?_)
   refine G.name (fun k_l1 hk_l1 => ?_)
   have at_l1 : ∀ m_l1, m_l1 ≤ K → ∀ (i_14 : Int) (w : World), laws_eqFaceS.l1 K m_l1 a_ b_ i_14 = some r1 → St w0 w (L) → G prog 224 27 [(0, .slice A_a a_.length c_a), (1, .slice A_b b_.length c_b), (5, .int .i64 i_14)] k_l1 w (laws_eqFaceS.post w0 L r1) := by
    intro m_l1
    induction m_l1 using Nat.strongRecOn with
    | _ m_l1 ih_l1 =>
     intro hm_l1 i_14 w H HS
     cases m_l1 with
     | zero => rw [laws_eqFaceS.l1] at H; cases H
     | succ n_l1 =>
      rw [laws_eqFaceS.l1] at H
      subst hk_l1
      refine G.run 2 rfl (G.region (GO.ps 2 rfl (GO.lenS rfl rfl underlying164 rfl (GO.lss rfl rfl rfl rfl (GO.nil ?_)))))
      rcases ite_elim H with ⟨c27, H⟩ | ⟨c27, H⟩
      ·
       refine G.yesB rfl (decide_eq_true c27) (G.run 4 rfl ?_)
       obtain ⟨c28, H⟩ := ite_none H
       obtain ⟨e29, h30, H⟩ := bnd_elim H
       obtain ⟨c31, H⟩ := ite_none H
       obtain ⟨e32, h33, H⟩ := bnd_elim H
       obtain ⟨t34, h35, H⟩ := Option.bind_eq_some_iff.1 H
       refine G.lex mixed [0, 1, 2, 4, 5, 6, 3, 7, 8, 9] (by kernel_rfl) ?_
       replace HS := HS.drew
       refine GX.ps 2 rfl (GX.l0 rfl rfl (fun _ _ g => GO.ix rfl rfl rfl underlying164 sz166 (r_a _ HS).2.2.1 c28.1 c28.2 rfl g) rfl (GX.ps 2 rfl (GX.l0 rfl rfl (fun _ _ g => GO.ix rfl rfl rfl underlying164 sz166 (r_b _ HS).2.2.1 c31.1 c31.2 rfl g) rfl (GX.l1 rfl rfl rfl (fun _ g => GO.ldRdA (T := T_GFace) (n := i_14.toNat) HS r_a rfl rfl (getD_eq (ltN c28) h30) ag166 rfl g) rfl (GX.l1 rfl rfl rfl (fun _ g => GO.ldRdA (T := T_GFace) (n := i_14.toNat) HS r_b rfl rfl (getD_eq (ltN c31) h33) ag166 rfl g) rfl (GX.l2 rfl (GO.fn rfl func265 fok265.1 fok265.2 rfl rfl (laws_eqFace.calls HS  h35) (fun _ wd36 ⟨h37, HS⟩ => ⟨_, h37, (GX.fin trivial (GX.ps 1 rfl (GX.nil ?_)))⟩))))))))
       rcases ite_elim H with ⟨c38, H⟩ | ⟨c38, H⟩
       ·
        refine G.noB rfl (congrArg Bool.not c38) (G.run 4 rfl (G.weak ?_ (ih_l1 n_l1 (Nat.lt_succ_of_le (Nat.le_refl _)) (Nat.le_of_succ_le hm_l1) _ _ H HS)))
        exact ⟨rfl, rfl, rfl, trivial⟩
       refine G.yesB rfl (congrArg Bool.not (bnot_of c38)) (G.run 2 rfl ?_)
       obtain rfl := Option.some.inj H
       exact G.ret1 _ func224 rfl rfl ⟨rfl, HS⟩
      refine G.noB rfl (decide_eq_false c27) (G.run 3 rfl ?_)
      obtain rfl := Option.some.inj H
      exact G.ret1 _ func224 rfl rfl ⟨rfl, HS⟩
   refine G.weak ?_ (at_l1 K (Nat.le_refl _) _ _ H HS)
   exact ⟨rfl, rfl, rfl, trivial⟩
  refine G.yesB rfl (congrArg Bool.not (decide_eq_false c1)) (G.run 2 rfl ?_)
  obtain rfl := Option.some.inj H
  exact G.ret1 _ func224 rfl rfl ⟨rfl, HS⟩
theorem laws_eqFaceSS.calls {w0 w : World} {L : List HObj} {K : Nat} {a_ b_ : List (List GFace)} {A_a : Option Addr} {c_a : Nat} {y_a : Nat → (Ty.slice 166 T_GFace).Lay} {A_b : Option Addr} {c_b : Nat} {y_b : Nat → (Ty.slice 166 T_GFace).Lay} {r1 : Bool} (HS : St w0 w (L)) (r_a : RdIn w0 L (Ty.slice 166 T_GFace) A_a c_a y_a a_) (r_b : RdIn w0 L (Ty.slice 166 T_GFace) A_b c_b y_b b_) (H : laws_eqFaceSS.f K a_ b_ = some r1) :
    Calls prog 152 #[.slice A_a a_.length c_a, .slice A_b b_.length c_b] w (laws_eqFaceSS.post w0 L r1) := by
  unfold laws_eqFaceSS.f at H
  refine Calls.of_G func152 rfl rfl rfl ?_
  refine G.run 4 rfl (G.region (GO.move rfl rfl rfl (GO.lenS rfl rfl underlying38 rfl (GO.move rfl rfl rfl (GO.lenS rfl rfl underlying38 rfl (GO.neq rfl rfl rfl rfl (GO.nil ?_)))))))
  rcases ite_elim H with ⟨c1, H⟩ | ⟨c1, H⟩
  ·
   refine G.noB rfl (congrArg Bool.not (decide_eq_true c1)) (G.run 6 rfl ?_)
   refine G.name (fun k_l1 hk_l1 => ?_)
   have at_l1 : ∀ m_l1, m_l1 ≤ K → ∀ (i_10 : Int) (w : World), laws_eqFaceSS.l1 K m_l1 a_ b_ i_10 = some r1 → St w0 w (L) → G prog 152 27 [(0, .slice A_a a_.length c_a), (1, .slice A_b b_.length c_b), (5, .int .i64 i_10)] k_l1 w (laws_eqFaceSS.post w0 L r1) := by
    intro m_l1
    induction m_l1 using Nat.strongRecOn with
    | _ m_l1 ih_l1 =>
     intro hm_l1 i_10 w H HS
     cases m_l1 with
     | zero => rw [laws_eqFaceSS.l1] at H; cases H
     | succ n_l1 =>
      rw [laws_eqFaceSS.l1] at H
      subst hk_l1
      refine G.run 2 rfl (G.region (GO.ps 2 rfl (GO.lenS rfl rfl underlying38 rfl (GO.lss rfl rfl rfl rfl (GO.nil ?_)))))
      rcases ite_elim H with ⟨c19, H⟩ | ⟨c19, H⟩
      ·
       refine G.yesB rfl (decide_eq_true c19) (G.run 4 rfl ?_)
       obtain ⟨c20, H⟩ := ite_none H
       obtain ⟨c21, H⟩ := ite_none H
       obtain ⟨t22, h23, H⟩ := Option.bind_eq_some_iff.1 H
       refine G.lex mixed [0, 1, 2, 4, 5, 6, 3, 7, 8, 9] (by kernel_rfl) ?_
       replace HS := HS.drew
       refine GX.ps 2 rfl (GX.l0 rfl rfl (fun _ _ g => GO.ix rfl rfl rfl underlying38 sz164 (r_a _ HS).2.2.1 c20.1 c20.2 rfl g) rfl (GX.ps 2 rfl (GX.l0 rfl rfl (fun _ _ g => GO.ix rfl rfl rfl underlying38 sz164 (r_b _ HS).2.2.1 c21.1 c21.2 rfl g) rfl (GX.l1 rfl rfl rfl (fun _ g => GO.ldRd (T := (Ty.slice 166 T_GFace)) (n := i_10.toNat) (o := 0) HS r_a rfl rfl (getD_some (d := []) (ltN c20)) rfl rfl na164 rfl g) rfl (GX.l1 rfl rfl rfl (fun _ g => GO.ldRd (T := (Ty.slice 166 T_GFace)) (n := i_10.toNat) (o := 0) HS r_b rfl rfl (getD_some (d := []) (ltN c21)) rfl rfl na164 rfl g) rfl (GX.l2 rfl (GO.fn rfl func224 fok224.1 fok224.2 rfl rfl (laws_eqFaceS.calls HS (RdIn.elem r_a c20.1 c20.2) (RdIn.elem r_b c21.1 c21.2) h23) (fun _ wd24 ⟨h25, HS⟩ => ⟨_, h25, (GX.fin trivial (GX.ps 1 rfl (GX.nil ?_)))⟩))))))))
       rcases ite_elim H with ⟨c26, H⟩ | ⟨c26, H⟩
       ·
        refine G.noB rfl (congrArg Bool.not c26) (G.run 4 rfl (G.weak ?_ (ih_l1 n_l1 (Nat.lt_succ_of_le (Nat.le_refl _)) (Nat.le_of_succ_le hm_l1) _ _ H HS)))
        exact ⟨rfl, rfl, rfl, trivial⟩
       refine G.yesB rfl (congrArg Bool.not (bnot_of c26)) (G.run 2 rfl ?_)
       obtain rfl := Option.some.inj H
       exact G.ret1 _ func152 rfl rfl ⟨rfl, HS⟩
      refine G.noB rfl (decide_eq_false c19) (G.run 3 rfl ?_)
      obtain rfl := Option.some.inj H
      exact G.ret1 _ func152 rfl rfl ⟨rfl, HS⟩
   refine G.weak ?_ (at_l1 K (Nat.le_refl _) _ _ H HS)
   exact ⟨rfl, rfl, rfl, trivial⟩
  refine G.yesB rfl (congrArg Bool.not (decide_eq_false c1)) (G.run 2 rfl ?_)
  obtain rfl := Option.some.inj H
  exact G.ret1 _ func152 rfl rfl ⟨rfl, HS⟩
theorem laws_eqTriangulation.calls {w0 w : World} {L : List HObj} {K : Nat} {a_Tets b_Tets : List (List GFace)} {A_a : Option Addr} {c_a : Nat} {y_a : Nat → (Ty.slice 166 T_GFace).Lay} {A_b : Option Addr} {c_b : Nat} {y_b : Nat → (Ty.slice 166 T_GFace).Lay} {r1 : Bool} (HS : St w0 w (L)) (r_a : RdIn w0 L (Ty.slice 166 T_GFace) A_a c_a y_a a_Tets) (r_b : RdIn w0 L (Ty.slice 166 T_GFace) A_b c_b y_b b_Tets) (H : laws_eqTriangulation.f K a_Tets b_Tets = some r1) :
    Calls prog 69 #[.agg [.slice A_a a_Tets.length c_a].toArray, .agg [.slice A_b b_Tets.length c_b].toArray] w (laws_eqTriangulation.post w0 L r1) := by
  unfold laws_eqTriangulation.f at H
  refine Calls.of_G func69 rfl rfl rfl ?_
  refine G.seq (G.region (GO.box (cs := [.slice A_a a_Tets.length c_a]) HS rfl rfl rfl rfl fun b1 wd2 HS => GO.box (cs := [.slice A_b b_Tets.length c_b]) HS rfl rfl rfl rfl fun b3 wd4 HS => GO.assign rfl rfl rfl (GO.nil (G.run 2 rfl ?_))))
  obtain ⟨t5, h6, H⟩ := Option.bind_eq_some_iff.1 H
  refine G.region (GO.fld (⟨b1, 0, none⟩) rfl rfl fl40_0 rfl rfl (GO.ldBox (j := 1) HS rfl rfl rfl rfl na38 rfl (GO.fld (⟨b3, 0, none⟩) rfl rfl fl40_0 rfl rfl (GO.ldBox (j := 0) HS rfl rfl rfl rfl na38 rfl (GO.fn rfl func152 fok152.1 fok152.2 rfl rfl (laws_eqFaceSS.calls HS (RdIn.drop 2 r_a) (RdIn.drop 2 r_b) h6) (fun _ wd7 ⟨h8, HS⟩ => ⟨_, h8, (GO.not rfl rfl rfl (GO.nil ?_))⟩))))))
  rcases ite_elim H with ⟨c9, H⟩ | ⟨c9, H⟩
  ·
   refine G.noB rfl (congrArg Bool.not c9) (G.run 3 rfl ?_)
   obtain rfl := Option.some.inj H
   exact G.ret1 _ func69 rfl rfl ⟨rfl, (HS.pk 2 [] rfl)⟩
  refine G.yesB rfl (congrArg Bool.not (bnot_of c9)) (G.run 2 rfl ?_)
  obtain rfl := Option.some.inj H
  exact G.ret1 _ func69 rfl rfl ⟨rfl, (HS.pk 2 [] rfl)⟩
theorem laws_eqCrossing.calls {w0 w : World} {L : List HObj} {a_A a_B : Int} {a_C a_D : Int} {a_Sign b_A : Int} {b_B b_C : Int} {b_D b_Sign : Int} {r1 : Bool} (HS : St w0 w (L)) (H : laws_eqCrossing.f a_A a_B a_C a_D a_Sign b_A b_B b_C b_D b_Sign = some r1) :
    Calls prog 225 #[.agg [.int .i64 a_A, .int .i64 a_B, .int .i64 a_C, .int .i64 a_D, .int .i64 a_Sign].toArray, .agg [.int .i64 b_A, .int .i64 b_B, .int .i64 b_C, .int .i64 b_D, .int .i64 b_Sign].toArray] w (laws_eqCrossing.post w0 L r1) := by
  unfold laws_eqCrossing.f at H
  refine Calls.of_G func225 rfl rfl rfl ?_
  refine G.seq (G.region (GO.box (cs := [.int .i64 a_A, .int .i64 a_B, .int .i64 a_C, .int .i64 a_D, .int .i64 a_Sign]) HS rfl rfl rfl rfl fun b1 wd2 HS => GO.box (cs := [.int .i64 b_A, .int .i64 b_B, .int .i64 b_C, .int .i64 b_D, .int .i64 b_Sign]) HS rfl rfl rfl rfl fun b3 wd4 HS => GO.assign rfl rfl rfl (GO.nil (G.run 2 rfl (G.region (GO.fld (⟨b1, 0, none⟩) rfl rfl fl203_0 rfl rfl (GO.ldBox (j := 1) HS rfl rfl rfl rfl na2 rfl (GO.fld (⟨b3, 0, none⟩) rfl rfl fl203_0 rfl rfl (GO.ldBox (j := 0) HS rfl rfl rfl rfl na2 rfl (GO.neq rfl rfl rfl rfl (GO.nil ?_)))))))))))
  rcases ite_elim H with ⟨c5, H⟩ | ⟨c5, H⟩
  ·
   refine G.noB rfl (congrArg Bool.not (decide_eq_true c5)) (G.run 3 rfl (G.region (GO.fld (⟨b1, 1, none⟩) rfl rfl fl203_1 rfl rfl (GO.ldBox (j := 1) HS rfl rfl rfl rfl na2 rfl (GO.fld (⟨b3, 1, none⟩) rfl rfl fl203_1 rfl rfl (GO.ldBox (j := 0) HS rfl rfl rfl rfl na2 rfl (GO.neq rfl rfl rfl rfl (GO.nil ?_))))))))
   rcases ite_elim H with ⟨c6, H⟩ | ⟨c6, H⟩
   ·
    refine G.noB rfl (congrArg Bool.not (decide_eq_true c6)) (G.run 3 rfl (G.region (GO.fld (⟨b1, 2, none⟩) rfl rfl fl203_2 rfl rfl (GO.ldBox (j := 1) HS rfl rfl rfl rfl na2 rfl (GO.fld (⟨b3, 2, none⟩) rfl rfl fl203_2 rfl rfl (GO.ldBox (j := 0) HS rfl rfl rfl rfl na2 rfl (GO.neq rfl rfl rfl rfl (GO.nil ?_))))))))
    rcases ite_elim H with ⟨c7, H⟩ | ⟨c7, H⟩
    ·
     refine G.noB rfl (congrArg Bool.not (decide_eq_true c7)) (G.run 3 rfl (G.region (GO.fld (⟨b1, 3, none⟩) rfl rfl fl203_3 rfl rfl (GO.ldBox (j := 1) HS rfl rfl rfl rfl na2 rfl (GO.fld (⟨b3, 3, none⟩) rfl rfl fl203_3 rfl rfl (GO.ldBox (j := 0) HS rfl rfl rfl rfl na2 rfl (GO.neq rfl rfl rfl rfl (GO.nil ?_))))))))
     rcases ite_elim H with ⟨c8, H⟩ | ⟨c8, H⟩
     ·
      refine G.noB rfl (congrArg Bool.not (decide_eq_true c8)) (G.run 3 rfl (G.region (GO.fld (⟨b1, 4, none⟩) rfl rfl fl203_4 rfl rfl (GO.ldBox (j := 1) HS rfl rfl rfl rfl na2 rfl (GO.fld (⟨b3, 4, none⟩) rfl rfl fl203_4 rfl rfl (GO.ldBox (j := 0) HS rfl rfl rfl rfl na2 rfl (GO.neq rfl rfl rfl rfl (GO.nil ?_))))))))
      rcases ite_elim H with ⟨c9, H⟩ | ⟨c9, H⟩
      ·
       refine G.noB rfl (congrArg Bool.not (decide_eq_true c9)) (G.run 3 rfl ?_)
       obtain rfl := Option.some.inj H
       exact G.ret1 _ func225 rfl rfl ⟨rfl, (HS.pk 2 [] rfl)⟩
      refine G.yesB rfl (congrArg Bool.not (decide_eq_false c9)) (G.run 2 rfl ?_)
      obtain rfl := Option.some.inj H
      exact G.ret1 _ func225 rfl rfl ⟨rfl, (HS.pk 2 [] rfl)⟩
     refine G.yesB rfl (congrArg Bool.not (decide_eq_false c8)) (G.run 2 rfl ?_)
     obtain rfl := Option.some.inj H
     exact G.ret1 _ func225 rfl rfl ⟨rfl, (HS.pk 2 [] rfl)⟩
    refine G.yesB rfl (congrArg Bool.not (decide_eq_false c7)) (G.run 2 rfl ?_)
    obtain rfl := Option.some.inj H
    exact G.ret1 _ func225 rfl rfl ⟨rfl, (HS.pk 2 [] rfl)⟩
   refine G.yesB rfl (congrArg Bool.not (decide_eq_false c6)) (G.run 2 rfl ?_)
   obtain rfl := Option.some.inj H
   exact G.ret1 _ func225 rfl rfl ⟨rfl, (HS.pk 2 [] rfl)⟩
  refine G.yesB rfl (congrArg Bool.not (decide_eq_false c5)) (G.run 2 rfl ?_)
  obtain rfl := Option.some.inj H
  exact G.ret1 _ func225 rfl rfl ⟨rfl, (HS.pk 2 [] rfl)⟩
theorem laws_eqCrossingS.calls {w0 w : World} {L : List HObj} {K : Nat} {a_ b_ : List GCrossing} {A_a : Option Addr} {c_a : Nat} {A_b : Option Addr} {c_b : Nat} {r1 : Bool} (HS : St w0 w (L)) (r_a : RdIn w0 L T_GCrossing A_a c_a (fun _ => ()) a_) (r_b : RdIn w0 L T_GCrossing A_b c_b (fun _ => ()) b_) (H : laws_eqCrossingS.f K a_ b_ = some r1) :
    Calls prog 153 #[.slice A_a a_.length c_a, .slice A_b b_.length c_b] w (laws_eqCrossingS.post w0 L r1) := by
  unfold laws_eqCrossingS.f at H
  refine Calls.of_G func153 rfl rfl rfl ?_
  refine G.run 4 rfl (G.region (GO.move rfl rfl rfl (GO.lenS rfl rfl underlying41 rfl (GO.move rfl rfl rfl (GO.lenS rfl rfl underlying41 rfl (GO.neq rfl rfl rfl rfl (GO.nil ?_)))))))
  rcases ite_elim H with ⟨c1, H⟩ | ⟨c1, H⟩
  ·
   refine G.noB rfl (congrArg Bool.not (decide_eq_true c1)) (G.run 6 rfl ?_)
   refine G.name (fun k_l1 hk_l1 => ?_)
   have at_l1 : ∀ m_l1, m_l1 ≤ K → ∀ (i_14 : Int) (w : World), laws_eqCrossingS.l1 K m_l1 a_ b_ i_14 = some r1 → St w0 w (L) → G prog 153 27 [(0, .slice A_a a_.length c_a), (1, .slice A_b b_.length c_b), (5, .int .i64 i_14)] k_l1 w (laws_eqCrossingS.post w0 L r1) := by
    intro m_l1
    induction m_l1 using Nat.strongRecOn with
    | _ m_l1 ih_l1 =>
     intro hm_l1 i_14 w H HS
     cases m_l1 with
     | zero => rw [laws_eqCrossingS.l1] at H; cases H
     | succ n_l1 =>
      rw [laws_eqCrossingS.l1] at H
      subst hk_l1
      refine G.run 2 rfl (G.region (GO.ps 2 rfl (GO.lenS rfl rfl underlying41 rfl (GO.lss rfl rfl rfl rfl (GO.nil ?_)))))
      rcases ite_elim H with ⟨c27, H⟩ | ⟨c27, H⟩
      ·
       refine G.yesB rfl (decide_eq_true c27) (G.run 4 rfl ?_)
       obtain ⟨c28, H⟩ := ite_none H
       obtain ⟨e29, h30, H⟩ := bnd_elim H
       obtain ⟨c31, H⟩ := ite_none H
       obtain ⟨e32, h33, H⟩ := bnd_elim H
       obtain ⟨t34, h35, H⟩ := Option.bind_eq_some_iff.1 H
       refine G.lex mixed [0, 1, 2, 4, 5, 6, 3, 7, 8, 9] (by kernel_rfl) ?_
       replace HS := HS.drew
       refine GX.ps 2 rfl (GX.l0 rfl rfl (fun _ _ g => GO.ix rfl rfl rfl underlying41 sz203 (r_a _ HS).2.2.1 c28.1 c28.2 rfl g) rfl (GX.ps 2 rfl (GX.l0 rfl rfl (fun _ _ g => GO.ix rfl rfl rfl underlying41 sz203 (r_b _ HS).2.2.1 c31.1 c31.2 rfl g) rfl (GX.l1 rfl rfl rfl (fun _ g => GO.ldRdA (T := T_GCrossing) (n := i_14.toNat) HS r_a rfl rfl (getD_eq (ltN c28) h30) ag203 rfl g) rfl (GX.l1 rfl rfl rfl (fun _ g => GO.ldRdA (T := T_GCrossing) (n := i_14.toNat) HS r_b rfl rfl (getD_eq (ltN c31) h33) ag203 rfl g) rfl (GX.l2 rfl (GO.fn rfl func225 fok225.1 fok225.2 rfl rfl (laws_eqCrossing.calls HS  h35) (fun _ wd36 ⟨h37, HS⟩ => ⟨_, h37, (GX.fin trivial (GX.ps 1 rfl (GX.nil ?_)))⟩))))))))
       rcases ite_elim H with ⟨c38, H⟩ | ⟨c38, H⟩
       ·
        refine G.noB rfl (congrArg Bool.not c38) (G.run 4 rfl (G.weak ?_ (ih_l1 n_l1 (Nat.lt_succ_of_le (Nat.le_refl _)) (Nat.le_of_succ_le hm_l1) _ _ H HS)))
        exact ⟨rfl, rfl, rfl, trivial⟩
       refine G.yesB rfl (congrArg Bool.not (bnot_of c38)) (G.run 2 rfl ?_)
       obtain rfl := Option.some.inj H
       exact G.ret1 _ func153 rfl rfl ⟨rfl, HS⟩
      refine G.noB rfl (decide_eq_false c27) (G.run 3 rfl ?_)
      obtain rfl := Option.some.inj H
      exact G.ret1 _ func153 rfl rfl ⟨rfl, HS⟩
   refine G.weak ?_ (at_l1 K (Nat.le_refl _) _ _ H HS)
   exact ⟨rfl, rfl, rfl, trivial⟩
  refine G.yesB rfl (congrArg Bool.not (decide_eq_false c1)) (G.run 2 rfl ?_)
  obtain rfl := Option.some.inj H
  exact G.ret1 _ func153 rfl rfl ⟨rfl, HS⟩
theorem laws_eqDiagram.calls {w0 w : World} {L : List HObj} {K : Nat} {a_Crossings : List GCrossing} {a_Circles : Int} {b_Crossings : List GCrossing} {b_Circles : Int} {A_a : Option Addr} {c_a : Nat} {A_b : Option Addr} {c_b : Nat} {r1 : Bool} (HS : St w0 w (L)) (r_a : RdIn w0 L T_GCrossing A_a c_a (fun _ => ()) a_Crossings) (r_b : RdIn w0 L T_GCrossing A_b c_b (fun _ => ()) b_Crossings) (H : laws_eqDiagram.f K a_Crossings a_Circles b_Crossings b_Circles = some r1) :
    Calls prog 70 #[.agg [.slice A_a a_Crossings.length c_a, .int .i64 a_Circles].toArray, .agg [.slice A_b b_Crossings.length c_b, .int .i64 b_Circles].toArray] w (laws_eqDiagram.post w0 L r1) := by
  unfold laws_eqDiagram.f at H
  refine Calls.of_G func70 rfl rfl rfl ?_
  refine G.seq (G.region (GO.box (cs := [.slice A_a a_Crossings.length c_a, .int .i64 a_Circles]) HS rfl rfl rfl rfl fun b1 wd2 HS => GO.box (cs := [.slice A_b b_Crossings.length c_b, .int .i64 b_Circles]) HS rfl rfl rfl rfl fun b3 wd4 HS => GO.assign rfl rfl rfl (GO.nil (G.run 2 rfl ?_))))
  obtain ⟨t5, h6, H⟩ := Option.bind_eq_some_iff.1 H
  refine G.region (GO.fld (⟨b1, 0, none⟩) rfl rfl fl43_0 rfl rfl (GO.ldBox (j := 1) HS rfl rfl rfl rfl na41 rfl (GO.fld (⟨b3, 0, none⟩) rfl rfl fl43_0 rfl rfl (GO.ldBox (j := 0) HS rfl rfl rfl rfl na41 rfl (GO.fn rfl func153 fok153.1 fok153.2 rfl rfl (laws_eqCrossingS.calls HS (RdIn.drop 2 r_a) (RdIn.drop 2 r_b) h6) (fun _ wd7 ⟨h8, HS⟩ => ⟨_, h8, (GO.not rfl rfl rfl (GO.nil ?_))⟩))))))
  rcases ite_elim H with ⟨c9, H⟩ | ⟨c9, H⟩
  ·
   refine G.noB rfl (congrArg Bool.not c9) (G.run 3 rfl (G.region (GO.fld (⟨b1, 1, none⟩) rfl rfl fl43_1 rfl rfl (GO.ldBox (j := 1) HS rfl rfl rfl rfl na2 rfl (GO.fld (⟨b3, 1, none⟩) rfl rfl fl43_1 rfl rfl (GO.ldBox (j := 0) HS rfl rfl rfl rfl na2 rfl (GO.neq rfl rfl rfl rfl (GO.nil ?_))))))))
   rcases ite_elim H with ⟨c10, H⟩ | ⟨c10, H⟩
   ·
    refine G.noB rfl (congrArg Bool.not (decide_eq_true c10)) (G.run 3 rfl ?_)
    obtain rfl := Option.some.inj H
    exact G.ret1 _ func70 rfl rfl ⟨rfl, (HS.pk 2 [] rfl)⟩
   refine G.yesB rfl (congrArg Bool.not (decide_eq_false c10)) (G.run 2 rfl ?_)
   obtain rfl := Option.some.inj H
   exact G.ret1 _ func70 rfl rfl ⟨rfl, (HS.pk 2 [] rfl)⟩
  refine G.yesB rfl (congrArg Bool.not (bnot_of c9)) (G.run 2 rfl ?_)
  obtain rfl := Option.some.inj H
  exact G.ret1 _ func70 rfl rfl ⟨rfl, (HS.pk 2 [] rfl)⟩
theorem laws_eqInt64S.calls {w0 w : World} {L : List HObj} {K : Nat} {a_ b_ : List Int} {A_a : Option Addr} {c_a : Nat} {A_b : Option Addr} {c_b : Nat} {r1 : Bool} (HS : St w0 w (L)) (r_a : RdIn w0 L (TInt .i64) A_a c_a (fun _ => ()) a_) (r_b : RdIn w0 L (TInt .i64) A_b c_b (fun _ => ()) b_) (H : laws_eqInt64S.f K a_ b_ = some r1) :
    Calls prog 154 #[.slice A_a a_.length c_a, .slice A_b b_.length c_b] w (laws_eqInt64S.post w0 L r1) := by
  unfold laws_eqInt64S.f at H
  refine Calls.of_G func154 rfl rfl rfl ?_
  refine G.run 4 rfl (G.region (GO.move rfl rfl rfl (GO.lenS rfl rfl underlying28 rfl (GO.move rfl rfl rfl (GO.lenS rfl rfl underlying28 rfl (GO.neq rfl rfl rfl rfl (GO.nil ?_)))))))
  rcases ite_elim H with ⟨c1, H⟩ | ⟨c1, H⟩
  ·
   refine G.noB rfl (congrArg Bool.not (decide_eq_true c1)) (G.run 6 rfl ?_)
   refine G.name (fun k_l1 hk_l1 => ?_)
   have at_l1 : ∀ m_l1, m_l1 ≤ K → ∀ (i_6 : Int) (w : World), laws_eqInt64S.l1 K m_l1 a_ b_ i_6 = some r1 → St w0 w (L) → G prog 154 26 [(0, .slice A_a a_.length c_a), (1, .slice A_b b_.length c_b), (5, .int .i64 i_6)] k_l1 w (laws_eqInt64S.post w0 L r1) := by
    intro m_l1
    induction m_l1 using Nat.strongRecOn with
    | _ m_l1 ih_l1 =>
     intro hm_l1 i_6 w H HS
     cases m_l1 with
     | zero => rw [laws_eqInt64S.l1] at H; cases H
     | succ n_l1 =>
      rw [laws_eqInt64S.l1] at H
      subst hk_l1
      refine G.run 2 rfl (G.region (GO.ps 2 rfl (GO.lenS rfl rfl underlying28 rfl (GO.lss rfl rfl rfl rfl (GO.nil ?_)))))
      rcases ite_elim H with ⟨c11, H⟩ | ⟨c11, H⟩
      ·
       refine G.yesB rfl (decide_eq_true c11) (G.run 4 rfl ?_)
       obtain ⟨c12, H⟩ := ite_none H
       obtain ⟨c13, H⟩ := ite_none H
       refine G.lex mixed [0, 1, 2, 4, 5, 6, 3, 7, 8] (by kernel_rfl) ?_
       replace HS := HS.drew
       refine GX.ps 2 rfl (GX.l0 rfl rfl (fun _ _ g => GO.ix rfl rfl rfl underlying28 sz2 (r_a _ HS).2.2.1 c12.1 c12.2 rfl g) rfl (GX.ps 2 rfl (GX.l0 rfl rfl (fun _ _ g => GO.ix rfl rfl rfl underlying28 sz2 (r_b _ HS).2.2.1 c13.1 c13.2 rfl g) rfl (GX.l1 rfl rfl rfl (fun _ g => GO.ldRd (T := (TInt .i64)) (n := i_6.toNat) (o := 0) HS r_a rfl rfl (getD_some (d := 0) (ltN c12)) rfl rfl na2 rfl g) rfl (GX.l1 rfl rfl rfl (fun _ g => GO.ldRd (T := (TInt .i64)) (n := i_6.toNat) (o := 0) HS r_b rfl rfl (getD_some (d := 0) (ltN c13)) rfl rfl na2 rfl g) rfl (GX.ps 1 rfl (GX.nil ?_)))))))
       rcases ite_elim H with ⟨c14, H⟩ | ⟨c14, H⟩
       ·
        refine G.noB rfl (congrArg Bool.not (decide_eq_true c14)) (G.run 4 rfl (G.weak ?_ (ih_l1 n_l1 (Nat.lt_succ_of_le (Nat.le_refl _)) (Nat.le_of_succ_le hm_l1) _ _ H HS)))
        exact ⟨rfl, rfl, rfl, trivial⟩
       refine G.yesB rfl (congrArg Bool.not (decide_eq_false c14)) (G.run 2 rfl ?_)
       obtain rfl := Option.some.inj H
       exact G.ret1 _ func154 rfl rfl ⟨rfl, HS⟩
      refine G.noB rfl (decide_eq_false c11) (G.run 3 rfl ?_)
      obtain rfl := Option.some.inj H
      exact G.ret1 _ func154 rfl rfl ⟨rfl, HS⟩
   refine G.weak ?_ (at_l1 K (Nat.le_refl _) _ _ H HS)
   exact ⟨rfl, rfl, rfl, trivial⟩
  refine G.yesB rfl (congrArg Bool.not (decide_eq_false c1)) (G.run 2 rfl ?_)
  obtain rfl := Option.some.inj H
  exact G.ret1 _ func154 rfl rfl ⟨rfl, HS⟩
theorem laws_eqBraid.calls {w0 w : World} {L : List HObj} {K : Nat} {a_Strands : Int} {a_Word : List Int} {b_Strands : Int} {b_Word : List Int} {A_a : Option Addr} {c_a : Nat} {A_b : Option Addr} {c_b : Nat} {r1 : Bool} (HS : St w0 w (L)) (r_a : RdIn w0 L (TInt .i64) A_a c_a (fun _ => ()) a_Word) (r_b : RdIn w0 L (TInt .i64) A_b c_b (fun _ => ()) b_Word) (H : laws_eqBraid.f K a_Strands a_Word b_Strands b_Word = some r1) :
    Calls prog 71 #[.agg [.int .i64 a_Strands, .slice A_a a_Word.length c_a].toArray, .agg [.int .i64 b_Strands, .slice A_b b_Word.length c_b].toArray] w (laws_eqBraid.post w0 L r1) := by
  unfold laws_eqBraid.f at H
  refine Calls.of_G func71 rfl rfl rfl ?_
  refine G.seq (G.region (GO.box (cs := [.int .i64 a_Strands, .slice A_a a_Word.length c_a]) HS rfl rfl rfl rfl fun b1 wd2 HS => GO.box (cs := [.int .i64 b_Strands, .slice A_b b_Word.length c_b]) HS rfl rfl rfl rfl fun b3 wd4 HS => GO.assign rfl rfl rfl (GO.nil (G.run 2 rfl (G.region (GO.fld (⟨b1, 0, none⟩) rfl rfl fl44_0 rfl rfl (GO.ldBox (j := 1) HS rfl rfl rfl rfl na2 rfl (GO.fld (⟨b3, 0, none⟩) rfl rfl fl44_0 rfl rfl (GO.ldBox (j := 0) HS rfl rfl rfl rfl na2 rfl (GO.neq rfl rfl rfl rfl (GO.nil ?_)))))))))))
  rcases ite_elim H with ⟨c5, H⟩ | ⟨c5, H⟩
  ·
   refine G.noB rfl (congrArg Bool.not (decide_eq_true c5)) (G.run 3 rfl ?_)
   obtain ⟨t6, h7, H⟩ := Option.bind_eq_some_iff.1 H
   refine G.region (GO.fld (⟨b1, 1, none⟩) rfl rfl fl44_1 rfl rfl (GO.ldBox (j := 1) HS rfl rfl rfl rfl na28 rfl (GO.fld (⟨b3, 1, none⟩) rfl rfl fl44_1 rfl rfl (GO.ldBox (j := 0) HS rfl rfl rfl rfl na28 rfl (GO.fn rfl func154 fok154.1 fok154.2 rfl rfl (laws_eqInt64S.calls HS (RdIn.drop 2 r_a) (RdIn.drop 2 r_b) h7) (fun _ wd8 ⟨h9, HS⟩ => ⟨_, h9, (GO.not rfl rfl rfl (GO.nil ?_))⟩))))))
   rcases ite_elim H with ⟨c10, H⟩ | ⟨c10, H⟩
   ·
    refine G.noB rfl (congrArg Bool.not c10) (G.run 3 rfl ?_)
    obtain rfl := Option.some.inj H
    exact G.ret1 _ func71 rfl rfl ⟨rfl, (HS.pk 2 [] rfl)⟩
   refine G.yesB rfl (congrArg Bool.not (bnot_of c10)) (G.run 2 rfl ?_)
   obtain rfl := Option.some.inj H
   exact G.ret1 _ func71 rfl rfl ⟨rfl, (HS.pk 2 [] rfl)⟩
  refine G.yesB rfl (congrArg Bool.not (decide_eq_false c5)) (G.run 2 rfl ?_)
  obtain rfl := Option.some.inj H
  exact G.ret1 _ func71 rfl rfl ⟨rfl, (HS.pk 2 [] rfl)⟩
theorem laws_eqMove.calls {w0 w : World} {L : List HObj} {a_Kind a_Tet : Int} {a_Index b_Kind : Int} {b_Tet b_Index : Int} {r1 : Bool} (HS : St w0 w (L)) (H : laws_eqMove.f a_Kind a_Tet a_Index b_Kind b_Tet b_Index = some r1) :
    Calls prog 226 #[.agg [.int .i64 a_Kind, .int .i64 a_Tet, .int .i64 a_Index].toArray, .agg [.int .i64 b_Kind, .int .i64 b_Tet, .int .i64 b_Index].toArray] w (laws_eqMove.post w0 L r1) := by
  unfold laws_eqMove.f at H
  refine Calls.of_G func226 rfl rfl rfl ?_
  refine G.seq (G.region (GO.box (cs := [.int .i64 a_Kind, .int .i64 a_Tet, .int .i64 a_Index]) HS rfl rfl rfl rfl fun b1 wd2 HS => GO.box (cs := [.int .i64 b_Kind, .int .i64 b_Tet, .int .i64 b_Index]) HS rfl rfl rfl rfl fun b3 wd4 HS => GO.assign rfl rfl rfl (GO.nil (G.run 2 rfl (G.region (GO.fld (⟨b1, 0, none⟩) rfl rfl fl176_0 rfl rfl (GO.ldBox (j := 1) HS rfl rfl rfl rfl na2 rfl (GO.fld (⟨b3, 0, none⟩) rfl rfl fl176_0 rfl rfl (GO.ldBox (j := 0) HS rfl rfl rfl rfl na2 rfl (GO.neq rfl rfl rfl rfl (GO.nil ?_)))))))))))
  rcases ite_elim H with ⟨c5, H⟩ | ⟨c5, H⟩
  ·
   refine G.noB rfl (congrArg Bool.not (decide_eq_true c5)) (G.run 3 rfl (G.region (GO.fld (⟨b1, 1, none⟩) rfl rfl fl176_1 rfl rfl (GO.ldBox (j := 1) HS rfl rfl rfl rfl na2 rfl (GO.fld (⟨b3, 1, none⟩) rfl rfl fl176_1 rfl rfl (GO.ldBox (j := 0) HS rfl rfl rfl rfl na2 rfl (GO.neq rfl rfl rfl rfl (GO.nil ?_))))))))
   rcases ite_elim H with ⟨c6, H⟩ | ⟨c6, H⟩
   ·
    refine G.noB rfl (congrArg Bool.not (decide_eq_true c6)) (G.run 3 rfl (G.region (GO.fld (⟨b1, 2, none⟩) rfl rfl fl176_2 rfl rfl (GO.ldBox (j := 1) HS rfl rfl rfl rfl na2 rfl (GO.fld (⟨b3, 2, none⟩) rfl rfl fl176_2 rfl rfl (GO.ldBox (j := 0) HS rfl rfl rfl rfl na2 rfl (GO.neq rfl rfl rfl rfl (GO.nil ?_))))))))
    rcases ite_elim H with ⟨c7, H⟩ | ⟨c7, H⟩
    ·
     refine G.noB rfl (congrArg Bool.not (decide_eq_true c7)) (G.run 3 rfl ?_)
     obtain rfl := Option.some.inj H
     exact G.ret1 _ func226 rfl rfl ⟨rfl, (HS.pk 2 [] rfl)⟩
    refine G.yesB rfl (congrArg Bool.not (decide_eq_false c7)) (G.run 2 rfl ?_)
    obtain rfl := Option.some.inj H
    exact G.ret1 _ func226 rfl rfl ⟨rfl, (HS.pk 2 [] rfl)⟩
   refine G.yesB rfl (congrArg Bool.not (decide_eq_false c6)) (G.run 2 rfl ?_)
   obtain rfl := Option.some.inj H
   exact G.ret1 _ func226 rfl rfl ⟨rfl, (HS.pk 2 [] rfl)⟩
  refine G.yesB rfl (congrArg Bool.not (decide_eq_false c5)) (G.run 2 rfl ?_)
  obtain rfl := Option.some.inj H
  exact G.ret1 _ func226 rfl rfl ⟨rfl, (HS.pk 2 [] rfl)⟩
theorem laws_eqMoveS.calls {w0 w : World} {L : List HObj} {K : Nat} {a_ b_ : List GMove} {A_a : Option Addr} {c_a : Nat} {A_b : Option Addr} {c_b : Nat} {r1 : Bool} (HS : St w0 w (L)) (r_a : RdIn w0 L T_GMove A_a c_a (fun _ => ()) a_) (r_b : RdIn w0 L T_GMove A_b c_b (fun _ => ()) b_) (H : laws_eqMoveS.f K a_ b_ = some r1) :
    Calls prog 155 #[.slice A_a a_.length c_a, .slice A_b b_.length c_b] w (laws_eqMoveS.post w0 L r1) := by
  unfold laws_eqMoveS.f at H
  refine Calls.of_G func155 rfl rfl rfl ?_
  refine G.run 4 rfl (G.region (GO.move rfl rfl rfl (GO.lenS rfl rfl underlying45 rfl (GO.move rfl rfl rfl (GO.lenS rfl rfl underlying45 rfl (GO.neq rfl rfl rfl rfl (GO.nil ?_)))))))
  rcases ite_elim H with ⟨c1, H⟩ | ⟨c1, H⟩
  ·
   refine G.noB rfl (congrArg Bool.not (decide_eq_true c1)) (G.run 6 rfl ?_)
   refine G.name (fun k_l1 hk_l1 => ?_)
   have at_l1 : ∀ m_l1, m_l1 ≤ K → ∀ (i_14 : Int) (w : World), laws_eqMoveS.l1 K m_l1 a_ b_ i_14 = some r1 → St w0 w (L) → G prog 155 27 [(0, .slice A_a a_.length c_a), (1, .slice A_b b_.length c_b), (5, .int .i64 i_14)] k_l1 w (laws_eqMoveS.post w0 L r1) := by
    intro m_l1
    induction m_l1 using Nat.strongRecOn with
    | _ m_l1 ih_l1 =>
     intro hm_l1 i_14 w H HS
     cases m_l1 with
     | zero => rw [laws_eqMoveS.l1] at H; cases H
     | succ n_l1 =>
      rw [laws_eqMoveS.l1] at H
      subst hk_l1
      refine G.run 2 rfl (G.region (GO.ps 2 rfl (GO.lenS rfl rfl underlying45 rfl (GO.lss rfl rfl rfl rfl (GO.nil ?_)))))
      rcases ite_elim H with ⟨c27, H⟩ | ⟨c27, H⟩
      ·
       refine G.yesB rfl (decide_eq_true c27) (G.run 4 rfl ?_)
       obtain ⟨c28, H⟩ := ite_none H
       obtain ⟨e29, h30, H⟩ := bnd_elim H
       obtain ⟨c31, H⟩ := ite_none H
       obtain ⟨e32, h33, H⟩ := bnd_elim H
       obtain ⟨t34, h35, H⟩ := Option.bind_eq_some_iff.1 H
       refine G.lex mixed [0, 1, 2, 4, 5, 6, 3, 7, 8, 9] (by kernel_rfl) ?_
       replace HS := HS.drew
       refine GX.ps 2 rfl (GX.l0 rfl rfl (fun _ _ g => GO.ix rfl rfl rfl underlying45 sz176 (r_a _ HS).2.2.1 c28.1 c28.2 rfl g) rfl (GX.ps 2 rfl (GX.l0 rfl rfl (fun _ _ g => GO.ix rfl rfl rfl underlying45 sz176 (r_b _ HS).2.2.1 c31.1 c31.2 rfl g) rfl (GX.l1 rfl rfl rfl (fun _ g => GO.ldRdA (T := T_GMove) (n := i_14.toNat) HS r_a rfl rfl (getD_eq (ltN c28) h30) ag176 rfl g) rfl (GX.l1 rfl rfl rfl (fun _ g => GO.ldRdA (T := T_GMove) (n := i_14.toNat) HS r_b rfl rfl (getD_eq (ltN c31) h33) ag176 rfl g) rfl (GX.l2 rfl (GO.fn rfl func226 fok226.1 fok226.2 rfl rfl (laws_eqMove.calls HS  h35) (fun _ wd36 ⟨h37, HS⟩ => ⟨_, h37, (GX.fin trivial (GX.ps 1 rfl (GX.nil ?_)))⟩))))))))
       rcases ite_elim H with ⟨c38, H⟩ | ⟨c38, H⟩
       ·
        refine G.noB rfl (congrArg Bool.not c38) (G.run 4 rfl (G.weak ?_ (ih_l1 n_l1 (Nat.lt_succ_of_le (Nat.le_refl _)) (Nat.le_of_succ_le hm_l1) _ _ H HS)))
        exact ⟨rfl, rfl, rfl, trivial⟩
       refine G.yesB rfl (congrArg Bool.not (bnot_of c38)) (G.run 2 rfl ?_)
       obtain rfl := Option.some.inj H
       exact G.ret1 _ func155 rfl rfl ⟨rfl, HS⟩
      refine G.noB rfl (decide_eq_false c27) (G.run 3 rfl ?_)
      obtain rfl := Option.some.inj H
      exact G.ret1 _ func155 rfl rfl ⟨rfl, HS⟩
   refine G.weak ?_ (at_l1 K (Nat.le_refl _) _ _ H HS)
   exact ⟨rfl, rfl, rfl, trivial⟩
  refine G.yesB rfl (congrArg Bool.not (decide_eq_false c1)) (G.run 2 rfl ?_)
  obtain rfl := Option.some.inj H
  exact G.ret1 _ func155 rfl rfl ⟨rfl, HS⟩
end Go.Proofs.YtgkcddpgmmmblaaGreatDoor
