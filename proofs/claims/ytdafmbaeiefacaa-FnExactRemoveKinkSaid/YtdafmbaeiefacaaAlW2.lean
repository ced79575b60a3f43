/-
  The walks through the functions: a call comes to what its list function says.
-/
import Derived.Test.YtdafmbaeiefacaaAlF
import Derived.Test.YtdafmbaeiefacaaAlW1
set_option linter.unusedVariables false
set_option linter.unusedSimpArgs false
namespace Go.Proofs.Ytdafmbaeiefacaa
open Go.RowKit
set_option maxRecDepth 20000 in
set_option maxHeartbeats 40000000 in
theorem spec_l27Remove.calls {w0 w : World} {L : List HObj} {K : Nat} {d_Crossings : List GCrossing} {d_Circles : Int} {gone : List Bool} {A_d_Crossings : Option Addr} {c_d_Crossings : Nat} {A_gone : Option Addr} {c_gone : Nat} {r1 : List GCrossing} {r2 : Int} {r3 : Int} (HS : St w0 w (L)) (h_d_Crossings : RdIn w0 L T_GCrossing A_d_Crossings c_d_Crossings (fun _ => ()) d_Crossings) (h_gone : RdIn w0 L TBool A_gone c_gone (fun _ => ()) gone) (H : spec_l27Remove.f K d_Crossings d_Circles gone = some (r1, r2, r3)) :
    Calls Try.prog 79 #[.agg [.slice A_d_Crossings d_Crossings.length c_d_Crossings, .int .i64 d_Circles].toArray, .slice A_gone gone.length c_gone] w (spec_l27Remove.post w0 L d_Crossings d_Circles gone A_d_Crossings c_d_Crossings A_gone c_gone r1 r2 r3) := by
  unfold spec_l27Remove.f at H
  refine Calls.of_G Try.func79 rfl rfl rfl ?_
  refine G.seq ?_
  refine G.region ?_
  refine GO.box (cs := [.slice A_d_Crossings d_Crossings.length c_d_Crossings, .int .i64 d_Circles]) HS rfl rfl rfl rfl ?_; intro b1 wd2 HS
  refine GO.alloc HS rfl zr28 rfl rfl ?_; intro b3 wd4 HS
  refine GO.assign rfl rfl rfl ?_
  refine GO.nil ?_
  refine G.seq ?_
  refine G.region ?_
  refine GO.buildS (el := 2) ([]) HS rfl rfl (fun _ => by kernel_rfl) rfl ?_; intro b5 wd6 HS
  replace HS := HS.boxRow (T := (TInt .i64)) (j := 0) rfl flat_flat (fun _ => ()) ([] : List Int) rfl (bndL rfl)
  refine GO.lenC (t := 9) (m := ([] : List Int).length) (c' := ([] : List Int).length) rfl rfl rfl ?_
  refine GO.assign rfl rfl rfl ?_
  refine GO.nil ?_
  refine G.seq ?_
  refine G.seq ?_
  refine G.region ?_
  refine GO.assign rfl rfl rfl ?_
  refine GO.nil ?_
  refine G.block ?_
  refine G.loop ?_
  refine G.name (fun k_l1 hk_l1 => ?_)
  have at_l1 : ∀ m_l1, m_l1 ≤ K → ∀ (A31 : Option Addr) (c32 : Nat) (next_33 : List Int) (a_34 : Int) (w : World), spec_l27Remove.l1 K m_l1 d_Crossings d_Circles gone next_33 a_34 = some (r1, r2, r3) → St w0 w (Box b1 28 [.slice A_d_Crossings d_Crossings.length c_d_Crossings, .int .i64 d_Circles] :: Box b3 28 [.slice none 0 0, .int .i64 0] :: Own (TInt .i64) 2 A31 c32 (fun _ => ()) next_33 :: L) → G Try.prog 79 33 [(1, .slice A_gone gone.length c_gone), (2, .pointer (some ⟨b1, 0, none⟩)), (4, .pointer (some ⟨b3, 0, none⟩)), (6, .slice A31 next_33.length c32), (7, .int .i64 a_34)] k_l1 w (spec_l27Remove.post w0 L d_Crossings d_Circles gone A_d_Crossings c_d_Crossings A_gone c_gone r1 r2 r3) := by
   intro m_l1
   induction m_l1 using Nat.strongRecOn with
   | _ m_l1 ih_l1 =>
    intro hm_l1 A31 c32 next_33 a_34 w H HS
    cases m_l1 with
    | zero => rw [spec_l27Remove.l1] at H; cases H
    | succ n_l1 =>
     rw [spec_l27Remove.l1] at H
     subst hk_l1
     refine G.seq ?_
     refine G.seq ?_
     refine G.region ?_
     refine GO.move rfl rfl rfl ?_
     refine GO.fld (⟨b1, 0, none⟩) rfl rfl fl28_0 rfl rfl ?_
     refine GO.ldBox (j := 0) HS rfl rfl rfl rfl na26 rfl ?_
     refine GO.lenS rfl rfl Try.underlying26 rfl ?_
     refine GO.mul rfl rfl rfl rfl ?_
     refine GO.lss rfl rfl rfl rfl ?_
     refine GO.nil ?_
     rcases ite_elim H with ⟨c59, H⟩ | ⟨c59, H⟩
     ·
      refine G.yesB rfl (decide_eq_true c59) ?_
      refine G.skip ?_
      refine G.seq ?_
      refine G.block ?_
      obtain ⟨t60, h61, H⟩ := Option.bind_eq_some_iff.1 H
      obtain ⟨c69, H⟩ := ite_none H
      refine G.region ?_
      refine GO.move rfl rfl rfl ?_
      refine GO.ldBoxA (j := 0) ([.slice A_d_Crossings d_Crossings.length c_d_Crossings, .int .i64 d_Circles]) HS rfl rfl rfl rfl ag28 rfl ?_
      refine GO.move rfl rfl rfl ?_
      refine GO.fn rfl Try.func127 fok127.1 fok127.2 rfl rfl (spec_l25Next.calls HS (RdIn.drop 3 h_d_Crossings) h61) (fun _ wd62 ⟨h63, HS⟩ => ⟨_, h63, ?_⟩)
      refine GO.buildS (el := 2) ([.int .i64 t60]) HS rfl rfl (fun _ => by kernel_rfl) rfl ?_; intro b64 wd65 HS
      refine GO.app1 (T := (TInt .i64)) (j := 3) (jb := 0) t60 HS rfl rfl flat_flat rfl rfl rfl Try.underlying43 inf2 rfl rfl rfl c69 rfl ?_; intro A67 c68 wd66 HS
      refine GO.assign rfl rfl rfl ?_
      refine GO.nil ?_
      refine G.blockEnd ?_
      refine G.region ?_
      refine GO.move rfl rfl rfl ?_
      refine GO.add rfl rfl rfl rfl ?_
      refine GO.assign rfl rfl rfl ?_
      refine GO.nil ?_
      refine G.again ?_
      refine G.weak ?_ (ih_l1 n_l1 (Nat.lt_succ_of_le (Nat.le_refl _)) (Nat.le_of_succ_le hm_l1) _ _ _ _ _ H (HS.pk 4 [1, 2, 3] rfl))
      exact ⟨rfl, rfl, rfl, rfl, rfl, trivial⟩
     ·
      refine G.noB rfl (decide_eq_false c59) ?_
      refine G.exit rfl ?_
      refine G.seq ?_
      obtain ⟨t70, t71, h72, H⟩ := bind2_elim H
      refine G.region ?_
      refine GO.ldBoxA (j := 0) ([.slice A_d_Crossings d_Crossings.length c_d_Crossings, .int .i64 d_Circles]) HS rfl rfl rfl rfl ag28 rfl ?_
      refine GO.move rfl rfl rfl ?_
      refine GO.move rfl rfl rfl ?_
      refine GO.fn rfl Try.func64 fok64.1 fok64.2 rfl rfl (spec_l28Unite.calls HS (RdIn.drop 3 h_d_Crossings) (RdIn.drop 3 h_gone) (RdIn.own (j := 2) rfl) h72) (fun _ wd75 ⟨A73, c74, h76, HS⟩ => ⟨_, h76, ?_⟩)
      refine GO.alloc HS rfl zr28 rfl rfl ?_; intro b77 wd78 HS
      refine GO.stBox (j := 0) (vs := [.slice A73 t70.length c74, .int .i64 t71]) ([.slice A73 t70.length c74, .int .i64 t71]) HS rfl rfl rfl rfl rfl (htA ag28) rfl rfl rfl ?_; intro wd79 HS
      refine GO.nil ?_
      refine G.seq ?_
      refine G.seq ?_
      refine G.region ?_
      refine GO.fld (⟨b77, 1, none⟩) rfl rfl fl28_1 rfl rfl ?_
      refine GO.ldBox (j := 0) HS rfl rfl rfl rfl na2 rfl ?_
      refine GO.gtr rfl rfl rfl rfl ?_
      refine GO.nil ?_
      rcases ite_elim H with ⟨c80, H⟩ | ⟨c80, H⟩
      ·
       refine G.yesB rfl (decide_eq_true c80) ?_
       refine G.seq ?_
       refine G.region ?_
       refine GO.buildV (.agg [.slice none 0 0, .int .i64 0].toArray) rfl rfl (fun _ => by kernel_rfl) rfl ?_
       refine GO.stBox (j := 3) (vs := [.slice none 0 0, .int .i64 0]) ([.slice none 0 0, .int .i64 0]) HS rfl rfl rfl rfl rfl (htA ag28) rfl rfl rfl ?_; intro wd81 HS
       refine GO.assign rfl rfl rfl ?_
       refine GO.nil ?_
       replace HS := HS.nilRow T_GCrossing 58 (fun _ => ())
       obtain ⟨rfl, rfl, rfl⟩ := some3 H
       exact G.ret2 _ _ Try.func79 rfl (Res1.boxA (j := 4) (vs := [.slice none 0 0, .int .i64 0]) HS rfl rfl rfl ag28) rfl ⟨_, _, rfl, (HS.pk 6 [0] rfl)⟩
      ·
       refine G.noB rfl (decide_eq_false c80) ?_
       refine G.skip ?_
       refine G.seq ?_
       refine G.region ?_
       refine GO.ldBoxA (j := 0) ([.slice A73 t70.length c74, .int .i64 t71]) HS rfl rfl rfl rfl ag28 rfl ?_
       refine GO.stBox (j := 3) (vs := [.slice A73 t70.length c74, .int .i64 t71]) ([.slice A73 t70.length c74, .int .i64 t71]) HS rfl rfl rfl rfl rfl (htA ag28) rfl rfl rfl ?_; intro wd82 HS
       refine GO.assign rfl rfl rfl ?_
       refine GO.nil ?_
       obtain ⟨rfl, rfl, rfl⟩ := some3 H
       exact G.ret2 _ _ Try.func79 rfl (Res1.boxA (j := 3) (vs := [.slice A73 t70.length c74, .int .i64 t71]) HS rfl rfl rfl ag28) rfl ⟨_, _, rfl, (HS.pk 5 [1] rfl)⟩
  refine G.weak ?_ (at_l1 K (Nat.le_refl _) _ _ _ _ _ H (HS.pk 3 [2, 1, 0] rfl))
  exact ⟨rfl, rfl, rfl, rfl, rfl, trivial⟩

set_option maxRecDepth 20000 in
set_option maxHeartbeats 40000000 in
theorem spec_RemoveKink.calls {w0 w : World} {L : List HObj} {K : Nat} {d_Crossings : List GCrossing} {d_Circles : Int} {c : Int} {A_d_Crossings : Option Addr} {c_d_Crossings : Nat} {r1 : List GCrossing} {r2 : Int} {r3 : Int} (HS : St w0 w (L)) (h_d_Crossings : RdIn w0 L T_GCrossing A_d_Crossings c_d_Crossings (fun _ => ()) d_Crossings) (H : spec_RemoveKink.f K d_Crossings d_Circles c = some (r1, r2, r3)) :
    Calls Try.prog 31 #[.agg [.slice A_d_Crossings d_Crossings.length c_d_Crossings, .int .i64 d_Circles].toArray, .int .i64 c] w (spec_RemoveKink.post w0 L d_Crossings d_Circles c A_d_Crossings c_d_Crossings r1 r2 r3) := by
  unfold spec_RemoveKink.f at H
  refine Calls.of_G Try.func31 rfl rfl rfl ?_
  refine G.seq ?_
  refine G.region ?_
  refine GO.box (cs := [.slice A_d_Crossings d_Crossings.length c_d_Crossings, .int .i64 d_Circles]) HS rfl rfl rfl rfl ?_; intro b1 wd2 HS
  refine GO.alloc HS rfl zr28 rfl rfl ?_; intro b3 wd4 HS
  refine GO.assign rfl rfl rfl ?_
  refine GO.nil ?_
  refine G.seq ?_
  refine G.seq ?_
  obtain ⟨t5, h6, H⟩ := Option.bind_eq_some_iff.1 H
  refine G.region ?_
  refine GO.ldBoxA (j := 1) ([.slice A_d_Crossings d_Crossings.length c_d_Crossings, .int .i64 d_Circles]) HS rfl rfl rfl rfl ag28 rfl ?_
  refine GO.fn rfl Try.func40 fok40.1 fok40.2 rfl rfl (spec_IsDiagram.calls HS (RdIn.drop 2 h_d_Crossings) h6) (fun _ wd7 ⟨h8, HS⟩ => ⟨_, h8, ?_⟩)
  refine GO.not rfl rfl rfl ?_
  refine GO.nil ?_
  rcases ite_elim H with ⟨c9, H⟩ | ⟨c9, H⟩
  ·
   refine G.noB rfl (congrArg Bool.not c9) ?_
   refine G.skip ?_
   refine G.seq ?_
   refine G.seq ?_
   obtain ⟨t10, h11, H⟩ := Option.bind_eq_some_iff.1 H
   refine G.region ?_
   refine GO.move rfl rfl rfl ?_
   refine GO.fld (⟨b1, 0, none⟩) rfl rfl fl28_0 rfl rfl ?_
   refine GO.ldBox (j := 1) HS rfl rfl rfl rfl na26 rfl ?_
   refine GO.lenS rfl rfl Try.underlying26 rfl ?_
   refine GO.sub rfl rfl rfl rfl ?_
   refine GO.fn rfl Try.func41 fok41.1 fok41.2 rfl rfl (spec_l01In.calls HS  h11) (fun _ wd12 ⟨h13, HS⟩ => ⟨_, h13, ?_⟩)
   refine GO.not rfl rfl rfl ?_
   refine GO.nil ?_
   rcases ite_elim H with ⟨c14, H⟩ | ⟨c14, H⟩
   ·
    refine G.noB rfl (congrArg Bool.not c14) ?_
    refine G.skip ?_
    refine G.seq ?_
    obtain ⟨c15, H⟩ := ite_none H
    obtain ⟨e16, h17, H⟩ := bnd_elim H
    refine G.region ?_
    refine GO.fld (⟨b1, 0, none⟩) rfl rfl fl28_0 rfl rfl ?_
    refine GO.ldBox (j := 1) HS rfl rfl rfl rfl na26 rfl ?_
    refine GO.move rfl rfl rfl ?_
    refine GO.ix rfl rfl rfl Try.underlying26 sz58 ((RdIn.drop 2 h_d_Crossings) _ HS).2.2.1 c15.1 c15.2 rfl ?_
    refine GO.ldRdA (T := T_GCrossing) (n := c.toNat) HS (RdIn.drop 2 h_d_Crossings) rfl rfl (getD_eq (ltN c15) h17) ag58 rfl ?_
    refine GO.alloc HS rfl zr58 rfl rfl ?_; intro b18 wd19 HS
    refine GO.stBox (j := 0) (vs := [.int .i64 e16.A, .int .i64 e16.B, .int .i64 e16.C, .int .i64 e16.D, .int .i64 e16.Sign]) ([.int .i64 e16.A, .int .i64 e16.B, .int .i64 e16.C, .int .i64 e16.D, .int .i64 e16.Sign]) HS rfl rfl rfl rfl rfl (htA ag58) rfl rfl rfl ?_; intro wd20 HS
    refine GO.nil ?_
    refine G.seq ?_
    refine G.seq ?_
    refine G.nameT (fun k_j1 hk_j1 => ?_)
    have at_j1 : ∀ m_j1, m_j1 ≤ K → ∀ (x27 : Bool) (w : World), spec_RemoveKink.j1 K m_j1 d_Crossings d_Circles c x27 = some (r1, r2, r3) → St w0 w (Box b1 28 [.slice A_d_Crossings d_Crossings.length c_d_Crossings, .int .i64 d_Circles] :: Box b3 28 [.slice none 0 0, .int .i64 0] :: L) → G Try.prog 31 64 [(1, .int .i64 c), (2, .pointer (some ⟨b1, 0, none⟩)), (4, .pointer (some ⟨b3, 0, none⟩)), (50, .bool x27)] k_j1 w (spec_RemoveKink.post w0 L d_Crossings d_Circles c A_d_Crossings c_d_Crossings r1 r2 r3) := by
     intro m_j1 hm_j1 x27 w H HS
     cases m_j1 with
     | zero => rw [spec_RemoveKink.j1] at H; cases H
     | succ n_j1 =>
      rw [spec_RemoveKink.j1] at H
      subst hk_j1
      rcases ite_elim H with ⟨c28, H⟩ | ⟨c28, H⟩
      ·
       refine G.yesB rfl c28 ?_
       refine G.seq ?_
       refine G.region ?_
       refine GO.buildV (.agg [.slice none 0 0, .int .i64 0].toArray) rfl rfl (fun _ => by kernel_rfl) rfl ?_
       refine GO.stBox (j := 1) (vs := [.slice none 0 0, .int .i64 0]) ([.slice none 0 0, .int .i64 0]) HS rfl rfl rfl rfl rfl (htA ag28) rfl rfl rfl ?_; intro wd29 HS
       refine GO.assign rfl rfl rfl ?_
       refine GO.nil ?_
       replace HS := HS.nilRow T_GCrossing 58 (fun _ => ())
       obtain ⟨rfl, rfl, rfl⟩ := some3 H
       exact G.ret2 _ _ Try.func31 rfl (Res1.boxA (j := 2) (vs := [.slice none 0 0, .int .i64 0]) HS rfl rfl rfl ag28) rfl ⟨_, _, rfl, (HS.pk 3 [0] rfl)⟩
      ·
       refine G.noB rfl (bnot_of c28) ?_
       refine G.skip ?_
       refine G.seq ?_
       obtain ⟨c30, H⟩ := ite_none H
       obtain ⟨c31, H⟩ := ite_none H
       refine G.region ?_
       refine GO.fld (⟨b1, 0, none⟩) rfl rfl fl28_0 rfl rfl ?_
       refine GO.ldBox (j := 0) HS rfl rfl rfl rfl na26 rfl ?_
       refine GO.lenS rfl rfl Try.underlying26 rfl ?_
       refine GO.make (T := TBool) false () HS flat_flat rfl rfl rfl Try.underlying83 inf4 rfl rfl rfl c30 c31 rfl ?_; intro b32 wd33 HS
       refine GO.assign rfl rfl rfl ?_
       refine GO.nil ?_
       refine G.seq ?_
       obtain ⟨c34, H⟩ := ite_none H
       refine G.region ?_
       refine GO.move rfl rfl rfl ?_
       refine GO.move rfl rfl rfl ?_
       refine GO.ix rfl rfl rfl Try.underlying83 sz4 (fun _ => ⟨_, _, rfl⟩) c34.1 c34.2 rfl ?_
       refine GO.stRow (T := TBool) (j := 0) (n := c.toNat) (o := 0) (vs := [.bool true]) true HS rfl flat_flat rfl rfl rfl rfl (htN na4 rfl) rfl (getD_some (d := false) (ltN c34)) rfl rfl ?_; intro wd35 HS
       refine GO.nil ?_
       refine G.len (t := 7) (m := ((List.replicate (d_Crossings.length : Int).toNat false).set c.toNat true).length) rfl (by simp only [List.length_set] <;> rfl) ?_
       refine G.seq ?_
       obtain ⟨t36, t37, t38, h39, H⟩ := bind3_elim H
       refine G.region ?_
       refine GO.ldBoxA (j := 1) ([.slice A_d_Crossings d_Crossings.length c_d_Crossings, .int .i64 d_Circles]) HS rfl rfl rfl rfl ag28 rfl ?_
       refine GO.move rfl rfl rfl ?_
       refine GO.fn rfl Try.func79 fok79.1 fok79.2 rfl rfl (spec_l27Remove.calls HS (RdIn.drop 3 h_d_Crossings) (RdIn.own (j := 0) rfl) h39) (fun _ wd42 ⟨A40, c41, h43, HS⟩ => ⟨_, h43, ?_⟩)
       refine GO.extract rfl rfl rfl rfl ?_
       refine GO.extract rfl rfl rfl rfl ?_
       refine GO.stBox (j := 3) (vs := [.slice A40 t36.length c41, .int .i64 t37]) ([.slice A40 t36.length c41, .int .i64 t37]) HS rfl rfl rfl rfl rfl (htA ag28) rfl rfl rfl ?_; intro wd44 HS
       refine GO.assign rfl rfl rfl ?_
       refine GO.nil ?_
       obtain ⟨rfl, rfl, rfl⟩ := some3 H
       exact G.ret2 _ _ Try.func31 rfl (Res1.boxA (j := 3) (vs := [.slice A40 t36.length c41, .int .i64 t37]) HS rfl rfl rfl ag28) rfl ⟨_, _, rfl, (HS.pk 4 [0] rfl)⟩
    rcases ite_elim H with ⟨c45, H⟩ | ⟨c45, H⟩
    ·
     refine G.region ?_
     refine GO.fld (⟨b18, 0, none⟩) rfl rfl fl58_0 rfl rfl ?_
     refine GO.ldBox (j := 0) HS rfl rfl rfl rfl na2 rfl ?_
     refine GO.fld (⟨b18, 1, none⟩) rfl rfl fl58_1 rfl rfl ?_
     refine GO.ldBox (j := 0) HS rfl rfl rfl rfl na2 rfl ?_
     refine GO.neq rfl rfl rfl rfl ?_
     refine GO.move rfl rfl rfl ?_
     refine GO.known (t := 30) rfl (congrArg Bool.not (decide_eq_true c45)) ?_
     refine GO.off rfl rfl rfl rfl rfl rfl ?_
     refine GO.off rfl rfl rfl rfl rfl rfl ?_
     refine GO.off rfl rfl rfl rfl rfl rfl ?_
     refine GO.off rfl rfl rfl rfl rfl rfl ?_
     refine GO.off rfl rfl rfl rfl rfl rfl ?_
     refine GO.pickF rfl rfl rfl rfl rfl ?_
     refine GO.move rfl rfl rfl ?_
     refine GO.off rfl rfl rfl rfl rfl rfl ?_
     refine GO.off rfl rfl rfl rfl rfl rfl ?_
     refine GO.off rfl rfl rfl rfl rfl rfl ?_
     refine GO.off rfl rfl rfl rfl rfl rfl ?_
     refine GO.off rfl rfl rfl rfl rfl rfl ?_
     refine GO.pickF rfl rfl rfl rfl rfl ?_
     refine GO.move rfl rfl rfl ?_
     refine GO.off rfl rfl rfl rfl rfl rfl ?_
     refine GO.off rfl rfl rfl rfl rfl rfl ?_
     refine GO.off rfl rfl rfl rfl rfl rfl ?_
     refine GO.off rfl rfl rfl rfl rfl rfl ?_
     refine GO.off rfl rfl rfl rfl rfl rfl ?_
     refine GO.pickF rfl rfl rfl rfl rfl ?_
     refine GO.nil ?_
     refine G.weak ?_ (at_j1 K (Nat.le_refl _) _ _ H (HS.pk 3 [2, 1] rfl))
     exact ⟨rfl, rfl, rfl, rfl, trivial⟩
    ·
     rcases ite_elim H with ⟨c46, H⟩ | ⟨c46, H⟩
     ·
      refine G.region ?_
      refine GO.fld (⟨b18, 0, none⟩) rfl rfl fl58_0 rfl rfl ?_
      refine GO.ldBox (j := 0) HS rfl rfl rfl rfl na2 rfl ?_
      refine GO.fld (⟨b18, 1, none⟩) rfl rfl fl58_1 rfl rfl ?_
      refine GO.ldBox (j := 0) HS rfl rfl rfl rfl na2 rfl ?_
      refine GO.neq rfl rfl rfl rfl ?_
      refine GO.move rfl rfl rfl ?_
      refine GO.known (t := 30) rfl (congrArg Bool.not (decide_eq_false c45)) ?_
      refine GO.on rfl rfl rfl rfl ?_
      refine GO.fld (⟨b18, 1, none⟩) rfl rfl fl58_1 rfl rfl ?_
      refine GO.back ?_
      refine GO.on rfl rfl rfl rfl ?_
      refine GO.ldBox (j := 0) HS rfl rfl rfl rfl na2 rfl ?_
      refine GO.back ?_
      refine GO.on rfl rfl rfl rfl ?_
      refine GO.fld (⟨b18, 2, none⟩) rfl rfl fl58_2 rfl rfl ?_
      refine GO.back ?_
      refine GO.on rfl rfl rfl rfl ?_
      refine GO.ldBox (j := 0) HS rfl rfl rfl rfl na2 rfl ?_
      refine GO.back ?_
      refine GO.on rfl rfl rfl rfl ?_
      refine GO.neq rfl rfl rfl rfl ?_
      refine GO.back ?_
      refine GO.pickT rfl rfl rfl rfl rfl ?_
      refine GO.move rfl rfl rfl ?_
      refine GO.known (t := 37) rfl (congrArg Bool.not (decide_eq_true c46)) ?_
      refine GO.off rfl rfl rfl rfl rfl rfl ?_
      refine GO.off rfl rfl rfl rfl rfl rfl ?_
      refine GO.off rfl rfl rfl rfl rfl rfl ?_
      refine GO.off rfl rfl rfl rfl rfl rfl ?_
      refine GO.off rfl rfl rfl rfl rfl rfl ?_
      refine GO.pickF rfl rfl rfl rfl rfl ?_
      refine GO.move rfl rfl rfl ?_
      refine GO.off rfl rfl rfl rfl rfl rfl ?_
      refine GO.off rfl rfl rfl rfl rfl rfl ?_
      refine GO.off rfl rfl rfl rfl rfl rfl ?_
      refine GO.off rfl rfl rfl rfl rfl rfl ?_
      refine GO.off rfl rfl rfl rfl rfl rfl ?_
      refine GO.pickF rfl rfl rfl rfl rfl ?_
      refine GO.nil ?_
      refine G.weak ?_ (at_j1 K (Nat.le_refl _) _ _ H (HS.pk 3 [2, 1] rfl))
      exact ⟨rfl, rfl, rfl, rfl, trivial⟩
     ·
      rcases ite_elim H with ⟨c47, H⟩ | ⟨c47, H⟩
      ·
       refine G.region ?_
       refine GO.fld (⟨b18, 0, none⟩) rfl rfl fl58_0 rfl rfl ?_
       refine GO.ldBox (j := 0) HS rfl rfl rfl rfl na2 rfl ?_
       refine GO.fld (⟨b18, 1, none⟩) rfl rfl fl58_1 rfl rfl ?_
       refine GO.ldBox (j := 0) HS rfl rfl rfl rfl na2 rfl ?_
       refine GO.neq rfl rfl rfl rfl ?_
       refine GO.move rfl rfl rfl ?_
       refine GO.known (t := 30) rfl (congrArg Bool.not (decide_eq_false c45)) ?_
       refine GO.on rfl rfl rfl rfl ?_
       refine GO.fld (⟨b18, 1, none⟩) rfl rfl fl58_1 rfl rfl ?_
       refine GO.back ?_
       refine GO.on rfl rfl rfl rfl ?_
       refine GO.ldBox (j := 0) HS rfl rfl rfl rfl na2 rfl ?_
       refine GO.back ?_
       refine GO.on rfl rfl rfl rfl ?_
       refine GO.fld (⟨b18, 2, none⟩) rfl rfl fl58_2 rfl rfl ?_
       refine GO.back ?_
       refine GO.on rfl rfl rfl rfl ?_
       refine GO.ldBox (j := 0) HS rfl rfl rfl rfl na2 rfl ?_
       refine GO.back ?_
       refine GO.on rfl rfl rfl rfl ?_
       refine GO.neq rfl rfl rfl rfl ?_
       refine GO.back ?_
       refine GO.pickT rfl rfl rfl rfl rfl ?_
       refine GO.move rfl rfl rfl ?_
       refine GO.known (t := 37) rfl (congrArg Bool.not (decide_eq_false c46)) ?_
       refine GO.on rfl rfl rfl rfl ?_
       refine GO.fld (⟨b18, 2, none⟩) rfl rfl fl58_2 rfl rfl ?_
       refine GO.back ?_
       refine GO.on rfl rfl rfl rfl ?_
       refine GO.ldBox (j := 0) HS rfl rfl rfl rfl na2 rfl ?_
       refine GO.back ?_
       refine GO.on rfl rfl rfl rfl ?_
       refine GO.fld (⟨b18, 3, none⟩) rfl rfl fl58_3 rfl rfl ?_
       refine GO.back ?_
       refine GO.on rfl rfl rfl rfl ?_
       refine GO.ldBox (j := 0) HS rfl rfl rfl rfl na2 rfl ?_
       refine GO.back ?_
       refine GO.on rfl rfl rfl rfl ?_
       refine GO.neq rfl rfl rfl rfl ?_
       refine GO.back ?_
       refine GO.pickT rfl rfl rfl rfl rfl ?_
       refine GO.move rfl rfl rfl ?_
       refine GO.known (t := 44) rfl (congrArg Bool.not (decide_eq_true c47)) ?_
       refine GO.off rfl rfl rfl rfl rfl rfl ?_
       refine GO.off rfl rfl rfl rfl rfl rfl ?_
       refine GO.off rfl rfl rfl rfl rfl rfl ?_
       refine GO.off rfl rfl rfl rfl rfl rfl ?_
       refine GO.off rfl rfl rfl rfl rfl rfl ?_
       refine GO.pickF rfl rfl rfl rfl rfl ?_
       refine GO.nil ?_
       refine G.weak ?_ (at_j1 K (Nat.le_refl _) _ _ H (HS.pk 3 [2, 1] rfl))
       exact ⟨rfl, rfl, rfl, rfl, trivial⟩
      ·
       refine G.region ?_
       refine GO.fld (⟨b18, 0, none⟩) rfl rfl fl58_0 rfl rfl ?_
       refine GO.ldBox (j := 0) HS rfl rfl rfl rfl na2 rfl ?_
       refine GO.fld (⟨b18, 1, none⟩) rfl rfl fl58_1 rfl rfl ?_
       refine GO.ldBox (j := 0) HS rfl rfl rfl rfl na2 rfl ?_
       refine GO.neq rfl rfl rfl rfl ?_
       refine GO.move rfl rfl rfl ?_
       refine GO.known (t := 30) rfl (congrArg Bool.not (decide_eq_false c45)) ?_
       refine GO.on rfl rfl rfl rfl ?_
       refine GO.fld (⟨b18, 1, none⟩) rfl rfl fl58_1 rfl rfl ?_
       refine GO.back ?_
       refine GO.on rfl rfl rfl rfl ?_
       refine GO.ldBox (j := 0) HS rfl rfl rfl rfl na2 rfl ?_
       refine GO.back ?_
       refine GO.on rfl rfl rfl rfl ?_
       refine GO.fld (⟨b18, 2, none⟩) rfl rfl fl58_2 rfl rfl ?_
       refine GO.back ?_
       refine GO.on rfl rfl rfl rfl ?_
       refine GO.ldBox (j := 0) HS rfl rfl rfl rfl na2 rfl ?_
       refine GO.back ?_
       refine GO.on rfl rfl rfl rfl ?_
       refine GO.neq rfl rfl rfl rfl ?_
       refine GO.back ?_
       refine GO.pickT rfl rfl rfl rfl rfl ?_
       refine GO.move rfl rfl rfl ?_
       refine GO.known (t := 37) rfl (congrArg Bool.not (decide_eq_false c46)) ?_
       refine GO.on rfl rfl rfl rfl ?_
       refine GO.fld (⟨b18, 2, none⟩) rfl rfl fl58_2 rfl rfl ?_
       refine GO.back ?_
       refine GO.on rfl rfl rfl rfl ?_
       refine GO.ldBox (j := 0) HS rfl rfl rfl rfl na2 rfl ?_
       refine GO.back ?_
       refine GO.on rfl rfl rfl rfl ?_
       refine GO.fld (⟨b18, 3, none⟩) rfl rfl fl58_3 rfl rfl ?_
       refine GO.back ?_
       refine GO.on rfl rfl rfl rfl ?_
       refine GO.ldBox (j := 0) HS rfl rfl rfl rfl na2 rfl ?_
       refine GO.back ?_
       refine GO.on rfl rfl rfl rfl ?_
       refine GO.neq rfl rfl rfl rfl ?_
       refine GO.back ?_
       refine GO.pickT rfl rfl rfl rfl rfl ?_
       refine GO.move rfl rfl rfl ?_
       refine GO.known (t := 44) rfl (congrArg Bool.not (decide_eq_false c47)) ?_
       refine GO.on rfl rfl rfl rfl ?_
       refine GO.fld (⟨b18, 3, none⟩) rfl rfl fl58_3 rfl rfl ?_
       refine GO.back ?_
       refine GO.on rfl rfl rfl rfl ?_
       refine GO.ldBox (j := 0) HS rfl rfl rfl rfl na2 rfl ?_
       refine GO.back ?_
       refine GO.on rfl rfl rfl rfl ?_
       refine GO.fld (⟨b18, 0, none⟩) rfl rfl fl58_0 rfl rfl ?_
       refine GO.back ?_
       refine GO.on rfl rfl rfl rfl ?_
       refine GO.ldBox (j := 0) HS rfl rfl rfl rfl na2 rfl ?_
       refine GO.back ?_
       refine GO.on rfl rfl rfl rfl ?_
       refine GO.neq rfl rfl rfl rfl ?_
       refine GO.back ?_
       refine GO.pickT rfl rfl rfl rfl rfl ?_
       refine GO.nil ?_
       refine G.weak ?_ (at_j1 K (Nat.le_refl _) _ _ H (HS.pk 3 [2, 1] rfl))
       exact ⟨rfl, rfl, rfl, rfl, trivial⟩
   ·
    refine G.yesB rfl (congrArg Bool.not (bnot_of c14)) ?_
    refine G.seq ?_
    refine G.region ?_
    refine GO.buildV (.agg [.slice none 0 0, .int .i64 0].toArray) rfl rfl (fun _ => by kernel_rfl) rfl ?_
    refine GO.stBox (j := 0) (vs := [.slice none 0 0, .int .i64 0]) ([.slice none 0 0, .int .i64 0]) HS rfl rfl rfl rfl rfl (htA ag28) rfl rfl rfl ?_; intro wd48 HS
    refine GO.assign rfl rfl rfl ?_
    refine GO.nil ?_
    replace HS := HS.nilRow T_GCrossing 58 (fun _ => ())
    obtain ⟨rfl, rfl, rfl⟩ := some3 H
    exact G.ret2 _ _ Try.func31 rfl (Res1.boxA (j := 1) (vs := [.slice none 0 0, .int .i64 0]) HS rfl rfl rfl ag28) rfl ⟨_, _, rfl, (HS.pk 3 [0] rfl)⟩
  ·
   refine G.yesB rfl (congrArg Bool.not (bnot_of c9)) ?_
   refine G.seq ?_
   refine G.region ?_
   refine GO.buildV (.agg [.slice none 0 0, .int .i64 0].toArray) rfl rfl (fun _ => by kernel_rfl) rfl ?_
   refine GO.stBox (j := 0) (vs := [.slice none 0 0, .int .i64 0]) ([.slice none 0 0, .int .i64 0]) HS rfl rfl rfl rfl rfl (htA ag28) rfl rfl rfl ?_; intro wd49 HS
   refine GO.assign rfl rfl rfl ?_
   refine GO.nil ?_
   replace HS := HS.nilRow T_GCrossing 58 (fun _ => ())
   obtain ⟨rfl, rfl, rfl⟩ := some3 H
   exact G.ret2 _ _ Try.func31 rfl (Res1.boxA (j := 1) (vs := [.slice none 0 0, .int .i64 0]) HS rfl rfl rfl ag28) rfl ⟨_, _, rfl, (HS.pk 3 [0] rfl)⟩

set_option maxRecDepth 20000 in
set_option maxHeartbeats 40000000 in
theorem impl_size_impl_Crossing.calls {w0 w : World} {L : List HObj} {list : List GCrossing} {A_list : Option Addr} {c_list : Nat} {r1 : Int} (HS : St w0 w (L)) (h_list : RdIn w0 L T_GCrossing A_list c_list (fun _ => ()) list) (H : impl_size_impl_Crossing.f list = some r1) :
    Calls Try.prog 56 #[.slice A_list list.length c_list] w (impl_size_impl_Crossing.post w0 L list A_list c_list r1) := by
  unfold impl_size_impl_Crossing.f at H
  refine Calls.of_G Try.func56 rfl rfl rfl ?_
  refine G.seq ?_
  refine G.region ?_
  refine GO.assign rfl rfl rfl ?_
  refine GO.nil ?_
  refine G.seq ?_
  refine G.region ?_
  refine GO.move rfl rfl rfl ?_
  refine GO.lenS rfl rfl Try.underlying26 rfl ?_
  refine GO.assign rfl rfl rfl ?_
  refine GO.nil ?_
  obtain rfl := Option.some.inj H
  exact G.ret1 _ Try.func56 rfl rfl ⟨rfl, HS⟩

set_option maxRecDepth 20000 in
set_option maxHeartbeats 40000000 in
theorem impl_inRange.calls {w0 w : World} {L : List HObj} {x : Int} {low : Int} {high : Int} {r1 : Bool} (HS : St w0 w (L)) (H : impl_inRange.f x low high = some r1) :
    Calls Try.prog 47 #[.int .i64 x, .int .i64 low, .int .i64 high] w (impl_inRange.post w0 L x low high r1) := by
  unfold impl_inRange.f at H
  refine Calls.of_G Try.func47 rfl rfl rfl ?_
  refine G.seq ?_
  refine G.region ?_
  refine GO.assign rfl rfl rfl ?_
  refine GO.nil ?_
  refine G.seq ?_
  rcases ite_elim H with ⟨c1, H⟩ | ⟨c1, H⟩
  ·
   refine G.region ?_
   refine GO.move rfl rfl rfl ?_
   refine GO.move rfl rfl rfl ?_
   refine GO.leq rfl rfl rfl rfl ?_
   refine GO.move rfl rfl rfl ?_
   refine GO.known (t := 10) rfl (decide_eq_true c1) ?_
   refine GO.on rfl rfl rfl rfl ?_
   refine GO.move rfl rfl rfl ?_
   refine GO.back ?_
   refine GO.on rfl rfl rfl rfl ?_
   refine GO.move rfl rfl rfl ?_
   refine GO.back ?_
   refine GO.on rfl rfl rfl rfl ?_
   refine GO.leq rfl rfl rfl rfl ?_
   refine GO.back ?_
   refine GO.pickT rfl rfl rfl rfl rfl ?_
   refine GO.assign rfl rfl rfl ?_
   refine GO.nil ?_
   obtain rfl := Option.some.inj H
   exact G.ret1 _ Try.func47 rfl rfl ⟨rfl, HS⟩
  ·
   refine G.region ?_
   refine GO.move rfl rfl rfl ?_
   refine GO.move rfl rfl rfl ?_
   refine GO.leq rfl rfl rfl rfl ?_
   refine GO.move rfl rfl rfl ?_
   refine GO.known (t := 10) rfl (decide_eq_false c1) ?_
   refine GO.off rfl rfl rfl rfl rfl rfl ?_
   refine GO.off rfl rfl rfl rfl rfl rfl ?_
   refine GO.off rfl rfl rfl rfl rfl rfl ?_
   refine GO.pickF rfl rfl rfl rfl rfl ?_
   refine GO.assign rfl rfl rfl ?_
   refine GO.nil ?_
   obtain rfl := Option.some.inj H
   exact G.ret1 _ Try.func47 rfl rfl ⟨rfl, HS⟩

set_option maxRecDepth 20000 in
set_option maxHeartbeats 40000000 in
theorem impl_Diagram_drawing_fn1.calls {w0 w : World} {L : List HObj} {c_A : Int} {c_B : Int} {c_C : Int} {c_D : Int} {c_Sign : Int} {r1 : Bool} (HS : St w0 w (L)) (H : impl_Diagram_drawing_fn1.f c_A c_B c_C c_D c_Sign = some r1) :
    Calls Try.prog 109 #[.agg [.int .i64 c_A, .int .i64 c_B, .int .i64 c_C, .int .i64 c_D, .int .i64 c_Sign].toArray] w (impl_Diagram_drawing_fn1.post w0 L c_A c_B c_C c_D c_Sign r1) := by
  unfold impl_Diagram_drawing_fn1.f at H
  refine Calls.of_G Try.func109 rfl rfl rfl ?_
  refine G.seq ?_
  refine G.region ?_
  refine GO.box (cs := [.int .i64 c_A, .int .i64 c_B, .int .i64 c_C, .int .i64 c_D, .int .i64 c_Sign]) HS rfl rfl rfl rfl ?_; intro b1 wd2 HS
  refine GO.assign rfl rfl rfl ?_
  refine GO.nil ?_
  refine G.seq ?_
  rcases ite_elim H with ⟨c3, H⟩ | ⟨c3, H⟩
  ·
   refine G.region ?_
   refine GO.fld (⟨b1, 4, none⟩) rfl rfl fl58_4 rfl rfl ?_
   refine GO.ldBox (j := 0) HS rfl rfl rfl rfl na2 rfl ?_
   refine GO.neq rfl rfl rfl rfl ?_
   refine GO.move rfl rfl rfl ?_
   refine GO.known (t := 6) rfl (congrArg Bool.not (decide_eq_true c3)) ?_
   refine GO.off rfl rfl rfl rfl rfl rfl ?_
   refine GO.off rfl rfl rfl rfl rfl rfl ?_
   refine GO.off rfl rfl rfl rfl rfl rfl ?_
   refine GO.pickF rfl rfl rfl rfl rfl ?_
   refine GO.assign rfl rfl rfl ?_
   refine GO.nil ?_
   obtain rfl := Option.some.inj H
   exact G.ret1 _ Try.func109 rfl rfl ⟨rfl, (HS.pk 1 [] rfl)⟩
  ·
   refine G.region ?_
   refine GO.fld (⟨b1, 4, none⟩) rfl rfl fl58_4 rfl rfl ?_
   refine GO.ldBox (j := 0) HS rfl rfl rfl rfl na2 rfl ?_
   refine GO.neq rfl rfl rfl rfl ?_
   refine GO.move rfl rfl rfl ?_
   refine GO.known (t := 6) rfl (congrArg Bool.not (decide_eq_false c3)) ?_
   refine GO.on rfl rfl rfl rfl ?_
   refine GO.fld (⟨b1, 4, none⟩) rfl rfl fl58_4 rfl rfl ?_
   refine GO.back ?_
   refine GO.on rfl rfl rfl rfl ?_
   refine GO.ldBox (j := 0) HS rfl rfl rfl rfl na2 rfl ?_
   refine GO.back ?_
   refine GO.on rfl rfl rfl rfl ?_
   refine GO.neq rfl rfl rfl rfl ?_
   refine GO.back ?_
   refine GO.pickT rfl rfl rfl rfl rfl ?_
   refine GO.assign rfl rfl rfl ?_
   refine GO.nil ?_
   obtain rfl := Option.some.inj H
   exact G.ret1 _ Try.func109 rfl rfl ⟨rfl, (HS.pk 1 [] rfl)⟩

set_option maxRecDepth 20000 in
set_option maxHeartbeats 40000000 in
theorem slices_IndexFunc_impl_Crossing_impl_Crossing_109.calls {w0 w : World} {L : List HObj} {K : Nat} {s : List GCrossing} {A_s : Option Addr} {c_s : Nat} {r1 : Int} (HS : St w0 w (L)) (h_s : RdIn w0 L T_GCrossing A_s c_s (fun _ => ()) s) (H : slices_IndexFunc_impl_Crossing_impl_Crossing_109.f K s = some r1) :
    Calls Try.prog 160 #[.slice A_s s.length c_s, .func (.func 109) #[] #[]] w (slices_IndexFunc_impl_Crossing_impl_Crossing_109.post w0 L s A_s c_s r1) := by
  unfold slices_IndexFunc_impl_Crossing_impl_Crossing_109.f at H
  refine Calls.of_G Try.func160 rfl rfl rfl ?_
  refine G.seq ?_
  refine G.region ?_
  refine GO.assign rfl rfl rfl ?_
  refine GO.nil ?_
  refine G.seq ?_
  refine G.seq ?_
  refine G.region ?_
  refine GO.move rfl rfl rfl ?_
  refine GO.lenS rfl rfl Try.underlying26 rfl ?_
  refine GO.move rfl rfl rfl ?_
  refine GO.nil ?_
  refine G.block ?_
  refine G.loop ?_
  refine G.name (fun k_l1 hk_l1 => ?_)
  have at_l1 : ∀ m_l1, m_l1 ≤ K → ∀ (x10 : Int) (w : World), slices_IndexFunc_impl_Crossing_impl_Crossing_109.l1 K m_l1 s x10 = some r1 → St w0 w (L) → G Try.prog 160 19 [(0, .slice A_s s.length c_s), (1, .func (.func 109) #[] #[]), (7, .int .i64 (s.length : Int)), (8, .int .i64 x10)] k_l1 w (slices_IndexFunc_impl_Crossing_impl_Crossing_109.post w0 L s A_s c_s r1) := by
   intro m_l1
   induction m_l1 using Nat.strongRecOn with
   | _ m_l1 ih_l1 =>
    intro hm_l1 x10 w H HS
    cases m_l1 with
    | zero => rw [slices_IndexFunc_impl_Crossing_impl_Crossing_109.l1] at H; cases H
    | succ n_l1 =>
     rw [slices_IndexFunc_impl_Crossing_impl_Crossing_109.l1] at H
     subst hk_l1
     refine G.seq ?_
     refine G.region ?_
     refine GO.lss rfl rfl rfl rfl ?_
     refine GO.nil ?_
     refine G.seq ?_
     rcases ite_elim H with ⟨c20, H⟩ | ⟨c20, H⟩
     ·
      refine G.yesB rfl (decide_eq_true c20) ?_
      refine G.skip ?_
      refine G.seq ?_
      refine G.block ?_
      refine G.seq ?_
      refine G.region ?_
      refine GO.move rfl rfl rfl ?_
      refine GO.assign rfl rfl rfl ?_
      refine GO.nil ?_
      refine G.seq ?_
      obtain ⟨c21, H⟩ := ite_none H
      obtain ⟨e22, h23, H⟩ := bnd_elim H
      obtain ⟨t24, h25, H⟩ := Option.bind_eq_some_iff.1 H
      refine G.region ?_
      refine GO.move rfl rfl rfl ?_
      refine GO.move rfl rfl rfl ?_
      refine GO.move rfl rfl rfl ?_
      refine GO.ix rfl rfl rfl Try.underlying26 sz58 (h_s _ HS).2.2.1 c21.1 c21.2 rfl ?_
      refine GO.ldRdA (T := T_GCrossing) (n := x10.toNat) HS h_s rfl rfl (getD_eq (ltN c21) h23) ag58 rfl ?_
      refine GO.clo rfl rfl Try.func109 fok109.1 fok109.2 rfl rfl (impl_Diagram_drawing_fn1.calls HS  h25) (fun _ wd26 ⟨h27, HS⟩ => ⟨_, h27, ?_⟩)
      refine GO.nil ?_
      rcases ite_elim H with ⟨c28, H⟩ | ⟨c28, H⟩
      ·
       refine G.yesB rfl c28 ?_
       refine G.seq ?_
       refine G.region ?_
       refine GO.move rfl rfl rfl ?_
       refine GO.assign rfl rfl rfl ?_
       refine GO.nil ?_
       obtain rfl := Option.some.inj H
       exact G.ret1 _ Try.func160 rfl rfl ⟨rfl, HS⟩
      ·
       refine G.noB rfl (bnot_of c28) ?_
       refine G.skip ?_
       refine G.blockEnd ?_
       refine G.region ?_
       refine GO.add rfl rfl rfl rfl ?_
       refine GO.move rfl rfl rfl ?_
       refine GO.nil ?_
       refine G.again ?_
       refine G.weak ?_ (ih_l1 n_l1 (Nat.lt_succ_of_le (Nat.le_refl _)) (Nat.le_of_succ_le hm_l1) _ _ H HS)
       exact ⟨rfl, rfl, rfl, rfl, trivial⟩
     ·
      refine G.noB rfl (decide_eq_false c20) ?_
      refine G.exit rfl ?_
      refine G.seq ?_
      refine G.region ?_
      refine GO.assign rfl rfl rfl ?_
      refine GO.nil ?_
      obtain rfl := Option.some.inj H
      exact G.ret1 _ Try.func160 rfl rfl ⟨rfl, HS⟩
  refine G.weak ?_ (at_l1 K (Nat.le_refl _) _ _ H HS)
  exact ⟨rfl, rfl, rfl, rfl, trivial⟩

set_option maxRecDepth 20000 in
set_option maxHeartbeats 40000000 in
theorem slices_ContainsFunc_impl_Crossing_impl_Crossing_109.calls {w0 w : World} {L : List HObj} {K : Nat} {s : List GCrossing} {A_s : Option Addr} {c_s : Nat} {r1 : Bool} (HS : St w0 w (L)) (h_s : RdIn w0 L T_GCrossing A_s c_s (fun _ => ()) s) (H : slices_ContainsFunc_impl_Crossing_impl_Crossing_109.f K s = some r1) :
    Calls Try.prog 108 #[.slice A_s s.length c_s, .func (.func 109) #[] #[]] w (slices_ContainsFunc_impl_Crossing_impl_Crossing_109.post w0 L s A_s c_s r1) := by
  unfold slices_ContainsFunc_impl_Crossing_impl_Crossing_109.f at H
  refine Calls.of_G Try.func108 rfl rfl rfl ?_
  refine G.seq ?_
  refine G.region ?_
  refine GO.assign rfl rfl rfl ?_
  refine GO.nil ?_
  refine G.seq ?_
  obtain ⟨t1, h2, H⟩ := Option.bind_eq_some_iff.1 H
  refine G.region ?_
  refine GO.move rfl rfl rfl ?_
  refine GO.move rfl rfl rfl ?_
  refine GO.fn rfl Try.func160 fok160.1 fok160.2 rfl rfl (slices_IndexFunc_impl_Crossing_impl_Crossing_109.calls HS h_s h2) (fun _ wd3 ⟨h4, HS⟩ => ⟨_, h4, ?_⟩)
  refine GO.geq rfl rfl rfl rfl ?_
  refine GO.assign rfl rfl rfl ?_
  refine GO.nil ?_
  obtain rfl := Option.some.inj H
  exact G.ret1 _ Try.func108 rfl rfl ⟨rfl, HS⟩

set_option maxRecDepth 20000 in
set_option maxHeartbeats 40000000 in
theorem math_bits_Mul64.calls {w0 w : World} {L : List HObj} {x : Int} {y : Int} {r1 : Int} {r2 : Int} (HS : St w0 w (L)) (H : math_bits_Mul64.f x y = some (r1, r2)) :
    Calls Try.prog 179 #[.int .u64 x, .int .u64 y] w (math_bits_Mul64.post w0 L x y r1 r2) := by
  unfold math_bits_Mul64.f at H
  refine Calls.of_G Try.func179 rfl rfl rfl ?_
  refine G.seq ?_
  refine G.region ?_
  refine GO.assign rfl rfl rfl ?_
  refine GO.assign rfl rfl rfl ?_
  refine GO.nil ?_
  refine G.seq ?_
  refine G.region ?_
  refine GO.move rfl rfl rfl ?_
  refine GO.bits (by simp) rfl rfl rfl rfl ?_
  refine GO.assign rfl rfl rfl ?_
  refine GO.nil ?_
  refine G.seq ?_
  refine G.region ?_
  refine GO.move rfl rfl rfl ?_
  refine GO.shr rfl rfl rfl (by decide) (by decide) rfl ?_
  refine GO.assign rfl rfl rfl ?_
  refine GO.nil ?_
  refine G.seq ?_
  refine G.region ?_
  refine GO.move rfl rfl rfl ?_
  refine GO.bits (by simp) rfl rfl rfl rfl ?_
  refine GO.assign rfl rfl rfl ?_
  refine GO.nil ?_
  refine G.seq ?_
  refine G.region ?_
  refine GO.move rfl rfl rfl ?_
  refine GO.shr rfl rfl rfl (by decide) (by decide) rfl ?_
  refine GO.assign rfl rfl rfl ?_
  refine GO.nil ?_
  refine G.seq ?_
  refine G.region ?_
  refine GO.move rfl rfl rfl ?_
  refine GO.move rfl rfl rfl ?_
  refine GO.mul rfl rfl rfl rfl ?_
  refine GO.assign rfl rfl rfl ?_
  refine GO.nil ?_
  refine G.seq ?_
  refine G.region ?_
  refine GO.move rfl rfl rfl ?_
  refine GO.move rfl rfl rfl ?_
  refine GO.mul rfl rfl rfl rfl ?_
  refine GO.move rfl rfl rfl ?_
  refine GO.shr rfl rfl rfl (by decide) (by decide) rfl ?_
  refine GO.add rfl rfl rfl rfl ?_
  refine GO.assign rfl rfl rfl ?_
  refine GO.nil ?_
  refine G.seq ?_
  refine G.region ?_
  refine GO.move rfl rfl rfl ?_
  refine GO.bits (by simp) rfl rfl rfl rfl ?_
  refine GO.assign rfl rfl rfl ?_
  refine GO.nil ?_
  refine G.seq ?_
  refine G.region ?_
  refine GO.move rfl rfl rfl ?_
  refine GO.shr rfl rfl rfl (by decide) (by decide) rfl ?_
  refine GO.assign rfl rfl rfl ?_
  refine GO.nil ?_
  refine G.seq ?_
  refine G.region ?_
  refine GO.move rfl rfl rfl ?_
  refine GO.move rfl rfl rfl ?_
  refine GO.move rfl rfl rfl ?_
  refine GO.mul rfl rfl rfl rfl ?_
  refine GO.add rfl rfl rfl rfl ?_
  refine GO.assign rfl rfl rfl ?_
  refine GO.nil ?_
  refine G.seq ?_
  refine G.region ?_
  refine GO.move rfl rfl rfl ?_
  refine GO.move rfl rfl rfl ?_
  refine GO.mul rfl rfl rfl rfl ?_
  refine GO.move rfl rfl rfl ?_
  refine GO.add rfl rfl rfl rfl ?_
  refine GO.move rfl rfl rfl ?_
  refine GO.shr rfl rfl rfl (by decide) (by decide) rfl ?_
  refine GO.add rfl rfl rfl rfl ?_
  refine GO.assign rfl rfl rfl ?_
  refine GO.nil ?_
  refine G.seq ?_
  refine G.region ?_
  refine GO.move rfl rfl rfl ?_
  refine GO.move rfl rfl rfl ?_
  refine GO.mul rfl rfl rfl rfl ?_
  refine GO.assign rfl rfl rfl ?_
  refine GO.nil ?_
  obtain ⟨rfl, rfl⟩ := some2 H
  exact G.ret2 _ _ Try.func179 rfl rfl rfl ⟨rfl, HS⟩

set_option maxRecDepth 20000 in
set_option maxHeartbeats 40000000 in
theorem math_bits_Mul.calls {w0 w : World} {L : List HObj} {x : Int} {y : Int} {r1 : Int} {r2 : Int} (HS : St w0 w (L)) (H : math_bits_Mul.f x y = some (r1, r2)) :
    Calls Try.prog 162 #[.int .u64 x, .int .u64 y] w (math_bits_Mul.post w0 L x y r1 r2) := by
  unfold math_bits_Mul.f at H
  refine Calls.of_G Try.func162 rfl rfl rfl ?_
  refine G.seq ?_
  refine G.region ?_
  refine GO.assign rfl rfl rfl ?_
  refine GO.assign rfl rfl rfl ?_
  refine GO.nil ?_
  refine G.seq ?_
  refine G.noB rfl rfl ?_
  refine G.skip ?_
  refine G.seq ?_
  obtain ⟨t1, t2, h3, H⟩ := bind2_elim H
  refine G.region ?_
  refine GO.move rfl rfl rfl ?_
  refine GO.move rfl rfl rfl ?_
  refine GO.fn rfl Try.func179 fok179.1 fok179.2 rfl rfl (math_bits_Mul64.calls HS  h3) (fun _ wd4 ⟨h5, HS⟩ => ⟨_, h5, ?_⟩)
  refine GO.move rfl rfl rfl ?_
  refine GO.extract rfl rfl rfl rfl ?_
  refine GO.extract rfl rfl rfl rfl ?_
  refine GO.assign rfl rfl rfl ?_
  refine GO.assign rfl rfl rfl ?_
  refine GO.nil ?_
  refine G.seq ?_
  refine G.region ?_
  refine GO.move rfl rfl rfl ?_
  refine GO.move rfl rfl rfl ?_
  refine GO.assign rfl rfl rfl ?_
  refine GO.assign rfl rfl rfl ?_
  refine GO.nil ?_
  obtain ⟨rfl, rfl⟩ := some2 H
  exact G.ret2 _ _ Try.func162 rfl rfl rfl ⟨rfl, HS⟩

set_option maxRecDepth 20000 in
set_option maxHeartbeats 40000000 in
theorem slices_Repeat_impl_end_impl_end.calls {w0 w : World} {L : List HObj} {K : Nat} {x : List GEnd} {count : Int} {A_x : Option Addr} {c_x : Nat} {r1 : List GEnd} (HS : St w0 w (L)) (h_x : RdIn w0 L T_GEnd A_x c_x (fun _ => ()) x) (H : slices_Repeat_impl_end_impl_end.f K x count = some r1) :
    Calls Try.prog 116 #[.slice A_x x.length c_x, .int .i64 count] w (slices_Repeat_impl_end_impl_end.post w0 L x count A_x c_x r1) := by
  unfold slices_Repeat_impl_end_impl_end.f at H
  refine Calls.of_G Try.func116 rfl rfl rfl ?_
  refine G.seq ?_
  refine G.region ?_
  refine GO.assign rfl rfl rfl ?_
  refine GO.nil ?_
  refine G.seq ?_
  refine G.seq ?_
  refine G.region ?_
  refine GO.move rfl rfl rfl ?_
  refine GO.lss rfl rfl rfl rfl ?_
  refine GO.nil ?_
  rcases ite_elim H with ⟨c2, H⟩ | ⟨c2, H⟩
  ·
   refine G.yesB rfl (decide_eq_true c2) ?_
   cases H
  ·
   refine G.noB rfl (decide_eq_false c2) ?_
   refine G.skip ?_
   refine G.seq ?_
   obtain ⟨t3, t4, h5, H⟩ := bind2_elim H
   refine G.region ?_
   refine GO.move rfl rfl rfl ?_
   refine GO.lenS rfl rfl Try.underlying61 rfl ?_
   refine GO.conv rfl rfl Try.underlying3 Try.underlying156 rfl ?_
   refine GO.move rfl rfl rfl ?_
   refine GO.conv rfl rfl Try.underlying3 Try.underlying156 rfl ?_
   refine GO.fn rfl Try.func162 fok162.1 fok162.2 rfl rfl (math_bits_Mul.calls HS  h5) (fun _ wd6 ⟨h7, HS⟩ => ⟨_, h7, ?_⟩)
   refine GO.move rfl rfl rfl ?_
   refine GO.extract rfl rfl rfl rfl ?_
   refine GO.extract rfl rfl rfl rfl ?_
   refine GO.assign rfl rfl rfl ?_
   refine GO.assign rfl rfl rfl ?_
   refine GO.nil ?_
   refine G.seq ?_
   refine G.seq ?_
   refine G.nameT (fun k_j2 hk_j2 => ?_)
   have at_j2 : ∀ m_j2, m_j2 ≤ K → ∀ (x10 : Bool) (w : World), slices_Repeat_impl_end_impl_end.j2 K m_j2 x t4 x10 = some r1 → St w0 w (L) → G Try.prog 116 48 [(0, .slice A_x x.length c_x), (6, .int .u64 t4), (26, .bool x10)] k_j2 w (slices_Repeat_impl_end_impl_end.post w0 L x count A_x c_x r1) := by
    intro m_j2 hm_j2 x10 w H HS
    cases m_j2 with
    | zero => rw [slices_Repeat_impl_end_impl_end.j2] at H; cases H
    | succ n_j2 =>
     rw [slices_Repeat_impl_end_impl_end.j2] at H
     subst hk_j2
     rcases ite_elim H with ⟨c12, H⟩ | ⟨c12, H⟩
     ·
      refine G.yesB rfl c12 ?_
      cases H
     ·
      refine G.noB rfl (bnot_of c12) ?_
      refine G.skip ?_
      refine G.seq ?_
      obtain ⟨c13, H⟩ := ite_none H
      obtain ⟨c14, H⟩ := ite_none H
      refine G.region ?_
      refine GO.move rfl rfl rfl ?_
      refine GO.conv rfl rfl Try.underlying156 Try.underlying3 rfl ?_
      refine GO.make (T := T_GEnd) z_GEnd () HS flat_flat rfl rfl rfl Try.underlying61 inf68 rfl rfl rfl c13 c14 rfl ?_; intro b15 wd16 HS
      refine GO.assign rfl rfl rfl ?_
      refine GO.nil ?_
      refine G.seq ?_
      have h18 := over_len (xs := (List.replicate (w64 (t4)).toNat z_GEnd)) (ys := x) (Nat.le_of_eq (Nat.zero_add _))
      refine G.region ?_
      refine GO.move rfl rfl rfl ?_
      refine GO.move rfl rfl rfl ?_
      refine GO.copyP (T := T_GEnd) (j := 0) (l := 0) HS rfl (RdIn.drop 1 h_x) flat_flat rfl rfl rfl Try.underlying61 sz68 rfl wholeC (Nat.le_of_eq (Nat.zero_add _)) (fun _ _ => rfl) (fun _ => rfl) ?_; intro wd17 HS
      refine GO.assign rfl rfl rfl ?_
      refine GO.nil ?_
      refine G.len (t := 7) (m := (over (List.replicate (w64 (t4)).toNat z_GEnd) 0 (x.take ((List.replicate (w64 (t4)).toNat z_GEnd).length))).length) rfl (by simp only [List.length_set, h18] <;> rfl) ?_
      refine G.seq ?_
      refine G.block ?_
      refine G.loop ?_
      refine G.name (fun k_l4 hk_l4 => ?_)
      have at_l4 : ∀ m_l4, m_l4 ≤ n_j2 → ∀ (newslice_23 : List GEnd) (n_24 : Int) (w : World), slices_Repeat_impl_end_impl_end.l4 K m_l4 newslice_23 n_24 = some r1 → St w0 w (Own T_GEnd 68 (some ⟨b15, 0, none⟩) ((w64 (t4)).toNat) (fun _ => ()) newslice_23 :: L) → G Try.prog 116 48 [(7, .slice (some ⟨b15, 0, none⟩) newslice_23.length ((w64 (t4)).toNat)), (8, .int .i64 n_24)] k_l4 w (slices_Repeat_impl_end_impl_end.post w0 L x count A_x c_x r1) := by
       intro m_l4
       induction m_l4 using Nat.strongRecOn with
       | _ m_l4 ih_l4 =>
        intro hm_l4 newslice_23 n_24 w H HS
        cases m_l4 with
        | zero => rw [slices_Repeat_impl_end_impl_end.l4] at H; cases H
        | succ n_l4 =>
         rw [slices_Repeat_impl_end_impl_end.l4] at H
         subst hk_l4
         refine G.seq ?_
         refine G.seq ?_
         refine G.region ?_
         refine GO.move rfl rfl rfl ?_
         refine GO.move rfl rfl rfl ?_
         refine GO.lenS rfl rfl Try.underlying61 rfl ?_
         refine GO.lss rfl rfl rfl rfl ?_
         refine GO.nil ?_
         rcases ite_elim H with ⟨c29, H⟩ | ⟨c29, H⟩
         ·
          refine G.yesB rfl (decide_eq_true c29) ?_
          refine G.skip ?_
          refine G.block ?_
          obtain ⟨c30, H⟩ := ite_none H
          have h32 := over_len (xs := newslice_23) (ys := ((newslice_23.take n_24.toNat).drop 0)) (cutN (leN c30) (Nat.le_refl _))
          refine G.regionAny mixed (by decide) (fun b a w => ∃ (Y1_0 : Value) (Y2_1 : Value) (Y3_2 : Value) (Y4_3 : Value) (Y5_4 : Value) (Y6_5 : Value) (Y7_6 : Value) (Y8_7 : Value) (Y9_8 : Value) (Y10_9 : Value) (O11_2 : HObj), Sat 48 [(8, Y10_9), (38, Y1_0), (39, Y2_1), (40, Y3_2), (41, Y4_3), (42, Y5_4), (43, Y6_5), (44, Y7_6), (45, Y8_7), (46, Y9_8), (7, .slice (some ⟨b15, 0, none⟩) newslice_23.length ((w64 (t4)).toNat))] a ∧ St w0 w (O11_2 :: L) ∧ (b 9 = true → Y10_9 = (.int .i64 (w64 (n_24 + (((((newslice_23.take n_24.toNat).drop 0)).take (((newslice_23.take newslice_23.length).drop n_24.toNat).length)).length : Int))))) ∧ (b 9 = false → Y10_9 = (.int .i64 n_24)) ∧ (b 0 = true → Y1_0 = (.int .i64 n_24)) ∧ (b 1 = true → Y2_1 = (.slice (some ⟨b15, 0, none⟩) newslice_23.length ((w64 (t4)).toNat))) ∧ (b 2 = true → Y3_2 = (.int .i64 n_24)) ∧ (b 3 = true → Y4_3 = (.slice (cutA (some ⟨b15, 0, none⟩) n_24.toNat ((w64 (t4)).toNat) 2) ((newslice_23.take newslice_23.length).drop n_24.toNat).length ((w64 (t4)).toNat - n_24.toNat))) ∧ (b 4 = true → Y5_4 = (.slice (some ⟨b15, 0, none⟩) newslice_23.length ((w64 (t4)).toNat))) ∧ (b 5 = true → Y6_5 = (.int .i64 n_24)) ∧ (b 6 = true → Y7_6 = (.slice (cutA (some ⟨b15, 0, none⟩) 0 ((w64 (t4)).toNat) 2) ((newslice_23.take n_24.toNat).drop 0).length ((w64 (t4)).toNat - 0))) ∧ (b 7 = true → Y8_7 = (.int .i64 (((((newslice_23.take n_24.toNat).drop 0)).take (((newslice_23.take newslice_23.length).drop n_24.toNat).length)).length : Int))) ∧ (b 8 = true → Y9_8 = (.int .i64 (w64 (n_24 + (((((newslice_23.take n_24.toNat).drop 0)).take (((newslice_23.take newslice_23.length).drop n_24.toNat).length)).length : Int))))) ∧ (b 7 = false → O11_2 = Own T_GEnd 68 (some ⟨b15, 0, none⟩) ((w64 (t4)).toNat) (fun _ => ()) newslice_23) ∧ (b 7 = true → O11_2 = Own T_GEnd 68 (some ⟨b15, 0, none⟩) ((w64 (t4)).toNat) (fun _ => ()) (over newslice_23 n_24.toNat (((newslice_23.take n_24.toNat).drop 0).take (((newslice_23.take newslice_23.length).drop n_24.toNat).length))))) ?_ ?_ ?_
          ·
           intro a hs
           obtain ⟨Y1_0, hs⟩ := hs.ext (d := 38) rfl
           obtain ⟨Y2_1, hs⟩ := hs.ext (d := 39) rfl
           obtain ⟨Y3_2, hs⟩ := hs.ext (d := 40) rfl
           obtain ⟨Y4_3, hs⟩ := hs.ext (d := 41) rfl
           obtain ⟨Y5_4, hs⟩ := hs.ext (d := 42) rfl
           obtain ⟨Y6_5, hs⟩ := hs.ext (d := 43) rfl
           obtain ⟨Y7_6, hs⟩ := hs.ext (d := 44) rfl
           obtain ⟨Y8_7, hs⟩ := hs.ext (d := 45) rfl
           obtain ⟨Y9_8, hs⟩ := hs.ext (d := 46) rfl
           exact ⟨Y1_0, Y2_1, Y3_2, Y4_3, Y5_4, Y6_5, Y7_6, Y8_7, Y9_8, (.int .i64 n_24), Own T_GEnd 68 (some ⟨b15, 0, none⟩) ((w64 (t4)).toNat) (fun _ => ()) newslice_23, hs.weak ⟨rfl, rfl, rfl, rfl, rfl, rfl, rfl, rfl, rfl, rfl, rfl, trivial⟩, (HS.drew.pk 1 [0] rfl), fun h => Bool.noConfusion h, fun _ => rfl, fun h => Bool.noConfusion h, fun h => Bool.noConfusion h, fun h => Bool.noConfusion h, fun h => Bool.noConfusion h, fun h => Bool.noConfusion h, fun h => Bool.noConfusion h, fun h => Bool.noConfusion h, fun h => Bool.noConfusion h, fun h => Bool.noConfusion h, fun _ => rfl, fun h => Bool.noConfusion h⟩
          ·
           intro j hj b a w
           refine exI fun Y1_0 => exI fun Y2_1 => exI fun Y3_2 => exI fun Y4_3 => exI fun Y5_4 => exI fun Y6_5 => exI fun Y7_6 => exI fun Y8_7 => exI fun Y9_8 => exI fun Y10_9 => exI fun O11_2 => anI fun hs => anI fun HS => anI fun f9 => anI fun g9 => anI fun f0 => anI fun f1 => anI fun f2 => anI fun f3 => anI fun f4 => anI fun f5 => anI fun f6 => anI fun f7 => anI fun f8 => anI fun o2_0 => fun o2_1 hb hd hcl => ?_
           match j, hj with
           | 0, _ =>
            have d9 : b 9 = false := bfalse (fun hh => hcl 9 (by decide) (hh) 0 (by decide)) hb
            obtain rfl := g9 d9
            refine GO.at hs ?_
            refine GO.move rfl rfl rfl ?_
            refine GO.fin (fun a hs => ?_)
            exact ⟨(.int .i64 n_24), _, _, _, _, _, _, _, _, _, _, by exact hs.setAt 1 rfl, HS, f9, g9, fun _ => rfl, f1, f2, f3, f4, f5, f6, f7, f8, o2_0, o2_1⟩
           | 1, _ =>
            refine GO.at hs ?_
            refine GO.move rfl rfl rfl ?_
            refine GO.fin (fun a hs => ?_)
            exact ⟨_, (.slice (some ⟨b15, 0, none⟩) newslice_23.length ((w64 (t4)).toNat)), _, _, _, _, _, _, _, _, _, by exact hs.setAt 2 rfl, HS, f9, g9, f0, fun _ => rfl, f2, f3, f4, f5, f6, f7, f8, o2_0, o2_1⟩
           | 2, _ =>
            have d9 : b 9 = false := bfalse (fun hh => hcl 9 (by decide) (hh) 2 (by decide)) hb
            obtain rfl := g9 d9
            refine GO.at hs ?_
            refine GO.move rfl rfl rfl ?_
            refine GO.fin (fun a hs => ?_)
            exact ⟨_, _, (.int .i64 n_24), _, _, _, _, _, _, _, _, by exact hs.setAt 3 rfl, HS, f9, g9, f0, f1, fun _ => rfl, f3, f4, f5, f6, f7, f8, o2_0, o2_1⟩
           | 3, _ =>
            have hb1 : b 1 = true := hd 1 (by decide)
            obtain rfl := f1 hb1
            have hb2 : b 2 = true := hd 2 (by decide)
            obtain rfl := f2 hb2
            have d7 : b 7 = false := bfalse (fun hh => hcl 7 (by decide) (hh) 3 (by decide)) hb
            obtain rfl := o2_0 d7
            refine GO.at hs ?_
            refine GO.slL (T := T_GEnd) HS (RdIn.own (j := 0) rfl) rfl rfl rfl Try.underlying61 sz68 c30.1 c30.2 rfl ?_
            refine GO.fin (fun a hs => ?_)
            exact ⟨_, _, _, (.slice (cutA (some ⟨b15, 0, none⟩) n_24.toNat ((w64 (t4)).toNat) 2) ((newslice_23.take newslice_23.length).drop n_24.toNat).length ((w64 (t4)).toNat - n_24.toNat)), _, _, _, _, _, _, _, by exact hs.setAt 4 rfl, HS, f9, g9, f0, f1, f2, fun _ => rfl, f4, f5, f6, f7, f8, o2_0, o2_1⟩
           | 4, _ =>
            refine GO.at hs ?_
            refine GO.move rfl rfl rfl ?_
            refine GO.fin (fun a hs => ?_)
            exact ⟨_, _, _, _, (.slice (some ⟨b15, 0, none⟩) newslice_23.length ((w64 (t4)).toNat)), _, _, _, _, _, _, by exact hs.setAt 5 rfl, HS, f9, g9, f0, f1, f2, f3, fun _ => rfl, f5, f6, f7, f8, o2_0, o2_1⟩
           | 5, _ =>
            have d9 : b 9 = false := bfalse (fun hh => hcl 9 (by decide) (hh) 5 (by decide)) hb
            obtain rfl := g9 d9
            refine GO.at hs ?_
            refine GO.move rfl rfl rfl ?_
            refine GO.fin (fun a hs => ?_)
            exact ⟨_, _, _, _, _, (.int .i64 n_24), _, _, _, _, _, by exact hs.setAt 6 rfl, HS, f9, g9, f0, f1, f2, f3, f4, fun _ => rfl, f6, f7, f8, o2_0, o2_1⟩
           | 6, _ =>
            have hb4 : b 4 = true := hd 4 (by decide)
            obtain rfl := f4 hb4
            have hb5 : b 5 = true := hd 5 (by decide)
            obtain rfl := f5 hb5
            have d7 : b 7 = false := bfalse (fun hh => hcl 7 (by decide) (hh) 6 (by decide)) hb
            obtain rfl := o2_0 d7
            refine GO.at hs ?_
            refine GO.slH (T := T_GEnd) HS (RdIn.own (j := 0) rfl) rfl rfl rfl Try.underlying61 sz68 c30.1 c30.2 rfl ?_
            refine GO.fin (fun a hs => ?_)
            exact ⟨_, _, _, _, _, _, (.slice (cutA (some ⟨b15, 0, none⟩) 0 ((w64 (t4)).toNat) 2) ((newslice_23.take n_24.toNat).drop 0).length ((w64 (t4)).toNat - 0)), _, _, _, _, by exact hs.setAt 7 rfl, HS, f9, g9, f0, f1, f2, f3, f4, f5, fun _ => rfl, f7, f8, o2_0, o2_1⟩
           | 7, _ =>
            have hb3 : b 3 = true := hd 3 (by decide)
            obtain rfl := f3 hb3
            have hb6 : b 6 = true := hd 6 (by decide)
            obtain rfl := f6 hb6
            obtain rfl := o2_0 hb
            refine GO.at hs ?_
            refine GO.copyP (T := T_GEnd) (j := 0) (l := n_24.toNat) HS rfl (RdIn.cut (RdIn.own (j := 0) rfl) (Nat.zero_le _) (leN c30)) flat_flat rfl rfl rfl Try.underlying61 sz68 rfl (cutC (Nat.le_refl _) ((RdIn.own (j := 0) rfl) _ HS).1) (cutN (leN c30) (Nat.le_refl _)) (fun _ _ => rfl) (fun _ => rfl) ?_; intro wd31 HS
            refine GO.fin (fun a hs => ?_)
            exact ⟨_, _, _, _, _, _, _, (.int .i64 (((((newslice_23.take n_24.toNat).drop 0)).take (((newslice_23.take newslice_23.length).drop n_24.toNat).length)).length : Int)), _, _, Own T_GEnd 68 (some ⟨b15, 0, none⟩) ((w64 (t4)).toNat) (fun _ => ()) (over newslice_23 n_24.toNat (((newslice_23.take n_24.toNat).drop 0).take (((newslice_23.take newslice_23.length).drop n_24.toNat).length))), by exact hs.setAt 8 rfl, HS, f9, g9, f0, f1, f2, f3, f4, f5, f6, fun _ => rfl, f8, fun h => Bool.noConfusion h, fun _ => rfl⟩
           | 8, _ =>
            have hb0 : b 0 = true := hd 0 (by decide)
            obtain rfl := f0 hb0
            have hb7 : b 7 = true := hd 7 (by decide)
            obtain rfl := f7 hb7
            refine GO.at hs ?_
            refine GO.add rfl rfl rfl rfl ?_
            refine GO.fin (fun a hs => ?_)
            exact ⟨_, _, _, _, _, _, _, _, (.int .i64 (w64 (n_24 + (((((newslice_23.take n_24.toNat).drop 0)).take (((newslice_23.take newslice_23.length).drop n_24.toNat).length)).length : Int)))), _, _, by exact hs.setAt 9 rfl, HS, f9, g9, f0, f1, f2, f3, f4, f5, f6, f7, fun _ => rfl, o2_0, o2_1⟩
           | 9, _ =>
            have hb8 : b 8 = true := hd 8 (by decide)
            obtain rfl := f8 hb8
            refine GO.at hs ?_
            refine GO.assign rfl rfl rfl ?_
            refine GO.fin (fun a hs => ?_)
            exact ⟨_, _, _, _, _, _, _, _, _, (.int .i64 (w64 (n_24 + (((((newslice_23.take n_24.toNat).drop 0)).take (((newslice_23.take newslice_23.length).drop n_24.toNat).length)).length : Int)))), _, by exact hs.setAt 0 rfl, HS, fun _ => rfl, fun h => Bool.noConfusion h, f0, f1, f2, f3, f4, f5, f6, f7, f8, o2_0, o2_1⟩
           | k + 10, hj => exact absurd hj (Nat.not_lt.2 (Nat.le_add_left 10 k))
          ·
           intro b a w hall
           refine exI fun Y1_0 => exI fun Y2_1 => exI fun Y3_2 => exI fun Y4_3 => exI fun Y5_4 => exI fun Y6_5 => exI fun Y7_6 => exI fun Y8_7 => exI fun Y9_8 => exI fun Y10_9 => exI fun O11_2 => anI fun hs => anI fun HS => anI fun f9 => anI fun g9 => anI fun f0 => anI fun f1 => anI fun f2 => anI fun f3 => anI fun f4 => anI fun f5 => anI fun f6 => anI fun f7 => anI fun f8 => anI fun o2_0 => fun o2_1 => ?_
           obtain rfl := f9 (hall 9 (by decide))
           obtain rfl := f0 (hall 0 (by decide))
           obtain rfl := f1 (hall 1 (by decide))
           obtain rfl := f2 (hall 2 (by decide))
           obtain rfl := f3 (hall 3 (by decide))
           obtain rfl := f4 (hall 4 (by decide))
           obtain rfl := f5 (hall 5 (by decide))
           obtain rfl := f6 (hall 6 (by decide))
           obtain rfl := f7 (hall 7 (by decide))
           obtain rfl := f8 (hall 8 (by decide))
           obtain rfl := o2_1 (hall 7 (by decide))
           refine G.at hs ?_
           refine G.len (t := 7) (m := (over newslice_23 n_24.toNat (((newslice_23.take n_24.toNat).drop 0).take (((newslice_23.take newslice_23.length).drop n_24.toNat).length))).length) rfl (by simp only [List.length_set, h32] <;> rfl) ?_
           refine G.blockEnd ?_
           refine G.again ?_
           refine G.weak ?_ (ih_l4 n_l4 (Nat.lt_succ_of_le (Nat.le_refl _)) (Nat.le_of_succ_le hm_l4) _ _ _ H HS)
           exact ⟨rfl, rfl, trivial⟩
         ·
          refine G.noB rfl (decide_eq_false c29) ?_
          refine G.exit rfl ?_
          refine G.seq ?_
          refine G.region ?_
          refine GO.move rfl rfl rfl ?_
          refine GO.assign rfl rfl rfl ?_
          refine GO.nil ?_
          obtain rfl := Option.some.inj H
          exact G.ret1 _ Try.func116 rfl rfl ⟨_, _, rfl, HS⟩
      refine G.weak ?_ (at_l4 n_j2 (Nat.le_refl _) _ _ _ H HS)
      exact ⟨rfl, rfl, trivial⟩
   rcases ite_elim H with ⟨c33, H⟩ | ⟨c33, H⟩
   ·
    refine G.region ?_
    refine GO.move rfl rfl rfl ?_
    refine GO.gtr rfl rfl rfl rfl ?_
    refine GO.move rfl rfl rfl ?_
    refine GO.known (t := 23) rfl (decide_eq_true c33) ?_
    refine GO.off rfl rfl rfl rfl rfl rfl ?_
    refine GO.off rfl rfl rfl rfl rfl rfl ?_
    refine GO.pickT rfl rfl rfl rfl rfl ?_
    refine GO.nil ?_
    refine G.weak ?_ (at_j2 K (Nat.le_refl _) _ _ H HS)
    exact ⟨rfl, rfl, rfl, trivial⟩
   ·
    refine G.region ?_
    refine GO.move rfl rfl rfl ?_
    refine GO.gtr rfl rfl rfl rfl ?_
    refine GO.move rfl rfl rfl ?_
    refine GO.known (t := 23) rfl (decide_eq_false c33) ?_
    refine GO.on rfl rfl rfl rfl ?_
    refine GO.move rfl rfl rfl ?_
    refine GO.back ?_
    refine GO.on rfl rfl rfl rfl ?_
    refine GO.gtr rfl rfl rfl rfl ?_
    refine GO.back ?_
    refine GO.pickF rfl rfl rfl rfl rfl ?_
    refine GO.nil ?_
    refine G.weak ?_ (at_j2 K (Nat.le_refl _) _ _ H HS)
    exact ⟨rfl, rfl, rfl, trivial⟩

set_option maxRecDepth 20000 in
set_option maxHeartbeats 40000000 in
theorem impl_Crossing_ends.calls {w0 w : World} {L : List HObj} {c_A : Int} {c_B : Int} {c_C : Int} {c_D : Int} {c_Sign : Int} {r1 : Int} {r2 : Int} {r3 : Int} {r4 : Int} (HS : St w0 w (L)) (H : impl_Crossing_ends.f c_A c_B c_C c_D c_Sign = some (r1, r2, r3, r4)) :
    Calls Try.prog 75 #[.agg [.int .i64 c_A, .int .i64 c_B, .int .i64 c_C, .int .i64 c_D, .int .i64 c_Sign].toArray] w (impl_Crossing_ends.post w0 L c_A c_B c_C c_D c_Sign r1 r2 r3 r4) := by
  unfold impl_Crossing_ends.f at H
  refine Calls.of_G Try.func75 rfl rfl rfl ?_
  refine G.seq ?_
  refine G.region ?_
  refine GO.box (cs := [.int .i64 c_A, .int .i64 c_B, .int .i64 c_C, .int .i64 c_D, .int .i64 c_Sign]) HS rfl rfl rfl rfl ?_; intro b1 wd2 HS
  refine GO.alloc HS rfl zr93 rfl rfl ?_; intro b3 wd4 HS
  refine GO.nil ?_
  refine G.seq ?_
  refine G.region ?_
  refine GO.fld (⟨b1, 0, none⟩) rfl rfl fl58_0 rfl rfl ?_
  refine GO.ldBox (j := 1) HS rfl rfl rfl rfl na2 rfl ?_
  refine GO.fld (⟨b1, 1, none⟩) rfl rfl fl58_1 rfl rfl ?_
  refine GO.ldBox (j := 1) HS rfl rfl rfl rfl na2 rfl ?_
  refine GO.fld (⟨b1, 2, none⟩) rfl rfl fl58_2 rfl rfl ?_
  refine GO.ldBox (j := 1) HS rfl rfl rfl rfl na2 rfl ?_
  refine GO.fld (⟨b1, 3, none⟩) rfl rfl fl58_3 rfl rfl ?_
  refine GO.ldBox (j := 1) HS rfl rfl rfl rfl na2 rfl ?_
  refine GO.buildV (.agg [.int .i64 c_A, .int .i64 c_B, .int .i64 c_C, .int .i64 c_D].toArray) rfl rfl (fun _ => by kernel_rfl) rfl ?_
  refine GO.stBox (j := 0) (vs := [.int .i64 c_A, .int .i64 c_B, .int .i64 c_C, .int .i64 c_D]) ([.int .i64 c_A, .int .i64 c_B, .int .i64 c_C, .int .i64 c_D]) HS rfl rfl rfl rfl rfl (htA ag93) rfl rfl rfl ?_; intro wd5 HS
  refine GO.nil ?_
  obtain ⟨rfl, rfl, rfl, rfl⟩ := some4 H
  exact G.ret1 _ Try.func75 rfl (Res1.boxA (j := 0) (vs := [.int .i64 c_A, .int .i64 c_B, .int .i64 c_C, .int .i64 c_D]) HS rfl rfl rfl ag93) ⟨rfl, (HS.pk 2 [] rfl)⟩

set_option maxRecDepth 20000 in
set_option maxHeartbeats 40000000 in
theorem impl_Crossing_enters.calls {w0 w : World} {L : List HObj} {c_A : Int} {c_B : Int} {c_C : Int} {c_D : Int} {c_Sign : Int} {p : Int} {r1 : Bool} (HS : St w0 w (L)) (H : impl_Crossing_enters.f c_A c_B c_C c_D c_Sign p = some r1) :
    Calls Try.prog 117 #[.agg [.int .i64 c_A, .int .i64 c_B, .int .i64 c_C, .int .i64 c_D, .int .i64 c_Sign].toArray, .int .i64 p] w (impl_Crossing_enters.post w0 L c_A c_B c_C c_D c_Sign p r1) := by
  unfold impl_Crossing_enters.f at H
  refine Calls.of_G Try.func117 rfl rfl rfl ?_
  refine G.seq ?_
  refine G.region ?_
  refine GO.box (cs := [.int .i64 c_A, .int .i64 c_B, .int .i64 c_C, .int .i64 c_D, .int .i64 c_Sign]) HS rfl rfl rfl rfl ?_; intro b1 wd2 HS
  refine GO.assign rfl rfl rfl ?_
  refine GO.nil ?_
  refine G.seq ?_
  rcases ite_elim H with ⟨c3, H⟩ | ⟨c3, H⟩
  ·
   refine G.region ?_
   refine GO.move rfl rfl rfl ?_
   refine GO.eql rfl rfl rfl rfl ?_
   refine GO.move rfl rfl rfl ?_
   refine GO.known (t := 7) rfl (decide_eq_true c3) ?_
   refine GO.off rfl rfl rfl rfl rfl rfl ?_
   refine GO.off rfl rfl rfl rfl rfl rfl ?_
   refine GO.off rfl rfl rfl rfl rfl rfl ?_
   refine GO.off rfl rfl rfl rfl rfl rfl ?_
   refine GO.off rfl rfl rfl rfl rfl rfl ?_
   refine GO.pickT rfl rfl rfl rfl rfl ?_
   refine GO.assign rfl rfl rfl ?_
   refine GO.nil ?_
   obtain rfl := Option.some.inj H
   exact G.ret1 _ Try.func117 rfl rfl ⟨rfl, (HS.pk 1 [] rfl)⟩
  ·
   refine G.region ?_
   refine GO.move rfl rfl rfl ?_
   refine GO.eql rfl rfl rfl rfl ?_
   refine GO.move rfl rfl rfl ?_
   refine GO.known (t := 7) rfl (decide_eq_false c3) ?_
   refine GO.on rfl rfl rfl rfl ?_
   refine GO.move rfl rfl rfl ?_
   refine GO.back ?_
   refine GO.on rfl rfl rfl rfl ?_
   refine GO.fld (⟨b1, 4, none⟩) rfl rfl fl58_4 rfl rfl ?_
   refine GO.back ?_
   refine GO.on rfl rfl rfl rfl ?_
   refine GO.ldBox (j := 0) HS rfl rfl rfl rfl na2 rfl ?_
   refine GO.back ?_
   refine GO.on rfl rfl rfl rfl ?_
   refine GO.add rfl rfl rfl rfl ?_
   refine GO.back ?_
   refine GO.on rfl rfl rfl rfl ?_
   refine GO.eql rfl rfl rfl rfl ?_
   refine GO.back ?_
   refine GO.pickF rfl rfl rfl rfl rfl ?_
   refine GO.assign rfl rfl rfl ?_
   refine GO.nil ?_
   obtain rfl := Option.some.inj H
   exact G.ret1 _ Try.func117 rfl rfl ⟨rfl, (HS.pk 1 [] rfl)⟩

set_option maxRecDepth 20000 in
set_option maxHeartbeats 40000000 in
theorem impl_size_impl_end.calls {w0 w : World} {L : List HObj} {list : List GEnd} {A_list : Option Addr} {c_list : Nat} {r1 : Int} (HS : St w0 w (L)) (h_list : RdIn w0 L T_GEnd A_list c_list (fun _ => ()) list) (H : impl_size_impl_end.f list = some r1) :
    Calls Try.prog 48 #[.slice A_list list.length c_list] w (impl_size_impl_end.post w0 L list A_list c_list r1) := by
  unfold impl_size_impl_end.f at H
  refine Calls.of_G Try.func48 rfl rfl rfl ?_
  refine G.seq ?_
  refine G.region ?_
  refine GO.assign rfl rfl rfl ?_
  refine GO.nil ?_
  refine G.seq ?_
  refine G.region ?_
  refine GO.move rfl rfl rfl ?_
  refine GO.lenS rfl rfl Try.underlying61 rfl ?_
  refine GO.assign rfl rfl rfl ?_
  refine GO.nil ?_
  obtain rfl := Option.some.inj H
  exact G.ret1 _ Try.func48 rfl rfl ⟨rfl, HS⟩

set_option maxRecDepth 20000 in
set_option maxHeartbeats 40000000 in
theorem impl_hasIndex_impl_end.calls {w0 w : World} {L : List HObj} {list : List GEnd} {i : Int} {A_list : Option Addr} {c_list : Nat} {r1 : Bool} (HS : St w0 w (L)) (h_list : RdIn w0 L T_GEnd A_list c_list (fun _ => ()) list) (H : impl_hasIndex_impl_end.f list i = some r1) :
    Calls Try.prog 46 #[.slice A_list list.length c_list, .int .i64 i] w (impl_hasIndex_impl_end.post w0 L list i A_list c_list r1) := by
  unfold impl_hasIndex_impl_end.f at H
  refine Calls.of_G Try.func46 rfl rfl rfl ?_
  refine G.seq ?_
  refine G.region ?_
  refine GO.assign rfl rfl rfl ?_
  refine GO.nil ?_
  refine G.seq ?_
  obtain ⟨t1, h2, H⟩ := Option.bind_eq_some_iff.1 H
  obtain ⟨t5, h6, H⟩ := Option.bind_eq_some_iff.1 H
  refine G.region ?_
  refine GO.move rfl rfl rfl ?_
  refine GO.move rfl rfl rfl ?_
  refine GO.fn rfl Try.func48 fok48.1 fok48.2 rfl rfl (impl_size_impl_end.calls HS h_list h2) (fun _ wd3 ⟨h4, HS⟩ => ⟨_, h4, ?_⟩)
  refine GO.sub rfl rfl rfl rfl ?_
  refine GO.fn rfl Try.func47 fok47.1 fok47.2 rfl rfl (impl_inRange.calls HS  h6) (fun _ wd7 ⟨h8, HS⟩ => ⟨_, h8, ?_⟩)
  refine GO.assign rfl rfl rfl ?_
  refine GO.nil ?_
  obtain rfl := Option.some.inj H
  exact G.ret1 _ Try.func46 rfl rfl ⟨rfl, HS⟩

set_option maxRecDepth 20000 in
set_option maxHeartbeats 40000000 in
theorem impl_Diagram_arrows.calls {w0 w : World} {L : List HObj} {K : Nat} {d_Crossings : List GCrossing} {d_Circles : Int} {A_d_Crossings : Option Addr} {c_d_Crossings : Nat} {r1 : List GEnd} {r2 : List GEnd} {r3 : Bool} (HS : St w0 w (L)) (h_d_Crossings : RdIn w0 L T_GCrossing A_d_Crossings c_d_Crossings (fun _ => ()) d_Crossings) (H : impl_Diagram_arrows.f K d_Crossings d_Circles = some (r1, r2, r3)) :
    Calls Try.prog 58 #[.agg [.slice A_d_Crossings d_Crossings.length c_d_Crossings, .int .i64 d_Circles].toArray] w (impl_Diagram_arrows.post w0 L d_Crossings d_Circles A_d_Crossings c_d_Crossings r1 r2 r3) := by
  unfold impl_Diagram_arrows.f at H
  refine Calls.of_G Try.func58 rfl rfl rfl ?_
  refine G.seq ?_
  refine G.region ?_
  refine GO.box (cs := [.slice A_d_Crossings d_Crossings.length c_d_Crossings, .int .i64 d_Circles]) HS rfl rfl rfl rfl ?_; intro b1 wd2 HS
  refine GO.alloc HS rfl zr63 rfl rfl ?_; intro b3 wd4 HS
  refine GO.assign rfl rfl rfl ?_
  refine GO.nil ?_
  refine G.seq ?_
  refine G.region ?_
  refine GO.fld (⟨b1, 0, none⟩) rfl rfl fl28_0 rfl rfl ?_
  refine GO.ldBox (j := 1) HS rfl rfl rfl rfl na26 rfl ?_
  refine GO.lenS rfl rfl Try.underlying26 rfl ?_
  refine GO.mul rfl rfl rfl rfl ?_
  refine GO.assign rfl rfl rfl ?_
  refine GO.nil ?_
  refine G.seq ?_
  obtain ⟨t7, h8, H⟩ := Option.bind_eq_some_iff.1 H
  obtain ⟨t15, h16, H⟩ := Option.bind_eq_some_iff.1 H
  refine G.region ?_
  refine GO.buildV (.agg [.int .i64 (-1), .int .i64 0].toArray) rfl rfl (fun _ => by kernel_rfl) rfl ?_
  refine GO.buildS (el := 68) ([.int .i64 (-1), .int .i64 0]) HS rfl rfl (fun _ => by kernel_rfl) rfl ?_; intro b5 wd6 HS
  refine GO.move rfl rfl rfl ?_
  replace HS := HS.boxRow (T := T_GEnd) (j := 0) rfl flat_flat (fun _ => ()) ([(⟨(-1), 0⟩ : GEnd)] : List GEnd) rfl (bndL rfl)
  refine GO.lenC (t := 16) (m := ([(⟨(-1), 0⟩ : GEnd)] : List GEnd).length) (c' := ([(⟨(-1), 0⟩ : GEnd)] : List GEnd).length) rfl rfl rfl ?_
  refine GO.fn rfl Try.func116 fok116.1 fok116.2 rfl rfl (slices_Repeat_impl_end_impl_end.calls HS (RdIn.own (j := 0) rfl) h8) (fun _ wd11 ⟨A9, c10, h12, HS⟩ => ⟨_, h12, ?_⟩)
  refine GO.buildV (.agg [.int .i64 (-1), .int .i64 0].toArray) rfl rfl (fun _ => by kernel_rfl) rfl ?_
  refine GO.buildS (el := 68) ([.int .i64 (-1), .int .i64 0]) HS rfl rfl (fun _ => by kernel_rfl) rfl ?_; intro b13 wd14 HS
  refine GO.move rfl rfl rfl ?_
  replace HS := HS.boxRow (T := T_GEnd) (j := 0) rfl flat_flat (fun _ => ()) ([(⟨(-1), 0⟩ : GEnd)] : List GEnd) rfl (bndL rfl)
  refine GO.lenC (t := 20) (m := ([(⟨(-1), 0⟩ : GEnd)] : List GEnd).length) (c' := ([(⟨(-1), 0⟩ : GEnd)] : List GEnd).length) rfl rfl rfl ?_
  refine GO.fn rfl Try.func116 fok116.1 fok116.2 rfl rfl (slices_Repeat_impl_end_impl_end.calls HS (RdIn.own (j := 0) rfl) h16) (fun _ wd19 ⟨A17, c18, h20, HS⟩ => ⟨_, h20, ?_⟩)
  refine GO.buildV (.agg [.slice A9 t7.length c10, .slice A17 t15.length c18].toArray) rfl rfl (fun _ => by kernel_rfl) rfl ?_
  refine GO.alloc HS rfl zr63 rfl rfl ?_; intro b21 wd22 HS
  refine GO.stBox (j := 0) (vs := [.slice A9 t7.length c10, .slice A17 t15.length c18]) ([.slice A9 t7.length c10, .slice A17 t15.length c18]) HS rfl rfl rfl rfl rfl (htA ag63) rfl rfl rfl ?_; intro wd23 HS
  refine GO.nil ?_
  refine G.seq ?_
  refine G.seq ?_
  refine G.region ?_
  refine GO.fld (⟨b1, 0, none⟩) rfl rfl fl28_0 rfl rfl ?_
  refine GO.ldBox (j := 6) HS rfl rfl rfl rfl na26 rfl ?_
  refine GO.lenS rfl rfl Try.underlying26 rfl ?_
  refine GO.move rfl rfl rfl ?_
  refine GO.nil ?_
  refine G.block ?_
  refine G.loop ?_
  refine G.name (fun k_l1 hk_l1 => ?_)
  have at_l1 : ∀ m_l1, m_l1 ≤ K → ∀ (a_193 : List GEnd) (a_194 : List GEnd) (x195 : Int) (w : World), impl_Diagram_arrows.l1 K m_l1 d_Crossings a_193 a_194 x195 = some (r1, r2, r3) → St w0 w (Box b3 63 [.slice none 0 0, .slice none 0 0] :: Box b21 63 [.slice A9 a_193.length c10, .slice A17 a_194.length c18] :: Own T_GEnd 68 A9 c10 (fun _ => ()) a_193 :: Own T_GEnd 68 A17 c18 (fun _ => ()) a_194 :: L) → G Try.prog 58 67 [(2, .pointer (some ⟨b3, 0, none⟩)), (5, .pointer (some ⟨b21, 0, none⟩)), (25, .slice A_d_Crossings d_Crossings.length c_d_Crossings), (26, .int .i64 (d_Crossings.length : Int)), (27, .int .i64 x195)] k_l1 w (impl_Diagram_arrows.post w0 L d_Crossings d_Circles A_d_Crossings c_d_Crossings r1 r2 r3) := by
   intro m_l1
   induction m_l1 using Nat.strongRecOn with
   | _ m_l1 ih_l1 =>
    intro hm_l1 a_193 a_194 x195 w H HS
    cases m_l1 with
    | zero => rw [impl_Diagram_arrows.l1] at H; cases H
    | succ n_l1 =>
     rw [impl_Diagram_arrows.l1] at H
     subst hk_l1
     refine G.seq ?_
     refine G.region ?_
     refine GO.lss rfl rfl rfl rfl ?_
     refine GO.nil ?_
     refine G.seq ?_
     rcases ite_elim H with ⟨c365, H⟩ | ⟨c365, H⟩
     ·
      refine G.yesB rfl (decide_eq_true c365) ?_
      refine G.skip ?_
      refine G.seq ?_
      refine G.block ?_
      refine G.seq ?_
      obtain ⟨c366, H⟩ := ite_none H
      obtain ⟨e367, h368, H⟩ := bnd_elim H
      refine G.region ?_
      refine GO.move rfl rfl rfl ?_
      refine GO.ix rfl rfl rfl Try.underlying26 sz58 ((RdIn.drop 4 h_d_Crossings) _ HS).2.2.1 c366.1 c366.2 rfl ?_
      refine GO.ldRdA (T := T_GCrossing) (n := x195.toNat) HS (RdIn.drop 4 h_d_Crossings) rfl rfl (getD_eq (ltN c366) h368) ag58 rfl ?_
      refine GO.alloc HS rfl zr58 rfl rfl ?_; intro b369 wd370 HS
      refine GO.assign rfl rfl rfl ?_
      refine GO.stBox (j := 0) (vs := [.int .i64 e367.A, .int .i64 e367.B, .int .i64 e367.C, .int .i64 e367.D, .int .i64 e367.Sign]) ([.int .i64 e367.A, .int .i64 e367.B, .int .i64 e367.C, .int .i64 e367.D, .int .i64 e367.Sign]) HS rfl rfl rfl rfl rfl (htA ag58) rfl rfl rfl ?_; intro wd371 HS
      refine GO.nil ?_
      refine G.seq ?_
      obtain ⟨t372, t373, t374, t375, h376, H⟩ := bind4_elim H
      refine G.region ?_
      refine GO.ldBoxA (j := 0) ([.int .i64 e367.A, .int .i64 e367.B, .int .i64 e367.C, .int .i64 e367.D, .int .i64 e367.Sign]) HS rfl rfl rfl rfl ag58 rfl ?_
      refine GO.fn rfl Try.func75 fok75.1 fok75.2 rfl rfl (impl_Crossing_ends.calls HS  h376) (fun _ wd377 ⟨h378, HS⟩ => ⟨_, h378, ?_⟩)
      refine GO.move rfl rfl rfl ?_
      refine GO.nil ?_
      refine G.block ?_
      refine G.loop ?_
      refine G.name (fun k_l10 hk_l10 => ?_)
      have at_l10 : ∀ m_l10, m_l10 ≤ n_l1 → ∀ (a_428 : List GEnd) (a_429 : List GEnd) (x430 : Int) (w : World), impl_Diagram_arrows.l10 K m_l10 d_Crossings x195 e367 t372 t373 t374 t375 a_428 a_429 x430 = some (r1, r2, r3) → St w0 w (Box b3 63 [.slice none 0 0, .slice none 0 0] :: Box b21 63 [.slice A9 a_428.length c10, .slice A17 a_429.length c18] :: Own T_GEnd 68 A9 c10 (fun _ => ()) a_428 :: Own T_GEnd 68 A17 c18 (fun _ => ()) a_429 :: Box b369 58 [.int .i64 e367.A, .int .i64 e367.B, .int .i64 e367.C, .int .i64 e367.D, .int .i64 e367.Sign] :: L) → G Try.prog 58 67 [(2, .pointer (some ⟨b3, 0, none⟩)), (5, .pointer (some ⟨b21, 0, none⟩)), (6, .int .i64 x195), (7, .pointer (some ⟨b369, 0, none⟩)), (25, .slice A_d_Crossings d_Crossings.length c_d_Crossings), (26, .int .i64 (d_Crossings.length : Int)), (27, .int .i64 x195), (33, .agg [.int .i64 t372, .int .i64 t373, .int .i64 t374, .int .i64 t375].toArray), (34, .int .i64 x430)] k_l10 w (impl_Diagram_arrows.post w0 L d_Crossings d_Circles A_d_Crossings c_d_Crossings r1 r2 r3) := by
       intro m_l10
       induction m_l10 using Nat.strongRecOn with
       | _ m_l10 ih_l10 =>
        intro hm_l10 a_428 a_429 x430 w H HS
        cases m_l10 with
        | zero => rw [impl_Diagram_arrows.l10] at H; cases H
        | succ n_l10 =>
         rw [impl_Diagram_arrows.l10] at H
         subst hk_l10
         refine G.seq ?_
         refine G.region ?_
         refine GO.lss rfl rfl rfl rfl ?_
         refine GO.nil ?_
         refine G.seq ?_
         rcases ite_elim H with ⟨c482, H⟩ | ⟨c482, H⟩
         ·
          refine G.yesB rfl (decide_eq_true c482) ?_
          refine G.skip ?_
          refine G.seq ?_
          refine G.block ?_
          refine G.seq ?_
          obtain ⟨c483, H⟩ := ite_none H
          refine G.region ?_
          refine GO.move rfl rfl rfl ?_
          refine GO.ixArr ([t372, t373, t374, t375] : List Int) rfl rfl rfl Try.underlying93 Try.underlying2 sz2 rfl c483.1 c483.2 rfl ?_
          refine GO.assign rfl rfl rfl ?_
          refine GO.assign rfl rfl rfl ?_
          refine GO.nil ?_
          refine G.seq ?_
          refine G.region ?_
          refine GO.fld (⟨b21, 0, none⟩) rfl rfl fl63_0 rfl rfl ?_
          refine GO.ldBox (j := 1) HS rfl rfl rfl rfl na61 rfl ?_
          refine GO.assign rfl rfl rfl ?_
          refine GO.nil ?_
          refine G.seq ?_
          refine G.seq ?_
          obtain ⟨t484, h485, H⟩ := Option.bind_eq_some_iff.1 H
          refine G.region ?_
          refine GO.ldBoxA (j := 4) ([.int .i64 e367.A, .int .i64 e367.B, .int .i64 e367.C, .int .i64 e367.D, .int .i64 e367.Sign]) HS rfl rfl rfl rfl ag58 rfl ?_
          refine GO.move rfl rfl rfl ?_
          refine GO.fn rfl Try.func117 fok117.1 fok117.2 rfl rfl (impl_Crossing_enters.calls HS  h485) (fun _ wd486 ⟨h487, HS⟩ => ⟨_, h487, ?_⟩)
          refine GO.nil ?_
          rcases ite_elim H with ⟨c492, H⟩ | ⟨c492, H⟩
          ·
           refine G.yesB rfl c492 ?_
           refine G.region ?_
           refine GO.fld (⟨b21, 1, none⟩) rfl rfl fl63_1 rfl rfl ?_
           refine GO.ldBox (j := 1) HS rfl rfl rfl rfl na61 rfl ?_
           refine GO.assign rfl rfl rfl ?_
           refine GO.nil ?_
           refine G.seq ?_
           refine G.seq ?_
           obtain ⟨t501, h502, H⟩ := Option.bind_eq_some_iff.1 H
           rcases ite_elim H with ⟨c505, H⟩ | ⟨c505, H⟩
           ·
            obtain ⟨c506, H⟩ := ite_none H
            obtain ⟨e507, h508, H⟩ := bnd_elim H
            refine G.region ?_
            refine GO.move rfl rfl rfl ?_
            refine GO.move rfl rfl rfl ?_
            refine GO.fn rfl Try.func46 fok46.1 fok46.2 rfl rfl (impl_hasIndex_impl_end.calls HS (RdIn.own (j := 3) rfl) h502) (fun _ wd503 ⟨h504, HS⟩ => ⟨_, h504, ?_⟩)
            refine GO.not rfl rfl rfl ?_
            refine GO.move rfl rfl rfl ?_
            refine GO.known (t := 49) rfl (congrArg Bool.not c505) ?_
            refine GO.on rfl rfl rfl rfl ?_
            refine GO.move rfl rfl rfl ?_
            refine GO.back ?_
            refine GO.on rfl rfl rfl rfl ?_
            refine GO.move rfl rfl rfl ?_
            refine GO.back ?_
            refine GO.on rfl rfl rfl rfl ?_
            refine GO.ix rfl rfl rfl Try.underlying61 sz68 ((RdIn.own (j := 3) rfl) _ HS).2.2.1 c506.1 c506.2 rfl ?_
            refine GO.back ?_
            refine GO.on rfl rfl rfl rfl ?_
            refine GO.fld (ea A17 (((([t372, t373, t374, t375] : List Int).getD x430.toNat 0).toNat) * 2)) rfl rfl fl68_0 rfl rfl ?_
            refine GO.back ?_
            refine GO.on rfl rfl rfl rfl ?_
            refine GO.ldRd (T := T_GEnd) (n := (([t372, t373, t374, t375] : List Int).getD x430.toNat 0).toNat) (o := 0) HS (RdIn.own (j := 3) rfl) rfl rfl (getD_eq (ltN c506) h508) rfl rfl na2 rfl ?_
            refine GO.back ?_
            refine GO.on rfl rfl rfl rfl ?_
            refine GO.geq rfl rfl rfl rfl ?_
            refine GO.back ?_
            refine GO.pickF rfl rfl rfl rfl rfl ?_
            refine GO.nil ?_
            rcases ite_elim H with ⟨c509, H⟩ | ⟨c509, H⟩
            ·
             refine G.yesB rfl (decide_eq_true c509) ?_
             refine G.seq ?_
             refine G.region ?_
             refine GO.ldBoxA (j := 1) ([.slice A9 a_428.length c10, .slice A17 a_429.length c18]) HS rfl rfl rfl rfl ag63 rfl ?_
             refine GO.stBox (j := 0) (vs := [.slice A9 a_428.length c10, .slice A17 a_429.length c18]) ([.slice A9 a_428.length c10, .slice A17 a_429.length c18]) HS rfl rfl rfl rfl rfl (htA ag63) rfl rfl rfl ?_; intro wd510 HS
             refine GO.assign rfl rfl rfl ?_
             refine GO.nil ?_
             obtain ⟨rfl, rfl, rfl⟩ := some3 H
             exact G.ret2 _ _ Try.func58 rfl (Res1.boxA (j := 0) (vs := [.slice A9 a_428.length c10, .slice A17 a_429.length c18]) HS rfl rfl rfl ag63) rfl ⟨_, _, _, _, rfl, (HS.pk 5 [2, 3] rfl)⟩
            ·
             refine G.noB rfl (decide_eq_false c509) ?_
             refine G.skip ?_
             refine G.region ?_
             refine GO.move rfl rfl rfl ?_
             refine GO.move rfl rfl rfl ?_
             refine GO.move rfl rfl rfl ?_
             refine GO.move rfl rfl rfl ?_
             refine GO.buildV (.agg [.int .i64 x195, .int .i64 x430].toArray) rfl rfl (fun _ => by kernel_rfl) rfl ?_
             refine GO.ix rfl rfl rfl Try.underlying61 sz68 ((RdIn.own (j := 3) rfl) _ HS).2.2.1 c506.1 c506.2 rfl ?_
             refine GO.stRow (T := T_GEnd) (j := 3) (n := (([t372, t373, t374, t375] : List Int).getD x430.toNat 0).toNat) (o := 0) (vs := [.int .i64 x195, .int .i64 x430]) (⟨x195, x430⟩ : GEnd) HS rfl flat_flat rfl rfl rfl rfl (htA ag68) rfl (getD_some (d := z_GEnd) (ltN c506)) rfl rfl ?_; intro wd511 HS
             refine GO.nil ?_
             refine G.len (t := 50) (m := (a_429.set ((([t372, t373, t374, t375] : List Int).getD x430.toNat 0).toNat) (⟨x195, x430⟩ : GEnd)).length) rfl (by simp only [List.length_set] <;> rfl) ?_
             replace HS := HS.boxEq (j := 1) (cs' := [.slice A9 a_428.length c10, .slice A17 (a_429.set ((([t372, t373, t374, t375] : List Int).getD x430.toNat 0).toNat) (⟨x195, x430⟩ : GEnd)).length c18]) rfl (by simp only [List.length_set] <;> rfl)
             refine G.blockEnd ?_
             refine G.region ?_
             refine GO.add rfl rfl rfl rfl ?_
             refine GO.move rfl rfl rfl ?_
             refine GO.nil ?_
             refine G.again ?_
             refine G.weak ?_ (ih_l10 n_l10 (Nat.lt_succ_of_le (Nat.le_refl _)) (Nat.le_of_succ_le hm_l10) _ _ _ _ H HS)
             exact ⟨rfl, rfl, rfl, rfl, rfl, rfl, rfl, rfl, rfl, trivial⟩
           ·
            refine G.region ?_
            refine GO.move rfl rfl rfl ?_
            refine GO.move rfl rfl rfl ?_
            refine GO.fn rfl Try.func46 fok46.1 fok46.2 rfl rfl (impl_hasIndex_impl_end.calls HS (RdIn.own (j := 3) rfl) h502) (fun _ wd503 ⟨h504, HS⟩ => ⟨_, h504, ?_⟩)
            refine GO.not rfl rfl rfl ?_
            refine GO.move rfl rfl rfl ?_
            refine GO.known (t := 49) rfl (congrArg Bool.not (bnot_of c505)) ?_
            refine GO.off rfl rfl rfl rfl rfl rfl ?_
            refine GO.off rfl rfl rfl rfl rfl rfl ?_
            refine GO.off rfl rfl rfl rfl rfl rfl ?_
            refine GO.off rfl rfl rfl rfl rfl rfl ?_
            refine GO.off rfl rfl rfl rfl rfl rfl ?_
            refine GO.off rfl rfl rfl rfl rfl rfl ?_
            refine GO.pickT rfl rfl rfl rfl rfl ?_
            refine GO.nil ?_
            refine G.yesB rfl rfl ?_
            refine G.seq ?_
            refine G.region ?_
            refine GO.ldBoxA (j := 1) ([.slice A9 a_428.length c10, .slice A17 a_429.length c18]) HS rfl rfl rfl rfl ag63 rfl ?_
            refine GO.stBox (j := 0) (vs := [.slice A9 a_428.length c10, .slice A17 a_429.length c18]) ([.slice A9 a_428.length c10, .slice A17 a_429.length c18]) HS rfl rfl rfl rfl rfl (htA ag63) rfl rfl rfl ?_; intro wd512 HS
            refine GO.assign rfl rfl rfl ?_
            refine GO.nil ?_
            obtain ⟨rfl, rfl, rfl⟩ := some3 H
            exact G.ret2 _ _ Try.func58 rfl (Res1.boxA (j := 0) (vs := [.slice A9 a_428.length c10, .slice A17 a_429.length c18]) HS rfl rfl rfl ag63) rfl ⟨_, _, _, _, rfl, (HS.pk 5 [2, 3] rfl)⟩
          ·
           refine G.noB rfl (bnot_of c492) ?_
           refine G.skip ?_
           refine G.seq ?_
           refine G.seq ?_
           obtain ⟨t521, h522, H⟩ := Option.bind_eq_some_iff.1 H
           rcases ite_elim H with ⟨c525, H⟩ | ⟨c525, H⟩
           ·
            obtain ⟨c526, H⟩ := ite_none H
            obtain ⟨e527, h528, H⟩ := bnd_elim H
            refine G.region ?_
            refine GO.move rfl rfl rfl ?_
            refine GO.move rfl rfl rfl ?_
            refine GO.fn rfl Try.func46 fok46.1 fok46.2 rfl rfl (impl_hasIndex_impl_end.calls HS (RdIn.own (j := 2) rfl) h522) (fun _ wd523 ⟨h524, HS⟩ => ⟨_, h524, ?_⟩)
            refine GO.not rfl rfl rfl ?_
            refine GO.move rfl rfl rfl ?_
            refine GO.known (t := 49) rfl (congrArg Bool.not c525) ?_
            refine GO.on rfl rfl rfl rfl ?_
            refine GO.move rfl rfl rfl ?_
            refine GO.back ?_
            refine GO.on rfl rfl rfl rfl ?_
            refine GO.move rfl rfl rfl ?_
            refine GO.back ?_
            refine GO.on rfl rfl rfl rfl ?_
            refine GO.ix rfl rfl rfl Try.underlying61 sz68 ((RdIn.own (j := 2) rfl) _ HS).2.2.1 c526.1 c526.2 rfl ?_
            refine GO.back ?_
            refine GO.on rfl rfl rfl rfl ?_
            refine GO.fld (ea A9 (((([t372, t373, t374, t375] : List Int).getD x430.toNat 0).toNat) * 2)) rfl rfl fl68_0 rfl rfl ?_
            refine GO.back ?_
            refine GO.on rfl rfl rfl rfl ?_
            refine GO.ldRd (T := T_GEnd) (n := (([t372, t373, t374, t375] : List Int).getD x430.toNat 0).toNat) (o := 0) HS (RdIn.own (j := 2) rfl) rfl rfl (getD_eq (ltN c526) h528) rfl rfl na2 rfl ?_
            refine GO.back ?_
            refine GO.on rfl rfl rfl rfl ?_
            refine GO.geq rfl rfl rfl rfl ?_
            refine GO.back ?_
            refine GO.pickF rfl rfl rfl rfl rfl ?_
            refine GO.nil ?_
            rcases ite_elim H with ⟨c529, H⟩ | ⟨c529, H⟩
            ·
             refine G.yesB rfl (decide_eq_true c529) ?_
             refine G.seq ?_
             refine G.region ?_
             refine GO.ldBoxA (j := 1) ([.slice A9 a_428.length c10, .slice A17 a_429.length c18]) HS rfl rfl rfl rfl ag63 rfl ?_
             refine GO.stBox (j := 0) (vs := [.slice A9 a_428.length c10, .slice A17 a_429.length c18]) ([.slice A9 a_428.length c10, .slice A17 a_429.length c18]) HS rfl rfl rfl rfl rfl (htA ag63) rfl rfl rfl ?_; intro wd530 HS
             refine GO.assign rfl rfl rfl ?_
             refine GO.nil ?_
             obtain ⟨rfl, rfl, rfl⟩ := some3 H
             exact G.ret2 _ _ Try.func58 rfl (Res1.boxA (j := 0) (vs := [.slice A9 a_428.length c10, .slice A17 a_429.length c18]) HS rfl rfl rfl ag63) rfl ⟨_, _, _, _, rfl, (HS.pk 5 [2, 3] rfl)⟩
            ·
             refine G.noB rfl (decide_eq_false c529) ?_
             refine G.skip ?_
             refine G.region ?_
             refine GO.move rfl rfl rfl ?_
             refine GO.move rfl rfl rfl ?_
             refine GO.move rfl rfl rfl ?_
             refine GO.move rfl rfl rfl ?_
             refine GO.buildV (.agg [.int .i64 x195, .int .i64 x430].toArray) rfl rfl (fun _ => by kernel_rfl) rfl ?_
             refine GO.ix rfl rfl rfl Try.underlying61 sz68 ((RdIn.own (j := 2) rfl) _ HS).2.2.1 c526.1 c526.2 rfl ?_
             refine GO.stRow (T := T_GEnd) (j := 2) (n := (([t372, t373, t374, t375] : List Int).getD x430.toNat 0).toNat) (o := 0) (vs := [.int .i64 x195, .int .i64 x430]) (⟨x195, x430⟩ : GEnd) HS rfl flat_flat rfl rfl rfl rfl (htA ag68) rfl (getD_some (d := z_GEnd) (ltN c526)) rfl rfl ?_; intro wd531 HS
             refine GO.nil ?_
             refine G.len (t := 50) (m := (a_428.set ((([t372, t373, t374, t375] : List Int).getD x430.toNat 0).toNat) (⟨x195, x430⟩ : GEnd)).length) rfl (by simp only [List.length_set] <;> rfl) ?_
             replace HS := HS.boxEq (j := 1) (cs' := [.slice A9 (a_428.set ((([t372, t373, t374, t375] : List Int).getD x430.toNat 0).toNat) (⟨x195, x430⟩ : GEnd)).length c10, .slice A17 a_429.length c18]) rfl (by simp only [List.length_set] <;> rfl)
             refine G.blockEnd ?_
             refine G.region ?_
             refine GO.add rfl rfl rfl rfl ?_
             refine GO.move rfl rfl rfl ?_
             refine GO.nil ?_
             refine G.again ?_
             refine G.weak ?_ (ih_l10 n_l10 (Nat.lt_succ_of_le (Nat.le_refl _)) (Nat.le_of_succ_le hm_l10) _ _ _ _ H HS)
             exact ⟨rfl, rfl, rfl, rfl, rfl, rfl, rfl, rfl, rfl, trivial⟩
           ·
            refine G.region ?_
            refine GO.move rfl rfl rfl ?_
            refine GO.move rfl rfl rfl ?_
            refine GO.fn rfl Try.func46 fok46.1 fok46.2 rfl rfl (impl_hasIndex_impl_end.calls HS (RdIn.own (j := 2) rfl) h522) (fun _ wd523 ⟨h524, HS⟩ => ⟨_, h524, ?_⟩)
            refine GO.not rfl rfl rfl ?_
            refine GO.move rfl rfl rfl ?_
            refine GO.known (t := 49) rfl (congrArg Bool.not (bnot_of c525)) ?_
            refine GO.off rfl rfl rfl rfl rfl rfl ?_
            refine GO.off rfl rfl rfl rfl rfl rfl ?_
            refine GO.off rfl rfl rfl rfl rfl rfl ?_
            refine GO.off rfl rfl rfl rfl rfl rfl ?_
            refine GO.off rfl rfl rfl rfl rfl rfl ?_
            refine GO.off rfl rfl rfl rfl rfl rfl ?_
            refine GO.pickT rfl rfl rfl rfl rfl ?_
            refine GO.nil ?_
            refine G.yesB rfl rfl ?_
            refine G.seq ?_
            refine G.region ?_
            refine GO.ldBoxA (j := 1) ([.slice A9 a_428.length c10, .slice A17 a_429.length c18]) HS rfl rfl rfl rfl ag63 rfl ?_
            refine GO.stBox (j := 0) (vs := [.slice A9 a_428.length c10, .slice A17 a_429.length c18]) ([.slice A9 a_428.length c10, .slice A17 a_429.length c18]) HS rfl rfl rfl rfl rfl (htA ag63) rfl rfl rfl ?_; intro wd532 HS
            refine GO.assign rfl rfl rfl ?_
            refine GO.nil ?_
            obtain ⟨rfl, rfl, rfl⟩ := some3 H
            exact G.ret2 _ _ Try.func58 rfl (Res1.boxA (j := 0) (vs := [.slice A9 a_428.length c10, .slice A17 a_429.length c18]) HS rfl rfl rfl ag63) rfl ⟨_, _, _, _, rfl, (HS.pk 5 [2, 3] rfl)⟩
         ·
          refine G.noB rfl (decide_eq_false c482) ?_
          refine G.exit rfl ?_
          refine G.blockEnd ?_
          refine G.region ?_
          refine GO.add rfl rfl rfl rfl ?_
          refine GO.move rfl rfl rfl ?_
          refine GO.nil ?_
          refine G.again ?_
          refine G.weak ?_ (ih_l1 n_l10 (Nat.lt_succ_of_le (Nat.le_of_succ_le hm_l10)) (Nat.le_trans (Nat.le_of_succ_le hm_l10) (Nat.le_of_succ_le hm_l1)) _ _ _ _ H (HS.pk 5 [0, 1, 2, 3] rfl))
          exact ⟨rfl, rfl, rfl, rfl, rfl, trivial⟩
      refine G.weak ?_ (at_l10 n_l1 (Nat.le_refl _) _ _ _ _ H (HS.pk 5 [1, 2, 3, 4, 0] rfl))
      exact ⟨rfl, rfl, rfl, rfl, rfl, rfl, rfl, rfl, rfl, trivial⟩
     ·
      refine G.noB rfl (decide_eq_false c365) ?_
      refine G.exit rfl ?_
      refine G.seq ?_
      refine G.region ?_
      refine GO.ldBoxA (j := 1) ([.slice A9 a_193.length c10, .slice A17 a_194.length c18]) HS rfl rfl rfl rfl ag63 rfl ?_
      refine GO.stBox (j := 0) (vs := [.slice A9 a_193.length c10, .slice A17 a_194.length c18]) ([.slice A9 a_193.length c10, .slice A17 a_194.length c18]) HS rfl rfl rfl rfl rfl (htA ag63) rfl rfl rfl ?_; intro wd533 HS
      refine GO.assign rfl rfl rfl ?_
      refine GO.nil ?_
      obtain ⟨rfl, rfl, rfl⟩ := some3 H
      exact G.ret2 _ _ Try.func58 rfl (Res1.boxA (j := 0) (vs := [.slice A9 a_193.length c10, .slice A17 a_194.length c18]) HS rfl rfl rfl ag63) rfl ⟨_, _, _, _, rfl, (HS.pk 4 [2, 3] rfl)⟩
  refine G.weak ?_ (at_l1 K (Nat.le_refl _) _ _ _ _ H (HS.pk 7 [5, 0, 3, 1] rfl))
  exact ⟨rfl, rfl, rfl, rfl, rfl, trivial⟩

set_option maxRecDepth 20000 in
set_option maxHeartbeats 40000000 in
theorem impl_Diagram_other.calls {w0 w : World} {L : List HObj} {d_Crossings : List GCrossing} {d_Circles : Int} {a_from : List GEnd} {a_to : List GEnd} {e_crossing : Int} {e_position : Int} {A_d_Crossings : Option Addr} {c_d_Crossings : Nat} {A_a_from : Option Addr} {c_a_from : Nat} {A_a_to : Option Addr} {c_a_to : Nat} {r1 : Int} {r2 : Int} (HS : St w0 w (L)) (h_d_Crossings : RdIn w0 L T_GCrossing A_d_Crossings c_d_Crossings (fun _ => ()) d_Crossings) (h_a_from : RdIn w0 L T_GEnd A_a_from c_a_from (fun _ => ()) a_from) (h_a_to : RdIn w0 L T_GEnd A_a_to c_a_to (fun _ => ()) a_to) (H : impl_Diagram_other.f d_Crossings d_Circles a_from a_to e_crossing e_position = some (r1, r2)) :
    Calls Try.prog 161 #[.agg [.slice A_d_Crossings d_Crossings.length c_d_Crossings, .int .i64 d_Circles].toArray, .agg [.slice A_a_from a_from.length c_a_from, .slice A_a_to a_to.length c_a_to].toArray, .agg [.int .i64 e_crossing, .int .i64 e_position].toArray] w (impl_Diagram_other.post w0 L d_Crossings d_Circles a_from a_to e_crossing e_position A_d_Crossings c_d_Crossings A_a_from c_a_from A_a_to c_a_to r1 r2) := by
  unfold impl_Diagram_other.f at H
  refine Calls.of_G Try.func161 rfl rfl rfl ?_
  refine G.seq ?_
  refine G.region ?_
  refine GO.box (cs := [.slice A_d_Crossings d_Crossings.length c_d_Crossings, .int .i64 d_Circles]) HS rfl rfl rfl rfl ?_; intro b1 wd2 HS
  refine GO.box (cs := [.slice A_a_from a_from.length c_a_from, .slice A_a_to a_to.length c_a_to]) HS rfl rfl rfl rfl ?_; intro b3 wd4 HS
  refine GO.box (cs := [.int .i64 e_crossing, .int .i64 e_position]) HS rfl rfl rfl rfl ?_; intro b5 wd6 HS
  refine GO.alloc HS rfl zr68 rfl rfl ?_; intro b7 wd8 HS
  refine GO.nil ?_
  refine G.seq ?_
  obtain ⟨c9, H⟩ := ite_none H
  obtain ⟨e10, h11, H⟩ := bnd_elim H
  refine G.region ?_
  refine GO.fld (⟨b1, 0, none⟩) rfl rfl fl28_0 rfl rfl ?_
  refine GO.ldBox (j := 3) HS rfl rfl rfl rfl na26 rfl ?_
  refine GO.fld (⟨b5, 0, none⟩) rfl rfl fl68_0 rfl rfl ?_
  refine GO.ldBox (j := 1) HS rfl rfl rfl rfl na2 rfl ?_
  refine GO.ix rfl rfl rfl Try.underlying26 sz58 ((RdIn.drop 4 h_d_Crossings) _ HS).2.2.1 c9.1 c9.2 rfl ?_
  refine GO.ldRdA (T := T_GCrossing) (n := e_crossing.toNat) HS (RdIn.drop 4 h_d_Crossings) rfl rfl (getD_eq (ltN c9) h11) ag58 rfl ?_
  refine GO.alloc HS rfl zr58 rfl rfl ?_; intro b12 wd13 HS
  refine GO.stBox (j := 0) (vs := [.int .i64 e10.A, .int .i64 e10.B, .int .i64 e10.C, .int .i64 e10.D, .int .i64 e10.Sign]) ([.int .i64 e10.A, .int .i64 e10.B, .int .i64 e10.C, .int .i64 e10.D, .int .i64 e10.Sign]) HS rfl rfl rfl rfl rfl (htA ag58) rfl rfl rfl ?_; intro wd14 HS
  refine GO.nil ?_
  refine G.seq ?_
  obtain ⟨t15, t16, t17, t18, h19, H⟩ := bind4_elim H
  obtain ⟨c22, H⟩ := ite_none H
  refine G.regionAny mixed (by decide) (fun b a w => ∃ (Y1_0 : Value) (Y2_1 : Value) (Y3_2 : Value) (Y4_3 : Value) (Y5_4 : Value) (Y6_5 : Value), Sat 34 [(8, Y6_5), (15, Y1_0), (16, Y2_1), (17, Y3_2), (18, Y4_3), (19, Y5_4), (4, .pointer (some ⟨b3, 0, none⟩)), (5, .pointer (some ⟨b5, 0, none⟩)), (6, .pointer (some ⟨b7, 0, none⟩)), (7, .pointer (some ⟨b12, 0, none⟩))] a ∧ St w0 w (Box b12 58 [.int .i64 e10.A, .int .i64 e10.B, .int .i64 e10.C, .int .i64 e10.D, .int .i64 e10.Sign] :: Box b7 68 [.int .i64 0, .int .i64 0] :: Box b5 68 [.int .i64 e_crossing, .int .i64 e_position] :: Box b3 63 [.slice A_a_from a_from.length c_a_from, .slice A_a_to a_to.length c_a_to] :: Box b1 28 [.slice A_d_Crossings d_Crossings.length c_d_Crossings, .int .i64 d_Circles] :: L) ∧ (b 5 = true → Y6_5 = (.int .i64 (([t15, t16, t17, t18] : List Int).getD e_position.toNat 0))) ∧ (b 0 = true → Y1_0 = (.agg [.int .i64 e10.A, .int .i64 e10.B, .int .i64 e10.C, .int .i64 e10.D, .int .i64 e10.Sign].toArray)) ∧ (b 1 = true → Y2_1 = (.agg [.int .i64 t15, .int .i64 t16, .int .i64 t17, .int .i64 t18].toArray)) ∧ (b 2 = true → Y3_2 = (.pointer (some ⟨b5, 1, none⟩))) ∧ (b 3 = true → Y4_3 = (.int .i64 e_position)) ∧ (b 4 = true → Y5_4 = (.int .i64 (([t15, t16, t17, t18] : List Int).getD e_position.toNat 0)))) ?_ ?_ ?_
  ·
   intro a hs
   obtain ⟨Y6_5, hs⟩ := hs.ext (d := 8) rfl
   obtain ⟨Y1_0, hs⟩ := hs.ext (d := 15) rfl
   obtain ⟨Y2_1, hs⟩ := hs.ext (d := 16) rfl
   obtain ⟨Y3_2, hs⟩ := hs.ext (d := 17) rfl
   obtain ⟨Y4_3, hs⟩ := hs.ext (d := 18) rfl
   obtain ⟨Y5_4, hs⟩ := hs.ext (d := 19) rfl
   exact ⟨Y1_0, Y2_1, Y3_2, Y4_3, Y5_4, Y6_5, hs.weak ⟨rfl, rfl, rfl, rfl, rfl, rfl, rfl, rfl, rfl, rfl, trivial⟩, (HS.drew.pk 5 [0, 1, 2, 3, 4] rfl), fun h => Bool.noConfusion h, fun h => Bool.noConfusion h, fun h => Bool.noConfusion h, fun h => Bool.noConfusion h, fun h => Bool.noConfusion h, fun h => Bool.noConfusion h⟩
  ·
   intro j hj b a w
   refine exI fun Y1_0 => exI fun Y2_1 => exI fun Y3_2 => exI fun Y4_3 => exI fun Y5_4 => exI fun Y6_5 => anI fun hs => anI fun HS => anI fun f5 => anI fun f0 => anI fun f1 => anI fun f2 => anI fun f3 => fun f4 hb hd hcl => ?_
   match j, hj with
   | 0, _ =>
    refine GO.at hs ?_
    refine GO.ldBoxA (j := 0) ([.int .i64 e10.A, .int .i64 e10.B, .int .i64 e10.C, .int .i64 e10.D, .int .i64 e10.Sign]) HS rfl rfl rfl rfl ag58 rfl ?_
    refine GO.fin (fun a hs => ?_)
    exact ⟨(.agg [.int .i64 e10.A, .int .i64 e10.B, .int .i64 e10.C, .int .i64 e10.D, .int .i64 e10.Sign].toArray), _, _, _, _, _, by exact hs.setAt 1 rfl, HS, f5, fun _ => rfl, f1, f2, f3, f4⟩
   | 1, _ =>
    have hb0 : b 0 = true := hd 0 (by decide)
    obtain rfl := f0 hb0
    refine GO.at hs ?_
    refine GO.fn rfl Try.func75 fok75.1 fok75.2 rfl rfl (impl_Crossing_ends.calls HS  h19) (fun _ wd20 ⟨h21, HS⟩ => ⟨_, h21, ?_⟩)
    refine GO.fin (fun a hs => ?_)
    exact ⟨_, (.agg [.int .i64 t15, .int .i64 t16, .int .i64 t17, .int .i64 t18].toArray), _, _, _, _, by exact hs.setAt 2 rfl, HS, f5, f0, fun _ => rfl, f2, f3, f4⟩
   | 2, _ =>
    refine GO.at hs ?_
    refine GO.fld (⟨b5, 1, none⟩) rfl rfl fl68_1 rfl rfl ?_
    refine GO.fin (fun a hs => ?_)
    exact ⟨_, _, (.pointer (some ⟨b5, 1, none⟩)), _, _, _, by exact hs.setAt 3 rfl, HS, f5, f0, f1, fun _ => rfl, f3, f4⟩
   | 3, _ =>
    have hb2 : b 2 = true := hd 2 (by decide)
    obtain rfl := f2 hb2
    refine GO.at hs ?_
    refine GO.ldBox (j := 2) HS rfl rfl rfl rfl na2 rfl ?_
    refine GO.fin (fun a hs => ?_)
    exact ⟨_, _, _, (.int .i64 e_position), _, _, by exact hs.setAt 4 rfl, HS, f5, f0, f1, f2, fun _ => rfl, f4⟩
   | 4, _ =>
    have hb1 : b 1 = true := hd 1 (by decide)
    obtain rfl := f1 hb1
    have hb3 : b 3 = true := hd 3 (by decide)
    obtain rfl := f3 hb3
    refine GO.at hs ?_
    refine GO.ixArr ([t15, t16, t17, t18] : List Int) rfl rfl rfl Try.underlying93 Try.underlying2 sz2 rfl c22.1 c22.2 rfl ?_
    refine GO.fin (fun a hs => ?_)
    exact ⟨_, _, _, _, (.int .i64 (([t15, t16, t17, t18] : List Int).getD e_position.toNat 0)), _, by exact hs.setAt 5 rfl, HS, f5, f0, f1, f2, f3, fun _ => rfl⟩
   | 5, _ =>
    have hb4 : b 4 = true := hd 4 (by decide)
    obtain rfl := f4 hb4
    refine GO.at hs ?_
    refine GO.assign rfl rfl rfl ?_
    refine GO.fin (fun a hs => ?_)
    exact ⟨_, _, _, _, _, (.int .i64 (([t15, t16, t17, t18] : List Int).getD e_position.toNat 0)), by exact hs.setAt 0 rfl, HS, fun _ => rfl, f0, f1, f2, f3, f4⟩
   | k + 6, hj => exact absurd hj (Nat.not_lt.2 (Nat.le_add_left 6 k))
  ·
   intro b a w hall
   refine exI fun Y1_0 => exI fun Y2_1 => exI fun Y3_2 => exI fun Y4_3 => exI fun Y5_4 => exI fun Y6_5 => anI fun hs => anI fun HS => anI fun f5 => anI fun f0 => anI fun f1 => anI fun f2 => anI fun f3 => fun f4 => ?_
   obtain rfl := f5 (hall 5 (by decide))
   obtain rfl := f0 (hall 0 (by decide))
   obtain rfl := f1 (hall 1 (by decide))
   obtain rfl := f2 (hall 2 (by decide))
   obtain rfl := f3 (hall 3 (by decide))
   obtain rfl := f4 (hall 4 (by decide))
   refine G.at hs ?_
   refine G.seq ?_
   refine G.seq ?_
   obtain ⟨t23, h24, H⟩ := Option.bind_eq_some_iff.1 H
   refine G.region ?_
   refine GO.ldBoxA (j := 0) ([.int .i64 e10.A, .int .i64 e10.B, .int .i64 e10.C, .int .i64 e10.D, .int .i64 e10.Sign]) HS rfl rfl rfl rfl ag58 rfl ?_
   refine GO.fld (⟨b5, 1, none⟩) rfl rfl fl68_1 rfl rfl ?_
   refine GO.ldBox (j := 2) HS rfl rfl rfl rfl na2 rfl ?_
   refine GO.fn rfl Try.func117 fok117.1 fok117.2 rfl rfl (impl_Crossing_enters.calls HS  h24) (fun _ wd25 ⟨h26, HS⟩ => ⟨_, h26, ?_⟩)
   refine GO.nil ?_
   rcases ite_elim H with ⟨c27, H⟩ | ⟨c27, H⟩
   ·
    refine G.yesB rfl c27 ?_
    refine G.seq ?_
    obtain ⟨c28, H⟩ := ite_none H
    obtain ⟨e29, h30, H⟩ := bnd_elim H
    refine G.region ?_
    refine GO.fld (⟨b3, 0, none⟩) rfl rfl fl63_0 rfl rfl ?_
    refine GO.ldBox (j := 3) HS rfl rfl rfl rfl na61 rfl ?_
    refine GO.move rfl rfl rfl ?_
    refine GO.ix rfl rfl rfl Try.underlying61 sz68 ((RdIn.drop 5 h_a_from) _ HS).2.2.1 c28.1 c28.2 rfl ?_
    refine GO.ldRdA (T := T_GEnd) (n := (([t15, t16, t17, t18] : List Int).getD e_position.toNat 0).toNat) HS (RdIn.drop 5 h_a_from) rfl rfl (getD_eq (ltN c28) h30) ag68 rfl ?_
    refine GO.stBox (j := 1) (vs := [.int .i64 e29.crossing, .int .i64 e29.position]) ([.int .i64 e29.crossing, .int .i64 e29.position]) HS rfl rfl rfl rfl rfl (htA ag68) rfl rfl rfl ?_; intro wd31 HS
    refine GO.nil ?_
    obtain ⟨rfl, rfl⟩ := some2 H
    exact G.ret1 _ Try.func161 rfl (Res1.boxA (j := 1) (vs := [.int .i64 e29.crossing, .int .i64 e29.position]) HS rfl rfl rfl ag68) ⟨rfl, (HS.pk 5 [] rfl)⟩
   ·
    refine G.noB rfl (bnot_of c27) ?_
    refine G.skip ?_
    refine G.seq ?_
    obtain ⟨c32, H⟩ := ite_none H
    obtain ⟨e33, h34, H⟩ := bnd_elim H
    refine G.region ?_
    refine GO.fld (⟨b3, 1, none⟩) rfl rfl fl63_1 rfl rfl ?_
    refine GO.ldBox (j := 3) HS rfl rfl rfl rfl na61 rfl ?_
    refine GO.move rfl rfl rfl ?_
    refine GO.ix rfl rfl rfl Try.underlying61 sz68 ((RdIn.drop 5 h_a_to) _ HS).2.2.1 c32.1 c32.2 rfl ?_
    refine GO.ldRdA (T := T_GEnd) (n := (([t15, t16, t17, t18] : List Int).getD e_position.toNat 0).toNat) HS (RdIn.drop 5 h_a_to) rfl rfl (getD_eq (ltN c32) h34) ag68 rfl ?_
    refine GO.stBox (j := 1) (vs := [.int .i64 e33.crossing, .int .i64 e33.position]) ([.int .i64 e33.crossing, .int .i64 e33.position]) HS rfl rfl rfl rfl rfl (htA ag68) rfl rfl rfl ?_; intro wd35 HS
    refine GO.nil ?_
    obtain ⟨rfl, rfl⟩ := some2 H
    exact G.ret1 _ Try.func161 rfl (Res1.boxA (j := 1) (vs := [.int .i64 e33.crossing, .int .i64 e33.position]) HS rfl rfl rfl ag68) ⟨rfl, (HS.pk 5 [] rfl)⟩

set_option maxRecDepth 20000 in
set_option maxHeartbeats 40000000 in
theorem impl_Diagram_regions.calls {w0 w : World} {L : List HObj} {K : Nat} {d_Crossings : List GCrossing} {d_Circles : Int} {a_from : List GEnd} {a_to : List GEnd} {A_d_Crossings : Option Addr} {c_d_Crossings : Nat} {A_a_from : Option Addr} {c_a_from : Nat} {A_a_to : Option Addr} {c_a_to : Nat} {r1 : List (List Int)} (HS : St w0 w (L)) (h_d_Crossings : RdIn w0 L T_GCrossing A_d_Crossings c_d_Crossings (fun _ => ()) d_Crossings) (h_a_from : RdIn w0 L T_GEnd A_a_from c_a_from (fun _ => ()) a_from) (h_a_to : RdIn w0 L T_GEnd A_a_to c_a_to (fun _ => ()) a_to) (H : impl_Diagram_regions.f K d_Crossings d_Circles a_from a_to = some r1) :
    Calls Try.prog 111 #[.agg [.slice A_d_Crossings d_Crossings.length c_d_Crossings, .int .i64 d_Circles].toArray, .agg [.slice A_a_from a_from.length c_a_from, .slice A_a_to a_to.length c_a_to].toArray] w (impl_Diagram_regions.post w0 L d_Crossings d_Circles a_from a_to A_d_Crossings c_d_Crossings A_a_from c_a_from A_a_to c_a_to r1) := by
  unfold impl_Diagram_regions.f at H
  refine Calls.of_G Try.func111 rfl rfl rfl ?_
  refine G.seq ?_
  refine G.region ?_
  refine GO.box (cs := [.slice A_d_Crossings d_Crossings.length c_d_Crossings, .int .i64 d_Circles]) HS rfl rfl rfl rfl ?_; intro b1 wd2 HS
  refine GO.box (cs := [.slice A_a_from a_from.length c_a_from, .slice A_a_to a_to.length c_a_to]) HS rfl rfl rfl rfl ?_; intro b3 wd4 HS
  refine GO.assign rfl rfl rfl ?_
  refine GO.nil ?_
  refine G.seq ?_
  refine G.region ?_
  refine GO.assign rfl rfl rfl ?_
  refine GO.nil ?_
  refine G.seq ?_
  obtain ⟨c5, H⟩ := ite_none H
  obtain ⟨c6, H⟩ := ite_none H
  refine G.region ?_
  refine GO.fld (⟨b1, 0, none⟩) rfl rfl fl28_0 rfl rfl ?_
  refine GO.ldBox (j := 1) HS rfl rfl rfl rfl na26 rfl ?_
  refine GO.lenS rfl rfl Try.underlying26 rfl ?_
  refine GO.mul rfl rfl rfl rfl ?_
  refine GO.make (T := TBool) false () HS flat_flat rfl rfl rfl Try.underlying83 inf4 rfl rfl rfl c5 c6 rfl ?_; intro b7 wd8 HS
  refine GO.assign rfl rfl rfl ?_
  refine GO.nil ?_
  refine G.seq ?_
  refine G.seq ?_
  refine G.region ?_
  refine GO.move rfl rfl rfl ?_
  refine GO.lenS rfl rfl Try.underlying83 rfl ?_
  refine GO.move rfl rfl rfl ?_
  refine GO.nil ?_
  refine G.block ?_
  refine G.loop ?_
  refine G.name (fun k_l1 hk_l1 => ?_)
  have at_l1 : ∀ m_l1, m_l1 ≤ K → ∀ (A82 : Option Addr) (c83 : Nat) (out_84 : List (List Int)) (y85 : Nat → (Ty.slice 2 (TInt .i64)).Lay) (seen_86 : List Bool) (x87 : Int) (w : World), impl_Diagram_regions.l1 K m_l1 d_Crossings d_Circles a_from a_to out_84 seen_86 x87 = some r1 → St w0 w (Box b1 28 [.slice A_d_Crossings d_Crossings.length c_d_Crossings, .int .i64 d_Circles] :: Box b3 63 [.slice A_a_from a_from.length c_a_from, .slice A_a_to a_to.length c_a_to] :: Own (Ty.slice 2 (TInt .i64)) 43 A82 c83 y85 out_84 :: Own TBool 4 (some ⟨b7, 0, none⟩) ((w64 (4 * (d_Crossings.length : Int))).toNat) (fun _ => ()) seen_86 :: L) → G Try.prog 111 58 [(2, .pointer (some ⟨b1, 0, none⟩)), (3, .pointer (some ⟨b3, 0, none⟩)), (5, .slice A82 out_84.length c83), (6, .slice (some ⟨b7, 0, none⟩) seen_86.length ((w64 (4 * (d_Crossings.length : Int))).toNat)), (17, .int .i64 ((List.replicate (w64 (4 * (d_Crossings.length : Int))).toNat false).length : Int)), (18, .int .i64 x87)] k_l1 w (impl_Diagram_regions.post w0 L d_Crossings d_Circles a_from a_to A_d_Crossings c_d_Crossings A_a_from c_a_from A_a_to c_a_to r1) := by
   intro m_l1
   induction m_l1 using Nat.strongRecOn with
   | _ m_l1 ih_l1 =>
    intro hm_l1 A82 c83 out_84 y85 seen_86 x87 w H HS
    cases m_l1 with
    | zero => rw [impl_Diagram_regions.l1] at H; cases H
    | succ n_l1 =>
     rw [impl_Diagram_regions.l1] at H
     subst hk_l1
     refine G.seq ?_
     refine G.region ?_
     refine GO.lss rfl rfl rfl rfl ?_
     refine GO.nil ?_
     refine G.seq ?_
     rcases ite_elim H with ⟨c161, H⟩ | ⟨c161, H⟩
     ·
      refine G.yesB rfl (decide_eq_true c161) ?_
      refine G.skip ?_
      refine G.seq ?_
      refine G.block ?_
      refine G.seq ?_
      refine G.region ?_
      refine GO.move rfl rfl rfl ?_
      refine GO.assign rfl rfl rfl ?_
      refine GO.nil ?_
      refine G.seq ?_
      refine G.region ?_
      refine GO.assign rfl rfl rfl ?_
      refine GO.nil ?_
      refine G.seq ?_
      refine G.seq ?_
      refine G.region ?_
      refine GO.move rfl rfl rfl ?_
      refine GO.assign rfl rfl rfl ?_
      refine GO.nil ?_
      refine G.block ?_
      refine G.loop ?_
      refine G.name (fun k_l4 hk_l4 => ?_)
      have at_l4 : ∀ m_l4, m_l4 ≤ n_l1 → ∀ (seen_179 : List Bool) (A180 : Option Addr) (c181 : Nat) (region_182 : List Int) (k_183 : Int) (w : World), impl_Diagram_regions.l4 K m_l4 d_Crossings d_Circles a_from a_to out_84 x87 seen_179 region_182 k_183 = some r1 → St w0 w (Box b1 28 [.slice A_d_Crossings d_Crossings.length c_d_Crossings, .int .i64 d_Circles] :: Box b3 63 [.slice A_a_from a_from.length c_a_from, .slice A_a_to a_to.length c_a_to] :: Own (Ty.slice 2 (TInt .i64)) 43 A82 c83 y85 out_84 :: Own TBool 4 (some ⟨b7, 0, none⟩) ((w64 (4 * (d_Crossings.length : Int))).toNat) (fun _ => ()) seen_179 :: Own (TInt .i64) 2 A180 c181 (fun _ => ()) region_182 :: L) → G Try.prog 111 58 [(2, .pointer (some ⟨b1, 0, none⟩)), (3, .pointer (some ⟨b3, 0, none⟩)), (5, .slice A82 out_84.length c83), (6, .slice (some ⟨b7, 0, none⟩) seen_179.length ((w64 (4 * (d_Crossings.length : Int))).toNat)), (8, .slice A180 region_182.length c181), (9, .int .i64 k_183), (17, .int .i64 ((List.replicate (w64 (4 * (d_Crossings.length : Int))).toNat false).length : Int)), (18, .int .i64 x87)] k_l4 w (impl_Diagram_regions.post w0 L d_Crossings d_Circles a_from a_to A_d_Crossings c_d_Crossings A_a_from c_a_from A_a_to c_a_to r1) := by
       intro m_l4
       induction m_l4 using Nat.strongRecOn with
       | _ m_l4 ih_l4 =>
        intro hm_l4 seen_179 A180 c181 region_182 k_183 w H HS
        cases m_l4 with
        | zero => rw [impl_Diagram_regions.l4] at H; cases H
        | succ n_l4 =>
         rw [impl_Diagram_regions.l4] at H
         subst hk_l4
         refine G.seq ?_
         refine G.seq ?_
         obtain ⟨c209, H⟩ := ite_none H
         refine G.region ?_
         refine GO.move rfl rfl rfl ?_
         refine GO.move rfl rfl rfl ?_
         refine GO.ix rfl rfl rfl Try.underlying83 sz4 (fun _ => ⟨_, _, rfl⟩) c209.1 c209.2 rfl ?_
         refine GO.ldRd (T := TBool) (n := k_183.toNat) (o := 0) HS (RdIn.own (j := 3) rfl) rfl rfl (getD_some (d := false) (ltN c209)) rfl rfl na4 rfl ?_
         refine GO.not rfl rfl rfl ?_
         refine GO.nil ?_
         rcases ite_elim H with ⟨c210, H⟩ | ⟨c210, H⟩
         ·
          refine G.noB rfl (congrArg Bool.not c210) ?_
          refine G.exit rfl ?_
          refine G.seq ?_
          refine G.region ?_
          refine GO.move rfl rfl rfl ?_
          refine GO.lenS rfl rfl Try.underlying43 rfl ?_
          refine GO.gtr rfl rfl rfl rfl ?_
          refine GO.nil ?_
          rcases ite_elim H with ⟨c211, H⟩ | ⟨c211, H⟩
          ·
           refine G.yesB rfl (decide_eq_true c211) ?_
           obtain ⟨c217, H⟩ := ite_none H
           refine G.region ?_
           refine GO.move rfl rfl rfl ?_
           refine GO.move rfl rfl rfl ?_
           refine GO.buildS (el := 43) ([.slice A180 region_182.length c181]) HS rfl rfl (fun _ => by kernel_rfl) rfl ?_; intro b212 wd213 HS
           replace HS := HS.pk 6 [3, 0, 5, 1, 2, 4] rfl
           refine GO.appR (S := (TInt .i64)) (u := 2) HS rfl rfl rfl Try.underlying42 inf43 rfl rfl c217 rfl ?_; intro A215 c216 y218 wd214 HS
           refine GO.assign rfl rfl rfl ?_
           refine GO.nil ?_
           refine G.blockEnd ?_
           refine G.region ?_
           refine GO.add rfl rfl rfl rfl ?_
           refine GO.move rfl rfl rfl ?_
           refine GO.nil ?_
           refine G.again ?_
           refine G.weak ?_ (ih_l1 n_l4 (Nat.lt_succ_of_le (Nat.le_of_succ_le hm_l4)) (Nat.le_trans (Nat.le_of_succ_le hm_l4) (Nat.le_of_succ_le hm_l1)) _ _ _ _ _ _ _ H (HS.pk 5 [2, 3, 0, 4] rfl))
           exact ⟨rfl, rfl, rfl, rfl, rfl, rfl, trivial⟩
          ·
           refine G.noB rfl (decide_eq_false c211) ?_
           refine G.skip ?_
           refine G.blockEnd ?_
           refine G.region ?_
           refine GO.add rfl rfl rfl rfl ?_
           refine GO.move rfl rfl rfl ?_
           refine GO.nil ?_
           refine G.again ?_
           refine G.weak ?_ (ih_l1 n_l4 (Nat.lt_succ_of_le (Nat.le_of_succ_le hm_l4)) (Nat.le_trans (Nat.le_of_succ_le hm_l4) (Nat.le_of_succ_le hm_l1)) _ _ _ _ _ _ _ H (HS.pk 5 [0, 1, 2, 3] rfl))
           exact ⟨rfl, rfl, rfl, rfl, rfl, rfl, trivial⟩
         ·
          refine G.yesB rfl (congrArg Bool.not (bnot_of c210)) ?_
          refine G.skip ?_
          refine G.block ?_
          refine G.seq ?_
          refine G.region ?_
          refine GO.move rfl rfl rfl ?_
          refine GO.move rfl rfl rfl ?_
          refine GO.ix rfl rfl rfl Try.underlying83 sz4 (fun _ => ⟨_, _, rfl⟩) c209.1 c209.2 rfl ?_
          refine GO.stRow (T := TBool) (j := 3) (n := k_183.toNat) (o := 0) (vs := [.bool true]) true HS rfl flat_flat rfl rfl rfl rfl (htN na4 rfl) rfl (getD_some (d := false) (ltN c209)) rfl rfl ?_; intro wd219 HS
          refine GO.nil ?_
          refine G.len (t := 6) (m := (seen_179.set k_183.toNat true).length) rfl (by simp only [List.length_set] <;> rfl) ?_
          refine G.seq ?_
          obtain ⟨c225, H⟩ := ite_none H
          refine G.region ?_
          refine GO.move rfl rfl rfl ?_
          refine GO.move rfl rfl rfl ?_
          refine GO.buildS (el := 2) ([.int .i64 k_183]) HS rfl rfl (fun _ => by kernel_rfl) rfl ?_; intro b220 wd221 HS
          refine GO.app1 (T := (TInt .i64)) (j := 5) (jb := 0) k_183 HS rfl rfl flat_flat rfl rfl rfl Try.underlying43 inf2 rfl rfl rfl c225 rfl ?_; intro A223 c224 wd222 HS
          refine GO.assign rfl rfl rfl ?_
          refine GO.nil ?_
          refine G.seq ?_
          obtain ⟨t226, t227, h228, H⟩ := bind2_elim H
          refine G.region ?_
          refine GO.ldBoxA (j := 1) ([.slice A_d_Crossings d_Crossings.length c_d_Crossings, .int .i64 d_Circles]) HS rfl rfl rfl rfl ag28 rfl ?_
          refine GO.ldBoxA (j := 2) ([.slice A_a_from a_from.length c_a_from, .slice A_a_to a_to.length c_a_to]) HS rfl rfl rfl rfl ag63 rfl ?_
          refine GO.move rfl rfl rfl ?_
          refine GO.quo rfl rfl rfl (by decide) rfl ?_
          refine GO.move rfl rfl rfl ?_
          refine GO.add rfl rfl rfl rfl ?_
          refine GO.rem rfl rfl rfl (by decide) rfl ?_
          refine GO.buildV (.agg [.int .i64 (w64 (k_183.tdiv 4)), .int .i64 ((w64 (k_183 + 1)).tmod 4)].toArray) rfl rfl (fun _ => by kernel_rfl) rfl ?_
          refine GO.fn rfl Try.func161 fok161.1 fok161.2 rfl rfl (impl_Diagram_other.calls HS (RdIn.drop 6 h_d_Crossings) (RdIn.drop 6 h_a_from) (RdIn.drop 6 h_a_to) h228) (fun _ wd229 ⟨h230, HS⟩ => ⟨_, h230, ?_⟩)
          refine GO.alloc HS rfl zr68 rfl rfl ?_; intro b231 wd232 HS
          refine GO.stBox (j := 0) (vs := [.int .i64 t226, .int .i64 t227]) ([.int .i64 t226, .int .i64 t227]) HS rfl rfl rfl rfl rfl (htA ag68) rfl rfl rfl ?_; intro wd233 HS
          refine GO.nil ?_
          refine G.region ?_
          refine GO.fld (⟨b231, 0, none⟩) rfl rfl fl68_0 rfl rfl ?_
          refine GO.ldBox (j := 0) HS rfl rfl rfl rfl na2 rfl ?_
          refine GO.mul rfl rfl rfl rfl ?_
          refine GO.fld (⟨b231, 1, none⟩) rfl rfl fl68_1 rfl rfl ?_
          refine GO.ldBox (j := 0) HS rfl rfl rfl rfl na2 rfl ?_
          refine GO.add rfl rfl rfl rfl ?_
          refine GO.assign rfl rfl rfl ?_
          refine GO.nil ?_
          refine G.blockEnd ?_
          refine G.again ?_
          refine G.weak ?_ (ih_l4 n_l4 (Nat.lt_succ_of_le (Nat.le_refl _)) (Nat.le_of_succ_le hm_l4) _ _ _ _ _ _ H (HS.pk 7 [2, 3, 4, 5, 6] rfl))
          exact ⟨rfl, rfl, rfl, rfl, rfl, rfl, rfl, rfl, trivial⟩
      replace HS := HS.nilRow (TInt .i64) 2 (fun _ => ())
      refine G.weak ?_ (at_l4 n_l1 (Nat.le_refl _) _ _ _ _ _ _ H (HS.pk 5 [1, 2, 3, 4, 0] rfl))
      exact ⟨rfl, rfl, rfl, rfl, rfl, rfl, rfl, rfl, trivial⟩
     ·
      refine G.noB rfl (decide_eq_false c161) ?_
      refine G.exit rfl ?_
      refine G.seq ?_
      refine G.region ?_
      refine GO.move rfl rfl rfl ?_
      refine GO.assign rfl rfl rfl ?_
      refine GO.nil ?_
      obtain rfl := Option.some.inj H
      exact G.ret1 _ Try.func111 rfl rfl ⟨_, _, _, rfl, (HS.pk 4 [2] rfl)⟩
  replace HS := HS.nilRow (Ty.slice 2 (TInt .i64)) 43 (fun _ => ⟨none, 0, fun _ => ()⟩)
  refine G.weak ?_ (at_l1 K (Nat.le_refl _) _ _ _ _ _ _ _ H (HS.pk 4 [3, 2, 0, 1] rfl))
  exact ⟨rfl, rfl, rfl, rfl, rfl, rfl, trivial⟩

set_option maxRecDepth 20000 in
set_option maxHeartbeats 40000000 in
theorem impl_size_int64.calls {w0 w : World} {L : List HObj} {list : List (List Int)} {A_list : Option Addr} {c_list : Nat} {y_list : Nat → (Ty.slice 2 (TInt .i64)).Lay} {r1 : Int} (HS : St w0 w (L)) (h_list : RdIn w0 L (Ty.slice 2 (TInt .i64)) A_list c_list y_list list) (H : impl_size_int64.f list = some r1) :
    Calls Try.prog 110 #[.slice A_list list.length c_list] w (impl_size_int64.post w0 L list A_list c_list y_list r1) := by
  unfold impl_size_int64.f at H
  refine Calls.of_G Try.func110 rfl rfl rfl ?_
  refine G.seq ?_
  refine G.region ?_
  refine GO.assign rfl rfl rfl ?_
  refine GO.nil ?_
  refine G.seq ?_
  refine G.region ?_
  refine GO.move rfl rfl rfl ?_
  refine GO.lenS rfl rfl Try.underlying42 rfl ?_
  refine GO.assign rfl rfl rfl ?_
  refine GO.nil ?_
  obtain rfl := Option.some.inj H
  exact G.ret1 _ Try.func110 rfl rfl ⟨rfl, HS⟩

set_option maxRecDepth 20000 in
set_option maxHeartbeats 40000000 in
theorem impl_counting.calls {w0 w : World} {L : List HObj} {K : Nat} {n_ : Int} {r1 : List Int} (HS : St w0 w (L)) (H : impl_counting.f K n_ = some r1) :
    Calls Try.prog 142 #[.int .i64 n_] w (impl_counting.post w0 L n_ r1) := by
  unfold impl_counting.f at H
  refine Calls.of_G Try.func142 rfl rfl rfl ?_
  refine G.seq ?_
  refine G.region ?_
  refine GO.assign rfl rfl rfl ?_
  refine GO.nil ?_
  refine G.seq ?_
  refine G.region ?_
  refine GO.assign rfl rfl rfl ?_
  refine GO.nil ?_
  refine G.seq ?_
  refine G.seq ?_
  refine G.region ?_
  refine GO.move rfl rfl rfl ?_
  refine GO.move rfl rfl rfl ?_
  refine GO.nil ?_
  refine G.block ?_
  refine G.loop ?_
  refine G.name (fun k_l1 hk_l1 => ?_)
  have at_l1 : ∀ m_l1, m_l1 ≤ K → ∀ (A8 : Option Addr) (c9 : Nat) (out_10 : List Int) (x11 : Int) (w : World), impl_counting.l1 K m_l1 n_ out_10 x11 = some r1 → St w0 w (Own (TInt .i64) 2 A8 c9 (fun _ => ()) out_10 :: L) → G Try.prog 142 15 [(3, .slice A8 out_10.length c9), (5, .int .i64 n_), (6, .int .i64 x11)] k_l1 w (impl_counting.post w0 L n_ r1) := by
   intro m_l1
   induction m_l1 using Nat.strongRecOn with
   | _ m_l1 ih_l1 =>
    intro hm_l1 A8 c9 out_10 x11 w H HS
    cases m_l1 with
    | zero => rw [impl_counting.l1] at H; cases H
    | succ n_l1 =>
     rw [impl_counting.l1] at H
     subst hk_l1
     refine G.seq ?_
     refine G.region ?_
     refine GO.lss rfl rfl rfl rfl ?_
     refine GO.nil ?_
     refine G.seq ?_
     rcases ite_elim H with ⟨c19, H⟩ | ⟨c19, H⟩
     ·
      refine G.yesB rfl (decide_eq_true c19) ?_
      refine G.skip ?_
      refine G.seq ?_
      refine G.block ?_
      refine G.seq ?_
      refine G.region ?_
      refine GO.move rfl rfl rfl ?_
      refine GO.assign rfl rfl rfl ?_
      refine GO.nil ?_
      obtain ⟨c25, H⟩ := ite_none H
      refine G.region ?_
      refine GO.move rfl rfl rfl ?_
      refine GO.move rfl rfl rfl ?_
      refine GO.buildS (el := 2) ([.int .i64 x11]) HS rfl rfl (fun _ => by kernel_rfl) rfl ?_; intro b20 wd21 HS
      refine GO.app1 (T := (TInt .i64)) (j := 1) (jb := 0) x11 HS rfl rfl flat_flat rfl rfl rfl Try.underlying43 inf2 rfl rfl rfl c25 rfl ?_; intro A23 c24 wd22 HS
      refine GO.assign rfl rfl rfl ?_
      refine GO.nil ?_
      refine G.blockEnd ?_
      refine G.region ?_
      refine GO.add rfl rfl rfl rfl ?_
      refine GO.move rfl rfl rfl ?_
      refine GO.nil ?_
      refine G.again ?_
      refine G.weak ?_ (ih_l1 n_l1 (Nat.lt_succ_of_le (Nat.le_refl _)) (Nat.le_of_succ_le hm_l1) _ _ _ _ _ H (HS.pk 2 [1] rfl))
      exact ⟨rfl, rfl, rfl, trivial⟩
     ·
      refine G.noB rfl (decide_eq_false c19) ?_
      refine G.exit rfl ?_
      refine G.seq ?_
      refine G.region ?_
      refine GO.move rfl rfl rfl ?_
      refine GO.assign rfl rfl rfl ?_
      refine GO.nil ?_
      obtain rfl := Option.some.inj H
      exact G.ret1 _ Try.func142 rfl rfl ⟨_, _, rfl, HS⟩
  replace HS := HS.nilRow (TInt .i64) 2 (fun _ => ())
  refine G.weak ?_ (at_l1 K (Nat.le_refl _) _ _ _ _ _ H HS)
  exact ⟨rfl, rfl, rfl, trivial⟩

set_option maxRecDepth 20000 in
set_option maxHeartbeats 40000000 in
theorem impl_union.calls {w0 w : World} {L : List HObj} {K : Nat} {sets : List Int} {i : Int} {k_ : Int} {A_sets : Option Addr} {c_sets : Nat} {r1 : List Int} (HS : St w0 w (Own (TInt .i64) 2 A_sets c_sets (fun _ => ()) sets :: L)) (H : impl_union.f K sets i k_ = some r1) :
    Calls Try.prog 143 #[.slice A_sets sets.length c_sets, .int .i64 i, .int .i64 k_] w (impl_union.post w0 L sets i k_ A_sets c_sets r1) := by
  unfold impl_union.f at H
  refine Calls.of_G Try.func143 rfl rfl rfl ?_
  refine G.seq ?_
  obtain ⟨c1, H⟩ := ite_none H
  have h2 := ((RdIn.own (j := 0) rfl) _ HS).2.2.1
  obtain ⟨c3, H⟩ := ite_none H
  have h4 := ((RdIn.own (j := 0) rfl) _ HS).2.2.1
  refine G.regionAny mixed (by decide) (fun b a w => ∃ (Y1_0 : Value) (Y2_1 : Value) (Y3_2 : Value) (Y4_3 : Value) (Y5_4 : Value) (Y6_5 : Value) (Y7_6 : Value) (Y8_7 : Value) (Y9_8 : Value) (Y10_9 : Value), Sat 33 [(6, Y9_8), (7, Y10_9), (10, Y1_0), (11, Y2_1), (12, Y3_2), (13, Y4_3), (14, Y5_4), (15, Y6_5), (16, Y7_6), (17, Y8_7), (0, .slice A_sets sets.length c_sets), (1, .int .i64 i), (2, .int .i64 k_)] a ∧ St w0 w (Own (TInt .i64) 2 A_sets c_sets (fun _ => ()) sets :: L) ∧ (b 8 = true → Y9_8 = (.int .i64 (sets.getD k_.toNat 0))) ∧ (b 9 = true → Y10_9 = (.int .i64 (sets.getD i.toNat 0))) ∧ (b 0 = true → Y1_0 = (.slice A_sets sets.length c_sets)) ∧ (b 1 = true → Y2_1 = (.int .i64 k_)) ∧ (b 2 = true → Y3_2 = (.pointer (some (ea A_sets (k_.toNat * 1))))) ∧ (b 3 = true → Y4_3 = (.int .i64 (sets.getD k_.toNat 0))) ∧ (b 4 = true → Y5_4 = (.slice A_sets sets.length c_sets)) ∧ (b 5 = true → Y6_5 = (.int .i64 i)) ∧ (b 6 = true → Y7_6 = (.pointer (some (ea A_sets (i.toNat * 1))))) ∧ (b 7 = true → Y8_7 = (.int .i64 (sets.getD i.toNat 0)))) ?_ ?_ ?_
  ·
   intro a hs
   obtain ⟨Y9_8, hs⟩ := hs.ext (d := 6) rfl
   obtain ⟨Y10_9, hs⟩ := hs.ext (d := 7) rfl
   obtain ⟨Y1_0, hs⟩ := hs.ext (d := 10) rfl
   obtain ⟨Y2_1, hs⟩ := hs.ext (d := 11) rfl
   obtain ⟨Y3_2, hs⟩ := hs.ext (d := 12) rfl
   obtain ⟨Y4_3, hs⟩ := hs.ext (d := 13) rfl
   obtain ⟨Y5_4, hs⟩ := hs.ext (d := 14) rfl
   obtain ⟨Y6_5, hs⟩ := hs.ext (d := 15) rfl
   obtain ⟨Y7_6, hs⟩ := hs.ext (d := 16) rfl
   obtain ⟨Y8_7, hs⟩ := hs.ext (d := 17) rfl
   exact ⟨Y1_0, Y2_1, Y3_2, Y4_3, Y5_4, Y6_5, Y7_6, Y8_7, Y9_8, Y10_9, hs.weak ⟨rfl, rfl, rfl, rfl, rfl, rfl, rfl, rfl, rfl, rfl, rfl, rfl, rfl, trivial⟩, (HS.drew.pk 1 [0] rfl), fun h => Bool.noConfusion h, fun h => Bool.noConfusion h, fun h => Bool.noConfusion h, fun h => Bool.noConfusion h, fun h => Bool.noConfusion h, fun h => Bool.noConfusion h, fun h => Bool.noConfusion h, fun h => Bool.noConfusion h, fun h => Bool.noConfusion h, fun h => Bool.noConfusion h⟩
  ·
   intro j hj b a w
   refine exI fun Y1_0 => exI fun Y2_1 => exI fun Y3_2 => exI fun Y4_3 => exI fun Y5_4 => exI fun Y6_5 => exI fun Y7_6 => exI fun Y8_7 => exI fun Y9_8 => exI fun Y10_9 => anI fun hs => anI fun HS => anI fun f8 => anI fun f9 => anI fun f0 => anI fun f1 => anI fun f2 => anI fun f3 => anI fun f4 => anI fun f5 => anI fun f6 => fun f7 hb hd hcl => ?_
   match j, hj with
   | 0, _ =>
    refine GO.at hs ?_
    refine GO.move rfl rfl rfl ?_
    refine GO.fin (fun a hs => ?_)
    exact ⟨(.slice A_sets sets.length c_sets), _, _, _, _, _, _, _, _, _, by exact hs.setAt 2 rfl, HS, f8, f9, fun _ => rfl, f1, f2, f3, f4, f5, f6, f7⟩
   | 1, _ =>
    refine GO.at hs ?_
    refine GO.move rfl rfl rfl ?_
    refine GO.fin (fun a hs => ?_)
    exact ⟨_, (.int .i64 k_), _, _, _, _, _, _, _, _, by exact hs.setAt 3 rfl, HS, f8, f9, f0, fun _ => rfl, f2, f3, f4, f5, f6, f7⟩
   | 2, _ =>
    have hb0 : b 0 = true := hd 0 (by decide)
    obtain rfl := f0 hb0
    have hb1 : b 1 = true := hd 1 (by decide)
    obtain rfl := f1 hb1
    refine GO.at hs ?_
    refine GO.ix rfl rfl rfl Try.underlying43 sz2 h2 c1.1 c1.2 rfl ?_
    refine GO.fin (fun a hs => ?_)
    exact ⟨_, _, (.pointer (some (ea A_sets (k_.toNat * 1)))), _, _, _, _, _, _, _, by exact hs.setAt 4 rfl, HS, f8, f9, f0, f1, fun _ => rfl, f3, f4, f5, f6, f7⟩
   | 3, _ =>
    have hb2 : b 2 = true := hd 2 (by decide)
    obtain rfl := f2 hb2
    refine GO.at hs ?_
    refine GO.ldRd (T := (TInt .i64)) (n := k_.toNat) (o := 0) HS (RdIn.own (j := 0) rfl) rfl rfl (getD_some (d := 0) (ltN c1)) rfl rfl na2 rfl ?_
    refine GO.fin (fun a hs => ?_)
    exact ⟨_, _, _, (.int .i64 (sets.getD k_.toNat 0)), _, _, _, _, _, _, by exact hs.setAt 5 rfl, HS, f8, f9, f0, f1, f2, fun _ => rfl, f4, f5, f6, f7⟩
   | 4, _ =>
    refine GO.at hs ?_
    refine GO.move rfl rfl rfl ?_
    refine GO.fin (fun a hs => ?_)
    exact ⟨_, _, _, _, (.slice A_sets sets.length c_sets), _, _, _, _, _, by exact hs.setAt 6 rfl, HS, f8, f9, f0, f1, f2, f3, fun _ => rfl, f5, f6, f7⟩
   | 5, _ =>
    refine GO.at hs ?_
    refine GO.move rfl rfl rfl ?_
    refine GO.fin (fun a hs => ?_)
    exact ⟨_, _, _, _, _, (.int .i64 i), _, _, _, _, by exact hs.setAt 7 rfl, HS, f8, f9, f0, f1, f2, f3, f4, fun _ => rfl, f6, f7⟩
   | 6, _ =>
    have hb4 : b 4 = true := hd 4 (by decide)
    obtain rfl := f4 hb4
    have hb5 : b 5 = true := hd 5 (by decide)
    obtain rfl := f5 hb5
    refine GO.at hs ?_
    refine GO.ix rfl rfl rfl Try.underlying43 sz2 h4 c3.1 c3.2 rfl ?_
    refine GO.fin (fun a hs => ?_)
    exact ⟨_, _, _, _, _, _, (.pointer (some (ea A_sets (i.toNat * 1)))), _, _, _, by exact hs.setAt 8 rfl, HS, f8, f9, f0, f1, f2, f3, f4, f5, fun _ => rfl, f7⟩
   | 7, _ =>
    have hb6 : b 6 = true := hd 6 (by decide)
    obtain rfl := f6 hb6
    refine GO.at hs ?_
    refine GO.ldRd (T := (TInt .i64)) (n := i.toNat) (o := 0) HS (RdIn.own (j := 0) rfl) rfl rfl (getD_some (d := 0) (ltN c3)) rfl rfl na2 rfl ?_
    refine GO.fin (fun a hs => ?_)
    exact ⟨_, _, _, _, _, _, _, (.int .i64 (sets.getD i.toNat 0)), _, _, by exact hs.setAt 9 rfl, HS, f8, f9, f0, f1, f2, f3, f4, f5, f6, fun _ => rfl⟩
   | 8, _ =>
    have hb3 : b 3 = true := hd 3 (by decide)
    obtain rfl := f3 hb3
    refine GO.at hs ?_
    refine GO.assign rfl rfl rfl ?_
    refine GO.fin (fun a hs => ?_)
    exact ⟨_, _, _, _, _, _, _, _, (.int .i64 (sets.getD k_.toNat 0)), _, by exact hs.setAt 0 rfl, HS, fun _ => rfl, f9, f0, f1, f2, f3, f4, f5, f6, f7⟩
   | 9, _ =>
    have hb7 : b 7 = true := hd 7 (by decide)
    obtain rfl := f7 hb7
    refine GO.at hs ?_
    refine GO.assign rfl rfl rfl ?_
    refine GO.fin (fun a hs => ?_)
    exact ⟨_, _, _, _, _, _, _, _, _, (.int .i64 (sets.getD i.toNat 0)), by exact hs.setAt 1 rfl, HS, f8, fun _ => rfl, f0, f1, f2, f3, f4, f5, f6, f7⟩
   | k + 10, hj => exact absurd hj (Nat.not_lt.2 (Nat.le_add_left 10 k))
  ·
   intro b a w hall
   refine exI fun Y1_0 => exI fun Y2_1 => exI fun Y3_2 => exI fun Y4_3 => exI fun Y5_4 => exI fun Y6_5 => exI fun Y7_6 => exI fun Y8_7 => exI fun Y9_8 => exI fun Y10_9 => anI fun hs => anI fun HS => anI fun f8 => anI fun f9 => anI fun f0 => anI fun f1 => anI fun f2 => anI fun f3 => anI fun f4 => anI fun f5 => anI fun f6 => fun f7 => ?_
   obtain rfl := f8 (hall 8 (by decide))
   obtain rfl := f9 (hall 9 (by decide))
   obtain rfl := f0 (hall 0 (by decide))
   obtain rfl := f1 (hall 1 (by decide))
   obtain rfl := f2 (hall 2 (by decide))
   obtain rfl := f3 (hall 3 (by decide))
   obtain rfl := f4 (hall 4 (by decide))
   obtain rfl := f5 (hall 5 (by decide))
   obtain rfl := f6 (hall 6 (by decide))
   obtain rfl := f7 (hall 7 (by decide))
   refine G.at hs ?_
   refine G.seq ?_
   refine G.region ?_
   refine GO.move rfl rfl rfl ?_
   refine GO.lenS rfl rfl Try.underlying43 rfl ?_
   refine GO.move rfl rfl rfl ?_
   refine GO.nil ?_
   refine G.block ?_
   refine G.loop ?_
   refine G.name (fun k_l1 hk_l1 => ?_)
   have at_l1 : ∀ m_l1, m_l1 ≤ K → ∀ (x9 : List Int) (x10 : Int) (w : World), impl_union.l1 K m_l1 sets i k_ x9 x10 = some r1 → St w0 w (Own (TInt .i64) 2 A_sets c_sets (fun _ => ()) x9 :: L) → G Try.prog 143 33 [(0, .slice A_sets x9.length c_sets), (6, .int .i64 (sets.getD k_.toNat 0)), (7, .int .i64 (sets.getD i.toNat 0)), (18, .slice A_sets x9.length c_sets), (19, .int .i64 (sets.length : Int)), (20, .int .i64 x10)] k_l1 w (impl_union.post w0 L sets i k_ A_sets c_sets r1) := by
    intro m_l1
    induction m_l1 using Nat.strongRecOn with
    | _ m_l1 ih_l1 =>
     intro hm_l1 x9 x10 w H HS
     cases m_l1 with
     | zero => rw [impl_union.l1] at H; cases H
     | succ n_l1 =>
      rw [impl_union.l1] at H
      subst hk_l1
      refine G.seq ?_
      refine G.region ?_
      refine GO.lss rfl rfl rfl rfl ?_
      refine GO.nil ?_
      refine G.seq ?_
      rcases ite_elim H with ⟨c15, H⟩ | ⟨c15, H⟩
      ·
       refine G.yesB rfl (decide_eq_true c15) ?_
       refine G.skip ?_
       refine G.seq ?_
       refine G.block ?_
       refine G.seq ?_
       obtain ⟨c16, H⟩ := ite_none H
       refine G.region ?_
       refine GO.move rfl rfl rfl ?_
       refine GO.ix rfl rfl rfl Try.underlying43 sz2 ((RdIn.own (j := 0) rfl) _ HS).2.2.1 c16.1 c16.2 rfl ?_
       refine GO.ldRd (T := (TInt .i64)) (n := x10.toNat) (o := 0) HS (RdIn.own (j := 0) rfl) rfl rfl (getD_some (d := 0) (ltN c16)) rfl rfl na2 rfl ?_
       refine GO.assign rfl rfl rfl ?_
       refine GO.assign rfl rfl rfl ?_
       refine GO.nil ?_
       refine G.seq ?_
       refine G.region ?_
       refine GO.move rfl rfl rfl ?_
       refine GO.move rfl rfl rfl ?_
       refine GO.eql rfl rfl rfl rfl ?_
       refine GO.nil ?_
       rcases ite_elim H with ⟨c17, H⟩ | ⟨c17, H⟩
       ·
        refine G.yesB rfl (decide_eq_true c17) ?_
        refine G.region ?_
        refine GO.move rfl rfl rfl ?_
        refine GO.move rfl rfl rfl ?_
        refine GO.move rfl rfl rfl ?_
        refine GO.ix rfl rfl rfl Try.underlying43 sz2 ((RdIn.own (j := 0) rfl) _ HS).2.2.1 c16.1 c16.2 rfl ?_
        refine GO.stRow (T := (TInt .i64)) (j := 0) (n := x10.toNat) (o := 0) (vs := [.int .i64 (sets.getD i.toNat 0)]) (sets.getD i.toNat 0) HS rfl flat_flat rfl rfl rfl rfl (htN na2 rfl) rfl (getD_some (d := 0) (ltN c16)) rfl rfl ?_; intro wd18 HS
        refine GO.nil ?_
        refine G.len (t := 0) (m := (x9.set x10.toNat (sets.getD i.toNat 0)).length) rfl (by simp only [List.length_set] <;> rfl) ?_
        refine G.len (t := 18) (m := (x9.set x10.toNat (sets.getD i.toNat 0)).length) rfl (by simp only [List.length_set] <;> rfl) ?_
        refine G.blockEnd ?_
        refine G.region ?_
        refine GO.add rfl rfl rfl rfl ?_
        refine GO.move rfl rfl rfl ?_
        refine GO.nil ?_
        refine G.again ?_
        refine G.weak ?_ (ih_l1 n_l1 (Nat.lt_succ_of_le (Nat.le_refl _)) (Nat.le_of_succ_le hm_l1) _ _ _ H HS)
        exact ⟨rfl, rfl, rfl, rfl, rfl, rfl, trivial⟩
       ·
        refine G.noB rfl (decide_eq_false c17) ?_
        refine G.skip ?_
        refine G.blockEnd ?_
        refine G.region ?_
        refine GO.add rfl rfl rfl rfl ?_
        refine GO.move rfl rfl rfl ?_
        refine GO.nil ?_
        refine G.again ?_
        refine G.weak ?_ (ih_l1 n_l1 (Nat.lt_succ_of_le (Nat.le_refl _)) (Nat.le_of_succ_le hm_l1) _ _ _ H HS)
        exact ⟨rfl, rfl, rfl, rfl, rfl, rfl, trivial⟩
      ·
       refine G.noB rfl (decide_eq_false c15) ?_
       refine G.exit rfl ?_
       obtain rfl := Option.some.inj H
       exact G.end0 Try.func143 rfl ⟨rfl, HS⟩
   refine G.weak ?_ (at_l1 K (Nat.le_refl _) _ _ _ H HS)
   exact ⟨rfl, rfl, rfl, rfl, rfl, rfl, trivial⟩

set_option maxRecDepth 20000 in
set_option maxHeartbeats 40000000 in
theorem impl_numbered.calls {w0 w : World} {L : List HObj} {K : Nat} {roots : List Int} {A_roots : Option Addr} {c_roots : Nat} {r1 : List Int} (HS : St w0 w (L)) (h_roots : RdIn w0 L (TInt .i64) A_roots c_roots (fun _ => ()) roots) (H : impl_numbered.f K roots = some r1) :
    Calls Try.prog 144 #[.slice A_roots roots.length c_roots] w (impl_numbered.post w0 L roots A_roots c_roots r1) := by
  unfold impl_numbered.f at H
  refine Calls.of_G Try.func144 rfl rfl rfl ?_
  refine G.seq ?_
  refine G.region ?_
  refine GO.assign rfl rfl rfl ?_
  refine GO.nil ?_
  refine G.seq ?_
  refine G.region ?_
  refine GO.newMapJ .i64 .i64 HS rfl rfl ?_; intro b1 wd2 HS
  refine GO.assign rfl rfl rfl ?_
  refine GO.nil ?_
  refine G.seq ?_
  refine G.region ?_
  refine GO.assign rfl rfl rfl ?_
  refine GO.nil ?_
  refine G.seq ?_
  refine G.seq ?_
  refine G.region ?_
  refine GO.move rfl rfl rfl ?_
  refine GO.lenS rfl rfl Try.underlying43 rfl ?_
  refine GO.move rfl rfl rfl ?_
  refine GO.nil ?_
  refine G.block ?_
  refine G.loop ?_
  refine G.name (fun k_l1 hk_l1 => ?_)
  have at_l1 : ∀ m_l1, m_l1 ≤ K → ∀ (numbers_16 : List (Int × Int)) (A17 : Option Addr) (c18 : Nat) (out_19 : List Int) (x20 : Int) (w : World), impl_numbered.l1 K m_l1 roots numbers_16 out_19 x20 = some r1 → St w0 w (MapJ b1 .i64 .i64 numbers_16 :: Own (TInt .i64) 2 A17 c18 (fun _ => ()) out_19 :: L) → G Try.prog 144 36 [(3, .map (some b1)), (4, .slice A17 out_19.length c18), (10, .slice A_roots roots.length c_roots), (11, .int .i64 (roots.length : Int)), (12, .int .i64 x20)] k_l1 w (impl_numbered.post w0 L roots A_roots c_roots r1) := by
   intro m_l1
   induction m_l1 using Nat.strongRecOn with
   | _ m_l1 ih_l1 =>
    intro hm_l1 numbers_16 A17 c18 out_19 x20 w H HS
    cases m_l1 with
    | zero => rw [impl_numbered.l1] at H; cases H
    | succ n_l1 =>
     rw [impl_numbered.l1] at H
     subst hk_l1
     refine G.seq ?_
     refine G.region ?_
     refine GO.lss rfl rfl rfl rfl ?_
     refine GO.nil ?_
     refine G.seq ?_
     rcases ite_elim H with ⟨c34, H⟩ | ⟨c34, H⟩
     ·
      refine G.yesB rfl (decide_eq_true c34) ?_
      refine G.skip ?_
      refine G.seq ?_
      refine G.block ?_
      refine G.seq ?_
      obtain ⟨c35, H⟩ := ite_none H
      refine G.region ?_
      refine GO.ix rfl rfl rfl Try.underlying43 sz2 ((RdIn.drop 2 h_roots) _ HS).2.2.1 c35.1 c35.2 rfl ?_
      refine GO.ldRd (T := (TInt .i64)) (n := x20.toNat) (o := 0) HS (RdIn.drop 2 h_roots) rfl rfl (getD_some (d := 0) (ltN c35)) rfl rfl na2 rfl ?_
      refine GO.assign rfl rfl rfl ?_
      refine GO.nil ?_
      refine G.seq ?_
      refine G.seq ?_
      refine G.region ?_
      refine GO.move rfl rfl rfl ?_
      refine GO.move rfl rfl rfl ?_
      refine GO.lookOkJ (j := 0) HS rfl rfl rfl rfl Try.underlying130 Try.underlying2 zr2 rfl ?_
      refine GO.move rfl rfl rfl ?_
      refine GO.extract rfl rfl rfl rfl ?_
      refine GO.extract rfl rfl rfl rfl ?_
      refine GO.assign rfl rfl rfl ?_
      refine GO.assign rfl rfl rfl ?_
      refine GO.nil ?_
      refine G.seq ?_
      refine G.region ?_
      refine GO.move rfl rfl rfl ?_
      refine GO.not rfl rfl rfl ?_
      refine GO.nil ?_
      refine G.nameT (fun k_j4 hk_j4 => ?_)
      have at_j4 : ∀ m_j4, m_j4 ≤ n_l1 → ∀ (numbers_38 : List (Int × Int)) (w : World), impl_numbered.j4 K m_j4 roots out_19 x20 numbers_38 = some r1 → St w0 w (MapJ b1 .i64 .i64 numbers_38 :: Own (TInt .i64) 2 A17 c18 (fun _ => ()) out_19 :: L) → G Try.prog 144 36 [(3, .map (some b1)), (4, .slice A17 out_19.length c18), (6, .int .i64 (roots.getD x20.toNat 0)), (10, .slice A_roots roots.length c_roots), (11, .int .i64 (roots.length : Int)), (12, .int .i64 x20)] k_j4 w (impl_numbered.post w0 L roots A_roots c_roots r1) := by
       intro m_j4 hm_j4 numbers_38 w H HS
       cases m_j4 with
       | zero => rw [impl_numbered.j4] at H; cases H
       | succ n_j4 =>
        rw [impl_numbered.j4] at H
        subst hk_j4
        obtain ⟨c44, H⟩ := ite_none H
        refine G.region ?_
        refine GO.move rfl rfl rfl ?_
        refine GO.move rfl rfl rfl ?_
        refine GO.move rfl rfl rfl ?_
        refine GO.lookJ (j := 0) HS rfl rfl rfl rfl Try.underlying130 Try.underlying2 zr2 rfl ?_
        refine GO.buildS (el := 2) ([.int .i64 ((mget numbers_38 (roots.getD x20.toNat 0)).getD 0)]) HS rfl rfl (fun _ => by kernel_rfl) rfl ?_; intro b39 wd40 HS
        refine GO.app1 (T := (TInt .i64)) (j := 2) (jb := 0) ((mget numbers_38 (roots.getD x20.toNat 0)).getD 0) HS rfl rfl flat_flat rfl rfl rfl Try.underlying43 inf2 rfl rfl rfl c44 rfl ?_; intro A42 c43 wd41 HS
        refine GO.assign rfl rfl rfl ?_
        refine GO.nil ?_
        refine G.blockEnd ?_
        refine G.region ?_
        refine GO.add rfl rfl rfl rfl ?_
        refine GO.move rfl rfl rfl ?_
        refine GO.nil ?_
        refine G.again ?_
        refine G.weak ?_ (ih_l1 n_j4 (Nat.lt_succ_of_le (Nat.le_of_succ_le hm_j4)) (Nat.le_trans (Nat.le_of_succ_le hm_j4) (Nat.le_of_succ_le hm_l1)) _ _ _ _ _ _ H (HS.pk 3 [1, 2] rfl))
        exact ⟨rfl, rfl, rfl, rfl, rfl, trivial⟩
      rcases ite_elim H with ⟨c45, H⟩ | ⟨c45, H⟩
      ·
       refine G.noB rfl (congrArg Bool.not c45) ?_
       refine G.skip ?_
       refine G.weak ?_ (at_j4 n_l1 (Nat.le_refl _) _ _ H HS)
       exact ⟨rfl, rfl, rfl, rfl, rfl, rfl, trivial⟩
      ·
       refine G.yesB rfl (congrArg Bool.not (bnot_of c45)) ?_
       refine G.region ?_
       refine GO.move rfl rfl rfl ?_
       refine GO.move rfl rfl rfl ?_
       refine GO.move rfl rfl rfl ?_
       refine GO.lenMJ (j := 0) HS rfl rfl rfl Try.underlying130 rfl ?_
       refine GO.putMJ (j := 0) HS rfl rfl rfl rfl rfl Try.underlying130 Try.underlying2 ?_; intro wd46 HS
       refine GO.nil ?_
       refine G.weak ?_ (at_j4 n_l1 (Nat.le_refl _) _ _ H HS)
       exact ⟨rfl, rfl, rfl, rfl, rfl, rfl, trivial⟩
     ·
      refine G.noB rfl (decide_eq_false c34) ?_
      refine G.exit rfl ?_
      refine G.seq ?_
      refine G.region ?_
      refine GO.move rfl rfl rfl ?_
      refine GO.assign rfl rfl rfl ?_
      refine GO.nil ?_
      obtain rfl := Option.some.inj H
      exact G.ret1 _ Try.func144 rfl rfl ⟨_, _, rfl, (HS.pk 2 [1] rfl)⟩
  replace HS := HS.nilRow (TInt .i64) 2 (fun _ => ())
  refine G.weak ?_ (at_l1 K (Nat.le_refl _) _ _ _ _ _ _ H (HS.pk 2 [1, 0] rfl))
  exact ⟨rfl, rfl, rfl, rfl, rfl, trivial⟩

set_option maxRecDepth 20000 in
set_option maxHeartbeats 40000000 in
theorem impl_Diagram_parts.calls {w0 w : World} {L : List HObj} {K : Nat} {d_Crossings : List GCrossing} {d_Circles : Int} {a_from : List GEnd} {a_to : List GEnd} {A_d_Crossings : Option Addr} {c_d_Crossings : Nat} {A_a_from : Option Addr} {c_a_from : Nat} {A_a_to : Option Addr} {c_a_to : Nat} {r1 : List Int} (HS : St w0 w (L)) (h_d_Crossings : RdIn w0 L T_GCrossing A_d_Crossings c_d_Crossings (fun _ => ()) d_Crossings) (h_a_from : RdIn w0 L T_GEnd A_a_from c_a_from (fun _ => ()) a_from) (h_a_to : RdIn w0 L T_GEnd A_a_to c_a_to (fun _ => ()) a_to) (H : impl_Diagram_parts.f K d_Crossings d_Circles a_from a_to = some r1) :
    Calls Try.prog 85 #[.agg [.slice A_d_Crossings d_Crossings.length c_d_Crossings, .int .i64 d_Circles].toArray, .agg [.slice A_a_from a_from.length c_a_from, .slice A_a_to a_to.length c_a_to].toArray] w (impl_Diagram_parts.post w0 L d_Crossings d_Circles a_from a_to A_d_Crossings c_d_Crossings A_a_from c_a_from A_a_to c_a_to r1) := by
  unfold impl_Diagram_parts.f at H
  refine Calls.of_G Try.func85 rfl rfl rfl ?_
  refine G.seq ?_
  refine G.region ?_
  refine GO.box (cs := [.slice A_d_Crossings d_Crossings.length c_d_Crossings, .int .i64 d_Circles]) HS rfl rfl rfl rfl ?_; intro b1 wd2 HS
  refine GO.box (cs := [.slice A_a_from a_from.length c_a_from, .slice A_a_to a_to.length c_a_to]) HS rfl rfl rfl rfl ?_; intro b3 wd4 HS
  refine GO.assign rfl rfl rfl ?_
  refine GO.nil ?_
  refine G.seq ?_
  obtain ⟨t5, h6, H⟩ := Option.bind_eq_some_iff.1 H
  obtain ⟨t9, h10, H⟩ := Option.bind_eq_some_iff.1 H
  refine G.region ?_
  refine GO.fld (⟨b1, 0, none⟩) rfl rfl fl28_0 rfl rfl ?_
  refine GO.ldBox (j := 1) HS rfl rfl rfl rfl na26 rfl ?_
  refine GO.fn rfl Try.func56 fok56.1 fok56.2 rfl rfl (impl_size_impl_Crossing.calls HS (RdIn.drop 2 h_d_Crossings) h6) (fun _ wd7 ⟨h8, HS⟩ => ⟨_, h8, ?_⟩)
  refine GO.fn rfl Try.func142 fok142.1 fok142.2 rfl rfl (impl_counting.calls HS  h10) (fun _ wd13 ⟨A11, c12, h14, HS⟩ => ⟨_, h14, ?_⟩)
  refine GO.assign rfl rfl rfl ?_
  refine GO.nil ?_
  refine G.seq ?_
  refine G.seq ?_
  refine G.region ?_
  refine GO.fld (⟨b3, 0, none⟩) rfl rfl fl63_0 rfl rfl ?_
  refine GO.ldBox (j := 1) HS rfl rfl rfl rfl na61 rfl ?_
  refine GO.lenS rfl rfl Try.underlying61 rfl ?_
  refine GO.move rfl rfl rfl ?_
  refine GO.nil ?_
  refine G.block ?_
  refine G.loop ?_
  refine G.name (fun k_l1 hk_l1 => ?_)
  have at_l1 : ∀ m_l1, m_l1 ≤ K → ∀ (sets_36 : List Int) (x37 : Int) (w : World), impl_Diagram_parts.l1 K m_l1 a_from a_to sets_36 x37 = some r1 → St w0 w (Box b3 63 [.slice A_a_from a_from.length c_a_from, .slice A_a_to a_to.length c_a_to] :: Own (TInt .i64) 2 A11 c12 (fun _ => ()) sets_36 :: L) → G Try.prog 85 33 [(3, .pointer (some ⟨b3, 0, none⟩)), (5, .slice A11 sets_36.length c12), (13, .slice A_a_from a_from.length c_a_from), (14, .int .i64 (a_from.length : Int)), (15, .int .i64 x37)] k_l1 w (impl_Diagram_parts.post w0 L d_Crossings d_Circles a_from a_to A_d_Crossings c_d_Crossings A_a_from c_a_from A_a_to c_a_to r1) := by
   intro m_l1
   induction m_l1 using Nat.strongRecOn with
   | _ m_l1 ih_l1 =>
    intro hm_l1 sets_36 x37 w H HS
    cases m_l1 with
    | zero => rw [impl_Diagram_parts.l1] at H; cases H
    | succ n_l1 =>
     rw [impl_Diagram_parts.l1] at H
     subst hk_l1
     refine G.seq ?_
     refine G.region ?_
     refine GO.lss rfl rfl rfl rfl ?_
     refine GO.nil ?_
     refine G.seq ?_
     rcases ite_elim H with ⟨c59, H⟩ | ⟨c59, H⟩
     ·
      refine G.yesB rfl (decide_eq_true c59) ?_
      refine G.skip ?_
      refine G.seq ?_
      refine G.block ?_
      refine G.seq ?_
      obtain ⟨c60, H⟩ := ite_none H
      obtain ⟨e61, h62, H⟩ := bnd_elim H
      refine G.region ?_
      refine GO.move rfl rfl rfl ?_
      refine GO.ix rfl rfl rfl Try.underlying61 sz68 ((RdIn.drop 2 h_a_from) _ HS).2.2.1 c60.1 c60.2 rfl ?_
      refine GO.ldRdA (T := T_GEnd) (n := x37.toNat) HS (RdIn.drop 2 h_a_from) rfl rfl (getD_eq (ltN c60) h62) ag68 rfl ?_
      refine GO.alloc HS rfl zr68 rfl rfl ?_; intro b63 wd64 HS
      refine GO.assign rfl rfl rfl ?_
      refine GO.stBox (j := 0) (vs := [.int .i64 e61.crossing, .int .i64 e61.position]) ([.int .i64 e61.crossing, .int .i64 e61.position]) HS rfl rfl rfl rfl rfl (htA ag68) rfl rfl rfl ?_; intro wd65 HS
      refine GO.nil ?_
      obtain ⟨c66, H⟩ := ite_none H
      obtain ⟨e67, h68, H⟩ := bnd_elim H
      obtain ⟨t69, h70, H⟩ := Option.bind_eq_some_iff.1 H
      obtain ⟨c71, H⟩ := ite_none H
      refine G.regionAny mixed (by decide) (fun b a w => ∃ (Y1_0 : Value) (Y2_1 : Value) (Y3_2 : Value) (Y4_3 : Value) (Y5_4 : Value) (Y6_5 : Value) (Y7_6 : Value) (Y8_7 : Value) (Y9_8 : Value) (Y10_9 : Value) (O11_5 : HObj), Sat 33 [(20, Y1_0), (21, Y2_1), (22, Y3_2), (23, Y4_3), (24, Y5_4), (25, Y6_5), (26, Y7_6), (27, Y8_7), (28, Y9_8), (29, Y10_9), (3, .pointer (some ⟨b3, 0, none⟩)), (5, .slice A11 sets_36.length c12), (6, .int .i64 x37), (7, .pointer (some ⟨b63, 0, none⟩)), (13, .slice A_a_from a_from.length c_a_from), (14, .int .i64 (a_from.length : Int)), (15, .int .i64 x37)] a ∧ St w0 w (Box b63 68 [.int .i64 e61.crossing, .int .i64 e61.position] :: Box b3 63 [.slice A_a_from a_from.length c_a_from, .slice A_a_to a_to.length c_a_to] :: O11_5 :: L) ∧ (b 0 = true → Y1_0 = (.slice A11 sets_36.length c12)) ∧ (b 1 = true → Y2_1 = (.pointer (some ⟨b63, 0, none⟩))) ∧ (b 2 = true → Y3_2 = (.int .i64 e61.crossing)) ∧ (b 3 = true → Y4_3 = (.pointer (some ⟨b3, 1, none⟩))) ∧ (b 4 = true → Y5_4 = (.slice A_a_to a_to.length c_a_to)) ∧ (b 5 = true → Y6_5 = (.int .i64 x37)) ∧ (b 6 = true → Y7_6 = (.pointer (some (ea A_a_to (x37.toNat * 2))))) ∧ (b 7 = true → Y8_7 = (.pointer (some (ea A_a_to (x37.toNat * 2))))) ∧ (b 8 = true → Y9_8 = (.int .i64 e67.crossing)) ∧ (b 9 = true → Y10_9 = (.tuple #[])) ∧ (b 9 = false → O11_5 = Own (TInt .i64) 2 A11 c12 (fun _ => ()) sets_36) ∧ (b 9 = true → O11_5 = Own (TInt .i64) 2 A11 c12 (fun _ => ()) t69)) ?_ ?_ ?_
      ·
       intro a hs
       obtain ⟨Y1_0, hs⟩ := hs.ext (d := 20) rfl
       obtain ⟨Y2_1, hs⟩ := hs.ext (d := 21) rfl
       obtain ⟨Y3_2, hs⟩ := hs.ext (d := 22) rfl
       obtain ⟨Y4_3, hs⟩ := hs.ext (d := 23) rfl
       obtain ⟨Y5_4, hs⟩ := hs.ext (d := 24) rfl
       obtain ⟨Y6_5, hs⟩ := hs.ext (d := 25) rfl
       obtain ⟨Y7_6, hs⟩ := hs.ext (d := 26) rfl
       obtain ⟨Y8_7, hs⟩ := hs.ext (d := 27) rfl
       obtain ⟨Y9_8, hs⟩ := hs.ext (d := 28) rfl
       obtain ⟨Y10_9, hs⟩ := hs.ext (d := 29) rfl
       exact ⟨Y1_0, Y2_1, Y3_2, Y4_3, Y5_4, Y6_5, Y7_6, Y8_7, Y9_8, Y10_9, Own (TInt .i64) 2 A11 c12 (fun _ => ()) sets_36, hs.weak ⟨rfl, rfl, rfl, rfl, rfl, rfl, rfl, rfl, rfl, rfl, rfl, rfl, rfl, rfl, rfl, rfl, rfl, trivial⟩, (HS.drew.pk 3 [0, 1, 2] rfl), fun h => Bool.noConfusion h, fun h => Bool.noConfusion h, fun h => Bool.noConfusion h, fun h => Bool.noConfusion h, fun h => Bool.noConfusion h, fun h => Bool.noConfusion h, fun h => Bool.noConfusion h, fun h => Bool.noConfusion h, fun h => Bool.noConfusion h, fun h => Bool.noConfusion h, fun _ => rfl, fun h => Bool.noConfusion h⟩
      ·
       intro j hj b a w
       refine exI fun Y1_0 => exI fun Y2_1 => exI fun Y3_2 => exI fun Y4_3 => exI fun Y5_4 => exI fun Y6_5 => exI fun Y7_6 => exI fun Y8_7 => exI fun Y9_8 => exI fun Y10_9 => exI fun O11_5 => anI fun hs => anI fun HS => anI fun f0 => anI fun f1 => anI fun f2 => anI fun f3 => anI fun f4 => anI fun f5 => anI fun f6 => anI fun f7 => anI fun f8 => anI fun f9 => anI fun o5_0 => fun o5_1 hb hd hcl => ?_
       match j, hj with
       | 0, _ =>
        refine GO.at hs ?_
        refine GO.move rfl rfl rfl ?_
        refine GO.fin (fun a hs => ?_)
        exact ⟨(.slice A11 sets_36.length c12), _, _, _, _, _, _, _, _, _, _, by exact hs.setAt 0 rfl, HS, fun _ => rfl, f1, f2, f3, f4, f5, f6, f7, f8, f9, o5_0, o5_1⟩
       | 1, _ =>
        refine GO.at hs ?_
        refine GO.fld (⟨b63, 0, none⟩) rfl rfl fl68_0 rfl rfl ?_
        refine GO.fin (fun a hs => ?_)
        exact ⟨_, (.pointer (some ⟨b63, 0, none⟩)), _, _, _, _, _, _, _, _, _, by exact hs.setAt 1 rfl, HS, f0, fun _ => rfl, f2, f3, f4, f5, f6, f7, f8, f9, o5_0, o5_1⟩
       | 2, _ =>
        have hb1 : b 1 = true := hd 1 (by decide)
        obtain rfl := f1 hb1
        refine GO.at hs ?_
        refine GO.ldBox (j := 0) HS rfl rfl rfl rfl na2 rfl ?_
        refine GO.fin (fun a hs => ?_)
        exact ⟨_, _, (.int .i64 e61.crossing), _, _, _, _, _, _, _, _, by exact hs.setAt 2 rfl, HS, f0, f1, fun _ => rfl, f3, f4, f5, f6, f7, f8, f9, o5_0, o5_1⟩
       | 3, _ =>
        refine GO.at hs ?_
        refine GO.fld (⟨b3, 1, none⟩) rfl rfl fl63_1 rfl rfl ?_
        refine GO.fin (fun a hs => ?_)
        exact ⟨_, _, _, (.pointer (some ⟨b3, 1, none⟩)), _, _, _, _, _, _, _, by exact hs.setAt 3 rfl, HS, f0, f1, f2, fun _ => rfl, f4, f5, f6, f7, f8, f9, o5_0, o5_1⟩
       | 4, _ =>
        have hb3 : b 3 = true := hd 3 (by decide)
        obtain rfl := f3 hb3
        refine GO.at hs ?_
        refine GO.ldBox (j := 1) HS rfl rfl rfl rfl na61 rfl ?_
        refine GO.fin (fun a hs => ?_)
        exact ⟨_, _, _, _, (.slice A_a_to a_to.length c_a_to), _, _, _, _, _, _, by exact hs.setAt 4 rfl, HS, f0, f1, f2, f3, fun _ => rfl, f5, f6, f7, f8, f9, o5_0, o5_1⟩
       | 5, _ =>
        refine GO.at hs ?_
        refine GO.move rfl rfl rfl ?_
        refine GO.fin (fun a hs => ?_)
        exact ⟨_, _, _, _, _, (.int .i64 x37), _, _, _, _, _, by exact hs.setAt 5 rfl, HS, f0, f1, f2, f3, f4, fun _ => rfl, f6, f7, f8, f9, o5_0, o5_1⟩
       | 6, _ =>
        have hb4 : b 4 = true := hd 4 (by decide)
        obtain rfl := f4 hb4
        have hb5 : b 5 = true := hd 5 (by decide)
        obtain rfl := f5 hb5
        refine GO.at hs ?_
        refine GO.ix rfl rfl rfl Try.underlying61 sz68 ((RdIn.drop 3 h_a_to) _ HS).2.2.1 c66.1 c66.2 rfl ?_
        refine GO.fin (fun a hs => ?_)
        exact ⟨_, _, _, _, _, _, (.pointer (some (ea A_a_to (x37.toNat * 2)))), _, _, _, _, by exact hs.setAt 6 rfl, HS, f0, f1, f2, f3, f4, f5, fun _ => rfl, f7, f8, f9, o5_0, o5_1⟩
       | 7, _ =>
        have hb6 : b 6 = true := hd 6 (by decide)
        obtain rfl := f6 hb6
        refine GO.at hs ?_
        refine GO.fld (ea A_a_to (x37.toNat * 2)) rfl rfl fl68_0 rfl rfl ?_
        refine GO.fin (fun a hs => ?_)
        exact ⟨_, _, _, _, _, _, _, (.pointer (some (ea A_a_to (x37.toNat * 2)))), _, _, _, by exact hs.setAt 7 rfl, HS, f0, f1, f2, f3, f4, f5, f6, fun _ => rfl, f8, f9, o5_0, o5_1⟩
       | 8, _ =>
        have hb7 : b 7 = true := hd 7 (by decide)
        obtain rfl := f7 hb7
        refine GO.at hs ?_
        refine GO.ldRd (T := T_GEnd) (n := x37.toNat) (o := 0) HS (RdIn.drop 3 h_a_to) rfl rfl (getD_eq (ltN c66) h68) rfl rfl na2 rfl ?_
        refine GO.fin (fun a hs => ?_)
        exact ⟨_, _, _, _, _, _, _, _, (.int .i64 e67.crossing), _, _, by exact hs.setAt 8 rfl, HS, f0, f1, f2, f3, f4, f5, f6, f7, fun _ => rfl, f9, o5_0, o5_1⟩
       | 9, _ =>
        have hb0 : b 0 = true := hd 0 (by decide)
        obtain rfl := f0 hb0
        have hb2 : b 2 = true := hd 2 (by decide)
        obtain rfl := f2 hb2
        have hb8 : b 8 = true := hd 8 (by decide)
        obtain rfl := f8 hb8
        obtain rfl := o5_0 hb
        refine GO.at hs ?_
        replace HS := HS.pk 3 [2, 0, 1] rfl
        refine GO.fn rfl Try.func143 fok143.1 fok143.2 rfl rfl (impl_union.calls HS  h70) (fun _ wd72 ⟨h73, HS⟩ => ⟨_, h73, ?_⟩)
        refine GO.fin (fun a hs => ?_)
        exact ⟨_, _, _, _, _, _, _, _, _, (.tuple #[]), Own (TInt .i64) 2 A11 c12 (fun _ => ()) t69, by exact hs.setAt 9 rfl, HS.pk 3 [1, 2, 0] rfl, f0, f1, f2, f3, f4, f5, f6, f7, f8, fun _ => rfl, fun h => Bool.noConfusion h, fun _ => rfl⟩
       | k + 10, hj => exact absurd hj (Nat.not_lt.2 (Nat.le_add_left 10 k))
      ·
       intro b a w hall
       refine exI fun Y1_0 => exI fun Y2_1 => exI fun Y3_2 => exI fun Y4_3 => exI fun Y5_4 => exI fun Y6_5 => exI fun Y7_6 => exI fun Y8_7 => exI fun Y9_8 => exI fun Y10_9 => exI fun O11_5 => anI fun hs => anI fun HS => anI fun f0 => anI fun f1 => anI fun f2 => anI fun f3 => anI fun f4 => anI fun f5 => anI fun f6 => anI fun f7 => anI fun f8 => anI fun f9 => anI fun o5_0 => fun o5_1 => ?_
       obtain rfl := f0 (hall 0 (by decide))
       obtain rfl := f1 (hall 1 (by decide))
       obtain rfl := f2 (hall 2 (by decide))
       obtain rfl := f3 (hall 3 (by decide))
       obtain rfl := f4 (hall 4 (by decide))
       obtain rfl := f5 (hall 5 (by decide))
       obtain rfl := f6 (hall 6 (by decide))
       obtain rfl := f7 (hall 7 (by decide))
       obtain rfl := f8 (hall 8 (by decide))
       obtain rfl := f9 (hall 9 (by decide))
       obtain rfl := o5_1 (hall 9 (by decide))
       refine G.at hs ?_
       refine G.len (t := 5) (m := t69.length) rfl (by simp only [List.length_set, c71] <;> rfl) ?_
       refine G.blockEnd ?_
       refine G.region ?_
       refine GO.add rfl rfl rfl rfl ?_
       refine GO.move rfl rfl rfl ?_
       refine GO.nil ?_
       refine G.again ?_
       refine G.weak ?_ (ih_l1 n_l1 (Nat.lt_succ_of_le (Nat.le_refl _)) (Nat.le_of_succ_le hm_l1) _ _ _ H (HS.pk 3 [1, 2] rfl))
       exact ⟨rfl, rfl, rfl, rfl, rfl, trivial⟩
     ·
      refine G.noB rfl (decide_eq_false c59) ?_
      refine G.exit rfl ?_
      refine G.seq ?_
      obtain ⟨t74, h75, H⟩ := Option.bind_eq_some_iff.1 H
      refine G.region ?_
      refine GO.move rfl rfl rfl ?_
      refine GO.fn rfl Try.func144 fok144.1 fok144.2 rfl rfl (impl_numbered.calls HS (RdIn.own (j := 1) rfl) h75) (fun _ wd78 ⟨A76, c77, h79, HS⟩ => ⟨_, h79, ?_⟩)
      refine GO.assign rfl rfl rfl ?_
      refine GO.nil ?_
      obtain rfl := Option.some.inj H
      exact G.ret1 _ Try.func85 rfl rfl ⟨_, _, rfl, (HS.pk 3 [0] rfl)⟩
  refine G.weak ?_ (at_l1 K (Nat.le_refl _) _ _ _ H (HS.pk 3 [1, 0] rfl))
  exact ⟨rfl, rfl, rfl, rfl, rfl, trivial⟩

set_option maxRecDepth 20000 in
set_option maxHeartbeats 40000000 in
theorem slices_Max_int64_int64.calls {w0 w : World} {L : List HObj} {K : Nat} {x : List Int} {A_x : Option Addr} {c_x : Nat} {r1 : Int} (HS : St w0 w (L)) (h_x : RdIn w0 L (TInt .i64) A_x c_x (fun _ => ()) x) (H : slices_Max_int64_int64.f K x = some r1) :
    Calls Try.prog 141 #[.slice A_x x.length c_x] w (slices_Max_int64_int64.post w0 L x A_x c_x r1) := by
  unfold slices_Max_int64_int64.f at H
  refine Calls.of_G Try.func141 rfl rfl rfl ?_
  refine G.seq ?_
  refine G.region ?_
  refine GO.assign rfl rfl rfl ?_
  refine GO.nil ?_
  refine G.seq ?_
  refine G.seq ?_
  refine G.region ?_
  refine GO.move rfl rfl rfl ?_
  refine GO.lenS rfl rfl Try.underlying43 rfl ?_
  refine GO.lss rfl rfl rfl rfl ?_
  refine GO.nil ?_
  rcases ite_elim H with ⟨c2, H⟩ | ⟨c2, H⟩
  ·
   refine G.yesB rfl (decide_eq_true c2) ?_
   cases H
  ·
   refine G.noB rfl (decide_eq_false c2) ?_
   refine G.skip ?_
   refine G.seq ?_
   obtain ⟨c3, H⟩ := ite_none H
   refine G.region ?_
   refine GO.move rfl rfl rfl ?_
   refine GO.ix rfl rfl rfl Try.underlying43 sz2 (h_x _ HS).2.2.1 c3.1 c3.2 rfl ?_
   refine GO.ldRd (T := (TInt .i64)) (n := 0) (o := 0) HS h_x rfl rfl (getD_some (d := 0) (ltN c3)) rfl rfl na2 rfl ?_
   refine GO.assign rfl rfl rfl ?_
   refine GO.nil ?_
   refine G.seq ?_
   refine G.seq ?_
   refine G.region ?_
   refine GO.assign rfl rfl rfl ?_
   refine GO.nil ?_
   refine G.block ?_
   refine G.loop ?_
   refine G.name (fun k_l2 hk_l2 => ?_)
   have at_l2 : ∀ m_l2, m_l2 ≤ K → ∀ (m_6 : Int) (i_7 : Int) (w : World), slices_Max_int64_int64.l2 K m_l2 x m_6 i_7 = some r1 → St w0 w (L) → G Try.prog 141 25 [(0, .slice A_x x.length c_x), (3, .int .i64 m_6), (4, .int .i64 i_7)] k_l2 w (slices_Max_int64_int64.post w0 L x A_x c_x r1) := by
    intro m_l2
    induction m_l2 using Nat.strongRecOn with
    | _ m_l2 ih_l2 =>
     intro hm_l2 m_6 i_7 w H HS
     cases m_l2 with
     | zero => rw [slices_Max_int64_int64.l2] at H; cases H
     | succ n_l2 =>
      rw [slices_Max_int64_int64.l2] at H
      subst hk_l2
      refine G.seq ?_
      refine G.seq ?_
      refine G.region ?_
      refine GO.move rfl rfl rfl ?_
      refine GO.move rfl rfl rfl ?_
      refine GO.lenS rfl rfl Try.underlying43 rfl ?_
      refine GO.lss rfl rfl rfl rfl ?_
      refine GO.nil ?_
      rcases ite_elim H with ⟨c10, H⟩ | ⟨c10, H⟩
      ·
       refine G.yesB rfl (decide_eq_true c10) ?_
       refine G.skip ?_
       refine G.seq ?_
       refine G.block ?_
       obtain ⟨c11, H⟩ := ite_none H
       refine G.region ?_
       refine GO.move rfl rfl rfl ?_
       refine GO.move rfl rfl rfl ?_
       refine GO.move rfl rfl rfl ?_
       refine GO.ix rfl rfl rfl Try.underlying43 sz2 (h_x _ HS).2.2.1 c11.1 c11.2 rfl ?_
       refine GO.ldRd (T := (TInt .i64)) (n := i_7.toNat) (o := 0) HS h_x rfl rfl (getD_some (d := 0) (ltN c11)) rfl rfl na2 rfl ?_
       refine GO.max2 rfl rfl rfl rfl ?_
       refine GO.assign rfl rfl rfl ?_
       refine GO.nil ?_
       refine G.blockEnd ?_
       refine G.region ?_
       refine GO.move rfl rfl rfl ?_
       refine GO.add rfl rfl rfl rfl ?_
       refine GO.assign rfl rfl rfl ?_
       refine GO.nil ?_
       refine G.again ?_
       refine G.weak ?_ (ih_l2 n_l2 (Nat.lt_succ_of_le (Nat.le_refl _)) (Nat.le_of_succ_le hm_l2) _ _ _ H HS)
       exact ⟨rfl, rfl, rfl, trivial⟩
      ·
       refine G.noB rfl (decide_eq_false c10) ?_
       refine G.exit rfl ?_
       refine G.seq ?_
       refine G.region ?_
       refine GO.move rfl rfl rfl ?_
       refine GO.assign rfl rfl rfl ?_
       refine GO.nil ?_
       obtain rfl := Option.some.inj H
       exact G.ret1 _ Try.func141 rfl rfl ⟨rfl, HS⟩
   refine G.weak ?_ (at_l2 K (Nat.le_refl _) _ _ _ H HS)
   exact ⟨rfl, rfl, rfl, trivial⟩

set_option maxRecDepth 20000 in
set_option maxHeartbeats 40000000 in
theorem impl_classCount.calls {w0 w : World} {L : List HObj} {K : Nat} {classes : List Int} {A_classes : Option Addr} {c_classes : Nat} {r1 : Int} (HS : St w0 w (L)) (h_classes : RdIn w0 L (TInt .i64) A_classes c_classes (fun _ => ()) classes) (H : impl_classCount.f K classes = some r1) :
    Calls Try.prog 84 #[.slice A_classes classes.length c_classes] w (impl_classCount.post w0 L classes A_classes c_classes r1) := by
  unfold impl_classCount.f at H
  refine Calls.of_G Try.func84 rfl rfl rfl ?_
  refine G.seq ?_
  refine G.region ?_
  refine GO.assign rfl rfl rfl ?_
  refine GO.nil ?_
  refine G.seq ?_
  refine G.seq ?_
  refine G.region ?_
  refine GO.move rfl rfl rfl ?_
  refine GO.lenS rfl rfl Try.underlying43 rfl ?_
  refine GO.eql rfl rfl rfl rfl ?_
  refine GO.nil ?_
  rcases ite_elim H with ⟨c1, H⟩ | ⟨c1, H⟩
  ·
   refine G.yesB rfl (decide_eq_true c1) ?_
   refine G.seq ?_
   refine G.region ?_
   refine GO.assign rfl rfl rfl ?_
   refine GO.nil ?_
   obtain rfl := Option.some.inj H
   exact G.ret1 _ Try.func84 rfl rfl ⟨rfl, HS⟩
  ·
   refine G.noB rfl (decide_eq_false c1) ?_
   refine G.skip ?_
   refine G.seq ?_
   obtain ⟨t2, h3, H⟩ := Option.bind_eq_some_iff.1 H
   refine G.region ?_
   refine GO.move rfl rfl rfl ?_
   refine GO.fn rfl Try.func141 fok141.1 fok141.2 rfl rfl (slices_Max_int64_int64.calls HS h_classes h3) (fun _ wd4 ⟨h5, HS⟩ => ⟨_, h5, ?_⟩)
   refine GO.add rfl rfl rfl rfl ?_
   refine GO.assign rfl rfl rfl ?_
   refine GO.nil ?_
   obtain rfl := Option.some.inj H
   exact G.ret1 _ Try.func84 rfl rfl ⟨rfl, HS⟩

set_option maxRecDepth 20000 in
set_option maxHeartbeats 40000000 in
theorem impl_Diagram_drawing.calls {w0 w : World} {L : List HObj} {K : Nat} {d_Crossings : List GCrossing} {d_Circles : Int} {A_d_Crossings : Option Addr} {c_d_Crossings : Nat} {r1 : List GEnd} {r2 : List GEnd} {r3 : Bool} (HS : St w0 w (L)) (h_d_Crossings : RdIn w0 L T_GCrossing A_d_Crossings c_d_Crossings (fun _ => ()) d_Crossings) (H : impl_Diagram_drawing.f K d_Crossings d_Circles = some (r1, r2, r3)) :
    Calls Try.prog 45 #[.agg [.slice A_d_Crossings d_Crossings.length c_d_Crossings, .int .i64 d_Circles].toArray] w (impl_Diagram_drawing.post w0 L d_Crossings d_Circles A_d_Crossings c_d_Crossings r1 r2 r3) := by
  unfold impl_Diagram_drawing.f at H
  refine Calls.of_G Try.func45 rfl rfl rfl ?_
  refine G.seq ?_
  refine G.region ?_
  refine GO.box (cs := [.slice A_d_Crossings d_Crossings.length c_d_Crossings, .int .i64 d_Circles]) HS rfl rfl rfl rfl ?_; intro b1 wd2 HS
  refine GO.alloc HS rfl zr63 rfl rfl ?_; intro b3 wd4 HS
  refine GO.assign rfl rfl rfl ?_
  refine GO.nil ?_
  refine G.seq ?_
  obtain ⟨t5, h6, H⟩ := Option.bind_eq_some_iff.1 H
  refine G.region ?_
  refine GO.fld (⟨b1, 0, none⟩) rfl rfl fl28_0 rfl rfl ?_
  refine GO.ldBox (j := 1) HS rfl rfl rfl rfl na26 rfl ?_
  refine GO.fn rfl Try.func56 fok56.1 fok56.2 rfl rfl (impl_size_impl_Crossing.calls HS (RdIn.drop 2 h_d_Crossings) h6) (fun _ wd7 ⟨h8, HS⟩ => ⟨_, h8, ?_⟩)
  refine GO.assign rfl rfl rfl ?_
  refine GO.nil ?_
  refine G.seq ?_
  refine G.seq ?_
  rcases ite_elim H with ⟨c19, H⟩ | ⟨c19, H⟩
  ·
   refine G.region ?_
   refine GO.move rfl rfl rfl ?_
   refine GO.gtr rfl rfl rfl rfl ?_
   refine GO.move rfl rfl rfl ?_
   refine GO.known (t := 12) rfl (decide_eq_true c19) ?_
   refine GO.off rfl rfl rfl rfl rfl rfl ?_
   refine GO.off rfl rfl rfl rfl rfl rfl ?_
   refine GO.off rfl rfl rfl rfl rfl rfl ?_
   refine GO.off rfl rfl rfl rfl rfl rfl ?_
   refine GO.pickT rfl rfl rfl rfl rfl ?_
   refine GO.move rfl rfl rfl ?_
   refine GO.off rfl rfl rfl rfl rfl rfl ?_
   refine GO.off rfl rfl rfl rfl rfl rfl ?_
   refine GO.off rfl rfl rfl rfl rfl rfl ?_
   refine GO.pickT rfl rfl rfl rfl rfl ?_
   refine GO.nil ?_
   refine G.yesB rfl rfl ?_
   refine G.seq ?_
   refine G.region ?_
   refine GO.buildV (.agg [.slice none 0 0, .slice none 0 0].toArray) rfl rfl (fun _ => by kernel_rfl) rfl ?_
   refine GO.stBox (j := 0) (vs := [.slice none 0 0, .slice none 0 0]) ([.slice none 0 0, .slice none 0 0]) HS rfl rfl rfl rfl rfl (htA ag63) rfl rfl rfl ?_; intro wd20 HS
   refine GO.assign rfl rfl rfl ?_
   refine GO.nil ?_
   replace HS := HS.nilRow T_GEnd 68 (fun _ => ())
   replace HS := HS.nilRow T_GEnd 68 (fun _ => ())
   obtain ⟨rfl, rfl, rfl⟩ := some3 H
   exact G.ret2 _ _ Try.func45 rfl (Res1.boxA (j := 2) (vs := [.slice none 0 0, .slice none 0 0]) HS rfl rfl rfl ag63) rfl ⟨_, _, _, _, rfl, (HS.pk 4 [1, 0] rfl)⟩
  ·
   obtain ⟨t21, h22, H⟩ := Option.bind_eq_some_iff.1 H
   rcases ite_elim H with ⟨c25, H⟩ | ⟨c25, H⟩
   ·
    obtain ⟨t26, h27, H⟩ := Option.bind_eq_some_iff.1 H
    refine G.region ?_
    refine GO.move rfl rfl rfl ?_
    refine GO.gtr rfl rfl rfl rfl ?_
    refine GO.move rfl rfl rfl ?_
    refine GO.known (t := 12) rfl (decide_eq_false c19) ?_
    refine GO.on rfl rfl rfl rfl ?_
    refine GO.fld (⟨b1, 1, none⟩) rfl rfl fl28_1 rfl rfl ?_
    refine GO.back ?_
    refine GO.on rfl rfl rfl rfl ?_
    refine GO.ldBox (j := 1) HS rfl rfl rfl rfl na2 rfl ?_
    refine GO.back ?_
    refine GO.on rfl rfl rfl rfl ?_
    refine GO.fn rfl Try.func47 fok47.1 fok47.2 rfl rfl (impl_inRange.calls HS  h22) (fun _ wd23 ⟨h24, HS⟩ => ⟨_, h24, ?_⟩)
    refine GO.back ?_
    refine GO.on rfl rfl rfl rfl ?_
    refine GO.not rfl rfl rfl ?_
    refine GO.back ?_
    refine GO.pickF rfl rfl rfl rfl rfl ?_
    refine GO.move rfl rfl rfl ?_
    refine GO.known (t := 18) rfl (congrArg Bool.not c25) ?_
    refine GO.on rfl rfl rfl rfl ?_
    refine GO.fld (⟨b1, 0, none⟩) rfl rfl fl28_0 rfl rfl ?_
    refine GO.back ?_
    refine GO.on rfl rfl rfl rfl ?_
    refine GO.ldBox (j := 1) HS rfl rfl rfl rfl na26 rfl ?_
    refine GO.back ?_
    refine GO.on rfl rfl rfl rfl ?_
    refine GO.fn rfl Try.func108 fok108.1 fok108.2 rfl rfl (slices_ContainsFunc_impl_Crossing_impl_Crossing_109.calls HS (RdIn.drop 2 h_d_Crossings) h27) (fun _ wd28 ⟨h29, HS⟩ => ⟨_, h29, ?_⟩)
    refine GO.back ?_
    refine GO.pickF rfl rfl rfl rfl rfl ?_
    refine GO.nil ?_
    rcases ite_elim H with ⟨c30, H⟩ | ⟨c30, H⟩
    ·
     refine G.yesB rfl c30 ?_
     refine G.seq ?_
     refine G.region ?_
     refine GO.buildV (.agg [.slice none 0 0, .slice none 0 0].toArray) rfl rfl (fun _ => by kernel_rfl) rfl ?_
     refine GO.stBox (j := 0) (vs := [.slice none 0 0, .slice none 0 0]) ([.slice none 0 0, .slice none 0 0]) HS rfl rfl rfl rfl rfl (htA ag63) rfl rfl rfl ?_; intro wd31 HS
     refine GO.assign rfl rfl rfl ?_
     refine GO.nil ?_
     replace HS := HS.nilRow T_GEnd 68 (fun _ => ())
     replace HS := HS.nilRow T_GEnd 68 (fun _ => ())
     obtain ⟨rfl, rfl, rfl⟩ := some3 H
     exact G.ret2 _ _ Try.func45 rfl (Res1.boxA (j := 2) (vs := [.slice none 0 0, .slice none 0 0]) HS rfl rfl rfl ag63) rfl ⟨_, _, _, _, rfl, (HS.pk 4 [1, 0] rfl)⟩
    ·
     refine G.noB rfl (bnot_of c30) ?_
     refine G.skip ?_
     refine G.seq ?_
     obtain ⟨t32, t33, t34, h35, H⟩ := bind3_elim H
     refine G.region ?_
     refine GO.ldBoxA (j := 1) ([.slice A_d_Crossings d_Crossings.length c_d_Crossings, .int .i64 d_Circles]) HS rfl rfl rfl rfl ag28 rfl ?_
     refine GO.fn rfl Try.func58 fok58.1 fok58.2 rfl rfl (impl_Diagram_arrows.calls HS (RdIn.drop 2 h_d_Crossings) h35) (fun _ wd40 ⟨A36, c37, A38, c39, h41, HS⟩ => ⟨_, h41, ?_⟩)
     refine GO.move rfl rfl rfl ?_
     refine GO.extract rfl rfl rfl rfl ?_
     refine GO.extract rfl rfl rfl rfl ?_
     refine GO.alloc HS rfl zr63 rfl rfl ?_; intro b42 wd43 HS
     refine GO.stBox (j := 0) (vs := [.slice A36 t32.length c37, .slice A38 t33.length c39]) ([.slice A36 t32.length c37, .slice A38 t33.length c39]) HS rfl rfl rfl rfl rfl (htA ag63) rfl rfl rfl ?_; intro wd44 HS
     refine GO.assign rfl rfl rfl ?_
     refine GO.nil ?_
     refine G.seq ?_
     refine G.seq ?_
     rcases ite_elim H with ⟨c67, H⟩ | ⟨c67, H⟩
     ·
      obtain ⟨t68, h69, H⟩ := Option.bind_eq_some_iff.1 H
      obtain ⟨t75, h76, H⟩ := Option.bind_eq_some_iff.1 H
      obtain ⟨t79, h80, H⟩ := Option.bind_eq_some_iff.1 H
      obtain ⟨t85, h86, H⟩ := Option.bind_eq_some_iff.1 H
      refine G.regionAny mixed (by decide) (fun b a w => ∃ (Y1_0 : Value) (Y2_1 : Value) (Y3_2 : Value) (Y4_3 : Value) (Y5_4 : Value) (Y6_5 : Value) (Y7_6 : Value) (Y8_7 : Value) (Y9_8 : Value) (Y10_9 : Value) (Y11_10 : Value) (Y12_11 : Value) (Y13_12 : Value) (Y14_13 : Value) (Y15_14 : Value) (Y16_15 : Value) (A70 : Option Addr) (c71 : Nat) (y72 : Nat → (Ty.slice 2 (TInt .i64)).Lay) (A81 : Option Addr) (c82 : Nat) (O17_12 : HObj) (O18_13 : HObj), Sat 47 [(29, Y1_0), (30, Y2_1), (31, Y3_2), (32, Y4_3), (33, Y5_4), (34, Y6_5), (35, Y7_6), (36, Y8_7), (37, Y9_8), (38, Y10_9), (39, Y11_10), (40, Y12_11), (41, Y13_12), (42, Y14_13), (43, Y15_14), (44, Y16_15), (1, .pointer (some ⟨b1, 0, none⟩)), (2, .pointer (some ⟨b3, 0, none⟩)), (4, .int .i64 t5), (5, .pointer (some ⟨b42, 0, none⟩)), (6, .bool t34)] a ∧ St w0 w (Box b42 63 [.slice A36 t32.length c37, .slice A38 t33.length c39] :: Own T_GEnd 68 A36 c37 (fun _ => ()) t32 :: Own T_GEnd 68 A38 c39 (fun _ => ()) t33 :: Box b3 63 [.slice none 0 0, .slice none 0 0] :: Box b1 28 [.slice A_d_Crossings d_Crossings.length c_d_Crossings, .int .i64 d_Circles] :: O17_12 :: O18_13 :: L) ∧ (b 0 = true → Y1_0 = (.bool t34)) ∧ (b 1 = true → Y2_1 = (.bool (!t34))) ∧ (b 2 = true → Y3_2 = (.bool false)) ∧ (b 3 = true → Y4_3 = (.agg [.slice A_d_Crossings d_Crossings.length c_d_Crossings, .int .i64 d_Circles].toArray)) ∧ (b 4 = true → Y5_4 = (.agg [.slice A36 t32.length c37, .slice A38 t33.length c39].toArray)) ∧ (b 5 = true → Y6_5 = (.slice A70 t68.length c71)) ∧ (b 6 = true → Y7_6 = (.int .i64 t75)) ∧ (b 7 = true → Y8_7 = (.int .i64 t5)) ∧ (b 8 = true → Y9_8 = (.agg [.slice A_d_Crossings d_Crossings.length c_d_Crossings, .int .i64 d_Circles].toArray)) ∧ (b 9 = true → Y10_9 = (.agg [.slice A36 t32.length c37, .slice A38 t33.length c39].toArray)) ∧ (b 10 = true → Y11_10 = (.slice A81 t79.length c82)) ∧ (b 11 = true → Y12_11 = (.int .i64 t85)) ∧ (b 12 = true → Y13_12 = (.int .i64 (w64 (2 * t85)))) ∧ (b 13 = true → Y14_13 = (.int .i64 (w64 (t5 + (w64 (2 * t85)))))) ∧ (b 14 = true → Y15_14 = (.bool (!(decide (t75 = w64 (t5 + (w64 (2 * t85)))))))) ∧ (b 15 = true → Y16_15 = (.bool (!(decide (t75 = w64 (t5 + (w64 (2 * t85)))))))) ∧ (b 5 = true → O17_12 = Own (Ty.slice 2 (TInt .i64)) 43 A70 c71 y72 t68) ∧ (b 10 = true → O18_13 = Own (TInt .i64) 2 A81 c82 (fun _ => ()) t79)) ?_ ?_ ?_
      ·
       intro a hs
       obtain ⟨Y1_0, hs⟩ := hs.ext (d := 29) rfl
       obtain ⟨Y2_1, hs⟩ := hs.ext (d := 30) rfl
       obtain ⟨Y3_2, hs⟩ := hs.ext (d := 31) rfl
       obtain ⟨Y4_3, hs⟩ := hs.ext (d := 32) rfl
       obtain ⟨Y5_4, hs⟩ := hs.ext (d := 33) rfl
       obtain ⟨Y6_5, hs⟩ := hs.ext (d := 34) rfl
       obtain ⟨Y7_6, hs⟩ := hs.ext (d := 35) rfl
       obtain ⟨Y8_7, hs⟩ := hs.ext (d := 36) rfl
       obtain ⟨Y9_8, hs⟩ := hs.ext (d := 37) rfl
       obtain ⟨Y10_9, hs⟩ := hs.ext (d := 38) rfl
       obtain ⟨Y11_10, hs⟩ := hs.ext (d := 39) rfl
       obtain ⟨Y12_11, hs⟩ := hs.ext (d := 40) rfl
       obtain ⟨Y13_12, hs⟩ := hs.ext (d := 41) rfl
       obtain ⟨Y14_13, hs⟩ := hs.ext (d := 42) rfl
       obtain ⟨Y15_14, hs⟩ := hs.ext (d := 43) rfl
       obtain ⟨Y16_15, hs⟩ := hs.ext (d := 44) rfl
       exact ⟨Y1_0, Y2_1, Y3_2, Y4_3, Y5_4, Y6_5, Y7_6, Y8_7, Y9_8, Y10_9, Y11_10, Y12_11, Y13_12, Y14_13, Y15_14, Y16_15, none, 0, (fun _ => ⟨none, 0, fun _ => ()⟩), none, 0, Emp, Emp, hs.weak ⟨rfl, rfl, rfl, rfl, rfl, rfl, rfl, rfl, rfl, rfl, rfl, rfl, rfl, rfl, rfl, rfl, rfl, rfl, rfl, rfl, rfl, trivial⟩, (HS.drew.emp.emp.pk 7 [2, 3, 4, 5, 6, 1, 0] rfl), fun h => Bool.noConfusion h, fun h => Bool.noConfusion h, fun h => Bool.noConfusion h, fun h => Bool.noConfusion h, fun h => Bool.noConfusion h, fun h => Bool.noConfusion h, fun h => Bool.noConfusion h, fun h => Bool.noConfusion h, fun h => Bool.noConfusion h, fun h => Bool.noConfusion h, fun h => Bool.noConfusion h, fun h => Bool.noConfusion h, fun h => Bool.noConfusion h, fun h => Bool.noConfusion h, fun h => Bool.noConfusion h, fun h => Bool.noConfusion h, fun h => Bool.noConfusion h, fun h => Bool.noConfusion h⟩
      ·
       intro j hj b a w
       refine exI fun Y1_0 => exI fun Y2_1 => exI fun Y3_2 => exI fun Y4_3 => exI fun Y5_4 => exI fun Y6_5 => exI fun Y7_6 => exI fun Y8_7 => exI fun Y9_8 => exI fun Y10_9 => exI fun Y11_10 => exI fun Y12_11 => exI fun Y13_12 => exI fun Y14_13 => exI fun Y15_14 => exI fun Y16_15 => exI fun A70 => exI fun c71 => exI fun y72 => exI fun A81 => exI fun c82 => exI fun O17_12 => exI fun O18_13 => anI fun hs => anI fun HS => anI fun f0 => anI fun f1 => anI fun f2 => anI fun f3 => anI fun f4 => anI fun f5 => anI fun f6 => anI fun f7 => anI fun f8 => anI fun f9 => anI fun f10 => anI fun f11 => anI fun f12 => anI fun f13 => anI fun f14 => anI fun f15 => anI fun o12_0 => fun o13_0 hb hd hcl => ?_
       match j, hj with
       | 0, _ =>
        refine GO.at hs ?_
        refine GO.move rfl rfl rfl ?_
        refine GO.fin (fun a hs => ?_)
        exact ⟨(.bool t34), _, _, _, _, _, _, _, _, _, _, _, _, _, _, _, A70, c71, y72, A81, c82, _, _, by exact hs.setAt 0 rfl, HS, fun _ => rfl, f1, f2, f3, f4, f5, f6, f7, f8, f9, f10, f11, f12, f13, f14, f15, o12_0, o13_0⟩
       | 1, _ =>
        have hb0 : b 0 = true := hd 0 (by decide)
        obtain rfl := f0 hb0
        refine GO.at hs ?_
        refine GO.not rfl rfl rfl ?_
        refine GO.fin (fun a hs => ?_)
        exact ⟨_, (.bool (!t34)), _, _, _, _, _, _, _, _, _, _, _, _, _, _, A70, c71, y72, A81, c82, _, _, by exact hs.setAt 1 rfl, HS, f0, fun _ => rfl, f2, f3, f4, f5, f6, f7, f8, f9, f10, f11, f12, f13, f14, f15, o12_0, o13_0⟩
       | 2, _ =>
        have hb1 : b 1 = true := hd 1 (by decide)
        obtain rfl := f1 hb1
        refine GO.at hs ?_
        refine GO.move rfl rfl rfl ?_
        refine GO.known (t := 31) rfl (congrArg Bool.not c67) ?_
        refine GO.fin (fun a hs => ?_)
        exact ⟨_, _, (.bool false), _, _, _, _, _, _, _, _, _, _, _, _, _, A70, c71, y72, A81, c82, _, _, hs.weak ⟨rfl, rfl, rfl, rfl, rfl, rfl, rfl, rfl, rfl, rfl, rfl, rfl, rfl, rfl, rfl, rfl, rfl, rfl, rfl, rfl, rfl, trivial⟩, HS, f0, f1, fun _ => rfl, f3, f4, f5, f6, f7, f8, f9, f10, f11, f12, f13, f14, f15, o12_0, o13_0⟩
       | 3, _ =>
        have hb2 : b 2 = true := hd 2 (by decide)
        obtain rfl := f2 hb2
        refine GO.at hs ?_
        refine GO.on rfl rfl rfl rfl ?_
        refine GO.ldBoxA (j := 4) ([.slice A_d_Crossings d_Crossings.length c_d_Crossings, .int .i64 d_Circles]) HS rfl rfl rfl rfl ag28 rfl ?_
        refine GO.back ?_
        refine GO.fin (fun a hs => ?_)
        exact ⟨_, _, _, (.agg [.slice A_d_Crossings d_Crossings.length c_d_Crossings, .int .i64 d_Circles].toArray), _, _, _, _, _, _, _, _, _, _, _, _, A70, c71, y72, A81, c82, _, _, by exact hs.setAt 3 rfl, HS, f0, f1, f2, fun _ => rfl, f4, f5, f6, f7, f8, f9, f10, f11, f12, f13, f14, f15, o12_0, o13_0⟩
       | 4, _ =>
        have hb2 : b 2 = true := hd 2 (by decide)
        obtain rfl := f2 hb2
        refine GO.at hs ?_
        refine GO.on rfl rfl rfl rfl ?_
        refine GO.ldBoxA (j := 0) ([.slice A36 t32.length c37, .slice A38 t33.length c39]) HS rfl rfl rfl rfl ag63 rfl ?_
        refine GO.back ?_
        refine GO.fin (fun a hs => ?_)
        exact ⟨_, _, _, _, (.agg [.slice A36 t32.length c37, .slice A38 t33.length c39].toArray), _, _, _, _, _, _, _, _, _, _, _, A70, c71, y72, A81, c82, _, _, by exact hs.setAt 4 rfl, HS, f0, f1, f2, f3, fun _ => rfl, f5, f6, f7, f8, f9, f10, f11, f12, f13, f14, f15, o12_0, o13_0⟩
       | 5, _ =>
        have hb2 : b 2 = true := hd 2 (by decide)
        obtain rfl := f2 hb2
        have hb3 : b 3 = true := hd 3 (by decide)
        obtain rfl := f3 hb3
        have hb4 : b 4 = true := hd 4 (by decide)
        obtain rfl := f4 hb4
        refine GO.at hs ?_
        refine GO.on rfl rfl rfl rfl ?_
        refine GO.fn rfl Try.func111 fok111.1 fok111.2 rfl rfl (impl_Diagram_regions.calls HS (RdIn.drop 7 h_d_Crossings) (RdIn.own (j := 1) rfl) (RdIn.own (j := 2) rfl) h69) (fun _ wd73 ⟨A70, c71, y72, h74, HS⟩ => ⟨_, h74, ?_⟩)
        refine GO.back ?_
        refine GO.fin (fun a hs => ?_)
        exact ⟨_, _, _, _, _, (.slice A70 t68.length c71), _, _, _, _, _, _, _, _, _, _, A70, c71, y72, A81, c82, Own (Ty.slice 2 (TInt .i64)) 43 A70 c71 y72 t68, _, by exact hs.setAt 5 rfl, HS.pk 8 [1, 2, 3, 4, 5, 0, 7] rfl, f0, f1, f2, f3, f4, fun _ => rfl, f6, f7, f8, f9, f10, f11, f12, f13, f14, f15, fun _ => rfl, o13_0⟩
       | 6, _ =>
        have hb2 : b 2 = true := hd 2 (by decide)
        obtain rfl := f2 hb2
        have hb5 : b 5 = true := hd 5 (by decide)
        obtain rfl := f5 hb5
        obtain rfl := o12_0 hb5
        refine GO.at hs ?_
        refine GO.on rfl rfl rfl rfl ?_
        refine GO.fn rfl Try.func110 fok110.1 fok110.2 rfl rfl (impl_size_int64.calls HS (RdIn.own (j := 5) rfl) h76) (fun _ wd77 ⟨h78, HS⟩ => ⟨_, h78, ?_⟩)
        refine GO.back ?_
        refine GO.fin (fun a hs => ?_)
        exact ⟨_, _, _, _, _, _, (.int .i64 t75), _, _, _, _, _, _, _, _, _, A70, c71, y72, A81, c82, _, _, by exact hs.setAt 6 rfl, HS, f0, f1, f2, f3, f4, f5, fun _ => rfl, f7, f8, f9, f10, f11, f12, f13, f14, f15, o12_0, o13_0⟩
       | 7, _ =>
        have hb2 : b 2 = true := hd 2 (by decide)
        obtain rfl := f2 hb2
        refine GO.at hs ?_
        refine GO.on rfl rfl rfl rfl ?_
        refine GO.move rfl rfl rfl ?_
        refine GO.back ?_
        refine GO.fin (fun a hs => ?_)
        exact ⟨_, _, _, _, _, _, _, (.int .i64 t5), _, _, _, _, _, _, _, _, A70, c71, y72, A81, c82, _, _, by exact hs.setAt 7 rfl, HS, f0, f1, f2, f3, f4, f5, f6, fun _ => rfl, f8, f9, f10, f11, f12, f13, f14, f15, o12_0, o13_0⟩
       | 8, _ =>
        have hb2 : b 2 = true := hd 2 (by decide)
        obtain rfl := f2 hb2
        refine GO.at hs ?_
        refine GO.on rfl rfl rfl rfl ?_
        refine GO.ldBoxA (j := 4) ([.slice A_d_Crossings d_Crossings.length c_d_Crossings, .int .i64 d_Circles]) HS rfl rfl rfl rfl ag28 rfl ?_
        refine GO.back ?_
        refine GO.fin (fun a hs => ?_)
        exact ⟨_, _, _, _, _, _, _, _, (.agg [.slice A_d_Crossings d_Crossings.length c_d_Crossings, .int .i64 d_Circles].toArray), _, _, _, _, _, _, _, A70, c71, y72, A81, c82, _, _, by exact hs.setAt 8 rfl, HS, f0, f1, f2, f3, f4, f5, f6, f7, fun _ => rfl, f9, f10, f11, f12, f13, f14, f15, o12_0, o13_0⟩
       | 9, _ =>
        have hb2 : b 2 = true := hd 2 (by decide)
        obtain rfl := f2 hb2
        refine GO.at hs ?_
        refine GO.on rfl rfl rfl rfl ?_
        refine GO.ldBoxA (j := 0) ([.slice A36 t32.length c37, .slice A38 t33.length c39]) HS rfl rfl rfl rfl ag63 rfl ?_
        refine GO.back ?_
        refine GO.fin (fun a hs => ?_)
        exact ⟨_, _, _, _, _, _, _, _, _, (.agg [.slice A36 t32.length c37, .slice A38 t33.length c39].toArray), _, _, _, _, _, _, A70, c71, y72, A81, c82, _, _, by exact hs.setAt 9 rfl, HS, f0, f1, f2, f3, f4, f5, f6, f7, f8, fun _ => rfl, f10, f11, f12, f13, f14, f15, o12_0, o13_0⟩
       | 10, _ =>
        have hb2 : b 2 = true := hd 2 (by decide)
        obtain rfl := f2 hb2
        have hb8 : b 8 = true := hd 8 (by decide)
        obtain rfl := f8 hb8
        have hb9 : b 9 = true := hd 9 (by decide)
        obtain rfl := f9 hb9
        refine GO.at hs ?_
        refine GO.on rfl rfl rfl rfl ?_
        refine GO.fn rfl Try.func85 fok85.1 fok85.2 rfl rfl (impl_Diagram_parts.calls HS (RdIn.drop 7 h_d_Crossings) (RdIn.own (j := 1) rfl) (RdIn.own (j := 2) rfl) h80) (fun _ wd83 ⟨A81, c82, h84, HS⟩ => ⟨_, h84, ?_⟩)
        refine GO.back ?_
        refine GO.fin (fun a hs => ?_)
        exact ⟨_, _, _, _, _, _, _, _, _, _, (.slice A81 t79.length c82), _, _, _, _, _, A70, c71, y72, A81, c82, _, Own (TInt .i64) 2 A81 c82 (fun _ => ()) t79, by exact hs.setAt 10 rfl, HS.pk 8 [1, 2, 3, 4, 5, 6, 0] rfl, f0, f1, f2, f3, f4, f5, f6, f7, f8, f9, fun _ => rfl, f11, f12, f13, f14, f15, o12_0, fun _ => rfl⟩
       | 11, _ =>
        have hb2 : b 2 = true := hd 2 (by decide)
        obtain rfl := f2 hb2
        have hb10 : b 10 = true := hd 10 (by decide)
        obtain rfl := f10 hb10
        obtain rfl := o13_0 hb10
        refine GO.at hs ?_
        refine GO.on rfl rfl rfl rfl ?_
        refine GO.fn rfl Try.func84 fok84.1 fok84.2 rfl rfl (impl_classCount.calls HS (RdIn.own (j := 6) rfl) h86) (fun _ wd87 ⟨h88, HS⟩ => ⟨_, h88, ?_⟩)
        refine GO.back ?_
        refine GO.fin (fun a hs => ?_)
        exact ⟨_, _, _, _, _, _, _, _, _, _, _, (.int .i64 t85), _, _, _, _, A70, c71, y72, A81, c82, _, _, by exact hs.setAt 11 rfl, HS, f0, f1, f2, f3, f4, f5, f6, f7, f8, f9, f10, fun _ => rfl, f12, f13, f14, f15, o12_0, o13_0⟩
       | 12, _ =>
        have hb2 : b 2 = true := hd 2 (by decide)
        obtain rfl := f2 hb2
        have hb11 : b 11 = true := hd 11 (by decide)
        obtain rfl := f11 hb11
        refine GO.at hs ?_
        refine GO.on rfl rfl rfl rfl ?_
        refine GO.mul rfl rfl rfl rfl ?_
        refine GO.back ?_
        refine GO.fin (fun a hs => ?_)
        exact ⟨_, _, _, _, _, _, _, _, _, _, _, _, (.int .i64 (w64 (2 * t85))), _, _, _, A70, c71, y72, A81, c82, _, _, by exact hs.setAt 12 rfl, HS, f0, f1, f2, f3, f4, f5, f6, f7, f8, f9, f10, f11, fun _ => rfl, f13, f14, f15, o12_0, o13_0⟩
       | 13, _ =>
        have hb2 : b 2 = true := hd 2 (by decide)
        obtain rfl := f2 hb2
        have hb7 : b 7 = true := hd 7 (by decide)
        obtain rfl := f7 hb7
        have hb12 : b 12 = true := hd 12 (by decide)
        obtain rfl := f12 hb12
        refine GO.at hs ?_
        refine GO.on rfl rfl rfl rfl ?_
        refine GO.add rfl rfl rfl rfl ?_
        refine GO.back ?_
        refine GO.fin (fun a hs => ?_)
        exact ⟨_, _, _, _, _, _, _, _, _, _, _, _, _, (.int .i64 (w64 (t5 + (w64 (2 * t85))))), _, _, A70, c71, y72, A81, c82, _, _, by exact hs.setAt 13 rfl, HS, f0, f1, f2, f3, f4, f5, f6, f7, f8, f9, f10, f11, f12, fun _ => rfl, f14, f15, o12_0, o13_0⟩
       | 14, _ =>
        have hb2 : b 2 = true := hd 2 (by decide)
        obtain rfl := f2 hb2
        have hb6 : b 6 = true := hd 6 (by decide)
        obtain rfl := f6 hb6
        have hb13 : b 13 = true := hd 13 (by decide)
        obtain rfl := f13 hb13
        refine GO.at hs ?_
        refine GO.on rfl rfl rfl rfl ?_
        refine GO.neq rfl rfl rfl rfl ?_
        refine GO.back ?_
        refine GO.fin (fun a hs => ?_)
        exact ⟨_, _, _, _, _, _, _, _, _, _, _, _, _, _, (.bool (!(decide (t75 = w64 (t5 + (w64 (2 * t85))))))), _, A70, c71, y72, A81, c82, _, _, by exact hs.setAt 14 rfl, HS, f0, f1, f2, f3, f4, f5, f6, f7, f8, f9, f10, f11, f12, f13, fun _ => rfl, f15, o12_0, o13_0⟩
       | 15, _ =>
        have hb2 : b 2 = true := hd 2 (by decide)
        obtain rfl := f2 hb2
        have hb14 : b 14 = true := hd 14 (by decide)
        obtain rfl := f14 hb14
        refine GO.at hs ?_
        refine GO.pickF rfl rfl rfl rfl rfl ?_
        refine GO.fin (fun a hs => ?_)
        exact ⟨_, _, _, _, _, _, _, _, _, _, _, _, _, _, _, (.bool (!(decide (t75 = w64 (t5 + (w64 (2 * t85))))))), A70, c71, y72, A81, c82, _, _, by exact hs.setAt 15 rfl, HS, f0, f1, f2, f3, f4, f5, f6, f7, f8, f9, f10, f11, f12, f13, f14, fun _ => rfl, o12_0, o13_0⟩
       | k + 16, hj => exact absurd hj (Nat.not_lt.2 (Nat.le_add_left 16 k))
      ·
       intro b a w hall
       refine exI fun Y1_0 => exI fun Y2_1 => exI fun Y3_2 => exI fun Y4_3 => exI fun Y5_4 => exI fun Y6_5 => exI fun Y7_6 => exI fun Y8_7 => exI fun Y9_8 => exI fun Y10_9 => exI fun Y11_10 => exI fun Y12_11 => exI fun Y13_12 => exI fun Y14_13 => exI fun Y15_14 => exI fun Y16_15 => exI fun A70 => exI fun c71 => exI fun y72 => exI fun A81 => exI fun c82 => exI fun O17_12 => exI fun O18_13 => anI fun hs => anI fun HS => anI fun f0 => anI fun f1 => anI fun f2 => anI fun f3 => anI fun f4 => anI fun f5 => anI fun f6 => anI fun f7 => anI fun f8 => anI fun f9 => anI fun f10 => anI fun f11 => anI fun f12 => anI fun f13 => anI fun f14 => anI fun f15 => anI fun o12_0 => fun o13_0 => ?_
       obtain rfl := f0 (hall 0 (by decide))
       obtain rfl := f1 (hall 1 (by decide))
       obtain rfl := f2 (hall 2 (by decide))
       obtain rfl := f3 (hall 3 (by decide))
       obtain rfl := f4 (hall 4 (by decide))
       obtain rfl := f5 (hall 5 (by decide))
       obtain rfl := f6 (hall 6 (by decide))
       obtain rfl := f7 (hall 7 (by decide))
       obtain rfl := f8 (hall 8 (by decide))
       obtain rfl := f9 (hall 9 (by decide))
       obtain rfl := f10 (hall 10 (by decide))
       obtain rfl := f11 (hall 11 (by decide))
       obtain rfl := f12 (hall 12 (by decide))
       obtain rfl := f13 (hall 13 (by decide))
       obtain rfl := f14 (hall 14 (by decide))
       obtain rfl := f15 (hall 15 (by decide))
       obtain rfl := o12_0 (hall 5 (by decide))
       obtain rfl := o13_0 (hall 10 (by decide))
       refine G.at hs ?_
       rcases ite_elim H with ⟨c89, H⟩ | ⟨c89, H⟩
       ·
        refine G.noB rfl (congrArg Bool.not (decide_eq_true c89)) ?_
        refine G.skip ?_
        refine G.seq ?_
        refine G.region ?_
        refine GO.ldBoxA (j := 0) ([.slice A36 t32.length c37, .slice A38 t33.length c39]) HS rfl rfl rfl rfl ag63 rfl ?_
        refine GO.stBox (j := 3) (vs := [.slice A36 t32.length c37, .slice A38 t33.length c39]) ([.slice A36 t32.length c37, .slice A38 t33.length c39]) HS rfl rfl rfl rfl rfl (htA ag63) rfl rfl rfl ?_; intro wd90 HS
        refine GO.assign rfl rfl rfl ?_
        refine GO.nil ?_
        obtain ⟨rfl, rfl, rfl⟩ := some3 H
        exact G.ret2 _ _ Try.func45 rfl (Res1.boxA (j := 3) (vs := [.slice A36 t32.length c37, .slice A38 t33.length c39]) HS rfl rfl rfl ag63) rfl ⟨_, _, _, _, rfl, (HS.pk 7 [1, 2] rfl)⟩
       ·
        refine G.yesB rfl (congrArg Bool.not (decide_eq_false c89)) ?_
        refine G.seq ?_
        refine G.region ?_
        refine GO.buildV (.agg [.slice none 0 0, .slice none 0 0].toArray) rfl rfl (fun _ => by kernel_rfl) rfl ?_
        refine GO.stBox (j := 3) (vs := [.slice none 0 0, .slice none 0 0]) ([.slice none 0 0, .slice none 0 0]) HS rfl rfl rfl rfl rfl (htA ag63) rfl rfl rfl ?_; intro wd91 HS
        refine GO.assign rfl rfl rfl ?_
        refine GO.nil ?_
        replace HS := HS.nilRow T_GEnd 68 (fun _ => ())
        replace HS := HS.nilRow T_GEnd 68 (fun _ => ())
        obtain ⟨rfl, rfl, rfl⟩ := some3 H
        exact G.ret2 _ _ Try.func45 rfl (Res1.boxA (j := 5) (vs := [.slice none 0 0, .slice none 0 0]) HS rfl rfl rfl ag63) rfl ⟨_, _, _, _, rfl, (HS.pk 9 [1, 0] rfl)⟩
     ·
      refine G.regionAny mixed (by decide) (fun b a w => ∃ (Y19_0 : Value) (Y20_1 : Value) (Y21_2 : Value) (Y22_3 : Value) (Y23_4 : Value) (Y24_5 : Value) (Y25_6 : Value) (Y26_7 : Value) (Y27_8 : Value) (Y28_9 : Value) (Y29_10 : Value) (Y30_11 : Value) (Y31_12 : Value) (Y32_13 : Value) (Y33_14 : Value) (Y34_15 : Value), Sat 47 [(29, Y19_0), (30, Y20_1), (31, Y21_2), (32, Y22_3), (33, Y23_4), (34, Y24_5), (35, Y25_6), (36, Y26_7), (37, Y27_8), (38, Y28_9), (39, Y29_10), (40, Y30_11), (41, Y31_12), (42, Y32_13), (43, Y33_14), (44, Y34_15), (1, .pointer (some ⟨b1, 0, none⟩)), (2, .pointer (some ⟨b3, 0, none⟩)), (4, .int .i64 t5), (5, .pointer (some ⟨b42, 0, none⟩)), (6, .bool t34)] a ∧ St w0 w (Box b42 63 [.slice A36 t32.length c37, .slice A38 t33.length c39] :: Own T_GEnd 68 A36 c37 (fun _ => ()) t32 :: Own T_GEnd 68 A38 c39 (fun _ => ()) t33 :: Box b3 63 [.slice none 0 0, .slice none 0 0] :: Box b1 28 [.slice A_d_Crossings d_Crossings.length c_d_Crossings, .int .i64 d_Circles] :: L) ∧ (b 0 = true → Y19_0 = (.bool t34)) ∧ (b 1 = true → Y20_1 = (.bool (!t34))) ∧ (b 2 = true → Y21_2 = (.bool true)) ∧ (b 3 = true → Y22_3 = (undef)) ∧ (b 4 = true → Y23_4 = (undef)) ∧ (b 5 = true → Y24_5 = (undef)) ∧ (b 6 = true → Y25_6 = (undef)) ∧ (b 7 = true → Y26_7 = (undef)) ∧ (b 8 = true → Y27_8 = (undef)) ∧ (b 9 = true → Y28_9 = (undef)) ∧ (b 10 = true → Y29_10 = (undef)) ∧ (b 11 = true → Y30_11 = (undef)) ∧ (b 12 = true → Y31_12 = (undef)) ∧ (b 13 = true → Y32_13 = (undef)) ∧ (b 14 = true → Y33_14 = (undef)) ∧ (b 15 = true → Y34_15 = (.bool true))) ?_ ?_ ?_
      ·
       intro a hs
       obtain ⟨Y19_0, hs⟩ := hs.ext (d := 29) rfl
       obtain ⟨Y20_1, hs⟩ := hs.ext (d := 30) rfl
       obtain ⟨Y21_2, hs⟩ := hs.ext (d := 31) rfl
       obtain ⟨Y22_3, hs⟩ := hs.ext (d := 32) rfl
       obtain ⟨Y23_4, hs⟩ := hs.ext (d := 33) rfl
       obtain ⟨Y24_5, hs⟩ := hs.ext (d := 34) rfl
       obtain ⟨Y25_6, hs⟩ := hs.ext (d := 35) rfl
       obtain ⟨Y26_7, hs⟩ := hs.ext (d := 36) rfl
       obtain ⟨Y27_8, hs⟩ := hs.ext (d := 37) rfl
       obtain ⟨Y28_9, hs⟩ := hs.ext (d := 38) rfl
       obtain ⟨Y29_10, hs⟩ := hs.ext (d := 39) rfl
       obtain ⟨Y30_11, hs⟩ := hs.ext (d := 40) rfl
       obtain ⟨Y31_12, hs⟩ := hs.ext (d := 41) rfl
       obtain ⟨Y32_13, hs⟩ := hs.ext (d := 42) rfl
       obtain ⟨Y33_14, hs⟩ := hs.ext (d := 43) rfl
       obtain ⟨Y34_15, hs⟩ := hs.ext (d := 44) rfl
       exact ⟨Y19_0, Y20_1, Y21_2, Y22_3, Y23_4, Y24_5, Y25_6, Y26_7, Y27_8, Y28_9, Y29_10, Y30_11, Y31_12, Y32_13, Y33_14, Y34_15, hs.weak ⟨rfl, rfl, rfl, rfl, rfl, rfl, rfl, rfl, rfl, rfl, rfl, rfl, rfl, rfl, rfl, rfl, rfl, rfl, rfl, rfl, rfl, trivial⟩, (HS.drew.pk 5 [0, 1, 2, 3, 4] rfl), fun h => Bool.noConfusion h, fun h => Bool.noConfusion h, fun h => Bool.noConfusion h, fun h => Bool.noConfusion h, fun h => Bool.noConfusion h, fun h => Bool.noConfusion h, fun h => Bool.noConfusion h, fun h => Bool.noConfusion h, fun h => Bool.noConfusion h, fun h => Bool.noConfusion h, fun h => Bool.noConfusion h, fun h => Bool.noConfusion h, fun h => Bool.noConfusion h, fun h => Bool.noConfusion h, fun h => Bool.noConfusion h, fun h => Bool.noConfusion h⟩
      ·
       intro j hj b a w
       refine exI fun Y19_0 => exI fun Y20_1 => exI fun Y21_2 => exI fun Y22_3 => exI fun Y23_4 => exI fun Y24_5 => exI fun Y25_6 => exI fun Y26_7 => exI fun Y27_8 => exI fun Y28_9 => exI fun Y29_10 => exI fun Y30_11 => exI fun Y31_12 => exI fun Y32_13 => exI fun Y33_14 => exI fun Y34_15 => anI fun hs => anI fun HS => anI fun f0 => anI fun f1 => anI fun f2 => anI fun f3 => anI fun f4 => anI fun f5 => anI fun f6 => anI fun f7 => anI fun f8 => anI fun f9 => anI fun f10 => anI fun f11 => anI fun f12 => anI fun f13 => anI fun f14 => fun f15 hb hd hcl => ?_
       match j, hj with
       | 0, _ =>
        refine GO.at hs ?_
        refine GO.move rfl rfl rfl ?_
        refine GO.fin (fun a hs => ?_)
        exact ⟨(.bool t34), _, _, _, _, _, _, _, _, _, _, _, _, _, _, _, by exact hs.setAt 0 rfl, HS, fun _ => rfl, f1, f2, f3, f4, f5, f6, f7, f8, f9, f10, f11, f12, f13, f14, f15⟩
       | 1, _ =>
        have hb0 : b 0 = true := hd 0 (by decide)
        obtain rfl := f0 hb0
        refine GO.at hs ?_
        refine GO.not rfl rfl rfl ?_
        refine GO.fin (fun a hs => ?_)
        exact ⟨_, (.bool (!t34)), _, _, _, _, _, _, _, _, _, _, _, _, _, _, by exact hs.setAt 1 rfl, HS, f0, fun _ => rfl, f2, f3, f4, f5, f6, f7, f8, f9, f10, f11, f12, f13, f14, f15⟩
       | 2, _ =>
        have hb1 : b 1 = true := hd 1 (by decide)
        obtain rfl := f1 hb1
        refine GO.at hs ?_
        refine GO.move rfl rfl rfl ?_
        refine GO.known (t := 31) rfl (congrArg Bool.not (bnot_of c67)) ?_
        refine GO.fin (fun a hs => ?_)
        exact ⟨_, _, (.bool true), _, _, _, _, _, _, _, _, _, _, _, _, _, hs.weak ⟨rfl, rfl, rfl, rfl, rfl, rfl, rfl, rfl, rfl, rfl, rfl, rfl, rfl, rfl, rfl, rfl, rfl, rfl, rfl, rfl, rfl, trivial⟩, HS, f0, f1, fun _ => rfl, f3, f4, f5, f6, f7, f8, f9, f10, f11, f12, f13, f14, f15⟩
       | 3, _ =>
        have hb2 : b 2 = true := hd 2 (by decide)
        obtain rfl := f2 hb2
        refine GO.at hs ?_
        refine GO.off rfl rfl rfl rfl rfl rfl ?_
        refine GO.fin (fun a hs => ?_)
        exact ⟨_, _, _, (undef), _, _, _, _, _, _, _, _, _, _, _, _, by exact hs.setAt 3 rfl, HS, f0, f1, f2, fun _ => rfl, f4, f5, f6, f7, f8, f9, f10, f11, f12, f13, f14, f15⟩
       | 4, _ =>
        have hb2 : b 2 = true := hd 2 (by decide)
        obtain rfl := f2 hb2
        refine GO.at hs ?_
        refine GO.off rfl rfl rfl rfl rfl rfl ?_
        refine GO.fin (fun a hs => ?_)
        exact ⟨_, _, _, _, (undef), _, _, _, _, _, _, _, _, _, _, _, by exact hs.setAt 4 rfl, HS, f0, f1, f2, f3, fun _ => rfl, f5, f6, f7, f8, f9, f10, f11, f12, f13, f14, f15⟩
       | 5, _ =>
        have hb2 : b 2 = true := hd 2 (by decide)
        obtain rfl := f2 hb2
        have hb3 : b 3 = true := hd 3 (by decide)
        obtain rfl := f3 hb3
        have hb4 : b 4 = true := hd 4 (by decide)
        obtain rfl := f4 hb4
        refine GO.at hs ?_
        refine GO.off rfl rfl rfl rfl rfl rfl ?_
        refine GO.fin (fun a hs => ?_)
        exact ⟨_, _, _, _, _, (undef), _, _, _, _, _, _, _, _, _, _, by exact hs.setAt 5 rfl, HS, f0, f1, f2, f3, f4, fun _ => rfl, f6, f7, f8, f9, f10, f11, f12, f13, f14, f15⟩
       | 6, _ =>
        have hb2 : b 2 = true := hd 2 (by decide)
        obtain rfl := f2 hb2
        have hb5 : b 5 = true := hd 5 (by decide)
        obtain rfl := f5 hb5
        refine GO.at hs ?_
        refine GO.off rfl rfl rfl rfl rfl rfl ?_
        refine GO.fin (fun a hs => ?_)
        exact ⟨_, _, _, _, _, _, (undef), _, _, _, _, _, _, _, _, _, by exact hs.setAt 6 rfl, HS, f0, f1, f2, f3, f4, f5, fun _ => rfl, f7, f8, f9, f10, f11, f12, f13, f14, f15⟩
       | 7, _ =>
        have hb2 : b 2 = true := hd 2 (by decide)
        obtain rfl := f2 hb2
        refine GO.at hs ?_
        refine GO.off rfl rfl rfl rfl rfl rfl ?_
        refine GO.fin (fun a hs => ?_)
        exact ⟨_, _, _, _, _, _, _, (undef), _, _, _, _, _, _, _, _, by exact hs.setAt 7 rfl, HS, f0, f1, f2, f3, f4, f5, f6, fun _ => rfl, f8, f9, f10, f11, f12, f13, f14, f15⟩
       | 8, _ =>
        have hb2 : b 2 = true := hd 2 (by decide)
        obtain rfl := f2 hb2
        refine GO.at hs ?_
        refine GO.off rfl rfl rfl rfl rfl rfl ?_
        refine GO.fin (fun a hs => ?_)
        exact ⟨_, _, _, _, _, _, _, _, (undef), _, _, _, _, _, _, _, by exact hs.setAt 8 rfl, HS, f0, f1, f2, f3, f4, f5, f6, f7, fun _ => rfl, f9, f10, f11, f12, f13, f14, f15⟩
       | 9, _ =>
        have hb2 : b 2 = true := hd 2 (by decide)
        obtain rfl := f2 hb2
        refine GO.at hs ?_
        refine GO.off rfl rfl rfl rfl rfl rfl ?_
        refine GO.fin (fun a hs => ?_)
        exact ⟨_, _, _, _, _, _, _, _, _, (undef), _, _, _, _, _, _, by exact hs.setAt 9 rfl, HS, f0, f1, f2, f3, f4, f5, f6, f7, f8, fun _ => rfl, f10, f11, f12, f13, f14, f15⟩
       | 10, _ =>
        have hb2 : b 2 = true := hd 2 (by decide)
        obtain rfl := f2 hb2
        have hb8 : b 8 = true := hd 8 (by decide)
        obtain rfl := f8 hb8
        have hb9 : b 9 = true := hd 9 (by decide)
        obtain rfl := f9 hb9
        refine GO.at hs ?_
        refine GO.off rfl rfl rfl rfl rfl rfl ?_
        refine GO.fin (fun a hs => ?_)
        exact ⟨_, _, _, _, _, _, _, _, _, _, (undef), _, _, _, _, _, by exact hs.setAt 10 rfl, HS, f0, f1, f2, f3, f4, f5, f6, f7, f8, f9, fun _ => rfl, f11, f12, f13, f14, f15⟩
       | 11, _ =>
        have hb2 : b 2 = true := hd 2 (by decide)
        obtain rfl := f2 hb2
        have hb10 : b 10 = true := hd 10 (by decide)
        obtain rfl := f10 hb10
        refine GO.at hs ?_
        refine GO.off rfl rfl rfl rfl rfl rfl ?_
        refine GO.fin (fun a hs => ?_)
        exact ⟨_, _, _, _, _, _, _, _, _, _, _, (undef), _, _, _, _, by exact hs.setAt 11 rfl, HS, f0, f1, f2, f3, f4, f5, f6, f7, f8, f9, f10, fun _ => rfl, f12, f13, f14, f15⟩
       | 12, _ =>
        have hb2 : b 2 = true := hd 2 (by decide)
        obtain rfl := f2 hb2
        have hb11 : b 11 = true := hd 11 (by decide)
        obtain rfl := f11 hb11
        refine GO.at hs ?_
        refine GO.off rfl rfl rfl rfl rfl rfl ?_
        refine GO.fin (fun a hs => ?_)
        exact ⟨_, _, _, _, _, _, _, _, _, _, _, _, (undef), _, _, _, by exact hs.setAt 12 rfl, HS, f0, f1, f2, f3, f4, f5, f6, f7, f8, f9, f10, f11, fun _ => rfl, f13, f14, f15⟩
       | 13, _ =>
        have hb2 : b 2 = true := hd 2 (by decide)
        obtain rfl := f2 hb2
        have hb7 : b 7 = true := hd 7 (by decide)
        obtain rfl := f7 hb7
        have hb12 : b 12 = true := hd 12 (by decide)
        obtain rfl := f12 hb12
        refine GO.at hs ?_
        refine GO.off rfl rfl rfl rfl rfl rfl ?_
        refine GO.fin (fun a hs => ?_)
        exact ⟨_, _, _, _, _, _, _, _, _, _, _, _, _, (undef), _, _, by exact hs.setAt 13 rfl, HS, f0, f1, f2, f3, f4, f5, f6, f7, f8, f9, f10, f11, f12, fun _ => rfl, f14, f15⟩
       | 14, _ =>
        have hb2 : b 2 = true := hd 2 (by decide)
        obtain rfl := f2 hb2
        have hb6 : b 6 = true := hd 6 (by decide)
        obtain rfl := f6 hb6
        have hb13 : b 13 = true := hd 13 (by decide)
        obtain rfl := f13 hb13
        refine GO.at hs ?_
        refine GO.off rfl rfl rfl rfl rfl rfl ?_
        refine GO.fin (fun a hs => ?_)
        exact ⟨_, _, _, _, _, _, _, _, _, _, _, _, _, _, (undef), _, by exact hs.setAt 14 rfl, HS, f0, f1, f2, f3, f4, f5, f6, f7, f8, f9, f10, f11, f12, f13, fun _ => rfl, f15⟩
       | 15, _ =>
        have hb2 : b 2 = true := hd 2 (by decide)
        obtain rfl := f2 hb2
        have hb14 : b 14 = true := hd 14 (by decide)
        obtain rfl := f14 hb14
        refine GO.at hs ?_
        refine GO.pickT rfl rfl rfl rfl rfl ?_
        refine GO.fin (fun a hs => ?_)
        exact ⟨_, _, _, _, _, _, _, _, _, _, _, _, _, _, _, (.bool true), by exact hs.setAt 15 rfl, HS, f0, f1, f2, f3, f4, f5, f6, f7, f8, f9, f10, f11, f12, f13, f14, fun _ => rfl⟩
       | k + 16, hj => exact absurd hj (Nat.not_lt.2 (Nat.le_add_left 16 k))
      ·
       intro b a w hall
       refine exI fun Y19_0 => exI fun Y20_1 => exI fun Y21_2 => exI fun Y22_3 => exI fun Y23_4 => exI fun Y24_5 => exI fun Y25_6 => exI fun Y26_7 => exI fun Y27_8 => exI fun Y28_9 => exI fun Y29_10 => exI fun Y30_11 => exI fun Y31_12 => exI fun Y32_13 => exI fun Y33_14 => exI fun Y34_15 => anI fun hs => anI fun HS => anI fun f0 => anI fun f1 => anI fun f2 => anI fun f3 => anI fun f4 => anI fun f5 => anI fun f6 => anI fun f7 => anI fun f8 => anI fun f9 => anI fun f10 => anI fun f11 => anI fun f12 => anI fun f13 => anI fun f14 => fun f15 => ?_
       obtain rfl := f0 (hall 0 (by decide))
       obtain rfl := f1 (hall 1 (by decide))
       obtain rfl := f2 (hall 2 (by decide))
       obtain rfl := f3 (hall 3 (by decide))
       obtain rfl := f4 (hall 4 (by decide))
       obtain rfl := f5 (hall 5 (by decide))
       obtain rfl := f6 (hall 6 (by decide))
       obtain rfl := f7 (hall 7 (by decide))
       obtain rfl := f8 (hall 8 (by decide))
       obtain rfl := f9 (hall 9 (by decide))
       obtain rfl := f10 (hall 10 (by decide))
       obtain rfl := f11 (hall 11 (by decide))
       obtain rfl := f12 (hall 12 (by decide))
       obtain rfl := f13 (hall 13 (by decide))
       obtain rfl := f14 (hall 14 (by decide))
       obtain rfl := f15 (hall 15 (by decide))
       refine G.at hs ?_
       refine G.yesB rfl rfl ?_
       refine G.seq ?_
       refine G.region ?_
       refine GO.buildV (.agg [.slice none 0 0, .slice none 0 0].toArray) rfl rfl (fun _ => by kernel_rfl) rfl ?_
       refine GO.stBox (j := 3) (vs := [.slice none 0 0, .slice none 0 0]) ([.slice none 0 0, .slice none 0 0]) HS rfl rfl rfl rfl rfl (htA ag63) rfl rfl rfl ?_; intro wd92 HS
       refine GO.assign rfl rfl rfl ?_
       refine GO.nil ?_
       replace HS := HS.nilRow T_GEnd 68 (fun _ => ())
       replace HS := HS.nilRow T_GEnd 68 (fun _ => ())
       obtain ⟨rfl, rfl, rfl⟩ := some3 H
       exact G.ret2 _ _ Try.func45 rfl (Res1.boxA (j := 5) (vs := [.slice none 0 0, .slice none 0 0]) HS rfl rfl rfl ag63) rfl ⟨_, _, _, _, rfl, (HS.pk 7 [1, 0] rfl)⟩
   ·
    refine G.region ?_
    refine GO.move rfl rfl rfl ?_
    refine GO.gtr rfl rfl rfl rfl ?_
    refine GO.move rfl rfl rfl ?_
    refine GO.known (t := 12) rfl (decide_eq_false c19) ?_
    refine GO.on rfl rfl rfl rfl ?_
    refine GO.fld (⟨b1, 1, none⟩) rfl rfl fl28_1 rfl rfl ?_
    refine GO.back ?_
    refine GO.on rfl rfl rfl rfl ?_
    refine GO.ldBox (j := 1) HS rfl rfl rfl rfl na2 rfl ?_
    refine GO.back ?_
    refine GO.on rfl rfl rfl rfl ?_
    refine GO.fn rfl Try.func47 fok47.1 fok47.2 rfl rfl (impl_inRange.calls HS  h22) (fun _ wd23 ⟨h24, HS⟩ => ⟨_, h24, ?_⟩)
    refine GO.back ?_
    refine GO.on rfl rfl rfl rfl ?_
    refine GO.not rfl rfl rfl ?_
    refine GO.back ?_
    refine GO.pickF rfl rfl rfl rfl rfl ?_
    refine GO.move rfl rfl rfl ?_
    refine GO.known (t := 18) rfl (congrArg Bool.not (bnot_of c25)) ?_
    refine GO.off rfl rfl rfl rfl rfl rfl ?_
    refine GO.off rfl rfl rfl rfl rfl rfl ?_
    refine GO.off rfl rfl rfl rfl rfl rfl ?_
    refine GO.pickT rfl rfl rfl rfl rfl ?_
    refine GO.nil ?_
    refine G.yesB rfl rfl ?_
    refine G.seq ?_
    refine G.region ?_
    refine GO.buildV (.agg [.slice none 0 0, .slice none 0 0].toArray) rfl rfl (fun _ => by kernel_rfl) rfl ?_
    refine GO.stBox (j := 0) (vs := [.slice none 0 0, .slice none 0 0]) ([.slice none 0 0, .slice none 0 0]) HS rfl rfl rfl rfl rfl (htA ag63) rfl rfl rfl ?_; intro wd93 HS
    refine GO.assign rfl rfl rfl ?_
    refine GO.nil ?_
    replace HS := HS.nilRow T_GEnd 68 (fun _ => ())
    replace HS := HS.nilRow T_GEnd 68 (fun _ => ())
    obtain ⟨rfl, rfl, rfl⟩ := some3 H
    exact G.ret2 _ _ Try.func45 rfl (Res1.boxA (j := 2) (vs := [.slice none 0 0, .slice none 0 0]) HS rfl rfl rfl ag63) rfl ⟨_, _, _, _, rfl, (HS.pk 4 [1, 0] rfl)⟩

set_option maxRecDepth 20000 in
set_option maxHeartbeats 40000000 in
theorem impl_hasIndex_impl_Crossing.calls {w0 w : World} {L : List HObj} {list : List GCrossing} {i : Int} {A_list : Option Addr} {c_list : Nat} {r1 : Bool} (HS : St w0 w (L)) (h_list : RdIn w0 L T_GCrossing A_list c_list (fun _ => ()) list) (H : impl_hasIndex_impl_Crossing.f list i = some r1) :
    Calls Try.prog 80 #[.slice A_list list.length c_list, .int .i64 i] w (impl_hasIndex_impl_Crossing.post w0 L list i A_list c_list r1) := by
  unfold impl_hasIndex_impl_Crossing.f at H
  refine Calls.of_G Try.func80 rfl rfl rfl ?_
  refine G.seq ?_
  refine G.region ?_
  refine GO.assign rfl rfl rfl ?_
  refine GO.nil ?_
  refine G.seq ?_
  obtain ⟨t1, h2, H⟩ := Option.bind_eq_some_iff.1 H
  obtain ⟨t5, h6, H⟩ := Option.bind_eq_some_iff.1 H
  refine G.region ?_
  refine GO.move rfl rfl rfl ?_
  refine GO.move rfl rfl rfl ?_
  refine GO.fn rfl Try.func56 fok56.1 fok56.2 rfl rfl (impl_size_impl_Crossing.calls HS h_list h2) (fun _ wd3 ⟨h4, HS⟩ => ⟨_, h4, ?_⟩)
  refine GO.sub rfl rfl rfl rfl ?_
  refine GO.fn rfl Try.func47 fok47.1 fok47.2 rfl rfl (impl_inRange.calls HS  h6) (fun _ wd7 ⟨h8, HS⟩ => ⟨_, h8, ?_⟩)
  refine GO.assign rfl rfl rfl ?_
  refine GO.nil ?_
  obtain rfl := Option.some.inj H
  exact G.ret1 _ Try.func80 rfl rfl ⟨rfl, HS⟩

end Go.Proofs.Ytdafmbaeiefacaa
