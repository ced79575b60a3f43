/-
  The walks through the functions: a call comes to what its list function says.
-/
import Derived.Test.YtdafmbaeiefacaaAlF
import Derived.Test.YtdafmbaeiefacaaAlW1
import Derived.Test.YtdafmbaeiefacaaAlW2
import Derived.Test.YtdafmbaeiefacaaAlW3
set_option linter.unusedVariables false
set_option linter.unusedSimpArgs false
namespace Go.Proofs.Ytdafmbaeiefacaa
open Go.RowKit
set_option maxRecDepth 20000 in
set_option maxHeartbeats 40000000 in
theorem laws_heldCrossingS.calls {w0 w : World} {L : List HObj} {K : Nat} {a_ : List GCrossing} {k_ : Int} {A_a_ : Option Addr} {c_a_ : Nat} {r1 : Int} (HS : St w0 w (L)) (h_a_ : RdIn w0 L T_GCrossing A_a_ c_a_ (fun _ => ()) a_) (H : laws_heldCrossingS.f K a_ k_ = some r1) :
    Calls Try.prog 53 #[.slice A_a_ a_.length c_a_, .int .i64 k_] w (laws_heldCrossingS.post w0 L a_ k_ A_a_ c_a_ r1) := by
  unfold laws_heldCrossingS.f at H
  refine Calls.of_G Try.func53 rfl rfl rfl ?_
  refine G.seq ?_
  refine G.region ?_
  refine GO.assign rfl rfl rfl ?_
  refine GO.nil ?_
  refine G.seq ?_
  refine G.seq ?_
  refine G.region ?_
  refine GO.assign rfl rfl rfl ?_
  refine GO.nil ?_
  refine G.block ?_
  refine G.loop ?_
  refine G.name (fun k_l1 hk_l1 => ?_)
  have at_l1 : ∀ m_l1, m_l1 ≤ K → ∀ (k_10 : Int) (i_11 : Int) (w : World), laws_heldCrossingS.l1 K m_l1 a_ k_10 i_11 = some r1 → St w0 w (L) → G Try.prog 53 58 [(0, .slice A_a_ a_.length c_a_), (1, .int .i64 k_10), (5, .int .i64 i_11)] k_l1 w (laws_heldCrossingS.post w0 L a_ k_ A_a_ c_a_ r1) := by
   intro m_l1
   induction m_l1 using Nat.strongRecOn with
   | _ m_l1 ih_l1 =>
    intro hm_l1 k_10 i_11 w H HS
    cases m_l1 with
    | zero => rw [laws_heldCrossingS.l1] at H; cases H
    | succ n_l1 =>
     rw [laws_heldCrossingS.l1] at H
     subst hk_l1
     refine G.seq ?_
     refine G.seq ?_
     refine G.region ?_
     refine GO.move rfl rfl rfl ?_
     refine GO.move rfl rfl rfl ?_
     refine GO.lenS rfl rfl Try.underlying26 rfl ?_
     refine GO.lss rfl rfl rfl rfl ?_
     refine GO.nil ?_
     rcases ite_elim H with ⟨c21, H⟩ | ⟨c21, H⟩
     ·
      refine G.yesB rfl (decide_eq_true c21) ?_
      refine G.skip ?_
      refine G.seq ?_
      refine G.block ?_
      refine G.seq ?_
      refine G.seq ?_
      obtain ⟨c22, H⟩ := ite_none H
      obtain ⟨e23, h24, H⟩ := bnd_elim H
      refine G.region ?_
      refine GO.move rfl rfl rfl ?_
      refine GO.move rfl rfl rfl ?_
      refine GO.ix rfl rfl rfl Try.underlying26 sz58 (h_a_ _ HS).2.2.1 c22.1 c22.2 rfl ?_
      refine GO.fld (ea A_a_ (i_11.toNat * 5)) rfl rfl fl58_0 rfl rfl ?_
      refine GO.ldRd (T := T_GCrossing) (n := i_11.toNat) (o := 0) HS h_a_ rfl rfl (getD_eq (ltN c22) h24) rfl rfl na2 rfl ?_
      refine GO.move rfl rfl rfl ?_
      refine GO.neq rfl rfl rfl rfl ?_
      refine GO.nil ?_
      rcases ite_elim H with ⟨c25, H⟩ | ⟨c25, H⟩
      ·
       refine G.noB rfl (congrArg Bool.not (decide_eq_true c25)) ?_
       refine G.skip ?_
       refine G.seq ?_
       refine G.region ?_
       refine GO.move rfl rfl rfl ?_
       refine GO.add rfl rfl rfl rfl ?_
       refine GO.assign rfl rfl rfl ?_
       refine GO.nil ?_
       refine G.seq ?_
       refine G.seq ?_
       refine G.region ?_
       refine GO.move rfl rfl rfl ?_
       refine GO.move rfl rfl rfl ?_
       refine GO.ix rfl rfl rfl Try.underlying26 sz58 (h_a_ _ HS).2.2.1 c22.1 c22.2 rfl ?_
       refine GO.fld (ea A_a_ (i_11.toNat * 5 + 1)) rfl rfl fl58_1 (ea_add _ _ _) rfl ?_
       refine GO.ldRd (T := T_GCrossing) (n := i_11.toNat) (o := 1) HS h_a_ rfl rfl (getD_eq (ltN c22) h24) rfl rfl na2 rfl ?_
       refine GO.move rfl rfl rfl ?_
       refine GO.neq rfl rfl rfl rfl ?_
       refine GO.nil ?_
       rcases ite_elim H with ⟨c26, H⟩ | ⟨c26, H⟩
       ·
        refine G.noB rfl (congrArg Bool.not (decide_eq_true c26)) ?_
        refine G.skip ?_
        refine G.seq ?_
        refine G.region ?_
        refine GO.move rfl rfl rfl ?_
        refine GO.add rfl rfl rfl rfl ?_
        refine GO.assign rfl rfl rfl ?_
        refine GO.nil ?_
        refine G.seq ?_
        refine G.seq ?_
        refine G.region ?_
        refine GO.move rfl rfl rfl ?_
        refine GO.move rfl rfl rfl ?_
        refine GO.ix rfl rfl rfl Try.underlying26 sz58 (h_a_ _ HS).2.2.1 c22.1 c22.2 rfl ?_
        refine GO.fld (ea A_a_ (i_11.toNat * 5 + 2)) rfl rfl fl58_2 (ea_add _ _ _) rfl ?_
        refine GO.ldRd (T := T_GCrossing) (n := i_11.toNat) (o := 2) HS h_a_ rfl rfl (getD_eq (ltN c22) h24) rfl rfl na2 rfl ?_
        refine GO.move rfl rfl rfl ?_
        refine GO.neq rfl rfl rfl rfl ?_
        refine GO.nil ?_
        rcases ite_elim H with ⟨c27, H⟩ | ⟨c27, H⟩
        ·
         refine G.noB rfl (congrArg Bool.not (decide_eq_true c27)) ?_
         refine G.skip ?_
         refine G.seq ?_
         refine G.region ?_
         refine GO.move rfl rfl rfl ?_
         refine GO.add rfl rfl rfl rfl ?_
         refine GO.assign rfl rfl rfl ?_
         refine GO.nil ?_
         refine G.seq ?_
         refine G.seq ?_
         refine G.region ?_
         refine GO.move rfl rfl rfl ?_
         refine GO.move rfl rfl rfl ?_
         refine GO.ix rfl rfl rfl Try.underlying26 sz58 (h_a_ _ HS).2.2.1 c22.1 c22.2 rfl ?_
         refine GO.fld (ea A_a_ (i_11.toNat * 5 + 3)) rfl rfl fl58_3 (ea_add _ _ _) rfl ?_
         refine GO.ldRd (T := T_GCrossing) (n := i_11.toNat) (o := 3) HS h_a_ rfl rfl (getD_eq (ltN c22) h24) rfl rfl na2 rfl ?_
         refine GO.move rfl rfl rfl ?_
         refine GO.neq rfl rfl rfl rfl ?_
         refine GO.nil ?_
         rcases ite_elim H with ⟨c28, H⟩ | ⟨c28, H⟩
         ·
          refine G.noB rfl (congrArg Bool.not (decide_eq_true c28)) ?_
          refine G.skip ?_
          refine G.seq ?_
          refine G.region ?_
          refine GO.move rfl rfl rfl ?_
          refine GO.add rfl rfl rfl rfl ?_
          refine GO.assign rfl rfl rfl ?_
          refine GO.nil ?_
          refine G.seq ?_
          refine G.seq ?_
          refine G.region ?_
          refine GO.move rfl rfl rfl ?_
          refine GO.move rfl rfl rfl ?_
          refine GO.ix rfl rfl rfl Try.underlying26 sz58 (h_a_ _ HS).2.2.1 c22.1 c22.2 rfl ?_
          refine GO.fld (ea A_a_ (i_11.toNat * 5 + 4)) rfl rfl fl58_4 (ea_add _ _ _) rfl ?_
          refine GO.ldRd (T := T_GCrossing) (n := i_11.toNat) (o := 4) HS h_a_ rfl rfl (getD_eq (ltN c22) h24) rfl rfl na2 rfl ?_
          refine GO.move rfl rfl rfl ?_
          refine GO.neq rfl rfl rfl rfl ?_
          refine GO.nil ?_
          rcases ite_elim H with ⟨c29, H⟩ | ⟨c29, H⟩
          ·
           refine G.noB rfl (congrArg Bool.not (decide_eq_true c29)) ?_
           refine G.skip ?_
           refine G.region ?_
           refine GO.move rfl rfl rfl ?_
           refine GO.add rfl rfl rfl rfl ?_
           refine GO.assign rfl rfl rfl ?_
           refine GO.nil ?_
           refine G.blockEnd ?_
           refine G.region ?_
           refine GO.move rfl rfl rfl ?_
           refine GO.add rfl rfl rfl rfl ?_
           refine GO.assign rfl rfl rfl ?_
           refine GO.nil ?_
           refine G.again ?_
           refine G.weak ?_ (ih_l1 n_l1 (Nat.lt_succ_of_le (Nat.le_refl _)) (Nat.le_of_succ_le hm_l1) _ _ _ H HS)
           exact ⟨rfl, rfl, rfl, trivial⟩
          ·
           refine G.yesB rfl (congrArg Bool.not (decide_eq_false c29)) ?_
           refine G.seq ?_
           refine G.region ?_
           refine GO.assign rfl rfl rfl ?_
           refine GO.nil ?_
           obtain rfl := Option.some.inj H
           exact G.ret1 _ Try.func53 rfl rfl ⟨rfl, HS⟩
         ·
          refine G.yesB rfl (congrArg Bool.not (decide_eq_false c28)) ?_
          refine G.seq ?_
          refine G.region ?_
          refine GO.assign rfl rfl rfl ?_
          refine GO.nil ?_
          obtain rfl := Option.some.inj H
          exact G.ret1 _ Try.func53 rfl rfl ⟨rfl, HS⟩
        ·
         refine G.yesB rfl (congrArg Bool.not (decide_eq_false c27)) ?_
         refine G.seq ?_
         refine G.region ?_
         refine GO.assign rfl rfl rfl ?_
         refine GO.nil ?_
         obtain rfl := Option.some.inj H
         exact G.ret1 _ Try.func53 rfl rfl ⟨rfl, HS⟩
       ·
        refine G.yesB rfl (congrArg Bool.not (decide_eq_false c26)) ?_
        refine G.seq ?_
        refine G.region ?_
        refine GO.assign rfl rfl rfl ?_
        refine GO.nil ?_
        obtain rfl := Option.some.inj H
        exact G.ret1 _ Try.func53 rfl rfl ⟨rfl, HS⟩
      ·
       refine G.yesB rfl (congrArg Bool.not (decide_eq_false c25)) ?_
       refine G.seq ?_
       refine G.region ?_
       refine GO.assign rfl rfl rfl ?_
       refine GO.nil ?_
       obtain rfl := Option.some.inj H
       exact G.ret1 _ Try.func53 rfl rfl ⟨rfl, HS⟩
     ·
      refine G.noB rfl (decide_eq_false c21) ?_
      refine G.exit rfl ?_
      refine G.seq ?_
      refine G.region ?_
      refine GO.move rfl rfl rfl ?_
      refine GO.assign rfl rfl rfl ?_
      refine GO.nil ?_
      obtain rfl := Option.some.inj H
      exact G.ret1 _ Try.func53 rfl rfl ⟨rfl, HS⟩
  refine G.weak ?_ (at_l1 K (Nat.le_refl _) _ _ _ H HS)
  exact ⟨rfl, rfl, rfl, trivial⟩

set_option maxRecDepth 20000 in
set_option maxHeartbeats 40000000 in
theorem laws_heldDiagram.calls {w0 w : World} {L : List HObj} {K : Nat} {a_Crossings : List GCrossing} {a_Circles : Int} {k_ : Int} {A_a_Crossings : Option Addr} {c_a_Crossings : Nat} {r1 : Int} (HS : St w0 w (L)) (h_a_Crossings : RdIn w0 L T_GCrossing A_a_Crossings c_a_Crossings (fun _ => ()) a_Crossings) (H : laws_heldDiagram.f K a_Crossings a_Circles k_ = some r1) :
    Calls Try.prog 18 #[.agg [.slice A_a_Crossings a_Crossings.length c_a_Crossings, .int .i64 a_Circles].toArray, .int .i64 k_] w (laws_heldDiagram.post w0 L a_Crossings a_Circles k_ A_a_Crossings c_a_Crossings r1) := by
  unfold laws_heldDiagram.f at H
  refine Calls.of_G Try.func18 rfl rfl rfl ?_
  refine G.seq ?_
  refine G.region ?_
  refine GO.box (cs := [.slice A_a_Crossings a_Crossings.length c_a_Crossings, .int .i64 a_Circles]) HS rfl rfl rfl rfl ?_; intro b1 wd2 HS
  refine GO.assign rfl rfl rfl ?_
  refine GO.nil ?_
  refine G.seq ?_
  obtain ⟨t3, h4, H⟩ := Option.bind_eq_some_iff.1 H
  refine G.region ?_
  refine GO.fld (⟨b1, 0, none⟩) rfl rfl fl28_0 rfl rfl ?_
  refine GO.ldBox (j := 0) HS rfl rfl rfl rfl na26 rfl ?_
  refine GO.move rfl rfl rfl ?_
  refine GO.fn rfl Try.func53 fok53.1 fok53.2 rfl rfl (laws_heldCrossingS.calls HS (RdIn.drop 1 h_a_Crossings) h4) (fun _ wd5 ⟨h6, HS⟩ => ⟨_, h6, ?_⟩)
  refine GO.assign rfl rfl rfl ?_
  refine GO.nil ?_
  refine G.seq ?_
  refine G.seq ?_
  refine G.region ?_
  refine GO.move rfl rfl rfl ?_
  refine GO.lss rfl rfl rfl rfl ?_
  refine GO.nil ?_
  rcases ite_elim H with ⟨c7, H⟩ | ⟨c7, H⟩
  ·
   refine G.yesB rfl (decide_eq_true c7) ?_
   refine G.seq ?_
   refine G.region ?_
   refine GO.assign rfl rfl rfl ?_
   refine GO.nil ?_
   obtain rfl := Option.some.inj H
   exact G.ret1 _ Try.func18 rfl rfl ⟨rfl, (HS.pick 1 [])⟩
  ·
   refine G.noB rfl (decide_eq_false c7) ?_
   refine G.skip ?_
   refine G.seq ?_
   refine G.region ?_
   refine GO.move rfl rfl rfl ?_
   refine GO.assign rfl rfl rfl ?_
   refine GO.nil ?_
   obtain rfl := Option.some.inj H
   exact G.ret1 _ Try.func18 rfl rfl ⟨rfl, (HS.pick 1 [])⟩

set_option maxRecDepth 20000 in
set_option maxHeartbeats 40000000 in
theorem laws_FnExactSmoothCrossing.calls {w0 w : World} {L : List HObj} {K : Nat} {aD_Crossings : List GCrossing} {aD_Circles : Int} {aC : Int} {A_aD_Crossings : Option Addr} {c_aD_Crossings : Nat} {r1 : Bool} (HS : St w0 w (L)) (h_aD_Crossings : RdIn w0 L T_GCrossing A_aD_Crossings c_aD_Crossings (fun _ => ()) aD_Crossings) (H : laws_FnExactSmoothCrossing.f K aD_Crossings aD_Circles aC = some r1) :
    Calls Try.prog 6 #[.agg [.slice A_aD_Crossings aD_Crossings.length c_aD_Crossings, .int .i64 aD_Circles].toArray, .int .i64 aC] w (laws_FnExactSmoothCrossing.post w0 L aD_Crossings aD_Circles aC A_aD_Crossings c_aD_Crossings r1) := by
  unfold laws_FnExactSmoothCrossing.f at H
  refine Calls.of_G Try.func6 rfl rfl rfl ?_
  refine G.seq ?_
  refine G.region ?_
  refine GO.box (cs := [.slice A_aD_Crossings aD_Crossings.length c_aD_Crossings, .int .i64 aD_Circles]) HS rfl rfl rfl rfl ?_; intro b1 wd2 HS
  refine GO.assign rfl rfl rfl ?_
  refine GO.nil ?_
  refine G.seq ?_
  refine G.region ?_
  refine GO.assign rfl rfl rfl ?_
  refine GO.nil ?_
  refine G.seq ?_
  obtain ⟨t3, h4, H⟩ := Option.bind_eq_some_iff.1 H
  refine G.region ?_
  refine GO.ldBoxA (j := 0) ([.slice A_aD_Crossings aD_Crossings.length c_aD_Crossings, .int .i64 aD_Circles]) HS rfl rfl rfl rfl ag24 rfl ?_
  refine GO.move rfl rfl rfl ?_
  refine GO.fn rfl Try.func12 fok12.1 fok12.2 rfl rfl (laws_szDiagram.calls HS (RdIn.drop 1 h_aD_Crossings) h4) (fun _ wd5 ⟨h6, HS⟩ => ⟨_, h6, ?_⟩)
  refine GO.assign rfl rfl rfl ?_
  refine GO.nil ?_
  refine G.seq ?_
  refine G.seq ?_
  refine G.region ?_
  refine GO.move rfl rfl rfl ?_
  refine GO.lss rfl rfl rfl rfl ?_
  refine GO.nil ?_
  rcases ite_elim H with ⟨c7, H⟩ | ⟨c7, H⟩
  ·
   refine G.yesB rfl (decide_eq_true c7) ?_
   refine G.seq ?_
   refine G.region ?_
   refine GO.assign rfl rfl rfl ?_
   refine GO.nil ?_
   obtain rfl := Option.some.inj H
   exact G.ret1 _ Try.func6 rfl rfl ⟨rfl, (HS.pick 1 [])⟩
  ·
   refine G.noB rfl (decide_eq_false c7) ?_
   refine G.skip ?_
   refine G.seq ?_
   obtain ⟨t8, t9, h10, H⟩ := bind2_elim H
   obtain ⟨t15, t16, t17, h18, H⟩ := bind3_elim H
   refine G.region ?_
   refine GO.ldBoxA (j := 0) ([.slice A_aD_Crossings aD_Crossings.length c_aD_Crossings, .int .i64 aD_Circles]) HS rfl rfl rfl rfl ag24 rfl ?_
   refine GO.fn rfl Try.func14 fok14.1 fok14.2 rfl rfl (laws_toDiagram.calls HS (RdIn.drop 1 h_aD_Crossings) h10) (fun _ wd13 ⟨A11, c12, h14, HS⟩ => ⟨_, h14, ?_⟩)
   refine GO.move rfl rfl rfl ?_
   refine GO.fn rfl Try.func23 fok23.1 fok23.2 rfl rfl (spec_SmoothCrossing.calls HS (RdIn.own (j := 0) rfl) h18) (fun _ wd21 ⟨A19, c20, h22, HS⟩ => ⟨_, h22, ?_⟩)
   refine GO.move rfl rfl rfl ?_
   refine GO.extract rfl rfl rfl rfl ?_
   refine GO.extract rfl rfl rfl rfl ?_
   refine GO.alloc HS rfl zr28 rfl rfl ?_; intro b23 wd24 HS
   refine GO.stBox (j := 0) (vs := [.slice A19 t15.length c20, .int .i64 t16]) ([.slice A19 t15.length c20, .int .i64 t16]) HS rfl rfl rfl rfl rfl (htA ag28) rfl rfl rfl ?_; intro wd25 HS
   refine GO.assign rfl rfl rfl ?_
   refine GO.nil ?_
   refine G.seq ?_
   obtain ⟨t26, t27, h28, H⟩ := bind2_elim H
   refine G.region ?_
   refine GO.ldBoxA (j := 3) ([.slice A_aD_Crossings aD_Crossings.length c_aD_Crossings, .int .i64 aD_Circles]) HS rfl rfl rfl rfl ag24 rfl ?_
   refine GO.fn rfl Try.func14 fok14.1 fok14.2 rfl rfl (laws_toDiagram.calls HS (RdIn.drop 4 h_aD_Crossings) h28) (fun _ wd31 ⟨A29, c30, h32, HS⟩ => ⟨_, h32, ?_⟩)
   refine GO.alloc HS rfl zr28 rfl rfl ?_; intro b33 wd34 HS
   refine GO.stBox (j := 0) (vs := [.slice A29 t26.length c30, .int .i64 t27]) ([.slice A29 t26.length c30, .int .i64 t27]) HS rfl rfl rfl rfl rfl (htA ag28) rfl rfl rfl ?_; intro wd35 HS
   refine GO.nil ?_
   refine G.seq ?_
   obtain ⟨t36, t37, t38, h39, H⟩ := bind3_elim H
   refine G.region ?_
   refine GO.ldBoxA (j := 0) ([.slice A29 t26.length c30, .int .i64 t27]) HS rfl rfl rfl rfl ag28 rfl ?_
   refine GO.move rfl rfl rfl ?_
   refine GO.fn rfl Try.func24 fok24.1 fok24.2 rfl rfl (impl_SmoothCrossing.calls HS (RdIn.own (j := 1) rfl) h39) (fun _ wd42 ⟨A40, c41, h43, HS⟩ => ⟨_, h43, ?_⟩)
   refine GO.move rfl rfl rfl ?_
   refine GO.extract rfl rfl rfl rfl ?_
   refine GO.extract rfl rfl rfl rfl ?_
   refine GO.alloc HS rfl zr28 rfl rfl ?_; intro b44 wd45 HS
   refine GO.stBox (j := 0) (vs := [.slice A40 t36.length c41, .int .i64 t37]) ([.slice A40 t36.length c41, .int .i64 t37]) HS rfl rfl rfl rfl rfl (htA ag28) rfl rfl rfl ?_; intro wd46 HS
   refine GO.assign rfl rfl rfl ?_
   refine GO.nil ?_
   refine G.seq ?_
   refine G.seq ?_
   obtain ⟨t52, h53, H⟩ := Option.bind_eq_some_iff.1 H
   rcases ite_elim H with ⟨c56, H⟩ | ⟨c56, H⟩
   ·
    refine G.region ?_
    refine GO.ldBoxA (j := 0) ([.slice A40 t36.length c41, .int .i64 t37]) HS rfl rfl rfl rfl ag28 rfl ?_
    refine GO.ldBoxA (j := 4) ([.slice A19 t15.length c20, .int .i64 t16]) HS rfl rfl rfl rfl ag28 rfl ?_
    refine GO.fn rfl Try.func16 fok16.1 fok16.2 rfl rfl (laws_eqDiagram.calls HS (RdIn.own (j := 1) rfl) (RdIn.own (j := 5) rfl) h53) (fun _ wd54 ⟨h55, HS⟩ => ⟨_, h55, ?_⟩)
    refine GO.not rfl rfl rfl ?_
    refine GO.move rfl rfl rfl ?_
    refine GO.known (t := 40) rfl (congrArg Bool.not c56) ?_
    refine GO.on rfl rfl rfl rfl ?_
    refine GO.move rfl rfl rfl ?_
    refine GO.back ?_
    refine GO.on rfl rfl rfl rfl ?_
    refine GO.move rfl rfl rfl ?_
    refine GO.back ?_
    refine GO.on rfl rfl rfl rfl ?_
    refine GO.neq rfl rfl rfl rfl ?_
    refine GO.back ?_
    refine GO.pickF rfl rfl rfl rfl rfl ?_
    refine GO.nil ?_
    rcases ite_elim H with ⟨c57, H⟩ | ⟨c57, H⟩
    ·
     refine G.noB rfl (congrArg Bool.not (decide_eq_true c57)) ?_
     refine G.skip ?_
     refine G.seq ?_
     refine G.seq ?_
     obtain ⟨t58, t59, h60, H⟩ := bind2_elim H
     obtain ⟨t65, h66, H⟩ := Option.bind_eq_some_iff.1 H
     refine G.regionAny mixed (by decide) (fun b a w => ∃ (Y1_0 : Value) (Y2_1 : Value) (Y3_2 : Value) (Y4_3 : Value) (Y5_4 : Value) (A61 : Option Addr) (c62 : Nat) (O6_9 : HObj), Sat 101 [(45, Y1_0), (46, Y2_1), (47, Y3_2), (48, Y4_3), (49, Y5_4), (1, .int .i64 aC), (2, .pointer (some ⟨b1, 0, none⟩)), (6, .pointer (some ⟨b23, 0, none⟩)), (7, .int .i64 t17), (8, .pointer (some ⟨b33, 0, none⟩)), (9, .pointer (some ⟨b44, 0, none⟩)), (10, .int .i64 t38)] a ∧ St w0 w (Box b44 28 [.slice A40 t36.length c41, .int .i64 t37] :: Own T_GCrossing 58 A40 c41 (fun _ => ()) t36 :: Box b33 28 [.slice A29 t26.length c30, .int .i64 t27] :: Own T_GCrossing 58 A29 c30 (fun _ => ()) t26 :: Box b23 28 [.slice A19 t15.length c20, .int .i64 t16] :: Own T_GCrossing 58 A19 c20 (fun _ => ()) t15 :: Own T_GCrossing 58 A11 c12 (fun _ => ()) t8 :: Box b1 24 [.slice A_aD_Crossings aD_Crossings.length c_aD_Crossings, .int .i64 aD_Circles] :: O6_9 :: L) ∧ (b 0 = true → Y1_0 = (.agg [.slice A29 t26.length c30, .int .i64 t27].toArray)) ∧ (b 1 = true → Y2_1 = (.agg [.slice A_aD_Crossings aD_Crossings.length c_aD_Crossings, .int .i64 aD_Circles].toArray)) ∧ (b 2 = true → Y3_2 = (.agg [.slice A61 t58.length c62, .int .i64 t59].toArray)) ∧ (b 3 = true → Y4_3 = (.bool t65)) ∧ (b 4 = true → Y5_4 = (.bool (!t65))) ∧ (b 2 = true → O6_9 = Own T_GCrossing 58 A61 c62 (fun _ => ()) t58)) ?_ ?_ ?_
     ·
      intro a hs
      obtain ⟨Y1_0, hs⟩ := hs.ext (d := 45) rfl
      obtain ⟨Y2_1, hs⟩ := hs.ext (d := 46) rfl
      obtain ⟨Y3_2, hs⟩ := hs.ext (d := 47) rfl
      obtain ⟨Y4_3, hs⟩ := hs.ext (d := 48) rfl
      obtain ⟨Y5_4, hs⟩ := hs.ext (d := 49) rfl
      exact ⟨Y1_0, Y2_1, Y3_2, Y4_3, Y5_4, none, 0, Emp, hs.weak ⟨rfl, rfl, rfl, rfl, rfl, rfl, rfl, rfl, rfl, rfl, rfl, rfl, trivial⟩, (HS.drew.emp.pick 9 [1, 2, 3, 4, 5, 6, 7, 8, 0]), fun h => Bool.noConfusion h, fun h => Bool.noConfusion h, fun h => Bool.noConfusion h, fun h => Bool.noConfusion h, fun h => Bool.noConfusion h, fun h => Bool.noConfusion h⟩
     ·
      intro j hj b a w
      refine exI fun Y1_0 => exI fun Y2_1 => exI fun Y3_2 => exI fun Y4_3 => exI fun Y5_4 => exI fun A61 => exI fun c62 => exI fun O6_9 => anI fun hs => anI fun HS => anI fun f0 => anI fun f1 => anI fun f2 => anI fun f3 => anI fun f4 => fun o9_0 hb hd hcl => ?_
      match j, hj with
      | 0, _ =>
       refine GO.at hs ?_
       refine GO.ldBoxA (j := 2) ([.slice A29 t26.length c30, .int .i64 t27]) HS rfl rfl rfl rfl ag28 rfl ?_
       refine GO.fin (fun a hs => ?_)
       exact ⟨(.agg [.slice A29 t26.length c30, .int .i64 t27].toArray), _, _, _, _, A61, c62, _, by exact hs.setAt 0 rfl, HS, fun _ => rfl, f1, f2, f3, f4, o9_0⟩
      | 1, _ =>
       refine GO.at hs ?_
       refine GO.ldBoxA (j := 7) ([.slice A_aD_Crossings aD_Crossings.length c_aD_Crossings, .int .i64 aD_Circles]) HS rfl rfl rfl rfl ag24 rfl ?_
       refine GO.fin (fun a hs => ?_)
       exact ⟨_, (.agg [.slice A_aD_Crossings aD_Crossings.length c_aD_Crossings, .int .i64 aD_Circles].toArray), _, _, _, A61, c62, _, by exact hs.setAt 1 rfl, HS, f0, fun _ => rfl, f2, f3, f4, o9_0⟩
      | 2, _ =>
       have hb1 : b 1 = true := hd 1 (by decide)
       obtain rfl := f1 hb1
       refine GO.at hs ?_
       refine GO.fn rfl Try.func14 fok14.1 fok14.2 rfl rfl (laws_toDiagram.calls HS (RdIn.drop 9 h_aD_Crossings) h60) (fun _ wd63 ⟨A61, c62, h64, HS⟩ => ⟨_, h64, ?_⟩)
       refine GO.fin (fun a hs => ?_)
       exact ⟨_, _, (.agg [.slice A61 t58.length c62, .int .i64 t59].toArray), _, _, A61, c62, Own T_GCrossing 58 A61 c62 (fun _ => ()) t58, by exact hs.setAt 2 rfl, HS.pick 10 [1, 2, 3, 4, 5, 6, 7, 8, 0], f0, f1, fun _ => rfl, f3, f4, fun _ => rfl⟩
      | 3, _ =>
       have hb0 : b 0 = true := hd 0 (by decide)
       obtain rfl := f0 hb0
       have hb2 : b 2 = true := hd 2 (by decide)
       obtain rfl := f2 hb2
       obtain rfl := o9_0 hb2
       refine GO.at hs ?_
       refine GO.fn rfl Try.func16 fok16.1 fok16.2 rfl rfl (laws_eqDiagram.calls HS (RdIn.own (j := 3) rfl) (RdIn.own (j := 8) rfl) h66) (fun _ wd67 ⟨h68, HS⟩ => ⟨_, h68, ?_⟩)
       refine GO.fin (fun a hs => ?_)
       exact ⟨_, _, _, (.bool t65), _, A61, c62, _, by exact hs.setAt 3 rfl, HS, f0, f1, f2, fun _ => rfl, f4, o9_0⟩
      | 4, _ =>
       have hb3 : b 3 = true := hd 3 (by decide)
       obtain rfl := f3 hb3
       refine GO.at hs ?_
       refine GO.not rfl rfl rfl ?_
       refine GO.fin (fun a hs => ?_)
       exact ⟨_, _, _, _, (.bool (!t65)), A61, c62, _, by exact hs.setAt 4 rfl, HS, f0, f1, f2, f3, fun _ => rfl, o9_0⟩
      | k + 5, hj => exact absurd hj (Nat.not_lt.2 (Nat.le_add_left 5 k))
     ·
      intro b a w hall
      refine exI fun Y1_0 => exI fun Y2_1 => exI fun Y3_2 => exI fun Y4_3 => exI fun Y5_4 => exI fun A61 => exI fun c62 => exI fun O6_9 => anI fun hs => anI fun HS => anI fun f0 => anI fun f1 => anI fun f2 => anI fun f3 => anI fun f4 => fun o9_0 => ?_
      obtain rfl := f0 (hall 0 (by decide))
      obtain rfl := f1 (hall 1 (by decide))
      obtain rfl := f2 (hall 2 (by decide))
      obtain rfl := f3 (hall 3 (by decide))
      obtain rfl := f4 (hall 4 (by decide))
      obtain rfl := o9_0 (hall 2 (by decide))
      refine G.at hs ?_
      rcases ite_elim H with ⟨c69, H⟩ | ⟨c69, H⟩
      ·
       refine G.noB rfl (congrArg Bool.not c69) ?_
       refine G.skip ?_
       refine G.seq ?_
       refine G.region ?_
       refine GO.assign rfl rfl rfl ?_
       refine GO.nil ?_
       refine G.seq ?_
       obtain ⟨t70, t71, h72, H⟩ := bind2_elim H
       obtain ⟨c73, H⟩ := ite_none H
       refine G.region ?_
       refine GO.ldBoxA (j := 2) ([.slice A29 t26.length c30, .int .i64 t27]) HS rfl rfl rfl rfl ag28 rfl ?_
       refine GO.move rfl rfl rfl ?_
       replace HS := HS.pick 9 [3, 0, 1, 2, 4, 5, 6, 7, 8]
       refine GO.fn rfl Try.func17 fok17.1 fok17.2 rfl rfl (laws_markDiagram.calls HS  h72) (fun _ wd74 ⟨h75, HS⟩ => ⟨_, h75, ?_⟩)
       refine GO.assign rfl rfl rfl ?_
       refine GO.nil ?_
       replace HS := HS.boxEq (j := 3) (cs' := [.slice A29 t71.length c30, .int .i64 t27]) rfl (by simp only [List.length_set, c73] <;> rfl)
       refine G.seq ?_
       refine G.seq ?_
       rcases ite_elim H with ⟨c82, H⟩ | ⟨c82, H⟩
       ·
        refine G.region ?_
        refine GO.move rfl rfl rfl ?_
        refine GO.lss rfl rfl rfl rfl ?_
        refine GO.move rfl rfl rfl ?_
        refine GO.known (t := 55) rfl (decide_eq_true c82) ?_
        refine GO.off rfl rfl rfl rfl rfl rfl ?_
        refine GO.off rfl rfl rfl rfl rfl rfl ?_
        refine GO.off rfl rfl rfl rfl rfl rfl ?_
        refine GO.off rfl rfl rfl rfl rfl rfl ?_
        refine GO.pickT rfl rfl rfl rfl rfl ?_
        refine GO.move rfl rfl rfl ?_
        refine GO.off rfl rfl rfl rfl rfl rfl ?_
        refine GO.off rfl rfl rfl rfl rfl rfl ?_
        refine GO.off rfl rfl rfl rfl rfl rfl ?_
        refine GO.pickT rfl rfl rfl rfl rfl ?_
        refine GO.nil ?_
        refine G.yesB rfl rfl ?_
        refine G.seq ?_
        refine G.region ?_
        refine GO.assign rfl rfl rfl ?_
        refine GO.nil ?_
        obtain rfl := Option.some.inj H
        exact G.ret1 _ Try.func6 rfl rfl ⟨rfl, (HS.pick 9 [])⟩
       ·
        obtain ⟨t83, h84, H⟩ := Option.bind_eq_some_iff.1 H
        rcases ite_elim H with ⟨c87, H⟩ | ⟨c87, H⟩
        ·
         refine G.region ?_
         refine GO.move rfl rfl rfl ?_
         refine GO.lss rfl rfl rfl rfl ?_
         refine GO.move rfl rfl rfl ?_
         refine GO.known (t := 55) rfl (decide_eq_false c82) ?_
         refine GO.on rfl rfl rfl rfl ?_
         refine GO.ldBoxA (j := 1) ([.slice A40 t36.length c41, .int .i64 t37]) HS rfl rfl rfl rfl ag28 rfl ?_
         refine GO.back ?_
         refine GO.on rfl rfl rfl rfl ?_
         refine GO.ldBoxA (j := 4) ([.slice A19 t15.length c20, .int .i64 t16]) HS rfl rfl rfl rfl ag28 rfl ?_
         refine GO.back ?_
         refine GO.on rfl rfl rfl rfl ?_
         refine GO.fn rfl Try.func16 fok16.1 fok16.2 rfl rfl (laws_eqDiagram.calls HS (RdIn.own (j := 2) rfl) (RdIn.own (j := 5) rfl) h84) (fun _ wd85 ⟨h86, HS⟩ => ⟨_, h86, ?_⟩)
         refine GO.back ?_
         refine GO.on rfl rfl rfl rfl ?_
         refine GO.not rfl rfl rfl ?_
         refine GO.back ?_
         refine GO.pickF rfl rfl rfl rfl rfl ?_
         refine GO.move rfl rfl rfl ?_
         refine GO.known (t := 61) rfl (congrArg Bool.not c87) ?_
         refine GO.on rfl rfl rfl rfl ?_
         refine GO.move rfl rfl rfl ?_
         refine GO.back ?_
         refine GO.on rfl rfl rfl rfl ?_
         refine GO.move rfl rfl rfl ?_
         refine GO.back ?_
         refine GO.on rfl rfl rfl rfl ?_
         refine GO.neq rfl rfl rfl rfl ?_
         refine GO.back ?_
         refine GO.pickF rfl rfl rfl rfl rfl ?_
         refine GO.nil ?_
         refine G.noB rfl (congrArg Bool.not (decide_eq_true c57)) ?_
         refine G.skip ?_
         refine G.seq ?_
         refine G.region ?_
         refine GO.assign rfl rfl rfl ?_
         refine GO.nil ?_
         refine G.seq ?_
         obtain ⟨t88, t89, h90, H⟩ := bind2_elim H
         obtain ⟨c91, H⟩ := ite_none H
         refine G.region ?_
         refine GO.ldBoxA (j := 1) ([.slice A40 t36.length c41, .int .i64 t37]) HS rfl rfl rfl rfl ag28 rfl ?_
         refine GO.move rfl rfl rfl ?_
         replace HS := HS.pick 9 [2, 0, 1, 3, 4, 5, 6, 7, 8]
         refine GO.fn rfl Try.func17 fok17.1 fok17.2 rfl rfl (laws_markDiagram.calls HS  h90) (fun _ wd92 ⟨h93, HS⟩ => ⟨_, h93, ?_⟩)
         refine GO.assign rfl rfl rfl ?_
         refine GO.nil ?_
         replace HS := HS.boxEq (j := 2) (cs' := [.slice A40 t89.length c41, .int .i64 t37]) rfl (by simp only [List.length_set, c91] <;> rfl)
         refine G.seq ?_
         refine G.region ?_
         refine GO.assign rfl rfl rfl ?_
         refine GO.nil ?_
         refine G.seq ?_
         obtain ⟨t94, h95, H⟩ := Option.bind_eq_some_iff.1 H
         refine G.region ?_
         refine GO.ldBoxA (j := 2) ([.slice A40 t89.length c41, .int .i64 t37]) HS rfl rfl rfl rfl ag28 rfl ?_
         refine GO.move rfl rfl rfl ?_
         refine GO.fn rfl Try.func18 fok18.1 fok18.2 rfl rfl (laws_heldDiagram.calls HS (RdIn.own (j := 0) rfl) h95) (fun _ wd96 ⟨h97, HS⟩ => ⟨_, h97, ?_⟩)
         refine GO.assign rfl rfl rfl ?_
         refine GO.nil ?_
         refine G.seq ?_
         refine G.seq ?_
         refine G.region ?_
         refine GO.move rfl rfl rfl ?_
         refine GO.lss rfl rfl rfl rfl ?_
         refine GO.nil ?_
         rcases ite_elim H with ⟨c98, H⟩ | ⟨c98, H⟩
         ·
          refine G.yesB rfl (decide_eq_true c98) ?_
          refine G.seq ?_
          refine G.region ?_
          refine GO.assign rfl rfl rfl ?_
          refine GO.nil ?_
          obtain rfl := Option.some.inj H
          exact G.ret1 _ Try.func6 rfl rfl ⟨rfl, (HS.pick 9 [])⟩
         ·
          refine G.noB rfl (decide_eq_false c98) ?_
          refine G.skip ?_
          refine G.seq ?_
          refine G.seq ?_
          refine G.region ?_
          refine GO.move rfl rfl rfl ?_
          refine GO.move rfl rfl rfl ?_
          refine GO.neq rfl rfl rfl rfl ?_
          refine GO.nil ?_
          rcases ite_elim H with ⟨c99, H⟩ | ⟨c99, H⟩
          ·
           refine G.noB rfl (congrArg Bool.not (decide_eq_true c99)) ?_
           refine G.skip ?_
           refine G.seq ?_
           obtain ⟨t100, t101, h102, H⟩ := bind2_elim H
           obtain ⟨t107, t108, t109, h110, H⟩ := bind3_elim H
           refine G.region ?_
           refine GO.ldBoxA (j := 7) ([.slice A_aD_Crossings aD_Crossings.length c_aD_Crossings, .int .i64 aD_Circles]) HS rfl rfl rfl rfl ag24 rfl ?_
           refine GO.fn rfl Try.func14 fok14.1 fok14.2 rfl rfl (laws_toDiagram.calls HS (RdIn.drop 9 h_aD_Crossings) h102) (fun _ wd105 ⟨A103, c104, h106, HS⟩ => ⟨_, h106, ?_⟩)
           refine GO.move rfl rfl rfl ?_
           refine GO.fn rfl Try.func24 fok24.1 fok24.2 rfl rfl (impl_SmoothCrossing.calls HS (RdIn.own (j := 0) rfl) h110) (fun _ wd113 ⟨A111, c112, h114, HS⟩ => ⟨_, h114, ?_⟩)
           refine GO.move rfl rfl rfl ?_
           refine GO.extract rfl rfl rfl rfl ?_
           refine GO.extract rfl rfl rfl rfl ?_
           refine GO.alloc HS rfl zr28 rfl rfl ?_; intro b115 wd116 HS
           refine GO.stBox (j := 0) (vs := [.slice A111 t107.length c112, .int .i64 t108]) ([.slice A111 t107.length c112, .int .i64 t108]) HS rfl rfl rfl rfl rfl (htA ag28) rfl rfl rfl ?_; intro wd117 HS
           refine GO.assign rfl rfl rfl ?_
           refine GO.nil ?_
           refine G.seq ?_
           refine G.seq ?_
           obtain ⟨t123, h124, H⟩ := Option.bind_eq_some_iff.1 H
           rcases ite_elim H with ⟨c127, H⟩ | ⟨c127, H⟩
           ·
            refine G.region ?_
            refine GO.ldBoxA (j := 0) ([.slice A111 t107.length c112, .int .i64 t108]) HS rfl rfl rfl rfl ag28 rfl ?_
            refine GO.ldBoxA (j := 7) ([.slice A19 t15.length c20, .int .i64 t16]) HS rfl rfl rfl rfl ag28 rfl ?_
            refine GO.fn rfl Try.func16 fok16.1 fok16.2 rfl rfl (laws_eqDiagram.calls HS (RdIn.own (j := 1) rfl) (RdIn.own (j := 8) rfl) h124) (fun _ wd125 ⟨h126, HS⟩ => ⟨_, h126, ?_⟩)
            refine GO.not rfl rfl rfl ?_
            refine GO.move rfl rfl rfl ?_
            refine GO.known (t := 88) rfl (congrArg Bool.not c127) ?_
            refine GO.on rfl rfl rfl rfl ?_
            refine GO.move rfl rfl rfl ?_
            refine GO.back ?_
            refine GO.on rfl rfl rfl rfl ?_
            refine GO.move rfl rfl rfl ?_
            refine GO.back ?_
            refine GO.on rfl rfl rfl rfl ?_
            refine GO.neq rfl rfl rfl rfl ?_
            refine GO.back ?_
            refine GO.pickF rfl rfl rfl rfl rfl ?_
            refine GO.nil ?_
            rcases ite_elim H with ⟨c128, H⟩ | ⟨c128, H⟩
            ·
             refine G.noB rfl (congrArg Bool.not (decide_eq_true c128)) ?_
             refine G.skip ?_
             refine G.seq ?_
             refine G.region ?_
             refine GO.assign rfl rfl rfl ?_
             refine GO.nil ?_
             refine G.seq ?_
             obtain ⟨t129, h130, H⟩ := Option.bind_eq_some_iff.1 H
             refine G.region ?_
             refine GO.ldBoxA (j := 5) ([.slice A40 t89.length c41, .int .i64 t37]) HS rfl rfl rfl rfl ag28 rfl ?_
             refine GO.move rfl rfl rfl ?_
             refine GO.fn rfl Try.func18 fok18.1 fok18.2 rfl rfl (laws_heldDiagram.calls HS (RdIn.own (j := 3) rfl) h130) (fun _ wd131 ⟨h132, HS⟩ => ⟨_, h132, ?_⟩)
             refine GO.assign rfl rfl rfl ?_
             refine GO.nil ?_
             refine G.seq ?_
             refine G.seq ?_
             refine G.region ?_
             refine GO.move rfl rfl rfl ?_
             refine GO.lss rfl rfl rfl rfl ?_
             refine GO.nil ?_
             rcases ite_elim H with ⟨c133, H⟩ | ⟨c133, H⟩
             ·
              refine G.yesB rfl (decide_eq_true c133) ?_
              refine G.seq ?_
              refine G.region ?_
              refine GO.assign rfl rfl rfl ?_
              refine GO.nil ?_
              obtain rfl := Option.some.inj H
              exact G.ret1 _ Try.func6 rfl rfl ⟨rfl, (HS.pick 12 [])⟩
             ·
              refine G.noB rfl (decide_eq_false c133) ?_
              refine G.skip ?_
              refine G.seq ?_
              refine G.seq ?_
              refine G.region ?_
              refine GO.move rfl rfl rfl ?_
              refine GO.move rfl rfl rfl ?_
              refine GO.neq rfl rfl rfl rfl ?_
              refine GO.nil ?_
              rcases ite_elim H with ⟨c134, H⟩ | ⟨c134, H⟩
              ·
               refine G.noB rfl (congrArg Bool.not (decide_eq_true c134)) ?_
               refine G.skip ?_
               refine G.seq ?_
               refine G.region ?_
               refine GO.assign rfl rfl rfl ?_
               refine GO.nil ?_
               obtain rfl := Option.some.inj H
               exact G.ret1 _ Try.func6 rfl rfl ⟨rfl, (HS.pick 12 [])⟩
              ·
               refine G.yesB rfl (congrArg Bool.not (decide_eq_false c134)) ?_
               refine G.seq ?_
               refine G.region ?_
               refine GO.assign rfl rfl rfl ?_
               refine GO.nil ?_
               obtain rfl := Option.some.inj H
               exact G.ret1 _ Try.func6 rfl rfl ⟨rfl, (HS.pick 12 [])⟩
            ·
             refine G.yesB rfl (congrArg Bool.not (decide_eq_false c128)) ?_
             refine G.seq ?_
             refine G.region ?_
             refine GO.assign rfl rfl rfl ?_
             refine GO.nil ?_
             obtain rfl := Option.some.inj H
             exact G.ret1 _ Try.func6 rfl rfl ⟨rfl, (HS.pick 12 [])⟩
           ·
            refine G.region ?_
            refine GO.ldBoxA (j := 0) ([.slice A111 t107.length c112, .int .i64 t108]) HS rfl rfl rfl rfl ag28 rfl ?_
            refine GO.ldBoxA (j := 7) ([.slice A19 t15.length c20, .int .i64 t16]) HS rfl rfl rfl rfl ag28 rfl ?_
            refine GO.fn rfl Try.func16 fok16.1 fok16.2 rfl rfl (laws_eqDiagram.calls HS (RdIn.own (j := 1) rfl) (RdIn.own (j := 8) rfl) h124) (fun _ wd125 ⟨h126, HS⟩ => ⟨_, h126, ?_⟩)
            refine GO.not rfl rfl rfl ?_
            refine GO.move rfl rfl rfl ?_
            refine GO.known (t := 88) rfl (congrArg Bool.not (bnot_of c127)) ?_
            refine GO.off rfl rfl rfl rfl rfl rfl ?_
            refine GO.off rfl rfl rfl rfl rfl rfl ?_
            refine GO.off rfl rfl rfl rfl rfl rfl ?_
            refine GO.pickT rfl rfl rfl rfl rfl ?_
            refine GO.nil ?_
            refine G.yesB rfl rfl ?_
            refine G.seq ?_
            refine G.region ?_
            refine GO.assign rfl rfl rfl ?_
            refine GO.nil ?_
            obtain rfl := Option.some.inj H
            exact G.ret1 _ Try.func6 rfl rfl ⟨rfl, (HS.pick 12 [])⟩
          ·
           refine G.yesB rfl (congrArg Bool.not (decide_eq_false c99)) ?_
           refine G.seq ?_
           refine G.region ?_
           refine GO.assign rfl rfl rfl ?_
           refine GO.nil ?_
           obtain rfl := Option.some.inj H
           exact G.ret1 _ Try.func6 rfl rfl ⟨rfl, (HS.pick 9 [])⟩
        ·
         refine G.region ?_
         refine GO.move rfl rfl rfl ?_
         refine GO.lss rfl rfl rfl rfl ?_
         refine GO.move rfl rfl rfl ?_
         refine GO.known (t := 55) rfl (decide_eq_false c82) ?_
         refine GO.on rfl rfl rfl rfl ?_
         refine GO.ldBoxA (j := 1) ([.slice A40 t36.length c41, .int .i64 t37]) HS rfl rfl rfl rfl ag28 rfl ?_
         refine GO.back ?_
         refine GO.on rfl rfl rfl rfl ?_
         refine GO.ldBoxA (j := 4) ([.slice A19 t15.length c20, .int .i64 t16]) HS rfl rfl rfl rfl ag28 rfl ?_
         refine GO.back ?_
         refine GO.on rfl rfl rfl rfl ?_
         refine GO.fn rfl Try.func16 fok16.1 fok16.2 rfl rfl (laws_eqDiagram.calls HS (RdIn.own (j := 2) rfl) (RdIn.own (j := 5) rfl) h84) (fun _ wd85 ⟨h86, HS⟩ => ⟨_, h86, ?_⟩)
         refine GO.back ?_
         refine GO.on rfl rfl rfl rfl ?_
         refine GO.not rfl rfl rfl ?_
         refine GO.back ?_
         refine GO.pickF rfl rfl rfl rfl rfl ?_
         refine GO.move rfl rfl rfl ?_
         refine GO.known (t := 61) rfl (congrArg Bool.not (bnot_of c87)) ?_
         refine GO.off rfl rfl rfl rfl rfl rfl ?_
         refine GO.off rfl rfl rfl rfl rfl rfl ?_
         refine GO.off rfl rfl rfl rfl rfl rfl ?_
         refine GO.pickT rfl rfl rfl rfl rfl ?_
         refine GO.nil ?_
         refine G.yesB rfl rfl ?_
         refine G.seq ?_
         refine G.region ?_
         refine GO.assign rfl rfl rfl ?_
         refine GO.nil ?_
         obtain rfl := Option.some.inj H
         exact G.ret1 _ Try.func6 rfl rfl ⟨rfl, (HS.pick 9 [])⟩
      ·
       refine G.yesB rfl (congrArg Bool.not (bnot_of c69)) ?_
       refine G.seq ?_
       refine G.region ?_
       refine GO.assign rfl rfl rfl ?_
       refine GO.nil ?_
       obtain rfl := Option.some.inj H
       exact G.ret1 _ Try.func6 rfl rfl ⟨rfl, (HS.pick 9 [])⟩
    ·
     refine G.yesB rfl (congrArg Bool.not (decide_eq_false c57)) ?_
     refine G.seq ?_
     refine G.region ?_
     refine GO.assign rfl rfl rfl ?_
     refine GO.nil ?_
     obtain rfl := Option.some.inj H
     exact G.ret1 _ Try.func6 rfl rfl ⟨rfl, (HS.pick 8 [])⟩
   ·
    refine G.region ?_
    refine GO.ldBoxA (j := 0) ([.slice A40 t36.length c41, .int .i64 t37]) HS rfl rfl rfl rfl ag28 rfl ?_
    refine GO.ldBoxA (j := 4) ([.slice A19 t15.length c20, .int .i64 t16]) HS rfl rfl rfl rfl ag28 rfl ?_
    refine GO.fn rfl Try.func16 fok16.1 fok16.2 rfl rfl (laws_eqDiagram.calls HS (RdIn.own (j := 1) rfl) (RdIn.own (j := 5) rfl) h53) (fun _ wd54 ⟨h55, HS⟩ => ⟨_, h55, ?_⟩)
    refine GO.not rfl rfl rfl ?_
    refine GO.move rfl rfl rfl ?_
    refine GO.known (t := 40) rfl (congrArg Bool.not (bnot_of c56)) ?_
    refine GO.off rfl rfl rfl rfl rfl rfl ?_
    refine GO.off rfl rfl rfl rfl rfl rfl ?_
    refine GO.off rfl rfl rfl rfl rfl rfl ?_
    refine GO.pickT rfl rfl rfl rfl rfl ?_
    refine GO.nil ?_
    refine G.yesB rfl rfl ?_
    refine G.seq ?_
    refine G.region ?_
    refine GO.assign rfl rfl rfl ?_
    refine GO.nil ?_
    obtain rfl := Option.some.inj H
    exact G.ret1 _ Try.func6 rfl rfl ⟨rfl, (HS.pick 8 [])⟩

end Go.Proofs.Ytdafmbaeiefacaa
