/-
  The walks through the functions: a call comes to what its list function says.
-/
import Derived.Test.YtdafmbaeiefacaaAlF
import Derived.Test.YtdafmbaeiefacaaAlW2
set_option linter.unusedVariables false
set_option linter.unusedSimpArgs false
namespace Go.Proofs.Ytdafmbaeiefacaa
open Go.RowKit
set_option maxRecDepth 20000 in
set_option maxHeartbeats 40000000 in
theorem laws_heldCrossingS.calls {w0 w : World} {L : List HObj} {K : Nat} {a_ : List GCrossing} {k_ : Int} {A_a_ : Option Addr} {c_a_ : Nat} {r1 : Int} (HS : St w0 w (L)) (h_a_ : RdIn w0 L T_GCrossing A_a_ c_a_ (fun _ => ()) a_) (H : laws_heldCrossingS.f K a_ k_ = some r1) :
    Calls Try.prog 53 #[.slice A_a_ a_.length c_a_, .int .i64 k_] w (laws_heldCrossingS.post w0 L a_ k_ A_a_ c_a_ r1) := by
  unfold laws_heldCrossingS.f at H
  refine Calls.of_G Try.func53 rfl rfl rfl ?_
  refine G.seq ?_
  refine G.region ?_
  refine GO.assign rfl rfl rfl ?_
  refine GO.nil ?_
  refine G.seq ?_
  refine G.seq ?_
  refine G.region ?_
  refine GO.assign rfl rfl rfl ?_
  refine GO.nil ?_
  refine G.block ?_
  refine G.loop ?_
  refine G.name (fun k_l1 hk_l1 => ?_)
  have at_l1 : ∀ m_l1, m_l1 ≤ K → ∀ (k_10 : Int) (i_11 : Int) (w : World), laws_heldCrossingS.l1 K m_l1 a_ k_10 i_11 = some r1 → St w0 w (L) → G Try.prog 53 58 [(0, .slice A_a_ a_.length c_a_), (1, .int .i64 k_10), (5, .int .i64 i_11)] k_l1 w (laws_heldCrossingS.post w0 L a_ k_ A_a_ c_a_ r1) := by
   intro m_l1
   induction m_l1 using Nat.strongRecOn with
   | _ m_l1 ih_l1 =>
    intro hm_l1 k_10 i_11 w H HS
    cases m_l1 with
    | zero => rw [laws_heldCrossingS.l1] at H; cases H
    | succ n_l1 =>
     rw [laws_heldCrossingS.l1] at H
     subst hk_l1
     refine G.seq ?_
     refine G.seq ?_
     refine G.region ?_
     refine GO.move rfl rfl rfl ?_
     refine GO.move rfl rfl rfl ?_
     refine GO.lenS rfl rfl Try.underlying26 rfl ?_
     refine GO.lss rfl rfl rfl rfl ?_
     refine GO.nil ?_
     rcases ite_elim H with ⟨c21, H⟩ | ⟨c21, H⟩
     ·
      refine G.yesB rfl (decide_eq_true c21) ?_
      refine G.skip ?_
      refine G.seq ?_
      refine G.block ?_
      refine G.seq ?_
      refine G.seq ?_
      obtain ⟨c22, H⟩ := ite_none H
      obtain ⟨e23, h24, H⟩ := bnd_elim H
      refine G.region ?_
      refine GO.move rfl rfl rfl ?_
      refine GO.move rfl rfl rfl ?_
      refine GO.ix rfl rfl rfl Try.underlying26 sz58 (h_a_ _ HS).2.2.1 c22.1 c22.2 rfl ?_
      refine GO.fld (ea A_a_ (i_11.toNat * 5)) rfl rfl fl58_0 rfl rfl ?_
      refine GO.ldRd (T := T_GCrossing) (n := i_11.toNat) (o := 0) HS h_a_ rfl rfl (getD_eq (ltN c22) h24) rfl rfl na2 rfl ?_
      refine GO.move rfl rfl rfl ?_
      refine GO.neq rfl rfl rfl rfl ?_
      refine GO.nil ?_
      rcases ite_elim H with ⟨c25, H⟩ | ⟨c25, H⟩
      ·
       refine G.noB rfl (congrArg Bool.not (decide_eq_true c25)) ?_
       refine G.skip ?_
       refine G.seq ?_
       refine G.region ?_
       refine GO.move rfl rfl rfl ?_
       refine GO.add rfl rfl rfl rfl ?_
       refine GO.assign rfl rfl rfl ?_
       refine GO.nil ?_
       refine G.seq ?_
       refine G.seq ?_
       refine G.region ?_
       refine GO.move rfl rfl rfl ?_
       refine GO.move rfl rfl rfl ?_
       refine GO.ix rfl rfl rfl Try.underlying26 sz58 (h_a_ _ HS).2.2.1 c22.1 c22.2 rfl ?_
       refine GO.fld (ea A_a_ (i_11.toNat * 5 + 1)) rfl rfl fl58_1 (ea_add _ _ _) rfl ?_
       refine GO.ldRd (T := T_GCrossing) (n := i_11.toNat) (o := 1) HS h_a_ rfl rfl (getD_eq (ltN c22) h24) rfl rfl na2 rfl ?_
       refine GO.move rfl rfl rfl ?_
       refine GO.neq rfl rfl rfl rfl ?_
       refine GO.nil ?_
       rcases ite_elim H with ⟨c26, H⟩ | ⟨c26, H⟩
       ·
        refine G.noB rfl (congrArg Bool.not (decide_eq_true c26)) ?_
        refine G.skip ?_
        refine G.seq ?_
        refine G.region ?_
        refine GO.move rfl rfl rfl ?_
        refine GO.add rfl rfl rfl rfl ?_
        refine GO.assign rfl rfl rfl ?_
        refine GO.nil ?_
        refine G.seq ?_
        refine G.seq ?_
        refine G.region ?_
        refine GO.move rfl rfl rfl ?_
        refine GO.move rfl rfl rfl ?_
        refine GO.ix rfl rfl rfl Try.underlying26 sz58 (h_a_ _ HS).2.2.1 c22.1 c22.2 rfl ?_
        refine GO.fld (ea A_a_ (i_11.toNat * 5 + 2)) rfl rfl fl58_2 (ea_add _ _ _) rfl ?_
        refine GO.ldRd (T := T_GCrossing) (n := i_11.toNat) (o := 2) HS h_a_ rfl rfl (getD_eq (ltN c22) h24) rfl rfl na2 rfl ?_
        refine GO.move rfl rfl rfl ?_
        refine GO.neq rfl rfl rfl rfl ?_
        refine GO.nil ?_
        rcases ite_elim H with ⟨c27, H⟩ | ⟨c27, H⟩
        ·
         refine G.noB rfl (congrArg Bool.not (decide_eq_true c27)) ?_
         refine G.skip ?_
         refine G.seq ?_
         refine G.region ?_
         refine GO.move rfl rfl rfl ?_
         refine GO.add rfl rfl rfl rfl ?_
         refine GO.assign rfl rfl rfl ?_
         refine GO.nil ?_
         refine G.seq ?_
         refine G.seq ?_
         refine G.region ?_
         refine GO.move rfl rfl rfl ?_
         refine GO.move rfl rfl rfl ?_
         refine GO.ix rfl rfl rfl Try.underlying26 sz58 (h_a_ _ HS).2.2.1 c22.1 c22.2 rfl ?_
         refine GO.fld (ea A_a_ (i_11.toNat * 5 + 3)) rfl rfl fl58_3 (ea_add _ _ _) rfl ?_
         refine GO.ldRd (T := T_GCrossing) (n := i_11.toNat) (o := 3) HS h_a_ rfl rfl (getD_eq (ltN c22) h24) rfl rfl na2 rfl ?_
         refine GO.move rfl rfl rfl ?_
         refine GO.neq rfl rfl rfl rfl ?_
         refine GO.nil ?_
         rcases ite_elim H with ⟨c28, H⟩ | ⟨c28, H⟩
         ·
          refine G.noB rfl (congrArg Bool.not (decide_eq_true c28)) ?_
          refine G.skip ?_
          refine G.seq ?_
          refine G.region ?_
          refine GO.move rfl rfl rfl ?_
          refine GO.add rfl rfl rfl rfl ?_
          refine GO.assign rfl rfl rfl ?_
          refine GO.nil ?_
          refine G.seq ?_
          refine G.seq ?_
          refine G.region ?_
          refine GO.move rfl rfl rfl ?_
          refine GO.move rfl rfl rfl ?_
          refine GO.ix rfl rfl rfl Try.underlying26 sz58 (h_a_ _ HS).2.2.1 c22.1 c22.2 rfl ?_
          refine GO.fld (ea A_a_ (i_11.toNat * 5 + 4)) rfl rfl fl58_4 (ea_add _ _ _) rfl ?_
          refine GO.ldRd (T := T_GCrossing) (n := i_11.toNat) (o := 4) HS h_a_ rfl rfl (getD_eq (ltN c22) h24) rfl rfl na2 rfl ?_
          refine GO.move rfl rfl rfl ?_
          refine GO.neq rfl rfl rfl rfl ?_
          refine GO.nil ?_
          rcases ite_elim H with ⟨c29, H⟩ | ⟨c29, H⟩
          ·
           refine G.noB rfl (congrArg Bool.not (decide_eq_true c29)) ?_
           refine G.skip ?_
           refine G.region ?_
           refine GO.move rfl rfl rfl ?_
           refine GO.add rfl rfl rfl rfl ?_
           refine GO.assign rfl rfl rfl ?_
           refine GO.nil ?_
           refine G.blockEnd ?_
           refine G.region ?_
           refine GO.move rfl rfl rfl ?_
           refine GO.add rfl rfl rfl rfl ?_
           refine GO.assign rfl rfl rfl ?_
           refine GO.nil ?_
           refine G.again ?_
           refine G.weak ?_ (ih_l1 n_l1 (Nat.lt_succ_of_le (Nat.le_refl _)) (Nat.le_of_succ_le hm_l1) _ _ _ H HS)
           exact ⟨rfl, rfl, rfl, trivial⟩
          ·
           refine G.yesB rfl (congrArg Bool.not (decide_eq_false c29)) ?_
           refine G.seq ?_
           refine G.region ?_
           refine GO.assign rfl rfl rfl ?_
           refine GO.nil ?_
           obtain rfl := Option.some.inj H
           exact G.ret1 _ Try.func53 rfl rfl ⟨rfl, HS⟩
         ·
          refine G.yesB rfl (congrArg Bool.not (decide_eq_false c28)) ?_
          refine G.seq ?_
          refine G.region ?_
          refine GO.assign rfl rfl rfl ?_
          refine GO.nil ?_
          obtain rfl := Option.some.inj H
          exact G.ret1 _ Try.func53 rfl rfl ⟨rfl, HS⟩
        ·
         refine G.yesB rfl (congrArg Bool.not (decide_eq_false c27)) ?_
         refine G.seq ?_
         refine G.region ?_
         refine GO.assign rfl rfl rfl ?_
         refine GO.nil ?_
         obtain rfl := Option.some.inj H
         exact G.ret1 _ Try.func53 rfl rfl ⟨rfl, HS⟩
       ·
        refine G.yesB rfl (congrArg Bool.not (decide_eq_false c26)) ?_
        refine G.seq ?_
        refine G.region ?_
        refine GO.assign rfl rfl rfl ?_
        refine GO.nil ?_
        obtain rfl := Option.some.inj H
        exact G.ret1 _ Try.func53 rfl rfl ⟨rfl, HS⟩
      ·
       refine G.yesB rfl (congrArg Bool.not (decide_eq_false c25)) ?_
       refine G.seq ?_
       refine G.region ?_
       refine GO.assign rfl rfl rfl ?_
       refine GO.nil ?_
       obtain rfl := Option.some.inj H
       exact G.ret1 _ Try.func53 rfl rfl ⟨rfl, HS⟩
     ·
      refine G.noB rfl (decide_eq_false c21) ?_
      refine G.exit rfl ?_
      refine G.seq ?_
      refine G.region ?_
      refine GO.move rfl rfl rfl ?_
      refine GO.assign rfl rfl rfl ?_
      refine GO.nil ?_
      obtain rfl := Option.some.inj H
      exact G.ret1 _ Try.func53 rfl rfl ⟨rfl, HS⟩
  refine G.weak ?_ (at_l1 K (Nat.le_refl _) _ _ _ H HS)
  exact ⟨rfl, rfl, rfl, trivial⟩

set_option maxRecDepth 20000 in
set_option maxHeartbeats 40000000 in
theorem laws_heldDiagram.calls {w0 w : World} {L : List HObj} {K : Nat} {a_Crossings : List GCrossing} {a_Circles : Int} {k_ : Int} {A_a_Crossings : Option Addr} {c_a_Crossings : Nat} {r1 : Int} (HS : St w0 w (L)) (h_a_Crossings : RdIn w0 L T_GCrossing A_a_Crossings c_a_Crossings (fun _ => ()) a_Crossings) (H : laws_heldDiagram.f K a_Crossings a_Circles k_ = some r1) :
    Calls Try.prog 18 #[.agg [.slice A_a_Crossings a_Crossings.length c_a_Crossings, .int .i64 a_Circles].toArray, .int .i64 k_] w (laws_heldDiagram.post w0 L a_Crossings a_Circles k_ A_a_Crossings c_a_Crossings r1) := by
  unfold laws_heldDiagram.f at H
  refine Calls.of_G Try.func18 rfl rfl rfl ?_
  refine G.seq ?_
  refine G.region ?_
  refine GO.box (cs := [.slice A_a_Crossings a_Crossings.length c_a_Crossings, .int .i64 a_Circles]) HS rfl rfl rfl rfl ?_; intro b1 wd2 HS
  refine GO.assign rfl rfl rfl ?_
  refine GO.nil ?_
  refine G.seq ?_
  obtain ⟨t3, h4, H⟩ := Option.bind_eq_some_iff.1 H
  refine G.region ?_
  refine GO.fld (⟨b1, 0, none⟩) rfl rfl fl28_0 rfl rfl ?_
  refine GO.ldBox (j := 0) HS rfl rfl rfl rfl na26 rfl ?_
  refine GO.move rfl rfl rfl ?_
  refine GO.fn rfl Try.func53 fok53.1 fok53.2 rfl rfl (laws_heldCrossingS.calls HS (RdIn.drop 1 h_a_Crossings) h4) (fun _ wd5 ⟨h6, HS⟩ => ⟨_, h6, ?_⟩)
  refine GO.assign rfl rfl rfl ?_
  refine GO.nil ?_
  refine G.seq ?_
  refine G.seq ?_
  refine G.region ?_
  refine GO.move rfl rfl rfl ?_
  refine GO.lss rfl rfl rfl rfl ?_
  refine GO.nil ?_
  rcases ite_elim H with ⟨c7, H⟩ | ⟨c7, H⟩
  ·
   refine G.yesB rfl (decide_eq_true c7) ?_
   refine G.seq ?_
   refine G.region ?_
   refine GO.assign rfl rfl rfl ?_
   refine GO.nil ?_
   obtain rfl := Option.some.inj H
   exact G.ret1 _ Try.func18 rfl rfl ⟨rfl, (HS.pick 1 [])⟩
  ·
   refine G.noB rfl (decide_eq_false c7) ?_
   refine G.skip ?_
   refine G.seq ?_
   refine G.region ?_
   refine GO.move rfl rfl rfl ?_
   refine GO.assign rfl rfl rfl ?_
   refine GO.nil ?_
   obtain rfl := Option.some.inj H
   exact G.ret1 _ Try.func18 rfl rfl ⟨rfl, (HS.pick 1 [])⟩

end Go.Proofs.Ytdafmbaeiefacaa
