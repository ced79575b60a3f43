/-
  The walks through the functions: a call comes to what its list function says.
-/
import Derived.Test.YtdfiglhdjlmakaaGreatAlF
import Derived.Test.YtdfiglhdjlmakaaGreatAlW1
set_option linter.unusedVariables false
set_option linter.unusedSimpArgs false
namespace Go.Proofs.YtdfiglhdjlmakaaGreat
open Go.RowKit
open Tryz
set_option maxRecDepth 20000
set_option maxHeartbeats 40000000
theorem spec_l27Pure.calls {w0 w : World} {L : List HObj} {K : Nat} {edges : List (List Int)} {level : Int} {A_a : Option Addr} {c_a : Nat} {y_a : Nat → (Ty.slice 2 (TInt .i64)).Lay} {r1 : Bool} (HS : St w0 w (L)) (r_a : RdIn w0 L (Ty.slice 2 (TInt .i64)) A_a c_a y_a edges) (H : spec_l27Pure.f K edges level = some r1) :
    Calls prog 87 #[.slice A_a edges.length c_a, .int .i64 level] w (spec_l27Pure.post w0 L r1) := by
  unfold spec_l27Pure.f at H
  refine Calls.of_G func87 rfl rfl rfl ?_
  refine G.run 7 rfl ?_
  refine G.name (fun k_l1 hk_l1 => ?_)
  have at_l1 : ∀ m_l1, m_l1 ≤ K → ∀ (i_7 : Int) (w : World), spec_l27Pure.l1 K m_l1 edges level i_7 = some r1 → St w0 w (L) → G prog 87 30 [(0, .slice A_a edges.length c_a), (1, .int .i64 level), (5, .int .i64 i_7)] k_l1 w (spec_l27Pure.post w0 L r1) := by
   intro m_l1
   induction m_l1 using Nat.strongRecOn with
   | _ m_l1 ih_l1 =>
    intro hm_l1 i_7 w H HS
    cases m_l1 with
    | zero => rw [spec_l27Pure.l1] at H; cases H
    | succ n_l1 =>
     rw [spec_l27Pure.l1] at H
     subst hk_l1
     refine G.run 2 rfl (G.region (GO.ps 2 rfl (GO.lenS rfl rfl underlying55 rfl (GO.lss rfl rfl rfl rfl (GO.nil ?_)))))
     rcases ite_elim H with ⟨c14, H⟩ | ⟨c14, H⟩
     ·
      refine G.yesB rfl (decide_eq_true c14) (G.run 4 rfl ?_)
      obtain ⟨c15, H⟩ := ite_none H
      obtain ⟨c16, H⟩ := ite_none H
      rcases ite_elim H with ⟨c17, H⟩ | ⟨c17, H⟩
      ·
       obtain ⟨c18, H⟩ := ite_none H
       refine G.region (GO.ps 2 rfl (GO.ix rfl rfl rfl underlying55 sz74 (r_a _ HS).2.2.1 c15.1 c15.2 rfl (GO.ldRd (T := (Ty.slice 2 (TInt .i64))) (n := i_7.toNat) (o := 0) HS r_a rfl rfl (getD_some (d := []) (ltN c15)) rfl rfl na74 rfl (GO.ix rfl rfl rfl underlying74 sz2 ((RdIn.elem r_a c15.1 c15.2) _ HS).2.2.1 c16.1 c16.2 rfl (GO.ldRd (T := (TInt .i64)) (n := 0) (o := 0) HS (RdIn.elem r_a c15.1 c15.2) rfl rfl (getD_some (d := 0) (ltN c16)) rfl rfl na2 rfl (GO.ps 3 rfl (GO.known (t := 20) rfl (decide_eq_true c17) (GO.on rfl rfl rfl rfl (GO.move rfl rfl rfl (GO.back (GO.on rfl rfl rfl rfl (GO.move rfl rfl rfl (GO.back (GO.on rfl rfl rfl rfl ?_))))))))))))))
       refine GO.ix rfl rfl rfl underlying55 sz74 (r_a _ HS).2.2.1 c15.1 c15.2 rfl (GO.back (GO.on rfl rfl rfl rfl (GO.ldRd (T := (Ty.slice 2 (TInt .i64))) (n := i_7.toNat) (o := 0) HS r_a rfl rfl (getD_some (d := []) (ltN c15)) rfl rfl na74 rfl (GO.back (GO.on rfl rfl rfl rfl (GO.ix rfl rfl rfl underlying74 sz2 ((RdIn.elem r_a c15.1 c15.2) _ HS).2.2.1 c18.1 c18.2 rfl (GO.back (GO.on rfl rfl rfl rfl (GO.ldRd (T := (TInt .i64)) (n := 1) (o := 0) HS (RdIn.elem r_a c15.1 c15.2) rfl rfl (getD_some (d := 0) (ltN c18)) rfl rfl na2 rfl (GO.back (GO.on rfl rfl rfl rfl (GO.move rfl rfl rfl (GO.back (GO.on rfl rfl rfl rfl ?_))))))))))))))
       refine GO.eql rfl rfl rfl rfl (GO.back (GO.pickT rfl rfl rfl rfl rfl (GO.nil ?_)))
       rcases ite_elim H with ⟨c19, H⟩ | ⟨c19, H⟩
       ·
        refine G.yesB rfl (decide_eq_true c19) (G.run 2 rfl ?_)
        obtain rfl := Option.some.inj H
        exact G.ret1 _ func87 rfl rfl ⟨rfl, HS⟩
       refine G.noB rfl (decide_eq_false c19) (G.run 4 rfl (G.weak ?_ (ih_l1 n_l1 (Nat.lt_succ_of_le (Nat.le_refl _)) (Nat.le_of_succ_le hm_l1) _ _ H HS)))
       exact ⟨rfl, rfl, rfl, trivial⟩
      refine G.region (GO.ps 2 rfl (GO.ix rfl rfl rfl underlying55 sz74 (r_a _ HS).2.2.1 c15.1 c15.2 rfl (GO.ldRd (T := (Ty.slice 2 (TInt .i64))) (n := i_7.toNat) (o := 0) HS r_a rfl rfl (getD_some (d := []) (ltN c15)) rfl rfl na74 rfl (GO.ix rfl rfl rfl underlying74 sz2 ((RdIn.elem r_a c15.1 c15.2) _ HS).2.2.1 c16.1 c16.2 rfl (GO.ldRd (T := (TInt .i64)) (n := 0) (o := 0) HS (RdIn.elem r_a c15.1 c15.2) rfl rfl (getD_some (d := 0) (ltN c16)) rfl rfl na2 rfl (GO.ps 3 rfl (GO.known (t := 20) rfl (decide_eq_false c17) (GO.off rfl rfl rfl rfl rfl rfl (GO.off rfl rfl rfl rfl rfl rfl (GO.off rfl rfl rfl rfl rfl rfl (GO.off rfl rfl rfl rfl rfl rfl (GO.off rfl rfl rfl rfl rfl rfl (GO.off rfl rfl rfl rfl rfl rfl (GO.off rfl rfl rfl rfl rfl rfl ?_))))))))))))))
      refine GO.off rfl rfl rfl rfl rfl rfl (GO.pickF rfl rfl rfl rfl rfl (GO.nil (G.run 5 rfl (G.weak ?_ (ih_l1 n_l1 (Nat.lt_succ_of_le (Nat.le_refl _)) (Nat.le_of_succ_le hm_l1) _ _ H HS)))))
      exact ⟨rfl, rfl, rfl, trivial⟩
     refine G.noB rfl (decide_eq_false c14) (G.run 3 rfl ?_)
     obtain rfl := Option.some.inj H
     exact G.ret1 _ func87 rfl rfl ⟨rfl, HS⟩
  refine G.weak ?_ (at_l1 K (Nat.le_refl _) _ _ H HS)
  exact ⟨rfl, rfl, rfl, trivial⟩
theorem spec_l27Bigon.calls {w0 w : World} {L : List HObj} {K : Nat} {d_Crossings : List GCrossing} {d_Circles c e_ : Int} {A_a : Option Addr} {c_a : Nat} {r1 : Bool} (HS : St w0 w (L)) (r_a : RdIn w0 L T_GCrossing A_a c_a (fun _ => ()) d_Crossings) (H : spec_l27Bigon.f K d_Crossings d_Circles c e_ = some r1) :
    Calls prog 54 #[.agg [.slice A_a d_Crossings.length c_a, .int .i64 d_Circles].toArray, .int .i64 c, .int .i64 e_] w (spec_l27Bigon.post w0 L r1) := by
  unfold spec_l27Bigon.f at H
  refine Calls.of_G func54 rfl rfl rfl ?_
  refine G.seq (G.region (GO.box (cs := [.slice A_a d_Crossings.length c_a, .int .i64 d_Circles]) HS rfl rfl rfl rfl fun b1 wd2 HS => GO.assign rfl rfl rfl (GO.nil (G.seq ?_))))
  obtain ⟨t3, h4, H⟩ := Option.bind_eq_some_iff.1 H
  refine G.region (GO.ldBoxA (j := 0) ([.slice A_a d_Crossings.length c_a, .int .i64 d_Circles]) HS rfl rfl rfl rfl ag30 rfl (GO.fn rfl func29 fok29.1 fok29.2 rfl rfl (spec_l25Regions.calls HS (RdIn.drop 1 r_a) h4) (fun _ wd8 ⟨A5, c6, y7, h9, HS⟩ => ⟨_, h9, (GO.assign rfl rfl rfl (GO.nil (G.run 5 rfl ?_)))⟩)))
  refine G.name (fun k_l1 hk_l1 => ?_)
  have at_l1 : ∀ m_l1, m_l1 ≤ K → ∀ (i_38 : Int) (w : World), spec_l27Bigon.l1 K m_l1 c e_ t3 i_38 = some r1 → St w0 w (Own (Ty.slice 2 (TInt .i64)) 74 A5 c6 y7 t3 :: L) → G prog 54 54 [(1, .int .i64 c), (2, .int .i64 e_), (7, .slice A5 t3.length c6), (8, .int .i64 i_38)] k_l1 w (spec_l27Bigon.post w0 L r1) := by
   intro m_l1
   induction m_l1 using Nat.strongRecOn with
   | _ m_l1 ih_l1 =>
    intro hm_l1 i_38 w H HS
    cases m_l1 with
    | zero => rw [spec_l27Bigon.l1] at H; cases H
    | succ n_l1 =>
     rw [spec_l27Bigon.l1] at H
     subst hk_l1
     refine G.run 2 rfl (G.region (GO.ps 2 rfl (GO.lenS rfl rfl underlying55 rfl (GO.lss rfl rfl rfl rfl (GO.nil ?_)))))
     rcases ite_elim H with ⟨c67, H⟩ | ⟨c67, H⟩
     ·
      refine G.yesB rfl (decide_eq_true c67) (G.run 4 rfl ?_)
      obtain ⟨c68, H⟩ := ite_none H
      refine G.region (GO.ps 2 rfl (GO.ix rfl rfl rfl underlying55 sz74 ((RdIn.own (j := 0) rfl) _ HS).2.2.1 c68.1 c68.2 rfl (GO.ldRd (T := (Ty.slice 2 (TInt .i64))) (n := i_38.toNat) (o := 0) HS (RdIn.own (j := 0) rfl) rfl rfl (getD_some (d := []) (ltN c68)) rfl rfl na74 rfl (GO.assign rfl rfl rfl (GO.nil (G.run 2 rfl ?_))))))
      rcases ite_elim H with ⟨c73, H⟩ | ⟨c73, H⟩
      ·
       obtain ⟨c74, H⟩ := ite_none H
       rcases ite_elim H with ⟨c75, H⟩ | ⟨c75, H⟩
       ·
        obtain ⟨c76, H⟩ := ite_none H
        refine G.region (GO.move rfl rfl rfl (GO.lenS rfl rfl underlying74 rfl (GO.ps 2 rfl (GO.known (t := 26) rfl (congrArg Bool.not (decide_eq_true c73)) (GO.on rfl rfl rfl rfl (GO.move rfl rfl rfl (GO.back (GO.on rfl rfl rfl rfl (GO.ix rfl rfl rfl underlying74 sz2 ((RdIn.elem (RdIn.own (j := 0) rfl) c68.1 c68.2) _ HS).2.2.1 c74.1 c74.2 rfl (GO.back (GO.on rfl rfl rfl rfl (GO.ldRd (T := (TInt .i64)) (n := 0) (o := 0) HS (RdIn.elem (RdIn.own (j := 0) rfl) c68.1 c68.2) rfl rfl (getD_some (d := 0) (ltN c74)) rfl rfl na2 rfl (GO.back (GO.on rfl rfl rfl rfl ?_))))))))))))))
        refine GO.quo rfl rfl rfl (by decide) rfl (GO.back (GO.on rfl rfl rfl rfl (GO.move rfl rfl rfl (GO.back (GO.on rfl rfl rfl rfl (GO.move rfl rfl rfl (GO.back (GO.on rfl rfl rfl rfl (GO.min2 rfl rfl rfl rfl (GO.back (GO.on rfl rfl rfl rfl (GO.neq rfl rfl rfl rfl (GO.back (GO.ps 2 rfl ?_))))))))))))))
        refine GO.known (t := 36) rfl (congrArg Bool.not (decide_eq_true c75)) (GO.on rfl rfl rfl rfl (GO.move rfl rfl rfl (GO.back (GO.on rfl rfl rfl rfl (GO.ix rfl rfl rfl underlying74 sz2 ((RdIn.elem (RdIn.own (j := 0) rfl) c68.1 c68.2) _ HS).2.2.1 c76.1 c76.2 rfl (GO.back (GO.on rfl rfl rfl rfl (GO.ldRd (T := (TInt .i64)) (n := 1) (o := 0) HS (RdIn.elem (RdIn.own (j := 0) rfl) c68.1 c68.2) rfl rfl (getD_some (d := 0) (ltN c76)) rfl rfl na2 rfl (GO.back (GO.on rfl rfl rfl rfl (GO.quo rfl rfl rfl (by decide) rfl (GO.back (GO.on rfl rfl rfl rfl (GO.move rfl rfl rfl ?_))))))))))))))
        refine GO.back (GO.on rfl rfl rfl rfl (GO.move rfl rfl rfl (GO.back (GO.on rfl rfl rfl rfl (GO.max2 rfl rfl rfl rfl (GO.back (GO.on rfl rfl rfl rfl (GO.neq rfl rfl rfl rfl (GO.back (GO.pickF rfl rfl rfl rfl rfl (GO.nil ?_)))))))))))
        rcases ite_elim H with ⟨c77, H⟩ | ⟨c77, H⟩
        ·
         refine G.noB rfl (congrArg Bool.not (decide_eq_true c77)) (G.run 2 rfl ?_)
         obtain ⟨t78, h79, H⟩ := Option.bind_eq_some_iff.1 H
         refine G.region (GO.move rfl rfl rfl (GO.fn rfl func86 fok86.1 fok86.2 rfl rfl (spec_l27Edges.calls HS (RdIn.elem (RdIn.own (j := 0) rfl) c68.1 c68.2) h79) (fun _ wd83 ⟨A80, c81, y82, h84, HS⟩ => ⟨_, h84, (GO.assign rfl rfl rfl (GO.nil (G.seq ?_)))⟩)))
         obtain ⟨t85, h86, H⟩ := Option.bind_eq_some_iff.1 H
         rcases ite_elim H with ⟨c89, H⟩ | ⟨c89, H⟩
         ·
          refine G.region (GO.move rfl rfl rfl (GO.fn rfl func87 fok87.1 fok87.2 rfl rfl (spec_l27Pure.calls HS (RdIn.own (j := 0) rfl) h86) (fun _ wd87 ⟨h88, HS⟩ => ⟨_, h88, (GO.move rfl rfl rfl (GO.known (t := 50) rfl c89 (GO.off rfl rfl rfl rfl rfl rfl (GO.off rfl rfl rfl rfl rfl rfl (GO.pickT rfl rfl rfl rfl rfl (GO.nil (G.run 3 rfl ?_)))))))⟩)))
          obtain rfl := Option.some.inj H
          exact G.ret1 _ func54 rfl rfl ⟨rfl, (HS.pk 2 [] rfl)⟩
         obtain ⟨t90, h91, H⟩ := Option.bind_eq_some_iff.1 H
         refine G.region (GO.move rfl rfl rfl (GO.fn rfl func87 fok87.1 fok87.2 rfl rfl (spec_l27Pure.calls HS (RdIn.own (j := 0) rfl) h86) (fun _ wd87 ⟨h88, HS⟩ => ⟨_, h88, (GO.move rfl rfl rfl (GO.known (t := 50) rfl (bnot_of c89) (GO.on rfl rfl rfl rfl (GO.move rfl rfl rfl (GO.back (GO.on rfl rfl rfl rfl (GO.fn rfl func87 fok87.1 fok87.2 rfl rfl (spec_l27Pure.calls HS (RdIn.own (j := 0) rfl) h91) (fun _ wd92 ⟨h93, HS⟩ => ⟨_, h93, (GO.back (GO.pickF rfl rfl rfl rfl rfl (GO.nil ?_)))⟩))))))))⟩)))
         rcases ite_elim H with ⟨c94, H⟩ | ⟨c94, H⟩
         ·
          refine G.yesB rfl c94 (G.run 2 rfl ?_)
          obtain rfl := Option.some.inj H
          exact G.ret1 _ func54 rfl rfl ⟨rfl, (HS.pk 2 [] rfl)⟩
         refine G.noB rfl (bnot_of c94) (G.run 4 rfl (G.weak ?_ (ih_l1 n_l1 (Nat.lt_succ_of_le (Nat.le_refl _)) (Nat.le_of_succ_le hm_l1) _ _ H (HS.pk 2 [1] rfl))))
         exact ⟨rfl, rfl, rfl, rfl, trivial⟩
        refine G.yesB rfl (congrArg Bool.not (decide_eq_false c77)) (G.run 3 rfl (G.weak ?_ (ih_l1 n_l1 (Nat.lt_succ_of_le (Nat.le_refl _)) (Nat.le_of_succ_le hm_l1) _ _ H HS)))
        exact ⟨rfl, rfl, rfl, rfl, trivial⟩
       refine G.region (GO.move rfl rfl rfl (GO.lenS rfl rfl underlying74 rfl (GO.ps 2 rfl (GO.known (t := 26) rfl (congrArg Bool.not (decide_eq_true c73)) (GO.on rfl rfl rfl rfl (GO.move rfl rfl rfl (GO.back (GO.on rfl rfl rfl rfl (GO.ix rfl rfl rfl underlying74 sz2 ((RdIn.elem (RdIn.own (j := 0) rfl) c68.1 c68.2) _ HS).2.2.1 c74.1 c74.2 rfl (GO.back (GO.on rfl rfl rfl rfl (GO.ldRd (T := (TInt .i64)) (n := 0) (o := 0) HS (RdIn.elem (RdIn.own (j := 0) rfl) c68.1 c68.2) rfl rfl (getD_some (d := 0) (ltN c74)) rfl rfl na2 rfl (GO.back (GO.on rfl rfl rfl rfl ?_))))))))))))))
       refine GO.quo rfl rfl rfl (by decide) rfl (GO.back (GO.on rfl rfl rfl rfl (GO.move rfl rfl rfl (GO.back (GO.on rfl rfl rfl rfl (GO.move rfl rfl rfl (GO.back (GO.on rfl rfl rfl rfl (GO.min2 rfl rfl rfl rfl (GO.back (GO.on rfl rfl rfl rfl (GO.neq rfl rfl rfl rfl (GO.back (GO.ps 2 rfl ?_))))))))))))))
       refine GO.known (t := 36) rfl (congrArg Bool.not (decide_eq_false c75)) (GO.off rfl rfl rfl rfl rfl rfl (GO.off rfl rfl rfl rfl rfl rfl (GO.off rfl rfl rfl rfl rfl rfl (GO.off rfl rfl rfl rfl rfl rfl (GO.off rfl rfl rfl rfl rfl rfl (GO.off rfl rfl rfl rfl rfl rfl (GO.off rfl rfl rfl rfl rfl rfl (GO.off rfl rfl rfl rfl rfl rfl (GO.pickT rfl rfl rfl rfl rfl (GO.nil (G.run 4 rfl (G.weak ?_ (ih_l1 n_l1 (Nat.lt_succ_of_le (Nat.le_refl _)) (Nat.le_of_succ_le hm_l1) _ _ H HS)))))))))))))
       exact ⟨rfl, rfl, rfl, rfl, trivial⟩
      refine G.region (GO.move rfl rfl rfl (GO.lenS rfl rfl underlying74 rfl (GO.ps 2 rfl (GO.known (t := 26) rfl (congrArg Bool.not (decide_eq_false c73)) (GO.off rfl rfl rfl rfl rfl rfl (GO.off rfl rfl rfl rfl rfl rfl (GO.off rfl rfl rfl rfl rfl rfl (GO.off rfl rfl rfl rfl rfl rfl (GO.off rfl rfl rfl rfl rfl rfl (GO.off rfl rfl rfl rfl rfl rfl (GO.off rfl rfl rfl rfl rfl rfl (GO.off rfl rfl rfl rfl rfl rfl (GO.ps 2 rfl (GO.off rfl rfl rfl rfl rfl rfl ?_))))))))))))))
      refine GO.off rfl rfl rfl rfl rfl rfl (GO.off rfl rfl rfl rfl rfl rfl (GO.off rfl rfl rfl rfl rfl rfl (GO.off rfl rfl rfl rfl rfl rfl (GO.off rfl rfl rfl rfl rfl rfl (GO.off rfl rfl rfl rfl rfl rfl (GO.off rfl rfl rfl rfl rfl rfl (GO.pickT rfl rfl rfl rfl rfl (GO.nil (G.run 4 rfl (G.weak ?_ (ih_l1 n_l1 (Nat.lt_succ_of_le (Nat.le_refl _)) (Nat.le_of_succ_le hm_l1) _ _ H HS)))))))))))
      exact ⟨rfl, rfl, rfl, rfl, trivial⟩
     refine G.noB rfl (decide_eq_false c67) (G.run 3 rfl ?_)
     obtain rfl := Option.some.inj H
     exact G.ret1 _ func54 rfl rfl ⟨rfl, (HS.pk 1 [] rfl)⟩
  refine G.weak ?_ (at_l1 K (Nat.le_refl _) _ _ H (HS.pk 2 [0] rfl))
  exact ⟨rfl, rfl, rfl, rfl, trivial⟩
theorem spec_RemoveBigon.calls {w0 w : World} {L : List HObj} {K : Nat} {d_Crossings : List GCrossing} {d_Circles c e_ : Int} {A_a : Option Addr} {c_a : Nat} {r1 : List GCrossing} {r2 r3 : Int} (HS : St w0 w (L)) (r_a : RdIn w0 L T_GCrossing A_a c_a (fun _ => ()) d_Crossings) (H : spec_RemoveBigon.f K d_Crossings d_Circles c e_ = some (r1, r2, r3)) :
    Calls prog 34 #[.agg [.slice A_a d_Crossings.length c_a, .int .i64 d_Circles].toArray, .int .i64 c, .int .i64 e_] w (spec_RemoveBigon.post w0 L r1 r2 r3) := by
  unfold spec_RemoveBigon.f at H
  refine Calls.of_G func34 rfl rfl rfl ?_
  refine G.seq (G.region (GO.box (cs := [.slice A_a d_Crossings.length c_a, .int .i64 d_Circles]) HS rfl rfl rfl rfl fun b1 wd2 HS => GO.alloc HS rfl zr30 rfl rfl fun b3 wd4 HS => GO.assign rfl rfl rfl (GO.nil (G.run 2 rfl ?_))))
  obtain ⟨t5, h6, H⟩ := Option.bind_eq_some_iff.1 H
  refine G.region (GO.ldBoxA (j := 1) ([.slice A_a d_Crossings.length c_a, .int .i64 d_Circles]) HS rfl rfl rfl rfl ag30 rfl (GO.fn rfl func16 fok16.1 fok16.2 rfl rfl (spec_IsDiagram.calls HS (RdIn.drop 2 r_a) h6) (fun _ wd7 ⟨h8, HS⟩ => ⟨_, h8, (GO.not rfl rfl rfl (GO.nil ?_))⟩)))
  rcases ite_elim H with ⟨c9, H⟩ | ⟨c9, H⟩
  ·
   refine G.noB rfl (congrArg Bool.not c9) (G.run 2 rfl (G.region (GO.fld (⟨b1, 0, none⟩) rfl rfl fl30_0 rfl rfl (GO.ldBox (j := 1) HS rfl rfl rfl rfl na28 rfl (GO.lenS rfl rfl underlying28 rfl (GO.ps 2 rfl (GO.nil (G.run 2 rfl ?_))))))))
   obtain ⟨t19, h20, H⟩ := Option.bind_eq_some_iff.1 H
   rcases ite_elim H with ⟨c23, H⟩ | ⟨c23, H⟩
   ·
    obtain ⟨t24, h25, H⟩ := Option.bind_eq_some_iff.1 H
    refine G.region (GO.ps 2 rfl (GO.fn rfl func27 fok27.1 fok27.2 rfl rfl (spec_l01In.calls HS  h20) (fun _ wd21 ⟨h22, HS⟩ => ⟨_, h22, (GO.ps 2 rfl (GO.known (t := 22) rfl (congrArg Bool.not c23) (GO.on rfl rfl rfl rfl (GO.move rfl rfl rfl (GO.back (GO.on rfl rfl rfl rfl (GO.move rfl rfl rfl (GO.back (GO.on rfl rfl rfl rfl (GO.fn rfl func27 fok27.1 fok27.2 rfl rfl (spec_l01In.calls HS  h25) (fun _ wd26 ⟨h27, HS⟩ => ⟨_, h27, (GO.back (GO.on rfl rfl rfl rfl ?_))⟩)))))))))))⟩)))
    refine GO.not rfl rfl rfl (GO.back (GO.pickF rfl rfl rfl rfl rfl (GO.nil ?_)))
    rcases ite_elim H with ⟨c28, H⟩ | ⟨c28, H⟩
    ·
     refine G.noB rfl (congrArg Bool.not c28) (G.run 3 rfl ?_)
     rcases ite_elim H with ⟨c34, H⟩ | ⟨c34, H⟩
     ·
      refine G.region (GO.ps 4 rfl (GO.known (t := 32) rfl (decide_eq_true c34) (GO.off rfl rfl rfl rfl rfl rfl (GO.off rfl rfl rfl rfl rfl rfl (GO.off rfl rfl rfl rfl rfl rfl (GO.off rfl rfl rfl rfl rfl rfl (GO.off rfl rfl rfl rfl rfl rfl (GO.pickT rfl rfl rfl rfl rfl (GO.nil (G.run 2 rfl (G.region (GO.buildV (.agg [.slice none 0 0, .int .i64 0].toArray) rfl rfl (fun _ => by kernel_rfl) rfl (GO.stBox (j := 0) (vs := [.slice none 0 0, .int .i64 0]) ([.slice none 0 0, .int .i64 0]) HS rfl rfl rfl rfl rfl (htA ag30) rfl rfl rfl fun wd35 HS => GO.assign rfl rfl rfl ?_)))))))))))))
      refine GO.nil ?_
      replace HS := HS.nilRow T_GCrossing 61 (fun _ => ())
      obtain ⟨rfl, rfl, rfl⟩ := some3 H
      exact G.ret2 _ _ func34 rfl (Res1.boxA (j := 1) (vs := [.slice none 0 0, .int .i64 0]) HS rfl rfl rfl ag30) rfl ⟨_, _, rfl, (HS.pk 3 [0] rfl)⟩
     obtain ⟨t36, h37, H⟩ := Option.bind_eq_some_iff.1 H
     refine G.region (GO.ps 4 rfl (GO.known (t := 32) rfl (decide_eq_false c34) (GO.on rfl rfl rfl rfl (GO.ldBoxA (j := 1) ([.slice A_a d_Crossings.length c_a, .int .i64 d_Circles]) HS rfl rfl rfl rfl ag30 rfl (GO.back (GO.on rfl rfl rfl rfl (GO.move rfl rfl rfl (GO.back (GO.on rfl rfl rfl rfl (GO.move rfl rfl rfl (GO.back (GO.on rfl rfl rfl rfl (GO.fn rfl func54 fok54.1 fok54.2 rfl rfl (spec_l27Bigon.calls HS (RdIn.drop 2 r_a) h37) (fun _ wd38 ⟨h39, HS⟩ => ⟨_, h39, (GO.back ?_)⟩))))))))))))))
     refine GO.on rfl rfl rfl rfl (GO.not rfl rfl rfl (GO.back (GO.pickF rfl rfl rfl rfl rfl (GO.nil ?_))))
     rcases ite_elim H with ⟨c40, H⟩ | ⟨c40, H⟩
     ·
      refine G.noB rfl (congrArg Bool.not c40) (G.run 2 rfl ?_)
      obtain ⟨c41, H⟩ := ite_none H
      obtain ⟨c42, H⟩ := ite_none H
      refine G.region (GO.fld (⟨b1, 0, none⟩) rfl rfl fl30_0 rfl rfl (GO.ldBox (j := 1) HS rfl rfl rfl rfl na28 rfl (GO.lenS rfl rfl underlying28 rfl (GO.make (T := TBool) false () HS flat_flat rfl rfl rfl underlying71 inf4 rfl rfl rfl c41 c42 rfl fun b43 wd44 HS => GO.assign rfl rfl rfl (GO.nil (G.seq ?_))))))
      obtain ⟨c45, H⟩ := ite_none H
      refine G.region (GO.ps 2 rfl (GO.ix rfl rfl rfl underlying71 sz4 (fun _ => ⟨_, _, rfl⟩) c45.1 c45.2 rfl (GO.stRow (T := TBool) (j := 0) (n := c.toNat) (o := 0) (vs := [.bool true]) true HS rfl flat_flat rfl rfl rfl rfl (htN na4 rfl) rfl (getD_some (d := false) (ltN c45)) rfl rfl fun wd46 HS => GO.nil (G.len (t := 9) (m := ((List.replicate (d_Crossings.length : Int).toNat false).set c.toNat true).length) rfl (by simp only [List.length_set] <;> rfl) (G.seq ?_)))))
      obtain ⟨c47, H⟩ := ite_none H
      refine G.region (GO.ps 2 rfl (GO.ix rfl rfl rfl underlying71 sz4 (fun _ => ⟨_, _, rfl⟩) c47.1 c47.2 rfl (GO.stRow (T := TBool) (j := 0) (n := e_.toNat) (o := 0) (vs := [.bool true]) true HS rfl flat_flat rfl rfl rfl rfl (htN na4 rfl) rfl (getD_some (d := false) (ltN c47)) rfl rfl fun wd48 HS => GO.nil (G.len (t := 9) (m := (((List.replicate (d_Crossings.length : Int).toNat false).set c.toNat true).set e_.toNat true).length) rfl (by simp only [List.length_set] <;> rfl) (G.seq ?_)))))
      obtain ⟨t49, t50, t51, h52, H⟩ := bind3_elim H
      refine G.region (GO.ldBoxA (j := 2) ([.slice A_a d_Crossings.length c_a, .int .i64 d_Circles]) HS rfl rfl rfl rfl ag30 rfl (GO.move rfl rfl rfl (GO.fn rfl func51 fok51.1 fok51.2 rfl rfl (spec_l27Remove.calls HS (RdIn.drop 3 r_a) (RdIn.own (j := 0) rfl) h52) (fun _ wd55 ⟨A53, c54, h56, HS⟩ => ⟨_, h56, (GO.ps 2 rfl (GO.stBox (j := 2) (vs := [.slice A53 t49.length c54, .int .i64 t50]) ([.slice A53 t49.length c54, .int .i64 t50]) HS rfl rfl rfl rfl rfl (htA ag30) rfl rfl rfl fun wd57 HS => GO.assign rfl rfl rfl (GO.nil ?_)))⟩))))
      obtain ⟨rfl, rfl, rfl⟩ := some3 H
      exact G.ret2 _ _ func34 rfl (Res1.boxA (j := 2) (vs := [.slice A53 t49.length c54, .int .i64 t50]) HS rfl rfl rfl ag30) rfl ⟨_, _, rfl, (HS.pk 4 [0] rfl)⟩
     refine G.yesB rfl (congrArg Bool.not (bnot_of c40)) (G.seq (G.region (GO.buildV (.agg [.slice none 0 0, .int .i64 0].toArray) rfl rfl (fun _ => by kernel_rfl) rfl (GO.stBox (j := 0) (vs := [.slice none 0 0, .int .i64 0]) ([.slice none 0 0, .int .i64 0]) HS rfl rfl rfl rfl rfl (htA ag30) rfl rfl rfl fun wd58 HS => GO.assign rfl rfl rfl (GO.nil ?_)))))
     replace HS := HS.nilRow T_GCrossing 61 (fun _ => ())
     obtain ⟨rfl, rfl, rfl⟩ := some3 H
     exact G.ret2 _ _ func34 rfl (Res1.boxA (j := 1) (vs := [.slice none 0 0, .int .i64 0]) HS rfl rfl rfl ag30) rfl ⟨_, _, rfl, (HS.pk 3 [0] rfl)⟩
    refine G.yesB rfl (congrArg Bool.not (bnot_of c28)) (G.seq (G.region (GO.buildV (.agg [.slice none 0 0, .int .i64 0].toArray) rfl rfl (fun _ => by kernel_rfl) rfl (GO.stBox (j := 0) (vs := [.slice none 0 0, .int .i64 0]) ([.slice none 0 0, .int .i64 0]) HS rfl rfl rfl rfl rfl (htA ag30) rfl rfl rfl fun wd59 HS => GO.assign rfl rfl rfl (GO.nil ?_)))))
    replace HS := HS.nilRow T_GCrossing 61 (fun _ => ())
    obtain ⟨rfl, rfl, rfl⟩ := some3 H
    exact G.ret2 _ _ func34 rfl (Res1.boxA (j := 1) (vs := [.slice none 0 0, .int .i64 0]) HS rfl rfl rfl ag30) rfl ⟨_, _, rfl, (HS.pk 3 [0] rfl)⟩
   refine G.region (GO.ps 2 rfl (GO.fn rfl func27 fok27.1 fok27.2 rfl rfl (spec_l01In.calls HS  h20) (fun _ wd21 ⟨h22, HS⟩ => ⟨_, h22, (GO.ps 2 rfl (GO.known (t := 22) rfl (congrArg Bool.not (bnot_of c23)) (GO.off rfl rfl rfl rfl rfl rfl (GO.off rfl rfl rfl rfl rfl rfl (GO.off rfl rfl rfl rfl rfl rfl (GO.off rfl rfl rfl rfl rfl rfl (GO.pickT rfl rfl rfl rfl rfl (GO.nil (G.run 2 rfl (G.region (GO.buildV (.agg [.slice none 0 0, .int .i64 0].toArray) rfl rfl (fun _ => by kernel_rfl) rfl (GO.stBox (j := 0) (vs := [.slice none 0 0, .int .i64 0]) ([.slice none 0 0, .int .i64 0]) HS rfl rfl rfl rfl rfl (htA ag30) rfl rfl rfl fun wd60 HS => ?_))))))))))))⟩)))
   refine GO.assign rfl rfl rfl (GO.nil ?_)
   replace HS := HS.nilRow T_GCrossing 61 (fun _ => ())
   obtain ⟨rfl, rfl, rfl⟩ := some3 H
   exact G.ret2 _ _ func34 rfl (Res1.boxA (j := 1) (vs := [.slice none 0 0, .int .i64 0]) HS rfl rfl rfl ag30) rfl ⟨_, _, rfl, (HS.pk 3 [0] rfl)⟩
  refine G.yesB rfl (congrArg Bool.not (bnot_of c9)) (G.seq (G.region (GO.buildV (.agg [.slice none 0 0, .int .i64 0].toArray) rfl rfl (fun _ => by kernel_rfl) rfl (GO.stBox (j := 0) (vs := [.slice none 0 0, .int .i64 0]) ([.slice none 0 0, .int .i64 0]) HS rfl rfl rfl rfl rfl (htA ag30) rfl rfl rfl fun wd61 HS => GO.assign rfl rfl rfl (GO.nil ?_)))))
  replace HS := HS.nilRow T_GCrossing 61 (fun _ => ())
  obtain ⟨rfl, rfl, rfl⟩ := some3 H
  exact G.ret2 _ _ func34 rfl (Res1.boxA (j := 1) (vs := [.slice none 0 0, .int .i64 0]) HS rfl rfl rfl ag30) rfl ⟨_, _, rfl, (HS.pk 3 [0] rfl)⟩
theorem spec_l27Triangle.calls {w0 w : World} {L : List HObj} {K : Nat} {r : List Int} {A_a : Option Addr} {c_a : Nat} {r1 : Bool} (HS : St w0 w (L)) (r_a : RdIn w0 L (TInt .i64) A_a c_a (fun _ => ()) r) (H : spec_l27Triangle.f K r = some r1) :
    Calls prog 55 #[.slice A_a r.length c_a] w (spec_l27Triangle.post w0 L r1) := by
  unfold spec_l27Triangle.f at H
  refine Calls.of_G func55 rfl rfl rfl ?_
  refine G.run 4 rfl ?_
  rcases ite_elim H with ⟨c7, H⟩ | ⟨c7, H⟩
  ·
   obtain ⟨c8, H⟩ := ite_none H
   obtain ⟨c9, H⟩ := ite_none H
   rcases ite_elim H with ⟨c10, H⟩ | ⟨c10, H⟩
   ·
    refine G.lex mixed [0, 1, 2, 3, 4, 5, 8, 9, 6, 7, 10, 11, 12, 13, 14, 15, 16, 19, 20, 17, 18, 21, 22, 23, 24, 25, 26, 27, 30, 31, 28, 29, 32, 33, 34, 35] (by kernel_rfl) ?_
    replace HS := HS.drew
    refine GX.ps 1 rfl (GX.l1 rfl rfl rfl (fun _ g => GO.lenS rfl rfl underlying74 rfl g) rfl (GX.ps 1 rfl (GX.l0 rfl rfl (fun _ _ g => GO.move rfl rfl rfl (GO.known (t := 7) rfl (congrArg Bool.not (decide_eq_true c7)) g)) rfl (GX.l0 rfl rfl (fun _ _ g => GO.on rfl rfl rfl rfl (GO.move rfl rfl rfl (GO.back g))) rfl (GX.l0 rfl rfl (fun _ _ g => GO.on rfl rfl rfl rfl (GO.ix rfl rfl rfl underlying74 sz2 (r_a _ HS).2.2.1 c8.1 c8.2 rfl (GO.back g))) rfl (GX.l0 rfl rfl (fun _ _ g => GO.on rfl rfl rfl rfl (GO.move rfl rfl rfl (GO.back g))) rfl (GX.l0 rfl rfl (fun _ _ g => GO.on rfl rfl rfl rfl (GO.ix rfl rfl rfl underlying74 sz2 (r_a _ HS).2.2.1 c9.1 c9.2 rfl (GO.back g))) rfl (GX.l1 rfl rfl rfl (fun _ g => GO.on rfl rfl rfl rfl (GO.ldRd (T := (TInt .i64)) (n := 0) (o := 0) HS r_a rfl rfl (getD_some (d := 0) (ltN c8)) rfl rfl na2 rfl (GO.back g))) rfl (GX.l0 rfl rfl (fun _ _ g => GO.on rfl rfl rfl rfl (GO.quo rfl rfl rfl (by decide) rfl (GO.back g))) rfl (GX.l1 rfl rfl rfl (fun _ g => GO.on rfl rfl rfl rfl (GO.ldRd (T := (TInt .i64)) (n := 1) (o := 0) HS r_a rfl rfl (getD_some (d := 0) (ltN c9)) rfl rfl na2 rfl (GO.back g))) rfl (GX.l0 rfl rfl (fun _ _ g => GO.on rfl rfl rfl rfl (GO.quo rfl rfl rfl (by decide) rfl (GO.back g))) rfl (GX.l0 rfl rfl (fun _ _ g => GO.on rfl rfl rfl rfl (GO.eql rfl rfl rfl rfl (GO.back g))) rfl (GX.ps 1 rfl (GX.l0 rfl rfl (fun _ _ g => GO.move rfl rfl rfl (GO.known (t := 18) rfl (decide_eq_true c10) g)) rfl ?_))))))))))))))
    refine GX.l0 rfl rfl (fun _ _ g => GO.off rfl rfl rfl rfl rfl rfl g) rfl (GX.l0 rfl rfl (fun _ _ g => GO.off rfl rfl rfl rfl rfl rfl g) rfl (GX.l0 rfl rfl (fun _ _ g => GO.off rfl rfl rfl rfl rfl rfl g) rfl (GX.l0 rfl rfl (fun _ _ g => GO.off rfl rfl rfl rfl rfl rfl g) rfl (GX.l1 rfl rfl rfl (fun _ g => GO.off rfl rfl rfl rfl rfl rfl g) rfl (GX.l0 rfl rfl (fun _ _ g => GO.off rfl rfl rfl rfl rfl rfl g) rfl (GX.l1 rfl rfl rfl (fun _ g => GO.off rfl rfl rfl rfl rfl rfl g) rfl (GX.l0 rfl rfl (fun _ _ g => GO.off rfl rfl rfl rfl rfl rfl g) rfl (GX.l0 rfl rfl (fun _ _ g => GO.off rfl rfl rfl rfl rfl rfl g) rfl (GX.ps 2 rfl (GX.l0 rfl rfl (fun _ _ g => GO.off rfl rfl rfl rfl rfl rfl g) rfl (GX.l0 rfl rfl (fun _ _ g => GO.off rfl rfl rfl rfl rfl rfl g) rfl (GX.l0 rfl rfl (fun _ _ g => GO.off rfl rfl rfl rfl rfl rfl g) rfl (GX.l0 rfl rfl (fun _ _ g => GO.off rfl rfl rfl rfl rfl rfl g) rfl (GX.l1 rfl rfl rfl (fun _ g => GO.off rfl rfl rfl rfl rfl rfl g) rfl ?_))))))))))))))
    refine GX.l0 rfl rfl (fun _ _ g => GO.off rfl rfl rfl rfl rfl rfl g) rfl (GX.l1 rfl rfl rfl (fun _ g => GO.off rfl rfl rfl rfl rfl rfl g) rfl (GX.l0 rfl rfl (fun _ _ g => GO.off rfl rfl rfl rfl rfl rfl g) rfl (GX.l0 rfl rfl (fun _ _ g => GO.off rfl rfl rfl rfl rfl rfl g) rfl (GX.ps 1 rfl (GX.nil (G.run 3 rfl ?_))))))
    obtain rfl := Option.some.inj H
    exact G.ret1 _ func55 rfl rfl ⟨rfl, HS⟩
   obtain ⟨c11, H⟩ := ite_none H
   rcases ite_elim H with ⟨c12, H⟩ | ⟨c12, H⟩
   ·
    refine G.lex mixed [0, 1, 2, 3, 4, 5, 8, 9, 6, 7, 10, 11, 12, 13, 14, 15, 16, 19, 20, 17, 18, 21, 22, 23, 24, 25, 26, 27, 30, 31, 28, 29, 32, 33, 34, 35] (by kernel_rfl) ?_
    replace HS := HS.drew
    refine GX.ps 1 rfl (GX.l1 rfl rfl rfl (fun _ g => GO.lenS rfl rfl underlying74 rfl g) rfl (GX.ps 1 rfl (GX.l0 rfl rfl (fun _ _ g => GO.move rfl rfl rfl (GO.known (t := 7) rfl (congrArg Bool.not (decide_eq_true c7)) g)) rfl (GX.l0 rfl rfl (fun _ _ g => GO.on rfl rfl rfl rfl (GO.move rfl rfl rfl (GO.back g))) rfl (GX.l0 rfl rfl (fun _ _ g => GO.on rfl rfl rfl rfl (GO.ix rfl rfl rfl underlying74 sz2 (r_a _ HS).2.2.1 c8.1 c8.2 rfl (GO.back g))) rfl (GX.l0 rfl rfl (fun _ _ g => GO.on rfl rfl rfl rfl (GO.move rfl rfl rfl (GO.back g))) rfl (GX.l0 rfl rfl (fun _ _ g => GO.on rfl rfl rfl rfl (GO.ix rfl rfl rfl underlying74 sz2 (r_a _ HS).2.2.1 c9.1 c9.2 rfl (GO.back g))) rfl (GX.l1 rfl rfl rfl (fun _ g => GO.on rfl rfl rfl rfl (GO.ldRd (T := (TInt .i64)) (n := 0) (o := 0) HS r_a rfl rfl (getD_some (d := 0) (ltN c8)) rfl rfl na2 rfl (GO.back g))) rfl (GX.l0 rfl rfl (fun _ _ g => GO.on rfl rfl rfl rfl (GO.quo rfl rfl rfl (by decide) rfl (GO.back g))) rfl (GX.l1 rfl rfl rfl (fun _ g => GO.on rfl rfl rfl rfl (GO.ldRd (T := (TInt .i64)) (n := 1) (o := 0) HS r_a rfl rfl (getD_some (d := 0) (ltN c9)) rfl rfl na2 rfl (GO.back g))) rfl (GX.l0 rfl rfl (fun _ _ g => GO.on rfl rfl rfl rfl (GO.quo rfl rfl rfl (by decide) rfl (GO.back g))) rfl (GX.l0 rfl rfl (fun _ _ g => GO.on rfl rfl rfl rfl (GO.eql rfl rfl rfl rfl (GO.back g))) rfl (GX.ps 1 rfl (GX.l0 rfl rfl (fun _ _ g => GO.move rfl rfl rfl (GO.known (t := 18) rfl (decide_eq_false c10) g)) rfl ?_))))))))))))))
    refine GX.l0 rfl rfl (fun _ _ g => GO.on rfl rfl rfl rfl (GO.move rfl rfl rfl (GO.back g))) rfl (GX.l0 rfl rfl (fun _ _ g => GO.on rfl rfl rfl rfl (GO.ix rfl rfl rfl underlying74 sz2 (r_a _ HS).2.2.1 c8.1 c8.2 rfl (GO.back g))) rfl (GX.l0 rfl rfl (fun _ _ g => GO.on rfl rfl rfl rfl (GO.move rfl rfl rfl (GO.back g))) rfl (GX.l0 rfl rfl (fun _ _ g => GO.on rfl rfl rfl rfl (GO.ix rfl rfl rfl underlying74 sz2 (r_a _ HS).2.2.1 c11.1 c11.2 rfl (GO.back g))) rfl (GX.l1 rfl rfl rfl (fun _ g => GO.on rfl rfl rfl rfl (GO.ldRd (T := (TInt .i64)) (n := 0) (o := 0) HS r_a rfl rfl (getD_some (d := 0) (ltN c8)) rfl rfl na2 rfl (GO.back g))) rfl (GX.l0 rfl rfl (fun _ _ g => GO.on rfl rfl rfl rfl (GO.quo rfl rfl rfl (by decide) rfl (GO.back g))) rfl (GX.l1 rfl rfl rfl (fun _ g => GO.on rfl rfl rfl rfl (GO.ldRd (T := (TInt .i64)) (n := 2) (o := 0) HS r_a rfl rfl (getD_some (d := 0) (ltN c11)) rfl rfl na2 rfl (GO.back g))) rfl (GX.l0 rfl rfl (fun _ _ g => GO.on rfl rfl rfl rfl (GO.quo rfl rfl rfl (by decide) rfl (GO.back g))) rfl (GX.l0 rfl rfl (fun _ _ g => GO.on rfl rfl rfl rfl (GO.eql rfl rfl rfl rfl (GO.back g))) rfl (GX.ps 1 rfl (GX.l0 rfl rfl (fun _ _ g => GO.move rfl rfl rfl (GO.known (t := 29) rfl (decide_eq_true c12) g)) rfl (GX.l0 rfl rfl (fun _ _ g => GO.off rfl rfl rfl rfl rfl rfl g) rfl (GX.l0 rfl rfl (fun _ _ g => GO.off rfl rfl rfl rfl rfl rfl g) rfl (GX.l0 rfl rfl (fun _ _ g => GO.off rfl rfl rfl rfl rfl rfl g) rfl (GX.l0 rfl rfl (fun _ _ g => GO.off rfl rfl rfl rfl rfl rfl g) rfl ?_))))))))))))))
    refine GX.l1 rfl rfl rfl (fun _ g => GO.off rfl rfl rfl rfl rfl rfl g) rfl (GX.l0 rfl rfl (fun _ _ g => GO.off rfl rfl rfl rfl rfl rfl g) rfl (GX.l1 rfl rfl rfl (fun _ g => GO.off rfl rfl rfl rfl rfl rfl g) rfl (GX.l0 rfl rfl (fun _ _ g => GO.off rfl rfl rfl rfl rfl rfl g) rfl (GX.l0 rfl rfl (fun _ _ g => GO.off rfl rfl rfl rfl rfl rfl g) rfl (GX.ps 1 rfl (GX.nil (G.run 3 rfl ?_)))))))
    obtain rfl := Option.some.inj H
    exact G.ret1 _ func55 rfl rfl ⟨rfl, HS⟩
   refine G.lex mixed [0, 1, 2, 3, 4, 5, 8, 9, 6, 7, 10, 11, 12, 13, 14, 15, 16, 19, 20, 17, 18, 21, 22, 23, 24, 25, 26, 27, 30, 31, 28, 29, 32, 33, 34, 35] (by kernel_rfl) ?_
   replace HS := HS.drew
   refine GX.ps 1 rfl (GX.l1 rfl rfl rfl (fun _ g => GO.lenS rfl rfl underlying74 rfl g) rfl (GX.ps 1 rfl (GX.l0 rfl rfl (fun _ _ g => GO.move rfl rfl rfl (GO.known (t := 7) rfl (congrArg Bool.not (decide_eq_true c7)) g)) rfl (GX.l0 rfl rfl (fun _ _ g => GO.on rfl rfl rfl rfl (GO.move rfl rfl rfl (GO.back g))) rfl (GX.l0 rfl rfl (fun _ _ g => GO.on rfl rfl rfl rfl (GO.ix rfl rfl rfl underlying74 sz2 (r_a _ HS).2.2.1 c8.1 c8.2 rfl (GO.back g))) rfl (GX.l0 rfl rfl (fun _ _ g => GO.on rfl rfl rfl rfl (GO.move rfl rfl rfl (GO.back g))) rfl (GX.l0 rfl rfl (fun _ _ g => GO.on rfl rfl rfl rfl (GO.ix rfl rfl rfl underlying74 sz2 (r_a _ HS).2.2.1 c9.1 c9.2 rfl (GO.back g))) rfl (GX.l1 rfl rfl rfl (fun _ g => GO.on rfl rfl rfl rfl (GO.ldRd (T := (TInt .i64)) (n := 0) (o := 0) HS r_a rfl rfl (getD_some (d := 0) (ltN c8)) rfl rfl na2 rfl (GO.back g))) rfl (GX.l0 rfl rfl (fun _ _ g => GO.on rfl rfl rfl rfl (GO.quo rfl rfl rfl (by decide) rfl (GO.back g))) rfl (GX.l1 rfl rfl rfl (fun _ g => GO.on rfl rfl rfl rfl (GO.ldRd (T := (TInt .i64)) (n := 1) (o := 0) HS r_a rfl rfl (getD_some (d := 0) (ltN c9)) rfl rfl na2 rfl (GO.back g))) rfl (GX.l0 rfl rfl (fun _ _ g => GO.on rfl rfl rfl rfl (GO.quo rfl rfl rfl (by decide) rfl (GO.back g))) rfl (GX.l0 rfl rfl (fun _ _ g => GO.on rfl rfl rfl rfl (GO.eql rfl rfl rfl rfl (GO.back g))) rfl (GX.ps 1 rfl (GX.l0 rfl rfl (fun _ _ g => GO.move rfl rfl rfl (GO.known (t := 18) rfl (decide_eq_false c10) g)) rfl ?_))))))))))))))
   refine GX.l0 rfl rfl (fun _ _ g => GO.on rfl rfl rfl rfl (GO.move rfl rfl rfl (GO.back g))) rfl (GX.l0 rfl rfl (fun _ _ g => GO.on rfl rfl rfl rfl (GO.ix rfl rfl rfl underlying74 sz2 (r_a _ HS).2.2.1 c8.1 c8.2 rfl (GO.back g))) rfl (GX.l0 rfl rfl (fun _ _ g => GO.on rfl rfl rfl rfl (GO.move rfl rfl rfl (GO.back g))) rfl (GX.l0 rfl rfl (fun _ _ g => GO.on rfl rfl rfl rfl (GO.ix rfl rfl rfl underlying74 sz2 (r_a _ HS).2.2.1 c11.1 c11.2 rfl (GO.back g))) rfl (GX.l1 rfl rfl rfl (fun _ g => GO.on rfl rfl rfl rfl (GO.ldRd (T := (TInt .i64)) (n := 0) (o := 0) HS r_a rfl rfl (getD_some (d := 0) (ltN c8)) rfl rfl na2 rfl (GO.back g))) rfl (GX.l0 rfl rfl (fun _ _ g => GO.on rfl rfl rfl rfl (GO.quo rfl rfl rfl (by decide) rfl (GO.back g))) rfl (GX.l1 rfl rfl rfl (fun _ g => GO.on rfl rfl rfl rfl (GO.ldRd (T := (TInt .i64)) (n := 2) (o := 0) HS r_a rfl rfl (getD_some (d := 0) (ltN c11)) rfl rfl na2 rfl (GO.back g))) rfl (GX.l0 rfl rfl (fun _ _ g => GO.on rfl rfl rfl rfl (GO.quo rfl rfl rfl (by decide) rfl (GO.back g))) rfl (GX.l0 rfl rfl (fun _ _ g => GO.on rfl rfl rfl rfl (GO.eql rfl rfl rfl rfl (GO.back g))) rfl (GX.ps 1 rfl (GX.l0 rfl rfl (fun _ _ g => GO.move rfl rfl rfl (GO.known (t := 29) rfl (decide_eq_false c12) g)) rfl (GX.l0 rfl rfl (fun _ _ g => GO.on rfl rfl rfl rfl (GO.move rfl rfl rfl (GO.back g))) rfl (GX.l0 rfl rfl (fun _ _ g => GO.on rfl rfl rfl rfl (GO.ix rfl rfl rfl underlying74 sz2 (r_a _ HS).2.2.1 c9.1 c9.2 rfl (GO.back g))) rfl (GX.l0 rfl rfl (fun _ _ g => GO.on rfl rfl rfl rfl (GO.move rfl rfl rfl (GO.back g))) rfl (GX.l0 rfl rfl (fun _ _ g => GO.on rfl rfl rfl rfl (GO.ix rfl rfl rfl underlying74 sz2 (r_a _ HS).2.2.1 c11.1 c11.2 rfl (GO.back g))) rfl ?_))))))))))))))
   refine GX.l1 rfl rfl rfl (fun _ g => GO.on rfl rfl rfl rfl (GO.ldRd (T := (TInt .i64)) (n := 1) (o := 0) HS r_a rfl rfl (getD_some (d := 0) (ltN c9)) rfl rfl na2 rfl (GO.back g))) rfl (GX.l0 rfl rfl (fun _ _ g => GO.on rfl rfl rfl rfl (GO.quo rfl rfl rfl (by decide) rfl (GO.back g))) rfl (GX.l1 rfl rfl rfl (fun _ g => GO.on rfl rfl rfl rfl (GO.ldRd (T := (TInt .i64)) (n := 2) (o := 0) HS r_a rfl rfl (getD_some (d := 0) (ltN c11)) rfl rfl na2 rfl (GO.back g))) rfl (GX.l0 rfl rfl (fun _ _ g => GO.on rfl rfl rfl rfl (GO.quo rfl rfl rfl (by decide) rfl (GO.back g))) rfl (GX.l0 rfl rfl (fun _ _ g => GO.on rfl rfl rfl rfl (GO.eql rfl rfl rfl rfl (GO.back g))) rfl (GX.ps 1 rfl (GX.nil ?_))))))
   rcases ite_elim H with ⟨c13, H⟩ | ⟨c13, H⟩
   ·
    refine G.yesB rfl (decide_eq_true c13) (G.run 2 rfl ?_)
    obtain rfl := Option.some.inj H
    exact G.ret1 _ func55 rfl rfl ⟨rfl, HS⟩
   refine G.noB rfl (decide_eq_false c13) (G.run 2 rfl ?_)
   obtain ⟨t14, h15, H⟩ := Option.bind_eq_some_iff.1 H
   refine G.region (GO.move rfl rfl rfl (GO.fn rfl func86 fok86.1 fok86.2 rfl rfl (spec_l27Edges.calls HS r_a h15) (fun _ wd19 ⟨A16, c17, y18, h20, HS⟩ => ⟨_, h20, (GO.assign rfl rfl rfl (GO.nil (G.seq ?_)))⟩)))
   obtain ⟨t21, h22, H⟩ := Option.bind_eq_some_iff.1 H
   rcases ite_elim H with ⟨c25, H⟩ | ⟨c25, H⟩
   ·
    obtain ⟨t26, h27, H⟩ := Option.bind_eq_some_iff.1 H
    refine G.region (GO.move rfl rfl rfl (GO.fn rfl func87 fok87.1 fok87.2 rfl rfl (spec_l27Pure.calls HS (RdIn.own (j := 0) rfl) h22) (fun _ wd23 ⟨h24, HS⟩ => ⟨_, h24, (GO.move rfl rfl rfl (GO.known (t := 44) rfl c25 (GO.on rfl rfl rfl rfl (GO.move rfl rfl rfl (GO.back (GO.on rfl rfl rfl rfl (GO.fn rfl func87 fok87.1 fok87.2 rfl rfl (spec_l27Pure.calls HS (RdIn.own (j := 0) rfl) h27) (fun _ wd28 ⟨h29, HS⟩ => ⟨_, h29, (GO.back (GO.ps 2 rfl (GO.nil ?_)))⟩))))))))⟩)))
    obtain rfl := Option.some.inj H
    exact G.ret1 _ func55 rfl rfl ⟨rfl, (HS.pk 1 [] rfl)⟩
   refine G.region (GO.move rfl rfl rfl (GO.fn rfl func87 fok87.1 fok87.2 rfl rfl (spec_l27Pure.calls HS (RdIn.own (j := 0) rfl) h22) (fun _ wd23 ⟨h24, HS⟩ => ⟨_, h24, (GO.move rfl rfl rfl (GO.known (t := 44) rfl (bnot_of c25) (GO.off rfl rfl rfl rfl rfl rfl (GO.off rfl rfl rfl rfl rfl rfl (GO.ps 2 rfl (GO.nil ?_))))))⟩)))
   obtain rfl := Option.some.inj H
   exact G.ret1 _ func55 rfl rfl ⟨rfl, (HS.pk 1 [] rfl)⟩
  refine G.lex mixed [0, 1, 2, 3, 4, 5, 8, 9, 6, 7, 10, 11, 12, 13, 14, 15, 16, 19, 20, 17, 18, 21, 22, 23, 24, 25, 26, 27, 30, 31, 28, 29, 32, 33, 34, 35] (by kernel_rfl) ?_
  replace HS := HS.drew
  refine GX.ps 1 rfl (GX.l1 rfl rfl rfl (fun _ g => GO.lenS rfl rfl underlying74 rfl g) rfl (GX.ps 1 rfl (GX.l0 rfl rfl (fun _ _ g => GO.move rfl rfl rfl (GO.known (t := 7) rfl (congrArg Bool.not (decide_eq_false c7)) g)) rfl (GX.l0 rfl rfl (fun _ _ g => GO.off rfl rfl rfl rfl rfl rfl g) rfl (GX.l0 rfl rfl (fun _ _ g => GO.off rfl rfl rfl rfl rfl rfl g) rfl (GX.l0 rfl rfl (fun _ _ g => GO.off rfl rfl rfl rfl rfl rfl g) rfl (GX.l0 rfl rfl (fun _ _ g => GO.off rfl rfl rfl rfl rfl rfl g) rfl (GX.l1 rfl rfl rfl (fun _ g => GO.off rfl rfl rfl rfl rfl rfl g) rfl (GX.l0 rfl rfl (fun _ _ g => GO.off rfl rfl rfl rfl rfl rfl g) rfl (GX.l1 rfl rfl rfl (fun _ g => GO.off rfl rfl rfl rfl rfl rfl g) rfl (GX.l0 rfl rfl (fun _ _ g => GO.off rfl rfl rfl rfl rfl rfl g) rfl (GX.l0 rfl rfl (fun _ _ g => GO.off rfl rfl rfl rfl rfl rfl g) rfl (GX.ps 2 rfl (GX.l0 rfl rfl (fun _ _ g => GO.off rfl rfl rfl rfl rfl rfl g) rfl ?_))))))))))))))
  refine GX.l0 rfl rfl (fun _ _ g => GO.off rfl rfl rfl rfl rfl rfl g) rfl (GX.l0 rfl rfl (fun _ _ g => GO.off rfl rfl rfl rfl rfl rfl g) rfl (GX.l0 rfl rfl (fun _ _ g => GO.off rfl rfl rfl rfl rfl rfl g) rfl (GX.l1 rfl rfl rfl (fun _ g => GO.off rfl rfl rfl rfl rfl rfl g) rfl (GX.l0 rfl rfl (fun _ _ g => GO.off rfl rfl rfl rfl rfl rfl g) rfl (GX.l1 rfl rfl rfl (fun _ g => GO.off rfl rfl rfl rfl rfl rfl g) rfl (GX.l0 rfl rfl (fun _ _ g => GO.off rfl rfl rfl rfl rfl rfl g) rfl (GX.l0 rfl rfl (fun _ _ g => GO.off rfl rfl rfl rfl rfl rfl g) rfl (GX.ps 2 rfl (GX.l0 rfl rfl (fun _ _ g => GO.off rfl rfl rfl rfl rfl rfl g) rfl (GX.l0 rfl rfl (fun _ _ g => GO.off rfl rfl rfl rfl rfl rfl g) rfl (GX.l0 rfl rfl (fun _ _ g => GO.off rfl rfl rfl rfl rfl rfl g) rfl (GX.l0 rfl rfl (fun _ _ g => GO.off rfl rfl rfl rfl rfl rfl g) rfl (GX.l1 rfl rfl rfl (fun _ g => GO.off rfl rfl rfl rfl rfl rfl g) rfl (GX.l0 rfl rfl (fun _ _ g => GO.off rfl rfl rfl rfl rfl rfl g) rfl ?_))))))))))))))
  refine GX.l1 rfl rfl rfl (fun _ g => GO.off rfl rfl rfl rfl rfl rfl g) rfl (GX.l0 rfl rfl (fun _ _ g => GO.off rfl rfl rfl rfl rfl rfl g) rfl (GX.l0 rfl rfl (fun _ _ g => GO.off rfl rfl rfl rfl rfl rfl g) rfl (GX.ps 1 rfl (GX.nil (G.run 3 rfl ?_)))))
  obtain rfl := Option.some.inj H
  exact G.ret1 _ func55 rfl rfl ⟨rfl, HS⟩
theorem spec_l27Slide.calls {w0 w : World} {L : List HObj} {K : Nat} {d_Crossings : List GCrossing} {d_Circles : Int} {list : List GCrossing} {e_ : Int} {A_a : Option Addr} {c_a : Nat} {A_b : Option Addr} {c_b : Nat} {r1 : List GCrossing} (HS : St w0 w (Own T_GCrossing 61 A_b c_b (fun _ => ()) list :: L)) (r_a : RdIn w0 L T_GCrossing A_a c_a (fun _ => ()) d_Crossings) (H : spec_l27Slide.f K d_Crossings d_Circles list e_ = some r1) :
    Calls prog 56 #[.agg [.slice A_a d_Crossings.length c_a, .int .i64 d_Circles].toArray, .slice A_b list.length c_b, .int .i64 e_] w (spec_l27Slide.post w0 L A_b c_b r1) := by
  unfold spec_l27Slide.f at H
  refine Calls.of_G func56 rfl rfl rfl ?_
  refine G.seq (G.region (GO.box (cs := [.slice A_a d_Crossings.length c_a, .int .i64 d_Circles]) HS rfl rfl rfl rfl fun b1 wd2 HS => GO.nil (G.seq ?_)))
  obtain ⟨t3, t4, h5, H⟩ := bind2_elim H
  refine G.region (GO.ldBoxA (j := 0) ([.slice A_a d_Crossings.length c_a, .int .i64 d_Circles]) HS rfl rfl rfl rfl ag30 rfl (GO.move rfl rfl rfl (GO.fn rfl func49 fok49.1 fok49.2 rfl rfl (spec_l25Place.calls HS (RdIn.drop 2 r_a) h5) (fun _ wd6 ⟨h7, HS⟩ => ⟨_, h7, (GO.ps 5 rfl (GO.nil (G.seq ?_)))⟩))))
  obtain ⟨t8, t9, h10, H⟩ := bind2_elim H
  refine G.region (GO.ldBoxA (j := 0) ([.slice A_a d_Crossings.length c_a, .int .i64 d_Circles]) HS rfl rfl rfl rfl ag30 rfl (GO.move rfl rfl rfl (GO.fn rfl func49 fok49.1 fok49.2 rfl rfl (spec_l25Place.calls HS (RdIn.drop 2 r_a) h10) (fun _ wd11 ⟨h12, HS⟩ => ⟨_, h12, (GO.ps 5 rfl (GO.nil (G.seq ?_)))⟩))))
  obtain ⟨c13, H⟩ := ite_none H
  obtain ⟨e14, h15, H⟩ := bnd_elim H
  obtain ⟨t16, h17, H⟩ := Option.bind_eq_some_iff.1 H
  obtain ⟨c20, H⟩ := ite_none H
  obtain ⟨e21, h22, H⟩ := bnd_elim H
  obtain ⟨t23, h24, H⟩ := Option.bind_eq_some_iff.1 H
  refine G.lexS mixed (fun w => St w0 w (Box b1 30 [.slice A_a d_Crossings.length c_a, .int .i64 d_Circles] :: L)) [1, 4, 10, 13] [0, 2, 5, 6, 7, 9, 11, 14, 15, 16, 1, 3, 4, 10, 12, 13, 8, 17, 18, 19] 20 (by kernel_rfl) (by kernel_rfl) (HS.drew.pk 2 [0] rfl) ?_
  replace HS := HS.drew
  refine GX.l0 rfl rfl (fun _ _ g => GO.fld (⟨b1, 0, none⟩) rfl rfl fl30_0 rfl rfl g) rfl (GX.ps 3 rfl (GX.l0 rfl rfl (fun _ _ g => GO.rem rfl rfl rfl (by decide) rfl g) rfl (GX.l0 rfl rfl (fun _ _ g => GO.fld (⟨b1, 0, none⟩) rfl rfl fl30_0 rfl rfl g) rfl (GX.ps 3 rfl (GX.l0 rfl rfl (fun _ _ g => GO.rem rfl rfl rfl (by decide) rfl g) rfl (GX.ls rfl rfl rfl (HS.pk 2 [0] rfl) (fun _ HS _ g => GO.ldBox (j := 0) HS rfl rfl rfl rfl na28 rfl g) rfl (GX.l0 rfl rfl (fun _ _ g => GO.ix rfl rfl rfl underlying28 sz61 ((RdIn.drop 2 r_a) _ HS).2.2.1 c13.1 c13.2 rfl g) rfl (GX.ls rfl rfl rfl (HS.pk 2 [0] rfl) (fun _ HS _ g => GO.ldRdA (T := T_GCrossing) (n := t3.toNat) HS (RdIn.drop 1 r_a) rfl rfl (getD_eq (ltN c13) h15) ag61 rfl g) rfl (GX.ls rfl rfl rfl (HS.pk 2 [0] rfl) (fun _ HS _ g => GO.ldBox (j := 0) HS rfl rfl rfl rfl na28 rfl g) rfl (GX.l0 rfl rfl (fun _ _ g => GO.ix rfl rfl rfl underlying28 sz61 ((RdIn.drop 2 r_a) _ HS).2.2.1 c20.1 c20.2 rfl g) rfl (GX.ls rfl rfl rfl (HS.pk 2 [0] rfl) (fun _ HS _ g => GO.ldRdA (T := T_GCrossing) (n := t8.toNat) HS (RdIn.drop 1 r_a) rfl rfl (getD_eq (ltN c20) h22) ag61 rfl g) rfl (GX.l2 rfl (GO.fn rfl func45 fok45.1 fok45.2 rfl rfl (spec_l25End.calls HS  h17) (fun _ wd18 ⟨h19, HS⟩ => ⟨_, h19, (GX.fin (HS.pk 2 [0] rfl) ?_)⟩))))))))))))))
  refine GX.l2 rfl (GO.fn rfl func45 fok45.1 fok45.2 rfl rfl (spec_l25End.calls HS  h24) (fun _ wd25 ⟨h26, HS⟩ => ⟨_, h26, (GX.fin (HS.pk 2 [0] rfl) (GX.ps 2 rfl (GX.nil (G.seq ?_))))⟩))
  obtain ⟨c27, H⟩ := ite_none H
  obtain ⟨e28, h29, H⟩ := bnd_elim H
  obtain ⟨t30, t31, t32, t33, t34, h35, H⟩ := bind5_elim H
  obtain ⟨t38, t39, t40, t41, t42, h43, H⟩ := bind5_elim H
  refine G.region (GO.ps 4 rfl (GO.ix rfl rfl rfl underlying28 sz61 ((RdIn.own (j := 1) rfl) _ HS).2.2.1 c27.1 c27.2 rfl (GO.ldRdA (T := T_GCrossing) (n := t8.toNat) HS (RdIn.own (j := 1) rfl) rfl rfl (getD_eq (ltN c27) h29) ag61 rfl (GO.ps 2 rfl (GO.fn rfl func50 fok50.1 fok50.2 rfl rfl (spec_l25With.calls HS  h35) (fun _ wd36 ⟨h37, HS⟩ => ⟨_, h37, (GO.ps 2 rfl (GO.rem rfl rfl rfl (by decide) rfl (GO.move rfl rfl rfl (GO.fn rfl func50 fok50.1 fok50.2 rfl rfl (spec_l25With.calls HS  h43) (fun _ wd44 ⟨h45, HS⟩ => ⟨_, h45, (GO.ix rfl rfl rfl underlying28 sz61 ((RdIn.own (j := 1) rfl) _ HS).2.2.1 c27.1 c27.2 rfl (GO.stRow (T := T_GCrossing) (j := 1) (n := t8.toNat) (o := 0) (vs := [.int .i64 t38, .int .i64 t39, .int .i64 t40, .int .i64 t41, .int .i64 t42]) (⟨t38, t39, t40, t41, t42⟩ : GCrossing) HS rfl flat_flat rfl rfl rfl rfl (htA ag61) rfl (getD_some (d := z_GCrossing) (ltN c27)) rfl rfl fun wd46 HS => GO.nil (G.len (t := 1) (m := (list.set t8.toNat (⟨t38, t39, t40, t41, t42⟩ : GCrossing)).length) rfl (by simp only [List.length_set] <;> rfl) ?_)))⟩)))))⟩))))))
  obtain ⟨c47, H⟩ := ite_none H
  obtain ⟨e48, h49, H⟩ := bnd_elim H
  obtain ⟨t50, t51, t52, t53, t54, h55, H⟩ := bind5_elim H
  obtain ⟨t58, t59, t60, t61, t62, h63, H⟩ := bind5_elim H
  refine G.region (GO.ps 4 rfl (GO.ix rfl rfl rfl underlying28 sz61 ((RdIn.own (j := 1) rfl) _ HS).2.2.1 c47.1 c47.2 rfl (GO.ldRdA (T := T_GCrossing) (n := t3.toNat) HS (RdIn.own (j := 1) rfl) rfl rfl (getD_eq (ltN c47) h49) ag61 rfl (GO.ps 2 rfl (GO.rem rfl rfl rfl (by decide) rfl (GO.move rfl rfl rfl (GO.fn rfl func50 fok50.1 fok50.2 rfl rfl (spec_l25With.calls HS  h55) (fun _ wd56 ⟨h57, HS⟩ => ⟨_, h57, (GO.ps 2 rfl (GO.fn rfl func50 fok50.1 fok50.2 rfl rfl (spec_l25With.calls HS  h63) (fun _ wd64 ⟨h65, HS⟩ => ⟨_, h65, (GO.ix rfl rfl rfl underlying28 sz61 ((RdIn.own (j := 1) rfl) _ HS).2.2.1 c47.1 c47.2 rfl (GO.stRow (T := T_GCrossing) (j := 1) (n := t3.toNat) (o := 0) (vs := [.int .i64 t58, .int .i64 t59, .int .i64 t60, .int .i64 t61, .int .i64 t62]) (⟨t58, t59, t60, t61, t62⟩ : GCrossing) HS rfl flat_flat rfl rfl rfl rfl (htA ag61) rfl (getD_some (d := z_GCrossing) (ltN c47)) rfl rfl fun wd66 HS => GO.nil ?_))⟩)))⟩))))))))
  obtain rfl := Option.some.inj H
  exact G.end0 func56 rfl ⟨rfl, (HS.pk 2 [1] rfl)⟩
theorem spec_SlideTriangle.calls {w0 w : World} {L : List HObj} {K : Nat} {d_Crossings : List GCrossing} {d_Circles corner : Int} {A_a : Option Addr} {c_a : Nat} {r1 : List GCrossing} {r2 r3 : Int} (HS : St w0 w (L)) (r_a : RdIn w0 L T_GCrossing A_a c_a (fun _ => ()) d_Crossings) (H : spec_SlideTriangle.f K d_Crossings d_Circles corner = some (r1, r2, r3)) :
    Calls prog 35 #[.agg [.slice A_a d_Crossings.length c_a, .int .i64 d_Circles].toArray, .int .i64 corner] w (spec_SlideTriangle.post w0 L r1 r2 r3) := by
  unfold spec_SlideTriangle.f at H
  refine Calls.of_G func35 rfl rfl rfl ?_
  refine G.seq (G.region (GO.box (cs := [.slice A_a d_Crossings.length c_a, .int .i64 d_Circles]) HS rfl rfl rfl rfl fun b1 wd2 HS => GO.alloc HS rfl zr30 rfl rfl fun b3 wd4 HS => GO.assign rfl rfl rfl (GO.nil (G.run 2 rfl ?_))))
  obtain ⟨t5, h6, H⟩ := Option.bind_eq_some_iff.1 H
  refine G.region (GO.ldBoxA (j := 1) ([.slice A_a d_Crossings.length c_a, .int .i64 d_Circles]) HS rfl rfl rfl rfl ag30 rfl (GO.fn rfl func16 fok16.1 fok16.2 rfl rfl (spec_IsDiagram.calls HS (RdIn.drop 2 r_a) h6) (fun _ wd7 ⟨h8, HS⟩ => ⟨_, h8, (GO.not rfl rfl rfl (GO.nil ?_))⟩)))
  rcases ite_elim H with ⟨c9, H⟩ | ⟨c9, H⟩
  ·
   refine G.noB rfl (congrArg Bool.not c9) (G.run 2 rfl ?_)
   obtain ⟨t10, h11, H⟩ := Option.bind_eq_some_iff.1 H
   refine G.region (GO.ldBoxA (j := 1) ([.slice A_a d_Crossings.length c_a, .int .i64 d_Circles]) HS rfl rfl rfl rfl ag30 rfl (GO.fn rfl func29 fok29.1 fok29.2 rfl rfl (spec_l25Regions.calls HS (RdIn.drop 2 r_a) h11) (fun _ wd15 ⟨A12, c13, y14, h16, HS⟩ => ⟨_, h16, (GO.assign rfl rfl rfl (GO.nil (G.run 5 rfl ?_)))⟩)))
   refine G.name (fun k_l1 hk_l1 => ?_)
   have at_l1 : ∀ m_l1, m_l1 ≤ K → ∀ (i_74 : Int) (w : World), spec_SlideTriangle.l1 K m_l1 d_Crossings d_Circles corner t10 i_74 = some (r1, r2, r3) → St w0 w (Box b1 30 [.slice A_a d_Crossings.length c_a, .int .i64 d_Circles] :: Box b3 30 [.slice none 0 0, .int .i64 0] :: Own (Ty.slice 2 (TInt .i64)) 74 A12 c13 y14 t10 :: L) → G prog 35 60 [(1, .int .i64 corner), (2, .pointer (some ⟨b1, 0, none⟩)), (4, .pointer (some ⟨b3, 0, none⟩)), (6, .slice A12 t10.length c13), (7, .int .i64 i_74)] k_l1 w (spec_SlideTriangle.post w0 L r1 r2 r3) := by
    intro m_l1
    induction m_l1 using Nat.strongRecOn with
    | _ m_l1 ih_l1 =>
     intro hm_l1 i_74 w H HS
     cases m_l1 with
     | zero => rw [spec_SlideTriangle.l1] at H; cases H
     | succ n_l1 =>
      rw [spec_SlideTriangle.l1] at H
      subst hk_l1
      refine G.run 2 rfl (G.region (GO.ps 2 rfl (GO.lenS rfl rfl underlying55 rfl (GO.lss rfl rfl rfl rfl (GO.nil ?_)))))
      rcases ite_elim H with ⟨c132, H⟩ | ⟨c132, H⟩
      ·
       refine G.yesB rfl (decide_eq_true c132) (G.run 4 rfl ?_)
       obtain ⟨c133, H⟩ := ite_none H
       refine G.region (GO.ps 2 rfl (GO.ix rfl rfl rfl underlying55 sz74 ((RdIn.own (j := 2) rfl) _ HS).2.2.1 c133.1 c133.2 rfl (GO.ldRd (T := (Ty.slice 2 (TInt .i64))) (n := i_74.toNat) (o := 0) HS (RdIn.own (j := 2) rfl) rfl rfl (getD_some (d := []) (ltN c133)) rfl rfl na74 rfl (GO.assign rfl rfl rfl (GO.nil (G.run 2 rfl ?_))))))
       obtain ⟨c140, H⟩ := ite_none H
       rcases ite_elim H with ⟨c141, H⟩ | ⟨c141, H⟩
       ·
        obtain ⟨t142, h143, H⟩ := Option.bind_eq_some_iff.1 H
        refine G.region (GO.move rfl rfl rfl (GO.ix rfl rfl rfl underlying74 sz2 ((RdIn.elem (RdIn.own (j := 2) rfl) c133.1 c133.2) _ HS).2.2.1 c140.1 c140.2 rfl (GO.ldRd (T := (TInt .i64)) (n := 0) (o := 0) HS (RdIn.elem (RdIn.own (j := 2) rfl) c133.1 c133.2) rfl rfl (getD_some (d := 0) (ltN c140)) rfl rfl na2 rfl (GO.ps 3 rfl (GO.known (t := 32) rfl (congrArg Bool.not (decide_eq_true c141)) (GO.on rfl rfl rfl rfl (GO.move rfl rfl rfl (GO.back (GO.on rfl rfl rfl rfl (GO.fn rfl func55 fok55.1 fok55.2 rfl rfl (spec_l27Triangle.calls HS (RdIn.elem (RdIn.own (j := 2) rfl) c133.1 c133.2) h143) (fun _ wd144 ⟨h145, HS⟩ => ⟨_, h145, (GO.back (GO.on rfl rfl rfl rfl (GO.not rfl rfl rfl (GO.back ?_))))⟩)))))))))))
        refine GO.pickF rfl rfl rfl rfl rfl (GO.nil ?_)
        rcases ite_elim H with ⟨c146, H⟩ | ⟨c146, H⟩
        ·
         refine G.noB rfl (congrArg Bool.not c146) (G.run 2 rfl ?_)
         obtain ⟨c152, H⟩ := ite_none H
         refine G.region (GO.buildS (el := 61) ([]) HS rfl rfl (fun _ => by kernel_rfl) rfl fun b147 wd148 HS => GO.fld (⟨b1, 0, none⟩) rfl rfl fl30_0 rfl rfl (GO.ldBox (j := 1) HS rfl rfl rfl rfl na28 rfl ?_))
         replace HS := HS.boxRow (T := T_GCrossing) (j := 0) rfl flat_flat (fun _ => ()) ([] : List GCrossing) rfl (bndL rfl)
         refine GO.lenC (t := 37) (m := ([] : List GCrossing).length) (c' := ([] : List GCrossing).length) rfl rfl rfl (GO.appS (T := T_GCrossing) (j := 0) HS rfl (RdIn.drop 4 r_a) flat_flat rfl rfl rfl underlying28 inf61 rfl rfl rfl c152 rfl (fun _ => rfl) fun A150 c151 wd149 HS => GO.assign rfl rfl rfl (GO.nil (G.run 5 rfl ?_)))
         refine G.name (fun k_l4 hk_l4 => ?_)
         have at_l4 : ∀ m_l4, m_l4 ≤ n_l1 → ∀ (list_162 : List GCrossing) (k_163 : Int) (w : World), spec_SlideTriangle.l4 K m_l4 d_Crossings d_Circles t10 i_74 list_162 k_163 = some (r1, r2, r3) → St w0 w (Box b1 30 [.slice A_a d_Crossings.length c_a, .int .i64 d_Circles] :: Box b3 30 [.slice none 0 0, .int .i64 0] :: Own (Ty.slice 2 (TInt .i64)) 74 A12 c13 y14 t10 :: Own T_GCrossing 61 A150 c151 (fun _ => ()) list_162 :: L) → G prog 35 60 [(2, .pointer (some ⟨b1, 0, none⟩)), (4, .pointer (some ⟨b3, 0, none⟩)), (8, .slice ((y14 i_74.toNat).A) (t10.getD i_74.toNat []).length ((y14 i_74.toNat).c)), (9, .slice A150 list_162.length c151), (10, .int .i64 k_163)] k_l4 w (spec_SlideTriangle.post w0 L r1 r2 r3) := by
          intro m_l4
          induction m_l4 using Nat.strongRecOn with
          | _ m_l4 ih_l4 =>
           intro hm_l4 list_162 k_163 w H HS
           cases m_l4 with
           | zero => rw [spec_SlideTriangle.l4] at H; cases H
           | succ n_l4 =>
            rw [spec_SlideTriangle.l4] at H
            subst hk_l4
            refine G.run 3 rfl ?_
            rcases ite_elim H with ⟨c176, H⟩ | ⟨c176, H⟩
            ·
             refine G.yesB rfl (decide_eq_true c176) (G.run 3 rfl ?_)
             obtain ⟨c177, H⟩ := ite_none H
             obtain ⟨t178, h179, H⟩ := Option.bind_eq_some_iff.1 H
             obtain ⟨t182, h183, H⟩ := Option.bind_eq_some_iff.1 H
             obtain ⟨c184, H⟩ := ite_none H
             refine G.lexS mixed (fun w => St w0 w (Box b1 30 [.slice A_a d_Crossings.length c_a, .int .i64 d_Circles] :: Own (Ty.slice 2 (TInt .i64)) 74 A12 c13 y14 t10 :: L)) [0, 2, 6] [1, 3, 4, 5, 0, 2, 6, 7, 8, 9] 9 (by kernel_rfl) (by kernel_rfl) (HS.drew.pk 4 [0, 2] rfl) ?_
             replace HS := HS.drew
             refine GX.ps 3 rfl (GX.l0 rfl rfl (fun _ _ g => GO.ix rfl rfl rfl underlying74 sz2 ((RdIn.elem (RdIn.own (j := 2) rfl) c133.1 c133.2) _ HS).2.2.1 c177.1 c177.2 rfl g) rfl (GX.ls rfl rfl rfl (HS.pk 4 [0, 2] rfl) (fun _ HS _ g => GO.ldBoxA (j := 0) ([.slice A_a d_Crossings.length c_a, .int .i64 d_Circles]) HS rfl rfl rfl rfl ag30 rfl g) rfl (GX.ls rfl rfl rfl (HS.pk 4 [0, 2] rfl) (fun _ HS _ g => GO.ldBoxA (j := 0) ([.slice A_a d_Crossings.length c_a, .int .i64 d_Circles]) HS rfl rfl rfl rfl ag30 rfl g) rfl (GX.ls rfl rfl rfl (HS.pk 4 [0, 2] rfl) (fun _ HS _ g => GO.ldRd (T := (TInt .i64)) (n := k_163.toNat) (o := 0) HS (RdIn.elem (RdIn.own (j := 1) rfl) c133.1 c133.2) rfl rfl (getD_some (d := 0) (ltN c177)) rfl rfl na2 rfl g) rfl (GX.l2 rfl (GO.fn rfl func57 fok57.1 fok57.2 rfl rfl (spec_l27Side.calls HS (RdIn.drop 4 r_a) h179) (fun _ wd180 ⟨h181, HS⟩ => ⟨_, h181, (GX.fin (HS.pk 4 [0, 2] rfl) (GX.l0 rfl rfl (fun _ _ g => GO.quo rfl rfl rfl (by decide) rfl g) rfl (GX.l2 rfl ?_)))⟩)))))))
             replace HS := HS.pk 4 [3, 0, 1, 2] rfl
             refine GO.fn rfl func56 fok56.1 fok56.2 rfl rfl (spec_l27Slide.calls HS (RdIn.drop 3 r_a) h183) (fun _ wd185 ⟨h186, HS⟩ => ⟨_, h186, (GX.finZ (GX.nil (G.len (t := 9) (m := t182.length) rfl (by simp only [List.length_set, c184] <;> rfl) (G.run 3 rfl (G.weak ?_ (ih_l4 n_l4 (Nat.lt_succ_of_le (Nat.le_refl _)) (Nat.le_of_succ_le hm_l4) _ _ _ H (HS.pk 4 [1, 2, 3, 0] rfl)))))))⟩)
             exact ⟨rfl, rfl, rfl, rfl, rfl, trivial⟩
            refine G.noB rfl (decide_eq_false c176) (G.run 2 rfl (G.region (GO.move rfl rfl rfl (GO.fld (⟨b1, 1, none⟩) rfl rfl fl30_1 rfl rfl (GO.ldBox (j := 0) HS rfl rfl rfl rfl na2 rfl (GO.buildV (.agg [.slice A150 list_162.length c151, .int .i64 d_Circles].toArray) rfl rfl (fun _ => by kernel_rfl) rfl (GO.stBox (j := 1) (vs := [.slice A150 list_162.length c151, .int .i64 d_Circles]) ([.slice A150 list_162.length c151, .int .i64 d_Circles]) HS rfl rfl rfl rfl rfl (htA ag30) rfl rfl rfl fun wd187 HS => GO.assign rfl rfl rfl (GO.nil ?_))))))))
            obtain ⟨rfl, rfl, rfl⟩ := some3 H
            exact G.ret2 _ _ func35 rfl (Res1.boxA (j := 1) (vs := [.slice A150 list_162.length c151, .int .i64 d_Circles]) HS rfl rfl rfl ag30) rfl ⟨_, _, rfl, (HS.pk 4 [3] rfl)⟩
         refine G.weak ?_ (at_l4 n_l1 (Nat.le_refl _) _ _ _ H (HS.pk 4 [1, 2, 3, 0] rfl))
         exact ⟨rfl, rfl, rfl, rfl, rfl, trivial⟩
        refine G.yesB rfl (congrArg Bool.not (bnot_of c146)) (G.run 3 rfl (G.weak ?_ (ih_l1 n_l1 (Nat.lt_succ_of_le (Nat.le_refl _)) (Nat.le_of_succ_le hm_l1) _ _ H HS)))
        exact ⟨rfl, rfl, rfl, rfl, rfl, trivial⟩
       refine G.region (GO.move rfl rfl rfl (GO.ix rfl rfl rfl underlying74 sz2 ((RdIn.elem (RdIn.own (j := 2) rfl) c133.1 c133.2) _ HS).2.2.1 c140.1 c140.2 rfl (GO.ldRd (T := (TInt .i64)) (n := 0) (o := 0) HS (RdIn.elem (RdIn.own (j := 2) rfl) c133.1 c133.2) rfl rfl (getD_some (d := 0) (ltN c140)) rfl rfl na2 rfl (GO.ps 3 rfl (GO.known (t := 32) rfl (congrArg Bool.not (decide_eq_false c141)) (GO.off rfl rfl rfl rfl rfl rfl (GO.off rfl rfl rfl rfl rfl rfl (GO.off rfl rfl rfl rfl rfl rfl (GO.pickT rfl rfl rfl rfl rfl (GO.nil (G.run 4 rfl (G.weak ?_ (ih_l1 n_l1 (Nat.lt_succ_of_le (Nat.le_refl _)) (Nat.le_of_succ_le hm_l1) _ _ H HS)))))))))))))
       exact ⟨rfl, rfl, rfl, rfl, rfl, trivial⟩
      refine G.noB rfl (decide_eq_false c132) (G.run 2 rfl (G.region (GO.buildV (.agg [.slice none 0 0, .int .i64 0].toArray) rfl rfl (fun _ => by kernel_rfl) rfl (GO.stBox (j := 1) (vs := [.slice none 0 0, .int .i64 0]) ([.slice none 0 0, .int .i64 0]) HS rfl rfl rfl rfl rfl (htA ag30) rfl rfl rfl fun wd188 HS => GO.assign rfl rfl rfl (GO.nil ?_)))))
      replace HS := HS.nilRow T_GCrossing 61 (fun _ => ())
      obtain ⟨rfl, rfl, rfl⟩ := some3 H
      exact G.ret2 _ _ func35 rfl (Res1.boxA (j := 2) (vs := [.slice none 0 0, .int .i64 0]) HS rfl rfl rfl ag30) rfl ⟨_, _, rfl, (HS.pk 4 [0] rfl)⟩
   refine G.weak ?_ (at_l1 K (Nat.le_refl _) _ _ H (HS.pk 3 [2, 1, 0] rfl))
   exact ⟨rfl, rfl, rfl, rfl, rfl, trivial⟩
  refine G.yesB rfl (congrArg Bool.not (bnot_of c9)) (G.seq (G.region (GO.buildV (.agg [.slice none 0 0, .int .i64 0].toArray) rfl rfl (fun _ => by kernel_rfl) rfl (GO.stBox (j := 0) (vs := [.slice none 0 0, .int .i64 0]) ([.slice none 0 0, .int .i64 0]) HS rfl rfl rfl rfl rfl (htA ag30) rfl rfl rfl fun wd189 HS => GO.assign rfl rfl rfl (GO.nil ?_)))))
  replace HS := HS.nilRow T_GCrossing 61 (fun _ => ())
  obtain ⟨rfl, rfl, rfl⟩ := some3 H
  exact G.ret2 _ _ func35 rfl (Res1.boxA (j := 1) (vs := [.slice none 0 0, .int .i64 0]) HS rfl rfl rfl ag30) rfl ⟨_, _, rfl, (HS.pk 3 [0] rfl)⟩
theorem spec_l27Move.calls {w0 w : World} {L : List HObj} {K : Nat} {d_Crossings : List GCrossing} {d_Circles m_Kind : Int} {m_I m_J : Int} {A_a : Option Addr} {c_a : Nat} {r1 : List GCrossing} {r2 r3 : Int} (HS : St w0 w (L)) (r_a : RdIn w0 L T_GCrossing A_a c_a (fun _ => ()) d_Crossings) (H : spec_l27Move.f K d_Crossings d_Circles m_Kind m_I m_J = some (r1, r2, r3)) :
    Calls prog 17 #[.agg [.slice A_a d_Crossings.length c_a, .int .i64 d_Circles].toArray, .agg [.int .i64 m_Kind, .int .i64 m_I, .int .i64 m_J].toArray] w (spec_l27Move.post w0 L r1 r2 r3) := by
  unfold spec_l27Move.f at H
  refine Calls.of_G func17 rfl rfl rfl ?_
  refine G.seq (G.region (GO.box (cs := [.slice A_a d_Crossings.length c_a, .int .i64 d_Circles]) HS rfl rfl rfl rfl fun b1 wd2 HS => GO.box (cs := [.int .i64 m_Kind, .int .i64 m_I, .int .i64 m_J]) HS rfl rfl rfl rfl fun b3 wd4 HS => GO.alloc HS rfl zr30 rfl rfl fun b5 wd6 HS => GO.assign rfl rfl rfl (GO.nil (G.run 2 rfl (G.region (GO.fld (⟨b3, 0, none⟩) rfl rfl fl46_0 rfl rfl (GO.ldBox (j := 1) HS rfl rfl rfl rfl na2 rfl (GO.nil (G.run 3 rfl ?_)))))))))
  rcases ite_elim H with ⟨c7, H⟩ | ⟨c7, H⟩
  ·
   refine G.yesB rfl (decide_eq_true c7) (G.seq ?_)
   obtain ⟨t8, t9, t10, h11, H⟩ := bind3_elim H
   refine G.region (GO.ldBoxA (j := 2) ([.slice A_a d_Crossings.length c_a, .int .i64 d_Circles]) HS rfl rfl rfl rfl ag30 rfl (GO.fld (⟨b3, 1, none⟩) rfl rfl fl46_1 rfl rfl (GO.ldBox (j := 1) HS rfl rfl rfl rfl na2 rfl (GO.fld (⟨b3, 2, none⟩) rfl rfl fl46_2 rfl rfl (GO.ldBox (j := 1) HS rfl rfl rfl rfl na2 rfl (GO.fn rfl func31 fok31.1 fok31.2 rfl rfl (spec_AddKink.calls HS (RdIn.drop 3 r_a) h11) (fun _ wd14 ⟨A12, c13, h15, HS⟩ => ⟨_, h15, (GO.ps 2 rfl (GO.stBox (j := 1) (vs := [.slice A12 t8.length c13, .int .i64 t9]) ([.slice A12 t8.length c13, .int .i64 t9]) HS rfl rfl rfl rfl rfl (htA ag30) rfl rfl rfl fun wd16 HS => GO.assign rfl rfl rfl (GO.nil ?_)))⟩)))))))
   obtain ⟨rfl, rfl, rfl⟩ := some3 H
   exact G.ret2 _ _ func17 rfl (Res1.boxA (j := 1) (vs := [.slice A12 t8.length c13, .int .i64 t9]) HS rfl rfl rfl ag30) rfl ⟨_, _, rfl, (HS.pk 4 [0] rfl)⟩
  refine G.noB rfl (decide_eq_false c7) (G.run 2 rfl ?_)
  rcases ite_elim H with ⟨c17, H⟩ | ⟨c17, H⟩
  ·
   refine G.yesB rfl (decide_eq_true c17) (G.seq ?_)
   obtain ⟨t18, t19, t20, h21, H⟩ := bind3_elim H
   refine G.region (GO.ldBoxA (j := 2) ([.slice A_a d_Crossings.length c_a, .int .i64 d_Circles]) HS rfl rfl rfl rfl ag30 rfl (GO.fld (⟨b3, 1, none⟩) rfl rfl fl46_1 rfl rfl (GO.ldBox (j := 1) HS rfl rfl rfl rfl na2 rfl (GO.fn rfl func32 fok32.1 fok32.2 rfl rfl (spec_RemoveKink.calls HS (RdIn.drop 3 r_a) h21) (fun _ wd24 ⟨A22, c23, h25, HS⟩ => ⟨_, h25, (GO.ps 2 rfl (GO.stBox (j := 1) (vs := [.slice A22 t18.length c23, .int .i64 t19]) ([.slice A22 t18.length c23, .int .i64 t19]) HS rfl rfl rfl rfl rfl (htA ag30) rfl rfl rfl fun wd26 HS => GO.assign rfl rfl rfl (GO.nil ?_)))⟩)))))
   obtain ⟨rfl, rfl, rfl⟩ := some3 H
   exact G.ret2 _ _ func17 rfl (Res1.boxA (j := 1) (vs := [.slice A22 t18.length c23, .int .i64 t19]) HS rfl rfl rfl ag30) rfl ⟨_, _, rfl, (HS.pk 4 [0] rfl)⟩
  refine G.noB rfl (decide_eq_false c17) (G.run 2 rfl ?_)
  rcases ite_elim H with ⟨c27, H⟩ | ⟨c27, H⟩
  ·
   refine G.yesB rfl (decide_eq_true c27) (G.seq ?_)
   obtain ⟨t28, t29, t30, h31, H⟩ := bind3_elim H
   refine G.region (GO.ldBoxA (j := 2) ([.slice A_a d_Crossings.length c_a, .int .i64 d_Circles]) HS rfl rfl rfl rfl ag30 rfl (GO.fld (⟨b3, 1, none⟩) rfl rfl fl46_1 rfl rfl (GO.ldBox (j := 1) HS rfl rfl rfl rfl na2 rfl (GO.fld (⟨b3, 2, none⟩) rfl rfl fl46_2 rfl rfl (GO.ldBox (j := 1) HS rfl rfl rfl rfl na2 rfl (GO.fn rfl func33 fok33.1 fok33.2 rfl rfl (spec_AddBigon.calls HS (RdIn.drop 3 r_a) h31) (fun _ wd34 ⟨A32, c33, h35, HS⟩ => ⟨_, h35, (GO.ps 2 rfl (GO.stBox (j := 1) (vs := [.slice A32 t28.length c33, .int .i64 t29]) ([.slice A32 t28.length c33, .int .i64 t29]) HS rfl rfl rfl rfl rfl (htA ag30) rfl rfl rfl fun wd36 HS => GO.assign rfl rfl rfl (GO.nil ?_)))⟩)))))))
   obtain ⟨rfl, rfl, rfl⟩ := some3 H
   exact G.ret2 _ _ func17 rfl (Res1.boxA (j := 1) (vs := [.slice A32 t28.length c33, .int .i64 t29]) HS rfl rfl rfl ag30) rfl ⟨_, _, rfl, (HS.pk 4 [0] rfl)⟩
  refine G.noB rfl (decide_eq_false c27) (G.run 2 rfl ?_)
  rcases ite_elim H with ⟨c37, H⟩ | ⟨c37, H⟩
  ·
   refine G.yesB rfl (decide_eq_true c37) (G.seq ?_)
   obtain ⟨t38, t39, t40, h41, H⟩ := bind3_elim H
   refine G.region (GO.ldBoxA (j := 2) ([.slice A_a d_Crossings.length c_a, .int .i64 d_Circles]) HS rfl rfl rfl rfl ag30 rfl (GO.fld (⟨b3, 1, none⟩) rfl rfl fl46_1 rfl rfl (GO.ldBox (j := 1) HS rfl rfl rfl rfl na2 rfl (GO.fld (⟨b3, 2, none⟩) rfl rfl fl46_2 rfl rfl (GO.ldBox (j := 1) HS rfl rfl rfl rfl na2 rfl (GO.fn rfl func34 fok34.1 fok34.2 rfl rfl (spec_RemoveBigon.calls HS (RdIn.drop 3 r_a) h41) (fun _ wd44 ⟨A42, c43, h45, HS⟩ => ⟨_, h45, (GO.ps 2 rfl (GO.stBox (j := 1) (vs := [.slice A42 t38.length c43, .int .i64 t39]) ([.slice A42 t38.length c43, .int .i64 t39]) HS rfl rfl rfl rfl rfl (htA ag30) rfl rfl rfl fun wd46 HS => GO.assign rfl rfl rfl (GO.nil ?_)))⟩)))))))
   obtain ⟨rfl, rfl, rfl⟩ := some3 H
   exact G.ret2 _ _ func17 rfl (Res1.boxA (j := 1) (vs := [.slice A42 t38.length c43, .int .i64 t39]) HS rfl rfl rfl ag30) rfl ⟨_, _, rfl, (HS.pk 4 [0] rfl)⟩
  refine G.noB rfl (decide_eq_false c37) (G.run 2 rfl ?_)
  rcases ite_elim H with ⟨c47, H⟩ | ⟨c47, H⟩
  ·
   refine G.yesB rfl (decide_eq_true c47) (G.seq ?_)
   obtain ⟨t48, t49, t50, h51, H⟩ := bind3_elim H
   refine G.region (GO.ldBoxA (j := 2) ([.slice A_a d_Crossings.length c_a, .int .i64 d_Circles]) HS rfl rfl rfl rfl ag30 rfl (GO.fld (⟨b3, 1, none⟩) rfl rfl fl46_1 rfl rfl (GO.ldBox (j := 1) HS rfl rfl rfl rfl na2 rfl (GO.fn rfl func35 fok35.1 fok35.2 rfl rfl (spec_SlideTriangle.calls HS (RdIn.drop 3 r_a) h51) (fun _ wd54 ⟨A52, c53, h55, HS⟩ => ⟨_, h55, (GO.ps 2 rfl (GO.stBox (j := 1) (vs := [.slice A52 t48.length c53, .int .i64 t49]) ([.slice A52 t48.length c53, .int .i64 t49]) HS rfl rfl rfl rfl rfl (htA ag30) rfl rfl rfl fun wd56 HS => GO.assign rfl rfl rfl (GO.nil ?_)))⟩)))))
   obtain ⟨rfl, rfl, rfl⟩ := some3 H
   exact G.ret2 _ _ func17 rfl (Res1.boxA (j := 1) (vs := [.slice A52 t48.length c53, .int .i64 t49]) HS rfl rfl rfl ag30) rfl ⟨_, _, rfl, (HS.pk 4 [0] rfl)⟩
  refine G.noB rfl (decide_eq_false c47) (G.run 3 rfl (G.region (GO.buildV (.agg [.slice none 0 0, .int .i64 0].toArray) rfl rfl (fun _ => by kernel_rfl) rfl (GO.stBox (j := 0) (vs := [.slice none 0 0, .int .i64 0]) ([.slice none 0 0, .int .i64 0]) HS rfl rfl rfl rfl rfl (htA ag30) rfl rfl rfl fun wd57 HS => GO.assign rfl rfl rfl (GO.nil ?_)))))
  replace HS := HS.nilRow T_GCrossing 61 (fun _ => ())
  obtain ⟨rfl, rfl, rfl⟩ := some3 H
  exact G.ret2 _ _ func17 rfl (Res1.boxA (j := 1) (vs := [.slice none 0 0, .int .i64 0]) HS rfl rfl rfl ag30) rfl ⟨_, _, rfl, (HS.pk 4 [0] rfl)⟩
theorem spec_ApplyKnotMoves.calls {w0 w : World} {L : List HObj} {K : Nat} {d_Crossings : List GCrossing} {d_Circles : Int} {moves : List GKnotMove} {A_a : Option Addr} {c_a : Nat} {A_b : Option Addr} {c_b : Nat} {r1 : List GCrossing} {r2 r3 r4 : Int} (HS : St w0 w (L)) (r_a : RdIn w0 L T_GCrossing A_a c_a (fun _ => ()) d_Crossings) (r_b : RdIn w0 L T_GKnotMove A_b c_b (fun _ => ()) moves) (H : spec_ApplyKnotMoves.f K d_Crossings d_Circles moves = some (r1, r2, r3, r4)) :
    Calls prog 6 #[.agg [.slice A_a d_Crossings.length c_a, .int .i64 d_Circles].toArray, .slice A_b moves.length c_b] w (spec_ApplyKnotMoves.post w0 L r1 r2 r3 r4) := by
  unfold spec_ApplyKnotMoves.f at H
  refine Calls.of_G func6 rfl rfl rfl ?_
  refine G.seq (G.region (GO.box (cs := [.slice A_a d_Crossings.length c_a, .int .i64 d_Circles]) HS rfl rfl rfl rfl fun b1 wd2 HS => GO.alloc HS rfl zr30 rfl rfl fun b3 wd4 HS => GO.ps 2 rfl (GO.nil (G.run 2 rfl ?_))))
  obtain ⟨t5, h6, H⟩ := Option.bind_eq_some_iff.1 H
  refine G.region (GO.ldBoxA (j := 1) ([.slice A_a d_Crossings.length c_a, .int .i64 d_Circles]) HS rfl rfl rfl rfl ag30 rfl (GO.fn rfl func16 fok16.1 fok16.2 rfl rfl (spec_IsDiagram.calls HS (RdIn.drop 2 r_a) h6) (fun _ wd7 ⟨h8, HS⟩ => ⟨_, h8, (GO.not rfl rfl rfl (GO.nil ?_))⟩)))
  rcases ite_elim H with ⟨c9, H⟩ | ⟨c9, H⟩
  ·
   refine G.noB rfl (congrArg Bool.not c9) (G.run 3 rfl (G.region (GO.move rfl rfl rfl (GO.lenS rfl rfl underlying34 rfl (GO.gtr rfl rfl rfl rfl (GO.nil ?_))))))
   rcases ite_elim H with ⟨c10, H⟩ | ⟨c10, H⟩
   ·
    refine G.yesB rfl (decide_eq_true c10) (G.seq (G.region (GO.buildV (.agg [.slice none 0 0, .int .i64 0].toArray) rfl rfl (fun _ => by kernel_rfl) rfl (GO.stBox (j := 0) (vs := [.slice none 0 0, .int .i64 0]) ([.slice none 0 0, .int .i64 0]) HS rfl rfl rfl rfl rfl (htA ag30) rfl rfl rfl fun wd11 HS => GO.ps 2 rfl (GO.nil ?_)))))
    replace HS := HS.nilRow T_GCrossing 61 (fun _ => ())
    obtain ⟨rfl, rfl, rfl, rfl⟩ := some4 H
    exact G.ret3 _ _ _ func6 rfl (Res1.boxA (j := 1) (vs := [.slice none 0 0, .int .i64 0]) HS rfl rfl rfl ag30) rfl rfl ⟨_, _, rfl, (HS.pk 3 [0] rfl)⟩
   refine G.noB rfl (decide_eq_false c10) (G.run 2 rfl ?_)
   obtain ⟨c17, H⟩ := ite_none H
   refine G.regionAny mixed (by decide) (fun b a w => ∃ (Y1_0 : Value) (Y2_1 : Value) (Y3_2 : Value) (Y4_3 : Value) (Y5_4 : Value) (Y6_5 : Value) (Y7_6 : Value) (Y8_7 : Value) (b12 : Nat) (A15 : Option Addr) (c16 : Nat) (b18 : Nat) (O9_4 : HObj) (O10_5 : HObj), Sat 48 [(7, Y8_7), (19, Y1_0), (20, Y2_1), (21, Y3_2), (22, Y4_3), (23, Y5_4), (24, Y6_5), (25, Y7_6), (1, .slice A_b moves.length c_b), (2, .pointer (some ⟨b1, 0, none⟩)), (4, .pointer (some ⟨b3, 0, none⟩))] a ∧ St w0 w (Box b3 30 [.slice none 0 0, .int .i64 0] :: Box b1 30 [.slice A_a d_Crossings.length c_a, .int .i64 d_Circles] :: O9_4 :: O10_5 :: L) ∧ (b 7 = true → Y8_7 = (.pointer (some ⟨b18, 0, none⟩))) ∧ (b 0 = true → Y1_0 = (.slice (some ⟨b12, 0, none⟩) 0 0)) ∧ (b 1 = true → Y2_1 = (.pointer (some ⟨b1, 0, none⟩))) ∧ (b 2 = true → Y3_2 = (.slice A_a d_Crossings.length c_a)) ∧ (b 3 = true → Y4_3 = (.slice A15 (([] : List GCrossing) ++ d_Crossings).length c16)) ∧ (b 4 = true → Y5_4 = (.pointer (some ⟨b1, 1, none⟩))) ∧ (b 5 = true → Y6_5 = (.int .i64 d_Circles)) ∧ (b 6 = true → Y7_6 = (.agg [.slice A15 (([] : List GCrossing) ++ d_Crossings).length c16, .int .i64 d_Circles].toArray)) ∧ (b 0 = true → b 3 = false → O9_4 = Box b12 61 []) ∧ (b 3 = true → O9_4 = Own T_GCrossing 61 A15 c16 (fun _ => ()) (([] : List GCrossing) ++ d_Crossings)) ∧ (b 7 = true → b 8 = false → O10_5 = Box b18 30 [.slice none 0 0, .int .i64 0]) ∧ (b 8 = true → O10_5 = Box b18 30 [.slice A15 (([] : List GCrossing) ++ d_Crossings).length c16, .int .i64 d_Circles])) ?_ ?_ ?_
   ·
    intro a hs
    obtain ⟨Y8_7, hs⟩ := hs.ext (d := 7) rfl
    obtain ⟨Y1_0, hs⟩ := hs.ext (d := 19) rfl
    obtain ⟨Y2_1, hs⟩ := hs.ext (d := 20) rfl
    obtain ⟨Y3_2, hs⟩ := hs.ext (d := 21) rfl
    obtain ⟨Y4_3, hs⟩ := hs.ext (d := 22) rfl
    obtain ⟨Y5_4, hs⟩ := hs.ext (d := 23) rfl
    obtain ⟨Y6_5, hs⟩ := hs.ext (d := 24) rfl
    obtain ⟨Y7_6, hs⟩ := hs.ext (d := 25) rfl
    exact ⟨Y1_0, Y2_1, Y3_2, Y4_3, Y5_4, Y6_5, Y7_6, Y8_7, 0, none, 0, 0, Emp, Emp, hs.weak ⟨rfl, rfl, rfl, rfl, rfl, rfl, rfl, rfl, rfl, rfl, rfl, trivial⟩, (HS.drew.emp.emp.pk 4 [2, 3, 1, 0] rfl), fun h => Bool.noConfusion h, fun h => Bool.noConfusion h, fun h => Bool.noConfusion h, fun h => Bool.noConfusion h, fun h => Bool.noConfusion h, fun h => Bool.noConfusion h, fun h => Bool.noConfusion h, fun h => Bool.noConfusion h, fun h => Bool.noConfusion h, fun h => Bool.noConfusion h, fun h => Bool.noConfusion h, fun h => Bool.noConfusion h⟩
   ·
    intro j hj b a w
    refine exI fun Y1_0 => exI fun Y2_1 => exI fun Y3_2 => exI fun Y4_3 => exI fun Y5_4 => exI fun Y6_5 => exI fun Y7_6 => exI fun Y8_7 => exI fun b12 => exI fun A15 => exI fun c16 => exI fun b18 => exI fun O9_4 => exI fun O10_5 => anI fun hs => anI fun HS => anI fun f7 => anI fun f0 => anI fun f1 => anI fun f2 => anI fun f3 => anI fun f4 => anI fun f5 => anI fun f6 => anI fun o4_0 => anI fun o4_1 => anI fun o5_0 => fun o5_1 hb hd hcl => ?_
    match j, hj with
    | 0, _ =>
     refine GO.at hs (GO.buildS (el := 61) ([]) HS rfl rfl (fun _ => by kernel_rfl) rfl fun b12 wd13 HS => GO.fin (fun a hs => ⟨(.slice (some ⟨b12, 0, none⟩) 0 0), _, _, _, _, _, _, _, b12, A15, c16, b18, Box b12 61 [], _, by exact hs.setAt 1 rfl, HS.pk 5 [1, 2, 0, 4] rfl, f7, fun _ => rfl, f1, f2, f3, f4, f5, f6, fun _ _ => rfl, fun hh => (Bool.noConfusion ((hcl 3 (by decide) hh 0 (by decide)).symm.trans hb)), o5_0, o5_1⟩))
    | 1, _ =>
     refine GO.at hs (GO.fld (⟨b1, 0, none⟩) rfl rfl fl30_0 rfl rfl (GO.fin (fun a hs => ⟨_, (.pointer (some ⟨b1, 0, none⟩)), _, _, _, _, _, _, b12, A15, c16, b18, _, _, by exact hs.setAt 2 rfl, HS, f7, f0, fun _ => rfl, f2, f3, f4, f5, f6, o4_0, o4_1, o5_0, o5_1⟩)))
    | 2, _ =>
     have hb1 : b 1 = true := hd 1 (by decide)
     obtain rfl := f1 hb1
     refine GO.at hs (GO.ldBox (j := 1) HS rfl rfl rfl rfl na28 rfl (GO.fin (fun a hs => ⟨_, _, (.slice A_a d_Crossings.length c_a), _, _, _, _, _, b12, A15, c16, b18, _, _, by exact hs.setAt 3 rfl, HS, f7, f0, f1, fun _ => rfl, f3, f4, f5, f6, o4_0, o4_1, o5_0, o5_1⟩)))
    | 3, _ =>
     have hb0 : b 0 = true := hd 0 (by decide)
     obtain rfl := f0 hb0
     have hb2 : b 2 = true := hd 2 (by decide)
     obtain rfl := f2 hb2
     obtain rfl := o4_0 hb0 hb
     refine GO.at hs ?_
     replace HS := HS.boxRow (T := T_GCrossing) (j := 2) rfl flat_flat (fun _ => ()) ([] : List GCrossing) rfl (bndL rfl)
     refine GO.lenC (t := 19) (m := ([] : List GCrossing).length) (c' := ([] : List GCrossing).length) rfl rfl rfl (GO.appS (T := T_GCrossing) (j := 2) HS rfl (RdIn.drop 4 r_a) flat_flat rfl rfl rfl underlying28 inf61 rfl rfl rfl c17 rfl (fun _ => rfl) fun A15 c16 wd14 HS => GO.fin (fun a hs => ⟨_, _, _, (.slice A15 (([] : List GCrossing) ++ d_Crossings).length c16), _, _, _, _, b12, A15, c16, b18, Own T_GCrossing 61 A15 c16 (fun _ => ()) (([] : List GCrossing) ++ d_Crossings), _, hs.weak ⟨rfl, rfl, rfl, rfl, rfl, rfl, rfl, rfl, rfl, rfl, rfl, trivial⟩, HS, f7, f0, f1, f2, fun _ => rfl, f4, f5, fun hh => (Bool.noConfusion ((hcl 6 (by decide) hh 3 (by decide)).symm.trans hb)), fun _ h => Bool.noConfusion h, fun _ => rfl, o5_0, fun hh => (Bool.noConfusion ((hcl 8 (by decide) hh 3 (by decide)).symm.trans hb))⟩))
    | 4, _ =>
     refine GO.at hs (GO.fld (⟨b1, 1, none⟩) rfl rfl fl30_1 rfl rfl (GO.fin (fun a hs => ⟨_, _, _, _, (.pointer (some ⟨b1, 1, none⟩)), _, _, _, b12, A15, c16, b18, _, _, by exact hs.setAt 5 rfl, HS, f7, f0, f1, f2, f3, fun _ => rfl, f5, f6, o4_0, o4_1, o5_0, o5_1⟩)))
    | 5, _ =>
     have hb4 : b 4 = true := hd 4 (by decide)
     obtain rfl := f4 hb4
     refine GO.at hs (GO.ldBox (j := 1) HS rfl rfl rfl rfl na2 rfl (GO.fin (fun a hs => ⟨_, _, _, _, _, (.int .i64 d_Circles), _, _, b12, A15, c16, b18, _, _, by exact hs.setAt 6 rfl, HS, f7, f0, f1, f2, f3, f4, fun _ => rfl, f6, o4_0, o4_1, o5_0, o5_1⟩)))
    | 6, _ =>
     have hb3 : b 3 = true := hd 3 (by decide)
     obtain rfl := f3 hb3
     have hb5 : b 5 = true := hd 5 (by decide)
     obtain rfl := f5 hb5
     refine GO.at hs (GO.buildV (.agg [.slice A15 (([] : List GCrossing) ++ d_Crossings).length c16, .int .i64 d_Circles].toArray) rfl rfl (fun _ => by kernel_rfl) rfl (GO.fin (fun a hs => ⟨_, _, _, _, _, _, (.agg [.slice A15 (([] : List GCrossing) ++ d_Crossings).length c16, .int .i64 d_Circles].toArray), _, b12, A15, c16, b18, _, _, by exact hs.setAt 7 rfl, HS, f7, f0, f1, f2, f3, f4, f5, fun _ => rfl, o4_0, o4_1, o5_0, o5_1⟩)))
    | 7, _ =>
     refine GO.at hs (GO.alloc HS rfl zr30 rfl rfl fun b18 wd19 HS => GO.fin (fun a hs => ⟨_, _, _, _, _, _, _, (.pointer (some ⟨b18, 0, none⟩)), b12, A15, c16, b18, _, Box b18 30 [.slice none 0 0, .int .i64 0], by exact hs.setAt 0 rfl, HS.pk 5 [1, 2, 3, 0] rfl, fun _ => rfl, f0, f1, f2, f3, f4, f5, f6, o4_0, o4_1, fun _ _ => rfl, fun hh => (Bool.noConfusion ((hcl 8 (by decide) hh 7 (by decide)).symm.trans hb))⟩))
    | 8, _ =>
     have hb7 : b 7 = true := hd 7 (by decide)
     obtain rfl := f7 hb7
     have hb6 : b 6 = true := hd 6 (by decide)
     obtain rfl := f6 hb6
     obtain rfl := o5_0 hb7 hb
     refine GO.at hs (GO.stBox (j := 3) (vs := [.slice A15 (([] : List GCrossing) ++ d_Crossings).length c16, .int .i64 d_Circles]) ([.slice A15 (([] : List GCrossing) ++ d_Crossings).length c16, .int .i64 d_Circles]) HS rfl rfl rfl rfl rfl (htA ag30) rfl rfl rfl fun wd20 HS => GO.fin (fun a hs => ⟨_, _, _, _, _, _, _, _, b12, A15, c16, b18, _, Box b18 30 [.slice A15 (([] : List GCrossing) ++ d_Crossings).length c16, .int .i64 d_Circles], hs, HS, f7, f0, f1, f2, f3, f4, f5, f6, o4_0, o4_1, fun _ h => Bool.noConfusion h, fun _ => rfl⟩))
    | k + 9, hj => exact absurd hj (Nat.not_lt.2 (Nat.le_add_left 9 k))
   ·
    intro b a w hall
    refine exI fun Y1_0 => exI fun Y2_1 => exI fun Y3_2 => exI fun Y4_3 => exI fun Y5_4 => exI fun Y6_5 => exI fun Y7_6 => exI fun Y8_7 => exI fun b12 => exI fun A15 => exI fun c16 => exI fun b18 => exI fun O9_4 => exI fun O10_5 => anI fun hs => anI fun HS => anI fun f7 => anI fun f0 => anI fun f1 => anI fun f2 => anI fun f3 => anI fun f4 => anI fun f5 => anI fun f6 => anI fun o4_0 => anI fun o4_1 => anI fun o5_0 => fun o5_1 => ?_
    obtain rfl := f7 (hall 7 (by decide))
    obtain rfl := f0 (hall 0 (by decide))
    obtain rfl := f1 (hall 1 (by decide))
    obtain rfl := f2 (hall 2 (by decide))
    obtain rfl := f3 (hall 3 (by decide))
    obtain rfl := f4 (hall 4 (by decide))
    obtain rfl := f5 (hall 5 (by decide))
    obtain rfl := f6 (hall 6 (by decide))
    obtain rfl := o4_1 (hall 3 (by decide))
    obtain rfl := o5_1 (hall 8 (by decide))
    refine G.at hs (G.run 5 rfl ?_)
    refine G.name (fun k_l1 hk_l1 => ?_)
    have at_l1 : ∀ m_l1, m_l1 ≤ K → ∀ (A40 : Option Addr) (c41 : Nat) (out_42 : List GCrossing) (out_43 i_44 : Int) (w : World), spec_ApplyKnotMoves.l1 K m_l1 moves out_42 out_43 i_44 = some (r1, r2, r3, r4) → St w0 w (Box b3 30 [.slice none 0 0, .int .i64 0] :: Box b18 30 [.slice A40 out_42.length c41, .int .i64 out_43] :: Own T_GCrossing 61 A40 c41 (fun _ => ()) out_42 :: L) → G prog 6 48 [(1, .slice A_b moves.length c_b), (4, .pointer (some ⟨b3, 0, none⟩)), (7, .pointer (some ⟨b18, 0, none⟩)), (8, .int .i64 i_44)] k_l1 w (spec_ApplyKnotMoves.post w0 L r1 r2 r3 r4) := by
     intro m_l1
     induction m_l1 using Nat.strongRecOn with
     | _ m_l1 ih_l1 =>
      intro hm_l1 A40 c41 out_42 out_43 i_44 w H HS
      cases m_l1 with
      | zero => rw [spec_ApplyKnotMoves.l1] at H; cases H
      | succ n_l1 =>
       rw [spec_ApplyKnotMoves.l1] at H
       subst hk_l1
       refine G.run 2 rfl (G.region (GO.ps 2 rfl (GO.lenS rfl rfl underlying34 rfl (GO.lss rfl rfl rfl rfl (GO.nil ?_)))))
       rcases ite_elim H with ⟨c64, H⟩ | ⟨c64, H⟩
       ·
        refine G.yesB rfl (decide_eq_true c64) (G.run 4 rfl ?_)
        obtain ⟨c65, H⟩ := ite_none H
        obtain ⟨e66, h67, H⟩ := bnd_elim H
        obtain ⟨t68, t69, t70, h71, H⟩ := bind3_elim H
        refine G.regionAny mixed (by decide) (fun b a w => ∃ (Y11_0 : Value) (Y12_1 : Value) (Y13_2 : Value) (Y14_3 : Value) (Y15_4 : Value) (Y16_5 : Value) (Y17_6 : Value) (Y18_7 : Value) (Y19_8 : Value) (Y20_9 : Value) (Y21_11 : Value) (A72 : Option Addr) (c73 : Nat) (b76 : Nat) (O22_13 : HObj) (O23_14 : HObj), Sat 48 [(9, Y20_9), (10, Y21_11), (32, Y17_6), (33, Y11_0), (34, Y12_1), (35, Y13_2), (36, Y14_3), (37, Y15_4), (38, Y16_5), (39, Y18_7), (40, Y19_8), (1, .slice A_b moves.length c_b), (4, .pointer (some ⟨b3, 0, none⟩)), (7, .pointer (some ⟨b18, 0, none⟩)), (8, .int .i64 i_44)] a ∧ St w0 w (Box b3 30 [.slice none 0 0, .int .i64 0] :: Box b18 30 [.slice A40 out_42.length c41, .int .i64 out_43] :: Own T_GCrossing 61 A40 c41 (fun _ => ()) out_42 :: O22_13 :: O23_14 :: L) ∧ (b 9 = true → Y20_9 = (.pointer (some ⟨b76, 0, none⟩))) ∧ (b 11 = true → Y21_11 = (.int .i64 t70)) ∧ (b 6 = true → Y17_6 = (.tuple #[.agg [.slice A72 t68.length c73, .int .i64 t69].toArray, .int .i64 t70])) ∧ (b 0 = true → Y11_0 = (.agg [.slice A40 out_42.length c41, .int .i64 out_43].toArray)) ∧ (b 1 = true → Y12_1 = (.slice A_b moves.length c_b)) ∧ (b 2 = true → Y13_2 = (.int .i64 i_44)) ∧ (b 3 = true → Y14_3 = (.pointer (some (ea A_b (i_44.toNat * 3))))) ∧ (b 4 = true → Y15_4 = (.agg [.int .i64 e66.Kind, .int .i64 e66.I, .int .i64 e66.J].toArray)) ∧ (b 5 = true → Y16_5 = (.tuple #[.agg [.slice A72 t68.length c73, .int .i64 t69].toArray, .int .i64 t70])) ∧ (b 7 = true → Y18_7 = (.agg [.slice A72 t68.length c73, .int .i64 t69].toArray)) ∧ (b 8 = true → Y19_8 = (.int .i64 t70)) ∧ (b 5 = true → O22_13 = Own T_GCrossing 61 A72 c73 (fun _ => ()) t68) ∧ (b 9 = true → b 10 = false → O23_14 = Box b76 30 [.slice none 0 0, .int .i64 0]) ∧ (b 10 = true → O23_14 = Box b76 30 [.slice A72 t68.length c73, .int .i64 t69])) ?_ ?_ ?_
        ·
         intro a hs
         obtain ⟨Y20_9, hs⟩ := hs.ext (d := 9) rfl
         obtain ⟨Y21_11, hs⟩ := hs.ext (d := 10) rfl
         obtain ⟨Y17_6, hs⟩ := hs.ext (d := 32) rfl
         obtain ⟨Y11_0, hs⟩ := hs.ext (d := 33) rfl
         obtain ⟨Y12_1, hs⟩ := hs.ext (d := 34) rfl
         obtain ⟨Y13_2, hs⟩ := hs.ext (d := 35) rfl
         obtain ⟨Y14_3, hs⟩ := hs.ext (d := 36) rfl
         obtain ⟨Y15_4, hs⟩ := hs.ext (d := 37) rfl
         obtain ⟨Y16_5, hs⟩ := hs.ext (d := 38) rfl
         obtain ⟨Y18_7, hs⟩ := hs.ext (d := 39) rfl
         obtain ⟨Y19_8, hs⟩ := hs.ext (d := 40) rfl
         exact ⟨Y11_0, Y12_1, Y13_2, Y14_3, Y15_4, Y16_5, Y17_6, Y18_7, Y19_8, Y20_9, Y21_11, none, 0, 0, Emp, Emp, hs.weak ⟨rfl, rfl, rfl, rfl, rfl, rfl, rfl, rfl, rfl, rfl, rfl, rfl, rfl, rfl, rfl, trivial⟩, (HS.drew.emp.emp.pk 5 [2, 3, 4, 1, 0] rfl), fun h => Bool.noConfusion h, fun h => Bool.noConfusion h, fun h => Bool.noConfusion h, fun h => Bool.noConfusion h, fun h => Bool.noConfusion h, fun h => Bool.noConfusion h, fun h => Bool.noConfusion h, fun h => Bool.noConfusion h, fun h => Bool.noConfusion h, fun h => Bool.noConfusion h, fun h => Bool.noConfusion h, fun h => Bool.noConfusion h, fun h => Bool.noConfusion h, fun h => Bool.noConfusion h⟩
        ·
         intro j hj b a w
         refine exI fun Y11_0 => exI fun Y12_1 => exI fun Y13_2 => exI fun Y14_3 => exI fun Y15_4 => exI fun Y16_5 => exI fun Y17_6 => exI fun Y18_7 => exI fun Y19_8 => exI fun Y20_9 => exI fun Y21_11 => exI fun A72 => exI fun c73 => exI fun b76 => exI fun O22_13 => exI fun O23_14 => anI fun hs => anI fun HS => anI fun f9 => anI fun f11 => anI fun f6 => anI fun f0 => anI fun f1 => anI fun f2 => anI fun f3 => anI fun f4 => anI fun f5 => anI fun f7 => anI fun f8 => anI fun o13_0 => anI fun o14_0 => fun o14_1 hb hd hcl => ?_
         match j, hj with
         | 0, _ =>
          refine GO.at hs (GO.ldBoxA (j := 1) ([.slice A40 out_42.length c41, .int .i64 out_43]) HS rfl rfl rfl rfl ag30 rfl (GO.fin (fun a hs => ⟨(.agg [.slice A40 out_42.length c41, .int .i64 out_43].toArray), _, _, _, _, _, _, _, _, _, _, A72, c73, b76, _, _, by exact hs.setAt 3 rfl, HS, f9, f11, f6, fun _ => rfl, f1, f2, f3, f4, f5, f7, f8, o13_0, o14_0, o14_1⟩)))
         | 1, _ =>
          refine GO.at hs (GO.move rfl rfl rfl (GO.fin (fun a hs => ⟨_, (.slice A_b moves.length c_b), _, _, _, _, _, _, _, _, _, A72, c73, b76, _, _, by exact hs.setAt 4 rfl, HS, f9, f11, f6, f0, fun _ => rfl, f2, f3, f4, f5, f7, f8, o13_0, o14_0, o14_1⟩)))
         | 2, _ =>
          refine GO.at hs (GO.move rfl rfl rfl (GO.fin (fun a hs => ⟨_, _, (.int .i64 i_44), _, _, _, _, _, _, _, _, A72, c73, b76, _, _, by exact hs.setAt 5 rfl, HS, f9, f11, f6, f0, f1, fun _ => rfl, f3, f4, f5, f7, f8, o13_0, o14_0, o14_1⟩)))
         | 3, _ =>
          have hb1 : b 1 = true := hd 1 (by decide)
          obtain rfl := f1 hb1
          have hb2 : b 2 = true := hd 2 (by decide)
          obtain rfl := f2 hb2
          refine GO.at hs (GO.ix rfl rfl rfl underlying34 sz46 ((RdIn.drop 5 r_b) _ HS).2.2.1 c65.1 c65.2 rfl (GO.fin (fun a hs => ⟨_, _, _, (.pointer (some (ea A_b (i_44.toNat * 3)))), _, _, _, _, _, _, _, A72, c73, b76, _, _, by exact hs.setAt 6 rfl, HS, f9, f11, f6, f0, f1, f2, fun _ => rfl, f4, f5, f7, f8, o13_0, o14_0, o14_1⟩)))
         | 4, _ =>
          have hb3 : b 3 = true := hd 3 (by decide)
          obtain rfl := f3 hb3
          refine GO.at hs (GO.ldRdA (T := T_GKnotMove) (n := i_44.toNat) HS (RdIn.drop 5 r_b) rfl rfl (getD_eq (ltN c65) h67) ag46 rfl (GO.fin (fun a hs => ⟨_, _, _, _, (.agg [.int .i64 e66.Kind, .int .i64 e66.I, .int .i64 e66.J].toArray), _, _, _, _, _, _, A72, c73, b76, _, _, by exact hs.setAt 7 rfl, HS, f9, f11, f6, f0, f1, f2, f3, fun _ => rfl, f5, f7, f8, o13_0, o14_0, o14_1⟩)))
         | 5, _ =>
          have hb0 : b 0 = true := hd 0 (by decide)
          obtain rfl := f0 hb0
          have hb4 : b 4 = true := hd 4 (by decide)
          obtain rfl := f4 hb4
          refine GO.at hs (GO.fn rfl func17 fok17.1 fok17.2 rfl rfl (spec_l27Move.calls HS (RdIn.own (j := 2) rfl) h71) (fun _ wd74 ⟨A72, c73, h75, HS⟩ => ⟨_, h75, (GO.fin (fun a hs => ⟨_, _, _, _, _, (.tuple #[.agg [.slice A72 t68.length c73, .int .i64 t69].toArray, .int .i64 t70]), _, _, _, _, _, A72, c73, b76, Own T_GCrossing 61 A72 c73 (fun _ => ()) t68, _, by exact hs.setAt 8 rfl, HS.pk 6 [1, 2, 3, 0, 5] rfl, f9, f11, fun hh => (Bool.noConfusion ((hcl 6 (by decide) hh 5 (by decide)).symm.trans hb)), f0, f1, f2, f3, f4, fun _ => rfl, fun hh => (Bool.noConfusion ((hcl 6 (by decide) (hcl 7 (by decide) hh 6 (by decide)) 5 (by decide)).symm.trans hb)), f8, fun _ => rfl, o14_0, fun hh => (Bool.noConfusion ((hcl 10 (by decide) hh 5 (by decide)).symm.trans hb))⟩))⟩))
         | 6, _ =>
          have hb5 : b 5 = true := hd 5 (by decide)
          obtain rfl := f5 hb5
          refine GO.at hs (GO.move rfl rfl rfl (GO.fin (fun a hs => ⟨_, _, _, _, _, _, (.tuple #[.agg [.slice A72 t68.length c73, .int .i64 t69].toArray, .int .i64 t70]), _, _, _, _, A72, c73, b76, _, _, by exact hs.setAt 2 rfl, HS, f9, f11, fun _ => rfl, f0, f1, f2, f3, f4, f5, f7, f8, o13_0, o14_0, o14_1⟩)))
         | 7, _ =>
          have hb6 : b 6 = true := hd 6 (by decide)
          obtain rfl := f6 hb6
          refine GO.at hs (GO.extract rfl rfl rfl rfl (GO.fin (fun a hs => ⟨_, _, _, _, _, _, _, (.agg [.slice A72 t68.length c73, .int .i64 t69].toArray), _, _, _, A72, c73, b76, _, _, by exact hs.setAt 9 rfl, HS, f9, f11, f6, f0, f1, f2, f3, f4, f5, fun _ => rfl, f8, o13_0, o14_0, o14_1⟩)))
         | 8, _ =>
          have hb6 : b 6 = true := hd 6 (by decide)
          obtain rfl := f6 hb6
          refine GO.at hs (GO.extract rfl rfl rfl rfl (GO.fin (fun a hs => ⟨_, _, _, _, _, _, _, _, (.int .i64 t70), _, _, A72, c73, b76, _, _, by exact hs.setAt 10 rfl, HS, f9, f11, f6, f0, f1, f2, f3, f4, f5, f7, fun _ => rfl, o13_0, o14_0, o14_1⟩)))
         | 9, _ =>
          refine GO.at hs (GO.alloc HS rfl zr30 rfl rfl fun b76 wd77 HS => GO.fin (fun a hs => ⟨_, _, _, _, _, _, _, _, _, (.pointer (some ⟨b76, 0, none⟩)), _, A72, c73, b76, _, Box b76 30 [.slice none 0 0, .int .i64 0], by exact hs.setAt 0 rfl, HS.pk 6 [1, 2, 3, 4, 0] rfl, fun _ => rfl, f11, f6, f0, f1, f2, f3, f4, f5, f7, f8, o13_0, fun _ _ => rfl, fun hh => (Bool.noConfusion ((hcl 10 (by decide) hh 9 (by decide)).symm.trans hb))⟩))
         | 10, _ =>
          have hb9 : b 9 = true := hd 9 (by decide)
          obtain rfl := f9 hb9
          have hb7 : b 7 = true := hd 7 (by decide)
          obtain rfl := f7 hb7
          obtain rfl := o14_0 hb9 hb
          refine GO.at hs (GO.stBox (j := 4) (vs := [.slice A72 t68.length c73, .int .i64 t69]) ([.slice A72 t68.length c73, .int .i64 t69]) HS rfl rfl rfl rfl rfl (htA ag30) rfl rfl rfl fun wd78 HS => GO.fin (fun a hs => ⟨_, _, _, _, _, _, _, _, _, _, _, A72, c73, b76, _, Box b76 30 [.slice A72 t68.length c73, .int .i64 t69], hs, HS, f9, f11, f6, f0, f1, f2, f3, f4, f5, f7, f8, o13_0, fun _ h => Bool.noConfusion h, fun _ => rfl⟩))
         | 11, _ =>
          have hb8 : b 8 = true := hd 8 (by decide)
          obtain rfl := f8 hb8
          refine GO.at hs (GO.assign rfl rfl rfl (GO.fin (fun a hs => ⟨_, _, _, _, _, _, _, _, _, _, (.int .i64 t70), A72, c73, b76, _, _, by exact hs.setAt 1 rfl, HS, f9, fun _ => rfl, f6, f0, f1, f2, f3, f4, f5, f7, f8, o13_0, o14_0, o14_1⟩)))
         | k + 12, hj => exact absurd hj (Nat.not_lt.2 (Nat.le_add_left 12 k))
        ·
         intro b a w hall
         refine exI fun Y11_0 => exI fun Y12_1 => exI fun Y13_2 => exI fun Y14_3 => exI fun Y15_4 => exI fun Y16_5 => exI fun Y17_6 => exI fun Y18_7 => exI fun Y19_8 => exI fun Y20_9 => exI fun Y21_11 => exI fun A72 => exI fun c73 => exI fun b76 => exI fun O22_13 => exI fun O23_14 => anI fun hs => anI fun HS => anI fun f9 => anI fun f11 => anI fun f6 => anI fun f0 => anI fun f1 => anI fun f2 => anI fun f3 => anI fun f4 => anI fun f5 => anI fun f7 => anI fun f8 => anI fun o13_0 => anI fun o14_0 => fun o14_1 => ?_
         obtain rfl := f9 (hall 9 (by decide))
         obtain rfl := f11 (hall 11 (by decide))
         obtain rfl := f6 (hall 6 (by decide))
         obtain rfl := f0 (hall 0 (by decide))
         obtain rfl := f1 (hall 1 (by decide))
         obtain rfl := f2 (hall 2 (by decide))
         obtain rfl := f3 (hall 3 (by decide))
         obtain rfl := f4 (hall 4 (by decide))
         obtain rfl := f5 (hall 5 (by decide))
         obtain rfl := f7 (hall 7 (by decide))
         obtain rfl := f8 (hall 8 (by decide))
         obtain rfl := o13_0 (hall 5 (by decide))
         obtain rfl := o14_1 (hall 10 (by decide))
         refine G.at hs (G.run 3 rfl ?_)
         rcases ite_elim H with ⟨c79, H⟩ | ⟨c79, H⟩
         ·
          refine G.noB rfl (congrArg Bool.not (decide_eq_true c79)) (G.skip (G.region (GO.ldBoxA (j := 4) ([.slice A72 t68.length c73, .int .i64 t69]) HS rfl rfl rfl rfl ag30 rfl (GO.stBox (j := 1) (vs := [.slice A72 t68.length c73, .int .i64 t69]) ([.slice A72 t68.length c73, .int .i64 t69]) HS rfl rfl rfl rfl rfl (htA ag30) rfl rfl rfl fun wd80 HS => GO.nil (G.run 3 rfl (G.weak ?_ (ih_l1 n_l1 (Nat.lt_succ_of_le (Nat.le_refl _)) (Nat.le_of_succ_le hm_l1) _ _ _ _ _ _ H (HS.pk 5 [0, 1, 3] rfl))))))))
          exact ⟨rfl, rfl, rfl, rfl, trivial⟩
         refine G.yesB rfl (congrArg Bool.not (decide_eq_false c79)) (G.seq (G.region (GO.buildV (.agg [.slice none 0 0, .int .i64 0].toArray) rfl rfl (fun _ => by kernel_rfl) rfl (GO.ps 2 rfl (GO.stBox (j := 0) (vs := [.slice none 0 0, .int .i64 0]) ([.slice none 0 0, .int .i64 0]) HS rfl rfl rfl rfl rfl (htA ag30) rfl rfl rfl fun wd81 HS => GO.ps 2 rfl (GO.nil ?_))))))
         replace HS := HS.nilRow T_GCrossing 61 (fun _ => ())
         obtain ⟨rfl, rfl, rfl, rfl⟩ := some4 H
         exact G.ret3 _ _ _ func6 rfl (Res1.boxA (j := 1) (vs := [.slice none 0 0, .int .i64 0]) HS rfl rfl rfl ag30) rfl rfl ⟨_, _, rfl, (HS.pk 6 [0] rfl)⟩
       refine G.noB rfl (decide_eq_false c64) (G.run 2 rfl (G.region (GO.ldBoxA (j := 1) ([.slice A40 out_42.length c41, .int .i64 out_43]) HS rfl rfl rfl rfl ag30 rfl (GO.stBox (j := 0) (vs := [.slice A40 out_42.length c41, .int .i64 out_43]) ([.slice A40 out_42.length c41, .int .i64 out_43]) HS rfl rfl rfl rfl rfl (htA ag30) rfl rfl rfl fun wd82 HS => GO.ps 2 rfl (GO.nil ?_)))))
       obtain ⟨rfl, rfl, rfl, rfl⟩ := some4 H
       exact G.ret3 _ _ _ func6 rfl (Res1.boxA (j := 0) (vs := [.slice A40 out_42.length c41, .int .i64 out_43]) HS rfl rfl rfl ag30) rfl rfl ⟨_, _, rfl, (HS.pk 3 [2] rfl)⟩
    refine G.weak ?_ (at_l1 K (Nat.le_refl _) _ _ _ _ _ _ H (HS.pk 4 [0, 3, 2] rfl))
    exact ⟨rfl, rfl, rfl, rfl, trivial⟩
  refine G.yesB rfl (congrArg Bool.not (bnot_of c9)) (G.seq (G.region (GO.buildV (.agg [.slice none 0 0, .int .i64 0].toArray) rfl rfl (fun _ => by kernel_rfl) rfl (GO.stBox (j := 0) (vs := [.slice none 0 0, .int .i64 0]) ([.slice none 0 0, .int .i64 0]) HS rfl rfl rfl rfl rfl (htA ag30) rfl rfl rfl fun wd83 HS => GO.ps 2 rfl (GO.nil ?_)))))
  replace HS := HS.nilRow T_GCrossing 61 (fun _ => ())
  obtain ⟨rfl, rfl, rfl, rfl⟩ := some4 H
  exact G.ret3 _ _ _ func6 rfl (Res1.boxA (j := 1) (vs := [.slice none 0 0, .int .i64 0]) HS rfl rfl rfl ag30) rfl rfl ⟨_, _, rfl, (HS.pk 3 [0] rfl)⟩
theorem impl_size_impl_Crossing.calls {w0 w : World} {L : List HObj} {list : List GCrossing} {A_a : Option Addr} {c_a : Nat} {r1 : Int} (HS : St w0 w (L)) (r_a : RdIn w0 L T_GCrossing A_a c_a (fun _ => ()) list) (H : impl_size_impl_Crossing.f list = some r1) :
    Calls prog 58 #[.slice A_a list.length c_a] w (impl_size_impl_Crossing.post w0 L r1) := by
  unfold impl_size_impl_Crossing.f at H
  refine Calls.of_G func58 rfl rfl rfl ?_
  refine G.run 3 rfl (G.region (GO.move rfl rfl rfl (GO.lenS rfl rfl underlying28 rfl (GO.assign rfl rfl rfl (GO.nil ?_)))))
  obtain rfl := Option.some.inj H
  exact G.ret1 _ func58 rfl rfl ⟨rfl, HS⟩
theorem impl_inRange.calls {w0 w : World} {L : List HObj} {x low high : Int} {r1 : Bool} (HS : St w0 w (L)) (H : impl_inRange.f x low high = some r1) :
    Calls prog 59 #[.int .i64 x, .int .i64 low, .int .i64 high] w (impl_inRange.post w0 L r1) := by
  unfold impl_inRange.f at H
  refine Calls.of_G func59 rfl rfl rfl ?_
  refine G.run 3 rfl ?_
  rcases ite_elim H with ⟨c1, H⟩ | ⟨c1, H⟩
  ·
   refine G.region (GO.ps 4 rfl (GO.known (t := 10) rfl (decide_eq_true c1) (GO.on rfl rfl rfl rfl (GO.move rfl rfl rfl (GO.back (GO.on rfl rfl rfl rfl (GO.move rfl rfl rfl (GO.back (GO.on rfl rfl rfl rfl (GO.leq rfl rfl rfl rfl (GO.back (GO.ps 2 rfl (GO.nil ?_)))))))))))))
   obtain rfl := Option.some.inj H
   exact G.ret1 _ func59 rfl rfl ⟨rfl, HS⟩
  refine G.region (GO.ps 4 rfl (GO.known (t := 10) rfl (decide_eq_false c1) (GO.off rfl rfl rfl rfl rfl rfl (GO.off rfl rfl rfl rfl rfl rfl (GO.off rfl rfl rfl rfl rfl rfl (GO.ps 2 rfl (GO.nil ?_)))))))
  obtain rfl := Option.some.inj H
  exact G.ret1 _ func59 rfl rfl ⟨rfl, HS⟩
theorem impl_Diagram_drawing_fn1.calls {w0 w : World} {L : List HObj} {c_A c_B : Int} {c_C c_D c_Sign : Int} {r1 : Bool} (HS : St w0 w (L)) (H : impl_Diagram_drawing_fn1.f c_A c_B c_C c_D c_Sign = some r1) :
    Calls prog 61 #[.agg [.int .i64 c_A, .int .i64 c_B, .int .i64 c_C, .int .i64 c_D, .int .i64 c_Sign].toArray] w (impl_Diagram_drawing_fn1.post w0 L r1) := by
  unfold impl_Diagram_drawing_fn1.f at H
  refine Calls.of_G func61 rfl rfl rfl ?_
  refine G.seq (G.region (GO.box (cs := [.int .i64 c_A, .int .i64 c_B, .int .i64 c_C, .int .i64 c_D, .int .i64 c_Sign]) HS rfl rfl rfl rfl fun b1 wd2 HS => GO.assign rfl rfl rfl (GO.nil (G.seq ?_))))
  rcases ite_elim H with ⟨c3, H⟩ | ⟨c3, H⟩
  ·
   refine G.region (GO.fld (⟨b1, 4, none⟩) rfl rfl fl61_4 rfl rfl (GO.ldBox (j := 0) HS rfl rfl rfl rfl na2 rfl (GO.ps 2 rfl (GO.known (t := 6) rfl (congrArg Bool.not (decide_eq_true c3)) (GO.off rfl rfl rfl rfl rfl rfl (GO.off rfl rfl rfl rfl rfl rfl (GO.off rfl rfl rfl rfl rfl rfl (GO.ps 2 rfl (GO.nil ?_)))))))))
   obtain rfl := Option.some.inj H
   exact G.ret1 _ func61 rfl rfl ⟨rfl, (HS.pk 1 [] rfl)⟩
  refine G.region (GO.fld (⟨b1, 4, none⟩) rfl rfl fl61_4 rfl rfl (GO.ldBox (j := 0) HS rfl rfl rfl rfl na2 rfl (GO.ps 2 rfl (GO.known (t := 6) rfl (congrArg Bool.not (decide_eq_false c3)) (GO.on rfl rfl rfl rfl (GO.fld (⟨b1, 4, none⟩) rfl rfl fl61_4 rfl rfl (GO.back (GO.on rfl rfl rfl rfl (GO.ldBox (j := 0) HS rfl rfl rfl rfl na2 rfl (GO.back (GO.on rfl rfl rfl rfl (GO.neq rfl rfl rfl rfl (GO.back (GO.ps 2 rfl ?_))))))))))))))
  refine GO.nil ?_
  obtain rfl := Option.some.inj H
  exact G.ret1 _ func61 rfl rfl ⟨rfl, (HS.pk 1 [] rfl)⟩
theorem slices_IndexFunc_impl_Crossing_impl_Crossing_109.calls {w0 w : World} {L : List HObj} {K : Nat} {s : List GCrossing} {A_a : Option Addr} {c_a : Nat} {r1 : Int} (HS : St w0 w (L)) (r_a : RdIn w0 L T_GCrossing A_a c_a (fun _ => ()) s) (H : slices_IndexFunc_impl_Crossing_impl_Crossing_109.f K s = some r1) :
    Calls prog 88 #[.slice A_a s.length c_a, .func (.func 61) #[] #[]] w (slices_IndexFunc_impl_Crossing_impl_Crossing_109.post w0 L r1) := by
  unfold slices_IndexFunc_impl_Crossing_impl_Crossing_109.f at H
  refine Calls.of_G func88 rfl rfl rfl ?_
  refine G.run 4 rfl (G.region (GO.move rfl rfl rfl (GO.lenS rfl rfl underlying28 rfl (GO.move rfl rfl rfl (GO.nil (G.run 2 rfl ?_))))))
  refine G.name (fun k_l1 hk_l1 => ?_)
  have at_l1 : ∀ m_l1, m_l1 ≤ K → ∀ (x10 : Int) (w : World), slices_IndexFunc_impl_Crossing_impl_Crossing_109.l1 K m_l1 s x10 = some r1 → St w0 w (L) → G prog 88 19 [(0, .slice A_a s.length c_a), (1, .func (.func 61) #[] #[]), (7, .int .i64 (s.length : Int)), (8, .int .i64 x10)] k_l1 w (slices_IndexFunc_impl_Crossing_impl_Crossing_109.post w0 L r1) := by
   intro m_l1
   induction m_l1 using Nat.strongRecOn with
   | _ m_l1 ih_l1 =>
    intro hm_l1 x10 w H HS
    cases m_l1 with
    | zero => rw [slices_IndexFunc_impl_Crossing_impl_Crossing_109.l1] at H; cases H
    | succ n_l1 =>
     rw [slices_IndexFunc_impl_Crossing_impl_Crossing_109.l1] at H
     subst hk_l1
     refine G.run 3 rfl ?_
     rcases ite_elim H with ⟨c20, H⟩ | ⟨c20, H⟩
     ·
      refine G.yesB rfl (decide_eq_true c20) (G.run 6 rfl ?_)
      obtain ⟨c21, H⟩ := ite_none H
      obtain ⟨e22, h23, H⟩ := bnd_elim H
      obtain ⟨t24, h25, H⟩ := Option.bind_eq_some_iff.1 H
      refine G.region (GO.ps 3 rfl (GO.ix rfl rfl rfl underlying28 sz61 (r_a _ HS).2.2.1 c21.1 c21.2 rfl (GO.ldRdA (T := T_GCrossing) (n := x10.toNat) HS r_a rfl rfl (getD_eq (ltN c21) h23) ag61 rfl (GO.clo rfl rfl func61 fok61.1 fok61.2 rfl rfl (impl_Diagram_drawing_fn1.calls HS  h25) (fun _ wd26 ⟨h27, HS⟩ => ⟨_, h27, (GO.nil ?_)⟩)))))
      rcases ite_elim H with ⟨c28, H⟩ | ⟨c28, H⟩
      ·
       refine G.yesB rfl c28 (G.run 2 rfl ?_)
       obtain rfl := Option.some.inj H
       exact G.ret1 _ func88 rfl rfl ⟨rfl, HS⟩
      refine G.noB rfl (bnot_of c28) (G.run 4 rfl (G.weak ?_ (ih_l1 n_l1 (Nat.lt_succ_of_le (Nat.le_refl _)) (Nat.le_of_succ_le hm_l1) _ _ H HS)))
      exact ⟨rfl, rfl, rfl, rfl, trivial⟩
     refine G.noB rfl (decide_eq_false c20) (G.run 3 rfl ?_)
     obtain rfl := Option.some.inj H
     exact G.ret1 _ func88 rfl rfl ⟨rfl, HS⟩
  refine G.weak ?_ (at_l1 K (Nat.le_refl _) _ _ H HS)
  exact ⟨rfl, rfl, rfl, rfl, trivial⟩
theorem slices_ContainsFunc_impl_Crossing_impl_Crossing_109.calls {w0 w : World} {L : List HObj} {K : Nat} {s : List GCrossing} {A_a : Option Addr} {c_a : Nat} {r1 : Bool} (HS : St w0 w (L)) (r_a : RdIn w0 L T_GCrossing A_a c_a (fun _ => ()) s) (H : slices_ContainsFunc_impl_Crossing_impl_Crossing_109.f K s = some r1) :
    Calls prog 60 #[.slice A_a s.length c_a, .func (.func 61) #[] #[]] w (slices_ContainsFunc_impl_Crossing_impl_Crossing_109.post w0 L r1) := by
  unfold slices_ContainsFunc_impl_Crossing_impl_Crossing_109.f at H
  refine Calls.of_G func60 rfl rfl rfl ?_
  refine G.run 3 rfl ?_
  obtain ⟨t1, h2, H⟩ := Option.bind_eq_some_iff.1 H
  refine G.region (GO.ps 2 rfl (GO.fn rfl func88 fok88.1 fok88.2 rfl rfl (slices_IndexFunc_impl_Crossing_impl_Crossing_109.calls HS r_a h2) (fun _ wd3 ⟨h4, HS⟩ => ⟨_, h4, (GO.ps 2 rfl (GO.nil ?_))⟩)))
  obtain rfl := Option.some.inj H
  exact G.ret1 _ func60 rfl rfl ⟨rfl, HS⟩
theorem math_bits_Mul64.calls {w0 w : World} {L : List HObj} {x y : Int} {r1 r2 : Int} (HS : St w0 w (L)) (H : math_bits_Mul64.f x y = some (r1, r2)) :
    Calls prog 121 #[.int .u64 x, .int .u64 y] w (math_bits_Mul64.post w0 L r1 r2) := by
  unfold math_bits_Mul64.f at H
  refine Calls.of_G func121 rfl rfl rfl ?_
  refine G.run 3 rfl (G.region (GO.move rfl rfl rfl (GO.bits (by simp) rfl rfl rfl rfl (GO.assign rfl rfl rfl (GO.nil (G.seq (G.region (GO.move rfl rfl rfl (GO.shr rfl rfl rfl (by decide) (by decide) rfl (GO.assign rfl rfl rfl (GO.nil (G.seq (G.region (GO.move rfl rfl rfl ?_))))))))))))))
  refine GO.bits (by simp) rfl rfl rfl rfl (GO.assign rfl rfl rfl (GO.nil (G.seq (G.region (GO.move rfl rfl rfl (GO.shr rfl rfl rfl (by decide) (by decide) rfl (GO.assign rfl rfl rfl (GO.nil (G.run 3 rfl (G.region (GO.ps 4 rfl (GO.shr rfl rfl rfl (by decide) (by decide) rfl (GO.ps 2 rfl (GO.nil ?_))))))))))))))
  refine G.seq (G.region (GO.move rfl rfl rfl (GO.bits (by simp) rfl rfl rfl rfl (GO.assign rfl rfl rfl (GO.nil (G.seq (G.region (GO.move rfl rfl rfl (GO.shr rfl rfl rfl (by decide) (by decide) rfl (GO.assign rfl rfl rfl (GO.nil (G.run 3 rfl (G.region (GO.ps 6 rfl ?_))))))))))))))
  refine GO.shr rfl rfl rfl (by decide) (by decide) rfl (GO.ps 2 rfl (GO.nil (G.run 2 rfl ?_)))
  obtain ⟨rfl, rfl⟩ := some2 H
  exact G.ret2 _ _ func121 rfl rfl rfl ⟨rfl, HS⟩
theorem math_bits_Mul.calls {w0 w : World} {L : List HObj} {x y : Int} {r1 r2 : Int} (HS : St w0 w (L)) (H : math_bits_Mul.f x y = some (r1, r2)) :
    Calls prog 115 #[.int .u64 x, .int .u64 y] w (math_bits_Mul.post w0 L r1 r2) := by
  unfold math_bits_Mul.f at H
  refine Calls.of_G func115 rfl rfl rfl ?_
  refine G.run 6 rfl ?_
  obtain ⟨t1, t2, h3, H⟩ := bind2_elim H
  refine G.region (GO.ps 2 rfl (GO.fn rfl func121 fok121.1 fok121.2 rfl rfl (math_bits_Mul64.calls HS  h3) (fun _ wd4 ⟨h5, HS⟩ => ⟨_, h5, (GO.ps 5 rfl (GO.nil (G.run 2 rfl ?_)))⟩)))
  obtain ⟨rfl, rfl⟩ := some2 H
  exact G.ret2 _ _ func115 rfl rfl rfl ⟨rfl, HS⟩
theorem slices_Repeat_impl_end_impl_end.calls {w0 w : World} {L : List HObj} {K : Nat} {x : List GEnd} {count : Int} {A_a : Option Addr} {c_a : Nat} {r1 : List GEnd} (HS : St w0 w (L)) (r_a : RdIn w0 L T_GEnd A_a c_a (fun _ => ()) x) (H : slices_Repeat_impl_end_impl_end.f K x count = some r1) :
    Calls prog 89 #[.slice A_a x.length c_a, .int .i64 count] w (slices_Repeat_impl_end_impl_end.post w0 L r1) := by
  unfold slices_Repeat_impl_end_impl_end.f at H
  refine Calls.of_G func89 rfl rfl rfl ?_
  refine G.run 5 rfl ?_
  rcases ite_elim H with ⟨c2, H⟩ | ⟨c2, H⟩
  ·
   refine G.yesB rfl (decide_eq_true c2) ?_
   cases H
  refine G.noB rfl (decide_eq_false c2) (G.run 2 rfl ?_)
  obtain ⟨t3, t4, h5, H⟩ := bind2_elim H
  refine G.region (GO.move rfl rfl rfl (GO.lenS rfl rfl underlying64 rfl (GO.conv rfl rfl underlying3 underlying127 rfl (GO.move rfl rfl rfl (GO.conv rfl rfl underlying3 underlying127 rfl (GO.fn rfl func115 fok115.1 fok115.2 rfl rfl (math_bits_Mul.calls HS  h5) (fun _ wd6 ⟨h7, HS⟩ => ⟨_, h7, (GO.ps 5 rfl (GO.nil (G.run 2 rfl ?_)))⟩)))))))
  refine G.nameT (fun k_j2 hk_j2 => ?_)
  have at_j2 : ∀ m_j2, m_j2 ≤ K → ∀ (x10 : Bool) (w : World), slices_Repeat_impl_end_impl_end.j2 K m_j2 x t4 x10 = some r1 → St w0 w (L) → G prog 89 48 [(0, .slice A_a x.length c_a), (6, .int .u64 t4), (26, .bool x10)] k_j2 w (slices_Repeat_impl_end_impl_end.post w0 L r1) := by
   intro m_j2 hm_j2 x10 w H HS
   cases m_j2 with
   | zero => rw [slices_Repeat_impl_end_impl_end.j2] at H; cases H
   | succ n_j2 =>
    rw [slices_Repeat_impl_end_impl_end.j2] at H
    subst hk_j2
    rcases ite_elim H with ⟨c12, H⟩ | ⟨c12, H⟩
    ·
     refine G.yesB rfl c12 ?_
     cases H
    refine G.noB rfl (bnot_of c12) (G.run 2 rfl ?_)
    obtain ⟨c13, H⟩ := ite_none H
    obtain ⟨c14, H⟩ := ite_none H
    refine G.region (GO.move rfl rfl rfl (GO.conv rfl rfl underlying127 underlying3 rfl (GO.make (T := T_GEnd) z_GEnd () HS flat_flat rfl rfl rfl underlying64 inf94 rfl rfl rfl c13 c14 rfl fun b15 wd16 HS => GO.assign rfl rfl rfl (GO.nil (G.seq ?_)))))
    have h18 := over_len (xs := (List.replicate (w64 (t4)).toNat z_GEnd)) (ys := x) (Nat.le_of_eq (Nat.zero_add _))
    refine G.region (GO.ps 2 rfl (GO.copyP (T := T_GEnd) (j := 0) (l := 0) HS rfl (RdIn.drop 1 r_a) flat_flat rfl rfl rfl underlying64 sz94 rfl wholeC (Nat.le_of_eq (Nat.zero_add _)) (fun _ _ => rfl) (fun _ => rfl) fun wd17 HS => GO.assign rfl rfl rfl (GO.nil (G.len (t := 7) (m := (over (List.replicate (w64 (t4)).toNat z_GEnd) 0 (x.take ((List.replicate (w64 (t4)).toNat z_GEnd).length))).length) rfl (by simp only [List.length_set, h18] <;> rfl) (G.run 3 rfl ?_)))))
    refine G.name (fun k_l4 hk_l4 => ?_)
    have at_l4 : ∀ m_l4, m_l4 ≤ n_j2 → ∀ (newslice_23 : List GEnd) (n_24 : Int) (w : World), slices_Repeat_impl_end_impl_end.l4 K m_l4 newslice_23 n_24 = some r1 → St w0 w (Own T_GEnd 94 (some ⟨b15, 0, none⟩) ((w64 (t4)).toNat) (fun _ => ()) newslice_23 :: L) → G prog 89 48 [(7, .slice (some ⟨b15, 0, none⟩) newslice_23.length ((w64 (t4)).toNat)), (8, .int .i64 n_24)] k_l4 w (slices_Repeat_impl_end_impl_end.post w0 L r1) := by
     intro m_l4
     induction m_l4 using Nat.strongRecOn with
     | _ m_l4 ih_l4 =>
      intro hm_l4 newslice_23 n_24 w H HS
      cases m_l4 with
      | zero => rw [slices_Repeat_impl_end_impl_end.l4] at H; cases H
      | succ n_l4 =>
       rw [slices_Repeat_impl_end_impl_end.l4] at H
       subst hk_l4
       refine G.run 2 rfl (G.region (GO.ps 2 rfl (GO.lenS rfl rfl underlying64 rfl (GO.lss rfl rfl rfl rfl (GO.nil ?_)))))
       rcases ite_elim H with ⟨c29, H⟩ | ⟨c29, H⟩
       ·
        refine G.yesB rfl (decide_eq_true c29) (G.run 2 rfl ?_)
        obtain ⟨c30, H⟩ := ite_none H
        have h32 := over_len (xs := newslice_23) (ys := ((newslice_23.take n_24.toNat).drop 0)) (cutN (leN c30) (Nat.le_refl _))
        refine G.lex mixed [0, 1, 2, 4, 5, 3, 6, 7, 8, 9] (by kernel_rfl) ?_
        replace HS := HS.drew
        refine GX.ps 5 rfl (GX.l1 rfl rfl rfl (fun _ g => GO.slL (T := T_GEnd) HS (RdIn.own (j := 0) rfl) rfl rfl rfl underlying64 sz94 c30.1 c30.2 rfl g) rfl (GX.l1 rfl rfl rfl (fun _ g => GO.slH (T := T_GEnd) HS (RdIn.own (j := 0) rfl) rfl rfl rfl underlying64 sz94 c30.1 c30.2 rfl g) rfl (GX.l2 rfl (GO.copyP (T := T_GEnd) (j := 0) (l := n_24.toNat) HS rfl (RdIn.cut (RdIn.own (j := 0) rfl) (Nat.zero_le _) (leN c30)) flat_flat rfl rfl rfl underlying64 sz94 rfl (cutC (Nat.le_refl _) ((RdIn.own (j := 0) rfl) _ HS).1) (cutN (leN c30) (Nat.le_refl _)) (fun _ _ => rfl) (fun _ => rfl) fun wd31 HS => GX.fin trivial (GX.ps 2 rfl (GX.nil (G.len (t := 7) (m := (over newslice_23 n_24.toNat (((newslice_23.take n_24.toNat).drop 0).take (((newslice_23.take newslice_23.length).drop n_24.toNat).length))).length) rfl (by simp only [List.length_set, h32] <;> rfl) (G.run 2 rfl (G.weak ?_ (ih_l4 n_l4 (Nat.lt_succ_of_le (Nat.le_refl _)) (Nat.le_of_succ_le hm_l4) _ _ _ H HS))))))))))
        exact ⟨rfl, rfl, trivial⟩
       refine G.noB rfl (decide_eq_false c29) (G.run 3 rfl ?_)
       obtain rfl := Option.some.inj H
       exact G.ret1 _ func89 rfl rfl ⟨_, _, rfl, HS⟩
    refine G.weak ?_ (at_l4 n_j2 (Nat.le_refl _) _ _ _ H HS)
    exact ⟨rfl, rfl, trivial⟩
  rcases ite_elim H with ⟨c33, H⟩ | ⟨c33, H⟩
  ·
   refine G.region (GO.ps 3 rfl (GO.known (t := 23) rfl (decide_eq_true c33) (GO.off rfl rfl rfl rfl rfl rfl (GO.off rfl rfl rfl rfl rfl rfl (GO.pickT rfl rfl rfl rfl rfl (GO.nil (G.weak ?_ (at_j2 K (Nat.le_refl _) _ _ H HS))))))))
   exact ⟨rfl, rfl, rfl, trivial⟩
  refine G.region (GO.ps 3 rfl (GO.known (t := 23) rfl (decide_eq_false c33) (GO.on rfl rfl rfl rfl (GO.move rfl rfl rfl (GO.back (GO.on rfl rfl rfl rfl (GO.gtr rfl rfl rfl rfl (GO.back (GO.pickF rfl rfl rfl rfl rfl (GO.nil (G.weak ?_ (at_j2 K (Nat.le_refl _) _ _ H HS))))))))))))
  exact ⟨rfl, rfl, rfl, trivial⟩
theorem impl_Crossing_ends.calls {w0 w : World} {L : List HObj} {c_A c_B : Int} {c_C c_D : Int} {c_Sign r1 : Int} {r2 r3 r4 : Int} (HS : St w0 w (L)) (H : impl_Crossing_ends.f c_A c_B c_C c_D c_Sign = some (r1, r2, r3, r4)) :
    Calls prog 81 #[.agg [.int .i64 c_A, .int .i64 c_B, .int .i64 c_C, .int .i64 c_D, .int .i64 c_Sign].toArray] w (impl_Crossing_ends.post w0 L r1 r2 r3 r4) := by
  unfold impl_Crossing_ends.f at H
  refine Calls.of_G func81 rfl rfl rfl ?_
  refine G.seq (G.region (GO.box (cs := [.int .i64 c_A, .int .i64 c_B, .int .i64 c_C, .int .i64 c_D, .int .i64 c_Sign]) HS rfl rfl rfl rfl fun b1 wd2 HS => GO.alloc HS rfl zr104 rfl rfl fun b3 wd4 HS => GO.nil (G.seq (G.region (GO.fld (⟨b1, 0, none⟩) rfl rfl fl61_0 rfl rfl (GO.ldBox (j := 1) HS rfl rfl rfl rfl na2 rfl (GO.fld (⟨b1, 1, none⟩) rfl rfl fl61_1 rfl rfl (GO.ldBox (j := 1) HS rfl rfl rfl rfl na2 rfl (GO.fld (⟨b1, 2, none⟩) rfl rfl fl61_2 rfl rfl (GO.ldBox (j := 1) HS rfl rfl rfl rfl na2 rfl (GO.fld (⟨b1, 3, none⟩) rfl rfl fl61_3 rfl rfl (GO.ldBox (j := 1) HS rfl rfl rfl rfl na2 rfl ?_))))))))))))
  refine GO.buildV (.agg [.int .i64 c_A, .int .i64 c_B, .int .i64 c_C, .int .i64 c_D].toArray) rfl rfl (fun _ => by kernel_rfl) rfl (GO.stBox (j := 0) (vs := [.int .i64 c_A, .int .i64 c_B, .int .i64 c_C, .int .i64 c_D]) ([.int .i64 c_A, .int .i64 c_B, .int .i64 c_C, .int .i64 c_D]) HS rfl rfl rfl rfl rfl (htA ag104) rfl rfl rfl fun wd5 HS => GO.nil ?_)
  obtain ⟨rfl, rfl, rfl, rfl⟩ := some4 H
  exact G.ret1 _ func81 rfl (Res1.boxA (j := 0) (vs := [.int .i64 c_A, .int .i64 c_B, .int .i64 c_C, .int .i64 c_D]) HS rfl rfl rfl ag104) ⟨rfl, (HS.pk 2 [] rfl)⟩
theorem impl_Crossing_enters.calls {w0 w : World} {L : List HObj} {c_A c_B : Int} {c_C c_D : Int} {c_Sign p : Int} {r1 : Bool} (HS : St w0 w (L)) (H : impl_Crossing_enters.f c_A c_B c_C c_D c_Sign p = some r1) :
    Calls prog 90 #[.agg [.int .i64 c_A, .int .i64 c_B, .int .i64 c_C, .int .i64 c_D, .int .i64 c_Sign].toArray, .int .i64 p] w (impl_Crossing_enters.post w0 L r1) := by
  unfold impl_Crossing_enters.f at H
  refine Calls.of_G func90 rfl rfl rfl ?_
  refine G.seq (G.region (GO.box (cs := [.int .i64 c_A, .int .i64 c_B, .int .i64 c_C, .int .i64 c_D, .int .i64 c_Sign]) HS rfl rfl rfl rfl fun b1 wd2 HS => GO.assign rfl rfl rfl (GO.nil (G.seq ?_))))
  rcases ite_elim H with ⟨c3, H⟩ | ⟨c3, H⟩
  ·
   refine G.region (GO.ps 3 rfl (GO.known (t := 7) rfl (decide_eq_true c3) (GO.off rfl rfl rfl rfl rfl rfl (GO.off rfl rfl rfl rfl rfl rfl (GO.off rfl rfl rfl rfl rfl rfl (GO.off rfl rfl rfl rfl rfl rfl (GO.off rfl rfl rfl rfl rfl rfl (GO.ps 2 rfl (GO.nil ?_)))))))))
   obtain rfl := Option.some.inj H
   exact G.ret1 _ func90 rfl rfl ⟨rfl, (HS.pk 1 [] rfl)⟩
  refine G.region (GO.ps 3 rfl (GO.known (t := 7) rfl (decide_eq_false c3) (GO.on rfl rfl rfl rfl (GO.move rfl rfl rfl (GO.back (GO.on rfl rfl rfl rfl (GO.fld (⟨b1, 4, none⟩) rfl rfl fl61_4 rfl rfl (GO.back (GO.on rfl rfl rfl rfl (GO.ldBox (j := 0) HS rfl rfl rfl rfl na2 rfl (GO.back (GO.on rfl rfl rfl rfl (GO.add rfl rfl rfl rfl (GO.back ?_))))))))))))))
  refine GO.on rfl rfl rfl rfl (GO.eql rfl rfl rfl rfl (GO.back (GO.ps 2 rfl (GO.nil ?_))))
  obtain rfl := Option.some.inj H
  exact G.ret1 _ func90 rfl rfl ⟨rfl, (HS.pk 1 [] rfl)⟩
theorem impl_size_impl_end.calls {w0 w : World} {L : List HObj} {list : List GEnd} {A_a : Option Addr} {c_a : Nat} {r1 : Int} (HS : St w0 w (L)) (r_a : RdIn w0 L T_GEnd A_a c_a (fun _ => ()) list) (H : impl_size_impl_end.f list = some r1) :
    Calls prog 68 #[.slice A_a list.length c_a] w (impl_size_impl_end.post w0 L r1) := by
  unfold impl_size_impl_end.f at H
  refine Calls.of_G func68 rfl rfl rfl ?_
  refine G.run 3 rfl (G.region (GO.move rfl rfl rfl (GO.lenS rfl rfl underlying64 rfl (GO.assign rfl rfl rfl (GO.nil ?_)))))
  obtain rfl := Option.some.inj H
  exact G.ret1 _ func68 rfl rfl ⟨rfl, HS⟩
theorem impl_hasIndex_impl_end.calls {w0 w : World} {L : List HObj} {list : List GEnd} {i : Int} {A_a : Option Addr} {c_a : Nat} {r1 : Bool} (HS : St w0 w (L)) (r_a : RdIn w0 L T_GEnd A_a c_a (fun _ => ()) list) (H : impl_hasIndex_impl_end.f list i = some r1) :
    Calls prog 67 #[.slice A_a list.length c_a, .int .i64 i] w (impl_hasIndex_impl_end.post w0 L r1) := by
  unfold impl_hasIndex_impl_end.f at H
  refine Calls.of_G func67 rfl rfl rfl ?_
  refine G.run 3 rfl ?_
  obtain ⟨t1, h2, H⟩ := Option.bind_eq_some_iff.1 H
  obtain ⟨t5, h6, H⟩ := Option.bind_eq_some_iff.1 H
  refine G.region (GO.ps 2 rfl (GO.fn rfl func68 fok68.1 fok68.2 rfl rfl (impl_size_impl_end.calls HS r_a h2) (fun _ wd3 ⟨h4, HS⟩ => ⟨_, h4, (GO.sub rfl rfl rfl rfl (GO.fn rfl func59 fok59.1 fok59.2 rfl rfl (impl_inRange.calls HS  h6) (fun _ wd7 ⟨h8, HS⟩ => ⟨_, h8, (GO.assign rfl rfl rfl (GO.nil ?_))⟩)))⟩)))
  obtain rfl := Option.some.inj H
  exact G.ret1 _ func67 rfl rfl ⟨rfl, HS⟩
theorem impl_Diagram_arrows.calls {w0 w : World} {L : List HObj} {K : Nat} {d_Crossings : List GCrossing} {d_Circles : Int} {A_a : Option Addr} {c_a : Nat} {r1 r2 : List GEnd} {r3 : Bool} (HS : St w0 w (L)) (r_a : RdIn w0 L T_GCrossing A_a c_a (fun _ => ()) d_Crossings) (H : impl_Diagram_arrows.f K d_Crossings d_Circles = some (r1, r2, r3)) :
    Calls prog 62 #[.agg [.slice A_a d_Crossings.length c_a, .int .i64 d_Circles].toArray] w (impl_Diagram_arrows.post w0 L r1 r2 r3) := by
  unfold impl_Diagram_arrows.f at H
  refine Calls.of_G func62 rfl rfl rfl ?_
  refine G.seq (G.region (GO.box (cs := [.slice A_a d_Crossings.length c_a, .int .i64 d_Circles]) HS rfl rfl rfl rfl fun b1 wd2 HS => GO.alloc HS rfl zr66 rfl rfl fun b3 wd4 HS => GO.assign rfl rfl rfl (GO.nil (G.seq (G.region (GO.fld (⟨b1, 0, none⟩) rfl rfl fl30_0 rfl rfl (GO.ldBox (j := 1) HS rfl rfl rfl rfl na28 rfl (GO.lenS rfl rfl underlying28 rfl (GO.ps 2 rfl (GO.nil (G.seq ?_)))))))))))
  obtain ⟨t7, h8, H⟩ := Option.bind_eq_some_iff.1 H
  obtain ⟨t15, h16, H⟩ := Option.bind_eq_some_iff.1 H
  refine G.region (GO.buildV (.agg [.int .i64 (-1), .int .i64 0].toArray) rfl rfl (fun _ => by kernel_rfl) rfl (GO.buildS (el := 94) ([.int .i64 (-1), .int .i64 0]) HS rfl rfl (fun _ => by kernel_rfl) rfl fun b5 wd6 HS => GO.move rfl rfl rfl ?_))
  replace HS := HS.boxRow (T := T_GEnd) (j := 0) rfl flat_flat (fun _ => ()) ([(⟨(-1), 0⟩ : GEnd)] : List GEnd) rfl (bndL rfl)
  refine GO.lenC (t := 16) (m := ([(⟨(-1), 0⟩ : GEnd)] : List GEnd).length) (c' := ([(⟨(-1), 0⟩ : GEnd)] : List GEnd).length) rfl rfl rfl (GO.fn rfl func89 fok89.1 fok89.2 rfl rfl (slices_Repeat_impl_end_impl_end.calls HS (RdIn.own (j := 0) rfl) h8) (fun _ wd11 ⟨A9, c10, h12, HS⟩ => ⟨_, h12, (GO.buildV (.agg [.int .i64 (-1), .int .i64 0].toArray) rfl rfl (fun _ => by kernel_rfl) rfl (GO.buildS (el := 94) ([.int .i64 (-1), .int .i64 0]) HS rfl rfl (fun _ => by kernel_rfl) rfl fun b13 wd14 HS => GO.move rfl rfl rfl ?_))⟩))
  replace HS := HS.boxRow (T := T_GEnd) (j := 0) rfl flat_flat (fun _ => ()) ([(⟨(-1), 0⟩ : GEnd)] : List GEnd) rfl (bndL rfl)
  refine GO.lenC (t := 20) (m := ([(⟨(-1), 0⟩ : GEnd)] : List GEnd).length) (c' := ([(⟨(-1), 0⟩ : GEnd)] : List GEnd).length) rfl rfl rfl (GO.fn rfl func89 fok89.1 fok89.2 rfl rfl (slices_Repeat_impl_end_impl_end.calls HS (RdIn.own (j := 0) rfl) h16) (fun _ wd19 ⟨A17, c18, h20, HS⟩ => ⟨_, h20, (GO.buildV (.agg [.slice A9 t7.length c10, .slice A17 t15.length c18].toArray) rfl rfl (fun _ => by kernel_rfl) rfl (GO.alloc HS rfl zr66 rfl rfl fun b21 wd22 HS => GO.stBox (j := 0) (vs := [.slice A9 t7.length c10, .slice A17 t15.length c18]) ([.slice A9 t7.length c10, .slice A17 t15.length c18]) HS rfl rfl rfl rfl rfl (htA ag66) rfl rfl rfl fun wd23 HS => GO.nil (G.run 2 rfl (G.region (GO.fld (⟨b1, 0, none⟩) rfl rfl fl30_0 rfl rfl (GO.ldBox (j := 6) HS rfl rfl rfl rfl na28 rfl (GO.lenS rfl rfl underlying28 rfl (GO.move rfl rfl rfl (GO.nil (G.run 2 rfl ?_))))))))))⟩))
  refine G.name (fun k_l1 hk_l1 => ?_)
  have at_l1 : ∀ m_l1, m_l1 ≤ K → ∀ (a_193 a_194 : List GEnd) (x195 : Int) (w : World), impl_Diagram_arrows.l1 K m_l1 d_Crossings a_193 a_194 x195 = some (r1, r2, r3) → St w0 w (Box b3 66 [.slice none 0 0, .slice none 0 0] :: Box b21 66 [.slice A9 a_193.length c10, .slice A17 a_194.length c18] :: Own T_GEnd 94 A9 c10 (fun _ => ()) a_193 :: Own T_GEnd 94 A17 c18 (fun _ => ()) a_194 :: L) → G prog 62 67 [(2, .pointer (some ⟨b3, 0, none⟩)), (5, .pointer (some ⟨b21, 0, none⟩)), (25, .slice A_a d_Crossings.length c_a), (26, .int .i64 (d_Crossings.length : Int)), (27, .int .i64 x195)] k_l1 w (impl_Diagram_arrows.post w0 L r1 r2 r3) := by
   intro m_l1
   induction m_l1 using Nat.strongRecOn with
   | _ m_l1 ih_l1 =>
    intro hm_l1 a_193 a_194 x195 w H HS
    cases m_l1 with
    | zero => rw [impl_Diagram_arrows.l1] at H; cases H
    | succ n_l1 =>
     rw [impl_Diagram_arrows.l1] at H
     subst hk_l1
     refine G.run 3 rfl ?_
     rcases ite_elim H with ⟨c365, H⟩ | ⟨c365, H⟩
     ·
      refine G.yesB rfl (decide_eq_true c365) (G.run 4 rfl ?_)
      obtain ⟨c366, H⟩ := ite_none H
      obtain ⟨e367, h368, H⟩ := bnd_elim H
      refine G.region (GO.move rfl rfl rfl (GO.ix rfl rfl rfl underlying28 sz61 ((RdIn.drop 4 r_a) _ HS).2.2.1 c366.1 c366.2 rfl (GO.ldRdA (T := T_GCrossing) (n := x195.toNat) HS (RdIn.drop 4 r_a) rfl rfl (getD_eq (ltN c366) h368) ag61 rfl (GO.alloc HS rfl zr61 rfl rfl fun b369 wd370 HS => GO.assign rfl rfl rfl (GO.stBox (j := 0) (vs := [.int .i64 e367.A, .int .i64 e367.B, .int .i64 e367.C, .int .i64 e367.D, .int .i64 e367.Sign]) ([.int .i64 e367.A, .int .i64 e367.B, .int .i64 e367.C, .int .i64 e367.D, .int .i64 e367.Sign]) HS rfl rfl rfl rfl rfl (htA ag61) rfl rfl rfl fun wd371 HS => GO.nil (G.seq ?_))))))
      obtain ⟨t372, t373, t374, t375, h376, H⟩ := bind4_elim H
      refine G.region (GO.ldBoxA (j := 0) ([.int .i64 e367.A, .int .i64 e367.B, .int .i64 e367.C, .int .i64 e367.D, .int .i64 e367.Sign]) HS rfl rfl rfl rfl ag61 rfl (GO.fn rfl func81 fok81.1 fok81.2 rfl rfl (impl_Crossing_ends.calls HS  h376) (fun _ wd377 ⟨h378, HS⟩ => ⟨_, h378, (GO.move rfl rfl rfl (GO.nil (G.run 2 rfl ?_)))⟩)))
      refine G.name (fun k_l10 hk_l10 => ?_)
      have at_l10 : ∀ m_l10, m_l10 ≤ n_l1 → ∀ (a_428 a_429 : List GEnd) (x430 : Int) (w : World), impl_Diagram_arrows.l10 K m_l10 d_Crossings x195 e367 t372 t373 t374 t375 a_428 a_429 x430 = some (r1, r2, r3) → St w0 w (Box b3 66 [.slice none 0 0, .slice none 0 0] :: Box b21 66 [.slice A9 a_428.length c10, .slice A17 a_429.length c18] :: Own T_GEnd 94 A9 c10 (fun _ => ()) a_428 :: Own T_GEnd 94 A17 c18 (fun _ => ()) a_429 :: Box b369 61 [.int .i64 e367.A, .int .i64 e367.B, .int .i64 e367.C, .int .i64 e367.D, .int .i64 e367.Sign] :: L) → G prog 62 67 [(2, .pointer (some ⟨b3, 0, none⟩)), (5, .pointer (some ⟨b21, 0, none⟩)), (6, .int .i64 x195), (7, .pointer (some ⟨b369, 0, none⟩)), (25, .slice A_a d_Crossings.length c_a), (26, .int .i64 (d_Crossings.length : Int)), (27, .int .i64 x195), (33, .agg [.int .i64 t372, .int .i64 t373, .int .i64 t374, .int .i64 t375].toArray), (34, .int .i64 x430)] k_l10 w (impl_Diagram_arrows.post w0 L r1 r2 r3) := by
       intro m_l10
       induction m_l10 using Nat.strongRecOn with
       | _ m_l10 ih_l10 =>
        intro hm_l10 a_428 a_429 x430 w H HS
        cases m_l10 with
        | zero => rw [impl_Diagram_arrows.l10] at H; cases H
        | succ n_l10 =>
         rw [impl_Diagram_arrows.l10] at H
         subst hk_l10
         refine G.run 3 rfl ?_
         rcases ite_elim H with ⟨c482, H⟩ | ⟨c482, H⟩
         ·
          refine G.yesB rfl (decide_eq_true c482) (G.run 4 rfl ?_)
          obtain ⟨c483, H⟩ := ite_none H
          refine G.region (GO.move rfl rfl rfl (GO.ixArr ([t372, t373, t374, t375] : List Int) rfl rfl rfl underlying104 underlying2 sz2 rfl c483.1 c483.2 rfl (GO.ps 2 rfl (GO.nil (G.seq (G.region (GO.fld (⟨b21, 0, none⟩) rfl rfl fl66_0 rfl rfl (GO.ldBox (j := 1) HS rfl rfl rfl rfl na64 rfl (GO.assign rfl rfl rfl (GO.nil (G.run 2 rfl ?_)))))))))))
          obtain ⟨t484, h485, H⟩ := Option.bind_eq_some_iff.1 H
          refine G.region (GO.ldBoxA (j := 4) ([.int .i64 e367.A, .int .i64 e367.B, .int .i64 e367.C, .int .i64 e367.D, .int .i64 e367.Sign]) HS rfl rfl rfl rfl ag61 rfl (GO.move rfl rfl rfl (GO.fn rfl func90 fok90.1 fok90.2 rfl rfl (impl_Crossing_enters.calls HS  h485) (fun _ wd486 ⟨h487, HS⟩ => ⟨_, h487, (GO.nil ?_)⟩))))
          rcases ite_elim H with ⟨c492, H⟩ | ⟨c492, H⟩
          ·
           refine G.yesB rfl c492 (G.region (GO.fld (⟨b21, 1, none⟩) rfl rfl fl66_1 rfl rfl (GO.ldBox (j := 1) HS rfl rfl rfl rfl na64 rfl (GO.assign rfl rfl rfl (GO.nil (G.run 2 rfl ?_))))))
           obtain ⟨t501, h502, H⟩ := Option.bind_eq_some_iff.1 H
           rcases ite_elim H with ⟨c505, H⟩ | ⟨c505, H⟩
           ·
            obtain ⟨c506, H⟩ := ite_none H
            obtain ⟨e507, h508, H⟩ := bnd_elim H
            refine G.region (GO.ps 2 rfl (GO.fn rfl func67 fok67.1 fok67.2 rfl rfl (impl_hasIndex_impl_end.calls HS (RdIn.own (j := 3) rfl) h502) (fun _ wd503 ⟨h504, HS⟩ => ⟨_, h504, (GO.ps 2 rfl (GO.known (t := 49) rfl (congrArg Bool.not c505) (GO.on rfl rfl rfl rfl (GO.move rfl rfl rfl (GO.back (GO.on rfl rfl rfl rfl (GO.move rfl rfl rfl (GO.back (GO.on rfl rfl rfl rfl (GO.ix rfl rfl rfl underlying64 sz94 ((RdIn.own (j := 3) rfl) _ HS).2.2.1 c506.1 c506.2 rfl (GO.back (GO.on rfl rfl rfl rfl ?_))))))))))))⟩)))
            refine GO.fld (ea A17 (((([t372, t373, t374, t375] : List Int).getD x430.toNat 0).toNat) * 2)) rfl rfl fl94_0 rfl rfl (GO.back (GO.on rfl rfl rfl rfl (GO.ldRd (T := T_GEnd) (n := (([t372, t373, t374, t375] : List Int).getD x430.toNat 0).toNat) (o := 0) HS (RdIn.own (j := 3) rfl) rfl rfl (getD_eq (ltN c506) h508) rfl rfl na2 rfl (GO.back (GO.on rfl rfl rfl rfl (GO.geq rfl rfl rfl rfl (GO.back (GO.pickF rfl rfl rfl rfl rfl (GO.nil ?_)))))))))
            rcases ite_elim H with ⟨c509, H⟩ | ⟨c509, H⟩
            ·
             refine G.yesB rfl (decide_eq_true c509) (G.seq (G.region (GO.ldBoxA (j := 1) ([.slice A9 a_428.length c10, .slice A17 a_429.length c18]) HS rfl rfl rfl rfl ag66 rfl (GO.stBox (j := 0) (vs := [.slice A9 a_428.length c10, .slice A17 a_429.length c18]) ([.slice A9 a_428.length c10, .slice A17 a_429.length c18]) HS rfl rfl rfl rfl rfl (htA ag66) rfl rfl rfl fun wd510 HS => GO.assign rfl rfl rfl (GO.nil ?_)))))
             obtain ⟨rfl, rfl, rfl⟩ := some3 H
             exact G.ret2 _ _ func62 rfl (Res1.boxA (j := 0) (vs := [.slice A9 a_428.length c10, .slice A17 a_429.length c18]) HS rfl rfl rfl ag66) rfl ⟨_, _, _, _, rfl, (HS.pk 5 [2, 3] rfl)⟩
            refine G.noB rfl (decide_eq_false c509) (G.skip (G.region (GO.ps 4 rfl (GO.buildV (.agg [.int .i64 x195, .int .i64 x430].toArray) rfl rfl (fun _ => by kernel_rfl) rfl (GO.ix rfl rfl rfl underlying64 sz94 ((RdIn.own (j := 3) rfl) _ HS).2.2.1 c506.1 c506.2 rfl (GO.stRow (T := T_GEnd) (j := 3) (n := (([t372, t373, t374, t375] : List Int).getD x430.toNat 0).toNat) (o := 0) (vs := [.int .i64 x195, .int .i64 x430]) (⟨x195, x430⟩ : GEnd) HS rfl flat_flat rfl rfl rfl rfl (htA ag94) rfl (getD_some (d := z_GEnd) (ltN c506)) rfl rfl fun wd511 HS => GO.nil (G.len (t := 50) (m := (a_429.set ((([t372, t373, t374, t375] : List Int).getD x430.toNat 0).toNat) (⟨x195, x430⟩ : GEnd)).length) rfl (by simp only [List.length_set] <;> rfl) ?_)))))))
            replace HS := HS.boxEq (j := 1) (cs' := [.slice A9 a_428.length c10, .slice A17 (a_429.set ((([t372, t373, t374, t375] : List Int).getD x430.toNat 0).toNat) (⟨x195, x430⟩ : GEnd)).length c18]) rfl (by simp only [List.length_set] <;> rfl)
            refine G.run 3 rfl (G.weak ?_ (ih_l10 n_l10 (Nat.lt_succ_of_le (Nat.le_refl _)) (Nat.le_of_succ_le hm_l10) _ _ _ _ H HS))
            exact ⟨rfl, rfl, rfl, rfl, rfl, rfl, rfl, rfl, rfl, trivial⟩
           refine G.region (GO.ps 2 rfl (GO.fn rfl func67 fok67.1 fok67.2 rfl rfl (impl_hasIndex_impl_end.calls HS (RdIn.own (j := 3) rfl) h502) (fun _ wd503 ⟨h504, HS⟩ => ⟨_, h504, (GO.ps 2 rfl (GO.known (t := 49) rfl (congrArg Bool.not (bnot_of c505)) (GO.off rfl rfl rfl rfl rfl rfl (GO.off rfl rfl rfl rfl rfl rfl (GO.off rfl rfl rfl rfl rfl rfl (GO.off rfl rfl rfl rfl rfl rfl (GO.off rfl rfl rfl rfl rfl rfl (GO.off rfl rfl rfl rfl rfl rfl (GO.pickT rfl rfl rfl rfl rfl (GO.nil (G.run 2 rfl (G.region ?_))))))))))))⟩)))
           refine GO.ldBoxA (j := 1) ([.slice A9 a_428.length c10, .slice A17 a_429.length c18]) HS rfl rfl rfl rfl ag66 rfl (GO.stBox (j := 0) (vs := [.slice A9 a_428.length c10, .slice A17 a_429.length c18]) ([.slice A9 a_428.length c10, .slice A17 a_429.length c18]) HS rfl rfl rfl rfl rfl (htA ag66) rfl rfl rfl fun wd512 HS => GO.assign rfl rfl rfl (GO.nil ?_))
           obtain ⟨rfl, rfl, rfl⟩ := some3 H
           exact G.ret2 _ _ func62 rfl (Res1.boxA (j := 0) (vs := [.slice A9 a_428.length c10, .slice A17 a_429.length c18]) HS rfl rfl rfl ag66) rfl ⟨_, _, _, _, rfl, (HS.pk 5 [2, 3] rfl)⟩
          refine G.noB rfl (bnot_of c492) (G.run 3 rfl ?_)
          obtain ⟨t521, h522, H⟩ := Option.bind_eq_some_iff.1 H
          rcases ite_elim H with ⟨c525, H⟩ | ⟨c525, H⟩
          ·
           obtain ⟨c526, H⟩ := ite_none H
           obtain ⟨e527, h528, H⟩ := bnd_elim H
           refine G.region (GO.ps 2 rfl (GO.fn rfl func67 fok67.1 fok67.2 rfl rfl (impl_hasIndex_impl_end.calls HS (RdIn.own (j := 2) rfl) h522) (fun _ wd523 ⟨h524, HS⟩ => ⟨_, h524, (GO.ps 2 rfl (GO.known (t := 49) rfl (congrArg Bool.not c525) (GO.on rfl rfl rfl rfl (GO.move rfl rfl rfl (GO.back (GO.on rfl rfl rfl rfl (GO.move rfl rfl rfl (GO.back (GO.on rfl rfl rfl rfl (GO.ix rfl rfl rfl underlying64 sz94 ((RdIn.own (j := 2) rfl) _ HS).2.2.1 c526.1 c526.2 rfl (GO.back (GO.on rfl rfl rfl rfl ?_))))))))))))⟩)))
           refine GO.fld (ea A9 (((([t372, t373, t374, t375] : List Int).getD x430.toNat 0).toNat) * 2)) rfl rfl fl94_0 rfl rfl (GO.back (GO.on rfl rfl rfl rfl (GO.ldRd (T := T_GEnd) (n := (([t372, t373, t374, t375] : List Int).getD x430.toNat 0).toNat) (o := 0) HS (RdIn.own (j := 2) rfl) rfl rfl (getD_eq (ltN c526) h528) rfl rfl na2 rfl (GO.back (GO.on rfl rfl rfl rfl (GO.geq rfl rfl rfl rfl (GO.back (GO.pickF rfl rfl rfl rfl rfl (GO.nil ?_)))))))))
           rcases ite_elim H with ⟨c529, H⟩ | ⟨c529, H⟩
           ·
            refine G.yesB rfl (decide_eq_true c529) (G.seq (G.region (GO.ldBoxA (j := 1) ([.slice A9 a_428.length c10, .slice A17 a_429.length c18]) HS rfl rfl rfl rfl ag66 rfl (GO.stBox (j := 0) (vs := [.slice A9 a_428.length c10, .slice A17 a_429.length c18]) ([.slice A9 a_428.length c10, .slice A17 a_429.length c18]) HS rfl rfl rfl rfl rfl (htA ag66) rfl rfl rfl fun wd530 HS => GO.assign rfl rfl rfl (GO.nil ?_)))))
            obtain ⟨rfl, rfl, rfl⟩ := some3 H
            exact G.ret2 _ _ func62 rfl (Res1.boxA (j := 0) (vs := [.slice A9 a_428.length c10, .slice A17 a_429.length c18]) HS rfl rfl rfl ag66) rfl ⟨_, _, _, _, rfl, (HS.pk 5 [2, 3] rfl)⟩
           refine G.noB rfl (decide_eq_false c529) (G.skip (G.region (GO.ps 4 rfl (GO.buildV (.agg [.int .i64 x195, .int .i64 x430].toArray) rfl rfl (fun _ => by kernel_rfl) rfl (GO.ix rfl rfl rfl underlying64 sz94 ((RdIn.own (j := 2) rfl) _ HS).2.2.1 c526.1 c526.2 rfl (GO.stRow (T := T_GEnd) (j := 2) (n := (([t372, t373, t374, t375] : List Int).getD x430.toNat 0).toNat) (o := 0) (vs := [.int .i64 x195, .int .i64 x430]) (⟨x195, x430⟩ : GEnd) HS rfl flat_flat rfl rfl rfl rfl (htA ag94) rfl (getD_some (d := z_GEnd) (ltN c526)) rfl rfl fun wd531 HS => GO.nil (G.len (t := 50) (m := (a_428.set ((([t372, t373, t374, t375] : List Int).getD x430.toNat 0).toNat) (⟨x195, x430⟩ : GEnd)).length) rfl (by simp only [List.length_set] <;> rfl) ?_)))))))
           replace HS := HS.boxEq (j := 1) (cs' := [.slice A9 (a_428.set ((([t372, t373, t374, t375] : List Int).getD x430.toNat 0).toNat) (⟨x195, x430⟩ : GEnd)).length c10, .slice A17 a_429.length c18]) rfl (by simp only [List.length_set] <;> rfl)
           refine G.run 3 rfl (G.weak ?_ (ih_l10 n_l10 (Nat.lt_succ_of_le (Nat.le_refl _)) (Nat.le_of_succ_le hm_l10) _ _ _ _ H HS))
           exact ⟨rfl, rfl, rfl, rfl, rfl, rfl, rfl, rfl, rfl, trivial⟩
          refine G.region (GO.ps 2 rfl (GO.fn rfl func67 fok67.1 fok67.2 rfl rfl (impl_hasIndex_impl_end.calls HS (RdIn.own (j := 2) rfl) h522) (fun _ wd523 ⟨h524, HS⟩ => ⟨_, h524, (GO.ps 2 rfl (GO.known (t := 49) rfl (congrArg Bool.not (bnot_of c525)) (GO.off rfl rfl rfl rfl rfl rfl (GO.off rfl rfl rfl rfl rfl rfl (GO.off rfl rfl rfl rfl rfl rfl (GO.off rfl rfl rfl rfl rfl rfl (GO.off rfl rfl rfl rfl rfl rfl (GO.off rfl rfl rfl rfl rfl rfl (GO.pickT rfl rfl rfl rfl rfl (GO.nil (G.run 2 rfl (G.region ?_))))))))))))⟩)))
          refine GO.ldBoxA (j := 1) ([.slice A9 a_428.length c10, .slice A17 a_429.length c18]) HS rfl rfl rfl rfl ag66 rfl (GO.stBox (j := 0) (vs := [.slice A9 a_428.length c10, .slice A17 a_429.length c18]) ([.slice A9 a_428.length c10, .slice A17 a_429.length c18]) HS rfl rfl rfl rfl rfl (htA ag66) rfl rfl rfl fun wd532 HS => GO.assign rfl rfl rfl (GO.nil ?_))
          obtain ⟨rfl, rfl, rfl⟩ := some3 H
          exact G.ret2 _ _ func62 rfl (Res1.boxA (j := 0) (vs := [.slice A9 a_428.length c10, .slice A17 a_429.length c18]) HS rfl rfl rfl ag66) rfl ⟨_, _, _, _, rfl, (HS.pk 5 [2, 3] rfl)⟩
         refine G.noB rfl (decide_eq_false c482) (G.run 4 rfl (G.weak ?_ (ih_l1 n_l10 (by omega) (by omega) _ _ _ _ H (HS.pk 5 [0, 1, 2, 3] rfl))))
         exact ⟨rfl, rfl, rfl, rfl, rfl, trivial⟩
      refine G.weak ?_ (at_l10 n_l1 (Nat.le_refl _) _ _ _ _ H (HS.pk 5 [1, 2, 3, 4, 0] rfl))
      exact ⟨rfl, rfl, rfl, rfl, rfl, rfl, rfl, rfl, rfl, trivial⟩
     refine G.noB rfl (decide_eq_false c365) (G.run 2 rfl (G.region (GO.ldBoxA (j := 1) ([.slice A9 a_193.length c10, .slice A17 a_194.length c18]) HS rfl rfl rfl rfl ag66 rfl (GO.stBox (j := 0) (vs := [.slice A9 a_193.length c10, .slice A17 a_194.length c18]) ([.slice A9 a_193.length c10, .slice A17 a_194.length c18]) HS rfl rfl rfl rfl rfl (htA ag66) rfl rfl rfl fun wd533 HS => GO.assign rfl rfl rfl (GO.nil ?_)))))
     obtain ⟨rfl, rfl, rfl⟩ := some3 H
     exact G.ret2 _ _ func62 rfl (Res1.boxA (j := 0) (vs := [.slice A9 a_193.length c10, .slice A17 a_194.length c18]) HS rfl rfl rfl ag66) rfl ⟨_, _, _, _, rfl, (HS.pk 4 [2, 3] rfl)⟩
  refine G.weak ?_ (at_l1 K (Nat.le_refl _) _ _ _ _ H (HS.pk 7 [5, 0, 3, 1] rfl))
  exact ⟨rfl, rfl, rfl, rfl, rfl, trivial⟩
theorem impl_Diagram_other.calls {w0 w : World} {L : List HObj} {d_Crossings : List GCrossing} {d_Circles : Int} {a_from a_to : List GEnd} {e_crossing e_position : Int} {A_a : Option Addr} {c_a : Nat} {A_b : Option Addr} {c_b : Nat} {A_c : Option Addr} {c_c : Nat} {r1 r2 : Int} (HS : St w0 w (L)) (r_a : RdIn w0 L T_GCrossing A_a c_a (fun _ => ()) d_Crossings) (r_b : RdIn w0 L T_GEnd A_b c_b (fun _ => ()) a_from) (r_c : RdIn w0 L T_GEnd A_c c_c (fun _ => ()) a_to) (H : impl_Diagram_other.f d_Crossings d_Circles a_from a_to e_crossing e_position = some (r1, r2)) :
    Calls prog 91 #[.agg [.slice A_a d_Crossings.length c_a, .int .i64 d_Circles].toArray, .agg [.slice A_b a_from.length c_b, .slice A_c a_to.length c_c].toArray, .agg [.int .i64 e_crossing, .int .i64 e_position].toArray] w (impl_Diagram_other.post w0 L r1 r2) := by
  unfold impl_Diagram_other.f at H
  refine Calls.of_G func91 rfl rfl rfl ?_
  refine G.seq (G.region (GO.box (cs := [.slice A_a d_Crossings.length c_a, .int .i64 d_Circles]) HS rfl rfl rfl rfl fun b1 wd2 HS => GO.box (cs := [.slice A_b a_from.length c_b, .slice A_c a_to.length c_c]) HS rfl rfl rfl rfl fun b3 wd4 HS => GO.box (cs := [.int .i64 e_crossing, .int .i64 e_position]) HS rfl rfl rfl rfl fun b5 wd6 HS => GO.alloc HS rfl zr94 rfl rfl fun b7 wd8 HS => GO.nil (G.seq ?_)))
  obtain ⟨c9, H⟩ := ite_none H
  obtain ⟨e10, h11, H⟩ := bnd_elim H
  refine G.region (GO.fld (⟨b1, 0, none⟩) rfl rfl fl30_0 rfl rfl (GO.ldBox (j := 3) HS rfl rfl rfl rfl na28 rfl (GO.fld (⟨b5, 0, none⟩) rfl rfl fl94_0 rfl rfl (GO.ldBox (j := 1) HS rfl rfl rfl rfl na2 rfl (GO.ix rfl rfl rfl underlying28 sz61 ((RdIn.drop 4 r_a) _ HS).2.2.1 c9.1 c9.2 rfl (GO.ldRdA (T := T_GCrossing) (n := e_crossing.toNat) HS (RdIn.drop 4 r_a) rfl rfl (getD_eq (ltN c9) h11) ag61 rfl (GO.alloc HS rfl zr61 rfl rfl fun b12 wd13 HS => GO.stBox (j := 0) (vs := [.int .i64 e10.A, .int .i64 e10.B, .int .i64 e10.C, .int .i64 e10.D, .int .i64 e10.Sign]) ([.int .i64 e10.A, .int .i64 e10.B, .int .i64 e10.C, .int .i64 e10.D, .int .i64 e10.Sign]) HS rfl rfl rfl rfl rfl (htA ag61) rfl rfl rfl fun wd14 HS => GO.nil (G.seq ?_))))))))
  obtain ⟨t15, t16, t17, t18, h19, H⟩ := bind4_elim H
  obtain ⟨c22, H⟩ := ite_none H
  refine G.lexS mixed (fun w => St w0 w (Box b12 61 [.int .i64 e10.A, .int .i64 e10.B, .int .i64 e10.C, .int .i64 e10.D, .int .i64 e10.Sign] :: Box b5 94 [.int .i64 e_crossing, .int .i64 e_position] :: L)) [0, 3] [2, 0, 3, 1, 4, 5] 6 (by kernel_rfl) (by kernel_rfl) (HS.drew.pk 5 [0, 2] rfl) ?_
  replace HS := HS.drew
  refine GX.l0 rfl rfl (fun _ _ g => GO.fld (⟨b5, 1, none⟩) rfl rfl fl94_1 rfl rfl g) rfl (GX.ls rfl rfl rfl (HS.pk 5 [0, 2] rfl) (fun _ HS _ g => GO.ldBoxA (j := 0) ([.int .i64 e10.A, .int .i64 e10.B, .int .i64 e10.C, .int .i64 e10.D, .int .i64 e10.Sign]) HS rfl rfl rfl rfl ag61 rfl g) rfl (GX.ls rfl rfl rfl (HS.pk 5 [0, 2] rfl) (fun _ HS _ g => GO.ldBox (j := 1) HS rfl rfl rfl rfl na2 rfl g) rfl (GX.l2 rfl (GO.fn rfl func81 fok81.1 fok81.2 rfl rfl (impl_Crossing_ends.calls HS  h19) (fun _ wd20 ⟨h21, HS⟩ => ⟨_, h21, (GX.fin (HS.pk 5 [0, 2] rfl) (GX.l0 rfl rfl (fun _ _ g => GO.ixArr ([t15, t16, t17, t18] : List Int) rfl rfl rfl underlying104 underlying2 sz2 rfl c22.1 c22.2 rfl g) rfl (GX.ps 1 rfl (GX.nil (G.run 2 rfl ?_)))))⟩)))))
  obtain ⟨t23, h24, H⟩ := Option.bind_eq_some_iff.1 H
  refine G.region (GO.ldBoxA (j := 0) ([.int .i64 e10.A, .int .i64 e10.B, .int .i64 e10.C, .int .i64 e10.D, .int .i64 e10.Sign]) HS rfl rfl rfl rfl ag61 rfl (GO.fld (⟨b5, 1, none⟩) rfl rfl fl94_1 rfl rfl (GO.ldBox (j := 2) HS rfl rfl rfl rfl na2 rfl (GO.fn rfl func90 fok90.1 fok90.2 rfl rfl (impl_Crossing_enters.calls HS  h24) (fun _ wd25 ⟨h26, HS⟩ => ⟨_, h26, (GO.nil ?_)⟩)))))
  rcases ite_elim H with ⟨c27, H⟩ | ⟨c27, H⟩
  ·
   refine G.yesB rfl c27 (G.seq ?_)
   obtain ⟨c28, H⟩ := ite_none H
   obtain ⟨e29, h30, H⟩ := bnd_elim H
   refine G.region (GO.fld (⟨b3, 0, none⟩) rfl rfl fl66_0 rfl rfl (GO.ldBox (j := 3) HS rfl rfl rfl rfl na64 rfl (GO.move rfl rfl rfl (GO.ix rfl rfl rfl underlying64 sz94 ((RdIn.drop 5 r_b) _ HS).2.2.1 c28.1 c28.2 rfl (GO.ldRdA (T := T_GEnd) (n := (([t15, t16, t17, t18] : List Int).getD e_position.toNat 0).toNat) HS (RdIn.drop 5 r_b) rfl rfl (getD_eq (ltN c28) h30) ag94 rfl (GO.stBox (j := 1) (vs := [.int .i64 e29.crossing, .int .i64 e29.position]) ([.int .i64 e29.crossing, .int .i64 e29.position]) HS rfl rfl rfl rfl rfl (htA ag94) rfl rfl rfl fun wd31 HS => GO.nil ?_))))))
   obtain ⟨rfl, rfl⟩ := some2 H
   exact G.ret1 _ func91 rfl (Res1.boxA (j := 1) (vs := [.int .i64 e29.crossing, .int .i64 e29.position]) HS rfl rfl rfl ag94) ⟨rfl, (HS.pk 5 [] rfl)⟩
  refine G.noB rfl (bnot_of c27) (G.run 2 rfl ?_)
  obtain ⟨c32, H⟩ := ite_none H
  obtain ⟨e33, h34, H⟩ := bnd_elim H
  refine G.region (GO.fld (⟨b3, 1, none⟩) rfl rfl fl66_1 rfl rfl (GO.ldBox (j := 3) HS rfl rfl rfl rfl na64 rfl (GO.move rfl rfl rfl (GO.ix rfl rfl rfl underlying64 sz94 ((RdIn.drop 5 r_c) _ HS).2.2.1 c32.1 c32.2 rfl (GO.ldRdA (T := T_GEnd) (n := (([t15, t16, t17, t18] : List Int).getD e_position.toNat 0).toNat) HS (RdIn.drop 5 r_c) rfl rfl (getD_eq (ltN c32) h34) ag94 rfl (GO.stBox (j := 1) (vs := [.int .i64 e33.crossing, .int .i64 e33.position]) ([.int .i64 e33.crossing, .int .i64 e33.position]) HS rfl rfl rfl rfl rfl (htA ag94) rfl rfl rfl fun wd35 HS => GO.nil ?_))))))
  obtain ⟨rfl, rfl⟩ := some2 H
  exact G.ret1 _ func91 rfl (Res1.boxA (j := 1) (vs := [.int .i64 e33.crossing, .int .i64 e33.position]) HS rfl rfl rfl ag94) ⟨rfl, (HS.pk 5 [] rfl)⟩
theorem impl_Diagram_regions.calls {w0 w : World} {L : List HObj} {K : Nat} {d_Crossings : List GCrossing} {d_Circles : Int} {a_from a_to : List GEnd} {A_a : Option Addr} {c_a : Nat} {A_b : Option Addr} {c_b : Nat} {A_c : Option Addr} {c_c : Nat} {r1 : List (List Int)} (HS : St w0 w (L)) (r_a : RdIn w0 L T_GCrossing A_a c_a (fun _ => ()) d_Crossings) (r_b : RdIn w0 L T_GEnd A_b c_b (fun _ => ()) a_from) (r_c : RdIn w0 L T_GEnd A_c c_c (fun _ => ()) a_to) (H : impl_Diagram_regions.f K d_Crossings d_Circles a_from a_to = some r1) :
    Calls prog 64 #[.agg [.slice A_a d_Crossings.length c_a, .int .i64 d_Circles].toArray, .agg [.slice A_b a_from.length c_b, .slice A_c a_to.length c_c].toArray] w (impl_Diagram_regions.post w0 L r1) := by
  unfold impl_Diagram_regions.f at H
  refine Calls.of_G func64 rfl rfl rfl ?_
  refine G.seq ?_
  refine G.region ?_
  refine GO.box (cs := [.slice A_a d_Crossings.length c_a, .int .i64 d_Circles]) HS rfl rfl rfl rfl ?_; intro b1 wd2 HS
  refine GO.box (cs := [.slice A_b a_from.length c_b, .slice A_c a_to.length c_c]) HS rfl rfl rfl rfl ?_; intro b3 wd4 HS
  refine GO.assign rfl rfl rfl ?_
  refine GO.nil ?_
  refine G.run 3 rfl ?_
  obtain ⟨c5, H⟩ := ite_none H
  obtain ⟨c6, H⟩ := ite_none H
  refine G.region ?_
  refine GO.fld (⟨b1, 0, none⟩) rfl rfl fl30_0 rfl rfl ?_
  refine GO.ldBox (j := 1) HS rfl rfl rfl rfl na28 rfl ?_
  refine GO.lenS rfl rfl underlying28 rfl ?_
  refine GO.mul rfl rfl rfl rfl ?_
  refine GO.make (T := TBool) false () HS flat_flat rfl rfl rfl underlying71 inf4 rfl rfl rfl c5 c6 rfl ?_; intro b7 wd8 HS
  refine GO.assign rfl rfl rfl ?_
  refine GO.nil ?_
  refine G.run 2 rfl ?_
  refine G.region ?_
  refine GO.move rfl rfl rfl ?_
  refine GO.lenS rfl rfl underlying71 rfl ?_
  refine GO.move rfl rfl rfl ?_
  refine GO.nil ?_
  refine G.run 2 rfl ?_
  refine G.name (fun k_l1 hk_l1 => ?_)
  have at_l1 : ∀ m_l1, m_l1 ≤ K → ∀ (A82 : Option Addr) (c83 : Nat) (out_84 : List (List Int)) (y85 : Nat → (Ty.slice 2 (TInt .i64)).Lay) (seen_86 : List Bool) (x87 : Int) (w : World), impl_Diagram_regions.l1 K m_l1 d_Crossings d_Circles a_from a_to out_84 seen_86 x87 = some r1 → St w0 w (Box b1 30 [.slice A_a d_Crossings.length c_a, .int .i64 d_Circles] :: Box b3 66 [.slice A_b a_from.length c_b, .slice A_c a_to.length c_c] :: Own (Ty.slice 2 (TInt .i64)) 74 A82 c83 y85 out_84 :: Own TBool 4 (some ⟨b7, 0, none⟩) ((w64 (4 * (d_Crossings.length : Int))).toNat) (fun _ => ()) seen_86 :: L) → G prog 64 58 [(2, .pointer (some ⟨b1, 0, none⟩)), (3, .pointer (some ⟨b3, 0, none⟩)), (5, .slice A82 out_84.length c83), (6, .slice (some ⟨b7, 0, none⟩) seen_86.length ((w64 (4 * (d_Crossings.length : Int))).toNat)), (17, .int .i64 ((List.replicate (w64 (4 * (d_Crossings.length : Int))).toNat false).length : Int)), (18, .int .i64 x87)] k_l1 w (impl_Diagram_regions.post w0 L r1) := by
   intro m_l1
   induction m_l1 using Nat.strongRecOn with
   | _ m_l1 ih_l1 =>
    intro hm_l1 A82 c83 out_84 y85 seen_86 x87 w H HS
    cases m_l1 with
    | zero => rw [impl_Diagram_regions.l1] at H; cases H
    | succ n_l1 =>
     rw [impl_Diagram_regions.l1] at H
     subst hk_l1
     refine G.run 3 rfl ?_
     rcases ite_elim H with ⟨c161, H⟩ | ⟨c161, H⟩
     ·
      refine G.yesB rfl (decide_eq_true c161) ?_
      refine G.run 12 rfl ?_
      refine G.name (fun k_l4 hk_l4 => ?_)
      have at_l4 : ∀ m_l4, m_l4 ≤ n_l1 → ∀ (seen_179 : List Bool) (A180 : Option Addr) (c181 : Nat) (region_182 : List Int) (k_183 : Int) (w : World), impl_Diagram_regions.l4 K m_l4 d_Crossings d_Circles a_from a_to out_84 x87 seen_179 region_182 k_183 = some r1 → St w0 w (Box b1 30 [.slice A_a d_Crossings.length c_a, .int .i64 d_Circles] :: Box b3 66 [.slice A_b a_from.length c_b, .slice A_c a_to.length c_c] :: Own (Ty.slice 2 (TInt .i64)) 74 A82 c83 y85 out_84 :: Own TBool 4 (some ⟨b7, 0, none⟩) ((w64 (4 * (d_Crossings.length : Int))).toNat) (fun _ => ()) seen_179 :: Own (TInt .i64) 2 A180 c181 (fun _ => ()) region_182 :: L) → G prog 64 58 [(2, .pointer (some ⟨b1, 0, none⟩)), (3, .pointer (some ⟨b3, 0, none⟩)), (5, .slice A82 out_84.length c83), (6, .slice (some ⟨b7, 0, none⟩) seen_179.length ((w64 (4 * (d_Crossings.length : Int))).toNat)), (8, .slice A180 region_182.length c181), (9, .int .i64 k_183), (17, .int .i64 ((List.replicate (w64 (4 * (d_Crossings.length : Int))).toNat false).length : Int)), (18, .int .i64 x87)] k_l4 w (impl_Diagram_regions.post w0 L r1) := by
       intro m_l4
       induction m_l4 using Nat.strongRecOn with
       | _ m_l4 ih_l4 =>
        intro hm_l4 seen_179 A180 c181 region_182 k_183 w H HS
        cases m_l4 with
        | zero => rw [impl_Diagram_regions.l4] at H; cases H
        | succ n_l4 =>
         rw [impl_Diagram_regions.l4] at H
         subst hk_l4
         refine G.run 2 rfl ?_
         obtain ⟨c209, H⟩ := ite_none H
         refine G.region ?_
         refine GO.ps 2 rfl ?_
         refine GO.ix rfl rfl rfl underlying71 sz4 (fun _ => ⟨_, _, rfl⟩) c209.1 c209.2 rfl ?_
         refine GO.ldRd (T := TBool) (n := k_183.toNat) (o := 0) HS (RdIn.own (j := 3) rfl) rfl rfl (getD_some (d := false) (ltN c209)) rfl rfl na4 rfl ?_
         refine GO.not rfl rfl rfl ?_
         refine GO.nil ?_
         rcases ite_elim H with ⟨c210, H⟩ | ⟨c210, H⟩
         ·
          refine G.noB rfl (congrArg Bool.not c210) ?_
          refine G.run 2 rfl ?_
          refine G.region ?_
          refine GO.move rfl rfl rfl ?_
          refine GO.lenS rfl rfl underlying74 rfl ?_
          refine GO.gtr rfl rfl rfl rfl ?_
          refine GO.nil ?_
          rcases ite_elim H with ⟨c211, H⟩ | ⟨c211, H⟩
          ·
           refine G.yesB rfl (decide_eq_true c211) ?_
           obtain ⟨c217, H⟩ := ite_none H
           refine G.region ?_
           refine GO.ps 2 rfl ?_
           refine GO.buildS (el := 74) ([.slice A180 region_182.length c181]) HS rfl rfl (fun _ => by kernel_rfl) rfl ?_; intro b212 wd213 HS
           replace HS := HS.pk 6 [3, 0, 5, 1, 2, 4] rfl
           refine GO.appR (S := (TInt .i64)) (u := 2) HS rfl rfl rfl underlying55 inf74 rfl rfl c217 rfl ?_; intro A215 c216 y218 wd214 HS
           refine GO.assign rfl rfl rfl ?_
           refine GO.nil ?_
           refine G.run 3 rfl ?_
           refine G.weak ?_ (ih_l1 n_l4 (by omega) (by omega) _ _ _ _ _ _ _ H (HS.pk 5 [2, 3, 0, 4] rfl))
           exact ⟨rfl, rfl, rfl, rfl, rfl, rfl, trivial⟩
          refine G.noB rfl (decide_eq_false c211) ?_
          refine G.run 4 rfl ?_
          refine G.weak ?_ (ih_l1 n_l4 (by omega) (by omega) _ _ _ _ _ _ _ H (HS.pk 5 [0, 1, 2, 3] rfl))
          exact ⟨rfl, rfl, rfl, rfl, rfl, rfl, trivial⟩
         refine G.yesB rfl (congrArg Bool.not (bnot_of c210)) ?_
         refine G.run 3 rfl ?_
         refine G.region ?_
         refine GO.ps 2 rfl ?_
         refine GO.ix rfl rfl rfl underlying71 sz4 (fun _ => ⟨_, _, rfl⟩) c209.1 c209.2 rfl ?_
         refine GO.stRow (T := TBool) (j := 3) (n := k_183.toNat) (o := 0) (vs := [.bool true]) true HS rfl flat_flat rfl rfl rfl rfl (htN na4 rfl) rfl (getD_some (d := false) (ltN c209)) rfl rfl ?_; intro wd219 HS
         refine GO.nil ?_
         refine G.len (t := 6) (m := (seen_179.set k_183.toNat true).length) rfl (by simp only [List.length_set] <;> rfl) ?_
         refine G.seq ?_
         obtain ⟨c225, H⟩ := ite_none H
         refine G.region ?_
         refine GO.ps 2 rfl ?_
         refine GO.buildS (el := 2) ([.int .i64 k_183]) HS rfl rfl (fun _ => by kernel_rfl) rfl ?_; intro b220 wd221 HS
         refine GO.app1 (T := (TInt .i64)) (j := 5) (jb := 0) k_183 HS rfl rfl flat_flat rfl rfl rfl underlying74 inf2 rfl rfl rfl c225 rfl ?_; intro A223 c224 wd222 HS
         refine GO.assign rfl rfl rfl ?_
         refine GO.nil ?_
         refine G.seq ?_
         obtain ⟨t226, t227, h228, H⟩ := bind2_elim H
         refine G.region ?_
         refine GO.ldBoxA (j := 1) ([.slice A_a d_Crossings.length c_a, .int .i64 d_Circles]) HS rfl rfl rfl rfl ag30 rfl ?_
         refine GO.ldBoxA (j := 2) ([.slice A_b a_from.length c_b, .slice A_c a_to.length c_c]) HS rfl rfl rfl rfl ag66 rfl ?_
         refine GO.move rfl rfl rfl ?_
         refine GO.quo rfl rfl rfl (by decide) rfl ?_
         refine GO.ps 2 rfl ?_
         refine GO.rem rfl rfl rfl (by decide) rfl ?_
         refine GO.buildV (.agg [.int .i64 (w64 (k_183.tdiv 4)), .int .i64 ((w64 (k_183 + 1)).tmod 4)].toArray) rfl rfl (fun _ => by kernel_rfl) rfl ?_
         refine GO.fn rfl func91 fok91.1 fok91.2 rfl rfl (impl_Diagram_other.calls HS (RdIn.drop 6 r_a) (RdIn.drop 6 r_b) (RdIn.drop 6 r_c) h228) (fun _ wd229 ⟨h230, HS⟩ => ⟨_, h230, ?_⟩)
         refine GO.alloc HS rfl zr94 rfl rfl ?_; intro b231 wd232 HS
         refine GO.stBox (j := 0) (vs := [.int .i64 t226, .int .i64 t227]) ([.int .i64 t226, .int .i64 t227]) HS rfl rfl rfl rfl rfl (htA ag94) rfl rfl rfl ?_; intro wd233 HS
         refine GO.nil ?_
         refine G.region ?_
         refine GO.fld (⟨b231, 0, none⟩) rfl rfl fl94_0 rfl rfl ?_
         refine GO.ldBox (j := 0) HS rfl rfl rfl rfl na2 rfl ?_
         refine GO.mul rfl rfl rfl rfl ?_
         refine GO.fld (⟨b231, 1, none⟩) rfl rfl fl94_1 rfl rfl ?_
         refine GO.ldBox (j := 0) HS rfl rfl rfl rfl na2 rfl ?_
         refine GO.ps 2 rfl ?_
         refine GO.nil ?_
         refine G.run 2 rfl ?_
         refine G.weak ?_ (ih_l4 n_l4 (Nat.lt_succ_of_le (Nat.le_refl _)) (Nat.le_of_succ_le hm_l4) _ _ _ _ _ _ H (HS.pk 7 [2, 3, 4, 5, 6] rfl))
         exact ⟨rfl, rfl, rfl, rfl, rfl, rfl, rfl, rfl, trivial⟩
      replace HS := HS.nilRow (TInt .i64) 2 (fun _ => ())
      refine G.weak ?_ (at_l4 n_l1 (Nat.le_refl _) _ _ _ _ _ _ H (HS.pk 5 [1, 2, 3, 4, 0] rfl))
      exact ⟨rfl, rfl, rfl, rfl, rfl, rfl, rfl, rfl, trivial⟩
     refine G.noB rfl (decide_eq_false c161) ?_
     refine G.run 3 rfl ?_
     obtain rfl := Option.some.inj H
     exact G.ret1 _ func64 rfl rfl ⟨_, _, _, rfl, (HS.pk 4 [2] rfl)⟩
  replace HS := HS.nilRow (Ty.slice 2 (TInt .i64)) 74 (fun _ => ⟨none, 0, (fun _ => ())⟩)
  refine G.weak ?_ (at_l1 K (Nat.le_refl _) _ _ _ _ _ _ _ H (HS.pk 4 [3, 2, 0, 1] rfl))
  exact ⟨rfl, rfl, rfl, rfl, rfl, rfl, trivial⟩
theorem impl_size_int64.calls {w0 w : World} {L : List HObj} {list : List (List Int)} {A_a : Option Addr} {c_a : Nat} {y_a : Nat → (Ty.slice 2 (TInt .i64)).Lay} {r1 : Int} (HS : St w0 w (L)) (r_a : RdIn w0 L (Ty.slice 2 (TInt .i64)) A_a c_a y_a list) (H : impl_size_int64.f list = some r1) :
    Calls prog 63 #[.slice A_a list.length c_a] w (impl_size_int64.post w0 L r1) := by
  unfold impl_size_int64.f at H
  refine Calls.of_G func63 rfl rfl rfl ?_
  refine G.run 3 rfl (G.region (GO.move rfl rfl rfl (GO.lenS rfl rfl underlying55 rfl (GO.assign rfl rfl rfl (GO.nil ?_)))))
  obtain rfl := Option.some.inj H
  exact G.ret1 _ func63 rfl rfl ⟨rfl, HS⟩
theorem impl_counting.calls {w0 w : World} {L : List HObj} {K : Nat} {n_ : Int} {r1 : List Int} (HS : St w0 w (L)) (H : impl_counting.f K n_ = some r1) :
    Calls prog 93 #[.int .i64 n_] w (impl_counting.post w0 L r1) := by
  unfold impl_counting.f at H
  refine Calls.of_G func93 rfl rfl rfl ?_
  refine G.run 9 rfl ?_
  refine G.name (fun k_l1 hk_l1 => ?_)
  have at_l1 : ∀ m_l1, m_l1 ≤ K → ∀ (A8 : Option Addr) (c9 : Nat) (out_10 : List Int) (x11 : Int) (w : World), impl_counting.l1 K m_l1 n_ out_10 x11 = some r1 → St w0 w (Own (TInt .i64) 2 A8 c9 (fun _ => ()) out_10 :: L) → G prog 93 15 [(3, .slice A8 out_10.length c9), (5, .int .i64 n_), (6, .int .i64 x11)] k_l1 w (impl_counting.post w0 L r1) := by
   intro m_l1
   induction m_l1 using Nat.strongRecOn with
   | _ m_l1 ih_l1 =>
    intro hm_l1 A8 c9 out_10 x11 w H HS
    cases m_l1 with
    | zero => rw [impl_counting.l1] at H; cases H
    | succ n_l1 =>
     rw [impl_counting.l1] at H
     subst hk_l1
     refine G.run 3 rfl ?_
     rcases ite_elim H with ⟨c19, H⟩ | ⟨c19, H⟩
     ·
      refine G.yesB rfl (decide_eq_true c19) (G.run 5 rfl ?_)
      obtain ⟨c25, H⟩ := ite_none H
      refine G.region (GO.ps 2 rfl (GO.buildS (el := 2) ([.int .i64 x11]) HS rfl rfl (fun _ => by kernel_rfl) rfl fun b20 wd21 HS => GO.app1 (T := (TInt .i64)) (j := 1) (jb := 0) x11 HS rfl rfl flat_flat rfl rfl rfl underlying74 inf2 rfl rfl rfl c25 rfl fun A23 c24 wd22 HS => GO.assign rfl rfl rfl (GO.nil (G.run 3 rfl (G.weak ?_ (ih_l1 n_l1 (Nat.lt_succ_of_le (Nat.le_refl _)) (Nat.le_of_succ_le hm_l1) _ _ _ _ _ H (HS.pk 2 [1] rfl)))))))
      exact ⟨rfl, rfl, rfl, trivial⟩
     refine G.noB rfl (decide_eq_false c19) (G.run 3 rfl ?_)
     obtain rfl := Option.some.inj H
     exact G.ret1 _ func93 rfl rfl ⟨_, _, rfl, HS⟩
  replace HS := HS.nilRow (TInt .i64) 2 (fun _ => ())
  refine G.weak ?_ (at_l1 K (Nat.le_refl _) _ _ _ _ _ H HS)
  exact ⟨rfl, rfl, rfl, trivial⟩
theorem impl_union.calls {w0 w : World} {L : List HObj} {K : Nat} {sets : List Int} {i k_ : Int} {A_a : Option Addr} {c_a : Nat} {r1 : List Int} (HS : St w0 w (Own (TInt .i64) 2 A_a c_a (fun _ => ()) sets :: L)) (H : impl_union.f K sets i k_ = some r1) :
    Calls prog 94 #[.slice A_a sets.length c_a, .int .i64 i, .int .i64 k_] w (impl_union.post w0 L A_a c_a r1) := by
  unfold impl_union.f at H
  refine Calls.of_G func94 rfl rfl rfl ?_
  refine G.seq ?_
  obtain ⟨c1, H⟩ := ite_none H
  have h2 := ((RdIn.own (j := 0) rfl) _ HS).2.2.1
  obtain ⟨c3, H⟩ := ite_none H
  have h4 := ((RdIn.own (j := 0) rfl) _ HS).2.2.1
  refine G.lex mixed [0, 1, 2, 4, 5, 6, 3, 7, 8, 9] (by kernel_rfl) ?_
  replace HS := HS.drew
  refine GX.ps 2 rfl (GX.l0 rfl rfl (fun _ _ g => GO.ix rfl rfl rfl underlying74 sz2 h2 c1.1 c1.2 rfl g) rfl (GX.ps 2 rfl (GX.l0 rfl rfl (fun _ _ g => GO.ix rfl rfl rfl underlying74 sz2 h4 c3.1 c3.2 rfl g) rfl (GX.l1 rfl rfl rfl (fun _ g => GO.ldRd (T := (TInt .i64)) (n := k_.toNat) (o := 0) HS (RdIn.own (j := 0) rfl) rfl rfl (getD_some (d := 0) (ltN c1)) rfl rfl na2 rfl g) rfl (GX.l1 rfl rfl rfl (fun _ g => GO.ldRd (T := (TInt .i64)) (n := i.toNat) (o := 0) HS (RdIn.own (j := 0) rfl) rfl rfl (getD_some (d := 0) (ltN c3)) rfl rfl na2 rfl g) rfl (GX.ps 2 rfl (GX.nil (G.seq (G.region (GO.move rfl rfl rfl (GO.lenS rfl rfl underlying74 rfl (GO.move rfl rfl rfl (GO.nil (G.run 2 rfl ?_))))))))))))))
  refine G.name (fun k_l1 hk_l1 => ?_)
  have at_l1 : ∀ m_l1, m_l1 ≤ K → ∀ (x9 : List Int) (x10 : Int) (w : World), impl_union.l1 K m_l1 sets i k_ x9 x10 = some r1 → St w0 w (Own (TInt .i64) 2 A_a c_a (fun _ => ()) x9 :: L) → G prog 94 33 [(0, .slice A_a x9.length c_a), (6, .int .i64 (sets.getD k_.toNat 0)), (7, .int .i64 (sets.getD i.toNat 0)), (18, .slice A_a x9.length c_a), (19, .int .i64 (sets.length : Int)), (20, .int .i64 x10)] k_l1 w (impl_union.post w0 L A_a c_a r1) := by
   intro m_l1
   induction m_l1 using Nat.strongRecOn with
   | _ m_l1 ih_l1 =>
    intro hm_l1 x9 x10 w H HS
    cases m_l1 with
    | zero => rw [impl_union.l1] at H; cases H
    | succ n_l1 =>
     rw [impl_union.l1] at H
     subst hk_l1
     refine G.run 3 rfl ?_
     rcases ite_elim H with ⟨c15, H⟩ | ⟨c15, H⟩
     ·
      refine G.yesB rfl (decide_eq_true c15) (G.run 4 rfl ?_)
      obtain ⟨c16, H⟩ := ite_none H
      refine G.region (GO.move rfl rfl rfl (GO.ix rfl rfl rfl underlying74 sz2 ((RdIn.own (j := 0) rfl) _ HS).2.2.1 c16.1 c16.2 rfl (GO.ldRd (T := (TInt .i64)) (n := x10.toNat) (o := 0) HS (RdIn.own (j := 0) rfl) rfl rfl (getD_some (d := 0) (ltN c16)) rfl rfl na2 rfl (GO.ps 2 rfl (GO.nil (G.run 2 rfl ?_))))))
      rcases ite_elim H with ⟨c17, H⟩ | ⟨c17, H⟩
      ·
       refine G.yesB rfl (decide_eq_true c17) (G.region (GO.ps 3 rfl (GO.ix rfl rfl rfl underlying74 sz2 ((RdIn.own (j := 0) rfl) _ HS).2.2.1 c16.1 c16.2 rfl (GO.stRow (T := (TInt .i64)) (j := 0) (n := x10.toNat) (o := 0) (vs := [.int .i64 (sets.getD i.toNat 0)]) (sets.getD i.toNat 0) HS rfl flat_flat rfl rfl rfl rfl (htN na2 rfl) rfl (getD_some (d := 0) (ltN c16)) rfl rfl fun wd18 HS => GO.nil (G.len (t := 0) (m := (x9.set x10.toNat (sets.getD i.toNat 0)).length) rfl (by simp only [List.length_set] <;> rfl) (G.len (t := 18) (m := (x9.set x10.toNat (sets.getD i.toNat 0)).length) rfl (by simp only [List.length_set] <;> rfl) (G.run 3 rfl (G.weak ?_ (ih_l1 n_l1 (Nat.lt_succ_of_le (Nat.le_refl _)) (Nat.le_of_succ_le hm_l1) _ _ _ H HS)))))))))
       exact ⟨rfl, rfl, rfl, rfl, rfl, rfl, trivial⟩
      refine G.noB rfl (decide_eq_false c17) (G.run 4 rfl (G.weak ?_ (ih_l1 n_l1 (Nat.lt_succ_of_le (Nat.le_refl _)) (Nat.le_of_succ_le hm_l1) _ _ _ H HS)))
      exact ⟨rfl, rfl, rfl, rfl, rfl, rfl, trivial⟩
     refine G.noB rfl (decide_eq_false c15) (G.exit rfl ?_)
     obtain rfl := Option.some.inj H
     exact G.end0 func94 rfl ⟨rfl, HS⟩
  refine G.weak ?_ (at_l1 K (Nat.le_refl _) _ _ _ H HS)
  exact ⟨rfl, rfl, rfl, rfl, rfl, rfl, trivial⟩
theorem impl_numbered.calls {w0 w : World} {L : List HObj} {K : Nat} {roots : List Int} {A_a : Option Addr} {c_a : Nat} {r1 : List Int} (HS : St w0 w (L)) (r_a : RdIn w0 L (TInt .i64) A_a c_a (fun _ => ()) roots) (H : impl_numbered.f K roots = some r1) :
    Calls prog 95 #[.slice A_a roots.length c_a] w (impl_numbered.post w0 L r1) := by
  unfold impl_numbered.f at H
  refine Calls.of_G func95 rfl rfl rfl ?_
  refine G.run 3 rfl (G.region (GO.newMapJ .i64 .i64 HS rfl rfl fun b1 wd2 HS => GO.assign rfl rfl rfl (GO.nil (G.run 4 rfl (G.region (GO.move rfl rfl rfl (GO.lenS rfl rfl underlying74 rfl (GO.move rfl rfl rfl (GO.nil (G.run 2 rfl ?_))))))))))
  refine G.name (fun k_l1 hk_l1 => ?_)
  have at_l1 : ∀ m_l1, m_l1 ≤ K → ∀ (numbers_16 : List (Int × Int)) (A17 : Option Addr) (c18 : Nat) (out_19 : List Int) (x20 : Int) (w : World), impl_numbered.l1 K m_l1 roots numbers_16 out_19 x20 = some r1 → St w0 w (MapJ b1 .i64 .i64 numbers_16 :: Own (TInt .i64) 2 A17 c18 (fun _ => ()) out_19 :: L) → G prog 95 36 [(3, .map (some b1)), (4, .slice A17 out_19.length c18), (10, .slice A_a roots.length c_a), (11, .int .i64 (roots.length : Int)), (12, .int .i64 x20)] k_l1 w (impl_numbered.post w0 L r1) := by
   intro m_l1
   induction m_l1 using Nat.strongRecOn with
   | _ m_l1 ih_l1 =>
    intro hm_l1 numbers_16 A17 c18 out_19 x20 w H HS
    cases m_l1 with
    | zero => rw [impl_numbered.l1] at H; cases H
    | succ n_l1 =>
     rw [impl_numbered.l1] at H
     subst hk_l1
     refine G.run 3 rfl ?_
     rcases ite_elim H with ⟨c34, H⟩ | ⟨c34, H⟩
     ·
      refine G.yesB rfl (decide_eq_true c34) (G.run 4 rfl ?_)
      obtain ⟨c35, H⟩ := ite_none H
      refine G.region (GO.ix rfl rfl rfl underlying74 sz2 ((RdIn.drop 2 r_a) _ HS).2.2.1 c35.1 c35.2 rfl (GO.ldRd (T := (TInt .i64)) (n := x20.toNat) (o := 0) HS (RdIn.drop 2 r_a) rfl rfl (getD_some (d := 0) (ltN c35)) rfl rfl na2 rfl (GO.assign rfl rfl rfl (GO.nil (G.run 2 rfl (G.region (GO.ps 2 rfl (GO.lookOkJ (j := 0) HS rfl rfl rfl rfl underlying130 underlying2 zr2 rfl (GO.ps 5 rfl (GO.nil (G.run 2 rfl ?_)))))))))))
      refine G.nameT (fun k_j4 hk_j4 => ?_)
      have at_j4 : ∀ m_j4, m_j4 ≤ n_l1 → ∀ (numbers_38 : List (Int × Int)) (w : World), impl_numbered.j4 K m_j4 roots out_19 x20 numbers_38 = some r1 → St w0 w (MapJ b1 .i64 .i64 numbers_38 :: Own (TInt .i64) 2 A17 c18 (fun _ => ()) out_19 :: L) → G prog 95 36 [(3, .map (some b1)), (4, .slice A17 out_19.length c18), (6, .int .i64 (roots.getD x20.toNat 0)), (10, .slice A_a roots.length c_a), (11, .int .i64 (roots.length : Int)), (12, .int .i64 x20)] k_j4 w (impl_numbered.post w0 L r1) := by
       intro m_j4 hm_j4 numbers_38 w H HS
       cases m_j4 with
       | zero => rw [impl_numbered.j4] at H; cases H
       | succ n_j4 =>
        rw [impl_numbered.j4] at H
        subst hk_j4
        obtain ⟨c44, H⟩ := ite_none H
        refine G.region (GO.ps 3 rfl (GO.lookJ (j := 0) HS rfl rfl rfl rfl underlying130 underlying2 zr2 rfl (GO.buildS (el := 2) ([.int .i64 ((mget numbers_38 (roots.getD x20.toNat 0)).getD 0)]) HS rfl rfl (fun _ => by kernel_rfl) rfl fun b39 wd40 HS => GO.app1 (T := (TInt .i64)) (j := 2) (jb := 0) ((mget numbers_38 (roots.getD x20.toNat 0)).getD 0) HS rfl rfl flat_flat rfl rfl rfl underlying74 inf2 rfl rfl rfl c44 rfl fun A42 c43 wd41 HS => GO.assign rfl rfl rfl (GO.nil (G.run 3 rfl (G.weak ?_ (ih_l1 n_j4 (by omega) (by omega) _ _ _ _ _ _ H (HS.pk 3 [1, 2] rfl))))))))
        exact ⟨rfl, rfl, rfl, rfl, rfl, trivial⟩
      rcases ite_elim H with ⟨c45, H⟩ | ⟨c45, H⟩
      ·
       refine G.noB rfl (congrArg Bool.not c45) (G.skip (G.weak ?_ (at_j4 n_l1 (Nat.le_refl _) _ _ H HS)))
       exact ⟨rfl, rfl, rfl, rfl, rfl, rfl, trivial⟩
      refine G.yesB rfl (congrArg Bool.not (bnot_of c45)) (G.region (GO.ps 3 rfl (GO.lenMJ (j := 0) HS rfl rfl rfl underlying130 rfl (GO.putMJ (j := 0) HS rfl rfl rfl rfl rfl underlying130 underlying2 fun wd46 HS => GO.nil (G.weak ?_ (at_j4 n_l1 (Nat.le_refl _) _ _ H HS))))))
      exact ⟨rfl, rfl, rfl, rfl, rfl, rfl, trivial⟩
     refine G.noB rfl (decide_eq_false c34) (G.run 3 rfl ?_)
     obtain rfl := Option.some.inj H
     exact G.ret1 _ func95 rfl rfl ⟨_, _, rfl, (HS.pk 2 [1] rfl)⟩
  replace HS := HS.nilRow (TInt .i64) 2 (fun _ => ())
  refine G.weak ?_ (at_l1 K (Nat.le_refl _) _ _ _ _ _ _ H (HS.pk 2 [1, 0] rfl))
  exact ⟨rfl, rfl, rfl, rfl, rfl, trivial⟩
theorem impl_Diagram_parts.calls {w0 w : World} {L : List HObj} {K : Nat} {d_Crossings : List GCrossing} {d_Circles : Int} {a_from a_to : List GEnd} {A_a : Option Addr} {c_a : Nat} {A_b : Option Addr} {c_b : Nat} {A_c : Option Addr} {c_c : Nat} {r1 : List Int} (HS : St w0 w (L)) (r_a : RdIn w0 L T_GCrossing A_a c_a (fun _ => ()) d_Crossings) (r_b : RdIn w0 L T_GEnd A_b c_b (fun _ => ()) a_from) (r_c : RdIn w0 L T_GEnd A_c c_c (fun _ => ()) a_to) (H : impl_Diagram_parts.f K d_Crossings d_Circles a_from a_to = some r1) :
    Calls prog 66 #[.agg [.slice A_a d_Crossings.length c_a, .int .i64 d_Circles].toArray, .agg [.slice A_b a_from.length c_b, .slice A_c a_to.length c_c].toArray] w (impl_Diagram_parts.post w0 L r1) := by
  unfold impl_Diagram_parts.f at H
  refine Calls.of_G func66 rfl rfl rfl ?_
  refine G.seq (G.region (GO.box (cs := [.slice A_a d_Crossings.length c_a, .int .i64 d_Circles]) HS rfl rfl rfl rfl fun b1 wd2 HS => GO.box (cs := [.slice A_b a_from.length c_b, .slice A_c a_to.length c_c]) HS rfl rfl rfl rfl fun b3 wd4 HS => GO.assign rfl rfl rfl (GO.nil (G.seq ?_))))
  obtain ⟨t5, h6, H⟩ := Option.bind_eq_some_iff.1 H
  obtain ⟨t9, h10, H⟩ := Option.bind_eq_some_iff.1 H
  refine G.region (GO.fld (⟨b1, 0, none⟩) rfl rfl fl30_0 rfl rfl (GO.ldBox (j := 1) HS rfl rfl rfl rfl na28 rfl (GO.fn rfl func58 fok58.1 fok58.2 rfl rfl (impl_size_impl_Crossing.calls HS (RdIn.drop 2 r_a) h6) (fun _ wd7 ⟨h8, HS⟩ => ⟨_, h8, (GO.fn rfl func93 fok93.1 fok93.2 rfl rfl (impl_counting.calls HS  h10) (fun _ wd13 ⟨A11, c12, h14, HS⟩ => ⟨_, h14, (GO.assign rfl rfl rfl (GO.nil (G.run 2 rfl (G.region (GO.fld (⟨b3, 0, none⟩) rfl rfl fl66_0 rfl rfl (GO.ldBox (j := 1) HS rfl rfl rfl rfl na64 rfl (GO.lenS rfl rfl underlying64 rfl (GO.move rfl rfl rfl (GO.nil (G.run 2 rfl ?_))))))))))⟩))⟩))))
  refine G.name (fun k_l1 hk_l1 => ?_)
  have at_l1 : ∀ m_l1, m_l1 ≤ K → ∀ (sets_36 : List Int) (x37 : Int) (w : World), impl_Diagram_parts.l1 K m_l1 a_from a_to sets_36 x37 = some r1 → St w0 w (Box b3 66 [.slice A_b a_from.length c_b, .slice A_c a_to.length c_c] :: Own (TInt .i64) 2 A11 c12 (fun _ => ()) sets_36 :: L) → G prog 66 33 [(3, .pointer (some ⟨b3, 0, none⟩)), (5, .slice A11 sets_36.length c12), (13, .slice A_b a_from.length c_b), (14, .int .i64 (a_from.length : Int)), (15, .int .i64 x37)] k_l1 w (impl_Diagram_parts.post w0 L r1) := by
   intro m_l1
   induction m_l1 using Nat.strongRecOn with
   | _ m_l1 ih_l1 =>
    intro hm_l1 sets_36 x37 w H HS
    cases m_l1 with
    | zero => rw [impl_Diagram_parts.l1] at H; cases H
    | succ n_l1 =>
     rw [impl_Diagram_parts.l1] at H
     subst hk_l1
     refine G.run 3 rfl ?_
     rcases ite_elim H with ⟨c59, H⟩ | ⟨c59, H⟩
     ·
      refine G.yesB rfl (decide_eq_true c59) (G.run 4 rfl ?_)
      obtain ⟨c60, H⟩ := ite_none H
      obtain ⟨e61, h62, H⟩ := bnd_elim H
      refine G.region (GO.move rfl rfl rfl (GO.ix rfl rfl rfl underlying64 sz94 ((RdIn.drop 2 r_b) _ HS).2.2.1 c60.1 c60.2 rfl (GO.ldRdA (T := T_GEnd) (n := x37.toNat) HS (RdIn.drop 2 r_b) rfl rfl (getD_eq (ltN c60) h62) ag94 rfl (GO.alloc HS rfl zr94 rfl rfl fun b63 wd64 HS => GO.assign rfl rfl rfl (GO.stBox (j := 0) (vs := [.int .i64 e61.crossing, .int .i64 e61.position]) ([.int .i64 e61.crossing, .int .i64 e61.position]) HS rfl rfl rfl rfl rfl (htA ag94) rfl rfl rfl fun wd65 HS => GO.nil ?_)))))
      obtain ⟨c66, H⟩ := ite_none H
      obtain ⟨e67, h68, H⟩ := bnd_elim H
      obtain ⟨t69, h70, H⟩ := Option.bind_eq_some_iff.1 H
      obtain ⟨c71, H⟩ := ite_none H
      refine G.lex mixed [0, 1, 3, 5, 2, 4, 6, 7, 8, 9] (by kernel_rfl) ?_
      replace HS := HS.drew
      refine GX.ps 1 rfl (GX.l0 rfl rfl (fun _ _ g => GO.fld (⟨b63, 0, none⟩) rfl rfl fl94_0 rfl rfl g) rfl (GX.l0 rfl rfl (fun _ _ g => GO.fld (⟨b3, 1, none⟩) rfl rfl fl66_1 rfl rfl g) rfl (GX.ps 1 rfl (GX.l1 rfl rfl rfl (fun _ g => GO.ldBox (j := 0) HS rfl rfl rfl rfl na2 rfl g) rfl (GX.l1 rfl rfl rfl (fun _ g => GO.ldBox (j := 1) HS rfl rfl rfl rfl na64 rfl g) rfl (GX.l0 rfl rfl (fun _ _ g => GO.ix rfl rfl rfl underlying64 sz94 ((RdIn.drop 3 r_c) _ HS).2.2.1 c66.1 c66.2 rfl g) rfl (GX.l0 rfl rfl (fun _ _ g => GO.fld (ea A_c (x37.toNat * 2)) rfl rfl fl94_0 rfl rfl g) rfl (GX.l1 rfl rfl rfl (fun _ g => GO.ldRd (T := T_GEnd) (n := x37.toNat) (o := 0) HS (RdIn.drop 3 r_c) rfl rfl (getD_eq (ltN c66) h68) rfl rfl na2 rfl g) rfl (GX.l2 rfl ?_)))))))))
      replace HS := HS.pk 3 [2, 0, 1] rfl
      refine GO.fn rfl func94 fok94.1 fok94.2 rfl rfl (impl_union.calls HS  h70) (fun _ wd72 ⟨h73, HS⟩ => ⟨_, h73, (GX.fin trivial (GX.nil (G.len (t := 5) (m := t69.length) rfl (by simp only [List.length_set, c71] <;> rfl) (G.run 3 rfl (G.weak ?_ (ih_l1 n_l1 (Nat.lt_succ_of_le (Nat.le_refl _)) (Nat.le_of_succ_le hm_l1) _ _ _ H (HS.pk 3 [2, 0] rfl)))))))⟩)
      exact ⟨rfl, rfl, rfl, rfl, rfl, trivial⟩
     refine G.noB rfl (decide_eq_false c59) (G.run 2 rfl ?_)
     obtain ⟨t74, h75, H⟩ := Option.bind_eq_some_iff.1 H
     refine G.region (GO.move rfl rfl rfl (GO.fn rfl func95 fok95.1 fok95.2 rfl rfl (impl_numbered.calls HS (RdIn.own (j := 1) rfl) h75) (fun _ wd78 ⟨A76, c77, h79, HS⟩ => ⟨_, h79, (GO.assign rfl rfl rfl (GO.nil ?_))⟩)))
     obtain rfl := Option.some.inj H
     exact G.ret1 _ func66 rfl rfl ⟨_, _, rfl, (HS.pk 3 [0] rfl)⟩
  refine G.weak ?_ (at_l1 K (Nat.le_refl _) _ _ _ H (HS.pk 3 [1, 0] rfl))
  exact ⟨rfl, rfl, rfl, rfl, rfl, trivial⟩
theorem slices_Max_int64_int64.calls {w0 w : World} {L : List HObj} {K : Nat} {x : List Int} {A_a : Option Addr} {c_a : Nat} {r1 : Int} (HS : St w0 w (L)) (r_a : RdIn w0 L (TInt .i64) A_a c_a (fun _ => ()) x) (H : slices_Max_int64_int64.f K x = some r1) :
    Calls prog 92 #[.slice A_a x.length c_a] w (slices_Max_int64_int64.post w0 L r1) := by
  unfold slices_Max_int64_int64.f at H
  refine Calls.of_G func92 rfl rfl rfl ?_
  refine G.run 4 rfl (G.region (GO.move rfl rfl rfl (GO.lenS rfl rfl underlying74 rfl (GO.lss rfl rfl rfl rfl (GO.nil ?_)))))
  rcases ite_elim H with ⟨c2, H⟩ | ⟨c2, H⟩
  ·
   refine G.yesB rfl (decide_eq_true c2) ?_
   cases H
  refine G.noB rfl (decide_eq_false c2) (G.run 2 rfl ?_)
  obtain ⟨c3, H⟩ := ite_none H
  refine G.region (GO.move rfl rfl rfl (GO.ix rfl rfl rfl underlying74 sz2 (r_a _ HS).2.2.1 c3.1 c3.2 rfl (GO.ldRd (T := (TInt .i64)) (n := 0) (o := 0) HS r_a rfl rfl (getD_some (d := 0) (ltN c3)) rfl rfl na2 rfl (GO.assign rfl rfl rfl (GO.nil (G.run 5 rfl ?_))))))
  refine G.name (fun k_l2 hk_l2 => ?_)
  have at_l2 : ∀ m_l2, m_l2 ≤ K → ∀ (m_6 i_7 : Int) (w : World), slices_Max_int64_int64.l2 K m_l2 x m_6 i_7 = some r1 → St w0 w (L) → G prog 92 25 [(0, .slice A_a x.length c_a), (3, .int .i64 m_6), (4, .int .i64 i_7)] k_l2 w (slices_Max_int64_int64.post w0 L r1) := by
   intro m_l2
   induction m_l2 using Nat.strongRecOn with
   | _ m_l2 ih_l2 =>
    intro hm_l2 m_6 i_7 w H HS
    cases m_l2 with
    | zero => rw [slices_Max_int64_int64.l2] at H; cases H
    | succ n_l2 =>
     rw [slices_Max_int64_int64.l2] at H
     subst hk_l2
     refine G.run 2 rfl (G.region (GO.ps 2 rfl (GO.lenS rfl rfl underlying74 rfl (GO.lss rfl rfl rfl rfl (GO.nil ?_)))))
     rcases ite_elim H with ⟨c10, H⟩ | ⟨c10, H⟩
     ·
      refine G.yesB rfl (decide_eq_true c10) (G.run 3 rfl ?_)
      obtain ⟨c11, H⟩ := ite_none H
      refine G.region (GO.ps 3 rfl (GO.ix rfl rfl rfl underlying74 sz2 (r_a _ HS).2.2.1 c11.1 c11.2 rfl (GO.ldRd (T := (TInt .i64)) (n := i_7.toNat) (o := 0) HS r_a rfl rfl (getD_some (d := 0) (ltN c11)) rfl rfl na2 rfl (GO.max2 rfl rfl rfl rfl (GO.assign rfl rfl rfl (GO.nil (G.run 3 rfl (G.weak ?_ (ih_l2 n_l2 (Nat.lt_succ_of_le (Nat.le_refl _)) (Nat.le_of_succ_le hm_l2) _ _ _ H HS)))))))))
      exact ⟨rfl, rfl, rfl, trivial⟩
     refine G.noB rfl (decide_eq_false c10) (G.run 3 rfl ?_)
     obtain rfl := Option.some.inj H
     exact G.ret1 _ func92 rfl rfl ⟨rfl, HS⟩
  refine G.weak ?_ (at_l2 K (Nat.le_refl _) _ _ _ H HS)
  exact ⟨rfl, rfl, rfl, trivial⟩
theorem impl_classCount.calls {w0 w : World} {L : List HObj} {K : Nat} {classes : List Int} {A_a : Option Addr} {c_a : Nat} {r1 : Int} (HS : St w0 w (L)) (r_a : RdIn w0 L (TInt .i64) A_a c_a (fun _ => ()) classes) (H : impl_classCount.f K classes = some r1) :
    Calls prog 65 #[.slice A_a classes.length c_a] w (impl_classCount.post w0 L r1) := by
  unfold impl_classCount.f at H
  refine Calls.of_G func65 rfl rfl rfl ?_
  refine G.run 4 rfl (G.region (GO.move rfl rfl rfl (GO.lenS rfl rfl underlying74 rfl (GO.eql rfl rfl rfl rfl (GO.nil ?_)))))
  rcases ite_elim H with ⟨c1, H⟩ | ⟨c1, H⟩
  ·
   refine G.yesB rfl (decide_eq_true c1) (G.run 2 rfl ?_)
   obtain rfl := Option.some.inj H
   exact G.ret1 _ func65 rfl rfl ⟨rfl, HS⟩
  refine G.noB rfl (decide_eq_false c1) (G.run 2 rfl ?_)
  obtain ⟨t2, h3, H⟩ := Option.bind_eq_some_iff.1 H
  refine G.region (GO.move rfl rfl rfl (GO.fn rfl func92 fok92.1 fok92.2 rfl rfl (slices_Max_int64_int64.calls HS r_a h3) (fun _ wd4 ⟨h5, HS⟩ => ⟨_, h5, (GO.ps 2 rfl (GO.nil ?_))⟩)))
  obtain rfl := Option.some.inj H
  exact G.ret1 _ func65 rfl rfl ⟨rfl, HS⟩
theorem impl_Diagram_drawing.calls {w0 w : World} {L : List HObj} {K : Nat} {d_Crossings : List GCrossing} {d_Circles : Int} {A_a : Option Addr} {c_a : Nat} {r1 r2 : List GEnd} {r3 : Bool} (HS : St w0 w (L)) (r_a : RdIn w0 L T_GCrossing A_a c_a (fun _ => ()) d_Crossings) (H : impl_Diagram_drawing.f K d_Crossings d_Circles = some (r1, r2, r3)) :
    Calls prog 37 #[.agg [.slice A_a d_Crossings.length c_a, .int .i64 d_Circles].toArray] w (impl_Diagram_drawing.post w0 L r1 r2 r3) := by
  unfold impl_Diagram_drawing.f at H
  refine Calls.of_G func37 rfl rfl rfl ?_
  refine G.seq (G.region (GO.box (cs := [.slice A_a d_Crossings.length c_a, .int .i64 d_Circles]) HS rfl rfl rfl rfl fun b1 wd2 HS => GO.alloc HS rfl zr66 rfl rfl fun b3 wd4 HS => GO.assign rfl rfl rfl (GO.nil (G.seq ?_))))
  obtain ⟨t5, h6, H⟩ := Option.bind_eq_some_iff.1 H
  refine G.region (GO.fld (⟨b1, 0, none⟩) rfl rfl fl30_0 rfl rfl (GO.ldBox (j := 1) HS rfl rfl rfl rfl na28 rfl (GO.fn rfl func58 fok58.1 fok58.2 rfl rfl (impl_size_impl_Crossing.calls HS (RdIn.drop 2 r_a) h6) (fun _ wd7 ⟨h8, HS⟩ => ⟨_, h8, (GO.assign rfl rfl rfl (GO.nil (G.run 2 rfl ?_)))⟩))))
  rcases ite_elim H with ⟨c19, H⟩ | ⟨c19, H⟩
  ·
   refine G.region (GO.ps 3 rfl (GO.known (t := 12) rfl (decide_eq_true c19) (GO.off rfl rfl rfl rfl rfl rfl (GO.off rfl rfl rfl rfl rfl rfl (GO.off rfl rfl rfl rfl rfl rfl (GO.off rfl rfl rfl rfl rfl rfl (GO.ps 2 rfl (GO.off rfl rfl rfl rfl rfl rfl (GO.off rfl rfl rfl rfl rfl rfl (GO.off rfl rfl rfl rfl rfl rfl (GO.pickT rfl rfl rfl rfl rfl (GO.nil (G.run 2 rfl (G.region ?_))))))))))))))
   refine GO.buildV (.agg [.slice none 0 0, .slice none 0 0].toArray) rfl rfl (fun _ => by kernel_rfl) rfl (GO.stBox (j := 0) (vs := [.slice none 0 0, .slice none 0 0]) ([.slice none 0 0, .slice none 0 0]) HS rfl rfl rfl rfl rfl (htA ag66) rfl rfl rfl fun wd20 HS => GO.assign rfl rfl rfl (GO.nil ?_))
   replace HS := HS.nilRow T_GEnd 94 (fun _ => ())
   replace HS := HS.nilRow T_GEnd 94 (fun _ => ())
   obtain ⟨rfl, rfl, rfl⟩ := some3 H
   exact G.ret2 _ _ func37 rfl (Res1.boxA (j := 2) (vs := [.slice none 0 0, .slice none 0 0]) HS rfl rfl rfl ag66) rfl ⟨_, _, _, _, rfl, (HS.pk 4 [1, 0] rfl)⟩
  obtain ⟨t21, h22, H⟩ := Option.bind_eq_some_iff.1 H
  rcases ite_elim H with ⟨c25, H⟩ | ⟨c25, H⟩
  ·
   obtain ⟨t26, h27, H⟩ := Option.bind_eq_some_iff.1 H
   refine G.region (GO.ps 3 rfl (GO.known (t := 12) rfl (decide_eq_false c19) (GO.on rfl rfl rfl rfl (GO.fld (⟨b1, 1, none⟩) rfl rfl fl30_1 rfl rfl (GO.back (GO.on rfl rfl rfl rfl (GO.ldBox (j := 1) HS rfl rfl rfl rfl na2 rfl (GO.back (GO.on rfl rfl rfl rfl (GO.fn rfl func59 fok59.1 fok59.2 rfl rfl (impl_inRange.calls HS  h22) (fun _ wd23 ⟨h24, HS⟩ => ⟨_, h24, (GO.back (GO.on rfl rfl rfl rfl (GO.not rfl rfl rfl (GO.back ?_))))⟩)))))))))))
   refine GO.ps 2 rfl (GO.known (t := 18) rfl (congrArg Bool.not c25) (GO.on rfl rfl rfl rfl (GO.fld (⟨b1, 0, none⟩) rfl rfl fl30_0 rfl rfl (GO.back (GO.on rfl rfl rfl rfl (GO.ldBox (j := 1) HS rfl rfl rfl rfl na28 rfl (GO.back (GO.on rfl rfl rfl rfl (GO.fn rfl func60 fok60.1 fok60.2 rfl rfl (slices_ContainsFunc_impl_Crossing_impl_Crossing_109.calls HS (RdIn.drop 2 r_a) h27) (fun _ wd28 ⟨h29, HS⟩ => ⟨_, h29, (GO.back (GO.pickF rfl rfl rfl rfl rfl (GO.nil ?_)))⟩))))))))))
   rcases ite_elim H with ⟨c30, H⟩ | ⟨c30, H⟩
   ·
    refine G.yesB rfl c30 (G.seq (G.region (GO.buildV (.agg [.slice none 0 0, .slice none 0 0].toArray) rfl rfl (fun _ => by kernel_rfl) rfl (GO.stBox (j := 0) (vs := [.slice none 0 0, .slice none 0 0]) ([.slice none 0 0, .slice none 0 0]) HS rfl rfl rfl rfl rfl (htA ag66) rfl rfl rfl fun wd31 HS => GO.assign rfl rfl rfl (GO.nil ?_)))))
    replace HS := HS.nilRow T_GEnd 94 (fun _ => ())
    replace HS := HS.nilRow T_GEnd 94 (fun _ => ())
    obtain ⟨rfl, rfl, rfl⟩ := some3 H
    exact G.ret2 _ _ func37 rfl (Res1.boxA (j := 2) (vs := [.slice none 0 0, .slice none 0 0]) HS rfl rfl rfl ag66) rfl ⟨_, _, _, _, rfl, (HS.pk 4 [1, 0] rfl)⟩
   refine G.noB rfl (bnot_of c30) (G.run 2 rfl ?_)
   obtain ⟨t32, t33, t34, h35, H⟩ := bind3_elim H
   refine G.region (GO.ldBoxA (j := 1) ([.slice A_a d_Crossings.length c_a, .int .i64 d_Circles]) HS rfl rfl rfl rfl ag30 rfl (GO.fn rfl func62 fok62.1 fok62.2 rfl rfl (impl_Diagram_arrows.calls HS (RdIn.drop 2 r_a) h35) (fun _ wd40 ⟨A36, c37, A38, c39, h41, HS⟩ => ⟨_, h41, (GO.ps 3 rfl (GO.alloc HS rfl zr66 rfl rfl fun b42 wd43 HS => GO.stBox (j := 0) (vs := [.slice A36 t32.length c37, .slice A38 t33.length c39]) ([.slice A36 t32.length c37, .slice A38 t33.length c39]) HS rfl rfl rfl rfl rfl (htA ag66) rfl rfl rfl fun wd44 HS => GO.assign rfl rfl rfl (GO.nil (G.run 2 rfl ?_))))⟩)))
   rcases ite_elim H with ⟨c67, H⟩ | ⟨c67, H⟩
   ·
    obtain ⟨t68, h69, H⟩ := Option.bind_eq_some_iff.1 H
    obtain ⟨t75, h76, H⟩ := Option.bind_eq_some_iff.1 H
    obtain ⟨t79, h80, H⟩ := Option.bind_eq_some_iff.1 H
    obtain ⟨t85, h86, H⟩ := Option.bind_eq_some_iff.1 H
    refine G.lexS mixed (fun w => St w0 w (Box b42 66 [.slice A36 t32.length c37, .slice A38 t33.length c39] :: Box b1 30 [.slice A_a d_Crossings.length c_a, .int .i64 d_Circles] :: L)) [3, 4, 8, 9] [0, 1, 2, 7, 3, 4, 8, 9, 5, 6, 10, 11, 12, 13, 14, 15] 16 (by kernel_rfl) (by kernel_rfl) (HS.drew.pk 5 [0, 4] rfl) ?_
    replace HS := HS.drew
    refine GX.ps 2 rfl (GX.l0 rfl rfl (fun _ _ g => GO.move rfl rfl rfl (GO.known (t := 31) rfl (congrArg Bool.not c67) g)) rfl (GX.l0 rfl rfl (fun _ _ g => GO.on rfl rfl rfl rfl (GO.move rfl rfl rfl (GO.back g))) rfl (GX.ls rfl rfl rfl (HS.pk 5 [0, 4] rfl) (fun _ HS _ g => GO.on rfl rfl rfl rfl (GO.ldBoxA (j := 1) ([.slice A_a d_Crossings.length c_a, .int .i64 d_Circles]) HS rfl rfl rfl rfl ag30 rfl (GO.back g))) rfl (GX.ls rfl rfl rfl (HS.pk 5 [0, 4] rfl) (fun _ HS _ g => GO.on rfl rfl rfl rfl (GO.ldBoxA (j := 0) ([.slice A36 t32.length c37, .slice A38 t33.length c39]) HS rfl rfl rfl rfl ag66 rfl (GO.back g))) rfl (GX.ls rfl rfl rfl (HS.pk 5 [0, 4] rfl) (fun _ HS _ g => GO.on rfl rfl rfl rfl (GO.ldBoxA (j := 1) ([.slice A_a d_Crossings.length c_a, .int .i64 d_Circles]) HS rfl rfl rfl rfl ag30 rfl (GO.back g))) rfl (GX.ls rfl rfl rfl (HS.pk 5 [0, 4] rfl) (fun _ HS _ g => GO.on rfl rfl rfl rfl (GO.ldBoxA (j := 0) ([.slice A36 t32.length c37, .slice A38 t33.length c39]) HS rfl rfl rfl rfl ag66 rfl (GO.back g))) rfl (GX.l2 rfl (GO.on rfl rfl rfl rfl (GO.fn rfl func64 fok64.1 fok64.2 rfl rfl (impl_Diagram_regions.calls HS (RdIn.drop 5 r_a) (RdIn.own (j := 1) rfl) (RdIn.own (j := 2) rfl) h69) (fun _ wd73 ⟨A70, c71, y72, h74, HS⟩ => ⟨_, h74, (GO.back (GX.fin (HS.pk 6 [1, 5] rfl) (GX.l2 rfl (GO.on rfl rfl rfl rfl (GO.fn rfl func63 fok63.1 fok63.2 rfl rfl (impl_size_int64.calls HS (RdIn.own (j := 0) rfl) h76) (fun _ wd77 ⟨h78, HS⟩ => ⟨_, h78, ?_⟩))))))⟩))))))))))
    refine GO.back (GX.fin (HS.pk 6 [1, 5] rfl) (GX.l2 rfl (GO.on rfl rfl rfl rfl (GO.fn rfl func66 fok66.1 fok66.2 rfl rfl (impl_Diagram_parts.calls HS (RdIn.drop 6 r_a) (RdIn.own (j := 2) rfl) (RdIn.own (j := 3) rfl) h80) (fun _ wd83 ⟨A81, c82, h84, HS⟩ => ⟨_, h84, (GO.back (GX.fin (HS.pk 7 [2, 6] rfl) (GX.l2 rfl (GO.on rfl rfl rfl rfl (GO.fn rfl func65 fok65.1 fok65.2 rfl rfl (impl_classCount.calls HS (RdIn.own (j := 0) rfl) h86) (fun _ wd87 ⟨h88, HS⟩ => ⟨_, h88, (GO.back (GX.fin (HS.pk 7 [2, 6] rfl) (GX.l0 rfl rfl (fun _ _ g => GO.on rfl rfl rfl rfl (GO.mul rfl rfl rfl rfl (GO.back g))) rfl (GX.l0 rfl rfl (fun _ _ g => GO.on rfl rfl rfl rfl (GO.add rfl rfl rfl rfl (GO.back g))) rfl (GX.l0 rfl rfl (fun _ _ g => GO.on rfl rfl rfl rfl (GO.neq rfl rfl rfl rfl (GO.back g))) rfl ?_)))))⟩))))))⟩)))))
    refine GX.ps 1 rfl (GX.nil ?_)
    rcases ite_elim H with ⟨c89, H⟩ | ⟨c89, H⟩
    ·
     refine G.noB rfl (congrArg Bool.not (decide_eq_true c89)) (G.run 2 rfl (G.region (GO.ldBoxA (j := 2) ([.slice A36 t32.length c37, .slice A38 t33.length c39]) HS rfl rfl rfl rfl ag66 rfl (GO.stBox (j := 5) (vs := [.slice A36 t32.length c37, .slice A38 t33.length c39]) ([.slice A36 t32.length c37, .slice A38 t33.length c39]) HS rfl rfl rfl rfl rfl (htA ag66) rfl rfl rfl fun wd90 HS => GO.assign rfl rfl rfl (GO.nil ?_)))))
     obtain ⟨rfl, rfl, rfl⟩ := some3 H
     exact G.ret2 _ _ func37 rfl (Res1.boxA (j := 5) (vs := [.slice A36 t32.length c37, .slice A38 t33.length c39]) HS rfl rfl rfl ag66) rfl ⟨_, _, _, _, rfl, (HS.pk 7 [3, 4] rfl)⟩
    refine G.yesB rfl (congrArg Bool.not (decide_eq_false c89)) (G.seq (G.region (GO.buildV (.agg [.slice none 0 0, .slice none 0 0].toArray) rfl rfl (fun _ => by kernel_rfl) rfl (GO.stBox (j := 5) (vs := [.slice none 0 0, .slice none 0 0]) ([.slice none 0 0, .slice none 0 0]) HS rfl rfl rfl rfl rfl (htA ag66) rfl rfl rfl fun wd91 HS => GO.assign rfl rfl rfl (GO.nil ?_)))))
    replace HS := HS.nilRow T_GEnd 94 (fun _ => ())
    replace HS := HS.nilRow T_GEnd 94 (fun _ => ())
    obtain ⟨rfl, rfl, rfl⟩ := some3 H
    exact G.ret2 _ _ func37 rfl (Res1.boxA (j := 7) (vs := [.slice none 0 0, .slice none 0 0]) HS rfl rfl rfl ag66) rfl ⟨_, _, _, _, rfl, (HS.pk 9 [1, 0] rfl)⟩
   refine G.lexS mixed (fun w => St w0 w (L)) [3, 4, 8, 9] [0, 1, 2, 7, 3, 4, 8, 9, 5, 6, 10, 11, 12, 13, 14, 15] 16 (by kernel_rfl) (by kernel_rfl) (HS.drew.pk 5 [] rfl) ?_
   replace HS := HS.drew
   refine GX.ps 2 rfl (GX.l0 rfl rfl (fun _ _ g => GO.move rfl rfl rfl (GO.known (t := 31) rfl (congrArg Bool.not (bnot_of c67)) g)) rfl (GX.l0 rfl rfl (fun _ _ g => GO.off rfl rfl rfl rfl rfl rfl g) rfl (GX.ls rfl rfl rfl (HS.pk 5 [] rfl) (fun _ HS _ g => GO.off rfl rfl rfl rfl rfl rfl g) rfl (GX.ls rfl rfl rfl (HS.pk 5 [] rfl) (fun _ HS _ g => GO.off rfl rfl rfl rfl rfl rfl g) rfl (GX.ls rfl rfl rfl (HS.pk 5 [] rfl) (fun _ HS _ g => GO.off rfl rfl rfl rfl rfl rfl g) rfl (GX.ls rfl rfl rfl (HS.pk 5 [] rfl) (fun _ HS _ g => GO.off rfl rfl rfl rfl rfl rfl g) rfl (GX.l2 rfl (GO.off rfl rfl rfl rfl rfl rfl (GX.fin (HS.pk 5 [] rfl) (GX.l2 rfl (GO.off rfl rfl rfl rfl rfl rfl (GX.fin (HS.pk 5 [] rfl) (GX.l2 rfl (GO.off rfl rfl rfl rfl rfl rfl ?_))))))))))))))
   refine GX.fin (HS.pk 5 [] rfl) (GX.l2 rfl (GO.off rfl rfl rfl rfl rfl rfl (GX.fin (HS.pk 5 [] rfl) (GX.l0 rfl rfl (fun _ _ g => GO.off rfl rfl rfl rfl rfl rfl g) rfl (GX.l0 rfl rfl (fun _ _ g => GO.off rfl rfl rfl rfl rfl rfl g) rfl (GX.l0 rfl rfl (fun _ _ g => GO.off rfl rfl rfl rfl rfl rfl g) rfl (GX.ps 1 rfl (GX.nil (G.run 2 rfl (G.region (GO.buildV (.agg [.slice none 0 0, .slice none 0 0].toArray) rfl rfl (fun _ => by kernel_rfl) rfl (GO.stBox (j := 3) (vs := [.slice none 0 0, .slice none 0 0]) ([.slice none 0 0, .slice none 0 0]) HS rfl rfl rfl rfl rfl (htA ag66) rfl rfl rfl fun wd92 HS => GO.assign rfl rfl rfl (GO.nil ?_)))))))))))))
   replace HS := HS.nilRow T_GEnd 94 (fun _ => ())
   replace HS := HS.nilRow T_GEnd 94 (fun _ => ())
   obtain ⟨rfl, rfl, rfl⟩ := some3 H
   exact G.ret2 _ _ func37 rfl (Res1.boxA (j := 5) (vs := [.slice none 0 0, .slice none 0 0]) HS rfl rfl rfl ag66) rfl ⟨_, _, _, _, rfl, (HS.pk 7 [1, 0] rfl)⟩
  refine G.region (GO.ps 3 rfl (GO.known (t := 12) rfl (decide_eq_false c19) (GO.on rfl rfl rfl rfl (GO.fld (⟨b1, 1, none⟩) rfl rfl fl30_1 rfl rfl (GO.back (GO.on rfl rfl rfl rfl (GO.ldBox (j := 1) HS rfl rfl rfl rfl na2 rfl (GO.back (GO.on rfl rfl rfl rfl (GO.fn rfl func59 fok59.1 fok59.2 rfl rfl (impl_inRange.calls HS  h22) (fun _ wd23 ⟨h24, HS⟩ => ⟨_, h24, (GO.back (GO.on rfl rfl rfl rfl (GO.not rfl rfl rfl (GO.back ?_))))⟩)))))))))))
  refine GO.ps 2 rfl (GO.known (t := 18) rfl (congrArg Bool.not (bnot_of c25)) (GO.off rfl rfl rfl rfl rfl rfl (GO.off rfl rfl rfl rfl rfl rfl (GO.off rfl rfl rfl rfl rfl rfl (GO.pickT rfl rfl rfl rfl rfl (GO.nil (G.run 2 rfl (G.region (GO.buildV (.agg [.slice none 0 0, .slice none 0 0].toArray) rfl rfl (fun _ => by kernel_rfl) rfl (GO.stBox (j := 0) (vs := [.slice none 0 0, .slice none 0 0]) ([.slice none 0 0, .slice none 0 0]) HS rfl rfl rfl rfl rfl (htA ag66) rfl rfl rfl fun wd93 HS => GO.assign rfl rfl rfl (GO.nil ?_)))))))))))
  replace HS := HS.nilRow T_GEnd 94 (fun _ => ())
  replace HS := HS.nilRow T_GEnd 94 (fun _ => ())
  obtain ⟨rfl, rfl, rfl⟩ := some3 H
  exact G.ret2 _ _ func37 rfl (Res1.boxA (j := 2) (vs := [.slice none 0 0, .slice none 0 0]) HS rfl rfl rfl ag66) rfl ⟨_, _, _, _, rfl, (HS.pk 4 [1, 0] rfl)⟩
theorem impl_isDiagram.calls {w0 w : World} {L : List HObj} {K : Nat} {d_Crossings : List GCrossing} {d_Circles : Int} {A_a : Option Addr} {c_a : Nat} {r1 : Bool} (HS : St w0 w (L)) (r_a : RdIn w0 L T_GCrossing A_a c_a (fun _ => ()) d_Crossings) (H : impl_isDiagram.f K d_Crossings d_Circles = some r1) :
    Calls prog 20 #[.agg [.slice A_a d_Crossings.length c_a, .int .i64 d_Circles].toArray] w (impl_isDiagram.post w0 L r1) := by
  unfold impl_isDiagram.f at H
  refine Calls.of_G func20 rfl rfl rfl ?_
  refine G.seq (G.region (GO.box (cs := [.slice A_a d_Crossings.length c_a, .int .i64 d_Circles]) HS rfl rfl rfl rfl fun b1 wd2 HS => GO.assign rfl rfl rfl (GO.nil (G.seq ?_))))
  obtain ⟨t3, t4, t5, h6, H⟩ := bind3_elim H
  refine G.region (GO.ldBoxA (j := 0) ([.slice A_a d_Crossings.length c_a, .int .i64 d_Circles]) HS rfl rfl rfl rfl ag30 rfl (GO.fn rfl func37 fok37.1 fok37.2 rfl rfl (impl_Diagram_drawing.calls HS (RdIn.drop 1 r_a) h6) (fun _ wd11 ⟨A7, c8, A9, c10, h12, HS⟩ => ⟨_, h12, (GO.ps 3 rfl (GO.alloc HS rfl zr66 rfl rfl fun b13 wd14 HS => GO.stBox (j := 0) (vs := [.slice A7 t3.length c8, .slice A9 t4.length c10]) ([.slice A7 t3.length c8, .slice A9 t4.length c10]) HS rfl rfl rfl rfl rfl (htA ag66) rfl rfl rfl fun wd15 HS => GO.assign rfl rfl rfl (GO.nil (G.run 2 rfl ?_))))⟩)))
  obtain rfl := Option.some.inj H
  exact G.ret1 _ func20 rfl rfl ⟨rfl, (HS.pk 4 [] rfl)⟩
theorem slices_Clone_impl_Crossing_impl_Crossing.calls {w0 w : World} {L : List HObj} {s : List GCrossing} {A_a : Option Addr} {c_a : Nat} {r1 : List GCrossing} (HS : St w0 w (L)) (r_a : RdIn w0 L T_GCrossing A_a c_a (fun _ => ()) s) (H : slices_Clone_impl_Crossing_impl_Crossing.f s = some r1) :
    Calls prog 38 #[.slice A_a s.length c_a] w (slices_Clone_impl_Crossing_impl_Crossing.post w0 L r1) := by
  unfold slices_Clone_impl_Crossing_impl_Crossing.f at H
  refine Calls.of_G func38 rfl rfl rfl ?_
  refine G.run 4 rfl (G.region (GO.move rfl rfl rfl (GO.eqNil rfl rfl rfl underlying28 rfl (GO.nil ?_))))
  rcases Decidable.em (A_a.isNone = true) with c1 | c1
  ·
   obtain rfl := nil_of_none r_a HS c1
   refine G.yesB rfl c1 (G.run 2 rfl ?_)
   replace HS := HS.nilRow T_GCrossing 61 (fun _ => ())
   replace H : some ([] : List GCrossing) = some r1 := H
   obtain rfl := Option.some.inj H
   exact G.ret1 _ func38 rfl rfl ⟨_, _, rfl, HS⟩
  refine G.noB rfl (bnot_of c1) (G.run 2 rfl ?_)
  obtain ⟨c7, H⟩ := ite_none H
  refine G.region (GO.buildS (el := 61) ([]) HS rfl rfl (fun _ => by kernel_rfl) rfl fun b2 wd3 HS => GO.move rfl rfl rfl ?_)
  replace HS := HS.boxRow (T := T_GCrossing) (j := 0) rfl flat_flat (fun _ => ()) ([] : List GCrossing) rfl (bndL rfl)
  refine GO.lenC (t := 5) (m := ([] : List GCrossing).length) (c' := ([] : List GCrossing).length) rfl rfl rfl (GO.appS (T := T_GCrossing) (j := 0) HS rfl (RdIn.drop 1 r_a) flat_flat rfl rfl rfl underlying28 inf61 rfl rfl rfl c7 rfl (fun _ => rfl) fun A5 c6 wd4 HS => GO.assign rfl rfl rfl (GO.nil ?_))
  obtain rfl := Option.some.inj H
  exact G.ret1 _ func38 rfl rfl ⟨_, _, rfl, HS⟩
theorem impl_copyDiagram.calls {w0 w : World} {L : List HObj} {d_Crossings : List GCrossing} {d_Circles : Int} {A_a : Option Addr} {c_a : Nat} {r1 : List GCrossing} {r2 : Int} (HS : St w0 w (L)) (r_a : RdIn w0 L T_GCrossing A_a c_a (fun _ => ()) d_Crossings) (H : impl_copyDiagram.f d_Crossings d_Circles = some (r1, r2)) :
    Calls prog 21 #[.agg [.slice A_a d_Crossings.length c_a, .int .i64 d_Circles].toArray] w (impl_copyDiagram.post w0 L r1 r2) := by
  unfold impl_copyDiagram.f at H
  refine Calls.of_G func21 rfl rfl rfl ?_
  refine G.seq (G.region (GO.box (cs := [.slice A_a d_Crossings.length c_a, .int .i64 d_Circles]) HS rfl rfl rfl rfl fun b1 wd2 HS => GO.alloc HS rfl zr30 rfl rfl fun b3 wd4 HS => GO.nil (G.seq ?_)))
  obtain ⟨t5, h6, H⟩ := Option.bind_eq_some_iff.1 H
  refine G.region (GO.fld (⟨b1, 0, none⟩) rfl rfl fl30_0 rfl rfl (GO.ldBox (j := 1) HS rfl rfl rfl rfl na28 rfl (GO.fn rfl func38 fok38.1 fok38.2 rfl rfl (slices_Clone_impl_Crossing_impl_Crossing.calls HS (RdIn.drop 2 r_a) h6) (fun _ wd9 ⟨A7, c8, h10, HS⟩ => ⟨_, h10, (GO.fld (⟨b1, 0, none⟩) rfl rfl fl30_0 rfl rfl (GO.stBox (j := 2) (vs := [.slice A7 t5.length c8]) ([.slice A7 t5.length c8, .int .i64 d_Circles]) HS rfl rfl rfl rfl rfl (htN na28 rfl) rfl rfl rfl fun wd11 HS => GO.nil (G.seq (G.region (GO.ldBoxA (j := 2) ([.slice A7 t5.length c8, .int .i64 d_Circles]) HS rfl rfl rfl rfl ag30 rfl (GO.stBox (j := 1) (vs := [.slice A7 t5.length c8, .int .i64 d_Circles]) ([.slice A7 t5.length c8, .int .i64 d_Circles]) HS rfl rfl rfl rfl rfl (htA ag30) rfl rfl rfl fun wd12 HS => GO.nil ?_))))))⟩))))
  obtain ⟨rfl, rfl⟩ := some2 H
  exact G.ret1 _ func21 rfl (Res1.boxA (j := 1) (vs := [.slice A7 t5.length c8, .int .i64 d_Circles]) HS rfl rfl rfl ag30) ⟨_, _, rfl, (HS.pk 3 [0] rfl)⟩
theorem impl_crossingOf.calls {w0 w : World} {L : List HObj} {ends_0 ends_1 : Int} {ends_2 ends_3 : Int} {sign r1 : Int} {r2 r3 : Int} {r4 r5 : Int} (HS : St w0 w (L)) (H : impl_crossingOf.f ends_0 ends_1 ends_2 ends_3 sign = some (r1, r2, r3, r4, r5)) :
    Calls prog 96 #[.agg [.int .i64 ends_0, .int .i64 ends_1, .int .i64 ends_2, .int .i64 ends_3].toArray, .int .i64 sign] w (impl_crossingOf.post w0 L r1 r2 r3 r4 r5) := by
  unfold impl_crossingOf.f at H
  refine Calls.of_G func96 rfl rfl rfl ?_
  refine G.seq (G.region (GO.box (cs := [.int .i64 ends_0, .int .i64 ends_1, .int .i64 ends_2, .int .i64 ends_3]) HS rfl rfl rfl rfl fun b1 wd2 HS => GO.alloc HS rfl zr61 rfl rfl fun b3 wd4 HS => GO.nil (G.seq (G.region (GO.ixP 0 rfl rfl rfl rfl underlying104 sz2 rfl rfl (GO.ldBox (j := 1) HS rfl rfl rfl rfl na2 rfl (GO.ixP 1 rfl rfl rfl rfl underlying104 sz2 rfl rfl (GO.ldBox (j := 1) HS rfl rfl rfl rfl na2 rfl (GO.ixP 2 rfl rfl rfl rfl underlying104 sz2 rfl rfl (GO.ldBox (j := 1) HS rfl rfl rfl rfl na2 rfl (GO.ixP 3 rfl rfl rfl rfl underlying104 sz2 rfl rfl (GO.ldBox (j := 1) HS rfl rfl rfl rfl na2 rfl ?_))))))))))))
  refine GO.move rfl rfl rfl (GO.buildV (.agg [.int .i64 ends_0, .int .i64 ends_1, .int .i64 ends_2, .int .i64 ends_3, .int .i64 sign].toArray) rfl rfl (fun _ => by kernel_rfl) rfl (GO.stBox (j := 0) (vs := [.int .i64 ends_0, .int .i64 ends_1, .int .i64 ends_2, .int .i64 ends_3, .int .i64 sign]) ([.int .i64 ends_0, .int .i64 ends_1, .int .i64 ends_2, .int .i64 ends_3, .int .i64 sign]) HS rfl rfl rfl rfl rfl (htA ag61) rfl rfl rfl fun wd5 HS => GO.nil ?_))
  obtain ⟨rfl, rfl, rfl, rfl, rfl⟩ := some5 H
  exact G.ret1 _ func96 rfl (Res1.boxA (j := 0) (vs := [.int .i64 ends_0, .int .i64 ends_1, .int .i64 ends_2, .int .i64 ends_3, .int .i64 sign]) HS rfl rfl rfl ag61) ⟨rfl, (HS.pk 2 [] rfl)⟩
theorem impl_Diagram_set.calls {w0 w : World} {L : List HObj} {d_Crossings : List GCrossing} {d_Circles e_crossing : Int} {e_position arc : Int} {A_a : Option Addr} {c_a : Nat} {r1 : List GCrossing} (HS : St w0 w (Own T_GCrossing 61 A_a c_a (fun _ => ()) d_Crossings :: L)) (H : impl_Diagram_set.f d_Crossings d_Circles e_crossing e_position arc = some r1) :
    Calls prog 69 #[.agg [.slice A_a d_Crossings.length c_a, .int .i64 d_Circles].toArray, .agg [.int .i64 e_crossing, .int .i64 e_position].toArray, .int .i64 arc] w (impl_Diagram_set.post w0 L A_a c_a r1) := by
  unfold impl_Diagram_set.f at H
  refine Calls.of_G func69 rfl rfl rfl ?_
  refine G.seq (G.region (GO.box (cs := [.slice A_a d_Crossings.length c_a, .int .i64 d_Circles]) HS rfl rfl rfl rfl fun b1 wd2 HS => GO.box (cs := [.int .i64 e_crossing, .int .i64 e_position]) HS rfl rfl rfl rfl fun b3 wd4 HS => GO.nil (G.seq ?_)))
  obtain ⟨c5, H⟩ := ite_none H
  obtain ⟨e6, h7, H⟩ := bnd_elim H
  refine G.region (GO.fld (⟨b1, 0, none⟩) rfl rfl fl30_0 rfl rfl (GO.ldBox (j := 1) HS rfl rfl rfl rfl na28 rfl (GO.fld (⟨b3, 0, none⟩) rfl rfl fl94_0 rfl rfl (GO.ldBox (j := 0) HS rfl rfl rfl rfl na2 rfl (GO.ix rfl rfl rfl underlying28 sz61 ((RdIn.own (j := 2) rfl) _ HS).2.2.1 c5.1 c5.2 rfl (GO.ldRdA (T := T_GCrossing) (n := e_crossing.toNat) HS (RdIn.own (j := 2) rfl) rfl rfl (getD_eq (ltN c5) h7) ag61 rfl (GO.alloc HS rfl zr61 rfl rfl fun b8 wd9 HS => GO.stBox (j := 0) (vs := [.int .i64 e6.A, .int .i64 e6.B, .int .i64 e6.C, .int .i64 e6.D, .int .i64 e6.Sign]) ([.int .i64 e6.A, .int .i64 e6.B, .int .i64 e6.C, .int .i64 e6.D, .int .i64 e6.Sign]) HS rfl rfl rfl rfl rfl (htA ag61) rfl rfl rfl fun wd10 HS => GO.nil (G.seq ?_))))))))
  obtain ⟨t11, t12, t13, t14, h15, H⟩ := bind4_elim H
  refine G.region (GO.ldBoxA (j := 0) ([.int .i64 e6.A, .int .i64 e6.B, .int .i64 e6.C, .int .i64 e6.D, .int .i64 e6.Sign]) HS rfl rfl rfl rfl ag61 rfl (GO.fn rfl func81 fok81.1 fok81.2 rfl rfl (impl_Crossing_ends.calls HS  h15) (fun _ wd16 ⟨h17, HS⟩ => ⟨_, h17, (GO.alloc HS rfl zr104 rfl rfl fun b18 wd19 HS => GO.stBox (j := 0) (vs := [.int .i64 t11, .int .i64 t12, .int .i64 t13, .int .i64 t14]) ([.int .i64 t11, .int .i64 t12, .int .i64 t13, .int .i64 t14]) HS rfl rfl rfl rfl rfl (htA ag104) rfl rfl rfl fun wd20 HS => GO.nil (G.seq ?_))⟩)))
  rcases ite_elim H with ⟨c21, H⟩ | ⟨c21, H⟩
  ·
   refine G.region (GO.fld (⟨b3, 1, none⟩) rfl rfl fl94_1 rfl rfl (GO.ldBox (j := 2) HS rfl rfl rfl rfl na2 rfl (GO.move rfl rfl rfl (GO.ixP 0 rfl rfl rfl c21 underlying104 sz2 rfl rfl (GO.stBox (j := 0) (vs := [.int .i64 arc]) ([.int .i64 arc, .int .i64 t12, .int .i64 t13, .int .i64 t14]) HS rfl rfl rfl rfl rfl (htN na2 rfl) rfl rfl rfl fun wd22 HS => GO.nil ?_)))))
   obtain ⟨t23, t24, t25, t26, t27, h28, H⟩ := bind5_elim H
   have h31 := ((RdIn.own (j := 4) rfl) _ HS).2.2.1
   refine G.lexS mixed (fun w => St w0 w (Box b18 104 [.int .i64 arc, .int .i64 t12, .int .i64 t13, .int .i64 t14] :: Box b8 61 [.int .i64 e6.A, .int .i64 e6.B, .int .i64 e6.C, .int .i64 e6.D, .int .i64 e6.Sign] :: Box b3 94 [.int .i64 e_crossing, .int .i64 e_position] :: Box b1 30 [.slice A_a d_Crossings.length c_a, .int .i64 d_Circles] :: L)) [1, 3, 4, 6] [0, 2, 5, 1, 3, 4, 6, 7, 8, 9] 9 (by kernel_rfl) (by kernel_rfl) (HS.drew.pk 5 [0, 1, 2, 3] rfl) ?_
   replace HS := HS.drew
   refine GX.l0 rfl rfl (fun _ _ g => GO.fld (⟨b1, 0, none⟩) rfl rfl fl30_0 rfl rfl g) rfl (GX.l0 rfl rfl (fun _ _ g => GO.fld (⟨b3, 0, none⟩) rfl rfl fl94_0 rfl rfl g) rfl (GX.l0 rfl rfl (fun _ _ g => GO.fld (⟨b8, 4, none⟩) rfl rfl fl61_4 rfl rfl g) rfl (GX.ls rfl rfl rfl (HS.pk 5 [0, 1, 2, 3] rfl) (fun _ HS _ g => GO.ldBox (j := 3) HS rfl rfl rfl rfl na28 rfl g) rfl (GX.ls rfl rfl rfl (HS.pk 5 [0, 1, 2, 3] rfl) (fun _ HS _ g => GO.ldBox (j := 2) HS rfl rfl rfl rfl na2 rfl g) rfl (GX.ls rfl rfl rfl (HS.pk 5 [0, 1, 2, 3] rfl) (fun _ HS _ g => GO.ldBoxA (j := 0) ([.int .i64 arc, .int .i64 t12, .int .i64 t13, .int .i64 t14]) HS rfl rfl rfl rfl ag104 rfl g) rfl (GX.ls rfl rfl rfl (HS.pk 5 [0, 1, 2, 3] rfl) (fun _ HS _ g => GO.ldBox (j := 1) HS rfl rfl rfl rfl na2 rfl g) rfl (GX.l2 rfl (GO.fn rfl func96 fok96.1 fok96.2 rfl rfl (impl_crossingOf.calls HS  h28) (fun _ wd29 ⟨h30, HS⟩ => ⟨_, h30, (GX.fin (HS.pk 5 [0, 1, 2, 3] rfl) (GX.l0 rfl rfl (fun _ _ g => GO.ix rfl rfl rfl underlying28 sz61 h31 c5.1 c5.2 rfl g) rfl (GX.l2 rfl (GO.stRow (T := T_GCrossing) (j := 4) (n := e_crossing.toNat) (o := 0) (vs := [.int .i64 t23, .int .i64 t24, .int .i64 t25, .int .i64 t26, .int .i64 t27]) (⟨t23, t24, t25, t26, t27⟩ : GCrossing) HS rfl flat_flat rfl rfl rfl rfl (htA ag61) rfl (getD_some (d := z_GCrossing) (ltN c5)) rfl rfl fun wd32 HS => GX.finZ (GX.nil ?_)))))⟩)))))))))
   replace HS := HS.boxEq (j := 3) (cs' := [.slice A_a (d_Crossings.set e_crossing.toNat (⟨t23, t24, t25, t26, t27⟩ : GCrossing)).length c_a, .int .i64 d_Circles]) rfl (by simp only [List.length_set] <;> rfl)
   obtain rfl := Option.some.inj H
   exact G.end0 func69 rfl ⟨rfl, (HS.pk 5 [4] rfl)⟩
  rcases ite_elim H with ⟨c33, H⟩ | ⟨c33, H⟩
  ·
   refine G.region (GO.fld (⟨b3, 1, none⟩) rfl rfl fl94_1 rfl rfl (GO.ldBox (j := 2) HS rfl rfl rfl rfl na2 rfl (GO.move rfl rfl rfl (GO.ixP 1 rfl rfl rfl c33 underlying104 sz2 rfl rfl (GO.stBox (j := 0) (vs := [.int .i64 arc]) ([.int .i64 t11, .int .i64 arc, .int .i64 t13, .int .i64 t14]) HS rfl rfl rfl rfl rfl (htN na2 rfl) rfl rfl rfl fun wd34 HS => GO.nil ?_)))))
   obtain ⟨t35, t36, t37, t38, t39, h40, H⟩ := bind5_elim H
   have h43 := ((RdIn.own (j := 4) rfl) _ HS).2.2.1
   refine G.lexS mixed (fun w => St w0 w (Box b18 104 [.int .i64 t11, .int .i64 arc, .int .i64 t13, .int .i64 t14] :: Box b8 61 [.int .i64 e6.A, .int .i64 e6.B, .int .i64 e6.C, .int .i64 e6.D, .int .i64 e6.Sign] :: Box b3 94 [.int .i64 e_crossing, .int .i64 e_position] :: Box b1 30 [.slice A_a d_Crossings.length c_a, .int .i64 d_Circles] :: L)) [1, 3, 4, 6] [0, 2, 5, 1, 3, 4, 6, 7, 8, 9] 9 (by kernel_rfl) (by kernel_rfl) (HS.drew.pk 5 [0, 1, 2, 3] rfl) ?_
   replace HS := HS.drew
   refine GX.l0 rfl rfl (fun _ _ g => GO.fld (⟨b1, 0, none⟩) rfl rfl fl30_0 rfl rfl g) rfl (GX.l0 rfl rfl (fun _ _ g => GO.fld (⟨b3, 0, none⟩) rfl rfl fl94_0 rfl rfl g) rfl (GX.l0 rfl rfl (fun _ _ g => GO.fld (⟨b8, 4, none⟩) rfl rfl fl61_4 rfl rfl g) rfl (GX.ls rfl rfl rfl (HS.pk 5 [0, 1, 2, 3] rfl) (fun _ HS _ g => GO.ldBox (j := 3) HS rfl rfl rfl rfl na28 rfl g) rfl (GX.ls rfl rfl rfl (HS.pk 5 [0, 1, 2, 3] rfl) (fun _ HS _ g => GO.ldBox (j := 2) HS rfl rfl rfl rfl na2 rfl g) rfl (GX.ls rfl rfl rfl (HS.pk 5 [0, 1, 2, 3] rfl) (fun _ HS _ g => GO.ldBoxA (j := 0) ([.int .i64 t11, .int .i64 arc, .int .i64 t13, .int .i64 t14]) HS rfl rfl rfl rfl ag104 rfl g) rfl (GX.ls rfl rfl rfl (HS.pk 5 [0, 1, 2, 3] rfl) (fun _ HS _ g => GO.ldBox (j := 1) HS rfl rfl rfl rfl na2 rfl g) rfl (GX.l2 rfl (GO.fn rfl func96 fok96.1 fok96.2 rfl rfl (impl_crossingOf.calls HS  h40) (fun _ wd41 ⟨h42, HS⟩ => ⟨_, h42, (GX.fin (HS.pk 5 [0, 1, 2, 3] rfl) (GX.l0 rfl rfl (fun _ _ g => GO.ix rfl rfl rfl underlying28 sz61 h43 c5.1 c5.2 rfl g) rfl (GX.l2 rfl (GO.stRow (T := T_GCrossing) (j := 4) (n := e_crossing.toNat) (o := 0) (vs := [.int .i64 t35, .int .i64 t36, .int .i64 t37, .int .i64 t38, .int .i64 t39]) (⟨t35, t36, t37, t38, t39⟩ : GCrossing) HS rfl flat_flat rfl rfl rfl rfl (htA ag61) rfl (getD_some (d := z_GCrossing) (ltN c5)) rfl rfl fun wd44 HS => GX.finZ (GX.nil ?_)))))⟩)))))))))
   replace HS := HS.boxEq (j := 3) (cs' := [.slice A_a (d_Crossings.set e_crossing.toNat (⟨t35, t36, t37, t38, t39⟩ : GCrossing)).length c_a, .int .i64 d_Circles]) rfl (by simp only [List.length_set] <;> rfl)
   obtain rfl := Option.some.inj H
   exact G.end0 func69 rfl ⟨rfl, (HS.pk 5 [4] rfl)⟩
  rcases ite_elim H with ⟨c45, H⟩ | ⟨c45, H⟩
  ·
   refine G.region (GO.fld (⟨b3, 1, none⟩) rfl rfl fl94_1 rfl rfl (GO.ldBox (j := 2) HS rfl rfl rfl rfl na2 rfl (GO.move rfl rfl rfl (GO.ixP 2 rfl rfl rfl c45 underlying104 sz2 rfl rfl (GO.stBox (j := 0) (vs := [.int .i64 arc]) ([.int .i64 t11, .int .i64 t12, .int .i64 arc, .int .i64 t14]) HS rfl rfl rfl rfl rfl (htN na2 rfl) rfl rfl rfl fun wd46 HS => GO.nil ?_)))))
   obtain ⟨t47, t48, t49, t50, t51, h52, H⟩ := bind5_elim H
   have h55 := ((RdIn.own (j := 4) rfl) _ HS).2.2.1
   refine G.lexS mixed (fun w => St w0 w (Box b18 104 [.int .i64 t11, .int .i64 t12, .int .i64 arc, .int .i64 t14] :: Box b8 61 [.int .i64 e6.A, .int .i64 e6.B, .int .i64 e6.C, .int .i64 e6.D, .int .i64 e6.Sign] :: Box b3 94 [.int .i64 e_crossing, .int .i64 e_position] :: Box b1 30 [.slice A_a d_Crossings.length c_a, .int .i64 d_Circles] :: L)) [1, 3, 4, 6] [0, 2, 5, 1, 3, 4, 6, 7, 8, 9] 9 (by kernel_rfl) (by kernel_rfl) (HS.drew.pk 5 [0, 1, 2, 3] rfl) ?_
   replace HS := HS.drew
   refine GX.l0 rfl rfl (fun _ _ g => GO.fld (⟨b1, 0, none⟩) rfl rfl fl30_0 rfl rfl g) rfl (GX.l0 rfl rfl (fun _ _ g => GO.fld (⟨b3, 0, none⟩) rfl rfl fl94_0 rfl rfl g) rfl (GX.l0 rfl rfl (fun _ _ g => GO.fld (⟨b8, 4, none⟩) rfl rfl fl61_4 rfl rfl g) rfl (GX.ls rfl rfl rfl (HS.pk 5 [0, 1, 2, 3] rfl) (fun _ HS _ g => GO.ldBox (j := 3) HS rfl rfl rfl rfl na28 rfl g) rfl (GX.ls rfl rfl rfl (HS.pk 5 [0, 1, 2, 3] rfl) (fun _ HS _ g => GO.ldBox (j := 2) HS rfl rfl rfl rfl na2 rfl g) rfl (GX.ls rfl rfl rfl (HS.pk 5 [0, 1, 2, 3] rfl) (fun _ HS _ g => GO.ldBoxA (j := 0) ([.int .i64 t11, .int .i64 t12, .int .i64 arc, .int .i64 t14]) HS rfl rfl rfl rfl ag104 rfl g) rfl (GX.ls rfl rfl rfl (HS.pk 5 [0, 1, 2, 3] rfl) (fun _ HS _ g => GO.ldBox (j := 1) HS rfl rfl rfl rfl na2 rfl g) rfl (GX.l2 rfl (GO.fn rfl func96 fok96.1 fok96.2 rfl rfl (impl_crossingOf.calls HS  h52) (fun _ wd53 ⟨h54, HS⟩ => ⟨_, h54, (GX.fin (HS.pk 5 [0, 1, 2, 3] rfl) (GX.l0 rfl rfl (fun _ _ g => GO.ix rfl rfl rfl underlying28 sz61 h55 c5.1 c5.2 rfl g) rfl (GX.l2 rfl (GO.stRow (T := T_GCrossing) (j := 4) (n := e_crossing.toNat) (o := 0) (vs := [.int .i64 t47, .int .i64 t48, .int .i64 t49, .int .i64 t50, .int .i64 t51]) (⟨t47, t48, t49, t50, t51⟩ : GCrossing) HS rfl flat_flat rfl rfl rfl rfl (htA ag61) rfl (getD_some (d := z_GCrossing) (ltN c5)) rfl rfl fun wd56 HS => GX.finZ (GX.nil ?_)))))⟩)))))))))
   replace HS := HS.boxEq (j := 3) (cs' := [.slice A_a (d_Crossings.set e_crossing.toNat (⟨t47, t48, t49, t50, t51⟩ : GCrossing)).length c_a, .int .i64 d_Circles]) rfl (by simp only [List.length_set] <;> rfl)
   obtain rfl := Option.some.inj H
   exact G.end0 func69 rfl ⟨rfl, (HS.pk 5 [4] rfl)⟩
  rcases ite_elim H with ⟨c57, H⟩ | ⟨c57, H⟩
  ·
   refine G.region (GO.fld (⟨b3, 1, none⟩) rfl rfl fl94_1 rfl rfl (GO.ldBox (j := 2) HS rfl rfl rfl rfl na2 rfl (GO.move rfl rfl rfl (GO.ixP 3 rfl rfl rfl c57 underlying104 sz2 rfl rfl (GO.stBox (j := 0) (vs := [.int .i64 arc]) ([.int .i64 t11, .int .i64 t12, .int .i64 t13, .int .i64 arc]) HS rfl rfl rfl rfl rfl (htN na2 rfl) rfl rfl rfl fun wd58 HS => GO.nil ?_)))))
   obtain ⟨t59, t60, t61, t62, t63, h64, H⟩ := bind5_elim H
   have h67 := ((RdIn.own (j := 4) rfl) _ HS).2.2.1
   refine G.lexS mixed (fun w => St w0 w (Box b18 104 [.int .i64 t11, .int .i64 t12, .int .i64 t13, .int .i64 arc] :: Box b8 61 [.int .i64 e6.A, .int .i64 e6.B, .int .i64 e6.C, .int .i64 e6.D, .int .i64 e6.Sign] :: Box b3 94 [.int .i64 e_crossing, .int .i64 e_position] :: Box b1 30 [.slice A_a d_Crossings.length c_a, .int .i64 d_Circles] :: L)) [1, 3, 4, 6] [0, 2, 5, 1, 3, 4, 6, 7, 8, 9] 9 (by kernel_rfl) (by kernel_rfl) (HS.drew.pk 5 [0, 1, 2, 3] rfl) ?_
   replace HS := HS.drew
   refine GX.l0 rfl rfl (fun _ _ g => GO.fld (⟨b1, 0, none⟩) rfl rfl fl30_0 rfl rfl g) rfl (GX.l0 rfl rfl (fun _ _ g => GO.fld (⟨b3, 0, none⟩) rfl rfl fl94_0 rfl rfl g) rfl (GX.l0 rfl rfl (fun _ _ g => GO.fld (⟨b8, 4, none⟩) rfl rfl fl61_4 rfl rfl g) rfl (GX.ls rfl rfl rfl (HS.pk 5 [0, 1, 2, 3] rfl) (fun _ HS _ g => GO.ldBox (j := 3) HS rfl rfl rfl rfl na28 rfl g) rfl (GX.ls rfl rfl rfl (HS.pk 5 [0, 1, 2, 3] rfl) (fun _ HS _ g => GO.ldBox (j := 2) HS rfl rfl rfl rfl na2 rfl g) rfl (GX.ls rfl rfl rfl (HS.pk 5 [0, 1, 2, 3] rfl) (fun _ HS _ g => GO.ldBoxA (j := 0) ([.int .i64 t11, .int .i64 t12, .int .i64 t13, .int .i64 arc]) HS rfl rfl rfl rfl ag104 rfl g) rfl (GX.ls rfl rfl rfl (HS.pk 5 [0, 1, 2, 3] rfl) (fun _ HS _ g => GO.ldBox (j := 1) HS rfl rfl rfl rfl na2 rfl g) rfl (GX.l2 rfl (GO.fn rfl func96 fok96.1 fok96.2 rfl rfl (impl_crossingOf.calls HS  h64) (fun _ wd65 ⟨h66, HS⟩ => ⟨_, h66, (GX.fin (HS.pk 5 [0, 1, 2, 3] rfl) (GX.l0 rfl rfl (fun _ _ g => GO.ix rfl rfl rfl underlying28 sz61 h67 c5.1 c5.2 rfl g) rfl (GX.l2 rfl (GO.stRow (T := T_GCrossing) (j := 4) (n := e_crossing.toNat) (o := 0) (vs := [.int .i64 t59, .int .i64 t60, .int .i64 t61, .int .i64 t62, .int .i64 t63]) (⟨t59, t60, t61, t62, t63⟩ : GCrossing) HS rfl flat_flat rfl rfl rfl rfl (htA ag61) rfl (getD_some (d := z_GCrossing) (ltN c5)) rfl rfl fun wd68 HS => GX.finZ (GX.nil ?_)))))⟩)))))))))
   replace HS := HS.boxEq (j := 3) (cs' := [.slice A_a (d_Crossings.set e_crossing.toNat (⟨t59, t60, t61, t62, t63⟩ : GCrossing)).length c_a, .int .i64 d_Circles]) rfl (by simp only [List.length_set] <;> rfl)
   obtain rfl := Option.some.inj H
   exact G.end0 func69 rfl ⟨rfl, (HS.pk 5 [4] rfl)⟩
  cases H
end Go.Proofs.YtdfiglhdjlmakaaGreat
