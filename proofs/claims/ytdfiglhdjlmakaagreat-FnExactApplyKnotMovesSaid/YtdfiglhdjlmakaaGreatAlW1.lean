/-
  The walks through the functions: a call comes to what its list function says.
-/
import Derived.Test.YtdfiglhdjlmakaaGreatAlF
set_option linter.unusedVariables false
set_option linter.unusedSimpArgs false
namespace Go.Proofs.YtdfiglhdjlmakaaGreat
open Go.RowKit
open Tryz
set_option maxRecDepth 20000
set_option maxHeartbeats 40000000
theorem laws_szCrossingS.calls {w0 w : World} {L : List HObj} {a_ : List GCrossing} {left : Int} {A_a : Option Addr} {c_a : Nat} {r1 : Int} (HS : St w0 w (L)) (r_a : RdIn w0 L T_GCrossing A_a c_a (fun _ => ()) a_) (H : laws_szCrossingS.f a_ left = some r1) :
    Calls prog 15 #[.slice A_a a_.length c_a, .int .i64 left] w (laws_szCrossingS.post w0 L r1) := by
  unfold laws_szCrossingS.f at H
  refine Calls.of_G func15 rfl rfl rfl ?_
  refine G.run 3 rfl (G.region (GO.ps 2 rfl (GO.lenS rfl rfl underlying22 rfl (GO.ps 2 rfl (GO.nil (G.run 3 rfl ?_))))))
  rcases ite_elim H with ⟨c1, H⟩ | ⟨c1, H⟩
  ·
   refine G.yesB rfl (decide_eq_true c1) (G.run 2 rfl ?_)
   obtain rfl := Option.some.inj H
   exact G.ret1 _ func15 rfl rfl ⟨rfl, HS⟩
  refine G.noB rfl (decide_eq_false c1) (G.run 3 rfl ?_)
  obtain rfl := Option.some.inj H
  exact G.ret1 _ func15 rfl rfl ⟨rfl, HS⟩
theorem laws_szDiagram.calls {w0 w : World} {L : List HObj} {a_Crossings : List GCrossing} {a_Circles left : Int} {A_a : Option Addr} {c_a : Nat} {r1 : Int} (HS : St w0 w (L)) (r_a : RdIn w0 L T_GCrossing A_a c_a (fun _ => ()) a_Crossings) (H : laws_szDiagram.f a_Crossings a_Circles left = some r1) :
    Calls prog 4 #[.agg [.slice A_a a_Crossings.length c_a, .int .i64 a_Circles].toArray, .int .i64 left] w (laws_szDiagram.post w0 L r1) := by
  unfold laws_szDiagram.f at H
  refine Calls.of_G func4 rfl rfl rfl ?_
  refine G.seq (G.region (GO.box (cs := [.slice A_a a_Crossings.length c_a, .int .i64 a_Circles]) HS rfl rfl rfl rfl fun b1 wd2 HS => GO.assign rfl rfl rfl (GO.nil (G.seq ?_))))
  obtain ⟨t3, h4, H⟩ := Option.bind_eq_some_iff.1 H
  refine G.region (GO.fld (⟨b1, 0, none⟩) rfl rfl fl24_0 rfl rfl (GO.ldBox (j := 0) HS rfl rfl rfl rfl na22 rfl (GO.move rfl rfl rfl (GO.fn rfl func15 fok15.1 fok15.2 rfl rfl (laws_szCrossingS.calls HS (RdIn.drop 1 r_a) h4) (fun _ wd5 ⟨h6, HS⟩ => ⟨_, h6, (GO.assign rfl rfl rfl (GO.nil (G.run 3 rfl ?_)))⟩)))))
  rcases ite_elim H with ⟨c7, H⟩ | ⟨c7, H⟩
  ·
   refine G.yesB rfl (decide_eq_true c7) (G.run 2 rfl ?_)
   obtain rfl := Option.some.inj H
   exact G.ret1 _ func4 rfl rfl ⟨rfl, (HS.pk 1 [] rfl)⟩
  refine G.noB rfl (decide_eq_false c7) (G.run 3 rfl ?_)
  obtain rfl := Option.some.inj H
  exact G.ret1 _ func4 rfl rfl ⟨rfl, (HS.pk 1 [] rfl)⟩
theorem laws_szKnotMoveS.calls {w0 w : World} {L : List HObj} {a_ : List GKnotMove} {left : Int} {A_a : Option Addr} {c_a : Nat} {r1 : Int} (HS : St w0 w (L)) (r_a : RdIn w0 L T_GKnotMove A_a c_a (fun _ => ()) a_) (H : laws_szKnotMoveS.f a_ left = some r1) :
    Calls prog 5 #[.slice A_a a_.length c_a, .int .i64 left] w (laws_szKnotMoveS.post w0 L r1) := by
  unfold laws_szKnotMoveS.f at H
  refine Calls.of_G func5 rfl rfl rfl ?_
  refine G.run 3 rfl (G.region (GO.ps 2 rfl (GO.lenS rfl rfl underlying25 rfl (GO.ps 2 rfl (GO.nil (G.run 3 rfl ?_))))))
  rcases ite_elim H with ⟨c1, H⟩ | ⟨c1, H⟩
  ·
   refine G.yesB rfl (decide_eq_true c1) (G.run 2 rfl ?_)
   obtain rfl := Option.some.inj H
   exact G.ret1 _ func5 rfl rfl ⟨rfl, HS⟩
  refine G.noB rfl (decide_eq_false c1) (G.run 3 rfl ?_)
  obtain rfl := Option.some.inj H
  exact G.ret1 _ func5 rfl rfl ⟨rfl, HS⟩
theorem laws_toCrossing.calls {w0 w : World} {L : List HObj} {a_A a_B : Int} {a_C a_D : Int} {a_Sign r1 : Int} {r2 r3 : Int} {r4 r5 : Int} (HS : St w0 w (L)) (H : laws_toCrossing.f a_A a_B a_C a_D a_Sign = some (r1, r2, r3, r4, r5)) :
    Calls prog 36 #[.agg [.int .i64 a_A, .int .i64 a_B, .int .i64 a_C, .int .i64 a_D, .int .i64 a_Sign].toArray] w (laws_toCrossing.post w0 L r1 r2 r3 r4 r5) := by
  unfold laws_toCrossing.f at H
  refine Calls.of_G func36 rfl rfl rfl ?_
  refine G.seq (G.region (GO.box (cs := [.int .i64 a_A, .int .i64 a_B, .int .i64 a_C, .int .i64 a_D, .int .i64 a_Sign]) HS rfl rfl rfl rfl fun b1 wd2 HS => GO.alloc HS rfl zr61 rfl rfl fun b3 wd4 HS => GO.nil (G.seq (G.region (GO.alloc HS rfl zr61 rfl rfl fun b5 wd6 HS => GO.nil (G.seq (G.region (GO.fld (⟨b1, 0, none⟩) rfl rfl fl63_0 rfl rfl (GO.ldBox (j := 2) HS rfl rfl rfl rfl na2 rfl (GO.fld (⟨b5, 0, none⟩) rfl rfl fl61_0 rfl rfl (GO.stBox (j := 0) (vs := [.int .i64 a_A]) ([.int .i64 a_A, .int .i64 0, .int .i64 0, .int .i64 0, .int .i64 0]) HS rfl rfl rfl rfl rfl (htN na2 rfl) rfl rfl rfl fun wd7 HS => ?_)))))))))))
  refine GO.nil (G.seq (G.region (GO.fld (⟨b1, 1, none⟩) rfl rfl fl63_1 rfl rfl (GO.ldBox (j := 2) HS rfl rfl rfl rfl na2 rfl (GO.fld (⟨b5, 1, none⟩) rfl rfl fl61_1 rfl rfl (GO.stBox (j := 0) (vs := [.int .i64 a_B]) ([.int .i64 a_A, .int .i64 a_B, .int .i64 0, .int .i64 0, .int .i64 0]) HS rfl rfl rfl rfl rfl (htN na2 rfl) rfl rfl rfl fun wd8 HS => GO.nil (G.seq (G.region (GO.fld (⟨b1, 2, none⟩) rfl rfl fl63_2 rfl rfl (GO.ldBox (j := 2) HS rfl rfl rfl rfl na2 rfl (GO.fld (⟨b5, 2, none⟩) rfl rfl fl61_2 rfl rfl (GO.stBox (j := 0) (vs := [.int .i64 a_C]) ([.int .i64 a_A, .int .i64 a_B, .int .i64 a_C, .int .i64 0, .int .i64 0]) HS rfl rfl rfl rfl rfl (htN na2 rfl) rfl rfl rfl fun wd9 HS => GO.nil ?_))))))))))))
  refine G.seq (G.region (GO.fld (⟨b1, 3, none⟩) rfl rfl fl63_3 rfl rfl (GO.ldBox (j := 2) HS rfl rfl rfl rfl na2 rfl (GO.fld (⟨b5, 3, none⟩) rfl rfl fl61_3 rfl rfl (GO.stBox (j := 0) (vs := [.int .i64 a_D]) ([.int .i64 a_A, .int .i64 a_B, .int .i64 a_C, .int .i64 a_D, .int .i64 0]) HS rfl rfl rfl rfl rfl (htN na2 rfl) rfl rfl rfl fun wd10 HS => GO.nil (G.seq (G.region (GO.fld (⟨b1, 4, none⟩) rfl rfl fl63_4 rfl rfl (GO.ldBox (j := 2) HS rfl rfl rfl rfl na2 rfl (GO.fld (⟨b5, 4, none⟩) rfl rfl fl61_4 rfl rfl (GO.stBox (j := 0) (vs := [.int .i64 a_Sign]) ([.int .i64 a_A, .int .i64 a_B, .int .i64 a_C, .int .i64 a_D, .int .i64 a_Sign]) HS rfl rfl rfl rfl rfl (htN na2 rfl) rfl rfl rfl fun wd11 HS => GO.nil (G.seq ?_))))))))))))
  refine G.region (GO.ldBoxA (j := 0) ([.int .i64 a_A, .int .i64 a_B, .int .i64 a_C, .int .i64 a_D, .int .i64 a_Sign]) HS rfl rfl rfl rfl ag61 rfl (GO.stBox (j := 1) (vs := [.int .i64 a_A, .int .i64 a_B, .int .i64 a_C, .int .i64 a_D, .int .i64 a_Sign]) ([.int .i64 a_A, .int .i64 a_B, .int .i64 a_C, .int .i64 a_D, .int .i64 a_Sign]) HS rfl rfl rfl rfl rfl (htA ag61) rfl rfl rfl fun wd12 HS => GO.nil ?_))
  obtain ⟨rfl, rfl, rfl, rfl, rfl⟩ := some5 H
  exact G.ret1 _ func36 rfl (Res1.boxA (j := 1) (vs := [.int .i64 a_A, .int .i64 a_B, .int .i64 a_C, .int .i64 a_D, .int .i64 a_Sign]) HS rfl rfl rfl ag61) ⟨rfl, (HS.pk 3 [] rfl)⟩
theorem laws_toCrossingS.calls {w0 w : World} {L : List HObj} {K : Nat} {a_ : List GCrossing} {A_a : Option Addr} {c_a : Nat} {r1 : List GCrossing} (HS : St w0 w (L)) (r_a : RdIn w0 L T_GCrossing A_a c_a (fun _ => ()) a_) (H : laws_toCrossingS.f K a_ = some r1) :
    Calls prog 18 #[.slice A_a a_.length c_a] w (laws_toCrossingS.post w0 L r1) := by
  unfold laws_toCrossingS.f at H
  refine Calls.of_G func18 rfl rfl rfl ?_
  refine G.run 3 rfl ?_
  obtain ⟨c1, H⟩ := ite_none H
  obtain ⟨c2, H⟩ := ite_none H
  refine G.region (GO.move rfl rfl rfl (GO.lenS rfl rfl underlying22 rfl (GO.make (T := T_GCrossing) z_GCrossing () HS flat_flat rfl rfl rfl underlying28 inf61 rfl rfl rfl c1 c2 rfl fun b3 wd4 HS => GO.assign rfl rfl rfl (GO.nil (G.run 5 rfl ?_)))))
  refine G.name (fun k_l1 hk_l1 => ?_)
  have at_l1 : ∀ m_l1, m_l1 ≤ K → ∀ (out_19 : List GCrossing) (i_20 : Int) (w : World), laws_toCrossingS.l1 K m_l1 a_ out_19 i_20 = some r1 → St w0 w (Own T_GCrossing 61 (some ⟨b3, 0, none⟩) ((a_.length : Int).toNat) (fun _ => ()) out_19 :: L) → G prog 18 23 [(0, .slice A_a a_.length c_a), (3, .slice (some ⟨b3, 0, none⟩) out_19.length ((a_.length : Int).toNat)), (4, .int .i64 i_20)] k_l1 w (laws_toCrossingS.post w0 L r1) := by
   intro m_l1
   induction m_l1 using Nat.strongRecOn with
   | _ m_l1 ih_l1 =>
    intro hm_l1 out_19 i_20 w H HS
    cases m_l1 with
    | zero => rw [laws_toCrossingS.l1] at H; cases H
    | succ n_l1 =>
     rw [laws_toCrossingS.l1] at H
     subst hk_l1
     refine G.run 2 rfl (G.region (GO.ps 2 rfl (GO.lenS rfl rfl underlying22 rfl (GO.lss rfl rfl rfl rfl (GO.nil ?_)))))
     rcases ite_elim H with ⟨c35, H⟩ | ⟨c35, H⟩
     ·
      refine G.yesB rfl (decide_eq_true c35) (G.run 3 rfl ?_)
      obtain ⟨c36, H⟩ := ite_none H
      obtain ⟨e37, h38, H⟩ := bnd_elim H
      obtain ⟨t39, t40, t41, t42, t43, h44, H⟩ := bind5_elim H
      obtain ⟨c47, H⟩ := ite_none H
      refine G.region (GO.ps 4 rfl (GO.ix rfl rfl rfl underlying22 sz63 ((RdIn.drop 1 r_a) _ HS).2.2.1 c36.1 c36.2 rfl (GO.ldRdA (T := T_GCrossing) (n := i_20.toNat) HS (RdIn.drop 1 r_a) rfl rfl (getD_eq (ltN c36) h38) ag63 rfl (GO.fn rfl func36 fok36.1 fok36.2 rfl rfl (laws_toCrossing.calls HS  h44) (fun _ wd45 ⟨h46, HS⟩ => ⟨_, h46, (GO.ix rfl rfl rfl underlying28 sz61 (fun _ => ⟨_, _, rfl⟩) c47.1 c47.2 rfl (GO.stRow (T := T_GCrossing) (j := 0) (n := i_20.toNat) (o := 0) (vs := [.int .i64 t39, .int .i64 t40, .int .i64 t41, .int .i64 t42, .int .i64 t43]) (⟨t39, t40, t41, t42, t43⟩ : GCrossing) HS rfl flat_flat rfl rfl rfl rfl (htA ag61) rfl (getD_some (d := z_GCrossing) (ltN c47)) rfl rfl fun wd48 HS => GO.nil (G.len (t := 3) (m := (out_19.set i_20.toNat (⟨t39, t40, t41, t42, t43⟩ : GCrossing)).length) rfl (by simp only [List.length_set] <;> rfl) (G.run 3 rfl (G.weak ?_ (ih_l1 n_l1 (Nat.lt_succ_of_le (Nat.le_refl _)) (Nat.le_of_succ_le hm_l1) _ _ _ H HS))))))⟩)))))
      exact ⟨rfl, rfl, rfl, trivial⟩
     refine G.noB rfl (decide_eq_false c35) (G.run 3 rfl ?_)
     obtain rfl := Option.some.inj H
     exact G.ret1 _ func18 rfl rfl ⟨_, _, rfl, HS⟩
  refine G.weak ?_ (at_l1 K (Nat.le_refl _) _ _ _ H HS)
  exact ⟨rfl, rfl, rfl, trivial⟩
theorem laws_toDiagram.calls {w0 w : World} {L : List HObj} {K : Nat} {a_Crossings : List GCrossing} {a_Circles : Int} {A_a : Option Addr} {c_a : Nat} {r1 : List GCrossing} {r2 : Int} (HS : St w0 w (L)) (r_a : RdIn w0 L T_GCrossing A_a c_a (fun _ => ()) a_Crossings) (H : laws_toDiagram.f K a_Crossings a_Circles = some (r1, r2)) :
    Calls prog 7 #[.agg [.slice A_a a_Crossings.length c_a, .int .i64 a_Circles].toArray] w (laws_toDiagram.post w0 L r1 r2) := by
  unfold laws_toDiagram.f at H
  refine Calls.of_G func7 rfl rfl rfl ?_
  refine G.seq (G.region (GO.box (cs := [.slice A_a a_Crossings.length c_a, .int .i64 a_Circles]) HS rfl rfl rfl rfl fun b1 wd2 HS => GO.alloc HS rfl zr30 rfl rfl fun b3 wd4 HS => GO.nil (G.seq (G.region (GO.alloc HS rfl zr30 rfl rfl fun b5 wd6 HS => GO.nil (G.seq ?_))))))
  obtain ⟨t7, h8, H⟩ := Option.bind_eq_some_iff.1 H
  refine G.region (GO.fld (⟨b1, 0, none⟩) rfl rfl fl24_0 rfl rfl (GO.ldBox (j := 2) HS rfl rfl rfl rfl na22 rfl (GO.fn rfl func18 fok18.1 fok18.2 rfl rfl (laws_toCrossingS.calls HS (RdIn.drop 3 r_a) h8) (fun _ wd11 ⟨A9, c10, h12, HS⟩ => ⟨_, h12, (GO.fld (⟨b5, 0, none⟩) rfl rfl fl30_0 rfl rfl (GO.stBox (j := 1) (vs := [.slice A9 t7.length c10]) ([.slice A9 t7.length c10, .int .i64 0]) HS rfl rfl rfl rfl rfl (htN na28 rfl) rfl rfl rfl fun wd13 HS => GO.nil (G.seq (G.region (GO.fld (⟨b1, 1, none⟩) rfl rfl fl24_1 rfl rfl (GO.ldBox (j := 3) HS rfl rfl rfl rfl na2 rfl (GO.fld (⟨b5, 1, none⟩) rfl rfl fl30_1 rfl rfl (GO.stBox (j := 1) (vs := [.int .i64 a_Circles]) ([.slice A9 t7.length c10, .int .i64 a_Circles]) HS rfl rfl rfl rfl rfl (htN na2 rfl) rfl rfl rfl fun wd14 HS => GO.nil (G.seq ?_)))))))))⟩))))
  refine G.region (GO.ldBoxA (j := 1) ([.slice A9 t7.length c10, .int .i64 a_Circles]) HS rfl rfl rfl rfl ag30 rfl (GO.stBox (j := 2) (vs := [.slice A9 t7.length c10, .int .i64 a_Circles]) ([.slice A9 t7.length c10, .int .i64 a_Circles]) HS rfl rfl rfl rfl rfl (htA ag30) rfl rfl rfl fun wd15 HS => GO.nil ?_))
  obtain ⟨rfl, rfl⟩ := some2 H
  exact G.ret1 _ func7 rfl (Res1.boxA (j := 2) (vs := [.slice A9 t7.length c10, .int .i64 a_Circles]) HS rfl rfl rfl ag30) ⟨_, _, rfl, (HS.pk 4 [0] rfl)⟩
theorem laws_toKnotMove.calls {w0 w : World} {L : List HObj} {a_Kind a_I : Int} {a_J r1 : Int} {r2 r3 : Int} (HS : St w0 w (L)) (H : laws_toKnotMove.f a_Kind a_I a_J = some (r1, r2, r3)) :
    Calls prog 19 #[.agg [.int .i64 a_Kind, .int .i64 a_I, .int .i64 a_J].toArray] w (laws_toKnotMove.post w0 L r1 r2 r3) := by
  unfold laws_toKnotMove.f at H
  refine Calls.of_G func19 rfl rfl rfl ?_
  refine G.seq (G.region (GO.box (cs := [.int .i64 a_Kind, .int .i64 a_I, .int .i64 a_J]) HS rfl rfl rfl rfl fun b1 wd2 HS => GO.alloc HS rfl zr46 rfl rfl fun b3 wd4 HS => GO.nil (G.seq (G.region (GO.alloc HS rfl zr46 rfl rfl fun b5 wd6 HS => GO.nil (G.seq (G.region (GO.fld (⟨b1, 0, none⟩) rfl rfl fl49_0 rfl rfl (GO.ldBox (j := 2) HS rfl rfl rfl rfl na2 rfl (GO.fld (⟨b5, 0, none⟩) rfl rfl fl46_0 rfl rfl (GO.stBox (j := 0) (vs := [.int .i64 a_Kind]) ([.int .i64 a_Kind, .int .i64 0, .int .i64 0]) HS rfl rfl rfl rfl rfl (htN na2 rfl) rfl rfl rfl fun wd7 HS => ?_)))))))))))
  refine GO.nil (G.seq (G.region (GO.fld (⟨b1, 1, none⟩) rfl rfl fl49_1 rfl rfl (GO.ldBox (j := 2) HS rfl rfl rfl rfl na2 rfl (GO.fld (⟨b5, 1, none⟩) rfl rfl fl46_1 rfl rfl (GO.stBox (j := 0) (vs := [.int .i64 a_I]) ([.int .i64 a_Kind, .int .i64 a_I, .int .i64 0]) HS rfl rfl rfl rfl rfl (htN na2 rfl) rfl rfl rfl fun wd8 HS => GO.nil (G.seq (G.region (GO.fld (⟨b1, 2, none⟩) rfl rfl fl49_2 rfl rfl (GO.ldBox (j := 2) HS rfl rfl rfl rfl na2 rfl (GO.fld (⟨b5, 2, none⟩) rfl rfl fl46_2 rfl rfl (GO.stBox (j := 0) (vs := [.int .i64 a_J]) ([.int .i64 a_Kind, .int .i64 a_I, .int .i64 a_J]) HS rfl rfl rfl rfl rfl (htN na2 rfl) rfl rfl rfl fun wd9 HS => GO.nil ?_))))))))))))
  refine G.seq (G.region (GO.ldBoxA (j := 0) ([.int .i64 a_Kind, .int .i64 a_I, .int .i64 a_J]) HS rfl rfl rfl rfl ag46 rfl (GO.stBox (j := 1) (vs := [.int .i64 a_Kind, .int .i64 a_I, .int .i64 a_J]) ([.int .i64 a_Kind, .int .i64 a_I, .int .i64 a_J]) HS rfl rfl rfl rfl rfl (htA ag46) rfl rfl rfl fun wd10 HS => GO.nil ?_)))
  obtain ⟨rfl, rfl, rfl⟩ := some3 H
  exact G.ret1 _ func19 rfl (Res1.boxA (j := 1) (vs := [.int .i64 a_Kind, .int .i64 a_I, .int .i64 a_J]) HS rfl rfl rfl ag46) ⟨rfl, (HS.pk 3 [] rfl)⟩
theorem laws_toKnotMoveS.calls {w0 w : World} {L : List HObj} {K : Nat} {a_ : List GKnotMove} {A_a : Option Addr} {c_a : Nat} {r1 : List GKnotMove} (HS : St w0 w (L)) (r_a : RdIn w0 L T_GKnotMove A_a c_a (fun _ => ()) a_) (H : laws_toKnotMoveS.f K a_ = some r1) :
    Calls prog 8 #[.slice A_a a_.length c_a] w (laws_toKnotMoveS.post w0 L r1) := by
  unfold laws_toKnotMoveS.f at H
  refine Calls.of_G func8 rfl rfl rfl ?_
  refine G.run 3 rfl ?_
  obtain ⟨c1, H⟩ := ite_none H
  obtain ⟨c2, H⟩ := ite_none H
  refine G.region (GO.move rfl rfl rfl (GO.lenS rfl rfl underlying25 rfl (GO.make (T := T_GKnotMove) z_GKnotMove () HS flat_flat rfl rfl rfl underlying34 inf46 rfl rfl rfl c1 c2 rfl fun b3 wd4 HS => GO.assign rfl rfl rfl (GO.nil (G.run 5 rfl ?_)))))
  refine G.name (fun k_l1 hk_l1 => ?_)
  have at_l1 : ∀ m_l1, m_l1 ≤ K → ∀ (out_17 : List GKnotMove) (i_18 : Int) (w : World), laws_toKnotMoveS.l1 K m_l1 a_ out_17 i_18 = some r1 → St w0 w (Own T_GKnotMove 46 (some ⟨b3, 0, none⟩) ((a_.length : Int).toNat) (fun _ => ()) out_17 :: L) → G prog 8 23 [(0, .slice A_a a_.length c_a), (3, .slice (some ⟨b3, 0, none⟩) out_17.length ((a_.length : Int).toNat)), (4, .int .i64 i_18)] k_l1 w (laws_toKnotMoveS.post w0 L r1) := by
   intro m_l1
   induction m_l1 using Nat.strongRecOn with
   | _ m_l1 ih_l1 =>
    intro hm_l1 out_17 i_18 w H HS
    cases m_l1 with
    | zero => rw [laws_toKnotMoveS.l1] at H; cases H
    | succ n_l1 =>
     rw [laws_toKnotMoveS.l1] at H
     subst hk_l1
     refine G.run 2 rfl (G.region (GO.ps 2 rfl (GO.lenS rfl rfl underlying25 rfl (GO.lss rfl rfl rfl rfl (GO.nil ?_)))))
     rcases ite_elim H with ⟨c31, H⟩ | ⟨c31, H⟩
     ·
      refine G.yesB rfl (decide_eq_true c31) (G.run 3 rfl ?_)
      obtain ⟨c32, H⟩ := ite_none H
      obtain ⟨e33, h34, H⟩ := bnd_elim H
      obtain ⟨t35, t36, t37, h38, H⟩ := bind3_elim H
      obtain ⟨c41, H⟩ := ite_none H
      refine G.region (GO.ps 4 rfl (GO.ix rfl rfl rfl underlying25 sz49 ((RdIn.drop 1 r_a) _ HS).2.2.1 c32.1 c32.2 rfl (GO.ldRdA (T := T_GKnotMove) (n := i_18.toNat) HS (RdIn.drop 1 r_a) rfl rfl (getD_eq (ltN c32) h34) ag49 rfl (GO.fn rfl func19 fok19.1 fok19.2 rfl rfl (laws_toKnotMove.calls HS  h38) (fun _ wd39 ⟨h40, HS⟩ => ⟨_, h40, (GO.ix rfl rfl rfl underlying34 sz46 (fun _ => ⟨_, _, rfl⟩) c41.1 c41.2 rfl (GO.stRow (T := T_GKnotMove) (j := 0) (n := i_18.toNat) (o := 0) (vs := [.int .i64 t35, .int .i64 t36, .int .i64 t37]) (⟨t35, t36, t37⟩ : GKnotMove) HS rfl flat_flat rfl rfl rfl rfl (htA ag46) rfl (getD_some (d := z_GKnotMove) (ltN c41)) rfl rfl fun wd42 HS => GO.nil (G.len (t := 3) (m := (out_17.set i_18.toNat (⟨t35, t36, t37⟩ : GKnotMove)).length) rfl (by simp only [List.length_set] <;> rfl) (G.run 3 rfl (G.weak ?_ (ih_l1 n_l1 (Nat.lt_succ_of_le (Nat.le_refl _)) (Nat.le_of_succ_le hm_l1) _ _ _ H HS))))))⟩)))))
      exact ⟨rfl, rfl, rfl, trivial⟩
     refine G.noB rfl (decide_eq_false c31) (G.run 3 rfl ?_)
     obtain rfl := Option.some.inj H
     exact G.ret1 _ func8 rfl rfl ⟨_, _, rfl, HS⟩
  refine G.weak ?_ (at_l1 K (Nat.le_refl _) _ _ _ H HS)
  exact ⟨rfl, rfl, rfl, trivial⟩
theorem spec_l01In.calls {w0 w : World} {L : List HObj} {n_ low high : Int} {r1 : Bool} (HS : St w0 w (L)) (H : spec_l01In.f n_ low high = some r1) :
    Calls prog 27 #[.int .i64 n_, .int .i64 low, .int .i64 high] w (spec_l01In.post w0 L r1) := by
  unfold spec_l01In.f at H
  refine Calls.of_G func27 rfl rfl rfl ?_
  refine G.run 3 rfl ?_
  rcases ite_elim H with ⟨c1, H⟩ | ⟨c1, H⟩
  ·
   refine G.region (GO.ps 4 rfl (GO.known (t := 10) rfl (decide_eq_true c1) (GO.on rfl rfl rfl rfl (GO.move rfl rfl rfl (GO.back (GO.on rfl rfl rfl rfl (GO.move rfl rfl rfl (GO.back (GO.on rfl rfl rfl rfl (GO.leq rfl rfl rfl rfl (GO.back (GO.ps 2 rfl (GO.nil ?_)))))))))))))
   obtain rfl := Option.some.inj H
   exact G.ret1 _ func27 rfl rfl ⟨rfl, HS⟩
  refine G.region (GO.ps 4 rfl (GO.known (t := 10) rfl (decide_eq_false c1) (GO.off rfl rfl rfl rfl rfl rfl (GO.off rfl rfl rfl rfl rfl rfl (GO.off rfl rfl rfl rfl rfl rfl (GO.ps 2 rfl (GO.nil ?_)))))))
  obtain rfl := Option.some.inj H
  exact G.ret1 _ func27 rfl rfl ⟨rfl, HS⟩
theorem spec_l25End.calls {w0 w : World} {L : List HObj} {x_A x_B : Int} {x_C x_D : Int} {x_Sign p r1 : Int} (HS : St w0 w (L)) (H : spec_l25End.f x_A x_B x_C x_D x_Sign p = some r1) :
    Calls prog 45 #[.agg [.int .i64 x_A, .int .i64 x_B, .int .i64 x_C, .int .i64 x_D, .int .i64 x_Sign].toArray, .int .i64 p] w (spec_l25End.post w0 L r1) := by
  unfold spec_l25End.f at H
  refine Calls.of_G func45 rfl rfl rfl ?_
  refine G.seq (G.region (GO.box (cs := [.int .i64 x_A, .int .i64 x_B, .int .i64 x_C, .int .i64 x_D, .int .i64 x_Sign]) HS rfl rfl rfl rfl fun b1 wd2 HS => GO.assign rfl rfl rfl (GO.nil (G.seq ?_))))
  obtain ⟨c5, H⟩ := ite_none H
  refine G.region (GO.fld (⟨b1, 0, none⟩) rfl rfl fl61_0 rfl rfl (GO.ldBox (j := 0) HS rfl rfl rfl rfl na2 rfl (GO.fld (⟨b1, 1, none⟩) rfl rfl fl61_1 rfl rfl (GO.ldBox (j := 0) HS rfl rfl rfl rfl na2 rfl (GO.fld (⟨b1, 2, none⟩) rfl rfl fl61_2 rfl rfl (GO.ldBox (j := 0) HS rfl rfl rfl rfl na2 rfl (GO.fld (⟨b1, 3, none⟩) rfl rfl fl61_3 rfl rfl (GO.ldBox (j := 0) HS rfl rfl rfl rfl na2 rfl (GO.buildS (el := 2) ([.int .i64 x_A, .int .i64 x_B, .int .i64 x_C, .int .i64 x_D]) HS rfl rfl (fun _ => by kernel_rfl) rfl fun b3 wd4 HS => GO.move rfl rfl rfl ?_)))))))))
  replace HS := HS.boxRow (T := (TInt .i64)) (j := 0) rfl flat_flat (fun _ => ()) ([x_A, x_B, x_C, x_D] : List Int) rfl (bndL rfl)
  refine GO.lenC (t := 13) (m := ([x_A, x_B, x_C, x_D] : List Int).length) (c' := ([x_A, x_B, x_C, x_D] : List Int).length) rfl rfl rfl (GO.ix rfl rfl rfl underlying74 sz2 (fun _ => ⟨_, _, rfl⟩) c5.1 c5.2 rfl (GO.ldRd (T := (TInt .i64)) (n := p.toNat) (o := 0) HS (RdIn.own (j := 0) rfl) rfl rfl (getD_some (d := 0) (ltN c5)) rfl rfl na2 rfl (GO.assign rfl rfl rfl (GO.nil ?_))))
  obtain rfl := Option.some.inj H
  exact G.ret1 _ func45 rfl rfl ⟨rfl, (HS.pk 2 [] rfl)⟩
theorem spec_l25Enters.calls {w0 w : World} {L : List HObj} {x_A x_B : Int} {x_C x_D : Int} {x_Sign p : Int} {r1 : Bool} (HS : St w0 w (L)) (H : spec_l25Enters.f x_A x_B x_C x_D x_Sign p = some r1) :
    Calls prog 46 #[.agg [.int .i64 x_A, .int .i64 x_B, .int .i64 x_C, .int .i64 x_D, .int .i64 x_Sign].toArray, .int .i64 p] w (spec_l25Enters.post w0 L r1) := by
  unfold spec_l25Enters.f at H
  refine Calls.of_G func46 rfl rfl rfl ?_
  refine G.seq (G.region (GO.box (cs := [.int .i64 x_A, .int .i64 x_B, .int .i64 x_C, .int .i64 x_D, .int .i64 x_Sign]) HS rfl rfl rfl rfl fun b1 wd2 HS => GO.assign rfl rfl rfl (GO.nil (G.seq ?_))))
  rcases ite_elim H with ⟨c3, H⟩ | ⟨c3, H⟩
  ·
   refine G.region (GO.ps 3 rfl (GO.known (t := 7) rfl (decide_eq_true c3) (GO.off rfl rfl rfl rfl rfl rfl (GO.off rfl rfl rfl rfl rfl rfl (GO.off rfl rfl rfl rfl rfl rfl (GO.offU rfl rfl rfl rfl rfl rfl (GO.offU rfl rfl rfl rfl rfl rfl (GO.offU rfl rfl rfl rfl rfl rfl (GO.off rfl rfl rfl rfl rfl rfl (GO.ps 2 rfl (GO.off rfl rfl rfl rfl rfl rfl (GO.off rfl rfl rfl rfl rfl rfl (GO.off rfl rfl rfl rfl rfl rfl (GO.offU rfl rfl rfl rfl rfl rfl ?_))))))))))))))
   refine GO.offU rfl rfl rfl rfl rfl rfl (GO.offU rfl rfl rfl rfl rfl rfl (GO.off rfl rfl rfl rfl rfl rfl (GO.ps 2 rfl (GO.nil ?_))))
   obtain rfl := Option.some.inj H
   exact G.ret1 _ func46 rfl rfl ⟨rfl, (HS.pk 1 [] rfl)⟩
  rcases ite_elim H with ⟨c4, H⟩ | ⟨c4, H⟩
  ·
   rcases ite_elim H with ⟨c5, H⟩ | ⟨c5, H⟩
   ·
    refine G.region (GO.ps 3 rfl (GO.known (t := 7) rfl (decide_eq_false c3) (GO.on rfl rfl rfl rfl (GO.move rfl rfl rfl (GO.back (GO.on rfl rfl rfl rfl (GO.eql rfl rfl rfl rfl (GO.back (GO.on rfl rfl rfl rfl (GO.move rfl rfl rfl (GO.back (GO.known (t := 10) rfl (decide_eq_true c4) (GO.on rfl rfl rfl rfl (GO.fld (⟨b1, 4, none⟩) rfl rfl fl61_4 rfl rfl ?_))))))))))))))
    refine GO.back (GO.on rfl rfl rfl rfl (GO.ldBox (j := 0) HS rfl rfl rfl rfl na2 rfl (GO.back (GO.on rfl rfl rfl rfl (GO.eql rfl rfl rfl rfl (GO.back (GO.on rfl rfl rfl rfl (GO.pickT rfl rfl rfl rfl rfl (GO.back (GO.ps 2 rfl (GO.known (t := 16) rfl (decide_eq_true c5) (GO.off rfl rfl rfl rfl rfl rfl (GO.off rfl rfl rfl rfl rfl rfl (GO.off rfl rfl rfl rfl rfl rfl ?_))))))))))))))
    refine GO.offU rfl rfl rfl rfl rfl rfl (GO.offU rfl rfl rfl rfl rfl rfl (GO.offU rfl rfl rfl rfl rfl rfl (GO.off rfl rfl rfl rfl rfl rfl (GO.ps 2 rfl (GO.nil ?_)))))
    obtain rfl := Option.some.inj H
    exact G.ret1 _ func46 rfl rfl ⟨rfl, (HS.pk 1 [] rfl)⟩
   rcases ite_elim H with ⟨c6, H⟩ | ⟨c6, H⟩
   ·
    refine G.region (GO.ps 3 rfl (GO.known (t := 7) rfl (decide_eq_false c3) (GO.on rfl rfl rfl rfl (GO.move rfl rfl rfl (GO.back (GO.on rfl rfl rfl rfl (GO.eql rfl rfl rfl rfl (GO.back (GO.on rfl rfl rfl rfl (GO.move rfl rfl rfl (GO.back (GO.known (t := 10) rfl (decide_eq_true c4) (GO.on rfl rfl rfl rfl (GO.fld (⟨b1, 4, none⟩) rfl rfl fl61_4 rfl rfl ?_))))))))))))))
    refine GO.back (GO.on rfl rfl rfl rfl (GO.ldBox (j := 0) HS rfl rfl rfl rfl na2 rfl (GO.back (GO.on rfl rfl rfl rfl (GO.eql rfl rfl rfl rfl (GO.back (GO.on rfl rfl rfl rfl (GO.pickT rfl rfl rfl rfl rfl (GO.back (GO.ps 2 rfl (GO.known (t := 16) rfl (decide_eq_false c5) (GO.on rfl rfl rfl rfl (GO.move rfl rfl rfl (GO.back ?_))))))))))))))
    refine GO.on rfl rfl rfl rfl (GO.eql rfl rfl rfl rfl (GO.back (GO.on rfl rfl rfl rfl (GO.move rfl rfl rfl (GO.back (GO.known (t := 19) rfl (decide_eq_true c6) (GO.on rfl rfl rfl rfl (GO.fld (⟨b1, 4, none⟩) rfl rfl fl61_4 rfl rfl (GO.back (GO.on rfl rfl rfl rfl (GO.ldBox (j := 0) HS rfl rfl rfl rfl na2 rfl (GO.back (GO.on rfl rfl rfl rfl (GO.eql rfl rfl rfl rfl ?_))))))))))))))
    refine GO.back (GO.on rfl rfl rfl rfl (GO.pickT rfl rfl rfl rfl rfl (GO.back (GO.ps 2 rfl (GO.nil ?_)))))
    obtain rfl := Option.some.inj H
    exact G.ret1 _ func46 rfl rfl ⟨rfl, (HS.pk 1 [] rfl)⟩
   refine G.region (GO.ps 3 rfl (GO.known (t := 7) rfl (decide_eq_false c3) (GO.on rfl rfl rfl rfl (GO.move rfl rfl rfl (GO.back (GO.on rfl rfl rfl rfl (GO.eql rfl rfl rfl rfl (GO.back (GO.on rfl rfl rfl rfl (GO.move rfl rfl rfl (GO.back (GO.known (t := 10) rfl (decide_eq_true c4) (GO.on rfl rfl rfl rfl (GO.fld (⟨b1, 4, none⟩) rfl rfl fl61_4 rfl rfl ?_))))))))))))))
   refine GO.back (GO.on rfl rfl rfl rfl (GO.ldBox (j := 0) HS rfl rfl rfl rfl na2 rfl (GO.back (GO.on rfl rfl rfl rfl (GO.eql rfl rfl rfl rfl (GO.back (GO.on rfl rfl rfl rfl (GO.pickT rfl rfl rfl rfl rfl (GO.back (GO.ps 2 rfl (GO.known (t := 16) rfl (decide_eq_false c5) (GO.on rfl rfl rfl rfl (GO.move rfl rfl rfl (GO.back ?_))))))))))))))
   refine GO.on rfl rfl rfl rfl (GO.eql rfl rfl rfl rfl (GO.back (GO.on rfl rfl rfl rfl (GO.move rfl rfl rfl (GO.back (GO.known (t := 19) rfl (decide_eq_false c6) (GO.off rfl rfl rfl rfl rfl rfl (GO.off rfl rfl rfl rfl rfl rfl (GO.off rfl rfl rfl rfl rfl rfl (GO.on rfl rfl rfl rfl (GO.pickF rfl rfl rfl rfl rfl (GO.back (GO.ps 2 rfl (GO.nil ?_))))))))))))))
   obtain rfl := Option.some.inj H
   exact G.ret1 _ func46 rfl rfl ⟨rfl, (HS.pk 1 [] rfl)⟩
  rcases ite_elim H with ⟨c7, H⟩ | ⟨c7, H⟩
  ·
   refine G.region (GO.ps 3 rfl (GO.known (t := 7) rfl (decide_eq_false c3) (GO.on rfl rfl rfl rfl (GO.move rfl rfl rfl (GO.back (GO.on rfl rfl rfl rfl (GO.eql rfl rfl rfl rfl (GO.back (GO.on rfl rfl rfl rfl (GO.move rfl rfl rfl (GO.back (GO.known (t := 10) rfl (decide_eq_false c4) (GO.off rfl rfl rfl rfl rfl rfl (GO.off rfl rfl rfl rfl rfl rfl ?_))))))))))))))
   refine GO.off rfl rfl rfl rfl rfl rfl (GO.on rfl rfl rfl rfl (GO.pickF rfl rfl rfl rfl rfl (GO.back (GO.ps 2 rfl (GO.on rfl rfl rfl rfl (GO.move rfl rfl rfl (GO.back (GO.on rfl rfl rfl rfl (GO.eql rfl rfl rfl rfl (GO.back (GO.on rfl rfl rfl rfl (GO.move rfl rfl rfl (GO.back (GO.known (t := 19) rfl (decide_eq_true c7) ?_))))))))))))))
   refine GO.on rfl rfl rfl rfl (GO.fld (⟨b1, 4, none⟩) rfl rfl fl61_4 rfl rfl (GO.back (GO.on rfl rfl rfl rfl (GO.ldBox (j := 0) HS rfl rfl rfl rfl na2 rfl (GO.back (GO.on rfl rfl rfl rfl (GO.eql rfl rfl rfl rfl (GO.back (GO.on rfl rfl rfl rfl (GO.pickT rfl rfl rfl rfl rfl (GO.back (GO.ps 2 rfl (GO.nil ?_)))))))))))))
   obtain rfl := Option.some.inj H
   exact G.ret1 _ func46 rfl rfl ⟨rfl, (HS.pk 1 [] rfl)⟩
  refine G.region (GO.ps 3 rfl (GO.known (t := 7) rfl (decide_eq_false c3) (GO.on rfl rfl rfl rfl (GO.move rfl rfl rfl (GO.back (GO.on rfl rfl rfl rfl (GO.eql rfl rfl rfl rfl (GO.back (GO.on rfl rfl rfl rfl (GO.move rfl rfl rfl (GO.back (GO.known (t := 10) rfl (decide_eq_false c4) (GO.off rfl rfl rfl rfl rfl rfl (GO.off rfl rfl rfl rfl rfl rfl ?_))))))))))))))
  refine GO.off rfl rfl rfl rfl rfl rfl (GO.on rfl rfl rfl rfl (GO.pickF rfl rfl rfl rfl rfl (GO.back (GO.ps 2 rfl (GO.on rfl rfl rfl rfl (GO.move rfl rfl rfl (GO.back (GO.on rfl rfl rfl rfl (GO.eql rfl rfl rfl rfl (GO.back (GO.on rfl rfl rfl rfl (GO.move rfl rfl rfl (GO.back (GO.known (t := 19) rfl (decide_eq_false c7) ?_))))))))))))))
  refine GO.off rfl rfl rfl rfl rfl rfl (GO.off rfl rfl rfl rfl rfl rfl (GO.off rfl rfl rfl rfl rfl rfl (GO.on rfl rfl rfl rfl (GO.pickF rfl rfl rfl rfl rfl (GO.back (GO.ps 2 rfl (GO.nil ?_)))))))
  obtain rfl := Option.some.inj H
  exact G.ret1 _ func46 rfl rfl ⟨rfl, (HS.pk 1 [] rfl)⟩
theorem spec_l25Counts.calls {w0 w : World} {L : List HObj} {K : Nat} {d_Crossings : List GCrossing} {d_Circles : Int} {A_a : Option Addr} {c_a : Nat} {r1 : Bool} (HS : St w0 w (L)) (r_a : RdIn w0 L T_GCrossing A_a c_a (fun _ => ()) d_Crossings) (H : spec_l25Counts.f K d_Crossings d_Circles = some r1) :
    Calls prog 28 #[.agg [.slice A_a d_Crossings.length c_a, .int .i64 d_Circles].toArray] w (spec_l25Counts.post w0 L r1) := by
  unfold spec_l25Counts.f at H
  refine Calls.of_G func28 rfl rfl rfl ?_
  refine G.seq (G.region (GO.box (cs := [.slice A_a d_Crossings.length c_a, .int .i64 d_Circles]) HS rfl rfl rfl rfl fun b1 wd2 HS => GO.assign rfl rfl rfl (GO.nil (G.seq (G.region (GO.fld (⟨b1, 0, none⟩) rfl rfl fl30_0 rfl rfl (GO.ldBox (j := 0) HS rfl rfl rfl rfl na28 rfl (GO.lenS rfl rfl underlying28 rfl (GO.ps 2 rfl (GO.nil (G.seq ?_)))))))))))
  obtain ⟨c3, H⟩ := ite_none H
  obtain ⟨c4, H⟩ := ite_none H
  refine G.regionAny mixed (by decide) (fun b a w => ∃ (Y1_0 : Value) (Y2_1 : Value) (Y3_2 : Value) (Y4_3 : Value) (Y5_4 : Value) (Y6_5 : Value) (b5 : Nat) (b7 : Nat) (O7_2 : HObj) (O8_3 : HObj), Sat 63 [(4, Y5_4), (5, Y6_5), (15, Y1_0), (16, Y2_1), (17, Y3_2), (18, Y4_3), (1, .pointer (some ⟨b1, 0, none⟩)), (3, .int .i64 (w64 (2 * (d_Crossings.length : Int))))] a ∧ St w0 w (Box b1 30 [.slice A_a d_Crossings.length c_a, .int .i64 d_Circles] :: O7_2 :: O8_3 :: L) ∧ (b 4 = true → Y5_4 = (.slice (some ⟨b5, 0, none⟩) (List.replicate (w64 (2 * (d_Crossings.length : Int))).toNat false).length ((w64 (2 * (d_Crossings.length : Int))).toNat))) ∧ (b 5 = true → Y6_5 = (.slice (some ⟨b7, 0, none⟩) (List.replicate (w64 (2 * (d_Crossings.length : Int))).toNat false).length ((w64 (2 * (d_Crossings.length : Int))).toNat))) ∧ (b 0 = true → Y1_0 = (.int .i64 (w64 (2 * (d_Crossings.length : Int))))) ∧ (b 1 = true → Y2_1 = (.slice (some ⟨b5, 0, none⟩) (List.replicate (w64 (2 * (d_Crossings.length : Int))).toNat false).length ((w64 (2 * (d_Crossings.length : Int))).toNat))) ∧ (b 2 = true → Y3_2 = (.int .i64 (w64 (2 * (d_Crossings.length : Int))))) ∧ (b 3 = true → Y4_3 = (.slice (some ⟨b7, 0, none⟩) (List.replicate (w64 (2 * (d_Crossings.length : Int))).toNat false).length ((w64 (2 * (d_Crossings.length : Int))).toNat))) ∧ (b 1 = true → O7_2 = Own TBool 4 (some ⟨b5, 0, none⟩) ((w64 (2 * (d_Crossings.length : Int))).toNat) (fun _ => ()) (List.replicate (w64 (2 * (d_Crossings.length : Int))).toNat false)) ∧ (b 3 = true → O8_3 = Own TBool 4 (some ⟨b7, 0, none⟩) ((w64 (2 * (d_Crossings.length : Int))).toNat) (fun _ => ()) (List.replicate (w64 (2 * (d_Crossings.length : Int))).toNat false))) ?_ ?_ ?_
  ·
   intro a hs
   obtain ⟨Y5_4, hs⟩ := hs.ext (d := 4) rfl
   obtain ⟨Y6_5, hs⟩ := hs.ext (d := 5) rfl
   obtain ⟨Y1_0, hs⟩ := hs.ext (d := 15) rfl
   obtain ⟨Y2_1, hs⟩ := hs.ext (d := 16) rfl
   obtain ⟨Y3_2, hs⟩ := hs.ext (d := 17) rfl
   obtain ⟨Y4_3, hs⟩ := hs.ext (d := 18) rfl
   exact ⟨Y1_0, Y2_1, Y3_2, Y4_3, Y5_4, Y6_5, 0, 0, Emp, Emp, hs.weak ⟨rfl, rfl, rfl, rfl, rfl, rfl, rfl, rfl, trivial⟩, (HS.drew.emp.emp.pk 3 [2, 1, 0] rfl), fun h => Bool.noConfusion h, fun h => Bool.noConfusion h, fun h => Bool.noConfusion h, fun h => Bool.noConfusion h, fun h => Bool.noConfusion h, fun h => Bool.noConfusion h, fun h => Bool.noConfusion h, fun h => Bool.noConfusion h⟩
  ·
   intro j hj b a w
   refine exI fun Y1_0 => exI fun Y2_1 => exI fun Y3_2 => exI fun Y4_3 => exI fun Y5_4 => exI fun Y6_5 => exI fun b5 => exI fun b7 => exI fun O7_2 => exI fun O8_3 => anI fun hs => anI fun HS => anI fun f4 => anI fun f5 => anI fun f0 => anI fun f1 => anI fun f2 => anI fun f3 => anI fun o2_0 => fun o3_0 hb hd hcl => ?_
   match j, hj with
   | 0, _ =>
    refine GO.at hs (GO.move rfl rfl rfl (GO.fin (fun a hs => ⟨(.int .i64 (w64 (2 * (d_Crossings.length : Int)))), _, _, _, _, _, b5, b7, _, _, by exact hs.setAt 2 rfl, HS, f4, f5, fun _ => rfl, f1, f2, f3, o2_0, o3_0⟩)))
   | 1, _ =>
    have hb0 : b 0 = true := hd 0 (by decide)
    obtain rfl := f0 hb0
    refine GO.at hs (GO.make (T := TBool) false () HS flat_flat rfl rfl rfl underlying71 inf4 rfl rfl rfl c3 c4 rfl fun b5 wd6 HS => GO.fin (fun a hs => ⟨_, (.slice (some ⟨b5, 0, none⟩) (List.replicate (w64 (2 * (d_Crossings.length : Int))).toNat false).length ((w64 (2 * (d_Crossings.length : Int))).toNat)), _, _, _, _, b5, b7, Own TBool 4 (some ⟨b5, 0, none⟩) ((w64 (2 * (d_Crossings.length : Int))).toNat) (fun _ => ()) (List.replicate (w64 (2 * (d_Crossings.length : Int))).toNat false), _, by exact hs.setAt 3 rfl, HS.pk 4 [1, 0, 3] rfl, fun hh => (Bool.noConfusion ((hcl 4 (by decide) hh 1 (by decide)).symm.trans hb)), f5, f0, fun _ => rfl, f2, f3, fun _ => rfl, o3_0⟩))
   | 2, _ =>
    refine GO.at hs (GO.move rfl rfl rfl (GO.fin (fun a hs => ⟨_, _, (.int .i64 (w64 (2 * (d_Crossings.length : Int)))), _, _, _, b5, b7, _, _, by exact hs.setAt 4 rfl, HS, f4, f5, f0, f1, fun _ => rfl, f3, o2_0, o3_0⟩)))
   | 3, _ =>
    have hb2 : b 2 = true := hd 2 (by decide)
    obtain rfl := f2 hb2
    refine GO.at hs (GO.make (T := TBool) false () HS flat_flat rfl rfl rfl underlying71 inf4 rfl rfl rfl c3 c4 rfl fun b7 wd8 HS => GO.fin (fun a hs => ⟨_, _, _, (.slice (some ⟨b7, 0, none⟩) (List.replicate (w64 (2 * (d_Crossings.length : Int))).toNat false).length ((w64 (2 * (d_Crossings.length : Int))).toNat)), _, _, b5, b7, _, Own TBool 4 (some ⟨b7, 0, none⟩) ((w64 (2 * (d_Crossings.length : Int))).toNat) (fun _ => ()) (List.replicate (w64 (2 * (d_Crossings.length : Int))).toNat false), by exact hs.setAt 5 rfl, HS.pk 4 [1, 2, 0] rfl, f4, fun hh => (Bool.noConfusion ((hcl 5 (by decide) hh 3 (by decide)).symm.trans hb)), f0, f1, f2, fun _ => rfl, o2_0, fun _ => rfl⟩))
   | 4, _ =>
    have hb1 : b 1 = true := hd 1 (by decide)
    obtain rfl := f1 hb1
    refine GO.at hs (GO.assign rfl rfl rfl (GO.fin (fun a hs => ⟨_, _, _, _, (.slice (some ⟨b5, 0, none⟩) (List.replicate (w64 (2 * (d_Crossings.length : Int))).toNat false).length ((w64 (2 * (d_Crossings.length : Int))).toNat)), _, b5, b7, _, _, by exact hs.setAt 0 rfl, HS, fun _ => rfl, f5, f0, f1, f2, f3, o2_0, o3_0⟩)))
   | 5, _ =>
    have hb3 : b 3 = true := hd 3 (by decide)
    obtain rfl := f3 hb3
    refine GO.at hs (GO.assign rfl rfl rfl (GO.fin (fun a hs => ⟨_, _, _, _, _, (.slice (some ⟨b7, 0, none⟩) (List.replicate (w64 (2 * (d_Crossings.length : Int))).toNat false).length ((w64 (2 * (d_Crossings.length : Int))).toNat)), b5, b7, _, _, by exact hs.setAt 1 rfl, HS, f4, fun _ => rfl, f0, f1, f2, f3, o2_0, o3_0⟩)))
   | k + 6, hj => exact absurd hj (Nat.not_lt.2 (Nat.le_add_left 6 k))
  ·
   intro b a w hall
   refine exI fun Y1_0 => exI fun Y2_1 => exI fun Y3_2 => exI fun Y4_3 => exI fun Y5_4 => exI fun Y6_5 => exI fun b5 => exI fun b7 => exI fun O7_2 => exI fun O8_3 => anI fun hs => anI fun HS => anI fun f4 => anI fun f5 => anI fun f0 => anI fun f1 => anI fun f2 => anI fun f3 => anI fun o2_0 => fun o3_0 => ?_
   obtain rfl := f4 (hall 4 (by decide))
   obtain rfl := f5 (hall 5 (by decide))
   obtain rfl := f0 (hall 0 (by decide))
   obtain rfl := f1 (hall 1 (by decide))
   obtain rfl := f2 (hall 2 (by decide))
   obtain rfl := f3 (hall 3 (by decide))
   obtain rfl := o2_0 (hall 1 (by decide))
   obtain rfl := o3_0 (hall 3 (by decide))
   refine G.at hs (G.run 5 rfl ?_)
   refine G.name (fun k_l1 hk_l1 => ?_)
   have at_l1 : ∀ m_l1, m_l1 ≤ K → ∀ (in_94 out_95 : List Bool) (c_96 : Int) (w : World), spec_l25Counts.l1 K m_l1 d_Crossings in_94 out_95 c_96 = some r1 → St w0 w (Box b1 30 [.slice A_a d_Crossings.length c_a, .int .i64 d_Circles] :: Own TBool 4 (some ⟨b5, 0, none⟩) ((w64 (2 * (d_Crossings.length : Int))).toNat) (fun _ => ()) in_94 :: Own TBool 4 (some ⟨b7, 0, none⟩) ((w64 (2 * (d_Crossings.length : Int))).toNat) (fun _ => ()) out_95 :: L) → G prog 28 63 [(1, .pointer (some ⟨b1, 0, none⟩)), (3, .int .i64 (w64 (2 * (d_Crossings.length : Int)))), (4, .slice (some ⟨b5, 0, none⟩) in_94.length ((w64 (2 * (d_Crossings.length : Int))).toNat)), (5, .slice (some ⟨b7, 0, none⟩) out_95.length ((w64 (2 * (d_Crossings.length : Int))).toNat)), (6, .int .i64 c_96)] k_l1 w (spec_l25Counts.post w0 L r1) := by
    intro m_l1
    induction m_l1 using Nat.strongRecOn with
    | _ m_l1 ih_l1 =>
     intro hm_l1 in_94 out_95 c_96 w H HS
     cases m_l1 with
     | zero => rw [spec_l25Counts.l1] at H; cases H
     | succ n_l1 =>
      rw [spec_l25Counts.l1] at H
      subst hk_l1
      refine G.run 2 rfl (G.region (GO.move rfl rfl rfl (GO.fld (⟨b1, 0, none⟩) rfl rfl fl30_0 rfl rfl (GO.ldBox (j := 0) HS rfl rfl rfl rfl na28 rfl (GO.lenS rfl rfl underlying28 rfl (GO.lss rfl rfl rfl rfl (GO.nil ?_)))))))
      rcases ite_elim H with ⟨c183, H⟩ | ⟨c183, H⟩
      ·
       refine G.yesB rfl (decide_eq_true c183) (G.run 4 rfl ?_)
       obtain ⟨c184, H⟩ := ite_none H
       obtain ⟨e185, h186, H⟩ := bnd_elim H
       refine G.region (GO.fld (⟨b1, 0, none⟩) rfl rfl fl30_0 rfl rfl (GO.ldBox (j := 0) HS rfl rfl rfl rfl na28 rfl (GO.move rfl rfl rfl (GO.ix rfl rfl rfl underlying28 sz61 ((RdIn.drop 3 r_a) _ HS).2.2.1 c184.1 c184.2 rfl (GO.ldRdA (T := T_GCrossing) (n := c_96.toNat) HS (RdIn.drop 3 r_a) rfl rfl (getD_eq (ltN c184) h186) ag61 rfl (GO.alloc HS rfl zr61 rfl rfl fun b187 wd188 HS => GO.stBox (j := 0) (vs := [.int .i64 e185.A, .int .i64 e185.B, .int .i64 e185.C, .int .i64 e185.D, .int .i64 e185.Sign]) ([.int .i64 e185.A, .int .i64 e185.B, .int .i64 e185.C, .int .i64 e185.D, .int .i64 e185.Sign]) HS rfl rfl rfl rfl rfl (htA ag61) rfl rfl rfl fun wd189 HS => GO.nil (G.run 2 rfl ?_)))))))
       refine G.nameT (fun k_j12 hk_j12 => ?_)
       have at_j12 : ∀ m_j12, m_j12 ≤ n_l1 → ∀ (x192 : Bool) (w : World), spec_l25Counts.j12 K m_j12 d_Crossings in_94 out_95 c_96 e185 x192 = some r1 → St w0 w (Box b1 30 [.slice A_a d_Crossings.length c_a, .int .i64 d_Circles] :: Own TBool 4 (some ⟨b5, 0, none⟩) ((w64 (2 * (d_Crossings.length : Int))).toNat) (fun _ => ()) in_94 :: Own TBool 4 (some ⟨b7, 0, none⟩) ((w64 (2 * (d_Crossings.length : Int))).toNat) (fun _ => ()) out_95 :: Box b187 61 [.int .i64 e185.A, .int .i64 e185.B, .int .i64 e185.C, .int .i64 e185.D, .int .i64 e185.Sign] :: L) → G prog 28 63 [(1, .pointer (some ⟨b1, 0, none⟩)), (3, .int .i64 (w64 (2 * (d_Crossings.length : Int)))), (4, .slice (some ⟨b5, 0, none⟩) in_94.length ((w64 (2 * (d_Crossings.length : Int))).toNat)), (5, .slice (some ⟨b7, 0, none⟩) out_95.length ((w64 (2 * (d_Crossings.length : Int))).toNat)), (6, .int .i64 c_96), (7, .pointer (some ⟨b187, 0, none⟩)), (38, .bool x192)] k_j12 w (spec_l25Counts.post w0 L r1) := by
        intro m_j12 hm_j12 x192 w H HS
        cases m_j12 with
        | zero => rw [spec_l25Counts.j12] at H; cases H
        | succ n_j12 =>
         rw [spec_l25Counts.j12] at H
         subst hk_j12
         rcases ite_elim H with ⟨c193, H⟩ | ⟨c193, H⟩
         ·
          refine G.yesB rfl c193 (G.run 2 rfl ?_)
          obtain rfl := Option.some.inj H
          exact G.ret1 _ func28 rfl rfl ⟨rfl, (HS.pk 4 [] rfl)⟩
         refine G.noB rfl (bnot_of c193) (G.run 5 rfl ?_)
         refine G.name (fun k_l13 hk_l13 => ?_)
         have at_l13 : ∀ m_l13, m_l13 ≤ n_j12 → ∀ (in_217 out_218 : List Bool) (p_219 : Int) (w : World), spec_l25Counts.l13 K m_l13 d_Crossings c_96 e185 in_217 out_218 p_219 = some r1 → St w0 w (Box b1 30 [.slice A_a d_Crossings.length c_a, .int .i64 d_Circles] :: Own TBool 4 (some ⟨b5, 0, none⟩) ((w64 (2 * (d_Crossings.length : Int))).toNat) (fun _ => ()) in_217 :: Own TBool 4 (some ⟨b7, 0, none⟩) ((w64 (2 * (d_Crossings.length : Int))).toNat) (fun _ => ()) out_218 :: Box b187 61 [.int .i64 e185.A, .int .i64 e185.B, .int .i64 e185.C, .int .i64 e185.D, .int .i64 e185.Sign] :: L) → G prog 28 63 [(1, .pointer (some ⟨b1, 0, none⟩)), (3, .int .i64 (w64 (2 * (d_Crossings.length : Int)))), (4, .slice (some ⟨b5, 0, none⟩) in_217.length ((w64 (2 * (d_Crossings.length : Int))).toNat)), (5, .slice (some ⟨b7, 0, none⟩) out_218.length ((w64 (2 * (d_Crossings.length : Int))).toNat)), (6, .int .i64 c_96), (7, .pointer (some ⟨b187, 0, none⟩)), (8, .int .i64 p_219)] k_l13 w (spec_l25Counts.post w0 L r1) := by
          intro m_l13
          induction m_l13 using Nat.strongRecOn with
          | _ m_l13 ih_l13 =>
           intro hm_l13 in_217 out_218 p_219 w H HS
           cases m_l13 with
           | zero => rw [spec_l25Counts.l13] at H; cases H
           | succ n_l13 =>
            rw [spec_l25Counts.l13] at H
            subst hk_l13
            refine G.run 3 rfl ?_
            rcases ite_elim H with ⟨c244, H⟩ | ⟨c244, H⟩
            ·
             refine G.yesB rfl (decide_eq_true c244) (G.run 4 rfl ?_)
             obtain ⟨t245, h246, H⟩ := Option.bind_eq_some_iff.1 H
             refine G.region (GO.ldBoxA (j := 3) ([.int .i64 e185.A, .int .i64 e185.B, .int .i64 e185.C, .int .i64 e185.D, .int .i64 e185.Sign]) HS rfl rfl rfl rfl ag61 rfl (GO.move rfl rfl rfl (GO.fn rfl func45 fok45.1 fok45.2 rfl rfl (spec_l25End.calls HS  h246) (fun _ wd247 ⟨h248, HS⟩ => ⟨_, h248, (GO.assign rfl rfl rfl (GO.nil (G.run 2 rfl ?_)))⟩))))
             obtain ⟨t249, h250, H⟩ := Option.bind_eq_some_iff.1 H
             refine G.region (GO.ps 3 rfl (GO.fn rfl func27 fok27.1 fok27.2 rfl rfl (spec_l01In.calls HS  h250) (fun _ wd251 ⟨h252, HS⟩ => ⟨_, h252, (GO.not rfl rfl rfl (GO.nil ?_))⟩)))
             rcases ite_elim H with ⟨c253, H⟩ | ⟨c253, H⟩
             ·
              refine G.noB rfl (congrArg Bool.not c253) (G.run 5 rfl ?_)
              obtain ⟨t254, h255, H⟩ := Option.bind_eq_some_iff.1 H
              refine G.region (GO.ldBoxA (j := 3) ([.int .i64 e185.A, .int .i64 e185.B, .int .i64 e185.C, .int .i64 e185.D, .int .i64 e185.Sign]) HS rfl rfl rfl rfl ag61 rfl (GO.move rfl rfl rfl (GO.fn rfl func46 fok46.1 fok46.2 rfl rfl (spec_l25Enters.calls HS  h255) (fun _ wd256 ⟨h257, HS⟩ => ⟨_, h257, (GO.nil ?_)⟩))))
              rcases ite_elim H with ⟨c261, H⟩ | ⟨c261, H⟩
              ·
               refine G.yesB rfl c261 (G.run 3 rfl ?_)
               obtain ⟨c262, H⟩ := ite_none H
               refine G.region (GO.ps 2 rfl (GO.ix rfl rfl rfl underlying71 sz4 (fun _ => ⟨_, _, rfl⟩) c262.1 c262.2 rfl (GO.ldRd (T := TBool) (n := t245.toNat) (o := 0) HS (RdIn.own (j := 1) rfl) rfl rfl (getD_some (d := false) (ltN c262)) rfl rfl na4 rfl (GO.nil ?_))))
               rcases ite_elim H with ⟨c263, H⟩ | ⟨c263, H⟩
               ·
                refine G.yesB rfl c263 (G.run 2 rfl ?_)
                obtain rfl := Option.some.inj H
                exact G.ret1 _ func28 rfl rfl ⟨rfl, (HS.pk 4 [] rfl)⟩
               refine G.noB rfl (bnot_of c263) (G.skip (G.region (GO.ps 2 rfl (GO.ix rfl rfl rfl underlying71 sz4 (fun _ => ⟨_, _, rfl⟩) c262.1 c262.2 rfl (GO.stRow (T := TBool) (j := 1) (n := t245.toNat) (o := 0) (vs := [.bool true]) true HS rfl flat_flat rfl rfl rfl rfl (htN na4 rfl) rfl (getD_some (d := false) (ltN c262)) rfl rfl fun wd264 HS => GO.nil (G.len (t := 4) (m := (in_217.set t245.toNat true).length) rfl (by simp only [List.length_set] <;> rfl) (G.run 3 rfl (G.weak ?_ (ih_l13 n_l13 (Nat.lt_succ_of_le (Nat.le_refl _)) (Nat.le_of_succ_le hm_l13) _ _ _ _ H HS)))))))))
               exact ⟨rfl, rfl, rfl, rfl, rfl, rfl, rfl, trivial⟩
              refine G.noB rfl (bnot_of c261) (G.run 3 rfl ?_)
              obtain ⟨c265, H⟩ := ite_none H
              refine G.region (GO.ps 2 rfl (GO.ix rfl rfl rfl underlying71 sz4 (fun _ => ⟨_, _, rfl⟩) c265.1 c265.2 rfl (GO.ldRd (T := TBool) (n := t245.toNat) (o := 0) HS (RdIn.own (j := 2) rfl) rfl rfl (getD_some (d := false) (ltN c265)) rfl rfl na4 rfl (GO.nil ?_))))
              rcases ite_elim H with ⟨c266, H⟩ | ⟨c266, H⟩
              ·
               refine G.yesB rfl c266 (G.run 2 rfl ?_)
               obtain rfl := Option.some.inj H
               exact G.ret1 _ func28 rfl rfl ⟨rfl, (HS.pk 4 [] rfl)⟩
              refine G.noB rfl (bnot_of c266) (G.skip (G.region (GO.ps 2 rfl (GO.ix rfl rfl rfl underlying71 sz4 (fun _ => ⟨_, _, rfl⟩) c265.1 c265.2 rfl (GO.stRow (T := TBool) (j := 2) (n := t245.toNat) (o := 0) (vs := [.bool true]) true HS rfl flat_flat rfl rfl rfl rfl (htN na4 rfl) rfl (getD_some (d := false) (ltN c265)) rfl rfl fun wd267 HS => GO.nil (G.len (t := 5) (m := (out_218.set t245.toNat true).length) rfl (by simp only [List.length_set] <;> rfl) (G.run 3 rfl (G.weak ?_ (ih_l13 n_l13 (Nat.lt_succ_of_le (Nat.le_refl _)) (Nat.le_of_succ_le hm_l13) _ _ _ _ H HS)))))))))
              exact ⟨rfl, rfl, rfl, rfl, rfl, rfl, rfl, trivial⟩
             refine G.yesB rfl (congrArg Bool.not (bnot_of c253)) (G.run 2 rfl ?_)
             obtain rfl := Option.some.inj H
             exact G.ret1 _ func28 rfl rfl ⟨rfl, (HS.pk 4 [] rfl)⟩
            refine G.noB rfl (decide_eq_false c244) (G.run 4 rfl (G.weak ?_ (ih_l1 n_l13 (by omega) (by omega) _ _ _ _ H (HS.pk 4 [0, 1, 2] rfl))))
            exact ⟨rfl, rfl, rfl, rfl, rfl, trivial⟩
         refine G.weak ?_ (at_l13 n_j12 (Nat.le_refl _) _ _ _ _ H HS)
         exact ⟨rfl, rfl, rfl, rfl, rfl, rfl, rfl, trivial⟩
       rcases ite_elim H with ⟨c268, H⟩ | ⟨c268, H⟩
       ·
        refine G.region (GO.fld (⟨b187, 4, none⟩) rfl rfl fl61_4 rfl rfl (GO.ldBox (j := 0) HS rfl rfl rfl rfl na2 rfl (GO.ps 2 rfl (GO.known (t := 34) rfl (congrArg Bool.not (decide_eq_true c268)) (GO.off rfl rfl rfl rfl rfl rfl (GO.off rfl rfl rfl rfl rfl rfl (GO.off rfl rfl rfl rfl rfl rfl (GO.pickF rfl rfl rfl rfl rfl (GO.nil (G.weak ?_ (at_j12 n_l1 (Nat.le_refl _) _ _ H (HS.pk 4 [1, 2, 3, 0] rfl))))))))))))
        exact ⟨rfl, rfl, rfl, rfl, rfl, rfl, rfl, trivial⟩
       refine G.region (GO.fld (⟨b187, 4, none⟩) rfl rfl fl61_4 rfl rfl (GO.ldBox (j := 0) HS rfl rfl rfl rfl na2 rfl (GO.ps 2 rfl (GO.known (t := 34) rfl (congrArg Bool.not (decide_eq_false c268)) (GO.on rfl rfl rfl rfl (GO.fld (⟨b187, 4, none⟩) rfl rfl fl61_4 rfl rfl (GO.back (GO.on rfl rfl rfl rfl (GO.ldBox (j := 0) HS rfl rfl rfl rfl na2 rfl (GO.back (GO.on rfl rfl rfl rfl (GO.neq rfl rfl rfl rfl (GO.back (GO.pickT rfl rfl rfl rfl rfl ?_))))))))))))))
       refine GO.nil (G.weak ?_ (at_j12 n_l1 (Nat.le_refl _) _ _ H (HS.pk 4 [1, 2, 3, 0] rfl)))
       exact ⟨rfl, rfl, rfl, rfl, rfl, rfl, rfl, trivial⟩
      refine G.noB rfl (decide_eq_false c183) (G.run 3 rfl ?_)
      obtain rfl := Option.some.inj H
      exact G.ret1 _ func28 rfl rfl ⟨rfl, (HS.pk 3 [] rfl)⟩
   refine G.weak ?_ (at_l1 K (Nat.le_refl _) _ _ _ _ H HS)
   exact ⟨rfl, rfl, rfl, rfl, rfl, trivial⟩
theorem spec_l25Place.calls {w0 w : World} {L : List HObj} {K : Nat} {d_Crossings : List GCrossing} {d_Circles a_ : Int} {enters : Bool} {A_a : Option Addr} {c_a : Nat} {r1 r2 : Int} (HS : St w0 w (L)) (r_a : RdIn w0 L T_GCrossing A_a c_a (fun _ => ()) d_Crossings) (H : spec_l25Place.f K d_Crossings d_Circles a_ enters = some (r1, r2)) :
    Calls prog 49 #[.agg [.slice A_a d_Crossings.length c_a, .int .i64 d_Circles].toArray, .int .i64 a_, .bool enters] w (spec_l25Place.post w0 L r1 r2) := by
  unfold spec_l25Place.f at H
  refine Calls.of_G func49 rfl rfl rfl ?_
  refine G.seq (G.region (GO.box (cs := [.slice A_a d_Crossings.length c_a, .int .i64 d_Circles]) HS rfl rfl rfl rfl fun b1 wd2 HS => GO.ps 2 rfl (GO.nil (G.run 5 rfl ?_))))
  refine G.name (fun k_l1 hk_l1 => ?_)
  have at_l1 : ∀ m_l1, m_l1 ≤ K → ∀ (c_82 : Int) (w : World), spec_l25Place.l1 K m_l1 d_Crossings a_ enters c_82 = some (r1, r2) → St w0 w (Box b1 30 [.slice A_a d_Crossings.length c_a, .int .i64 d_Circles] :: L) → G prog 49 43 [(1, .int .i64 a_), (2, .bool enters), (3, .pointer (some ⟨b1, 0, none⟩)), (8, .int .i64 c_82)] k_l1 w (spec_l25Place.post w0 L r1 r2) := by
   intro m_l1
   induction m_l1 using Nat.strongRecOn with
   | _ m_l1 ih_l1 =>
    intro hm_l1 c_82 w H HS
    cases m_l1 with
    | zero => rw [spec_l25Place.l1] at H; cases H
    | succ n_l1 =>
     rw [spec_l25Place.l1] at H
     subst hk_l1
     refine G.run 2 rfl (G.region (GO.move rfl rfl rfl (GO.fld (⟨b1, 0, none⟩) rfl rfl fl30_0 rfl rfl (GO.ldBox (j := 0) HS rfl rfl rfl rfl na28 rfl (GO.lenS rfl rfl underlying28 rfl (GO.lss rfl rfl rfl rfl (GO.nil ?_)))))))
     rcases ite_elim H with ⟨c162, H⟩ | ⟨c162, H⟩
     ·
      refine G.yesB rfl (decide_eq_true c162) (G.run 7 rfl ?_)
      refine G.name (fun k_l4 hk_l4 => ?_)
      have at_l4 : ∀ m_l4, m_l4 ≤ n_l1 → ∀ (p_188 : Int) (w : World), spec_l25Place.l4 K m_l4 d_Crossings a_ enters c_82 p_188 = some (r1, r2) → St w0 w (Box b1 30 [.slice A_a d_Crossings.length c_a, .int .i64 d_Circles] :: L) → G prog 49 43 [(1, .int .i64 a_), (2, .bool enters), (3, .pointer (some ⟨b1, 0, none⟩)), (8, .int .i64 c_82), (9, .int .i64 p_188)] k_l4 w (spec_l25Place.post w0 L r1 r2) := by
       intro m_l4
       induction m_l4 using Nat.strongRecOn with
       | _ m_l4 ih_l4 =>
        intro hm_l4 p_188 w H HS
        cases m_l4 with
        | zero => rw [spec_l25Place.l4] at H; cases H
        | succ n_l4 =>
         rw [spec_l25Place.l4] at H
         subst hk_l4
         refine G.run 3 rfl ?_
         rcases ite_elim H with ⟨c215, H⟩ | ⟨c215, H⟩
         ·
          refine G.yesB rfl (decide_eq_true c215) (G.run 4 rfl ?_)
          obtain ⟨c228, H⟩ := ite_none H
          obtain ⟨e229, h230, H⟩ := bnd_elim H
          obtain ⟨t231, h232, H⟩ := Option.bind_eq_some_iff.1 H
          rcases ite_elim H with ⟨c235, H⟩ | ⟨c235, H⟩
          ·
           obtain ⟨t236, h237, H⟩ := Option.bind_eq_some_iff.1 H
           refine G.region (GO.fld (⟨b1, 0, none⟩) rfl rfl fl30_0 rfl rfl (GO.ldBox (j := 0) HS rfl rfl rfl rfl na28 rfl (GO.move rfl rfl rfl (GO.ix rfl rfl rfl underlying28 sz61 ((RdIn.drop 1 r_a) _ HS).2.2.1 c228.1 c228.2 rfl (GO.ldRdA (T := T_GCrossing) (n := c_82.toNat) HS (RdIn.drop 1 r_a) rfl rfl (getD_eq (ltN c228) h230) ag61 rfl (GO.move rfl rfl rfl (GO.fn rfl func45 fok45.1 fok45.2 rfl rfl (spec_l25End.calls HS  h232) (fun _ wd233 ⟨h234, HS⟩ => ⟨_, h234, (GO.ps 3 rfl (GO.known (t := 30) rfl (decide_eq_true c235) (GO.on rfl rfl rfl rfl (GO.fld (⟨b1, 0, none⟩) rfl rfl fl30_0 rfl rfl (GO.back (GO.on rfl rfl rfl rfl (GO.ldBox (j := 0) HS rfl rfl rfl rfl na28 rfl ?_)))))))⟩))))))))
           refine GO.back (GO.on rfl rfl rfl rfl (GO.move rfl rfl rfl (GO.back (GO.on rfl rfl rfl rfl (GO.ix rfl rfl rfl underlying28 sz61 ((RdIn.drop 1 r_a) _ HS).2.2.1 c228.1 c228.2 rfl (GO.back (GO.on rfl rfl rfl rfl (GO.ldRdA (T := T_GCrossing) (n := c_82.toNat) HS (RdIn.drop 1 r_a) rfl rfl (getD_eq (ltN c228) h230) ag61 rfl (GO.back (GO.on rfl rfl rfl rfl (GO.move rfl rfl rfl (GO.back (GO.on rfl rfl rfl rfl (GO.fn rfl func46 fok46.1 fok46.2 rfl rfl (spec_l25Enters.calls HS  h237) (fun _ wd238 ⟨h239, HS⟩ => ⟨_, h239, ?_⟩)))))))))))))))
           refine GO.back (GO.on rfl rfl rfl rfl (GO.move rfl rfl rfl (GO.back (GO.on rfl rfl rfl rfl (GO.eqlB rfl rfl rfl underlying4 rfl (GO.back (GO.pickT rfl rfl rfl rfl rfl (GO.nil ?_))))))))
           rcases ite_elim H with ⟨c240, H⟩ | ⟨c240, H⟩
           ·
            refine G.yesB rfl c240 (G.run 2 rfl ?_)
            obtain ⟨rfl, rfl⟩ := some2 H
            exact G.ret2 _ _ func49 rfl rfl rfl ⟨rfl, (HS.pk 1 [] rfl)⟩
           refine G.noB rfl (bnot_of c240) (G.run 4 rfl (G.weak ?_ (ih_l4 n_l4 (Nat.lt_succ_of_le (Nat.le_refl _)) (Nat.le_of_succ_le hm_l4) _ _ H HS)))
           exact ⟨rfl, rfl, rfl, rfl, rfl, trivial⟩
          refine G.region (GO.fld (⟨b1, 0, none⟩) rfl rfl fl30_0 rfl rfl (GO.ldBox (j := 0) HS rfl rfl rfl rfl na28 rfl (GO.move rfl rfl rfl (GO.ix rfl rfl rfl underlying28 sz61 ((RdIn.drop 1 r_a) _ HS).2.2.1 c228.1 c228.2 rfl (GO.ldRdA (T := T_GCrossing) (n := c_82.toNat) HS (RdIn.drop 1 r_a) rfl rfl (getD_eq (ltN c228) h230) ag61 rfl (GO.move rfl rfl rfl (GO.fn rfl func45 fok45.1 fok45.2 rfl rfl (spec_l25End.calls HS  h232) (fun _ wd233 ⟨h234, HS⟩ => ⟨_, h234, (GO.ps 3 rfl (GO.known (t := 30) rfl (decide_eq_false c235) (GO.off rfl rfl rfl rfl rfl rfl (GO.off rfl rfl rfl rfl rfl rfl (GO.off rfl rfl rfl rfl rfl rfl (GO.off rfl rfl rfl rfl rfl rfl (GO.off rfl rfl rfl rfl rfl rfl ?_)))))))⟩))))))))
          refine GO.off rfl rfl rfl rfl rfl rfl (GO.off rfl rfl rfl rfl rfl rfl (GO.off rfl rfl rfl rfl rfl rfl (GO.off rfl rfl rfl rfl rfl rfl (GO.pickF rfl rfl rfl rfl rfl (GO.nil (G.run 5 rfl (G.weak ?_ (ih_l4 n_l4 (Nat.lt_succ_of_le (Nat.le_refl _)) (Nat.le_of_succ_le hm_l4) _ _ H HS))))))))
          exact ⟨rfl, rfl, rfl, rfl, rfl, trivial⟩
         refine G.noB rfl (decide_eq_false c215) (G.run 4 rfl (G.weak ?_ (ih_l1 n_l4 (by omega) (by omega) _ _ H HS)))
         exact ⟨rfl, rfl, rfl, rfl, trivial⟩
      refine G.weak ?_ (at_l4 n_l1 (Nat.le_refl _) _ _ H HS)
      exact ⟨rfl, rfl, rfl, rfl, rfl, trivial⟩
     refine G.noB rfl (decide_eq_false c162) (G.run 3 rfl ?_)
     obtain ⟨rfl, rfl⟩ := some2 H
     exact G.ret2 _ _ func49 rfl rfl rfl ⟨rfl, (HS.pk 1 [] rfl)⟩
  refine G.weak ?_ (at_l1 K (Nat.le_refl _) _ _ H HS)
  exact ⟨rfl, rfl, rfl, rfl, trivial⟩
theorem spec_l25Successor.calls {w0 w : World} {L : List HObj} {K : Nat} {d_Crossings : List GCrossing} {d_Circles corner : Int} {A_a : Option Addr} {c_a : Nat} {r1 : Int} (HS : St w0 w (L)) (r_a : RdIn w0 L T_GCrossing A_a c_a (fun _ => ()) d_Crossings) (H : spec_l25Successor.f K d_Crossings d_Circles corner = some r1) :
    Calls prog 47 #[.agg [.slice A_a d_Crossings.length c_a, .int .i64 d_Circles].toArray, .int .i64 corner] w (spec_l25Successor.post w0 L r1) := by
  unfold spec_l25Successor.f at H
  refine Calls.of_G func47 rfl rfl rfl ?_
  refine G.seq (G.region (GO.box (cs := [.slice A_a d_Crossings.length c_a, .int .i64 d_Circles]) HS rfl rfl rfl rfl fun b1 wd2 HS => GO.assign rfl rfl rfl (GO.nil (G.seq (G.region (GO.move rfl rfl rfl (GO.quo rfl rfl rfl (by decide) rfl (GO.move rfl rfl rfl (GO.rem rfl rfl rfl (by decide) rfl (GO.add rfl rfl rfl rfl (GO.rem rfl rfl rfl (by decide) rfl (GO.ps 2 rfl (GO.nil ?_)))))))))))))
  refine G.seq ?_
  obtain ⟨c3, H⟩ := ite_none H
  obtain ⟨e4, h5, H⟩ := bnd_elim H
  refine G.region (GO.fld (⟨b1, 0, none⟩) rfl rfl fl30_0 rfl rfl (GO.ldBox (j := 0) HS rfl rfl rfl rfl na28 rfl (GO.move rfl rfl rfl (GO.ix rfl rfl rfl underlying28 sz61 ((RdIn.drop 1 r_a) _ HS).2.2.1 c3.1 c3.2 rfl (GO.ldRdA (T := T_GCrossing) (n := (w64 (corner.tdiv 4)).toNat) HS (RdIn.drop 1 r_a) rfl rfl (getD_eq (ltN c3) h5) ag61 rfl (GO.alloc HS rfl zr61 rfl rfl fun b6 wd7 HS => GO.stBox (j := 0) (vs := [.int .i64 e4.A, .int .i64 e4.B, .int .i64 e4.C, .int .i64 e4.D, .int .i64 e4.Sign]) ([.int .i64 e4.A, .int .i64 e4.B, .int .i64 e4.C, .int .i64 e4.D, .int .i64 e4.Sign]) HS rfl rfl rfl rfl rfl (htA ag61) rfl rfl rfl fun wd8 HS => GO.nil (G.seq ?_)))))))
  obtain ⟨t9, h10, H⟩ := Option.bind_eq_some_iff.1 H
  obtain ⟨t13, h14, H⟩ := Option.bind_eq_some_iff.1 H
  obtain ⟨t17, t18, h19, H⟩ := bind2_elim H
  refine G.lexS mixed (fun w => St w0 w (Box b6 61 [.int .i64 e4.A, .int .i64 e4.B, .int .i64 e4.C, .int .i64 e4.D, .int .i64 e4.Sign] :: Box b1 30 [.slice A_a d_Crossings.length c_a, .int .i64 d_Circles] :: L)) [0, 1, 4] [2, 5, 0, 1, 4, 3, 6, 7, 8, 9, 10, 11, 12, 13] 14 (by kernel_rfl) (by kernel_rfl) HS.drew ?_
  replace HS := HS.drew
  refine GX.ps 2 rfl (GX.ls rfl rfl rfl HS (fun _ HS _ g => GO.ldBoxA (j := 1) ([.slice A_a d_Crossings.length c_a, .int .i64 d_Circles]) HS rfl rfl rfl rfl ag30 rfl g) rfl (GX.ls rfl rfl rfl HS (fun _ HS _ g => GO.ldBoxA (j := 0) ([.int .i64 e4.A, .int .i64 e4.B, .int .i64 e4.C, .int .i64 e4.D, .int .i64 e4.Sign]) HS rfl rfl rfl rfl ag61 rfl g) rfl (GX.ls rfl rfl rfl HS (fun _ HS _ g => GO.ldBoxA (j := 0) ([.int .i64 e4.A, .int .i64 e4.B, .int .i64 e4.C, .int .i64 e4.D, .int .i64 e4.Sign]) HS rfl rfl rfl rfl ag61 rfl g) rfl (GX.l2 rfl (GO.fn rfl func45 fok45.1 fok45.2 rfl rfl (spec_l25End.calls HS  h10) (fun _ wd11 ⟨h12, HS⟩ => ⟨_, h12, (GX.fin HS (GX.l2 rfl (GO.fn rfl func46 fok46.1 fok46.2 rfl rfl (spec_l25Enters.calls HS  h14) (fun _ wd15 ⟨h16, HS⟩ => ⟨_, h16, (GX.fin HS (GX.ps 1 rfl (GX.l2 rfl (GO.fn rfl func49 fok49.1 fok49.2 rfl rfl (spec_l25Place.calls HS (RdIn.drop 2 r_a) h19) (fun _ wd20 ⟨h21, HS⟩ => ⟨_, h21, (GX.fin HS (GX.ps 5 rfl ?_))⟩)))))⟩))))⟩))))))
  refine GX.nil (G.run 2 rfl ?_)
  obtain rfl := Option.some.inj H
  exact G.ret1 _ func47 rfl rfl ⟨rfl, (HS.pk 2 [] rfl)⟩
theorem spec_l25Regions.calls {w0 w : World} {L : List HObj} {K : Nat} {d_Crossings : List GCrossing} {d_Circles : Int} {A_a : Option Addr} {c_a : Nat} {r1 : List (List Int)} (HS : St w0 w (L)) (r_a : RdIn w0 L T_GCrossing A_a c_a (fun _ => ()) d_Crossings) (H : spec_l25Regions.f K d_Crossings d_Circles = some r1) :
    Calls prog 29 #[.agg [.slice A_a d_Crossings.length c_a, .int .i64 d_Circles].toArray] w (spec_l25Regions.post w0 L r1) := by
  unfold spec_l25Regions.f at H
  refine Calls.of_G func29 rfl rfl rfl ?_
  refine G.seq (G.region (GO.box (cs := [.slice A_a d_Crossings.length c_a, .int .i64 d_Circles]) HS rfl rfl rfl rfl fun b1 wd2 HS => GO.assign rfl rfl rfl (GO.nil (G.seq (G.region (GO.buildS (el := 74) ([]) HS rfl rfl (fun _ => by kernel_rfl) rfl fun b3 wd4 HS => ?_))))))
  replace HS := HS.boxNil (T := (Ty.slice 2 (TInt .i64))) (j := 0) rfl (fun _ => ⟨none, 0, (fun _ => ())⟩)
  refine GO.lenC (t := 8) (m := ([] : List (List Int)).length) (c' := 0) rfl rfl rfl (GO.assign rfl rfl rfl (GO.nil (G.seq ?_)))
  obtain ⟨c5, H⟩ := ite_none H
  obtain ⟨c6, H⟩ := ite_none H
  refine G.region (GO.fld (⟨b1, 0, none⟩) rfl rfl fl30_0 rfl rfl (GO.ldBox (j := 1) HS rfl rfl rfl rfl na28 rfl (GO.lenS rfl rfl underlying28 rfl (GO.mul rfl rfl rfl rfl (GO.make (T := TBool) false () HS flat_flat rfl rfl rfl underlying71 inf4 rfl rfl rfl c5 c6 rfl fun b7 wd8 HS => GO.assign rfl rfl rfl (GO.nil (G.run 5 rfl ?_)))))))
  refine G.name (fun k_l1 hk_l1 => ?_)
  have at_l1 : ∀ m_l1, m_l1 ≤ K → ∀ (A70 : Option Addr) (c71 : Nat) (out_72 : List (List Int)) (y73 : Nat → (Ty.slice 2 (TInt .i64)).Lay) (done_74 : List Bool) (k_75 : Int) (w : World), spec_l25Regions.l1 K m_l1 d_Crossings d_Circles out_72 done_74 k_75 = some r1 → St w0 w (Box b1 30 [.slice A_a d_Crossings.length c_a, .int .i64 d_Circles] :: Own (Ty.slice 2 (TInt .i64)) 74 A70 c71 y73 out_72 :: Own TBool 4 (some ⟨b7, 0, none⟩) ((w64 (4 * (d_Crossings.length : Int))).toNat) (fun _ => ()) done_74 :: L) → G prog 29 46 [(1, .pointer (some ⟨b1, 0, none⟩)), (3, .slice A70 out_72.length c71), (4, .slice (some ⟨b7, 0, none⟩) done_74.length ((w64 (4 * (d_Crossings.length : Int))).toNat)), (5, .int .i64 k_75)] k_l1 w (spec_l25Regions.post w0 L r1) := by
   intro m_l1
   induction m_l1 using Nat.strongRecOn with
   | _ m_l1 ih_l1 =>
    intro hm_l1 A70 c71 out_72 y73 done_74 k_75 w H HS
    cases m_l1 with
    | zero => rw [spec_l25Regions.l1] at H; cases H
    | succ n_l1 =>
     rw [spec_l25Regions.l1] at H
     subst hk_l1
     refine G.run 2 rfl (G.region (GO.ps 2 rfl (GO.lenS rfl rfl underlying71 rfl (GO.lss rfl rfl rfl rfl (GO.nil ?_)))))
     rcases ite_elim H with ⟨c137, H⟩ | ⟨c137, H⟩
     ·
      refine G.yesB rfl (decide_eq_true c137) (G.run 5 rfl ?_)
      obtain ⟨c138, H⟩ := ite_none H
      refine G.region (GO.ps 2 rfl (GO.ix rfl rfl rfl underlying71 sz4 (fun _ => ⟨_, _, rfl⟩) c138.1 c138.2 rfl (GO.ldRd (T := TBool) (n := k_75.toNat) (o := 0) HS (RdIn.own (j := 2) rfl) rfl rfl (getD_some (d := false) (ltN c138)) rfl rfl na4 rfl (GO.nil ?_))))
      rcases ite_elim H with ⟨c139, H⟩ | ⟨c139, H⟩
      ·
       refine G.yesB rfl c139 (G.run 3 rfl (G.weak ?_ (ih_l1 n_l1 (Nat.lt_succ_of_le (Nat.le_refl _)) (Nat.le_of_succ_le hm_l1) _ _ _ _ _ _ _ H HS)))
       exact ⟨rfl, rfl, rfl, rfl, trivial⟩
      refine G.noB rfl (bnot_of c139) (G.run 2 rfl (G.region (GO.buildS (el := 2) ([]) HS rfl rfl (fun _ => by kernel_rfl) rfl fun b140 wd141 HS => ?_)))
      replace HS := HS.boxRow (T := (TInt .i64)) (j := 0) rfl flat_flat (fun _ => ()) ([] : List Int) rfl (bndL rfl)
      refine GO.lenC (t := 24) (m := ([] : List Int).length) (c' := ([] : List Int).length) rfl rfl rfl (GO.assign rfl rfl rfl (GO.nil (G.run 5 rfl ?_)))
      refine G.name (fun k_l4 hk_l4 => ?_)
      have at_l4 : ∀ m_l4, m_l4 ≤ n_l1 → ∀ (done_153 : List Bool) (A154 : Option Addr) (c155 : Nat) (region_156 : List Int) (at_157 : Int) (w : World), spec_l25Regions.l4 K m_l4 d_Crossings d_Circles out_72 k_75 done_153 region_156 at_157 = some r1 → St w0 w (Box b1 30 [.slice A_a d_Crossings.length c_a, .int .i64 d_Circles] :: Own (Ty.slice 2 (TInt .i64)) 74 A70 c71 y73 out_72 :: Own TBool 4 (some ⟨b7, 0, none⟩) ((w64 (4 * (d_Crossings.length : Int))).toNat) (fun _ => ()) done_153 :: Own (TInt .i64) 2 A154 c155 (fun _ => ()) region_156 :: L) → G prog 29 46 [(1, .pointer (some ⟨b1, 0, none⟩)), (3, .slice A70 out_72.length c71), (4, .slice (some ⟨b7, 0, none⟩) done_153.length ((w64 (4 * (d_Crossings.length : Int))).toNat)), (5, .int .i64 k_75), (6, .slice A154 region_156.length c155), (7, .int .i64 at_157)] k_l4 w (spec_l25Regions.post w0 L r1) := by
       intro m_l4
       induction m_l4 using Nat.strongRecOn with
       | _ m_l4 ih_l4 =>
        intro hm_l4 done_153 A154 c155 region_156 at_157 w H HS
        cases m_l4 with
        | zero => rw [spec_l25Regions.l4] at H; cases H
        | succ n_l4 =>
         rw [spec_l25Regions.l4] at H
         subst hk_l4
         refine G.run 2 rfl ?_
         obtain ⟨c178, H⟩ := ite_none H
         refine G.region (GO.ps 2 rfl (GO.ix rfl rfl rfl underlying71 sz4 (fun _ => ⟨_, _, rfl⟩) c178.1 c178.2 rfl (GO.ldRd (T := TBool) (n := at_157.toNat) (o := 0) HS (RdIn.own (j := 2) rfl) rfl rfl (getD_some (d := false) (ltN c178)) rfl rfl na4 rfl (GO.not rfl rfl rfl (GO.nil ?_)))))
         rcases ite_elim H with ⟨c179, H⟩ | ⟨c179, H⟩
         ·
          refine G.noB rfl (congrArg Bool.not c179) (G.exit rfl ?_)
          obtain ⟨c185, H⟩ := ite_none H
          refine G.region (GO.ps 2 rfl (GO.buildS (el := 74) ([.slice A154 region_156.length c155]) HS rfl rfl (fun _ => by kernel_rfl) rfl fun b180 wd181 HS => ?_))
          replace HS := HS.pk 5 [2, 0, 4, 1, 3] rfl
          refine GO.appR (S := (TInt .i64)) (u := 2) HS rfl rfl rfl underlying55 inf74 rfl rfl c185 rfl fun A183 c184 y186 wd182 HS => GO.assign rfl rfl rfl (GO.nil (G.run 3 rfl (G.weak ?_ (ih_l1 n_l4 (by omega) (by omega) _ _ _ _ _ _ _ H (HS.pk 4 [2, 0, 3] rfl)))))
          exact ⟨rfl, rfl, rfl, rfl, trivial⟩
         refine G.yesB rfl (congrArg Bool.not (bnot_of c179)) (G.run 4 rfl (G.region (GO.ps 2 rfl (GO.ix rfl rfl rfl underlying71 sz4 (fun _ => ⟨_, _, rfl⟩) c178.1 c178.2 rfl (GO.stRow (T := TBool) (j := 2) (n := at_157.toNat) (o := 0) (vs := [.bool true]) true HS rfl flat_flat rfl rfl rfl rfl (htN na4 rfl) rfl (getD_some (d := false) (ltN c178)) rfl rfl fun wd187 HS => GO.nil (G.len (t := 4) (m := (done_153.set at_157.toNat true).length) rfl (by simp only [List.length_set] <;> rfl) ?_))))))
         obtain ⟨c193, H⟩ := ite_none H
         refine G.region (GO.ps 2 rfl (GO.buildS (el := 2) ([.int .i64 at_157]) HS rfl rfl (fun _ => by kernel_rfl) rfl fun b188 wd189 HS => GO.app1 (T := (TInt .i64)) (j := 4) (jb := 0) at_157 HS rfl rfl flat_flat rfl rfl rfl underlying74 inf2 rfl rfl rfl c193 rfl fun A191 c192 wd190 HS => GO.assign rfl rfl rfl (GO.nil (G.blockEnd ?_))))
         obtain ⟨t194, h195, H⟩ := Option.bind_eq_some_iff.1 H
         refine G.region (GO.ldBoxA (j := 1) ([.slice A_a d_Crossings.length c_a, .int .i64 d_Circles]) HS rfl rfl rfl rfl ag30 rfl (GO.move rfl rfl rfl (GO.fn rfl func47 fok47.1 fok47.2 rfl rfl (spec_l25Successor.calls HS (RdIn.drop 5 r_a) h195) (fun _ wd196 ⟨h197, HS⟩ => ⟨_, h197, (GO.assign rfl rfl rfl (GO.nil (G.again (G.weak ?_ (ih_l4 n_l4 (Nat.lt_succ_of_le (Nat.le_refl _)) (Nat.le_of_succ_le hm_l4) _ _ _ _ _ _ H (HS.pk 5 [1, 2, 3, 4] rfl))))))⟩))))
         exact ⟨rfl, rfl, rfl, rfl, rfl, rfl, trivial⟩
      refine G.weak ?_ (at_l4 n_l1 (Nat.le_refl _) _ _ _ _ _ _ H (HS.pk 4 [1, 2, 3, 0] rfl))
      exact ⟨rfl, rfl, rfl, rfl, rfl, rfl, trivial⟩
     refine G.noB rfl (decide_eq_false c137) (G.run 3 rfl ?_)
     obtain rfl := Option.some.inj H
     exact G.ret1 _ func29 rfl rfl ⟨_, _, _, rfl, (HS.pk 3 [1] rfl)⟩
  refine G.weak ?_ (at_l1 K (Nat.le_refl _) _ _ _ _ _ _ _ H (HS.pk 3 [2, 1, 0] rfl))
  exact ⟨rfl, rfl, rfl, rfl, trivial⟩
theorem spec_l25Parts.calls {w0 w : World} {L : List HObj} {K : Nat} {d_Crossings : List GCrossing} {d_Circles : Int} {A_a : Option Addr} {c_a : Nat} {r1 : List Int} (HS : St w0 w (L)) (r_a : RdIn w0 L T_GCrossing A_a c_a (fun _ => ()) d_Crossings) (H : spec_l25Parts.f K d_Crossings d_Circles = some r1) :
    Calls prog 48 #[.agg [.slice A_a d_Crossings.length c_a, .int .i64 d_Circles].toArray] w (spec_l25Parts.post w0 L r1) := by
  unfold spec_l25Parts.f at H
  refine Calls.of_G func48 rfl rfl rfl ?_
  refine G.seq (G.region (GO.box (cs := [.slice A_a d_Crossings.length c_a, .int .i64 d_Circles]) HS rfl rfl rfl rfl fun b1 wd2 HS => GO.assign rfl rfl rfl (GO.nil (G.seq (G.region (GO.buildS (el := 2) ([]) HS rfl rfl (fun _ => by kernel_rfl) rfl fun b3 wd4 HS => ?_))))))
  replace HS := HS.boxRow (T := (TInt .i64)) (j := 0) rfl flat_flat (fun _ => ()) ([] : List Int) rfl (bndL rfl)
  refine GO.lenC (t := 13) (m := ([] : List Int).length) (c' := ([] : List Int).length) rfl rfl rfl (GO.assign rfl rfl rfl (GO.nil (G.run 5 rfl ?_)))
  refine G.name (fun k_l1 hk_l1 => ?_)
  have at_l1 : ∀ m_l1, m_l1 ≤ K → ∀ (A101 : Option Addr) (c102 : Nat) (out_103 : List Int) (c_104 : Int) (w : World), spec_l25Parts.l1 K m_l1 d_Crossings d_Circles out_103 c_104 = some r1 → St w0 w (Box b1 30 [.slice A_a d_Crossings.length c_a, .int .i64 d_Circles] :: Own (TInt .i64) 2 A101 c102 (fun _ => ()) out_103 :: L) → G prog 48 74 [(1, .pointer (some ⟨b1, 0, none⟩)), (3, .slice A101 out_103.length c102), (4, .int .i64 c_104)] k_l1 w (spec_l25Parts.post w0 L r1) := by
   intro m_l1
   induction m_l1 using Nat.strongRecOn with
   | _ m_l1 ih_l1 =>
    intro hm_l1 A101 c102 out_103 c_104 w H HS
    cases m_l1 with
    | zero => rw [spec_l25Parts.l1] at H; cases H
    | succ n_l1 =>
     rw [spec_l25Parts.l1] at H
     subst hk_l1
     refine G.run 2 rfl (G.region (GO.move rfl rfl rfl (GO.fld (⟨b1, 0, none⟩) rfl rfl fl30_0 rfl rfl (GO.ldBox (j := 0) HS rfl rfl rfl rfl na28 rfl (GO.lenS rfl rfl underlying28 rfl (GO.lss rfl rfl rfl rfl (GO.nil ?_)))))))
     rcases ite_elim H with ⟨c201, H⟩ | ⟨c201, H⟩
     ·
      refine G.yesB rfl (decide_eq_true c201) (G.run 3 rfl ?_)
      obtain ⟨c207, H⟩ := ite_none H
      refine G.region (GO.ps 2 rfl (GO.buildS (el := 2) ([.int .i64 c_104]) HS rfl rfl (fun _ => by kernel_rfl) rfl fun b202 wd203 HS => GO.app1 (T := (TInt .i64)) (j := 2) (jb := 0) c_104 HS rfl rfl flat_flat rfl rfl rfl underlying74 inf2 rfl rfl rfl c207 rfl fun A205 c206 wd204 HS => GO.assign rfl rfl rfl (GO.nil (G.run 3 rfl (G.weak ?_ (ih_l1 n_l1 (Nat.lt_succ_of_le (Nat.le_refl _)) (Nat.le_of_succ_le hm_l1) _ _ _ _ _ H (HS.pk 3 [1, 2] rfl)))))))
      exact ⟨rfl, rfl, rfl, trivial⟩
     refine G.noB rfl (decide_eq_false c201) (G.run 6 rfl ?_)
     refine G.name (fun k_l10 hk_l10 => ?_)
     have at_l10 : ∀ m_l10, m_l10 ≤ n_l1 → ∀ (out_237 : List Int) (a_238 : Int) (w : World), spec_l25Parts.l10 K m_l10 d_Crossings d_Circles out_237 a_238 = some r1 → St w0 w (Box b1 30 [.slice A_a d_Crossings.length c_a, .int .i64 d_Circles] :: Own (TInt .i64) 2 A101 c102 (fun _ => ()) out_237 :: L) → G prog 48 74 [(1, .pointer (some ⟨b1, 0, none⟩)), (3, .slice A101 out_237.length c102), (5, .int .i64 a_238)] k_l10 w (spec_l25Parts.post w0 L r1) := by
      intro m_l10
      induction m_l10 using Nat.strongRecOn with
      | _ m_l10 ih_l10 =>
       intro hm_l10 out_237 a_238 w H HS
       cases m_l10 with
       | zero => rw [spec_l25Parts.l10] at H; cases H
       | succ n_l10 =>
        rw [spec_l25Parts.l10] at H
        subst hk_l10
        refine G.run 2 rfl (G.region (GO.move rfl rfl rfl (GO.fld (⟨b1, 0, none⟩) rfl rfl fl30_0 rfl rfl (GO.ldBox (j := 0) HS rfl rfl rfl rfl na28 rfl (GO.lenS rfl rfl underlying28 rfl (GO.ps 2 rfl (GO.nil ?_)))))))
        rcases ite_elim H with ⟨c268, H⟩ | ⟨c268, H⟩
        ·
         refine G.yesB rfl (decide_eq_true c268) (G.run 4 rfl ?_)
         obtain ⟨t269, t270, h271, H⟩ := bind2_elim H
         refine G.region (GO.ldBoxA (j := 0) ([.slice A_a d_Crossings.length c_a, .int .i64 d_Circles]) HS rfl rfl rfl rfl ag30 rfl (GO.move rfl rfl rfl (GO.fn rfl func49 fok49.1 fok49.2 rfl rfl (spec_l25Place.calls HS (RdIn.drop 2 r_a) h271) (fun _ wd272 ⟨h273, HS⟩ => ⟨_, h273, (GO.ps 5 rfl (GO.nil (G.seq ?_)))⟩))))
         obtain ⟨t274, t275, h276, H⟩ := bind2_elim H
         refine G.region (GO.ldBoxA (j := 0) ([.slice A_a d_Crossings.length c_a, .int .i64 d_Circles]) HS rfl rfl rfl rfl ag30 rfl (GO.move rfl rfl rfl (GO.fn rfl func49 fok49.1 fok49.2 rfl rfl (spec_l25Place.calls HS (RdIn.drop 2 r_a) h276) (fun _ wd277 ⟨h278, HS⟩ => ⟨_, h278, (GO.ps 5 rfl (GO.nil (G.seq ?_)))⟩))))
         obtain ⟨c279, H⟩ := ite_none H
         have h280 := ((RdIn.own (j := 1) rfl) _ HS).2.2.1
         obtain ⟨c281, H⟩ := ite_none H
         have h282 := ((RdIn.own (j := 1) rfl) _ HS).2.2.1
         refine G.lex mixed [0, 1, 2, 4, 5, 6, 3, 7, 8, 9] (by kernel_rfl) ?_
         replace HS := HS.drew
         refine GX.ps 2 rfl (GX.l0 rfl rfl (fun _ _ g => GO.ix rfl rfl rfl underlying74 sz2 h280 c279.1 c279.2 rfl g) rfl (GX.ps 2 rfl (GX.l0 rfl rfl (fun _ _ g => GO.ix rfl rfl rfl underlying74 sz2 h282 c281.1 c281.2 rfl g) rfl (GX.l1 rfl rfl rfl (fun _ g => GO.ldRd (T := (TInt .i64)) (n := t269.toNat) (o := 0) HS (RdIn.own (j := 1) rfl) rfl rfl (getD_some (d := 0) (ltN c279)) rfl rfl na2 rfl g) rfl (GX.l1 rfl rfl rfl (fun _ g => GO.ldRd (T := (TInt .i64)) (n := t274.toNat) (o := 0) HS (RdIn.own (j := 1) rfl) rfl rfl (getD_some (d := 0) (ltN c281)) rfl rfl na2 rfl g) rfl (GX.ps 2 rfl (GX.nil (G.run 4 rfl ?_))))))))
         refine G.name (fun k_l13 hk_l13 => ?_)
         have at_l13 : ∀ m_l13, m_l13 ≤ n_l10 → ∀ (out_287 : List Int) (k_288 : Int) (w : World), spec_l25Parts.l13 K m_l13 d_Crossings d_Circles out_237 a_238 t269 t274 out_287 k_288 = some r1 → St w0 w (Box b1 30 [.slice A_a d_Crossings.length c_a, .int .i64 d_Circles] :: Own (TInt .i64) 2 A101 c102 (fun _ => ()) out_287 :: L) → G prog 48 74 [(1, .pointer (some ⟨b1, 0, none⟩)), (3, .slice A101 out_287.length c102), (5, .int .i64 a_238), (10, .int .i64 (out_237.getD t269.toNat 0)), (11, .int .i64 (out_237.getD t274.toNat 0)), (12, .int .i64 k_288)] k_l13 w (spec_l25Parts.post w0 L r1) := by
          intro m_l13
          induction m_l13 using Nat.strongRecOn with
          | _ m_l13 ih_l13 =>
           intro hm_l13 out_287 k_288 w H HS
           cases m_l13 with
           | zero => rw [spec_l25Parts.l13] at H; cases H
           | succ n_l13 =>
            rw [spec_l25Parts.l13] at H
            subst hk_l13
            refine G.run 2 rfl (G.region (GO.ps 2 rfl (GO.lenS rfl rfl underlying74 rfl (GO.lss rfl rfl rfl rfl (GO.nil ?_)))))
            rcases ite_elim H with ⟨c293, H⟩ | ⟨c293, H⟩
            ·
             refine G.yesB rfl (decide_eq_true c293) (G.run 4 rfl ?_)
             obtain ⟨c294, H⟩ := ite_none H
             refine G.region (GO.ps 2 rfl (GO.ix rfl rfl rfl underlying74 sz2 ((RdIn.own (j := 1) rfl) _ HS).2.2.1 c294.1 c294.2 rfl (GO.ldRd (T := (TInt .i64)) (n := k_288.toNat) (o := 0) HS (RdIn.own (j := 1) rfl) rfl rfl (getD_some (d := 0) (ltN c294)) rfl rfl na2 rfl (GO.ps 2 rfl (GO.max2 rfl rfl rfl rfl (GO.eql rfl rfl rfl rfl (GO.nil ?_)))))))
             rcases ite_elim H with ⟨c295, H⟩ | ⟨c295, H⟩
             ·
              refine G.yesB rfl (decide_eq_true c295) (G.region (GO.ps 4 rfl (GO.min2 rfl rfl rfl rfl (GO.ix rfl rfl rfl underlying74 sz2 ((RdIn.own (j := 1) rfl) _ HS).2.2.1 c294.1 c294.2 rfl (GO.stRow (T := (TInt .i64)) (j := 1) (n := k_288.toNat) (o := 0) (vs := [.int .i64 (if out_237.getD t274.toNat 0 < out_237.getD t269.toNat 0 then out_237.getD t274.toNat 0 else out_237.getD t269.toNat 0)]) (if out_237.getD t274.toNat 0 < out_237.getD t269.toNat 0 then out_237.getD t274.toNat 0 else out_237.getD t269.toNat 0) HS rfl flat_flat rfl rfl rfl rfl (htN na2 rfl) rfl (getD_some (d := 0) (ltN c294)) rfl rfl fun wd296 HS => GO.nil (G.len (t := 3) (m := (out_287.set k_288.toNat (if out_237.getD t274.toNat 0 < out_237.getD t269.toNat 0 then out_237.getD t274.toNat 0 else out_237.getD t269.toNat 0)).length) rfl (by simp only [List.length_set] <;> rfl) (G.run 3 rfl (G.weak ?_ (ih_l13 n_l13 (Nat.lt_succ_of_le (Nat.le_refl _)) (Nat.le_of_succ_le hm_l13) _ _ _ H HS)))))))))
              exact ⟨rfl, rfl, rfl, rfl, rfl, rfl, trivial⟩
             refine G.noB rfl (decide_eq_false c295) (G.run 4 rfl (G.weak ?_ (ih_l13 n_l13 (Nat.lt_succ_of_le (Nat.le_refl _)) (Nat.le_of_succ_le hm_l13) _ _ _ H HS)))
             exact ⟨rfl, rfl, rfl, rfl, rfl, rfl, trivial⟩
            refine G.noB rfl (decide_eq_false c293) (G.run 4 rfl (G.weak ?_ (ih_l10 n_l13 (by omega) (by omega) _ _ _ H HS)))
            exact ⟨rfl, rfl, rfl, trivial⟩
         refine G.weak ?_ (at_l13 n_l10 (Nat.le_refl _) _ _ _ H HS)
         exact ⟨rfl, rfl, rfl, rfl, rfl, rfl, trivial⟩
        refine G.noB rfl (decide_eq_false c268) (G.run 3 rfl ?_)
        obtain rfl := Option.some.inj H
        exact G.ret1 _ func48 rfl rfl ⟨_, _, rfl, (HS.pk 2 [1] rfl)⟩
     refine G.weak ?_ (at_l10 n_l1 (Nat.le_refl _) _ _ _ H HS)
     exact ⟨rfl, rfl, rfl, trivial⟩
  refine G.weak ?_ (at_l1 K (Nat.le_refl _) _ _ _ _ _ H (HS.pk 2 [1, 0] rfl))
  exact ⟨rfl, rfl, rfl, trivial⟩
theorem spec_l25PartCount.calls {w0 w : World} {L : List HObj} {K : Nat} {d_Crossings : List GCrossing} {d_Circles : Int} {A_a : Option Addr} {c_a : Nat} {r1 : Int} (HS : St w0 w (L)) (r_a : RdIn w0 L T_GCrossing A_a c_a (fun _ => ()) d_Crossings) (H : spec_l25PartCount.f K d_Crossings d_Circles = some r1) :
    Calls prog 30 #[.agg [.slice A_a d_Crossings.length c_a, .int .i64 d_Circles].toArray] w (spec_l25PartCount.post w0 L r1) := by
  unfold spec_l25PartCount.f at H
  refine Calls.of_G func30 rfl rfl rfl ?_
  refine G.seq (G.region (GO.box (cs := [.slice A_a d_Crossings.length c_a, .int .i64 d_Circles]) HS rfl rfl rfl rfl fun b1 wd2 HS => GO.assign rfl rfl rfl (GO.nil (G.run 3 rfl ?_))))
  obtain ⟨t3, h4, H⟩ := Option.bind_eq_some_iff.1 H
  refine G.region (GO.ldBoxA (j := 0) ([.slice A_a d_Crossings.length c_a, .int .i64 d_Circles]) HS rfl rfl rfl rfl ag30 rfl (GO.fn rfl func48 fok48.1 fok48.2 rfl rfl (spec_l25Parts.calls HS (RdIn.drop 1 r_a) h4) (fun _ wd7 ⟨A5, c6, h8, HS⟩ => ⟨_, h8, (GO.assign rfl rfl rfl (GO.nil (G.run 5 rfl ?_)))⟩)))
  refine G.name (fun k_l1 hk_l1 => ?_)
  have at_l1 : ∀ m_l1, m_l1 ≤ K → ∀ (n_12 i_13 : Int) (w : World), spec_l25PartCount.l1 K m_l1 t3 n_12 i_13 = some r1 → St w0 w (Own (TInt .i64) 2 A5 c6 (fun _ => ()) t3 :: L) → G prog 30 23 [(3, .int .i64 n_12), (4, .slice A5 t3.length c6), (5, .int .i64 i_13)] k_l1 w (spec_l25PartCount.post w0 L r1) := by
   intro m_l1
   induction m_l1 using Nat.strongRecOn with
   | _ m_l1 ih_l1 =>
    intro hm_l1 n_12 i_13 w H HS
    cases m_l1 with
    | zero => rw [spec_l25PartCount.l1] at H; cases H
    | succ n_l1 =>
     rw [spec_l25PartCount.l1] at H
     subst hk_l1
     refine G.run 2 rfl (G.region (GO.ps 2 rfl (GO.lenS rfl rfl underlying74 rfl (GO.lss rfl rfl rfl rfl (GO.nil ?_)))))
     rcases ite_elim H with ⟨c17, H⟩ | ⟨c17, H⟩
     ·
      refine G.yesB rfl (decide_eq_true c17) (G.run 4 rfl ?_)
      obtain ⟨c18, H⟩ := ite_none H
      refine G.region (GO.ps 2 rfl (GO.ix rfl rfl rfl underlying74 sz2 ((RdIn.own (j := 0) rfl) _ HS).2.2.1 c18.1 c18.2 rfl (GO.ldRd (T := (TInt .i64)) (n := i_13.toNat) (o := 0) HS (RdIn.own (j := 0) rfl) rfl rfl (getD_some (d := 0) (ltN c18)) rfl rfl na2 rfl (GO.ps 2 rfl (GO.nil ?_)))))
      rcases ite_elim H with ⟨c19, H⟩ | ⟨c19, H⟩
      ·
       refine G.yesB rfl (decide_eq_true c19) (G.run 4 rfl (G.weak ?_ (ih_l1 n_l1 (Nat.lt_succ_of_le (Nat.le_refl _)) (Nat.le_of_succ_le hm_l1) _ _ _ H HS)))
       exact ⟨rfl, rfl, rfl, trivial⟩
      refine G.noB rfl (decide_eq_false c19) (G.run 4 rfl (G.weak ?_ (ih_l1 n_l1 (Nat.lt_succ_of_le (Nat.le_refl _)) (Nat.le_of_succ_le hm_l1) _ _ _ H HS)))
      exact ⟨rfl, rfl, rfl, trivial⟩
     refine G.noB rfl (decide_eq_false c17) (G.run 3 rfl ?_)
     obtain rfl := Option.some.inj H
     exact G.ret1 _ func30 rfl rfl ⟨rfl, (HS.pk 1 [] rfl)⟩
  refine G.weak ?_ (at_l1 K (Nat.le_refl _) _ _ _ H (HS.pk 2 [0] rfl))
  exact ⟨rfl, rfl, rfl, trivial⟩
theorem spec_IsDiagram.calls {w0 w : World} {L : List HObj} {K : Nat} {d_Crossings : List GCrossing} {d_Circles : Int} {A_a : Option Addr} {c_a : Nat} {r1 : Bool} (HS : St w0 w (L)) (r_a : RdIn w0 L T_GCrossing A_a c_a (fun _ => ()) d_Crossings) (H : spec_IsDiagram.f K d_Crossings d_Circles = some r1) :
    Calls prog 16 #[.agg [.slice A_a d_Crossings.length c_a, .int .i64 d_Circles].toArray] w (spec_IsDiagram.post w0 L r1) := by
  unfold spec_IsDiagram.f at H
  refine Calls.of_G func16 rfl rfl rfl ?_
  refine G.seq (G.region (GO.box (cs := [.slice A_a d_Crossings.length c_a, .int .i64 d_Circles]) HS rfl rfl rfl rfl fun b1 wd2 HS => GO.assign rfl rfl rfl (GO.nil (G.run 2 rfl ?_))))
  rcases ite_elim H with ⟨c13, H⟩ | ⟨c13, H⟩
  ·
   refine G.region (GO.fld (⟨b1, 0, none⟩) rfl rfl fl30_0 rfl rfl (GO.ldBox (j := 0) HS rfl rfl rfl rfl na28 rfl (GO.lenS rfl rfl underlying28 rfl (GO.ps 2 rfl (GO.known (t := 7) rfl (decide_eq_true c13) (GO.off rfl rfl rfl rfl rfl rfl (GO.off rfl rfl rfl rfl rfl rfl (GO.off rfl rfl rfl rfl rfl rfl (GO.off rfl rfl rfl rfl rfl rfl (GO.ps 2 rfl (GO.off rfl rfl rfl rfl rfl rfl (GO.off rfl rfl rfl rfl rfl rfl (GO.off rfl rfl rfl rfl rfl rfl (GO.pickT rfl rfl rfl rfl rfl ?_))))))))))))))
   refine GO.nil (G.run 3 rfl ?_)
   obtain rfl := Option.some.inj H
   exact G.ret1 _ func16 rfl rfl ⟨rfl, (HS.pk 1 [] rfl)⟩
  obtain ⟨t14, h15, H⟩ := Option.bind_eq_some_iff.1 H
  rcases ite_elim H with ⟨c18, H⟩ | ⟨c18, H⟩
  ·
   obtain ⟨t19, h20, H⟩ := Option.bind_eq_some_iff.1 H
   refine G.region (GO.fld (⟨b1, 0, none⟩) rfl rfl fl30_0 rfl rfl (GO.ldBox (j := 0) HS rfl rfl rfl rfl na28 rfl (GO.lenS rfl rfl underlying28 rfl (GO.ps 2 rfl (GO.known (t := 7) rfl (decide_eq_false c13) (GO.on rfl rfl rfl rfl (GO.fld (⟨b1, 1, none⟩) rfl rfl fl30_1 rfl rfl (GO.back (GO.on rfl rfl rfl rfl (GO.ldBox (j := 0) HS rfl rfl rfl rfl na2 rfl (GO.back (GO.on rfl rfl rfl rfl (GO.fn rfl func27 fok27.1 fok27.2 rfl rfl (spec_l01In.calls HS  h15) (fun _ wd16 ⟨h17, HS⟩ => ⟨_, h17, (GO.back ?_)⟩))))))))))))))
   refine GO.on rfl rfl rfl rfl (GO.not rfl rfl rfl (GO.back (GO.ps 2 rfl (GO.known (t := 13) rfl (congrArg Bool.not c18) (GO.on rfl rfl rfl rfl (GO.ldBoxA (j := 0) ([.slice A_a d_Crossings.length c_a, .int .i64 d_Circles]) HS rfl rfl rfl rfl ag30 rfl (GO.back (GO.on rfl rfl rfl rfl (GO.fn rfl func28 fok28.1 fok28.2 rfl rfl (spec_l25Counts.calls HS (RdIn.drop 1 r_a) h20) (fun _ wd21 ⟨h22, HS⟩ => ⟨_, h22, (GO.back (GO.on rfl rfl rfl rfl (GO.not rfl rfl rfl (GO.back (GO.pickF rfl rfl rfl rfl rfl ?_)))))⟩))))))))))
   refine GO.nil ?_
   rcases ite_elim H with ⟨c23, H⟩ | ⟨c23, H⟩
   ·
    refine G.noB rfl (congrArg Bool.not c23) (G.run 2 rfl ?_)
    obtain ⟨t24, h25, H⟩ := Option.bind_eq_some_iff.1 H
    obtain ⟨t31, h32, H⟩ := Option.bind_eq_some_iff.1 H
    refine G.lexS mixed (fun w => St w0 w (Box b1 30 [.slice A_a d_Crossings.length c_a, .int .i64 d_Circles] :: L)) [0, 2, 4, 5, 6] [3, 0, 4, 5, 6, 1, 2, 7, 8, 9, 10, 11] 12 (by kernel_rfl) (by kernel_rfl) HS.drew ?_
    replace HS := HS.drew
    refine GX.l0 rfl rfl (fun _ _ g => GO.fld (⟨b1, 0, none⟩) rfl rfl fl30_0 rfl rfl g) rfl (GX.ls rfl rfl rfl HS (fun _ HS _ g => GO.ldBoxA (j := 0) ([.slice A_a d_Crossings.length c_a, .int .i64 d_Circles]) HS rfl rfl rfl rfl ag30 rfl g) rfl (GX.ls rfl rfl rfl HS (fun _ HS _ g => GO.ldBox (j := 0) HS rfl rfl rfl rfl na28 rfl g) rfl (GX.ls rfl rfl rfl HS (fun _ HS _ g => GO.lenS rfl rfl underlying28 rfl g) rfl (GX.ls rfl rfl rfl HS (fun _ HS _ g => GO.ldBoxA (j := 0) ([.slice A_a d_Crossings.length c_a, .int .i64 d_Circles]) HS rfl rfl rfl rfl ag30 rfl g) rfl (GX.l2 rfl (GO.fn rfl func29 fok29.1 fok29.2 rfl rfl (spec_l25Regions.calls HS (RdIn.drop 1 r_a) h25) (fun _ wd29 ⟨A26, c27, y28, h30, HS⟩ => ⟨_, h30, (GX.fin (HS.pk 2 [1] rfl) (GX.ls rfl rfl rfl (HS.pk 2 [1] rfl) (fun _ HS _ g => GO.lenS rfl rfl underlying55 rfl g) rfl (GX.l2 rfl (GO.fn rfl func30 fok30.1 fok30.2 rfl rfl (spec_l25PartCount.calls HS (RdIn.drop 2 r_a) h32) (fun _ wd33 ⟨h34, HS⟩ => ⟨_, h34, (GX.fin (HS.pk 2 [1] rfl) (GX.ps 4 rfl (GX.nil ?_)))⟩)))))⟩)))))))
    obtain rfl := Option.some.inj H
    exact G.ret1 _ func16 rfl rfl ⟨rfl, (HS.pk 2 [] rfl)⟩
   refine G.yesB rfl (congrArg Bool.not (bnot_of c23)) (G.run 2 rfl ?_)
   obtain rfl := Option.some.inj H
   exact G.ret1 _ func16 rfl rfl ⟨rfl, (HS.pk 1 [] rfl)⟩
  refine G.region (GO.fld (⟨b1, 0, none⟩) rfl rfl fl30_0 rfl rfl (GO.ldBox (j := 0) HS rfl rfl rfl rfl na28 rfl (GO.lenS rfl rfl underlying28 rfl (GO.ps 2 rfl (GO.known (t := 7) rfl (decide_eq_false c13) (GO.on rfl rfl rfl rfl (GO.fld (⟨b1, 1, none⟩) rfl rfl fl30_1 rfl rfl (GO.back (GO.on rfl rfl rfl rfl (GO.ldBox (j := 0) HS rfl rfl rfl rfl na2 rfl (GO.back (GO.on rfl rfl rfl rfl (GO.fn rfl func27 fok27.1 fok27.2 rfl rfl (spec_l01In.calls HS  h15) (fun _ wd16 ⟨h17, HS⟩ => ⟨_, h17, (GO.back ?_)⟩))))))))))))))
  refine GO.on rfl rfl rfl rfl (GO.not rfl rfl rfl (GO.back (GO.ps 2 rfl (GO.known (t := 13) rfl (congrArg Bool.not (bnot_of c18)) (GO.off rfl rfl rfl rfl rfl rfl (GO.off rfl rfl rfl rfl rfl rfl (GO.off rfl rfl rfl rfl rfl rfl (GO.pickT rfl rfl rfl rfl rfl (GO.nil (G.run 3 rfl ?_))))))))))
  obtain rfl := Option.some.inj H
  exact G.ret1 _ func16 rfl rfl ⟨rfl, (HS.pk 1 [] rfl)⟩
theorem spec_l25With.calls {w0 w : World} {L : List HObj} {x_A x_B : Int} {x_C x_D : Int} {x_Sign p : Int} {a_ r1 : Int} {r2 r3 : Int} {r4 r5 : Int} (HS : St w0 w (L)) (H : spec_l25With.f x_A x_B x_C x_D x_Sign p a_ = some (r1, r2, r3, r4, r5)) :
    Calls prog 50 #[.agg [.int .i64 x_A, .int .i64 x_B, .int .i64 x_C, .int .i64 x_D, .int .i64 x_Sign].toArray, .int .i64 p, .int .i64 a_] w (spec_l25With.post w0 L r1 r2 r3 r4 r5) := by
  unfold spec_l25With.f at H
  refine Calls.of_G func50 rfl rfl rfl ?_
  refine G.seq (G.region (GO.box (cs := [.int .i64 x_A, .int .i64 x_B, .int .i64 x_C, .int .i64 x_D, .int .i64 x_Sign]) HS rfl rfl rfl rfl fun b1 wd2 HS => GO.alloc HS rfl zr61 rfl rfl fun b3 wd4 HS => GO.nil (G.run 6 rfl ?_)))
  rcases ite_elim H with ⟨c5, H⟩ | ⟨c5, H⟩
  ·
   refine G.yesB rfl (decide_eq_true c5) (G.region (GO.move rfl rfl rfl (GO.fld (⟨b1, 0, none⟩) rfl rfl fl61_0 rfl rfl (GO.stBox (j := 1) (vs := [.int .i64 a_]) ([.int .i64 a_, .int .i64 x_B, .int .i64 x_C, .int .i64 x_D, .int .i64 x_Sign]) HS rfl rfl rfl rfl rfl (htN na2 rfl) rfl rfl rfl fun wd6 HS => GO.nil (G.run 2 rfl (G.region (GO.ldBoxA (j := 1) ([.int .i64 a_, .int .i64 x_B, .int .i64 x_C, .int .i64 x_D, .int .i64 x_Sign]) HS rfl rfl rfl rfl ag61 rfl (GO.stBox (j := 0) (vs := [.int .i64 a_, .int .i64 x_B, .int .i64 x_C, .int .i64 x_D, .int .i64 x_Sign]) ([.int .i64 a_, .int .i64 x_B, .int .i64 x_C, .int .i64 x_D, .int .i64 x_Sign]) HS rfl rfl rfl rfl rfl (htA ag61) rfl rfl rfl fun wd7 HS => GO.nil ?_))))))))
   obtain ⟨rfl, rfl, rfl, rfl, rfl⟩ := some5 H
   exact G.ret1 _ func50 rfl (Res1.boxA (j := 0) (vs := [.int .i64 a_, .int .i64 x_B, .int .i64 x_C, .int .i64 x_D, .int .i64 x_Sign]) HS rfl rfl rfl ag61) ⟨rfl, (HS.pk 2 [] rfl)⟩
  refine G.noB rfl (decide_eq_false c5) (G.run 2 rfl ?_)
  rcases ite_elim H with ⟨c8, H⟩ | ⟨c8, H⟩
  ·
   refine G.yesB rfl (decide_eq_true c8) (G.region (GO.move rfl rfl rfl (GO.fld (⟨b1, 1, none⟩) rfl rfl fl61_1 rfl rfl (GO.stBox (j := 1) (vs := [.int .i64 a_]) ([.int .i64 x_A, .int .i64 a_, .int .i64 x_C, .int .i64 x_D, .int .i64 x_Sign]) HS rfl rfl rfl rfl rfl (htN na2 rfl) rfl rfl rfl fun wd9 HS => GO.nil (G.run 2 rfl (G.region (GO.ldBoxA (j := 1) ([.int .i64 x_A, .int .i64 a_, .int .i64 x_C, .int .i64 x_D, .int .i64 x_Sign]) HS rfl rfl rfl rfl ag61 rfl (GO.stBox (j := 0) (vs := [.int .i64 x_A, .int .i64 a_, .int .i64 x_C, .int .i64 x_D, .int .i64 x_Sign]) ([.int .i64 x_A, .int .i64 a_, .int .i64 x_C, .int .i64 x_D, .int .i64 x_Sign]) HS rfl rfl rfl rfl rfl (htA ag61) rfl rfl rfl fun wd10 HS => GO.nil ?_))))))))
   obtain ⟨rfl, rfl, rfl, rfl, rfl⟩ := some5 H
   exact G.ret1 _ func50 rfl (Res1.boxA (j := 0) (vs := [.int .i64 x_A, .int .i64 a_, .int .i64 x_C, .int .i64 x_D, .int .i64 x_Sign]) HS rfl rfl rfl ag61) ⟨rfl, (HS.pk 2 [] rfl)⟩
  refine G.noB rfl (decide_eq_false c8) (G.run 2 rfl ?_)
  rcases ite_elim H with ⟨c11, H⟩ | ⟨c11, H⟩
  ·
   refine G.yesB rfl (decide_eq_true c11) (G.region (GO.move rfl rfl rfl (GO.fld (⟨b1, 2, none⟩) rfl rfl fl61_2 rfl rfl (GO.stBox (j := 1) (vs := [.int .i64 a_]) ([.int .i64 x_A, .int .i64 x_B, .int .i64 a_, .int .i64 x_D, .int .i64 x_Sign]) HS rfl rfl rfl rfl rfl (htN na2 rfl) rfl rfl rfl fun wd12 HS => GO.nil (G.run 2 rfl (G.region (GO.ldBoxA (j := 1) ([.int .i64 x_A, .int .i64 x_B, .int .i64 a_, .int .i64 x_D, .int .i64 x_Sign]) HS rfl rfl rfl rfl ag61 rfl (GO.stBox (j := 0) (vs := [.int .i64 x_A, .int .i64 x_B, .int .i64 a_, .int .i64 x_D, .int .i64 x_Sign]) ([.int .i64 x_A, .int .i64 x_B, .int .i64 a_, .int .i64 x_D, .int .i64 x_Sign]) HS rfl rfl rfl rfl rfl (htA ag61) rfl rfl rfl fun wd13 HS => GO.nil ?_))))))))
   obtain ⟨rfl, rfl, rfl, rfl, rfl⟩ := some5 H
   exact G.ret1 _ func50 rfl (Res1.boxA (j := 0) (vs := [.int .i64 x_A, .int .i64 x_B, .int .i64 a_, .int .i64 x_D, .int .i64 x_Sign]) HS rfl rfl rfl ag61) ⟨rfl, (HS.pk 2 [] rfl)⟩
  refine G.noB rfl (decide_eq_false c11) (G.region (GO.move rfl rfl rfl (GO.fld (⟨b1, 3, none⟩) rfl rfl fl61_3 rfl rfl (GO.stBox (j := 1) (vs := [.int .i64 a_]) ([.int .i64 x_A, .int .i64 x_B, .int .i64 x_C, .int .i64 a_, .int .i64 x_Sign]) HS rfl rfl rfl rfl rfl (htN na2 rfl) rfl rfl rfl fun wd14 HS => GO.nil (G.run 2 rfl (G.region (GO.ldBoxA (j := 1) ([.int .i64 x_A, .int .i64 x_B, .int .i64 x_C, .int .i64 a_, .int .i64 x_Sign]) HS rfl rfl rfl rfl ag61 rfl (GO.stBox (j := 0) (vs := [.int .i64 x_A, .int .i64 x_B, .int .i64 x_C, .int .i64 a_, .int .i64 x_Sign]) ([.int .i64 x_A, .int .i64 x_B, .int .i64 x_C, .int .i64 a_, .int .i64 x_Sign]) HS rfl rfl rfl rfl rfl (htA ag61) rfl rfl rfl fun wd15 HS => GO.nil ?_))))))))
  obtain ⟨rfl, rfl, rfl, rfl, rfl⟩ := some5 H
  exact G.ret1 _ func50 rfl (Res1.boxA (j := 0) (vs := [.int .i64 x_A, .int .i64 x_B, .int .i64 x_C, .int .i64 a_, .int .i64 x_Sign]) HS rfl rfl rfl ag61) ⟨rfl, (HS.pk 2 [] rfl)⟩
theorem spec_AddKink.calls {w0 w : World} {L : List HObj} {K : Nat} {d_Crossings : List GCrossing} {d_Circles a_ v : Int} {A_a : Option Addr} {c_a : Nat} {r1 : List GCrossing} {r2 r3 : Int} (HS : St w0 w (L)) (r_a : RdIn w0 L T_GCrossing A_a c_a (fun _ => ()) d_Crossings) (H : spec_AddKink.f K d_Crossings d_Circles a_ v = some (r1, r2, r3)) :
    Calls prog 31 #[.agg [.slice A_a d_Crossings.length c_a, .int .i64 d_Circles].toArray, .int .i64 a_, .int .i64 v] w (spec_AddKink.post w0 L r1 r2 r3) := by
  unfold spec_AddKink.f at H
  refine Calls.of_G func31 rfl rfl rfl ?_
  refine G.seq (G.region (GO.box (cs := [.slice A_a d_Crossings.length c_a, .int .i64 d_Circles]) HS rfl rfl rfl rfl fun b1 wd2 HS => GO.alloc HS rfl zr30 rfl rfl fun b3 wd4 HS => GO.assign rfl rfl rfl (GO.nil (G.seq (G.region (GO.fld (⟨b1, 0, none⟩) rfl rfl fl30_0 rfl rfl (GO.ldBox (j := 1) HS rfl rfl rfl rfl na28 rfl (GO.lenS rfl rfl underlying28 rfl (GO.ps 2 rfl (GO.nil (G.run 2 rfl ?_)))))))))))
  obtain ⟨t5, h6, H⟩ := Option.bind_eq_some_iff.1 H
  refine G.region (GO.ldBoxA (j := 1) ([.slice A_a d_Crossings.length c_a, .int .i64 d_Circles]) HS rfl rfl rfl rfl ag30 rfl (GO.fn rfl func16 fok16.1 fok16.2 rfl rfl (spec_IsDiagram.calls HS (RdIn.drop 2 r_a) h6) (fun _ wd7 ⟨h8, HS⟩ => ⟨_, h8, (GO.not rfl rfl rfl (GO.nil ?_))⟩)))
  rcases ite_elim H with ⟨c9, H⟩ | ⟨c9, H⟩
  ·
   refine G.noB rfl (congrArg Bool.not c9) (G.run 3 rfl ?_)
   obtain ⟨t10, h11, H⟩ := Option.bind_eq_some_iff.1 H
   refine G.region (GO.ps 3 rfl (GO.fn rfl func27 fok27.1 fok27.2 rfl rfl (spec_l01In.calls HS  h11) (fun _ wd12 ⟨h13, HS⟩ => ⟨_, h13, (GO.not rfl rfl rfl (GO.nil ?_))⟩)))
   rcases ite_elim H with ⟨c14, H⟩ | ⟨c14, H⟩
   ·
    refine G.noB rfl (congrArg Bool.not c14) (G.run 3 rfl ?_)
    obtain ⟨t15, h16, H⟩ := Option.bind_eq_some_iff.1 H
    refine G.region (GO.move rfl rfl rfl (GO.fn rfl func27 fok27.1 fok27.2 rfl rfl (spec_l01In.calls HS  h16) (fun _ wd17 ⟨h18, HS⟩ => ⟨_, h18, (GO.not rfl rfl rfl (GO.nil ?_))⟩)))
    rcases ite_elim H with ⟨c19, H⟩ | ⟨c19, H⟩
    ·
     refine G.noB rfl (congrArg Bool.not c19) (G.run 3 rfl (G.region (GO.fld (⟨b1, 0, none⟩) rfl rfl fl30_0 rfl rfl (GO.ldBox (j := 1) HS rfl rfl rfl rfl na28 rfl (GO.lenS rfl rfl underlying28 rfl (GO.eql rfl rfl rfl rfl (GO.nil ?_)))))))
     rcases ite_elim H with ⟨c20, H⟩ | ⟨c20, H⟩
     ·
      refine G.yesB rfl (decide_eq_true c20) (G.seq (G.region (GO.buildV (.agg [.slice none 0 0, .int .i64 0].toArray) rfl rfl (fun _ => by kernel_rfl) rfl (GO.stBox (j := 0) (vs := [.slice none 0 0, .int .i64 0]) ([.slice none 0 0, .int .i64 0]) HS rfl rfl rfl rfl rfl (htA ag30) rfl rfl rfl fun wd21 HS => GO.assign rfl rfl rfl (GO.nil ?_)))))
      replace HS := HS.nilRow T_GCrossing 61 (fun _ => ())
      obtain ⟨rfl, rfl, rfl⟩ := some3 H
      exact G.ret2 _ _ func31 rfl (Res1.boxA (j := 1) (vs := [.slice none 0 0, .int .i64 0]) HS rfl rfl rfl ag30) rfl ⟨_, _, rfl, (HS.pk 3 [0] rfl)⟩
     refine G.noB rfl (decide_eq_false c20) (G.run 4 rfl ?_)
     obtain ⟨c27, H⟩ := ite_none H
     refine G.regionAny mixed (by decide) (fun b a w => ∃ (Y1_0 : Value) (Y2_1 : Value) (Y3_2 : Value) (Y4_3 : Value) (Y5_4 : Value) (Y6_5 : Value) (Y7_6 : Value) (Y8_7 : Value) (b22 : Nat) (A25 : Option Addr) (c26 : Nat) (b28 : Nat) (O9_4 : HObj) (O10_5 : HObj), Sat 98 [(11, Y8_7), (41, Y1_0), (42, Y2_1), (43, Y3_2), (44, Y4_3), (45, Y5_4), (46, Y6_5), (47, Y7_6), (1, .int .i64 a_), (2, .int .i64 v), (3, .pointer (some ⟨b1, 0, none⟩)), (6, .pointer (some ⟨b3, 0, none⟩)), (9, .int .i64 (w64 (2 * (d_Crossings.length : Int)))), (10, .int .i64 (w64 ((w64 (2 * (d_Crossings.length : Int))) + 1)))] a ∧ St w0 w (Box b3 30 [.slice none 0 0, .int .i64 0] :: Box b1 30 [.slice A_a d_Crossings.length c_a, .int .i64 d_Circles] :: O9_4 :: O10_5 :: L) ∧ (b 7 = true → Y8_7 = (.pointer (some ⟨b28, 0, none⟩))) ∧ (b 0 = true → Y1_0 = (.slice (some ⟨b22, 0, none⟩) 0 0)) ∧ (b 1 = true → Y2_1 = (.pointer (some ⟨b1, 0, none⟩))) ∧ (b 2 = true → Y3_2 = (.slice A_a d_Crossings.length c_a)) ∧ (b 3 = true → Y4_3 = (.slice A25 (([] : List GCrossing) ++ d_Crossings).length c26)) ∧ (b 4 = true → Y5_4 = (.pointer (some ⟨b1, 1, none⟩))) ∧ (b 5 = true → Y6_5 = (.int .i64 d_Circles)) ∧ (b 6 = true → Y7_6 = (.agg [.slice A25 (([] : List GCrossing) ++ d_Crossings).length c26, .int .i64 d_Circles].toArray)) ∧ (b 0 = true → b 3 = false → O9_4 = Box b22 61 []) ∧ (b 3 = true → O9_4 = Own T_GCrossing 61 A25 c26 (fun _ => ()) (([] : List GCrossing) ++ d_Crossings)) ∧ (b 7 = true → b 8 = false → O10_5 = Box b28 30 [.slice none 0 0, .int .i64 0]) ∧ (b 8 = true → O10_5 = Box b28 30 [.slice A25 (([] : List GCrossing) ++ d_Crossings).length c26, .int .i64 d_Circles])) ?_ ?_ ?_
     ·
      intro a hs
      obtain ⟨Y8_7, hs⟩ := hs.ext (d := 11) rfl
      obtain ⟨Y1_0, hs⟩ := hs.ext (d := 41) rfl
      obtain ⟨Y2_1, hs⟩ := hs.ext (d := 42) rfl
      obtain ⟨Y3_2, hs⟩ := hs.ext (d := 43) rfl
      obtain ⟨Y4_3, hs⟩ := hs.ext (d := 44) rfl
      obtain ⟨Y5_4, hs⟩ := hs.ext (d := 45) rfl
      obtain ⟨Y6_5, hs⟩ := hs.ext (d := 46) rfl
      obtain ⟨Y7_6, hs⟩ := hs.ext (d := 47) rfl
      exact ⟨Y1_0, Y2_1, Y3_2, Y4_3, Y5_4, Y6_5, Y7_6, Y8_7, 0, none, 0, 0, Emp, Emp, hs.weak ⟨rfl, rfl, rfl, rfl, rfl, rfl, rfl, rfl, rfl, rfl, rfl, rfl, rfl, rfl, trivial⟩, (HS.drew.emp.emp.pk 4 [2, 3, 1, 0] rfl), fun h => Bool.noConfusion h, fun h => Bool.noConfusion h, fun h => Bool.noConfusion h, fun h => Bool.noConfusion h, fun h => Bool.noConfusion h, fun h => Bool.noConfusion h, fun h => Bool.noConfusion h, fun h => Bool.noConfusion h, fun h => Bool.noConfusion h, fun h => Bool.noConfusion h, fun h => Bool.noConfusion h, fun h => Bool.noConfusion h⟩
     ·
      intro j hj b a w
      refine exI fun Y1_0 => exI fun Y2_1 => exI fun Y3_2 => exI fun Y4_3 => exI fun Y5_4 => exI fun Y6_5 => exI fun Y7_6 => exI fun Y8_7 => exI fun b22 => exI fun A25 => exI fun c26 => exI fun b28 => exI fun O9_4 => exI fun O10_5 => anI fun hs => anI fun HS => anI fun f7 => anI fun f0 => anI fun f1 => anI fun f2 => anI fun f3 => anI fun f4 => anI fun f5 => anI fun f6 => anI fun o4_0 => anI fun o4_1 => anI fun o5_0 => fun o5_1 hb hd hcl => ?_
      match j, hj with
      | 0, _ =>
       refine GO.at hs (GO.buildS (el := 61) ([]) HS rfl rfl (fun _ => by kernel_rfl) rfl fun b22 wd23 HS => GO.fin (fun a hs => ⟨(.slice (some ⟨b22, 0, none⟩) 0 0), _, _, _, _, _, _, _, b22, A25, c26, b28, Box b22 61 [], _, by exact hs.setAt 1 rfl, HS.pk 5 [1, 2, 0, 4] rfl, f7, fun _ => rfl, f1, f2, f3, f4, f5, f6, fun _ _ => rfl, fun hh => (Bool.noConfusion ((hcl 3 (by decide) hh 0 (by decide)).symm.trans hb)), o5_0, o5_1⟩))
      | 1, _ =>
       refine GO.at hs (GO.fld (⟨b1, 0, none⟩) rfl rfl fl30_0 rfl rfl (GO.fin (fun a hs => ⟨_, (.pointer (some ⟨b1, 0, none⟩)), _, _, _, _, _, _, b22, A25, c26, b28, _, _, by exact hs.setAt 2 rfl, HS, f7, f0, fun _ => rfl, f2, f3, f4, f5, f6, o4_0, o4_1, o5_0, o5_1⟩)))
      | 2, _ =>
       have hb1 : b 1 = true := hd 1 (by decide)
       obtain rfl := f1 hb1
       refine GO.at hs (GO.ldBox (j := 1) HS rfl rfl rfl rfl na28 rfl (GO.fin (fun a hs => ⟨_, _, (.slice A_a d_Crossings.length c_a), _, _, _, _, _, b22, A25, c26, b28, _, _, by exact hs.setAt 3 rfl, HS, f7, f0, f1, fun _ => rfl, f3, f4, f5, f6, o4_0, o4_1, o5_0, o5_1⟩)))
      | 3, _ =>
       have hb0 : b 0 = true := hd 0 (by decide)
       obtain rfl := f0 hb0
       have hb2 : b 2 = true := hd 2 (by decide)
       obtain rfl := f2 hb2
       obtain rfl := o4_0 hb0 hb
       refine GO.at hs ?_
       replace HS := HS.boxRow (T := T_GCrossing) (j := 2) rfl flat_flat (fun _ => ()) ([] : List GCrossing) rfl (bndL rfl)
       refine GO.lenC (t := 41) (m := ([] : List GCrossing).length) (c' := ([] : List GCrossing).length) rfl rfl rfl (GO.appS (T := T_GCrossing) (j := 2) HS rfl (RdIn.drop 4 r_a) flat_flat rfl rfl rfl underlying28 inf61 rfl rfl rfl c27 rfl (fun _ => rfl) fun A25 c26 wd24 HS => GO.fin (fun a hs => ⟨_, _, _, (.slice A25 (([] : List GCrossing) ++ d_Crossings).length c26), _, _, _, _, b22, A25, c26, b28, Own T_GCrossing 61 A25 c26 (fun _ => ()) (([] : List GCrossing) ++ d_Crossings), _, hs.weak ⟨rfl, rfl, rfl, rfl, rfl, rfl, rfl, rfl, rfl, rfl, rfl, rfl, rfl, rfl, trivial⟩, HS, f7, f0, f1, f2, fun _ => rfl, f4, f5, fun hh => (Bool.noConfusion ((hcl 6 (by decide) hh 3 (by decide)).symm.trans hb)), fun _ h => Bool.noConfusion h, fun _ => rfl, o5_0, fun hh => (Bool.noConfusion ((hcl 8 (by decide) hh 3 (by decide)).symm.trans hb))⟩))
      | 4, _ =>
       refine GO.at hs (GO.fld (⟨b1, 1, none⟩) rfl rfl fl30_1 rfl rfl (GO.fin (fun a hs => ⟨_, _, _, _, (.pointer (some ⟨b1, 1, none⟩)), _, _, _, b22, A25, c26, b28, _, _, by exact hs.setAt 5 rfl, HS, f7, f0, f1, f2, f3, fun _ => rfl, f5, f6, o4_0, o4_1, o5_0, o5_1⟩)))
      | 5, _ =>
       have hb4 : b 4 = true := hd 4 (by decide)
       obtain rfl := f4 hb4
       refine GO.at hs (GO.ldBox (j := 1) HS rfl rfl rfl rfl na2 rfl (GO.fin (fun a hs => ⟨_, _, _, _, _, (.int .i64 d_Circles), _, _, b22, A25, c26, b28, _, _, by exact hs.setAt 6 rfl, HS, f7, f0, f1, f2, f3, f4, fun _ => rfl, f6, o4_0, o4_1, o5_0, o5_1⟩)))
      | 6, _ =>
       have hb3 : b 3 = true := hd 3 (by decide)
       obtain rfl := f3 hb3
       have hb5 : b 5 = true := hd 5 (by decide)
       obtain rfl := f5 hb5
       refine GO.at hs (GO.buildV (.agg [.slice A25 (([] : List GCrossing) ++ d_Crossings).length c26, .int .i64 d_Circles].toArray) rfl rfl (fun _ => by kernel_rfl) rfl (GO.fin (fun a hs => ⟨_, _, _, _, _, _, (.agg [.slice A25 (([] : List GCrossing) ++ d_Crossings).length c26, .int .i64 d_Circles].toArray), _, b22, A25, c26, b28, _, _, by exact hs.setAt 7 rfl, HS, f7, f0, f1, f2, f3, f4, f5, fun _ => rfl, o4_0, o4_1, o5_0, o5_1⟩)))
      | 7, _ =>
       refine GO.at hs (GO.alloc HS rfl zr30 rfl rfl fun b28 wd29 HS => GO.fin (fun a hs => ⟨_, _, _, _, _, _, _, (.pointer (some ⟨b28, 0, none⟩)), b22, A25, c26, b28, _, Box b28 30 [.slice none 0 0, .int .i64 0], by exact hs.setAt 0 rfl, HS.pk 5 [1, 2, 3, 0] rfl, fun _ => rfl, f0, f1, f2, f3, f4, f5, f6, o4_0, o4_1, fun _ _ => rfl, fun hh => (Bool.noConfusion ((hcl 8 (by decide) hh 7 (by decide)).symm.trans hb))⟩))
      | 8, _ =>
       have hb7 : b 7 = true := hd 7 (by decide)
       obtain rfl := f7 hb7
       have hb6 : b 6 = true := hd 6 (by decide)
       obtain rfl := f6 hb6
       obtain rfl := o5_0 hb7 hb
       refine GO.at hs (GO.stBox (j := 3) (vs := [.slice A25 (([] : List GCrossing) ++ d_Crossings).length c26, .int .i64 d_Circles]) ([.slice A25 (([] : List GCrossing) ++ d_Crossings).length c26, .int .i64 d_Circles]) HS rfl rfl rfl rfl rfl (htA ag30) rfl rfl rfl fun wd30 HS => GO.fin (fun a hs => ⟨_, _, _, _, _, _, _, _, b22, A25, c26, b28, _, Box b28 30 [.slice A25 (([] : List GCrossing) ++ d_Crossings).length c26, .int .i64 d_Circles], hs, HS, f7, f0, f1, f2, f3, f4, f5, f6, o4_0, o4_1, fun _ h => Bool.noConfusion h, fun _ => rfl⟩))
      | k + 9, hj => exact absurd hj (Nat.not_lt.2 (Nat.le_add_left 9 k))
     ·
      intro b a w hall
      refine exI fun Y1_0 => exI fun Y2_1 => exI fun Y3_2 => exI fun Y4_3 => exI fun Y5_4 => exI fun Y6_5 => exI fun Y7_6 => exI fun Y8_7 => exI fun b22 => exI fun A25 => exI fun c26 => exI fun b28 => exI fun O9_4 => exI fun O10_5 => anI fun hs => anI fun HS => anI fun f7 => anI fun f0 => anI fun f1 => anI fun f2 => anI fun f3 => anI fun f4 => anI fun f5 => anI fun f6 => anI fun o4_0 => anI fun o4_1 => anI fun o5_0 => fun o5_1 => ?_
      obtain rfl := f7 (hall 7 (by decide))
      obtain rfl := f0 (hall 0 (by decide))
      obtain rfl := f1 (hall 1 (by decide))
      obtain rfl := f2 (hall 2 (by decide))
      obtain rfl := f3 (hall 3 (by decide))
      obtain rfl := f4 (hall 4 (by decide))
      obtain rfl := f5 (hall 5 (by decide))
      obtain rfl := f6 (hall 6 (by decide))
      obtain rfl := o4_1 (hall 3 (by decide))
      obtain rfl := o5_1 (hall 8 (by decide))
      refine G.at hs (G.seq ?_)
      obtain ⟨t31, t32, h33, H⟩ := bind2_elim H
      refine G.region (GO.ldBoxA (j := 1) ([.slice A_a d_Crossings.length c_a, .int .i64 d_Circles]) HS rfl rfl rfl rfl ag30 rfl (GO.move rfl rfl rfl (GO.fn rfl func49 fok49.1 fok49.2 rfl rfl (spec_l25Place.calls HS (RdIn.drop 4 r_a) h33) (fun _ wd34 ⟨h35, HS⟩ => ⟨_, h35, (GO.ps 5 rfl (GO.nil (G.seq ?_)))⟩))))
      obtain ⟨c36, H⟩ := ite_none H
      obtain ⟨e37, h38, H⟩ := bnd_elim H
      obtain ⟨t39, t40, t41, t42, t43, h44, H⟩ := bind5_elim H
      obtain ⟨c47, H⟩ := ite_none H
      have h48 := ((RdIn.own (j := 2) rfl) _ HS).2.2.1
      refine G.lexS mixed (fun w => St w0 w (Box b1 30 [.slice A_a d_Crossings.length c_a, .int .i64 d_Circles] :: Box b28 30 [.slice A25 (([] : List GCrossing) ++ d_Crossings).length c26, .int .i64 d_Circles] :: L)) [1, 4, 7] [0, 2, 3, 5, 8, 9, 1, 4, 6, 7, 10, 11, 12] 12 (by kernel_rfl) (by kernel_rfl) (HS.drew.pk 4 [1, 3] rfl) ?_
      replace HS := HS.drew
      refine GX.l0 rfl rfl (fun _ _ g => GO.fld (⟨b28, 0, none⟩) rfl rfl fl30_0 rfl rfl g) rfl (GX.ps 1 rfl (GX.l0 rfl rfl (fun _ _ g => GO.fld (⟨b1, 0, none⟩) rfl rfl fl30_0 rfl rfl g) rfl (GX.ps 3 rfl (GX.ls rfl rfl rfl (HS.pk 4 [1, 3] rfl) (fun _ HS _ g => GO.ldBox (j := 1) HS rfl rfl rfl rfl na28 rfl g) rfl (GX.ls rfl rfl rfl (HS.pk 4 [1, 3] rfl) (fun _ HS _ g => GO.ldBox (j := 0) HS rfl rfl rfl rfl na28 rfl g) rfl (GX.l0 rfl rfl (fun _ _ g => GO.ix rfl rfl rfl underlying28 sz61 ((RdIn.drop 4 r_a) _ HS).2.2.1 c36.1 c36.2 rfl g) rfl (GX.ls rfl rfl rfl (HS.pk 4 [1, 3] rfl) (fun _ HS _ g => GO.ldRdA (T := T_GCrossing) (n := t31.toNat) HS (RdIn.drop 2 r_a) rfl rfl (getD_eq (ltN c36) h38) ag61 rfl g) rfl (GX.l2 rfl (GO.fn rfl func50 fok50.1 fok50.2 rfl rfl (spec_l25With.calls HS  h44) (fun _ wd45 ⟨h46, HS⟩ => ⟨_, h46, (GX.fin (HS.pk 4 [1, 3] rfl) (GX.l0 rfl rfl (fun _ _ g => GO.ix rfl rfl rfl underlying28 sz61 h48 c47.1 c47.2 rfl g) rfl (GX.l2 rfl (GO.stRow (T := T_GCrossing) (j := 2) (n := t31.toNat) (o := 0) (vs := [.int .i64 t39, .int .i64 t40, .int .i64 t41, .int .i64 t42, .int .i64 t43]) (⟨t39, t40, t41, t42, t43⟩ : GCrossing) HS rfl flat_flat rfl rfl rfl rfl (htA ag61) rfl (getD_some (d := z_GCrossing) (ltN c47)) rfl rfl fun wd49 HS => GX.finZ ?_))))⟩))))))))))
      refine GX.nil ?_
      replace HS := HS.boxEq (j := 3) (cs' := [.slice A25 ((([] : List GCrossing) ++ d_Crossings).set t31.toNat (⟨t39, t40, t41, t42, t43⟩ : GCrossing)).length c26, .int .i64 d_Circles]) rfl (by simp only [List.length_set] <;> rfl)
      refine G.seq ?_
      obtain ⟨c52, H⟩ := ite_none H
      obtain ⟨e53, h54, H⟩ := bnd_elim H
      refine G.region (GO.ps 4 rfl (GO.buildV (.agg [.int .i64 a_, .int .i64 (w64 ((w64 (2 * (d_Crossings.length : Int))) + 1)), .int .i64 (w64 (2 * (d_Crossings.length : Int))), .int .i64 (w64 (2 * (d_Crossings.length : Int))), .int .i64 1].toArray) rfl rfl (fun _ => by kernel_rfl) rfl (GO.ps 4 rfl (GO.buildV (.agg [.int .i64 a_, .int .i64 (w64 (2 * (d_Crossings.length : Int))), .int .i64 (w64 (2 * (d_Crossings.length : Int))), .int .i64 (w64 ((w64 (2 * (d_Crossings.length : Int))) + 1)), .int .i64 (-1)].toArray) rfl rfl (fun _ => by kernel_rfl) rfl (GO.ps 4 rfl (GO.buildV (.agg [.int .i64 (w64 (2 * (d_Crossings.length : Int))), .int .i64 (w64 (2 * (d_Crossings.length : Int))), .int .i64 (w64 ((w64 (2 * (d_Crossings.length : Int))) + 1)), .int .i64 a_, .int .i64 1].toArray) rfl rfl (fun _ => by kernel_rfl) rfl (GO.ps 4 rfl (GO.buildV (.agg [.int .i64 (w64 (2 * (d_Crossings.length : Int))), .int .i64 a_, .int .i64 (w64 ((w64 (2 * (d_Crossings.length : Int))) + 1)), .int .i64 (w64 (2 * (d_Crossings.length : Int))), .int .i64 (-1)].toArray) rfl rfl (fun _ => by kernel_rfl) rfl (GO.buildS (el := 61) ([.int .i64 a_, .int .i64 (w64 ((w64 (2 * (d_Crossings.length : Int))) + 1)), .int .i64 (w64 (2 * (d_Crossings.length : Int))), .int .i64 (w64 (2 * (d_Crossings.length : Int))), .int .i64 1, .int .i64 a_, .int .i64 (w64 (2 * (d_Crossings.length : Int))), .int .i64 (w64 (2 * (d_Crossings.length : Int))), .int .i64 (w64 ((w64 (2 * (d_Crossings.length : Int))) + 1)), .int .i64 (-1), .int .i64 (w64 (2 * (d_Crossings.length : Int))), .int .i64 (w64 (2 * (d_Crossings.length : Int))), .int .i64 (w64 ((w64 (2 * (d_Crossings.length : Int))) + 1)), .int .i64 a_, .int .i64 1, .int .i64 (w64 (2 * (d_Crossings.length : Int))), .int .i64 a_, .int .i64 (w64 ((w64 (2 * (d_Crossings.length : Int))) + 1)), .int .i64 (w64 (2 * (d_Crossings.length : Int))), .int .i64 (-1)]) HS rfl rfl (fun _ => by kernel_rfl) rfl fun b50 wd51 HS => GO.move rfl rfl rfl ?_)))))))))
      replace HS := HS.boxRow (T := T_GCrossing) (j := 0) rfl flat_flat (fun _ => ()) ([(⟨a_, w64 ((w64 (2 * (d_Crossings.length : Int))) + 1), w64 (2 * (d_Crossings.length : Int)), w64 (2 * (d_Crossings.length : Int)), 1⟩ : GCrossing), (⟨a_, w64 (2 * (d_Crossings.length : Int)), w64 (2 * (d_Crossings.length : Int)), w64 ((w64 (2 * (d_Crossings.length : Int))) + 1), (-1)⟩ : GCrossing), (⟨w64 (2 * (d_Crossings.length : Int)), w64 (2 * (d_Crossings.length : Int)), w64 ((w64 (2 * (d_Crossings.length : Int))) + 1), a_, 1⟩ : GCrossing), (⟨w64 (2 * (d_Crossings.length : Int)), a_, w64 ((w64 (2 * (d_Crossings.length : Int))) + 1), w64 (2 * (d_Crossings.length : Int)), (-1)⟩ : GCrossing)] : List GCrossing) rfl (bndL rfl)
      refine GO.lenC (t := 86) (m := ([(⟨a_, w64 ((w64 (2 * (d_Crossings.length : Int))) + 1), w64 (2 * (d_Crossings.length : Int)), w64 (2 * (d_Crossings.length : Int)), 1⟩ : GCrossing), (⟨a_, w64 (2 * (d_Crossings.length : Int)), w64 (2 * (d_Crossings.length : Int)), w64 ((w64 (2 * (d_Crossings.length : Int))) + 1), (-1)⟩ : GCrossing), (⟨w64 (2 * (d_Crossings.length : Int)), w64 (2 * (d_Crossings.length : Int)), w64 ((w64 (2 * (d_Crossings.length : Int))) + 1), a_, 1⟩ : GCrossing), (⟨w64 (2 * (d_Crossings.length : Int)), a_, w64 ((w64 (2 * (d_Crossings.length : Int))) + 1), w64 (2 * (d_Crossings.length : Int)), (-1)⟩ : GCrossing)] : List GCrossing).length) (c' := ([(⟨a_, w64 ((w64 (2 * (d_Crossings.length : Int))) + 1), w64 (2 * (d_Crossings.length : Int)), w64 (2 * (d_Crossings.length : Int)), 1⟩ : GCrossing), (⟨a_, w64 (2 * (d_Crossings.length : Int)), w64 (2 * (d_Crossings.length : Int)), w64 ((w64 (2 * (d_Crossings.length : Int))) + 1), (-1)⟩ : GCrossing), (⟨w64 (2 * (d_Crossings.length : Int)), w64 (2 * (d_Crossings.length : Int)), w64 ((w64 (2 * (d_Crossings.length : Int))) + 1), a_, 1⟩ : GCrossing), (⟨w64 (2 * (d_Crossings.length : Int)), a_, w64 ((w64 (2 * (d_Crossings.length : Int))) + 1), w64 (2 * (d_Crossings.length : Int)), (-1)⟩ : GCrossing)] : List GCrossing).length) rfl rfl rfl (GO.ix rfl rfl rfl underlying28 sz61 (fun _ => ⟨_, _, rfl⟩) c52.1 c52.2 rfl (GO.ldRdA (T := T_GCrossing) (n := v.toNat) HS (RdIn.own (j := 0) rfl) rfl rfl (getD_eq (ltN c52) h54) ag61 rfl (GO.alloc HS rfl zr61 rfl rfl fun b55 wd56 HS => GO.stBox (j := 0) (vs := [.int .i64 e53.A, .int .i64 e53.B, .int .i64 e53.C, .int .i64 e53.D, .int .i64 e53.Sign]) ([.int .i64 e53.A, .int .i64 e53.B, .int .i64 e53.C, .int .i64 e53.D, .int .i64 e53.Sign]) HS rfl rfl rfl rfl rfl (htA ag61) rfl rfl rfl fun wd57 HS => GO.nil (G.seq ?_))))
      obtain ⟨c63, H⟩ := ite_none H
      refine G.lexS mixed (fun w => St w0 w (Box b55 61 [.int .i64 e53.A, .int .i64 e53.B, .int .i64 e53.C, .int .i64 e53.D, .int .i64 e53.Sign] :: Box b1 30 [.slice A_a d_Crossings.length c_a, .int .i64 d_Circles] :: Box b28 30 [.slice A25 ((([] : List GCrossing) ++ d_Crossings).set t31.toNat (⟨t39, t40, t41, t42, t43⟩ : GCrossing)).length c26, .int .i64 d_Circles] :: L)) [1, 2, 6] [0, 5, 1, 2, 6, 3, 4, 7, 8, 9] 10 (by kernel_rfl) (by kernel_rfl) (HS.drew.pk 6 [0, 3, 5] rfl) ?_
      replace HS := HS.drew
      refine GX.l0 rfl rfl (fun _ _ g => GO.fld (⟨b28, 0, none⟩) rfl rfl fl30_0 rfl rfl g) rfl (GX.l0 rfl rfl (fun _ _ g => GO.fld (⟨b1, 1, none⟩) rfl rfl fl30_1 rfl rfl g) rfl (GX.ls rfl rfl rfl (HS.pk 6 [0, 3, 5] rfl) (fun _ HS _ g => GO.ldBox (j := 2) HS rfl rfl rfl rfl na28 rfl g) rfl (GX.ls rfl rfl rfl (HS.pk 6 [0, 3, 5] rfl) (fun _ HS _ g => GO.ldBoxA (j := 0) ([.int .i64 e53.A, .int .i64 e53.B, .int .i64 e53.C, .int .i64 e53.D, .int .i64 e53.Sign]) HS rfl rfl rfl rfl ag61 rfl g) rfl (GX.ls rfl rfl rfl (HS.pk 6 [0, 3, 5] rfl) (fun _ HS _ g => GO.ldBox (j := 1) HS rfl rfl rfl rfl na2 rfl g) rfl (GX.l2 rfl (GO.buildS (el := 61) ([.int .i64 e53.A, .int .i64 e53.B, .int .i64 e53.C, .int .i64 e53.D, .int .i64 e53.Sign]) HS rfl rfl (fun _ => by kernel_rfl) rfl fun b58 wd59 HS => GX.fin (HS.pk 7 [1, 4, 6] rfl) (GX.l2 rfl (GO.app1 (T := T_GCrossing) (j := 5) (jb := 0) (⟨e53.A, e53.B, e53.C, e53.D, e53.Sign⟩ : GCrossing) HS rfl rfl flat_flat rfl rfl rfl underlying28 inf61 rfl rfl rfl c63 rfl fun A61 c62 wd60 HS => GX.fin (HS.pk 7 [1, 4, 6] rfl) (GX.l0 rfl rfl (fun _ _ g => GO.buildV (.agg [.slice A61 (((([] : List GCrossing) ++ d_Crossings).set t31.toNat (⟨t39, t40, t41, t42, t43⟩ : GCrossing)) ++ [(⟨e53.A, e53.B, e53.C, e53.D, e53.Sign⟩ : GCrossing)]).length c62, .int .i64 d_Circles].toArray) rfl rfl (fun _ => by kernel_rfl) rfl g) rfl (GX.l2 rfl (GO.stBox (j := 3) (vs := [.slice A61 (((([] : List GCrossing) ++ d_Crossings).set t31.toNat (⟨t39, t40, t41, t42, t43⟩ : GCrossing)) ++ [(⟨e53.A, e53.B, e53.C, e53.D, e53.Sign⟩ : GCrossing)]).length c62, .int .i64 d_Circles]) ([.slice A61 (((([] : List GCrossing) ++ d_Crossings).set t31.toNat (⟨t39, t40, t41, t42, t43⟩ : GCrossing)) ++ [(⟨e53.A, e53.B, e53.C, e53.D, e53.Sign⟩ : GCrossing)]).length c62, .int .i64 d_Circles]) HS rfl rfl rfl rfl rfl (htA ag30) rfl rfl rfl fun wd64 HS => GX.fin (HS.pk 7 [1, 4, 6] rfl) ?_)))))))))))
      refine GX.ps 1 rfl (GX.nil ?_)
      obtain ⟨rfl, rfl, rfl⟩ := some3 H
      exact G.ret2 _ _ func31 rfl (Res1.boxA (j := 3) (vs := [.slice A61 (((([] : List GCrossing) ++ d_Crossings).set t31.toNat (⟨t39, t40, t41, t42, t43⟩ : GCrossing)) ++ [(⟨e53.A, e53.B, e53.C, e53.D, e53.Sign⟩ : GCrossing)]).length c62, .int .i64 d_Circles]) HS rfl rfl rfl ag30) rfl ⟨_, _, rfl, (HS.pk 7 [5] rfl)⟩
    refine G.yesB rfl (congrArg Bool.not (bnot_of c19)) (G.seq (G.region (GO.buildV (.agg [.slice none 0 0, .int .i64 0].toArray) rfl rfl (fun _ => by kernel_rfl) rfl (GO.stBox (j := 0) (vs := [.slice none 0 0, .int .i64 0]) ([.slice none 0 0, .int .i64 0]) HS rfl rfl rfl rfl rfl (htA ag30) rfl rfl rfl fun wd65 HS => GO.assign rfl rfl rfl (GO.nil ?_)))))
    replace HS := HS.nilRow T_GCrossing 61 (fun _ => ())
    obtain ⟨rfl, rfl, rfl⟩ := some3 H
    exact G.ret2 _ _ func31 rfl (Res1.boxA (j := 1) (vs := [.slice none 0 0, .int .i64 0]) HS rfl rfl rfl ag30) rfl ⟨_, _, rfl, (HS.pk 3 [0] rfl)⟩
   refine G.yesB rfl (congrArg Bool.not (bnot_of c14)) (G.seq (G.region (GO.buildV (.agg [.slice none 0 0, .int .i64 0].toArray) rfl rfl (fun _ => by kernel_rfl) rfl (GO.stBox (j := 0) (vs := [.slice none 0 0, .int .i64 0]) ([.slice none 0 0, .int .i64 0]) HS rfl rfl rfl rfl rfl (htA ag30) rfl rfl rfl fun wd66 HS => GO.assign rfl rfl rfl (GO.nil ?_)))))
   replace HS := HS.nilRow T_GCrossing 61 (fun _ => ())
   obtain ⟨rfl, rfl, rfl⟩ := some3 H
   exact G.ret2 _ _ func31 rfl (Res1.boxA (j := 1) (vs := [.slice none 0 0, .int .i64 0]) HS rfl rfl rfl ag30) rfl ⟨_, _, rfl, (HS.pk 3 [0] rfl)⟩
  refine G.yesB rfl (congrArg Bool.not (bnot_of c9)) (G.seq (G.region (GO.buildV (.agg [.slice none 0 0, .int .i64 0].toArray) rfl rfl (fun _ => by kernel_rfl) rfl (GO.stBox (j := 0) (vs := [.slice none 0 0, .int .i64 0]) ([.slice none 0 0, .int .i64 0]) HS rfl rfl rfl rfl rfl (htA ag30) rfl rfl rfl fun wd67 HS => GO.assign rfl rfl rfl (GO.nil ?_)))))
  replace HS := HS.nilRow T_GCrossing 61 (fun _ => ())
  obtain ⟨rfl, rfl, rfl⟩ := some3 H
  exact G.ret2 _ _ func31 rfl (Res1.boxA (j := 1) (vs := [.slice none 0 0, .int .i64 0]) HS rfl rfl rfl ag30) rfl ⟨_, _, rfl, (HS.pk 3 [0] rfl)⟩
theorem spec_l25Next.calls {w0 w : World} {L : List HObj} {K : Nat} {d_Crossings : List GCrossing} {d_Circles a_ : Int} {A_a : Option Addr} {c_a : Nat} {r1 : Int} (HS : St w0 w (L)) (r_a : RdIn w0 L T_GCrossing A_a c_a (fun _ => ()) d_Crossings) (H : spec_l25Next.f K d_Crossings d_Circles a_ = some r1) :
    Calls prog 84 #[.agg [.slice A_a d_Crossings.length c_a, .int .i64 d_Circles].toArray, .int .i64 a_] w (spec_l25Next.post w0 L r1) := by
  unfold spec_l25Next.f at H
  refine Calls.of_G func84 rfl rfl rfl ?_
  refine G.seq (G.region (GO.box (cs := [.slice A_a d_Crossings.length c_a, .int .i64 d_Circles]) HS rfl rfl rfl rfl fun b1 wd2 HS => GO.assign rfl rfl rfl (GO.nil (G.seq ?_))))
  obtain ⟨t3, t4, h5, H⟩ := bind2_elim H
  refine G.region (GO.ldBoxA (j := 0) ([.slice A_a d_Crossings.length c_a, .int .i64 d_Circles]) HS rfl rfl rfl rfl ag30 rfl (GO.move rfl rfl rfl (GO.fn rfl func49 fok49.1 fok49.2 rfl rfl (spec_l25Place.calls HS (RdIn.drop 1 r_a) h5) (fun _ wd6 ⟨h7, HS⟩ => ⟨_, h7, (GO.ps 5 rfl (GO.nil (G.seq ?_)))⟩))))
  obtain ⟨c8, H⟩ := ite_none H
  obtain ⟨e9, h10, H⟩ := bnd_elim H
  obtain ⟨t11, h12, H⟩ := Option.bind_eq_some_iff.1 H
  refine G.region (GO.fld (⟨b1, 0, none⟩) rfl rfl fl30_0 rfl rfl (GO.ldBox (j := 0) HS rfl rfl rfl rfl na28 rfl (GO.move rfl rfl rfl (GO.ix rfl rfl rfl underlying28 sz61 ((RdIn.drop 1 r_a) _ HS).2.2.1 c8.1 c8.2 rfl (GO.ldRdA (T := T_GCrossing) (n := t3.toNat) HS (RdIn.drop 1 r_a) rfl rfl (getD_eq (ltN c8) h10) ag61 rfl (GO.ps 2 rfl (GO.rem rfl rfl rfl (by decide) rfl (GO.fn rfl func45 fok45.1 fok45.2 rfl rfl (spec_l25End.calls HS  h12) (fun _ wd13 ⟨h14, HS⟩ => ⟨_, h14, (GO.assign rfl rfl rfl (GO.nil ?_))⟩)))))))))
  obtain rfl := Option.some.inj H
  exact G.ret1 _ func84 rfl rfl ⟨rfl, (HS.pk 1 [] rfl)⟩
theorem spec_l28Unite.calls {w0 w : World} {L : List HObj} {K : Nat} {t_Crossings : List GCrossing} {t_Circles : Int} {o : List Bool} {A : List Int} {A_a : Option Addr} {c_a : Nat} {A_b : Option Addr} {c_b : Nat} {A_c : Option Addr} {c_c : Nat} {r1 : List GCrossing} {r2 : Int} (HS : St w0 w (L)) (r_a : RdIn w0 L T_GCrossing A_a c_a (fun _ => ()) t_Crossings) (r_b : RdIn w0 L TBool A_b c_b (fun _ => ()) o) (r_c : RdIn w0 L (TInt .i64) A_c c_c (fun _ => ()) A) (H : spec_l28Unite.f K t_Crossings t_Circles o A = some (r1, r2)) :
    Calls prog 85 #[.agg [.slice A_a t_Crossings.length c_a, .int .i64 t_Circles].toArray, .slice A_b o.length c_b, .slice A_c A.length c_c] w (spec_l28Unite.post w0 L r1 r2) := by
  unfold spec_l28Unite.f at H
  refine Calls.of_G func85 rfl rfl rfl ?_
  refine G.seq (G.region (GO.box (cs := [.slice A_a t_Crossings.length c_a, .int .i64 t_Circles]) HS rfl rfl rfl rfl fun b1 wd2 HS => GO.alloc HS rfl zr30 rfl rfl fun b3 wd4 HS => GO.nil (G.seq (G.region (GO.fld (⟨b1, 1, none⟩) rfl rfl fl30_1 rfl rfl (GO.ldBox (j := 1) HS rfl rfl rfl rfl na2 rfl (GO.buildV (.agg [.slice none 0 0, .int .i64 t_Circles].toArray) rfl rfl (fun _ => by kernel_rfl) rfl (GO.alloc HS rfl zr30 rfl rfl fun b5 wd6 HS => GO.stBox (j := 0) (vs := [.slice none 0 0, .int .i64 t_Circles]) ([.slice none 0 0, .int .i64 t_Circles]) HS rfl rfl rfl rfl rfl (htA ag30) rfl rfl rfl fun wd7 HS => GO.nil (G.seq (G.region ?_))))))))))
  refine GO.fld (⟨b1, 0, none⟩) rfl rfl fl30_0 rfl rfl (GO.ldBox (j := 2) HS rfl rfl rfl rfl na28 rfl (GO.lenS rfl rfl underlying28 rfl (GO.ps 2 rfl (GO.nil (G.seq ?_)))))
  obtain ⟨c8, H⟩ := ite_none H
  obtain ⟨c9, H⟩ := ite_none H
  refine G.region (GO.move rfl rfl rfl (GO.make (T := (TInt .i64)) 0 () HS flat_flat rfl rfl rfl underlying74 inf2 rfl rfl rfl c8 c9 rfl fun b10 wd11 HS => GO.assign rfl rfl rfl (GO.nil (G.seq ?_))))
  obtain ⟨c12, H⟩ := ite_none H
  refine G.region (GO.move rfl rfl rfl (GO.make (T := TBool) false () HS flat_flat rfl rfl rfl underlying71 inf4 rfl rfl rfl c8 c12 rfl fun b13 wd14 HS => GO.assign rfl rfl rfl (GO.nil (G.run 7 rfl ?_))))
  refine G.name (fun k_l1 hk_l1 => ?_)
  have at_l1 : ∀ m_l1, m_l1 ≤ K → ∀ (x220 : List Int) (x221 : List Bool) (x222 x223 : Int) (w : World), spec_l28Unite.l1 K m_l1 t_Crossings t_Circles o A x220 x221 x222 x223 = some (r1, r2) → St w0 w (Box b1 30 [.slice A_a t_Crossings.length c_a, .int .i64 t_Circles] :: Box b3 30 [.slice none 0 0, .int .i64 0] :: Box b5 30 [.slice none 0 0, .int .i64 t_Circles] :: Own (TInt .i64) 2 (some ⟨b10, 0, none⟩) ((w64 (2 * (t_Crossings.length : Int))).toNat) (fun _ => ()) x220 :: Own TBool 4 (some ⟨b13, 0, none⟩) ((w64 (2 * (t_Crossings.length : Int))).toNat) (fun _ => ()) x221 :: L) → G prog 85 145 [(1, .slice A_b o.length c_b), (2, .slice A_c A.length c_c), (3, .pointer (some ⟨b1, 0, none⟩)), (6, .pointer (some ⟨b3, 0, none⟩)), (7, .pointer (some ⟨b5, 0, none⟩)), (8, .int .i64 (w64 (2 * (t_Crossings.length : Int)))), (9, .slice (some ⟨b10, 0, none⟩) x220.length ((w64 (2 * (t_Crossings.length : Int))).toNat)), (10, .slice (some ⟨b13, 0, none⟩) x221.length ((w64 (2 * (t_Crossings.length : Int))).toNat)), (11, .int .i64 x222), (12, .int .i64 x223)] k_l1 w (spec_l28Unite.post w0 L r1 r2) := by
   intro m_l1
   induction m_l1 using Nat.strongRecOn with
   | _ m_l1 ih_l1 =>
    intro hm_l1 x220 x221 x222 x223 w H HS
    cases m_l1 with
    | zero => rw [spec_l28Unite.l1] at H; cases H
    | succ n_l1 =>
     rw [spec_l28Unite.l1] at H
     subst hk_l1
     refine G.run 3 rfl ?_
     rcases ite_elim H with ⟨c559, H⟩ | ⟨c559, H⟩
     ·
      refine G.yesB rfl (decide_eq_true c559) (G.run 5 rfl ?_)
      obtain ⟨t560, t561, h562, H⟩ := bind2_elim H
      refine G.region (GO.ldBoxA (j := 0) ([.slice A_a t_Crossings.length c_a, .int .i64 t_Circles]) HS rfl rfl rfl rfl ag30 rfl (GO.move rfl rfl rfl (GO.fn rfl func49 fok49.1 fok49.2 rfl rfl (spec_l25Place.calls HS (RdIn.drop 5 r_a) h562) (fun _ wd563 ⟨h564, HS⟩ => ⟨_, h564, (GO.ps 5 rfl (GO.nil (G.seq ?_)))⟩))))
      obtain ⟨c565, H⟩ := ite_none H
      refine G.region (GO.ps 2 rfl (GO.ix rfl rfl rfl underlying71 sz4 ((RdIn.drop 5 r_b) _ HS).2.2.1 c565.1 c565.2 rfl (GO.ldRd (T := TBool) (n := t560.toNat) (o := 0) HS (RdIn.drop 5 r_b) rfl rfl (getD_some (d := false) (ltN c565)) rfl rfl na4 rfl (GO.nil ?_))))
      rcases ite_elim H with ⟨c566, H⟩ | ⟨c566, H⟩
      ·
       refine G.yesB rfl c566 (G.run 3 rfl (G.weak ?_ (ih_l1 n_l1 (Nat.lt_succ_of_le (Nat.le_refl _)) (Nat.le_of_succ_le hm_l1) _ _ _ _ _ H HS)))
       exact ⟨rfl, rfl, rfl, rfl, rfl, rfl, rfl, rfl, rfl, rfl, trivial⟩
      refine G.noB rfl (bnot_of c566) (G.run 6 rfl ?_)
      refine G.name (fun k_l14 hk_l14 => ?_)
      have at_l14 : ∀ m_l14, m_l14 ≤ n_l1 → ∀ (x579 : List Int) (x580 : List Bool) (x581 : Int) (w : World), spec_l28Unite.l14 K m_l14 t_Crossings t_Circles o A x222 x223 x579 x580 x581 = some (r1, r2) → St w0 w (Box b1 30 [.slice A_a t_Crossings.length c_a, .int .i64 t_Circles] :: Box b3 30 [.slice none 0 0, .int .i64 0] :: Box b5 30 [.slice none 0 0, .int .i64 t_Circles] :: Own (TInt .i64) 2 (some ⟨b10, 0, none⟩) ((w64 (2 * (t_Crossings.length : Int))).toNat) (fun _ => ()) x579 :: Own TBool 4 (some ⟨b13, 0, none⟩) ((w64 (2 * (t_Crossings.length : Int))).toNat) (fun _ => ()) x580 :: L) → G prog 85 145 [(1, .slice A_b o.length c_b), (2, .slice A_c A.length c_c), (3, .pointer (some ⟨b1, 0, none⟩)), (6, .pointer (some ⟨b3, 0, none⟩)), (7, .pointer (some ⟨b5, 0, none⟩)), (8, .int .i64 (w64 (2 * (t_Crossings.length : Int)))), (9, .slice (some ⟨b10, 0, none⟩) x579.length ((w64 (2 * (t_Crossings.length : Int))).toNat)), (10, .slice (some ⟨b13, 0, none⟩) x580.length ((w64 (2 * (t_Crossings.length : Int))).toNat)), (11, .int .i64 x222), (12, .int .i64 x223), (15, .int .i64 x581)] k_l14 w (spec_l28Unite.post w0 L r1 r2) := by
       intro m_l14
       induction m_l14 using Nat.strongRecOn with
       | _ m_l14 ih_l14 =>
        intro hm_l14 x579 x580 x581 w H HS
        cases m_l14 with
        | zero => rw [spec_l28Unite.l14] at H; cases H
        | succ n_l14 =>
         rw [spec_l28Unite.l14] at H
         subst hk_l14
         refine G.run 3 rfl ?_
         obtain ⟨c594, H⟩ := ite_none H
         refine G.region (GO.ps 2 rfl (GO.ix rfl rfl rfl underlying71 sz4 (fun _ => ⟨_, _, rfl⟩) c594.1 c594.2 rfl (GO.stRow (T := TBool) (j := 4) (n := x581.toNat) (o := 0) (vs := [.bool true]) true HS rfl flat_flat rfl rfl rfl rfl (htN na4 rfl) rfl (getD_some (d := false) (ltN c594)) rfl rfl fun wd595 HS => GO.nil (G.len (t := 10) (m := (x580.set x581.toNat true).length) rfl (by simp only [List.length_set] <;> rfl) (G.seq ?_)))))
         obtain ⟨c596, H⟩ := ite_none H
         refine G.region (GO.ps 3 rfl (GO.ix rfl rfl rfl underlying74 sz2 (fun _ => ⟨_, _, rfl⟩) c596.1 c596.2 rfl (GO.stRow (T := (TInt .i64)) (j := 3) (n := x581.toNat) (o := 0) (vs := [.int .i64 x222]) x222 HS rfl flat_flat rfl rfl rfl rfl (htN na2 rfl) rfl (getD_some (d := 0) (ltN c596)) rfl rfl fun wd597 HS => GO.nil (G.len (t := 9) (m := (x579.set x581.toNat x222).length) rfl (by simp only [List.length_set] <;> rfl) (G.seq ?_)))))
         obtain ⟨t598, t599, h600, H⟩ := bind2_elim H
         refine G.region (GO.ldBoxA (j := 0) ([.slice A_a t_Crossings.length c_a, .int .i64 t_Circles]) HS rfl rfl rfl rfl ag30 rfl (GO.move rfl rfl rfl (GO.fn rfl func49 fok49.1 fok49.2 rfl rfl (spec_l25Place.calls HS (RdIn.drop 5 r_a) h600) (fun _ wd601 ⟨h602, HS⟩ => ⟨_, h602, (GO.ps 5 rfl (GO.nil (G.seq ?_)))⟩))))
         obtain ⟨c603, H⟩ := ite_none H
         refine G.region (GO.ps 2 rfl (GO.ix rfl rfl rfl underlying71 sz4 ((RdIn.drop 5 r_b) _ HS).2.2.1 c603.1 c603.2 rfl (GO.ldRd (T := TBool) (n := t598.toNat) (o := 0) HS (RdIn.drop 5 r_b) rfl rfl (getD_some (d := false) (ltN c603)) rfl rfl na4 rfl (GO.not rfl rfl rfl (GO.nil ?_)))))
         rcases ite_elim H with ⟨c604, H⟩ | ⟨c604, H⟩
         ·
          refine G.noB rfl (congrArg Bool.not c604) (G.run 2 rfl ?_)
          obtain ⟨c605, H⟩ := ite_none H
          refine G.region (GO.ps 2 rfl (GO.ix rfl rfl rfl underlying74 sz2 ((RdIn.drop 5 r_c) _ HS).2.2.1 c605.1 c605.2 rfl (GO.ldRd (T := (TInt .i64)) (n := x581.toNat) (o := 0) HS (RdIn.drop 5 r_c) rfl rfl (getD_some (d := 0) (ltN c605)) rfl rfl na2 rfl (GO.assign rfl rfl rfl (GO.nil (G.again (G.weak ?_ (ih_l14 n_l14 (Nat.lt_succ_of_le (Nat.le_refl _)) (Nat.le_of_succ_le hm_l14) _ _ _ _ H HS))))))))
          exact ⟨rfl, rfl, rfl, rfl, rfl, rfl, rfl, rfl, rfl, rfl, rfl, trivial⟩
         refine G.yesB rfl (congrArg Bool.not (bnot_of c604)) (G.run 5 rfl (G.weak ?_ (ih_l1 n_l14 (by omega) (by omega) _ _ _ _ _ H HS)))
         exact ⟨rfl, rfl, rfl, rfl, rfl, rfl, rfl, rfl, rfl, rfl, trivial⟩
      refine G.weak ?_ (at_l14 n_l1 (Nat.le_refl _) _ _ _ _ H HS)
      exact ⟨rfl, rfl, rfl, rfl, rfl, rfl, rfl, rfl, rfl, rfl, rfl, trivial⟩
     refine G.noB rfl (decide_eq_false c559) (G.run 6 rfl ?_)
     refine G.name (fun k_l15 hk_l15 => ?_)
     have at_l15 : ∀ m_l15, m_l15 ≤ n_l1 → ∀ (x701 : Int) (x702 : List Bool) (x703 : Int) (w : World), spec_l28Unite.l15 K m_l15 t_Crossings o A x220 x701 x702 x703 = some (r1, r2) → St w0 w (Box b1 30 [.slice A_a t_Crossings.length c_a, .int .i64 t_Circles] :: Box b3 30 [.slice none 0 0, .int .i64 0] :: Box b5 30 [.slice none 0 0, .int .i64 x701] :: Own (TInt .i64) 2 (some ⟨b10, 0, none⟩) ((w64 (2 * (t_Crossings.length : Int))).toNat) (fun _ => ()) x220 :: Own TBool 4 (some ⟨b13, 0, none⟩) ((w64 (2 * (t_Crossings.length : Int))).toNat) (fun _ => ()) x702 :: L) → G prog 85 145 [(1, .slice A_b o.length c_b), (2, .slice A_c A.length c_c), (3, .pointer (some ⟨b1, 0, none⟩)), (6, .pointer (some ⟨b3, 0, none⟩)), (7, .pointer (some ⟨b5, 0, none⟩)), (8, .int .i64 (w64 (2 * (t_Crossings.length : Int)))), (9, .slice (some ⟨b10, 0, none⟩) x220.length ((w64 (2 * (t_Crossings.length : Int))).toNat)), (10, .slice (some ⟨b13, 0, none⟩) x702.length ((w64 (2 * (t_Crossings.length : Int))).toNat)), (18, .int .i64 x703)] k_l15 w (spec_l28Unite.post w0 L r1 r2) := by
      intro m_l15
      induction m_l15 using Nat.strongRecOn with
      | _ m_l15 ih_l15 =>
       intro hm_l15 x701 x702 x703 w H HS
       cases m_l15 with
       | zero => rw [spec_l28Unite.l15] at H; cases H
       | succ n_l15 =>
        rw [spec_l28Unite.l15] at H
        subst hk_l15
        refine G.run 3 rfl ?_
        rcases ite_elim H with ⟨c799, H⟩ | ⟨c799, H⟩
        ·
         refine G.yesB rfl (decide_eq_true c799) (G.run 5 rfl ?_)
         obtain ⟨c800, H⟩ := ite_none H
         refine G.region (GO.ps 2 rfl (GO.ix rfl rfl rfl underlying71 sz4 (fun _ => ⟨_, _, rfl⟩) c800.1 c800.2 rfl (GO.ldRd (T := TBool) (n := x703.toNat) (o := 0) HS (RdIn.own (j := 4) rfl) rfl rfl (getD_some (d := false) (ltN c800)) rfl rfl na4 rfl (GO.nil ?_))))
         rcases ite_elim H with ⟨c801, H⟩ | ⟨c801, H⟩
         ·
          refine G.yesB rfl c801 (G.run 3 rfl (G.weak ?_ (ih_l15 n_l15 (Nat.lt_succ_of_le (Nat.le_refl _)) (Nat.le_of_succ_le hm_l15) _ _ _ _ H HS)))
          exact ⟨rfl, rfl, rfl, rfl, rfl, rfl, rfl, rfl, rfl, trivial⟩
         refine G.noB rfl (bnot_of c801) (G.run 2 rfl (G.region (GO.fld (⟨b5, 1, none⟩) rfl rfl fl30_1 rfl rfl (GO.ldBox (j := 2) HS rfl rfl rfl rfl na2 rfl (GO.add rfl rfl rfl rfl (GO.fld (⟨b5, 1, none⟩) rfl rfl fl30_1 rfl rfl (GO.stBox (j := 2) (vs := [.int .i64 (w64 (x701 + 1))]) ([.slice none 0 0, .int .i64 (w64 (x701 + 1))]) HS rfl rfl rfl rfl rfl (htN na2 rfl) rfl rfl rfl fun wd802 HS => GO.nil (G.run 4 rfl ?_))))))))
         refine G.name (fun k_l20 hk_l20 => ?_)
         have at_l20 : ∀ m_l20, m_l20 ≤ n_l15 → ∀ (x805 : List Bool) (x806 : Int) (w : World), spec_l28Unite.l20 K m_l20 t_Crossings o A x220 x701 x703 x805 x806 = some (r1, r2) → St w0 w (Box b1 30 [.slice A_a t_Crossings.length c_a, .int .i64 t_Circles] :: Box b3 30 [.slice none 0 0, .int .i64 0] :: Box b5 30 [.slice none 0 0, .int .i64 (w64 (x701 + 1))] :: Own (TInt .i64) 2 (some ⟨b10, 0, none⟩) ((w64 (2 * (t_Crossings.length : Int))).toNat) (fun _ => ()) x220 :: Own TBool 4 (some ⟨b13, 0, none⟩) ((w64 (2 * (t_Crossings.length : Int))).toNat) (fun _ => ()) x805 :: L) → G prog 85 145 [(1, .slice A_b o.length c_b), (2, .slice A_c A.length c_c), (3, .pointer (some ⟨b1, 0, none⟩)), (6, .pointer (some ⟨b3, 0, none⟩)), (7, .pointer (some ⟨b5, 0, none⟩)), (8, .int .i64 (w64 (2 * (t_Crossings.length : Int)))), (9, .slice (some ⟨b10, 0, none⟩) x220.length ((w64 (2 * (t_Crossings.length : Int))).toNat)), (10, .slice (some ⟨b13, 0, none⟩) x805.length ((w64 (2 * (t_Crossings.length : Int))).toNat)), (18, .int .i64 x703), (19, .int .i64 x806)] k_l20 w (spec_l28Unite.post w0 L r1 r2) := by
          intro m_l20
          induction m_l20 using Nat.strongRecOn with
          | _ m_l20 ih_l20 =>
           intro hm_l20 x805 x806 w H HS
           cases m_l20 with
           | zero => rw [spec_l28Unite.l20] at H; cases H
           | succ n_l20 =>
            rw [spec_l28Unite.l20] at H
            subst hk_l20
            refine G.run 2 rfl ?_
            obtain ⟨c811, H⟩ := ite_none H
            refine G.region (GO.ps 2 rfl (GO.ix rfl rfl rfl underlying71 sz4 (fun _ => ⟨_, _, rfl⟩) c811.1 c811.2 rfl (GO.ldRd (T := TBool) (n := x806.toNat) (o := 0) HS (RdIn.own (j := 4) rfl) rfl rfl (getD_some (d := false) (ltN c811)) rfl rfl na4 rfl (GO.not rfl rfl rfl (GO.nil ?_)))))
            rcases ite_elim H with ⟨c812, H⟩ | ⟨c812, H⟩
            ·
             refine G.noB rfl (congrArg Bool.not c812) (G.run 4 rfl (G.weak ?_ (ih_l15 n_l20 (by omega) (by omega) _ _ _ _ H HS)))
             exact ⟨rfl, rfl, rfl, rfl, rfl, rfl, rfl, rfl, rfl, trivial⟩
            refine G.yesB rfl (congrArg Bool.not (bnot_of c812)) (G.run 3 rfl (G.region (GO.ps 2 rfl (GO.ix rfl rfl rfl underlying71 sz4 (fun _ => ⟨_, _, rfl⟩) c811.1 c811.2 rfl (GO.stRow (T := TBool) (j := 4) (n := x806.toNat) (o := 0) (vs := [.bool true]) true HS rfl flat_flat rfl rfl rfl rfl (htN na4 rfl) rfl (getD_some (d := false) (ltN c811)) rfl rfl fun wd813 HS => GO.nil (G.len (t := 10) (m := (x805.set x806.toNat true).length) rfl (by simp only [List.length_set] <;> rfl) (G.blockEnd ?_)))))))
            obtain ⟨c814, H⟩ := ite_none H
            refine G.region (GO.ps 2 rfl (GO.ix rfl rfl rfl underlying74 sz2 ((RdIn.drop 5 r_c) _ HS).2.2.1 c814.1 c814.2 rfl (GO.ldRd (T := (TInt .i64)) (n := x806.toNat) (o := 0) HS (RdIn.drop 5 r_c) rfl rfl (getD_some (d := 0) (ltN c814)) rfl rfl na2 rfl (GO.assign rfl rfl rfl (GO.nil (G.again (G.weak ?_ (ih_l20 n_l20 (Nat.lt_succ_of_le (Nat.le_refl _)) (Nat.le_of_succ_le hm_l20) _ _ _ H HS))))))))
            exact ⟨rfl, rfl, rfl, rfl, rfl, rfl, rfl, rfl, rfl, rfl, trivial⟩
         refine G.weak ?_ (at_l20 n_l15 (Nat.le_refl _) _ _ _ H HS)
         exact ⟨rfl, rfl, rfl, rfl, rfl, rfl, rfl, rfl, rfl, rfl, trivial⟩
        refine G.noB rfl (decide_eq_false c799) (G.run 6 rfl ?_)
        refine G.name (fun k_l21 hk_l21 => ?_)
        have at_l21 : ∀ m_l21, m_l21 ≤ n_l15 → ∀ (A840 : Option Addr) (c841 : Nat) (x842 : List GCrossing) (x843 : Int) (w : World), spec_l28Unite.l21 K m_l21 t_Crossings o x220 x701 x842 x843 = some (r1, r2) → St w0 w (Box b1 30 [.slice A_a t_Crossings.length c_a, .int .i64 t_Circles] :: Box b3 30 [.slice none 0 0, .int .i64 0] :: Box b5 30 [.slice A840 x842.length c841, .int .i64 x701] :: Own T_GCrossing 61 A840 c841 (fun _ => ()) x842 :: Own (TInt .i64) 2 (some ⟨b10, 0, none⟩) ((w64 (2 * (t_Crossings.length : Int))).toNat) (fun _ => ()) x220 :: L) → G prog 85 145 [(1, .slice A_b o.length c_b), (3, .pointer (some ⟨b1, 0, none⟩)), (6, .pointer (some ⟨b3, 0, none⟩)), (7, .pointer (some ⟨b5, 0, none⟩)), (9, .slice (some ⟨b10, 0, none⟩) x220.length ((w64 (2 * (t_Crossings.length : Int))).toNat)), (20, .int .i64 x843)] k_l21 w (spec_l28Unite.post w0 L r1 r2) := by
         intro m_l21
         induction m_l21 using Nat.strongRecOn with
         | _ m_l21 ih_l21 =>
          intro hm_l21 A840 c841 x842 x843 w H HS
          cases m_l21 with
          | zero => rw [spec_l28Unite.l21] at H; cases H
          | succ n_l21 =>
           rw [spec_l28Unite.l21] at H
           subst hk_l21
           refine G.run 2 rfl (G.region (GO.move rfl rfl rfl (GO.fld (⟨b1, 0, none⟩) rfl rfl fl30_0 rfl rfl (GO.ldBox (j := 0) HS rfl rfl rfl rfl na28 rfl (GO.lenS rfl rfl underlying28 rfl (GO.lss rfl rfl rfl rfl (GO.nil ?_)))))))
           rcases ite_elim H with ⟨c869, H⟩ | ⟨c869, H⟩
           ·
            refine G.yesB rfl (decide_eq_true c869) (G.run 4 rfl ?_)
            obtain ⟨c870, H⟩ := ite_none H
            obtain ⟨e871, h872, H⟩ := bnd_elim H
            refine G.region (GO.fld (⟨b1, 0, none⟩) rfl rfl fl30_0 rfl rfl (GO.ldBox (j := 0) HS rfl rfl rfl rfl na28 rfl (GO.move rfl rfl rfl (GO.ix rfl rfl rfl underlying28 sz61 ((RdIn.drop 5 r_a) _ HS).2.2.1 c870.1 c870.2 rfl (GO.ldRdA (T := T_GCrossing) (n := x843.toNat) HS (RdIn.drop 5 r_a) rfl rfl (getD_eq (ltN c870) h872) ag61 rfl (GO.alloc HS rfl zr61 rfl rfl fun b873 wd874 HS => GO.stBox (j := 0) (vs := [.int .i64 e871.A, .int .i64 e871.B, .int .i64 e871.C, .int .i64 e871.D, .int .i64 e871.Sign]) ([.int .i64 e871.A, .int .i64 e871.B, .int .i64 e871.C, .int .i64 e871.D, .int .i64 e871.Sign]) HS rfl rfl rfl rfl rfl (htA ag61) rfl rfl rfl fun wd875 HS => GO.nil (G.seq ?_)))))))
            obtain ⟨c876, H⟩ := ite_none H
            refine G.region (GO.ps 2 rfl (GO.ix rfl rfl rfl underlying71 sz4 ((RdIn.drop 6 r_b) _ HS).2.2.1 c876.1 c876.2 rfl (GO.ldRd (T := TBool) (n := x843.toNat) (o := 0) HS (RdIn.drop 6 r_b) rfl rfl (getD_some (d := false) (ltN c876)) rfl rfl na4 rfl (GO.not rfl rfl rfl (GO.nil ?_)))))
            rcases ite_elim H with ⟨c877, H⟩ | ⟨c877, H⟩
            ·
             refine G.noB rfl (congrArg Bool.not c877) (G.run 4 rfl (G.weak ?_ (ih_l21 n_l21 (Nat.lt_succ_of_le (Nat.le_refl _)) (Nat.le_of_succ_le hm_l21) _ _ _ _ _ H (HS.pk 6 [1, 2, 3, 4, 5] rfl))))
             exact ⟨rfl, rfl, rfl, rfl, rfl, rfl, trivial⟩
            refine G.yesB rfl (congrArg Bool.not (bnot_of c877)) ?_
            obtain ⟨c878, H⟩ := ite_none H
            have h879 := ((RdIn.own (j := 5) rfl) _ HS).2.2.1
            obtain ⟨c880, H⟩ := ite_none H
            have h881 := ((RdIn.own (j := 5) rfl) _ HS).2.2.1
            obtain ⟨c882, H⟩ := ite_none H
            have h883 := ((RdIn.own (j := 5) rfl) _ HS).2.2.1
            obtain ⟨c884, H⟩ := ite_none H
            have h885 := ((RdIn.own (j := 5) rfl) _ HS).2.2.1
            obtain ⟨c891, H⟩ := ite_none H
            refine G.lexS mixed (fun w => St w0 w (Box b873 61 [.int .i64 e871.A, .int .i64 e871.B, .int .i64 e871.C, .int .i64 e871.D, .int .i64 e871.Sign] :: Box b5 30 [.slice A840 x842.length c841, .int .i64 x701] :: Own (TInt .i64) 2 (some ⟨b10, 0, none⟩) ((w64 (2 * (t_Crossings.length : Int))).toNat) (fun _ => ()) x220 :: L)) [1, 4, 6, 9, 11, 14, 16, 19, 21, 23] [0, 2, 3, 7, 8, 12, 13, 17, 18, 22, 1, 4, 5, 6, 9, 10, 11, 14, 15, 16, 19, 20, 21, 23, 24, 25, 26, 27, 28] 28 (by kernel_rfl) (by kernel_rfl) (HS.drew.pk 6 [0, 3, 5] rfl) ?_
            replace HS := HS.drew
            refine GX.l0 rfl rfl (fun _ _ g => GO.fld (⟨b5, 0, none⟩) rfl rfl fl30_0 rfl rfl g) rfl (GX.ps 1 rfl (GX.l0 rfl rfl (fun _ _ g => GO.fld (⟨b873, 0, none⟩) rfl rfl fl61_0 rfl rfl g) rfl (GX.ps 1 rfl (GX.l0 rfl rfl (fun _ _ g => GO.fld (⟨b873, 1, none⟩) rfl rfl fl61_1 rfl rfl g) rfl (GX.ps 1 rfl (GX.l0 rfl rfl (fun _ _ g => GO.fld (⟨b873, 2, none⟩) rfl rfl fl61_2 rfl rfl g) rfl (GX.ps 1 rfl (GX.l0 rfl rfl (fun _ _ g => GO.fld (⟨b873, 3, none⟩) rfl rfl fl61_3 rfl rfl g) rfl (GX.l0 rfl rfl (fun _ _ g => GO.fld (⟨b873, 4, none⟩) rfl rfl fl61_4 rfl rfl g) rfl (GX.ls rfl rfl rfl (HS.pk 6 [0, 3, 5] rfl) (fun _ HS _ g => GO.ldBox (j := 1) HS rfl rfl rfl rfl na28 rfl g) rfl (GX.ls rfl rfl rfl (HS.pk 6 [0, 3, 5] rfl) (fun _ HS _ g => GO.ldBox (j := 0) HS rfl rfl rfl rfl na2 rfl g) rfl (GX.l0 rfl rfl (fun _ _ g => GO.ix rfl rfl rfl underlying74 sz2 h879 c878.1 c878.2 rfl g) rfl (GX.ls rfl rfl rfl (HS.pk 6 [0, 3, 5] rfl) (fun _ HS _ g => GO.ldRd (T := (TInt .i64)) (n := e871.A.toNat) (o := 0) HS (RdIn.own (j := 2) rfl) rfl rfl (getD_some (d := 0) (ltN c878)) rfl rfl na2 rfl g) rfl (GX.ls rfl rfl rfl (HS.pk 6 [0, 3, 5] rfl) (fun _ HS _ g => GO.ldBox (j := 0) HS rfl rfl rfl rfl na2 rfl g) rfl ?_))))))))))))))
            refine GX.l0 rfl rfl (fun _ _ g => GO.ix rfl rfl rfl underlying74 sz2 h881 c880.1 c880.2 rfl g) rfl (GX.ls rfl rfl rfl (HS.pk 6 [0, 3, 5] rfl) (fun _ HS _ g => GO.ldRd (T := (TInt .i64)) (n := e871.B.toNat) (o := 0) HS (RdIn.own (j := 2) rfl) rfl rfl (getD_some (d := 0) (ltN c880)) rfl rfl na2 rfl g) rfl (GX.ls rfl rfl rfl (HS.pk 6 [0, 3, 5] rfl) (fun _ HS _ g => GO.ldBox (j := 0) HS rfl rfl rfl rfl na2 rfl g) rfl (GX.l0 rfl rfl (fun _ _ g => GO.ix rfl rfl rfl underlying74 sz2 h883 c882.1 c882.2 rfl g) rfl (GX.ls rfl rfl rfl (HS.pk 6 [0, 3, 5] rfl) (fun _ HS _ g => GO.ldRd (T := (TInt .i64)) (n := e871.C.toNat) (o := 0) HS (RdIn.own (j := 2) rfl) rfl rfl (getD_some (d := 0) (ltN c882)) rfl rfl na2 rfl g) rfl (GX.ls rfl rfl rfl (HS.pk 6 [0, 3, 5] rfl) (fun _ HS _ g => GO.ldBox (j := 0) HS rfl rfl rfl rfl na2 rfl g) rfl (GX.l0 rfl rfl (fun _ _ g => GO.ix rfl rfl rfl underlying74 sz2 h885 c884.1 c884.2 rfl g) rfl (GX.ls rfl rfl rfl (HS.pk 6 [0, 3, 5] rfl) (fun _ HS _ g => GO.ldRd (T := (TInt .i64)) (n := e871.D.toNat) (o := 0) HS (RdIn.own (j := 2) rfl) rfl rfl (getD_some (d := 0) (ltN c884)) rfl rfl na2 rfl g) rfl (GX.ls rfl rfl rfl (HS.pk 6 [0, 3, 5] rfl) (fun _ HS _ g => GO.ldBox (j := 0) HS rfl rfl rfl rfl na2 rfl g) rfl (GX.l0 rfl rfl (fun _ _ g => GO.buildV (.agg [.int .i64 (x220.getD e871.A.toNat 0), .int .i64 (x220.getD e871.B.toNat 0), .int .i64 (x220.getD e871.C.toNat 0), .int .i64 (x220.getD e871.D.toNat 0), .int .i64 e871.Sign].toArray) rfl rfl (fun _ => by kernel_rfl) rfl g) rfl (GX.l2 rfl (GO.buildS (el := 61) ([.int .i64 (x220.getD e871.A.toNat 0), .int .i64 (x220.getD e871.B.toNat 0), .int .i64 (x220.getD e871.C.toNat 0), .int .i64 (x220.getD e871.D.toNat 0), .int .i64 e871.Sign]) HS rfl rfl (fun _ => by kernel_rfl) rfl fun b886 wd887 HS => GX.fin (HS.pk 7 [1, 4, 6] rfl) (GX.l2 rfl (GO.app1 (T := T_GCrossing) (j := 5) (jb := 0) (⟨x220.getD e871.A.toNat 0, x220.getD e871.B.toNat 0, x220.getD e871.C.toNat 0, x220.getD e871.D.toNat 0, e871.Sign⟩ : GCrossing) HS rfl rfl flat_flat rfl rfl rfl underlying28 inf61 rfl rfl rfl c891 rfl fun A889 c890 wd888 HS => ?_)))))))))))))
            refine GX.fin (HS.pk 7 [1, 4, 6] rfl) (GX.l0 rfl rfl (fun _ _ g => GO.fld (⟨b5, 0, none⟩) rfl rfl fl30_0 rfl rfl g) rfl (GX.l2 rfl (GO.stBox (j := 4) (vs := [.slice A889 (x842 ++ [(⟨x220.getD e871.A.toNat 0, x220.getD e871.B.toNat 0, x220.getD e871.C.toNat 0, x220.getD e871.D.toNat 0, e871.Sign⟩ : GCrossing)]).length c890]) ([.slice A889 (x842 ++ [(⟨x220.getD e871.A.toNat 0, x220.getD e871.B.toNat 0, x220.getD e871.C.toNat 0, x220.getD e871.D.toNat 0, e871.Sign⟩ : GCrossing)]).length c890, .int .i64 x701]) HS rfl rfl rfl rfl rfl (htN na28 rfl) rfl rfl rfl fun wd892 HS => GX.finZ (GX.nil (G.run 3 rfl (G.weak ?_ (ih_l21 n_l21 (Nat.lt_succ_of_le (Nat.le_refl _)) (Nat.le_of_succ_le hm_l21) _ _ _ _ _ H (HS.pk 7 [2, 3, 4, 5, 6] rfl))))))))
            exact ⟨rfl, rfl, rfl, rfl, rfl, rfl, trivial⟩
           refine G.noB rfl (decide_eq_false c869) (G.run 2 rfl (G.region (GO.ldBoxA (j := 2) ([.slice A840 x842.length c841, .int .i64 x701]) HS rfl rfl rfl rfl ag30 rfl (GO.stBox (j := 1) (vs := [.slice A840 x842.length c841, .int .i64 x701]) ([.slice A840 x842.length c841, .int .i64 x701]) HS rfl rfl rfl rfl rfl (htA ag30) rfl rfl rfl fun wd893 HS => GO.nil ?_))))
           obtain ⟨rfl, rfl⟩ := some2 H
           exact G.ret1 _ func85 rfl (Res1.boxA (j := 1) (vs := [.slice A840 x842.length c841, .int .i64 x701]) HS rfl rfl rfl ag30) ⟨_, _, rfl, (HS.pk 5 [3] rfl)⟩
        replace HS := HS.nilRow T_GCrossing 61 (fun _ => ())
        refine G.weak ?_ (at_l21 n_l15 (Nat.le_refl _) _ _ _ _ _ H (HS.pk 6 [1, 2, 3, 0, 4] rfl))
        exact ⟨rfl, rfl, rfl, rfl, rfl, rfl, trivial⟩
     refine G.weak ?_ (at_l15 n_l1 (Nat.le_refl _) _ _ _ _ H HS)
     exact ⟨rfl, rfl, rfl, rfl, rfl, rfl, rfl, rfl, rfl, trivial⟩
  refine G.weak ?_ (at_l1 K (Nat.le_refl _) _ _ _ _ _ H (HS.pk 5 [4, 3, 2, 1, 0] rfl))
  exact ⟨rfl, rfl, rfl, rfl, rfl, rfl, rfl, rfl, rfl, rfl, trivial⟩
theorem spec_l27Remove.calls {w0 w : World} {L : List HObj} {K : Nat} {d_Crossings : List GCrossing} {d_Circles : Int} {gone : List Bool} {A_a : Option Addr} {c_a : Nat} {A_b : Option Addr} {c_b : Nat} {r1 : List GCrossing} {r2 r3 : Int} (HS : St w0 w (L)) (r_a : RdIn w0 L T_GCrossing A_a c_a (fun _ => ()) d_Crossings) (r_b : RdIn w0 L TBool A_b c_b (fun _ => ()) gone) (H : spec_l27Remove.f K d_Crossings d_Circles gone = some (r1, r2, r3)) :
    Calls prog 51 #[.agg [.slice A_a d_Crossings.length c_a, .int .i64 d_Circles].toArray, .slice A_b gone.length c_b] w (spec_l27Remove.post w0 L r1 r2 r3) := by
  unfold spec_l27Remove.f at H
  refine Calls.of_G func51 rfl rfl rfl ?_
  refine G.seq (G.region (GO.box (cs := [.slice A_a d_Crossings.length c_a, .int .i64 d_Circles]) HS rfl rfl rfl rfl fun b1 wd2 HS => GO.alloc HS rfl zr30 rfl rfl fun b3 wd4 HS => GO.assign rfl rfl rfl (GO.nil (G.seq (G.region (GO.buildS (el := 2) ([]) HS rfl rfl (fun _ => by kernel_rfl) rfl fun b5 wd6 HS => ?_))))))
  replace HS := HS.boxRow (T := (TInt .i64)) (j := 0) rfl flat_flat (fun _ => ()) ([] : List Int) rfl (bndL rfl)
  refine GO.lenC (t := 9) (m := ([] : List Int).length) (c' := ([] : List Int).length) rfl rfl rfl (GO.assign rfl rfl rfl (GO.nil (G.run 5 rfl ?_)))
  refine G.name (fun k_l1 hk_l1 => ?_)
  have at_l1 : ∀ m_l1, m_l1 ≤ K → ∀ (A31 : Option Addr) (c32 : Nat) (next_33 : List Int) (a_34 : Int) (w : World), spec_l27Remove.l1 K m_l1 d_Crossings d_Circles gone next_33 a_34 = some (r1, r2, r3) → St w0 w (Box b1 30 [.slice A_a d_Crossings.length c_a, .int .i64 d_Circles] :: Box b3 30 [.slice none 0 0, .int .i64 0] :: Own (TInt .i64) 2 A31 c32 (fun _ => ()) next_33 :: L) → G prog 51 33 [(1, .slice A_b gone.length c_b), (2, .pointer (some ⟨b1, 0, none⟩)), (4, .pointer (some ⟨b3, 0, none⟩)), (6, .slice A31 next_33.length c32), (7, .int .i64 a_34)] k_l1 w (spec_l27Remove.post w0 L r1 r2 r3) := by
   intro m_l1
   induction m_l1 using Nat.strongRecOn with
   | _ m_l1 ih_l1 =>
    intro hm_l1 A31 c32 next_33 a_34 w H HS
    cases m_l1 with
    | zero => rw [spec_l27Remove.l1] at H; cases H
    | succ n_l1 =>
     rw [spec_l27Remove.l1] at H
     subst hk_l1
     refine G.run 2 rfl (G.region (GO.move rfl rfl rfl (GO.fld (⟨b1, 0, none⟩) rfl rfl fl30_0 rfl rfl (GO.ldBox (j := 0) HS rfl rfl rfl rfl na28 rfl (GO.lenS rfl rfl underlying28 rfl (GO.ps 2 rfl (GO.nil ?_)))))))
     rcases ite_elim H with ⟨c59, H⟩ | ⟨c59, H⟩
     ·
      refine G.yesB rfl (decide_eq_true c59) (G.run 3 rfl ?_)
      obtain ⟨t60, h61, H⟩ := Option.bind_eq_some_iff.1 H
      obtain ⟨c69, H⟩ := ite_none H
      refine G.region (GO.move rfl rfl rfl (GO.ldBoxA (j := 0) ([.slice A_a d_Crossings.length c_a, .int .i64 d_Circles]) HS rfl rfl rfl rfl ag30 rfl (GO.move rfl rfl rfl (GO.fn rfl func84 fok84.1 fok84.2 rfl rfl (spec_l25Next.calls HS (RdIn.drop 3 r_a) h61) (fun _ wd62 ⟨h63, HS⟩ => ⟨_, h63, (GO.buildS (el := 2) ([.int .i64 t60]) HS rfl rfl (fun _ => by kernel_rfl) rfl fun b64 wd65 HS => GO.app1 (T := (TInt .i64)) (j := 3) (jb := 0) t60 HS rfl rfl flat_flat rfl rfl rfl underlying74 inf2 rfl rfl rfl c69 rfl fun A67 c68 wd66 HS => GO.assign rfl rfl rfl (GO.nil (G.run 3 rfl (G.weak ?_ (ih_l1 n_l1 (Nat.lt_succ_of_le (Nat.le_refl _)) (Nat.le_of_succ_le hm_l1) _ _ _ _ _ H (HS.pk 4 [1, 2, 3] rfl))))))⟩)))))
      exact ⟨rfl, rfl, rfl, rfl, rfl, trivial⟩
     refine G.noB rfl (decide_eq_false c59) (G.run 2 rfl ?_)
     obtain ⟨t70, t71, h72, H⟩ := bind2_elim H
     refine G.region (GO.ldBoxA (j := 0) ([.slice A_a d_Crossings.length c_a, .int .i64 d_Circles]) HS rfl rfl rfl rfl ag30 rfl (GO.ps 2 rfl (GO.fn rfl func85 fok85.1 fok85.2 rfl rfl (spec_l28Unite.calls HS (RdIn.drop 3 r_a) (RdIn.drop 3 r_b) (RdIn.own (j := 2) rfl) h72) (fun _ wd75 ⟨A73, c74, h76, HS⟩ => ⟨_, h76, (GO.alloc HS rfl zr30 rfl rfl fun b77 wd78 HS => GO.stBox (j := 0) (vs := [.slice A73 t70.length c74, .int .i64 t71]) ([.slice A73 t70.length c74, .int .i64 t71]) HS rfl rfl rfl rfl rfl (htA ag30) rfl rfl rfl fun wd79 HS => GO.nil (G.run 2 rfl (G.region (GO.fld (⟨b77, 1, none⟩) rfl rfl fl30_1 rfl rfl (GO.ldBox (j := 0) HS rfl rfl rfl rfl na2 rfl (GO.gtr rfl rfl rfl rfl (GO.nil ?_)))))))⟩))))
     rcases ite_elim H with ⟨c80, H⟩ | ⟨c80, H⟩
     ·
      refine G.yesB rfl (decide_eq_true c80) (G.seq (G.region (GO.buildV (.agg [.slice none 0 0, .int .i64 0].toArray) rfl rfl (fun _ => by kernel_rfl) rfl (GO.stBox (j := 3) (vs := [.slice none 0 0, .int .i64 0]) ([.slice none 0 0, .int .i64 0]) HS rfl rfl rfl rfl rfl (htA ag30) rfl rfl rfl fun wd81 HS => GO.assign rfl rfl rfl (GO.nil ?_)))))
      replace HS := HS.nilRow T_GCrossing 61 (fun _ => ())
      obtain ⟨rfl, rfl, rfl⟩ := some3 H
      exact G.ret2 _ _ func51 rfl (Res1.boxA (j := 4) (vs := [.slice none 0 0, .int .i64 0]) HS rfl rfl rfl ag30) rfl ⟨_, _, rfl, (HS.pk 6 [0] rfl)⟩
     refine G.noB rfl (decide_eq_false c80) (G.run 2 rfl (G.region (GO.ldBoxA (j := 0) ([.slice A73 t70.length c74, .int .i64 t71]) HS rfl rfl rfl rfl ag30 rfl (GO.stBox (j := 3) (vs := [.slice A73 t70.length c74, .int .i64 t71]) ([.slice A73 t70.length c74, .int .i64 t71]) HS rfl rfl rfl rfl rfl (htA ag30) rfl rfl rfl fun wd82 HS => GO.assign rfl rfl rfl (GO.nil ?_)))))
     obtain ⟨rfl, rfl, rfl⟩ := some3 H
     exact G.ret2 _ _ func51 rfl (Res1.boxA (j := 3) (vs := [.slice A73 t70.length c74, .int .i64 t71]) HS rfl rfl rfl ag30) rfl ⟨_, _, rfl, (HS.pk 5 [1] rfl)⟩
  refine G.weak ?_ (at_l1 K (Nat.le_refl _) _ _ _ _ _ H (HS.pk 3 [2, 1, 0] rfl))
  exact ⟨rfl, rfl, rfl, rfl, rfl, trivial⟩
theorem spec_RemoveKink.calls {w0 w : World} {L : List HObj} {K : Nat} {d_Crossings : List GCrossing} {d_Circles c : Int} {A_a : Option Addr} {c_a : Nat} {r1 : List GCrossing} {r2 r3 : Int} (HS : St w0 w (L)) (r_a : RdIn w0 L T_GCrossing A_a c_a (fun _ => ()) d_Crossings) (H : spec_RemoveKink.f K d_Crossings d_Circles c = some (r1, r2, r3)) :
    Calls prog 32 #[.agg [.slice A_a d_Crossings.length c_a, .int .i64 d_Circles].toArray, .int .i64 c] w (spec_RemoveKink.post w0 L r1 r2 r3) := by
  unfold spec_RemoveKink.f at H
  refine Calls.of_G func32 rfl rfl rfl ?_
  refine G.seq (G.region (GO.box (cs := [.slice A_a d_Crossings.length c_a, .int .i64 d_Circles]) HS rfl rfl rfl rfl fun b1 wd2 HS => GO.alloc HS rfl zr30 rfl rfl fun b3 wd4 HS => GO.assign rfl rfl rfl (GO.nil (G.run 2 rfl ?_))))
  obtain ⟨t5, h6, H⟩ := Option.bind_eq_some_iff.1 H
  refine G.region (GO.ldBoxA (j := 1) ([.slice A_a d_Crossings.length c_a, .int .i64 d_Circles]) HS rfl rfl rfl rfl ag30 rfl (GO.fn rfl func16 fok16.1 fok16.2 rfl rfl (spec_IsDiagram.calls HS (RdIn.drop 2 r_a) h6) (fun _ wd7 ⟨h8, HS⟩ => ⟨_, h8, (GO.not rfl rfl rfl (GO.nil ?_))⟩)))
  rcases ite_elim H with ⟨c9, H⟩ | ⟨c9, H⟩
  ·
   refine G.noB rfl (congrArg Bool.not c9) (G.run 3 rfl ?_)
   obtain ⟨t10, h11, H⟩ := Option.bind_eq_some_iff.1 H
   refine G.region (GO.move rfl rfl rfl (GO.fld (⟨b1, 0, none⟩) rfl rfl fl30_0 rfl rfl (GO.ldBox (j := 1) HS rfl rfl rfl rfl na28 rfl (GO.lenS rfl rfl underlying28 rfl (GO.sub rfl rfl rfl rfl (GO.fn rfl func27 fok27.1 fok27.2 rfl rfl (spec_l01In.calls HS  h11) (fun _ wd12 ⟨h13, HS⟩ => ⟨_, h13, (GO.not rfl rfl rfl (GO.nil ?_))⟩)))))))
   rcases ite_elim H with ⟨c14, H⟩ | ⟨c14, H⟩
   ·
    refine G.noB rfl (congrArg Bool.not c14) (G.run 2 rfl ?_)
    obtain ⟨c15, H⟩ := ite_none H
    obtain ⟨e16, h17, H⟩ := bnd_elim H
    refine G.region (GO.fld (⟨b1, 0, none⟩) rfl rfl fl30_0 rfl rfl (GO.ldBox (j := 1) HS rfl rfl rfl rfl na28 rfl (GO.move rfl rfl rfl (GO.ix rfl rfl rfl underlying28 sz61 ((RdIn.drop 2 r_a) _ HS).2.2.1 c15.1 c15.2 rfl (GO.ldRdA (T := T_GCrossing) (n := c.toNat) HS (RdIn.drop 2 r_a) rfl rfl (getD_eq (ltN c15) h17) ag61 rfl (GO.alloc HS rfl zr61 rfl rfl fun b18 wd19 HS => GO.stBox (j := 0) (vs := [.int .i64 e16.A, .int .i64 e16.B, .int .i64 e16.C, .int .i64 e16.D, .int .i64 e16.Sign]) ([.int .i64 e16.A, .int .i64 e16.B, .int .i64 e16.C, .int .i64 e16.D, .int .i64 e16.Sign]) HS rfl rfl rfl rfl rfl (htA ag61) rfl rfl rfl fun wd20 HS => GO.nil (G.run 2 rfl ?_)))))))
    refine G.nameT (fun k_j1 hk_j1 => ?_)
    have at_j1 : ∀ m_j1, m_j1 ≤ K → ∀ (x27 : Bool) (w : World), spec_RemoveKink.j1 K m_j1 d_Crossings d_Circles c x27 = some (r1, r2, r3) → St w0 w (Box b1 30 [.slice A_a d_Crossings.length c_a, .int .i64 d_Circles] :: Box b3 30 [.slice none 0 0, .int .i64 0] :: L) → G prog 32 64 [(1, .int .i64 c), (2, .pointer (some ⟨b1, 0, none⟩)), (4, .pointer (some ⟨b3, 0, none⟩)), (50, .bool x27)] k_j1 w (spec_RemoveKink.post w0 L r1 r2 r3) := by
     intro m_j1 hm_j1 x27 w H HS
     cases m_j1 with
     | zero => rw [spec_RemoveKink.j1] at H; cases H
     | succ n_j1 =>
      rw [spec_RemoveKink.j1] at H
      subst hk_j1
      rcases ite_elim H with ⟨c28, H⟩ | ⟨c28, H⟩
      ·
       refine G.yesB rfl c28 (G.seq (G.region (GO.buildV (.agg [.slice none 0 0, .int .i64 0].toArray) rfl rfl (fun _ => by kernel_rfl) rfl (GO.stBox (j := 1) (vs := [.slice none 0 0, .int .i64 0]) ([.slice none 0 0, .int .i64 0]) HS rfl rfl rfl rfl rfl (htA ag30) rfl rfl rfl fun wd29 HS => GO.assign rfl rfl rfl (GO.nil ?_)))))
       replace HS := HS.nilRow T_GCrossing 61 (fun _ => ())
       obtain ⟨rfl, rfl, rfl⟩ := some3 H
       exact G.ret2 _ _ func32 rfl (Res1.boxA (j := 2) (vs := [.slice none 0 0, .int .i64 0]) HS rfl rfl rfl ag30) rfl ⟨_, _, rfl, (HS.pk 3 [0] rfl)⟩
      refine G.noB rfl (bnot_of c28) (G.run 2 rfl ?_)
      obtain ⟨c30, H⟩ := ite_none H
      obtain ⟨c31, H⟩ := ite_none H
      refine G.region (GO.fld (⟨b1, 0, none⟩) rfl rfl fl30_0 rfl rfl (GO.ldBox (j := 0) HS rfl rfl rfl rfl na28 rfl (GO.lenS rfl rfl underlying28 rfl (GO.make (T := TBool) false () HS flat_flat rfl rfl rfl underlying71 inf4 rfl rfl rfl c30 c31 rfl fun b32 wd33 HS => GO.assign rfl rfl rfl (GO.nil (G.seq ?_))))))
      obtain ⟨c34, H⟩ := ite_none H
      refine G.region (GO.ps 2 rfl (GO.ix rfl rfl rfl underlying71 sz4 (fun _ => ⟨_, _, rfl⟩) c34.1 c34.2 rfl (GO.stRow (T := TBool) (j := 0) (n := c.toNat) (o := 0) (vs := [.bool true]) true HS rfl flat_flat rfl rfl rfl rfl (htN na4 rfl) rfl (getD_some (d := false) (ltN c34)) rfl rfl fun wd35 HS => GO.nil (G.len (t := 7) (m := ((List.replicate (d_Crossings.length : Int).toNat false).set c.toNat true).length) rfl (by simp only [List.length_set] <;> rfl) (G.seq ?_)))))
      obtain ⟨t36, t37, t38, h39, H⟩ := bind3_elim H
      refine G.region (GO.ldBoxA (j := 1) ([.slice A_a d_Crossings.length c_a, .int .i64 d_Circles]) HS rfl rfl rfl rfl ag30 rfl (GO.move rfl rfl rfl (GO.fn rfl func51 fok51.1 fok51.2 rfl rfl (spec_l27Remove.calls HS (RdIn.drop 3 r_a) (RdIn.own (j := 0) rfl) h39) (fun _ wd42 ⟨A40, c41, h43, HS⟩ => ⟨_, h43, (GO.ps 2 rfl (GO.stBox (j := 3) (vs := [.slice A40 t36.length c41, .int .i64 t37]) ([.slice A40 t36.length c41, .int .i64 t37]) HS rfl rfl rfl rfl rfl (htA ag30) rfl rfl rfl fun wd44 HS => GO.assign rfl rfl rfl (GO.nil ?_)))⟩))))
      obtain ⟨rfl, rfl, rfl⟩ := some3 H
      exact G.ret2 _ _ func32 rfl (Res1.boxA (j := 3) (vs := [.slice A40 t36.length c41, .int .i64 t37]) HS rfl rfl rfl ag30) rfl ⟨_, _, rfl, (HS.pk 4 [0] rfl)⟩
    rcases ite_elim H with ⟨c45, H⟩ | ⟨c45, H⟩
    ·
     refine G.region (GO.fld (⟨b18, 0, none⟩) rfl rfl fl61_0 rfl rfl (GO.ldBox (j := 0) HS rfl rfl rfl rfl na2 rfl (GO.fld (⟨b18, 1, none⟩) rfl rfl fl61_1 rfl rfl (GO.ldBox (j := 0) HS rfl rfl rfl rfl na2 rfl (GO.ps 2 rfl (GO.known (t := 30) rfl (congrArg Bool.not (decide_eq_true c45)) (GO.off rfl rfl rfl rfl rfl rfl (GO.off rfl rfl rfl rfl rfl rfl (GO.off rfl rfl rfl rfl rfl rfl (GO.off rfl rfl rfl rfl rfl rfl (GO.off rfl rfl rfl rfl rfl rfl (GO.ps 2 rfl (GO.off rfl rfl rfl rfl rfl rfl (GO.off rfl rfl rfl rfl rfl rfl ?_))))))))))))))
     refine GO.off rfl rfl rfl rfl rfl rfl (GO.off rfl rfl rfl rfl rfl rfl (GO.off rfl rfl rfl rfl rfl rfl (GO.ps 2 rfl (GO.off rfl rfl rfl rfl rfl rfl (GO.off rfl rfl rfl rfl rfl rfl (GO.off rfl rfl rfl rfl rfl rfl (GO.off rfl rfl rfl rfl rfl rfl (GO.off rfl rfl rfl rfl rfl rfl (GO.pickF rfl rfl rfl rfl rfl (GO.nil (G.weak ?_ (at_j1 K (Nat.le_refl _) _ _ H (HS.pk 3 [2, 1] rfl)))))))))))))
     exact ⟨rfl, rfl, rfl, rfl, trivial⟩
    rcases ite_elim H with ⟨c46, H⟩ | ⟨c46, H⟩
    ·
     refine G.region (GO.fld (⟨b18, 0, none⟩) rfl rfl fl61_0 rfl rfl (GO.ldBox (j := 0) HS rfl rfl rfl rfl na2 rfl (GO.fld (⟨b18, 1, none⟩) rfl rfl fl61_1 rfl rfl (GO.ldBox (j := 0) HS rfl rfl rfl rfl na2 rfl (GO.ps 2 rfl (GO.known (t := 30) rfl (congrArg Bool.not (decide_eq_false c45)) (GO.on rfl rfl rfl rfl (GO.fld (⟨b18, 1, none⟩) rfl rfl fl61_1 rfl rfl (GO.back (GO.on rfl rfl rfl rfl (GO.ldBox (j := 0) HS rfl rfl rfl rfl na2 rfl (GO.back (GO.on rfl rfl rfl rfl (GO.fld (⟨b18, 2, none⟩) rfl rfl fl61_2 rfl rfl ?_))))))))))))))
     refine GO.back (GO.on rfl rfl rfl rfl (GO.ldBox (j := 0) HS rfl rfl rfl rfl na2 rfl (GO.back (GO.on rfl rfl rfl rfl (GO.neq rfl rfl rfl rfl (GO.back (GO.ps 2 rfl (GO.known (t := 37) rfl (congrArg Bool.not (decide_eq_true c46)) (GO.off rfl rfl rfl rfl rfl rfl (GO.off rfl rfl rfl rfl rfl rfl (GO.off rfl rfl rfl rfl rfl rfl (GO.off rfl rfl rfl rfl rfl rfl (GO.off rfl rfl rfl rfl rfl rfl (GO.ps 2 rfl ?_))))))))))))))
     refine GO.off rfl rfl rfl rfl rfl rfl (GO.off rfl rfl rfl rfl rfl rfl (GO.off rfl rfl rfl rfl rfl rfl (GO.off rfl rfl rfl rfl rfl rfl (GO.off rfl rfl rfl rfl rfl rfl (GO.pickF rfl rfl rfl rfl rfl (GO.nil (G.weak ?_ (at_j1 K (Nat.le_refl _) _ _ H (HS.pk 3 [2, 1] rfl)))))))))
     exact ⟨rfl, rfl, rfl, rfl, trivial⟩
    rcases ite_elim H with ⟨c47, H⟩ | ⟨c47, H⟩
    ·
     refine G.region (GO.fld (⟨b18, 0, none⟩) rfl rfl fl61_0 rfl rfl (GO.ldBox (j := 0) HS rfl rfl rfl rfl na2 rfl (GO.fld (⟨b18, 1, none⟩) rfl rfl fl61_1 rfl rfl (GO.ldBox (j := 0) HS rfl rfl rfl rfl na2 rfl (GO.ps 2 rfl (GO.known (t := 30) rfl (congrArg Bool.not (decide_eq_false c45)) (GO.on rfl rfl rfl rfl (GO.fld (⟨b18, 1, none⟩) rfl rfl fl61_1 rfl rfl (GO.back (GO.on rfl rfl rfl rfl (GO.ldBox (j := 0) HS rfl rfl rfl rfl na2 rfl (GO.back (GO.on rfl rfl rfl rfl (GO.fld (⟨b18, 2, none⟩) rfl rfl fl61_2 rfl rfl ?_))))))))))))))
     refine GO.back (GO.on rfl rfl rfl rfl (GO.ldBox (j := 0) HS rfl rfl rfl rfl na2 rfl (GO.back (GO.on rfl rfl rfl rfl (GO.neq rfl rfl rfl rfl (GO.back (GO.ps 2 rfl (GO.known (t := 37) rfl (congrArg Bool.not (decide_eq_false c46)) (GO.on rfl rfl rfl rfl (GO.fld (⟨b18, 2, none⟩) rfl rfl fl61_2 rfl rfl (GO.back (GO.on rfl rfl rfl rfl (GO.ldBox (j := 0) HS rfl rfl rfl rfl na2 rfl (GO.back ?_))))))))))))))
     refine GO.on rfl rfl rfl rfl (GO.fld (⟨b18, 3, none⟩) rfl rfl fl61_3 rfl rfl (GO.back (GO.on rfl rfl rfl rfl (GO.ldBox (j := 0) HS rfl rfl rfl rfl na2 rfl (GO.back (GO.on rfl rfl rfl rfl (GO.neq rfl rfl rfl rfl (GO.back (GO.ps 2 rfl (GO.known (t := 44) rfl (congrArg Bool.not (decide_eq_true c47)) (GO.off rfl rfl rfl rfl rfl rfl (GO.off rfl rfl rfl rfl rfl rfl (GO.off rfl rfl rfl rfl rfl rfl (GO.off rfl rfl rfl rfl rfl rfl ?_))))))))))))))
     refine GO.off rfl rfl rfl rfl rfl rfl (GO.pickF rfl rfl rfl rfl rfl (GO.nil (G.weak ?_ (at_j1 K (Nat.le_refl _) _ _ H (HS.pk 3 [2, 1] rfl)))))
     exact ⟨rfl, rfl, rfl, rfl, trivial⟩
    refine G.region (GO.fld (⟨b18, 0, none⟩) rfl rfl fl61_0 rfl rfl (GO.ldBox (j := 0) HS rfl rfl rfl rfl na2 rfl (GO.fld (⟨b18, 1, none⟩) rfl rfl fl61_1 rfl rfl (GO.ldBox (j := 0) HS rfl rfl rfl rfl na2 rfl (GO.ps 2 rfl (GO.known (t := 30) rfl (congrArg Bool.not (decide_eq_false c45)) (GO.on rfl rfl rfl rfl (GO.fld (⟨b18, 1, none⟩) rfl rfl fl61_1 rfl rfl (GO.back (GO.on rfl rfl rfl rfl (GO.ldBox (j := 0) HS rfl rfl rfl rfl na2 rfl (GO.back (GO.on rfl rfl rfl rfl (GO.fld (⟨b18, 2, none⟩) rfl rfl fl61_2 rfl rfl ?_))))))))))))))
    refine GO.back (GO.on rfl rfl rfl rfl (GO.ldBox (j := 0) HS rfl rfl rfl rfl na2 rfl (GO.back (GO.on rfl rfl rfl rfl (GO.neq rfl rfl rfl rfl (GO.back (GO.ps 2 rfl (GO.known (t := 37) rfl (congrArg Bool.not (decide_eq_false c46)) (GO.on rfl rfl rfl rfl (GO.fld (⟨b18, 2, none⟩) rfl rfl fl61_2 rfl rfl (GO.back (GO.on rfl rfl rfl rfl (GO.ldBox (j := 0) HS rfl rfl rfl rfl na2 rfl (GO.back ?_))))))))))))))
    refine GO.on rfl rfl rfl rfl (GO.fld (⟨b18, 3, none⟩) rfl rfl fl61_3 rfl rfl (GO.back (GO.on rfl rfl rfl rfl (GO.ldBox (j := 0) HS rfl rfl rfl rfl na2 rfl (GO.back (GO.on rfl rfl rfl rfl (GO.neq rfl rfl rfl rfl (GO.back (GO.ps 2 rfl (GO.known (t := 44) rfl (congrArg Bool.not (decide_eq_false c47)) (GO.on rfl rfl rfl rfl (GO.fld (⟨b18, 3, none⟩) rfl rfl fl61_3 rfl rfl (GO.back (GO.on rfl rfl rfl rfl ?_))))))))))))))
    refine GO.ldBox (j := 0) HS rfl rfl rfl rfl na2 rfl (GO.back (GO.on rfl rfl rfl rfl (GO.fld (⟨b18, 0, none⟩) rfl rfl fl61_0 rfl rfl (GO.back (GO.on rfl rfl rfl rfl (GO.ldBox (j := 0) HS rfl rfl rfl rfl na2 rfl (GO.back (GO.on rfl rfl rfl rfl (GO.neq rfl rfl rfl rfl (GO.back (GO.pickT rfl rfl rfl rfl rfl (GO.nil (G.weak ?_ (at_j1 K (Nat.le_refl _) _ _ H (HS.pk 3 [2, 1] rfl)))))))))))))))
    exact ⟨rfl, rfl, rfl, rfl, trivial⟩
   refine G.yesB rfl (congrArg Bool.not (bnot_of c14)) (G.seq (G.region (GO.buildV (.agg [.slice none 0 0, .int .i64 0].toArray) rfl rfl (fun _ => by kernel_rfl) rfl (GO.stBox (j := 0) (vs := [.slice none 0 0, .int .i64 0]) ([.slice none 0 0, .int .i64 0]) HS rfl rfl rfl rfl rfl (htA ag30) rfl rfl rfl fun wd48 HS => GO.assign rfl rfl rfl (GO.nil ?_)))))
   replace HS := HS.nilRow T_GCrossing 61 (fun _ => ())
   obtain ⟨rfl, rfl, rfl⟩ := some3 H
   exact G.ret2 _ _ func32 rfl (Res1.boxA (j := 1) (vs := [.slice none 0 0, .int .i64 0]) HS rfl rfl rfl ag30) rfl ⟨_, _, rfl, (HS.pk 3 [0] rfl)⟩
  refine G.yesB rfl (congrArg Bool.not (bnot_of c9)) (G.seq (G.region (GO.buildV (.agg [.slice none 0 0, .int .i64 0].toArray) rfl rfl (fun _ => by kernel_rfl) rfl (GO.stBox (j := 0) (vs := [.slice none 0 0, .int .i64 0]) ([.slice none 0 0, .int .i64 0]) HS rfl rfl rfl rfl rfl (htA ag30) rfl rfl rfl fun wd49 HS => GO.assign rfl rfl rfl (GO.nil ?_)))))
  replace HS := HS.nilRow T_GCrossing 61 (fun _ => ())
  obtain ⟨rfl, rfl, rfl⟩ := some3 H
  exact G.ret2 _ _ func32 rfl (Res1.boxA (j := 1) (vs := [.slice none 0 0, .int .i64 0]) HS rfl rfl rfl ag30) rfl ⟨_, _, rfl, (HS.pk 3 [0] rfl)⟩
theorem spec_l27Side.calls {w0 w : World} {L : List HObj} {d_Crossings : List GCrossing} {d_Circles corner : Int} {A_a : Option Addr} {c_a : Nat} {r1 : Int} (HS : St w0 w (L)) (r_a : RdIn w0 L T_GCrossing A_a c_a (fun _ => ()) d_Crossings) (H : spec_l27Side.f d_Crossings d_Circles corner = some r1) :
    Calls prog 57 #[.agg [.slice A_a d_Crossings.length c_a, .int .i64 d_Circles].toArray, .int .i64 corner] w (spec_l27Side.post w0 L r1) := by
  unfold spec_l27Side.f at H
  refine Calls.of_G func57 rfl rfl rfl ?_
  refine G.seq (G.region (GO.box (cs := [.slice A_a d_Crossings.length c_a, .int .i64 d_Circles]) HS rfl rfl rfl rfl fun b1 wd2 HS => GO.assign rfl rfl rfl (GO.nil (G.seq ?_))))
  obtain ⟨c3, H⟩ := ite_none H
  obtain ⟨e4, h5, H⟩ := bnd_elim H
  refine G.region (GO.fld (⟨b1, 0, none⟩) rfl rfl fl30_0 rfl rfl (GO.ldBox (j := 0) HS rfl rfl rfl rfl na28 rfl (GO.move rfl rfl rfl (GO.quo rfl rfl rfl (by decide) rfl (GO.ix rfl rfl rfl underlying28 sz61 ((RdIn.drop 1 r_a) _ HS).2.2.1 c3.1 c3.2 rfl (GO.ldRdA (T := T_GCrossing) (n := (w64 (corner.tdiv 4)).toNat) HS (RdIn.drop 1 r_a) rfl rfl (getD_eq (ltN c3) h5) ag61 rfl (GO.move rfl rfl rfl (GO.rem rfl rfl rfl (by decide) rfl (GO.add rfl rfl rfl rfl (GO.rem rfl rfl rfl (by decide) rfl (GO.alloc HS rfl zr61 rfl rfl fun b6 wd7 HS => GO.stBox (j := 0) (vs := [.int .i64 e4.A, .int .i64 e4.B, .int .i64 e4.C, .int .i64 e4.D, .int .i64 e4.Sign]) ([.int .i64 e4.A, .int .i64 e4.B, .int .i64 e4.C, .int .i64 e4.D, .int .i64 e4.Sign]) HS rfl rfl rfl rfl rfl (htA ag61) rfl rfl rfl fun wd8 HS => GO.assign rfl rfl rfl (GO.nil ?_))))))))))))
  refine G.run 2 rfl ?_
  obtain ⟨t9, h10, H⟩ := Option.bind_eq_some_iff.1 H
  refine G.region (GO.ldBoxA (j := 0) ([.int .i64 e4.A, .int .i64 e4.B, .int .i64 e4.C, .int .i64 e4.D, .int .i64 e4.Sign]) HS rfl rfl rfl rfl ag61 rfl (GO.move rfl rfl rfl (GO.fn rfl func46 fok46.1 fok46.2 rfl rfl (spec_l25Enters.calls HS  h10) (fun _ wd11 ⟨h12, HS⟩ => ⟨_, h12, (GO.nil ?_)⟩))))
  rcases ite_elim H with ⟨c13, H⟩ | ⟨c13, H⟩
  ·
   refine G.yesB rfl c13 (G.seq ?_)
   obtain ⟨t14, h15, H⟩ := Option.bind_eq_some_iff.1 H
   refine G.region (GO.ldBoxA (j := 0) ([.int .i64 e4.A, .int .i64 e4.B, .int .i64 e4.C, .int .i64 e4.D, .int .i64 e4.Sign]) HS rfl rfl rfl rfl ag61 rfl (GO.move rfl rfl rfl (GO.fn rfl func45 fok45.1 fok45.2 rfl rfl (spec_l25End.calls HS  h15) (fun _ wd16 ⟨h17, HS⟩ => ⟨_, h17, (GO.ps 2 rfl (GO.nil ?_))⟩))))
   obtain rfl := Option.some.inj H
   exact G.ret1 _ func57 rfl rfl ⟨rfl, (HS.pk 2 [] rfl)⟩
  refine G.noB rfl (bnot_of c13) (G.run 2 rfl ?_)
  obtain ⟨t18, h19, H⟩ := Option.bind_eq_some_iff.1 H
  refine G.region (GO.ldBoxA (j := 0) ([.int .i64 e4.A, .int .i64 e4.B, .int .i64 e4.C, .int .i64 e4.D, .int .i64 e4.Sign]) HS rfl rfl rfl rfl ag61 rfl (GO.move rfl rfl rfl (GO.fn rfl func45 fok45.1 fok45.2 rfl rfl (spec_l25End.calls HS  h19) (fun _ wd20 ⟨h21, HS⟩ => ⟨_, h21, (GO.ps 3 rfl (GO.nil ?_))⟩))))
  obtain rfl := Option.some.inj H
  exact G.ret1 _ func57 rfl rfl ⟨rfl, (HS.pk 2 [] rfl)⟩
theorem spec_l27Sides.calls {w0 w : World} {L : List HObj} {K : Nat} {d_Crossings : List GCrossing} {d_Circles : Int} {A_a : Option Addr} {c_a : Nat} {r1 : List Int} (HS : St w0 w (L)) (r_a : RdIn w0 L T_GCrossing A_a c_a (fun _ => ()) d_Crossings) (H : spec_l27Sides.f K d_Crossings d_Circles = some r1) :
    Calls prog 52 #[.agg [.slice A_a d_Crossings.length c_a, .int .i64 d_Circles].toArray] w (spec_l27Sides.post w0 L r1) := by
  unfold spec_l27Sides.f at H
  refine Calls.of_G func52 rfl rfl rfl ?_
  refine G.seq (G.region (GO.box (cs := [.slice A_a d_Crossings.length c_a, .int .i64 d_Circles]) HS rfl rfl rfl rfl fun b1 wd2 HS => GO.assign rfl rfl rfl (GO.nil (G.seq ?_))))
  obtain ⟨c3, H⟩ := ite_none H
  obtain ⟨c4, H⟩ := ite_none H
  refine G.region (GO.fld (⟨b1, 0, none⟩) rfl rfl fl30_0 rfl rfl (GO.ldBox (j := 0) HS rfl rfl rfl rfl na28 rfl (GO.lenS rfl rfl underlying28 rfl (GO.mul rfl rfl rfl rfl (GO.make (T := (TInt .i64)) 0 () HS flat_flat rfl rfl rfl underlying74 inf2 rfl rfl rfl c3 c4 rfl fun b5 wd6 HS => GO.assign rfl rfl rfl (GO.nil (G.seq ?_)))))))
  obtain ⟨t7, h8, H⟩ := Option.bind_eq_some_iff.1 H
  refine G.region (GO.ldBoxA (j := 1) ([.slice A_a d_Crossings.length c_a, .int .i64 d_Circles]) HS rfl rfl rfl rfl ag30 rfl (GO.fn rfl func29 fok29.1 fok29.2 rfl rfl (spec_l25Regions.calls HS (RdIn.drop 2 r_a) h8) (fun _ wd12 ⟨A9, c10, y11, h13, HS⟩ => ⟨_, h13, (GO.assign rfl rfl rfl (GO.nil (G.run 5 rfl ?_)))⟩)))
  refine G.name (fun k_l1 hk_l1 => ?_)
  have at_l1 : ∀ m_l1, m_l1 ≤ K → ∀ (out_47 : List Int) (i_48 : Int) (w : World), spec_l27Sides.l1 K m_l1 d_Crossings d_Circles t7 out_47 i_48 = some r1 → St w0 w (Box b1 30 [.slice A_a d_Crossings.length c_a, .int .i64 d_Circles] :: Own (TInt .i64) 2 (some ⟨b5, 0, none⟩) ((w64 (4 * (d_Crossings.length : Int))).toNat) (fun _ => ()) out_47 :: Own (Ty.slice 2 (TInt .i64)) 74 A9 c10 y11 t7 :: L) → G prog 52 44 [(1, .pointer (some ⟨b1, 0, none⟩)), (3, .slice (some ⟨b5, 0, none⟩) out_47.length ((w64 (4 * (d_Crossings.length : Int))).toNat)), (4, .slice A9 t7.length c10), (5, .int .i64 i_48)] k_l1 w (spec_l27Sides.post w0 L r1) := by
   intro m_l1
   induction m_l1 using Nat.strongRecOn with
   | _ m_l1 ih_l1 =>
    intro hm_l1 out_47 i_48 w H HS
    cases m_l1 with
    | zero => rw [spec_l27Sides.l1] at H; cases H
    | succ n_l1 =>
     rw [spec_l27Sides.l1] at H
     subst hk_l1
     refine G.run 2 rfl (G.region (GO.ps 2 rfl (GO.lenS rfl rfl underlying55 rfl (GO.lss rfl rfl rfl rfl (GO.nil ?_)))))
     rcases ite_elim H with ⟨c82, H⟩ | ⟨c82, H⟩
     ·
      refine G.yesB rfl (decide_eq_true c82) (G.run 7 rfl ?_)
      refine G.name (fun k_l4 hk_l4 => ?_)
      have at_l4 : ∀ m_l4, m_l4 ≤ n_l1 → ∀ (out_93 : List Int) (k_94 : Int) (w : World), spec_l27Sides.l4 K m_l4 d_Crossings d_Circles t7 i_48 out_93 k_94 = some r1 → St w0 w (Box b1 30 [.slice A_a d_Crossings.length c_a, .int .i64 d_Circles] :: Own (TInt .i64) 2 (some ⟨b5, 0, none⟩) ((w64 (4 * (d_Crossings.length : Int))).toNat) (fun _ => ()) out_93 :: Own (Ty.slice 2 (TInt .i64)) 74 A9 c10 y11 t7 :: L) → G prog 52 44 [(1, .pointer (some ⟨b1, 0, none⟩)), (3, .slice (some ⟨b5, 0, none⟩) out_93.length ((w64 (4 * (d_Crossings.length : Int))).toNat)), (4, .slice A9 t7.length c10), (5, .int .i64 i_48), (6, .int .i64 k_94)] k_l4 w (spec_l27Sides.post w0 L r1) := by
       intro m_l4
       induction m_l4 using Nat.strongRecOn with
       | _ m_l4 ih_l4 =>
        intro hm_l4 out_93 k_94 w H HS
        cases m_l4 with
        | zero => rw [spec_l27Sides.l4] at H; cases H
        | succ n_l4 =>
         rw [spec_l27Sides.l4] at H
         subst hk_l4
         refine G.run 2 rfl ?_
         obtain ⟨c105, H⟩ := ite_none H
         refine G.region (GO.ps 3 rfl (GO.ix rfl rfl rfl underlying55 sz74 ((RdIn.own (j := 2) rfl) _ HS).2.2.1 c105.1 c105.2 rfl (GO.ldRd (T := (Ty.slice 2 (TInt .i64))) (n := i_48.toNat) (o := 0) HS (RdIn.own (j := 2) rfl) rfl rfl (getD_some (d := []) (ltN c105)) rfl rfl na74 rfl (GO.lenS rfl rfl underlying74 rfl (GO.lss rfl rfl rfl rfl (GO.nil ?_))))))
         rcases ite_elim H with ⟨c106, H⟩ | ⟨c106, H⟩
         ·
          refine G.yesB rfl (decide_eq_true c106) (G.run 4 rfl ?_)
          have h107 := ((RdIn.own (j := 2) rfl) _ HS).2.2.1
          obtain ⟨c108, H⟩ := ite_none H
          obtain ⟨t109, h110, H⟩ := Option.bind_eq_some_iff.1 H
          refine G.lex mixed [1, 2, 3, 5, 0, 4, 6, 7, 8, 9] (by kernel_rfl) ?_
          replace HS := HS.drew
          refine GX.ps 2 rfl (GX.l0 rfl rfl (fun _ _ g => GO.ix rfl rfl rfl underlying55 sz74 h107 c105.1 c105.2 rfl g) rfl (GX.ps 1 rfl (GX.l1 rfl rfl rfl (fun _ g => GO.ldBoxA (j := 0) ([.slice A_a d_Crossings.length c_a, .int .i64 d_Circles]) HS rfl rfl rfl rfl ag30 rfl g) rfl (GX.l1 rfl rfl rfl (fun _ g => GO.ldRd (T := (Ty.slice 2 (TInt .i64))) (n := i_48.toNat) (o := 0) HS (RdIn.own (j := 2) rfl) rfl rfl (getD_some (d := []) (ltN c105)) rfl rfl na74 rfl g) rfl (GX.l0 rfl rfl (fun _ _ g => GO.ix rfl rfl rfl underlying74 sz2 ((RdIn.elem (RdIn.own (j := 2) rfl) c105.1 c105.2) _ HS).2.2.1 c108.1 c108.2 rfl g) rfl (GX.l1 rfl rfl rfl (fun _ g => GO.ldRd (T := (TInt .i64)) (n := k_94.toNat) (o := 0) HS (RdIn.elem (RdIn.own (j := 2) rfl) c105.1 c105.2) rfl rfl (getD_some (d := 0) (ltN c108)) rfl rfl na2 rfl g) rfl (GX.l2 rfl (GO.fn rfl func57 fok57.1 fok57.2 rfl rfl (spec_l27Side.calls HS (RdIn.drop 3 r_a) h110) (fun _ wd111 ⟨h112, HS⟩ => ⟨_, h112, (GX.fin trivial (GX.ps 1 rfl (GX.nil ?_)))⟩)))))))))
          obtain ⟨c113, H⟩ := ite_none H
          refine G.region (GO.ps 3 rfl (GO.ix rfl rfl rfl underlying74 sz2 (fun _ => ⟨_, _, rfl⟩) c113.1 c113.2 rfl (GO.stRow (T := (TInt .i64)) (j := 1) (n := t109.toNat) (o := 0) (vs := [.int .i64 i_48]) i_48 HS rfl flat_flat rfl rfl rfl rfl (htN na2 rfl) rfl (getD_some (d := 0) (ltN c113)) rfl rfl fun wd114 HS => GO.nil (G.len (t := 3) (m := (out_93.set t109.toNat i_48).length) rfl (by simp only [List.length_set] <;> rfl) (G.run 3 rfl (G.weak ?_ (ih_l4 n_l4 (Nat.lt_succ_of_le (Nat.le_refl _)) (Nat.le_of_succ_le hm_l4) _ _ _ H HS)))))))
          exact ⟨rfl, rfl, rfl, rfl, rfl, trivial⟩
         refine G.noB rfl (decide_eq_false c106) (G.run 4 rfl (G.weak ?_ (ih_l1 n_l4 (by omega) (by omega) _ _ _ H HS)))
         exact ⟨rfl, rfl, rfl, rfl, trivial⟩
      refine G.weak ?_ (at_l4 n_l1 (Nat.le_refl _) _ _ _ H HS)
      exact ⟨rfl, rfl, rfl, rfl, rfl, trivial⟩
     refine G.noB rfl (decide_eq_false c82) (G.run 3 rfl ?_)
     obtain rfl := Option.some.inj H
     exact G.ret1 _ func52 rfl rfl ⟨_, _, rfl, (HS.pk 3 [1] rfl)⟩
  refine G.weak ?_ (at_l1 K (Nat.le_refl _) _ _ _ H (HS.pk 3 [2, 1, 0] rfl))
  exact ⟨rfl, rfl, rfl, rfl, trivial⟩
theorem spec_l27Upper.calls {w0 w : World} {L : List HObj} {lowIn lowOut : Int} {highIn highOut : Int} {sign r1 : Int} {r2 r3 : Int} {r4 r5 : Int} (HS : St w0 w (L)) (H : spec_l27Upper.f lowIn lowOut highIn highOut sign = some (r1, r2, r3, r4, r5)) :
    Calls prog 53 #[.int .i64 lowIn, .int .i64 lowOut, .int .i64 highIn, .int .i64 highOut, .int .i64 sign] w (spec_l27Upper.post w0 L r1 r2 r3 r4 r5) := by
  unfold spec_l27Upper.f at H
  refine Calls.of_G func53 rfl rfl rfl ?_
  refine G.seq (G.region (GO.alloc HS rfl zr61 rfl rfl fun b1 wd2 HS => GO.nil (G.run 3 rfl ?_)))
  rcases ite_elim H with ⟨c3, H⟩ | ⟨c3, H⟩
  ·
   refine G.yesB rfl (decide_eq_true c3) (G.seq (G.region (GO.ps 4 rfl (GO.buildV (.agg [.int .i64 lowIn, .int .i64 highOut, .int .i64 lowOut, .int .i64 highIn, .int .i64 1].toArray) rfl rfl (fun _ => by kernel_rfl) rfl (GO.stBox (j := 0) (vs := [.int .i64 lowIn, .int .i64 highOut, .int .i64 lowOut, .int .i64 highIn, .int .i64 1]) ([.int .i64 lowIn, .int .i64 highOut, .int .i64 lowOut, .int .i64 highIn, .int .i64 1]) HS rfl rfl rfl rfl rfl (htA ag61) rfl rfl rfl fun wd4 HS => GO.nil ?_)))))
   obtain ⟨rfl, rfl, rfl, rfl, rfl⟩ := some5 H
   exact G.ret1 _ func53 rfl (Res1.boxA (j := 0) (vs := [.int .i64 lowIn, .int .i64 highOut, .int .i64 lowOut, .int .i64 highIn, .int .i64 1]) HS rfl rfl rfl ag61) ⟨rfl, (HS.pk 1 [] rfl)⟩
  refine G.noB rfl (decide_eq_false c3) (G.run 2 rfl (G.region (GO.ps 4 rfl (GO.buildV (.agg [.int .i64 lowIn, .int .i64 highIn, .int .i64 lowOut, .int .i64 highOut, .int .i64 (-1)].toArray) rfl rfl (fun _ => by kernel_rfl) rfl (GO.stBox (j := 0) (vs := [.int .i64 lowIn, .int .i64 highIn, .int .i64 lowOut, .int .i64 highOut, .int .i64 (-1)]) ([.int .i64 lowIn, .int .i64 highIn, .int .i64 lowOut, .int .i64 highOut, .int .i64 (-1)]) HS rfl rfl rfl rfl rfl (htA ag61) rfl rfl rfl fun wd5 HS => GO.nil ?_)))))
  obtain ⟨rfl, rfl, rfl, rfl, rfl⟩ := some5 H
  exact G.ret1 _ func53 rfl (Res1.boxA (j := 0) (vs := [.int .i64 lowIn, .int .i64 highIn, .int .i64 lowOut, .int .i64 highOut, .int .i64 (-1)]) HS rfl rfl rfl ag61) ⟨rfl, (HS.pk 1 [] rfl)⟩
theorem spec_AddBigon.calls {w0 w : World} {L : List HObj} {K : Nat} {t_Crossings : List GCrossing} {t_Circles o A : Int} {A_a : Option Addr} {c_a : Nat} {r1 : List GCrossing} {r2 r3 : Int} (HS : St w0 w (L)) (r_a : RdIn w0 L T_GCrossing A_a c_a (fun _ => ()) t_Crossings) (H : spec_AddBigon.f K t_Crossings t_Circles o A = some (r1, r2, r3)) :
    Calls prog 33 #[.agg [.slice A_a t_Crossings.length c_a, .int .i64 t_Circles].toArray, .int .i64 o, .int .i64 A] w (spec_AddBigon.post w0 L r1 r2 r3) := by
  unfold spec_AddBigon.f at H
  refine Calls.of_G func33 rfl rfl rfl ?_
  refine G.seq (G.region (GO.box (cs := [.slice A_a t_Crossings.length c_a, .int .i64 t_Circles]) HS rfl rfl rfl rfl fun b1 wd2 HS => GO.alloc HS rfl zr30 rfl rfl fun b3 wd4 HS => GO.assign rfl rfl rfl (GO.nil (G.run 2 rfl ?_))))
  obtain ⟨t5, h6, H⟩ := Option.bind_eq_some_iff.1 H
  refine G.region (GO.ldBoxA (j := 1) ([.slice A_a t_Crossings.length c_a, .int .i64 t_Circles]) HS rfl rfl rfl rfl ag30 rfl (GO.fn rfl func16 fok16.1 fok16.2 rfl rfl (spec_IsDiagram.calls HS (RdIn.drop 2 r_a) h6) (fun _ wd7 ⟨h8, HS⟩ => ⟨_, h8, (GO.not rfl rfl rfl (GO.nil ?_))⟩)))
  rcases ite_elim H with ⟨c9, H⟩ | ⟨c9, H⟩
  ·
   refine G.noB rfl (congrArg Bool.not c9) (G.run 2 rfl (G.region (GO.fld (⟨b1, 0, none⟩) rfl rfl fl30_0 rfl rfl (GO.ldBox (j := 1) HS rfl rfl rfl rfl na28 rfl (GO.lenS rfl rfl underlying28 rfl (GO.ps 2 rfl (GO.nil (G.run 2 rfl ?_))))))))
   obtain ⟨t19, h20, H⟩ := Option.bind_eq_some_iff.1 H
   rcases ite_elim H with ⟨c23, H⟩ | ⟨c23, H⟩
   ·
    obtain ⟨t24, h25, H⟩ := Option.bind_eq_some_iff.1 H
    refine G.region (GO.ps 4 rfl (GO.fn rfl func27 fok27.1 fok27.2 rfl rfl (spec_l01In.calls HS  h20) (fun _ wd21 ⟨h22, HS⟩ => ⟨_, h22, (GO.ps 2 rfl (GO.known (t := 34) rfl (congrArg Bool.not c23) (GO.on rfl rfl rfl rfl (GO.move rfl rfl rfl (GO.back (GO.on rfl rfl rfl rfl (GO.move rfl rfl rfl (GO.back (GO.on rfl rfl rfl rfl (GO.mul rfl rfl rfl rfl (GO.back (GO.on rfl rfl rfl rfl ?_))))))))))))⟩)))
    refine GO.sub rfl rfl rfl rfl (GO.back (GO.on rfl rfl rfl rfl (GO.fn rfl func27 fok27.1 fok27.2 rfl rfl (spec_l01In.calls HS  h25) (fun _ wd26 ⟨h27, HS⟩ => ⟨_, h27, (GO.back (GO.on rfl rfl rfl rfl (GO.not rfl rfl rfl (GO.back (GO.pickF rfl rfl rfl rfl rfl (GO.nil ?_))))))⟩))))
    rcases ite_elim H with ⟨c28, H⟩ | ⟨c28, H⟩
    ·
     refine G.noB rfl (congrArg Bool.not c28) (G.run 2 rfl ?_)
     obtain ⟨t29, h30, H⟩ := Option.bind_eq_some_iff.1 H
     refine G.region (GO.ldBoxA (j := 1) ([.slice A_a t_Crossings.length c_a, .int .i64 t_Circles]) HS rfl rfl rfl rfl ag30 rfl (GO.fn rfl func52 fok52.1 fok52.2 rfl rfl (spec_l27Sides.calls HS (RdIn.drop 2 r_a) h30) (fun _ wd33 ⟨A31, c32, h34, HS⟩ => ⟨_, h34, (GO.assign rfl rfl rfl (GO.nil (G.run 2 rfl ?_)))⟩)))
     rcases ite_elim H with ⟨c38, H⟩ | ⟨c38, H⟩
     ·
      refine G.lex mixed [0, 1, 2, 3, 4, 5, 6, 7, 8, 10, 11, 12, 9, 13, 14, 15] (by kernel_rfl) ?_
      replace HS := HS.drew
      refine GX.ps 1 rfl (GX.l0 rfl rfl (fun _ _ g => GO.quo rfl rfl rfl (by decide) rfl g) rfl (GX.ps 1 rfl (GX.l0 rfl rfl (fun _ _ g => GO.quo rfl rfl rfl (by decide) rfl g) rfl (GX.ps 1 rfl (GX.l0 rfl rfl (fun _ _ g => GO.move rfl rfl rfl (GO.known (t := 50) rfl (decide_eq_true c38) g)) rfl (GX.l0 rfl rfl (fun _ _ g => GO.off rfl rfl rfl rfl rfl rfl g) rfl (GX.l0 rfl rfl (fun _ _ g => GO.off rfl rfl rfl rfl rfl rfl g) rfl (GX.l0 rfl rfl (fun _ _ g => GO.off rfl rfl rfl rfl rfl rfl g) rfl (GX.l0 rfl rfl (fun _ _ g => GO.off rfl rfl rfl rfl rfl rfl g) rfl (GX.l0 rfl rfl (fun _ _ g => GO.off rfl rfl rfl rfl rfl rfl g) rfl (GX.l0 rfl rfl (fun _ _ g => GO.off rfl rfl rfl rfl rfl rfl g) rfl (GX.l1 rfl rfl rfl (fun _ g => GO.off rfl rfl rfl rfl rfl rfl g) rfl (GX.l1 rfl rfl rfl (fun _ g => GO.off rfl rfl rfl rfl rfl rfl g) rfl (GX.l0 rfl rfl (fun _ _ g => GO.off rfl rfl rfl rfl rfl rfl g) rfl ?_))))))))))))))
      refine GX.ps 1 rfl (GX.nil (G.run 2 rfl (G.region (GO.buildV (.agg [.slice none 0 0, .int .i64 0].toArray) rfl rfl (fun _ => by kernel_rfl) rfl (GO.stBox (j := 1) (vs := [.slice none 0 0, .int .i64 0]) ([.slice none 0 0, .int .i64 0]) HS rfl rfl rfl rfl rfl (htA ag30) rfl rfl rfl fun wd39 HS => GO.assign rfl rfl rfl (GO.nil ?_))))))
      replace HS := HS.nilRow T_GCrossing 61 (fun _ => ())
      obtain ⟨rfl, rfl, rfl⟩ := some3 H
      exact G.ret2 _ _ func33 rfl (Res1.boxA (j := 2) (vs := [.slice none 0 0, .int .i64 0]) HS rfl rfl rfl ag30) rfl ⟨_, _, rfl, (HS.pk 4 [0] rfl)⟩
     obtain ⟨c40, H⟩ := ite_none H
     obtain ⟨c41, H⟩ := ite_none H
     refine G.lex mixed [0, 1, 2, 3, 4, 5, 6, 7, 8, 10, 11, 12, 9, 13, 14, 15] (by kernel_rfl) ?_
     replace HS := HS.drew
     refine GX.ps 1 rfl (GX.l0 rfl rfl (fun _ _ g => GO.quo rfl rfl rfl (by decide) rfl g) rfl (GX.ps 1 rfl (GX.l0 rfl rfl (fun _ _ g => GO.quo rfl rfl rfl (by decide) rfl g) rfl (GX.ps 1 rfl (GX.l0 rfl rfl (fun _ _ g => GO.move rfl rfl rfl (GO.known (t := 50) rfl (decide_eq_false c38) g)) rfl (GX.l0 rfl rfl (fun _ _ g => GO.on rfl rfl rfl rfl (GO.move rfl rfl rfl (GO.back g))) rfl (GX.l0 rfl rfl (fun _ _ g => GO.on rfl rfl rfl rfl (GO.move rfl rfl rfl (GO.back g))) rfl (GX.l0 rfl rfl (fun _ _ g => GO.on rfl rfl rfl rfl (GO.ix rfl rfl rfl underlying74 sz2 ((RdIn.own (j := 0) rfl) _ HS).2.2.1 c40.1 c40.2 rfl (GO.back g))) rfl (GX.l0 rfl rfl (fun _ _ g => GO.on rfl rfl rfl rfl (GO.move rfl rfl rfl (GO.back g))) rfl (GX.l0 rfl rfl (fun _ _ g => GO.on rfl rfl rfl rfl (GO.move rfl rfl rfl (GO.back g))) rfl (GX.l0 rfl rfl (fun _ _ g => GO.on rfl rfl rfl rfl (GO.ix rfl rfl rfl underlying74 sz2 ((RdIn.own (j := 0) rfl) _ HS).2.2.1 c41.1 c41.2 rfl (GO.back g))) rfl (GX.l1 rfl rfl rfl (fun _ g => GO.on rfl rfl rfl rfl (GO.ldRd (T := (TInt .i64)) (n := o.toNat) (o := 0) HS (RdIn.own (j := 0) rfl) rfl rfl (getD_some (d := 0) (ltN c40)) rfl rfl na2 rfl (GO.back g))) rfl (GX.l1 rfl rfl rfl (fun _ g => GO.on rfl rfl rfl rfl (GO.ldRd (T := (TInt .i64)) (n := A.toNat) (o := 0) HS (RdIn.own (j := 0) rfl) rfl rfl (getD_some (d := 0) (ltN c41)) rfl rfl na2 rfl (GO.back g))) rfl (GX.l0 rfl rfl (fun _ _ g => GO.on rfl rfl rfl rfl (GO.neq rfl rfl rfl rfl (GO.back g))) rfl ?_))))))))))))))
     refine GX.ps 1 rfl (GX.nil ?_)
     rcases ite_elim H with ⟨c42, H⟩ | ⟨c42, H⟩
     ·
      refine G.noB rfl (congrArg Bool.not (decide_eq_true c42)) (G.run 3 rfl (G.region (GO.fld (⟨b1, 0, none⟩) rfl rfl fl30_0 rfl rfl (GO.ldBox (j := 2) HS rfl rfl rfl rfl na28 rfl (GO.lenS rfl rfl underlying28 rfl (GO.gtr rfl rfl rfl rfl (GO.nil ?_)))))))
      rcases ite_elim H with ⟨c43, H⟩ | ⟨c43, H⟩
      ·
       refine G.yesB rfl (decide_eq_true c43) (G.seq (G.region (GO.buildV (.agg [.slice none 0 0, .int .i64 0].toArray) rfl rfl (fun _ => by kernel_rfl) rfl (GO.stBox (j := 1) (vs := [.slice none 0 0, .int .i64 0]) ([.slice none 0 0, .int .i64 0]) HS rfl rfl rfl rfl rfl (htA ag30) rfl rfl rfl fun wd44 HS => GO.assign rfl rfl rfl (GO.nil ?_)))))
       replace HS := HS.nilRow T_GCrossing 61 (fun _ => ())
       obtain ⟨rfl, rfl, rfl⟩ := some3 H
       exact G.ret2 _ _ func33 rfl (Res1.boxA (j := 2) (vs := [.slice none 0 0, .int .i64 0]) HS rfl rfl rfl ag30) rfl ⟨_, _, rfl, (HS.pk 4 [0] rfl)⟩
      refine G.noB rfl (decide_eq_false c43) (G.run 2 rfl (G.region (GO.move rfl rfl rfl (GO.quo rfl rfl rfl (by decide) rfl (GO.move rfl rfl rfl (GO.quo rfl rfl rfl (by decide) rfl (GO.ps 2 rfl (GO.nil (G.seq ?_)))))))))
      obtain ⟨c50, H⟩ := ite_none H
      refine G.region (GO.buildS (el := 61) ([]) HS rfl rfl (fun _ => by kernel_rfl) rfl fun b45 wd46 HS => GO.fld (⟨b1, 0, none⟩) rfl rfl fl30_0 rfl rfl (GO.ldBox (j := 3) HS rfl rfl rfl rfl na28 rfl ?_))
      replace HS := HS.boxRow (T := T_GCrossing) (j := 0) rfl flat_flat (fun _ => ()) ([] : List GCrossing) rfl (bndL rfl)
      refine GO.lenC (t := 71) (m := ([] : List GCrossing).length) (c' := ([] : List GCrossing).length) rfl rfl rfl (GO.appS (T := T_GCrossing) (j := 0) HS rfl (RdIn.drop 4 r_a) flat_flat rfl rfl rfl underlying28 inf61 rfl rfl rfl c50 rfl (fun _ => rfl) fun A48 c49 wd47 HS => GO.assign rfl rfl rfl (GO.nil (G.seq ?_)))
      obtain ⟨t51, t52, h53, H⟩ := bind2_elim H
      refine G.region (GO.ldBoxA (j := 3) ([.slice A_a t_Crossings.length c_a, .int .i64 t_Circles]) HS rfl rfl rfl rfl ag30 rfl (GO.move rfl rfl rfl (GO.fn rfl func49 fok49.1 fok49.2 rfl rfl (spec_l25Place.calls HS (RdIn.drop 4 r_a) h53) (fun _ wd54 ⟨h55, HS⟩ => ⟨_, h55, (GO.ps 5 rfl (GO.nil (G.seq ?_)))⟩))))
      obtain ⟨c56, H⟩ := ite_none H
      obtain ⟨e57, h58, H⟩ := bnd_elim H
      obtain ⟨t59, t60, t61, t62, t63, h64, H⟩ := bind5_elim H
      refine G.region (GO.ps 4 rfl (GO.ix rfl rfl rfl underlying28 sz61 ((RdIn.own (j := 0) rfl) _ HS).2.2.1 c56.1 c56.2 rfl (GO.ldRdA (T := T_GCrossing) (n := t51.toNat) HS (RdIn.own (j := 0) rfl) rfl rfl (getD_eq (ltN c56) h58) ag61 rfl (GO.ps 3 rfl (GO.fn rfl func50 fok50.1 fok50.2 rfl rfl (spec_l25With.calls HS  h64) (fun _ wd65 ⟨h66, HS⟩ => ⟨_, h66, (GO.ix rfl rfl rfl underlying28 sz61 ((RdIn.own (j := 0) rfl) _ HS).2.2.1 c56.1 c56.2 rfl (GO.stRow (T := T_GCrossing) (j := 0) (n := t51.toNat) (o := 0) (vs := [.int .i64 t59, .int .i64 t60, .int .i64 t61, .int .i64 t62, .int .i64 t63]) (⟨t59, t60, t61, t62, t63⟩ : GCrossing) HS rfl flat_flat rfl rfl rfl rfl (htA ag61) rfl (getD_some (d := z_GCrossing) (ltN c56)) rfl rfl fun wd67 HS => GO.nil (G.len (t := 12) (m := ((([] : List GCrossing) ++ t_Crossings).set t51.toNat (⟨t59, t60, t61, t62, t63⟩ : GCrossing)).length) rfl (by simp only [List.length_set] <;> rfl) (G.seq ?_))))⟩))))))
      obtain ⟨t68, t69, h70, H⟩ := bind2_elim H
      refine G.region (GO.ldBoxA (j := 3) ([.slice A_a t_Crossings.length c_a, .int .i64 t_Circles]) HS rfl rfl rfl rfl ag30 rfl (GO.move rfl rfl rfl (GO.fn rfl func49 fok49.1 fok49.2 rfl rfl (spec_l25Place.calls HS (RdIn.drop 4 r_a) h70) (fun _ wd71 ⟨h72, HS⟩ => ⟨_, h72, (GO.ps 5 rfl (GO.nil (G.seq ?_)))⟩))))
      obtain ⟨c73, H⟩ := ite_none H
      obtain ⟨e74, h75, H⟩ := bnd_elim H
      obtain ⟨t76, t77, t78, t79, t80, h81, H⟩ := bind5_elim H
      refine G.region (GO.ps 4 rfl (GO.ix rfl rfl rfl underlying28 sz61 ((RdIn.own (j := 0) rfl) _ HS).2.2.1 c73.1 c73.2 rfl (GO.ldRdA (T := T_GCrossing) (n := t68.toNat) HS (RdIn.own (j := 0) rfl) rfl rfl (getD_eq (ltN c73) h75) ag61 rfl (GO.ps 3 rfl (GO.fn rfl func50 fok50.1 fok50.2 rfl rfl (spec_l25With.calls HS  h81) (fun _ wd82 ⟨h83, HS⟩ => ⟨_, h83, (GO.ix rfl rfl rfl underlying28 sz61 ((RdIn.own (j := 0) rfl) _ HS).2.2.1 c73.1 c73.2 rfl (GO.stRow (T := T_GCrossing) (j := 0) (n := t68.toNat) (o := 0) (vs := [.int .i64 t76, .int .i64 t77, .int .i64 t78, .int .i64 t79, .int .i64 t80]) (⟨t76, t77, t78, t79, t80⟩ : GCrossing) HS rfl flat_flat rfl rfl rfl rfl (htA ag61) rfl (getD_some (d := z_GCrossing) (ltN c73)) rfl rfl fun wd84 HS => GO.nil (G.len (t := 12) (m := (((([] : List GCrossing) ++ t_Crossings).set t51.toNat (⟨t59, t60, t61, t62, t63⟩ : GCrossing)).set t68.toNat (⟨t76, t77, t78, t79, t80⟩ : GCrossing)).length) rfl (by simp only [List.length_set] <;> rfl) (G.run 4 rfl (G.region (GO.move rfl rfl rfl (GO.rem rfl rfl rfl (by decide) rfl (GO.eql rfl rfl rfl rfl ?_))))))))⟩))))))
      refine GO.nil ?_
      refine G.nameT (fun k_j1 hk_j1 => ?_)
      have at_j1 : ∀ m_j1, m_j1 ≤ K → ∀ (x86 : Int) (w : World), spec_AddBigon.j1 K m_j1 t_Crossings t_Circles o A t51 t59 t60 t61 t62 t63 t68 t76 t77 t78 t79 t80 x86 = some (r1, r2, r3) → St w0 w (Box b1 30 [.slice A_a t_Crossings.length c_a, .int .i64 t_Circles] :: Box b3 30 [.slice none 0 0, .int .i64 0] :: Own T_GCrossing 61 A48 c49 (fun _ => ()) (((([] : List GCrossing) ++ t_Crossings).set t51.toNat (⟨t59, t60, t61, t62, t63⟩ : GCrossing)).set t68.toNat (⟨t76, t77, t78, t79, t80⟩ : GCrossing)) :: L) → G prog 33 159 [(1, .int .i64 o), (2, .int .i64 A), (3, .pointer (some ⟨b1, 0, none⟩)), (6, .pointer (some ⟨b3, 0, none⟩)), (8, .int .i64 (w64 (2 * (t_Crossings.length : Int)))), (10, .int .i64 (w64 (o.tdiv 2))), (11, .int .i64 (w64 (A.tdiv 2))), (12, .slice A48 (((([] : List GCrossing) ++ t_Crossings).set t51.toNat (⟨t59, t60, t61, t62, t63⟩ : GCrossing)).set t68.toNat (⟨t76, t77, t78, t79, t80⟩ : GCrossing)).length c49), (17, .int .i64 x86)] k_j1 w (spec_AddBigon.post w0 L r1 r2 r3) := by
       intro m_j1 hm_j1 x86 w H HS
       cases m_j1 with
       | zero => rw [spec_AddBigon.j1] at H; cases H
       | succ n_j1 =>
        rw [spec_AddBigon.j1] at H
        subst hk_j1
        refine G.seq ?_
        obtain ⟨t87, t88, t89, t90, t91, h92, H⟩ := bind5_elim H
        refine G.region (GO.ps 6 rfl (GO.fn rfl func53 fok53.1 fok53.2 rfl rfl (spec_l27Upper.calls HS  h92) (fun _ wd93 ⟨h94, HS⟩ => ⟨_, h94, (GO.alloc HS rfl zr61 rfl rfl fun b95 wd96 HS => GO.stBox (j := 0) (vs := [.int .i64 t87, .int .i64 t88, .int .i64 t89, .int .i64 t90, .int .i64 t91]) ([.int .i64 t87, .int .i64 t88, .int .i64 t89, .int .i64 t90, .int .i64 t91]) HS rfl rfl rfl rfl rfl (htA ag61) rfl rfl rfl fun wd97 HS => GO.nil (G.seq ?_))⟩)))
        obtain ⟨t98, t99, t100, t101, t102, h103, H⟩ := bind5_elim H
        refine G.region (GO.ps 8 rfl (GO.neg rfl rfl rfl (GO.fn rfl func53 fok53.1 fok53.2 rfl rfl (spec_l27Upper.calls HS  h103) (fun _ wd104 ⟨h105, HS⟩ => ⟨_, h105, (GO.alloc HS rfl zr61 rfl rfl fun b106 wd107 HS => GO.stBox (j := 0) (vs := [.int .i64 t98, .int .i64 t99, .int .i64 t100, .int .i64 t101, .int .i64 t102]) ([.int .i64 t98, .int .i64 t99, .int .i64 t100, .int .i64 t101, .int .i64 t102]) HS rfl rfl rfl rfl rfl (htA ag61) rfl rfl rfl fun wd108 HS => GO.nil (G.run 2 rfl (G.region (GO.move rfl rfl rfl (GO.rem rfl rfl rfl (by decide) rfl (GO.move rfl rfl rfl (GO.rem rfl rfl rfl (by decide) rfl (GO.eql rfl rfl rfl rfl (GO.nil ?_)))))))))⟩))))
        refine G.nameT (fun k_j2 hk_j2 => ?_)
        have at_j2 : ∀ m_j2, m_j2 ≤ n_j1 → ∀ (x128 x129 : Int) (x130 x131 : Int) (x132 x133 : Int) (x134 x135 : Int) (x136 x137 : Int) (w : World), spec_AddBigon.j2 K m_j2 t_Crossings t_Circles t51 t59 t60 t61 t62 t63 t68 t76 t77 t78 t79 t80 x128 x129 x130 x131 x132 x133 x134 x135 x136 x137 = some (r1, r2, r3) → St w0 w (Box b1 30 [.slice A_a t_Crossings.length c_a, .int .i64 t_Circles] :: Box b3 30 [.slice none 0 0, .int .i64 0] :: Own T_GCrossing 61 A48 c49 (fun _ => ()) (((([] : List GCrossing) ++ t_Crossings).set t51.toNat (⟨t59, t60, t61, t62, t63⟩ : GCrossing)).set t68.toNat (⟨t76, t77, t78, t79, t80⟩ : GCrossing)) :: Box b95 61 [.int .i64 x128, .int .i64 x129, .int .i64 x130, .int .i64 x131, .int .i64 x132] :: Box b106 61 [.int .i64 x133, .int .i64 x134, .int .i64 x135, .int .i64 x136, .int .i64 x137] :: L) → G prog 33 159 [(3, .pointer (some ⟨b1, 0, none⟩)), (6, .pointer (some ⟨b3, 0, none⟩)), (12, .slice A48 (((([] : List GCrossing) ++ t_Crossings).set t51.toNat (⟨t59, t60, t61, t62, t63⟩ : GCrossing)).set t68.toNat (⟨t76, t77, t78, t79, t80⟩ : GCrossing)).length c49), (18, .pointer (some ⟨b95, 0, none⟩)), (19, .pointer (some ⟨b106, 0, none⟩))] k_j2 w (spec_AddBigon.post w0 L r1 r2 r3) := by
         intro m_j2 hm_j2 x128 x129 x130 x131 x132 x133 x134 x135 x136 x137 w H HS
         cases m_j2 with
         | zero => rw [spec_AddBigon.j2] at H; cases H
         | succ n_j2 =>
          rw [spec_AddBigon.j2] at H
          subst hk_j2
          refine G.seq ?_
          obtain ⟨c143, H⟩ := ite_none H
          refine G.lexS mixed (fun w => St w0 w (Box b1 30 [.slice A_a t_Crossings.length c_a, .int .i64 t_Circles] :: Box b95 61 [.int .i64 x128, .int .i64 x129, .int .i64 x130, .int .i64 x131, .int .i64 x132] :: Box b106 61 [.int .i64 x133, .int .i64 x134, .int .i64 x135, .int .i64 x136, .int .i64 x137] :: L)) [1, 2, 6] [0, 5, 1, 2, 6, 3, 4, 7, 8, 9] 10 (by kernel_rfl) (by kernel_rfl) (HS.drew.pk 5 [0, 3, 4] rfl) ?_
          replace HS := HS.drew
          refine GX.ps 1 rfl (GX.l0 rfl rfl (fun _ _ g => GO.fld (⟨b1, 1, none⟩) rfl rfl fl30_1 rfl rfl g) rfl (GX.ls rfl rfl rfl (HS.pk 5 [0, 3, 4] rfl) (fun _ HS _ g => GO.ldBoxA (j := 1) ([.int .i64 x128, .int .i64 x129, .int .i64 x130, .int .i64 x131, .int .i64 x132]) HS rfl rfl rfl rfl ag61 rfl g) rfl (GX.ls rfl rfl rfl (HS.pk 5 [0, 3, 4] rfl) (fun _ HS _ g => GO.ldBoxA (j := 2) ([.int .i64 x133, .int .i64 x134, .int .i64 x135, .int .i64 x136, .int .i64 x137]) HS rfl rfl rfl rfl ag61 rfl g) rfl (GX.ls rfl rfl rfl (HS.pk 5 [0, 3, 4] rfl) (fun _ HS _ g => GO.ldBox (j := 0) HS rfl rfl rfl rfl na2 rfl g) rfl (GX.l2 rfl (GO.buildS (el := 61) ([.int .i64 x128, .int .i64 x129, .int .i64 x130, .int .i64 x131, .int .i64 x132, .int .i64 x133, .int .i64 x134, .int .i64 x135, .int .i64 x136, .int .i64 x137]) HS rfl rfl (fun _ => by kernel_rfl) rfl fun b138 wd139 HS => GX.fin (HS.pk 6 [1, 4, 5] rfl) (GX.l2 rfl ?_)))))))
          replace HS := HS.boxRow (T := T_GCrossing) (j := 0) rfl flat_flat (fun _ => ()) ([(⟨x128, x129, x130, x131, x132⟩ : GCrossing), (⟨x133, x134, x135, x136, x137⟩ : GCrossing)] : List GCrossing) rfl (bndL rfl)
          refine GO.lenC (t := 154) (m := ([(⟨x128, x129, x130, x131, x132⟩ : GCrossing), (⟨x133, x134, x135, x136, x137⟩ : GCrossing)] : List GCrossing).length) (c' := ([(⟨x128, x129, x130, x131, x132⟩ : GCrossing), (⟨x133, x134, x135, x136, x137⟩ : GCrossing)] : List GCrossing).length) rfl rfl rfl (GO.appS (T := T_GCrossing) (j := 3) HS rfl (RdIn.own (j := 0) rfl) flat_flat rfl rfl rfl underlying28 inf61 rfl rfl rfl c143 rfl (fun _ => rfl) fun A141 c142 wd140 HS => GX.fin (HS.pk 6 [1, 4, 5] rfl) (GX.l0 rfl rfl (fun _ _ g => GO.buildV (.agg [.slice A141 ((((([] : List GCrossing) ++ t_Crossings).set t51.toNat (⟨t59, t60, t61, t62, t63⟩ : GCrossing)).set t68.toNat (⟨t76, t77, t78, t79, t80⟩ : GCrossing)) ++ ([(⟨x128, x129, x130, x131, x132⟩ : GCrossing), (⟨x133, x134, x135, x136, x137⟩ : GCrossing)] : List GCrossing)).length c142, .int .i64 t_Circles].toArray) rfl rfl (fun _ => by kernel_rfl) rfl g) rfl (GX.l2 rfl (GO.stBox (j := 2) (vs := [.slice A141 ((((([] : List GCrossing) ++ t_Crossings).set t51.toNat (⟨t59, t60, t61, t62, t63⟩ : GCrossing)).set t68.toNat (⟨t76, t77, t78, t79, t80⟩ : GCrossing)) ++ ([(⟨x128, x129, x130, x131, x132⟩ : GCrossing), (⟨x133, x134, x135, x136, x137⟩ : GCrossing)] : List GCrossing)).length c142, .int .i64 t_Circles]) ([.slice A141 ((((([] : List GCrossing) ++ t_Crossings).set t51.toNat (⟨t59, t60, t61, t62, t63⟩ : GCrossing)).set t68.toNat (⟨t76, t77, t78, t79, t80⟩ : GCrossing)) ++ ([(⟨x128, x129, x130, x131, x132⟩ : GCrossing), (⟨x133, x134, x135, x136, x137⟩ : GCrossing)] : List GCrossing)).length c142, .int .i64 t_Circles]) HS rfl rfl rfl rfl rfl (htA ag30) rfl rfl rfl fun wd144 HS => GX.fin (HS.pk 6 [1, 4, 5] rfl) (GX.ps 1 rfl (GX.nil ?_))))))
          obtain ⟨rfl, rfl, rfl⟩ := some3 H
          exact G.ret2 _ _ func33 rfl (Res1.boxA (j := 2) (vs := [.slice A141 ((((([] : List GCrossing) ++ t_Crossings).set t51.toNat (⟨t59, t60, t61, t62, t63⟩ : GCrossing)).set t68.toNat (⟨t76, t77, t78, t79, t80⟩ : GCrossing)) ++ ([(⟨x128, x129, x130, x131, x132⟩ : GCrossing), (⟨x133, x134, x135, x136, x137⟩ : GCrossing)] : List GCrossing)).length c142, .int .i64 t_Circles]) HS rfl rfl rfl ag30) rfl ⟨_, _, rfl, (HS.pk 6 [3] rfl)⟩
        rcases ite_elim H with ⟨c145, H⟩ | ⟨c145, H⟩
        ·
         refine G.yesB rfl (decide_eq_true c145) (G.seq ?_)
         obtain ⟨t146, t147, t148, t149, t150, h151, H⟩ := bind5_elim H
         refine G.region (GO.ps 7 rfl (GO.fn rfl func53 fok53.1 fok53.2 rfl rfl (spec_l27Upper.calls HS  h151) (fun _ wd152 ⟨h153, HS⟩ => ⟨_, h153, (GO.stBox (j := 1) (vs := [.int .i64 t146, .int .i64 t147, .int .i64 t148, .int .i64 t149, .int .i64 t150]) ([.int .i64 t146, .int .i64 t147, .int .i64 t148, .int .i64 t149, .int .i64 t150]) HS rfl rfl rfl rfl rfl (htA ag61) rfl rfl rfl fun wd154 HS => GO.nil ?_)⟩)))
         obtain ⟨t155, t156, t157, t158, t159, h160, H⟩ := bind5_elim H
         refine G.region (GO.ps 7 rfl (GO.neg rfl rfl rfl (GO.fn rfl func53 fok53.1 fok53.2 rfl rfl (spec_l27Upper.calls HS  h160) (fun _ wd161 ⟨h162, HS⟩ => ⟨_, h162, (GO.stBox (j := 0) (vs := [.int .i64 t155, .int .i64 t156, .int .i64 t157, .int .i64 t158, .int .i64 t159]) ([.int .i64 t155, .int .i64 t156, .int .i64 t157, .int .i64 t158, .int .i64 t159]) HS rfl rfl rfl rfl rfl (htA ag61) rfl rfl rfl fun wd163 HS => GO.nil (G.weak ?_ (at_j2 n_j1 (Nat.le_refl _) _ _ _ _ _ _ _ _ _ _ _ H (HS.pk 5 [2, 3, 4, 1, 0] rfl))))⟩))))
         exact ⟨rfl, rfl, rfl, rfl, rfl, trivial⟩
        refine G.noB rfl (decide_eq_false c145) (G.skip (G.weak ?_ (at_j2 n_j1 (Nat.le_refl _) _ _ _ _ _ _ _ _ _ _ _ H (HS.pk 5 [2, 3, 4, 1, 0] rfl))))
        exact ⟨rfl, rfl, rfl, rfl, rfl, trivial⟩
      rcases ite_elim H with ⟨c164, H⟩ | ⟨c164, H⟩
      ·
       refine G.yesB rfl (decide_eq_true c164) (G.run 1 rfl (G.weak ?_ (at_j1 K (Nat.le_refl _) _ _ H (HS.pk 4 [3, 2, 0] rfl))))
       exact ⟨rfl, rfl, rfl, rfl, rfl, rfl, rfl, rfl, rfl, trivial⟩
      refine G.noB rfl (decide_eq_false c164) (G.skip (G.weak ?_ (at_j1 K (Nat.le_refl _) _ _ H (HS.pk 4 [3, 2, 0] rfl))))
      exact ⟨rfl, rfl, rfl, rfl, rfl, rfl, rfl, rfl, rfl, trivial⟩
     refine G.yesB rfl (congrArg Bool.not (decide_eq_false c42)) (G.seq (G.region (GO.buildV (.agg [.slice none 0 0, .int .i64 0].toArray) rfl rfl (fun _ => by kernel_rfl) rfl (GO.stBox (j := 1) (vs := [.slice none 0 0, .int .i64 0]) ([.slice none 0 0, .int .i64 0]) HS rfl rfl rfl rfl rfl (htA ag30) rfl rfl rfl fun wd165 HS => GO.assign rfl rfl rfl (GO.nil ?_)))))
     replace HS := HS.nilRow T_GCrossing 61 (fun _ => ())
     obtain ⟨rfl, rfl, rfl⟩ := some3 H
     exact G.ret2 _ _ func33 rfl (Res1.boxA (j := 2) (vs := [.slice none 0 0, .int .i64 0]) HS rfl rfl rfl ag30) rfl ⟨_, _, rfl, (HS.pk 4 [0] rfl)⟩
    refine G.yesB rfl (congrArg Bool.not (bnot_of c28)) (G.seq (G.region (GO.buildV (.agg [.slice none 0 0, .int .i64 0].toArray) rfl rfl (fun _ => by kernel_rfl) rfl (GO.stBox (j := 0) (vs := [.slice none 0 0, .int .i64 0]) ([.slice none 0 0, .int .i64 0]) HS rfl rfl rfl rfl rfl (htA ag30) rfl rfl rfl fun wd166 HS => GO.assign rfl rfl rfl (GO.nil ?_)))))
    replace HS := HS.nilRow T_GCrossing 61 (fun _ => ())
    obtain ⟨rfl, rfl, rfl⟩ := some3 H
    exact G.ret2 _ _ func33 rfl (Res1.boxA (j := 1) (vs := [.slice none 0 0, .int .i64 0]) HS rfl rfl rfl ag30) rfl ⟨_, _, rfl, (HS.pk 3 [0] rfl)⟩
   refine G.region (GO.ps 4 rfl (GO.fn rfl func27 fok27.1 fok27.2 rfl rfl (spec_l01In.calls HS  h20) (fun _ wd21 ⟨h22, HS⟩ => ⟨_, h22, (GO.ps 2 rfl (GO.known (t := 34) rfl (congrArg Bool.not (bnot_of c23)) (GO.off rfl rfl rfl rfl rfl rfl (GO.off rfl rfl rfl rfl rfl rfl (GO.off rfl rfl rfl rfl rfl rfl (GO.off rfl rfl rfl rfl rfl rfl (GO.off rfl rfl rfl rfl rfl rfl (GO.off rfl rfl rfl rfl rfl rfl (GO.pickT rfl rfl rfl rfl rfl (GO.nil (G.run 2 rfl (G.region ?_))))))))))))⟩)))
   refine GO.buildV (.agg [.slice none 0 0, .int .i64 0].toArray) rfl rfl (fun _ => by kernel_rfl) rfl (GO.stBox (j := 0) (vs := [.slice none 0 0, .int .i64 0]) ([.slice none 0 0, .int .i64 0]) HS rfl rfl rfl rfl rfl (htA ag30) rfl rfl rfl fun wd167 HS => GO.assign rfl rfl rfl (GO.nil ?_))
   replace HS := HS.nilRow T_GCrossing 61 (fun _ => ())
   obtain ⟨rfl, rfl, rfl⟩ := some3 H
   exact G.ret2 _ _ func33 rfl (Res1.boxA (j := 1) (vs := [.slice none 0 0, .int .i64 0]) HS rfl rfl rfl ag30) rfl ⟨_, _, rfl, (HS.pk 3 [0] rfl)⟩
  refine G.yesB rfl (congrArg Bool.not (bnot_of c9)) (G.seq (G.region (GO.buildV (.agg [.slice none 0 0, .int .i64 0].toArray) rfl rfl (fun _ => by kernel_rfl) rfl (GO.stBox (j := 0) (vs := [.slice none 0 0, .int .i64 0]) ([.slice none 0 0, .int .i64 0]) HS rfl rfl rfl rfl rfl (htA ag30) rfl rfl rfl fun wd168 HS => GO.assign rfl rfl rfl (GO.nil ?_)))))
  replace HS := HS.nilRow T_GCrossing 61 (fun _ => ())
  obtain ⟨rfl, rfl, rfl⟩ := some3 H
  exact G.ret2 _ _ func33 rfl (Res1.boxA (j := 1) (vs := [.slice none 0 0, .int .i64 0]) HS rfl rfl rfl ag30) rfl ⟨_, _, rfl, (HS.pk 3 [0] rfl)⟩
theorem spec_l27Level.calls {w0 w : World} {L : List HObj} {p r1 : Int} (HS : St w0 w (L)) (H : spec_l27Level.f p = some r1) :
    Calls prog 114 #[.int .i64 p] w (spec_l27Level.post w0 L r1) := by
  unfold spec_l27Level.f at H
  refine Calls.of_G func114 rfl rfl rfl ?_
  refine G.run 3 rfl (G.region (GO.move rfl rfl rfl (GO.rem rfl rfl rfl (by decide) rfl (GO.assign rfl rfl rfl (GO.nil ?_)))))
  obtain rfl := Option.some.inj H
  exact G.ret1 _ func114 rfl rfl ⟨rfl, HS⟩
theorem spec_l27Edges.calls {w0 w : World} {L : List HObj} {K : Nat} {region : List Int} {A_a : Option Addr} {c_a : Nat} {r1 : List (List Int)} (HS : St w0 w (L)) (r_a : RdIn w0 L (TInt .i64) A_a c_a (fun _ => ()) region) (H : spec_l27Edges.f K region = some r1) :
    Calls prog 86 #[.slice A_a region.length c_a] w (spec_l27Edges.post w0 L r1) := by
  unfold spec_l27Edges.f at H
  refine Calls.of_G func86 rfl rfl rfl ?_
  refine G.run 3 rfl (G.region (GO.buildS (el := 74) ([]) HS rfl rfl (fun _ => by kernel_rfl) rfl fun b1 wd2 HS => ?_))
  replace HS := HS.boxNil (T := (Ty.slice 2 (TInt .i64))) (j := 0) rfl (fun _ => ⟨none, 0, (fun _ => ())⟩)
  refine GO.lenC (t := 6) (m := ([] : List (List Int)).length) (c' := 0) rfl rfl rfl (GO.assign rfl rfl rfl (GO.nil (G.run 5 rfl ?_)))
  refine G.name (fun k_l1 hk_l1 => ?_)
  have at_l1 : ∀ m_l1, m_l1 ≤ K → ∀ (A24 : Option Addr) (c25 : Nat) (out_26 : List (List Int)) (y27 : Nat → (Ty.slice 2 (TInt .i64)).Lay) (i_28 : Int) (w : World), spec_l27Edges.l1 K m_l1 region out_26 i_28 = some r1 → St w0 w (Own (Ty.slice 2 (TInt .i64)) 74 A24 c25 y27 out_26 :: L) → G prog 86 37 [(0, .slice A_a region.length c_a), (3, .slice A24 out_26.length c25), (4, .int .i64 i_28)] k_l1 w (spec_l27Edges.post w0 L r1) := by
   intro m_l1
   induction m_l1 using Nat.strongRecOn with
   | _ m_l1 ih_l1 =>
    intro hm_l1 A24 c25 out_26 y27 i_28 w H HS
    cases m_l1 with
    | zero => rw [spec_l27Edges.l1] at H; cases H
    | succ n_l1 =>
     rw [spec_l27Edges.l1] at H
     subst hk_l1
     refine G.run 2 rfl (G.region (GO.ps 2 rfl (GO.lenS rfl rfl underlying74 rfl (GO.lss rfl rfl rfl rfl (GO.nil ?_)))))
     rcases ite_elim H with ⟨c50, H⟩ | ⟨c50, H⟩
     ·
      refine G.yesB rfl (decide_eq_true c50) (G.run 4 rfl ?_)
      obtain ⟨c51, H⟩ := ite_some H
      obtain ⟨c52, H⟩ := ite_none H
      refine G.region (GO.ps 4 rfl (GO.lenS rfl rfl underlying74 rfl (GO.rem rfl rfl rfl c51 rfl (GO.ix rfl rfl rfl underlying74 sz2 ((RdIn.drop 1 r_a) _ HS).2.2.1 c52.1 c52.2 rfl (GO.ldRd (T := (TInt .i64)) (n := ((w64 (i_28 + 1)).tmod (region.length : Int)).toNat) (o := 0) HS (RdIn.drop 1 r_a) rfl rfl (getD_some (d := 0) (ltN c52)) rfl rfl na2 rfl (GO.assign rfl rfl rfl (GO.nil ?_)))))))
      obtain ⟨c53, H⟩ := ite_none H
      obtain ⟨t54, h55, H⟩ := Option.bind_eq_some_iff.1 H
      obtain ⟨t58, h59, H⟩ := Option.bind_eq_some_iff.1 H
      obtain ⟨c69, H⟩ := ite_none H
      refine G.region (GO.ps 3 rfl (GO.ix rfl rfl rfl underlying74 sz2 ((RdIn.drop 1 r_a) _ HS).2.2.1 c53.1 c53.2 rfl (GO.ldRd (T := (TInt .i64)) (n := i_28.toNat) (o := 0) HS (RdIn.drop 1 r_a) rfl rfl (getD_some (d := 0) (ltN c53)) rfl rfl na2 rfl (GO.rem rfl rfl rfl (by decide) rfl (GO.add rfl rfl rfl rfl (GO.rem rfl rfl rfl (by decide) rfl (GO.fn rfl func114 fok114.1 fok114.2 rfl rfl (spec_l27Level.calls HS  h55) (fun _ wd56 ⟨h57, HS⟩ => ⟨_, h57, (GO.move rfl rfl rfl (GO.rem rfl rfl rfl (by decide) rfl (GO.fn rfl func114 fok114.1 fok114.2 rfl rfl (spec_l27Level.calls HS  h59) (fun _ wd60 ⟨h61, HS⟩ => ⟨_, h61, (GO.buildS (el := 2) ([.int .i64 t54, .int .i64 t58]) HS rfl rfl (fun _ => by kernel_rfl) rfl fun b62 wd63 HS => ?_)⟩))))⟩))))))))
      replace HS := HS.boxRow (T := (TInt .i64)) (j := 0) rfl flat_flat (fun _ => ()) ([t54, t58] : List Int) rfl (bndL rfl)
      refine GO.lenC (t := 33) (m := ([t54, t58] : List Int).length) (c' := ([t54, t58] : List Int).length) rfl rfl rfl (GO.buildS (el := 74) ([.slice (some ⟨b62, 0, none⟩) ([t54, t58] : List Int).length (([t54, t58] : List Int).length)]) HS rfl rfl (fun _ => by kernel_rfl) rfl fun b64 wd65 HS => ?_)
      replace HS := HS.pk 3 [2, 0, 1] rfl
      refine GO.appR (S := (TInt .i64)) (u := 2) HS rfl rfl rfl underlying55 inf74 rfl rfl c69 rfl fun A67 c68 y70 wd66 HS => GO.assign rfl rfl rfl (GO.nil (G.run 3 rfl (G.weak ?_ (ih_l1 n_l1 (Nat.lt_succ_of_le (Nat.le_refl _)) (Nat.le_of_succ_le hm_l1) _ _ _ _ _ _ H (HS.pk 2 [0] rfl)))))
      exact ⟨rfl, rfl, rfl, trivial⟩
     refine G.noB rfl (decide_eq_false c50) (G.run 3 rfl ?_)
     obtain rfl := Option.some.inj H
     exact G.ret1 _ func86 rfl rfl ⟨_, _, _, rfl, HS⟩
  refine G.weak ?_ (at_l1 K (Nat.le_refl _) _ _ _ _ _ _ H HS)
  exact ⟨rfl, rfl, rfl, trivial⟩
end Go.Proofs.YtdfiglhdjlmakaaGreat
